/- A symbolic executor for function bodies of the model, and that it is right: whatever it computes of a body is so of every call: part 1 of 3. No condition. -/
import Derived.Calls
import Derived.Laws.Cells
import Derived.Laws.World
import Derived.Laws.Slices
import Derived.Laws.Small
import Derived.Laws.StructEq
import Derived.ChangeKeysEq
import Derived.Laws.Append
import Derived.Laws.AppendOwn
import Derived.Laws.Cover3
import Derived.Lib.AppendZeros
import Derived.Lib.AppendZerosOnto
set_option linter.all false
set_option maxHeartbeats 8000000
set_option maxRecDepth 100000
theorem j3{p:Prop}(h:p:=by omega):p:=h
theorem j4{p:Prop}(h:p:=by kernel_rfl):p:=h
theorem j5{p:Prop}(h:p:=by decide):p:=h
theorem j8{p:Prop}(h:p:=by simp):p:=h
theorem j9{p:Prop}(h:p:=by assumption):p:=h
theorem w4{p:Prop}(h:p:=by simp [Op.operands]):p:=h
theorem w5{p:Prop}(h:p:=by rw [h];decide):p:=h
theorem w7{p:Prop}(h:p:=by simpa using h):p:=h
theorem w8{p:Prop}(h:p:=by simp only [aw];trivial):p:=h
theorem w9{p:Prop}(h:p:=by unfold rI;decide):p:=h
theorem z7{p:Prop}(h:p:=by unfold uP;rw [em];simp only [l0,reduceIte,Bool.not_true,Bool.not_false,Bool.true_and,Bool.false_and,Bool.and_true,Bool.and_false,Bool.true_or,Bool.false_or,Bool.or_true,Bool.or_false,Bool.false_eq_true,Bool.true_eq_false]):p:=h
theorem z8{p:Prop}(h:p:=by unfold lF;simp only [mu,on,me,reduceIte,Bool.not_true,Bool.not_false,Bool.true_and,Bool.false_and,Bool.and_true,Bool.and_false,Bool.true_or,Bool.false_or,Bool.or_true,Bool.or_false,Bool.false_eq_true,Bool.true_eq_false]):p:=h
theorem x2{p:Prop}(h:p:=by rw [Nat.mul_comm,Nat.mul_add_mod,Nat.mod_eq_of_lt hj]):p:=h
theorem x3{p:Prop}(h:p:=by rintro arr rfl;simp [Cell.okWide,Cell.ok,hu] at hv):p:=h
theorem x4{p:Prop}(h:p:=by unfold jP;exact congrArg (fun s=>cQ s (⟨b1,m1,r1⟩:Cg)) eb):p:=h
theorem x5{p:Prop}(h:p:=by unfold jO;exact congrArg (fun s=>cQ s (⟨b0,m0,r0⟩:Cg)) ea):p:=h
theorem x6{p:Prop}(h:p:=by rw [dD];omega):p:=h
theorem x7{p:Prop}(h:p:=by show (⟨Ig.clean _,⟨false,aP []⟩⟩:Vl)=_;rw [qZ];rfl):p:=h
theorem x8{p:Prop}(h:p:=by rw [List.getElem?_eq_getElem hj,e]):p:=h
theorem x9{p:Prop}(h:p:=by rw [h2];decide):p:=h
theorem y5{p:Prop}(h:p:=by rw [bU];exact a8.1.1):p:=h
theorem y6{p:Prop}(h:p:=by simp [List.getD,List.getElem?_eq_getElem (show j<ds.length by omega)]):p:=h
theorem y7{p:Prop}(h:p:=by simp;omega):p:=h
theorem y8{p:Prop}(h:p:=by show (gN (bQ (bN R.G.length (dC R.G)) R.G.length).length fun i=> [st (aN (bQ (bN R.G.length (dC R.G)) R.G.length) i)])=_;rw [gS,bI]):p:=h
theorem y9{p:Prop}(h:p:=by apply Array.ext';simpa using hts):p:=h
theorem v6{p:Prop}(h:p:=by intro e;cases e):p:=h
theorem v7{p:Prop}(h:p:=by apply Array.ext';simpa using h1):p:=h
theorem v8{p:Prop}(h:p:=by rw [hk];rfl):p:=h
theorem u4{p:Prop}(h:p:=by rw [List.length_take];omega):p:=h
theorem u5{p:Prop}(h:p:=by rw [bU];exact a7.1.1):p:=h
theorem u6{p:Prop}(h:p:=by simpa using hj):p:=h
theorem u7{p:Prop}(h:p:=by unfold cU;dsimp only;rw [nA];rfl):p:=h
theorem u9{p:Prop}(h:p:=by simp only [Region.wanted,hg,hy];simpa using he):p:=h
theorem j0a{p:Prop}(h:p:=by have:=dF (gN n1 f1);rw [bU] at this;exact this):p:=h
theorem j0b{p:Prop}(h:p:=by have:=dF (gN n0 f0);rw [bU] at this;exact this):p:=h
theorem j0c{p:Prop}(h:p:=by simpa using zx):p:=h
theorem j0d{p:Prop}(h:p:=by first|(rw [aR _ j3 j3];omega)):p:=h
theorem j0e{p:Prop}(h:p:=by rw [aR _ j3 j3];omega):p:=h
theorem j0f{p:Prop}(h:p:=by first|(rw [aR _ j3 j3];omega)|omega):p:=h
theorem j0g{p:Prop}(h:p:=by rw [dH (v:=n) j3 j3,dH (v:=k) j3 j3];omega):p:=h
theorem j0h{p:Prop}(h:p:=by simpa using hx):p:=h
theorem j0i{p:Prop}(h:p:=by simpa using h1):p:=h
theorem j0j{p:Prop}(h:p:=by simpa [Nat.blt_eq] using hpos):p:=h
theorem j0k{p:Prop}(h:p:=by obtain rfl:=eq_of_beq h;exact ⟨rfl,rfl⟩):p:=h
theorem j0l{p:Prop}(h:p:=by simp only [Region.wanted,hg,hy];exact he):p:=h
theorem j0m{p:Prop}(h:p:=by generalize a.eval x=q at hx;cases hx;rfl):p:=h
theorem j0n{p:Prop}(h:p:=by simp [hx]):p:=h
theorem j0o{p:Prop}(h:p:=by simp [List.getD,hu]):p:=h
theorem j0p{p:Prop}(h:p:=by rw [aCi h h2 z];rfl):p:=h
theorem j0q{p:Prop}(h:p:=by exact rfl):p:=h
theorem j0r{p:Prop}(h:p:=by with_reducible assumption):p:=h
theorem j0s{p:Prop}(h:p:=by simpa using hm):p:=h
theorem j0t{p:Prop}(h:p:=by rw [hw];decide):p:=h
theorem j0u{p:Prop}(h:p:=by unfold aN;rw [List.getD_eq_getElem?_getD,List.getElem?_eq_getElem h];rfl):p:=h
theorem j0v{p:Prop}(h:p:=by unfold dW;split<;>omega):p:=h
theorem j0w{p:Prop}(h:p:=by unfold aX;split<;>omega):p:=h
theorem j0x{p:Prop}(h:p:=by simp [Region.wanted,hg]):p:=h
theorem j0y{p:Prop}(h:p:=by have:=qg.length;simp at this;omega):p:=h
theorem j0z{p:Prop}(h:p:=by simp [hy]):p:=h
theorem j1a{p:Prop}(h:p:=by rw [wU];omega):p:=h
theorem j1b{p:Prop}(h:p:=by rw [Nat.mul_comm,Nat.mul_add_div hz,Nat.div_eq_of_lt hj,Nat.add_zero]):p:=h
theorem j1c{p:Prop}(h:p:=by have:=h3.length;simp at this;omega):p:=h
theorem j1d{p:Prop}(h:p:=by rw [Int.neg_mul];omega):p:=h
theorem j1e{p:Prop}(h:p:=by dsimp only at hd;omega):p:=h
theorem j1f{p:Prop}(h:p:=by simp only [List.length_nil];omega):p:=h
theorem j1g{p:Prop}(h:p:=by rw [Int.toNat_natCast];exact Nat.min_eq_left (by show k<=64;omega)):p:=h
theorem j1h{p:Prop}(h:p:=by simp [undef]):p:=h
theorem j1i{p:Prop}(h:p:=by unfold rI;omega):p:=h
theorem j1j{p:Prop}(h:p:=by simp only [IntKind.wrap,IntKind.signed,IntKind.bits];simp;omega):p:=h
theorem j1l{p:Prop}(h:p:=by rw [aER (hz _ _ bw)];exact gu):p:=h
theorem j1m{p:Prop}(h:p:=by unfold Sp.inR;decide):p:=h
theorem j1n{p:Prop}(h:p:=by rw [aC4,dD,dD];omega):p:=h
theorem j1o{p:Prop}(h:p:=by simpa using zy):p:=h
theorem j1p{p:Prop}(h:p:=by simpa using hp):p:=h
theorem j1q{p:Prop}(h:p:=by simpa using h2):p:=h
theorem j1r{p:Prop}(h:p:=by simp only [execOp,ae,h2];rfl):p:=h
theorem j1s{p:Prop}(h:p:=by simpa [Nat.blt_eq] using hsz):p:=h
theorem j1t{p:Prop}(h:p:=by simpa [Nat.blt_eq] using hby):p:=h
theorem j1u{p:Prop}(h:p:=by simp only [Bool.or_eq_true,decide_eq_true_eq,ne_eq];omega):p:=h
theorem j1v{p:Prop}(h:p:=by rintro ⟨m,hm⟩;simp at hm):p:=h
theorem j1w{p:Prop}(h:p:=by rw [lX];exact dF _):p:=h
theorem j1x{p:Prop}(h:p:=by have:=aGy (bO aQ L);rw [wE] at this;rw [xf];exact this):p:=h
theorem j1y{p:Prop}(h:p:=by simp only [Rows.uptoBulk,Rows.uptoBulkAll] at hN;omega):p:=h
theorem j1z{p:Prop}(h:p:=by rw [h];rfl):p:=h
theorem j2a{p:Prop}(h:p:=by rw [hc];exact ⟨Nat.zero_le _,fun _ h=>by cases h⟩):p:=h
theorem j2b{p:Prop}(h:p:=by unfold Wd.ok at k;unfold Wd.val;dsimp only at*;omega):p:=h
theorem j2c{p:Prop}(h:p:=by simp [Op.operands];exact ⟨p.1,by simpa using hp⟩):p:=h
theorem j2d{p:Prop}(h:p:=by simp<;>omega):p:=h
theorem j2e{p:Prop}(h:p:=by rw [fw];trivial):p:=h
theorem j2f{p:Prop}(h:p:=by rw [aw];trivial):p:=h
theorem j2g{p:Prop}(h:p:=by rw [h,h2];decide):p:=h
theorem j2h{p:Prop}(h:p:=by with_reducible exact CM):p:=h
theorem j2i{p:Prop}(h:p:=by simp [gN]):p:=h
theorem j2j{p:Prop}(h:p:=by rw [List.length_erase_of_mem (hL i h1 h2)];omega):p:=h
theorem j2k{p:Prop}(h:p:=by simp [Op.operands,Call.operands];exact .inr j0h):p:=h
theorem j2l{p:Prop}(h:p:=by rw [Nat.pow_succ];omega):p:=h
theorem j2m{p:Prop}(h:p:=by simpa using ho):p:=h
theorem j2n{p:Prop}(h:p:=by simpa using he):p:=h
theorem j2o{p:Prop}(h:p:=by simpa using h3):p:=h
theorem j2p{p:Prop}(h:p:=by unfold wd Wd.val;dsimp only;congr 1<;>omega):p:=h
theorem j2q{p:Prop}(h:p:=by first|((with_reducible show Value.bool false=_);exact congrArg (fun i:Sp=>Value.bool i.some) ((kC ‹_›).symm))|((with_reducible show Value.int _ 0=_);first|exact congrArg (fun i:Sp=>Value.int .i64 i.lo) ((kC ‹_›).symm)|exact congrArg (fun i:Sp=>Value.int .i64 i.hi) ((kC ‹_›).symm))|((with_reducible show Value.bool false=_);exact congrArg (fun i:Sp=>Value.bool i.some) ((kD ‹_›).symm))|((with_reducible show Value.int _ 0=_);first|exact congrArg (fun i:Sp=>Value.int .i64 i.lo) ((kD ‹_›).symm)|exact congrArg (fun i:Sp=>Value.int .i64 i.hi) ((kD ‹_›).symm))):p:=h
theorem j2r{p:Prop}(h:p:=by first|((with_reducible show Value.bool _=_);refine congrArg (fun i:Sp=>Value.bool i.some) (pH ?_ ?_)<;>first|(simp only [*,Bool.true_and,Bool.and_true,Bool.false_and,Bool.and_false,Bool.true_or,Bool.or_true,Bool.false_or,Bool.or_false,Bool.not_true,Bool.not_false];done))|((with_reducible show Value.int _ _=_);refine congrArg (fun i:Sp=>Value.int .i64 i.lo) (pH ?_ ?_)<;>first|(simp only [*,Bool.true_and,Bool.and_true,Bool.false_and,Bool.and_false,Bool.true_or,Bool.or_true,Bool.false_or,Bool.or_false,Bool.not_true,Bool.not_false];done))|((with_reducible show Value.int _ _=_);refine congrArg (fun i:Sp=>Value.int .i64 i.hi) (pH ?_ ?_)<;>first|(simp only [*,Bool.true_and,Bool.and_true,Bool.false_and,Bool.and_false,Bool.true_or,Bool.or_true,Bool.false_or,Bool.or_false,Bool.not_true,Bool.not_false];done))):p:=h
theorem j2s{p:Prop}(h:p:=by first|exact congrArg (fun i:Cg=>Value.bool i.some) e.symm|exact congrArg (fun i:Cg=>Value.int .i64 i.m) e.symm|exact congrArg (fun i:Cg=>Value.int .i64 i.r) e.symm):p:=h
theorem j2t{p:Prop}(h:p:=by first|exact trivial|exact rfl):p:=h
theorem j2u{p:Prop}(h:p:=by first|decide|exact j2q|((with_reducible show Value.bool (Sp.some _)=_);exact congrArg (fun i:Sp=>Value.bool i.some) ((congrArg jH hk.1).trans (vK ‹_› ‹_› rfl).symm))|((with_reducible show Value.int _ (Sp.lo _)=_);exact congrArg (fun i:Sp=>Value.int .i64 i.lo) ((congrArg jH hk.1).trans (vK ‹_› ‹_› rfl).symm))|((with_reducible show Value.int _ (Sp.hi _)=_);exact congrArg (fun i:Sp=>Value.int .i64 i.hi) ((congrArg jH hk.1).trans (vK ‹_› ‹_› rfl).symm))|exact (hk.2 _ ‹_›).1|exact (hk.2 _ ‹_›).2|exact (eL 4 _ _ ‹_›).2.1.1|exact (eL 4 _ _ ‹_›).2.1.2|exact (eL 4 _ _ ‹_›).2.2.1|exact (eL 4 _ _ ‹_›).2.2.2|rfl):p:=h
theorem j2v{p:Prop}(h:p:=by (exact absurd (ag.symm.trans ‹_=false›) j5)):p:=h
theorem j2w{p:Prop}(h:p:=by first|exact j2t|(intro _ _;exact rfl)):p:=h
theorem j2x{p:Prop}(h:p:=by first|((with_reducible show Value.bool (Cg.some _)=_);exact congrArg (fun i:Cg=>Value.bool i.some) ((vP (a:=(Cg.clean (⟨b1,m1,r1⟩:Cg))) (w:=b2) sA).symm))|((with_reducible show Value.int _ (Cg.m _)=_);exact congrArg (fun i:Cg=>Value.int .i64 i.m) ((vP (a:=(Cg.clean (⟨b1,m1,r1⟩:Cg))) (w:=b2) sA).symm))|((with_reducible show Value.int _ (Cg.r _)=_);exact congrArg (fun i:Cg=>Value.int .i64 i.r) ((vP (a:=(Cg.clean (⟨b1,m1,r1⟩:Cg))) (w:=b2) sA).symm))):p:=h
theorem j2y{p:Prop}(h:p:=by first|((with_reducible show mN _ _=true);rfl)|((with_reducible show iR _ _ _ _ _ _=true);rfl)):p:=h
theorem j2z{p:Prop}(h:p:=by first|exact Nat.le_refl _|omega|(simp only [List.length_append,List.length_cons,List.length_nil];omega)|rfl|(simp;done)|(rw [show (Int.toNat 1:Nat)=1 from rfl];congr 1;omega)|(exact aC9 rfl ‹_›)):p:=h
theorem j3a{p:Prop}(h:p:=by (exact congrArg (Value.int .i64) j0d)):p:=h
theorem j3b{p:Prop}(h:p:=by first|exact trivial|(with_reducible first|exact ka|exact nx ag)):p:=h
theorem j3c{p:Prop}(h:p:=by first|((with_reducible show Value.bool false=_);exact congrArg (fun i:Sp=>Value.bool i.some) ((vL ‹_›).symm))|((with_reducible show Value.int _ 0=_);first|exact congrArg (fun i:Sp=>Value.int .i64 i.lo) ((vL ‹_›).symm)|exact congrArg (fun i:Sp=>Value.int .i64 i.hi) ((vL ‹_›).symm))):p:=h
theorem j3d{p:Prop}(h:p:=by (exact absurd (ag.symm.trans ‹_=true›) j5)):p:=h
theorem j3e{p:Prop}(h:p:=by first|omega|((with_reducible show gJ _ _=true);rfl)):p:=h
theorem j3f{p:Prop}(h:p:=by (with_reducible first|assumption)):p:=h
theorem j3g{p:Prop}(h:p:=by first|exact congrArg (fun i:Sp=>Value.bool i.some) e.symm|exact congrArg (fun i:Sp=>Value.int .i64 i.lo) e.symm|exact congrArg (fun i:Sp=>Value.int .i64 i.hi) e.symm):p:=h
theorem j3h{p:Prop}(h:p:=by first|exact a7.2.1.1.1|exact a7.2.1.1.2|exact a7.2.1.2.1|exact a7.2.1.2.2|exact a7.2.2.1.1|exact a7.2.2.1.2|exact a7.2.2.2.1|exact a7.2.2.2.2):p:=h
theorem j3i{p:Prop}(h:p:=by first|exact trivial|(with_reducible exact nx ag)):p:=h
theorem j3j{p:Prop}(h:p:=by first|exact hv.2.1.1.1|exact hv.2.1.1.2|exact hv.2.1.2.1|exact hv.2.1.2.2|exact hv.2.2.1.1|exact hv.2.2.1.2|exact hv.2.2.2.1|exact hv.2.2.2.2):p:=h
theorem j3k{p:Prop}(h:p:=by first|omega|exact absurd (hq.symm.trans ‹_=true›) j5|exact hk _ ‹_›|rfl|exact j3a):p:=h
theorem j3l{p:Prop}(h:p:=by first|exact o1|exact o2|exact o1.1.1|exact o2.1.1|exact a8.2|exact a8.1.1|exact af.2|exact af.1.1|exact nx v1|exact nx v2|exact nd):p:=h
theorem j3m{p:Prop}(h:p:=by first|omega|(have hd:=of_decide_eq_true ‹decide (((i,i).1:Int)<(L.length:Int))=true›;exact hd)|(have hd:=of_decide_eq_true ‹decide (((i,i).1:Int)<_)=true›;rw [show decide (i<L.length)=true from decide_eq_true j1e];rfl)|(have hd:=of_decide_eq_false ‹decide (((i,i).1:Int)<(L.length:Int))=false›;rw [show decide (i<L.length)=false from decide_eq_false j1e];rfl)):p:=h
theorem j3n{p:Prop}(h:p:=by first|((with_reducible show Value.bool (Cg.some _)=_);exact congrArg (fun i:Cg=>Value.bool i.some) (e.symm))|((with_reducible show Value.int _ (Cg.m _)=_);exact congrArg (fun i:Cg=>Value.int .i64 i.m) (e.symm))|((with_reducible show Value.int _ (Cg.r _)=_);exact congrArg (fun i:Cg=>Value.int .i64 i.r) (e.symm))):p:=h
theorem j3o{p:Prop}(h:p:=by first|exact (bL _).1.1|exact (bL _).1.2|exact (bL _).2.1|exact (bL _).2.2):p:=h
theorem j3p{p:Prop}(h:p:=by first|exact gY a7.1.2.h|exact gY a8.1.2.h|(exact .rows fun i hi=>by rw [aBg a7.2.2 i hi];exact ⟨rfl,fun j a b ha hb=>by rw [ha] at hb;cases hb;exact .refl _⟩)|(exact .rows fun i hi=>by rw [aBg a8.2.2 i hi];exact ⟨rfl,fun j a b ha hb=>by rw [ha] at hb;cases hb;exact .refl _⟩)):p:=h
theorem j3q{p:Prop}(h:p:=by first|exact aKQ a7.1.2|exact gY a7.2.1.2.h|exact aGD a7.2.2.1.2.h):p:=h
theorem j3r{p:Prop}(h:p:=by exact (fun h:false=true=>absurd h j5)):p:=h
theorem j3s{p:Prop}(h:p:=by first|exact trivial|exact cS.refl _):p:=h
theorem j3t{p:Prop}(h:p:=by first|rfl|omega|(exact congrArg (Value.int .i64) j0f)):p:=h
theorem j3u{p:Prop}(h:p:=by first|omega|(rw [hv];done)|exact absurd (hq.symm.trans ‹_=false›) j5):p:=h
theorem j3v{p:Prop}(h:p:=by first|exact j3e|((with_reducible show Value.int _ _=Value.int _ _);rw [aR _ j3 j3];rfl)):p:=h
theorem j3w{p:Prop}(h:p:=by first|exact trivial|((with_reducible show iR _ _ _ _ _ _=true);rfl)):p:=h
theorem j3x{p:Prop}(h:p:=by first|((with_reducible show _<=HMod.hMod _ _);exact Int.le_trans j5 (Int.emod_nonneg _ (ne_of_beq_false hz)))|((with_reducible show HMod.hMod _ _<_);exact Int.lt_trans (Int.emod_lt_of_pos _ (aE9 jc hz)) ia)|exact aE9 jc hz):p:=h
theorem j3y{p:Prop}(h:p:=by first|exact (fun h:(0:Int)=((1:Nat):Int)=>absurd h j5)|exact (fun h:IntKind.i64.wrap (0+1)=((0:Nat):Int)=>absurd h j5)):p:=h
theorem j3z{p:Prop}(h:p:=by first|exact j2t|exact cS.refl _):p:=h
theorem j4a{p:Prop}(h:p:=by first|rfl|decide|exact a7.1.1|exact a7.1.2|exact a7.2.1|exact a7.2.2|exact a8.1|exact (a8.2 _ ‹_›).2.1.1|exact (a8.2 _ ‹_›).2.1.2|exact (a8.2 _ ‹_›).2.2.1|exact (a8.2 _ ‹_›).2.2.2):p:=h
theorem j4b{p:Prop}(h:p:=by first|rfl|omega|(rename_i kk h1;simp only [hq,hc,if_false,Bool.false_eq_true] at h1;exact k4 _ h1)|(rename_i kk h1 h2;simp only [hq,hc,if_false,Bool.false_eq_true] at h1 h2;exact lu _ q j3 h2 hc)):p:=h
theorem j4c{p:Prop}(h:p:=by exact (fun h:true=false=>absurd h j5)):p:=h
theorem j4d{p:Prop}(h:p:=by first|exact rfl|(rw [eu];done)|exact im|(rw [em];exact congrArg Value.bool (congrArg Bool.not mr))):p:=h
theorem j4e{p:Prop}(h:p:=by (with_reducible first|exact nx jg|exact nx fq|exact nx ku)):p:=h
theorem j4f{p:Prop}(h:p:=by first|exact a8.2|exact a8.1.1|exact af.2|exact af.1.1):p:=h
theorem j4g{p:Prop}(h:p:=by first|exact gY a7.2.h|(exact .rows fun i hi=>by rw [af.1.2 i hi];exact ⟨rfl,fun j a b ha hb=>by have hb: [st (gT (f2 i))][j]? =some b:=hb;rw [ha] at hb;cases hb;exact .refl _⟩)):p:=h
theorem j4h{p:Prop}(h:p:=by first|exact gY a7.2.h|(exact .rows fun i hi=>by rw [a8.1.2 i hi];exact ⟨rfl,fun j a b ha hb=>by have hb: [st (gT (f2 i))][j]? =some b:=hb;rw [ha] at hb;cases hb;exact .refl _⟩)):p:=h
theorem j4i{p:Prop}(h:p:=by first|exact bL _|exact And.intro (bL _) (bL _)|exact nx w1|exact nx w2):p:=h
theorem j4j{p:Prop}(h:p:=by first|exact j3t|(rename_i kk h1 h2;simp only [hq,hc,if_false,Bool.false_eq_true] at h1 h2;first|exact k5 _ h1 h2|exact cN.le1 (jA cN ft j3 j3 j3) (cN.le1 hc (jA cN ke j3 j3 j3)))):p:=h
theorem j4k{p:Prop}(h:p:=by first|exact rfl|(rw [e.1];done)|(rw [e.2];done)):p:=h
theorem j4l{p:Prop}(h:p:=by first|(with_reducible first|exact gP.1.1|exact gP.1.2|exact gP.2.1|exact gP.2.2)|((with_reducible show False);exact hP.1 ‹_›)|((with_reducible show False);exact hP.2 ‹_›)):p:=h
theorem j4m{p:Prop}(h:p:=by first|(with_reducible first|exact gN.1.1|exact gN.1.2|exact gN.2.1|exact gN.2.2)|((with_reducible show False);exact hN.1 ‹_›)|((with_reducible show False);exact hN.2 ‹_›)):p:=h
theorem j4n{p:Prop}(h:p:=by first|exact (eL 4 _ _ ‹_›).1|exact (eL 4 _ _ ‹_›).2.1.1|exact (eL 4 _ _ ‹_›).2.1.2|exact (eL 4 _ _ ‹_›).2.2.1|exact (eL 4 _ _ ‹_›).2.2.2|decide|rfl):p:=h
theorem j4o{p:Prop}(h:p:=by first|exact a7.2.1|exact a7.2.2):p:=h
theorem j4p{p:Prop}(h:p:=by first|exact trivial|exact j3f):p:=h
theorem j4q{p:Prop}(h:p:=by first|exact a7.1|exact a8.1):p:=h
theorem j4r{p:Prop}(h:p:=by (simp only [Nat.zero_add,bI,eZ] at*;first|(rw [e];done))):p:=h
theorem j4s{p:Prop}(h:p:=by first|exact (nx (beq_eq_false_iff_ne.2 ec))|exact (nx (beq_eq_false_iff_ne.2 ei))|exact (nx (beq_eq_false_iff_ne.2 fx))|exact (nx (beq_eq_false_iff_ne.2 dg))):p:=h
theorem j4t{p:Prop}(h:p:=by (have hd:=‹(!decide (bR _ _<0))=false›;simp only [hh,ur,Int.toNat_natCast,Nat.zero_add] at hd;exact absurd ((congrArg not hc).symm.trans hd) j5)):p:=h
theorem j4u{p:Prop}(h:p:=by first|rfl|omega|(rename_i kk h1 h2;simp only [hq,hc,if_true] at h1 h2;first|exact k4 _ h1 h2|exact cN.lt2 (jA cN ke j3 h1 j3) (cN.lt1 (jA cN ft j3 j3 j3) hc))):p:=h
theorem j4v{p:Prop}(h:p:=by (have hd:=‹(!decide (bR _ _<0))=true›;simp only [hh,ur,Int.toNat_natCast,Nat.zero_add] at hd;exact absurd ((congrArg not hc).symm.trans hd) j5)):p:=h
theorem j4w{p:Prop}(h:p:=by first|exact j3t|(rename_i kk h1;simp only [hq,hc,if_true] at h1;exact hm _ q j3 j3 hc)|(rename_i kk h1 h2;simp only [hq,hc,if_true] at h1 h2;exact k5 _ h1 h2)):p:=h
theorem j4x{p:Prop}(h:p:=by (have hd:=‹decide (bR _ _<0)=false›;simp only [hh,Int.toNat_natCast,Nat.zero_add] at hd;exact absurd ((hc.symm.trans (Bx q)).trans hd) j5)):p:=h
theorem j4y{p:Prop}(h:p:=by first|(unfold md at*;unfold Cg.inR at a8;dsimp only at a8;rw [hk.2.1];omega)|(have hb:=oA i0 m1;unfold Cg.inR Cg.red at*;dsimp only at*;rw [hk.1];omega)):p:=h
theorem j4z{p:Prop}(h:p:=by (have hd:=‹decide (bR _ _<0)=true›;simp only [hh,Int.toNat_natCast,Nat.zero_add] at hd;exact absurd ((hc.symm.trans (Bx q)).trans hd) j5)):p:=h
theorem j5a{p:Prop}(h:p:=by first|exact nx qh|exact nx r7|exact nx sg|exact nx uu):p:=h
theorem j5b{p:Prop}(h:p:=by first|exact trivial|(with_reducible exact ya)):p:=h
theorem j5c{p:Prop}(h:p:=by first|exact (Ao)|exact (Ap)|exact (cG)|exact (cE)|exact (c0)|exact (c1)|exact (cM)|exact (Aq _)|exact (As _)|exact (Au _)|exact (Av _)):p:=h
theorem j5d{p:Prop}(h:p:=by first|exact gY a7.2.h|exact gY a8.2.h):p:=h
theorem j5e{p:Prop}(h:p:=by (exact congrArg aT (congrFun (fy _ _ _ rfl (nF _ au.1 au.2.2.2.2.1 j3).symm (nF _ au.2.2.2.2.2 au.2.2.2.1 j3).symm) _))):p:=h
theorem j5f{p:Prop}(h:p:=by first|exact a8|exact cA|exact nx r8|exact nx Aw|exact nx h2|exact nx iq):p:=h
theorem j5g{p:Prop}(h:p:=by first|exact trivial|(with_reducible first|exact a8|exact cA|exact nx iq)):p:=h
theorem j5h{p:Prop}(h:p:=by first|exact nx hl|exact nx hm):p:=h
theorem j5i{p:Prop}(h:p:=by first|assumption|exact nx qi|exact nx r9|exact nx q7):p:=h
theorem j5j{p:Prop}(h:p:=by (with_reducible first|exact (nx (congrArg Bool.not hl))|exact nd)):p:=h
theorem j5k{p:Prop}(h:p:=by (exact False.elim (aLC (aCg (b:=(⟨b1,m1,r1⟩:Cg)) hl hm) j0r))):p:=h
theorem j5l{p:Prop}(h:p:=by first|exact gn.2|exact gi|(show q-1<q;omega)|exact congrArg (Value.int .u64) (aG9 gn.1 j3)|exact congrArg (Value.int .u64) (tM j3)):p:=h
theorem j5m{p:Prop}(h:p:=by exact Nat.le_refl _):p:=h
theorem j5n{p:Prop}(h:p:=by first|exact q2.2|exact q3.2|exact nx hz|exact nx kv):p:=h
theorem j5o{p:Prop}(h:p:=by first|exact a8.2.1|exact a8.2.2):p:=h
theorem j5p{p:Prop}(h:p:=by first|exact hc.1.1.1|exact hc.1.1.2|exact hc.1.2.1|exact hc.1.2.2|exact hc.2.1.1|exact hc.2.1.2|exact hc.2.2.1|exact hc.2.2.2):p:=h
theorem j5q{p:Prop}(h:p:=by first|omega|rfl|exact dw.1.1|(have hq:=dw.2;unfold Sp.inR Cg.inR at hq;omega)|exact j3a|(simp only [bI];exact aQg rfl _)):p:=h
theorem j5r{p:Prop}(h:p:=by (with_reducible first|assumption|exact nx ag|exact nx qj)):p:=h
theorem j5s{p:Prop}(h:p:=by first|exact a7.2|exact a8.2):p:=h
theorem j5t{p:Prop}(h:p:=by (with_reducible first|exact qz|exact nx h2|exact nx h3)):p:=h
theorem j5u{p:Prop}(h:p:=by first|exact trivial|(with_reducible first|exact (c6 _)|exact (fun h=>absurd (ag.symm.trans h) Bool.false_ne_true))):p:=h
theorem j5v{p:Prop}(h:p:=by exact (uK a7.2).2.2):p:=h
theorem j5w{p:Prop}(h:p:=by (simp only [decide_eq_true_eq,decide_eq_false_iff_not,beq_iff_eq,beq_eq_false_iff_ne] at*;omega)):p:=h
theorem j5x{p:Prop}(h:p:=by first|rfl|(with_reducible first|exact a7.1.1|exact a8.1.1)):p:=h
theorem j5y{p:Prop}(h:p:=by first|exact dh.1|exact dw.1|exact dh.2.1|exact dh.2.2|exact dw.2.1|exact dw.2.2|exact j4o|exact j5o):p:=h
theorem j5z{p:Prop}(h:p:=by first|exact congrArg (Value.int .u64) (aSC a7 ‹_›)|exact congrArg (Value.int .u64) (aSD a7 ‹_›)):p:=h
theorem j6a{p:Prop}(h:p:=by first|exact trivial|(with_reducible first|exact a7|exact a8|exact bL _|exact nx hs|exact nx Ax)):p:=h
theorem j6b{p:Prop}(h:p:=by first|rfl|(exfalso;omega)|(congr 1;omega)):p:=h
theorem j6c{p:Prop}(h:p:=by first|exact trivial|(with_reducible first|exact a7.2.1|exact q0.1|exact q0.2|exact nx ju)):p:=h
theorem j6d{p:Prop}(h:p:=by first|exact j4r|(rw [e];exact (bU _ _).symm)|(rw [e];dsimp only;rw [aDV j9];rfl)|exact rfl):p:=h
theorem j6e{p:Prop}(h:p:=by first|exact nx hA|exact nx hB):p:=h
theorem j6f{p:Prop}(h:p:=by first|(exfalso;omega)|exact congrArg aT (congrArg X j3)|exact congrArg aT (congrArg G j3)):p:=h
theorem j6g{p:Prop}(h:p:=by first|exact trivial|(with_reducible first|exact j4q|exact af.1|exact nx mu|exact nx on)):p:=h
theorem j6h{p:Prop}(h:p:=by (with_reducible first|exact a7|exact j3l)):p:=h
theorem j6i{p:Prop}(h:p:=by (with_reducible exact nd)):p:=h
theorem j6j{p:Prop}(h:p:=by (dsimp only at hc hk⊢;rw [hc _ (List.mem_singleton.2 rfl)];exact hk)):p:=h
theorem j6k{p:Prop}(h:p:=by first|exact trivial|(with_reducible first|assumption|exact nx CN|exact nx CO)):p:=h
theorem j6l{p:Prop}(h:p:=by first|exact trivial|(with_reducible first|exact r1|exact r2|exact r3|exact r4)):p:=h
theorem j6m{p:Prop}(h:p:=by first|exact trivial|(with_reducible exact c6)):p:=h
theorem j6n{p:Prop}(h:p:=by first|exact trivial|(with_reducible first|exact j4q|exact nx l0|exact nx uv)):p:=h
theorem j6o{p:Prop}(h:p:=by first|exact trivial|(with_reducible first|exact ka|exact nx ag|exact nx hq)):p:=h
theorem j6p{p:Prop}(h:p:=by first|exact bL _|exact j3y|exact nx yb|exact nx ed|exact nx ir|exact nx hx):p:=h
theorem j6q{p:Prop}(h:p:=by first|(exact rfl)|omega):p:=h
theorem j6r{p:Prop}(h:p:=by first|exact trivial|(with_reducible first|exact j5i|exact nx q8|exact nx q9)):p:=h
theorem j6s{p:Prop}(h:p:=by first|exact trivial|(with_reducible first|exact a8|exact nx q5|exact nx q6)):p:=h
theorem j6t{p:Prop}(h:p:=by first|exact trivial|(with_reducible first|exact a7.1|exact j3r|exact nx h1)):p:=h
namespace Go.Sx
inductive DV where
 |v (x:Value)
 |lst (sz n:Nat) (f:Nat->List DV)
inductive Cv where
 |c (x:DV)
 |agg (xs:List DV)
inductive Ct where
 |va (x:Cv)
 |tup (xs:List Cv)
structure Gs where
 pre:Prop
 ct:Ct
inductive aL where
 |top
 |und
 |kb (b:Bool)
 |d (x:DV)
 |own (k off:Nat)
 |osl (k sz o len:Nat)
 |osc (k sz o len cap:Nat)
 |ep (k sz i off:Nat)
 |ap (k base n i:Nat)
 |rp (cs:List DV)
 |fn (f:Nat) (aq:List (Nat×Nat))
 |fv (g:List Cv->Option Gs)
 |mp (k:Nat)
 |fb (f k off:Nat)
inductive Va where
 |c (x:aL)
 |agg (cs:List aL)
inductive Tm where
 |va (x:Va)
 |tup (xs:List Va)
inductive aB where
 |cells (cs:List aL)
 |row (sz n:Nat) (f:Nat->List DV)
 |fz (cs:List DV)
 |fzr (sz n:Nat) (f:Nat->List DV)
 |it (s:ByteArray) (p:Nat)
 |map (es:List (List Value×Va)) (bc:List Nat)
 |gone
structure St where
 tmps:List (Nat×Tm)
 heap:List (Nat×aB)
 next:Nat
 lim:Nat
inductive Ic where
 |d (x:DV)
 |ow (sz n:Nat) (f:Nat->List DV)
inductive Ar where
 |c (x:Ic)
 |agg (cs:List Ic)
 |rp (cs:List DV)
 |fv (g:List Cv->Option Gs)
inductive Rt where
 |va (x:Ar)
 |tup (xs:List Ar)
structure Rs where
 pre:Prop
 rt:Rt
 us:List (Option (Nat->List DV))
structure Sm where
 own:List Bool
 F:List Ar->Option Rs
abbrev vx (x:Value):Tm:= .va (.c (.d (.v x)))
abbrev iS:Tm:= .va (.c .top)
abbrev kU:Tm:= .va (.c .und)
structure TX where
 n:Nat
 cmp:Bool
structure TI where
 desc:TypeDesc
 size:Nat
 bytes:TX
 zero:Value
abbrev bF:=Nat->Option TI
abbrev dQ:=Nat->Option Sm
def aV:List (Nat×Tm)->Nat->Tm
 | [],_=>iS
 |(i,x)::l,t=>match Nat.beq i t with
  |true=>x
  |false=>aV l t
def aF:List (Nat×aB)->Nat->aB
 | [],_=> .gone
 |(i,x)::l,t=>match Nat.beq i t with
  |true=>x
  |false=>aF l t
def fV {α:Type} (x:Value) (k:Value->α):α:=match x with
 | .bool b=>k (.bool b)
 | .int i n=>k (.int i n)
 | .float i n=>k (.float i n)
 | .complex i a b=>k (.complex i a b)
 | .string s=>k (.string s)
 | .pointer a=>k (.pointer a)
 | .slice a n c=>k (.slice a n c)
 | .map r=>k (.map r)
 | .chan r=>k (.chan r)
 | .func f a b=>k (.func f a b)
 | .nilFunc=>k .nilFunc
 | .iface t v=>k (.iface t v)
 | .nilIface=>k .nilIface
 | .agg cs=>k (.agg cs)
 | .tuple vs=>k (.tuple vs)
def fD {α:Type} (x:DV) (k:DV->α):α:=match x with
 | .v x=>fV x fun x=>k (.v x)
 | .lst a b f=>k (.lst a b f)
def fC {α:Type} (x:aL) (k:aL->α):α:=match x with
 | .top=>k .top
 | .und=>k .und
 | .kb true=>k (.kb true)
 | .kb false=>k (.kb false)
 | .d x=>fD x fun x=>k (.d x)
 | .own a b=>k (.own a b)
 | .osl a b c d=>k (.osl a b c d)
 | .osc a b c d e=>k (.osc a b c d e)
 | .ep a b c d=>k (.ep a b c d)
 | .ap a b c d=>k (.ap a b c d)
 | .rp cs=>k (.rp cs)
 | .fn f cs=>k (.fn f cs)
 | .fv g=>k (.fv g)
 | .mp a=>k (.mp a)
 | .fb f a b=>k (.fb f a b)
def tO {α:Type}:List aL->(List aL->α)->α
 | [],k=>k []
 |x::xs,k=>fC x fun x=>tO xs fun xs=>k (x::xs)
def oW {α:Type}:List DV->(List DV->α)->α
 | [],k=>k []
 |x::xs,k=>fD x fun x=>oW xs fun xs=>k (x::xs)
def fVa {α:Type} (x:Va) (k:Va->α):α:=match x with
 | .c x=>fC x fun x=>k (.c x)
 | .agg cs=>tO cs fun cs=>k (.agg cs)
def aAm {α:Type}:List Va->(List Va->α)->α
 | [],k=>k []
 |x::xs,k=>fVa x fun x=>aAm xs fun xs=>k (x::xs)
def fT {α:Type} (x:Tm) (k:Tm->α):α:=match x with
 | .va x=>fVa x fun x=>k (.va x)
 | .tup xs=>aAm xs fun xs=>k (.tup xs)
def bAQ:Value->aL
 | .bool b=> .kb b
 |x=> .d (.v x)
def ofValue:Value->Tm
 | .agg _=>iS
 | .tuple _=>iS
 |x=> .va (.c (bAQ x))
def ev (st:St):Operand->Tm
 | .tmp t=>aV st.tmps t
 | .const x=>ofValue x
 | .global _=>iS
 | .func f=> .va (.c (.fn f []))
def bG (st:St) (dst:Option Tmp) (x:Tm) (K:St->Prop):Prop:=
 match dst,st with
 |some t,⟨ts,h,n,m⟩=>match Nat.blt t m with
  |true=>fT x fun x=>K ⟨(t,x)::ts,h,n,m⟩
  |false=>False
 |none,st=>K st
def dY {α:Type} (P:Program):Sem α->Option α
 | .pure a=>some a
 | .program k=>dY P (k P)
 |_=>none
def uC:Va->Option Value
 | .c (.d (.v x))=>some x
 | .c (.kb b)=>some (.bool b)
 |_=>none
def cZ:Tm->Option Value
 | .va x=>uC x
 |_=>none
def Va.cells:Va->List aL
 | .c x=> [x]
 | .agg cs=>cs
def Va.lays:Va->Bool
 | .c .top=>false
 | .c .und=>false
 |_=>true
def jZ:TypeDesc->Bool
 | .struct _| .array _ _=>true
 |_=>false
def kG (agg:Bool) (cs:List aL):Option Va:=
 match agg,cs with
 |true,cs=>some (.agg cs)
 |false,[x]=>some (.c x)
 |false,_=>none
def gG {α:Type}:List α->Nat->Option (List α)
 |_,0=>some []
 | [],_+1=>none
 |x::xs,n+1=>match gG xs n with
  |some ys=>some (x::ys)
  |none=>none
def oK {α:Type}:List α->Nat->List α->Option (List α)
 |l,_,[]=>some l
 | [],_,_::_=>none
 |_::l,0,y::ys=>match oK l 0 ys with
  |some r=>some (y::r)
  |none=>none
 |x::l,n+1,y::ys=>match oK l n (y::ys) with
  |some r=>some (x::r)
  |none=>none
def aBh:List aL->Option (IntKind×List Int)
 | []=>none
 | .d (.v (.int k n))::cs=>match cs with
   | []=>some (k,[n])
   |_=>match aBh cs with
    |some (k',ns)=>match decide (k=k') with
     |true=>some (k,n::ns)
     |false=>none
    |none=>none
 |_=>none
def aEp (ns:List Int) (i:Nat):Int:=(ns[i]?).getD 0
def xN (k:IntKind) (i:Nat) (v:Int):Nat->List Int->List aL
 |_,[]=> []
 |j,n::ns=> .d (.v (.int k (if i=j then v else n)))::xN k i v (j+1) ns
def aBi (s:ByteArray) (i:Nat):Int:=((s[i]?).getD 0).toNat
def loadAt (h:List (Nat×aB)) (p:Tm) (sz:Nat) (K:List aL->Prop):Prop:=
 match p with
 | .va (.c (.own k off))=>match aF h k with
   | .cells cs=>match gG (cs.drop off) sz with
     |some r=>K r
     |none=>False
   | .fz cs=>match gG (cs.drop off) sz with
     |some r=>K (r.map .d)
     |none=>False
   |_=>False
 | .va (.c (.ep k z i off))=>match aF h k with
   | .row z' n f=>z'=z/\ i<n/\ (z'=z->i<n->match gG ((f i).drop off) sz with
     |some r=>K (r.map .d)
     |none=>False)
   | .fzr z' n f=>z'=z/\ i<n/\ (z'=z->i<n->match gG ((f i).drop off) sz with
     |some r=>K (r.map .d)
     |none=>False)
   |_=>False
 | .va (.c (.rp cs))=>match gG cs sz with
   |some r=>K (r.map .d)
   |none=>False
 | .va (.c (.ap k base n i))=>match aF h k,Nat.beq sz 1 with
   | .cells cs,true=>match gG (cs.drop base) n with
     |some r=>match aBh r with
      |some (kd,ns)=>i<n/\ (i<n->K [.d (.v (.int kd (aEp ns i)))])
      |none=>False
     |none=>False
   |_,_=>False
 |_=>False
def bY {α β:Type} (f:α->Option β):List α->Option (List β)
 | []=>some []
 |x::xs=>match f x,bY f xs with
  |some y,some ys=>some (y::ys)
  |_,_=>none
def gK:Tm->Option Va
 | .va x=>some x
 |_=>none
def sU (st:St) (s:Nat) (k:St->Option Bool->Prop):Prop:=
 match aV st.tmps s,st with
 | .va (.c (.kb true)),st=>k st (some true)
 | .va (.c (.kb false)),st=>k st (some false)
 | .va (.c .und),st=>k st none
 | .va (.c (.d (.v (.bool b)))),⟨ts,h,n,m⟩=>
   (b=true->k ⟨(s,.va (.c (.kb true)))::ts,h,n,m⟩ (some true))/\ (b=false->k ⟨(s,.va (.c (.kb false)))::ts,h,n,m⟩ (some false))
 |_,_=>False
def aHa (st:St) (dst:Option Tmp) (cs:List aL) (K:St->Prop):Prop:=
 match st with
 |⟨ts,h,n,m⟩=>tO cs fun cs=>bG ⟨ts,(n,.cells cs)::h,n+1,m⟩ dst (.va (.c (.own n 0))) K
def aFu (st:St) (dst:Option Tmp) (sz len:Nat) (f:Nat->List DV) (K:St->Prop):Prop:=
 match st with
 |⟨ts,h,n,m⟩=>bG ⟨ts,(n,.row sz len f)::h,n+1,m⟩ dst (.va (.c (.osl n sz 0 len))) K
def mU (h:List (Nat×aB)) (c:aL) (K:DV->Prop):Prop:=
 match c with
 | .kb b=>K (.v (.bool b))
 | .d x=>K x
 | .osl k z o len=>match aF h k with
   | .fzr sz n f=>match Nat.beq sz z with
     |true=>o+len<=n/\ K (.lst sz len fun i=>f (o+i))
     |false=>False
   |_=>False
 | .fn f []=>K (.v (.func (.func f) #[] #[]))
 |_=>False
def jW (h:List (Nat×aB)):List aL->(List DV->Prop)->Prop
 | [],K=>K []
 |c::cs,K=>mU h c fun d=>jW h cs fun ds=>K (d::ds)
def lY (h:List (Nat×aB)) (x:Va) (K:Cv->Prop):Prop:=
 match x with
 | .c x=>mU h x fun d=>K (.c d)
 | .agg cs=>jW h cs fun ds=>K (.agg ds)
def sM (h:List (Nat×aB)):List Va->(List Cv->Prop)->Prop
 | [],K=>K []
 |c::cs,K=>lY h c fun d=>sM h cs fun ds=>K (d::ds)
def aMe:Cv->Va
 | .c x=> .c (.d x)
 | .agg xs=> .agg (xs.map .d)
def aAn:Ct->Tm
 | .va x=> .va (aMe x)
 | .tup xs=> .tup (xs.map aMe)
def cW:Value->List aL
 | .agg cs=>cs.toList.map fun x=> .d (.v x)
 |x=> [.d (.v x)]
section
variable (P:Program) (τ:bF)
def aKy (st:St) (dst:Option Tmp) (e:TypeId) (K:St->Prop):Prop:=
 match τ e with
 |some ⟨_,_,_,z⟩=>aHa st dst (cW z) K
 |none=>False
def aMf (st:St) (dst:Option Tmp) (x:Tm) (K:St->Prop):Prop:=
 match x with
 | .va y=>match y.lays with
   |true=>aHa st dst y.cells K
   |false=>False
 |_=>False
def sV (h:List (Nat×aB)) (t:TypeId) (p:Tm) (K:Tm->Prop):Prop:=
 match τ t with
 |some ⟨desc,size,_,_⟩=>loadAt h p size fun cs=>match kG (jZ desc) cs with
  |some y=>K (.va y)
  |none=>False
 |none=>False
def mB (f:Nat->List DV) (i:Nat) (r:List DV):Nat->List DV:=fun j=>match Nat.beq j i with
 |true=>r
 |false=>f j
def aF2 (st:St) (dst:Option Tmp) (t:TypeId) (p x:Tm) (K:St->Prop):Prop:=
 match τ t with
 |some ⟨_,size,_,_⟩=>match x,p,st with
  | .va y,.va (.c (.own k off)),⟨ts,h,n,m⟩=>match y.lays,aF h k,Nat.beq y.cells.length size with
    |true,.cells cs,true=>match oK cs off y.cells with
     |some cs=>tO cs fun cs=>bG ⟨ts,(k,.cells cs)::h,n,m⟩ dst kU K
     |none=>False
    |_,_,_=>False
  | .va y,.va (.c (.ep k z i off)),⟨ts,h,n,m⟩=>match y.lays,aF h k,Nat.beq y.cells.length size with
    |true,.row z' len f,true=>jW h y.cells fun ds=>z'=z/\ i<len/\ (z'=z->i<len->match oK (f i) off ds with
     |some r=>oW r fun r=>bG ⟨ts,(k,.row z len (mB f i r))::h,n,m⟩ dst kU K
     |none=>False)
    |_,_,_=>False
  | .va y,.va (.c (.ap k base ln i)),⟨ts,h,n,m⟩=>match uC y,aF h k,Nat.beq size 1 with
    |some (.int kd v),.cells cs,true=>match gG (cs.drop base) ln with
     |some r=>match aBh r with
      |some (xg,ns)=>match decide (xg=kd) with
       |true=>match oK cs base (xN kd i v 0 ns) with
        |some cs=>tO cs fun cs=>i<ln/\ (i<ln->bG ⟨ts,(k,.cells cs)::h,n,m⟩ dst kU K)
        |none=>False
       |false=>False
      |none=>False
     |none=>False
    |_,_,_=>False
  |_,_,_=>False
 |none=>False
def aAL (s:TypeId) (p:Tm) (f:Nat) (K:Tm->Prop):Prop:=
 match τ s with
 |some ⟨.struct fs,_,_,_⟩=>match fs[f]? with
  |some ⟨_,ty,dk,_,_,_,_⟩=>match τ ty with
   |some ⟨_,_+1,_,_⟩=>match p with
    | .va (.c (.own k off))=>K (.va (.c (.own k (off+dk))))
    | .va (.c (.ep k sz i off))=>K (.va (.c (.ep k sz i (off+dk))))
    | .va (.c (.rp cs))=>oW (cs.drop dk) fun cs=>K (.va (.c (.rp cs)))
    |_=>False
   |_=>False
  |none=>False
 |_=>False
def mV (fs:Array Field) (aj:Operand->Tm):List (Nat×Operand)->List aL->Option (List aL)
 | [],cs=>some cs
 |(i,x)::ps,cs=>match fs[i]? with
  |some ⟨_,ty,off,_,_,_,_⟩=>match τ ty,aj x with
   |some ⟨_,sz,_,_⟩,.va y=>match y.lays,Nat.beq y.cells.length sz,Nat.ble (off+sz) cs.length,oK cs off y.cells with
    |true,true,true,some cs=>mV fs aj ps cs
    |_,_,_,_=>none
   |_,_=>none
  |none=>none
def iP (sz:Nat) (aj:Operand->Tm):List (Nat×Operand)->List aL->Option (List aL)
 | [],cs=>some cs
 |(i,x)::ps,cs=>match aj x with
  | .va y=>match y.lays,Nat.beq y.cells.length sz,Nat.ble (i*sz+sz) cs.length,oK cs (i*sz) y.cells with
    |true,true,true,some cs=>iP sz aj ps cs
    |_,_,_,_=>none
  |_=>none
def zH (aj:Operand->Tm) (t:TypeId) (parts:List (Nat×Operand)) (K:Tm->Prop):Prop:=
 match τ t with
 |some ⟨.struct fs,_,_,z⟩=>match fs.toList.all (fun f=>(τ f.type).isSome),mV τ fs aj parts (cW z) with
  |true,some cs=>K (.va (.agg cs))
  |_,_=>False
 |some ⟨.array _ e,_,_,z⟩=>match τ e with
  |some ⟨_,sz,_,_⟩=>match iP sz aj parts (cW z) with
   |some cs=>K (.va (.agg cs))
   |none=>False
  |none=>False
 |_=>False
def bAR:TypeDesc->Bool
 | .int _=>true
 |_=>false
def aDI (i:Int) (F:Nat->Prop):Nat->Prop
 |0=>True
 |j+1=>aDI i F j/\ (i=(j:Int)->F j)
def aAM (t:TypeId) (x ix:Tm) (K:Tm->Prop):Prop:=
 match τ t with
 |some ⟨.array len e,_,_,_⟩=>match τ e with
  |some ⟨de,sz,_,_⟩=>match x,cZ ix with
   | .va (.c (.own k off)),some (.int _ i)=>match bAR de&&Nat.beq sz 1 with
     |true=>(0<=i/\ i<len)/\ (0<=i->i<len->K (.va (.c (.ap k off len i.toNat))))
     |false=>(0<=i/\ i<len)/\ aDI i (fun j=>K (.va (.c (.own k (off+j*sz))))) len
   |_,_=>False
  |none=>False
 |some ⟨.slice e,_,_,_⟩=>match τ e with
  |some ⟨_,sz,_,_⟩=>match x,cZ ix with
   | .va (.c (.d (.lst z n f))),some (.int _ i)=>z=sz/\ (0<=i/\ i<n)/\ (0<=i->i<n->K (.va (.c (.rp (f i.toNat)))))
   | .va (.c (.osl k z b n)),some (.int _ i)=>z=sz/\ (0<=i/\ i<n)/\ (0<=i->i<n->K (.va (.c (.ep k z (b+i.toNat) 0))))
   |_,_=>False
  |none=>False
 |_=>False
def aBj (t:TypeId) (x:Tm) (f:Nat) (K:Tm->Prop):Prop:=
 match τ t,x with
 |some ⟨.struct fs,_,_,_⟩,.va (.agg cs)=>match fs[f]? with
  |some ⟨_,ty,off,_,_,_,_⟩=>match τ ty with
   |some ⟨desc,size,_,_⟩=>match gG (cs.drop off) size with
    |some cs=>match kG (jZ desc) cs with
     |some y=>K (.va y)
     |none=>False
    |none=>False
   |none=>False
  |none=>False
 |_,_=>False
def eF (r:Option Value) (K:Tm->Prop):Prop:=
 match r with
 |some (.bool b)=>K (vx (.bool b))
 |some (.int k n)=>K (vx (.int k n))
 |some (.string s)=>K (vx (.string s))
 |some (.complex k a b)=>K (vx (.complex k a b))
 |some (.float k a)=>K (vx (.float k a))
 |some (.iface t (.int k a))=>K (vx (.iface t (.int k a)))
 |some (.iface t (.string s))=>K (vx (.iface t (.string s)))
 |some .nilIface=>K (vx .nilIface)
 |_=>False
def aCV:aL->Option Value
 | .d (.v x)=>some x
 | .kb b=>some (.bool b)
 |_=>none
def vC:Nat->TypeId->List Value->List Value->Option Bool
 |0,_,_,_=>none
 |d+1,t,xs,ys=>match τ t with
  |some ⟨.struct fs,_,⟨_,true⟩,_⟩=>fs.toList.foldr (fun f r=>match r,τ f.type with
   |some b,some ⟨_,sz,_,_⟩=>match gG (xs.drop f.offset) sz,gG (ys.drop f.offset) sz with
    |some ga,some ff=>match vC d f.type ga ff with
     |some c=>some (c&&b)
     |none=>none
    |_,_=>none
   |_,_=>none) (some true)
  |some ⟨.array n e,_,⟨_,true⟩,_⟩=>match τ e with
   |some ⟨_,sz,_,_⟩=>(List.range n).foldr (fun i r=>match r with
    |some b=>match gG (xs.drop (i*sz)) sz,gG (ys.drop (i*sz)) sz with
     |some ga,some ff=>match vC d e ga ff with
      |some c=>some (c&&b)
      |none=>none
     |_,_=>none
    |none=>none) (some true)
   |none=>none
  |some ⟨.int _,_,_,_⟩=>match xs,ys with
   | [.int k a],[.int k' b]=>match decide (k=k') with
     |true=>some (a==b)
     |false=>none
   |_,_=>none
  |some ⟨.bool,_,_,_⟩=>match xs,ys with
   | [.bool a],[.bool b]=>some (a==b)
   |_,_=>none
  |some ⟨.string,_,_,_⟩=>match xs,ys with
   | [.string a],[.string b]=>some (a.toList==b.toList)
   |_,_=>none
  |_=>none
def aMg (t:TypeId):Bool:=match τ t with
 |some ⟨.struct _,_,⟨_,true⟩,_⟩=>true
 |some ⟨.array _ _,_,⟨_,true⟩,_⟩=>true
 |_=>false
def oEq (op:BinOp) (t:TypeId) (xs ys:List aL) (K:Tm->Prop):Prop:=
 match aMg τ t,bY aCV xs,bY aCV ys with
 |true,some xs,some ys=>match vC τ 50 t xs ys,op with
  |some b,.eql=>K (vx (.bool b))
  |some b,.neq=>K (vx (.bool (!b)))
  |_,_=>False
 |_,_,_=>False
def aAo (aj:Operand->Tm) (op:BinOp) (t:TypeId) (xo yo:Operand) (K:Tm->Prop):Prop:=
 match cZ (aj xo),cZ (aj yo) with
 |some (.int k a),some (.int k' b)=>match op with
  | .quo=>k=k'/\ b≠0/\ (k=k'->b≠0->K (vx (.int k (k.wrap (a.tdiv b)))))
  | .rem=>k=k'/\ b≠0/\ (k=k'->b≠0->K (vx (.int k (a.tmod b))))
  |op=>eF (dY P (do eqGuard op t xo yo (.int k a) (.int k' b);binOp op t (.int k a) (.int k' b))) K
 |some (.string a),some (.string b)=>match op with
  | .add=>((a.size+b.size:Nat):Int)<=IntKind.i64.max/\ K (vx (.string (a++b)))
  |op=>eF (dY P (do eqGuard op t xo yo (.string a) (.string b);binOp op t (.string a) (.string b))) K
 |some a,some b=>eF (dY P (do eqGuard op t xo yo a b;binOp op t a b)) K
 |_,_=>False
def aB3 (op:BinOp) (t:TypeId) (K:Tm->Prop):Prop:=
 match τ t with
 |some ⟨.pointer _,_,_,_⟩=>match op with
  | .eql=>K (.va (.c (.kb false)))
  | .neq=>K (.va (.c (.kb true)))
  |_=>False
 |_=>False
def aB4 (ts:Array TypeId) (ty:TypeId) (as:Option (List Va)) (K:Tm->Prop):Prop:=
 match ts[0]? with
 |some t=>match τ t with
  |some ⟨.slice _,_,_,_⟩=>match as with
   |some [.c (.d (.lst _ n _))]=>K (vx (.int .i64 n))
   |some [.c (.osl _ _ _ n)]=>K (vx (.int .i64 n))
   |some [.c (.osc _ _ _ n _)]=>K (vx (.int .i64 n))
   |some [.c (.d (.v (.slice none n _)))]=>K (vx (.int .i64 n))
   |_=>False
  |some _=>match as with
   |some [.c (.d (.v x))]=>eF (dY P (Builtin.len_ ts ty #[x])) K
   |_=>False
  |none=>False
 |none=>False
def aB5 (ts:Array TypeId) (ty:TypeId) (as:Option (List Va)) (K:Tm->Prop):Prop:=
 match as with
 |some [.c (.osc _ _ _ _ c)]=>match ts[0]? with
  |some t=>match τ t with
   |some ⟨.slice _,_,_,_⟩=>K (vx (.int .i64 c))
   |_=>False
  |none=>False
 |some [.c (.d (.v x))]=>eF (dY P (Builtin.cap_ ts ty #[x])) K
 |_=>False
def kH (o:Option Tm) (d:Int) (k:Int->Prop):Prop:=match o with
 |none=>k d
 |some x=>match cZ x with
  |some (.int _ i)=>k i
  |_=>False
def aBk (t:TypeId) (x:Tm) (lo hi mx:Option Tm) (K:Tm->Prop):Prop:=
 match τ t with
 |some ⟨.string,_,_,_⟩=>match x,mx with
  | .va (.c (.d (.v (.string s)))),none=>kH lo 0 fun l=>kH hi s.size fun h=>((0<=l/\ l<=h)/\ h<=s.size)/\ (0<=l->l<=h->h<=s.size->K (vx (.string (s.extract l.toNat h.toNat))))
  |_,_=>False
 |some ⟨.slice e,_,_,_⟩=>match τ e with
  |some ⟨_,sz,_,_⟩=>match x with
   | .va (.c (.d (.lst z n f)))=>kH lo 0 fun l=>kH hi n fun h=>kH mx n fun m=>(z=sz/\ (0<=l/\ l<=h)/\ (h<=m/\ m<=n))/\ (z=sz->0<=l->l<=h->h<=m->m<=n->K (.va (.c (.d (.lst z (h-l).toNat fun i=>f (l.toNat+i))))))
   | .va (.c (.osl k z o n))=>kH lo 0 fun l=>kH hi n fun h=>kH mx n fun m=>(z=sz/\ (0<=l/\ l<=h)/\ (h<=m/\ m<=n))/\ (z=sz->0<=l->l<=h->h<=m->m<=n->K (.va (.c (.osl k z (o+l.toNat) (h-l).toNat))))
   | .va (.c (.osc k z o n c))=>match mx with
     |none=>kH lo 0 fun l=>kH hi n fun h=>(z=sz/\ (0<=l/\ l<=h)/\ h<=c)/\ (z=sz->0<=l->l<=h->h<=c->K (.va (.c (.osc k z (o+l.toNat) (h-l).toNat (c-l.toNat)))))
     |some _=>False
   | .va (.c (.d (.v (.slice none 0 0))))=>kH lo 0 fun l=>kH hi 0 fun h=>kH mx 0 fun m=>(l=0/\ h=0/\ m=0)/\ (l=0->h=0->m=0->K (.va (.c (.d (.v (.slice none 0 0))))))
   |_=>False
  |none=>False
 |_=>False
def aDJ (t:TypeId) (x ix:Tm) (K:Tm->Prop):Prop:=
 match τ t with
 |some ⟨.string,_,_,_⟩=>match x,cZ ix with
  | .va (.c (.d (.v (.string s)))),some (.int _ i)=>(0<=i/\ i<s.size)/\ (0<=i->i<s.size->K (vx (.int .u8 (aBi s i.toNat))))
  |_,_=>False
 |some ⟨.array len e,_,_,_⟩=>match τ e with
  |some ⟨de,sz,_,_⟩=>match x,cZ ix with
   | .va (.agg cs),some (.int _ i)=>(0<=i/\ i<len)/\ aDI i (fun j=>match gG (cs.drop (j*sz)) sz with
     |some cs=>match kG (jZ de) cs with
      |some y=>K (.va y)
      |none=>False
     |none=>False) len
   |_,_=>False
  |none=>False
 |_=>False
def aA2:List Tm->Option (List (Nat×Nat))
 | []=>some []
 | .va (.c (.own k off))::l=>match aA2 l with
   |some ps=>some ((k,off)::ps)
   |none=>none
 |_=>none
def aD4 (x:Tm) (K:Tm->Prop):Prop:=match x with
 | .va (.c (.own a b))=>K (.va (.c (.own a b)))
 | .va (.c (.ep a b c d))=>K (.va (.c (.ep a b c d)))
 | .va (.c (.rp cs))=>K (.va (.c (.rp cs)))
 | .va (.c (.fn a b))=>K (.va (.c (.fn a b)))
 | .va (.c (.fv g))=>K (.va (.c (.fv g)))
 |_=>False
def qC (op:Op) (aj:Operand->Tm) (K:Tm->Prop):Prop:=
 match op with
 | .slice t x lo hi mx=>match !mx.isSome||hi.isSome with
   |true=>aBk τ t (aj x) (lo.map aj) (hi.map aj) (mx.map aj) K
   |false=>False
 | .index t x ix=>aDJ τ t (aj x) (aj ix) K
 | .nilCheck x=>aD4 (aj x) K
 | .makeFunc (.func f) first aq=>match first.toList,aA2 (aq.toList.map aj) with
   | [],some ps=>K (.va (.c (.fn f ps)))
   |_,_=>False
 | .makeInterface t x=>match cZ (aj x) with
   |some a=>eF (dY P (Instr.makeInterface t a)) K
   |_=>False
 |_=>False
def bFl:TypeDesc->Bool
 | .string=>true
 |_=>false
def aMh:Value->Bool
 | .int _ _=>true
 | .string _=>true
 | .bool _=>true
 |_=>false
def aMi (xs:List Value) (f:Field):Bool:=
 match τ f.type with
 |some ⟨d,sz,_,_⟩=>(match d with
  | .int _=>true
  | .string=>true
  | .bool=>true
  |_=>false)&&(match gG (xs.drop f.offset) sz with
  |some (_::_)=>true
  |_=>false)
 |none=>false
def vD:List Value->Bool
 | [.string _]=>true
 |_=>false
def iH:List Value->Value
 | [.string s]=> .string s
 |xs=> .agg xs.toArray
def aSE (kt:TypeId) (xs:List Value):Bool:=
 match τ kt with
 |some ⟨.struct fs,_,⟨_,true⟩,_⟩=> !vD xs&&(fs.toList.all (aMi τ xs)&&xs.all aMh)
 |_=>false
def aLu (kt:TypeId) (x:Tm):Option (List Value):=
 match x with
 | .va (.agg cs)=>match bY aCV cs with
   |some xs=>match aSE τ kt xs with
    |true=>some xs
    |false=>none
   |none=>none
 | .va (.c (.d (.v (.string s))))=>match τ kt with
   |some ⟨.string,_,_,_⟩=>some [.string s]
   |_=>none
 |_=>none
def pU (kt:TypeId) (xs:List Value):List (List Value×Va)->Nat->(Option (Nat×List Value×Va)->Prop)->Prop
 | [],_,K=>K none
 |(ys,v)::es,i,K=>match vD ys==vD xs,vC τ 50 kt xs ys with
  |true,some b=>(b=true->K (some (i,ys,v)))/\ (b=false->pU kt xs es (i+1) K)
  |_,_=>False
def aRD:Value->Va
 | .agg cs=> .agg (cs.toList.map fun x=> .d (.v x))
 |x=> .c (.d (.v x))
def fVl {α:Type}:List Value->(List Value->α)->α
 | [],k=>k []
 |x::xs,k=>fV x fun x=>fVl xs fun xs=>k (x::xs)
def fEs {α:Type}:List (List Value×Va)->(List (List Value×Va)->α)->α
 | [],k=>k []
 |(a,v)::l,k=>fVl a fun a=>fVa v fun v=>fEs l fun l=>k ((a,v)::l)
def aMj (ok:Bool) (x:Va) (b:Bool):Tm:=match ok with
 |true=> .tup [x,.c (.kb b)]
 |false=> .va x
def mX (h:List (Nat×aB)) (t:TypeId) (m k:Tm) (ok:Bool) (K:Tm->Prop):Prop:=
 match τ t,m with
 |some ⟨.map kt et,_,_,_⟩,.va (.c (.mp b))=>match aLu τ kt k,aF h b,τ et with
  |some xs,.map es _,some ⟨_,_,_,z⟩=>pU τ kt xs es 0 fun r=>match r with
   |some (_,_,v)=>K (aMj ok v true)
   |none=>K (aMj ok (aRD z) false)
  |_,_,_=>False
 |_,_=>False
def iU (op:Op) (ty:TypeId) (aj:Operand->Tm) (h:List (Nat×aB)) (K:Tm->Prop):Prop:=
 match op with
 | .move x=>K (aj x)
 | .assign x=>K (aj x)
 | .pick c a b=>match aj c with
   | .va (.c (.kb true))=>K (aj a)
   | .va (.c (.kb false))=>K (aj b)
   |_=>False
 | .load t a=>sV τ h t (aj a) K
 | .fieldAddr s a f=>aAL τ s (aj a) f K
 | .build t parts=>zH τ aj t parts.toList K
 | .indexAddr t x ix=>aAM τ t (aj x) (aj ix) K
 | .field t x f=>aBj τ t (aj x) f K
 | .binOp op t x y _=>match aj x,aj y with
   | .va (.agg xs),.va (.agg ys)=>oEq τ op t xs ys K
   | .va (.c (.own _ _)),.va (.c (.d (.v (.pointer none))))=>aB3 τ op t K
   |_,_=>aAo P aj op t x y K
 | .unOp op _ x=>match cZ (aj x) with
   |some a=>eF (dY P (Op.unary op a)) K
   |_=>False
 | .convert s t x=>match cZ (aj x) with
   |some a=>eF (dY P (convert s t a)) K
   |_=>False
 | .lookup t x ix ok=>mX τ h t (aj x) (aj ix) ok K
 | .extract t i=>match aj t with
   | .tup xs=>match xs[i]? with
     |some y=>K (.va y)
     |none=>False
   |_=>False
 | .call c=>match c.callee with
   | .builtin .len=>aB4 P τ c.argTypes ty (bY (fun x=>gK (aj x)) c.args.toList) K
   | .builtin .min=>match bY (fun x=>cZ (aj x)) c.args.toList with
     |some as=>eF (dY P (Builtin.min_ c.argTypes ty as.toArray)) K
     |none=>False
   | .builtin .max=>match bY (fun x=>cZ (aj x)) c.args.toList with
     |some as=>eF (dY P (Builtin.max_ c.argTypes ty as.toArray)) K
     |none=>False
   | .builtin .cap=>aB5 P τ c.argTypes ty (bY (fun x=>gK (aj x)) c.args.toList) K
   | .builtin .real=>match bY (fun x=>cZ (aj x)) c.args.toList with
     |some as=>eF (dY P (Builtin.real_ c.argTypes ty as.toArray)) K
     |none=>False
   | .builtin .imag=>match bY (fun x=>cZ (aj x)) c.args.toList with
     |some as=>eF (dY P (Builtin.imag_ c.argTypes ty as.toArray)) K
     |none=>False
   | .builtin .complex=>match bY (fun x=>cZ (aj x)) c.args.toList with
     |some as=>eF (dY P (Builtin.complex_ c.argTypes ty as.toArray)) K
     |none=>False
   |_=>False
 |op=>qC P τ op aj K
def aSF (ts:List (List DV)):Nat->List DV:=fun i=>ts.getD i []
def sO (zs:List aL) (n:Nat):List aL:=(List.range n).map fun i=>(zs[i%zs.length]?).getD .top
def rowAt (sz:Nat) (ds:List DV):Nat->List DV:=fun i=>(ds.drop (i*sz)).take sz
def aH3 (st:St) (dst:Option Tmp) (t:TypeId) (len:Nat) (parts:List (Nat×Operand)) (K:St->Prop):Prop:=
 match τ t with
 |some ⟨.slice e,_,_,_⟩=>match τ e with
  |some ⟨_,sz,_,z⟩=>match Nat.ble (len*sz) 16777216,Nat.beq (cW z).length sz,Nat.blt 0 sz,iP sz (ev st) parts (sO (cW z) (len*sz)) with
   |true,true,true,some cs=>jW st.heap cs fun ds=>oW ds fun ds=>aFu st dst sz len (rowAt sz ds) K
   |_,_,_,_=>False
  |none=>False
 |_=>False
def aH9 (st:St) (dst:Option Tmp) (t:TypeId) (l c:Tm) (K:St->Prop):Prop:=
 match τ t,cZ l,cZ c with
 |some ⟨.slice e,_,_,_⟩,some (.int _ l),some (.int _ c)=>match τ e with
  |some ⟨_,sz,⟨kx,_⟩,z⟩=>match decide (0<=l/\ l<=c/\ c*kx<=281474976710656/\ c<=16777216),Nat.beq (cW z).length sz,Nat.blt 0 sz with
   |true,true,true=>jW st.heap (sO (cW z) (c.toNat*sz)) fun ds=>oW ds fun ds=>aFu st dst sz l.toNat (rowAt sz ds) K
   |_,_,_=>False
  |none=>False
 |_,_,_=>False
def mW (h:List (Nat×aB)) (aj:Operand->Tm) (t:TypeId) (len:Nat) (parts:List (Nat×Operand)) (K:Tm->Prop):Prop:=
 match τ t with
 |some ⟨.slice e,_,_,_⟩=>match τ e with
  |some ⟨_,sz,_,z⟩=>match Nat.ble (len*sz) 16777216,Nat.beq (cW z).length sz,Nat.blt 0 sz,iP sz aj parts (sO (cW z) (len*sz)) with
   |true,true,true,some cs=>jW h cs fun ds=>oW ds fun ds=>K (.va (.c (.d (.lst sz len (rowAt sz ds)))))
   |_,_,_,_=>False
  |none=>False
 |_=>False
def aF3 (h:List (Nat×aB)) (k0:Option Nat) (sz:Nat) (x:Va) (K:Nat->(Nat->List DV)->Prop):Prop:=
 match x with
 | .c (.d (.lst z n g))=>z=sz/\ (z=sz->K n g)
 | .c (.d (.v (.slice none 0 0)))=>K 0 (fun _=> [])
 | .c (.osl k z o len)=>match aF h k,k0 with
   | .row z' n g,some k0=>match Nat.beq k k0,Nat.beq z' sz with
     |false,true=>(z=sz/\ o+len<=n)/\ (z=sz->o+len<=n->K len fun i=>g (o+i))
     |_,_=>False
   | .row z' n g,none=>match Nat.beq z' sz with
     |true=>(z=sz/\ o+len<=n)/\ (z=sz->o+len<=n->K len fun i=>g (o+i))
     |_=>False
   | .fzr z' n g,_=>match Nat.beq z' sz with
     |true=>(z=sz/\ o+len<=n)/\ (z=sz->o+len<=n->K len fun i=>g (o+i))
     |_=>False
   |_,_=>False
 |_=>False
def dG (n:Nat) (f g:Nat->List DV):Nat->List DV:=fun i=>if i<n then f i else g (i-n)
def aJA (st:St) (dst:Option Tmp) (ts:List TypeId) (as:Option (List Va)) (K:St->Prop):Prop:=
 match ts,as,st with
 | [t,u],some [s,x],⟨gj,h,n,m⟩=>match τ t,τ u with
   |some ⟨.slice e,_,_,_⟩,some ⟨.slice _,_,_,_⟩=>match τ e with
    |some ⟨_,sz,⟨kx,_⟩,z⟩=>match Nat.beq (cW z).length sz,Nat.blt 0 sz,Nat.blt 0 kx with
     |true,true,true=>match s with
      | .c (.d (.v (.slice none 0 0)))=>aF3 h none sz x fun q g=>q*kx<=140737488355328/\ bG ⟨gj,(n,.row sz q g)::h,n+1,m⟩ dst (.va (.c (.osl n sz 0 q))) K
      | .c (.osl k z o len)=>match aF h k,Nat.beq o 0 with
        | .row z' ln f,true=>match Nat.beq z' sz with
          |true=>(z=sz/\ len<=ln)/\ aF3 h (some k) sz x fun q g=>(len+q)*kx<=140737488355328/\
           bG ⟨gj,(n,.row sz (len+q) (dG len f g))::(k,.gone)::h,n+1,m⟩ dst (.va (.c (.osl n sz 0 (len+q)))) K
          |false=>False
        |_,_=>False
      |_=>False
     |_,_,_=>False
    |none=>False
   |some ⟨.slice e,_,_,_⟩,some ⟨.int _,_,_,_⟩=>match τ e with
    |some ⟨_,sz,⟨kx,_⟩,z⟩=>match Nat.beq (cW z).length sz,Nat.blt 0 sz,Nat.blt 0 kx with
     |true,true,true=>match s,x with
      | .c (.d (.v (.slice none 0 0))),.c (.d (.v (.int .i64 q)))=>jW h (cW z) fun ds=>(0<=q/\ q*kx<=140737488355328)/\
        (0<=q->bG ⟨gj,(n,.row sz q.toNat (fun _=>ds))::h,n+1,m⟩ dst (.va (.c (.osl n sz 0 q.toNat))) K)
      |_,_=>False
     |_,_,_=>False
    |none=>False
   |_,_=>False
 |_,_,_=>False
def aIV:List Va->Bool
 | [.c (.d (.v (.slice none 0 0))),.c (.d (.v (.slice none 0 0)))]=>true
 | [.c (.d (.v (.slice none 0 0))),.c (.osl _ _ _ 0)]=>true
 | [.c (.d (.v (.slice none 0 0))),.c (.d (.lst _ 0 _))]=>true
 |_=>false
def aJB (st:St) (dst:Option Tmp) (ts:List TypeId) (K:St->Prop):Prop:=
 match ts with
 | [t,u]=>match τ t,τ u with
   |some ⟨.slice e,_,_,_⟩,some ⟨.slice _,_,_,_⟩=>match τ e with
    |some _=>bG st dst (vx (.slice none 0 0)) K
    |none=>False
   |_,_=>False
 |_=>False
def oF (f:Nat->List DV) (o len:Nat) (ds:List DV):Nat->List DV:=fun i=>if o<=i/\ i<o+len then ds else f i
def aKz (st:St) (dst:Option Tmp) (ts:List TypeId) (as:Option (List Va)) (K:St->Prop):Prop:=
 match ts,as,st with
 | [t],some [.c (.osl k z o len)],⟨gj,h,n,m⟩=>match τ t,aF h k with
   |some ⟨.slice e,_,_,_⟩,.row sz ln f=>match τ e with
    |some ⟨_,cd,_,zv⟩=>match Nat.beq sz z,Nat.beq sz cd,Nat.beq (cW zv).length sz with
     |true,true,true=>jW h (cW zv) fun ds=>o+len<=ln/\ (o+len<=ln->bG ⟨gj,(k,.row sz ln (oF f o len ds))::h,n,m⟩ dst (.tup []) K)
     |_,_,_=>False
    |none=>False
   |_,_=>False
 |_,_,_=>False
def yB:Va->Va
 | .c (.osc k z o len _)=> .c (.osl k z o len)
 |x=>x
def aLv (h:List (Nat×aB)) (sz:Nat) (x:Va) (lim:Nat) (K:Nat->(Nat->List DV)->Prop):Prop:=
 match x with
 | .c (.d (.lst z n g))=>z=sz/\ (z=sz->K (min n lim) g)
 | .c (.osl k z o len)=>match aF h k with
   | .row z' n g=>match Nat.beq z' sz with
     |true=>(z=sz/\ o+min len lim<=n)/\ (z=sz->o+min len lim<=n->K (min len lim) fun i=>g (o+i))
     |_=>False
   |_=>False
 |_=>False
def qX (f:Nat->List DV) (o q:Nat) (g:Nat->List DV):Nat->List DV:=fun i=>if o<=i/\ i<o+q then g (i-o) else f i
def aLw (st:St) (dst:Option Tmp) (ts:List TypeId) (as:Option (List Va)) (K:St->Prop):Prop:=
 match ts,as,st with
 | [t,_],some [.c (.osl k z o len),x],⟨gj,h,n,m⟩=>match τ t,aF h k with
   |some ⟨.slice e,_,_,_⟩,.row sz ln f=>match τ e with
    |some ⟨_,cd,_,_⟩=>match Nat.beq sz z,Nat.beq sz cd,Nat.blt 0 sz with
     |true,true,true=>aLv h sz x len fun q g=>o<=ln/\ (o<=ln->bG ⟨gj,(k,.row sz (max ln (o+q)) (qX f o q g))::h,n,m⟩ dst (vx (.int .i64 q)) K)
     |_,_,_=>False
    |none=>False
   |_,_=>False
 |_,_,_=>False
def aIW (st:St) (dst:Option Tmp) (ts:List TypeId) (k z o len c:Nat) (q:Int) (K:St->Prop):Prop:=
 match ts,st with
 | [t,u],⟨gj,h,n,m⟩=>match τ t,τ u,aF h k with
   |some ⟨.slice e,_,_,_⟩,some ⟨.int _,_,_,_⟩,.row sz ln f=>match τ e with
    |some ⟨_,cd,⟨kx,_⟩,zv⟩=>match Nat.beq sz z,Nat.beq sz cd,Nat.beq (cW zv).length sz,Nat.blt 0 sz,Nat.blt 0 kx with
     |true,true,true,true,true=>jW h (cW zv) fun ds=>(0<=q/\ o+len<=ln/\ (c:Int)<len+q/\ (len+q)*kx<=140737488355328)/\
      (0<=q->bG ⟨gj,(n,.row sz (len+q.toNat) (dG len (fun i=>f (o+i)) fun _=>ds))::h,n+1,m⟩ dst (.va (.c (.osl n sz 0 (len+q.toNat)))) K)
     |_,_,_,_,_=>False
    |none=>False
   |_,_,_=>False
 |_,_=>False
def aGK (x:Tm) (K:(Bool->Prop)->Prop):Prop:=match x with
 | .va (.c (.d (.lst _ n _)))=>K (fun b=>b=true->n=0)
 | .va (.c (.osl _ _ _ n))=>K (fun b=>b=true->n=0)
 | .va (.c (.d (.v (.slice none 0 0))))=>K (fun b=>b=true)
 |_=>False
def aMk (st:St) (dst:Option Tmp) (op:BinOp) (t:TypeId) (x:Tm) (K:St->Prop):Prop:=
 match τ t,op with
 |some ⟨.slice _,_,_,_⟩,.eql=>aGK x fun ok=> ∀b,ok b->bG st dst (vx (.bool b)) K
 |some ⟨.slice _,_,_,_⟩,.neq=>aGK x fun ok=> ∀b,ok b->bG st dst (vx (.bool (!b))) K
 |_,_=>False
def aF4:Operand->Bool
 | .const (.slice none 0 0)=>true
 |_=>false
def zI {α:Type} (h:List (Nat×aB)) (c:aL) (K:List (Nat×aB)->α):α:=
 match c with
 | .osl k _ _ _=>match aF h k with
   | .row sz n f=>K ((k,.fzr sz n f)::h)
   |_=>K h
 |_=>K h
def pM {α:Type}:List (Nat×aB)->List aL->(List (Nat×aB)->α)->α
 |h,[],K=>K h
 |h,c::cs,K=>zI h c fun h=>pM h cs K
def aJC (st:St) (dst:Option Tmp) (t:TypeId) (p x:Tm) (K:St->Prop):Prop:=
 match x,p,st with
 | .va y,.va (.c (.ep k z i off)),⟨ts,h,n,l⟩=>pM h y.cells fun h=>aF2 τ ⟨ts,h,n,l⟩ dst t (.va (.c (.ep k z i off))) (.va y) K
 |x,p,st=>aF2 τ st dst t p x K
def aHY (st:St) (dst:Option Tmp) (t:TypeId) (len:Nat) (parts:List (Nat×Operand)) (K:St->Prop):Prop:=
 match τ t with
 |some ⟨.slice e,_,_,_⟩=>match τ e with
  |some ⟨_,sz,_,z⟩=>match iP sz (ev st) parts (sO (cW z) (len*sz)),st with
   |some cs,⟨ts,h,n,m⟩=>pM h cs fun h=>aH3 τ ⟨ts,h,n,m⟩ dst t len parts K
   |none,_=>False
  |none=>False
 |_=>False
def aB6 (x:Tm):Tm:=match x with
 | .va (.c (.d (.v (.func (.func f) ⟨[]⟩ ⟨[]⟩))))=> .va (.c (.fn f []))
 |x=>x
def sZ (calls:Nat->List Va->St->(Tm->St->Prop)->Prop) (o:Oper) (st:St) (K:St->Prop):Prop:=
 match o.op with
 | .pick c a b=>
   match c with
   | .tmp s=>sU st s fun st t=>match t with
     |some true=>bG st o.dst (ev st a) K
     |some false=>bG st o.dst (ev st b) K
     |none=>False
   |_=>False
 | .alloc e=>aKy τ st o.dst e K
 | .box _ x=>aMf st o.dst (ev st x) K
 | .store t a x=>aJC τ st o.dst t (ev st a) (ev st x) K
 | .buildSlice t len parts=>aHY τ st o.dst t len parts.toList K
 | .makeSlice t l c=>aH9 τ st o.dst t (ev st l) (ev st c) K
 | .call c=>match c.callee with
   | .value f=>match aB6 (ev st f),bY (fun x=>gK (ev st x)) c.args.toList with
     | .va (.c (.fn f aq)),some as=>aAm (as++aq.map fun p=> .c (.own p.1 p.2)) fun as=>calls f as st fun r st=>bG st o.dst r K
     | .va (.c (.fv g)),some as=>sM st.heap as fun cs=>match g cs with
       |some ⟨pre,r⟩=>pre/\ (pre->bG st o.dst (aAn r) K)
       |none=>False
     |_,_=>False
   | .builtin .append=>match bY (fun x=>gK (ev st x)) c.args.toList with
     |some [.c (.osc k z o' len cap),.c (.d (.v (.int .i64 q)))]=>aIW τ st o.dst c.argTypes.toList k z o' len cap q K
     |some as=>match aIV as with
      |true=>aJB τ st o.dst c.argTypes.toList K
      |false=>aJA τ st o.dst c.argTypes.toList (some (as.map yB)) K
     |none=>False
   | .builtin .copy=>match bY (fun x=>gK (ev st x)) c.args.toList with
     |some as=>aLw τ st o.dst c.argTypes.toList (some (as.map yB)) K
     |none=>False
   | .builtin .clear=>aKz τ st o.dst c.argTypes.toList (bY (fun x=>gK (ev st x)) c.args.toList) K
   |_=>iU P τ (.call c) o.type (ev st) st.heap fun x=>bG st o.dst x K
 | .binOp op t x y ty=>match aF4 y with
   |true=>aMk τ st o.dst op t (ev st x) K
   |false=>iU P τ (.binOp op t x y ty) o.type (ev st) st.heap fun x=>bG st o.dst x K
 |op=>iU P τ op o.type (ev st) st.heap fun x=>bG st o.dst x K
def nG (all:List Oper) (j:Nat):Option Tmp:=
 match all[j]? with
 |some ⟨d,_,_,_,_,_⟩=>d
 |none=>none
def nH (calls:Nat->List Va->St->(Tm->St->Prop)->Prop) (all:List Oper) (l:List Oper):St->(St->Prop)->Prop:=
 List.rec (motive:=fun _=>St->(St->Prop)->Prop) (fun st K=>K st) (fun o _ ih st K=>
  match o.guard with
  |none=>sZ P τ calls o st fun st=>ih st K
  |some (j,want)=>
   match nG all j with
   |none=>False
   |some s=>sU st s fun st b=>
    match b==some want with
    |true=>sZ P τ calls o st fun st=>ih st K
    |false=>bG st o.dst kU fun st=>ih st K) l
theorem aNR (calls:Nat->List Va->St->(Tm->St->Prop)->Prop) (all:List Oper) (o:Oper) (rest:List Oper) (st:St) (K:St->Prop):nH P τ calls all (o::rest) st K=
 (match o.guard with
 |none=>sZ P τ calls o st fun st=>nH P τ calls all rest st K
 |some (j,want)=>
  match nG all j with
  |none=>False
  |some s=>sU st s fun st b=>
   match b==some want with
   |true=>sZ P τ calls o st fun st=>nH P τ calls all rest st K
   |false=>bG st o.dst kU fun st=>nH P τ calls all rest st K):=rfl
end
inductive Loc where
 |virt
 |at (b m:Nat)
abbrev aJ:=Nat->Option Loc
def mC:Value->Prop
 | .agg _=>False
 | .tuple _=>False
 |_=>True
def aG {α β:Type} (R:α->β->Prop):List α->List β->Prop
 | [],[]=>True
 |x::xs,y::ys=>R x y/\ aG R xs ys
 |_,_=>False
theorem aG.mono {α β:Type} {R R':α->β->Prop} (h: ∀x y,R x y->R' x y): ∀{xs ys},aG R xs ys->aG R' xs ys
 | [],[],_=>trivial
 |_::_,_::_,⟨a,b⟩=>⟨h _ _ a,aG.mono h b⟩
theorem aG.length {α β:Type} {R:α->β->Prop}: ∀{xs ys},aG R xs ys->xs.length=ys.length
 | [],[],_=>rfl
 |_::_,_::_,⟨_,b⟩=>by simp [aG.length b]
theorem aG.append {α β:Type} {R:α->β->Prop}: ∀{xs ys ga ff},aG R xs ys->aG R ga ff->aG R (xs++ga) (ys++ff)
 | [],[],_,_,_,h=>h
 |_::_,_::_,_,_,⟨a,b⟩,h=>⟨a,aG.append b h⟩
theorem aG.drop {α β:Type} {R:α->β->Prop}: ∀{xs ys} (n:Nat),aG R xs ys->aG R (xs.drop n) (ys.drop n)
 |_,_,0,h=>by simpa using h
 | [],[],_+1,_=>by simp [aG]
 |_::_,_::_,n+1,⟨_,b⟩=>by simpa using aG.drop n b
theorem aG.map_left {α β γ:Type} {R:α->β->Prop} {R':γ->β->Prop} (f:α->γ) (h: ∀x y,R x y->R' (f x) y): ∀{xs ys},aG R xs ys->aG R' (xs.map f) ys
 | [],[],_=>trivial
 |_::_,_::_,⟨a,b⟩=>⟨h _ _ a,aG.map_left f h b⟩
theorem aG.get {α β:Type} {R:α->β->Prop}: ∀{xs ys} (i:Nat),aG R xs ys-> ∀x,xs[i]? =some x-> ∃y,ys[i]? =some y/\ R x y
 | [],[],_,_,x,h=>by simp at h
 |a::_,b::_,0,⟨r,_⟩,x,h=>⟨b,by simp,by simp at h;exact h▸r⟩
 |_::_,_::_,i+1,⟨_,r⟩,x,h=>by simpa using aG.get i r x w7
theorem aG.of_get {α β:Type} {R:α->β->Prop}: ∀{xs:List α} {ys:List β},xs.length=ys.length->(∀(i:Nat) (x:α) (y:β),xs[i]? =some x->ys[i]? =some y->R x y)->aG R xs ys
 | [],[],_,_=>trivial
 | [],_::_,h,_=>by simp at h
 |_::_,[],h,_=>by simp at h
 |a::xs,b::ys,h,g=>⟨g 0 a b j8 j8,aG.of_get w7 fun i x y hx hy=>g (i+1) x y j0h (by simpa using hy)⟩
inductive aZ (S:Nat->Prop) (w:World):DV->Value->Prop
 |v {x:Value}:mC x->aZ S w (.v x) x
 |nil {sz:Nat} {f:Nat->List DV} {a:Option Addr} {c:Nat}:aZ S w (.lst sz 0 f) (.slice a 0 c)
 |lst {sz n:Nat} {f:Nat->List DV} {b off c:Nat} (g:Nat->Nat->Value):S b->(∀i,i<n->(f i).length=sz)->
   (∀i j,i<n->j<sz->w.cell? ⟨b,off+i*sz+j,none⟩=some (g i j))->
   (∀i j,i<n->j<sz->aZ S w ((f i).getD j (.v (.bool false))) (g i j))->n<=c->aZ S w (.lst sz n f) (.slice (some ⟨b,off,none⟩) n c)
theorem aZ.scalar {S:Nat->Prop} {w:World} {x:DV} {v:Value} (h:aZ S w x v):mC v:=by
 cases h with
 |v h=>exact h
 |nil=>trivial
 |lst=>trivial
def cT (S:Nat->Prop) (w:World) (S':Nat->Prop) (w':World):Prop:=(∀b,S b->S' b)/\ ∀b,S b->w'.heap[b]? =w.heap[b]?
theorem cT.refl (S:Nat->Prop) (w:World):cT S w S w:=⟨fun _ h=>h,fun _ _=>rfl⟩
theorem cT.trans {S S' nk:Nat->Prop} {w w' o7:World} (h:cT S w S' w') (h':cT S' w' nk o7):cT S w nk o7:=
 ⟨fun b hb=>h'.1 b (h.1 b hb),fun b hb=>(h'.2 b (h.1 b hb)).trans (h.2 b hb)⟩
theorem aEH {w w':World} {b off:Nat} (h:w'.heap[b]? =w.heap[b]?):w'.cell? ⟨b,off,none⟩=w.cell? ⟨b,off,none⟩:=by
 simp only [World.cell?,h]
theorem aZ.later {S S':Nat->Prop} {w w':World} {x:DV} {v:Value} (h:aZ S w x v) (l:cT S w S' w'):aZ S' w' x v:=by
 induction h with
 |v h=>exact .v h
 |nil=>exact .nil
 |lst g hS hl hc _ hn ih=>exact .lst g (l.1 _ hS) hl (fun i j hi hj=>by rw [aEH (l.2 _ hS)];exact hc i j hi hj) ih hn
def pV (S:Nat->Prop) (w:World):Cv->Value->Prop
 | .c x,v=>aZ S w x v
 | .agg xs,v=> ∃arr:Array Value,v= .agg arr/\ aG (aZ S w) xs arr.toList
def aD5 (S:Nat->Prop) (w:World):Ct->Value->Prop
 | .va x,v=>pV S w x v
 | .tup xs,v=> ∃arr:Array Value,v= .tuple arr/\ aG (pV S w) xs arr.toList
structure aB7 (S:Nat->Prop) (w:World) (S':Nat->Prop) (w':World):Prop where
 os:w'.os=w.os
 tape:w'.tape=w.tape
 output:w'.output=w.output
 grow:w.heap.size<=w'.heap.size
 old: ∀b,b<w.heap.size->w'.heap[b]? =w.heap[b]?
 sub: ∀b,S b->S' b
 newS: ∀b,S' b->S b \/w.heap.size<=b
 sdom: ∀b,S' b->b<w'.heap.size
structure gOk (name:String) (arr:Array Value):Prop where
 pow : name = "internal/strconv.uint64pow10" -> arr = ((List.range 20).map fun i => Value.int .u64 ((10 ^ i : Nat) : Int)).toArray
 max : name = "internal/bytealg.MaxLen" -> ∃ m, arr = #[.int .i64 m]
 err : name = "strconv.ErrRange" \/ name = "strconv.ErrSyntax" \/ name = "internal/strconv.ErrRange" \/ name = "internal/strconv.ErrSyntax" -> ∃ ev, arr = #[ev] /\ (ev = .nilIface \/ ∃ te pe, ev = .iface te pe)
def aKA:List String:= []
def xO (P:Program) (S:Nat->Prop) (w:World):Prop:= ∀g gl,P.globals[g]? =some gl->gl.name∈aKA->S g/\ ∃arr e fr,w.heap[g]? =some (.cells arr e fr)/\ gOk gl.name arr
structure vO (P:Program) (S:Nat->Prop) (w:World):Prop where
 lt: ∀b,S b->b<w.heap.size
 glob:xO P S w
instance {P:Program} {S:Nat->Prop} {w:World}:CoeFun (vO P S w) (fun _=> ∀b,S b->b<w.heap.size):=⟨vO.lt⟩
theorem xO.later {P:Program} {S S':Nat->Prop} {w w':World} (h:xO P S w) (l:cT S w S' w'):xO P S' w':=fun g gl hg hn=>by
 obtain ⟨h1,arr,e,fr,h2,h3⟩:=h g gl hg hn
 exact ⟨l.1 _ h1,arr,e,fr,by rw [l.2 _ h1];exact h2,h3⟩
theorem vO.later {P:Program} {S S':Nat->Prop} {w w':World} (h:vO P S w) (l:cT S w S' w') (hs: ∀b,S' b->b<w'.heap.size):vO P S' w':=⟨hs,h.glob.later l⟩
theorem xO.of_none {P:Program} {S:Nat->Prop} {w:World} (h0:P.globals.toList.all (fun gl=> !aKA.contains gl.name)=true):xO P S w:=fun g gl hg hn=>by
 have h1:gl∈P.globals.toList:=by
  obtain ⟨hi,e⟩:=Array.getElem?_eq_some_iff.1 hg
  rw [<-e];simp
 have h2:=List.all_eq_true.1 h0 gl h1
 have h3:aKA.contains gl.name=true:=List.contains_iff_mem.2 hn
 rw [h3] at h2;cases h2
def aAV (P : Program) (f : Nat) : Prop := ∃ fn c, P.funcs[f]? = some fn /\ fn.body = some c /\ (fn.name == "runtime.NumGoroutine") = false
theorem aOk {P:Program} {w:World} {f:Nat} (hc:aAV P f) (args:Array Value):(callFunc f args).run P w= .ok (.enter f args) w:=by
 obtain ⟨fn,c,h1,h2,h3⟩:=hc
 simp only [callFunc,Sem.run_bind,run_program,Result.andThen_ok,h1,h3,h2];rfl
def tC (P:Program) (f:Nat) (ak:Array Value) (w:World) (R:Ending->World->Prop):Prop:=
 (aAV P f/\ Calls P f ak w R) \/ ∃v w',(callFunc f ak).run P w= .ok (.value v) w'/\ R (.returned v) w'
theorem tC.mono {P:Program} {f:Nat} {ak:Array Value} {w:World} {R R':Ending->World->Prop} (h:tC P f ak w R) (hr: ∀e w',R e w'->R' e w'):tC P f ak w R':=by
 rcases h with ⟨h1,h2⟩|⟨v,w',h1,h2⟩
 . exact .inl ⟨h1,h2.mono hr⟩
 . exact .inr ⟨v,w',h1,hr _ _ h2⟩
theorem tC.calls {P:Program} {f:Nat} {ak:Array Value} {w:World} {R:Ending->World->Prop} (h:tC P f ak w R) (hc:aAV P f):Calls P f ak w R:=by
 rcases h with ⟨_,h2⟩|⟨v,w',h1,_⟩
 . exact h2
 . rw [aOk hc] at h1;simp at h1
def aAp (P:Program) (g:List Cv->Option Gs) (x:Value) (S:Nat->Prop) (w:World):Prop:=
 ∃f first aq,x= .func (.func f) first aq/\
  ∀S' w',cT S w S' w'->vO P S' w'-> ∀as pre r,g as=some ⟨pre,r⟩->pre-> ∀ak,aG (pV S' w') as ak->
   tC P f (first++ak.toArray++aq) w' fun e o7=> ∃v nk,e= .returned v/\ aD5 nk o7 r v/\ aB7 S' w' nk o7
def kI (P:Program) (ψ:aJ) (S:Nat->Prop) (w:World):aL->Value->Prop
 | .top,_=>True
 | .und,x=>x=undef
 | .kb b,x=>x= .bool b
 | .d y,x=>aZ S w y x
 | .own k off,x=> ∃b m,ψ k=some (.at b m)/\ x= .pointer (some ⟨b,off,none⟩)
 | .osl k sz o len,x=>(ψ k=some .virt/\ len=0/\ ∃a,x= .slice a 0 0) \/
    ∃b m c off,ψ k=some (.at b m)/\ x= .slice (some ⟨b,off,none⟩) len c/\ len<=c/\ (0<c->off=o*sz/\ (o+c)*sz<=m)
 | .osc k sz o len c,x=>(ψ k=some .virt/\ len=0/\ c=0/\ ∃a,x= .slice a 0 0) \/
    ∃b m off,ψ k=some (.at b m)/\ x= .slice (some ⟨b,off,none⟩) len c/\ len<=c/\ (0<c->off=o*sz/\ (o+c)*sz<=m)
 | .ep k sz i off,x=> ∃b m,ψ k=some (.at b m)/\ x= .pointer (some ⟨b,i*sz+off,none⟩)
 | .ap k base _ i,x=> ∃b m,ψ k=some (.at b m)/\ x= .pointer (some ⟨b,base+i,none⟩)
 | .rp cs,x=> ∃b off ys,x= .pointer (some ⟨b,off,none⟩)/\ S b/\ aG (aZ S w) cs ys/\ ∀j y,ys[j]? =some y->w.cell? ⟨b,off+j,none⟩=some y
 | .fn f aq,x=> ∃vs:Array Value,x= .func (.func f) #[] vs/\ aG (fun (p:Nat×Nat) y=> ∃b m,ψ p.1=some (.at b m)/\ y= .pointer (some ⟨b,p.2,none⟩)) aq vs.toList
 | .fv g,x=>aAp P g x S w
 | .mp k,x=> ∃b m,ψ k=some (.at b m)/\ x= .map (some b)
 | .fb f k off,x=> ∃b m,ψ k=some (.at b m)/\ x= .func (.func f) #[.pointer (some ⟨b,off,none⟩)] #[]
def dK (P:Program) (ψ:aJ) (S:Nat->Prop) (w:World) (c:aL) (x:Value):Prop:=kI P ψ S w c x/\ mC x
def bB (P:Program) (ψ:aJ) (S:Nat->Prop) (w:World):Va->Value->Prop
 | .c x,v=>kI P ψ S w x v
 | .agg cs,v=> ∃arr:Array Value,v= .agg arr/\ aG (dK P ψ S w) cs arr.toList
def dL (P:Program) (ψ:aJ) (S:Nat->Prop) (w:World):Tm->Value->Prop
 | .va x,v=>bB P ψ S w x v
 | .tup xs,v=> ∃arr:Array Value,v= .tuple arr/\ aG (bB P ψ S w) xs arr.toList
def cH (ψ aa:aJ):Prop:= ∀k l,ψ k=some l->aa k=some l
theorem cH.refl (ψ:aJ):cH ψ ψ:=fun _ _ h=>h
section mono
variable {P:Program} {ψ aa:aJ} {S S':Nat→Prop} {w w':World}
theorem aAp.later {g:List Cv->Option Gs} {x:Value} (h:aAp P g x S w) (l:cT S w S' w'):aAp P g x S' w':=by
 obtain ⟨f,first,aq,hx,h⟩:=h
 exact ⟨f,first,aq,hx,fun nk o7 l'=>h nk o7 (l.trans l')⟩
theorem kI.later {c:aL} {x:Value} (h:kI P ψ S w c x) (hp:cH ψ aa) (l:cT S w S' w'):kI P aa S' w' c x:=by
 cases c with
 |top=>trivial
 |und=>exact h
 |kb b=>exact h
 |d y=>exact aZ.later h l
 |own k off=>obtain ⟨b,m,h1,h2⟩:=h;exact ⟨b,m,hp _ _ h1,h2⟩
 |osl k sz o len=>
  rcases h with ⟨h1,h2⟩|⟨b,m,c,off,h1,h2⟩
  . exact .inl ⟨hp _ _ h1,h2⟩
  . exact .inr ⟨b,m,c,off,hp _ _ h1,h2⟩
 |osc k sz o len c=>
  rcases h with ⟨h1,h2⟩|⟨b,m,off,h1,h2⟩
  . exact .inl ⟨hp _ _ h1,h2⟩
  . exact .inr ⟨b,m,off,hp _ _ h1,h2⟩
 |ep k sz i off=>obtain ⟨b,m,h1,h2⟩:=h;exact ⟨b,m,hp _ _ h1,h2⟩
 |mp k=>obtain ⟨b,m,h1,h2⟩:=h;exact ⟨b,m,hp _ _ h1,h2⟩
 |fb f k off=>obtain ⟨b,m,h1,h2⟩:=h;exact ⟨b,m,hp _ _ h1,h2⟩
 |ap k base n i=>obtain ⟨b,m,h1,h2⟩:=h;exact ⟨b,m,hp _ _ h1,h2⟩
 |rp cs=>
  obtain ⟨b,off,ys,h1,h2,h3,h4⟩:=h
  exact ⟨b,off,ys,h1,l.1 _ h2,h3.mono fun _ _ h=>h.later l,fun j y hj=>by rw [aEH (l.2 _ h2)];exact h4 j y hj⟩
 |fn f aq=>obtain ⟨vs,h1,h2⟩:=h;exact ⟨vs,h1,h2.mono fun _ _ ⟨b,m,a,c⟩=>⟨b,m,hp _ _ a,c⟩⟩
 |fv g=>exact aAp.later h l
theorem dK.later {c:aL} {x:Value} (h:dK P ψ S w c x) (hp:cH ψ aa) (l:cT S w S' w'):dK P aa S' w' c x:=⟨h.1.later hp l,h.2⟩
theorem bB.later {c:Va} {x:Value} (h:bB P ψ S w c x) (hp:cH ψ aa) (l:cT S w S' w'):bB P aa S' w' c x:=by
 cases c with
 |c x=>exact kI.later h hp l
 |agg cs=>obtain ⟨arr,h1,h2⟩:=h;exact ⟨arr,h1,h2.mono fun _ _ h=>h.later hp l⟩
theorem dL.later {c:Tm} {x:Value} (h:dL P ψ S w c x) (hp:cH ψ aa) (l:cT S w S' w'):dL P aa S' w' c x:=by
 cases c with
 |va x=>exact bB.later h hp l
 |tup cs=>obtain ⟨arr,h1,h2⟩:=h;exact ⟨arr,h1,h2.mono fun _ _ h=>h.later hp l⟩
end mono
def aB.live:aB->Prop
 | .cells _=>True
 | .row _ _ _=>True
 | .it _ _=>True
 | .map _ _=>True
 |_=>False
def fE (P:Program) (ψ:aJ) (S:Nat->Prop) (w:World):aB->Loc->Prop
 | .gone,_=>True
 | .cells cs,.at b _=> ∃arr e,w.heap[b]? =some (.cells arr e (0,0))/\ aG (dK P ψ S w) cs arr.toList
 | .row _ n _,.virt=>n=0
 | .row sz n f,.at b m=> ∃arr e,w.heap[b]? =some (.cells arr e (0,0))/\ arr.size=m/\ n*sz<=m/\ (∀i,i<n->(f i).length=sz)/\
    ∀i j,i<n->j<sz->aZ S w ((f i).getD j (.v (.bool false))) (arr.getD (i*sz+j) undef)
 | .fz cs,.at b _=>S b/\ ∃arr e fr,w.heap[b]? =some (.cells arr e fr)/\ aG (aZ S w) cs arr.toList
 | .fzr sz n f,.at b m=>S b/\ ∃arr e fr,w.heap[b]? =some (.cells arr e fr)/\ arr.size=m/\ n*sz<=m/\ (∀i,i<n->(f i).length=sz)/\
    ∀i j,i<n->j<sz->aZ S w ((f i).getD j (.v (.bool false))) (arr.getD (i*sz+j) undef)
 | .fzr _ n _,.virt=>n=0
 | .it s p,.at b _=>w.heap[b]? =some (.stringIter s p)
 | .map es bc,.at b _=> ∃arr clock,w.heap[b]? =some (.map arr clock)/\ bc=clock::arr.toList.map (·.born)/\ aG (fun p (e:MapEntry)=>e.key=iH p.1/\ bB P ψ S w p.2 e.val) es arr.toList
 |_,_=>False
structure iV (P:Program) (ψ:aJ) (S:Nat->Prop) (w:World) (h:List (Nat×aB)) (next:Nat):Prop where
 dom: ∀k,next<=k->ψ k=none
 blk: ∀k l,ψ k=some l->fE P ψ S w (aF h k) l
 inj: ∀k k' b m m',ψ k=some (.at b m)->ψ k'=some (.at b m')->(aF h k).live->(aF h k').live->k=k'
 dis: ∀k b m,ψ k=some (.at b m)->(aF h k).live-> ¬S b
 pdom: ∀k b m,ψ k=some (.at b m)->b<w.heap.size
 sdom:vO P S w
structure aI (base:Nat) (ψ:aJ) (S:Nat->Prop) (w:World) (aa:aJ) (S':Nat->Prop) (w':World):Prop where
 os:w'.os=w.os
 tape:w'.tape=w.tape
 output:w'.output=w.output
 grow:w.heap.size<=w'.heap.size
 old: ∀b,b<w.heap.size->(∀k m,ψ k≠some (.at b m))->w'.heap[b]? =w.heap[b]?
 later:cT S w S' w'
 newS: ∀b,S' b->S b \/(∃k m,ψ k=some (.at b m)) \/w.heap.size<=b
 newP: ∀k b m,aa k=some (.at b m)->(∃k m,ψ k=some (.at b m)) \/w.heap.size<=b
 agr: ∀k,k<base->aa k=ψ k
theorem aI.refl (base:Nat) (ψ:aJ) (S:Nat->Prop) (w:World):aI base ψ S w ψ S w:=
 ⟨rfl,rfl,rfl,Nat.le_refl _,fun _ _ _=>rfl,cT.refl _ _,fun _ h=> .inl h,fun k _ m h=> .inl ⟨k,m,h⟩,fun _ _=>rfl⟩
theorem aI.trans {base:Nat} {ψ aa B8:aJ} {S S' nk:Nat->Prop} {w w' o7:World} (h:aI base ψ S w aa S' w') (g:aI base aa S' w' B8 nk o7):
 aI base ψ S w B8 nk o7 where
 os:=g.os.trans h.os
 tape:=g.tape.trans h.tape
 output:=g.output.trans h.output
 grow:=Nat.le_trans h.grow g.grow
 old b hb hp:=by
  rw [g.old b (Nat.lt_of_lt_of_le hb h.grow) ?_,h.old b hb hp];intro k m hk;rcases h.newP k b m hk with ⟨k',m',h'⟩|h'
  . exact hp k' m' h'
  . omega
 later:=h.later.trans g.later
 newS b hb:=by
  rcases g.newS b hb with h1|⟨k,m,h1⟩|h1
  . exact h.newS b h1
  . exact .inr (h.newP k b m h1)
  . exact .inr (.inr (Nat.le_trans h.grow h1))
 newP k b m hk:=by
  rcases g.newP k b m hk with ⟨k',m',h1⟩|h1
  . exact h.newP k' b m' h1
  . exact .inr (Nat.le_trans h.grow h1)
 agr k hk:=(g.agr k hk).trans (h.agr k hk)
structure aC (P:Program) (base:Nat) (ψ:aJ) (S:Nat->Prop) (w:World) (st:St) (a:Act):Prop where
 bas:base<=st.next
 sim:iV P ψ S w st.heap st.next
 lim:a.tmps.size=st.lim
 defers:a.defers= []
 tmps: ∀t,dL P ψ S w (aV st.tmps t) (a.tmps.getD t undef)
theorem aSG {α:Type} (x:Value) (k:Value->α):fV x k=k x:=by cases x<;>rfl
theorem xC {α:Type} (x:DV) (k:DV->α):fD x k=k x:=by cases x<;>simp [fD,aSG]
theorem aSH {α:Type} (x:aL) (k:aL->α):fC x k=k x:=by
 cases x with
 |kb b=>cases b<;>rfl
 |d x=>simp [fC,xC]
 |_=>rfl
theorem zJ {α:Type}: ∀(x:List aL) (k:List aL->α),tO x k=k x
 | [],_=>rfl
 |x::xs,k=>by simp only [tO,aSH,zJ xs]
theorem fJ {α:Type}: ∀(x:List DV) (k:List DV->α),oW x k=k x
 | [],_=>rfl
 |x::xs,k=>by simp only [oW,xC,fJ xs]
theorem aF5 {α:Type} (x:Va) (k:Va->α):fVa x k=k x:=by cases x<;>simp [fVa,aSH,zJ]
theorem uD {α:Type}: ∀(x:List Va) (k:List Va->α),aAm x k=k x
 | [],_=>rfl
 |x::xs,k=>by simp only [aAm,aF5,uD xs]
theorem oL {α:Type} (x:Tm) (k:Tm->α):fT x k=k x:=by cases x<;>simp [fT,aF5,uD]
structure bE (P:Program) (τ:bF):Prop where
 ok: ∀t i,τ t=some i-> ∃info,P.info? t=some info/\ P.underlying t=some i.desc/\ info.size=i.size/\ info.bytes=i.bytes.n/\ info.zero=some i.zero
 cmp : ∀ t i, τ t = some i -> i.bytes.cmp = true -> P.stoodInHeld t = false /\ P.eqGuardType P.depth t = false /\ ∀ fs, i.desc = .struct fs -> ∀ f ∈ fs.toList, f.name ≠ "_"
theorem aIX {P:Program} {τ:bF} (ab:bE P τ) {t:TypeId} {i:TI} (ht:τ t=some i) (w:World): ∃info,(typeInfo t).run P w= .ok info w/\ info.size=i.size/\ info.bytes=i.bytes.n/\ info.zero=some i.zero:=by
 obtain ⟨info,h1,_,h3,h4,h5⟩:=ab.ok t i ht
 exact ⟨info,by simp [typeInfo,h1],h3,h4,h5⟩
theorem jY {P:Program} {τ:bF} (ab:bE P τ) {t:TypeId} {i:TI} (ht:τ t=some i) (w:World):(sizeOf t).run P w= .ok i.size w:=by
 obtain ⟨info,h1,h2,_⟩:=aIX ab ht w
 simp [sizeOf,h1,h2]
theorem sJ {P:Program} {τ:bF} (ab:bE P τ) {t:TypeId} {i:TI} (ht:τ t=some i) (w:World):(zeroValue t).run P w= .ok i.zero w:=by
 obtain ⟨info,h1,_,_,h2⟩:=aIX ab ht w
 simp [zeroValue,h1,h2]
theorem fU {P:Program} {τ:bF} (ab:bE P τ) {t:TypeId} {i:TI} (ht:τ t=some i) (w:World):(underlying t).run P w= .ok i.desc w:=by
 obtain ⟨info,_,h2,_⟩:=ab.ok t i ht
 simp [underlying,h2]
theorem aFv {P:Program} {τ:bF} (ab:bE P τ) {t:TypeId} {i:TI} (ht:τ t=some i) (w:World):(isAgg t).run P w= .ok (jZ i.desc) w:=by
 simp only [isAgg,Sem.run_bind,fU ab ht w,Result.andThen_ok];cases i.desc<;>rfl
theorem aU8 {α:Type} {P:Program} {s:Sem α} {a:α} (h:dY P s=some a) (w:World):s.run P w= .ok a w:=by
 induction s with
 |pure b=>simp [dY] at h;simp [h]
 |program k ih=>simp only [dY] at h;simp only [Sem.run];exact ih P h
 |_=>simp [dY] at h
def aK (P:Program) (base:Nat) (ψ:aJ) (S:Nat->Prop) (w:World) (a:Act) (o:Oper) (K:St->Prop):Prop:=
 ∀(next:Act->World->Prop) (Q:Exit->Act->World->Prop),
  (∀st' aa S' w' a',K st'->aC P base aa S' w' st' a'->aI base ψ S w aa S' w'->next a' w')->o.wp P a w next Q
section
variable {P:Program} {base:Nat} {ψ aa:aJ} {S S':Nat→Prop} {w w':World} {st st1:St} {a:Act} {o:Oper} {K:St→Prop}
theorem cL (h:aC P base ψ S w st a) (x:Operand):dL P ψ S w (ev st x) (a.eval x):=by
 cases x with
 |tmp t=>exact h.tmps t
 |const v=>
  cases v<;>first|exact trivial|(refine aZ.v ?_;exact trivial)|rfl
 |global g=>trivial
 |func f=>exact ⟨#[],rfl,trivial⟩
theorem qT {dst:Option Tmp} {x:Tm} {v:Value} (hk:bG st dst x K) (h:aC P base ψ S w st a) (hx:dL P ψ S w x v):
 ∃st',K st'/\ aC P base ψ S w st' (a.put dst v):=by
 cases dst with
 |none=>exact ⟨st,hk,h⟩
 |some t=>
  obtain ⟨ts,hp,n,m⟩:=st
  simp only [bG] at hk;split at hk
  . rename_i hlt
    rw [oL] at hk;refine ⟨_,hk,⟨h.bas,h.sim,by simpa [Act.put] using h.lim,h.defers, ?_⟩⟩
    intro t'
    have CP:t<a.tmps.size:=by rw [h.lim];simpa [Nat.blt_eq] using hlt
    simp only [aV,Act.put];cases he:Nat.beq t t' with
    |true=>
     have:t=t':=Nat.eq_of_beq_eq_true he
     subst this;simp only [Array.getD_eq_getD_getElem?,Array.getElem?_setIfInBounds]
     simpa [CP] using hx
    |false=>
     have:t≠t':=Nat.ne_of_beq_eq_false he
     simp only [Array.getD_eq_getD_getElem?,Array.getElem?_setIfInBounds,this,if_false];have:=h.tmps t'
     simpa [Array.getD_eq_getD_getElem?] using this
  . exact hk.elim
theorem aK.value {x:Tm} {v:Value} (hr:(execOp a.eval o).run P w= .ok (.value v) w') (a6:aC P base aa S' w' st1 a)
 (hx:dL P aa S' w' x v) (hk:bG st1 o.dst x K) (he:aI base ψ S w aa S' w'):aK P base ψ S w a o K:=by
 intro next Q hn;obtain ⟨st',h1,h2⟩:=qT hk a6 hx
 simp only [Oper.wp,hr,Oper.upon];exact hn _ _ _ _ _ h1 h2 he
theorem aK.skip (hr:(execOp a.eval o).run P w= .ok .skip w') (a6:aC P base aa S' w' st1 a)
 (hk:bG st1 o.dst kU K) (he:aI base ψ S w aa S' w'):aK P base ψ S w a o K:=by
 intro next Q hn;obtain ⟨st',h1,h2⟩:=qT (v:=undef) hk a6 rfl
 simp only [Oper.wp,hr,Oper.upon];exact hn _ _ _ _ _ h1 h2 he
theorem fE.later {blk:aB} {l:Loc} (h:fE P ψ S w blk l) (hp:cH ψ aa) (hl:cT S w S' w')
 (hb: ∀b m,l= .at b m->w'.heap[b]? =w.heap[b]?):fE P aa S' w' blk l:=by
 cases blk with
 |gone=>cases l<;>trivial
 |cells cs=>
  cases l with
  |virt=>exact h.elim
  | «at» b m=>obtain ⟨arr,e,h1,h2⟩:=h;exact ⟨arr,e,by rw [hb b m rfl];exact h1,h2.mono fun _ _ h=>h.later hp hl⟩
 |row sz n f=>
  cases l with
  |virt=>exact h
  | «at» b m=>obtain ⟨arr,e,h1,h2,h3,h4,h5⟩:=h;exact ⟨arr,e,by rw [hb b m rfl];exact h1,h2,h3,h4,fun i j hi hj=>(h5 i j hi hj).later hl⟩
 |fz cs=>
  cases l with
  |virt=>exact h.elim
  | «at» b m=>obtain ⟨h0,arr,e,fr,h1,h2⟩:=h;exact ⟨hl.1 _ h0,arr,e,fr,by rw [hb b m rfl];exact h1,h2.mono fun _ _ h=>h.later hl⟩
 |it s p=>
  cases l with
  |virt=>exact h.elim
  | «at» b m=>show w'.heap[b]? =_;rw [hb b m rfl];exact h
 |map es bc=>
  cases l with
  |virt=>exact h.elim
  | «at» b m=>obtain ⟨arr,c,h1,h0,h2⟩:=h;exact ⟨arr,c,by rw [hb b m rfl];exact h1,h0,h2.mono fun _ _ h=>⟨h.1,h.2.later hp hl⟩⟩
 |fzr sz n f=>
  cases l with
  |virt=>exact h
  | «at» b m=>obtain ⟨h0,arr,e,fr,h1,h2,h3,h4,h5⟩:=h;exact ⟨hl.1 _ h0,arr,e,fr,by rw [hb b m rfl];exact h1,h2,h3,h4,fun i j hi hj=>(h5 i j hi hj).later hl⟩
theorem vZ (o:Obj) {b:Nat} (h:b<w.heap.size):(w.alloc o).heap[b]? =w.heap[b]? :=by
 simp only [World.alloc,Array.getElem?_push];simp [Nat.ne_of_lt h]
theorem tW (o:Obj):(w.alloc o).heap[w.heap.size]? =some o:=by simp only [World.alloc,Array.getElem?_push_size]
theorem tX (hs: ∀b,S b->b<w.heap.size) (o:Obj):cT S w S (w.alloc o):=⟨fun _ h=>h,fun b hb=>vZ o (hs b hb)⟩
def aJ.set (ψ:aJ) (n:Nat) (l:Loc):aJ:=fun k=>if k=n then some l else ψ k
theorem aJ.sub_set {n:Nat} {l:Loc} (h:ψ n=none):cH ψ (ψ.set n l):=by
 intro k l' hk
 have:k≠n:=fun e=>by subst e;rw [h] at hk;cases hk
 simp [aJ.set,this,hk]
theorem cY {h:List (Nat×aB)} {n k:Nat} {x:aB}:aF ((n,x)::h) k=if n=k then x else aF h k:=by
 simp only [aF];cases he:Nat.beq n k with
 |true=>simp [Nat.eq_of_beq_eq_true he]
 |false=>simp [Nat.ne_of_beq_eq_false he]
theorem aC.allocO {ts:List (Nat×Tm)} {h:List (Nat×aB)} {n m:Nat} {blk:aB} {mm:Nat} {o:Obj}
 (hr:aC P base ψ S w ⟨ts,h,n,m⟩ a) (hb:fE P (ψ.set n (.at w.heap.size mm)) S (w.alloc o) blk (.at w.heap.size mm)):
 aC P base (ψ.set n (.at w.heap.size mm)) S (w.alloc o) ⟨ts,(n,blk)::h,n+1,m⟩ a/\
  aI base ψ S w (ψ.set n (.at w.heap.size mm)) S (w.alloc o):=by
 have hn:ψ n=none:=hr.sim.dom n (Nat.le_refl _)
 have hl:=tX hr.sim.sdom o
 have hp:cH ψ (ψ.set n (.at w.heap.size mm)):=aJ.sub_set hn
 refine ⟨⟨Nat.le_succ_of_le hr.bas,⟨?_,?_,?_,?_,?_,?_⟩,hr.lim,hr.defers,fun t=>(hr.tmps t).later hp hl⟩,⟨rfl,rfl,rfl,by simp,fun b hb _=>vZ _ hb,hl,fun _ h=> .inl h, ?_,?_⟩⟩
 . intro k hk;have:k≠n:=by simp at hk;omega
   have ba:n<=k:=by simp at hk;omega
   simp [aJ.set,this,hr.sim.dom k ba]
 . intro k l hk;rw [cY];by_cases hkn:n=k
   . subst hkn;simp only [aJ.set,if_true,Option.some.injEq] at hk;subst hk
     simpa using hb
   . have yc:k≠n:=fun h=>hkn h.symm
     simp only [aJ.set,yc,if_false] at hk;rw [if_neg hkn];refine (hr.sim.blk k l hk).later hp hl fun b m' e=> ?_
     subst e;exact vZ _ (hr.sim.pdom k b m' hk)
 . intro k k' b m1 m2 hk ba fw o8
   rw [cY] at fw o8
   simp only [aJ.set] at hk ba
   by_cases h1:k=n
   . by_cases h2:k'=n
     . rw [h1,h2]
     . rw [if_pos h1] at hk;rw [if_neg h2] at ba
       simp at hk
       have:=hr.sim.pdom k' b m2 ba
       omega
   . by_cases h2:k'=n
     . rw [if_neg h1] at hk;rw [if_pos h2] at ba
       simp at ba
       have:=hr.sim.pdom k b m1 hk
       omega
     . rw [if_neg h1] at hk;rw [if_neg h2] at ba
       rw [if_neg fun h=>h1 h.symm] at fw;rw [if_neg fun h=>h2 h.symm] at o8
       exact hr.sim.inj k k' b m1 m2 hk ba fw o8
 . intro k b m1 hk fw hS;rw [cY] at fw;simp only [aJ.set] at hk;by_cases h1:k=n
   . rw [if_pos h1] at hk;simp at hk
     have:=hr.sim.sdom b hS
     omega
   . rw [if_neg h1] at hk;rw [if_neg fun h=>h1 h.symm] at fw;exact hr.sim.dis k b m1 hk fw hS
 . intro k b m1 hk;simp only [aJ.set] at hk;by_cases h1:k=n
   . rw [if_pos h1] at hk;simp at hk;simp [hk]
   . rw [if_neg h1] at hk;have:=hr.sim.pdom k b m1 hk;simp;omega
 . exact hr.sim.sdom.later hl fun b hb=>by have:=hr.sim.sdom b hb;simp;omega
 . intro k b m1 hk;simp only [aJ.set] at hk;by_cases h1:k=n
   . rw [if_pos h1] at hk;simp at hk;right;omega
   . rw [if_neg h1] at hk;exact .inl ⟨k,m1,hk⟩
 . intro k hk;have:=hr.bas
   have:k≠n:=by simp at this;omega
   simp [aJ.set,this]
theorem aC.alloc {ts:List (Nat×Tm)} {h:List (Nat×aB)} {n m:Nat} {blk:aB} {arr:Array Value} {e:TypeId}
 (hr:aC P base ψ S w ⟨ts,h,n,m⟩ a) (hb:fE P (ψ.set n (.at w.heap.size arr.size)) S (w.alloc (.cells arr e)) blk (.at w.heap.size arr.size)):
 aC P base (ψ.set n (.at w.heap.size arr.size)) S (w.alloc (.cells arr e)) ⟨ts,(n,blk)::h,n+1,m⟩ a/\
  aI base ψ S w (ψ.set n (.at w.heap.size arr.size)) S (w.alloc (.cells arr e)):=hr.allocO hb
theorem aC.write {ts:List (Nat×Tm)} {h:List (Nat×aB)} {n m k b mm:Nat} {blk:aB}
 (hr:aC P base ψ S w ⟨ts,h,n,m⟩ a) (hk:ψ k=some (.at b mm)) (bf:(aF h k).live)
 (El:w'.os=w.os) (Bz:w'.tape=w.tape) (si:w'.output=w.output) (cq:w'.heap.size=w.heap.size)
 (n9: ∀b',b'≠b->w'.heap[b']? =w.heap[b']?) (hblk:cT S w S w'->fE P ψ S w' blk (.at b mm)):
 aC P base ψ S w' ⟨ts,(k,blk)::h,n,m⟩ a/\ aI base ψ S w ψ S w':=by
 have BA: ¬S b:=hr.sim.dis k b mm hk bf
 have hl:cT S w S w':=⟨fun _ h=>h,fun b' fu=>n9 b' fun e=>BA (e▸fu)⟩
 have hp:=cH.refl ψ
 refine ⟨⟨hr.bas,⟨hr.sim.dom, ?_,?_,?_,?_,?_⟩,hr.lim,hr.defers,fun t=>(hr.tmps t).later hp hl⟩,⟨El,Bz,si,by omega, ?_,hl,fun _ h=> .inl h,fun k b m h=> .inl ⟨k,m,h⟩,fun _ _=>rfl⟩⟩
 . intro k' l ba
   rw [cY];by_cases e:k=k'
   . subst e;rw [hk] at ba;cases ba;simpa using hblk hl
   . rw [if_neg e];have hb:=hr.sim.blk k' l ba
     cases aw:aF h k' with
     |gone=>cases l<;>trivial
     |cells cs=>
      refine (aw▸hb).later hp hl fun b' m' he=>n9 b' fun lx=>e ?_
      subst he;subst lx
      exact hr.sim.inj k k' b' mm m' hk ba bf w8
     |row sz nn f=>
      refine (aw▸hb).later hp hl fun b' m' he=>n9 b' fun lx=>e ?_
      subst he;subst lx
      exact hr.sim.inj k k' b' mm m' hk ba bf w8
     |it s p=>
      refine (aw▸hb).later hp hl fun b' m' he=>n9 b' fun lx=>e ?_
      subst he;subst lx
      exact hr.sim.inj k k' b' mm m' hk ba bf w8
     |map es bc=>
      refine (aw▸hb).later hp hl fun b' m' he=>n9 b' fun lx=>e ?_
      subst he;subst lx
      exact hr.sim.inj k k' b' mm m' hk ba bf w8
     |fz cs=>
      simp only [aw] at hb;refine fE.later hb hp hl fun b' m' he=>n9 b' fun lx=>BA ?_
      subst he;subst lx
      exact hb.1
     |fzr sz nn f=>
      simp only [aw] at hb;refine fE.later hb hp hl fun b' m' he=>n9 b' fun lx=>BA ?_
      subst he;subst lx
      exact hb.1
 . intro k1 k2 b' m1 m2 h1 h2 l1 l2
   rw [cY] at l1 l2;have qk: ∀k',(if k=k' then blk else aF h k').live->ψ k'=some (.at b' m1) \/ψ k'=some (.at b' m2)->(aF h k').live:=by
    intro k' hx _
    by_cases e:k=k'
    . exact e▸bf
    . rwa [if_neg e] at hx
   exact hr.sim.inj k1 k2 b' m1 m2 h1 h2 (qk k1 l1 (.inl h1)) (qk k2 l2 (.inr h2))
 . intro k' b' m' h1 l1
   rw [cY] at l1;by_cases e:k=k'
   . subst e;exact hr.sim.dis k b' m' h1 bf
   . rw [if_neg e] at l1;exact hr.sim.dis k' b' m' h1 l1
 . intro k' b' m' h1;rw [cq];exact hr.sim.pdom k' b' m' h1
 . exact hr.sim.sdom.later hl fun b' fu=>by rw [cq];exact hr.sim.sdom b' fu
 . intro b' fu ky
   exact n9 b' fun e=>ky k mm (e▸hk)
end
theorem tZ {α:Type}: ∀{l:List α} {n:Nat} {r:List α},gG l n=some r->r=l.take n/\ r.length=n
 |_,0,r,h=>by simp [gG] at h;subst h;simp
 | [],n+1,r,h=>by simp [gG] at h
 |x::xs,n+1,r,h=>by
  simp only [gG] at h;split at h
  . rename_i ys hy
    have:=tZ hy
    simp at h;subst h
    simp [this.1]
    have h2:=this.2;rw [this.1] at h2;simpa using h2
  . simp at h
theorem aG.take {α β:Type} {R:α->β->Prop}: ∀{xs:List α} {ys:List β} (n:Nat),aG R xs ys->aG R (xs.take n) (ys.take n)
 |_,_,0,_=>by simp [aG]
 | [],[],_+1,_=>by simp [aG]
 |_::_,_::_,n+1,⟨a,b⟩=>by simpa [aG] using ⟨a,aG.take n b⟩
section
variable {P:Program} {τ:bF} {base:Nat} {ψ aa:aJ} {S S':Nat→Prop} {w w':World} {st st1:St} {a:Act} {o:Oper} {K:St→Prop}
theorem kI.scalar {c:aL} {x:Value} (h:kI P ψ S w c x) (hl:Va.lays (.c c)=true):mC x:=by
 cases c with
 |top=>simp [Va.lays] at hl
 |und=>simp [Va.lays] at hl
 |kb b=>rw [show x= .bool b from h];trivial
 |d y=>exact aZ.scalar h
 |own k off=>obtain ⟨b,m,_,rfl⟩:=h;trivial
 |osl k sz o len=>rcases h with ⟨_,_,a,rfl⟩|⟨b,m,c,off,_,rfl,_⟩<;>trivial
 |osc k sz o len c=>rcases h with ⟨_,_,_,a,rfl⟩|⟨b,m,off,_,rfl,_⟩<;>trivial
 |ep k sz i off=>obtain ⟨b,m,_,rfl⟩:=h;trivial
 |mp k=>obtain ⟨b,m,_,rfl⟩:=h;trivial
 |fb f k off=>obtain ⟨b,m,_,rfl⟩:=h;trivial
 |ap k base n i=>obtain ⟨b,m,_,rfl⟩:=h;trivial
 |rp cs=>obtain ⟨b,off,ys,rfl,_⟩:=h;trivial
 |fn f aq=>obtain ⟨vs,rfl,_⟩:=h;trivial
 |fv g=>obtain ⟨f,first,aq,rfl,_⟩:=h;trivial
theorem bB.cells {y:Va} {x:Value} (h:bB P ψ S w y x) (hl:y.lays=true):aG (dK P ψ S w) y.cells x.cells.toList:=by
 cases y with
 |c c=>
  have hs:=kI.scalar h hl
  have:x.cells= #[x]:=by cases x<;>first|rfl|exact hs.elim
  rw [this];exact ⟨⟨h,hs⟩,trivial⟩
 |agg cs=>obtain ⟨arr,rfl,h⟩:=h;exact h
theorem aQl {cs:List aL} {arr:Array Value} {e:TypeId} (a6:aC P base ψ S w st a) (hcs:aG (dK P ψ S w) cs arr.toList)
 (hr:(execOp a.eval o).run P w= .ok (.value (.pointer (some ⟨w.heap.size,0,none⟩))) (w.alloc (.cells arr e))) (hk:aHa st o.dst cs K):
 aK P base ψ S w a o K:=by
 obtain ⟨ts,h,n,m⟩:=st
 simp only [aHa,zJ] at hk;have hn:ψ n=none:=a6.sim.dom n (Nat.le_refl _)
 have hl:=tX a6.sim.sdom (Obj.cells arr e)
 obtain ⟨h1,h2⟩:=a6.alloc (blk:= .cells cs) (arr:=arr) (e:=e) ⟨arr,e,tW _,hcs.mono fun _ _ h=>h.later (aJ.sub_set hn) hl⟩
 refine aK.value hr h1 ?_ hk h2
 exact ⟨w.heap.size,arr.size,by simp [aJ.set],rfl⟩
def cP:Value->Prop
 | .agg cs=> ∀x∈cs.toList,mC x
 | .tuple _=>False
 |_=>True
theorem sH {z:Value} (hz:cP z):aG (dK P ψ S w) (cW z) z.cells.toList:=by
 have key: ∀l:List Value,(∀x∈l,mC x)->aG (dK P ψ S w) (l.map fun x=>aL.d (.v x)) l:=by
  intro l hl
  induction l with
  |nil=>trivial
  |cons x xs ih=>exact ⟨⟨.v (hl x j8),hl x j8⟩,ih fun y hy=>hl y j0z⟩
 cases z with
 |agg cs=>exact key _ hz
 |tuple _=>exact hz.elim
 |_=>exact ⟨⟨.v trivial,trivial⟩,trivial⟩
theorem aVT (ab:bE P τ) (hz: ∀t i,τ t=some i->cP i.zero) (a6:aC P base ψ S w st a) {e:TypeId} (ae:o.op= .alloc e) (hk:aKy τ st o.dst e K):
 aK P base ψ S w a o K:=by
 unfold aKy at hk;split at hk
 . rename_i d s b z ht
   refine aQl (e:=e) a6 (sH (hz _ _ ht)) ?_ hk
   simp only [execOp,ae,Instr.alloc,Sem.run_bind,sJ ab ht,Result.andThen_ok,newVar,newRow,run_newObj];rfl
 . exact hk.elim
theorem aY0 (a6:aC P base ψ S w st a) {e:TypeId} {x:Operand} (ae:o.op= .box e x) (hk:aMf st o.dst (ev st x) K):
 aK P base ψ S w a o K:=by
 unfold aMf at hk;split at hk
 . rename_i y hy
   split at hk
   . rename_i jh
     have hx:=cL a6 x
     rw [hy] at hx;refine aQl (e:=e) (arr:=(a.eval x).cells) a6 (bB.cells hx jh) ?_ hk
     simp only [execOp,ae,Instr.box,Sem.run_bind,Result.andThen_ok,newVar,newRow,run_newObj];rfl
   . exact hk.elim
 . exact hk.elim
theorem oB {b off:Nat} {arr:Array Value} {e:TypeId} {fr:Nat×Nat} (h:w.heap[b]? =some (.cells arr e fr)):w.cell? ⟨b,off,none⟩=arr[off]? :=by
 simp [World.cell?,h]
theorem aNJ (ab:bE P τ) {t:TypeId} {i:TI} (ht:τ t=some i) {b off:Nat} {ys:List Value} (hlen:ys.length=i.size)
 (hc: ∀j y,ys[j]? =some y->w.cell? ⟨b,off+j,none⟩=some y) {y:Va} {cs:List aL} (hcs:aG (dK P ψ S w) cs ys) (hm:kG (jZ i.desc) cs=some y):
 ∃v,(loadVar t ⟨b,off,none⟩).run P w= .ok v w/\ bB P ψ S w y v:=by
 have yd: ∀j,(⟨b,off,none⟩:Addr).add j=⟨b,off+j,none⟩:=by
  intro j;unfold Addr.add;split
  . rename_i h;simp [h]
  . rfl
 simp only [loadVar,Sem.run_bind,aFv ab ht,Result.andThen_ok];cases hw:jZ i.desc with
 |true=>
  rw [hw] at hm;simp only [kG,Option.some.injEq] at hm;subst hm;refine ⟨.agg ys.toArray, ?_,ys.toArray,rfl,by simpa using hcs⟩
  simp only [if_true,Sem.run_bind,jY ab ht,Result.andThen_ok, <-hlen];rw [run_loadCells_list (P:=P) w _ ys (fun j v hj=>by rw [yd];exact hc j v hj)];rfl
 |false=>
  rw [hw] at hm;cases cs with
  |nil=>simp [kG] at hm
  |cons c cs=>
   cases cs with
   |cons _ _=>simp [kG] at hm
   |nil=>
    simp only [kG,Option.some.injEq] at hm;subst hm;cases ys with
    |nil=>exact hcs.elim
    |cons y1 ys=>
     have h0:=hc 0 y1 j8
     simp only [Nat.add_zero] at h0;exact ⟨y1,by simp [h0],hcs.1.1⟩
theorem aCK {cs r:List aL} {ys:List Value} {off n:Nat} (h:aG (dK P ψ S w) cs ys) (ht:gG (cs.drop off) n=some r):
 aG (dK P ψ S w) r ((ys.drop off).take n)/\ ((ys.drop off).take n).length=n:=by
 obtain ⟨h1,h2⟩:=tZ ht
 have:=(h.drop off).take n
 rw [<-h1] at this;exact ⟨this,this.length▸h2⟩
theorem aOl {cs:List DV} {ys:List Value} (h:aG (aZ S w) cs ys):aG (dK P ψ S w) (cs.map aL.d) ys:=
 h.map_left _ fun _ _ h=>⟨h,aZ.scalar h⟩
theorem aHZ {cs r:List DV} {ys:List Value} {off n:Nat} (h:aG (aZ S w) cs ys) (ht:gG (cs.drop off) n=some r):
 aG (dK P ψ S w) (r.map aL.d) ((ys.drop off).take n)/\ ((ys.drop off).take n).length=n:=by
 obtain ⟨h1,h2⟩:=tZ ht
 have:=(h.drop off).take n
 rw [<-h1] at this;exact ⟨aOl this,this.length▸h2⟩
theorem pD {α:Type} {l:List α} {off n j:Nat} {y:α} (h:((l.drop off).take n)[j]? =some y):l[off+j]? =some y:=by
 rw [List.getElem?_take] at h;split at h
 . simpa [List.getElem?_drop] using h
 . simp at h
theorem aRE {f:Nat->List DV} {arr:Array Value} {n sz i:Nat} (hi:i<n) (hsz:n*sz<=arr.size) (hl: ∀i,i<n->(f i).length=sz)
 (hd: ∀i j,i<n->j<sz->aZ S w ((f i).getD j (.v (.bool false))) (arr.getD (i*sz+j) undef)):
 aG (aZ S w) (f i) ((arr.toList.drop (i*sz)).take sz):=by
 have hb:i*sz+sz<=n*sz:=by
  have:=Nat.mul_le_mul_right sz (Nat.succ_le_of_lt hi);rw [Nat.succ_mul] at this;exact this
 refine aG.of_get ?_ ?_
 . simp [hl i hi];omega
 . intro j x y hx hy;have hj:j<sz:=by
    have:=(List.getElem?_eq_some_iff.1 hx).1;rw [hl i hi] at this;exact this
   have h1:=hd i j hi hj
   have h2:=pD hy
   have e1:(f i).getD j (.v (.bool false))=x:=by simp [List.getD,hx]
   have e2:arr.getD (i*sz+j) undef=y:=by
    rw [Array.getD_eq_getD_getElem?, <-Array.getElem?_toList,h2];rfl
   rwa [e1,e2] at h1
theorem aUD {α:Type} {l:List α} {a b off n:Nat} (h:off+n<=b):((((l.drop a).take b).drop off).take n)=(l.drop (a+off)).take n:=by
 apply List.ext_getElem?
 intro j;simp only [List.getElem?_take,List.getElem?_drop];by_cases hj:j<n
 . simp only [hj,if_true];rw [if_pos j3,Nat.add_assoc]
 . simp [hj]
theorem aIa: ∀{cs:List aL} {k:IntKind} {ns:List Int} {ys:List Value},aBh cs=some (k,ns)->aG (dK P ψ S w) cs ys->ys=ns.map (Value.int k)
 | [],k,ns,ys,h,_=>by simp [aBh] at h
 |c::cs,k,ns,[],_,hr=>hr.elim
 |c::cs,k,ns,y::ys,h,⟨hc,hr⟩=>by
  unfold aBh at h;split at h
  . rename_i e;cases e
  . rename_i k' n' ib e
    injection e with e1 e2
    subst e1;subst e2
    have hy:y= .int k' n':=by have:=hc.1;cases this;rfl
    split at h
    . simp at h;obtain ⟨rfl,rfl⟩:=h
      cases ys with
      |nil=>simp [hy]
      |cons _ _=>exact hr.elim
    . split at h
      . rename_i k2 Gw hh
        split at h
        . rename_i hk
          have hk:=of_decide_eq_true hk
          simp at h;obtain ⟨rfl,rfl⟩:=h
          subst hk;have:=aIa hh hr
          simp [hy,this]
        . simp at h
      . simp at h
  . simp at h
theorem aOm {p:Tm} {v:Value} {sz:Nat} {h:List (Nat×aB)} {next:Nat} {KL:List aL->Prop} (hs:iV P ψ S w h next) (hp:dL P ψ S w p v) (hk:loadAt h p sz KL):
 ∃b off ys cs,v= .pointer (some ⟨b,off,none⟩)/\ ys.length=sz/\ (∀j y,ys[j]? =some y->w.cell? ⟨b,off+j,none⟩=some y)/\ aG (dK P ψ S w) cs ys/\ KL cs:=by
 unfold loadAt at hk;split at hk
 . rename_i k off
   obtain ⟨b,m,bg,rfl⟩:=hp
   have hb:=hs.blk k _ bg
   split at hk
   . rename_i cs aw
     rw [aw] at hb;obtain ⟨arr,e,h1,h2⟩:=hb
     split at hk
     . rename_i r hr
       obtain ⟨h3,h4⟩:=aCK h2 hr
       exact ⟨b,off,_,r,rfl,h4,fun j y hj=>by rw [oB h1, <-Array.getElem?_toList];exact pD hj,h3,hk⟩
     . exact hk.elim
   . rename_i cs aw
     rw [aw] at hb;obtain ⟨_,arr,e,fr,h1,h2⟩:=hb
     split at hk
     . rename_i r hr
       obtain ⟨h3,h4⟩:=aHZ (P:=P) (ψ:=ψ) h2 hr
       exact ⟨b,off,_,_,rfl,h4,fun j y hj=>by rw [oB h1, <-Array.getElem?_toList];exact pD hj,h3,hk⟩
     . exact hk.elim
   . exact hk.elim
 . rename_i k z i off
   obtain ⟨b,m,bg,rfl⟩:=hp
   have hb:=hs.blk k _ bg
   have main: ∀(z' n:Nat) (f:Nat->List DV) (arr:Array Value) (e:TypeId) (fr:Nat×Nat),w.heap[b]? =some (.cells arr e fr)->n*z'<=arr.size->(∀i,i<n->(f i).length=z')->
    (∀i j,i<n->j<z'->aZ S w ((f i).getD j (.v (.bool false))) (arr.getD (i*z'+j) undef))->
    (z'=z/\ i<n/\ (z'=z->i<n->match gG ((f i).drop off) sz with
     |some r=>KL (r.map .d)
     |none=>False))->
    ∃b' dk ys cs,Value.pointer (some ⟨b,i*z+off,none⟩)= .pointer (some ⟨b',dk,none⟩)/\ ys.length=sz/\ (∀j y,ys[j]? =some y->w.cell? ⟨b',dk+j,none⟩=some y)/\ aG (dK P ψ S w) cs ys/\ KL cs:=by
    intro z' n f arr e fr h1 h2 h3 h4 ⟨e1,e2,jc⟩
    have fj:=jc e1 e2
    clear jc hk;subst e1;split at fj
    . rename_i r hr
      have b8:=aRE (S:=S) (w:=w) e2 h2 h3 h4
      obtain ⟨h5,h6⟩:=aHZ (P:=P) (ψ:=ψ) b8 hr
      obtain ⟨h7,h8⟩:=tZ hr
      have hle:off+sz<=z' \/sz=0:=by
       have:r.length<=((f i).drop off).length:=by rw [h7];simp;omega
       simp only [List.length_drop,h3 i e2,h8] at this;omega
      rcases hle with hle|hle
      . rw [aUD hle] at h5 h6;refine ⟨b,i*z'+off,_,_,rfl,h6,fun j y hj=> ?_,h5,fj⟩
        rw [oB h1, <-Array.getElem?_toList];exact pD hj
      . subst hle;simp only [List.take_zero] at h5;exact ⟨b,i*z'+off,[],_,rfl,rfl,fun j y hj=>by simp at hj,h5,fj⟩
    . exact fj.elim
   split at hk
   . rename_i z' n f aw
     rw [aw] at hb;obtain ⟨arr,e,h1,h2,h3,h4,h5⟩:=hb
     subst h2;exact main z' n f arr e _ h1 h3 h4 h5 hk
   . rename_i z' n f aw
     rw [aw] at hb;obtain ⟨_,arr,e,fr,h1,h2,h3,h4,h5⟩:=hb
     subst h2;exact main z' n f arr e fr h1 h3 h4 h5 hk
   . exact hk.elim
 . rename_i cs
   obtain ⟨b,off,ys,rfl,_,h2,h3⟩:=hp
   split at hk
   . rename_i r hr
     have cg:gG (cs.drop 0) sz=some r:=by simpa using hr
     obtain ⟨h5,h6⟩:=aHZ (P:=P) (ψ:=ψ) h2 cg
     exact ⟨b,off,_,_,rfl,h6,fun j y hj=>h3 _ _ (by have:=pD hj;simpa using this),h5,hk⟩
   . exact hk.elim
 . rename_i k base n i
   obtain ⟨b,m,bg,rfl⟩:=hp
   have hb:=hs.blk k _ bg
   split at hk
   . rename_i cs aw hsz
     rw [aw] at hb;have hsz:=Nat.eq_of_beq_eq_true hsz
     subst hsz;obtain ⟨arr,e,h1,h2⟩:=hb
     split at hk
     . rename_i r hr
       obtain ⟨h3,h4⟩:=aCK h2 hr
       split at hk
       . rename_i kd ns hi
         have iu:=aIa hi h3
         have hl:ns.length=n:=by rw [iu] at h4;simpa using h4
         obtain ⟨ee,hk⟩:=hk
         have hk:=hk ee
         have hv:arr.toList[base+i]? =some (.int kd (aEp ns i)):=by
          have hg:((arr.toList.drop base).take n)[i]? =some (.int kd (aEp ns i)):=by
           rw [iu];simp only [List.getElem?_map,aEp];rw [List.getElem?_eq_getElem j3];rfl
          exact pD hg
         refine ⟨b,base+i,[.int kd (aEp ns i)],_,rfl,rfl, ?_,?_,hk⟩
         . intro j y hj;cases j with
           |zero=>simp at hj;subst hj;rw [Nat.add_zero,oB h1, <-Array.getElem?_toList];exact hv
           |succ j=>simp at hj
         . exact ⟨⟨.v trivial,trivial⟩,trivial⟩
       . exact hk.elim
     . exact hk.elim
   . exact hk.elim
 . exact hk.elim
theorem aW5 (ab:bE P τ) (a6:aC P base ψ S w st a) {t:TypeId} {x:Operand} (ae:o.op= .load t x) (hk:sV τ st.heap t (ev st x) fun y=>bG st o.dst y K):
 aK P base ψ S w a o K:=by
 unfold sV at hk;split at hk
 . rename_i d s b z ht
   obtain ⟨b,off,ys,cs,hv,hlen,hc,hcs,hk⟩:=aOm a6.sim (cL a6 x) hk
   split at hk
   . rename_i y hy
     obtain ⟨v,h1,h2⟩:=aNJ ab ht hlen hc hcs hy
     refine aK.value (x:= .va y) (v:=v) ?_ a6 h2 hk (aI.refl _ _ _ _)
     simp only [execOp,ae,Instr.loadAt,hv,Instr.sureAddr,Sem.run_bind,Sem.run_pure,Result.andThen_ok,h1]
   . exact hk.elim
 . exact hk.elim
end
theorem wB {α:Type}: ∀(l:List α) (off:Nat) (ys r:List α),oK l off ys=some r->
 r.length=l.length/\ (ys= [] \/off+ys.length<=l.length)/\ ∀j:Nat,r[j]? =if off<=j/\ j<off+ys.length then ys[j-off]? else l[j]?
 |l,off,[],r,h=>by
  have:r=l:=by cases l<;>cases off<;>simp [oK] at h<;>first|exact h|exact h.symm
  subst this;exact ⟨rfl,.inl rfl,fun j=>by rw [if_neg j1f]⟩
 | [],off,y::ys,r,h=>by cases off<;>simp [oK] at h
 |x::l,0,y::ys,r,h=>by
  simp only [oK] at h;split at h
  . rename_i r' hr
    simp at h;subst h
    obtain ⟨h1,h2,h3⟩:=wB l 0 ys r' hr
    refine ⟨by simp [h1],.inr ?_,?_⟩
    . rcases h2 with h2|h2
      . subst h2;simp
      . simp at h2⊢;omega
    . intro j;cases j with
      |zero=>simp
      |succ j=>
       have:=h3 j
       simp only [List.getElem?_cons_succ,this,Nat.zero_le,true_and,Nat.zero_add,Nat.sub_zero,List.length_cons];by_cases hj:j<ys.length
       . rw [if_pos hj,if_pos j3]
       . rw [if_neg hj,if_neg j3]
  . simp at h
 |x::l,off+1,y::ys,r,h=>by
  simp only [oK] at h;split at h
  . rename_i r' hr
    simp at h;subst h
    obtain ⟨h1,h2,h3⟩:=wB l off (y::ys) r' hr
    refine ⟨by simp [h1],.inr ?_,?_⟩
    . rcases h2 with h2|h2
      . simp at h2
      . simp at h2⊢;omega
    . intro j;cases j with
      |zero=>rw [if_neg j3];simp
      |succ j=>
       have:=h3 j
       simp only [List.getElem?_cons_succ,this];by_cases hj:off<=j/\ j<off+(y::ys).length
       . rw [if_pos hj,if_pos j3];congr 1;omega
       . rw [if_neg hj,if_neg j3]
  . simp at h
theorem aUe {v:Value} (h:mC v):v.oneCell'=true:=by cases v<;>first|rfl|exact h.elim
theorem pG (b off j:Nat):(⟨b,off,none⟩:Addr).add j=⟨b,off+j,none⟩:=by
 unfold Addr.add;split
 . rename_i h;simp [h]
 . rfl
section
variable {P:Program} {τ:bF} {base:Nat} {ψ aa:aJ} {S S':Nat→Prop} {w w':World} {st st1:St} {a:Act} {o:Oper} {K:St→Prop}
theorem yK {b off:Nat} {e:TypeId}: ∀(vs:List Value) (i:Nat) (w:World) (arr:Array Value),w.heap[b]? =some (.cells arr e (0,0))->
 (vs= [] \/off+i+vs.length<=arr.size)->(∀v∈vs,mC v)->
 ∃w' bu,(storeCells ⟨b,off,none⟩ vs i).run P w= .ok () w'/\ w'.heap[b]? =some (.cells bu e (0,0))/\ bu.size=arr.size/\
  (∀j:Nat,bu[j]? =if off+i<=j/\ j<off+i+vs.length then vs[j-(off+i)]? else arr[j]?)/\
  w'.os=w.os/\ w'.tape=w.tape/\ w'.output=w.output/\ w'.heap.size=w.heap.size/\ ∀b',b'≠b->w'.heap[b']? =w.heap[b']?
 | [],i,w,arr,h,_,_=>⟨w,arr,rfl,h,rfl,fun j=>by rw [if_neg j1f],rfl,rfl,rfl,rfl,fun _ _=>rfl⟩
 |v::vs,i,w,arr,h,hlen,sj=>by
  have Em:off+i+(vs.length+1)<=arr.size:=by rcases hlen with hlen|hlen<;>simp_all
  have BB:w.cell? ⟨b,off+i,none⟩=some (arr[off+i]'j3):=by rw [oB h];simp
  have Eo:w.frozen? ⟨b,off+i,none⟩=false:=by simp [World.frozen?,h]
  have re:(store (⟨b,off+i,none⟩:Addr) v).run P w= .ok () (w.setCell ⟨b,off+i,none⟩ v):=by
   rw [run_store P w _ v _ (aUe (sj v j8)),BB];simp [Eo]
  have h1:(w.setCell ⟨b,off+i,none⟩ v).heap[b]? =some (.cells (arr.setIfInBounds (off+i) v) e (0,0)):=by
   simp [World.setCell,Array.getElem?_modify,h]
  obtain ⟨w',bu,g1,g2,g3,g4,g5,g6,g7,g8,g9⟩:=yK (off:=off) vs (i+1) (w.setCell ⟨b,off+i,none⟩ v) _ h1 (.inr y7) (fun x hx=>sj x j0n)
  refine ⟨w',bu, ?_,g2,by simpa using g3, ?_,g5,g6,g7,by simpa using g8, ?_⟩
  . simp only [storeCells,pG,Sem.run_bind,re,Result.andThen_ok];exact g1
  . intro j;rw [g4 j];simp only [Array.getElem?_setIfInBounds,List.length_cons];by_cases hj:off+(i+1)<=j/\ j<off+(i+1)+vs.length
    . rw [if_pos hj,if_pos j3];obtain ⟨q,rfl⟩: ∃q,j=off+i+(q+1):=⟨j-(off+i)-1,by omega⟩
      rw [show off+i+(q+1)-(off+(i+1))=q by omega,show off+i+(q+1)-(off+i)=q+1 by omega];simp
    . rw [if_neg hj];by_cases jv:off+i=j
      . subst jv;simp [show off+i<arr.size by omega]
      . rw [if_neg jv,if_neg j3]
  . intro b' fu
    rw [g9 b' fu];simp only [World.setCell,Array.getElem?_modify];rw [if_neg fun e=>fu e.symm]
theorem aE4 {α β:Type} {R:α->β->Prop} {cs r zs:List α} {ys vs:List β} {ff:List β} {off:Nat} (h:aG R cs ys) (hz:aG R zs vs) (hs:oK cs off zs=some r)
 (hl:ff.length=ys.length) (hy: ∀j:Nat,ff[j]? =if off<=j/\ j<off+vs.length then vs[j-off]? else ys[j]?):aG R r ff:=by
 obtain ⟨h1,_,h3⟩:=wB _ _ _ _ hs
 refine aG.of_get (by rw [h1,hl,h.length]) ?_
 intro j x y hx uw
 rw [h3 j] at hx;rw [hy j] at uw
 rw [hz.length] at hx;by_cases hj:off<=j/\ j<off+vs.length
 . rw [if_pos hj] at hx uw
   obtain ⟨y2,g1,g2⟩:=hz.get _ x hx
   rw [uw] at g1;cases g1;exact g2
 . rw [if_neg hj] at hx uw
   obtain ⟨y2,g1,g2⟩:=h.get _ x hx
   rw [uw] at g1;cases g1;exact g2
theorem aH4 {cs:List aL} {ys:List Value} (h:aG (dK P ψ S w) cs ys): ∀v∈ys,mC v:=by
 induction cs generalizing ys with
 |nil=>cases ys with|nil=>simp|cons _ _=>exact h.elim
 |cons c cs ih=>cases ys with
  |nil=>exact h.elim
  |cons y ys=>intro v hv;simp at hv;rcases hv with rfl|hv;exact h.1.2;exact ih h.2 v hv
theorem aIu {α β:Type} {f:α->Option β}: ∀{xs:List α} {ys:List β},bY f xs=some ys->aG (fun x y=>f x=some y) xs ys
 | [],ys,h=>by simp [bY] at h;subst h;trivial
 |x::xs,ys,h=>by
  simp only [bY] at h;split at h
  . rename_i y ff h1 h2
    simp at h;subst h
    exact ⟨h1,aIu h2⟩
  . simp at h
theorem aG.comp {α β γ:Type} {R:α->β->Prop} {R':α->γ->Prop} {T:β->γ->Prop} (h: ∀x y z,R x y->R' x z->T y z): ∀{xs ys zs},aG R xs ys->aG R' xs zs->aG T ys zs
 | [],[],[],_,_=>trivial
 |_::_,_::_,_::_,⟨a,b⟩,⟨c,d⟩=>⟨h _ _ _ a c,aG.comp h b d⟩
theorem aEF {h:List (Nat×aB)} {next:Nat} (hs:iV P ψ S w h next) {c:aL} {v:Value} {K:DV->Prop} (hc:mU h c K) (hv:kI P ψ S w c v): ∃x,aZ S w x v/\ K x:=by
 unfold mU at hc;split at hc
 . exact ⟨_,by rw [show v=_ from hv];exact .v trivial,hc⟩
 . exact ⟨_,hv,hc⟩
 . rename_i k z o len
   split at hc
   . rename_i sz n f hb
     split at hc
     . rename_i hz
       have hz:=Nat.eq_of_beq_eq_true hz
       subst hz;obtain ⟨hn,hc⟩:=hc
       refine ⟨_, ?_,hc⟩
       rcases hv with ⟨h1,rfl,_,rfl⟩|⟨b,m,c,off,h1,rfl,h2,h3⟩
       . exact .nil
       . have fu:=hs.blk k _ h1
         rw [hb] at fu
         obtain ⟨hS,arr,e,fr,g1,g2,g3,g4,g5⟩:=fu
         rcases Nat.eq_zero_or_pos len with hl|hl
         . subst hl;exact .nil
         . obtain ⟨rfl,h4⟩:=h3 j3
           subst g2;refine .lst (fun i j=>arr.getD ((o+i)*sz+j) undef) hS (fun i hi=>g4 _ j3) (fun i j hi hj=> ?_) (fun i j hi hj=>g5 _ _ j3 hj) h2
           rw [oB g1,show o*sz+i*sz+j=(o+i)*sz+j by rw [Nat.add_mul]];have:(o+i)*sz+j<arr.size:=by
            have h5:(o+i+1)*sz<=n*sz:=Nat.mul_le_mul_right sz j3
            rw [Nat.succ_mul] at h5;omega
           simp [Array.getD,this]
     . exact hc.elim
   . exact hc.elim
 . obtain ⟨vs,rfl,hv⟩:=hv
   obtain rfl:vs= #[]:=by
    cases vs with
    |mk l=>cases l with
     |nil=>rfl
     |cons _ _=>exact hv.elim
   exact ⟨_,.v trivial,hc⟩
 . exact hc.elim
theorem qP {h:List (Nat×aB)} {next:Nat} (hs:iV P ψ S w h next): ∀{cs:List aL} {vs:List Value} {K:List DV->Prop},jW h cs K->aG (dK P ψ S w) cs vs->
 ∃xs,aG (aZ S w) xs vs/\ K xs
 | [],[],_,hc,_=>⟨[],trivial,hc⟩
 |_::_,_::_,_,hc,⟨h1,h2⟩=>by
  obtain ⟨x,g1,g2⟩:=aEF hs hc h1.1
  obtain ⟨xs,g3,g4⟩:=qP hs g2 h2
  exact ⟨x::xs,⟨g1,g3⟩,g4⟩
theorem aPa (k:IntKind) (i:Nat) (v:Int): ∀(ns:List Int) (j q:Nat),(xN k i v j ns)[q]? =(ns[q]?).map fun n=>aL.d (.v (.int k (if i=j+q then v else n)))
 | [],_,_=>by simp [xN]
 |n::ns,j,0=>by simp [xN]
 |n::ns,j,q+1=>by
  simp only [xN,List.getElem?_cons_succ,aPa k i v ns (j+1) q];rw [show j+1+q=j+(q+1) by omega]
theorem aH5 (k:IntKind) (i:Nat) (v:Int): ∀(ns:List Int) (j:Nat),(xN k i v j ns).length=ns.length
 | [],_=>rfl
 |n::ns,j=>by simp [xN,aH5 k i v ns]
theorem aOn (ab:bE P τ) (a6:aC P base ψ S w st a) {t:TypeId} {p x:Operand} (ae:o.op= .store t p x) (hk:aF2 τ st o.dst t (ev st p) (ev st x) K):
 aK P base ψ S w a o K:=by
 have hx:=cL a6 x
 have hp:=cL a6 p
 unfold aF2 at hk;split at hk
 . rename_i d s bb z ht
   split at hk
   . rename_i y k off ts h n m ey ep
     rw [ey] at hx;rw [ep] at hp
     obtain ⟨b,mm,bg,ye⟩:=hp
     split at hk
     . rename_i cs jh aw hsz
       have hsz:=Nat.eq_of_beq_eq_true hsz
       split at hk
       . rename_i r hr
         rw [zJ] at hk;have hb:=a6.sim.blk k _ bg
         simp only [aw] at hb;obtain ⟨arr,e,h1,h2⟩:=hb
         have bq:=bB.cells hx jh
         obtain ⟨q1,q2,_⟩:=wB _ _ _ _ hr
         have ic:=h2.length
         have hl3:=bq.length
         obtain ⟨w',bu,g1,g2,g3,g4,g5,g6,g7,g8,g9⟩:=yK (P:=P) (off:=off) (a.eval x).cells.toList 0 w arr h1 (by
          rcases q2 with q2|q2
          . left;rw [q2] at hl3;simpa using hl3.symm
          . right;simp at ic hl3⊢;omega) (aH4 bq)
         obtain ⟨r1,r2⟩:=a6.write (w':=w') (blk:= .cells r) bg w8 g5 g6 g7 g8 g9 (fun hl=>⟨bu,e,g2,
          aE4 (h2.mono fun _ _ h=>h.later (cH.refl _) hl) (bq.mono fun _ _ h=>h.later (cH.refl _) hl) hr (by simpa using g3) (fun j=>by simpa using g4 j)⟩)
         refine aK.skip (w':=w') ?_ r1 hk r2
         simp only [execOp,ae,Instr.storeAt,ye,Instr.sureAddr,storeVar,Sem.run_bind,Sem.run_pure,Result.andThen_ok,jY ab ht];rw [if_neg (by simp at hl3;simp only [ne_eq,Decidable.not_not];omega)];rw [g1];rfl
       . exact hk.elim
     . exact hk.elim
   . rename_i y k z i off ts h n m ey ep
     rw [ey] at hx;rw [ep] at hp
     obtain ⟨b,mm,bg,ye⟩:=hp
     split at hk
     . rename_i z' len f jh aw hsz
       have hsz:=Nat.eq_of_beq_eq_true hsz
       have bq:=bB.cells hx jh
       obtain ⟨ds,sk,e1,e2,hk⟩:=qP a6.sim hk bq
       have hk:=hk e1 e2
       subst e1;split at hk
       . rename_i r hr
         rw [fJ] at hk;have hb:=a6.sim.blk k _ bg
         simp only [aw] at hb;obtain ⟨arr,e,h1,h2,h3,h4,h5⟩:=hb
         obtain ⟨q1,q2,_⟩:=wB _ _ _ _ hr
         have hl3:=sk.length
         have b8:=aRE (S:=S) (w:=w) e2 (h2▸h3) h4 h5
         have Ay:=h4 i e2
         have G4:i*z'+z'<=len*z':=by
          have:=Nat.mul_le_mul_right z' (Nat.succ_le_of_lt e2);rw [Nat.succ_mul] at this;exact this
         obtain ⟨w',bu,g1,g2,g3,g4,g5,g6,g7,g8,g9⟩:=yK (P:=P) (off:=i*z'+off) (a.eval x).cells.toList 0 w arr h1 (by
          rcases q2 with q2|q2
          . left;rw [q2] at hl3;simpa using hl3.symm
          . right;simp at hl3⊢;omega) (aH4 bq)
         have nc:ds= [] \/off+ds.length<=z':=by
          rcases q2 with q2|q2
          . exact .inl q2
          . exact .inr j3
         obtain ⟨r1,r2⟩:=a6.write (w':=w') (blk:= .row z' len (mB f i r)) bg w8 g5 g6 g7 g8 g9 (fun hl=>⟨bu,e,g2,by omega,by omega,
          fun i' uz=>by
           simp only [mB];cases yf:Nat.beq i' i with
           |true=>simp [q1,Ay]
           |false=>exact h4 i' uz,
          fun i' j uz hj=>by
           simp only [mB];have G5:i'*z'+z'<=len*z':=by
            have:=Nat.mul_le_mul_right z' (Nat.succ_le_of_lt uz);rw [Nat.succ_mul] at this;exact this
           cases yf:Nat.beq i' i with
           |true=>
            have:=Nat.eq_of_beq_eq_true yf
            subst this;have BC:aG (aZ S w') r ((bu.toList.drop (i'*z')).take z'):=by
             refine aE4 (b8.mono fun _ _ h=>h.later hl) (sk.mono fun _ _ h=>h.later hl) hr ?_ ?_
             . simp;omega
             . intro j'
               simp only [List.getElem?_take,List.getElem?_drop,Array.getElem?_toList,g4];by_cases hj':j'<z'
               . simp only [hj',if_true];by_cases ee:off<=j'/\ j'<off+(a.eval x).cells.toList.length
                 . rw [if_pos ee,if_pos j3];congr 1;omega
                 . rw [if_neg ee,if_neg j3]
               . simp only [hj',if_false];rw [if_neg];intro ee;rcases nc with nc|nc
                 . rw [nc] at hl3;simp only [List.length_nil] at hl3;omega
                 . omega
            have Gx:r.length=z':=by rw [q1,Ay]
            obtain ⟨y,y1,y2⟩:=BC.get j (r[j]'j3) j8
            have e3:r.getD j (.v (.bool false))=r[j]'j3:=by simp [List.getD,List.getElem?_eq_getElem (show j<r.length by omega)]
            have e4:bu.getD (i'*z'+j) undef=y:=by
             have:=pD y1
             rw [Array.getD_eq_getD_getElem?, <-Array.getElem?_toList,this];rfl
            rw [e3,e4];exact y2
           |false=>
            have ag:=Nat.ne_of_beq_eq_false yf
            have si:bu.getD (i'*z'+j) undef=arr.getD (i'*z'+j) undef:=by
             rw [Array.getD_eq_getD_getElem?,Array.getD_eq_getD_getElem?,g4,if_neg];intro ee;rcases nc with nc|nc
             . rw [nc] at hl3;simp only [List.length_nil] at hl3;omega
             . rcases Nat.lt_or_gt_of_ne ag with hlt|fg
               . have:=Nat.mul_le_mul_right z' (Nat.succ_le_of_lt hlt);rw [Nat.succ_mul] at this;omega
               . have:=Nat.mul_le_mul_right z' (Nat.succ_le_of_lt fg);rw [Nat.succ_mul] at this;omega
            simp only
            rw [si];exact (h5 i' j uz hj).later hl⟩)
         refine aK.skip (w':=w') ?_ r1 hk r2
         simp only [execOp,ae,Instr.storeAt,ye,Instr.sureAddr,storeVar,Sem.run_bind,Sem.run_pure,Result.andThen_ok,jY ab ht];have Ep:=bq.length
         rw [if_neg (by simp at Ep;simp only [ne_eq,Decidable.not_not];omega)];rw [g1];rfl
       . exact hk.elim
     . exact hk.elim
   . rename_i y k bs ln i ts h n m ey ep
     rw [ey] at hx;rw [ep] at hp
     obtain ⟨b,mm,bg,ye⟩:=hp
     split at hk
     . rename_i kd v cs np aw hsz
       have hsz:=Nat.eq_of_beq_eq_true hsz
       have hb:=a6.sim.blk k _ bg
       simp only [aw] at hb;obtain ⟨arr,e,h1,h2⟩:=hb
       have BD:a.eval x= .int kd v:=by
        cases y with
        |c c=>cases c with
         |d c=>cases c with
          |v c=>simp only [uC,Option.some.injEq] at np;subst np;generalize a.eval x=q at hx;cases hx;rfl
          |lst _ _ _=>simp [uC] at np
         |kb _=>simp [uC] at np
         |_=>simp [uC] at np
        |agg _=>simp [uC] at np
       split at hk
       . rename_i r0 nt
         obtain ⟨h3,h4⟩:=aCK h2 nt
         split at hk
         . rename_i xg ns hi
           have iu:=aIa hi h3
           have hl:ns.length=ln:=by rw [iu] at h4;simpa using h4
           split at hk
           . rename_i ly
             have ly:=of_decide_eq_true ly
             subst ly;split at hk
             . rename_i r hr
               rw [zJ] at hk;obtain ⟨ee,hk⟩:=hk
               have hk:=hk ee
               obtain ⟨q1,q2,q3⟩:=wB _ _ _ _ hr
               rw [aH5] at q2 q3;have ic:cs.length=arr.size:=by simpa using h2.length
               have hle:bs+ln<=cs.length:=by
                rcases q2 with q2|q2
                . have:=congrArg List.length q2;rw [aH5] at this;simp only [List.length_nil] at this;omega
                . omega
               obtain ⟨w',bu,g1,g2,g3,g4,g5,g6,g7,g8,g9⟩:=yK (P:=P) (off:=bs+i) [.int xg v] 0 w arr h1 (.inr (by simp only [List.length_cons,List.length_nil];omega)) (by simp [mC])
               have key: ∀j,ns[j]? =none \/ ∃q,ns[j]? =some q/\ arr.toList[bs+j]? =some (.int xg q):=by
                intro j;cases hj:ns[j]? with
                |none=>exact .inl rfl
                |some q=>
                 refine .inr ⟨q,rfl, ?_⟩
                 refine pD (n:=ln) ?_
                 rw [iu];simp [hj]
               obtain ⟨r1,r2⟩:=a6.write (w':=w') (blk:= .cells r) bg w8 g5 g6 g7 g8 g9 (fun hlt=>⟨bu,e,g2,by
                refine aG.of_get (by simp only [Array.length_toList];omega) ?_
                intro j xx yy gb jd;rw [q3 j] at gb;rw [Array.getElem?_toList,g4 j] at jd;simp only [Nat.add_zero,List.length_cons,List.length_nil,Nat.zero_add] at jd;by_cases hj:bs<=j/\ j<bs+ns.length
                . rw [if_pos hj,aPa] at gb;obtain ⟨q,rfl⟩: ∃q,j=bs+q:=⟨j-bs,by omega⟩
                  rw [show bs+q-bs=q by omega] at gb;rcases key q with hq|⟨nq,hq,ji⟩
                  . rw [hq] at gb;simp at gb
                  . rw [hq] at gb;simp only [Option.map_some,Option.some.injEq,Nat.zero_add] at gb;subst gb;by_cases CQ:i=q
                    . subst CQ;rw [if_pos j3] at jd;simp at jd;subst jd
                      rw [if_pos rfl];exact ⟨.v trivial,trivial⟩
                    . rw [if_neg j3] at jd;rw [<-Array.getElem?_toList,ji] at jd;cases jd;rw [if_neg CQ];exact ⟨.v trivial,trivial⟩
                . rw [if_neg hj] at gb;rw [if_neg j3] at jd;obtain ⟨y2,z1,z2⟩:=h2.get _ xx gb
                  rw [Array.getElem?_toList] at z1;rw [jd] at z1;cases z1
                  exact z2.later (cH.refl _) hlt⟩)
               refine aK.skip (w':=w') ?_ r1 hk r2
               simp only [execOp,ae,Instr.storeAt,ye,BD,Instr.sureAddr,storeVar,Sem.run_bind,Sem.run_pure,Result.andThen_ok,jY ab ht];rw [if_neg (by simp [Value.cells];omega)];have:(Value.int xg v).cells.toList= [.int xg v]:=rfl
               rw [this,g1];rfl
             . exact hk.elim
           . exact hk.elim
         . exact hk.elim
       . exact hk.elim
     . exact hk.elim
   . exact hk.elim
 . exact hk.elim
theorem aUj (ab:bE P τ) {f:Field} {i:TI} (ht:τ f.type=some i) (hs:i.size≠0) (b off:Nat):
 (fieldPlace ⟨b,off,none⟩ f).run P w= .ok ⟨b,off+f.offset,none⟩ w:=by
 simp only [fieldPlace,Sem.run_bind,jY ab ht,Result.andThen_ok,if_neg hs,Sem.run_pure,pG]
theorem aUt (ab:bE P τ) (a6:aC P base ψ S w st a) {s:TypeId} {x:Operand} {f:Nat} (ae:o.op= .fieldAddr s x f) (hk:aAL τ s (ev st x) f fun y=>bG st o.dst y K):
 aK P base ψ S w a o K:=by
 have hx:=cL a6 x
 unfold aAL at hk;split at hk
 . rename_i fs sz bt z ht
   split at hk
   . rename_i nm ty dk em tg pk bo hf
     split at hk
     . rename_i d2 s2 b2 z2 jj
       have run: ∀b off,a.eval x= .pointer (some ⟨b,off,none⟩)->(execOp a.eval o).run P w= .ok (.value (.pointer (some ⟨b,off+dk,none⟩))) w:=by
        intro b off hv;have ao:=fU ab ht w
        simp only at ao
        simp only [execOp,ae,Instr.fieldAt,Sem.run_bind,ao,Result.andThen_ok,hf,hv,Instr.sureAddr,Sem.run_pure];rw [aUj ab (f:=⟨nm,ty,dk,em,tg,pk,bo⟩) jj j8];rfl
       split at hk
       . rename_i k off e
         rw [e] at hx;obtain ⟨b,m,h1,h2⟩:=hx
         exact aK.value (run b off h2) a6 (x:= .va (.c (.own k (off+dk)))) ⟨b,m,h1,rfl⟩ hk (aI.refl _ _ _ _)
       . rename_i k zz i off e
         rw [e] at hx;obtain ⟨b,m,h1,h2⟩:=hx
         exact aK.value (run b _ h2) a6 (x:= .va (.c (.ep k zz i (off+dk)))) ⟨b,m,h1,by rw [Nat.add_assoc]⟩ hk (aI.refl _ _ _ _)
       . rename_i cs e
         rw [e] at hx;obtain ⟨b,off,ys,h1,h2,h3,h4⟩:=hx
         rw [fJ] at hk;exact aK.value (run b _ h1) a6 (x:= .va (.c (.rp (cs.drop dk)))) ⟨b,off+dk,ys.drop dk,rfl,h2,h3.drop dk,fun j y hj=>by
          rw [List.getElem?_drop] at hj;rw [Nat.add_assoc];exact h4 _ _ hj⟩ hk (aI.refl _ _ _ _)
       . exact hk.elim
     . exact hk.elim
   . exact hk.elim
 . exact hk.elim
end
def aEq (τ:bF) (t:TypeId):Nat:=match τ t with
 |some i=>i.size
 |none=>0
section
variable {P:Program} {τ:bF} {base:Nat} {ψ aa:aJ} {S S':Nat→Prop} {w w':World} {st st1:St} {a:Act} {o:Oper} {K:St→Prop}
theorem aNA {α β:Type} {f:α->Sem β} {g:α->β}: ∀(l:List α),(∀x∈l,(f x).run P w= .ok (g x) w)->(l.mapM f).run P w= .ok (l.map g) w
 | [],_=>rfl
 |x::xs,h=>by
  simp only [List.mapM_cons,Sem.run_bind,h x j8,Result.andThen_ok,aNA xs (fun y hy=>h y j0z),Sem.run_pure,List.map_cons]
theorem aUI {α β:Type} {f:α->Sem β} {g:α->β} (l:Array α) (h: ∀x∈l.toList,(f x).run P w= .ok (g x) w):(l.mapM f).run P w= .ok (l.map g) w:=by
 rw [Array.mapM_eq_mapM_toList];simp only [Sem.run_map,aNA (w:=w) l.toList h,Result.andThen_ok]
 congr 1
 apply Array.ext'
 simp
theorem aIv (off:Nat): ∀(vs:List Value) (k:Nat) (arr:Array Value), ∀j:Nat,
 (((vs.zipIdx k).foldl (fun cs (cj:Value×Nat)=>cs.setIfInBounds (off+cj.2) cj.1) arr)[j]? :Option Value)=if off+k<=j/\ j<off+k+vs.length/\ j<arr.size then vs[j-(off+k)]? else arr[j]?
 | [],k,arr,j=>by simp only [List.zipIdx_nil,List.foldl_nil];rw [if_neg j1f]
 |v::vs,k,arr,j=>by
  simp only [List.zipIdx_cons,List.foldl_cons];rw [aIv off vs (k+1) _ j];simp only [Array.size_setIfInBounds,Array.getElem?_setIfInBounds,List.length_cons];by_cases h1:off+(k+1)<=j/\ j<off+(k+1)+vs.length/\ j<arr.size
  . rw [if_pos h1,if_pos j3];obtain ⟨q,rfl⟩: ∃q,j=off+k+(q+1):=⟨j-(off+k)-1,by omega⟩
    rw [show off+k+(q+1)-(off+(k+1))=q by omega,show off+k+(q+1)-(off+k)=q+1 by omega];simp
  . rw [if_neg h1];by_cases h2:off+k=j
    . subst h2;by_cases h3:off+k<arr.size
      . simp [h3]
      . simp [h3]
    . rw [if_neg h2,if_neg j3]
theorem aIw (off:Nat): ∀(vs:List Value) (k:Nat) (arr:Array Value),
 ((vs.zipIdx k).foldl (fun cs (cj:Value×Nat)=>cs.setIfInBounds (off+cj.2) cj.1) arr).size=arr.size
 | [],_,_=>rfl
 |v::vs,k,arr=>by simp only [List.zipIdx_cons,List.foldl_cons];rw [aIw off vs];simp
theorem aQm (a6:aC P base ψ S w st a) {fs:Array Field}: ∀(parts:List (Nat×Operand)) (cs:List aL) (arr:Array Value) (r:List aL),
 aG (dK P ψ S w) cs arr.toList->mV τ fs (ev st) parts cs=some r->
 ∃bu,Instr.fill (fun i=>(fs.map fun f=>(f.offset,aEq τ f.type))[i]?) arr (parts.map fun p=>(p.1,a.eval p.2))=some bu/\ aG (dK P ψ S w) r bu.toList
 | [],cs,arr,r,h,hf=>by simp [mV] at hf;subst hf;exact ⟨arr,rfl,h⟩
 |(i,x)::ps,cs,arr,r,h,hf=>by
  simp only [mV] at hf;split at hf
  . rename_i nm ty off em tg pk bo Ay
    split at hf
    . rename_i d sz b z y ht hy
      split at hf
      . rename_i ib jh hsz hle dz
        have hsz:=Nat.eq_of_beq_eq_true hsz
        have hle:=Nat.le_of_ble_eq_true hle
        have hx:=cL a6 x
        rw [hy] at hx;have bq:=bB.cells hx jh
        have BE:=bq.length
        have hl:=h.length
        simp at BE hl
        have h':aG (dK P ψ S w) ib (((a.eval x).cells.zipIdx.foldl (fun cs (cj:Value×Nat)=>cs.setIfInBounds (off+cj.2) cj.1) arr)).toList:=by
         rw [<-Array.foldl_toList,Array.toList_zipIdx];refine aE4 h bq dz ?_ ?_
         . simp [aIw]
         . intro j;rw [Array.getElem?_toList,aIv];simp only [Array.getElem?_toList,Nat.add_zero,Array.length_toList];by_cases hj:off<=j/\ j<off+(a.eval x).cells.size
           . rw [if_pos hj,if_pos j3]
           . rw [if_neg hj,if_neg j3]
        obtain ⟨bu,g1,g2⟩:=aQm a6 ps ib _ r h' hf
        have np:(fs.map fun f=>(f.offset,aEq τ f.type))[i]? =some (off,sz):=by simp [Ay,aEq,ht]
        refine ⟨bu, ?_,g2⟩
        simp only [List.map_cons,Instr.fill];rw [np];simp only
        rw [if_neg j1u];exact g1
      . simp at hf
    . simp at hf
  . simp at hf
theorem qV {s:Sem Value} (a6:aC P base ψ S w st a) (bd: ∀v,s.run P w= .ok v w->(execOp a.eval o).run P w= .ok (.value v) w)
 (hk:eF (dY P s) fun y=>bG st o.dst y K):aK P base ψ S w a o K:=by
 unfold eF at hk;split at hk<;>first
  |exact hk.elim
  |(rename_i hs;refine aK.value (bd _ (aU8 hs w)) a6 ?_ hk (aI.refl _ _ _ _);exact aZ.v trivial)
theorem aUJ {x:Va} {v u:Value} (h:bB P ψ S w x v) (hp:uC x=some u):v=u:=by
 unfold uC at hp;split at hp
 . simp at hp;subst hp;cases h;rfl
 . simp at hp;subst hp;exact h
 . simp at hp
theorem jX {x:Tm} {v u:Value} (h:dL P ψ S w x v) (hp:cZ x=some u):v=u:=by
 cases x with
 |va x=>exact aUJ h hp
 |tup _=>simp [cZ] at hp
theorem bAS (a6:aC P base ψ S w st a) {op:UnOp} {t:TypeId} {x:Operand} {u:Value} (ae:o.op= .unOp op t x) (hp:cZ (ev st x)=some u)
 (hk:eF (dY P (Op.unary op u)) fun y=>bG st o.dst y K):aK P base ψ S w a o K:=by
 have hx:=jX (cL a6 x) hp
 exact qV a6 (fun v hv=>by simp only [execOp,ae,hx,Sem.run_bind,hv,Result.andThen_ok,Sem.run_pure]) hk
theorem aUK (a6:aC P base ψ S w st a) {s t:TypeId} {x:Operand} {u:Value} (ae:o.op= .convert s t x) (hp:cZ (ev st x)=some u)
 (hk:eF (dY P (convert s t u)) fun y=>bG st o.dst y K):aK P base ψ S w a o K:=by
 have hx:=jX (cL a6 x) hp
 exact qV a6 (fun v hv=>by simp only [execOp,ae,hx,Sem.run_bind,hv,Result.andThen_ok,Sem.run_pure]) hk
theorem aY1 (a6:aC P base ψ S w st a) {op:BinOp} {t ty:TypeId} {x y:Operand} (ae:o.op= .binOp op t x y ty)
 (hk:aAo P (ev st) op t x y fun y=>bG st o.dst y K):aK P base ψ S w a o K:=by
 have hx:=cL a6 x
 have hy:=cL a6 y
 have gen: ∀u v,a.eval x=u->a.eval y=v->(eF (dY P (do eqGuard op t x y u v;binOp op t u v)) fun y=>bG st o.dst y K)->aK P base ψ S w a o K:=by
  intro u v hu hv hk;refine qV a6 (fun r hr=> ?_) hk
  simp only [execOp,ae,hu,hv,Sem.run_bind] at hr⊢
  rw [hr];rfl
 unfold aAo at hk;split at hk
 . rename_i k n k' n' h1 h2
   have e1:=jX hx h1
   have e2:=jX hy h2
   split at hk
   . obtain ⟨e,ag,jc⟩:=hk
     have fj:=jc e ag
     clear jc;subst e;refine aK.value (x:=vx _) (v:= .int k (k.wrap (n.tdiv n'))) ?_ a6 ?_ fj (aI.refl _ _ _ _)
     rotate_left
     . exact aZ.v trivial
     simp [execOp,ae,e1,e2,eqGuard,binOp,Op.intDiv,ag]
   . obtain ⟨e,ag,jc⟩:=hk
     have fj:=jc e ag
     clear jc;subst e;refine aK.value (x:=vx _) (v:= .int k (n.tmod n')) ?_ a6 ?_ fj (aI.refl _ _ _ _)
     rotate_left
     . exact aZ.v trivial
     simp [execOp,ae,e1,e2,eqGuard,binOp,Op.intDiv,ag]
   . exact gen _ _ e1 e2 hk
 . rename_i s s' h1 h2
   have e1:=jX hx h1
   have e2:=jX hy h2
   split at hk
   . obtain ⟨hle,hk⟩:=hk
     refine aK.value (x:=vx _) (v:= .string (s++s')) ?_ a6 ?_ hk (aI.refl _ _ _ _)
     rotate_left
     . exact aZ.v trivial
     have CR: ¬((s.size+s'.size:Nat):Int)>IntKind.i64.max:=j3
     have bd:(Op.stringOp .add s s').run P w= .ok (.string (s++s')) w:=by
      simp only [Op.stringOp];rw [if_neg CR];rfl
     have heq:(eqGuard .add t x y (.string s) (.string s')).run P w= .ok () w:=rfl
     simp only [execOp,ae,e1,e2,binOp,Sem.run_bind,heq,Result.andThen_ok,bd];rfl
   . exact gen _ _ e1 e2 hk
 . rename_i u v _ _ h1 h2
   exact gen _ _ (jX hx h1) (jX hy h2) hk
 . exact hk.elim
theorem aVU (ab:bE P τ) (a6:aC P base ψ S w st a) {t:TypeId} {x:Operand} {f:Nat} (ae:o.op= .field t x f) (hk:aBj τ t (ev st x) f fun y=>bG st o.dst y K):
 aK P base ψ S w a o K:=by
 have hx:=cL a6 x
 unfold aBj at hk;split at hk
 . rename_i fs sz bt z cs ht e
   rw [e] at hx;obtain ⟨arr,hv,hx⟩:=hx
   split at hk
   . rename_i nm ty off em tg pk bo hf
     split at hk
     . rename_i d2 s2 b2 z2 jj
       split at hk
       . rename_i r hr
         obtain ⟨h1,h2⟩:=aCK hx hr
         have ao:=fU ab ht w
         simp only at ao
         have lz:=aFv ab jj w
         have hsz:=jY ab jj w
         simp only at lz hsz
         split at hk
         . rename_i y hy
           cases hw:jZ d2 with
           |true=>
            rw [hw] at hy lz;simp only [kG,Option.some.injEq] at hy;subst hy;refine aK.value (x:= .va (.agg r)) (v:= .agg (arr.extract off (off+s2))) ?_ a6 ⟨_,rfl, ?_⟩ hk (aI.refl _ _ _ _)
            . simp only [execOp,ae,hv,Instr.field,Sem.run_bind,ao,Result.andThen_ok,hf,asAgg,Sem.run_pure,part,lz,if_true,hsz]
            . have:(arr.extract off (off+s2)).toList=(arr.toList.drop off).take s2:=by
               rw [Array.toList_extract,List.extract_eq_take_drop];congr 1;omega
              rw [this];exact h1
           |false=>
            rw [hw] at hy lz;cases r with
            |nil=>simp [kG] at hy
            |cons c r=>
             cases r with
             |cons _ _=>simp [kG] at hy
             |nil=>
              simp only [kG,Option.some.injEq] at hy;subst hy;cases iu:(arr.toList.drop off).take s2 with
              |nil=>rw [iu] at h1;exact h1.elim
              |cons y1 ys=>
               rw [iu] at h1;have hg:arr[off]? =some y1:=by
                have:((arr.toList.drop off).take s2)[0]? =some y1:=by rw [iu];rfl
                have:=pD this
                simpa using this
               refine aK.value (x:= .va (.c c)) (v:=y1) ?_ a6 h1.1.1 hk (aI.refl _ _ _ _)
               simp only [execOp,ae,hv,Instr.field,Sem.run_bind,ao,Result.andThen_ok,hf,asAgg,Sem.run_pure,part,lz,Bool.false_eq_true,if_false,hg]
         . exact hk.elim
       . exact hk.elim
     . exact hk.elim
   . exact hk.elim
 . exact hk.elim
theorem aUL (a6:aC P base ψ S w st a) {t:Operand} {i:Nat} {xs:List Va} {y:Va} (ae:o.op= .extract t i) (ht:ev st t= .tup xs) (hy:xs[i]? =some y)
 (hk:bG st o.dst (.va y) K):aK P base ψ S w a o K:=by
 have hx:=cL a6 t
 rw [ht] at hx;obtain ⟨arr,hv,hx⟩:=hx
 obtain ⟨v,h1,h2⟩:=hx.get i y hy
 refine aK.value (x:= .va y) (v:=v) ?_ a6 h2 hk (aI.refl _ _ _ _)
 simp only [Array.getElem?_toList] at h1;simp only [execOp,ae,hv,Instr.extract,h1,Sem.run_bind,Sem.run_pure,Result.andThen_ok]
theorem aCL {j:Nat} {F:Nat->Prop}: ∀{n:Nat},aDI (j:Int) F n->j<n->F j
 |0,_,h=>by omega
 |n+1,⟨h1,h2⟩,h=>by
  by_cases e:j=n
  . subst e;exact h2 rfl
  . exact aCL h1 j3
theorem aUu (ab:bE P τ) (a6:aC P base ψ S w st a) {t:TypeId} {x ix:Operand} (ae:o.op= .indexAddr t x ix) (hk:aAM τ t (ev st x) (ev st ix) fun y=>bG st o.dst y K):
 aK P base ψ S w a o K:=by
 have hx:=cL a6 x
 have hi:=cL a6 ix
 unfold aAM at hk;split at hk
 . rename_i len e vb bt z ht
   have ao:=fU ab ht w
   simp only at ao
   split at hk
   . rename_i d2 sz b2 z2 jj
     have hsz:=jY ab jj w
     simp only at hsz
     split at hk
     . rename_i kk off k i e1 e2
       have hi:=jX hi e2
       rw [e1] at hx;obtain ⟨b,m,bg,BD⟩:=hx
       have run:0<=i->i<len->(execOp a.eval o).run P w= .ok (.value (.pointer (some ⟨b,off+i.toNat*sz,none⟩))) w:=by
        intro h3 h4;simp only [execOp,ae,BD,hi,Instr.indexAt,asIntOf,Instr.sureAddr,Sem.run_bind,Sem.run_pure,ao,Result.andThen_ok,if_pos (And.intro h3 h4),hsz,pG]
       split at hk
       . rename_i hb
         simp only [Bool.and_eq_true] at hb;have CS:=Nat.eq_of_beq_eq_true hb.2
         subst CS;obtain ⟨⟨h1,h2⟩,hk⟩:=hk
         refine aK.value (run h1 h2) a6 (x:= .va (.c (.ap kk off len i.toNat))) ⟨b,m,bg,by rw [Nat.mul_one]⟩ (hk h1 h2) (aI.refl _ _ _ _)
       . obtain ⟨⟨h1,h2⟩,hk⟩:=hk
         obtain ⟨j,rfl⟩:=Int.eq_ofNat_of_zero_le h1
         have hj:j<len:=j3
         refine aK.value (run h1 h2) a6 (x:= .va (.c (.own kk (off+j*sz)))) ⟨b,m,bg,by simp⟩ (aCL hk hj) (aI.refl _ _ _ _)
     . exact hk.elim
   . exact hk.elim
 . rename_i e vb bt z ht
   have ao:=fU ab ht w
   simp only at ao
   split at hk
   . rename_i d2 sz b2 z2 jj
     have hsz:=jY ab jj w
     simp only at hsz
     have run: ∀b off n c k (i:Int),a.eval x= .slice (some ⟨b,off,none⟩) n c->a.eval ix= .int k i->0<=i->i<n->
      (execOp a.eval o).run P w= .ok (.value (.pointer (some ⟨b,off+i.toNat*sz,none⟩))) w:=by
      intro b off n c k i h1 h2 h3 h4;simp only [execOp,ae,h1,h2,Instr.indexAt,asIntOf,Sem.run_bind,Sem.run_pure,ao,Result.andThen_ok,if_pos (And.intro h3 h4),hsz,pG]
     split at hk
     . rename_i zz n f k i e1 e2
       have hi:=jX hi e2
       rw [e1] at hx;obtain ⟨rfl,⟨h1,h2⟩,hk⟩:=hk
       have hk:=hk h1 h2
       generalize hv:a.eval x=vv at hx
       cases hx with
       |nil=>omega
       | @lst _ _ _ b off c g hS hl hc hd hn=>
         refine aK.value (run b off n c k i hv hi h1 h2) a6 (x:= .va (.c (.rp (f i.toNat)))) ⟨b,off+i.toNat*zz,(List.range zz).map (g i.toNat),rfl,hS, ?_,?_⟩ hk (aI.refl _ _ _ _)
         . have BF:i.toNat<n:=by omega
           refine aG.of_get (by simp [hl _ BF]) fun j xx y gb hy=> ?_
           have hj:j<zz:=by have:=(List.getElem?_eq_some_iff.1 gb).1;rwa [hl _ BF] at this
           have:=hd i.toNat j BF hj
           simp [hj] at hy
           simpa [List.getD,gb,hy] using this
         . intro j y hy;have hj:j<zz:=by have:=(List.getElem?_eq_some_iff.1 hy).1;simpa using this
           simp [hj] at hy
           rw [<-hy];exact hc i.toNat j j3 hj
     . rename_i kk zz o' n k i e1 e2
       have hi:=jX hi e2
       rw [e1] at hx;obtain ⟨rfl,⟨h1,h2⟩,hk⟩:=hk
       have hk:=hk h1 h2
       rcases hx with ⟨_,hn,_⟩|⟨b,m,c,off,g1,g2,g3,g4⟩
       . omega
       . obtain ⟨rfl,g5⟩:=g4 j3
         refine aK.value (run b _ n c k i g2 hi h1 h2) a6 (x:= .va (.c (.ep kk zz (o'+i.toNat) 0))) ⟨b,m,g1,by rw [Nat.add_mul];rfl⟩ hk (aI.refl _ _ _ _)
     . exact hk.elim
   . exact hk.elim
 . exact hk.elim
theorem aEI: ∀{cs:List aL} {vs us:List Value},bY aCV cs=some us->aG (dK P ψ S w) cs vs->vs=us
 | [],[],us,h,_=>by simp only [bY,Option.some.injEq] at h;exact h
 |c::cs,v::vs,us,h,⟨h1,h2⟩=>by
  simp only [bY] at h;split at h
  . rename_i y ys e1 e2
    simp at h;subst h
    rw [aEI e2 h2]
    congr 1
    have h1:=h1.1
    unfold aCV at e1;split at e1
    . simp at e1;subst e1;cases h1;rfl
    . simp at e1;subst e1;exact h1
    . simp at e1
  . simp at h
def uM (d:TypeDesc) (xs:List Value):Value:=match jZ d with
 |true=> .agg xs.toArray
 |false=>xs.headD undef
theorem aC5 (ab:bE P τ) {t:TypeId} {i:TI} (ht:τ t=some i) {xs ga:List Value} {off:Nat} (h:gG (xs.drop off) i.size=some ga) (h1:jZ i.desc=true \/ga≠ []):
 (part t xs.toArray off).run P w= .ok (uM i.desc ga) w:=by
 obtain ⟨g1,g2⟩:=tZ h
 simp only [part,Sem.run_bind,aFv ab ht,Result.andThen_ok];cases hw:jZ i.desc with
 |true=>
  simp only [if_true,Sem.run_bind,jY ab ht,Result.andThen_ok,Sem.run_pure,uM,hw]
  congr 2
  apply Array.ext'
  rw [g1,Array.toList_extract,List.extract_eq_take_drop];simp only [Nat.add_sub_cancel_left]
 |false=>
  simp only [Bool.false_eq_true,if_false,uM,hw];cases ga with
  |nil=>
   rcases h1 with h1|h1
   . rw [hw] at h1;cases h1
   . exact absurd rfl h1
  |cons x ga=>
   have:((xs.drop off).take i.size)[0]? =some x:=by rw [<-g1];rfl
   have:=pD this
   simp only [Nat.add_zero] at this;simp [this]
theorem aFw (ab:bE P τ): ∀(n d:Nat) (t:TypeId) (xs ys:List Value) (b:Bool) (i:TI),n<=d->τ t=some i->vC τ n t xs ys=some b->
 (Op.equalIn d t (uM i.desc xs) (uM i.desc ys)).run P w= .ok b w/\ (jZ i.desc=true \/xs≠ [])
 |0,_,_,_,_,_,_,_,_,h=>by simp [vC] at h
 |n+1,0,_,_,_,_,_,hn,_,_=>by omega
 |n+1,d+1,t,xs,ys,b,i,hn,ht,h=>by
  obtain ⟨info,_,ao,_⟩:=ab.ok t i ht
  simp only [vC,ht] at h;split at h
  . rename_i i0 fs sz nb z e
    simp only [Option.some.injEq] at e;subst e;obtain ⟨c1,c2,c3⟩:=ab.cmp t _ ht rfl
    refine ⟨?_,.inl rfl⟩
    have ao:P.underlying t=some (.struct fs):=ao
    have yg:P.fieldsOf t=fs:=by simp [Program.fieldsOf,ao]
    have kz: ∀l,uM (.struct fs) l= .agg l.toArray:=fun _=>rfl
    simp only [kz];rw [run_equalIn_struct w d t _ _ (by rw [yg];exact ao) c1,yg];have c3:=c3 fs rfl
    clear ao yg
    generalize fs.toList=l at c3 h
    induction l generalizing b with
    |nil=>simp at h;subst h;rfl
    |cons f l ih=>
     simp only [List.foldr_cons] at h;split at h
     . rename_i b' ty cd kx z' fu mb
       split at h
       . rename_i ga ff hx hy
         split at h
         . rename_i c hc
           simp at h;subst h
           obtain ⟨g1,g2⟩:=aFw ab n d f.type ga ff c _ j3 mb hc
           have hlen:ga.length=ff.length:=by rw [(tZ hx).2,(tZ hy).2]
           have xh:jZ ty=true \/ff≠ []:=by
            rcases g2 with g2|g2
            . exact .inl g2
            . right;intro e;rw [e] at hlen;simp at hlen;exact g2 hlen
           simp only [Op.eqFields,if_pos (c3 f j8),Sem.run_bind,aC5 ab mb hx g2,aC5 ab mb hy xh,Result.andThen_ok,g1];cases c with
           |false=>simp
           |true=>
            simp only [Bool.not_true,Bool.false_eq_true,if_false,Bool.true_and];exact ih b' (fun f hf=>c3 f (by simp [hf])) fu
         . simp at h
       . simp at h
     . simp at h
  . rename_i i0 len el sz nb z e
    simp only [Option.some.injEq] at e;subst e;refine ⟨?_,.inl rfl⟩
    have ao:P.underlying t=some (.array len el):=ao
    have kz: ∀l,uM (.array len el) l= .agg l.toArray:=fun _=>rfl
    simp only [kz];split at h
    . rename_i ty cd kx z' mb
      obtain ⟨info,ee,_,hsz,_⟩:=ab.ok el _ mb
      have hc:P.cellsOf el=cd:=by unfold Program.cellsOf;rw [ee];exact hsz
      rw [run_equalIn_array w d _ _ ao ee,hc]
      generalize List.range len=l at h
      induction l generalizing b with
      |nil=>simp at h;subst h;rfl
      |cons f l ih=>
       simp only [List.foldr_cons] at h;split at h
       . rename_i b' fu
         split at h
         . rename_i ga ff hx hy
           split at h
           . rename_i c hc
             simp at h;subst h
             obtain ⟨g1,g2⟩:=aFw ab n d el ga ff c _ j3 mb hc
             have hlen:ga.length=ff.length:=by rw [(tZ hx).2,(tZ hy).2]
             have xh:jZ ty=true \/ff≠ []:=by
              rcases g2 with g2|g2
              . exact .inl g2
              . right;intro e;rw [e] at hlen;simp at hlen;exact g2 hlen
             simp only [Op.eqItems,Sem.run_bind,aC5 ab mb hx g2,aC5 ab mb hy xh,Result.andThen_ok,g1];cases c with
             |false=>simp
             |true=>
              simp only [Bool.not_true,Bool.false_eq_true,if_false,Bool.true_and];exact ih b' fu
           . simp at h
         . simp at h
       . simp at h
    . simp at h
  . rename_i i0 k sz bt z e
    simp only [Option.some.injEq] at e;subst e;have ao:P.underlying t=some (.int k):=ao
    split at h
    . rename_i k1 x k2 y
      split at h
      . rename_i hk
        have hk:k1=k2:=of_decide_eq_true hk
        subst hk;simp at h;subst h
        exact ⟨run_equalIn_int w d t k1 k x y ao,.inr j8⟩
      . simp at h
    . simp at h
  . rename_i i0 sz bt z e
    simp only [Option.some.injEq] at e;subst e;have ao:P.underlying t=some .bool:=ao
    split at h
    . simp at h;subst h
      exact ⟨run_equalIn_bool w d t _ _ ao,.inr j8⟩
    . simp at h
  . rename_i i0 sz bt z e
    simp only [Option.some.injEq] at e;subst e;have ao:P.underlying t=some .string:=ao
    split at h
    . simp at h;subst h
      exact ⟨run_equalIn_string w d t _ _ ao,.inr j8⟩
    . simp at h
  . simp at h
theorem aVV {t:TypeId} (h:aMg τ t=true): ∃ti,τ t=some ti/\ ti.bytes.cmp=true/\ jZ ti.desc=true:=by
 unfold aMg at h;split at h
 . rename_i ab;exact ⟨_,ab,rfl,rfl⟩
 . rename_i ab;exact ⟨_,ab,rfl,rfl⟩
 . cases h
theorem bAT (ab:bE P τ) (a6:aC P base ψ S w st a) {op:BinOp} {t ty:TypeId} {x y:Operand} {xs ys:List aL} (ae:o.op= .binOp op t x y ty)
 (hx:ev st x= .va (.agg xs)) (hy:ev st y= .va (.agg ys)) (hk:oEq τ op t xs ys fun y=>bG st o.dst y K):aK P base ψ S w a o K:=by
 have rx:=cL a6 x
 have ry:=cL a6 y
 rw [hx] at rx;rw [hy] at ry
 obtain ⟨ax,CT,rx⟩:=rx
 obtain ⟨ay,CU,ry⟩:=ry
 unfold oEq at hk;split at hk
 . rename_i us vs ht hu hv
   obtain ⟨ti,ht,rf,lz⟩:=aVV ht
   have e1:=aEI hu rx
   have e2:=aEI hv ry
   have Er:ax=us.toArray:=by apply Array.ext';simpa using e1
   have Es:ay=vs.toArray:=by apply Array.ext';simpa using e2
   subst Er;subst Es
   obtain ⟨_,c2,_⟩:=ab.cmp t _ ht rf
   have sl: ∀op,(eqGuard op t x y (.agg us.toArray) (.agg vs.toArray)).run P w= .ok () w:=by
    intro op;unfold eqGuard;cases op<;>first|rfl|simp [c2]
   cases heq:vC τ 50 t us vs with
   |none=>simp [heq] at hk
   |some b=>
    rw [heq] at hk;obtain ⟨bd,_⟩:=aFw (w:=w) ab 50 10000 t us vs b _ j3 ht heq
    have CV: ∀l,uM ti.desc l= .agg l.toArray:=fun l=>by unfold uM;rw [lz]
    rw [CV,CV] at bd;have bd:(Op.equal t (.agg us.toArray) (.agg vs.toArray)).run P w= .ok b w:=bd
    split at hk
    . rename_i b' hb;simp at hb;subst hb
      refine aK.value (x:=vx (.bool b)) (v:= .bool b) ?_ a6 (aZ.v trivial) hk (aI.refl _ _ _ _)
      simp only [execOp,ae,CT,CU,Sem.run_bind,sl,Result.andThen_ok,binOp,bd];rfl
    . rename_i b' hb;simp at hb;subst hb
      refine aK.value (x:=vx (.bool (!b))) (v:= .bool (!b)) ?_ a6 (aZ.v trivial) hk (aI.refl _ _ _ _)
      simp only [execOp,ae,CT,CU,Sem.run_bind,sl,Result.andThen_ok,binOp,bd];rfl
    . exact hk.elim
 . exact hk.elim
end
section
variable {P:Program} {τ:bF} {base:Nat} {ψ aa:aJ} {S S':Nat→Prop} {w w':World} {st st1:St} {a:Act} {o:Oper} {K:St→Prop}
theorem sN (a6:aC P base ψ S w st a) {xs:List Operand} {as:List Va} (h:bY (fun x=>gK (ev st x)) xs=some as):aG (bB P ψ S w) as (xs.map a.eval):=by
 have:=aIu h
 have h2:aG (fun x v=>dL P ψ S w (ev st x) v) xs (xs.map a.eval):=by
  clear this h
  induction xs with
  |nil=>trivial
  |cons x xs ih=>exact ⟨cL a6 x,ih⟩
 refine aG.comp (T:=bB P ψ S w) (fun x y v h1 h2=> ?_) this h2
 revert h1 h2
 cases hx:ev st x with
 |va y'=>simp only [gK,Option.some.injEq];intro h1 h2;subst h1;exact h2
 |tup _=>simp [gK]
theorem aCM (a6:aC P base ψ S w st a) {xs:List Operand} {as:List Value} (h:bY (fun x=>cZ (ev st x)) xs=some as):xs.map a.eval=as:=by
 have:=aIu h
 clear h
 induction xs generalizing as with
 |nil=>cases as with|nil=>rfl|cons _ _=>exact this.elim
 |cons x xs ih=>cases as with
  |nil=>exact this.elim
  |cons y ys=>simp only [List.map_cons];rw [jX (cL a6 x) this.1,ih this.2]
theorem nV {b:Builtin} {args:Array Operand} {ts:Array TypeId} (ae:o.op= .call {callee:= .builtin b,args,argTypes:=ts}):
 execOp a.eval o=builtin b ts o.type (args.map fun| .const _=>true|_=>false) (args.map a.eval):=by
 simp only [execOp,ae,resolve];rfl
theorem aY2 (ab:bE P τ) (a6:aC P base ψ S w st a) {args:Array Operand} {ts:Array TypeId} (ae:o.op= .call {callee:= .builtin .len,args,argTypes:=ts})
 (hk:aB4 P τ ts o.type (bY (fun x=>gK (ev st x)) args.toList) fun y=>bG st o.dst y K):aK P base ψ S w a o K:=by
 have hex:=nV (a:=a) ae
 have arg: ∀va,bY (fun x=>gK (ev st x)) args.toList=some [va]-> ∃v,args.map a.eval= #[v]/\ bB P ψ S w va v:=by
  intro va h;have:=sN a6 h
  rw [<-Array.toList_map] at this
  generalize args.map a.eval=A at this
  obtain ⟨l⟩:=A
  cases l with
  |nil=>exact this.elim
  |cons v l=>cases l with
   |nil=>exact ⟨v,rfl,this.1⟩
   |cons _ _=>exact this.2.elim
 unfold aB4 at hk;split at hk
 . rename_i t hts
   split at hk
   . rename_i e sz bt z ht
     have ao:=fU ab ht w
     simp only at ao
     have run: ∀a0 n c,args.map a.eval= #[.slice a0 n c]->(execOp a.eval o).run P w= .ok (.value (.int .i64 n)) w:=by
      intro a0 n c hv;rw [hex,hv];simp only [builtin,Builtin.len_,hts,Sem.run_bind];simp [ao,goInt]
     split at hk
     . rename_i zz n f h
       obtain ⟨v,h1,h2⟩:=arg _ h
       cases h2 with
       |nil=>exact aK.value (run _ _ _ h1) a6 (x:=vx _) (aZ.v trivial) hk (aI.refl _ _ _ _)
       |lst=>exact aK.value (run _ _ _ h1) a6 (x:=vx _) (aZ.v trivial) hk (aI.refl _ _ _ _)
     . rename_i k1 z1 o1 n h
       obtain ⟨v,h1,h2⟩:=arg _ h
       rcases h2 with ⟨_,rfl,_,rfl⟩|⟨b,m,c,off,_,rfl,_⟩
       . exact aK.value (run _ _ _ h1) a6 (x:=vx _) (aZ.v trivial) hk (aI.refl _ _ _ _)
       . exact aK.value (run _ _ _ h1) a6 (x:=vx _) (aZ.v trivial) hk (aI.refl _ _ _ _)
     . rename_i k1 z1 o1 n c h
       obtain ⟨v,h1,h2⟩:=arg _ h
       rcases h2 with ⟨_,rfl,_,_,rfl⟩|⟨b,m,off,_,rfl,_⟩
       . exact aK.value (run _ _ _ h1) a6 (x:=vx _) (aZ.v trivial) hk (aI.refl _ _ _ _)
       . exact aK.value (run _ _ _ h1) a6 (x:=vx _) (aZ.v trivial) hk (aI.refl _ _ _ _)
     . rename_i n c h
       obtain ⟨v,h1,h2⟩:=arg _ h
       cases h2;exact aK.value (run _ _ _ h1) a6 (x:=vx _) (aZ.v trivial) hk (aI.refl _ _ _ _)
     . exact hk.elim
   . rename_i i ht ag
     split at hk
     . rename_i x h
       obtain ⟨v,h1,h2⟩:=arg _ h
       cases h2;refine qV a6 (fun r hr=> ?_) hk
       rw [hex,h1];simp only [builtin,Sem.run_bind,hr,Result.andThen_ok,Sem.run_pure]
     . exact hk.elim
   . exact hk.elim
 . exact hk.elim
theorem aY3 (a6:aC P base ψ S w st a) {args:Array Operand} {ts:Array TypeId} {as:List Value} (ae:o.op= .call {callee:= .builtin .min,args,argTypes:=ts})
 (ha:bY (fun x=>cZ (ev st x)) args.toList=some as) (hk:eF (dY P (Builtin.min_ ts o.type as.toArray)) fun y=>bG st o.dst y K):aK P base ψ S w a o K:=by
 have h1:=aCM a6 ha
 have h2:args.map a.eval=as.toArray:=v7
 refine qV a6 (fun r hr=> ?_) hk
 rw [nV ae,h2];simp only [builtin,Sem.run_bind,hr,Result.andThen_ok,Sem.run_pure]
theorem aY4 (a6:aC P base ψ S w st a) {args:Array Operand} {ts:Array TypeId} {as:List Value} (ae:o.op= .call {callee:= .builtin .max,args,argTypes:=ts})
 (ha:bY (fun x=>cZ (ev st x)) args.toList=some as) (hk:eF (dY P (Builtin.max_ ts o.type as.toArray)) fun y=>bG st o.dst y K):aK P base ψ S w a o K:=by
 have h1:=aCM a6 ha
 have h2:args.map a.eval=as.toArray:=v7
 refine qV a6 (fun r hr=> ?_) hk
 rw [nV ae,h2];simp only [builtin,Sem.run_bind,hr,Result.andThen_ok,Sem.run_pure]
theorem aY5 (ab:bE P τ) (a6:aC P base ψ S w st a) {args:Array Operand} {ts:Array TypeId} (ae:o.op= .call {callee:= .builtin .cap,args,argTypes:=ts})
 (hk:aB5 P τ ts o.type (bY (fun x=>gK (ev st x)) args.toList) fun y=>bG st o.dst y K):aK P base ψ S w a o K:=by
 have hex:=nV (a:=a) ae
 have arg: ∀va,bY (fun x=>gK (ev st x)) args.toList=some [va]-> ∃v,args.map a.eval= #[v]/\ bB P ψ S w va v:=by
  intro va h;have:=sN a6 h
  rw [<-Array.toList_map] at this
  generalize args.map a.eval=A at this
  obtain ⟨l⟩:=A
  cases l with
  |nil=>exact this.elim
  |cons v l=>cases l with
   |nil=>exact ⟨v,rfl,this.1⟩
   |cons _ _=>exact this.2.elim
 unfold aB5 at hk;split at hk
 . rename_i k1 z1 o1 n c h
   obtain ⟨v,h1,h2⟩:=arg _ h
   split at hk
   . rename_i t hts
     split at hk
     . rename_i e sz bt z ht
       have ao:=fU ab ht w
       simp only at ao
       have run: ∀a0,v= .slice a0 n c->(execOp a.eval o).run P w= .ok (.value (.int .i64 c)) w:=by
        intro a0 hv;rw [hex,h1,hv];simp only [builtin,Builtin.cap_,hts,Sem.run_bind];simp [ao,goInt]
       rcases h2 with ⟨_,rfl,rfl,a0,hv⟩|⟨b,m,off,_,hv,_⟩
       . exact aK.value (run _ hv) a6 (x:=vx _) (aZ.v trivial) hk (aI.refl _ _ _ _)
       . exact aK.value (run _ hv) a6 (x:=vx _) (aZ.v trivial) hk (aI.refl _ _ _ _)
     . exact hk.elim
   . exact hk.elim
 . rename_i x h
   obtain ⟨v,h1,h2⟩:=arg _ h
   cases h2;refine qV a6 (fun r hr=> ?_) hk
   rw [hex,h1];simp only [builtin,Sem.run_bind,hr,Result.andThen_ok,Sem.run_pure]
 . exact hk.elim
theorem aW6 (a6:aC P base ψ S w st a) {args:Array Operand} {ts:Array TypeId} {as:List Value} (ae:o.op= .call {callee:= .builtin .real,args,argTypes:=ts})
 (ha:bY (fun x=>cZ (ev st x)) args.toList=some as) (hk:eF (dY P (Builtin.real_ ts o.type as.toArray)) fun y=>bG st o.dst y K):aK P base ψ S w a o K:=by
 have h1:=aCM a6 ha
 have h2:args.map a.eval=as.toArray:=v7
 refine qV a6 (fun r hr=> ?_) hk
 rw [nV ae,h2];simp only [builtin,Sem.run_bind,hr,Result.andThen_ok,Sem.run_pure]
theorem aW7 (a6:aC P base ψ S w st a) {args:Array Operand} {ts:Array TypeId} {as:List Value} (ae:o.op= .call {callee:= .builtin .imag,args,argTypes:=ts})
 (ha:bY (fun x=>cZ (ev st x)) args.toList=some as) (hk:eF (dY P (Builtin.imag_ ts o.type as.toArray)) fun y=>bG st o.dst y K):aK P base ψ S w a o K:=by
 have h1:=aCM a6 ha
 have h2:args.map a.eval=as.toArray:=v7
 refine qV a6 (fun r hr=> ?_) hk
 rw [nV ae,h2];simp only [builtin,Sem.run_bind,hr,Result.andThen_ok,Sem.run_pure]
theorem aUM (a6:aC P base ψ S w st a) {args:Array Operand} {ts:Array TypeId} {as:List Value} (ae:o.op= .call {callee:= .builtin .complex,args,argTypes:=ts})
 (ha:bY (fun x=>cZ (ev st x)) args.toList=some as) (hk:eF (dY P (Builtin.complex_ ts o.type as.toArray)) fun y=>bG st o.dst y K):aK P base ψ S w a o K:=by
 have h1:=aCM a6 ha
 have h2:args.map a.eval=as.toArray:=v7
 refine qV a6 (fun r hr=> ?_) hk
 rw [nV ae,h2];simp only [builtin,Sem.run_bind,hr,Result.andThen_ok,Sem.run_pure]
theorem aY6 (ab:bE P τ) (a6:aC P base ψ S w st a) {op:BinOp} {t ty:TypeId} {x y:Operand} (ae:o.op= .binOp op t x y ty) {k off:Nat} (hx:ev st x= .va (.c (.own k off)))
 (hy:ev st y= .va (.c (.d (.v (.pointer none))))) (hk:aB3 τ op t fun z=>bG st o.dst z K):aK P base ψ S w a o K:=by
 have rx:=cL a6 x
 have ry:=cL a6 y
 rw [hx] at rx;rw [hy] at ry;obtain ⟨b,m,_,rx⟩:=rx
 have ry:a.eval y= .pointer none:=by generalize a.eval y=q at ry;cases ry;rfl
 unfold aB3 at hk;split at hk
 . rename_i e sz bt z ht
   have hu:=fU ab ht w
   simp only at hu
   have heq:(Op.equal t (.pointer (some ⟨b,off,none⟩)) (.pointer none)).run P w= .ok false w:=by
    unfold Op.equal Op.maxDepth;unfold Op.equalIn;simp only [Sem.run_bind,hu,Result.andThen_ok];rfl
   split at hk
   . refine aK.value (v:= .bool false) ?_ a6 (x:= .va (.c (.kb false))) rfl hk (aI.refl _ _ _ _)
     simp only [execOp,ae,rx,ry,eqGuard,Sem.run_bind,Sem.run_pure,Result.andThen_ok];simp [binOp,heq]
   . refine aK.value (v:= .bool true) ?_ a6 (x:= .va (.c (.kb true))) rfl hk (aI.refl _ _ _ _)
     simp only [execOp,ae,rx,ry,eqGuard,Sem.run_bind,Sem.run_pure,Result.andThen_ok];simp [binOp,heq]
   . exact hk.elim
 . exact hk.elim
def iY (P:Program) (base:Nat) (calls:Nat->List Va->St->(Tm->St->Prop)->Prop):Prop:=
 ∀f as st K,calls f as st K-> ∀ψ S w a ak,aC P base ψ S w st a->aG (bB P ψ S w) as ak->
  tC P f ak.toArray w fun e w'=> ∃r st' v aa S',e= .returned v/\ K r st'/\ aC P base aa S' w' st' a/\ dL P aa S' w' r v/\ aI base ψ S w aa S' w'
theorem aJD {f:Operand} {args:Array Operand} {ts:Array TypeId} {g:Nat} {first aq:Array Value} (ae:o.op= .call {callee:= .value f,args,argTypes:=ts})
 (hf:a.eval f= .func (.func g) first aq) {R:Ending->World->Prop} (h:tC P g (first++args.map a.eval++aq) w R) {next:Act->World->Prop} {Q:Exit->Act->World->Prop}
 (hr: ∀e w',R e w'-> ∃v,e= .returned v/\ next (a.put o.dst v) w'):o.wp P a w next Q:=by
 have e:(execOp a.eval o).run P w=(callFunc g (first++args.map a.eval++aq)).run P w:=by
  simp only [execOp,ae,resolve,hf,Deferred.ofValue,Sem.run_bind,Sem.run_pure,Result.andThen_ok,invoke]
 rcases h with ⟨hc,h⟩|⟨v,w',h1,h2⟩
 . simp only [Oper.wp,e,aOk hc,Oper.upon];refine h.mono ?_
   intro e' w' he
   obtain ⟨v,rfl,hn⟩:=hr _ _ he
   exact hn
 . simp only [Oper.wp,e,h1,Oper.upon];obtain ⟨v',e',hn⟩:=hr _ _ h2
   cases e'
   exact hn
theorem aB7.ext {ψ:aJ} (hs: ∀b,S b->b<w.heap.size) (h:aB7 S w S' w'):aI base ψ S w ψ S' w' where
 os:=h.os
 tape:=h.tape
 output:=h.output
 grow:=h.grow
 old b hb _:=h.old b hb
 later:=⟨h.sub,fun b hb=>h.old b (hs b hb)⟩
 newS b hb:=by rcases h.newS b hb with h1|h1;exact .inl h1;exact .inr (.inr h1)
 newP k b m hk:= .inl ⟨k,m,hk⟩
 agr _ _:=rfl
theorem aEN (a6:aC P base ψ S w st a) {sz:Nat}: ∀(parts:List (Nat×Operand)) (cs:List aL) (arr:Array Value) (r:List aL),
 aG (dK P ψ S w) cs arr.toList->iP sz (ev st) parts cs=some r->
 ∃bu,Instr.fill (fun i=>some (i*sz,sz)) arr (parts.map fun p=>(p.1,a.eval p.2))=some bu/\ aG (dK P ψ S w) r bu.toList
 | [],cs,arr,r,h,hf=>by simp [iP] at hf;subst hf;exact ⟨arr,rfl,h⟩
 |(i,x)::ps,cs,arr,r,h,hf=>by
  simp only [iP] at hf;split at hf
  . rename_i y hy
    split at hf
    . rename_i ib jh hsz hle dz
      have hsz:=Nat.eq_of_beq_eq_true hsz
      have hle:=Nat.le_of_ble_eq_true hle
      have hx:=cL a6 x
      rw [hy] at hx;have bq:=bB.cells hx jh
      have BE:=bq.length
      have hl:=h.length
      simp at BE hl
      have h':aG (dK P ψ S w) ib (((a.eval x).cells.zipIdx.foldl (fun cs (cj:Value×Nat)=>cs.setIfInBounds (i*sz+cj.2) cj.1) arr)).toList:=by
       rw [<-Array.foldl_toList,Array.toList_zipIdx];refine aE4 h bq dz ?_ ?_
       . simp [aIw]
       . intro j;rw [Array.getElem?_toList,aIv];simp only [Array.getElem?_toList,Nat.add_zero,Array.length_toList];by_cases hj:i*sz<=j/\ j<i*sz+(a.eval x).cells.size
         . rw [if_pos hj,if_pos j3]
         . rw [if_neg hj,if_neg j3]
      obtain ⟨bu,g1,g2⟩:=aEN a6 ps ib _ r h' hf
      refine ⟨bu, ?_,g2⟩
      simp only [List.map_cons,Instr.fill];rw [if_neg j1u];exact g1
    . simp at hf
  . simp at hf
theorem aVW (ab:bE P τ) (hz: ∀t i,τ t=some i->cP i.zero) (a6:aC P base ψ S w st a) {t:TypeId} {parts:Array (Nat×Operand)} (ae:o.op= .build t parts)
 (hk:zH τ (ev st) t parts.toList fun y=>bG st o.dst y K):aK P base ψ S w a o K:=by
 unfold zH at hk;split at hk
 . rename_i fs sz bt z ht
   split at hk
   . rename_i cs hall iv
     have ao:=fU ab ht w
     have hzero:=sJ ab ht w
     simp only at ao hzero
     obtain ⟨bu,h1,h2⟩:=aQm (P:=P) a6 parts.toList _ z.cells _ (sH (hz _ _ ht)) iv
     refine aK.value (x:= .va (.agg cs)) (v:= .agg bu) ?_ a6 ⟨bu,rfl,h2⟩ hk (aI.refl _ _ _ _)
     have yh:(fs.mapM (fun f=>do pure (f.offset, <-sizeOf f.type)):Sem (Array (Nat×Nat))).run P w= .ok (fs.map fun f=>(f.offset,aEq τ f.type)) w:=by
      refine aUI fs fun f hf=> ?_
      have:=(List.all_eq_true.1 hall) f hf
      cases BG:τ f.type with
      |none=>simp [BG] at this
      |some i=>simp [jY ab BG,aEq,BG]
     simp only [execOp,ae,Instr.build,Sem.run_bind,ao,hzero,Result.andThen_ok,yh];have:(Array.map (fun p=>(p.1,a.eval p.2)) parts).toList=parts.toList.map fun p=>(p.1,a.eval p.2):=j8
     rw [this,h1];rfl
   . exact hk.elim
 . rename_i len e sz bt z ht
   split at hk
   . rename_i d Gy b ez bw
     split at hk
     . rename_i cs iv
       have ao:=fU ab ht w
       have hzero:=sJ ab ht w
       have Az:=jY (w:=w) ab bw
       simp only at ao hzero Az
       obtain ⟨bu,h1,h2⟩:=aEN (P:=P) a6 parts.toList _ z.cells _ (sH (hz _ _ ht)) iv
       refine aK.value (x:= .va (.agg cs)) (v:= .agg bu) ?_ a6 ⟨bu,rfl,h2⟩ hk (aI.refl _ _ _ _)
       simp only [execOp,ae,Instr.build,Sem.run_bind,ao,hzero,Result.andThen_ok,Az];have:(Array.map (fun p=>(p.1,a.eval p.2)) parts).toList=parts.toList.map fun p=>(p.1,a.eval p.2):=j8
       rw [this,h1];rfl
     . exact hk.elim
   . exact hk.elim
 . exact hk.elim
theorem aIb {z:Value} (hz:cP z) {sz n:Nat} (hl:(cW z).length=sz) (hp:0<sz):aG (dK P ψ S w) (sO (cW z) n) ((Array.range n).map (z.cells[· %z.cells.size]!)).toList:=by
 have en:=sH (P:=P) (ψ:=ψ) (S:=S) (w:=w) hz
 have hlen:=en.length
 simp at hlen
 refine aG.of_get (by simp [sO]) ?_
 intro i x y hx hy;simp only [sO,List.getElem?_map] at hx;have hi:i<n:=by
  rcases Nat.lt_or_ge i n with h|h
  . exact h
  . rw [List.getElem?_eq_none w7] at hx;simp at hx
 have hr:(List.range n)[i]? =some i:=by simp [hi]
 rw [hr] at hx;simp only [Option.map_some,Option.some.injEq] at hx;have hm:i%(cW z).length<(cW z).length:=Nat.mod_lt _ j3
 obtain ⟨v,h1,h2⟩:=en.get (i%(cW z).length) ((cW z)[i%(cW z).length]) (by simp [hm])
 have hx':(cW z)[i%(cW z).length]=x:=by rw [<-hx];simp [hm]
 have uw:v=y:=by
  simp only [Array.getElem?_toList,Array.getElem?_map] at hy;have:(Array.range n)[i]? =some i:=by simp [hi]
  rw [this] at hy;simp only [Option.map_some,Option.some.injEq] at hy;rw [<-hy, <-hlen];rw [Array.getElem?_toList] at h1;have hb:=(Array.getElem?_eq_some_iff.1 h1)
  obtain ⟨au,ie⟩:=hb
  rw [getElem!_pos (c:=z.cells) (i:=i%(cW z).length) (h:=au)];exact ie.symm
 rw [<-hx', <-uw];exact h2
theorem aUk (ab:bE P τ) (hz: ∀t i,τ t=some i->cP i.zero) (a6:aC P base ψ S w st a) {t:TypeId} {len:Nat} {parts:Array (Nat×Operand)} (ae:o.op= .buildSlice t len parts)
 (hk:aH3 τ st o.dst t len parts.toList K):aK P base ψ S w a o K:=by
 unfold aH3 at hk;split at hk
 . rename_i e cd Et z' ht
   split at hk
   . rename_i desc sz bt z bw
     split at hk
     . rename_i cs hle gu hpos iv
       have hle:=Nat.le_of_ble_eq_true hle
       have gu:=Nat.eq_of_beq_eq_true gu
       have hpos:0<sz:=j0j
       have ao:=fU ab ht w
       have cq:=jY ab bw w
       have hzero:=sJ ab bw w
       simp only at ao cq hzero
       obtain ⟨arr,h1,h2⟩:=aEN (P:=P) a6 parts.toList _ _ _ (aIb (hz _ _ bw) (n:=len*sz) gu hpos) iv
       obtain ⟨ds,h3,h4⟩:=qP a6.sim hk h2
       rw [fJ] at h4;obtain ⟨ts,h,n,m⟩:=st
       simp only [aFu] at h4;have hlen:ds.length=len*sz:=by
        have e1:=h3.length
        have e2:=h2.length
        have: ∀(ps:List (Nat×Operand)) (c r:List aL),iP sz (ev ⟨ts,h,n,m⟩) ps c=some r->r.length=c.length:=by
         intro ps
         induction ps with
         |nil=>intro c r hf;simp [iP] at hf;rw [hf]
         |cons p ps ih=>
          intro c r hf;simp only [iP] at hf;split at hf
          . split at hf
            . rename_i dz
              rw [ih _ _ hf];exact (wB _ _ _ _ dz).1
            . simp at hf
          . simp at hf
        have e3:=this _ _ _ iv
        rw [e1, <-e2,e3];simp [sO]
       have hn:ψ n=none:=a6.sim.dom n (Nat.le_refl _)
       have hl:=tX a6.sim.sdom (Obj.cells arr e)
       have o9:arr.size=len*sz:=j1c
       have bh:fE P (ψ.set n (.at w.heap.size arr.size)) S (w.alloc (.cells arr e)) (.row sz len (rowAt sz ds)) (.at w.heap.size arr.size):=by
        refine ⟨arr,e,tW _,rfl,by omega, ?_,?_⟩
        . intro i hi;have:=Nat.mul_le_mul_right sz (Nat.succ_le_of_lt hi)
          rw [Nat.succ_mul] at this;simp [rowAt];omega
        . intro i j hi hj;have:=Nat.mul_le_mul_right sz (Nat.succ_le_of_lt hi)
          rw [Nat.succ_mul] at this;have hlt:i*sz+j<ds.length:=j3
          obtain ⟨v,g1,g2⟩:=h3.get (i*sz+j) (ds[i*sz+j]) (by simp [hlt])
          have e1:(rowAt sz ds i).getD j (.v (.bool false))=ds[i*sz+j]:=by
           simp [rowAt,List.getD,List.getElem?_drop,hj,hlt]
          have e2:arr.getD (i*sz+j) undef=v:=by
           rw [Array.getElem?_toList] at g1;simp [Array.getD_eq_getD_getElem?,g1]
          rw [e1,e2];exact g2.later hl
       obtain ⟨k1,k2⟩:=a6.alloc (blk:= .row sz len (rowAt sz ds)) (arr:=arr) (e:=e) bh
       refine aK.value (v:= .slice (some ⟨w.heap.size,0,none⟩) len len) ?_ k1 ?_ h4 k2
       . have hp:(Array.map (fun p=>(p.1,a.eval p.2)) parts).toList=parts.toList.map fun p=>(p.1,a.eval p.2):=by simp
         have fg: ¬len*sz>2^24:=j3
         by_cases h0:len*sz=0
         . have:(Array.range (len*sz)).map ((z.cells[· %z.cells.size]!))=(Array.range (len*sz)).map ((#[]:Array Value)[· %(#[]:Array Value).size]!):=by rw [h0];simp
           rw [this] at h1;simp only [execOp,ae,Instr.buildSlice,Sem.run_bind,ao,cq,Result.andThen_ok,if_neg fg,if_pos h0,Sem.run_pure,hp,h1,newRow,run_newObj];rfl
         . simp only [execOp,ae,Instr.buildSlice,Sem.run_bind,ao,cq,hzero,Result.andThen_ok,if_neg fg,if_neg h0,Sem.run_pure,hp,h1,newRow,run_newObj];rfl
       . exact .inr ⟨w.heap.size,arr.size,len,0,by simp [aJ.set],rfl,Nat.le_refl _,fun _=>⟨by simp,by simp [o9]⟩⟩
     . exact hk.elim
   . exact hk.elim
 . exact hk.elim
end
section
variable {P:Program} {τ:bF} {base:Nat} {ψ aa:aJ} {S S':Nat→Prop} {w w':World} {st st1:St} {a:Act} {o:Oper} {K:St→Prop}
theorem nZ {x:Option Operand} {d:Int} {k:Int->Prop} (a6:aC P base ψ S w st a) (h:kH (x.map (ev st)) d k):
 ∃i,k i/\ ((x=none/\ i=d) \/ ∃y kd,x=some y/\ a.eval y= .int kd i):=by
 cases x with
 |none=>exact ⟨d,h,.inl ⟨rfl,rfl⟩⟩
 |some y=>
  simp only [kH,Option.map_some] at h;split at h
  . rename_i kd i hp
    exact ⟨i,h,.inr ⟨y,kd,rfl,jX (cL a6 y) hp⟩⟩
  . exact h.elim
theorem aAI {kd:IntKind} {i:Int} {y:Nat} (code:BoundsCode) (h0:0<=i) (h1:i<=y):(Instr.sliceBound (.int kd i) y code).run P w= .ok i.toNat w:=by
 simp only [Instr.sliceBound,asIntOf,Sem.run_bind,Sem.run_pure,Result.andThen_ok,if_pos (And.intro h0 h1)]
theorem wC {lo hi mx:Option Operand} {isS:Bool} {len cap:Nat} {l h m:Int}
 (hl:(lo=none/\ l=0) \/ ∃y kd,lo=some y/\ a.eval y= .int kd l) (hh:(hi=none/\ h=(len:Int)) \/ ∃y kd,hi=some y/\ a.eval y= .int kd h)
 (hm:(mx=none/\ m=(len:Int)) \/ ∃y kd,mx=some y/\ a.eval y= .int kd m) (h0:0<=l) (h1:l<=h) (h2:h<=m) (h3:m<=len) (hc:len<=cap) (vd:mx.isSome=true->hi.isSome=true):
 ∃c,(Instr.sliceBounds isS len cap (lo.map a.eval) (hi.map a.eval) (mx.map a.eval)).run P w= .ok (l.toNat,h.toNat,c) w/\ h.toNat<=c/\ c<=cap/\ (mx=none->c=cap):=by
 rcases hm with ⟨rfl,rfl⟩|⟨ym,km,rfl,CW⟩
 . refine ⟨cap, ?_,by omega,Nat.le_refl _,fun _=>rfl⟩
   rcases hh with ⟨rfl,rfl⟩|⟨y,kd,rfl,hy⟩
   . rcases hl with ⟨rfl,rfl⟩|⟨yl,kl,rfl,yi⟩
     . simp only [Instr.sliceBounds,Option.map_none,Sem.run_bind,Sem.run_pure,Result.andThen_ok];rfl
     . simp only [Instr.sliceBounds,Option.map_none,Option.map_some,Sem.run_bind,Sem.run_pure,Result.andThen_ok,yi,aAI (P:=P) (w:=w) _ h0 h1];rfl
   . have r1:=aAI (P:=P) (w:=w) (kd:=kd) (if isS then .sliceAcap else .sliceAlen) (show (0:Int)<=h by omega) (show h<=(cap:Int) by omega)
     rcases hl with ⟨rfl,rfl⟩|⟨yl,kl,rfl,yi⟩
     . simp only [Instr.sliceBounds,Option.map_none,Option.map_some,Sem.run_bind,Sem.run_pure,Result.andThen_ok,hy,r1];rfl
     . simp only [Instr.sliceBounds,Option.map_none,Option.map_some,Sem.run_bind,Sem.run_pure,Result.andThen_ok,hy,r1,yi,aAI (P:=P) (w:=w) _ h0 (show l<=(h.toNat:Int) by omega)]
 . refine ⟨m.toNat, ?_,by omega,by omega,fun h=>by simp at h⟩
   rcases hh with ⟨rfl,rfl⟩|⟨y,kd,rfl,hy⟩
   . simp at vd
   . have r0:=aAI (P:=P) (w:=w) (kd:=km) (if isS then .slice3Acap else .slice3Alen) (show (0:Int)<=m by omega) (show m<=(cap:Int) by omega)
     have r1:=aAI (P:=P) (w:=w) (kd:=kd) .slice3B (show (0:Int)<=h by omega) (show h<=(m.toNat:Int) by omega)
     rcases hl with ⟨rfl,rfl⟩|⟨yl,kl,rfl,yi⟩
     . simp only [Instr.sliceBounds,Option.map_none,Option.map_some,Sem.run_bind,Sem.run_pure,Result.andThen_ok,CW,r0,hy,r1];rfl
     . simp only [Instr.sliceBounds,Option.map_none,Option.map_some,Sem.run_bind,Sem.run_pure,Result.andThen_ok,CW,r0,hy,r1,yi,aAI (P:=P) (w:=w) _ h0 (show l<=(h.toNat:Int) by omega)]
theorem aVX (ab:bE P τ) (a6:aC P base ψ S w st a) {t:TypeId} {x:Operand} {lo hi mx:Option Operand} (ae:o.op= .slice t x lo hi mx) (vd:mx.isSome=true->hi.isSome=true)
 (hk:aBk τ t (ev st x) (lo.map (ev st)) (hi.map (ev st)) (mx.map (ev st)) fun y=>bG st o.dst y K):aK P base ψ S w a o K:=by
 have hx:=cL a6 x
 unfold aBk at hk;split at hk
 . rename_i sz bt z ht
   have ao:=fU ab ht w
   simp only at ao
   split at hk
   . rename_i s e sn
     rw [e] at hx;have hs:a.eval x= .string s:=j0m
     have sn:mx=none:=by cases mx<;>simp_all
     subst sn;obtain ⟨l,hk,hl⟩:=nZ a6 hk
     obtain ⟨h,hk,hh⟩:=nZ a6 hk
     obtain ⟨⟨⟨h0,h1⟩,h2⟩,hk⟩:=hk
     obtain ⟨c,hb,_,_,_⟩:=wC (P:=P) (w:=w) (a:=a) (isS:=false) (len:=s.size) (cap:=s.size) (mx:=none) (m:=(s.size:Int)) hl hh (.inl ⟨rfl,rfl⟩) h0 h1 h2 j3 (Nat.le_refl _) j8
     refine aK.value (v:= .string (s.extract l.toNat h.toNat)) ?_ a6 (x:=vx (.string (s.extract l.toNat h.toNat))) (.v trivial) (hk h0 h1 h2) (aI.refl _ _ _ _)
     simp only [Option.map_none] at hb;simp only [execOp,ae,Instr.sliceAt,Sem.run_bind,ao,Result.andThen_ok,Instr.slice,hs,Option.map_none,Option.isSome_none,Bool.false_eq_true,if_false,Sem.run_pure,hb]
   . exact hk.elim
 . rename_i e vb bt z ht
   have ao:=fU ab ht w
   simp only at ao
   split at hk
   . rename_i d2 sz b2 z2 jj
     have hsz:=jY ab jj w
     simp only at hsz
     have run: ∀(a0:Option Addr) (n cap:Nat) (l h c:Nat),a.eval x= .slice a0 n cap->
      (Instr.sliceBounds true n cap (lo.map a.eval) (hi.map a.eval) (mx.map a.eval)).run P w= .ok (l,h,c) w->
      (execOp a.eval o).run P w= .ok (.value (.slice (if c=l then a0 else a0.map (·.add (l*sz))) (h-l) (c-l))) w:=by
      intro a0 n cap l h c hv hb;simp only [execOp,ae,Instr.sliceAt,Sem.run_bind,ao,Result.andThen_ok,Instr.slice,hv,hb,hsz,Sem.run_pure]
     split at hk
     . rename_i zz n f e1
       rw [e1] at hx;obtain ⟨l,ia,hl⟩:=nZ a6 hk
       clear hk;obtain ⟨h,fj,hh⟩:=nZ a6 ia
       clear ia;obtain ⟨m,yj,hm⟩:=nZ a6 fj
       clear fj;obtain ⟨⟨rfl,⟨h0,h1⟩,h2,h3⟩,ql⟩:=yj
       have hk:=ql rfl h0 h1 h2 h3
       clear ql
       generalize hv:a.eval x=vv at hx
       have main: ∀(a0:Option Addr) (cap:Nat),vv= .slice a0 n cap->n<=cap \/n=0->(∀c:Nat,h.toNat<=c->aZ S w (.lst zz (h-l).toNat fun i=>f (l.toNat+i)) (.slice (if c=l.toNat then a0 else a0.map (·.add (l.toNat*zz))) (h.toNat-l.toNat) (c-l.toNat)))->aK P base ψ S w a o K:=by
        intro a0 cap hvv hn bh;rcases hn with hn|hn
        . obtain ⟨c,hb,fh,_,_⟩:=wC (P:=P) (w:=w) (a:=a) (isS:=true) (len:=n) (cap:=cap) hl hh hm h0 h1 h2 h3 hn vd
          refine aK.value (run a0 n cap l.toNat h.toNat c (hv.trans hvv) hb) a6 (x:= .va (.c (.d (.lst zz (h-l).toNat fun i=>f (l.toNat+i))))) (bh c fh) hk (aI.refl _ _ _ _)
        . subst hn;obtain ⟨c,hb,fh,_,_⟩:=wC (P:=P) (w:=w) (a:=a) (isS:=true) (len:=0) (cap:=cap) hl hh hm h0 h1 h2 h3 (Nat.zero_le _) vd
          refine aK.value (run a0 0 cap l.toNat h.toNat c (hv.trans hvv) hb) a6 (x:= .va (.c (.d (.lst zz (h-l).toNat fun i=>f (l.toNat+i))))) (bh c fh) hk (aI.refl _ _ _ _)
       have e0:(h-l).toNat=h.toNat-l.toNat:=j3
       cases hx with
       |nil=>
        rename_i a0 cap
        refine main a0 cap rfl (.inr rfl) fun c _=> ?_
        have e2:h.toNat-l.toNat=0:=j3
        rw [e0,e2];exact .nil
       | @lst _ _ _ b off cap g hS hlen hc hd hn=>
         refine main (some ⟨b,off,none⟩) cap rfl (.inl hn) fun c fh=> ?_
         rw [e0];by_cases hq:h.toNat-l.toNat=0
         . rw [hq];exact .nil
         . rw [if_neg j3];simp only [Option.map_some,pG];refine .lst (fun i j=>g (l.toNat+i) j) hS (fun i hi=>hlen _ j3) (fun i j hi hj=> ?_) (fun i j hi hj=>hd _ _ j3 hj) j3
           have:=hc (l.toNat+i) j j3 hj
           rw [Nat.add_mul, <-Nat.add_assoc] at this;exact this
     . rename_i kk zz o' n e1
       rw [e1] at hx;obtain ⟨l,ia,hl⟩:=nZ a6 hk
       clear hk;obtain ⟨h,fj,hh⟩:=nZ a6 ia
       clear ia;obtain ⟨m,yj,hm⟩:=nZ a6 fj
       clear fj;obtain ⟨⟨rfl,⟨h0,h1⟩,h2,h3⟩,ql⟩:=yj
       have hk:=ql rfl h0 h1 h2 h3
       clear ql;have e0:(h-l).toNat=h.toNat-l.toNat:=j3
       rcases hx with ⟨g1,rfl,a0,hv⟩|⟨b,mm,cap,off,g1,hv,g3,g4⟩
       . obtain ⟨c,hb,fh,oa,_⟩:=wC (P:=P) (w:=w) (a:=a) (isS:=true) (len:=0) (cap:=0) hl hh hm h0 h1 h2 h3 (Nat.le_refl _) vd
         refine aK.value (run a0 0 0 l.toNat h.toNat c hv hb) a6 (x:= .va (.c (.osl kk zz (o'+l.toNat) (h-l).toNat))) (.inl ⟨g1,by omega, ?_⟩) hk (aI.refl _ _ _ _)
         have e2:h.toNat-l.toNat=0:=j3
         have e3:c-l.toNat=0:=j3
         rw [e2,e3];exact ⟨_,rfl⟩
       . obtain ⟨c,hb,fh,oa,_⟩:=wC (P:=P) (w:=w) (a:=a) (isS:=true) (len:=n) (cap:=cap) hl hh hm h0 h1 h2 h3 g3 vd
         refine aK.value (run _ n cap l.toNat h.toNat c hv hb) a6 (x:= .va (.c (.osl kk zz (o'+l.toNat) (h-l).toNat))) (.inr ?_) hk (aI.refl _ _ _ _)
         rw [e0];by_cases fk:c=l.toNat
         . rw [if_pos fk];exact ⟨b,mm,c-l.toNat,off,g1,rfl,by omega,by omega⟩
         . rw [if_neg fk];refine ⟨b,mm,c-l.toNat,off+l.toNat*zz,g1,by simp only [Option.map_some,pG],by omega,fun _=> ?_⟩
           obtain ⟨rfl,g5⟩:=g4 j3
           refine ⟨by rw [Nat.add_mul], ?_⟩
           have:(o'+l.toNat+(c-l.toNat))*zz<=(o'+cap)*zz:=Nat.mul_le_mul_right _ j3
           omega
     . rename_i kk zz o' n cap e1
       rw [e1] at hx;split at hk
       . rename_i sn
         have sn:mx=none:=by cases mx<;>simp_all
         subst sn;obtain ⟨l,ia,hl⟩:=nZ a6 hk
         clear hk;obtain ⟨h,fj,hh⟩:=nZ a6 ia
         clear ia;obtain ⟨⟨rfl,⟨h0,h1⟩,h2⟩,ql⟩:=fj
         have hk:=ql rfl h0 h1 h2
         clear ql;have e0:(h-l).toNat=h.toNat-l.toNat:=j3
         have bnd: ∀nn:Nat,nn<=cap->((hi=none/\ h=(nn:Int)) \/ ∃y kd,hi=some y/\ a.eval y= .int kd h)->(Instr.sliceBounds true nn cap (lo.map a.eval) (hi.map a.eval) ((none:Option Operand).map a.eval)).run P w= .ok (l.toNat,h.toNat,cap) w:=by
          intro nn rh hh;rcases hh with ⟨rfl,rfl⟩|⟨y,kd,rfl,hy⟩
          . obtain ⟨c,hb,_,_,hc⟩:=wC (P:=P) (w:=w) (a:=a) (isS:=true) (len:=nn) (cap:=cap) (hi:=none) (h:=(nn:Int)) (mx:=none) (m:=(nn:Int)) hl (.inl ⟨rfl,rfl⟩) (.inl ⟨rfl,rfl⟩) h0 h1 (Int.le_refl _) (Int.le_refl _) rh j8
            rw [hc rfl] at hb;exact hb
          . obtain ⟨c,hb,_,_,hc⟩:=wC (P:=P) (w:=w) (a:=a) (isS:=true) (len:=cap) (cap:=cap) (hi:=some y) (h:=h) (mx:=none) (m:=(cap:Int)) hl (.inr ⟨y,kd,rfl,hy⟩) (.inl ⟨rfl,rfl⟩) h0 h1 h2 (Int.le_refl _) (Nat.le_refl _) j8
            rw [hc rfl] at hb;exact hb
         rcases hx with ⟨g1,rfl,rfl,a0,hv⟩|⟨b,mm,off,g1,hv,g3,g4⟩
         . refine aK.value (run a0 0 0 l.toNat h.toNat 0 hv (bnd 0 (Nat.le_refl _) hh)) a6 (x:= .va (.c (.osc kk zz (o'+l.toNat) (h-l).toNat (0-l.toNat)))) (.inl ⟨g1,by omega,by omega, ?_⟩) hk (aI.refl _ _ _ _)
           have e2:h.toNat-l.toNat=0:=j3
           have e3:0-l.toNat=0:=j3
           rw [e2,e3];exact ⟨_,rfl⟩
         . refine aK.value (run _ n cap l.toNat h.toNat cap hv (bnd n g3 hh)) a6 (x:= .va (.c (.osc kk zz (o'+l.toNat) (h-l).toNat (cap-l.toNat)))) (.inr ?_) hk (aI.refl _ _ _ _)
           rw [e0];by_cases fk:cap=l.toNat
           . rw [if_pos fk];exact ⟨b,mm,off,g1,rfl,by omega,by omega⟩
           . rw [if_neg fk];refine ⟨b,mm,off+l.toNat*zz,g1,by simp only [Option.map_some,pG],by omega,fun _=> ?_⟩
             obtain ⟨rfl,g5⟩:=g4 j3
             refine ⟨by rw [Nat.add_mul], ?_⟩
             have:(o'+l.toNat+(cap-l.toNat))*zz<=(o'+cap)*zz:=Nat.mul_le_mul_right _ j3
             omega
       . exact hk.elim
     . rename_i e1
       rw [e1] at hx;have hv:a.eval x= .slice none 0 0:=j0m
       obtain ⟨l,ia,hl⟩:=nZ a6 hk
       clear hk;obtain ⟨h,fj,hh⟩:=nZ a6 ia
       clear ia;obtain ⟨m,yj,hm⟩:=nZ a6 fj
       clear fj;obtain ⟨⟨rfl,rfl,rfl⟩,ql⟩:=yj
       obtain ⟨c,hb,_,oa,_⟩:=wC (P:=P) (w:=w) (a:=a) (isS:=true) (len:=0) (cap:=0) (by simpa using hl) (by simpa using hh) j0s (Int.le_refl 0) (Int.le_refl 0) (Int.le_refl 0) (Int.le_refl 0) (Nat.le_refl _) vd
       have hc:c=0:=j3
       subst hc;exact aK.value (run none 0 0 0 0 0 hv hb) a6 (x:=vx (.slice none 0 0)) (.v trivial) (ql rfl rfl rfl) (aI.refl _ _ _ _)
     . exact hk.elim
   . exact hk.elim
 . exact hk.elim
theorem aU9 (ab:bE P τ) {ty:TypeId} {d:TypeDesc} {s:Nat} {b:TX} {z:Value} (ht:τ ty=some ⟨d,s,b,z⟩) {cs r:List aL} {arr:Array Value} {off:Nat} {y:Va}
 (hx:aG (dK P ψ S w) cs arr.toList) (hr:gG (cs.drop off) s=some r) (hy:kG (jZ d) r=some y): ∃v,(part ty arr off).run P w= .ok v w/\ bB P ψ S w y v:=by
 obtain ⟨h1,h2⟩:=aCK hx hr
 have lz:=aFv ab ht w
 have hsz:=jY ab ht w
 simp only at lz hsz
 cases hw:jZ d with
 |true=>
  rw [hw] at hy lz;simp only [kG,Option.some.injEq] at hy;subst hy;refine ⟨.agg (arr.extract off (off+s)), ?_,_,rfl, ?_⟩
  . simp only [part,Sem.run_bind,lz,Result.andThen_ok,if_true,hsz,Sem.run_pure]
  . have:(arr.extract off (off+s)).toList=(arr.toList.drop off).take s:=by
     rw [Array.toList_extract,List.extract_eq_take_drop];congr 1;omega
    rw [this];exact h1
 |false=>
  rw [hw] at hy lz;cases r with
  |nil=>simp [kG] at hy
  |cons c r=>
   cases r with
   |cons _ _=>simp [kG] at hy
   |nil=>
    simp only [kG,Option.some.injEq] at hy;subst hy;cases iu:(arr.toList.drop off).take s with
    |nil=>rw [iu] at h1;exact h1.elim
    |cons y1 ys=>
     rw [iu] at h1;have hg:arr[off]? =some y1:=by
      have:((arr.toList.drop off).take s)[0]? =some y1:=by rw [iu];rfl
      have:=pD this
      simpa using this
     exact ⟨y1,by simp only [part,Sem.run_bind,lz,Result.andThen_ok,Bool.false_eq_true,if_false,hg,Sem.run_pure],h1.1.1⟩
theorem aVa {s:ByteArray} {i:Nat} (h:i<s.size):s[i]? =some (s[i]):=by
 simp [h]
theorem aVY (ab:bE P τ) (a6:aC P base ψ S w st a) {t:TypeId} {x ix:Operand} (ae:o.op= .index t x ix) (hk:aDJ τ t (ev st x) (ev st ix) fun y=>bG st o.dst y K):
 aK P base ψ S w a o K:=by
 have hx:=cL a6 x
 have hi:=cL a6 ix
 unfold aDJ at hk;split at hk
 . rename_i sz bt z ht
   have ao:=fU ab ht w
   simp only at ao
   split at hk
   . rename_i s k i e1 e2
     have hi:=jX hi e2
     rw [e1] at hx;have hs:a.eval x= .string s:=j0m
     obtain ⟨⟨h0,h1⟩,hk⟩:=hk
     have hlt:i.toNat<s.size:=j3
     refine aK.value (v:= .int .u8 (aBi s i.toNat)) ?_ a6 (x:=vx (.int .u8 (aBi s i.toNat))) (.v trivial) (hk h0 h1) (aI.refl _ _ _ _)
     have hg:s[i.toNat]? =some (s[i.toNat]):=aVa hlt
     simp only [execOp,ae,Instr.index,hi,hs,asIntOf,Sem.run_bind,Sem.run_pure,ao,Result.andThen_ok,if_pos h0,hg,aBi,Option.getD_some]
   . exact hk.elim
 . rename_i len e vb bt z ht
   have ao:=fU ab ht w
   simp only at ao
   split at hk
   . rename_i d2 sz b2 z2 jj
     have hsz:=jY ab jj w
     simp only at hsz
     split at hk
     . rename_i cs k i e1 e2
       have hi:=jX hi e2
       rw [e1] at hx;obtain ⟨arr,hv,hx⟩:=hx
       obtain ⟨⟨h0,h1⟩,hk⟩:=hk
       obtain ⟨j,rfl⟩:=Int.eq_ofNat_of_zero_le h0
       have hk:=aCL hk (show j<len by omega)
       split at hk
       . rename_i r hr
         split at hk
         . rename_i y hy
           obtain ⟨v,g1,g2⟩:=aU9 ab jj hx hr hy
           refine aK.value (v:=v) ?_ a6 (x:= .va y) g2 hk (aI.refl _ _ _ _)
           simp only [execOp,ae,Instr.index,hi,hv,asIntOf,Sem.run_bind,Sem.run_pure,ao,Result.andThen_ok,if_pos (And.intro h0 h1),hsz,Int.toNat_natCast,g1]
         . exact hk.elim
       . exact hk.elim
     . exact hk.elim
   . exact hk.elim
 . exact hk.elim
theorem aW8 (a6:aC P base ψ S w st a) {x:Operand} (ae:o.op= .nilCheck x) (hk:aD4 (ev st x) fun y=>bG st o.dst y K):aK P base ψ S w a o K:=by
 have hx:=cL a6 x
 unfold aD4 at hk;split at hk
 . rename_i e;rw [e] at hx
   obtain ⟨b,m,h1,h2⟩:=hx
   exact aK.value j1r a6 (x:= .va (.c (.own _ _))) ⟨b,m,h1,rfl⟩ hk (aI.refl _ _ _ _)
 . rename_i e;rw [e] at hx
   obtain ⟨b,m,h1,h2⟩:=hx
   exact aK.value j1r a6 (x:= .va (.c (.ep _ _ _ _))) ⟨b,m,h1,rfl⟩ hk (aI.refl _ _ _ _)
 . rename_i e;rw [e] at hx
   obtain ⟨b,off,ys,h2,h3⟩:=hx
   exact aK.value j1r a6 (x:= .va (.c (.rp _))) ⟨b,off,ys,rfl,h3⟩ hk (aI.refl _ _ _ _)
 . rename_i e;rw [e] at hx
   obtain ⟨vs,h1,h2⟩:=hx
   exact aK.value (by simp only [execOp,ae,h1];rfl) a6 (x:= .va (.c (.fn _ _))) ⟨vs,rfl,h2⟩ hk (aI.refl _ _ _ _)
 . rename_i e;rw [e] at hx
   obtain ⟨f,first,aq,h1,h2⟩:=hx
   exact aK.value (by simp only [execOp,ae,h1];rfl) a6 (x:= .va (.c (.fv _))) ⟨f,first,aq,rfl,h2⟩ hk (aI.refl _ _ _ _)
 . exact hk.elim
theorem aNK (a6:aC P base ψ S w st a): ∀{xs:List Operand} {ps:List (Nat×Nat)},aA2 (xs.map (ev st))=some ps->
 aG (fun (p:Nat×Nat) y=> ∃b m,ψ p.1=some (.at b m)/\ y=Value.pointer (some ⟨b,p.2,none⟩)) ps (xs.map a.eval)
 | [],ps,h=>by simp [aA2] at h;subst h;trivial
 |x::xs,ps,h=>by
  simp only [List.map_cons] at h;unfold aA2 at h;split at h
  . rename_i e;cases e
  . rename_i k off l e
    injection e with e1 e2
    subst e2;split at h
    . rename_i Gz BH
      simp at h;subst h
      have hx:=cL a6 x
      rw [e1] at hx;exact ⟨hx,aNK a6 BH⟩
    . simp at h
  . simp at h
theorem aUE (a6:aC P base ψ S w st a) {f:Nat} {first aq:Array Operand} {ps:List (Nat×Nat)} (ae:o.op= .makeFunc (.func f) first aq) (h0:first.toList= [])
 (BH:aA2 (aq.toList.map (ev st))=some ps) (hk:bG st o.dst (.va (.c (.fn f ps))) K):aK P base ψ S w a o K:=by
 have hf:first= #[]:=by apply Array.ext';simpa using h0
 subst hf;refine aK.value (v:= .func (.func f) #[] (aq.map a.eval)) ?_ a6 (x:= .va (.c (.fn f ps))) ⟨_,rfl,by simpa using aNK a6 BH⟩ hk (aI.refl _ _ _ _)
 simp only [execOp,ae,Instr.makeFunc,Sem.run_bind,Sem.run_pure,Result.andThen_ok];simp
theorem aY7 (ab:bE P τ) (a6:aC P base ψ S w st a) {op:Op} (ae:o.op=op) (hk:qC P τ op (ev st) fun y=>bG st o.dst y K):aK P base ψ S w a o K:=by
 unfold qC at hk;split at hk
 . rename_i t x lo hi mx
   split at hk
   . rename_i hb
     exact aVX ab a6 ae (by intro h;simpa [h] using hb) hk
   . exact hk.elim
 . exact aVY ab a6 ae hk
 . exact aW8 a6 ae hk
 . split at hk
   . rename_i h0 h1;exact aUE a6 ae h0 h1 hk
   . exact hk.elim
 . split at hk
   . rename_i x u hu
     refine qV a6 (fun v hv=> ?_) hk
     have:=jX (cL a6 _) hu
     simp only [execOp,ae,this,Sem.run_bind,hv,Result.andThen_ok,Sem.run_pure]
   . exact hk.elim
 . exact hk.elim
end
section
variable {P:Program} {τ:bF} {base:Nat} {ψ aa:aJ} {S S':Nat→Prop} {w w':World} {st st1:St} {a:Act} {o:Oper} {K:St→Prop}
theorem aPb {x:Tm} {v:Value} {K:(Bool->Prop)->Prop} (hx:dL P ψ S w x v) (hk:aGK x K): ∃a n c ok,v= .slice a n c/\ K ok/\ ok a.isNone:=by
 unfold aGK at hk;split at hk
 . rename_i z n f
   have hx:aZ S w (.lst z n f) v:=hx
   cases hx with
   |nil=>exact ⟨_,_,_,_,rfl,hk,fun _=>rfl⟩
   |lst=>exact ⟨_,_,_,_,rfl,hk,fun h=>by simp at h⟩
 . rcases hx with ⟨_,rfl,a0,rfl⟩|⟨b,m,c,off,_,rfl,_⟩
   . exact ⟨_,_,_,_,rfl,hk,fun _=>rfl⟩
   . exact ⟨_,_,_,_,rfl,hk,fun h=>by simp at h⟩
 . have hx:aZ S w (.v (.slice none 0 0)) v:=hx
   cases hx;exact ⟨_,_,_,_,rfl,hk,rfl⟩
 . exact hk.elim
theorem aVZ {y:Operand} (h:aF4 y=true):y= .const (.slice none 0 0):=by
 unfold aF4 at h;split at h
 . rfl
 . simp at h
theorem aY8 (ab:bE P τ) (a6:aC P base ψ S w st a) {op:BinOp} {t ty:TypeId} {x y:Operand} (ae:o.op= .binOp op t x y ty) (hy:aF4 y=true) (hk:aMk τ st o.dst op t (ev st x) K):
 aK P base ψ S w a o K:=by
 have hy:=aVZ hy
 subst hy;have hx:=cL a6 x
 unfold aMk at hk;split at hk
 . rename_i e sz bt z ht
   obtain ⟨info,_,hu,_⟩:=ab.ok _ _ ht
   simp only at hu
   obtain ⟨a0,n,c,ok,hv,hk,c6⟩:=aPb hx hk
   refine aK.value (v:= .bool a0.isNone) ?_ a6 (x:=vx (.bool a0.isNone)) (.v trivial) (hk _ c6) (aI.refl _ _ _ _)
   have iw:a.eval (.const (.slice none 0 0))= .slice none 0 0:=rfl
   simp only [execOp,ae,hv,iw,eqGuard,Sem.run_bind,Sem.run_pure,Result.andThen_ok];have:=run_equal_slice_nil (P:=P) w t e a0 n c hu
   simp [binOp,this]
 . rename_i e sz bt z ht
   obtain ⟨info,_,hu,_⟩:=ab.ok _ _ ht
   simp only at hu
   obtain ⟨a0,n,c,ok,hv,hk,c6⟩:=aPb hx hk
   refine aK.value (v:= .bool (!a0.isNone)) ?_ a6 (x:=vx (.bool (!a0.isNone))) (.v trivial) (hk _ c6) (aI.refl _ _ _ _)
   have iw:a.eval (.const (.slice none 0 0))= .slice none 0 0:=rfl
   simp only [execOp,ae,hv,iw,eqGuard,Sem.run_bind,Sem.run_pure,Result.andThen_ok];have:=run_equal_slice_nil (P:=P) w t e a0 n c hu
   simp [binOp,this]
 . exact hk.elim
theorem aC.forget {ts:List (Nat×Tm)} {h:List (Nat×aB)} {n m:Nat} (hr:aC P base ψ S w ⟨ts,h,n,m⟩ a) (k:Nat):aC P base ψ S w ⟨ts,(k,.gone)::h,n,m⟩ a:=by
 have bf: ∀j,(aF ((k,aB.gone)::h) j).live->(aF h j).live:=by
  intro j hl;rw [cY] at hl;by_cases e:k=j
  . rw [if_pos e] at hl;exact hl.elim
  . rwa [if_neg e] at hl
 refine ⟨hr.bas,⟨hr.sim.dom, ?_,?_,?_,hr.sim.pdom,hr.sim.sdom⟩,hr.lim,hr.defers,hr.tmps⟩
 . intro j l hj;rw [cY];by_cases e:k=j
   . rw [if_pos e];cases l<;>trivial
   . rw [if_neg e];exact hr.sim.blk j l hj
 . intro j j' b m1 m2 h1 h2 l1 l2
   exact hr.sim.inj j j' b m1 m2 h1 h2 (bf j l1) (bf j' l2)
 . intro j b m1 h1 l1;exact hr.sim.dis j b m1 h1 (bf j l1)
theorem aC.name {ts:List (Nat×Tm)} {h:List (Nat×aB)} {n m:Nat} {sz q:Nat} {f:Nat->List DV} {l:Loc} (hr:aC P base ψ S w ⟨ts,h,n,m⟩ a) (b8: ∀ψ,fE P ψ S w (.row sz q f) l)
 (iy: ∀b mm,l= .at b mm-> ¬S b/\ b<w.heap.size/\ (∃k mm,ψ k=some (.at b mm))/\ ∀j mm,ψ j=some (.at b mm)-> ¬(aF h j).live):
 aC P base (ψ.set n l) S w ⟨ts,(n,.row sz q f)::h,n+1,m⟩ a/\ aI base ψ S w (ψ.set n l) S w:=by
 have hn:ψ n=none:=hr.sim.dom n (Nat.le_refl _)
 have hp:cH ψ (ψ.set n l):=aJ.sub_set hn
 have hl:=cT.refl S w
 have B9:=hr.bas
 simp only at B9
 have other: ∀j,j≠n->(ψ.set n l) j=ψ j:=fun j hj=>by simp [aJ.set,hj]
 refine ⟨⟨Nat.le_succ_of_le B9,⟨?_,?_,?_,?_,?_,hr.sim.sdom⟩,hr.lim,hr.defers,fun t=>(hr.tmps t).later hp hl⟩,⟨rfl,rfl,rfl,Nat.le_refl _,fun _ _ _=>rfl,hl,fun _ h=> .inl h, ?_,?_⟩⟩
 . intro k hk;have:k≠n:=by simp at hk;omega
   rw [other k this];exact hr.sim.dom k (by simp at hk⊢;omega)
 . intro j l' hj
   rw [cY];by_cases e:n=j
   . subst e;simp only [aJ.set,if_true,Option.some.injEq] at hj;subst hj;rw [if_pos rfl];exact b8 _
   . rw [if_neg e];rw [other j (fun h=>e h.symm)] at hj;exact (hr.sim.blk j l' hj).later hp hl fun _ _ _=>rfl
 . intro j j' b m1 m2 h1 h2 l1 l2
   rw [cY] at l1 l2;by_cases e1:n=j
   . by_cases e2:n=j'
     . rw [<-e1, <-e2]
     . subst e1;rw [other j' (fun h=>e2 h.symm)] at h2;rw [if_neg e2] at l2;simp only [aJ.set,if_true,Option.some.injEq] at h1;exact absurd l2 ((iy b m1 h1).2.2.2 j' m2 h2)
   . by_cases e2:n=j'
     . subst e2;rw [other j (fun h=>e1 h.symm)] at h1;rw [if_neg e1] at l1;simp only [aJ.set,if_true,Option.some.injEq] at h2;exact absurd l1 ((iy b m2 h2).2.2.2 j m1 h1)
     . rw [other j (fun h=>e1 h.symm)] at h1;rw [other j' (fun h=>e2 h.symm)] at h2;rw [if_neg e1] at l1;rw [if_neg e2] at l2
       exact hr.sim.inj j j' b m1 m2 h1 h2 l1 l2
 . intro j b m1 h1 l1;rw [cY] at l1;by_cases e1:n=j
   . subst e1;simp only [aJ.set,if_true,Option.some.injEq] at h1;exact (iy b m1 h1).1
   . rw [other j (fun h=>e1 h.symm)] at h1;rw [if_neg e1] at l1;exact hr.sim.dis j b m1 h1 l1
 . intro j b m1 h1;by_cases e1:n=j
   . subst e1;simp only [aJ.set,if_true,Option.some.injEq] at h1;exact (iy b m1 h1).2.1
   . rw [other j (fun h=>e1 h.symm)] at h1;exact hr.sim.pdom j b m1 h1
 . intro j b m1 h1;by_cases e1:n=j
   . subst e1;simp only [aJ.set,if_true,Option.some.injEq] at h1;exact .inl (iy b m1 h1).2.2.1
   . rw [other j (fun h=>e1 h.symm)] at h1;exact .inl ⟨j,m1,h1⟩
 . intro k hk;exact other k j3
structure xP (S:Nat->Prop) (w:World) (sz q:Nat) (g:Nat->List DV) (v:Value) (news:List Value) (no:Nat->Prop):Prop where
 len: ∃a c,v= .slice a q c
 cells: ∀w',w'.heap=w.heap-> ∀P,(Builtin.firstCells sz q v).run P w'= .ok news.toArray w'
 size:news.length=q*sz
 row: ∀i,i<q->(g i).length=sz
 rep: ∀i j,i<q->j<sz->aZ S w ((g i).getD j (.v (.bool false))) (news.getD (i*sz+j) undef)
 scal: ∀v∈news,mC v
theorem nW {i n sz:Nat} (h:i<n):i*sz+sz<=n*sz:=by
 have:=Nat.mul_le_mul_right sz (Nat.succ_le_of_lt h);rw [Nat.succ_mul] at this;exact this
theorem xP.of_block {sz q o:Nat} {g:Nat->List DV} {b off c:Nat} {arr:Array Value} {e:TypeId} {fr:Nat×Nat} {no:Nat->Prop} (hb:w.heap[b]? =some (.cells arr e fr)) (ig:0<q->off=o*sz) (hle:0<q->(o+q)*sz<=arr.size)
 (b8: ∀i,i<q->(g i).length=sz) (hd: ∀i j,i<q->j<sz->aZ S w ((g i).getD j (.v (.bool false))) (arr.getD ((o+i)*sz+j) undef)):xP S w sz q g (.slice (some ⟨b,off,none⟩) q c) ((arr.toList.drop (o*sz)).take (q*sz)) no where
 len:=⟨_,_,rfl⟩
 cells w' iz P:=by
  rcases Nat.eq_zero_or_pos q with hq|hq
  . subst hq;have:=run_firstCells_some (P:=P) w' sz 0 ⟨b,off,none⟩ 0 c [] j8 j8
    simpa using this
  . have hl:((arr.toList.drop (o*sz)).take (q*sz)).length=q*sz:=by
     have:=hle hq;rw [Nat.add_mul] at this
     simp;omega
    refine run_firstCells_some (P:=P) w' sz q ⟨b,off,none⟩ q c _ hl ?_
    intro j v hj;rw [pG,oB (by rw [iz];exact hb),ig hq, <-Array.getElem?_toList];exact pD hj
 size:=by
  rcases Nat.eq_zero_or_pos q with hq|hq
  . subst hq;simp
  . have:=hle hq;rw [Nat.add_mul] at this
    simp;omega
 row:=b8
 rep i j hi hj:=by
  have h1:=hd i j hi hj
  have hb:=nW (sz:=sz) hi
  have e:((arr.toList.drop (o*sz)).take (q*sz)).getD (i*sz+j) undef=arr.getD ((o+i)*sz+j) undef:=by
   simp only [List.getD_eq_getElem?_getD,List.getElem?_take,List.getElem?_drop,Array.getD_eq_getD_getElem?,Array.getElem?_toList];rw [if_pos j3,Nat.add_mul,Nat.add_assoc]
  rw [e];exact h1
 scal v hv:=by
  obtain ⟨j,hj,e⟩:=List.mem_iff_getElem.1 hv
  have hlt:j<q*sz:=by
   have:=hj;simp at this;omega
  rcases Nat.eq_zero_or_pos sz with hz|hz
  . subst hz;omega
  have hi:j/sz<q:=by rw [Nat.div_lt_iff_lt_mul hz];exact hlt
  have hm:=Nat.mod_lt j hz
  have h1:=hd (j/sz) (j%sz) hi hm
  have e2:arr.getD ((o+j/sz)*sz+j%sz) undef=v:=by
   rw [<-e];simp only [List.getElem_take,List.getElem_drop,Array.getD_eq_getD_getElem?,Array.getElem_toList];have hd:=Nat.div_add_mod j sz
   have e3:(o+j/sz)*sz+j%sz=o*sz+j:=by rw [Nat.add_mul,Nat.mul_comm (j/sz) sz];omega
   rw [e3];have hsz:o*sz+j<arr.size:=by
    have:=hj;simp at this;omega
   simp [hsz]
  rw [e2] at h1;exact h1.scalar
theorem aOo {h:List (Nat×aB)} {next:Nat} (hs:iV P ψ S w h next) {k0:Option Nat} {sz:Nat} (hz:0<sz) {x:Va} {v:Value} {KN:Nat->(Nat->List DV)->Prop} (hx:bB P ψ S w x v) (hk:aF3 h k0 sz x KN):
 ∃q g news,KN q g/\ xP S w sz q g v news (fun _=>True):=by
 unfold aF3 at hk;split at hk
 . rename_i z n g
   obtain ⟨rfl,hk⟩:=hk
   refine ⟨n,g, ?_⟩
   have hx:aZ S w (.lst z n g) v:=hx
   cases hx with
   |nil=>
    rename_i a0 c
    refine ⟨[],hk rfl,⟨⟨a0,c,rfl⟩,fun w' _ P=> ?_,by simp,fun i hi=>by omega,fun i j hi=>by omega,by simp⟩⟩
    cases a0 with
    |none=>exact run_firstCells_none w' z 0 0 c
    |some ad=>have:=run_firstCells_some (P:=P) w' z 0 ad 0 c [] j8 j8;simpa using this
   | @lst _ _ _ b off c gv hS hlen hc hd hn=>
     let news:List Value:=(List.range (n*z)).map fun p=>gv (p/z) (p%z)
     have cu: ∀i j,i<n->j<z->news[i*z+j]? =some (gv i j):=by
      intro i j hi hj;have:=nW (sz:=z) hi
      simp only [news,List.getElem?_map,List.getElem?_range (show i*z+j<n*z by omega),Option.map_some];have e1:(i*z+j)/z=i:=j1b
      have e2:(i*z+j)%z=j:=x2
      rw [e1,e2]
     have hl:news.length=n*z:=by simp [news]
     have sq: ∀p,p<n*z->p/z<n/\ p%z<z/\ p/z*z+p%z=p:=by
      intro p hp;refine ⟨by rw [Nat.div_lt_iff_lt_mul hz];exact hp,Nat.mod_lt _ hz, ?_⟩
      rw [Nat.mul_comm];exact Nat.div_add_mod p z
     refine ⟨news,hk rfl,⟨⟨_,_,rfl⟩,fun w' iz P=> ?_,hl,hlen,fun i j hi hj=> ?_,?_⟩⟩
     . refine run_firstCells_some (P:=P) w' z n ⟨b,off,none⟩ n c news hl ?_
       intro p u hp;have wq:p<n*z:=by have:=(List.getElem?_eq_some_iff.1 hp).1;omega
       obtain ⟨c1,c2,c3⟩:=sq p wq
       have:=cu (p/z) (p%z) c1 c2
       rw [c3,hp] at this;cases this;have:=hc (p/z) (p%z) c1 c2
       rw [pG,aEH (w:=w) (by rw [iz])]
       rwa [Nat.add_assoc,c3] at this
     . have e:news.getD (i*z+j) undef=gv i j:=by rw [List.getD_eq_getElem?_getD,cu i j hi hj];rfl
       rw [e];exact hd i j hi hj
     . intro u hu;obtain ⟨p,hp,e⟩:=List.mem_iff_getElem.1 hu
       obtain ⟨c1,c2,c3⟩:=sq p j3
       have:=cu (p/z) (p%z) c1 c2
       rw [c3,List.getElem?_eq_getElem hp,e] at this;cases this;exact (hd _ _ c1 c2).scalar
 . have hx:aZ S w (.v (.slice none 0 0)) v:=hx
   cases hx;exact ⟨0,_,[],hk,⟨⟨_,_,rfl⟩,fun w' _ P=>run_firstCells_none w' sz 0 0 0,by simp,fun i hi=>by omega,fun i j hi=>by omega,by simp⟩⟩
 . rename_i k z o len
   have main: ∀(z' n:Nat) (g:Nat->List DV),z'=sz->z=sz->o+len<=n->(∀b m,ψ k=some (.at b m)-> ∃arr e fr,w.heap[b]? =some (.cells arr e fr)/\ arr.size=m/\ n*z'<=m/\ (∀i,i<n->(g i).length=z')/\
    ∀i j,i<n->j<z'->aZ S w ((g i).getD j (.v (.bool false))) (arr.getD (i*z'+j) undef))-> ∃news,xP S w sz len (fun i=>g (o+i)) v news (fun _=>True):=by
    rintro z' n g rfl rfl hle hb
    rcases hx with ⟨_,rfl,a0,rfl⟩|⟨b,m,c,off,h1,rfl,h2,h3⟩
    . refine ⟨[],⟨⟨a0,0,rfl⟩,fun w' _ P=> ?_,by simp,fun i hi=>by omega,fun i j hi=>by omega,by simp⟩⟩
      cases a0 with
      |none=>exact run_firstCells_none w' z 0 0 0
      |some ad=>have:=run_firstCells_some (P:=P) w' z 0 ad 0 0 [] j8 j8;simpa using this
    . obtain ⟨arr,e,fr,g1,g2,g3,g4,g5⟩:=hb b m h1
      refine ⟨_,xP.of_block (o:=o) g1 (fun hq=>(h3 j3).1) (fun hq=> ?_) (fun i hi=>g4 _ j3) (fun i j hi hj=>g5 _ _ j3 hj)⟩
      have:(o+len)*z<=n*z:=Nat.mul_le_mul_right _ hle
      omega
   split at hk
   . rename_i z' n g k1 hb
     split at hk
     . rename_i ia gk
       obtain ⟨⟨h1,h2⟩,hk⟩:=hk
       have gk:=Nat.eq_of_beq_eq_true gk
       obtain ⟨news,kf⟩:=main z' n g gk h1 h2 (fun b m bg=>by
        have:=hs.blk k _ bg
        rw [hb] at this;obtain ⟨arr,e,q1,q2,q3,q4,q5⟩:=this
        exact ⟨arr,e,_,q1,q2,q3,q4,q5⟩)
       exact ⟨len,_,news,hk h1 h2,kf⟩
     . exact hk.elim
   . rename_i z' n g hb
     split at hk
     . rename_i gk
       obtain ⟨⟨h1,h2⟩,hk⟩:=hk
       have gk:=Nat.eq_of_beq_eq_true gk
       obtain ⟨news,kf⟩:=main z' n g gk h1 h2 (fun b m bg=>by
        have:=hs.blk k _ bg
        rw [hb] at this;obtain ⟨arr,e,q1,q2,q3,q4,q5⟩:=this
        exact ⟨arr,e,_,q1,q2,q3,q4,q5⟩)
       exact ⟨len,_,news,hk h1 h2,kf⟩
     . exact hk.elim
   . rename_i z' n g hb
     split at hk
     . rename_i gk
       obtain ⟨⟨h1,h2⟩,hk⟩:=hk
       have gk:=Nat.eq_of_beq_eq_true gk
       obtain ⟨news,kf⟩:=main z' n g gk h1 h2 (fun b m bg=>by
        have:=hs.blk k _ bg
        rw [hb] at this;obtain ⟨_,arr,e,fr,q1,q2,q3,q4,q5⟩:=this
        exact ⟨arr,e,fr,q1,q2,q3,q4,q5⟩)
       exact ⟨len,_,news,hk h1 h2,kf⟩
     . exact hk.elim
   . exact hk.elim
 . exact hk.elim
theorem aHR {t u ty e e':TypeId} {i:TypeInfo} (ht:P.underlying t=some (.slice e)) (hu:P.underlying u=some (.slice e')) (hi:P.info? e=some i) {sa xa:Option Addr} {n c q cx:Nat}:
 (Builtin.append_ #[t,u] ty #[.slice sa n c,.slice xa q cx]).run P w=(Builtin.append_ #[t,t] ty #[.slice sa n c,.slice xa q cx]).run P w:=by
 simp [Builtin.append_,run_underlying ht,run_underlying hu,sizeOf,typeInfo,hi,Builtin.lenOf]
theorem aUl {t u ty e e':TypeId} {i:TypeInfo} {z:Value} (ht:P.underlying t=some (.slice e)) (hu:P.underlying u=some (.slice e')) (hi:P.info? e=some i) (hz:i.zero=some z)
 {sa xa:Option Addr} {n c q cx:Nat} {olds news:List Value} (qm: ∀w',w'.heap=w.heap->(Builtin.firstCells i.size n (.slice sa n c)).run P w'= .ok olds.toArray w')
 (ag: ∀w',w'.heap=w.heap->(Builtin.firstCells i.size q (.slice xa q cx)).run P w'= .ok news.toArray w')
 (hg:c<n+q) (GC:((n+q:Nat):Int)<=9223372036854775807) (jy:Builtin.nextslicecap (n+q) c*i.bytes<=281474976710656):
 (Builtin.append_ #[t,u] ty #[.slice sa n c,.slice xa q cx]).run P w=
  .ok (.slice (some ⟨w.heap.size,0,none⟩) (n+q) (grownCap w (n+q) c e))
   (w.drew.alloc (.cells (olds.toArray++news.toArray++Builtin.zeroCells z.cells (grownCap w (n+q) c e-(n+q))) e)):=by
 rw [aHR ht hu hi];have hn: ¬(n+q<=c):=j3
 have CX: ¬(9223372036854775807<((n:Int)+(q:Int))):=j3
 have CY: ¬(281474976710656<Builtin.nextslicecap (n+q) c*i.bytes):=j3
 have hf:=ag w.drew rfl
 have yg:=qm w.drew rfl
 simp [Builtin.append_,run_underlying ht,sizeOf,typeInfo,zeroValue,hi,hz,Builtin.lenOf,hn,CX,CY,Question.forced,hf,yg,newRow,grownCap]
 congr 2
 apply Array.ext'
 simp [List.append_assoc]
theorem aUv {t u ty e e':TypeId} {i:TypeInfo} (ht:P.underlying t=some (.slice e)) (hu:P.underlying u=some (.slice e')) (hi:P.info? e=some i)
 {ad:Addr} {xa:Option Addr} {n c q cx:Nat} {news:List Value} (ag:(Builtin.firstCells i.size q (.slice xa q cx)).run P w= .ok news.toArray w) {w2:World}
 (ij:(storeCells (ad.add (n*i.size)) news).run P w= .ok () w2) (hg:n+q<=c):
 (Builtin.append_ #[t,u] ty #[.slice (some ad) n c,.slice xa q cx]).run P w= .ok (.slice (some ad) (n+q) c) w2:=by
 rw [aHR ht hu hi];simp [Builtin.append_,run_underlying ht,sizeOf,typeInfo,hi,Builtin.lenOf,hg,ag,ij]
theorem aNu {t u ty e e':TypeId} {i:TypeInfo} (ht:P.underlying t=some (.slice e)) (hu:P.underlying u=some (.slice e')) (hi:P.info? e=some i)
 {sa xa:Option Addr} {cx:Nat}:(Builtin.append_ #[t,u] ty #[.slice sa 0 0,.slice xa 0 cx]).run P w= .ok (.slice sa 0 0) w:=by
 rw [aHR ht hu hi];have hf:(Builtin.firstCells i.size 0 (.slice xa 0 cx)).run P w= .ok #[] w:=by
  cases xa with
  |none=>exact run_firstCells_none w i.size 0 0 cx
  |some ad=>have:=run_firstCells_some (P:=P) w i.size 0 ad 0 cx [] j8 j8;simpa using this
 cases sa with
 |none=>simp [Builtin.append_,run_underlying ht,sizeOf,typeInfo,hi,Builtin.lenOf,hf]
 |some ad=>simp [Builtin.append_,run_underlying ht,sizeOf,typeInfo,hi,Builtin.lenOf,hf,storeCells]
theorem aC.heapEq (hr:aC P base ψ S w st a) (h1:w'.os=w.os) (h2:w'.tape=w.tape) (h3:w'.output=w.output) (h4:w'.heap=w.heap):aC P base ψ S w' st a/\ aI base ψ S w ψ S w':=by
 have hl:cT S w S w':=⟨fun _ h=>h,fun b _=>by rw [h4]⟩
 refine ⟨⟨hr.bas,⟨hr.sim.dom,fun k l hk=>(hr.sim.blk k l hk).later (cH.refl _) hl (fun b m _=>by rw [h4]),hr.sim.inj,hr.sim.dis,fun k b m hk=>by rw [h4];exact hr.sim.pdom k b m hk,hr.sim.sdom.later hl fun b hb=>by rw [h4];exact hr.sim.sdom b hb⟩,hr.lim,hr.defers,
  fun t=>(hr.tmps t).later (cH.refl _) hl⟩,⟨h1,h2,h3,by rw [h4];exact Nat.le_refl _,fun b _ _=>by rw [h4],hl,fun _ h=> .inl h,fun k b m h=> .inl ⟨k,m,h⟩,fun _ _=>rfl⟩⟩
theorem aIc {sz n q:Nat} {f g:Nat->List DV} {olds news:List Value} {arr:Array Value} (qm:olds.length=n*sz) (CZ:news.length=q*sz)
 (hf: ∀i,i<n->(f i).length=sz) (hg: ∀i,i<q->(g i).length=sz) (ho: ∀i j,i<n->j<sz->aZ S w ((f i).getD j (.v (.bool false))) (olds.getD (i*sz+j) undef))
 (hn: ∀i j,i<q->j<sz->aZ S w ((g i).getD j (.v (.bool false))) (news.getD (i*sz+j) undef)) (ha: ∀j,j<(n+q)*sz->arr.getD j undef=(olds++news).getD j undef):
 (∀i,i<n+q->(dG n f g i).length=sz)/\ ∀i j,i<n+q->j<sz->aZ S w ((dG n f g i).getD j (.v (.bool false))) (arr.getD (i*sz+j) undef):=by
 refine ⟨fun i hi=> ?_,fun i j hi hj=> ?_⟩
 . unfold dG;by_cases h:i<n
   . rw [if_pos h];exact hf i h
   . rw [if_neg h];exact hg _ j3
 . have hb:=nW (sz:=sz) hi
   rw [ha _ j3];unfold dG;by_cases h:i<n
   . rw [if_pos h];have ie:=nW (sz:=sz) h
     have e:(olds++news).getD (i*sz+j) undef=olds.getD (i*sz+j) undef:=by
      rw [List.getD_eq_getElem?_getD,List.getD_eq_getElem?_getD,List.getElem?_append_left j3]
     rw [e];exact ho i j h hj
   . rw [if_neg h];obtain ⟨p,rfl⟩: ∃p,i=n+p:=⟨i-n,by omega⟩
     have e:(olds++news).getD ((n+p)*sz+j) undef=news.getD (p*sz+j) undef:=by
      rw [List.getD_eq_getElem?_getD,List.getD_eq_getElem?_getD,Nat.add_mul,List.getElem?_append_right j3]
      congr 2;omega
     rw [e,show n+p-n=p by omega];exact hn p j j3 hj
theorem aER {z:Value} (hz:cP z):z.cells.size=(cW z).length:=by
 cases z with
 |agg cs=>simp [Value.cells,cW]
 |tuple _=>exact hz.elim
 |_=>rfl
theorem aEG {z:Value} {n j:Nat} (hp:0<z.cells.size) (hj:j<n*z.cells.size):(Builtin.zeroCells z.cells n)[j]? =z.cells[j%z.cells.size]? :=by
 have hm:j%z.cells.size<z.cells.size:=Nat.mod_lt _ hp
 simp only [Builtin.zeroCells,Array.getElem?_map];have:(Array.range (n*z.cells.size))[j]? =some j:=by simp [hj]
 rw [this,Option.map_some,getElem!_pos (c:=z.cells) (i:=j%z.cells.size) (h:=hm),Array.getElem?_eq_getElem hm]
theorem aUm (ab:bE P τ) (hz: ∀t i,τ t=some i->cP i.zero) {t u e:TypeId} {gj:List (Nat×Tm)} {h:List (Nat×aB)} {n m:Nat} (a6:aC P base ψ S w ⟨gj,h,n,m⟩ a) {args:Array Operand} (ae:o.op= .call {callee:= .builtin .append,args,argTypes:= #[t,u]})
 {kn:IntKind} {de:TypeDesc} {sz je:Nat} {cmp:Bool} {z:Value} {q:Int} (iN:P.underlying t=some (.slice e)) (kg:P.underlying u=some (.int kn)) (bw:τ e=some ⟨de,sz,⟨je,cmp⟩,z⟩)
 (mc:args.map a.eval= #[.slice none 0 0,.int .i64 q]) (gu:(cW z).length=sz) (hsz:0<sz) (hby:0<je)
 (hk:jW h (cW z) fun ds=>(0<=q/\ q*je<=140737488355328)/\ (0<=q->bG ⟨gj,(n,.row sz q.toNat (fun _=>ds))::h,n+1,m⟩ o.dst (.va (.c (.osl n sz 0 q.toNat))) K)):aK P base ψ S w a o K:=by
 obtain ⟨info,ed,_,ir,ri,sr⟩:=ab.ok _ _ bw
 simp only at ir ri sr
 obtain ⟨ds,qg,⟨mf,D0⟩,hk⟩:=qP a6.sim hk (sH (hz _ _ bw))
 have hk:=hk mf
 have en:z.cells.size=sz:=j1l
 have ob:ds.length=sz:=j0y
 have bd: ∀r w2,(Builtin.append_ #[t,u] o.type #[.slice none 0 0,.int .i64 q]).run P w= .ok r w2->(execOp a.eval o).run P w= .ok (.value r) w2:=by
  intro r w2 hr;rw [nV ae,mc];simp only [builtin,Sem.run_bind,hr,Result.andThen_ok,Sem.run_pure]
 obtain ⟨k,rfl⟩:=Int.eq_ofNat_of_zero_le mf
 rw [Int.toNat_natCast] at hk;rcases Nat.eq_zero_or_pos k with jc|jc
 . subst jc;obtain ⟨k1,k2⟩:=a6.name (sz:=sz) (q:=0) (f:=fun _=>ds) (l:= .virt) (fun _=>rfl) (fun b mm e=>by cases e)
   refine aK.value (bd _ _ ?_) k1 (x:= .va (.c (.osl n sz 0 0))) (.inl ⟨by simp [aJ.set],rfl,none,rfl⟩) hk k2
   have hw:IntKind.i64.wrap ((0:Nat):Int)=0:=rfl
   simp [Builtin.append_,run_underlying iN,run_underlying kg,sizeOf,typeInfo,ed,asInt,asIntOf,IntKind.wrap,IntKind.signed,IntKind.bits]
 . have ie:k*je<=140737488355328:=by
    have:((k*je:Nat):Int)<=140737488355328:=by rw [Int.natCast_mul];exact D0
    omega
   have rj:k<=k*je:=Nat.le_mul_of_pos_right _ hby
   have hr:=Lib.run_append_nil_zeros (P:=P) w t u o.type e info z .i64 kn iN kg ed sr k jc j3 j3 (by rw [ri];omega)
   obtain ⟨du,hx1⟩:=a6.heapEq (w':=w.drew) rfl rfl rfl rfl
   have oc:=grownCap_ge w k 0 e
   generalize bm:Builtin.zeroCells z.cells k++Builtin.zeroCells z.cells (grownCap w k 0 e-k)=arr at hr
   have o9:arr.size=grownCap w k 0 e*sz:=by
    rw [<-bm];simp only [Array.size_append,size_zeroCells,en, <-Nat.add_mul]
    congr 1;omega
   have hle:k*sz<=grownCap w k 0 e*sz:=Nat.mul_le_mul_right _ oc
   have ic:cT S w S (w.drew.alloc (.cells arr e)):=hx1.later.trans (tX du.sim.sdom _)
   obtain ⟨k1,k2⟩:=du.alloc (blk:= .row sz k (fun _=>ds)) (arr:=arr) (e:=e)
    ⟨arr,e,tW _,rfl,by omega,fun _ _=>ob,fun i j hi hj=>by
     have hb:=nW (sz:=sz) hi
     have G6:(Builtin.zeroCells z.cells k).size=k*sz:=by rw [size_zeroCells,en]
     have e1:arr.getD (i*sz+j) undef=(z.cells[j]?).getD undef:=by
      rw [<-bm,Array.getD_eq_getD_getElem?,Array.getElem?_append_left j3,aEG j3 (by rw [en];omega),en];have e5:(i*sz+j)%sz=j:=x2
      rw [e5]
     obtain ⟨y,y1,y2⟩:=qg.get j (ds[j]'j3) j8
     have e6:ds.getD j (.v (.bool false))=ds[j]'j3:=y6
     rw [Array.getElem?_toList] at y1;rw [e1,e6,y1];exact y2.later ic⟩
   refine aK.value (bd _ _ hr) k1 (x:= .va (.c (.osl n sz 0 k))) ?_ hk (hx1.trans k2)
   exact .inr ⟨w.heap.size,arr.size,grownCap w k 0 e,0,by simp [aJ.set],rfl,oc,fun _=>⟨by omega,by rw [Nat.zero_add];omega⟩⟩
theorem aQn {x:Va} {v:Value} (h:bB P ψ S w x v):bB P ψ S w (yB x) v:=by
 unfold yB;split
 . rename_i k z o len c
   rcases h with ⟨h1,h2,_,h3⟩|⟨b,m,off,h1,h2,h3,h4⟩
   . exact .inl ⟨h1,h2,by obtain ⟨a,e⟩:=h3;exact ⟨a,e⟩⟩
   . exact .inr ⟨b,m,c,off,h1,h2,h3,h4⟩
 . exact h
theorem aW9 {h:List (Nat×aB)} {next:Nat} (hs:iV P ψ S w h next) {sz lim:Nat} (hz:0<sz) {x:Va} {v:Value} {KN:Nat->(Nat->List DV)->Prop} (hx:bB P ψ S w x v) (hk:aLv h sz x lim KN):
 ∃(q:Nat) (g:Nat->List DV) (news:List Value) (ad:Option Addr) (n c:Nat),KN q g/\ v= .slice ad n c/\ q=Nat.min n lim/\ (∀w',w'.heap=w.heap->(Builtin.firstCells sz q v).run P w'= .ok news.toArray w')/\ news.length=q*sz/\ (∀i,i<q->(g i).length=sz)/\
  (∀i j,i<q->j<sz->aZ S w ((g i).getD j (.v (.bool false))) (news.getD (i*sz+j) undef))/\ ∀v∈news,mC v:=by
 unfold aLv at hk;split at hk
 . rename_i z n g
   obtain ⟨rfl,hk⟩:=hk
   have hk:=hk rfl
   have hx:aZ S w (.lst z n g) v:=hx
   cases hx with
   | @nil _ _ a0 c=>
     refine ⟨min 0 lim,g,[],a0,0,c,hk,rfl,by show min 0 lim=Nat.min 0 lim;rfl,fun w' _=> ?_,by simp,fun i hi=>by omega,fun i j hi=>by omega,by simp⟩
     have e:min 0 lim=0:=j3
     rw [e];cases a0 with
     |none=>exact run_firstCells_none w' z 0 0 c
     |some ad=>have:=run_firstCells_some (P:=P) w' z 0 ad 0 c [] j8 j8;simpa using this
   | @lst _ _ _ b off c gv hS hlen hc hd hn=>
     have hle:min n lim<=n:=Nat.min_le_left _ _
     have sq: ∀p,p<min n lim*z->p/z<n/\ p%z<z/\ p/z*z+p%z=p:=by
      intro p hp;have:p/z<min n lim:=by rw [Nat.div_lt_iff_lt_mul hz];exact hp
      exact ⟨by omega,Nat.mod_lt _ hz,by rw [Nat.mul_comm];exact Nat.div_add_mod p z⟩
     have cu: ∀i j,i<min n lim->j<z->((List.range (min n lim*z)).map fun p=>gv (p/z) (p%z))[i*z+j]? =some (gv i j):=by
      intro i j hi hj;have:=nW (sz:=z) hi
      simp only [List.getElem?_map,List.getElem?_range (show i*z+j<min n lim*z by omega),Option.map_some];have e1:(i*z+j)/z=i:=j1b
      have e2:(i*z+j)%z=j:=x2
      rw [e1,e2]
     refine ⟨min n lim,g,(List.range (min n lim*z)).map fun p=>gv (p/z) (p%z),_,n,c,hk,rfl,rfl,fun w' iz=> ?_,by simp,fun i hi=>hlen i j3,fun i j hi hj=> ?_,fun u hu=> ?_⟩
     . refine run_firstCells_some (P:=P) w' z (min n lim) ⟨b,off,none⟩ n c _ j8 ?_
       intro p u hp;have wq:p<min n lim*z:=by have:=(List.getElem?_eq_some_iff.1 hp).1;simpa using this
       obtain ⟨c1,c2,c3⟩:=sq p wq
       rw [List.getElem?_map,List.getElem?_range wq] at hp;cases hp;have:=hc (p/z) (p%z) c1 c2
       rw [pG,aEH (w:=w) (by rw [iz])]
       rwa [Nat.add_assoc,c3] at this
     . rw [List.getD_eq_getElem?_getD (l:=List.map _ _),cu i j hi hj];exact hd i j j3 hj
     . obtain ⟨p,hp,e⟩:=List.mem_map.1 hu
       obtain ⟨c1,c2,c3⟩:=sq p j1p
       rw [<-e];exact (hd _ _ c1 c2).scalar
 . rename_i k z o len
   split at hk
   . rename_i z' n g hb
     split at hk
     . rename_i gk
       have gk:=Nat.eq_of_beq_eq_true gk
       subst gk
       obtain ⟨⟨rfl,hle⟩,hk⟩:=hk
       have hk:=hk rfl hle
       rcases hx with ⟨_,rfl,a0,rfl⟩|⟨b,m,c,off,h1,rfl,h2,h3⟩
       . refine ⟨min 0 lim,_,[],a0,0,0,hk,rfl,rfl,fun w' _=> ?_,by simp,fun i hi=>by omega,fun i j hi=>by omega,by simp⟩
         have e:min 0 lim=0:=j3
         rw [e];cases a0 with
         |none=>exact run_firstCells_none w' z 0 0 0
         |some ad=>have:=run_firstCells_some (P:=P) w' z 0 ad 0 0 [] j8 j8;simpa using this
       . have aw:=hs.blk k _ h1
         rw [hb] at aw;obtain ⟨arr,e,q1,q2,q3,q4,q5⟩:=aw
         have D1:min len lim<=len:=Nat.min_le_left _ _
         have hN:=xP.of_block (S:=S) (sz:=z) (q:=min len lim) (o:=o) (g:=fun i=>g (o+i)) (c:=c) (off:=off) (no:=fun _=>True) q1 (fun hq=>(h3 j3).1) (fun hq=>by
          have:(o+min len lim)*z<=n*z:=Nat.mul_le_mul_right _ hle
          omega) (fun i hi=>q4 _ j3) (fun i j hi hj=>q5 _ _ j3 hj)
         refine ⟨min len lim,_,_,_,len,c,hk,rfl,rfl,fun w' iz=> ?_,hN.size,hN.row,hN.rep,hN.scal⟩
         have:=hN.cells w' iz P
         rw [<-this];simp only [Builtin.firstCells]
     . exact hk.elim
   . exact hk.elim
 . exact hk.elim
theorem aXa (ab:bE P τ) (a6:aC P base ψ S w st a) {args:Array Operand} {ts:Array TypeId} (ae:o.op= .call {callee:= .builtin .copy,args,argTypes:=ts})
 {qn:List Va} (ss:bY (fun x=>gK (ev st x)) args.toList=some qn) (hk:aLw τ st o.dst ts.toList (some (qn.map yB)) K):aK P base ψ S w a o K:=by
 unfold aLw at hk;split at hk
 . rename_i t u k z o1 len x gj h n m hts has
   have hts:ts= #[t,u]:=y9
   subst hts;have av:=(sN a6 ss).map_left yB fun _ _=>aQn
   rw [Option.some.inj has] at av;obtain ⟨v1,v2,mc,hd,hx⟩: ∃v1 v2,args.map a.eval= #[v1,v2]/\ bB P ψ S w (.c (.osl k z o1 len)) v1/\ bB P ψ S w x v2:=by
    generalize hl:args.toList.map a.eval=l at av
    match l,av with
    | [v1,v2],av=>exact ⟨v1,v2,by apply Array.ext';simpa using hl,av.1,av.2.1⟩
   split at hk
   . rename_i e yk yn z1 sz ln f ht aw
     split at hk
     . rename_i de cd bt zv bw
       obtain ⟨_,_,iN,_⟩:=ab.ok _ _ ht
       have cq:=jY ab bw
       simp only at iN cq
       split at hk
       . rename_i au ie hb3
         have au:=Nat.eq_of_beq_eq_true au
         have ie:=Nat.eq_of_beq_eq_true ie
         have hsz:0<sz:=by simpa [Nat.blt_eq] using hb3
         subst au;subst ie
         obtain ⟨q,g,news,ad,nn,cc,⟨hole,hk⟩,fi,hq,bq,hlen,b8,bh,BI⟩:=aW9 a6.sim hsz hx hk
         have hk:=hk hole
         have bd: ∀w2,(Builtin.copy_ #[t,u] o.type #[v1,v2]).run P w= .ok (.int .i64 q) w2->(execOp a.eval o).run P w= .ok (.value (.int .i64 q)) w2:=by
          intro w2 hr;rw [nV ae,mc];simp only [builtin,Sem.run_bind,hr,Result.andThen_ok,Sem.run_pure]
         have yp: ∀(da:Option Addr) (dc:Nat) (w2:World),v1= .slice da len dc->(match da with|some ad=>(storeCells ad news).run P w= .ok () w2|none=>w2=w)->(Builtin.copy_ #[t,u] o.type #[v1,v2]).run P w= .ok (.int .i64 q) w2:=by
          intro da dc w2 bj ij;have hc:=bq w rfl
          rw [fi] at hc;have BJ:Nat.min nn len=q:=hq.symm
          subst bj fi;cases da with
          |none=>
           simp only at ij
           subst ij;simp [Builtin.copy_,run_underlying iN,Builtin.lenOf,cq,BJ,hc,goInt]
          |some ad=>simp [Builtin.copy_,run_underlying iN,Builtin.lenOf,cq,BJ,hc,ij,goInt]
         -- nothing is copied
         have idle:q=0->(∃da dc,v1= .slice da len dc)->aK P base ψ S w a o K:=by
          rintro mf ⟨da,dc,bj⟩
          have AA:news= []:=by apply List.eq_nil_of_length_eq_zero;rw [hlen,mf,Nat.zero_mul]
          subst AA;have fl:aC P base ψ S w ⟨gj,(k,.row sz (max ln (o1+q)) (qX f o1 q g))::h,n,m⟩ a:=by
           have e1:max ln (o1+q)=ln:=j3
           have e2: ∀i,qX f o1 q g i=f i:=fun i=>by unfold qX;rw [if_neg j3]
           have b8: ∀l,fE P ψ S w (.row sz ln f) l->fE P ψ S w (.row sz (max ln (o1+q)) (qX f o1 q g)) l:=by
            intro l hl;rw [e1];cases l with
            |virt=>exact hl
            | «at» b mm=>
              obtain ⟨arr,e3,g1,g2,g3,g4,g5⟩:=hl
              exact ⟨arr,e3,g1,g2,g3,fun i hi=>by rw [e2];exact g4 i hi,fun i j hi hj=>by rw [e2];exact g5 i j hi hj⟩
           refine ⟨a6.bas,⟨a6.sim.dom,fun j l hj=> ?_,?_,?_,a6.sim.pdom,a6.sim.sdom⟩,a6.lim,a6.defers,a6.tmps⟩
           . rw [cY];by_cases ej:k=j
             . rw [if_pos ej];subst ej;refine b8 l ?_;have:=a6.sim.blk k l hj;simp only [aw] at this;exact this
             . rw [if_neg ej];exact a6.sim.blk j l hj
           . intro j j' b m1 m2 h1 h2 l1 l2
             have qk: ∀j,(aF ((k,aB.row sz (max ln (o1+q)) (qX f o1 q g))::h) j).live->(aF h j).live:=by
              intro j hl;rw [cY] at hl;by_cases ej:k=j
              . subst ej;rw [aw];trivial
              . rwa [if_neg ej] at hl
             exact a6.sim.inj j j' b m1 m2 h1 h2 (qk j l1) (qk j' l2)
           . intro j b m1 h1 l1;refine a6.sim.dis j b m1 h1 ?_
             rw [cY] at l1;by_cases ej:k=j
             . subst ej;simp only [aw];trivial
             . rwa [if_neg ej] at l1
          refine aK.value (bd w (yp da dc w bj ?_)) fl (x:=vx _) (.v trivial) hk (aI.refl _ _ _ _)
          cases da<;>rfl
         rcases hd with ⟨h1,rfl,a0,bj⟩|⟨b,mm,c,off,h1,bj,h2,h3⟩
         . refine idle ?_ ⟨_,_,bj⟩
           rw [hq];exact Nat.min_zero _
         . by_cases mf:q=0
           . exact idle mf ⟨_,_,bj⟩
           . have GD:q<=len:=by rw [hq];exact Nat.min_le_right _ _
             obtain ⟨ig,rf⟩:=h3 j3
             have mh:=a6.sim.blk k _ h1
             simp only [aw] at mh;obtain ⟨arr,e3,g1,g2,g3,g4,g5⟩:=mh
             have Eu:(o1+q)*sz<=(o1+c)*sz:=Nat.mul_le_mul_right _ j3
             have hmul:(o1+q)*sz=o1*sz+q*sz:=Nat.add_mul _ _ _
             obtain ⟨w2,od,p1,p2,p3,p4,p5,p6,p7,p8,p9⟩:=yK (P:=P) (off:=off) news 0 w arr g1 (by
              right;rw [hlen];omega) BI
             obtain ⟨r1,r2⟩:=a6.write (w':=w2) (blk:= .row sz (max ln (o1+q)) (qX f o1 q g)) h1 w8 p5 p6 p7 p8 p9 (fun hl=>by
              refine ⟨od,e3,p2,by omega, ?_,fun i hi=> ?_,fun i j hi hj=> ?_⟩
              . rcases Nat.le_total ln (o1+q) with hx|hx
                . rw [Nat.max_eq_right hx];omega
                . rw [Nat.max_eq_left hx];omega
              . unfold qX;split
                . exact b8 _ j3
                . exact g4 i j3
              . rw [Array.getD_eq_getD_getElem?,p4,hlen,Nat.add_zero];unfold qX;by_cases hc:o1<=i/\ i<o1+q
                . rw [if_pos hc];have e1:=nW (sz:=sz) (show i-o1<q by omega)
                  have e2:i*sz=o1*sz+(i-o1)*sz:=by rw [<-Nat.add_mul];congr 1;omega
                  rw [if_pos j3];have e4:i*sz+j-off=(i-o1)*sz+j:=j3
                  rw [e4, <-List.getD_eq_getElem?_getD];exact (bh _ _ j3 hj).later hl
                . rw [if_neg hc];have ag: ¬(off<=i*sz+j/\ i*sz+j<off+q*sz):=by
                   intro ee;rcases Nat.lt_or_ge i o1 with hlt|oc
                   . have:=nW (sz:=sz) hlt;omega
                   . have:o1+q<=i:=by omega
                     have:=Nat.mul_le_mul_right sz this
                     omega
                  rw [if_neg ag, <-Array.getD_eq_getD_getElem?];exact (g5 i j j3 hj).later hl)
             exact aK.value (bd _ (yp _ _ w2 bj p1)) r1 (x:=vx _) (.v trivial) hk r2
       . exact hk.elim
     . exact hk.elim
   . exact hk.elim
 . exact hk.elim
theorem aUN (ab:bE P τ) (hz: ∀t i,τ t=some i->cP i.zero) (a6:aC P base ψ S w st a) {args:Array Operand} {ts:Array TypeId} (ae:o.op= .call {callee:= .builtin .append,args,argTypes:=ts})
 {k z o1 len c:Nat} {q:Int} (has:bY (fun x=>gK (ev st x)) args.toList=some [.c (.osc k z o1 len c),.c (.d (.v (.int .i64 q)))]) (hk:aIW τ st o.dst ts.toList k z o1 len c q K):aK P base ψ S w a o K:=by
 unfold aIW at hk;split at hk
 . rename_i t u gj h n m hts
   have hts:ts= #[t,u]:=y9
   subst hts;have av:=sN a6 has
   obtain ⟨v1,v2,mc,hs,hx⟩: ∃v1 v2,args.map a.eval= #[v1,v2]/\ bB P ψ S w (.c (.osc k z o1 len c)) v1/\ bB P ψ S w (.c (.d (.v (.int .i64 q)))) v2:=by
    generalize hl:args.toList.map a.eval=l at av
    match l,av with
    | [v1,v2],av=>exact ⟨v1,v2,by apply Array.ext';simpa using hl,av.1,av.2.1⟩
   have fi:v2= .int .i64 q:=by cases hx;rfl
   split at hk
   . rename_i e yk yn z1 kn BK BL z2 sz ln f ht hu aw
     split at hk
     . rename_i de cd je cmp zv bw
       obtain ⟨_,_,iN,_⟩:=ab.ok _ _ ht
       obtain ⟨_,_,kg,_⟩:=ab.ok _ _ hu
       obtain ⟨info,ed,_,ir,ri,sr⟩:=ab.ok _ _ bw
       simp only at iN kg ir ri sr
       split at hk
       . rename_i au ie gu hsz hby
         have au:=Nat.eq_of_beq_eq_true au
         have ie:=Nat.eq_of_beq_eq_true ie
         have gu:=Nat.eq_of_beq_eq_true gu
         have hsz:0<sz:=j1s
         have hby:0<je:=j1t
         subst au;subst ie
         obtain ⟨ds,qg,⟨mf,hole,fk,rk⟩,hk⟩:=qP a6.sim hk (sH (hz _ _ bw))
         have hk:=hk mf
         obtain ⟨p,rfl⟩:=Int.eq_ofNat_of_zero_le mf
         rw [Int.toNat_natCast] at hk;have en:zv.cells.size=sz:=j1l
         have ob:ds.length=sz:=j0y
         have er:(len+p)*je<=140737488355328:=by
          have:(((len+p)*je:Nat):Int)<=140737488355328:=by rw [Int.natCast_mul,Int.natCast_add];exact rk
          omega
         have CZ:len+p<=(len+p)*je:=Nat.le_mul_of_pos_right _ hby
         have hg:c<len+p:=j3
         -- what was there
         obtain ⟨olds,sa,bj,D2,jk,hold⟩: ∃(olds:List Value) (sa:Option Addr),v1= .slice sa len c/\ (∀w',w'.heap=w.heap->(Builtin.firstCells sz len v1).run P w'= .ok olds.toArray w')/\ olds.length=len*sz/\
          ((∀i,i<len->(f (o1+i)).length=sz)/\ ∀i j,i<len->j<sz->aZ S w ((f (o1+i)).getD j (.v (.bool false))) (olds.getD (i*sz+j) undef)):=by
          rcases hs with ⟨h1,rfl,rfl,a0,rfl⟩|⟨b,mm,off,h1,rfl,h2,h3⟩
          . refine ⟨[],a0,rfl,fun w' _=> ?_,by simp,fun i hi=>by omega,fun i j hi=>by omega⟩
            cases a0 with
            |none=>exact run_firstCells_none w' sz 0 0 0
            |some ad=>have:=run_firstCells_some (P:=P) w' sz 0 ad 0 0 [] j8 j8;simpa using this
          . have mh:=a6.sim.blk k _ h1
            simp only [aw] at mh;obtain ⟨arr,e3,g1,g2,g3,g4,g5⟩:=mh
            have hN:=xP.of_block (S:=S) (sz:=sz) (q:=len) (o:=o1) (g:=fun i=>f (o1+i)) (c:=c) (off:=off) (no:=fun _=>True) g1 (fun hq=>(h3 j3).1) (fun hq=>by
             have:(o1+len)*sz<=ln*sz:=Nat.mul_le_mul_right _ hole
             omega) (fun i hi=>g4 _ j3) (fun i j hi hj=>g5 _ _ j3 hj)
            exact ⟨_,_,rfl,fun w' iz=>hN.cells w' iz P,hN.size,hN.row,hN.rep⟩
         have bd: ∀r w2,(Builtin.append_ #[t,u] o.type #[v1,v2]).run P w= .ok r w2->(execOp a.eval o).run P w= .ok (.value r) w2:=by
          intro r w2 hr;rw [nV ae,mc];simp only [builtin,Sem.run_bind,hr,Result.andThen_ok,Sem.run_pure]
         have oc:=grownCap_ge w (len+p) c e
         obtain ⟨du,hx1⟩:=a6.heapEq (w':=w.drew) rfl rfl rfl rfl
         have oe:(Builtin.append_ #[t,u] o.type #[v1,v2]).run P w= .ok (.slice (some ⟨w.heap.size,0,none⟩) (len+p) (grownCap w (len+p) c e))
          (w.drew.alloc (.cells (olds.toArray++Builtin.zeroCells zv.cells p++Builtin.zeroCells zv.cells (grownCap w (len+p) c e-(len+p))) e)):=by
          subst bj fi;have Ba:=D2 w.drew rfl
          have Ev:0<p:=by
           rcases hs with ⟨_,rfl,rfl,_⟩|⟨_,_,_,_,_,h2,_⟩
           . omega
           . omega
          rw [<-ir] at Ba;have Ew:p*je<=(len+p)*je:=Nat.mul_le_mul_right _ j3
          exact Lib.run_append_grow_zeros (P:=P) w t u o.type e info zv .i64 kn iN kg ed sr sa len c olds Ba p Ev (by rw [ir];exact hsz) hg j3 (by rw [ri];omega) (growslice_fits hg (by rw [ri];exact er))
         generalize bm:(olds.toArray++Builtin.zeroCells zv.cells p++Builtin.zeroCells zv.cells (grownCap w (len+p) c e-(len+p)))=arr at oe
         have o9:arr.size=grownCap w (len+p) c e*sz:=by
          rw [<-bm];simp only [Array.size_append,List.size_toArray,size_zeroCells,en,jk, <-Nat.add_mul]
          congr 1;omega
         have hle:(len+p)*sz<=grownCap w (len+p) c e*sz:=Nat.mul_le_mul_right _ oc
         have kf: ∀i j,i<p->j<sz->aZ S w (ds.getD j (.v (.bool false))) ((Builtin.zeroCells zv.cells p).toList.getD (i*sz+j) undef):=by
          intro i j hi hj;have hb:=nW (sz:=sz) hi
          obtain ⟨y,y1,y2⟩:=qg.get j (ds[j]'j3) j8
          have e6:ds.getD j (.v (.bool false))=ds[j]'j3:=y6
          rw [Array.getElem?_toList] at y1;have e5:(i*sz+j)%sz=j:=x2
          rw [e6,List.getD_eq_getElem?_getD,Array.getElem?_toList,aEG j3 (by rw [en];omega),en,e5,y1];exact y2
         have cu: ∀j,j<(len+p)*sz->arr.getD j undef=(olds++(Builtin.zeroCells zv.cells p).toList).getD j undef:=by
          intro j hj;have jv:j<(olds++(Builtin.zeroCells zv.cells p).toList).length:=by rw [List.length_append,jk,Array.length_toList,size_zeroCells,en, <-Nat.add_mul];exact hj
          rw [<-bm,Array.getD_eq_getD_getElem?,List.getD_eq_getElem?_getD, <-Array.getElem?_toList];simp only [Array.toList_append];rw [List.getElem?_append_left jv]
         have ic:cT S w S (w.drew.alloc (.cells arr e)):=hx1.later.trans (tX du.sim.sdom _)
         obtain ⟨q1,q2⟩:=aIc (S:=S) (w:=w) (sz:=sz) (n:=len) (q:=p) (f:=fun i=>f (o1+i)) (g:=fun _=>ds) (olds:=olds) (news:=(Builtin.zeroCells zv.cells p).toList) (arr:=arr) jk (by rw [Array.length_toList,size_zeroCells,en]) hold.1 (fun _ _=>ob) hold.2 kf cu
         obtain ⟨k1,k2⟩:=du.alloc (blk:= .row sz (len+p) (dG len (fun i=>f (o1+i)) fun _=>ds)) (arr:=arr) (e:=e)
          ⟨arr,e,tW _,rfl,by omega,q1,fun i j hi hj=>(q2 i j hi hj).later ic⟩
         refine aK.value (bd _ _ oe) k1 (x:= .va (.c (.osl n sz 0 (len+p)))) ?_ hk (hx1.trans k2)
         exact .inr ⟨w.heap.size,arr.size,grownCap w (len+p) c e,0,by simp [aJ.set],rfl,oc,fun _=>⟨by omega,by rw [Nat.zero_add];omega⟩⟩
       . exact hk.elim
     . exact hk.elim
   . exact hk.elim
 . exact hk.elim
theorem aVb (ab:bE P τ) (a6:aC P base ψ S w st a) {args:Array Operand} {ts:Array TypeId} (ae:o.op= .call {callee:= .builtin .append,args,argTypes:=ts})
 {qn:List Va} (ss:bY (fun x=>gK (ev st x)) args.toList=some qn) (he:aIV qn=true) (hk:aJB τ st o.dst ts.toList K):aK P base ψ S w a o K:=by
 have av:=sN a6 ss
 have Ex: ∃xa cx,args.map a.eval= #[.slice none 0 0,.slice xa 0 cx]:=by
  have key: ∀{x:Va},qn= [.c (.d (.v (.slice none 0 0))),x]->(∀v,bB P ψ S w x v-> ∃xa cx,v= .slice xa 0 cx)-> ∃xa cx,args.map a.eval= #[.slice none 0 0,.slice xa 0 cx]:=by
   intro x hx hr;subst hx
   generalize hl:args.toList.map a.eval=l at av
   match l,av with
   | [v1,v2],av=>
     obtain ⟨h1,h2,_⟩:=av
     obtain ⟨xa,cx,rfl⟩:=hr v2 h2
     have h1:v1= .slice none 0 0:=by cases h1;rfl
     subst h1;exact ⟨xa,cx,by apply Array.ext';simpa using hl⟩
  unfold aIV at he;split at he
  . exact key rfl fun v hv=>by cases hv;exact ⟨_,_,rfl⟩
  . exact key rfl fun v hv=>by
     rcases hv with ⟨_,_,a0,rfl⟩|⟨b,m,c,off,_,rfl,_⟩
     . exact ⟨_,_,rfl⟩
     . exact ⟨_,_,rfl⟩
  . exact key rfl fun v hv=>by cases hv<;>exact ⟨_,_,rfl⟩
  . cases he
 obtain ⟨xa,cx,mc⟩:=Ex
 unfold aJB at hk;split at hk
 . rename_i t u hts
   have hts:ts= #[t,u]:=y9
   subst hts;split at hk
   . rename_i e yk yn z1 e2 BK BL z2 ht hu
     split at hk
     . rename_i ti bw
       obtain ⟨_,_,iN,_⟩:=ab.ok _ _ ht
       obtain ⟨_,_,kg,_⟩:=ab.ok _ _ hu
       obtain ⟨i,ed,_⟩:=ab.ok _ _ bw
       refine aK.value (v:= .slice none 0 0) (x:=vx (.slice none 0 0)) ?_ a6 (.v trivial) hk (aI.refl _ _ _ _)
       rw [nV ae,mc];simp only [builtin,Sem.run_bind,aNu iN kg ed,Result.andThen_ok,Sem.run_pure]
     . exact hk.elim
   . exact hk.elim
 . exact hk.elim
theorem aVc (ab:bE P τ) (hz: ∀t i,τ t=some i->cP i.zero) (a6:aC P base ψ S w st a) {args:Array Operand} {ts:Array TypeId} (ae:o.op= .call {callee:= .builtin .append,args,argTypes:=ts})
 {qn:List Va} (ss:bY (fun x=>gK (ev st x)) args.toList=some qn) (hk:aJA τ st o.dst ts.toList (some (qn.map yB)) K):aK P base ψ S w a o K:=by
 unfold aJA at hk;split at hk
 . rename_i t u s x gj h n m hts has
   have av:=(sN a6 ss).map_left yB fun _ _=>aQn
   rw [Option.some.inj has] at av;have hts:ts= #[t,u]:=y9
   subst hts;obtain ⟨v1,v2,mc,hs,hx⟩: ∃v1 v2,args.map a.eval= #[v1,v2]/\ bB P ψ S w s v1/\ bB P ψ S w x v2:=by
    generalize hl:args.toList.map a.eval=l at av
    match l,av with
    | [v1,v2],av=>exact ⟨v1,v2,by apply Array.ext';simpa using hl,av.1,av.2.1⟩
   split at hk
   . rename_i e yk yn z1 e2 BK BL z2 ht hu
     split at hk
     . rename_i de sz je cmp z bw
       obtain ⟨_,_,iN,_⟩:=ab.ok _ _ ht
       obtain ⟨_,_,kg,_⟩:=ab.ok _ _ hu
       obtain ⟨info,ed,_,ir,ri,sr⟩:=ab.ok _ _ bw
       simp only at iN kg ir ri sr
       split at hk
       . rename_i gu hsz hby
         have gu:=Nat.eq_of_beq_eq_true gu
         have hsz:0<sz:=j1s
         have hby:0<je:=j1t
         have en:z.cells.size=sz:=j1l
         have bd: ∀r w2,(Builtin.append_ #[t,u] o.type #[v1,v2]).run P w= .ok r w2->(execOp a.eval o).run P w= .ok (.value r) w2:=by
          intro r w2 hr;rw [nV ae,mc];simp only [builtin,Sem.run_bind,hr,Result.andThen_ok,Sem.run_pure]
         -- a new block
         have grow: ∀(h0:List (Nat×aB)) (len c q:Nat) (f g:Nat->List DV) (olds news:List Value) (sa xa:Option Addr) (cx:Nat),aC P base ψ S w ⟨gj,h0,n,m⟩ a->v1= .slice sa len c->v2= .slice xa q cx->(len+q)*je<=140737488355328->c<len+q->
          (∀w',w'.heap=w.heap->(Builtin.firstCells sz len v1).run P w'= .ok olds.toArray w')->olds.length=len*sz->(∀i,i<len->(f i).length=sz)->
          (∀i j,i<len->j<sz->aZ S w ((f i).getD j (.v (.bool false))) (olds.getD (i*sz+j) undef))->xP S w sz q g v2 news (fun _=>True)->
          bG ⟨gj,(n,.row sz (len+q) (dG len f g))::h0,n+1,m⟩ o.dst (.va (.c (.osl n sz 0 (len+q)))) K->aK P base ψ S w a o K:=by
          intro h0 len c q f g olds news sa xa cx nt bj fi rk hg qm jk hf ho hN hk;subst bj fi;have CZ:len+q<=(len+q)*je:=Nat.le_mul_of_pos_right _ hby
          have oe:=aUl (P:=P) (w:=w) (ty:=o.type) iN kg ed sr (sa:=sa) (xa:=xa) (n:=len) (c:=c) (q:=q) (cx:=cx) (olds:=olds) (news:=news)
           (by rw [ir];exact qm) (by rw [ir];exact fun w' iz=>hN.cells w' iz P) hg j3 (growslice_fits hg (by rw [ri];exact rk))
          have oc:=grownCap_ge w (len+q) c e
          obtain ⟨du,hx1⟩:=nt.heapEq (w':=w.drew) rfl rfl rfl rfl
          have AA:ψ n=none:=nt.sim.dom n (Nat.le_refl _)
          generalize bm:(olds.toArray++news.toArray++Builtin.zeroCells z.cells (grownCap w (len+q) c e-(len+q)))=arr at oe
          have o9:arr.size=grownCap w (len+q) c e*sz:=by
           rw [<-bm];simp only [Array.size_append,List.size_toArray,size_zeroCells,en,jk,hN.size, <-Nat.add_mul]
           congr 1;omega
          have hle:(len+q)*sz<=grownCap w (len+q) c e*sz:=Nat.mul_le_mul_right _ oc
          have cu: ∀j,j<(len+q)*sz->arr.getD j undef=(olds++news).getD j undef:=by
           intro j hj;have jv:j<(olds++news).length:=by rw [List.length_append,jk,hN.size, <-Nat.add_mul];exact hj
           rw [<-bm,Array.getD_eq_getD_getElem?,List.getD_eq_getElem?_getD, <-Array.getElem?_toList];simp only [Array.toList_append];rw [List.getElem?_append_left jv]
          have ic:cT S w S (w.drew.alloc (.cells arr e)):=hx1.later.trans (tX du.sim.sdom _)
          obtain ⟨q1,q2⟩:=aIc (arr:=arr) jk hN.size hf hN.row ho hN.rep cu
          obtain ⟨k1,k2⟩:=du.alloc (blk:= .row sz (len+q) (dG len f g)) (arr:=arr) (e:=e)
           ⟨arr,e,tW _,rfl,by omega,q1,fun i j hi hj=>(q2 i j hi hj).later ic⟩
          refine aK.value (bd _ _ oe) k1 (x:= .va (.c (.osl n sz 0 (len+q)))) ?_ hk (hx1.trans k2)
          exact .inr ⟨w.heap.size,arr.size,grownCap w (len+q) c e,0,by simp [aJ.set],rfl,oc,fun _=>⟨by omega,by rw [Nat.zero_add];omega⟩⟩
         -- nothing there, and nothing added
         have jl: ∀(h0:List (Nat×aB)) (g:Nat->List DV) (sa xa:Option Addr) (cx:Nat),aC P base ψ S w ⟨gj,h0,n,m⟩ a->v1= .slice sa 0 0->v2= .slice xa 0 cx->
          bG ⟨gj,(n,.row sz 0 g)::h0,n+1,m⟩ o.dst (.va (.c (.osl n sz 0 0))) K->aK P base ψ S w a o K:=by
          intro h0 g sa xa cx nt bj fi hk;subst bj fi;obtain ⟨k1,k2⟩:=nt.name (sz:=sz) (q:=0) (f:=g) (l:= .virt) (fun _=>rfl) (fun b mm e=>by cases e)
          exact aK.value (bd _ _ (aNu iN kg ed)) k1 (x:= .va (.c (.osl n sz 0 0))) (.inl ⟨by simp [aJ.set],rfl,_,rfl⟩) hk k2
         split at hk
         . obtain ⟨q,g,news,⟨hb,hk⟩,hN⟩:=aOo a6.sim hsz hx hk
           have hs:aZ S w (.v (.slice none 0 0)) v1:=hs
           have bj:v1= .slice none 0 0:=by cases hs;rfl
           obtain ⟨xa,cx,fi⟩:=hN.len
           rcases Nat.eq_zero_or_pos q with hq|hq
           . subst hq;exact jl h g none xa cx a6 bj fi hk
           . refine grow h 0 0 q (fun _=> []) g [] news none xa cx a6 bj fi (by simpa using hb) j3 ?_ j8 (fun i hi=>by omega) (fun i j hi=>by omega) hN ?_
             . intro w' _;rw [bj];exact run_firstCells_none w' sz 0 0 0
             . have:dG 0 (fun _=> []) g=g:=by funext i;simp [dG]
               rw [this];simpa using hk
         . rename_i k zz o1 len
           split at hk
           . rename_i z' ln f aw dw
             have dw:=Nat.eq_of_beq_eq_true dw
             subst dw;split at hk
             . rename_i gk
               have gk:=Nat.eq_of_beq_eq_true gk
               subst gk
               obtain ⟨⟨rfl,hle⟩,hk⟩:=hk
               obtain ⟨q,g,news,⟨hb,hk⟩,hN⟩:=aOo a6.sim hsz hx hk
               obtain ⟨xa,cx,fi⟩:=hN.len
               have nt:=a6.forget k
               rcases hs with ⟨h1,rfl,a0,bj⟩|⟨b,mm,c,off,h1,bj,h2,h3⟩
               . rcases Nat.eq_zero_or_pos q with hq|hq
                 . subst hq;exact jl _ _ a0 xa cx nt bj fi hk
                 . refine grow _ 0 0 q f g [] news a0 xa cx nt bj fi hb j3 ?_ j8 (fun i hi=>by omega) (fun i j hi=>by omega) hN hk
                   intro w' _
                   rw [bj];cases a0 with
                   |none=>exact run_firstCells_none w' zz 0 0 0
                   |some ad=>have:=run_firstCells_some (P:=P) w' zz 0 ad 0 0 [] j8 j8;simpa using this
               . have mh:=a6.sim.blk k _ h1
                 simp only [aw] at mh;obtain ⟨arr,e3,g1,g2,g3,g4,g5⟩:=mh
                 have D1:len*zz<=ln*zz:=Nat.mul_le_mul_right _ hle
                 have rf:0<c->off=0/\ c*zz<=mm:=fun hc=>by have:=h3 hc;simpa using this
                 have qm: ∀w',w'.heap=w.heap->(Builtin.firstCells zz len v1).run P w'= .ok (arr.toList.take (len*zz)).toArray w':=by
                  intro w' iz
                  rw [bj];refine run_firstCells_some (P:=P) w' zz len ⟨b,off,none⟩ len c _ y7 ?_
                  intro j u hj;have AB:j<len*zz:=by have:=(List.getElem?_eq_some_iff.1 hj).1;simp at this;omega
                  have Ey:0<len:=by rcases Nat.eq_zero_or_pos len with h|h;subst h;omega;exact h
                  obtain ⟨rfl,_⟩:=rf j3
                  rw [pG,oB (by rw [iz];exact g1),Nat.zero_add, <-Array.getElem?_toList];rw [List.getElem?_take,if_pos AB] at hj;exact hj
                 have jk:(arr.toList.take (len*zz)).length=len*zz:=y7
                 have D3: ∀i j,i<len->j<zz->aZ S w ((f i).getD j (.v (.bool false))) ((arr.toList.take (len*zz)).getD (i*zz+j) undef):=by
                  intro i j hi hj;have ie:=nW (sz:=zz) hi
                  have:=g5 i j j3 hj
                  have e:(arr.toList.take (len*zz)).getD (i*zz+j) undef=arr.getD (i*zz+j) undef:=by
                   rw [List.getD_eq_getElem?_getD,List.getElem?_take,if_pos j3,Array.getD_eq_getD_getElem?,Array.getElem?_toList]
                  rw [e];exact this
                 by_cases im:len+q<=c
                 . -- there is room
                   have Eu:(len+q)*zz<=c*zz:=Nat.mul_le_mul_right _ im
                   have ig:0<len+q->off=0/\ c*zz<=mm:=fun h=>rf j3
                   have D4: ¬0<len+q->news= []:=by
                    intro h;have:q=0:=j3
                    have hs:=hN.size
                    rw [this,Nat.zero_mul] at hs;exact List.eq_nil_of_length_eq_zero hs
                   have hmul:(len+q)*zz=len*zz+q*zz:=Nat.add_mul _ _ _
                   obtain ⟨w2,od,p1,p2,p3,p4,p5,p6,p7,p8,p9⟩:=yK (P:=P) (off:=off+len*zz) news 0 w arr g1 (by
                    by_cases h:0<len+q
                    . right;obtain ⟨q1,q2⟩:=ig h;rw [hN.size];omega
                    . left;exact D4 h) hN.scal
                   obtain ⟨r1,r2⟩:=a6.write (w':=w2) (blk:= .gone) h1 w8 p5 p6 p7 p8 p9 (fun _=>trivial)
                   have ic:=r2.later
                   have cu: ∀j,j<(len+q)*zz->od.getD j undef=(arr.toList.take (len*zz)++news).getD j undef:=by
                    intro j hj;have h0:0<len+q:=by rcases Nat.eq_zero_or_pos (len+q) with h|h;rw [h] at hj;omega;exact h
                    obtain ⟨q1,q2⟩:=ig h0
                    subst q1;rw [Array.getD_eq_getD_getElem?,p4,List.getD_eq_getElem?_getD,hN.size];by_cases jv:j<len*zz
                    . rw [if_neg j3,List.getElem?_append_left j3,List.getElem?_take,if_pos jv,Array.getElem?_toList]
                    . rw [if_pos j3,List.getElem?_append_right j3,jk]
                      congr 2;omega
                   obtain ⟨q1,q2⟩:=aIc (arr:=od) jk hN.size (fun i hi=>g4 i j3) hN.row D3 hN.rep cu
                   have b8: ∀ψ,fE P ψ S w2 (.row zz (len+q) (dG len f g)) (.at b mm):=by
                    intro ψ;refine ⟨od,e3,p2,by omega, ?_,q1,fun i j hi hj=>(q2 i j hi hj).later ic⟩
                    by_cases h:0<len+q
                    . obtain ⟨_,q2⟩:=ig h;omega
                    . have:len+q=0:=by omega
                      rw [this];omega
                   obtain ⟨k1,k2⟩:=r1.name (l:= .at b mm) b8 (by
                    intro b' Ez e
                    cases e;refine ⟨a6.sim.dis k b mm h1 w8,by rw [p8];exact a6.sim.pdom k b mm h1,⟨k,mm,h1⟩, ?_⟩
                    intro j m' hj bf
                    rw [cY] at bf;by_cases ej:k=j
                    . rw [if_pos ej] at bf;exact bf
                    . rw [if_neg ej] at bf;exact ej (a6.sim.inj k j b mm m' h1 hj w8 bf))
                   have re:(storeCells ((⟨b,off,none⟩:Addr).add (len*info.size)) news).run P w= .ok () w2:=by
                    rw [pG,ir];exact p1
                   subst bj fi;have hr:=aUv (P:=P) (w:=w) (ty:=o.type) iN kg ed (ad:=⟨b,off,none⟩) (xa:=xa) (n:=len) (c:=c) (q:=q) (cx:=cx) (news:=news) (by rw [ir];exact hN.cells w rfl P) re im
                   refine aK.value (bd _ _ hr) k1 (x:= .va (.c (.osl n zz 0 (len+q)))) ?_ hk (r2.trans k2)
                   exact .inr ⟨b,mm,c,off,by simp [aJ.set],rfl,im,fun hc=>by have:=rf hc;simpa using this⟩
                 . exact grow _ len c q f g _ news (some ⟨b,off,none⟩) xa cx nt bj fi hb j3 qm jk (fun i hi=>g4 i j3) D3 hN hk
             . exact hk.elim
           . exact hk.elim
         . exact hk.elim
       . exact hk.elim
     . exact hk.elim
   . rename_i e yk yn z1 kn BK BL z2 ht hu
     split at hk
     . rename_i de sz je cmp z bw
       obtain ⟨_,_,iN,_⟩:=ab.ok _ _ ht
       obtain ⟨_,_,kg,_⟩:=ab.ok _ _ hu
       simp only at iN kg
       split at hk
       . rename_i gu hsz hby
         split at hk
         . rename_i q
           have bj:v1= .slice none 0 0:=by cases hs;rfl
           have fi:v2= .int .i64 q:=by cases hx;rfl
           rw [bj,fi] at mc;exact aUm ab hz a6 ae iN kg bw mc (Nat.eq_of_beq_eq_true gu) j1s j1t hk
         . exact hk.elim
       . exact hk.elim
     . exact hk.elim
   . exact hk.elim
 . exact hk.elim
theorem aV0 (ab:bE P τ) (hz: ∀t i,τ t=some i->cP i.zero) (a6:aC P base ψ S w st a) {args:Array Operand} {ts:Array TypeId} (ae:o.op= .call {callee:= .builtin .clear,args,argTypes:=ts})
 (hk:aKz τ st o.dst ts.toList (bY (fun x=>gK (ev st x)) args.toList) K):aK P base ψ S w a o K:=by
 unfold aKz at hk;split at hk
 . rename_i t k zz o1 len gj h n m hts has
   have av:=sN a6 has
   have hts:ts= #[t]:=y9
   subst hts;obtain ⟨v1,mc,hs⟩: ∃v1,args.map a.eval= #[v1]/\ bB P ψ S w (.c (.osl k zz o1 len)) v1:=by
    generalize hl:args.toList.map a.eval=l at av
    match l,av with
    | [v1],av=>exact ⟨v1,by apply Array.ext';simpa using hl,av.1⟩
   split at hk
   . rename_i e yk yn z1 sz ln f ht aw
     split at hk
     . rename_i de cd bt zv bw
       have ao:=fU ab ht w
       have hzero:=sJ ab bw w
       simp only at ao hzero
       split at hk
       . rename_i au ie hb3
         have au:=Nat.eq_of_beq_eq_true au
         have ie:=Nat.eq_of_beq_eq_true ie
         have hb3:=Nat.eq_of_beq_eq_true hb3
         subst au;subst ie
         obtain ⟨ds,qg,hle,hk⟩:=qP a6.sim hk (sH (hz _ _ bw))
         have hk:=hk hle
         have en:zv.cells.size=sz:=by rw [aER (hz _ _ bw)];exact hb3
         have ob:ds.length=sz:=j0y
         have bd: ∀w2,(Builtin.clear_ #[t] o.type #[v1]).run P w= .ok (.tuple #[]) w2->(execOp a.eval o).run P w= .ok (.value (.tuple #[])) w2:=by
          intro w2 hr;rw [nV ae,mc];simp only [builtin,Sem.run_bind,hr,Result.andThen_ok,Sem.run_pure]
         have Bb: ∀ψ w,dL P ψ S w (.tup []) (.tuple #[]):=fun ψ w=>⟨#[],rfl,trivial⟩
         -- where nothing is to be done
         have idle:(Builtin.clear_ #[t] o.type #[v1]).run P w= .ok (.tuple #[]) w->len*sz=0->aK P base ψ S w a o K:=by
          intro hr jw;have fl:aC P base ψ S w ⟨gj,(k,.row sz ln (oF f o1 len ds))::h,n,m⟩ a:=by
           have b8: ∀l,fE P ψ S w (.row sz ln f) l->fE P ψ S w (.row sz ln (oF f o1 len ds)) l:=by
            intro l hl;cases l with
            |virt=>exact hl
            | «at» b mm=>
              obtain ⟨arr,e3,g1,g2,g3,g4,g5⟩:=hl
              refine ⟨arr,e3,g1,g2,g3,fun i hi=> ?_,fun i j hi hj=> ?_⟩
              . unfold oF;split
                . exact ob
                . exact g4 i hi
              . unfold oF;split
                . rename_i hc
                  have:0<len:=j3
                  have:0<len*sz:=Nat.mul_pos this j3
                  omega
                . exact g5 i j hi hj
           refine ⟨a6.bas,⟨a6.sim.dom,fun j l hj=> ?_,?_,?_,a6.sim.pdom,a6.sim.sdom⟩,a6.lim,a6.defers,a6.tmps⟩
           . rw [cY];by_cases ej:k=j
             . rw [if_pos ej];subst ej;refine b8 l ?_;have:=a6.sim.blk k l hj;simp only [aw] at this;exact this
             . rw [if_neg ej];exact a6.sim.blk j l hj
           . intro j j' b m1 m2 h1 h2 l1 l2
             have qk: ∀j,(aF ((k,aB.row sz ln (oF f o1 len ds))::h) j).live->(aF h j).live:=by
              intro j hl;rw [cY] at hl;by_cases ej:k=j
              . subst ej;rw [aw];trivial
              . rwa [if_neg ej] at hl
             exact a6.sim.inj j j' b m1 m2 h1 h2 (qk j l1) (qk j' l2)
           . intro j b m1 h1 l1;refine a6.sim.dis j b m1 h1 ?_
             rw [cY] at l1;by_cases ej:k=j
             . subst ej;simp only [aw];trivial
             . rwa [if_neg ej] at l1
          exact aK.value (bd _ hr) fl (Bb _ _) hk (aI.refl _ _ _ _)
         rcases hs with ⟨h1,rfl,a0,bj⟩|⟨b,mm,c,off,h1,bj,h2,h3⟩
         . refine idle ?_ j8
           rw [bj];cases a0<;>simp [Builtin.clear_,ao]
         . by_cases jw:len=0
           . subst jw;refine idle ?_ j8
             rw [bj];simp [Builtin.clear_,ao]
           . obtain ⟨ig,rf⟩:=h3 j3
             have mh:=a6.sim.blk k _ h1
             simp only [aw] at mh;obtain ⟨arr,e3,g1,g2,g3,g4,g5⟩:=mh
             have jy:(o1+len)*sz<=ln*sz:=Nat.mul_le_mul_right _ hle
             have hmul:(o1+len)*sz=o1*sz+len*sz:=Nat.add_mul _ _ _
             have sj: ∀v∈(Builtin.zeroCells zv.cells len).toList,mC v:=by
              have l4:=aH4 (sH (P:=P) (ψ:=ψ) (S:=S) (w:=w) (hz _ _ bw))
              intro v hv;obtain ⟨j,hj,ej⟩:=List.mem_iff_getElem.1 hv
              have jv:j<len*zv.cells.size:=by simpa [size_zeroCells] using hj
              rcases Nat.eq_zero_or_pos zv.cells.size with jx|jx
              . rw [jx] at jv;omega
              have hg:=aEG jx jv
              rw [<-Array.getElem?_toList,List.getElem?_eq_getElem hj,ej] at hg;refine l4 v ?_
              rw [<-Array.getElem?_toList] at hg;exact List.mem_of_getElem? hg.symm
             obtain ⟨w2,od,p1,p2,p3,p4,p5,p6,p7,p8,p9⟩:=yK (P:=P) (off:=off) (Builtin.zeroCells zv.cells len).toList 0 w arr g1 (by
              right;rw [Array.length_toList,size_zeroCells,en];omega) sj
             have AD:(Builtin.clear_ #[t] o.type #[v1]).run P w= .ok (.tuple #[]) w2:=by
              rw [bj];obtain ⟨q,rfl⟩: ∃q,len=q+1:=⟨len-1,by omega⟩
              simp [Builtin.clear_,ao,hzero,p1]
             obtain ⟨r1,r2⟩:=a6.write (w':=w2) (blk:= .row sz ln (oF f o1 len ds)) h1 w8 p5 p6 p7 p8 p9 (fun hl=>by
              refine ⟨od,e3,p2,by omega,by omega,fun i hi=> ?_,fun i j hi hj=> ?_⟩
              . unfold oF;split
                . exact ob
                . exact g4 i hi
              . have hb:=nW (sz:=sz) hi
                rw [Array.getD_eq_getD_getElem?,p4,Array.length_toList,size_zeroCells,en,Nat.add_zero];unfold oF;by_cases hc:o1<=i/\ i<o1+len
                . rw [if_pos hc];have e1:=nW (sz:=sz) (show i-o1<len by omega)
                  have e2:i*sz=o1*sz+(i-o1)*sz:=by rw [<-Nat.add_mul];congr 1;omega
                  rw [if_pos j3];have e4:i*sz+j-off=(i-o1)*sz+j:=j3
                  rw [e4,Array.getElem?_toList,aEG j3 (by rw [en];omega),en];have e5:((i-o1)*sz+j)%sz=j:=x2
                  rw [e5];obtain ⟨y,y1,y2⟩:=qg.get j (ds[j]'j3) j8
                  have e6:ds.getD j (.v (.bool false))=ds[j]'j3:=y6
                  rw [Array.getElem?_toList] at y1;rw [e6,y1];exact y2.later hl
                . rw [if_neg hc];have ag: ¬(off<=i*sz+j/\ i*sz+j<off+len*sz):=by
                   intro ee;rcases Nat.lt_or_ge i o1 with hlt|oc
                   . have:=nW (sz:=sz) hlt;omega
                   . have:o1+len<=i:=by omega
                     have:=Nat.mul_le_mul_right sz this
                     omega
                  rw [if_neg ag, <-Array.getD_eq_getD_getElem?];exact (g5 i j hi hj).later hl)
             exact aK.value (bd _ AD) r1 (Bb _ _) hk r2
       . exact hk.elim
     . exact hk.elim
   . exact hk.elim
 . exact hk.elim
end
end Go.Sx
