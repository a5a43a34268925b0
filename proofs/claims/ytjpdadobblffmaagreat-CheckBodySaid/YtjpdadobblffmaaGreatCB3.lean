import Derived.Test.YtjpdadobblffmaaGreatCB2
import Derived.Test.YtjpdadobblffmaaGreatCB1
import Derived.ChangeOld
import Derived.WalkKit
import Derived.ProofKit
import Derived.OpenShut
import Derived.Lib.AppendStr
import Derived.Lib.ConvBytes
set_option linter.unusedSimpArgs false
set_option linter.unusedVariables false
set_option maxRecDepth 100000
set_option maxHeartbeats 4000000
namespace Go.Proofs.YtjpdadobblffmaaGreat
open Go.RowKit Go.ChangeShapes Go.WideShapes Go.ChangeAt Go.Deep
attribute [local irreducible] SW RS RD gJ fA
structure Ins where
 op:Int
 a:Int
 b:Int
 l:List Int
def iv (k:Rk) (x:Ins):List AV:=[.int .i64 x.op,.int .i64 x.a,.int .i64 x.b,.ro 1 (x.l.map aX) k]
def Ins.Ok (x:Ins):Prop:=-9223372036854775808≤x.op∧x.op≤9223372036854775807∧ -9223372036854775808≤x.a∧x.a≤9223372036854775807∧x.l.length≤9223372036854775807
theorem dR(n a b:Int):SCall Tryz.prog 218 [.int .i64 n,.int .i64 a,.int .i64 b] [] (fun x σ=>x=.bool (oB n a b)∧σ=[]):=by
 refine cC 15 [0,1,2,6] Tryz.func218 ?_;refine mA ?_;refine CK ?_;refine z4 ?_;refine z4 ?_;refine z54 ?_;refine z7 ?_;refine dG ?_;apply aF;exact aG
 ·exact⟨rfl,rfl⟩
 ·exact aA
theorem iN(n:Int):SCall Tryz.prog 219 [.int .i64 n] [] (fun x σ=>x=.bool (oB n 0 1000)∧σ=[]):=by
 refine cC 5 [0,2] Tryz.func219 ?_;refine fV ?_
 (first|refine ln rfl rfl rfl rfl ?_ |refine lw rfl rfl (bI (v:=.bool false)) rfl ?_ |refine pu [] Tryz.call218 (dR _ _ _) rfl cD bK ?_ |refine xJ [] rfl rfl Tryz.call218 (fun _=>(dR _ _ _)) rfl cD bK ?_ |refine puw [] rfl rfl Tryz.call218 (fun _=>(dR _ _ _)) rfl cD bK ?_);refine dG ?_;apply aF;exact aG
 ·exact⟨rfl,rfl⟩
 ·exact aA
theorem nU:XT Tryz.prog 220 [] [] (fun n=> !oB n 0 1000):=by
 refine⟨Tryz.call220,fun n=> ?_⟩;refine cC 6 [0,2] Tryz.func220 ?_;refine fV ?_
 (first|refine ln rfl rfl rfl rfl ?_ |refine lw rfl rfl (bI (v:=.bool false)) rfl ?_ |refine pu [] Tryz.call219 (iN _) rfl cD bK ?_ |refine xJ [] rfl rfl Tryz.call219 (fun _=>(iN _)) rfl cD bK ?_ |refine puw [] rfl rfl Tryz.call219 (fun _=>(iN _)) rfl cD bK ?_);refine lo (eI (E rfl)) rfl ?_;refine dG ?_;apply aF;exact aG
 ·exact⟨rfl,rfl⟩
 ·exact aA
theorem iO(op:Int):SCall Tryz.prog 217 [.int .i64 op] [] (fun x σ=>x=.int .i64 (aZ op)∧σ=[]):=by
 have:=PN op
 rwa [aG7]at this
theorem oM(op:Int)(h:-9223372036854775808≤op∧op≤9223372036854775807):SCall Tryz.prog 250 [.int .i64 op] [] (fun x σ=>x=.int .i64 (aZ op)∧σ=[]):=by
 have:=XR op
 rwa [aEA op h]at this
def jG (x:Ins) (f:Int):Bool:=if(if(f !=4)=true then decide (0<(x.l.length:Int))else false)=true then true else if(f !=6)=true then(x.b !=0)else false
def dC (x:Ins):Bool:=
 if jG x (aZ x.op)=true then false
 else if(aZ x.op==1||aZ x.op==7)=true then(x.a==0)
 else if(aZ x.op==2)=true then oB x.a 0 2
 else if(aZ x.op==3||aZ x.op==5)=true then oB x.a 0 1000
 else if(aZ x.op==4)=true then(if(if oB x.a 0 1000=true then decide ((x.l.length:Int)≤50)else false)=true then !(x.l.any fun n=> !oB n 0 1000)else false)
 else if(aZ x.op==6)=true then(if oB x.a 0 3=true then oB x.b 0 4294967295 else false)
 else if(aZ x.op==8)=true then oB x.a (-2147483648) 2147483647
 else(aZ x.op==9)
theorem rV(a b:Int):(if(if(if decide (0≤a)=true then decide (a≤3)else false)=true then decide (0≤b)else false)=true then decide (b<4294967296)else false)=
  (if(if decide (0≤a)=true then decide (a≤3)else false)=true then(if decide (0≤b)=true then decide (b≤4294967295)else false)else false):=by
 rw[show decide (b≤4294967295)=decide (b<4294967296) by rw[decide_eq_decide];omega];generalize(if decide (0≤a)=true then decide (a≤3)else false)=b1;cases b1<;>simp
theorem rW(a:Int):(if decide (-2147483648≤a)=true then decide (a<2147483648)else false)=(if decide (-2147483648≤a)=true then decide (a≤2147483647)else false):=by
 rw[show decide (a≤2147483647)=decide (a<2147483648) by rw[decide_eq_decide];omega]
theorem UH(k:Rk)(x:Ins):SCall Tryz.prog 111 [.agg (iv k x)] [] (fun r σ=>r=.bool (dC x)∧σ=[]):=by
 refine cC 76 [0,1,2,3,23,24,25,31,36,42,59,69,74] Tryz.func111 ?_;unfold iv;refine dW ?_;apply bx;rfl;rfl;(exact dM);rfl;refine aD fun r1 h1=> ?_;repeat rcases h1 with⟨_,h1⟩
 refine jF ?_
 (first|refine ln rfl rfl rfl rfl ?_ |refine lw rfl rfl (bI (v:=.bool false)) rfl ?_ |refine pu [] Tryz.call217 (iO _) rfl cD bK ?_ |refine xJ [] rfl rfl Tryz.call217 (fun _=>(iO _)) rfl cD bK ?_ |refine puw [] rfl rfl Tryz.call217 (fun _=>(iO _)) rfl cD bK ?_);refine iE ?_;refine lo (fE (E rfl) (E rfl)) rfl ?_;refine sP ?_;refine z63 ?_;refine z18 ?_;refine z7 ?_;refine vX ?_;refine z64 ?_;refine z8 ?_;refine z65 ?_;refine z66 ?_;refine z11 ?_;refine z12 ?_;refine z13 ?_;refine jP ?_;refine aB rfl (fun g1=> ?_) (fun g1=> ?_)
 ·refine bQ ?_;apply aF;exact aG
  ·(unfold dC jG;simp only[g1,if_true,if_false,Bool.false_eq_true];exact⟨rfl,rfl⟩)
  ·exact aA
 refine dX ?_;refine pB ?_;apply fF rfl;exact cU
 ·intro _;(refine aP ?_);refine eV ?_;exact aK
 refine aP ?_;refine aB rfl (fun g2=> ?_) (fun g2=> ?_)
 ·refine fS ?_;refine MG ?_;apply aF;exact aG
  ·(unfold dC jG;simp only[g1,g2,if_true,if_false,Bool.false_eq_true];exact⟨rfl,rfl⟩)
  ·exact aA
 refine dE ?_;refine aB rfl (fun g3=> ?_) (fun g3=> ?_)
 ·refine fS ?_
  (first|refine ln rfl rfl rfl rfl ?_ |refine lw rfl rfl (bI (v:=.bool false)) rfl ?_ |refine pu [] Tryz.call218 (dR _ _ _) rfl cD bK ?_ |refine xJ [] rfl rfl Tryz.call218 (fun _=>(dR _ _ _)) rfl cD bK ?_ |refine puw [] rfl rfl Tryz.call218 (fun _=>(dR _ _ _)) rfl cD bK ?_);refine dG ?_;apply aF;exact aG
  ·(unfold dC jG;simp only[g1,g2,g3,if_true,if_false,Bool.false_eq_true];exact⟨rfl,rfl⟩)
  ·exact aA
 refine dE ?_;apply fF rfl;exact cU
 ·intro _;(refine aP ?_);refine eV ?_;exact aK
 refine aP ?_;refine aB rfl (fun g4=> ?_) (fun g4=> ?_)
 ·refine fS ?_
  (first|refine ln rfl rfl rfl rfl ?_ |refine lw rfl rfl (bI (v:=.bool false)) rfl ?_ |refine pu [] Tryz.call219 (iN _) rfl cD bK ?_ |refine xJ [] rfl rfl Tryz.call219 (fun _=>(iN _)) rfl cD bK ?_ |refine puw [] rfl rfl Tryz.call219 (fun _=>(iN _)) rfl cD bK ?_);refine dG ?_;apply aF;exact aG
  ·(unfold dC jG;simp only[g1,g2,g3,g4,if_true,if_false,Bool.false_eq_true];exact⟨rfl,rfl⟩)
  ·exact aA
 refine dE ?_;refine aB rfl (fun g5=> ?_) (fun g5=> ?_)
 ·refine fS ?_
  (first|refine ln rfl rfl rfl rfl ?_ |refine lw rfl rfl (bI (v:=.bool false)) rfl ?_ |refine pu [] Tryz.call219 (iN _) rfl cD bK ?_ |refine xJ [] rfl rfl Tryz.call219 (fun _=>(iN _)) rfl cD bK ?_ |refine puw [] rfl rfl Tryz.call219 (fun _=>(iN _)) rfl cD bK ?_);refine sP ?_;refine z63 ?_;refine z55 ?_;refine z7 ?_;refine sP ?_
  (first|refine ln rfl rfl rfl rfl ?_ |refine lw rfl rfl (bI (v:=.bool false)) rfl ?_ |refine pu [] Tryz.call89 (mT nU x.l) rfl cD bK ?_ |refine xJ [] rfl rfl Tryz.call89 (fun _=>(mT nU x.l)) rfl cD bK ?_ |refine puw [] rfl rfl Tryz.call89 (fun _=>(mT nU x.l)) rfl cD bK ?_);refine z67 ?_;refine z7 ?_;refine dG ?_;apply aF;exact aG
  ·(unfold dC jG;simp only[g1,g2,g3,g4,g5,if_true,if_false,Bool.false_eq_true];exact⟨rfl,rfl⟩)
  ·exact aA
 refine dE ?_;refine aB rfl (fun g6=> ?_) (fun g6=> ?_)
 ·refine fS ?_
  (first|refine ln rfl rfl rfl rfl ?_ |refine lw rfl rfl (bI (v:=.bool false)) rfl ?_ |refine pu [] Tryz.call218 (dR _ _ _) rfl cD bK ?_ |refine xJ [] rfl rfl Tryz.call218 (fun _=>(dR _ _ _)) rfl cD bK ?_ |refine puw [] rfl rfl Tryz.call218 (fun _=>(dR _ _ _)) rfl cD bK ?_);refine sP ?_
  (first|refine ln rfl rfl rfl rfl ?_ |refine lw rfl rfl (bI (v:=.bool false)) rfl ?_ |refine pu [] Tryz.call218 (dR _ _ _) rfl cD bK ?_ |refine xJ [] rfl rfl Tryz.call218 (fun _=>(dR _ _ _)) rfl cD bK ?_ |refine puw [] rfl rfl Tryz.call218 (fun _=>(dR _ _ _)) rfl cD bK ?_);refine kD ?_;apply aF;exact aG
  ·(unfold dC jG;simp only[g1,g2,g3,g4,g5,g6,if_true,if_false,Bool.false_eq_true];exact⟨rfl,rfl⟩)
  ·exact aA
 refine dE ?_;refine aB rfl (fun g7=> ?_) (fun g7=> ?_)
 ·refine fS ?_
  (first|refine ln rfl rfl rfl rfl ?_ |refine lw rfl rfl (bI (v:=.bool false)) rfl ?_ |refine pu [] Tryz.call218 (dR _ _ _) rfl cD bK ?_ |refine xJ [] rfl rfl Tryz.call218 (fun _=>(dR _ _ _)) rfl cD bK ?_ |refine puw [] rfl rfl Tryz.call218 (fun _=>(dR _ _ _)) rfl cD bK ?_);refine dG ?_;apply aF;exact aG
  ·(unfold dC jG;simp only[g1,g2,g3,g4,g5,g6,g7,if_true,if_false,Bool.false_eq_true];exact⟨rfl,rfl⟩)
  ·exact aA
 refine dE ?_;refine aB rfl (fun g8=> ?_) (fun g8=> ?_)
 ·refine bQ ?_;apply aF;exact aG
  ·(unfold dC jG;simp only[g1,g2,g3,g4,g5,g6,g7,g8,if_true,if_false,Bool.false_eq_true];exact⟨rfl,rfl⟩)
  ·exact aA
 refine bQ ?_;apply aF;exact aG
 ·(unfold dC jG;simp only[g1,g2,g3,g4,g5,g6,g7,g8,if_true,if_false,Bool.false_eq_true];exact⟨rfl,rfl⟩)
 ·exact aA
theorem IZ(k:Rk)(x:Ins)(hx:x.Ok):SCall Tryz.prog 156 [.agg (iv k x)] [] (fun r σ=>r=.bool (dC x)∧σ=[]):=by
 have hop:-9223372036854775808≤x.op∧x.op≤9223372036854775807:=⟨hx.1,hx.2.1⟩
 have hl:=hx.2.2.2.2;refine cC 122 [0,1,2,3,4,24,25,26,32,42,53,59,75,90,110] Tryz.func156 ?_;unfold iv;refine dW ?_;apply bx;rfl;rfl;(exact dM);rfl;refine aD fun r1 h1=> ?_;repeat rcases h1 with⟨_,h1⟩
 refine jF ?_
 (first|refine ln rfl rfl rfl rfl ?_ |refine lw rfl rfl (bI (v:=.bool false)) rfl ?_ |refine pu [] Tryz.call250 (oM _ (by assumption)) rfl cD bK ?_ |refine xJ [] rfl rfl Tryz.call250 (fun _=>(oM _ (by assumption))) rfl cD bK ?_ |refine puw [] rfl rfl Tryz.call250 (fun _=>(oM _ (by assumption))) rfl cD bK ?_);refine iE ?_;refine lo (fE (E rfl) (E rfl)) rfl ?_;refine sP ?_;refine z63 ?_;refine z18 ?_;refine z7 ?_;refine vX ?_;refine z64 ?_;refine z8 ?_;refine z65 ?_;refine z66 ?_;refine z11 ?_;refine z12 ?_;refine z13 ?_;refine jP ?_;refine aB rfl (fun g1=> ?_) (fun g1=> ?_)
 ·refine bQ ?_;apply aF;exact aG
  ·(unfold dC jG oB;simp only[g1,if_true,if_false,Bool.false_eq_true];first|exact⟨rfl,rfl⟩|exact⟨congrArg AV.bool (rV x.a x.b),rfl⟩|exact⟨congrArg AV.bool (rW x.a),rfl⟩)
  ·exact aA
 refine dX ?_;refine pB ?_;apply fF rfl;exact cU
 ·intro _;(refine aP ?_);refine eV ?_;exact aK
 refine aP ?_;refine aB rfl (fun g2=> ?_) (fun g2=> ?_)
 ·refine fS ?_;refine MG ?_;apply aF;exact aG
  ·(unfold dC jG oB;simp only[g1,g2,if_true,if_false,Bool.false_eq_true];first|exact⟨rfl,rfl⟩|exact⟨congrArg AV.bool (rV x.a x.b),rfl⟩|exact⟨congrArg AV.bool (rW x.a),rfl⟩)
  ·exact aA
 refine dE ?_;refine aB rfl (fun g3=> ?_) (fun g3=> ?_)
 ·refine fS ?_;refine CK ?_;refine z61 ?_;refine z62 ?_;refine z55 ?_;refine z7 ?_;refine dG ?_;apply aF;exact aG
  ·(unfold dC jG oB;simp only[g1,g2,g3,if_true,if_false,Bool.false_eq_true];first|exact⟨rfl,rfl⟩|exact⟨congrArg AV.bool (rV x.a x.b),rfl⟩|exact⟨congrArg AV.bool (rW x.a),rfl⟩)
  ·exact aA
 refine dE ?_;apply fF rfl;exact cU
 ·intro _;(refine aP ?_);refine eV ?_;exact aK
 refine aP ?_;refine aB rfl (fun g4=> ?_) (fun g4=> ?_)
 ·refine fS ?_;refine CK ?_;refine z61 ?_;refine z62 ?_;refine z55 ?_;refine z7 ?_;refine dG ?_;apply aF;exact aG
  ·(unfold dC jG oB;simp only[g1,g2,g3,g4,if_true,if_false,Bool.false_eq_true];first|exact⟨rfl,rfl⟩|exact⟨congrArg AV.bool (rV x.a x.b),rfl⟩|exact⟨congrArg AV.bool (rW x.a),rfl⟩)
  ·exact aA
 refine dE ?_;refine aB rfl (fun g5=> ?_) (fun g5=> ?_)
 ·refine bQ ?_;refine lp (β:=Nat) (fun j=>⟨[(1,.ptr r1 0),(4,.int .i64 j)],[(r1,.box 46 [.int .i64 x.op,.int .i64 x.a,.int .i64 x.b,.ro 1 (x.l.map aX) k])]⟩) (fun j=>j≤x.l.length∧(x.l.take j).any (fun n=> !oB n 0 1000)=false) (fun j=>x.l.length-j) 0 (by(exact aK)) ⟨Nat.zero_le _,rfl⟩ ?_;rintro j ⟨hj,ht⟩;refine mC ?_;refine aB rfl (fun h1=> ?_) (fun h1=> ?_)
  ·have hlt:j<x.l.length:=by simp at h1;omega
   refine fS ?_;refine nJ ?_;refine lo (gT (E rfl) (E rfl)) rfl ?_;refine sP ?_;refine z4 ?_;refine z71 ?_;refine z72 ?_;refine z18 ?_;refine z13 ?_;refine jP ?_;rw[Int.toNat_natCast];have hb:(if decide (x.l[j]! <0)=true then true else decide (1000<x.l[j]!))= !oB x.l[j]! 0 1000:=by
    rw[jW];generalize x.l[j]! =y;by_cases h3:y<0
    ·rw[decide_eq_true h3,if_pos rfl,decide_eq_false (by omega)];rfl
    ·by_cases h4:1000<y
     ·rw[decide_eq_false h3,decide_eq_true h4,decide_eq_false (by omega)];rfl
     ·rw[decide_eq_false h3,decide_eq_false h4,decide_eq_true (by omega)];rfl
   rw[hb];refine aB rfl (fun h2=> ?_) (fun h2=> ?_)
   ·have ha:(x.l.any fun n=> !oB n 0 1000)=true:=List.any_eq_true.2 ⟨x.l[j]!,by rw[getElem!_pos x.l j hlt];exact List.getElem_mem hlt,h2⟩;refine bQ ?_;apply aF;exact aG
    ·unfold dC jG;simp only[g1,g2,g3,g4,g5,ha,if_true,if_false,Bool.false_eq_true];exact⟨by simp[iH,cW],rfl⟩
    ·exact aA
   ·refine oX ?_;refine⟨j+1,⟨by omega, ?_⟩,by omega, ?_⟩
    ·rw[List.take_add_one,List.any_append,ht,List.getElem?_eq_getElem hlt];rw[getElem!_pos x.l j hlt]at h2;simp only[Bool.false_or,Option.toList_some,List.any_cons,List.any_nil,Bool.or_false];exact h2
    ·exact aK
  ·obtain rfl:j=x.l.length:=by simp at h1;omega
   rw[List.take_length]at ht;refine fS ?_;refine CK ?_;refine z61 ?_;refine z62 ?_;refine z55 ?_;refine z7 ?_;refine sP ?_;refine z63 ?_;refine z55 ?_;refine z7 ?_;refine dG ?_;apply aF;exact aG
   ·unfold dC jG;simp only[g1,g2,g3,g4,g5,ht,if_true,if_false,Bool.false_eq_true];refine⟨?_,rfl⟩;unfold oB;show AV.bool _=AV.bool _
    congr 1
    generalize(if decide (0≤x.a)=true then decide (x.a≤1000)else false)=b1;cases b1<;>simp
   ·exact aA
 refine dE ?_;refine aB rfl (fun g6=> ?_) (fun g6=> ?_)
 ·refine fS ?_;refine CK ?_;refine z61 ?_;refine z62 ?_;refine z55 ?_;refine z7 ?_;refine sP ?_;refine z34 ?_;refine z7 ?_;refine sP ?_;refine z69 ?_;refine z7 ?_;refine dG ?_;apply aF;exact aG
  ·(unfold dC jG oB;simp only[g1,g2,g3,g4,g5,g6,if_true,if_false,Bool.false_eq_true];first|exact⟨rfl,rfl⟩|exact⟨congrArg AV.bool (rV x.a x.b),rfl⟩|exact⟨congrArg AV.bool (rW x.a),rfl⟩)
  ·exact aA
 refine dE ?_;refine aB rfl (fun g7=> ?_) (fun g7=> ?_)
 ·refine fS ?_;refine CK ?_;refine z61 ?_;refine z62 ?_;refine z69 ?_;refine z7 ?_;refine dG ?_;apply aF;exact aG
  ·(unfold dC jG oB;simp only[g1,g2,g3,g4,g5,g6,g7,if_true,if_false,Bool.false_eq_true];first|exact⟨rfl,rfl⟩|exact⟨congrArg AV.bool (rV x.a x.b),rfl⟩|exact⟨congrArg AV.bool (rW x.a),rfl⟩)
  ·exact aA
 refine dX ?_;refine MG ?_;apply aF;exact aG
 ·(unfold dC jG oB;simp only[g1,g2,g3,g4,g5,g6,g7,if_true,if_false,Bool.false_eq_true];first|exact⟨rfl,rfl⟩|exact⟨congrArg AV.bool (rV x.a x.b),rfl⟩|exact⟨congrArg AV.bool (rW x.a),rfl⟩)
 ·exact aA
def eqN (x y:Ins):Bool:=decide (x.op=y.op∧x.a=y.a∧x.b=y.b∧x.l=y.l)
theorem aBx(x y:Ins):(if(if(if(x.op==y.op)=true then x.a==y.a else false)=true then x.b==y.b else false)=true then decide (x.l=y.l)else false)=eqN x y:=by
 unfold eqN;by_cases h1:x.op=y.op<;>by_cases h2:x.a=y.a<;>by_cases h3:x.b=y.b<;>simp[h1,h2,h3]
theorem XU(k k2:Rk)(x y:Ins):SCall Tryz.prog 122 [.agg (iv k x),.agg (iv k2 y)] [] (fun r σ=>r=.bool (eqN x y)∧σ=[]):=by
 refine cC 31 [0,1,2,3,4] Tryz.func122 ?_;unfold iv;refine dW ?_;apply bx;rfl;rfl;(exact dM);rfl;refine aD fun r2 h2=> ?_;repeat rcases h2 with⟨_,h2⟩
 apply bx;rfl;rfl;(exact dM);rfl;refine aD fun r3 h3=> ?_;repeat rcases h3 with⟨_,h3⟩
 refine jF ?_;refine gF ?_;refine lo (dD (E rfl) (E rfl)) rfl ?_;refine sP ?_;refine z61 ?_;refine z62 ?_;refine z70 ?_;refine z7 ?_;refine sP ?_;refine z61 ?_;refine z62 ?_;refine z70 ?_;refine z7 ?_;refine sP ?_;refine z61 ?_;refine z62 ?_
 (first|refine ln rfl rfl rfl rfl ?_ |refine lw rfl rfl (bI (v:=.bool false)) rfl ?_ |refine pu [] Tryz.call116 (hX x.l y.l) rfl cD bK ?_ |refine xJ [] rfl rfl Tryz.call116 (fun _=>(hX x.l y.l)) rfl cD bK ?_ |refine puw [] rfl rfl Tryz.call116 (fun _=>(hX x.l y.l)) rfl cD bK ?_);refine kD ?_;apply aF;exact aG
 ·exact⟨congrArg AV.bool (aBx x y),rfl⟩
 ·exact aA
theorem MT{x:Ins}(h:aZ x.op=0):dC x=false:=by
 unfold dC;split
 ·rfl
 ·simp[h]
theorem aBy{op:Int}(h:aZ op≠0):0≤op∧op≤173:=by
 unfold aZ iX MQ at h;simp only[Bool.or_eq_true,beq_iff_eq,decide_eq_true_eq]at h;by_cases hc:0≤op∧op≤173
 ·exact hc
 ·exfalso;repeat rw[if_neg (by omega)]at h
  exact h rfl
theorem JA{x:Ins}(h:dC x=true):0≤x.op∧x.op≤173:=by
 refine aBy fun h0=> ?_
 rw[MT h0]at h;cases h
theorem aEC{x:Ins}(h:dC x=true)(hf:(aZ x.op==2)=true):0≤x.a∧x.a≤2:=by
 rw[beq_iff_eq]at hf;simp[dC,hf,jW]at h;omega
theorem aBz{x:Ins}(h:dC x=true)(hf:(aZ x.op==3)=true):0≤x.a∧x.a≤1000:=by
 rw[beq_iff_eq]at hf;simp[dC,hf,jW]at h;omega
theorem aBA{x:Ins}(h:dC x=true)(hf:(aZ x.op==5)=true):0≤x.a∧x.a≤1000:=by
 rw[beq_iff_eq]at hf;simp[dC,hf,jW]at h;omega
theorem aBB{x:Ins}(h:dC x=true)(hf:(aZ x.op==4)=true):(0≤x.a∧x.a≤1000)∧x.l.length≤50∧∀n∈x.l,0≤n∧n≤1000:=by
 rw[beq_iff_eq]at hf;simp[dC,hf,jW]at h;obtain⟨h1,⟨h2,h3⟩,h4⟩:=h;exact⟨h2,by omega,h4⟩
theorem aBC{x:Ins}(h:dC x=true)(hf:(aZ x.op==6)=true):0≤x.a∧x.a≤3∧0≤x.b∧x.b≤4294967295:=by
 rw[beq_iff_eq]at hf;simp[dC,hf,jW]at h;omega
def uD (a:Int):Nat:=if a=0 then 64 else if a=1 then 127 else 126
def fX (x:Ins):List Nat:=
 if(aZ x.op==2)=true then [uD x.a]else if(aZ x.op==3)=true then uB x.a.toNat else if(aZ x.op==5)=true then uB x.a.toNat++ [0]
 else if(aZ x.op==4)=true then uB x.l.length++(x.l.flatMap fun n=>uB n.toNat)++uB x.a.toNat else if(aZ x.op==6)=true then uB x.a.toNat++uB x.b.toNat
 else if(aZ x.op==7)=true then [0]else if(aZ x.op==8||aZ x.op==9)=true then sB x.a else []
def gP (x:Ins):List Nat:=x.op.toNat::fX x
theorem rF:∀ {l:List Int},(∀n∈l,0≤n∧n≤1000)→(l.flatMap fun n=>uB n.toNat).length≤2*l.length
 |[],_=>by simp
 |n::l,h=>by
  have ih:=rF (l:=l) fun m hm=>h m (List.mem_cons_of_mem _ hm)
  have hn:=h n List.mem_cons_self;have h1:=bN 1 n.toNat (by omega);simp only[List.flatMap_cons,List.length_append,List.length_cons];omega
theorem aBD{a:Int}(h:0≤a∧a≤2):([.int .u8 64,.int .u8 127,.int .u8 126]:List AV)[a.toNat]? =some (.int .u8 (uD a:Nat)):=by
 have:a=0∨a=1∨a=2:=by omega
 rcases this with rfl|rfl|rfl<;>rfl
theorem zK(q:Nat)(vs:List Nat)(hvs:vs.length≤50000000)(k:Rk)(x:Ins)(hx:x.Ok)(hm:dC x=true):SCall Tryz.prog 242 [.own q 0 vs.length,.agg (iv k x)] [(q,.arr 5 1 (vs.map aH))]
  (fun y σ=>∃r,y=.own r 0 (vs++gP x).length∧σ=[(r,.arr 5 1 ((vs++gP x).map aH))]):=by
 have f1:=JA hm;have f2:=aEC hm;have f3:=aBz hm;have f4:=aBB hm;have f5:=aBA hm;have f6:=aBC hm;have f8:-9223372036854775808≤x.a∧x.a≤9223372036854775807:=⟨hx.2.2.1,hx.2.2.2.1⟩
 obtain⟨op,ai,bi,l⟩:=x;dsimp only at f1 f2 f3 f4 f5 f6 f8;obtain⟨op,rfl⟩:=Int.eq_ofNat_of_zero_le f1.1;have hvo:vs++gP ⟨(op:Int),ai,bi,l⟩=(vs++ [op])++fX ⟨(op:Int),ai,bi,l⟩:=by simp[gP]
 rw[hvo];obtain⟨us,hus⟩:∃us,us=vs++ [op]:=⟨_,rfl⟩
 have hul:us.length≤50000001:=by rw[hus];simp;omega
 refine cC 90 [0,1,3,4,6,15,16,25,32,41,50,51,52,53,66,77,82] Tryz.func242 ?_;unfold iv;dsimp only;refine dW ?_;apply bx;rfl;rfl;(exact dM);rfl;refine aD fun r3 h3=> ?_;repeat rcases h3 with⟨_,h3⟩
 refine iE ?_;refine gF ?_;refine z0 ?_;refine z1 ?_;refine aD fun r11 h11=> ?_;repeat rcases h11 with⟨_,h11⟩
 apply ap (es':=(vs++ [op]).map aH) (len':=(vs++ [op]).length);rfl;rfl;(exact bH)
 ·simp
 ·exact .inr (.inr ⟨_,_,_,_,_,rfl,bH,by simp,rfl⟩)
 ·first|(simp[aH];done)|(simp only[List.drop_zero,List.map_append];congr 1;exact List.take_of_length_le (by simp))
 ·simp;try omega
 ·simp[maxLen];try omega
 ·simp;try omega
 ·rfl
 refine bM fun r12 h12=> ?_;repeat rcases h12 with⟨_,h12⟩
 refine dG ?_;rw[←hus];refine kZ ?_
 (first|refine ln rfl rfl rfl rfl ?_ |refine lw rfl rfl (bI (v:=.bool false)) rfl ?_ |refine pu [] Tryz.call217 (iO _) rfl cD bK ?_ |refine xJ [] rfl rfl Tryz.call217 (fun _=>(iO _)) rfl cD bK ?_ |refine puw [] rfl rfl Tryz.call217 (fun _=>(iO _)) rfl cD bK ?_);refine pB ?_;refine aB rfl (fun g1=> ?_) (fun g1=> ?_)
 ·refine aP ?_;have ha:=f2 g1;have hp:fX ⟨(op:Int),ai,bi,l⟩=[uD ai]:=by unfold fX;simp only[g1,if_true,if_false,Bool.false_eq_true]
  refine gK ?_;refine lo (WY (z:=_) ⟨_,_,_,rfl⟩) rfl ?_;refine gF ?_;refine lo (TV rfl (E rfl) (E rfl) (fun _=>by omega) (fun _=>aBD ha)) rfl ?_;refine z1 ?_;refine aD fun r23 h23=> ?_;repeat rcases h23 with⟨_,h23⟩
  apply ap (es':=(us++ [uD ai]).map aH) (len':=(us++ [uD ai]).length);rfl;rfl;(exact bH)
  ·simp
  ·exact .inr (.inr ⟨_,_,_,_,_,rfl,bH,by simp,rfl⟩)
  ·first|(simp[aH];done)|(simp only[List.drop_zero,List.map_append];congr 1;exact List.take_of_length_le (by simp))
  ·simp;try omega
  ·simp[maxLen];try omega
  ·simp;try omega
  ·rfl
  refine bM fun r24 h24=> ?_;repeat rcases h24 with⟨_,h24⟩
  refine dG ?_;rw[hp];apply aF;exact aG
  ·exact⟨_,rfl,rfl⟩
  ·exact aA
 refine dE ?_;refine aB rfl (fun g2=> ?_) (fun g2=> ?_)
 ·refine aP ?_;have ha:=f3 g2;obtain⟨a,rfl⟩:=Int.eq_ofNat_of_zero_le ha.1;have hp:fX ⟨(op:Int),(a:Int),bi,l⟩=uB a:=by unfold fX;simp only[g1,g2,if_true,if_false,Bool.false_eq_true,Int.toNat_natCast]
  refine kL ?_;refine PE ?_;refine cw [(r12,.arr 5 1 ((us).map aH))] Tryz.call239 (mE r12 (us) (by first|omega|(simp;omega)) a (by omega)) rfl ?_ ?_ ?_
  ·exact aC
  ·exact aA
  rintro _ σ' ⟨ra,rfl,rfl⟩ hra;have kra:=bC hra;repeat rcases kra with⟨_,kra⟩
  refine eP ?_;rw[hp];apply aF;exact aG
  ·exact⟨_,rfl,rfl⟩
  ·exact aA
 refine dE ?_;refine aB rfl (fun g3=> ?_) (fun g3=> ?_)
 ·refine aP ?_;have ha:=f5 g3;obtain⟨a,rfl⟩:=Int.eq_ofNat_of_zero_le ha.1;have hp:fX ⟨(op:Int),(a:Int),bi,l⟩=uB a++ [0]:=by unfold fX;simp only[g1,g2,g3,if_true,if_false,Bool.false_eq_true,Int.toNat_natCast]
  have hal:=bN 1 a (by omega);refine kL ?_;refine PE ?_;refine cw [(r12,.arr 5 1 ((us).map aH))] Tryz.call239 (mE r12 (us) (by first|omega|(simp;omega)) a (by omega)) rfl ?_ ?_ ?_
  ·exact aC
  ·exact aA
  rintro _ σ' ⟨ra,rfl,rfl⟩ hra;have kra:=bC hra;repeat rcases kra with⟨_,kra⟩
  apply aT;(exact bF);refine z1 ?_;refine aD fun r39 h39=> ?_;repeat rcases h39 with⟨_,h39⟩
  apply ap (es':=((us++uB a)++ [0]).map aH) (len':=((us++uB a)++ [0]).length);rfl;rfl;(exact bH)
  ·simp
  ·exact .inr (.inr ⟨_,_,_,_,_,rfl,bH,by simp,rfl⟩)
  ·first|(simp[aH];done)|(simp only[List.drop_zero,List.map_append];congr 1;exact List.take_of_length_le (by simp))
  ·simp;try omega
  ·simp[maxLen];try omega
  ·simp;try omega
  ·rfl
  refine bM fun r40 h40=> ?_;repeat rcases h40 with⟨_,h40⟩
  refine dG ?_;rw[hp,←List.append_assoc];apply aF;exact aG
  ·exact⟨_,rfl,rfl⟩
  ·exact aA
 refine dE ?_;refine aB rfl (fun g4=> ?_) (fun g4=> ?_)
 ·refine aP ?_;have ha:=f4 g4;obtain⟨⟨ha0,ha1⟩,hl50,hall⟩:=ha;obtain⟨a,rfl⟩:=Int.eq_ofNat_of_zero_le ha0;have hp:fX ⟨(op:Int),(a:Int),bi,l⟩=uB l.length++(l.flatMap fun n=>uB n.toNat)++uB a:=by unfold fX;simp only[g1,g2,g3,g4,if_true,if_false,Bool.false_eq_true,Int.toNat_natCast]
  have hal:=bN 1 a (by omega);have hll:=bN 1 l.length (by omega);have hfl:=rF hall;refine kL ?_;refine lU ?_;refine PE ?_;refine cw [(r12,.arr 5 1 ((us).map aH))] Tryz.call239 (mE r12 (us) (by first|omega|(simp;omega)) l.length (by omega)) rfl ?_ ?_ ?_
  ·exact aC
  ·exact aA
  rintro _ σ' ⟨ra,rfl,rfl⟩ hra;have kra:=bC hra;repeat rcases kra with⟨_,kra⟩
  refine eP ?_;refine kZ ?_;refine nI ?_;obtain⟨ws,hws⟩:∃ws,ws=us++uB l.length:=⟨_,rfl⟩
  have hwl:ws.length≤50000003:=by rw[hws];simp;omega
  rw[←hws];have hpre:∀j,(us++uB l.length++((l.take j).flatMap fun n=>uB n.toNat)).length≤50000103:=fun j=>by
   have:=rF (l:=l.take j) fun n hn=>hall n (List.mem_of_mem_take hn)
   simp at this⊢;omega
  refine lp (β:=Nat×Nat) (fun b=>⟨[(0,.own b.1 0 (ws++((l.take b.2).flatMap fun n=>uB n.toNat)).length),(3,.ptr r3 0),(50,.ro 1 (l.map aX) k),(51,.int .i64 l.length),(52,.int .i64 b.2)],[(b.1,.arr 5 1 ((ws++((l.take b.2).flatMap fun n=>uB n.toNat)).map aH)),(r3,.box 46 [.int .i64 op,.int .i64 a,.int .i64 bi,.ro 1 (l.map aX) k])]⟩) (fun b=>Nq b.1 r3∧b.2≤l.length) (fun b=>l.length-b.2) (ra,0) ?_ ⟨?_,Nat.zero_le _⟩ ?_
  ·simp only[List.take_zero,List.flatMap_nil,List.append_nil];(exact aK)
  ·show Nq ra r3;(exact cF)
  rintro⟨rb,j⟩ ⟨hrb,hj⟩;dsimp only at hrb hj⊢;have hpj:=hpre j;rw[←hws]at hpj;refine jQ ?_;refine aB rfl (fun h1=> ?_) (fun h1=> ?_)
  ·have hlt:j<l.length:=by simp at h1;omega
   obtain⟨y,hy⟩:∃y,l[j]? =some y:=⟨_,List.getElem?_eq_getElem hlt⟩
   obtain⟨hy0,hy1⟩:=hall y (List.mem_of_getElem? hy);obtain⟨z,rfl⟩:=Int.eq_ofNat_of_zero_le hy0;refine dW ?_;refine qY ?_;refine nK ?_;refine PE ?_;refine cw [(rb,.arr 5 1 ((ws++((l.take j).flatMap fun n=>uB n.toNat)).map aH))] Tryz.call239 (mE rb (ws++((l.take j).flatMap fun n=>uB n.toNat)) (by first|omega|(simp;omega)) z (by omega)) rfl ?_ ?_ ?_
   ·exact aC
   ·exact aA
   rintro _ σ' ⟨rc,rfl,rfl⟩ hrc;have krc:=bC hrc;repeat rcases krc with⟨_,krc⟩
   refine sM ?_;have hnx:ws++((l.take j).flatMap fun n=>uB n.toNat)++uB z=ws++((l.take (j+1)).flatMap fun n=>uB n.toNat):=by
    rw[List.take_add_one,hy,List.flatMap_append,List.append_assoc];simp
   rw[hnx];refine⟨(rc,j+1),⟨by show Nq rc r3;(exact cF),hlt⟩,by show l.length-(j+1)<l.length-j;omega, ?_⟩;exact aK
  ·obtain rfl:j=l.length:=by simp at h1;omega
   rw[List.take_length]at hpj⊢;refine qW ?_;refine PE ?_;refine cw [(rb,.arr 5 1 ((ws++(l.flatMap fun n=>uB n.toNat)).map aH))] Tryz.call239 (mE rb (ws++(l.flatMap fun n=>uB n.toNat)) (by first|omega|(simp;omega)) a (by omega)) rfl ?_ ?_ ?_
   ·exact aC
   ·exact aA
   rintro _ σ' ⟨rd,rfl,rfl⟩ hrd;have krd:=bC hrd;repeat rcases krd with⟨_,krd⟩
   refine eP ?_;rw[hp,show us++(uB l.length++(l.flatMap fun n=>uB n.toNat)++uB a)=ws++(l.flatMap fun n=>uB n.toNat)++uB a by rw[hws];simp];apply aF;exact aG
   ·exact⟨_,rfl,rfl⟩
   ·exact aA
 refine dE ?_;refine aB rfl (fun g5=> ?_) (fun g5=> ?_)
 ·refine aP ?_;have ha:=f6 g5;obtain⟨ha0,ha1,hb0,hb1⟩:=ha;obtain⟨a,rfl⟩:=Int.eq_ofNat_of_zero_le ha0;obtain⟨b,rfl⟩:=Int.eq_ofNat_of_zero_le hb0;have hp:fX ⟨(op:Int),(a:Int),(b:Int),l⟩=uB a++uB b:=by unfold fX;simp only[g1,g2,g3,g4,g5,if_true,if_false,Bool.false_eq_true,Int.toNat_natCast]
  have hal:=bN 1 a (by omega);refine gI [(0,true),(1,true),(2,true),(3,true),(5,true),(6,true),(7,true),(4,false),(8,false),(9,true)] ?_;refine EZ ?_;refine z75 ?_;refine jE ?_;refine z75 ?_;refine qT [(r12,.arr 5 1 ((us).map aH))] rfl Tryz.call239 (mE r12 (us) (by first|omega|(simp;omega)) a (by omega)) rfl ?_ ?_ ?_ ?_
  ·exact aC
  ·exact aA
  ·exact gE
  rintro _ σ' ⟨ra,rfl,rfl⟩ hra;have kra:=bC hra;repeat rcases kra with⟨_,kra⟩
  apply bZ;(exact bF);refine qT [(ra,.arr 5 1 ((us++uB a).map aH))] rfl Tryz.call239 (mE ra (us++uB a) (by first|omega|(simp;omega)) b (by omega)) rfl ?_ ?_ ?_ ?_
  ·exact aC
  ·exact aA
  ·exact gE
  rintro _ σ' ⟨rb,rfl,rfl⟩ hrb;have krb:=bC hrb;repeat rcases krb with⟨_,krb⟩
  refine sL ?_;rw[hp,←List.append_assoc];apply aF;exact aG
  ·exact⟨_,rfl,rfl⟩
  ·exact aA
 refine dE ?_;refine aB rfl (fun g6=> ?_) (fun g6=> ?_)
 ·refine aP ?_;have hp:fX ⟨(op:Int),ai,bi,l⟩=[0]:=by unfold fX;simp only[g1,g2,g3,g4,g5,g6,if_true,if_false,Bool.false_eq_true]
  refine gK ?_;refine z1 ?_;refine aD fun r80 h80=> ?_;repeat rcases h80 with⟨_,h80⟩
  apply ap (es':=(us++ [0]).map aH) (len':=(us++ [0]).length);rfl;rfl;(exact bH)
  ·simp
  ·exact .inr (.inr ⟨_,_,_,_,_,rfl,bH,by simp,rfl⟩)
  ·first|(simp[aH];done)|(simp only[List.drop_zero,List.map_append];congr 1;exact List.take_of_length_le (by simp))
  ·simp;try omega
  ·simp[maxLen];try omega
  ·simp;try omega
  ·rfl
  refine bM fun r81 h81=> ?_;repeat rcases h81 with⟨_,h81⟩
  refine dG ?_;rw[hp];apply aF;exact aG
  ·exact⟨_,rfl,rfl⟩
  ·exact aA
 refine dE ?_;apply fF rfl;exact cU
 ·intro _;(refine aP ?_);refine eV ?_;exact aK
 refine aP ?_;refine aB rfl (fun g7=> ?_) (fun g7=> ?_)
 ·refine aP ?_;have hp:fX ⟨(op:Int),ai,bi,l⟩=sB ai:=by unfold fX;simp only[g1,g2,g3,g4,g5,g6,g7,if_true,if_false,Bool.false_eq_true]
  refine kL ?_;refine cw [(r12,.arr 5 1 (us.map aH))] Tryz.call296 (MM r12 us (by omega) ai f8) rfl ?_ ?_ ?_
  ·exact aC
  ·exact aA
  rintro _ σ' ⟨ra,rfl,rfl⟩ hra;refine eP ?_;rw[hp];apply aF;exact aG
  ·exact⟨_,rfl,rfl⟩
  ·exact aA
 refine fN ?_;apply aF;exact aG
 ·(unfold fX;simp only[g1,g2,g3,g4,g5,g6,g7,if_true,if_false,Bool.false_eq_true,List.append_nil];exact⟨_,rfl,rfl⟩)
 ·exact aA
theorem XV{a:Int}(h:0≤a∧a≤2):([[.int .u8 64],[.int .u8 127],[.int .u8 126]]:List (List AV))[a.toNat]? =some [.int .u8 (uD a:Nat)]:=by
 have:a=0∨a=1∨a=2:=by omega
 rcases this with rfl|rfl|rfl<;>rfl
theorem rX(k:Rk)(x:Ins)(hx:x.Ok)(hm:dC x=true):SCall Tryz.prog 253 [.agg (iv k x)] []
  (fun y σ=>∃r,y=.own r 0 (gP x).length∧σ=[(r,.arr 5 1 ((gP x).map aH))]):=by
 have f1:=JA hm;have f2:=aEC hm;have f3:=aBz hm;have f4:=aBB hm;have f5:=aBA hm;have f6:=aBC hm;have hop:-9223372036854775808≤x.op∧x.op≤9223372036854775807:=⟨hx.1,hx.2.1⟩
 have f8:-9223372036854775808≤x.a∧x.a≤9223372036854775807:=⟨hx.2.2.1,hx.2.2.2.1⟩
 have hs8:(sB x.a).length≤10:=wN 9 x.a (by omega) (by omega);obtain⟨op,ai,bi,l⟩:=x;dsimp only at f1 f2 f3 f4 f5 f6 f8 hop hs8;obtain⟨op,rfl⟩:=Int.eq_ofNat_of_zero_le f1.1;have hvo:gP ⟨(op:Int),ai,bi,l⟩=[op]++fX ⟨(op:Int),ai,bi,l⟩:=by simp[gP]
 rw[hvo];refine cC 98 [0,1,2,3,4,11,12,22,30,40,53,71,84,89] Tryz.func253 ?_;unfold iv;dsimp only;refine dW ?_;apply bx;rfl;rfl;(exact dM);rfl;refine aD fun r1 h1=> ?_;repeat rcases h1 with⟨_,h1⟩
 refine jF ?_;refine z0 ?_;refine z1 ?_;refine aD fun r8 h8=> ?_;repeat rcases h8 with⟨_,h8⟩
 refine dG ?_;rw[show [[AV.int .u8 (op:Int)]]=[op].map aH from rfl,show AV.own r8 0 1=AV.own r8 0 [op].length from rfl];refine kZ ?_
 (first|refine ln rfl rfl rfl rfl ?_ |refine lw rfl rfl (bI (v:=.bool false)) rfl ?_ |refine pu [] Tryz.call250 (oM _ (by assumption)) rfl cD bK ?_ |refine xJ [] rfl rfl Tryz.call250 (fun _=>(oM _ (by assumption))) rfl cD bK ?_ |refine puw [] rfl rfl Tryz.call250 (fun _=>(oM _ (by assumption))) rfl cD bK ?_);refine pB ?_;refine aB rfl (fun g1=> ?_) (fun g1=> ?_)
 ·refine aP ?_;have ha:=f2 g1;have hp:fX ⟨(op:Int),ai,bi,l⟩=[uD ai]:=by unfold fX;simp only[g1,if_true,if_false,Bool.false_eq_true]
  refine gK ?_;refine z1 ?_;refine aD fun r15 h15=> ?_;repeat rcases h15 with⟨_,h15⟩
  refine gF ?_;refine VZ ?_;refine lo (bJ (E rfl) rfl bH (fun _=>XV ha) (fun _=>rfl)) rfl ?_;refine z1 ?_;refine aD fun r20 h20=> ?_;repeat rcases h20 with⟨_,h20⟩
  apply ap (es':=([op]++ [uD ai]).map aH) (len':=([op]++ [uD ai]).length);rfl;rfl;(exact bH)
  ·simp
  ·exact .inr (.inr ⟨_,_,_,_,_,rfl,bH,by simp,rfl⟩)
  ·first|(simp[aH];done)|(simp only[List.drop_zero,List.map_append];congr 1;exact List.take_of_length_le (by simp))
  ·simp;try omega
  ·simp[maxLen];try omega
  ·simp;try omega
  ·rfl
  refine bM fun r21 h21=> ?_;repeat rcases h21 with⟨_,h21⟩
  refine dG ?_;rw[hp];apply aF;exact aG
  ·exact⟨_,rfl,rfl⟩
  ·exact aA
 refine dE ?_;refine aB rfl (fun g2=> ?_) (fun g2=> ?_)
 ·refine aP ?_;have ha:=f3 g2;obtain⟨a,rfl⟩:=Int.eq_ofNat_of_zero_le ha.1;have hp:fX ⟨(op:Int),(a:Int),bi,l⟩=uB a:=by unfold fX;simp only[g1,g2,if_true,if_false,Bool.false_eq_true,Int.toNat_natCast]
  have hal:=bN 1 a (by omega);refine kL ?_;refine PE ?_;refine cw [] Tryz.call252 (AG a (by omega)) rfl ?_ ?_ ?_
  ·exact aC
  ·exact aA
  rintro _ σ' ⟨ra,rfl,rfl⟩ hra
  replace hra:=iC hra;repeat rcases hra with⟨_,hra⟩
  apply aT;(exact bF)
  apply ap (es':=([op]++uB a).map aH) (len':=([op]++uB a).length);rfl;rfl;(exact bH)
  ·simp
  ·exact .inr (.inr ⟨_,_,_,_,_,rfl,bH,by simp,rfl⟩)
  ·first|(simp[aH];done)|(simp only[List.drop_zero,List.map_append];congr 1;exact List.take_of_length_le (by simp))
  ·simp;try omega
  ·simp[maxLen];try omega
  ·simp;try omega
  ·rfl
  refine bM fun r29 h29=> ?_;repeat rcases h29 with⟨_,h29⟩
  refine dG ?_;rw[hp];apply aF;exact aG
  ·exact⟨_,rfl,rfl⟩
  ·exact aA
 refine dE ?_;refine aB rfl (fun g3=> ?_) (fun g3=> ?_)
 ·refine aP ?_;have ha:=f5 g3;obtain⟨a,rfl⟩:=Int.eq_ofNat_of_zero_le ha.1;have hp:fX ⟨(op:Int),(a:Int),bi,l⟩=uB a++ [0]:=by unfold fX;simp only[g1,g2,g3,if_true,if_false,Bool.false_eq_true,Int.toNat_natCast]
  have hal:=bN 1 a (by omega);refine kL ?_;refine PE ?_;refine cw [] Tryz.call252 (AG a (by omega)) rfl ?_ ?_ ?_
  ·exact aC
  ·exact aA
  rintro _ σ' ⟨ra,rfl,rfl⟩ hra
  replace hra:=iC hra;repeat rcases hra with⟨_,hra⟩
  apply aT;(exact bF);apply ap (es':=([op]++uB a).map aH) (len':=([op]++uB a).length);rfl;rfl;(exact bH)
  ·simp
  ·exact .inr (.inr ⟨_,_,_,_,_,rfl,bH,by simp,rfl⟩)
  ·first|(simp[aH];done)|(simp only[List.drop_zero,List.map_append];congr 1;exact List.take_of_length_le (by simp))
  ·simp;try omega
  ·simp[maxLen];try omega
  ·simp;try omega
  ·rfl
  refine bM fun r37 h37=> ?_;repeat rcases h37 with⟨_,h37⟩
  refine z1 ?_;refine aD fun r38 h38=> ?_;repeat rcases h38 with⟨_,h38⟩
  apply ap (es':=(([op]++uB a)++ [0]).map aH) (len':=(([op]++uB a)++ [0]).length);rfl;rfl;(exact bH)
  ·simp
  ·exact .inr (.inr ⟨_,_,_,_,_,rfl,bH,by simp,rfl⟩)
  ·first|(simp[aH];done)|(simp only[List.drop_zero,List.map_append];congr 1;exact List.take_of_length_le (by simp))
  ·simp;try omega
  ·simp[maxLen];try omega
  ·simp;try omega
  ·rfl
  refine bM fun r39 h39=> ?_;repeat rcases h39 with⟨_,h39⟩
  refine dG ?_;rw[hp,←List.append_assoc];apply aF;exact aG
  ·exact⟨_,rfl,rfl⟩
  ·exact aA
 refine dE ?_;refine aB rfl (fun g4=> ?_) (fun g4=> ?_)
 ·refine aP ?_;have ha:=f4 g4;obtain⟨⟨ha0,ha1⟩,hl50,hall⟩:=ha;obtain⟨a,rfl⟩:=Int.eq_ofNat_of_zero_le ha0;have hp:fX ⟨(op:Int),(a:Int),bi,l⟩=uB l.length++(l.flatMap fun n=>uB n.toNat)++uB a:=by unfold fX;simp only[g1,g2,g3,g4,if_true,if_false,Bool.false_eq_true,Int.toNat_natCast]
  have hal:=bN 1 a (by omega);have hll:=bN 1 l.length (by omega);have hfl:=rF hall;refine kL ?_;refine lU ?_;refine PE ?_;refine cw [] Tryz.call252 (AG l.length (by omega)) rfl ?_ ?_ ?_
  ·exact aC
  ·exact aA
  rintro _ σ' ⟨ra,rfl,rfl⟩ hra
  replace hra:=iC hra;repeat rcases hra with⟨_,hra⟩
  apply aT;(exact bF);apply ap (es':=([op]++uB l.length).map aH) (len':=([op]++uB l.length).length);rfl;rfl;(exact bH)
  ·simp
  ·exact .inr (.inr ⟨_,_,_,_,_,rfl,bH,by simp,rfl⟩)
  ·first|(simp[aH];done)|(simp only[List.drop_zero,List.map_append];congr 1;exact List.take_of_length_le (by simp))
  ·simp;try omega
  ·simp[maxLen];try omega
  ·simp;try omega
  ·rfl
  refine bM fun r48 h48=> ?_;repeat rcases h48 with⟨_,h48⟩
  refine kY ?_;refine dG ?_;obtain⟨ws,hws⟩:∃ws,ws=[op]++uB l.length:=⟨_,rfl⟩
  have hwl:ws.length≤3:=by rw[hws];simp;omega
  rw[←hws];have hpre:∀j,(ws++((l.take j).flatMap fun n=>uB n.toNat)).length≤103:=fun j=>by
   have:=rF (l:=l.take j) fun n hn=>hall n (List.mem_of_mem_take hn)
   simp at this⊢;omega
  refine lp (β:=Nat×Nat) (fun b=>⟨[(3,.own b.1 0 (ws++((l.take b.2).flatMap fun n=>uB n.toNat)).length),(1,.ptr r1 0),(4,.int .i64 b.2)],[(b.1,.arr 5 1 ((ws++((l.take b.2).flatMap fun n=>uB n.toNat)).map aH)),(r1,.box 46 [.int .i64 op,.int .i64 a,.int .i64 bi,.ro 1 (l.map aX) k])]⟩) (fun b=>Nq b.1 r1∧b.2≤l.length) (fun b=>l.length-b.2) (r48,0) ?_ ⟨?_,Nat.zero_le _⟩ ?_
  ·simp only[List.take_zero,List.flatMap_nil,List.append_nil];(exact aK)
  ·show Nq r48 r1;(exact cF)
  rintro⟨rb,j⟩ ⟨hrb,hj⟩;dsimp only at hrb hj⊢;have hpj:=hpre j;refine mC ?_;refine aB rfl (fun h1=> ?_) (fun h1=> ?_)
  ·have hlt:j<l.length:=by simp at h1;omega
   obtain⟨y,hy⟩:∃y,l[j]? =some y:=⟨_,List.getElem?_eq_getElem hlt⟩
   obtain⟨hy0,hy1⟩:=hall y (List.mem_of_getElem? hy);obtain⟨z,rfl⟩:=Int.eq_ofNat_of_zero_le hy0;have hzl:=bN 1 z (by omega);obtain⟨pl,hpl⟩:∃pl,pl=ws++((l.take j).flatMap fun n=>uB n.toNat):=⟨_,rfl⟩
   rw[←hpl]at hpj⊢;refine qW ?_;refine nJ ?_;refine PE ?_;refine cw [] Tryz.call252 (AG z (by omega)) rfl ?_ ?_ ?_
   ·exact aC
   ·exact aA
   rintro _ σ' ⟨rc,rfl,rfl⟩ hrc
   replace hrc:=iC hrc;repeat rcases hrc with⟨_,hrc⟩
   apply aT;(exact bF);apply ap (es':=(pl++uB z).map aH) (len':=(pl++uB z).length);rfl;rfl;(exact bH)
   ·simp
   ·exact .inr (.inr ⟨_,_,_,_,_,rfl,bH,by simp,rfl⟩)
   ·first|(simp[aH];done)|(simp only[List.drop_zero,List.map_append];congr 1;exact List.take_of_length_le (by simp))
   ·simp;try omega
   ·simp[maxLen];try omega
   ·simp;try omega
   ·rfl
   refine bM fun r64 h64=> ?_;repeat rcases h64 with⟨_,h64⟩
   refine iE ?_;refine AS ?_;have hnx:ws++((l.take j).flatMap fun n=>uB n.toNat)++uB z=ws++((l.take (j+1)).flatMap fun n=>uB n.toNat):=by
    rw[List.take_add_one,hy,List.flatMap_append,List.append_assoc];simp
   rw[hpl,hnx];refine⟨(r64,j+1),⟨by show Nq r64 r1;(exact cF),hlt⟩,by show l.length-(j+1)<l.length-j;omega, ?_⟩;exact aK
  ·obtain rfl:j=l.length:=by simp at h1;omega
   rw[List.take_length]at hpj⊢;obtain⟨pl,hpl⟩:∃pl,pl=ws++(l.flatMap fun n=>uB n.toNat):=⟨_,rfl⟩
   rw[←hpl]at hpj⊢;refine qW ?_;refine PE ?_;refine cw [] Tryz.call252 (AG a (by omega)) rfl ?_ ?_ ?_
   ·exact aC
   ·exact aA
   rintro _ σ' ⟨rd,rfl,rfl⟩ hrd
   replace hrd:=iC hrd;repeat rcases hrd with⟨_,hrd⟩
   apply aT;(exact bF);apply ap (es':=(pl++uB a).map aH) (len':=(pl++uB a).length);rfl;rfl;(exact bH)
   ·simp
   ·exact .inr (.inr ⟨_,_,_,_,_,rfl,bH,by simp,rfl⟩)
   ·first|(simp[aH];done)|(simp only[List.drop_zero,List.map_append];congr 1;exact List.take_of_length_le (by simp))
   ·simp;try omega
   ·simp[maxLen];try omega
   ·simp;try omega
   ·rfl
   refine bM fun r70 h70=> ?_;repeat rcases h70 with⟨_,h70⟩
   refine dG ?_;rw[hpl];rw[hp,show [op]++(uB l.length++(l.flatMap fun n=>uB n.toNat)++uB a)=ws++(l.flatMap fun n=>uB n.toNat)++uB a by rw[hws];simp];apply aF;exact aG
   ·exact⟨_,rfl,rfl⟩
   ·exact aA
 refine dE ?_;refine aB rfl (fun g5=> ?_) (fun g5=> ?_)
 ·refine aP ?_;have ha:=f6 g5;obtain⟨ha0,ha1,hb0,hb1⟩:=ha;obtain⟨a,rfl⟩:=Int.eq_ofNat_of_zero_le ha0;obtain⟨b,rfl⟩:=Int.eq_ofNat_of_zero_le hb0;have hp:fX ⟨(op:Int),(a:Int),(b:Int),l⟩=uB a++uB b:=by unfold fX;simp only[g1,g2,g3,g4,g5,if_true,if_false,Bool.false_eq_true,Int.toNat_natCast]
  have hal:=bN 1 a (by omega);have hbl:=bN 4 b (by omega);refine gI [(0,true),(1,true),(2,true),(3,true),(6,true),(7,true),(8,true),(4,false),(5,false),(9,false),(10,false),(11,true)] ?_;refine EZ ?_;refine z75 ?_;refine jE ?_;refine z75 ?_;refine qT [] rfl Tryz.call252 (AG a (by omega)) rfl ?_ ?_ ?_ ?_
  ·exact aC
  ·exact aA
  ·exact gE
  rintro _ σ' ⟨ra,rfl,rfl⟩ hra
  replace hra:=iC hra;repeat rcases hra with⟨_,hra⟩
  apply bZ;(exact bF);apply dap (es':=([op]++uB a).map aH) (len':=([op]++uB a).length);rfl;infer_instance;infer_instance;rfl;rfl;(exact bH)
  ·simp
  ·exact .inr (.inr ⟨_,_,_,_,_,rfl,bH,by simp,rfl⟩)
  ·first|(simp[aH];done)|(simp only[List.drop_zero,List.map_append];congr 1;exact List.take_of_length_le (by simp))
  ·simp;try omega
  ·simp[maxLen];try omega
  ·simp;try omega
  ·rfl
  ·exact gE
  refine bM fun r78 h78=> ?_;repeat rcases h78 with⟨_,h78⟩
  refine qT [] rfl Tryz.call252 (AG b (by omega)) rfl ?_ ?_ ?_ ?_
  ·exact aC
  ·exact aA
  ·exact gE
  rintro _ σ' ⟨rb,rfl,rfl⟩ hrb
  replace hrb:=iC hrb;repeat rcases hrb with⟨_,hrb⟩
  apply bZ;(exact bF);apply dap (es':=(([op]++uB a)++uB b).map aH) (len':=(([op]++uB a)++uB b).length);rfl;infer_instance;infer_instance;rfl;rfl;(exact bH)
  ·simp
  ·exact .inr (.inr ⟨_,_,_,_,_,rfl,bH,by simp,rfl⟩)
  ·first|(simp[aH];done)|(simp only[List.drop_zero,List.map_append];congr 1;exact List.take_of_length_le (by simp))
  ·simp;try omega
  ·simp[maxLen];try omega
  ·simp;try omega
  ·rfl
  ·exact gE
  refine bM fun r83 h83=> ?_;repeat rcases h83 with⟨_,h83⟩
  refine tV ?_;rw[hp,←List.append_assoc];apply aF;exact aG
  ·exact⟨_,rfl,rfl⟩
  ·exact aA
 refine dE ?_;refine aB rfl (fun g6=> ?_) (fun g6=> ?_)
 ·refine aP ?_;have hp:fX ⟨(op:Int),ai,bi,l⟩=[0]:=by unfold fX;simp only[g1,g2,g3,g4,g5,g6,if_true,if_false,Bool.false_eq_true]
  refine gK ?_;refine z1 ?_;refine aD fun r87 h87=> ?_;repeat rcases h87 with⟨_,h87⟩
  apply ap (es':=([op]++ [0]).map aH) (len':=([op]++ [0]).length);rfl;rfl;(exact bH)
  ·simp
  ·exact .inr (.inr ⟨_,_,_,_,_,rfl,bH,by simp,rfl⟩)
  ·first|(simp[aH];done)|(simp only[List.drop_zero,List.map_append];congr 1;exact List.take_of_length_le (by simp))
  ·simp;try omega
  ·simp[maxLen];try omega
  ·simp;try omega
  ·rfl
  refine bM fun r88 h88=> ?_;repeat rcases h88 with⟨_,h88⟩
  refine dG ?_;rw[hp];apply aF;exact aG
  ·exact⟨_,rfl,rfl⟩
  ·exact aA
 refine dE ?_;apply fF rfl;exact cU
 ·intro _;(refine aP ?_);refine eV ?_;exact aK
 refine aP ?_;refine aB rfl (fun g7=> ?_) (fun g7=> ?_)
 ·refine aP ?_;have hp:fX ⟨(op:Int),ai,bi,l⟩=sB ai:=by unfold fX;simp only[g1,g2,g3,g4,g5,g6,g7,if_true,if_false,Bool.false_eq_true]
  refine kL ?_;refine cw [] Tryz.call297 (aG3 ai f8) rfl ?_ ?_ ?_
  ·exact aC
  ·exact aA
  rintro _ σ' ⟨ra,rfl,rfl⟩ hra
  replace hra:=iC hra;repeat rcases hra with⟨_,hra⟩
  apply aT;(exact bF);apply ap (es':=([op]++sB ai).map aH) (len':=([op]++sB ai).length);rfl;rfl;(exact bH)
  ·simp
  ·exact .inr (.inr ⟨_,_,_,_,_,rfl,bH,by simp,rfl⟩)
  ·first|(simp[aH];done)|(simp only[List.drop_zero,List.map_append];congr 1;exact List.take_of_length_le (by simp))
  ·simp;try omega
  ·simp[maxLen];try omega
  ·simp;try omega
  ·rfl
  refine bM fun r96 h96=> ?_;repeat rcases h96 with⟨_,h96⟩
  refine dG ?_;rw[hp];apply aF;exact aG
  ·exact⟨_,rfl,rfl⟩
  ·exact aA
 refine fN ?_;apply aF;exact aG
 ·(unfold fX;simp only[g1,g2,g3,g4,g5,g6,g7,if_true,if_false,Bool.false_eq_true,List.append_nil];exact⟨_,rfl,rfl⟩)
 ·exact aA
def rv (l:List Nat) (n:Nat) (e:Int):List AV:=[.ro 1 (l.map aH) .any,.int .i64 n,.int .i64 e]
def oD (l:List Nat) (n:Nat) (e:Int):Nat×Nat×Int:=
 if(e !=0)=true then(0,n,e)else if((n:Int)==(l.length:Int))=true then(0,n,2)else(l[n]!,n+1,e)
def gV (l:List Nat) (lim:Int) (n:Nat) (e:Int):Nat×Nat×Int:=
 if(e !=0)=true then(0,n,e)else if((lB (l.drop n)).2.2 !=0)=true then(0,n,(lB (l.drop n)).2.2)else if decide (lim<((lB (l.drop n)).1:Int))=true then(0,n,1)else((lB (l.drop n)).1,n+(lB (l.drop n)).2.1,(lB (l.drop n)).2.2)
def AH (l:List Nat) (bits:Nat) (n:Nat):Int×Nat×Int:=((vR bits (l.drop n)).1,n+(vR bits (l.drop n)).2.1,(vR bits (l.drop n)).2.2)
theorem CR(r:Nat)(l:List Nat)(hl:l.length≤1000000)(hlt:∀x∈l,x<256)(n:Nat)(hn:n≤l.length)(e:Int):SCall Tryz.prog 314 [.ptr r 0] [(r,.box 346 (rv l n e))]
  (fun x σ=>x=.int .i64 ((oD l n e).1:Nat)∧σ=[(r,.box 346 (rv l (oD l n e).2.1 (oD l n e).2.2))]):=by
 refine cC 42 [0,2,3,9] Tryz.func314 ?_;unfold rv;refine fV ?_;refine nT ?_;refine lo (fE (E rfl) (E rfl)) rfl ?_;refine dG ?_;refine aB rfl (fun g1=> ?_) (fun g1=> ?_)
 ·refine bQ ?_;apply aF;exact aG
  ·(unfold oD;simp only[g1,if_true,if_false,Bool.false_eq_true];exact⟨rfl,rfl⟩)
  ·exact aA
 refine aP ?_;refine gI [(0,true),(1,true),(2,true),(3,true),(4,true),(5,true),(6,true),(7,true),(8,true),(9,true),(10,true)] ?_;refine wL ?_;refine IQ ?_;refine z79 ?_;refine tV ?_;refine aB rfl (fun g2=> ?_) (fun g2=> ?_)
 ·refine sO ?_;refine nS ?_;refine bQ ?_;apply aF;exact aG
  ·(unfold oD;simp only[g1,g2,if_true,if_false,Bool.false_eq_true];exact⟨rfl,rfl⟩)
  ·exact aA
 refine dX ?_;refine nT ?_;refine RH ?_;refine oW ?_;have hlt2:n<l.length:=by simp at g2;omega
 refine gI [(0,true),(1,true),(2,true),(3,true),(4,true),(5,true),(6,true),(7,true),(8,true),(9,true),(10,true),(11,true),(12,true)] ?_;refine wL ?_;refine z82 ?_;rw[show(n:Int)+1-1=(n:Nat) by omega];refine MC ?_;refine LD ?_;rw[Int.toNat_natCast];have hb8:=xV hlt n;refine z83 ?_;refine tV ?_;apply aF;exact aG
 ·(unfold oD;simp only[g1,g2,if_true,if_false,Bool.false_eq_true];exact⟨rfl,rfl⟩)
 ·exact aA
def JB (l:List Nat) (n:Nat) (e:Int):Nat×Int:=if(((oD l n e).1:Int) !=0)=true then((oD l n e).2.1,1)else(oD l n e).2
theorem MU(r:Nat)(l:List Nat)(hl:l.length≤1000000)(hlt:∀x∈l,x<256)(n:Nat)(hn:n≤l.length)(e:Int):SCall Tryz.prog 317 [.ptr r 0] [(r,.box 346 (rv l n e))]
  (fun x σ=>x=.tup []∧σ=[(r,.box 346 (rv l (JB l n e).1 (JB l n e).2))]):=by
 refine cC 8 [0,4] Tryz.func317 ?_;unfold rv;refine dX ?_;refine cw [(r,.box 346 (rv l n e))] Tryz.call314 (CR r l hl hlt n hn e) rfl ?_ ?_ ?_
 ·exact aC
 ·exact aA
 rintro _ σ' ⟨rfl,rfl⟩-;apply aT;(exact bF);refine lH ?_;unfold rv;refine aB rfl (fun g1=> ?_) (fun g1=> ?_)
 ·refine tE ?_;refine bR ?_;apply aF;exact aG
  ·unfold JB;rw[if_pos g1];exact⟨rfl,rfl⟩
  ·exact aA
 ·refine aP ?_;refine bR ?_;apply aF;exact aG
  ·unfold JB;rw[if_neg (by rw[g1];simp)];exact⟨rfl,rfl⟩
  ·exact aA
theorem GZ{l:List Nat}{n:Nat}:List.take ((l.map aH).length-n) (List.drop n (l.map aH))=(l.drop n).map aH:=by
 rw[List.map_drop,List.take_of_length_le (by simp)]
theorem JC{e:Int}{b:Bool}(h:(if(e==0)=true then b else false)=true):e=0∧b=true:=by
 split at h
 ·next h1=>exact⟨by simpa using h1,h⟩
 ·cases h
theorem uE{e:Int}{b:Bool}(h:(if(e==0)=true then b else false)=false)(h0:(e !=0)=false):e=0∧b=false:=by
 have h1:e=0:=by simpa using h0
 subst h1;exact⟨rfl,h⟩
theorem jL(r:Nat)(l:List Nat)(hl:l.length≤1000000)(hlt:∀x∈l,x<256)(lim:Int)(n:Nat)(hn:n≤l.length)(e:Int):SCall Tryz.prog 316 [.ptr r 0,.int .i64 lim] [(r,.box 346 (rv l n e))]
  (fun x σ=>x=.int .i64 ((gV l lim n e).1:Nat)∧σ=[(r,.box 346 (rv l (gV l lim n e).2.1 (gV l lim n e).2.2))]):=by
 have hbd:=xT (l.drop n);obtain⟨hb1,hb2,hb3⟩:=hbd;rw[List.length_drop]at hb2;refine cC 51 [0,1,4,5,6,7,12,34,40] Tryz.func316 ?_;unfold rv;refine fV ?_;refine nT ?_;refine lH ?_;refine aB rfl (fun g1=> ?_) (fun g1=> ?_)
 ·refine bQ ?_;apply aF;exact aG
  ·(unfold gV;simp only[g1,if_true,if_false,Bool.false_eq_true];first|exact⟨rfl,rfl⟩|(have hd:=uE g2 g3;simp only[hd.2,Bool.false_eq_true,if_false];exact⟨rfl,rfl⟩))
  ·exact aA
 refine aP ?_;refine gI [(0,true),(1,true),(2,true),(3,true),(4,true),(5,true),(6,true),(7,true),(8,true),(9,false),(10,true),(11,true),(12,true),(13,true),(14,true),(15,true),(16,true)] ?_;refine wL ?_;refine z84 ?_;rw[GZ];refine dpu [] rfl Tryz.call166 (aDu (l.drop n) (by rw[List.length_drop];omega) (fun x hx=>hlt x (List.mem_of_mem_drop hx))) rfl cD bK ?_;refine gD rfl (aI (E rfl)) rfl ?_;refine z85 ?_;refine z85 ?_;refine z85 ?_;refine gD rfl (hZ (E rfl)) rfl ?_;refine aEv ?_;refine dX ?_;refine lo (dD (E rfl) (E rfl)) rfl ?_;refine vX ?_;refine z80 ?_;refine z4 ?_;refine z81 ?_;refine z7 ?_;refine jP ?_;refine aB rfl (fun g2=> ?_) (fun g2=> ?_)
 ·refine mA ?_;refine oW ?_;refine gK ?_;refine lo (fE (E rfl) (E rfl)) rfl ?_;refine EU ?_;refine bQ ?_;apply aF;exact aG
  ·unfold gV;have hd:=JC g2;simp only[g1,hd.1,hd.2,bne_self_eq_false,Bool.false_eq_true,if_true,if_false];exact⟨rfl,rfl⟩
  ·exact aA
 refine cL ?_;refine oW ?_;refine gK ?_;refine lH ?_;refine aB rfl (fun g3=> ?_) (fun g3=> ?_)
 ·refine bQ ?_;apply aF;exact aG
  ·(unfold gV;simp only[g1,g2,g3,if_true,if_false,Bool.false_eq_true];first|exact⟨rfl,rfl⟩|(have hd:=uE g2 g3;simp only[hd.2,Bool.false_eq_true,if_false];exact⟨rfl,rfl⟩))
  ·exact aA
 refine dX ?_;refine GS ?_;refine RH ?_;refine oW ?_;refine gK ?_;refine z44 ?_;refine dG ?_;apply aF;exact aG
 ·(unfold gV;simp only[g1,g2,g3,if_true,if_false,Bool.false_eq_true];first|exact⟨rfl,rfl⟩|(have hd:=uE g2 g3;simp only[hd.2,Bool.false_eq_true,if_false];exact⟨rfl,rfl⟩))
 ·exact aA
theorem CS(r:Nat)(l:List Nat)(hl:l.length≤1000000)(hlt:∀x∈l,x<256)(bits:Nat)(hb:bits=32∨bits=64)(n:Nat)(hn:n≤l.length)(e:Int):SCall Tryz.prog 318 [.ptr r 0,.int .i64 bits] [(r,.box 346 (rv l n e))]
  (fun x σ=>x=.int .i64 (AH l bits n).1∧σ=[(r,.box 346 (rv l (AH l bits n).2.1 (AH l bits n).2.2))]):=by
 have hbd:=RO bits (l.drop n);rw[List.length_drop]at hbd;refine cC 37 [0,1,4,5,6,7] Tryz.func318 ?_;unfold rv AH;refine bQ ?_;refine gI [(0,true),(1,true),(2,true),(3,true),(4,true),(5,true),(6,true),(7,true),(8,true),(9,true),(10,false),(11,true),(12,true),(13,true),(14,true),(15,true),(16,true),(17,true)] ?_;refine wL ?_;refine z84 ?_;refine gD rfl (aI (E rfl)) rfl ?_;rw[GZ];refine dpu [] rfl Tryz.call322 (aG6 (l.drop n) (by rw[List.length_drop];omega) (fun x hx=>hlt x (List.mem_of_mem_drop hx)) bits hb) rfl cD bK ?_;refine gD rfl (aI (E rfl)) rfl ?_;refine z85 ?_;refine z85 ?_;refine z85 ?_;refine gD rfl (hZ (E rfl)) rfl ?_;refine aEv ?_;refine tD ?_;refine GS ?_;refine RH ?_;refine lo (aI (E rfl)) rfl ?_;refine xO ?_;apply WX;rfl;rfl;rfl;rfl;(exact sK);refine oW ?_;refine gK ?_;refine dG ?_;apply aF;exact aG
 ·exact⟨rfl,rfl⟩
 ·exact aA
def PQ (l:List Int) (y:Int):Int:=match l.findIdx? (· ==y)with|some i=>i|none=> -1
theorem FH{k:Rk}(l:List Int)(y:Int):SCall Tryz.prog 321 [.ro 1 (l.map aX) k,.int .i64 y] [] (fun x σ=>x=.int .i64 (PQ l y)∧σ=[]):=by
 refine cC 19 [0,1,4,5,7,8,9,16] Tryz.func321 ?_;refine iB (i:=0) rfl fun hm=> ?_
 rw[List.length_map]at hm;unfold maxLen at hm;refine rA ?_;refine lp (β:=Nat) (fun j=>⟨[(0,.ro 1 (l.map aX) k),(1,.int .i64 y),(7,.int .i64 l.length),(8,.int .i64 j)],[]⟩) (fun j=>j≤l.length∧∀i,i<j→l[i]? ≠some y) (fun j=>l.length-j) 0 ?_ ⟨Nat.zero_le _,fun i hi=>by omega⟩ ?_
 ·exact aK
 rintro j ⟨hj,ht⟩;refine jQ ?_;refine aB rfl (fun h1=> ?_) (fun h1=> ?_)
 ·have hlt:j<l.length:=by simp at h1;omega
  obtain⟨x,hx⟩:∃x,l[j]? =some x:=⟨_,List.getElem?_eq_getElem hlt⟩
  refine sN ?_;refine nJ ?_;refine qI ?_;refine aB rfl (fun h2=> ?_) (fun h2=> ?_)
  ·have hxy:y=x:=by simpa using h2
   refine fN ?_;apply aF;exact aG
   ·have:l.findIdx? (· ==y)=some j:=by
     rw[List.findIdx?_eq_some_iff_getElem];refine⟨hlt, ?_,fun i hi=> ?_⟩
     ·rw[List.getElem?_eq_getElem hlt]at hx;simp at hx⊢;rw[hx,hxy]
     ·have:=ht i hi;rw[List.getElem?_eq_getElem (by omega)]at this;simpa using this
    unfold PQ;rw[this];exact⟨rfl,rfl⟩
   ·exact aA
  ·have hxy:y≠x:=by simpa using h2
   refine lV ?_;refine⟨j+1,⟨by omega,fun i hi=> ?_⟩,by omega, ?_⟩
   ·by_cases hij:i=j
    ·subst hij;rw[hx];simpa using fun e=>hxy e.symm
    ·exact ht i (by omega)
   ·exact aK
 ·obtain rfl:j=l.length:=by simp at h1;omega
  refine bQ ?_;apply aF;exact aG
  ·have:l.findIdx? (· ==y)=none:=by
    rw[List.findIdx?_eq_none_iff];intro x hx;obtain⟨i,hi,rfl⟩:=List.mem_iff_getElem.1 hx;have:=ht i hi;rw[List.getElem?_eq_getElem hi]at this;simpa using this
   unfold PQ;rw[this];exact⟨rfl,rfl⟩
  ·exact aA
def uF (c:Nat):Int:=PQ [64,127,126] c
def JD (l:List Nat) (n:Nat) (e:Int):Int×Nat×Int:=
 if(if decide (uF (oD l n e).1<0)=true then((oD l n e).2.2==0)else false)=true then(if uF (oD l n e).1<0 then 0 else uF (oD l n e).1,(oD l n e).2.1,1)else(if uF (oD l n e).1<0 then 0 else uF (oD l n e).1,(oD l n e).2.1,(oD l n e).2.2)
theorem XW(r:Nat)(l:List Nat)(hl:l.length≤1000000)(hlt:∀x∈l,x<256)(n:Nat)(hn:n≤l.length)(e:Int):SCall Tryz.prog 315 [.ptr r 0] [(r,.box 346 (rv l n e))]
  (fun x σ=>x=.int .i64 (JD l n e).1∧σ=[(r,.box 346 (rv l (JD l n e).2.1 (JD l n e).2.2))]):=by
 refine cC 24 [0,2,3,4,18] Tryz.func315 ?_;unfold rv;refine fV ?_;refine cw [(r,.box 346 (rv l n e))] Tryz.call314 (CR r l hl hlt n hn e) rfl ?_ ?_ ?_
 ·exact aC
 ·exact aA
 rintro _ σ' ⟨rfl,rfl⟩-;refine eP ?_;unfold rv;refine BG ?_;refine z1 ?_;refine aD fun r7 h7=> ?_;repeat rcases h7 with⟨_,h7⟩
 refine lo (aI (E rfl)) rfl ?_;rw[show([[.int .i64 64],[.int .i64 127],[.int .i64 126]]:List (List AV))=[64,127,126].map aX from rfl];refine pu [r7] Tryz.call321 (FH (k:=.any) [64,127,126] ((oD l n e).1:Nat)) rfl ?_ bK ?_
 ·exact bG
 refine dG ?_;rw[show PQ [64,127,126] ((oD l n e).1:Nat)=uF (oD l n e).1 from rfl];refine gK ?_;refine lo (gT (E rfl) (E rfl)) rfl ?_;refine vX ?_;refine z91 ?_;refine z92 ?_;refine z62 ?_;refine z6 ?_;refine z7 ?_;refine jP ?_;refine aB rfl (fun g1=> ?_) (fun g1=> ?_)
 ·refine tE ?_;refine gK ?_;refine lo (RG (E rfl) (E rfl)) rfl ?_;refine dG ?_;apply aF;exact aG
  ·(unfold JD;simp only[g1,if_true,if_false,Bool.false_eq_true];exact⟨rfl,rfl⟩)
  ·exact aA
 refine dX ?_;refine lo (RG (E rfl) (E rfl)) rfl ?_;refine dG ?_;apply aF;exact aG
 ·(unfold JD;simp only[g1,if_true,if_false,Bool.false_eq_true];exact⟨rfl,rfl⟩)
 ·exact aA
def io (q:Nat) (x:Ins):List AV:=[.int .i64 x.op,.int .i64 x.a,.int .i64 x.b,.own q 0 x.l.length]
def ins0:Ins:=⟨0,0,0,[]⟩
def qK (l:List Nat):Nat→Nat→Int→List Int×Nat×Int
 |0,n,e=>([],n,e)
 |m+1,n,e=>(((qK l m n e).1++ [((gV l 1000 (qK l m n e).2.1 (qK l m n e).2.2).1:Int)]),(gV l 1000 (qK l m n e).2.1 (qK l m n e).2.2).2)
def mF (x:Ins) (n:Nat) (e:Int):Ins×Nat×Int:=if(e !=0)=true then(ins0,0,e)else(x,n,0)
def rY (l:List Nat) (op:Int) (n:Nat) (e:Int):Ins×Nat×Int:=
 if(aZ op==2)=true then mF ⟨op,(JD l n e).1,0,[]⟩ (JD l n e).2.1 (JD l n e).2.2
 else if(aZ op==3)=true then mF ⟨op,(gV l 1000 n e).1,0,[]⟩ (gV l 1000 n e).2.1 (gV l 1000 n e).2.2
 else if(aZ op==5)=true then mF ⟨op,(gV l 1000 n e).1,0,[]⟩ (JB l (gV l 1000 n e).2.1 (gV l 1000 n e).2.2).1 (JB l (gV l 1000 n e).2.1 (gV l 1000 n e).2.2).2
 else if(aZ op==4)=true then
  let u:=gV l 50 n e
  let w:=qK l u.1 u.2.1 u.2.2
  let v:=gV l 1000 w.2.1 w.2.2
  mF ⟨op,v.1,0,w.1⟩ v.2.1 v.2.2
 else if(aZ op==6)=true then
  let u:=gV l 3 n e
  let v:=gV l 4294967295 u.2.1 u.2.2
  mF ⟨op,u.1,v.1,[]⟩ v.2.1 v.2.2
 else if(aZ op==7)=true then mF ⟨op,0,0,[]⟩ (JB l n e).1 (JB l n e).2
 else if(aZ op==8)=true then mF ⟨op,(AH l 32 n).1,0,[]⟩ (AH l 32 n).2.1 (AH l 32 n).2.2
 else if(aZ op==9)=true then mF ⟨op,(AH l 64 n).1,0,[]⟩ (AH l 64 n).2.1 (AH l 64 n).2.2
 else mF ⟨op,0,0,[]⟩ n e
def fG (l:List Nat):Ins×Nat×Int:=
 if(aZ ((oD l 0 0).1:Nat)==0)=true then(ins0,0,1)
 else if((oD l 0 0).2.2 !=0)=true then(ins0,0,(oD l 0 0).2.2)
 else rY l ((oD l 0 0).1:Nat) (oD l 0 0).2.1 (oD l 0 0).2.2
theorem aED{l:List Nat}{n:Nat}{e:Int}(h:n≤l.length):(oD l n e).2.1≤l.length:=by
 unfold oD;split
 ·exact h
 ·split
  ·exact h
  ·next h1=>simp at h1⊢;omega
theorem JE{l:List Nat}{lim:Int}{n:Nat}{e:Int}(h:n≤l.length):(gV l lim n e).2.1≤l.length:=by
 have h1:=(xT (l.drop n)).2.1;rw[List.length_drop]at h1;unfold gV;repeat' split
 all_goals first|exact h|(simp;omega)
theorem aEE{l:List Nat}{lim:Int}{n:Nat}{e:Int}(h:0≤lim):((gV l lim n e).1:Int)≤lim:=by
 unfold gV;split
 ·exact h
 ·split
  ·exact h
  ·split
   ·exact h
   ·next h1=>simp at h1⊢;omega
theorem XX{l:List Nat}:∀ {m n:Nat} {e:Int},n≤l.length→(qK l m n e).2.1≤l.length
 |0,_,_,h=>h
 | _ +1,_,_,h=>JE (XX h)
theorem JF{l:List Nat}:∀ {m n:Nat} {e:Int},(qK l m n e).1.length=m
 |0,_,_=>rfl
 |m+1,n,e=>by rw[qK];simp[JF (m:=m)]
theorem HA(l:List Nat)(hl:l.length≤1000000)(hlt:∀x∈l,x<256):SCall Tryz.prog 298 [.ro 1 (l.map aH) .any] []
  (fun y σ=>∃q,y=.tup [.agg (io q (fG l).1),.int .i64 ((fG l).2.1:Nat),.int .i64 (fG l).2.2]∧σ=[(q,.arr 3 1 ((fG l).1.l.map aX))]):=by
 refine cC 104 [0,2,3,4,5,6,7,18,26,32,33,38,43,50,53,54,55,67,75,79,84,93] Tryz.func298 ?_;refine dW ?_;apply al;rfl;(exact dM);refine aD fun r2 h2=> ?_;repeat rcases h2 with⟨_,h2⟩
 refine mN ?_;refine nF ?_;apply bx;rfl;rfl;(exact dM);rfl;refine aD fun r10 h10=> ?_;repeat rcases h10 with⟨_,h10⟩
 refine iE ?_;refine cw [(r10,.box 346 (rv l (0) (0)))] Tryz.call314 (CR r10 l hl hlt 0 (by omega) 0) rfl ?_ ?_ ?_
 ·exact aC
 ·exact aA
 rintro _ σ' ⟨rfl,rfl⟩-;apply aT;(exact bF);unfold rv;refine nF ?_;apply al;rfl;(exact dM);refine aD fun r6 h6=> ?_;repeat rcases h6 with⟨_,h6⟩
 refine nS ?_;refine an ?_;refine dZ (ks:=[0,2,3,4,5,6,7,18,26,32,33,38,43,50,53,54,55,67,75,79,84,93]) r6 3 3 1 (by decide) bH rfl (by decide) fun q hq=> ?_
 simp only[aM,aQ,and_true]at hq;repeat rcases hq with⟨_,hq⟩
 apply Exists.intro;apply And.intro;(exact cZ);refine aP ?_;have hn1:=aED (l:=l) (n:=0) (e:=0) (by omega);generalize hB:oD l 0 0=bb at*;obtain⟨c,n1,e1⟩:=bb;dsimp only at hn1⊢;rw[show([AV.int .i64 (c:Int),.int .i64 0,.int .i64 0,.ro 0 [] .nil].set 3 (.own q 0 0))=[.int .i64 (c:Int),.int .i64 0,.int .i64 0,.own q 0 0]from rfl];refine kZ ?_
 (first|refine ln rfl rfl rfl rfl ?_ |refine lw rfl rfl (bI (v:=.bool false)) rfl ?_ |refine pu [] Tryz.call217 (iO _) rfl cD bK ?_ |refine xJ [] rfl rfl Tryz.call217 (fun _=>(iO _)) rfl cD bK ?_ |refine puw [] rfl rfl Tryz.call217 (fun _=>(iO _)) rfl cD bK ?_);refine iE ?_;refine qI ?_;refine aB rfl (fun g1=> ?_) (fun g1=> ?_)
 ·refine aP ?_;have hG:fG l=(ins0,0,1):=by unfold fG;rw[hB];simp only[g1,if_true]
  refine gK ?_;refine oW ?_;refine oY ?_;refine lH ?_;refine gI [(0,true),(1,true),(2,true),(3,true),(4,true),(5,false),(6,true),(7,true)] ?_;refine tY ?_;refine dZ (ks:=[0,2,3,4,5,6,7,18,26,32,33,38,43,50,53,54,55,67,75,79,84,93]) r2 3 3 1 (by decide) bH rfl (by decide) fun qz hqz=> ?_
  simp only[aM,aQ,and_true]at hqz;repeat rcases hqz with⟨_,hqz⟩
  apply Exists.intro;apply And.intro;(exact cZ);refine aP ?_;apply aF;exact aG
  ·rw[hG];exact⟨qz,rfl,rfl⟩
  ·exact aA
 refine dX ?_;refine nT ?_;refine lH ?_;refine aB rfl (fun g2=> ?_) (fun g2=> ?_)
 ·refine aP ?_;have hG:fG l=(ins0,0,e1):=by unfold fG;rw[hB];simp only[g1,g2,if_true,if_false,Bool.false_eq_true]
  refine gI [(0,true),(1,true),(2,true),(3,true),(4,true),(5,false),(6,true),(7,true)] ?_;refine tY ?_;refine dZ (ks:=[0,2,3,4,5,6,7,18,26,32,33,38,43,50,53,54,55,67,75,79,84,93]) r2 3 3 1 (by decide) bH rfl (by decide) fun qz hqz=> ?_
  simp only[aM,aQ,and_true]at hqz;repeat rcases hqz with⟨_,hqz⟩
  apply Exists.intro;apply And.intro;(exact cZ);refine aP ?_;apply aF;exact aG
  ·rw[hG];exact⟨qz,rfl,rfl⟩
  ·exact aA
 refine dX ?_;refine pB ?_;refine aB rfl (fun g3=> ?_) (fun g3=> ?_)
 ·refine aP ?_;have hG:fG l=mF ⟨(c:Int),(JD l n1 e1).1,0,[]⟩ (JD l n1 e1).2.1 (JD l n1 e1).2.2:=by unfold fG rY;rw[hB];simp only[g1,g2,g3,if_true,if_false,Bool.false_eq_true]
  refine gK ?_;refine cw [(r10,.box 346 (rv l (n1) (e1)))] Tryz.call315 (XW r10 l hl hlt n1 hn1 e1) rfl ?_ ?_ ?_
  ·exact aC
  ·exact aA
  rintro _ σ' ⟨rfl,rfl⟩-;apply aT;(exact bF);unfold rv;refine wI ?_;refine iD ?_;refine oY ?_;refine lH ?_;refine aB rfl (fun ge=> ?_) (fun ge=> ?_)
  ·unfold mF at hG;rw[ge]at hG;simp only[if_true]at hG;refine aP ?_;refine gI [(0,true),(1,true),(2,true),(3,true),(4,true),(5,false),(6,true),(7,true)] ?_;refine tY ?_;refine dZ (ks:=[0,2,3,4,5,6,7,18,26,32,33,38,43,50,53,54,55,67,75,79,84,93]) r2 3 3 1 (by decide) bH rfl (by decide) fun qz hqz=> ?_
   simp only[aM,aQ,and_true]at hqz;repeat rcases hqz with⟨_,hqz⟩
   apply Exists.intro;apply And.intro;(exact cZ);refine aP ?_;apply aF;exact aG
   ·rw[hG];exact⟨qz,rfl,rfl⟩
   ·exact aA
  ·unfold mF at hG;rw[ge]at hG;simp only[Bool.false_eq_true,if_false]at hG;refine aP ?_;refine gI [(0,true),(1,true),(2,true),(3,true),(4,true),(5,false),(6,true),(7,true)] ?_;refine OY ?_;refine FA ?_;refine aP ?_;apply aF;exact aG
   ·rw[hG];exact⟨q,rfl,rfl⟩
   ·exact aA
 refine dE ?_;refine aB rfl (fun g4=> ?_) (fun g4=> ?_)
 ·refine aP ?_;have hG:fG l=mF ⟨(c:Int),(gV l 1000 n1 e1).1,0,[]⟩ (gV l 1000 n1 e1).2.1 (gV l 1000 n1 e1).2.2:=by unfold fG rY;rw[hB];simp only[g1,g2,g3,g4,if_true,if_false,Bool.false_eq_true]
  refine gK ?_;refine cw [(r10,.box 346 (rv l (n1) (e1)))] Tryz.call316 (jL r10 l hl hlt 1000 n1 hn1 e1) rfl ?_ ?_ ?_
  ·exact aC
  ·exact aA
  rintro _ σ' ⟨rfl,rfl⟩-;apply aT;(exact bF);unfold rv;refine wI ?_;refine iD ?_;refine oY ?_;refine lH ?_;refine aB rfl (fun ge=> ?_) (fun ge=> ?_)
  ·unfold mF at hG;rw[ge]at hG;simp only[if_true]at hG;refine aP ?_;refine gI [(0,true),(1,true),(2,true),(3,true),(4,true),(5,false),(6,true),(7,true)] ?_;refine tY ?_;refine dZ (ks:=[0,2,3,4,5,6,7,18,26,32,33,38,43,50,53,54,55,67,75,79,84,93]) r2 3 3 1 (by decide) bH rfl (by decide) fun qz hqz=> ?_
   simp only[aM,aQ,and_true]at hqz;repeat rcases hqz with⟨_,hqz⟩
   apply Exists.intro;apply And.intro;(exact cZ);refine aP ?_;apply aF;exact aG
   ·rw[hG];exact⟨qz,rfl,rfl⟩
   ·exact aA
  ·unfold mF at hG;rw[ge]at hG;simp only[Bool.false_eq_true,if_false]at hG;refine aP ?_;refine gI [(0,true),(1,true),(2,true),(3,true),(4,true),(5,false),(6,true),(7,true)] ?_;refine OY ?_;refine FA ?_;refine aP ?_;apply aF;exact aG
   ·rw[hG];exact⟨q,rfl,rfl⟩
   ·exact aA
 refine dE ?_;refine aB rfl (fun g5=> ?_) (fun g5=> ?_)
 ·refine aP ?_;have hG:fG l=mF ⟨(c:Int),(gV l 1000 n1 e1).1,0,[]⟩ (JB l (gV l 1000 n1 e1).2.1 (gV l 1000 n1 e1).2.2).1 (JB l (gV l 1000 n1 e1).2.1 (gV l 1000 n1 e1).2.2).2:=by unfold fG rY;rw[hB];simp only[g1,g2,g3,g4,g5,if_true,if_false,Bool.false_eq_true]
  have hn2:=JE (lim:=1000) (e:=e1) hn1;refine gK ?_;refine cw [(r10,.box 346 (rv l (n1) (e1)))] Tryz.call316 (jL r10 l hl hlt 1000 n1 hn1 e1) rfl ?_ ?_ ?_
  ·exact aC
  ·exact aA
  rintro _ σ' ⟨rfl,rfl⟩-;apply aT;(exact bF);unfold rv;refine wI ?_;refine iD ?_;generalize gV l 1000 n1 e1=u at*;obtain⟨a,n2,e2⟩:=u;dsimp only at hn2 hG⊢;refine gK ?_;refine cw [(r10,.box 346 (rv l (n2) (e2)))] Tryz.call317 (MU r10 l hl hlt n2 hn2 e2) rfl ?_ ?_ ?_
  ·exact aC
  ·exact aA
  rintro _ σ' ⟨rfl,rfl⟩-;apply aT;(exact bF);unfold rv;refine jP ?_;refine oY ?_;refine lH ?_;refine aB rfl (fun ge=> ?_) (fun ge=> ?_)
  ·unfold mF at hG;rw[ge]at hG;simp only[if_true]at hG;refine aP ?_;refine gI [(0,true),(1,true),(2,true),(3,true),(4,true),(5,false),(6,true),(7,true)] ?_;refine tY ?_;refine dZ (ks:=[0,2,3,4,5,6,7,18,26,32,33,38,43,50,53,54,55,67,75,79,84,93]) r2 3 3 1 (by decide) bH rfl (by decide) fun qz hqz=> ?_
   simp only[aM,aQ,and_true]at hqz;repeat rcases hqz with⟨_,hqz⟩
   apply Exists.intro;apply And.intro;(exact cZ);refine aP ?_;apply aF;exact aG
   ·rw[hG];exact⟨qz,rfl,rfl⟩
   ·exact aA
  ·unfold mF at hG;rw[ge]at hG;simp only[Bool.false_eq_true,if_false]at hG;refine aP ?_;refine gI [(0,true),(1,true),(2,true),(3,true),(4,true),(5,false),(6,true),(7,true)] ?_;refine OY ?_;refine FA ?_;refine aP ?_;apply aF;exact aG
   ·rw[hG];exact⟨q,rfl,rfl⟩
   ·exact aA
 refine dE ?_;refine aB rfl (fun g6=> ?_) (fun g6=> ?_)
 ·refine aP ?_;have hG:fG l=mF ⟨(c:Int),(gV l 1000 (qK l (gV l 50 n1 e1).1 (gV l 50 n1 e1).2.1 (gV l 50 n1 e1).2.2).2.1 (qK l (gV l 50 n1 e1).1 (gV l 50 n1 e1).2.1 (gV l 50 n1 e1).2.2).2.2).1,0,(qK l (gV l 50 n1 e1).1 (gV l 50 n1 e1).2.1 (gV l 50 n1 e1).2.2).1⟩ (gV l 1000 (qK l (gV l 50 n1 e1).1 (gV l 50 n1 e1).2.1 (gV l 50 n1 e1).2.2).2.1 (qK l (gV l 50 n1 e1).1 (gV l 50 n1 e1).2.1 (gV l 50 n1 e1).2.2).2.2).2.1 (gV l 1000 (qK l (gV l 50 n1 e1).1 (gV l 50 n1 e1).2.1 (gV l 50 n1 e1).2.2).2.1 (qK l (gV l 50 n1 e1).1 (gV l 50 n1 e1).2.1 (gV l 50 n1 e1).2.2).2.2).2.2:=by unfold fG rY;rw[hB];simp only[g1,g2,g3,g4,g5,g6,if_true,if_false,Bool.false_eq_true]
  have hn2:=JE (lim:=50) (e:=e1) hn1;have hm50:=aEE (l:=l) (lim:=50) (n:=n1) (e:=e1) (by omega);refine gK ?_;refine cw [(r10,.box 346 (rv l (n1) (e1)))] Tryz.call316 (jL r10 l hl hlt 50 n1 hn1 e1) rfl ?_ ?_ ?_
  ·exact aC
  ·exact aA
  rintro _ σ' ⟨rfl,rfl⟩-;apply aT;(exact bF);unfold rv;refine aEs ?_;generalize gV l 50 n1 e1=u at*;obtain⟨m,n2,e2⟩:=u;dsimp only at hn2 hm50 hG⊢;refine lp (β:=Nat×Nat) (fun b=>⟨[(2,.ptr r2 0),(5,.ptr r10 0),(6,.ptr r6 0),(53,.int .i64 m),(54,.int .i64 b.2)],[(b.1,.arr 3 1 ((qK l b.2 n2 e2).1.map aX)),(r6,.box 46 [.int .i64 c,.int .i64 0,.int .i64 0,.own b.1 0 (qK l b.2 n2 e2).1.length]),(r10,.box 346 (rv l (qK l b.2 n2 e2).2.1 (qK l b.2 n2 e2).2.2)),(r2,.box 46 [.int .i64 0,.int .i64 0,.int .i64 0,.ro 0 [] .nil])]⟩) (fun b=>(Nq b.1 r6∧Nq b.1 r10∧Nq b.1 r2)∧b.2≤m) (fun b=>m-b.2) (q,0) (by(exact aK)) ⟨⟨by(exact cF),by(exact cF),by(exact cF)⟩,Nat.zero_le _⟩ ?_;rintro⟨p,j⟩ ⟨⟨hp1,hp2,hp3⟩,hj⟩;dsimp only at hp1 hp2 hp3 hj⊢;have hn3:=XX (m:=j) (e:=e2) hn2;have hlen:=JF (l:=l) (m:=j) (n:=n2) (e:=e2);have hstep:qK l (j+1) n2 e2=(((qK l j n2 e2).1++ [((gV l 1000 (qK l j n2 e2).2.1 (qK l j n2 e2).2.2).1:Int)]),(gV l 1000 (qK l j n2 e2).2.1 (qK l j n2 e2).2.2).2):=rfl;generalize hW:qK l j n2 e2=w at hn3 hlen hstep⊢;obtain⟨L,n3,e3⟩:=w;dsimp only at hn3 hlen hstep⊢;unfold rv;refine jQ ?_;refine aB rfl (fun h1=> ?_) (fun h1=> ?_)
  ·have hlt2:j<m:=by simp at h1;omega
   refine aP ?_;refine gI [(0,true),(1,true),(2,true),(3,false),(4,false),(5,false),(6,true),(7,false)] ?_;refine PK ?_;refine qT [(r10,.box 346 (rv l n3 e3))] rfl Tryz.call316 (jL r10 l hl hlt 1000 n3 hn3 e3) rfl ?_ ?_ ?_ ?_
   ·exact aC
   ·exact aA
   ·exact gE
   rintro _ σ' ⟨rfl,rfl⟩-;apply bZ;(exact bF);unfold rv;generalize gV l 1000 n3 e3=u at hstep⊢;obtain⟨v,n4,e4⟩:=u;dsimp only at hstep⊢;refine GO ?_;refine aD fun r60 h60=> ?_;repeat rcases h60 with⟨_,h60⟩
   apply dap (es':=(L++ [(v:Int)]).map aX) (len':=(L++ [(v:Int)]).length);rfl;infer_instance;infer_instance;rfl;rfl;(exact bH)
   ·simp
   ·exact .inr (.inr ⟨_,_,_,_,_,rfl,bH,by simp,rfl⟩)
   ·simp[aX]
   ·simp
   ·simp[maxLen];omega
   ·simp;omega
   ·rfl
   ·exact gE
   refine bM fun r61 h61=> ?_;repeat rcases h61 with⟨_,h61⟩
   refine rB ?_;refine MA ?_;refine lV ?_;refine⟨(r61,j+1),⟨⟨by show Nq r61 r6;(exact cF),by show Nq r61 r10;(exact cF),by show Nq r61 r2;(exact cF)⟩,hlt2⟩,by show m-(j+1)<m-j;omega, ?_⟩;dsimp only;rw[hstep];exact aK
  ·obtain rfl:j=m:=by simp at h1;omega
   rw[hW]at hG;dsimp only at hG;refine dX ?_;refine cw [(r10,.box 346 (rv l (n3) (e3)))] Tryz.call316 (jL r10 l hl hlt 1000 n3 hn3 e3) rfl ?_ ?_ ?_
   ·exact aC
   ·exact aA
   rintro _ σ' ⟨rfl,rfl⟩-;apply aT;(exact bF);unfold rv;refine wI ?_;refine iD ?_;refine oY ?_;refine lH ?_;refine aB rfl (fun ge=> ?_) (fun ge=> ?_)
   ·unfold mF at hG;rw[ge]at hG;simp only[if_true]at hG;refine aP ?_;refine gI [(0,true),(1,true),(2,true),(3,true),(4,true),(5,false),(6,true),(7,true)] ?_;refine tY ?_;refine dZ (ks:=[0,2,3,4,5,6,7,18,26,32,33,38,43,50,53,54,55,67,75,79,84,93]) r2 3 3 1 (by decide) bH rfl (by decide) fun qz hqz=> ?_
    simp only[aM,aQ,and_true]at hqz;repeat rcases hqz with⟨_,hqz⟩
    apply Exists.intro;apply And.intro;(exact cZ);refine aP ?_;apply aF;exact aG
    ·rw[hG];exact⟨qz,rfl,rfl⟩
    ·exact aA
   ·unfold mF at hG;rw[ge]at hG;simp only[Bool.false_eq_true,if_false]at hG;refine aP ?_;refine gI [(0,true),(1,true),(2,true),(3,true),(4,true),(5,false),(6,true),(7,true)] ?_;refine OY ?_;refine FA ?_;refine aP ?_;apply aF;exact aG
    ·rw[hG];exact⟨p,rfl,rfl⟩
    ·exact aA
 refine dE ?_;refine aB rfl (fun g7=> ?_) (fun g7=> ?_)
 ·refine aP ?_;have hG:fG l=mF ⟨(c:Int),(gV l 3 n1 e1).1,(gV l 4294967295 (gV l 3 n1 e1).2.1 (gV l 3 n1 e1).2.2).1,[]⟩ (gV l 4294967295 (gV l 3 n1 e1).2.1 (gV l 3 n1 e1).2.2).2.1 (gV l 4294967295 (gV l 3 n1 e1).2.1 (gV l 3 n1 e1).2.2).2.2:=by unfold fG rY;rw[hB];simp only[g1,g2,g3,g4,g5,g6,g7,if_true,if_false,Bool.false_eq_true]
  have hn2:=JE (lim:=3) (e:=e1) hn1;refine gK ?_;refine cw [(r10,.box 346 (rv l (n1) (e1)))] Tryz.call316 (jL r10 l hl hlt 3 n1 hn1 e1) rfl ?_ ?_ ?_
  ·exact aC
  ·exact aA
  rintro _ σ' ⟨rfl,rfl⟩-;apply aT;(exact bF);unfold rv;refine wI ?_;refine iD ?_;generalize gV l 3 n1 e1=u at*;obtain⟨a,n2,e2⟩:=u;dsimp only at hn2 hG⊢;refine gK ?_;refine cw [(r10,.box 346 (rv l (n2) (e2)))] Tryz.call316 (jL r10 l hl hlt 4294967295 n2 hn2 e2) rfl ?_ ?_ ?_
  ·exact aC
  ·exact aA
  rintro _ σ' ⟨rfl,rfl⟩-;apply aT;(exact bF);unfold rv;refine wI ?_;refine iD ?_;refine oY ?_;refine lH ?_;refine aB rfl (fun ge=> ?_) (fun ge=> ?_)
  ·unfold mF at hG;rw[ge]at hG;simp only[if_true]at hG;refine aP ?_;refine gI [(0,true),(1,true),(2,true),(3,true),(4,true),(5,false),(6,true),(7,true)] ?_;refine tY ?_;refine dZ (ks:=[0,2,3,4,5,6,7,18,26,32,33,38,43,50,53,54,55,67,75,79,84,93]) r2 3 3 1 (by decide) bH rfl (by decide) fun qz hqz=> ?_
   simp only[aM,aQ,and_true]at hqz;repeat rcases hqz with⟨_,hqz⟩
   apply Exists.intro;apply And.intro;(exact cZ);refine aP ?_;apply aF;exact aG
   ·rw[hG];exact⟨qz,rfl,rfl⟩
   ·exact aA
  ·unfold mF at hG;rw[ge]at hG;simp only[Bool.false_eq_true,if_false]at hG;refine aP ?_;refine gI [(0,true),(1,true),(2,true),(3,true),(4,true),(5,false),(6,true),(7,true)] ?_;refine OY ?_;refine FA ?_;refine aP ?_;apply aF;exact aG
   ·rw[hG];exact⟨q,rfl,rfl⟩
   ·exact aA
 refine dE ?_;refine aB rfl (fun g8=> ?_) (fun g8=> ?_)
 ·refine aP ?_;have hG:fG l=mF ⟨(c:Int),0,0,[]⟩ (JB l n1 e1).1 (JB l n1 e1).2:=by unfold fG rY;rw[hB];simp only[g1,g2,g3,g4,g5,g6,g7,g8,if_true,if_false,Bool.false_eq_true]
  refine gK ?_;refine cw [(r10,.box 346 (rv l (n1) (e1)))] Tryz.call317 (MU r10 l hl hlt n1 hn1 e1) rfl ?_ ?_ ?_
  ·exact aC
  ·exact aA
  rintro _ σ' ⟨rfl,rfl⟩-;apply aT;(exact bF);unfold rv;refine jP ?_;refine oY ?_;refine lH ?_;refine aB rfl (fun ge=> ?_) (fun ge=> ?_)
  ·unfold mF at hG;rw[ge]at hG;simp only[if_true]at hG;refine aP ?_;refine gI [(0,true),(1,true),(2,true),(3,true),(4,true),(5,false),(6,true),(7,true)] ?_;refine tY ?_;refine dZ (ks:=[0,2,3,4,5,6,7,18,26,32,33,38,43,50,53,54,55,67,75,79,84,93]) r2 3 3 1 (by decide) bH rfl (by decide) fun qz hqz=> ?_
   simp only[aM,aQ,and_true]at hqz;repeat rcases hqz with⟨_,hqz⟩
   apply Exists.intro;apply And.intro;(exact cZ);refine aP ?_;apply aF;exact aG
   ·rw[hG];exact⟨qz,rfl,rfl⟩
   ·exact aA
  ·unfold mF at hG;rw[ge]at hG;simp only[Bool.false_eq_true,if_false]at hG;refine aP ?_;refine gI [(0,true),(1,true),(2,true),(3,true),(4,true),(5,false),(6,true),(7,true)] ?_;refine OY ?_;refine FA ?_;refine aP ?_;apply aF;exact aG
   ·rw[hG];exact⟨q,rfl,rfl⟩
   ·exact aA
 refine dE ?_;refine aB rfl (fun g9=> ?_) (fun g9=> ?_)
 ·refine aP ?_;have hG:fG l=mF ⟨(c:Int),(AH l 32 n1).1,0,[]⟩ (AH l 32 n1).2.1 (AH l 32 n1).2.2:=by unfold fG rY;rw[hB];simp only[g1,g2,g3,g4,g5,g6,g7,g8,g9,if_true,if_false,Bool.false_eq_true]
  refine gK ?_;refine cw [(r10,.box 346 (rv l (n1) (e1)))] Tryz.call318 (CS r10 l hl hlt 32 (.inl rfl) n1 hn1 e1) rfl ?_ ?_ ?_
  ·exact aC
  ·exact aA
  rintro _ σ' ⟨rfl,rfl⟩-;apply aT;(exact bF);unfold rv;refine wI ?_;refine iD ?_;refine oY ?_;refine lH ?_;refine aB rfl (fun ge=> ?_) (fun ge=> ?_)
  ·unfold mF at hG;rw[ge]at hG;simp only[if_true]at hG;refine aP ?_;refine gI [(0,true),(1,true),(2,true),(3,true),(4,true),(5,false),(6,true),(7,true)] ?_;refine tY ?_;refine dZ (ks:=[0,2,3,4,5,6,7,18,26,32,33,38,43,50,53,54,55,67,75,79,84,93]) r2 3 3 1 (by decide) bH rfl (by decide) fun qz hqz=> ?_
   simp only[aM,aQ,and_true]at hqz;repeat rcases hqz with⟨_,hqz⟩
   apply Exists.intro;apply And.intro;(exact cZ);refine aP ?_;apply aF;exact aG
   ·rw[hG];exact⟨qz,rfl,rfl⟩
   ·exact aA
  ·unfold mF at hG;rw[ge]at hG;simp only[Bool.false_eq_true,if_false]at hG;refine aP ?_;refine gI [(0,true),(1,true),(2,true),(3,true),(4,true),(5,false),(6,true),(7,true)] ?_;refine OY ?_;refine FA ?_;refine aP ?_;apply aF;exact aG
   ·rw[hG];exact⟨q,rfl,rfl⟩
   ·exact aA
 refine dE ?_;refine aB rfl (fun g10=> ?_) (fun g10=> ?_)
 ·refine aP ?_;have hG:fG l=mF ⟨(c:Int),(AH l 64 n1).1,0,[]⟩ (AH l 64 n1).2.1 (AH l 64 n1).2.2:=by unfold fG rY;rw[hB];simp only[g1,g2,g3,g4,g5,g6,g7,g8,g9,g10,if_true,if_false,Bool.false_eq_true]
  refine gK ?_;refine cw [(r10,.box 346 (rv l (n1) (e1)))] Tryz.call318 (CS r10 l hl hlt 64 (.inr rfl) n1 hn1 e1) rfl ?_ ?_ ?_
  ·exact aC
  ·exact aA
  rintro _ σ' ⟨rfl,rfl⟩-;apply aT;(exact bF);unfold rv;refine wI ?_;refine iD ?_;refine oY ?_;refine lH ?_;refine aB rfl (fun ge=> ?_) (fun ge=> ?_)
  ·unfold mF at hG;rw[ge]at hG;simp only[if_true]at hG;refine aP ?_;refine gI [(0,true),(1,true),(2,true),(3,true),(4,true),(5,false),(6,true),(7,true)] ?_;refine tY ?_;refine dZ (ks:=[0,2,3,4,5,6,7,18,26,32,33,38,43,50,53,54,55,67,75,79,84,93]) r2 3 3 1 (by decide) bH rfl (by decide) fun qz hqz=> ?_
   simp only[aM,aQ,and_true]at hqz;repeat rcases hqz with⟨_,hqz⟩
   apply Exists.intro;apply And.intro;(exact cZ);refine aP ?_;apply aF;exact aG
   ·rw[hG];exact⟨qz,rfl,rfl⟩
   ·exact aA
  ·unfold mF at hG;rw[ge]at hG;simp only[Bool.false_eq_true,if_false]at hG;refine aP ?_;refine gI [(0,true),(1,true),(2,true),(3,true),(4,true),(5,false),(6,true),(7,true)] ?_;refine OY ?_;refine FA ?_;refine aP ?_;apply aF;exact aG
   ·rw[hG];exact⟨q,rfl,rfl⟩
   ·exact aA
 refine aP ?_;have hG:fG l=mF ⟨(c:Int),0,0,[]⟩ n1 e1:=by unfold fG rY;rw[hB];simp only[g1,g2,g3,g4,g5,g6,g7,g8,g9,g10,if_true,if_false,Bool.false_eq_true]
 refine oY ?_;refine lH ?_;refine aB rfl (fun ge=> ?_) (fun ge=> ?_)
 ·unfold mF at hG;rw[ge]at hG;simp only[if_true]at hG;refine aP ?_;refine gI [(0,true),(1,true),(2,true),(3,true),(4,true),(5,false),(6,true),(7,true)] ?_;refine tY ?_;refine dZ (ks:=[0,2,3,4,5,6,7,18,26,32,33,38,43,50,53,54,55,67,75,79,84,93]) r2 3 3 1 (by decide) bH rfl (by decide) fun qz hqz=> ?_
  simp only[aM,aQ,and_true]at hqz;repeat rcases hqz with⟨_,hqz⟩
  apply Exists.intro;apply And.intro;(exact cZ);refine aP ?_;apply aF;exact aG
  ·rw[hG];exact⟨qz,rfl,rfl⟩
  ·exact aA
 ·unfold mF at hG;rw[ge]at hG;simp only[Bool.false_eq_true,if_false]at hG;refine aP ?_;refine gI [(0,true),(1,true),(2,true),(3,true),(4,true),(5,false),(6,true),(7,true)] ?_;refine OY ?_;refine FA ?_;refine aP ?_;apply aF;exact aG
  ·rw[hG];exact⟨q,rfl,rfl⟩
  ·exact aA
end Go.Proofs.YtjpdadobblffmaaGreat
namespace Go.Proofs.YtjpdadobblffmaaGreat
open Go.RowKit Go.ChangeShapes Go.WideShapes Go.ChangeAt Go.Deep
theorem XY(c:Nat):uF c=if c=64 then 0 else if c=127 then 1 else if c=126 then 2 else-1:=by
 by_cases h1:c=64
 ·subst h1;decide
 by_cases h2:c=127
 ·subst h2;decide
 by_cases h3:c=126
 ·subst h3;decide
 rw[if_neg h1,if_neg h2,if_neg h3];unfold uF PQ;have:([64,127,126]:List Int).findIdx? (· ==(c:Int))=none:=by
  rw[List.findIdx?_eq_none_iff];intro x hx;simp at hx;rcases hx with rfl|rfl|rfl<;>simp<;>omega
 rw[this]
theorem xW{l p r:List Nat}{n:Nat}(h:l.drop n=p++r):l.drop (n+p.length)=r:=by
 rw[←List.drop_drop,h,List.drop_left]
theorem PR{l r:List Nat}{n b:Nat}(h:l.drop n=b::r):oD l n 0=(b,n+1,0):=by
 have hn:n<l.length:=by
  by_cases hc:n<l.length
  ·exact hc
  ·rw[List.drop_of_length_le (by omega)]at h;cases h
 have hb:l[n]! =b:=by
  rw[getElem!_pos l n hn];rw[List.drop_eq_getElem_cons hn]at h;exact(List.cons.inj h).1
 unfold oD;rw[if_neg (by simp),if_neg (by simp;omega),hb]
theorem XZ{l r:List Nat}{n:Nat}(h:l.drop n=0::r):JB l n 0=(n+1,0):=by
 unfold JB;rw[PR h,if_neg (by simp)]
theorem wQ{l r:List Nat}{n v:Nat}{lim:Int}(h:l.drop n=uB v++r)(h1:v<4294967296)(h2:(v:Int)≤lim):gV l lim n 0=(v,n+(uB v).length,0):=by
 unfold gV;rw[h,RM h1,if_neg (by simp),if_neg (by simp),if_neg (by simp;omega)]
theorem YA{l r:List Nat}{n bits:Nat}(hb:bits=32∨bits=64){v:Int}(h:l.drop n=sB v++r)(h1:-9223372036854775808≤v)(h2:v≤9223372036854775807)(h3:bits=32→ -2147483648≤v∧v≤2147483647):AH l bits n=(v,n+(sB v).length,0):=by
 unfold AH;rw[h,aBq hb h1 h2 h3]
theorem YB{l r:List Nat}{n:Nat}{L:List Int}(h:l.drop n=(L.flatMap fun z=>uB z.toNat)++r)(hL:∀z∈L,0≤z∧z≤1000):∀m,m≤L.length→qK l m n 0=(L.take m,n+((L.take m).flatMap fun z=>uB z.toNat).length,0)
 |0,_=>by simp[qK]
 |m+1,hm=>by
  have ih:=YB h hL m (by omega);obtain⟨y,hy⟩:∃y,L[m]? =some y:=⟨_,List.getElem?_eq_getElem (by omega)⟩
  obtain⟨hy0,hy1⟩:=hL y (List.mem_of_getElem? hy);obtain⟨z,rfl⟩:=Int.eq_ofNat_of_zero_le hy0;have hd:l.drop (n+((L.take m).flatMap fun z=>uB z.toNat).length)=uB z++(((L.drop (m+1)).flatMap fun z=>uB z.toNat)++r):=by
   refine xW ?_;rw[h,←List.append_assoc,←List.append_assoc]
   congr 1
   have:L=L.take m++(z:Int)::L.drop (m+1):=by
    rw[List.getElem?_eq_getElem (by omega)]at hy;rw[←Option.some.inj hy,←List.drop_eq_getElem_cons (by omega),List.take_append_drop]
   conv=>lhs;rw[this]
   simp[List.flatMap_append]
  rw[qK,ih];dsimp only;rw[wQ hd (by omega) hy1,List.take_add_one,hy];simp[List.flatMap_append,Nat.add_assoc]
theorem aI2{x:Ins}(h:dC x=true)(hf:(aZ x.op==8)=true):-2147483648≤x.a∧x.a≤2147483647:=by
 rw[beq_iff_eq]at hf;simp[dC,hf,jW]at h;omega
theorem aDw{x:Ins}(h:dC x=true)(hf:(aZ x.op==1||aZ x.op==7)=true):x.a=0:=by
 unfold dC at h;split at h
 ·cases h
 ·first|(rw[if_pos hf]at h;simpa using h)|simpa using h
theorem aDx{x:Ins}(h:dC x=true)(hf:aZ x.op≠6):x.b=0:=by
 unfold dC at h;split at h
 ·cases h
 ·next hp=>
  have h6:(aZ x.op !=6)=true:=by simpa using hf
  unfold jG at hp;rw[if_pos h6]at hp;split at hp
  ·simp at hp;exact hp.2
  ·simpa using hp
theorem aDy{x:Ins}(h:dC x=true)(hf:aZ x.op≠4):x.l=[]:=by
 unfold dC at h;split at h
 ·cases h
 ·next hp=>
  have h4:(aZ x.op !=4)=true:=by simpa using hf
  unfold jG at hp;rw[if_pos h4]at hp;split at hp
  ·simp at hp
  ·next hq=>simpa using hq
theorem JG{x:Ins}(hx:x.Ok)(h:dC x=true)(rest:List Nat):fG (gP x++rest)=(x,(gP x).length,0):=by
 have f1:=JA h;have f2:=aEC h;have f3:=aBz h;have f4:=aBB h;have f5:=aBA h;have f6:=aBC h;have f8:=aI2 h;have f17:=aDw h;have fb:=aDx h;have fl:=aDy h;have f9:-9223372036854775808≤x.a∧x.a≤9223372036854775807:=⟨hx.2.2.1,hx.2.2.2.1⟩
 have f0:(aZ x.op==0)=false:=by
  by_cases h0:aZ x.op=0
  ·rw[MT h0]at h;cases h
  ·simpa using h0
 obtain⟨op,a,b,L⟩:=x;dsimp only at f1 f2 f3 f4 f5 f6 f8 f9 f17 fb fl f0;obtain⟨op,rfl⟩:=Int.eq_ofNat_of_zero_le f1.1;have hp0:gP ⟨(op:Int),a,b,L⟩=op::fX ⟨(op:Int),a,b,L⟩:=rfl;obtain⟨l,hl⟩:∃l,l=gP ⟨(op:Int),a,b,L⟩++rest:=⟨_,rfl⟩
 rw[←hl];have hB:oD l 0 0=(op,1,0):=PR (r:=fX ⟨(op:Int),a,b,L⟩++rest) (by rw[hl,hp0];rfl);have h1:l.drop 1=fX ⟨(op:Int),a,b,L⟩++rest:=by rw[hl,hp0];rfl
 unfold fG;rw[hB,hp0];dsimp only;rw[f0];simp only[Bool.false_eq_true,if_false,bne_self_eq_false];unfold rY;unfold fX at h1⊢;by_cases g2:(aZ (op:Int)==2)=true
 ·simp only[g2,if_true]at h1⊢;obtain⟨k1,k2⟩:=f2 g2;have e2:aZ (op:Int)=2:=by simpa using g2
  obtain rfl:=fb (by omega);obtain rfl:=fl (by omega);have hk:JD l 1 0=(a,2,0):=by
   unfold JD;rw[PR h1,XY];have:a=0∨a=1∨a=2:=by omega
   rcases this with rfl|rfl|rfl<;>rfl
  rw[hk];rfl
 simp only[g2,Bool.false_eq_true,if_false]at h1⊢;by_cases g3:(aZ (op:Int)==3)=true
 ·simp only[g3,if_true]at h1⊢;obtain⟨k1,k2⟩:=f3 g3;have e2:aZ (op:Int)=3:=by simpa using g3
  obtain rfl:=fb (by omega);obtain rfl:=fl (by omega);obtain⟨a,rfl⟩:=Int.eq_ofNat_of_zero_le k1;rw[Int.toNat_natCast]at h1⊢;rw[wQ h1 (by omega) k2];simp[mF,Nat.add_comm]
 simp only[g3,Bool.false_eq_true,if_false]at h1⊢;by_cases g5:(aZ (op:Int)==5)=true
 ·simp only[g5,if_true]at h1⊢;obtain⟨k1,k2⟩:=f5 g5;have e2:aZ (op:Int)=5:=by simpa using g5
  obtain rfl:=fb (by omega);obtain rfl:=fl (by omega);obtain⟨a,rfl⟩:=Int.eq_ofNat_of_zero_le k1;rw[Int.toNat_natCast]at h1⊢;rw[List.append_assoc]at h1;rw[wQ h1 (by omega) k2];dsimp only;rw[XZ (xW h1)];simp[mF];omega
 simp only[g5,Bool.false_eq_true,if_false]at h1⊢;by_cases g4:(aZ (op:Int)==4)=true
 ·simp only[g4,if_true]at h1⊢;obtain⟨⟨k1,k2⟩,k3,k4⟩:=f4 g4;have e2:aZ (op:Int)=4:=by simpa using g4
  obtain rfl:=fb (by omega);obtain⟨a,rfl⟩:=Int.eq_ofNat_of_zero_le k1;rw[Int.toNat_natCast]at h1⊢;rw[List.append_assoc,List.append_assoc]at h1;have h2:=xW h1;rw[wQ h1 (by omega) (by omega)];dsimp only;rw[YB h2 k4 L.length (Nat.le_refl _),List.take_length];dsimp only;rw[wQ (xW h2) (by omega) k2];simp[mF];omega
 simp only[g4,Bool.false_eq_true,if_false]at h1⊢;have e4:aZ (op:Int)≠4:=by simpa using g4
 obtain rfl:=fl e4;by_cases g6:(aZ (op:Int)==6)=true
 ·simp only[g6,if_true]at h1⊢;obtain⟨k1,k2,k3,k4⟩:=f6 g6;obtain⟨a,rfl⟩:=Int.eq_ofNat_of_zero_le k1;obtain⟨b,rfl⟩:=Int.eq_ofNat_of_zero_le k3;rw[Int.toNat_natCast,Int.toNat_natCast]at h1⊢;rw[List.append_assoc]at h1;rw[wQ h1 (by omega) k2];dsimp only;rw[wQ (xW h1) (by omega) k4];simp[mF];omega
 simp only[g6,Bool.false_eq_true,if_false]at h1⊢;have e6:aZ (op:Int)≠6:=by simpa using g6
 obtain rfl:=fb e6;by_cases g7:(aZ (op:Int)==7)=true
 ·simp only[g7,if_true]at h1⊢;obtain rfl:=f17 (by rw[g7];simp);rw[XZ h1];simp[mF]
 simp only[g7,Bool.false_eq_true,if_false]at h1⊢;by_cases g8:(aZ (op:Int)==8)=true
 ·simp only[g8,Bool.true_or,if_true]at h1⊢;obtain⟨k1,k2⟩:=f8 g8;rw[YA (.inl rfl) h1 f9.1 f9.2 (fun _=>⟨k1,k2⟩)];simp[mF,Nat.add_comm]
 simp only[g8,Bool.false_eq_true,if_false]at h1⊢;by_cases g9:(aZ (op:Int)==9)=true
 ·simp only[g9,Bool.or_true,if_true]at h1⊢;rw[YA (.inr rfl) h1 f9.1 f9.2 (fun hc=>by cases hc)];simp[mF,Nat.add_comm]
 simp only[g9,Bool.or_false,Bool.false_eq_true,if_false]at h1⊢;have ha:a=0:=by
  by_cases g1:aZ (op:Int)=1
  ·exact f17 (by rw[g1];rfl)
  ·exfalso;have:dC ⟨(op:Int),a,0,[]⟩=false:=by
    unfold dC;have g1':(aZ (op:Int)==1)=false:=by simpa using g1
    simp[g1',g2,g3,g4,g5,g6,g7,g8,g9]
   rw[this]at h;cases h
 subst ha;simp[mF]
end Go.Proofs.YtjpdadobblffmaaGreat
namespace Go.Proofs.YtjpdadobblffmaaGreat
open Go.RowKit Go.ChangeShapes Go.WideShapes Go.ChangeAt Go.Deep
attribute [local irreducible] SW RS RD gJ fA
def MV (x:Ins):Ins:=⟨x.op,x.a,x.b,x.l.take 55⟩
theorem aBE(x:Ins)(hx:x.l.length≤maxLen):SCall Tryz.prog 81 [.agg (iv .any x)] [] (fun y σ=>∃q,y=.agg (io q (MV x))∧σ=[(q,.arr 3 1 ((MV x).l.map aX))]):=by
 unfold maxLen at hx;refine cC 34 [0,1,2,3,4,20] Tryz.func81 ?_;unfold iv;refine dW ?_;apply bx;rfl;rfl;(exact dM);rfl;refine aD fun r1 h1=> ?_;repeat rcases h1 with⟨_,h1⟩
 apply al;rfl;(exact dM);refine aD fun r2 h2=> ?_;repeat rcases h2 with⟨_,h2⟩
 refine EU ?_;refine fS ?_;refine gF ?_;refine gF ?_;refine nF ?_;apply al;rfl;(exact dM);refine aD fun r3 h3=> ?_;repeat rcases h3 with⟨_,h3⟩
 refine nS ?_;refine an ?_;refine dZ (ks:=[0,1,2,3,4,20]) r3 3 3 1 (by decide) bH rfl (by decide) fun q hq=> ?_
 simp only[aM,aQ,and_true]at hq;repeat rcases hq with⟨_,hq⟩
 apply Exists.intro;apply And.intro;(exact cZ);refine bQ ?_;refine lp (β:=Nat×Nat) (fun b=>⟨[(1,.ptr r1 0),(2,.ptr r2 0),(3,.ptr r3 0),(4,.int .i64 b.2)],[(b.1,.arr 3 1 ((x.l.take b.2).map aX)),(r3,.box 46 [.int .i64 x.op,.int .i64 x.a,.int .i64 x.b,.own b.1 0 (x.l.take b.2).length]),(r2,.box 46 [.int .i64 0,.int .i64 0,.int .i64 0,.ro 0 [] .nil]),(r1,.box 46 [.int .i64 x.op,.int .i64 x.a,.int .i64 x.b,.ro 1 (x.l.map aX) .any])]⟩) (fun b=>(Nq b.1 r3∧Nq b.1 r2∧Nq b.1 r1)∧b.2≤x.l.length∧b.2≤55) (fun b=>55-b.2) (q,0) (by(exact aK)) ⟨⟨by(exact cF),by(exact cF),by(exact cF)⟩,by omega,by omega⟩ ?_;rintro⟨p,j⟩ ⟨⟨hp1,hp2,hp3⟩,hj,hj5⟩;dsimp only at hp1 hp2 hp3 hj hj5⊢;refine qW ?_;refine lU ?_;refine lo (gT (E rfl) (E rfl)) rfl ?_;refine vX ?_;refine z69 ?_;refine z7 ?_;refine jP ?_;refine aB rfl (fun h1=> ?_) (fun h1=> ?_)
 ·have hlt:j<x.l.length∧j<55:=by simp at h1;omega
  obtain⟨hlt,hlt5⟩:=hlt;obtain⟨y,hy⟩:∃y,x.l[j]? =some y:=⟨_,List.getElem?_eq_getElem hlt⟩
  have hn:x.l.take (j+1)=x.l.take j++ [y]:=by rw[List.take_add_one,hy];rfl
  have hlj:(x.l.take j).length=j:=by simp;omega
  refine aP ?_;refine gI [(0,true),(1,true),(2,true),(3,true),(4,true),(5,true),(6,true),(7,false),(8,false),(9,true),(10,false)] ?_;refine jE ?_;refine PK ?_;refine MC ?_;refine LD ?_;refine GO ?_;refine aD fun r30 h30=> ?_;repeat rcases h30 with⟨_,h30⟩
  apply dap (es':=(x.l.take j++ [y]).map aX) (len':=(x.l.take j++ [y]).length);rfl;infer_instance;infer_instance;rfl;rfl;(exact bH)
  ·simp
  ·exact .inr (.inr ⟨_,_,_,_,_,rfl,bH,by simp,rfl⟩)
  ·simp[aX]
  ·simp
  ·simp[maxLen];omega
  ·simp;omega
  ·rfl
  ·exact gE
  refine bM fun r31 h31=> ?_;repeat rcases h31 with⟨_,h31⟩
  refine rB ?_;refine MA ?_;refine oX ?_;refine⟨(r31,j+1),⟨⟨by show Nq r31 r3;(exact cF),by show Nq r31 r2;(exact cF),by show Nq r31 r1;(exact cF)⟩,hlt,hlt5⟩,by show 55-(j+1)<55-j;omega, ?_⟩;dsimp only;rw[hn];exact aK
 ·have he:x.l.take j=x.l.take 55:=by
   have:j=x.l.length∨j=55:=by simp at h1;omega
   rcases this with rfl|rfl
   ·rw[List.take_of_length_le (Nat.le_refl _),List.take_of_length_le (by omega)]
   ·rfl
  rw[he];refine pY ?_;refine iD ?_;refine bR ?_;apply aF;exact aG
  ·exact⟨p,rfl,rfl⟩
  ·exact aA
end Go.Proofs.YtjpdadobblffmaaGreat
namespace Go.Proofs.YtjpdadobblffmaaGreat
open Go.RowKit Go.ChangeShapes Go.WideShapes Go.ChangeAt Go.Deep
class NoE {α:Type} (enc:α→List AV):Prop where
 no:∀a,∀x∈enc a,NoF x
theorem YC{α:Type}{enc:α→List AV} [h:NoE enc] {e:TypeId}{sz:Nat}{l:List α}:ENoF (.arr e sz (l.map enc)):=by
 intro y hy x hx;obtain⟨a,-,rfl⟩:=List.mem_map.1 hy;exact h.no a x hx
instance : NoE aH := ⟨fun a x hx => by simp [aH] at hx; subst hx; exact NoF.int⟩
theorem kI{P:Prop}(h:P:=by
  intro x σ' h;repeat(refine Exists.elim h ?_;clear h;intro _ h)
  first|(obtain⟨rfl,rfl⟩:=h)|(obtain⟨_,rfl,rfl⟩:=h)|(obtain⟨_,_,rfl,rfl⟩:=h)
  refine⟨bK, ?_⟩;intro p hp;simp only[List.mem_cons,List.not_mem_nil,or_false]at hp;repeat' (first|(rcases hp with rfl|hp)|(cases hp;done))
  all_goals first|exact YC|exact enof_nil|exact enof_box bK):P:=h
section
variable {P : Program} {n : Nat} {ops : Array Oper} {rest : List Oper} {fr : Fr} {σ : dY} {K : ASt → Prop} {op : Op} {ty t t' : TypeId} {pos : String} {af : Array Edge} {x y : Operand} {d : Nat} {f : FuncId} {xs : List Operand} {ats : Array TypeId} {args : List AV}
theorem oE{v:AV}(hf:∀args w,(callFunc f args).run P w=.ok (.enter f args) w)(h:SCall P f args [] (fun x σ'=>x=v∧σ'=[]))(hd:Nat.ble (d+1) n=true)
  (hargs:ArgsIf ⟨fr,σ⟩ true (σ.map (·.1)) xs args) (hno:NoF v) (hK:RS P n ops rest ⟨(d,v)::fr,σ⟩ K):RS P n ops (⟨some d,.call { callee:=.value (.func f),args:=xs.toArray,argTypes:=ats },ty,pos,af,none⟩::rest) ⟨fr,σ⟩ K:=pu _ hf h hd hargs hno hK
theorem kV{j dj:Nat}{want b:Bool}{v:AV}(hj:(ops[j]?).bind (·.dst)=some dj)(hb:dU fr dj=some (.bool b))(hf:∀args w,(callFunc f args).run P w=.ok (.enter f args) w)
  (h:(b==want)=true→SCall P f args [] (fun x σ'=>x=v∧σ'=[])) (hd:Nat.ble (d+1) n=true) (hargs:ArgsIf ⟨fr,σ⟩ (b==want) (σ.map (·.1)) xs args) (hno:NoF v) (hK:RS P n ops rest ⟨(d,.when (b==want) v)::fr,σ⟩ K):
  RS P n ops (⟨some d,.call { callee:=.value (.func f),args:=xs.toArray,argTypes:=ats },ty,pos,af,some (j,want)⟩::rest) ⟨fr,σ⟩ K:=xJ _ hj hb hf h hd hargs hno hK
theorem qQ{R:AV→dY→Prop}(hf:∀args w,(callFunc f args).run P w=.ok (.enter f args) w)(h:SCall P f args [] R)(hd:Nat.ble (d+1) n=true)
  (hargs:ArgsBor ⟨fr,σ⟩ (σ.map (·.1)) xs args) (hno:∀x σ',R x σ'→NoF x∧∀p∈σ',ENoF p.2) (hK:∀x σ',R x σ'→(∀p∈σ',Fresh p.1 σ)→RS P n ops rest ⟨(d,x)::fr,σ'++σ⟩ K):
  RS P n ops (⟨some d,.call { callee:=.value (.func f),args:=xs.toArray,argTypes:=ats },ty,pos,af,none⟩::rest) ⟨fr,σ⟩ K:=cl _ hf h hd hargs hno hK
theorem aBF{P:Prop}(h:P:=by(first|exact .inl ⟨_,rfl⟩|exact .inr (.inr ⟨_,_,_,_,_,rfl,bH,by simp,rfl⟩)|exact .inr (.inl ⟨_,_,rfl,rfl⟩))):P:=h
theorem aEF{P:Prop}(h:P:=by(first|rfl|(simp;done)|(simp only[List.map_append,List.drop_zero];rfl)|(simp only[List.drop_zero,List.map_append,List.map_cons,List.map_nil];congr 1;exact List.take_of_length_le (by simp))|(simp only[List.drop_zero,List.map_append];congr 1;exact List.take_of_length_le (by first|(simp;done)|omega)))):P:=h
theorem JH{P:Prop}(h:P:=by(first|rfl|omega|(simp;done)|(simp;omega)|(simp[maxLen];omega))):P:=h
theorem jY{e:TypeId} [Ty P t (.slice e)] {sz by_:Nat}{zv:Value} [Tz P e sz by_ zv] {r len:Nat}{es ys:List (List AV)}(es':List (List AV))(len':Nat)
  (hK:∀r',Fresh r' (eZ [r] σ)→∃σ',SSet σ r (.arr e sz es) r' (.arr e sz es') σ'∧RS P n ops rest ⟨(d,.own r' 0 len')::fr,σ'⟩ K)
  (hz:zv.cells.size=sz:=by rfl) (hb:aev ⟨fr,σ⟩ x=some (.own r 0 len):=by rfl) (hg:gU σ r=some (.arr e sz es):=by exact bH) (hlen:len=es.length:=by exact JH) (hy:Src ⟨fr,σ⟩ y sz ys:=by exact aBF)
  (he:es++ys=es':=by exact aEF) (hl':len'=len+ys.length:=by exact JH) (hmax:len'≤maxLen:=by(simp[maxLen];try omega)) (hby:len'*by_≤140737488355328:=by(simp;try omega)) (hd:Nat.ble (d+1) n=true:=by rfl):
  RS P n ops (⟨some d,.call { callee:=.builtin .append,args:=#[x,y],argTypes:=#[t,t] },ty,pos,af,none⟩::rest) ⟨fr,σ⟩ K:=ap hz hb hg hlen hy he hl' hmax hby hd hK
theorem JI{j q:Nat}{v v':AV}{e:Ent}{σ':dY}(hx:dU fr j=some v)(hd:SDel σ q e σ')(hb:Bor σ [q] v v'):SGo ⟨fr,σ⟩ ⟨(j,v')::fr,σ'⟩:=by
 refine oT [q] (fun i x' hi=> ?_) (fun p hp=> ?_)
 ·simp only[dU]at hi;split at hi
  ·next h=>subst h;obtain rfl:=Option.some.inj hi;exact⟨_,hx,hb⟩
  ·exact⟨x',hi,.refl _⟩
 ·obtain⟨h1,h2⟩:=hd.sub p hp;exact⟨by simpa using h2,p.2,h1,.refl _⟩
theorem jB{j q:Nat}{v v':AV}{e:Ent}{σ':dY}(hx:dU fr j=some v)(hd:SDel σ q e σ')(hb:Bor σ [q] v v')(hK:RS P n ops rest ⟨(j,v')::fr,σ'⟩ K):RS P n ops rest ⟨fr,σ⟩ K:=mM (JI hx hd hb) hK
theorem YD{ks:List Nat}{c:Code}{Q:Exit→ASt→Prop}{j q:Nat}{v v':AV}{e:Ent}{σ':dY}(hx:dU fr j=some v)(hd:SDel σ q e σ')(hb:Bor σ [q] v v')(hK:SW P n ks c ⟨(j,v')::fr,σ'⟩ Q):SW P n ks c ⟨fr,σ⟩ Q:=eU (JI hx hd hb) hK
theorem aR{q len sz:Nat}{et:TypeId}{es:List (List AV)}(hg:gU σ q=some (.arr et sz es))(hl:len=es.length):Bor σ [q] (.own q 0 len) (.ro sz es .any):=
 aA7 List.mem_cons_self hg (by omega) (by subst hl;simp)
variable {listed : Array Bool} {todo : List (Nat × Bool)} {held : List (Nat × List Nat)} {i : Nat}
theorem YE{v:AV}(hi:ops[i]? =some ⟨some d,.call { callee:=.value (.func f),args:=xs.toArray,argTypes:=ats },ty,pos,af,none⟩)(hf:∀args w,(callFunc f args).run P w=.ok (.enter f args) w)(h:SCall P f args [] (fun x σ'=>x=v∧σ'=[]))(hd:Nat.ble (d+1) n=true)
  (hargs:ArgsIf ⟨fr,σ⟩ true (σ.map (·.1)) xs args) (hno:NoF v) (hK:RD P n ops (listed.setIfInBounds i true) todo held ⟨(d,v)::fr,σ⟩ K):RD P n ops listed ((i,false)::todo) held ⟨fr,σ⟩ K:=dpu _ hi hf h hd hargs hno hK
theorem aDz{j dj:Nat}{want:Bool}{v:AV}(hi:ops[i]? =some ⟨some d,.call { callee:=.value (.func f),args:=xs.toArray,argTypes:=ats },ty,pos,af,some (j,want)⟩)(hj:(ops[j]?).bind (·.dst)=some dj)(hb:dU fr dj=some (.bool want))(hf:∀args w,(callFunc f args).run P w=.ok (.enter f args) w)(h:SCall P f args [] (fun x σ'=>x=v∧σ'=[]))(hd:Nat.ble (d+1) n=true)
  (hargs:ArgsIf ⟨fr,σ⟩ true (σ.map (·.1)) xs args) (hno:NoF v) (hK:RD P n ops (listed.setIfInBounds i true) todo held ⟨(d,v)::fr,σ⟩ K):RD P n ops listed ((i,false)::todo) held ⟨fr,σ⟩ K:=IP (s:=⟨fr,σ⟩) hi hj hb (LU _ hf h (dF hd) hargs hno hK) (.inl rfl)
theorem dhn{j dj:Nat}{want b:Bool}(hi:ops[i]? =some ⟨some d,op,ty,pos,af,some (j,want)⟩)(hj:(ops[j]?).bind (·.dst)=some dj)(hb:dU fr dj=some (.bool b))(hne:(b==want)=false)(hd:Nat.ble (d+1) n=true)
  (hK:RD P n ops (listed.setIfInBounds i true) todo held ⟨(d,.when false (.bool false))::fr,σ⟩ K):RD P n ops listed ((i,false)::todo) held ⟨fr,σ⟩ K:=LX (s:=⟨fr,σ⟩) hi hj hb hne hd hK
theorem mU{R:AV→dY→Prop}(hi:ops[i]? =some ⟨some d,.call { callee:=.value (.func f),args:=xs.toArray,argTypes:=ats },ty,pos,af,none⟩)(hf:∀args w,(callFunc f args).run P w=.ok (.enter f args) w)(h:SCall P f args [] R)(hd:Nat.ble (d+1) n=true)
  (hargs:ArgsBor ⟨fr,σ⟩ (σ.map (·.1)) xs args) (hno:∀x σ',R x σ'→NoF x∧∀p∈σ',ENoF p.2) (hK:∀x σ',R x σ'→(∀p∈σ',Fresh p.1 σ)→RD P n ops (listed.setIfInBounds i true) todo held ⟨(d,x)::fr,σ'++σ⟩ K):
  RD P n ops listed ((i,false)::todo) held ⟨fr,σ⟩ K:=dcl _ hi hf h hd hargs hno hK
theorem fJ{e:TypeId}{sz by_:Nat}{zv:Value}{r len:Nat}{es ys:List (List AV)}(hi:ops[i]? =some ⟨some d,.call { callee:=.builtin .append,args:=#[x,y],argTypes:=#[t,t] },ty,pos,af,none⟩)(es':List (List AV))(len':Nat)
  (hK:∀r',Fresh r' (eZ [r] σ)→∃σ',SSet σ r (.arr e sz es) r' (.arr e sz es') σ'∧RD P n ops (listed.setIfInBounds i true) todo held ⟨(d,.own r' 0 len')::fr,σ'⟩ K)
  (i1:Ty P t (.slice e):=by infer_instance) (i2:Tz P e sz by_ zv:=by infer_instance) (hz:zv.cells.size=sz:=by rfl) (hx:aev ⟨fr,σ⟩ x=some (.own r 0 len):=by rfl) (hg:gU σ r=some (.arr e sz es):=by exact bH) (hlen:len=es.length:=by exact JH) (hy:Src ⟨fr,σ⟩ y sz ys:=by exact aBF)
  (he:es++ys=es':=by exact aEF) (hl':len'=len+ys.length:=by exact JH) (hmax:len'≤maxLen:=by(simp[maxLen];try omega)) (hby:len'*by_≤140737488355328:=by(simp;try omega)) (hd:Nat.ble (d+1) n=true:=by rfl) (hb:HB ops i (σ.map (·.1)) [r] held:=by exact gE):
  RD P n ops listed ((i,false)::todo) held ⟨fr,σ⟩ K:=dap hi i1 i2 hz hx hg hlen hy he hl' hmax hby hd hb hK
end
theorem aEG{p q:Bool}:(if p=true then q else false)=(p&&q):=by cases p<;>rfl
theorem aDA{p q:Bool}:(if p=true then true else q)=(p||q):=by cases p<;>rfl
theorem bT{H R:Prop}(a:H)(h:H→R:=by intro h;(try simp only[aEG,aDA]at h);simp only[Bool.and_eq_true,Bool.or_eq_true,Bool.and_eq_false_iff,Bool.or_eq_false_iff,decide_eq_true_eq,decide_eq_false_iff_not,Bool.not_eq_true',Bool.not_eq_false',bne_iff_ne,beq_iff_eq,ne_eq,Bool.not_eq_eq_eq_not,Bool.not_true,Bool.not_false,bne_eq_false_iff_eq,beq_eq_false_iff_ne]at h;exact h):R:=h a
instance : NoE aX := ⟨fun a x hx => by simp [aX] at hx; subst hx; exact NoF.int⟩
theorem aBG(x:Ins):∀b∈fX x,b<256:=by
 have hf:∀l:List Int,∀b∈(l.flatMap fun n=>uB n.toNat),b<256:=by
  intro l b hb;obtain⟨n,-,hn⟩:=List.mem_flatMap.1 hb;exact lA _ b hn
 intro b hb;unfold fX at hb;split at hb
 ·rw[List.mem_singleton.1 hb];unfold uD;split<;>(try split)<;>decide
 split at hb
 ·exact lA _ b hb
 split at hb
 ·rcases List.mem_append.1 hb with h|h
  ·exact lA _ b h
  ·rw[List.mem_singleton.1 h];decide
 split at hb
 ·rcases List.mem_append.1 hb with h|h
  ·rcases List.mem_append.1 h with h|h
   ·exact lA _ b h
   ·exact hf _ b h
  ·exact lA _ b h
 split at hb
 ·rcases List.mem_append.1 hb with h|h
  ·exact lA _ b h
  ·exact lA _ b h
 split at hb
 ·rw[List.mem_singleton.1 hb];decide
 split at hb
 ·exact aDr _ x.a (Nat.le_refl _) b hb
 ·simp at hb
theorem RQ{x:Ins}(hm:dC x=true):∀b∈gP x,b<256:=by
 intro b hb;rcases List.mem_cons.1 hb with rfl|hb
 ·have:=JA hm;omega
 ·exact aBG x b hb
theorem uG{x:Ins}(hx:x.Ok)(hm:dC x=true):(gP x).length≤200:=by
 unfold gP;rw[List.length_cons]
 suffices (fX x).length≤199 by omega
 unfold fX;split
 ·simp
 split
 ·next h=>have:=aBz hm h;have:=bN 1 x.a.toNat (by omega);omega
 split
 ·next h=>have:=aBA hm h;have:=bN 1 x.a.toNat (by omega);simp;omega
 split
 ·next h=>
  obtain⟨h1,h2,h3⟩:=aBB hm h;have:=bN 1 x.a.toNat (by omega);have:=bN 0 x.l.length (by omega);have:=rF h3;simp only[List.length_append];omega
 split
 ·next h=>have:=aBC hm h;have:=bN 0 x.a.toNat (by omega);have:=bN 4 x.b.toNat (by omega);simp;omega
 split
 ·simp
 split
 ·obtain⟨-,-,h1,h2,-⟩:=hx;have:=wN 9 x.a (by omega) (by omega);omega
 ·simp
theorem JJ{x y:Ins}:eqN x y=true↔x=y:=by
 cases x;cases y
 simp[eqN]
end Go.Proofs.YtjpdadobblffmaaGreat
namespace Go.Proofs.YtjpdadobblffmaaGreat
open Go.RowKit Go.ChangeShapes Go.WideShapes Go.ChangeAt Go.Deep
attribute [local irreducible] SW RS RD gJ fA
def mG (l:List Ins) (n:Nat):List Ins:=(l.take n).map MV
theorem PT{l:List Ins}{j:Nat}{x:Ins}(h:l[j]? =some x):mG l (j+1)=mG l j++ [MV x]:=by
 unfold mG;rw[List.take_add_one,h];simp
theorem UI{l:List Ins}{j:Nat}(h:j≤l.length):(mG l j).length=j:=by unfold mG;simp;omega
theorem aEH{q:Nat}{x:Ins}{e:TypeId}{σ:dY}(h:gU σ q=some (.arr e 1 (x.l.map aX))):Bor σ [q] (.agg (io q x)) (.agg (iv .any x)):=
 WW (.cons (.refl _) (.cons (.refl _) (.cons (.refl _) (.cons (aR h (by simp)) .nil))))
theorem YF(l:List Ins)(hl:l.length≤maxLen)(hw:∀x∈l,x.l.length≤maxLen)(n:Nat)(hn:n≤1000):SCall Tryz.prog 26 [.ro 4 (l.map (iv .any)) .any,.int .i64 n] []
  (fun y σ=>∃q,y=.own q 0 (mG l n).length∧σ=[(q,.arr 46 4 ((mG l n).map (iv .any)))]):=by
 unfold maxLen at hl;refine cC 27 [0,1,4,5,6,15] Tryz.func26 ?_;refine sU ?_;refine kY ?_;refine dG ?_;refine bU 5 46 4 (by decide) rfl (by decide) (aD fun q0 hq0=> ?_);repeat rcases hq0 with⟨_,hq0⟩
 refine lp (β:=Nat×Nat) (fun b=>⟨[(0,.ro 4 (l.map (iv .any)) .any),(1,.int .i64 n),(5,.own b.1 0 (mG l b.2).length),(6,.int .i64 b.2)],[(b.1,.arr 46 4 ((mG l b.2).map (iv .any)))]⟩) (fun b=>b.2≤n∧b.2≤l.length) (fun b=>n-b.2) (q0,0) aK ⟨by omega,by omega⟩ ?_;rintro⟨q,j⟩ ⟨hj,hjl⟩;dsimp only at hj hjl⊢;refine cL ?_;refine lU ?_;refine EY ?_;refine qV ?_;refine aEi ?_;refine tW ?_;refine aB rfl (fun g3=> ?_) (fun g3=> ?_)
 ·replace g3:=bT g3
  obtain⟨x,hx⟩:∃x,l[j]? =some x:=⟨_,List.getElem?_eq_getElem (by omega)⟩
  have hxm:=hw x (List.mem_of_getElem? hx);have hnx:=PT hx;have hbl:=UI hjl;refine cL ?_;refine mB ?_;refine cw [] Tryz.call81 (aBE x hxm) rfl aC aA ?_;rintro _ σ' ⟨q2,rfl,rfl⟩ h23
  replace h23:=iC h23;repeat rcases h23 with⟨_,h23⟩
  apply aT;(exact bF);refine jB (j:=23) rfl bP (aEH bH) ?_;refine z1 ?_;refine aD fun r24 h24=> ?_;repeat rcases h24 with⟨_,h24⟩
  refine jY ((mG l j++ [MV x]).map (iv .any)) (mG l j++ [MV x]).length ?_;refine bM fun r25 h25=> ?_;repeat rcases h25 with⟨_,h25⟩
  refine iE ?_;refine AS ?_;refine⟨(r25,j+1),⟨by show j+1≤n;omega,by show j+1≤l.length;omega⟩,by show n-(j+1)<n-j;omega, ?_⟩;dsimp only;rw[hnx];exact aK
 have he:mG l j=mG l n:=by
  have:j=n∨j=l.length:=by replace g3:=bT g3;omega
  rcases this with rfl|rfl
  ·rfl
  ·unfold mG;rw[List.take_of_length_le (Nat.le_refl _),List.take_of_length_le hj]
 rw[he];refine fN ?_;apply aF;exact aG
 ·exact⟨q,rfl,rfl⟩
 ·exact aA
end Go.Proofs.YtjpdadobblffmaaGreat
namespace Go.Proofs.YtjpdadobblffmaaGreat
open Go.RowKit Go.ChangeShapes Go.WideShapes Go.ChangeAt Go.Deep
theorem JK{H:Type}{enc:TypeId×Value→H}{P:Program}{W:World}{fuel:Nat}{t:TypeId}{n:Nat}{fs:Array Field}{cs:List Value}{x:DataW H×List MemPlace}(hs:P.underlying t=some (.struct fs))(hC:P.cellsOf t=n)
  (h:DataW.trod enc P W 0 (fun _=>true) true fuel t cs=some x):cs.length=n∧∀(i:Nat) (f:Field),fs[i]? =some f→∃m y,DataW.trod enc P W 0 (fun _=>true) true m f.type ((cs.drop f.offset).take (P.cellsOf f.type))=some y:=by
 obtain⟨xs,m,_,_,hl,hxl,hf⟩:=DataW.trod_struct hs h;refine⟨hl.trans hC,fun i f hi=> ?_⟩;have hlt:i<xs.length:=by rw[hxl];exact(Array.getElem?_eq_some_iff.1 hi).1
 exact⟨m,_,(hf i f hi).trans (List.getElem?_eq_getElem hlt)⟩
theorem aBH{P:Program}{f:Func}(h:(f.params.toList.all fun t=>P.readableRec t&&decide (t<P.types.size))=true):∀t∈f.params.toList,P.readableRec t=true∧t<P.types.size:=by
 intro t ht;have:=List.all_eq_true.1 h t ht;simpa using this
def WC (W:World):AV→Value→Prop:=VR (fun _=>none) (fun b=>b<W.heap.size) W
structure RdA (P:Program) (t:TypeId) (α:Type) (sz:Nat) (en:α→List AV) (ok:α→Prop):Prop where
 cells:P.cellsOf t=sz
 shape:∀a,(en a).length=sz∧∀x∈en a,x.cell=true
 read:∀(H:Type) (enc:TypeId×Value→H) (W:World) (fuel:Nat) (cs:List Value) (x:DataW H×List MemPlace),DataW.trod enc P W 0 (fun _=>true) true fuel t cs=some x→
  ∃a:α,ok a∧cs.length=sz∧∀(j:Nat) (x:AV) (u:Value),(en a)[j]? =some x→cs[j]? =some u→WC W x u
section
variable {P : Program} {t : TypeId}
theorem xX{sz by_:Nat}{z:Value}(i2:Tz P t sz by_ z):P.cellsOf t=sz:=by
 obtain⟨i,h1,_,h2,_⟩:=Tz.parts P t;simp[Program.cellsOf,h1,h2]
theorem JL{W:World}{x:AV}{u:Value}(h:WC W x u):∀(j:Nat) (y:AV) (v:Value),[x][j]? =some y→ [u][j]? =some v→WC W y v:=by
 intro j y v hy hv
 match j with
 |0=>
  simp at hy hv;subst hy hv;exact h
 |j+1=>simp at hy
theorem JM{sz by_:Nat}{z:Value}{k:IntKind} [i:Ty P t (.int k)] [i2:Tz P t sz by_ z] (hsz:sz=1):RdA P t Int 1 (fun n=>[.int k n]) (fun n=>(Lit.int k n).wf=true):=by
 subst hsz;refine⟨xX i2,fun a=>⟨rfl,by simp[AV.cell]⟩,fun H enc W fuel cs x h=> ?_⟩;obtain⟨n,rfl,_,hw⟩:=DataW.trod_int i.und h;exact⟨n,hw,rfl,JL (.int k n)⟩
theorem HC{α:Type}{e:TypeId}{sz szs by_:Nat}{z:Value}{en:α→List AV}{ok:α→Prop} [i:Ty P t (.slice e)] [i2:Tz P t szs by_ z] (hsz:szs=1)(hpos:0<sz)(he:RdA P e α sz en ok):
  RdA P t (List α) 1 (fun l=>[.ro sz (l.map en) .any]) (fun l=>l.length≤maxLen∧∀a∈l,ok a):=by
 subst hsz;refine⟨xX i2,fun a=>⟨rfl,by simp[AV.cell]⟩,fun H enc W fuel cs x h=> ?_⟩;rcases open_slice i.und h with⟨rfl,_⟩|⟨a,len,cap,m,n,D,Pl,rfl,_,hl,hm,hmm,_,hi⟩
 ·exact⟨[],⟨Nat.zero_le _,by simp⟩,rfl,JL (.ro0 (Nat.zero_le _) (fun _=>rfl) (fun h=>by cases h) (fun h=>by cases h))⟩
 ·simp only[if_true]at hmm;subst hmm;rcases Nat.eq_zero_or_pos len with rfl|hlen
  ·exact⟨[],⟨Nat.zero_le _,by simp⟩,rfl,JL (.ro0 hm (fun h=>by cases h) (fun h=>by cases h) (fun h=>by cases h))⟩
  obtain⟨b,off,spot⟩:=a;have hspot:spot=none∧b<W.heap.size:=by
   obtain⟨us0,hc0,_⟩:=hi 0 (by omega);obtain⟨_,hul0,hat0⟩:=World.cells?_some hc0;rw[he.cells]at hul0 hat0;have h00:=hat0 0 hpos;rw[List.getElem?_eq_getElem (by omega)]at h00;simp only[Nat.zero_mul]at h00;have hs:spot=none:=by simpa[Addr.add]using World.cell?_spot h00
   refine⟨hs, ?_⟩;have:=World.block_lt_of_cell? _ _ h00
   rwa [nY,nY]at this
  obtain⟨rfl,hlt⟩:=hspot;have hex:∀i:Nat,∃y:Option (α×List Value),i<len→∃z us,y=some (z,us)∧ok z∧us.length=sz∧(∀(j:Nat) (u:Value),us[j]? =some u→W.cell? ⟨b,off+i*sz+j,none⟩=some u)∧∀(j:Nat) (x:AV) (u:Value),(en z)[j]? =some x→us[j]? =some u→WC W x u:=by
   intro i;by_cases hlt:i<len
   ·obtain⟨us,hc,htr⟩:=hi i (by omega);obtain⟨z,hz,hzl,hzv⟩:=he.read H enc W n us _ htr;obtain⟨_,hul,hat⟩:=World.cells?_some hc;rw[he.cells]at hul hat;refine⟨some (z,us),fun _=>⟨z,us,rfl,hz,hzl,fun j u hu=> ?_,hzv⟩⟩;have hj:j<sz:=by have:=(List.getElem?_eq_some_iff.1 hu).1;omega
    have:=hat j hj;rw[hu,BX,Addr.add_lit]at this;rw[Nat.add_assoc];exact this
   ·exact⟨none,fun h=>absurd h hlt⟩
  obtain⟨f,hf⟩:=Classical.axiomOfChoice hex;obtain⟨d,d2,_⟩:=hf 0 (by omega)
  let g:Nat→α×List Value:=fun i=>(f i).getD (d,d2)
  have hg:∀i,i<len→ok (g i).1∧(g i).2.length=sz∧(∀(j:Nat) (u:Value),(g i).2[j]? =some u→W.cell? ⟨b,off+i*sz+j,none⟩=some u)∧∀(j:Nat) (x:AV) (u:Value),(en (g i).1)[j]? =some x→(g i).2[j]? =some u→WC W x u:=by
   intro i hlt;obtain⟨z,us,hz,h1,h2,h3,h4⟩:=hf i hlt;have:g i=(z,us):=by show(f i).getD _=_;rw[hz];rfl
   rw[this];exact⟨h1,h2,h3,h4⟩
  have hpick:∀(i:Nat) (e:List AV) (j:Nat) (a:AV),(((List.range len).map fun i=>(g i).1).map en)[i]? =some e→e[j]? =some a→i<len∧(en (g i).1)[j]? =some a∧∃u,(g i).2[j]? =some u∧u=((g i).2[j]?).getD Go.undef:=by
   intro i e j a hie hja;have hlt:i<len:=by have:=(List.getElem?_eq_some_iff.1 hie).1;simpa using this
   rw[List.getElem?_map,List.getElem?_map,List.getElem?_range hlt]at hie;simp at hie;subst hie;refine⟨hlt,hja, ?_⟩;have hj:j<(g i).2.length:=by
    rw[(hg i hlt).2.1,←(he.shape (g i).1).1];exact(List.getElem?_eq_some_iff.1 hja).1
   exact⟨(g i).2[j],List.getElem?_eq_getElem hj,by simp[List.getElem?_eq_getElem hj]⟩
  refine⟨(List.range len).map (fun i=>(g i).1),⟨by simp;omega, ?_⟩,rfl,JL ?_⟩
  ·intro a ha;simp only[List.mem_map,List.mem_range]at ha;obtain⟨i,hi,rfl⟩:=ha;exact(hg i hi).1
  ·have hlen':(((List.range len).map fun i=>(g i).1).map en).length=len:=by simp
   have key:=VR.ro (M:=fun _=>none) (F:=fun b=>b<W.heap.size) (w:=W) (es:=((List.range len).map fun i=>(g i).1).map en) (k:=.any) (b:=b) (o:=off) (sz:=sz) (cap:=m)
    (us:=fun i j=>((g i).2[j]?).getD Go.undef) hlt ?_ ?_ ?_ (by rw[hlen'];exact hl) hm (fun h=>by cases h) (fun h=>by cases h)
   ·rw[hlen']at key;exact key
   ·intro x hx;simp only[List.mem_map]at hx;obtain⟨a,_,rfl⟩:=hx;exact he.shape a
   ·intro i e j a hie hja;obtain⟨h1,h2,u,hu,hu'⟩:=hpick i e j a hie hja;rw[←hu'];exact(hg i h1).2.2.1 j u hu
   ·intro i e j a hie hja;obtain⟨h1,h2,u,hu,hu'⟩:=hpick i e j a hie hja;rw[←hu'];exact(hg i h1).2.2.2 j a u h2 hu
structure RdF (P:Program) (fs:List Field) (off:Nat) (α:Type) (sz:Nat) (en:α→List AV) (ok:α→Prop):Prop where
 shape:∀a,(en a).length=sz∧∀x∈en a,x.cell=true
 read:∀(H:Type) (enc:TypeId×Value→H) (W:World) (cs:List Value),cs.length=off+sz→(∀f∈fs,∃m y,DataW.trod enc P W 0 (fun _=>true) true m f.type ((cs.drop f.offset).take (P.cellsOf f.type))=some y)→
  ∃a:α,ok a∧∀(j:Nat) (x:AV) (u:Value),(en a)[j]? =some x→cs[off+j]? =some u→WC W x u
theorem aBI{α:Type}{sz off:Nat}{en:α→List AV}{ok:α→Prop}{f:Field}(h:RdA P f.type α sz en ok)(ho:f.offset=off):RdF P [f] off α sz en ok:=by
 refine⟨h.shape,fun H enc W cs hl hf=> ?_⟩;obtain⟨m,y,hy⟩:=hf f (by simp);obtain⟨a,h1,h2,h3⟩:=h.read H enc W m _ y hy;refine⟨a,h1,fun j x u hx hu=>h3 j x u hx ?_⟩;have hj:=(List.getElem?_eq_some_iff.1 hx).1;rw[(h.shape a).1]at hj;rw[List.getElem?_take,h.cells,if_pos hj,List.getElem?_drop,ho,hu]
theorem CT{α β:Type}{sz sz' off:Nat}{en:α→List AV}{ok:α→Prop}{en':β→List AV}{ok':β→Prop}{f:Field}{fs:List Field}(h:RdA P f.type α sz en ok)(ho:f.offset=off)
  (k:RdF P fs (off+sz) β sz' en' ok'):RdF P (f::fs) off (α×β) (sz+sz') (fun p=>en p.1++en' p.2) (fun p=>ok p.1∧ok' p.2):=by
 refine⟨fun a=>⟨by simp[(h.shape a.1).1,(k.shape a.2).1],fun x hx=>(List.mem_append.1 hx).elim ((h.shape a.1).2 x) ((k.shape a.2).2 x)⟩,fun H enc W cs hl hf=> ?_⟩;obtain⟨m,y,hy⟩:=hf f (by simp);obtain⟨a,h1,h2,h3⟩:=h.read H enc W m _ y hy;obtain⟨b,k1,k2⟩:=k.read H enc W cs (by omega) (fun f' hf'=>hf f' (by simp[hf']));refine⟨(a,b),⟨h1,k1⟩,fun j x u hx hu=> ?_⟩;have hsz:(en a).length=sz:=(h.shape a).1;dsimp only at hx;by_cases hj:j<sz
 ·refine h3 j x u ?_ ?_
  ·rwa [List.getElem?_append_left (by omega)]at hx
  ·rw[List.getElem?_take,h.cells,if_pos hj,List.getElem?_drop,ho,hu]
 ·refine k2 (j-sz) x u ?_ ?_
  ·rw[List.getElem?_append_right (by omega),hsz]at hx;exact hx
  ·rw[show off+sz+(j-sz)=off+j by omega];exact hu
theorem PU{α:Type}{fs:List Field}{sz by_:Nat}{z:Value}{en:α→List AV}{ok:α→Prop} [i:Ty P t (.struct fs.toArray)] [i2:Tz P t sz by_ z] (h:RdF P fs 0 α sz en ok):RdA P t α sz en ok:=by
 refine⟨xX i2,h.shape,fun H enc W fuel cs x hx=> ?_⟩;obtain⟨hl,hf⟩:=JK i.und (xX i2) hx;obtain⟨a,h1,h2⟩:=h.read H enc W cs (by omega) (fun f hfm=>by
  obtain⟨j,hj⟩:=List.getElem?_of_mem hfm;exact hf j f (by simpa using hj))
 exact⟨a,h1,by omega,fun j x u hx hu=>h2 j x u hx (by simpa using hu)⟩
theorem JN{α:Type}{en:α→List AV}{ok:α→Prop}(h:RdA P t α 1 en ok){H:Type}{enc:TypeId×Value→H}{W:World}{v:Value}{d:DataW H}{p:List MemPlace}(hv:v.cells.toList=[v])
  (hd:DataW.Trod enc P W 0 (fun _=>true) true t v d p):∃a,ok a∧WC W ((en a).headD .undef) v:=by
 obtain⟨fuel,hf⟩:=hd;rw[hv]at hf;obtain⟨a,h1,h2,h3⟩:=h.read H enc W fuel _ _ hf;refine⟨a,h1, ?_⟩;have hl:=(h.shape a).1
 match he:en a,hl with
 |[x],_=>exact h3 0 x v (by rw[he];rfl) rfl
end
theorem aBJ{P:Program}{f:FuncId}{args:List AV}(h:SCall P f args [] (fun x _=>x=.bool true)){W:World}{vs:List Value}(hl:vs.length=args.length)(hv:∀(i:Nat) (x:AV) (v:Value),args[i]? =some x→vs[i]? =some v→WC W x v):
  Calls P f vs.toArray W fun e w'=>e=.returned (.bool true)∧Below W.heap.size W w':=by
 refine(h (fun _=>none) (fun b=>b<W.heap.size) 0 W vs hl hv ⟨by simp,by simp,fun g ⟨p,hp,_⟩=>by simp at hp,fun _ h=>h,fun _ _=>rfl⟩).mono ?_;rintro e w' ⟨v,x,M',F',N',σ',rfl,he,hvx,_,rfl⟩;cases hvx
 exact⟨rfl,he.only.below (Nat.le_refl _) fun i _ ⟨p,hp,_⟩=>by simp at hp⟩
theorem aEI{W:World}:∀(i:Nat) (x:AV) (v:Value),([]:List AV)[i]? =some x→([]:List Value)[i]? =some v→WC W x v:=fun i x v h=>by simp at h
theorem BH{W:World}{x:AV}{v:Value}{xs:List AV}{vs:List Value}(h:WC W x v)(k:∀(i:Nat) (x:AV) (v:Value),xs[i]? =some x→vs[i]? =some v→WC W x v):
  ∀(i:Nat) (x':AV) (v':Value),(x::xs)[i]? =some x'→(v::vs)[i]? =some v'→WC W x' v':=by
 intro i x' v' hx hv
 match i with
 |0=>simp at hx hv;subst hx hv;exact h
 |i+1=>exact k i x' v' (by simpa using hx) (by simpa using hv)
abbrev LF (a:Int):Prop:=(Lit.int .i64 a).wf=true
theorem JO{n:Int}(h:LF n):-9223372036854775808≤n∧n≤9223372036854775807:=by
 simp[LF,Lit.wf,IntKind.min,IntKind.max,IntKind.signed,IntKind.bits]at h;omega
theorem aG8:RdA Tryz.prog 3 Int 1 (fun n=>[.int .i64 n]) LF:=JM (t:=3) (k:=.i64) rfl
theorem RR:RdA Tryz.prog 2 Int 1 (fun n=>[.int .i64 n]) LF:=JM (t:=2) (k:=.i64) rfl
theorem CU:RdA Tryz.prog 24 (List Int) 1 (fun l=>[.ro 1 (l.map aX) .any]) (fun l=>l.length≤maxLen∧∀a∈l,LF a):=HC rfl (by decide) (JM (t:=3) (k:=.i64) rfl)
theorem aBK{P:Program}{t:TypeId}{α β:Type}{sz:Nat}{en:α→List AV}{ok:α→Prop}(f:α→β)(g:β→α)(hg:∀a,g (f a)=a)(h:RdA P t α sz en ok):RdA P t β sz (fun b=>en (g b)) (fun b=>ok (g b)):=
 ⟨h.cells,fun b=>h.shape (g b),fun H enc W fuel cs x hx=>by
  obtain⟨a,h1,h2,h3⟩:=h.read H enc W fuel cs x hx;exact⟨f a,by rw[hg];exact h1,h2,by rw[hg];exact h3⟩⟩
theorem aEJ{P:Program}{t:TypeId}{α:Type}{sz:Nat}{en:α→List AV}{ok ok':α→Prop}(hk:∀a,ok a→ok' a)(h:RdA P t α sz en ok):RdA P t α sz en ok':=
 ⟨h.cells,h.shape,fun H enc W fuel cs x hx=>by
  obtain⟨a,h1,h2,h3⟩:=h.read H enc W fuel cs x hx;exact⟨a,hk a h1,h2,h3⟩⟩
def Ins.Wf (x:Ins):Prop:=(-9223372036854775808≤x.op∧x.op≤9223372036854775807)∧(-9223372036854775808≤x.a∧x.a≤9223372036854775807)∧(-9223372036854775808≤x.b∧x.b≤9223372036854775807)∧x.l.length≤maxLen∧∀a∈x.l,-9223372036854775808≤a∧a≤9223372036854775807
theorem aBL:RdA Tryz.prog 46 Ins 4 (iv .any) Ins.Wf:=by
 have h:RdA Tryz.prog 46 (Int×Int×Int×List Int) 4 (fun p:Int×Int×Int×List Int=>[.int .i64 p.1]++(fun p:Int×Int×List Int=>[.int .i64 p.1]++(fun p:Int×List Int=>[.int .i64 p.1]++ [.ro 1 (p.2.map aX) .any]) p.2) p.2) (fun p=>LF p.1∧LF p.2.1∧LF p.2.2.1∧(p.2.2.2.length≤maxLen∧∀a∈p.2.2.2,LF a)):=by
  refine PU ?_;refine CT (f:=⟨_,_,_,_,_,_,_⟩) (sz':=3) (en:=fun n=>[.int .i64 n]) (ok:=LF) (en':=fun p:Int×Int×List Int=>[.int .i64 p.1]++(fun p:Int×List Int=>[.int .i64 p.1]++ [.ro 1 (p.2.map aX) .any]) p.2) (ok':=fun p=>LF p.1∧LF p.2.1∧(p.2.2.length≤maxLen∧∀a∈p.2.2,LF a)) aG8 rfl ?_;refine CT (f:=⟨_,_,_,_,_,_,_⟩) (sz':=2) (en:=fun n=>[.int .i64 n]) (ok:=LF) (en':=fun p:Int×List Int=>[.int .i64 p.1]++ [.ro 1 (p.2.map aX) .any]) (ok':=fun p=>LF p.1∧(p.2.length≤maxLen∧∀a∈p.2,LF a)) RR rfl ?_;refine CT (f:=⟨_,_,_,_,_,_,_⟩) (sz':=1) (en:=fun n=>[.int .i64 n]) (ok:=LF) (en':=fun l:List Int=>[.ro 1 (l.map aX) .any]) (ok':=fun l:List Int=>l.length≤maxLen∧∀a∈l,LF a) RR rfl ?_;exact aBI CU rfl
 have h2:=aBK (fun p:Int×Int×Int×List Int=>(⟨p.1,p.2.1,p.2.2.1,p.2.2.2⟩:Ins)) (fun c=>(c.op,c.a,c.b,c.l)) (fun _=>rfl) h;exact aEJ (fun x hx=>⟨JO hx.1,JO hx.2.1,JO hx.2.2.1,hx.2.2.2.1,fun a ha=>JO (hx.2.2.2.2 a ha)⟩) h2
theorem YG:RdA Tryz.prog 42 (List Ins) 1 (fun l=>[.ro 4 (l.map (iv .any)) .any]) (fun l=>l.length≤maxLen∧∀x∈l,x.Wf):=HC rfl (by decide) aBL
theorem xY:∀ {M:List Ins},(∀x∈M,x.Ok∧dC x=true)→(M.flatMap gP).length≤200*M.length
 |[],_=>by simp
 |x::M,h=>by
  have ih:=xY (M:=M) fun y hy=>h y (List.mem_cons_of_mem _ hy)
  have h1:=uG (h x List.mem_cons_self).1 (h x List.mem_cons_self).2;simp only[List.flatMap_cons,List.length_append,List.length_cons];omega
theorem MW{M:List Ins}(h:∀x∈M,x.Ok∧dC x=true):∀b∈M.flatMap gP,b<256:=by
 intro b hb;obtain⟨x,hx,hb⟩:=List.mem_flatMap.1 hb;exact RQ (h x hx).2 b hb
theorem aEK{x:Ins}(h:x.Wf):(MV x).Ok:=⟨h.1.1,h.1.2,h.2.1.1,h.2.1.2,by simp[MV];omega⟩
theorem aBM{l:List Ins}(h:∀x∈l,x.Wf)(n:Nat):∀x∈mG l n,x.Ok:=by
 intro x hx;obtain⟨y,hy,rfl⟩:=List.mem_map.1 hx;exact aEK (h y (List.mem_of_mem_take hy))
def Sp (l:List Nat) (n m:Nat) (p:List Nat):Prop:=l.drop n=p++l.drop m∧m=n+p.length∧m≤l.length
theorem Sp.trans {l:List Nat}{n m k:Nat}{p q:List Nat}(h:Sp l n m p)(g:Sp l m k q):Sp l n k (p++q):=
 ⟨by rw[h.1,g.1,List.append_assoc],by rw[g.2.1,h.2.1,List.length_append];omega,g.2.2⟩
theorem Sp.nil {l:List Nat}{n:Nat}(h:n≤l.length):Sp l n n []:=⟨rfl,by simp,h⟩
theorem RU{l:List Nat}{n k:Nat}(h:n+k≤l.length):Sp l n (n+k) ((l.drop n).take k):=by
 have hk:((l.drop n).take k).length=k:=by simp;omega
 refine⟨?_,by rw[hk],h⟩;rw[←List.drop_drop];exact(List.take_append_drop k (l.drop n)).symm
theorem PV{l:List Nat}{n:Nat}(hn:n≤l.length)(h:(oD l n 0).2.2=0):Sp l n (oD l n 0).2.1 [(oD l n 0).1]∧(oD l n 0).1∈l:=by
 unfold oD at h⊢;rw[if_neg (by simp)]at h⊢;by_cases hc:((n:Int)==(l.length:Int))=true
 ·rw[if_pos hc]at h;cases h
 ·rw[if_neg hc];have hlt:n<l.length:=by simp at hc;omega
  dsimp only;rw[getElem!_pos l n hlt];exact⟨⟨by rw[List.drop_eq_getElem_cons hlt];rfl,rfl,hlt⟩,List.getElem_mem hlt⟩
theorem wR{l:List Nat}{lim:Int}{n:Nat}(hn:n≤l.length)(h:(gV l lim n 0).2.2=0):Sp l n (gV l lim n 0).2.1 (uB (gV l lim n 0).1)∧((gV l lim n 0).1:Int)≤lim∧(gV l lim n 0).1<4294967296:=by
 obtain⟨b1,b2,-⟩:=xT (l.drop n);unfold gV at h⊢;rw[if_neg (by simp)]at h⊢;split at h
 ·next h1=>simp at h1;exact absurd h (by simpa using h1)
 ·next h1=>
  rw[if_neg h1];split at h
  ·cases h
  ·next h2=>
   rw[if_neg h2];dsimp only;simp only[decide_eq_true_eq,Int.not_lt]at h2;refine⟨?_,h2,b1⟩;simp only[bne_iff_ne,ne_eq,Decidable.not_not]at h1;unfold lB at h1 b2⊢;split at h1
   ·next h3=>exact absurd h1 h3
   ·next h3=>
    rw[if_neg h3]at b2⊢;split at h1
    ·next h4=>
     rw[if_pos h4]at b2⊢;rw[h4.1];simp at b2;exact RU (by simp;omega)
    ·cases h1
theorem MX(n:Int):-9223372036854775808≤IntKind.i64.wrap n∧IntKind.i64.wrap n≤9223372036854775807:=by
 have h1:(2:Int)^IntKind.i64.bits=18446744073709551616:=by decide
 have h3:(2:Int)^(IntKind.i64.bits-1)=9223372036854775808:=by decide
 have h2:IntKind.i64.signed=true:=rfl;unfold IntKind.wrap;simp only[h1,h2,h3,Bool.true_and,decide_eq_true_eq];split<;>omega
theorem YH{l:List Nat}{bits:Nat}(hb:bits=32∨bits=64){n:Nat}(hn:n≤l.length)(h:(AH l bits n).2.2=0):Sp l n (AH l bits n).2.1 (sB (AH l bits n).1)∧(-9223372036854775808≤(AH l bits n).1∧(AH l bits n).1≤9223372036854775807)∧(bits=32→ -2147483648≤(AH l bits n).1∧(AH l bits n).1≤2147483647):=by
 have hv:∀t:List Nat,-9223372036854775808≤lI t∧lI t≤9223372036854775807:=by
  intro t
  match t with
  |[]=>simp[lI]
  |[b]=>unfold lI;split<;>omega
  |b::c::t=>
   rw[lI];exact MX _
 have b2:=RO bits (l.drop n);unfold AH at h⊢;dsimp only at h⊢;unfold vR at h b2⊢;split at h
 ·next h3=>exact absurd h h3
 ·next h3=>
  rw[if_neg h3]at b2⊢;split at h
  ·next h4=>
   rw[if_pos h4]at b2⊢;dsimp only at b2⊢;refine⟨?_,hv _,h4.2⟩;rw[h4.1];simp at b2;exact RU (by omega)
  ·cases h
theorem YI{l:List Nat}{n:Nat}(hn:n≤l.length)(h:(JB l n 0).2=0):Sp l n (JB l n 0).1 [0]:=by
 unfold JB at h⊢;split at h
 ·cases h
 ·next h1=>
  rw[if_neg h1];have:=(PV hn h).1;rw[show(oD l n 0).1=0 by simpa using h1]at this;exact this
theorem aEL{l:List Nat}{n:Nat}{e:Int}(h:e≠0):oD l n e=(0,n,e):=by unfold oD;rw[if_pos (by simpa using h)]
theorem JP{l:List Nat}{lim:Int}{n:Nat}{e:Int}(h:e≠0):gV l lim n e=(0,n,e):=by unfold gV;rw[if_pos (by simpa using h)]
theorem aEM{l:List Nat}{n:Nat}(hn:n≤l.length)(h:(JD l n 0).2.2=0):Sp l n (JD l n 0).2.1 [uD (JD l n 0).1]∧0≤(JD l n 0).1∧(JD l n 0).1≤2:=by
 unfold JD at h⊢;by_cases h1:(if decide (uF (oD l n 0).1<0)=true then((oD l n 0).2.2==0)else false)=true
 ·rw[if_pos h1]at h;cases h
 ·rw[if_neg h1]at h⊢;dsimp only at h⊢;obtain⟨s,-⟩:=PV hn h;have hk:¬uF (oD l n 0).1<0:=by
   intro hk;rw[h,if_pos (by simpa using hk)]at h1;exact h1 rfl
  rw[if_neg hk];generalize hc:(oD l n 0).1=c at hk s⊢;have:c=64∨c=127∨c=126:=by
   by_cases c1:c=64
   ·exact .inl c1
   by_cases c2:c=127
   ·exact .inr (.inl c2)
   by_cases c3:c=126
   ·exact .inr (.inr c3)
   exfalso;apply hk;unfold uF PQ;rw[show([64,127,126]:List Int).findIdx? (· ==(c:Int))=none by
    simp only[List.findIdx?_cons,List.findIdx?_nil];rw[if_neg (by simp;omega),if_neg (by simp;omega),if_neg (by simp;omega)];rfl]
   decide
  rcases this with rfl|rfl|rfl<;>exact⟨s,by decide,by decide⟩
theorem PW{l:List Nat}{n:Nat}{e:Int}(h:e≠0):∀m,(qK l m n e).2.2≠0
 |0=>h
 |m+1=>by
  rw[qK];dsimp only;rw[JP (PW h m)];exact PW h m
theorem YJ{l:List Nat}{n:Nat}(hn:n≤l.length):∀m,(qK l m n 0).2.2=0→Sp l n (qK l m n 0).2.1 ((qK l m n 0).1.flatMap fun z=>uB z.toNat)∧∀z∈(qK l m n 0).1,0≤z∧z≤1000
 |0,_=>⟨Sp.nil hn,by simp[qK]⟩
 |m+1,h=>by
  rw[qK]at h⊢;dsimp only at h⊢;have h0:(qK l m n 0).2.2=0:=by
   by_cases hc:(qK l m n 0).2.2=0
   ·exact hc
   ·rw[JP hc]at h;exact h
  obtain⟨s,hz⟩:=YJ hn m h0;rw[h0]at h⊢;obtain⟨s2,h2,-⟩:=wR s.2.2 h;refine⟨?_,fun z hz2=> ?_⟩
  ·rw[List.flatMap_append];simpa using s.trans s2
  ·rcases List.mem_append.1 hz2 with hz2|hz2
   ·exact hz z hz2
   ·rw[List.mem_singleton.1 hz2];omega
theorem rZ{x:Ins}{n:Nat}{e:Int}(h:(mF x n e).2.2=0):e=0∧mF x n e=(x,n,0):=by
 unfold mF at h⊢;by_cases he:e=0
 ·subst he;exact⟨rfl,rfl⟩
 ·rw[if_pos (by simpa using he)]at h;exact absurd h he
theorem aEN{l:List Nat}{n:Nat}{e:Int}(h:e≠0):(JB l n e).2≠0:=by unfold JB;rw[aEL h,if_neg (by simp)];exact h
theorem UJ(op:Int):aZ op=0∨aZ op=1∨aZ op=2∨aZ op=3∨aZ op=4∨aZ op=5∨aZ op=6∨aZ op=7∨aZ op=8∨aZ op=9:=by
 unfold aZ iX;repeat' split
 all_goals simp
theorem PX{l:List Nat}{op:Nat}(hop:op<256){n:Nat}(hn:n≤l.length)(hf:(aZ (op:Int)==0)=false)(h:(rY l op n 0).2.2=0):
  (rY l op n 0).1.op=op∧(rY l op n 0).1.Ok∧dC (rY l op n 0).1=true∧Sp l n (rY l op n 0).2.1 (fX (rY l op n 0).1):=by
 unfold rY at h⊢;by_cases g2:(aZ (op:Int)==2)=true
 ·simp only[g2,if_true]at h⊢;obtain⟨he,hx⟩:=rZ h;rw[hx];obtain⟨s,k1,k2⟩:=aEM hn he;have e2:aZ (op:Int)=2:=by simpa using g2
  refine⟨rfl,⟨by dsimp only;omega,by dsimp only;omega,by dsimp only;omega,by dsimp only;omega,by simp⟩,by simp[dC,jG,e2,jW];omega, ?_⟩;simp only[fX,e2];exact s
 simp only[g2,Bool.false_eq_true,if_false]at h⊢;by_cases g3:(aZ (op:Int)==3)=true
 ·simp only[g3,if_true]at h⊢;obtain⟨he,hx⟩:=rZ h;rw[hx];obtain⟨s,k1,k2⟩:=wR hn he;have e2:aZ (op:Int)=3:=by simpa using g3
  refine⟨rfl,⟨by dsimp only;omega,by dsimp only;omega,by dsimp only;omega,by dsimp only;omega,by simp⟩,by simp[dC,jG,e2,jW];omega, ?_⟩;simp only[fX,e2];exact s
 simp only[g3,Bool.false_eq_true,if_false]at h⊢;by_cases g5:(aZ (op:Int)==5)=true
 ·simp only[g5,if_true]at h⊢;obtain⟨he,hx⟩:=rZ h;rw[hx];have h0:(gV l 1000 n 0).2.2=0:=by
   by_cases hc:(gV l 1000 n 0).2.2=0
   ·exact hc
   ·exact absurd he (aEN hc)
  obtain⟨s,k1,k2⟩:=wR hn h0;rw[h0]at he⊢;have s2:=YI s.2.2 he;have e2:aZ (op:Int)=5:=by simpa using g5
  refine⟨rfl,⟨by dsimp only;omega,by dsimp only;omega,by dsimp only;omega,by dsimp only;omega,by simp⟩,by simp[dC,jG,e2,jW];omega, ?_⟩;simp only[fX,e2];exact s.trans s2
 simp only[g5,Bool.false_eq_true,if_false]at h⊢;by_cases g4:(aZ (op:Int)==4)=true
 ·simp only[g4,if_true]at h⊢;obtain⟨he,hx⟩:=rZ h;rw[hx];have h1:(qK l (gV l 50 n 0).1 (gV l 50 n 0).2.1 (gV l 50 n 0).2.2).2.2=0:=by
   by_cases hc:(qK l (gV l 50 n 0).1 (gV l 50 n 0).2.1 (gV l 50 n 0).2.2).2.2=0
   ·exact hc
   ·rw[JP hc]at he;exact he
  have h0:(gV l 50 n 0).2.2=0:=by
   by_cases hc:(gV l 50 n 0).2.2=0
   ·exact hc
   ·exact absurd h1 (PW hc _)
  obtain⟨s,k1,k2⟩:=wR hn h0;rw[h0]at h1 he⊢;obtain⟨s2,hz⟩:=YJ s.2.2 _ h1;have hlen:=JF (l:=l) (m:=(gV l 50 n 0).1) (n:=(gV l 50 n 0).2.1) (e:=0);rw[h1]at he⊢;obtain⟨s3,k3,k4⟩:=wR s2.2.2 he;have e2:aZ (op:Int)=4:=by simpa using g4
  generalize qK l (gV l 50 n 0).1 (gV l 50 n 0).2.1 0=w at*;obtain⟨L,m,e⟩:=w;dsimp only at*;have hany:(L.any fun z=> !oB z 0 1000)=false:=by
   rw[List.any_eq_false];intro z hzz;have:=hz z hzz;simp[jW];omega
  refine⟨rfl,⟨by dsimp only;omega,by dsimp only;omega,by dsimp only;omega,by dsimp only;omega,by simp;omega⟩, ?_, ?_⟩
  ·unfold dC jG;dsimp only;rw[e2,hany];simp[jW];omega
  ·unfold fX;dsimp only;rw[e2,hlen];exact(s.trans s2).trans s3
 simp only[g4,Bool.false_eq_true,if_false]at h⊢;by_cases g6:(aZ (op:Int)==6)=true
 ·simp only[g6,if_true]at h⊢;obtain⟨he,hx⟩:=rZ h;rw[hx];have h0:(gV l 3 n 0).2.2=0:=by
   by_cases hc:(gV l 3 n 0).2.2=0
   ·exact hc
   ·rw[JP hc]at he;exact absurd he hc
  obtain⟨s,k1,k2⟩:=wR hn h0;rw[h0]at he⊢;obtain⟨s2,k3,k4⟩:=wR s.2.2 he;have e2:aZ (op:Int)=6:=by simpa using g6
  refine⟨rfl,⟨by dsimp only;omega,by dsimp only;omega,by dsimp only;omega,by dsimp only;omega,by simp⟩,by simp[dC,jG,e2,jW];omega, ?_⟩;simp only[fX,e2];exact s.trans s2
 simp only[g6,Bool.false_eq_true,if_false]at h⊢;by_cases g7:(aZ (op:Int)==7)=true
 ·simp only[g7,if_true]at h⊢;obtain⟨he,hx⟩:=rZ h;rw[hx];have s:=YI hn he;have e2:aZ (op:Int)=7:=by simpa using g7
  refine⟨rfl,⟨by dsimp only;omega,by dsimp only;omega,by simp,by simp,by simp⟩,by simp[dC,jG,e2], ?_⟩;simp only[fX,e2];exact s
 simp only[g7,Bool.false_eq_true,if_false]at h⊢;by_cases g8:(aZ (op:Int)==8)=true
 ·simp only[g8,if_true]at h⊢;obtain⟨he,hx⟩:=rZ h;rw[hx];obtain⟨s,k1,k2⟩:=YH (.inl rfl) hn he;have k2:=k2 rfl;have e2:aZ (op:Int)=8:=by simpa using g8
  refine⟨rfl,⟨by dsimp only;omega,by dsimp only;omega,by dsimp only;omega,by dsimp only;omega,by simp⟩,by simp[dC,jG,e2,jW];omega, ?_⟩;simp only[fX,e2];exact s
 simp only[g8,Bool.false_eq_true,if_false]at h⊢;by_cases g9:(aZ (op:Int)==9)=true
 ·simp only[g9,if_true]at h⊢;obtain⟨he,hx⟩:=rZ h;rw[hx];obtain⟨s,k1,k2⟩:=YH (.inr rfl) hn he;have e2:aZ (op:Int)=9:=by simpa using g9
  refine⟨rfl,⟨by dsimp only;omega,by dsimp only;omega,by dsimp only;omega,by dsimp only;omega,by simp⟩,by simp[dC,jG,e2], ?_⟩;simp only[fX,e2];exact s
 simp only[g9,Bool.false_eq_true,if_false]at h⊢;have e2:aZ (op:Int)=1:=by
  simp at hf g2 g3 g4 g5 g6 g7 g8 g9;have:=UJ (op:Int);omega
 obtain⟨he,hx⟩:=rZ h;rw[hx];refine⟨rfl,⟨by dsimp only;omega,by dsimp only;omega,by simp,by simp,by simp⟩,by simp[dC,jG,e2], ?_⟩;simp only[fX,e2];exact Sp.nil hn
theorem wS{l:List Nat}(hlt:∀x∈l,x<256)(h:(fG l).2.2=0):(fG l).1.Ok∧dC (fG l).1=true∧Sp l 0 (fG l).2.1 (gP (fG l).1):=by
 unfold fG at h⊢;by_cases g1:(aZ ((oD l 0 0).1:Nat)==0)=true
 ·rw[if_pos g1]at h;cases h
 rw[if_neg g1]at h⊢;by_cases g2:((oD l 0 0).2.2 !=0)=true
 ·rw[if_pos g2]at h;rw[show(oD l 0 0).2.2=0 from h]at g2;simp at g2
 rw[if_neg g2]at h⊢;have he:(oD l 0 0).2.2=0:=by simpa using g2
 obtain⟨s,hm⟩:=PV (Nat.zero_le _) he;rw[he]at h⊢;obtain⟨k1,k2,k3,k4⟩:=PX (hlt _ hm) s.2.2 (by simpa using g1) h;refine⟨k2,k3, ?_⟩;have:=s.trans k4;unfold gP;rw[k1];exact this
theorem aI3{P:Prop}(h:P:=by(first|rfl|(simp;done)|(rw[List.drop_zero];exact List.take_of_length_le (by first|(simp;done)|(simp;omega)|omega))|(simp only[List.map_take,List.map_drop,List.drop_zero];done))):P:=h
theorem YK{α:Type}{l:List α}{n:Nat}(h:l.length≤n):(l.drop 0).take n=l:=by rw[List.drop_zero];exact List.take_of_length_le h
theorem aG9{P:Prop}(h:P:=by(first|exact YK (by first|(simp;done)|(simp;omega)|omega)|rfl)):P:=h
section
variable {P : Program} {n : Nat} {ops : Array Oper} {rest : List Oper} {fr : Fr} {σ : dY} {K : ASt → Prop} {op : Op} {ty t t' : TypeId} {pos : String} {af : Array Edge} {x y : Operand} {d : Nat}
variable {listed : Array Bool} {todo : List (Nat × Bool)} {held : List (Nat × List Nat)} {i : Nat}
theorem aHa{e:TypeId}{sz by_:Nat}{zv:Value}{z:Nat}{k:Rk}{ys:List (List AV)}(hi:ops[i]? =some ⟨some d,.call { callee:=.builtin .append,args:=#[x,y],argTypes:=#[t,t] },ty,pos,af,none⟩)(es':List (List AV))(len':Nat)
  (hK:∀r,Fresh r σ→RD P n ops (listed.setIfInBounds i true) todo held ⟨(d,.own r 0 len')::fr,(r,.arr e sz es')::σ⟩ K)
  (i1:Ty P t (.slice e):=by infer_instance) (i2:Tz P e sz by_ zv:=by infer_instance) (hz:zv.cells.size=sz:=by rfl) (h0:Nat.ble 1 sz=true:=by rfl) (hb:aev ⟨fr,σ⟩ x=some (.ro z [] k):=by rfl) (hk:k≠ .any:=by decide) (hy:Src ⟨fr,σ⟩ y sz ys:=by exact aBF) (he:ys=es':=by exact aI3) (hl:len'=ys.length:=by exact JH) (hby:len'*by_≤140737488355328:=by(simp;try omega)) (hd:Nat.ble (d+1) n=true:=by rfl):
  RD P n ops listed ((i,false)::todo) held ⟨fr,σ⟩ K:=by
 subst he hl;exact tR hi (CA (Nat.le_of_ble_eq_true h0) hz hb hk hy hby (dF hd) hK)
end
theorem oF{fr:Fr}{σ σ1 σ':dY}{r q:Nat}{bt:TypeId}{cs cs':List AV}{e:Ent}(hs:SSet σ r (.box bt cs) r (.box bt cs') σ1)(hd:SDel σ1 q e σ')(hb:BorL σ [q] cs cs'):SGo ⟨fr,σ⟩ ⟨fr,σ'⟩:=by
 refine oT [q] (fun i x' hi=>⟨x',hi,.refl _⟩) (fun p hp=> ?_);obtain⟨h1,h2⟩:=hd.sub p hp;refine⟨by simpa using h2, ?_⟩;rcases List.mem_cons.1 (hs.sub p h1)with rfl|h
 ·exact⟨_,bV hs.get,.box (WW hb)⟩
 ·exact⟨p.2,(fC h).1,.refl _⟩
theorem nB{fr:Fr}{σ σ':dY}{o:Nat}{e:TypeId}{sz:Nat}{es:List (List AV)}(k:Nat)(hs:SSet σ o (.arr e sz es) o (.arr e sz (es.take k)) σ'):SGo ⟨fr,σ⟩ ⟨fr,σ'⟩:=by
 intro M F N n a w hr;have hmem:∀p∈σ',(∃x,(p.1,x)∈σ)∧ER M F w p.1 p.2:=by
  intro p hp;rcases List.mem_cons.1 (hs.sub p hp)with rfl|h
  ·refine⟨⟨_,bV hs.get⟩, ?_⟩;obtain⟨h0,h1,h2⟩:=hr.st.ent _ (bV hs.get);refine⟨h0,fun x hx=>h1 x (List.mem_of_mem_take hx), ?_⟩;rcases h2 with⟨h2,h3⟩|⟨g,c,vs,h2,h3,h4,h5,h6,h7⟩
   ·exact .inl ⟨h2,by simp[h3]⟩
   ·refine .inr ⟨g,c,vs,h2,h3,h4,by simp;omega,h6,fun i x j b u hi=> ?_⟩;rw[List.getElem?_take]at hi;split at hi
    ·exact h7 i x j b u hi
    ·cases hi
  ·exact⟨⟨p.2,(fC h).1⟩,hr.st.ent p (fC h).1⟩
 exact⟨M,F,N,⟨hr.size,hr.defers,hr.fr,hr.st.retold hmem⟩,Ext.retold fun p hp=>(hmem p hp).1⟩
theorem jU(a:List Nat):(dV a).size=a.length:=by simp[dV,ByteArray.size]
section
variable {P : Program} {ty t t' : TypeId} {s : ASt} {c : Bool} {x y : Operand}
theorem JQ{e:TypeId} [Ty P t (.slice e)] [Ty P e (.int .u8)] [Ty P t' .string] {bs bs':List Nat}{r off len:Nat}{et:TypeId}(h:Ev s c x (.own r off len))(hg:gU s.σ r=some (.arr et 1 (bs.map aH)):=by exact bH)(hle:off+len≤bs.length:=by exact JH)(hbs:(bs.drop off).take len=bs':=by exact aG9):Lop P (.convert t t' x) ty s c (.str (dV bs')) [r]:=ET h hg hle hbs
end
end Go.Proofs.YtjpdadobblffmaaGreat
namespace Go.Proofs.YtjpdadobblffmaaGreat
open Go.RowKit Go.ChangeShapes Go.WideShapes Go.ChangeAt Go.Deep
attribute [local irreducible] SW RS RD gJ fA
def FI (n:Nat):List AV:=[.int .i64 n]
instance : NoE FI := ⟨fun a x hx => by simp [FI] at hx; subst hx; exact NoF.int⟩
structure Bk where
 at_:Nat
 els:Int
 en:Int
def uH (b:Bk):List AV:=[.int .i64 b.at_,.int .i64 b.els,.int .i64 b.en]
instance : NoE uH := ⟨fun a x hx => by simp [uH] at hx; rcases hx with rfl | rfl | rfl <;> exact NoF.int⟩
def oN (op:Int):Bool:=op==2||op==3||op==4
structure MS where
 all:List Bk
 opn:List Nat
def AW (ops:List Int) (s:MS) (i:Nat) (op:Int):Option MS:=
 match s.opn.getLast? with
 |none=>none
 |some k=>match s.all[k]? with
  |none=>none
  |some b=>if op=11 then some ⟨s.all.set k ⟨b.at_,b.els,i⟩,s.opn.dropLast⟩
   else if ops[b.at_]? ≠some (4:Int)∨0≤b.els then none else some ⟨s.all.set k ⟨b.at_,i,b.en⟩,s.opn⟩
def nL (ops:List Int) (s:MS) (i:Nat) (op:Int):Option MS:=
 if oN op=true then(if s.opn.length=40 then none else some ⟨s.all++ [⟨i,-1,-1⟩],s.opn++ [s.all.length]⟩)
 else if op≠5∧op≠11 then some s else AW ops s i op
def oG (ops:List Int):Nat→Option MS
 |0=>some ⟨[],[]⟩
 |j+1=>match oG ops j,ops[j]? with
  |some s,some op=>nL ops s j op
  | _,_=>none
theorem vF{ops:List Int}{j:Nat}{s:MS}{op:Int}(h:oG ops j=some s)(ho:ops[j]? =some op):oG ops (j+1)=nL ops s j op:=by
 rw[oG,h,ho]
theorem zL{ops:List Int}{j:Nat}(h:oG ops j=none):∀d,oG ops (j+d)=none
 |0=>h
 |d+1=>by rw[←Nat.add_assoc,oG,zL h d]
structure MOk (j:Nat) (s:MS):Prop where
 opn:∀k∈s.opn,k<s.all.length
 at_:∀b∈s.all,b.at_<j
 len:s.opn.length≤40
 all:s.all.length≤j
theorem YL{ops:List Int}{j:Nat}{s s':MS}{op:Int}(h:MOk j s)(hs:nL ops s j op=some s'):MOk (j+1) s':=by
 unfold nL at hs;split at hs
 ·split at hs
  ·cases hs
  ·next h40=>
   obtain rfl:=Option.some.inj hs;refine⟨fun k hk=> ?_,fun b hb=> ?_,by have:=h.len;simp;omega,by have:=h.all;simp;omega⟩
   ·rcases List.mem_append.1 hk with hk|hk
    ·have:=h.opn k hk;simp;omega
    ·rw[List.mem_singleton.1 hk];simp
   ·rcases List.mem_append.1 hb with hb|hb
    ·have:=h.at_ b hb;omega
    ·rw[List.mem_singleton.1 hb];exact Nat.lt_succ_self _
 split at hs
 ·obtain rfl:=Option.some.inj hs;exact⟨h.opn,fun b hb=>Nat.lt_succ_of_lt (h.at_ b hb),h.len,Nat.le_succ_of_le h.all⟩
 unfold AW at hs;split at hs
 ·cases hs
 split at hs
 ·cases hs
 ·next k hk b hb=>
  have hbm:=h.at_ b (List.mem_of_getElem? hb);split at hs
  ·obtain rfl:=Option.some.inj hs;refine⟨fun x hx=> ?_,fun x hx=> ?_,by have:=h.len;simp;omega,by have:=h.all;simp;omega⟩
   ·have:=h.opn x ((List.dropLast_sublist _).subset hx);simpa using this
   ·rcases List.mem_or_eq_of_mem_set hx with hx|rfl
    ·exact Nat.lt_succ_of_lt (h.at_ x hx)
    ·exact Nat.lt_succ_of_lt hbm
  split at hs
  ·cases hs
  ·obtain rfl:=Option.some.inj hs;refine⟨fun x hx=> ?_,fun x hx=> ?_,h.len,by have:=h.all;simp;omega⟩
   ·have:=h.opn x hx;simpa using this
   ·rcases List.mem_or_eq_of_mem_set hx with hx|rfl
    ·exact Nat.lt_succ_of_lt (h.at_ x hx)
    ·exact Nat.lt_succ_of_lt hbm
theorem xZ{ops:List Int}:∀ {j:Nat} {s:MS},oG ops j=some s→MOk j s
 |0,s,h=>by
  obtain rfl:=Option.some.inj h;exact⟨by simp,by simp,by simp,by simp⟩
 |j+1,s,h=>by
  rw[oG]at h;split at h
  ·next s0 op h1 h2=>exact YL (xZ h1) h
  ·cases h
def gQ (ops:List Int):Option (List Bk):=if 300<ops.length then none else match oG ops ops.length with|some ⟨all,[]⟩=>some all| _=>none
def blN (ops:List Int):List Bk:=(gQ ops).getD []
def vS (ops:List Int):Bool:=(gQ ops).isSome
theorem lK{ops:List Int}{j:Nat}(h:oG ops j=none)(hj:j≤ops.length):gQ ops=none:=by
 unfold gQ;split
 ·rfl
 ·have:=zL h (ops.length-j);rw[Nat.add_sub_cancel' hj]at this;rw[this]
def cV (l:List Ins):List Int:=l.map Ins.op
theorem uI{l:List Ins}{j:Nat}{x:Ins}(h:l[j]? =some x):(cV l)[j]? =some x.op:=by simp[cV,h]
theorem nC{ops:List Int}{q:Nat}{t:TypeId}(h:gQ ops=none):∃q2,AV.tup [.own q 0 0,.bool false]=.tup [.own q2 0 (blN ops).length,.bool (vS ops)]∧([(q,.arr t 3 [])]:dY)=[(q2,.arr t 3 ((blN ops).map uH))]:=
 ⟨q,by simp[blN,vS,h],by simp[blN,h]⟩
theorem wT(op:Int):SCall Tryz.prog 186 [.int .i64 op] [] (fun x σ=>x=.bool (oN op)∧σ=[]):=by
 refine cC 13 [0,2] Tryz.func186 ?_;refine fV ?_;refine lo (dD (E rfl) (E rfl)) rfl ?_;refine jK ?_;refine wJ ?_;refine qG ?_;refine jK ?_;refine wJ ?_;refine qG ?_;refine dG ?_;apply aF;exact aG
 ·exact⟨by show AV.bool _=_;congr 1;simp only[aDA,oN],rfl⟩
 ·exact aA
theorem zM{ops:List Int}{s:MS}{j:Nat}{op:Int}(h:oN op=true)(hl:s.opn.length≠40):nL ops s j op=some ⟨s.all++ [⟨j,-1,-1⟩],s.opn++ [s.all.length]⟩:=by
 unfold nL;rw[if_pos h,if_neg hl]
theorem zN{ops:List Int}{s:MS}{j:Nat}{op:Int}(h:oN op=true)(hl:s.opn.length=40):nL ops s j op=none:=by
 unfold nL;rw[if_pos h,if_pos hl]
theorem zO{ops:List Int}{s:MS}{j:Nat}{op:Int}(h:oN op=false)(h1:op≠5)(h2:op≠11):nL ops s j op=some s:=by
 unfold nL;rw[if_neg (by simp[h]),if_pos ⟨h1,h2⟩]
theorem yA{ops:List Int}{s:MS}{j:Nat}{op:Int}(h:oN op=false)(h1:op=5∨op=11):nL ops s j op=AW ops s j op:=by
 unfold nL;rw[if_neg (by simp[h]),if_neg (by omega)]
theorem CV{ops:List Int}{all:List Bk}{j:Nat}{op:Int}:AW ops ⟨all,[]⟩ j op=none:=rfl
theorem JR{ops:List Int}{all:List Bk}{pre:List Nat}{k j:Nat}{b:Bk}(hb:all[k]? =some b):AW ops ⟨all,pre++ [k]⟩ j 11=some ⟨all.set k ⟨b.at_,b.els,j⟩,pre⟩:=by
 unfold AW;simp[hb]
theorem CW{ops:List Int}{all:List Bk}{pre:List Nat}{k j:Nat}{b:Bk}(hb:all[k]? =some b)(h4:ops[b.at_]? =some 4)(he:¬0≤b.els):AW ops ⟨all,pre++ [k]⟩ j 5=some ⟨all.set k ⟨b.at_,j,b.en⟩,pre++ [k]⟩:=by
 unfold AW;simp[hb,h4,he]
theorem JS{ops:List Int}{all:List Bk}{pre:List Nat}{k j:Nat}{b:Bk}(hb:all[k]? =some b)(h:ops[b.at_]? ≠some 4∨0≤b.els):AW ops ⟨all,pre++ [k]⟩ j 5=none:=by
 unfold AW;simp[hb];intro h4;rcases h with h|h
 ·exact absurd h4 h
 ·exact h
theorem JT{pre:List Nat}{k:Nat}:(pre++ [k])[(((pre++ [k]).length:Nat)-1:Int).toNat]? =some k:=by
 rw[show(((pre++ [k]).length:Nat)-1:Int).toNat=pre.length by simp];simp
theorem CX{α:Type}{l:List α}{k:Nat}{x:α}(h:l[k]? =some x):l[(k:Int).toNat]? =some x:=by rw[Int.toNat_natCast];exact h
theorem pC(l:List Ins)(hl:l.length≤100000):SCall Tryz.prog 75 [.ro 4 (l.map (iv .any)) .any] []
  (fun y σ=>∃q,y=.tup [.own q 0 (blN (cV l)).length,.bool (vS (cV l))]∧σ=[(q,.arr 162 3 ((blN (cV l)).map uH))]):=by
 have hol:(cV l).length=l.length:=by simp[cV]
 refine cC 113 [0,2,3,4,5,6,7,8,11,12,13,14,15,30,38,52,61,64,81,111] Tryz.func75 ?_;refine dW ?_;refine mN ?_;refine sQ ?_;refine aB rfl (fun g1=> ?_) (fun g1=> ?_)
 ·refine tX ?_;refine bU 2 162 3 (by decide) rfl (by decide) (aD fun q2 hq2=> ?_);repeat rcases hq2 with⟨_,hq2⟩
  have hN:gQ (cV l)=none:=by unfold gQ;rw[if_pos (by simp at g1;omega)]
  refine aP ?_;apply aF;exact aG
  ·exact nC hN
  ·exact aA
 refine sU ?_;refine iE ?_;refine nI ?_;refine bU 4 162 3 (by decide) rfl (by decide) (aD fun a0 ha0=> ?_);repeat rcases ha0 with⟨_,ha0⟩
 refine bU 5 3 1 (by decide) rfl (by decide) (aD fun o0 ho0=> ?_);repeat rcases ho0 with⟨_,ho0⟩
 refine lp (β:=Nat×Nat×Nat×MS) (fun b=>⟨[(0,.ro 4 (l.map (iv .any)) .any),(4,.own b.1 0 b.2.2.2.all.length),(5,.own b.2.1 0 b.2.2.2.opn.length),(12,.ro 4 (l.map (iv .any)) .any),(13,.int .i64 l.length),(14,.int .i64 b.2.2.1)],[(b.1,.arr 162 3 (b.2.2.2.all.map uH)),(b.2.1,.arr 3 1 (b.2.2.2.opn.map FI))]⟩) (fun b=>Nq b.1 b.2.1∧b.2.2.1≤l.length∧oG (cV l) b.2.2.1=some b.2.2.2) (fun b=>l.length-b.2.2.1) (a0,o0,0,⟨[],[]⟩) aK ⟨by show Nq a0 o0;(exact cF),Nat.zero_le _,rfl⟩ ?_;rintro⟨a,o,j,all,opn⟩ ⟨hao,hj,hrun⟩;dsimp only at hao hj hrun⊢;obtain⟨hk1,hk2,hk3,hk4⟩:=xZ hrun;dsimp only at hk1 hk2 hk3 hk4;refine jQ ?_;refine aB rfl (fun g6=> ?_) (fun g6=> ?_)
 ·have hlt:j<l.length:=by simp at g6;omega
  obtain⟨x,hx⟩:∃x,l[j]? =some x:=⟨_,List.getElem?_eq_getElem hlt⟩
  have hnx:=vF hrun (uI hx);refine dX ?_;refine pQ ?_;apply al;rfl;(exact dM);refine aD fun r7 h7=> ?_;repeat rcases h7 with⟨_,h7⟩
  refine GQ ?_;refine gK ?_;refine lU ?_;refine jF ?_;refine oE Tryz.call186 (wT _) rfl bG bK ?_;refine jK ?_;refine wJ ?_;refine kD ?_;refine aB rfl (fun g10=> ?_) (fun g10=> ?_)
  ·refine tX ?_;refine bU 2 162 3 (by decide) rfl (by decide) (aD fun q2 hq2=> ?_);repeat rcases hq2 with⟨_,hq2⟩
   have hN:gQ (cV l)=none:=by replace g10:=bT g10;exact lK (hnx.trans (zN (s:=⟨all,opn⟩) g10.1 (by show opn.length=40;omega))) (by omega)
   refine aP ?_;apply aF;exact aG
   ·exact nC hN
   ·exact aA
  refine fS ?_;refine oE Tryz.call186 (wT _) rfl bG bK ?_;refine dG ?_;refine aB rfl (fun g12=> ?_) (fun g12=> ?_)
  ·have hnn:=hnx.trans (zM g12 (by intro he;simp[g12,he]at g10));refine cL ?_;refine lU ?_;refine z1 ?_;refine aD fun r45 h45=> ?_;repeat rcases h45 with⟨_,h45⟩
   refine jY ((opn++ [all.length]).map FI) (opn++ [all.length]).length ?_;refine bM fun r46 h46=> ?_;repeat rcases h46 with⟨_,h46⟩
   refine nK ?_;refine nF ?_;refine z1 ?_;refine aD fun r50 h50=> ?_;repeat rcases h50 with⟨_,h50⟩
   refine jY ((all++ [(Bk.mk j (-1) (-1))]).map uH) (all++ [(Bk.mk j (-1) (-1))]).length ?_;refine bM fun r51 h51=> ?_;repeat rcases h51 with⟨_,h51⟩
   refine dG ?_;obtain⟨A,O,hAO,rfl,rfl⟩:∃A O,Nq A O∧A=r51∧O=r46:=⟨_,_,by(exact cF),rfl,rfl⟩
   refine MH ?_;refine⟨(A,O,j+1,_),⟨hAO,hlt,hnn⟩,by show l.length-(j+1)<l.length-j;omega, ?_⟩;dsimp only;exact aK
  refine fS ?_;refine lo (fE (E rfl) (E rfl)) rfl ?_;refine nH ?_;refine aBd ?_;refine kD ?_;refine aB rfl (fun g15=> ?_) (fun g15=> ?_)
  ·have hnn:=hnx.trans (zO g12 (by replace g15:=bT g15;exact g15.1) (by replace g15:=bT g15;exact g15.2));obtain⟨A,O,hAO,rfl,rfl⟩:∃A O,Nq A O∧A=a∧O=o:=⟨_,_,by(exact cF),rfl,rfl⟩
   refine lV ?_;refine⟨(A,O,j+1,_),⟨hAO,hlt,hnn⟩,by show l.length-(j+1)<l.length-j;omega, ?_⟩;dsimp only;exact aK
  have h5:x.op=5∨x.op=11:=by replace g15:=bT g15;omega
  have hnx:=hnx.trans (yA g12 h5);refine dX ?_;refine MG ?_;refine aB rfl (fun g16=> ?_) (fun g16=> ?_)
  ·refine tX ?_;refine bU 2 162 3 (by decide) rfl (by decide) (aD fun q2 hq2=> ?_);repeat rcases hq2 with⟨_,hq2⟩
   have hN:gQ (cV l)=none:=by obtain rfl:opn=[]:=(by simpa using g16);exact lK (hnx.trans CV) (by omega)
   refine aP ?_;apply aF;exact aG
   ·exact nC hN
   ·exact aA
  have hne:opn≠ []:=by intro h;simp[h]at g16
  obtain⟨pre,k,rfl⟩:∃pre k,opn=pre++ [k]:=⟨opn.dropLast,opn.getLast hne,(List.dropLast_concat_getLast hne).symm⟩
  have hkl:=hk1 k (by simp);obtain⟨b,hb⟩:∃b,all[k]? =some b:=⟨_,List.getElem?_eq_getElem hkl⟩
  have hpl:(pre++ [k]).length=pre.length+1:=by simp
  have hlast:=JT (pre:=pre) (k:=k);have hbt:=CX hb;refine fS ?_;refine MG ?_;refine aB rfl (fun g18=> ?_) (fun g18=> ?_)
  ·have h11:x.op=11:=by simpa using g18
   have hnn:=hnx;rw[h11,JR hb]at hnn;obtain⟨A,O,hAO,rfl,rfl⟩:∃A O,Nq A O∧A=a∧O=o:=⟨_,_,by(exact cF),rfl,rfl⟩
   refine tD ?_;refine rP ?_;refine qY ?_;refine oZ ?_;refine PG ?_;refine jP ?_;refine mK ?_;refine rP ?_;refine aEh ?_;refine dG ?_;rw[show((((pre++ [k]).length:Nat):Int)-1).toNat-0=pre.length by simp];refine eU (nB (o:=O) pre.length cZ) ?_;rw[show(all.map uH).set (k:Int).toNat [.int .i64 (b.at_:Int),.int .i64 b.els,.int .i64 (j:Int)]=(all.set k ⟨b.at_,b.els,j⟩).map uH by rw[Int.toNat_natCast,List.map_set];rfl,show List.take pre.length ((pre++ [k]).map FI)=pre.map FI by simp];refine MH ?_;refine⟨(A,O,j+1,_),⟨hAO,hlt,hnn⟩,by show l.length-(j+1)<l.length-j;omega, ?_⟩;dsimp only;exact aK
  have h05:x.op=5:=by simp at g18;omega
  have hnx:=by have:=hnx;rw[h05]at this;exact this
  have hba:=hk2 b (List.mem_of_getElem? hb);obtain⟨y,hy⟩:∃y,l[b.at_]? =some y:=⟨_,List.getElem?_eq_getElem (by omega)⟩
  have hyt:=CX hy;have hoy:=uI hy;refine tD ?_;refine lo (aI (E rfl)) rfl ?_;refine rP ?_;refine qY ?_;refine VZ ?_;refine PF ?_;refine MB ?_;refine VZ ?_;refine PF ?_;refine MB ?_;refine lo (fE (E rfl) (E rfl)) rfl ?_;refine jK ?_;refine qV ?_;refine qV ?_;refine aEk ?_;refine AP ?_;refine AQ ?_;refine AP ?_;refine MD ?_;refine AQ ?_;refine aBe ?_;refine qG ?_;refine dG ?_;refine aB rfl (fun g21=> ?_) (fun g21=> ?_)
  ·refine tX ?_;refine bU 2 162 3 (by decide) rfl (by decide) (aD fun q2 hq2=> ?_);repeat rcases hq2 with⟨_,hq2⟩
   have hN:gQ (cV l)=none:=lK (hnx.trans (JS hb (by rw[hoy];replace g21:=bT g21;rcases g21 with h|h;exact .inl (fun e=>h (Option.some.inj e));exact .inr h))) (by omega);refine aP ?_;apply aF;exact aG
   ·exact nC hN
   ·exact aA
  have hnn:=hnx.trans (CW hb (by rw[hoy];replace g21:=bT g21;rw[g21.1]) (by replace g21:=bT g21;exact g21.2));obtain⟨A,O,hAO,rfl,rfl⟩:∃A O,Nq A O∧A=a∧O=o:=⟨_,_,by(exact cF),rfl,rfl⟩
  refine tD ?_;refine rP ?_;refine qY ?_;refine oZ ?_;refine PG ?_;refine jP ?_;rw[show(all.map uH).set (k:Int).toNat [.int .i64 (b.at_:Int),.int .i64 (j:Int),.int .i64 b.en]=(all.set k ⟨b.at_,j,b.en⟩).map uH by rw[Int.toNat_natCast,List.map_set];rfl];refine MH ?_;refine⟨(A,O,j+1,_),⟨hAO,hlt,hnn⟩,by show l.length-(j+1)<l.length-j;omega, ?_⟩;dsimp only;exact aK
 obtain rfl:j=l.length:=by simp at g6;omega
 refine dX ?_;refine sQ ?_;refine aB rfl (fun g24=> ?_) (fun g24=> ?_)
 ·refine tX ?_;refine bU 2 162 3 (by decide) rfl (by decide) (aD fun q2 hq2=> ?_);repeat rcases hq2 with⟨_,hq2⟩
  have hN:gQ (cV l)=none:=by unfold gQ;rw[hol,hrun,if_neg (by simp at g1;omega)];cases opn with|nil=>simp at g24|cons z zs=>rfl
  refine aP ?_;apply aF;exact aG
  ·exact nC hN
  ·exact aA
 refine dX ?_;refine kJ ?_;apply aF;exact aG
 ·have hN:gQ (cV l)=some all:=by unfold gQ;rw[hol,hrun,if_neg (by simp at g1;omega)];cases opn with|nil=>rfl|cons z zs=>simp at g24
  simp only[blN,vS,hN,Option.getD_some,Option.isSome_some];exact⟨a,rfl,rfl⟩
 ·exact aA
theorem UK(l:List Ins)(hl:l.length≤100000):SCall Tryz.prog 155 [.ro 4 (l.map (iv .any)) .any] []
  (fun y σ=>∃q,y=.tup [.own q 0 (blN (cV l)).length,.bool (vS (cV l))]∧σ=[(q,.arr 298 3 ((blN (cV l)).map uH))]):=by
 have hol:(cV l).length=l.length:=by simp[cV]
 refine cC 99 [0,2,3,4,5,6,7,11,18,19,35,36,40,64,70,74,97] Tryz.func155 ?_;refine dW ?_;refine kJ ?_;refine BG ?_;refine kY ?_;refine kY ?_;refine dG ?_;refine bU 4 298 3 (by decide) rfl (by decide) (aD fun a0 ha0=> ?_);repeat rcases ha0 with⟨_,ha0⟩
 refine bU 5 3 1 (by decide) rfl (by decide) (aD fun o0 ho0=> ?_);repeat rcases ho0 with⟨_,ho0⟩
 refine lp (β:=Nat×Nat×Nat×MS) (fun b=>⟨[(0,.ro 4 (l.map (iv .any)) .any),(4,.own b.1 0 b.2.2.2.all.length),(5,.own b.2.1 0 b.2.2.2.opn.length),(6,.int .i64 b.2.2.1)],[(b.1,.arr 298 3 (b.2.2.2.all.map uH)),(b.2.1,.arr 3 1 (b.2.2.2.opn.map FI))]⟩) (fun b=>Nq b.1 b.2.1∧b.2.2.1≤l.length∧oG (cV l) b.2.2.1=some b.2.2.2) (fun b=>l.length-b.2.2.1) (a0,o0,0,⟨[],[]⟩) aK ⟨by show Nq a0 o0;(exact cF),Nat.zero_le _,rfl⟩ ?_;rintro⟨a,o,j,all,opn⟩ ⟨hao,hj,hrun⟩;dsimp only at hao hj hrun⊢;obtain⟨hk1,hk2,hk3,hk4⟩:=xZ hrun;dsimp only at hk1 hk2 hk3 hk4;refine cL ?_;refine CL ?_;refine aB rfl (fun g4=> ?_) (fun g4=> ?_)
 ·have hlt:j<l.length:=by simp at g4;omega
  obtain⟨x,hx⟩:∃x,l[j]? =some x:=⟨_,List.getElem?_eq_getElem hlt⟩
  have hnx:=vF hrun (uI hx);refine cL ?_;refine VZ ?_;refine PF ?_;refine MB ?_;refine jP ?_;have hO:(x.op==2||(x.op==3||x.op==4))=oN x.op:=by unfold oN;rw[Bool.or_assoc]
  refine eV ?_;apply fF rfl;exact cU
  ·intro _;(refine aP ?_);refine eV ?_;apply eB rfl;exact cU
   ·intro _;(refine aP ?_);refine eV ?_;exact aK
   exact aK
  refine aP ?_;refine aB rfl (fun g7=> ?_) (fun g7=> ?_)
  ·have hso:oN x.op=true:=hO▸g7;refine cL ?_;refine lU ?_;refine z1 ?_;refine aD fun r26 h26=> ?_;repeat rcases h26 with⟨_,h26⟩
   refine jY ((opn++ [all.length]).map FI) (opn++ [all.length]).length ?_;refine bM fun r27 h27=> ?_;repeat rcases h27 with⟨_,h27⟩
   refine nK ?_;refine nF ?_;refine z1 ?_;refine aD fun r31 h31=> ?_;repeat rcases h31 with⟨_,h31⟩
   refine jY ((all++ [(Bk.mk j (-1) (-1))]).map uH) (all++ [(Bk.mk j (-1) (-1))]).length ?_;refine bM fun r32 h32=> ?_;repeat rcases h32 with⟨_,h32⟩
   refine iE ?_;refine sQ ?_;refine aB rfl (fun g12=> ?_) (fun g12=> ?_)
   ·refine tX ?_;refine bU 2 298 3 (by decide) rfl (by decide) (aD fun q2 hq2=> ?_);repeat rcases hq2 with⟨_,hq2⟩
    have hN:gQ (cV l)=none:=lK (hnx.trans (zN (s:=⟨all,opn⟩) hso (by show opn.length=40;simp at g12;omega))) (by omega);refine aP ?_;apply aF;exact aG
    ·exact nC hN
    ·exact aA
   have hnn:=hnx.trans (zM hso (by intro he;simp at g12;simp at he;omega));obtain⟨A,O,hAO,rfl,rfl⟩:∃A O,Nq A O∧A=r32∧O=r27:=⟨_,_,by(exact cF),rfl,rfl⟩
   refine oX ?_;refine⟨(A,O,j+1,_),⟨hAO,hlt,hnn⟩,by show l.length-(j+1)<l.length-j;omega, ?_⟩;dsimp only;exact aK
  have hso:oN x.op=false:=hO▸g7;refine dE ?_;refine aB rfl (fun g14=> ?_) (fun g14=> ?_)
  ·have h5:x.op=5:=by simpa using g14
   have hnx:=hnx.trans (yA hso (.inl h5));rw[h5]at hnx;refine dX ?_;refine rC ?_;refine aB rfl (fun g15=> ?_) (fun g15=> ?_)
   ·refine tX ?_;refine bU 2 298 3 (by decide) rfl (by decide) (aD fun q2 hq2=> ?_);repeat rcases hq2 with⟨_,hq2⟩
    have hN:gQ (cV l)=none:=by obtain rfl:opn=[]:=(by simpa using g15);exact lK (hnx.trans CV) (by omega)
    refine aP ?_;apply aF;exact aG
    ·exact nC hN
    ·exact aA
   have hne:opn≠ []:=by intro h;simp[h]at g15
   obtain⟨pre,k,rfl⟩:∃pre k,opn=pre++ [k]:=⟨opn.dropLast,opn.getLast hne,(List.dropLast_concat_getLast hne).symm⟩
   have hkl:=hk1 k (by simp);obtain⟨b,hb⟩:∃b,all[k]? =some b:=⟨_,List.getElem?_eq_getElem hkl⟩
   have hpl:(pre++ [k]).length=pre.length+1:=by simp
   have hlast:=JT (pre:=pre) (k:=k);have hbt:=CX hb;have hba:=hk2 b (List.mem_of_getElem? hb);obtain⟨y,hy⟩:∃y,l[b.at_]? =some y:=⟨_,List.getElem?_eq_getElem (by omega)⟩
   have hyt:=CX hy;have hoy:=uI hy;refine cL ?_;refine lU ?_;refine rP ?_;refine qY ?_;refine nK ?_;refine oZ ?_;refine MB ?_;refine VZ ?_;refine PF ?_;refine MB ?_;refine lo (fE (E rfl) (E rfl)) rfl ?_;refine jK ?_;refine qV ?_;refine AP ?_;refine MD ?_;refine AQ ?_;refine aBe ?_;refine qJ ?_;refine aB rfl (fun g18=> ?_) (fun g18=> ?_)
   ·refine tX ?_;refine bU 2 298 3 (by decide) rfl (by decide) (aD fun q2 hq2=> ?_);repeat rcases hq2 with⟨_,hq2⟩
    have hN:gQ (cV l)=none:=lK (hnx.trans (JS hb (by rw[hoy];replace g18:=bT g18;rcases g18 with h|h;exact .inl (fun e=>h (Option.some.inj e));exact .inr h))) (by omega);refine aP ?_;apply aF;exact aG
    ·exact nC hN
    ·exact aA
   have hnn:=hnx.trans (CW hb (by rw[hoy];replace g18:=bT g18;rw[g18.1]) (by replace g18:=bT g18;exact g18.2));refine cL ?_;refine oZ ?_;refine PG ?_;refine jP ?_;rw[show(all.map uH).set (k:Int).toNat [.int .i64 (b.at_:Int),.int .i64 (j:Int),.int .i64 b.en]=(all.set k ⟨b.at_,j,b.en⟩).map uH by rw[Int.toNat_natCast,List.map_set];rfl];obtain⟨A,O,hAO,rfl,rfl⟩:∃A O,Nq A O∧A=a∧O=o:=⟨_,_,by(exact cF),rfl,rfl⟩
   refine gK ?_;refine AS ?_;refine⟨(A,O,j+1,_),⟨hAO,hlt,hnn⟩,by show l.length-(j+1)<l.length-j;omega, ?_⟩;dsimp only;exact aK
  have hn5:x.op≠5:=by simpa using g14
  refine dE ?_;refine aB rfl (fun g21=> ?_) (fun g21=> ?_)
  ·have h11:x.op=11:=by simpa using g21
   have hnx:=hnx.trans (yA hso (.inr h11));rw[h11]at hnx;refine dX ?_;refine rC ?_;refine aB rfl (fun g22=> ?_) (fun g22=> ?_)
   ·refine tX ?_;refine bU 2 298 3 (by decide) rfl (by decide) (aD fun q2 hq2=> ?_);repeat rcases hq2 with⟨_,hq2⟩
    have hN:gQ (cV l)=none:=by obtain rfl:opn=[]:=(by simpa using g22);exact lK (hnx.trans CV) (by omega)
    refine aP ?_;apply aF;exact aG
    ·exact nC hN
    ·exact aA
   have hne:opn≠ []:=by intro h;simp[h]at g22
   obtain⟨pre,k,rfl⟩:∃pre k,opn=pre++ [k]:=⟨opn.dropLast,opn.getLast hne,(List.dropLast_concat_getLast hne).symm⟩
   have hkl:=hk1 k (by simp);obtain⟨b,hb⟩:∃b,all[k]? =some b:=⟨_,List.getElem?_eq_getElem hkl⟩
   have hpl:(pre++ [k]).length=pre.length+1:=by simp
   have hlast:=JT (pre:=pre) (k:=k);have hbt:=CX hb;have hnn:=hnx;rw[JR hb]at hnn;refine tD ?_;refine lU ?_;refine rP ?_;refine qY ?_;refine oZ ?_;refine PG ?_;refine jP ?_;refine mK ?_;refine lU ?_;refine rP ?_;refine aEh ?_;refine dG ?_;rw[show((((pre++ [k]).length:Nat):Int)-1).toNat-0=pre.length by simp];refine eU (nB (o:=o) pre.length cZ) ?_;rw[show(all.map uH).set (k:Int).toNat [.int .i64 (b.at_:Int),.int .i64 b.els,.int .i64 (j:Int)]=(all.set k ⟨b.at_,b.els,j⟩).map uH by rw[Int.toNat_natCast,List.map_set];rfl,show List.take pre.length ((pre++ [k]).map FI)=pre.map FI by simp];obtain⟨A,O,hAO,rfl,rfl⟩:∃A O,Nq A O∧A=a∧O=o:=⟨_,_,by(exact cF),rfl,rfl⟩
   refine gK ?_;refine AS ?_;refine⟨(A,O,j+1,_),⟨hAO,hlt,hnn⟩,by show l.length-(j+1)<l.length-j;omega, ?_⟩;dsimp only;exact aK
  have hnn:=hnx.trans (zO hso hn5 (by simpa using g21));obtain⟨A,O,hAO,rfl,rfl⟩:∃A O,Nq A O∧A=a∧O=o:=⟨_,_,by(exact cF),rfl,rfl⟩
  refine oX ?_;refine⟨(A,O,j+1,_),⟨hAO,hlt,hnn⟩,by show l.length-(j+1)<l.length-j;omega, ?_⟩;dsimp only;exact aK
 obtain rfl:j=l.length:=by simp at g4;omega
 refine dX ?_;refine lU ?_;refine aEx ?_;refine pP ?_;refine IR ?_;refine qJ ?_;refine aB rfl (fun g26=> ?_) (fun g26=> ?_)
 ·refine tX ?_;refine bU 2 298 3 (by decide) rfl (by decide) (aD fun q2 hq2=> ?_);repeat rcases hq2 with⟨_,hq2⟩
  have hN:gQ (cV l)=none:=by replace g26:=bT g26;unfold gQ;split;rfl;(rw[hol,hrun];cases opn with|nil=>(exfalso;simp at g26;omega)|cons z zs=>rfl)
  refine aP ?_;apply aF;exact aG
  ·exact nC hN
  ·exact aA
 have hN:gQ (cV l)=some all:=by replace g26:=bT g26;unfold gQ;rw[hol,hrun,if_neg (by omega)];cases opn with|nil=>rfl|cons z zs=>simp at g26
 refine dX ?_;refine kJ ?_;apply aF;exact aG
 ·simp only[blN,vS,hN,Option.getD_some,Option.isSome_some];exact⟨a,rfl,rfl⟩
 ·exact aA
end Go.Proofs.YtjpdadobblffmaaGreat
namespace Go.Proofs.YtjpdadobblffmaaGreat
open Go.RowKit Go.ChangeShapes Go.WideShapes Go.ChangeAt Go.Deep
def iU (l:List Ins):List Nat:=l.flatMap gP++ [11]
def dN (d:Int) (op:Int):Int:=if(op==11)=true then d-1 else if oN op=true then d+1 else d
def MY (b:List Nat):Nat→Nat→Int→List Ins→List Ins×Nat×Int
 |0,_,_,_=>([],0,4)
 |f+1,k,d,l=>
  if((fG (b.drop k)).2.2 !=0)=true then([],0,(fG (b.drop k)).2.2)
  else if dN d (fG (b.drop k)).1.op<0 then(if vS (cV l)=true then(l,k+(fG (b.drop k)).2.1,0)else([],0,1))
  else MY b f (k+(fG (b.drop k)).2.1) (dN d (fG (b.drop k)).1.op) (l++ [(fG (b.drop k)).1])
def kW (b:List Nat):List Ins×Nat×Int:=MY b 301 0 0 []
theorem aEO{d op:Int}(hd:0≤d):dN d op<0↔((op==11)=true∧d=0):=by
 unfold dN;split
 ·next h=>constructor;intro h2;exact⟨h,by omega⟩;intro h2;omega
 ·next h=>
  constructor
  ·intro h2;split at h2<;>omega
  ·intro h2;exact absurd h2.1 h
theorem RV(b:List Nat):∀(f k:Nat) (d:Int) (l:List Ins),(MY b f k d l).2.2≠0→(MY b f k d l).1=[]∧(MY b f k d l).2.1=0
 |0,k,d,l=>fun _=>⟨rfl,rfl⟩
 |f+1,k,d,l=>by
  rw[MY];split
  ·exact fun _=>⟨rfl,rfl⟩
  split
  ·split
   ·exact fun h=>absurd rfl h
   ·exact fun _=>⟨rfl,rfl⟩
  ·exact RV b f _ _ _
theorem YM(b:List Nat)(h:(kW b).2.2≠0):(kW b).1=[]∧(kW b).2.1=0:=RV _ _ _ _ _ h
theorem aEP{x:Ins}(hx:x.Ok)(hm:dC x=true)(h:x.op=11):x=⟨11,0,0,[]⟩:=by
 have f17:=aDw hm (by rw[h];rfl);have fb:=aDx hm (by rw[h];decide);have fl:=aDy hm (by rw[h];decide);obtain⟨op,a,c,L⟩:=x;dsimp only at h f17 fb fl;subst h f17 fb fl;rfl
theorem Sp.of_drop {b p:List Nat}{k n:Nat}(hk:k≤b.length)(h:Sp (b.drop k) 0 n p):Sp b k (k+n) p:=by
 obtain⟨h1,h2,h3⟩:=h;rw[List.drop_zero,List.drop_drop]at h1;rw[List.length_drop]at h3;exact⟨h1,by omega,by omega⟩
theorem HD{b:List Nat}(hb:∀x∈b,x<256):∀(f k:Nat) (d:Int) (l:List Ins),0≤d→(MY b f k d l).2.2=0→Sp b 0 k (l.flatMap gP)→(∀x∈l,x.Ok∧dC x=true)→
  vS (cV (MY b f k d l).1)=true∧Sp b 0 (MY b f k d l).2.1 (iU (MY b f k d l).1)∧∀x∈(MY b f k d l).1,x.Ok∧dC x=true
 |0,k,d,l=>fun _ h=>by cases h
 |f+1,k,d,l=>by
  intro hd h hs hl;rw[MY]at h⊢;by_cases h1:((fG (b.drop k)).2.2 !=0)=true
  ·rw[if_pos h1]at h;rw[show(fG (b.drop k)).2.2=0 from h]at h1;simp at h1
  rw[if_neg h1]at h⊢;have he:(fG (b.drop k)).2.2=0:=by simpa using h1
  obtain⟨ho,hm,hsp⟩:=wS (fun x hx=>hb x (List.mem_of_mem_drop hx)) he;have hsp:=Sp.of_drop hs.2.2 hsp;by_cases h2:dN d (fG (b.drop k)).1.op<0
  ·rw[if_pos h2]at h⊢;by_cases h3:vS (cV l)=true
   ·rw[if_pos h3]at h⊢;refine⟨h3, ?_,hl⟩;have h11:=((aEO hd).1 h2).1;rw[aEP ho hm (by simpa using h11)]at hsp;exact hs.trans hsp
   ·rw[if_neg h3]at h;cases h
  ·rw[if_neg h2]at h⊢;refine HD hb f _ _ _ (by omega) h ?_ ?_
   ·rw[List.flatMap_append];simpa using hs.trans hsp
   ·intro x hx;rcases List.mem_append.1 hx with hx|hx
    ·exact hl x hx
    ·rw[List.mem_singleton.1 hx];exact⟨ho,hm⟩
theorem PY{b:List Nat}(hb:∀x∈b,x<256)(h:(kW b).2.2=0):vS (cV (kW b).1)=true∧Sp b 0 (kW b).2.1 (iU (kW b).1)∧∀x∈(kW b).1,x.Ok∧dC x=true:=
 HD hb 301 0 0 [] (Int.le_refl 0) h (Sp.nil (Nat.zero_le _)) (by simp)
theorem JU{ops:List Int}(h:vS ops=true):ops.length≤300:=by
 unfold vS gQ at h;split at h
 ·cases h
 ·omega
theorem RW{ops:List Int}(h:vS ops=true):∃all,oG ops ops.length=some ⟨all,[]⟩:=by
 unfold vS gQ at h;split at h
 ·cases h
 ·split at h
  ·next all h2=>exact⟨all,h2⟩
  ·cases h
theorem aEQ{ops:List Int}(h:vS ops=true){j:Nat}(hj:j≤ops.length):∃s,oG ops j=some s:=by
 obtain⟨all,h⟩:=RW h;cases hs:oG ops j with
 |some s=>exact⟨s,rfl⟩
 |none=>
  have:=zL hs (ops.length-j);rw[Nat.add_sub_cancel' hj,h]at this;cases this
theorem aBN{ops:List Int}{s s':MS}{i:Nat}{op:Int}(h:nL ops s i op=some s'):(s'.opn.length:Int)=dN s.opn.length op:=by
 unfold nL at h;unfold dN;split at h
 ·next ho=>
  split at h
  ·cases h
  ·obtain rfl:=Option.some.inj h;rw[if_neg (by unfold oN at ho;simp at ho⊢;omega),if_pos ho];simp
 next ho=>
 split at h
 ·next h5=>
  obtain rfl:=Option.some.inj h;rw[if_neg (by simpa using h5.2),if_neg ho]
 next h5=>
 unfold AW at h;split at h
 ·cases h
 next k hk=>
 split at h
 ·cases h
 split at h
 ·next h11=>
  obtain rfl:=Option.some.inj h;have:s.opn≠ []:=by intro h0;rw[h0]at hk;cases hk
  have:=List.length_pos_iff.2 this;rw[if_pos (by simpa using h11)];simp;omega
 next h11=>
 split at h
 ·cases h
 ·obtain rfl:=Option.some.inj h;rw[if_neg (by simpa using h11),if_neg ho]
theorem YN{l:List Ins}(hl:∀x∈l,x.Ok∧dC x=true)(hok:vS (cV l)=true)(r:List Nat):∀(m j:Nat) (s:MS) (f:Nat),m+j=l.length→m<f→oG (cV l) j=some s→
  MY (iU l++r) f ((l.take j).flatMap gP).length s.opn.length (l.take j)=(l,(iU l).length,0):=by
 have hol:(cV l).length=l.length:=by simp[cV]
 have hdrop:∀j,(iU l++r).drop ((l.take j).flatMap gP).length=(l.drop j).flatMap gP++(11::r):=by
  intro j;have:iU l++r=(l.take j).flatMap gP++((l.drop j).flatMap gP++(11::r)):=by
   unfold iU
   conv=>lhs;rw[←List.take_append_drop j l,List.flatMap_append]
   simp
  rw[this,List.drop_left]
 intro m
 induction m with
 |zero=>
  intro j s f hj hf hs;obtain⟨f,rfl⟩:∃g,f=g+1:=⟨f-1,by omega⟩
  obtain rfl:j=l.length:=by omega
  obtain⟨all,ha⟩:=RW hok;rw[hol,hs]at ha;obtain rfl:=Option.some.inj ha;have hg:fG ((iU l++r).drop ((l.take l.length).flatMap gP).length)=(⟨11,0,0,[]⟩,1,0):=by
   rw[hdrop,List.drop_length];exact JG (x:=⟨11,0,0,[]⟩) ⟨by decide,by decide,by decide,by decide,by decide⟩ (by decide) r
  rw[MY,hg,if_neg (by decide),if_pos (show dN (([]:List Nat).length:Nat) 11<0 by decide),List.take_length,if_pos hok];simp[iU]
 |succ m ih=>
  intro j s f hj hf hs;obtain⟨f,rfl⟩:∃g,f=g+1:=⟨f-1,by omega⟩
  have hlt:j<l.length:=by omega
  obtain⟨x,hx⟩:∃x,l[j]? =some x:=⟨_,List.getElem?_eq_getElem hlt⟩
  obtain⟨hxo,hxm⟩:=hl x (List.mem_of_getElem? hx);have hg:fG ((iU l++r).drop ((l.take j).flatMap gP).length)=(x,(gP x).length,0):=by
   rw[hdrop,List.drop_eq_getElem_cons hlt,(List.getElem?_eq_some_iff.1 hx).2,List.flatMap_cons,List.append_assoc];exact JG hxo hxm _
  obtain⟨s',hs'⟩:=aEQ hok (j:=j+1) (by omega);have hst:=vF hs (uI hx);rw[hs']at hst;have hd:=aBN hst.symm;have ht:l.take (j+1)=l.take j++ [x]:=by rw[List.take_add_one,hx];rfl
  have hn:=ih (j+1) s' f (by omega) (by omega) hs';rw[MY,hg,if_neg (by simp)];dsimp only;rw[←hd,if_neg (by omega),←ht,←hn,ht,List.flatMap_append];simp
theorem UL{l:List Ins}(hl:∀x∈l,x.Ok∧dC x=true)(hok:vS (cV l)=true)(r:List Nat):kW (iU l++r)=(l,(iU l).length,0):=by
 have:=JU hok;have hol:(cV l).length=l.length:=by simp[cV]
 exact YN hl hok r l.length 0 ⟨[],[]⟩ 301 (by omega) (by omega) rfl
end Go.Proofs.YtjpdadobblffmaaGreat
namespace Go.Proofs.YtjpdadobblffmaaGreat
open Go.RowKit Go.ChangeShapes Go.WideShapes Go.ChangeAt Go.Deep
attribute [local irreducible] SW RS RD gJ fA
theorem MZ{b:List Nat}{k:Nat}:List.take ((b.map aH).length-k) (List.drop k (b.map aH))=(b.drop k).map aH:=by
 rw[List.map_drop];exact List.take_of_length_le (by simp)
def pJ (l:List Ins) (j:Nat):List Nat:=(l.take j).flatMap gP
theorem RX{l:List Ins}{j:Nat}{x:Ins}(h:l[j]? =some x):pJ l (j+1)=pJ l j++gP x:=by
 unfold pJ;rw[List.take_add_one,h,List.flatMap_append];simp
theorem PZ{l:List Ins}(hm:∀x∈l,x.Ok∧dC x=true)(j:Nat):(pJ l j).length≤200*l.length:=by
 have h1:(pJ l j).length≤200*(l.take j).length:=xY fun x hx=>hm x (List.mem_of_mem_take hx)
 have:(l.take j).length≤l.length:=by simp;omega
 omega
theorem QA{l:List Ins}:pJ l l.length++ [11]=iU l:=by unfold pJ iU;rw[List.take_length]
theorem yB{l:List Ins}(hm:∀x∈l,x.Ok∧dC x=true):(iU l).length≤200*l.length+1:=by
 rw[←QA];have:=PZ hm l.length;simp;omega
theorem aBO{l:List Ins}(hm:∀x∈l,x.Ok∧dC x=true):∀b∈iU l,b<256:=by
 intro b hb;rcases List.mem_append.1 hb with hb|hb
 ·exact MW hm b hb
 ·rw[List.mem_singleton.1 hb];decide
theorem NA(q:Nat)(vs:List Nat)(hvs:vs.length≤20000000)(l:List Ins)(hl:l.length≤310)(hm:∀x∈l,x.Ok∧dC x=true):SCall Tryz.prog 248 [.own q 0 vs.length,.ro 4 (l.map (iv .any)) .any] [(q,.arr 5 1 (vs.map aH))]
  (fun y σ=>∃r,y=.own r 0 (vs++iU l).length∧σ=[(r,.arr 5 1 ((vs++iU l).map aH))]):=by
 refine cC 20 [0,1,4,6,7,8,9,10] Tryz.func248 ?_;refine rA ?_;refine lp (β:=Nat×Nat) (fun b=>⟨[(0,.own b.1 0 (vs++pJ l b.2).length),(7,.ro 4 (l.map (iv .any)) .any),(8,.int .i64 l.length),(9,.int .i64 b.2)],[(b.1,.arr 5 1 ((vs++pJ l b.2).map aH))]⟩) (fun b=>b.2≤l.length) (fun b=>l.length-b.2) (q,0) (by dsimp only;rw[show vs++pJ l 0=vs by simp[pJ]];(exact aK)) (Nat.zero_le _) ?_;rintro⟨q1,j⟩ hj;have hpl:=PZ hm j;dsimp only at hj⊢;refine jQ ?_;refine aB rfl (fun g2=> ?_) (fun g2=> ?_)
 ·have hlt:j<l.length:=by simp at g2;omega
  obtain⟨x,hx⟩:∃x,l[j]? =some x:=⟨_,List.getElem?_eq_getElem hlt⟩
  obtain⟨hxo,hxm⟩:=hm x (List.mem_of_getElem? hx);have hnx:=RX hx;refine dW ?_;refine pQ ?_;apply al;rfl;(exact dM);refine aD fun r6 h6=> ?_;repeat rcases h6 with⟨_,h6⟩
  refine sR ?_;refine oV ?_;refine cw [(q1,.arr 5 1 ((vs++pJ l j).map aH))] Tryz.call242 (zK q1 (vs++pJ l j) (by simp;omega) .any x hxo hxm) rfl aC aA ?_;rintro _ σ' ⟨r15,rfl,rfl⟩ h15;have k15:=bC h15;repeat rcases k15 with⟨_,k15⟩
  refine sM ?_;refine⟨(r15,j+1),hlt,by show l.length-(j+1)<l.length-j;omega, ?_⟩;dsimp only;rw[hnx,←List.append_assoc];exact aK
 obtain rfl:j=l.length:=by simp at g2;omega
 refine dX ?_;refine z1 ?_;refine aD fun r18 h18=> ?_;repeat rcases h18 with⟨_,h18⟩
 refine jY (((vs++pJ l l.length)++ [11]).map aH) ((vs++pJ l l.length)++ [11]).length ?_;refine bM fun r19 h19=> ?_;repeat rcases h19 with⟨_,h19⟩
 refine dG ?_;rw[List.append_assoc,QA];apply aF;exact aG
 ·exact⟨r19,rfl,rfl⟩
 ·exact aA
theorem NB(l:List Ins)(hl:l.length≤310)(hm:∀x∈l,x.Ok∧dC x=true):SCall Tryz.prog 256 [.ro 4 (l.map (iv .any)) .any] []
  (fun y σ=>∃r,y=.own r 0 (iU l).length∧σ=[(r,.arr 5 1 ((iU l).map aH))]):=by
 refine cC 21 [0,2,3,4,8] Tryz.func256 ?_;refine sU ?_;refine kY ?_;refine dG ?_;refine bU 3 5 1 (by decide) rfl (by decide) (aD fun q0 hq0=> ?_);repeat rcases hq0 with⟨_,hq0⟩
 refine lp (β:=Nat×Nat) (fun b=>⟨[(0,.ro 4 (l.map (iv .any)) .any),(3,.own b.1 0 (pJ l b.2).length),(4,.int .i64 b.2)],[(b.1,.arr 5 1 ((pJ l b.2).map aH))]⟩) (fun b=>b.2≤l.length) (fun b=>l.length-b.2) (q0,0) aK (Nat.zero_le _) ?_;rintro⟨q1,j⟩ hj;have hpl:=PZ hm j;dsimp only at hj⊢;refine cL ?_;refine CL ?_;refine aB rfl (fun g3=> ?_) (fun g3=> ?_)
 ·have hlt:j<l.length:=by simp at g3;omega
  obtain⟨x,hx⟩:∃x,l[j]? =some x:=⟨_,List.getElem?_eq_getElem hlt⟩
  obtain⟨hxo,hxm⟩:=hm x (List.mem_of_getElem? hx);have hnx:=RX hx;have hpx:=uG hxo hxm;refine cL ?_;refine mB ?_;refine qQ Tryz.call253 (rX .any x hxo hxm) rfl bS kI ?_;rintro _ σ' ⟨r16,rfl,rfl⟩ h16
  replace h16:=cO h16;repeat rcases h16 with⟨_,h16⟩
  apply aT;(exact bF);refine jY ((pJ l j++gP x).map aH) (pJ l j++gP x).length ?_;refine bM fun r17 h17=> ?_;repeat rcases h17 with⟨_,h17⟩
  refine iE ?_;refine AS ?_;refine⟨(r17,j+1),hlt,by show l.length-(j+1)<l.length-j;omega, ?_⟩;dsimp only;rw[hnx];exact aK
 obtain rfl:j=l.length:=by simp at g3;omega
 refine dX ?_;refine z1 ?_;refine aD fun r19 h19=> ?_;repeat rcases h19 with⟨_,h19⟩
 refine jY ((pJ l l.length++ [11]).map aH) (pJ l l.length++ [11]).length ?_;refine bM fun r20 h20=> ?_;repeat rcases h20 with⟨_,h20⟩
 refine dG ?_;rw[QA];apply aF;exact aG
 ·exact⟨r20,rfl,rfl⟩
 ·exact aA
instance : DecidableEq Ins := fun x y => if h : eqN x y = true then .isTrue (JJ.1 h) else .isFalse fun e => h (JJ.2 e)
theorem YO(b:List Nat)(hb:b.length≤1000000)(hlt:∀x∈b,x<256):SCall Tryz.prog 266 [.ro 1 (b.map aH) .any] []
  (fun y σ=>∃q,y=.tup [.own q 0 (kW b).1.length,.int .i64 ((kW b).2.1:Nat),.int .i64 (kW b).2.2]∧σ=[(q,.arr 46 4 ((kW b).1.map (iv .any)))]):=by
 refine cC 55 [0,2,3,4,5,6,7,8,9,10,12,22,29,34,38,45,54] Tryz.func266 ?_;refine dW ?_;refine nG ?_;refine BG ?_;refine kY ?_;refine kY ?_;refine dG ?_;refine bU 5 46 4 (by decide) rfl (by decide) (aD fun q0 hq0=> ?_);repeat rcases hq0 with⟨_,hq0⟩
 refine lp (β:=Nat×Nat×Int×Nat×List Ins) (fun b'=>⟨[(0,.ro 1 (b.map aH) .any),(5,.own b'.1 0 b'.2.2.2.2.length),(6,.int .i64 b'.2.2.1),(7,.int .i64 b'.2.1)],[(b'.1,.arr 46 4 (b'.2.2.2.2.map (iv .any)))]⟩) (fun b'=>b'.2.1≤b.length∧0≤b'.2.2.1∧b'.2.2.1≤b'.2.2.2.2.length∧b'.2.2.2.1+b'.2.2.2.2.length=301∧1≤b'.2.2.2.1∧kW b=MY b b'.2.2.2.1 b'.2.1 b'.2.2.1 b'.2.2.2.2) (fun b'=>b'.2.2.2.1) (q0,0,0,301,[]) aK ⟨Nat.zero_le _,Int.le_refl 0,Int.le_refl 0,rfl,by show 1≤301;decide,rfl⟩ ?_;rintro⟨q,k,d,f,l⟩ ⟨hk,hd0,hdl,hfl,hf1,hG⟩;dsimp only at hk hd0 hdl hfl hf1 hG⊢;obtain⟨f,rfl⟩:∃g,f=g+1:=⟨f-1,by omega⟩
 have hlt2:∀x∈b.drop k,x<256:=fun x hx=>hlt x (List.mem_of_mem_drop hx)
 have hsnd:=wS hlt2;rw[MY]at hG;refine cL ?_;refine aEl ?_;rw[MZ];refine cw [] Tryz.call298 (HA (b.drop k) (by simp;omega) hlt2) rfl aC aA ?_;rintro _ σ' ⟨q3,rfl,rfl⟩ h17
 replace h17:=iC h17;repeat rcases h17 with⟨_,h17⟩
 apply aT;(exact bF);generalize fG (b.drop k)=gp at hG hsnd⊢;obtain⟨x,n,e⟩:=gp;dsimp only at hG hsnd⊢;refine FC ?_;refine lo (lN (E rfl) rfl) rfl ?_;apply al;rfl;(exact dM);refine aD fun r8 h8=> ?_;repeat rcases h8 with⟨_,h8⟩
 apply WX;rfl;rfl;rfl;rfl;(exact sK);refine mN ?_;refine lH ?_;refine aB rfl (fun g5=> ?_) (fun g5=> ?_)
 ·refine dX ?_;refine CP ?_;refine bU 2 46 4 (by decide) rfl (by decide) (aD fun q2 hq2=> ?_);repeat rcases hq2 with⟨_,hq2⟩
  have hE:kW b=([],0,e):=by rw[hG,if_pos g5]
  refine aP ?_;apply aF;exact aG
  ·exact⟨q2,by rw[hE];rfl,by rw[hE]⟩
  ·exact aA
 rw[if_neg (by simp[g5])]at hG;obtain⟨hxo,hxm,hsp⟩:=hsnd (by simpa using g5);have hkn:k+n≤b.length:=by have:=hsp.2.2;simp at this;omega
 refine cL ?_;refine RH ?_;refine jF ?_;refine qI ?_;refine aB rfl (fun g8=> ?_) (fun g8=> ?_)
 ·have hD:dN d x.op=d-1:=by unfold dN;rw[if_pos g8]
  refine dX ?_;refine rP ?_;refine iE ?_;refine xM ?_;refine aB rfl (fun g12=> ?_) (fun g12=> ?_)
  ·rw[if_pos (by rw[hD];simpa using g12)]at hG;refine dX ?_;refine qQ Tryz.call75 (pC l (by omega)) rfl bS kI ?_;rintro _ σ' ⟨q4,rfl,rfl⟩ h41
   replace h41:=cO h41;repeat rcases h41 with⟨_,h41⟩
   refine pU ?_;refine mN ?_;refine tU ?_;refine aB rfl (fun g14=> ?_) (fun g14=> ?_)
   ·refine dW ?_;refine CP ?_;refine bU 2 46 4 (by decide) rfl (by decide) (aD fun q2 hq2=> ?_);repeat rcases hq2 with⟨_,hq2⟩
    have hE:kW b=([],0,1):=by rw[hG,if_neg];intro h;rw[h]at g14;cases g14
    refine aP ?_;apply aF;exact aG
    ·exact⟨q2,by rw[hE];rfl,by rw[hE]⟩
    ·exact aA
   refine cL ?_;refine nG ?_;have hE:kW b=(l,k+n,0):=by rw[hG,if_pos];cases h:vS (cV l);rw[h]at g14;cases g14;rfl
   apply aF;exact aG
   ·exact⟨q,by rw[hE];rfl,by rw[hE]⟩
   ·exact aA
  rw[if_neg (by rw[hD];simpa using g12)]at hG;refine aP ?_;refine eU (oF (r:=r8) (q:=q3) cZ bP (.cons (.refl _) (.cons (.refl _) (.cons (.refl _) (.cons (aR bH (by simp)) .nil))))) ?_;refine gK ?_;refine oV ?_;refine z1 ?_;refine aD fun r50 h50=> ?_;repeat rcases h50 with⟨_,h50⟩
  refine jY ((l++ [x]).map (iv .any)) (l++ [x]).length ?_;refine bM fun r51 h51=> ?_;repeat rcases h51 with⟨_,h51⟩
  refine iE ?_;refine sQ ?_;refine aB rfl (fun g18=> ?_) (fun g18=> ?_)
  ·refine dW ?_;refine CP ?_;refine bU 2 46 4 (by decide) rfl (by decide) (aD fun q2 hq2=> ?_);repeat rcases hq2 with⟨_,hq2⟩
   have hE:kW b=([],0,4):=by obtain rfl:f=0:=(by simp at g18;omega);rw[hG];rfl
   refine aP ?_;apply aF;exact aG
   ·exact⟨q2,by rw[hE];rfl,by rw[hE]⟩
   ·exact aA
  refine aP ?_;have hf0:l.length+1≤300:=by simp at g18;omega
  refine⟨(r51,k+n,dN d x.op,f,l++ [x]),⟨hkn,by show 0≤dN d x.op;rw[hD];simp at g12;omega,by show dN d x.op≤((l++ [x]).length:Nat);rw[hD];simp;omega,by show f+(l++ [x]).length=301;simp;omega,by show 1≤f;omega,hG⟩,Nat.lt_succ_self _, ?_⟩;dsimp only;rw[hD];exact aK
 refine fS ?_;refine oE Tryz.call186 (wT _) rfl bG bK ?_;refine jP ?_;refine aB rfl (fun g10=> ?_) (fun g10=> ?_)
 ·have hD:dN d x.op=d+1:=by unfold dN;rw[if_neg (by simp[g8]),if_pos g10]
  refine oX ?_;refine gK ?_;refine xM ?_;refine aB rfl (fun g12=> ?_) (fun g12=> ?_)
  ·rw[if_pos (by rw[hD];simpa using g12)]at hG;refine dX ?_;refine qQ Tryz.call75 (pC l (by omega)) rfl bS kI ?_;rintro _ σ' ⟨q4,rfl,rfl⟩ h41
   replace h41:=cO h41;repeat rcases h41 with⟨_,h41⟩
   refine pU ?_;refine mN ?_;refine tU ?_;refine aB rfl (fun g14=> ?_) (fun g14=> ?_)
   ·refine dW ?_;refine CP ?_;refine bU 2 46 4 (by decide) rfl (by decide) (aD fun q2 hq2=> ?_);repeat rcases hq2 with⟨_,hq2⟩
    have hE:kW b=([],0,1):=by rw[hG,if_neg];intro h;rw[h]at g14;cases g14
    refine aP ?_;apply aF;exact aG
    ·exact⟨q2,by rw[hE];rfl,by rw[hE]⟩
    ·exact aA
   refine cL ?_;refine nG ?_;have hE:kW b=(l,k+n,0):=by rw[hG,if_pos];cases h:vS (cV l);rw[h]at g14;cases g14;rfl
   apply aF;exact aG
   ·exact⟨q,by rw[hE];rfl,by rw[hE]⟩
   ·exact aA
  rw[if_neg (by rw[hD];simpa using g12)]at hG;refine aP ?_;refine eU (oF (r:=r8) (q:=q3) cZ bP (.cons (.refl _) (.cons (.refl _) (.cons (.refl _) (.cons (aR bH (by simp)) .nil))))) ?_;refine gK ?_;refine oV ?_;refine z1 ?_;refine aD fun r50 h50=> ?_;repeat rcases h50 with⟨_,h50⟩
  refine jY ((l++ [x]).map (iv .any)) (l++ [x]).length ?_;refine bM fun r51 h51=> ?_;repeat rcases h51 with⟨_,h51⟩
  refine iE ?_;refine sQ ?_;refine aB rfl (fun g18=> ?_) (fun g18=> ?_)
  ·refine dW ?_;refine CP ?_;refine bU 2 46 4 (by decide) rfl (by decide) (aD fun q2 hq2=> ?_);repeat rcases hq2 with⟨_,hq2⟩
   have hE:kW b=([],0,4):=by obtain rfl:f=0:=(by simp at g18;omega);rw[hG];rfl
   refine aP ?_;apply aF;exact aG
   ·exact⟨q2,by rw[hE];rfl,by rw[hE]⟩
   ·exact aA
  refine aP ?_;have hf0:l.length+1≤300:=by simp at g18;omega
  refine⟨(r51,k+n,dN d x.op,f,l++ [x]),⟨hkn,by show 0≤dN d x.op;rw[hD];simp at g12;omega,by show dN d x.op≤((l++ [x]).length:Nat);rw[hD];simp;omega,by show f+(l++ [x]).length=301;simp;omega,by show 1≤f;omega,hG⟩,Nat.lt_succ_self _, ?_⟩;dsimp only;rw[hD];exact aK
 have hD:dN d x.op=d:=by unfold dN;rw[if_neg (by simp[g8]),if_neg (by simp[g10])]
 refine dX ?_;refine xM ?_;refine aB rfl (fun g12=> ?_) (fun g12=> ?_)
 ·rw[if_pos (by rw[hD];simpa using g12)]at hG;refine dX ?_;refine qQ Tryz.call75 (pC l (by omega)) rfl bS kI ?_;rintro _ σ' ⟨q4,rfl,rfl⟩ h41
  replace h41:=cO h41;repeat rcases h41 with⟨_,h41⟩
  refine pU ?_;refine mN ?_;refine tU ?_;refine aB rfl (fun g14=> ?_) (fun g14=> ?_)
  ·refine dW ?_;refine CP ?_;refine bU 2 46 4 (by decide) rfl (by decide) (aD fun q2 hq2=> ?_);repeat rcases hq2 with⟨_,hq2⟩
   have hE:kW b=([],0,1):=by rw[hG,if_neg];intro h;rw[h]at g14;cases g14
   refine aP ?_;apply aF;exact aG
   ·exact⟨q2,by rw[hE];rfl,by rw[hE]⟩
   ·exact aA
  refine cL ?_;refine nG ?_;have hE:kW b=(l,k+n,0):=by rw[hG,if_pos];cases h:vS (cV l);rw[h]at g14;cases g14;rfl
  apply aF;exact aG
  ·exact⟨q,by rw[hE];rfl,by rw[hE]⟩
  ·exact aA
 rw[if_neg (by rw[hD];simpa using g12)]at hG;refine aP ?_;refine eU (oF (r:=r8) (q:=q3) cZ bP (.cons (.refl _) (.cons (.refl _) (.cons (.refl _) (.cons (aR bH (by simp)) .nil))))) ?_;refine gK ?_;refine oV ?_;refine z1 ?_;refine aD fun r50 h50=> ?_;repeat rcases h50 with⟨_,h50⟩
 refine jY ((l++ [x]).map (iv .any)) (l++ [x]).length ?_;refine bM fun r51 h51=> ?_;repeat rcases h51 with⟨_,h51⟩
 refine iE ?_;refine sQ ?_;refine aB rfl (fun g18=> ?_) (fun g18=> ?_)
 ·refine dW ?_;refine CP ?_;refine bU 2 46 4 (by decide) rfl (by decide) (aD fun q2 hq2=> ?_);repeat rcases hq2 with⟨_,hq2⟩
  have hE:kW b=([],0,4):=by obtain rfl:f=0:=(by simp at g18;omega);rw[hG];rfl
  refine aP ?_;apply aF;exact aG
  ·exact⟨q2,by rw[hE];rfl,by rw[hE]⟩
  ·exact aA
 refine aP ?_;have hf0:l.length+1≤300:=by simp at g18;omega
 refine⟨(r51,k+n,dN d x.op,f,l++ [x]),⟨hkn,by show 0≤dN d x.op;rw[hD];simp at g12;omega,by show dN d x.op≤((l++ [x]).length:Nat);rw[hD];simp;omega,by show f+(l++ [x]).length=301;simp;omega,by show 1≤f;omega,hG⟩,Nat.lt_succ_self _, ?_⟩;dsimp only;rw[hD];exact aK
end Go.Proofs.YtjpdadobblffmaaGreat
namespace Go.Proofs.YtjpdadobblffmaaGreat
open Go.RowKit Go.ChangeShapes Go.WideShapes Go.ChangeAt Go.Deep
theorem VLe.ro {sz:Nat}{es es':List (List AV)}{k:Rk}(hl:es.length=es'.length)(hs:iT sz es')
  (h:∀(i:Nat) (e e':List AV),es[i]? =some e→es'[i]? =some e'→e.length=e'.length∧∀(j:Nat) (a a':AV),e[j]? =some a→e'[j]? =some a'→VLe a a'):VLe (.ro sz es k) (.ro sz es' k):=fun M F w v hv=>by
 have hx:∀(i:Nat) (e':List AV),es'[i]? =some e'→∃e,es[i]? =some e:=fun i e' h=>⟨_,List.getElem?_eq_getElem (by have:=(List.getElem?_eq_some_iff.1 h).1;omega)⟩
 have hy:∀(i:Nat) (e':List AV) (j:Nat) (a':AV),es'[i]? =some e'→e'[j]? =some a'→∃e a,es[i]? =some e∧e[j]? =some a∧VLe a a':=fun i e' j a' h1 h2=>by
  obtain⟨e,he⟩:=hx i e' h1;obtain⟨g1,g2⟩:=h i e e' he h1;have hj:=(List.getElem?_eq_some_iff.1 h2).1;have ha:e[j]? =some (e[j]'(by omega)):=List.getElem?_eq_getElem (by omega);exact⟨e,_,he,ha,g2 j _ a' ha h2⟩
 cases hv with
 |ro hb hs' hc hr hle hm hf hn=>
  rw[hl];rw[hl]at hle hf
  rename_i b o cap us
  refine .ro (us:=us) hb hs (fun i e' j a' h1 h2=> ?_) (fun i e' j a' h1 h2=> ?_) hle hm hf hn
  ·obtain⟨e,a,he,ha,-⟩:=hy i e' j a' h1 h2;exact hc i e j a he ha
  ·obtain⟨e,a,he,ha,hv⟩:=hy i e' j a' h1 h2;exact hv _ _ _ _ (hr i e j a he ha)
 |ro0 hm hA hf hn=>
  obtain rfl:es'=[]:=List.length_eq_zero_iff.1 hl.symm;exact .ro0 hm hA hf hn
structure FT where
 pr:List Int
 rs:List Int
structure Im where
 mod:List Nat
 nm:List Nat
 ty:Int
structure Gl where
 mu:Bool
 kd:Int
 n:Int
structure Ex where
 nm:List Nat
 fn:Int
structure El where
 off:Int
 fs:List Int
structure Co where
 ls:List Int
 bd:List Ins
structure Da where
 off:Int
 bs:List Nat
structure Li where
 has:Bool
 mn:Int
 mx:Int
structure Md where
 ty:List FT
 im:List Im
 fn:List Int
 tb:Li
 me:Li
 gl:List Gl
 ex:List Ex
 el:List El
 co:List Co
 da:List Da
def HE:Li:=⟨false,0,0⟩
def md0:Md:=⟨[],[],[],HE,HE,[],[],[],[],[]⟩
def eF (x:FT):List AV:=[.ro 1 (x.pr.map aX) .any,.ro 1 (x.rs.map aX) .any]
def fT (x:Im):List AV:=[.str (dV x.mod),.str (dV x.nm),.int .i64 x.ty]
def fP (x:Gl):List AV:=[.bool x.mu,.int .i64 x.kd,.int .i64 x.n]
def fQ (x:Ex):List AV:=[.str (dV x.nm),.int .i64 x.fn]
def fK (x:El):List AV:=[.int .i64 x.off,.ro 1 (x.fs.map aX) .any]
def eS (x:Co):List AV:=[.ro 1 (x.ls.map aX) .any,.ro 4 (x.bd.map (iv .any)) .any]
def fL (x:Da):List AV:=[.int .i64 x.off,.ro 1 (x.bs.map aH) .any]
def iI (x:Li):List AV:=[.bool x.has,.int .i64 x.mn,.int .i64 x.mx]
def cK (m:Md):List AV:=[.ro 2 (m.ty.map eF) .any,.ro 3 (m.im.map fT) .any,.ro 1 (m.fn.map aX) .any,.bool m.tb.has,.int .i64 m.tb.mn,.int .i64 m.tb.mx,.bool m.me.has,.int .i64 m.me.mn,.int .i64 m.me.mx,
 .ro 3 (m.gl.map fP) .any,.ro 2 (m.ex.map fQ) .any,.ro 2 (m.el.map fK) .any,.ro 2 (m.co.map eS) .any,.ro 2 (m.da.map fL) .any]
def bD {α:Type} (l:List α) (pt:α→List Nat):List Nat:=uB l.length++l.flatMap pt
def bO (s:List Nat):List Nat:=uB s.length++s
def kB (k:Int):List Nat:=if(k==1)=true then [127]else [126]
def cB (n:Int):List Nat:=uB n.toNat
def lL (k n:Int):List Nat:=gP ⟨if(k==2)=true then 66 else 65,n,0,[]⟩++ [11]
def pD (n:Int):List Nat:=0::lL 1 n
def eK (l:Li):List Nat:=if decide (l.mx<0)=true then 0::cB l.mn else 1::(cB l.mn++cB l.mx)
def bX:List Int→List (List Int):=fun l=>l.foldl (fun r k=>match r.getLast? with
 |some (x::xs)=>if x==k then r.dropLast++ [(x::xs)++ [k]]else r++ [[k]]
 | _=>r++ [[k]]) []
def iG (r:List Int):List Nat:=cB r.length++kB (r.headD 0)
def kA (c:Co):List Nat:=uB (bD (bX c.ls) iG++iU c.bd).length++(bD (bX c.ls) iG++iU c.bd)
def bL {α:Type} (no:Nat) (l:List α) (pt:α→List Nat):List Nat:=if l.isEmpty then []else no::(uB (bD l pt).length++bD l pt)
def uJ (t:FT):List Nat:=96::(bD t.pr kB++bD t.rs kB)
def jC (x:Im):List Nat:=bO x.mod++bO x.nm++ [0]++cB x.ty
def tG (g:Gl):List Nat:=kB g.kd++ [if g.mu then 1 else 0]++lL g.kd g.n
def mL (x:Ex):List Nat:=bO x.nm++ [0]++cB x.fn
def tH (x:El):List Nat:=pD x.off++bD x.fs cB
def vG (x:Da):List Nat:=pD x.off++uB x.bs.length++x.bs
def gW (l:Li):List Li:=if l.has then [l]else []
def headB:List Nat:=[0,97,115,109,1,0,0,0]
def fH (m:Md):List Nat:=headB++bL 1 m.ty uJ++bL 2 m.im jC++bL 3 m.fn cB++bL 4 (gW m.tb) (fun l=>112::eK l)++bL 5 (gW m.me) eK++bL 6 m.gl tG++bL 7 m.ex mL++bL 9 m.el tH++bL 10 m.co kA++bL 11 m.da vG
def iK (n:Int):Bool:=if decide (0≤n)=true then decide (n≤1000)else false
def yC (k:Int):Bool:=if(k==1)=true then true else(k==2)
def sW (s:List Nat):Bool:=if(s.length !=0)=true then(decide (s.length≤16)&&s.all fun c=>decide (32≤c)&&decide (c≤126))else false
def kE (n:Int):Bool:=decide (-2147483648≤n)&&decide (n≤2147483647)
def lC (l:Li) (least most:Int):Bool:=if l.has then decide (0≤l.mn)&&decide (l.mn≤least)&&decide (-1≤l.mx)&&decide (l.mx≤most)else(l.mn==0&&l.mx==0)
def cP {α:Type} (l:List α) (most:Int) (p:α→Bool):Bool:=decide ((l.length:Int)≤most)&&l.all p
def lW (k n:Int):Bool:=(k==1&&decide (-2147483648≤n)&&decide (n≤2147483647))||(k==2)
def pE (m:Md):Bool:=cP m.ty 16 (fun t=>cP t.pr 32 yC&&cP t.rs 1 yC)&&cP m.im 16 (fun x=>sW x.mod&&sW x.nm&&iK x.ty)&&cP m.fn (16-m.im.length) iK&&
 cP m.gl 16 (fun g=>lW g.kd g.n)&&cP m.ex 16 (fun x=>sW x.nm&&iK x.fn)&&cP m.el 16 (fun x=>kE x.off&&cP x.fs 50 iK)&&cP m.da 16 (fun x=>kE x.off&&decide (x.bs.length≤1000))
def sA (c:Co):Bool:=vS (cV c.bd)&&cP c.ls 32 yC&&cP c.bd 300 dC
def pS (m:Md):Bool:=(m.co.length==m.fn.length&&cP m.co 16 sA)&&pE m&&lC m.tb 16 1000&&lC m.me 16 65536&&decide ((fH m).length≤8000)
theorem CY{k n:Int}(h:lW k n=true)(hn:-9223372036854775808≤n∧n≤9223372036854775807):(⟨if(k==2)=true then 66 else 65,n,0,[]⟩:Ins).Ok∧dC ⟨if(k==2)=true then 66 else 65,n,0,[]⟩=true∧(k=1∨k=2):=by
 unfold lW at h;simp only[Bool.or_eq_true,Bool.and_eq_true,beq_iff_eq,decide_eq_true_eq]at h;rcases h with⟨⟨rfl,h1⟩,h2⟩|rfl
 ·refine⟨⟨by simp,by simp,hn.1,hn.2,by simp⟩, ?_,.inl rfl⟩;rw[if_neg (by decide)];have:aZ 65=8:=by decide
  simp[dC,jG,this,jW];omega
 ·refine⟨⟨by simp,by simp,hn.1,hn.2,by simp⟩, ?_,.inr rfl⟩;rw[if_pos (by decide)];have:aZ 66=9:=by decide
  simp[dC,jG,this]
structure Ct where
 op:Int
 kd:Int
 ht:Nat
 dd:Bool
structure PS where
 vs:List Int
 cs:List Ct
 bad:Bool
def lR (c:Ct):List AV:=[.int .i64 c.op,.int .i64 c.kd,.int .i64 c.ht,.bool c.dd]
def ct0:Ct:=⟨0,0,0,false⟩
def PS.top (s:PS):Ct:=s.cs.getLast?.getD ct0
def dB (s:PS) (ok:Bool):PS:=⟨s.vs,s.cs,if s.bad=true then true else !ok⟩
def fU (s:PS) (ks:List Int):PS:=⟨s.vs++ks,s.cs,s.bad⟩
def cQ (s:PS) (w:Int):Int×PS:=
 if((s.vs.length:Int)==s.top.ht)=true then(w,dB s s.top.dd)
 else if(s.vs.getLast?.getD 0==0)=true then(w,⟨s.vs.dropLast,s.cs,s.bad⟩)
 else(s.vs.getLast?.getD 0,dB ⟨s.vs.dropLast,s.cs,s.bad⟩ (if(w==0)=true then true else(s.vs.getLast?.getD 0==w)))
def dL (s:PS) (ks:List Int):PS:=ks.reverse.foldl (fun s k=>(cQ s k).2) s
def bB (k:Int):List Int:=if(k==0)=true then []else [k]
def openP (s:PS) (op kd:Int):PS:=⟨s.vs,s.cs++ [⟨op,kd,s.vs.length,false⟩],s.bad⟩
def gG (s:PS):PS:=
 let s1:=dL s (bB s.top.kd)
 let s2:=dB s1 ((s1.vs.length:Int)==s.top.ht)
 ⟨s2.vs,s2.cs.dropLast,s2.bad⟩
def nM (s:PS):PS:=⟨s.vs.take s.top.ht,s.cs.dropLast++ [⟨s.top.op,s.top.kd,s.top.ht,true⟩],s.bad⟩
def cR (s:PS) (n:Int):List Int×PS:=
 if decide ((s.cs.length:Int)≤n)=true then([],⟨s.vs,s.cs,true⟩)
 else(if((s.cs.getD (s.cs.length-1-n.toNat) ct0).op==3)=true then []else bB (s.cs.getD (s.cs.length-1-n.toNat) ct0).kd,s)
def rG:FT:=⟨[],[]⟩
def cH (m:Md) (t:Int):FT×Bool:=if(if decide (t<0)=true then true else decide ((m.ty.length:Int)≤t))=true then(rG,false)else(m.ty.getD t.toNat rG,true)
def kF (m:Md) (f:Int):Int:=
 if decide (f<m.im.length)=true then(m.im.getD f.toNat ⟨[],[],0⟩).ty
 else if decide (f-m.im.length<m.fn.length)=true then m.fn.getD (f-m.im.length).toNat 0
 else-1
def pF (s:PS) (t:FT) (ok:Bool):PS:=fU (dL (dB s ok) t.pr) t.rs
def WD (a b:List Int):Bool:=if((a.length:Int)==b.length)=true then(if((a.length:Int)==0)=true then true else(a.headD 0==b.headD 0))else false
def vT (w:List Int) (s:PS) (n:Int):PS:=dB (cR s n).2 (WD (cR s n).1 w)
def sC (s:PS) (x:Ins):PS:=
 let r:=cR (cQ s 1).2 x.a
 nM (dL (x.l.foldl (vT r.1) r.2) r.1)
def cG (m:Md) (s:PS) (x:Ins):Bool×PS:=
 if(x.op==0)=true then(true,nM s)
 else if(x.op==1)=true then(true,s)
 else if(x.op==2||x.op==3)=true then(true,openP s x.op x.a)
 else if(x.op==4)=true then(true,openP (cQ s 1).2 x.op x.a)
 else if(x.op==5)=true then(true,openP (gG s) 5 s.top.kd)
 else if(x.op==11)=true then(true,fU (dB (gG s) (if(s.top.op !=4)=true then true else(s.top.kd==0))) (bB s.top.kd))
 else if(x.op==12)=true then(true,nM (dL (cR s x.a).2 (cR s x.a).1))
 else if(x.op==13)=true then(true,let r:=cR (cQ s 1).2 x.a;fU (dL r.2 r.1) r.1)
 else if(x.op==14)=true then(true,sC s x)
 else if(x.op==15)=true then(true,nM (dL s (bB (s.cs.getD 0 ct0).kd)))
 else if(x.op==16)=true then(true,let t:=cH m (kF m x.a);pF s t.1 t.2)
 else if(x.op==17)=true then(true,let t:=cH m x.a;pF (cQ (dB s m.tb.has) 1).2 t.1 t.2)
 else(false,s)
def cT (ls:List Int) (s:PS) (n:Int):Int×PS:=if decide ((ls.length:Int)≤n)=true then(0,⟨s.vs,s.cs,true⟩)else(ls.getD n.toNat 0,s)
def HF:Gl:=⟨false,0,0⟩
def eA (m:Md) (s:PS) (n:Int):Gl×PS:=if decide ((m.gl.length:Int)≤n)=true then(HF,⟨s.vs,s.cs,true⟩)else(m.gl.getD n.toNat HF,s)
def gL (m:Md) (s:PS) (x:Ins) (al:Int) (tk mk:List Int):PS:=fU (dL (dB s (if m.me.has=true then decide (x.a≤al)else false)) tk) mk
def dS (m:Md) (ls:List Int) (s:PS) (x:Ins):PS:=
 if(x.op==26)=true then(cQ s 0).2
 else if(x.op==27)=true then
  let s1:=(cQ s 1).2;let r:=cQ s1 0;let r2:=cQ r.2 r.1;fU r2.2 [r2.1]
 else if(x.op==32)=true then let r:=cT ls s x.a;fU r.2 [r.1]
 else if(x.op==33)=true then let r:=cT ls s x.a;(cQ r.2 r.1).2
 else if(x.op==34)=true then let r:=cT ls s x.a;let r2:=cT ls (cQ r.2 r.1).2 x.a;fU r2.2 [r2.1]
 else if(x.op==35)=true then let r:=eA m s x.a;fU r.2 [r.1.kd]
 else if(x.op==36)=true then let r:=eA m s x.a;(cQ (dB r.2 r.1.mu) r.1.kd).2
 else if(x.op==40)=true then gL m s x 2 [1] [1]
 else if(x.op==41)=true then gL m s x 3 [1] [2]
 else if(x.op==44||x.op==45)=true then gL m s x 0 [1] [1]
 else if(x.op==54)=true then gL m s x 2 [1,1] []
 else if(x.op==55)=true then gL m s x 3 [1,2] []
 else if(x.op==58)=true then gL m s x 0 [1,1] []
 else if(x.op==63)=true then gL m s x 0 [] [1]
 else if(x.op==64)=true then gL m s x 0 [1] [1]
 else if(x.op==65)=true then fU s [1]
 else if(x.op==66)=true then fU s [2]
 else let k:=kN x.op;fU (dL (dB s k.2.2) k.1) [k.2.1]
def gM (m:Md) (ls:List Int) (s:PS) (x:Ins):PS:=let r:=cG m s x;if r.1=true then r.2 else dS m ls r.2 x
def xB (m:Md) (ls:List Int):List Ins→PS→PS
 |[],s=>s
 |x::l,s=>let s':=gM m ls s x;if s'.bad=true then s' else xB m ls l s'
def CZ (m:Md) (k:Int):Bool:=
 if(if(if decide (k<0)=true then true else decide ((m.co.length:Int)≤k))=true then true else decide ((m.fn.length:Int)≤k))=true then false
 else
  let c:=m.co.getD k.toNat ⟨[],[]⟩
  let t:=cH m (m.fn.getD k.toNat 0)
  if(if(!t.2)=true then true else !(vS (cV c.bd)))=true then false
  else
   let ls:=t.1.pr++c.ls
   let s:=xB m ls c.bd (openP ⟨[],[],false⟩ 2 (if decide ((0:Int)<t.1.rs.length)=true then t.1.rs.headD 0 else 0))
   if s.bad=true then false else(if(!(gG s).bad)=true then decide ((ls.length:Int)≤32)else false)
structure PS.Ok0 (s:PS):Prop where
 le:∀c∈s.cs,c.ht≤s.vs.length
 up:s.cs.Pairwise fun a b=>a.ht≤b.ht
structure PS.Ok (s:PS):Prop extends s.Ok0 where
 ne:s.cs≠ []
theorem DA{vs:List Int}{i:List Ct}{t:Ct}{b:Bool}:PS.top ⟨vs,i++ [t],b⟩=t:=by simp[PS.top]
theorem PS.Ok0.split {vs:List Int}{i:List Ct}{t:Ct}{b:Bool}(h:PS.Ok0 ⟨vs,i++ [t],b⟩):(∀c∈i,c.ht≤t.ht)∧t.ht≤vs.length∧i.Pairwise (fun a b=>a.ht≤b.ht):=by
 obtain⟨h1,h2⟩:=h;rw[List.pairwise_append]at h2;exact⟨fun c hc=>h2.2.2 c hc t (by simp),h1 t (by simp),h2.1⟩
theorem PS.Ok.cut {s:PS}(h:s.Ok):∃i,s.cs=i++ [s.top]:=by
 obtain⟨vs,cs,b⟩:=s;have hn:=h.ne;rcases List.eq_nil_or_concat cs with rfl|⟨i,t,rfl⟩
 ·exact absurd rfl hn
 ·rw[List.concat_eq_append];exact⟨i,by rw[DA]⟩
theorem RY(s:PS)(b:Bool):(dB s b).cs=s.cs:=rfl
theorem BI(s:PS)(b:Bool):(dB s b).vs=s.vs:=rfl
theorem PS.Ok.need {s:PS}(h:s.Ok)(b:Bool):(dB s b).Ok:=⟨⟨h.le,h.up⟩,h.ne⟩
theorem PS.Ok0.need {s:PS}(h:s.Ok0)(b:Bool):(dB s b).Ok0:=⟨h.le,h.up⟩
theorem wU(s:PS)(w:Int):(cQ s w).2.cs=s.cs:=by unfold cQ;split<;>(try split)<;>rfl
theorem sD(s:PS)(w:Int):(cQ s w).2.vs.length≤s.vs.length:=by
 unfold cQ;split
 ·exact Nat.le_refl _
 ·split
  ·simp
  ·simp[dB]
theorem PS.Ok.pop {s:PS}(h:s.Ok)(w:Int):(cQ s w).2.Ok:=by
 obtain⟨i,hi⟩:=h.cut;have h0:=h.toOk0;have hne:=h.ne;obtain⟨vs,cs,b⟩:=s;dsimp only at hi;generalize PS.top ⟨vs,cs,b⟩=t at hi;subst hi;obtain⟨h1,h2,h3⟩:=h0.split;have key:¬(vs.length:Int)==t.ht→∀b',PS.Ok ⟨vs.dropLast,i++ [t],b'⟩:=fun hl b'=>by
  have hl:vs.length≠t.ht:=fun e=>hl (by rw[e];exact beq_self_eq_true _)
  refine⟨⟨fun c hc=> ?_,h0.up⟩,by simp⟩;show c.ht≤vs.dropLast.length;rw[List.length_dropLast];rcases List.mem_append.1 hc with hc|hc
  ·have:=h1 c hc;omega
  ·obtain rfl:=List.mem_singleton.1 hc;omega
 unfold cQ;rw[DA];split
 ·exact h.need _
 ·next hl=>
  split
  ·exact key hl b
  ·exact(key hl b).need _
theorem UM(s:PS)(ks:List Int)(k:Int):dL s (ks++ [k])=dL (cQ s k).2 ks:=by simp[dL]
theorem yD{p:PS→Prop}(h:∀s w,p s→p (cQ s w).2):∀(ks:List Int) (s:PS),p s→p (dL s ks):=by
 have:∀(l:List Int) (s:PS),p s→p (l.foldl (fun s k=>(cQ s k).2) s):=by
  intro l
  induction l with
  |nil=>intro s hs;exact hs
  |cons a l ih=>intro s hs;exact ih _ (h s a hs)
 intro ks s hs;exact this _ s hs
theorem oH(s:PS)(ks:List Int):(dL s ks).cs=s.cs:=yD (p:=fun q=>q.cs=s.cs) (fun q w h=>by rw[wU,h]) ks s rfl
theorem nN(s:PS)(ks:List Int):(dL s ks).vs.length≤s.vs.length:=yD (p:=fun q=>q.vs.length≤s.vs.length) (fun q w h=>Nat.le_trans (sD q w) h) ks s (Nat.le_refl _)
theorem PS.Ok.pops {s:PS}(h:s.Ok)(ks:List Int):(dL s ks).Ok:=yD (fun q w h=>h.pop w) ks s h
theorem PS.Ok0.push {s:PS}(h:s.Ok0)(ks:List Int):(fU s ks).Ok0:=⟨fun c hc=>by have:=h.le c hc;simp[fU];omega,h.up⟩
theorem PS.Ok.push {s:PS}(h:s.Ok)(ks:List Int):(fU s ks).Ok:=⟨h.toOk0.push ks,h.ne⟩
theorem PS.Ok0.openP {s:PS}(h:s.Ok0)(op kd:Int):(openP s op kd).Ok:=by
 refine⟨⟨fun c hc=> ?_, ?_⟩,by simp[Proofs.YtjpdadobblffmaaGreat.openP]⟩
 ·rcases List.mem_append.1 hc with hc|hc
  ·exact h.le c hc
  ·obtain rfl:=List.mem_singleton.1 hc;exact Nat.le_refl _
 ·show(s.cs++ [_]).Pairwise _;rw[List.pairwise_append];exact⟨h.up,by simp,fun a ha b hb=>by obtain rfl:=List.mem_singleton.1 hb;exact h.le a ha⟩
theorem PS.Ok.dropc {s:PS}(h:s.Ok):PS.Ok0 ⟨s.vs,s.cs.dropLast,s.bad⟩:=⟨fun c hc=>h.le c (List.dropLast_subset _ hc),h.up.sublist (List.dropLast_sublist _)⟩
theorem PS.Ok.shut {s:PS}(h:s.Ok):(gG s).Ok0:=((h.pops _).need _).dropc
theorem BJ(s:PS):(gG s).cs=s.cs.dropLast:=by show(dL s _).cs.dropLast=_;rw[oH]
theorem DB(s:PS):(gG s).vs.length≤s.vs.length:=nN _ _
theorem PS.Ok0.ok {s:PS}(h:s.Ok0)(hn:s.cs≠ []):s.Ok:=⟨h,hn⟩
theorem PS.Ok.dead {s:PS}(h:s.Ok):(nM s).Ok:=by
 obtain⟨i,hi⟩:=h.cut;have h0:=h.toOk0;obtain⟨vs,cs,b⟩:=s;dsimp only at hi;have hT:nM ⟨vs,cs,b⟩=⟨vs.take (PS.top ⟨vs,cs,b⟩).ht,cs.dropLast++ [⟨(PS.top ⟨vs,cs,b⟩).op,(PS.top ⟨vs,cs,b⟩).kd,(PS.top ⟨vs,cs,b⟩).ht,true⟩],b⟩:=rfl;rw[hT];generalize PS.top ⟨vs,cs,b⟩=t at hi;subst hi;obtain⟨h1,h2,h3⟩:=h0.split;refine⟨⟨fun c hc=> ?_, ?_⟩,by simp⟩
 ·show c.ht≤(vs.take t.ht).length;rw[List.length_take,Nat.min_eq_left h2];simp only[List.dropLast_concat]at hc;rcases List.mem_append.1 hc with hc|hc
  ·exact h1 c hc
  ·obtain rfl:=List.mem_singleton.1 hc;exact Nat.le_refl _
 ·simp only[List.dropLast_concat];rw[List.pairwise_append];exact⟨h3,by simp,fun a ha b hb=>by obtain rfl:=List.mem_singleton.1 hb;exact h1 a ha⟩
theorem yE(s:PS):(nM s).vs.length≤s.vs.length:=by simp[nM];omega
theorem BK{s:PS}(h:s.Ok):(nM s).cs.length=s.cs.length:=by
 have:0<s.cs.length:=List.length_pos_iff.2 h.ne;simp[nM];omega
theorem uK(s:PS)(n:Int):(cR s n).2.cs=s.cs:=by unfold cR;split<;>rfl
theorem uL(s:PS)(n:Int):(cR s n).2.vs=s.vs:=by unfold cR;split<;>rfl
theorem PS.Ok.label {s:PS}(h:s.Ok)(n:Int):(cR s n).2.Ok:=by unfold cR;split;exact⟨⟨h.le,h.up⟩,h.ne⟩;exact h
theorem pG(k:Int):(bB k).length≤1:=by unfold bB;split<;>simp
theorem mV(s:PS)(n:Int):(cR s n).1.length≤1:=by
 unfold cR;split
 ·simp
 ·dsimp only;split
  ·simp
  ·exact pG _
theorem yF(w:List Int)(l:List Int)(s:PS):(l.foldl (vT w) s).cs=s.cs∧(l.foldl (vT w) s).vs=s.vs∧(s.Ok→(l.foldl (vT w) s).Ok):=by
 induction l generalizing s with
 |nil=>exact⟨rfl,rfl,id⟩
 |cons a l ih=>
  obtain⟨h1,h2,h3⟩:=ih (vT w s a);rw[List.foldl_cons];exact⟨h1.trans (uK s a),h2.trans (uL s a),fun h=>h3 ((h.label a).need _)⟩
theorem RZ(s:PS)(ks:List Int):(fU s ks).cs=s.cs:=rfl
theorem yG(s:PS)(ks:List Int):(fU s ks).vs.length=s.vs.length+ks.length:=by simp[fU]
theorem DC(s:PS)(op kd:Int):(openP s op kd).cs.length=s.cs.length+1:=by simp[openP]
theorem PS.Ok.calls {s:PS}(h:s.Ok)(t:FT)(ok:Bool):(pF s t ok).Ok:=((h.need ok).pops _).push _
theorem NC(s:PS)(t:FT)(ok:Bool):(pF s t ok).cs=s.cs:=oH _ _
theorem HG(s:PS)(t:FT)(ok:Bool):(pF s t ok).vs.length≤s.vs.length+t.rs.length:=by
 unfold pF;rw[yG];have:=nN (dB s ok) t.pr;rw[BI]at this;omega
theorem PS.Ok.table {s:PS}(h:s.Ok)(x:Ins):(sC s x).Ok:=(((yF _ _ _).2.2 ((h.pop 1).label x.a)).pops _).dead
theorem YP{s:PS}(h:s.Ok)(x:Ins):(sC s x).cs.length=s.cs.length:=by
 unfold sC;dsimp only;rw[BK (((yF _ _ _).2.2 ((h.pop 1).label x.a)).pops _),oH,(yF _ _ _).1,uK,wU]
theorem UN(s:PS)(x:Ins):(sC s x).vs.length≤s.vs.length:=by
 unfold sC;dsimp only;refine Nat.le_trans (yE _) (Nat.le_trans (nN _ _) ?_);rw[(yF _ _ _).2.1,uL];exact sD _ _
def dK (op:Int):Int:=if(op==2||op==3||op==4)=true then 1 else if(op==11)=true then-1 else 0
def FT.Sm (t:FT):Prop:=t.pr.length≤100∧t.rs.length≤100
def Md.TS (m:Md):Prop:=∀t∈m.ty,t.Sm
theorem aJ{α:Type}{c:Prop} [Decidable c] {p:α→Prop}{a b:α}(h1:c→p a)(h2:¬c→p b):p (if c then a else b):=by split;exact h1 ‹_›;exact h2 ‹_›
theorem oO{m:Md}(h:m.TS)(n:Int):(cH m n).1.Sm:=by
 unfold cH;refine aJ (p:=fun r:FT×Bool=>r.1.Sm) (fun _=> ?_) (fun _=> ?_)
 ·exact⟨by simp[rG],by simp[rG]⟩
 ·show FT.Sm (m.ty.getD n.toNat rG);rw[List.getD_eq_getElem?_getD];cases hg:m.ty[n.toNat]? with
  |none=>exact⟨by simp[rG],by simp[rG]⟩
  |some t=>exact h t (List.mem_of_getElem? hg)
theorem oI{α:Type}(l:List α):l.dropLast.length=l.length-1:=List.length_dropLast
def aHc (s:PS) (x:Ins) (r:Bool×PS):Prop:=r.2.Ok∧r.2.vs.length≤s.vs.length+100∧(r.2.cs.length:Int)=s.cs.length+(if r.1=true then dK x.op else 0)
theorem ND{m:Md}{s:PS}{x:Ins}(h:s.Ok)(hx:x.op=11→2≤s.cs.length)(hT:m.TS):aHc s x (cG m s x):=by
 have hp:0<s.cs.length:=List.length_pos_iff.2 h.ne;unfold cG;refine aJ (fun g=> ?_) (fun _=> ?_)
 ·have:=eq_of_beq g;exact⟨h.dead,by have:=yE s;dsimp only;omega,by rw[BK h,this];simp[dK]⟩
 refine aJ (fun g=> ?_) (fun _=> ?_)
 ·have:=eq_of_beq g;exact⟨h,by dsimp only;omega,by rw[this];simp[dK]⟩
 refine aJ (fun g=> ?_) (fun _=> ?_)
 ·
  refine⟨h.toOk0.openP _ _,by show s.vs.length≤ _;omega, ?_⟩;dsimp only;rw[DC];simp only[Bool.or_eq_true,beq_iff_eq]at g;rcases g with g|g<;>(rw[g];simp[dK])
 refine aJ (fun g=> ?_) (fun _=> ?_)
 ·
  refine⟨(h.pop 1).toOk0.openP _ _,by have:=sD s 1;show(cQ s 1).2.vs.length≤ _;omega, ?_⟩;dsimp only;rw[DC,wU,eq_of_beq g];simp[dK]
 refine aJ (fun g=> ?_) (fun _=> ?_)
 ·
  refine⟨h.shut.openP _ _,by have:=DB s;show(gG s).vs.length≤ _;omega, ?_⟩;dsimp only;rw[DC,BJ,oI,eq_of_beq g];simp[dK];omega
 refine aJ (fun g=> ?_) (fun _=> ?_)
 ·
  have h2:=hx (eq_of_beq g);have hne:(gG s).cs≠ []:=by rw[BJ];exact List.length_pos_iff.1 (by rw[oI];omega)
  refine⟨((h.shut.ok hne).need _).push _, ?_, ?_⟩
  ·have h3:=DB s;have h4:=pG s.top.kd;dsimp only;rw[yG,BI];omega
  ·dsimp only;rw[RZ,RY,BJ,oI,eq_of_beq g];simp[dK];omega
 refine aJ (fun g=> ?_) (fun _=> ?_)
 ·
  refine⟨((h.label _).pops _).dead, ?_, ?_⟩
  ·refine Nat.le_trans (yE _) (Nat.le_trans (nN _ _) ?_);rw[uL];omega
  ·dsimp only;rw[BK ((h.label _).pops _),oH,uK,eq_of_beq g];simp[dK]
 refine aJ (fun g=> ?_) (fun _=> ?_)
 ·
  refine⟨(((h.pop 1).label _).pops _).push _, ?_, ?_⟩
  ·dsimp only;rw[yG];have h1:=nN (cR (cQ s 1).2 x.a).2 (cR (cQ s 1).2 x.a).1;rw[uL]at h1;have h2:=sD s 1;have h3:=mV (cQ s 1).2 x.a;omega
  ·dsimp only;rw[RZ,oH,uK,wU,eq_of_beq g];simp[dK]
 refine aJ (fun g=> ?_) (fun _=> ?_)
 ·exact⟨h.table x,by have:=UN s x;dsimp only;omega,by dsimp only;rw[YP h,eq_of_beq g];simp[dK]⟩
 refine aJ (fun g=> ?_) (fun _=> ?_)
 ·
  refine⟨(h.pops _).dead, ?_, ?_⟩
  ·refine Nat.le_trans (yE _) (Nat.le_trans (nN _ _) ?_);omega
  ·dsimp only;rw[BK (h.pops _),oH,eq_of_beq g];simp[dK]
 refine aJ (fun g=> ?_) (fun _=> ?_)
 ·
  refine⟨h.calls _ _, ?_, ?_⟩
  ·have h1:=HG s (cH m (kF m x.a)).1 (cH m (kF m x.a)).2;have h2:=(oO hT (kF m x.a)).2;dsimp only;omega
  ·dsimp only;rw[NC,eq_of_beq g];simp[dK]
 refine aJ (fun g=> ?_) (fun _=> ?_)
 ·
  refine⟨((h.need _).pop _).calls _ _, ?_, ?_⟩
  ·have h1:=HG (cQ (dB s m.tb.has) 1).2 (cH m x.a).1 (cH m x.a).2;have h2:=(oO hT x.a).2;have h3:=sD (dB s m.tb.has) 1;rw[BI]at h3;dsimp only;omega
  ·dsimp only;rw[NC,wU,RY,eq_of_beq g];simp[dK]
 ·exact⟨h,by dsimp only;omega,by simp⟩
def Nxt (s:PS) (n:Nat) (q:PS):Prop:=q.Ok∧q.vs.length≤s.vs.length+n∧q.cs=s.cs
theorem PS.Ok.nxt {s:PS}(h:s.Ok):Nxt s 0 s:=⟨h,Nat.le_refl _,rfl⟩
theorem Nxt.pop {s q:PS}{n:Nat}(h:Nxt s n q)(w:Int):Nxt s n (cQ q w).2:=⟨h.1.pop w,Nat.le_trans (sD q w) h.2.1,(wU q w).trans h.2.2⟩
theorem Nxt.pops {s q:PS}{n:Nat}(h:Nxt s n q)(ks:List Int):Nxt s n (dL q ks):=⟨h.1.pops ks,Nat.le_trans (nN q ks) h.2.1,(oH q ks).trans h.2.2⟩
theorem Nxt.need {s q:PS}{n:Nat}(h:Nxt s n q)(b:Bool):Nxt s n (dB q b):=⟨h.1.need b,h.2.1,h.2.2⟩
theorem Nxt.bad {s q:PS}{n:Nat}(h:Nxt s n q):Nxt s n ⟨q.vs,q.cs,true⟩:=⟨⟨⟨h.1.le,h.1.up⟩,h.1.ne⟩,h.2.1,h.2.2⟩
theorem Nxt.push {s q:PS}{n:Nat}(h:Nxt s n q)(ks:List Int)(k:Nat)(hk:n+ks.length≤k):Nxt s k (fU q ks):=⟨h.1.push ks,by rw[yG];have:=h.2.1;omega,h.2.2⟩
theorem Nxt.up {s q:PS}{n:Nat}(h:Nxt s n q)(k:Nat)(hk:n≤k):Nxt s k q:=⟨h.1,by have:=h.2.1;omega,h.2.2⟩
theorem Nxt.loc {s q:PS}{n:Nat}(h:Nxt s n q)(ls:List Int)(x:Int):Nxt s n (cT ls q x).2:=by unfold cT;split;exact h.bad;exact h
theorem Nxt.glob {s q:PS}{n:Nat}(h:Nxt s n q)(m:Md)(x:Int):Nxt s n (eA m q x).2:=by unfold eA;split;exact h.bad;exact h
theorem Nxt.acc {s q:PS}{n:Nat}(h:Nxt s n q)(m:Md)(x:Ins)(al:Int)(tk mk:List Int)(k:Nat)(hk:n+mk.length≤k):Nxt s k (gL m q x al tk mk):=((h.need _).pops _).push _ k hk
theorem UO{m:Md}{ls:List Int}{s:PS}{x:Ins}(h:s.Ok):Nxt s 1 (dS m ls s x):=by
 have h:=h.nxt;unfold dS;refine aJ (fun _=>(h.pop 0).up 1 (by omega)) (fun _=> ?_);refine aJ (fun _=>Nxt.push (((h.pop 1).pop 0).pop _) _ 1 (by simp)) (fun _=> ?_);refine aJ (fun _=>(h.loc ls x.a).push _ 1 (by simp)) (fun _=> ?_);refine aJ (fun _=>Nxt.up ((h.loc ls x.a).pop _) 1 (by omega)) (fun _=> ?_);refine aJ (fun _=>Nxt.push (((h.loc ls x.a).pop _).loc ls x.a) _ 1 (by simp)) (fun _=> ?_);refine aJ (fun _=>(h.glob m x.a).push _ 1 (by simp)) (fun _=> ?_);refine aJ (fun _=>Nxt.up (((h.glob m x.a).need _).pop _) 1 (by omega)) (fun _=> ?_);refine aJ (fun _=>h.acc m x _ _ _ 1 (by simp)) (fun _=> ?_);refine aJ (fun _=>h.acc m x _ _ _ 1 (by simp)) (fun _=> ?_);refine aJ (fun _=>h.acc m x _ _ _ 1 (by simp)) (fun _=> ?_);refine aJ (fun _=>h.acc m x _ _ _ 1 (by simp)) (fun _=> ?_);refine aJ (fun _=>h.acc m x _ _ _ 1 (by simp)) (fun _=> ?_);refine aJ (fun _=>h.acc m x _ _ _ 1 (by simp)) (fun _=> ?_);refine aJ (fun _=>h.acc m x _ _ _ 1 (by simp)) (fun _=> ?_);refine aJ (fun _=>h.acc m x _ _ _ 1 (by simp)) (fun _=> ?_);refine aJ (fun _=>h.push _ 1 (by simp)) (fun _=> ?_);refine aJ (fun _=>h.push _ 1 (by simp)) (fun _=> ?_);exact((h.need _).pops _).push _ 1 (by simp)
theorem uM{P:Program}(w:World)(t u ty e:TypeId)(i:TypeInfo)(ht:P.underlying t=some (.slice e))(hu:P.underlying u=some .string)(hi:P.info? e=some i)(hs1:i.size=1)
  (g sLen sCap:Nat) (cur:Array Value) (fz:Nat×Nat) (hg:w.heap[g]? =some (.cells cur e fz)) (hz:Fz cur.size fz) (s:ByteArray)
  (hroom:sLen+s.size≤sCap) (hfit:sLen+s.size≤cur.size):
  (Builtin.append_ #[t,u] ty #[.slice (some ⟨g,0,none⟩) sLen sCap,.string s]).run P w=
   .ok (.slice (some ⟨g,0,none⟩) (sLen+s.size) sCap) (w.setRow g (cur.toList.take sLen++Lib.strCells s++cur.toList.drop (sLen+s.size)).toArray):=by
 have hf:=Lib.run_firstCells_string (P:=P) w 1 s;have hst:=hY (P:=P) g sLen e fz (Lib.strCells s) 0 cur w hg hz (by simpa[Lib.strCells_length]using hfit) (Lib.strCells_oneCell s);simp only[Nat.add_zero,Lib.strCells_length]at hst;simp[Builtin.append_,run_underlying ht,run_underlying hu,sizeOf,typeInfo,hi,hs1,Builtin.lenOf,hroom,hf,Addr.add_lit,hst]
theorem AX{P:Program}(w:World)(t u ty e:TypeId)(i:TypeInfo)(ht:P.underlying t=some (.slice e))(hu:P.underlying u=some .string)(hi:P.info? e=some i)(hz:i.zero=some (.int .u8 0))
  (hsize:i.size=1) (hby:i.bytes=1) (v:Value) (n:Nat) (xs:List Value) (hn:0<n) (hown:rowG w 0 e 1 v n xs) (s:ByteArray) (h63:n+s.size≤maxLen) (hbytes:n+s.size≤140737488355328):
  ∃v' w',(Builtin.append_ #[t,u] ty #[v,.string s]).run P w=.ok v' w'∧rowG w' 0 e 1 v' (n+s.size) (xs++Lib.strCells s)∧w.grownBy w' v.ownBlock∧(v'.ownBlock=v.ownBlock∨v'.ownBlock=some w.heap.size):=by
 rcases hown.2 with⟨rfl,rfl⟩|⟨g,cap,cur,fz,rfl,hbg,hg,hfz,hnc,hcm,hcs,htake⟩
 ·omega
 have hl:=Lib.strCells_length s;have hxl:xs.length=n:=by simpa using hown.1
 have hsmall:n+s.size≤9223372036854775807:=by simp only[maxLen]at h63;omega
 have hlen:(xs++Lib.strCells s).length=(n+s.size)*1:=by rw[List.length_append,hxl,hl,Nat.mul_one]
 rw[Nat.mul_one]at hcs htake;by_cases hroom:n+s.size≤cap
 ·have hr:=uM (P:=P) w t u ty e i ht hu hi hsize g n cap cur fz hg hfz s hroom (by omega);have hsz2:(cur.toList.take n++Lib.strCells s++cur.toList.drop (n+s.size)).toArray.size=cur.size:=by
   simp only[List.size_toArray,List.length_append,List.length_take,List.length_drop,Array.length_toList,hl];omega
  refine⟨_,_,hr,⟨hlen,.inr ⟨g,cap,_,fz,rfl,hbg,setRow_heap w g cur _ e _ hg,by rw[hsz2];exact hfz,hroom,hcm,by rw[hsz2];omega, ?_⟩⟩,⟨rfl,rfl,rfl,by simp,fun k _ hk=>setRow_other w g k _ (fun e=>hk (by simp[Value.ownBlock,e]))⟩,Or.inl rfl⟩;rw[htake,←hlen];exact List.take_left
 ·have holds:∀j u,xs[j]? =some u→w.cell? ((⟨g,0,none⟩:Addr).add j)=some u:=by
   intro j u hu;rw[Addr.add_lit,Nat.zero_add,cell_of_row w g j cur e fz hg,←Array.getElem?_toList];rw[←htake,List.getElem?_take]at hu;split at hu
   ·exact hu
   ·cases hu
  have hr:=Lib.run_append_grow_string (P:=P) w t u ty e i (.int .u8 0) ht hu hi hz ⟨g,0,none⟩ n cap xs (by rw[hsize];simpa using hxl) holds s (by omega) (by omega) (by rw[hby];exact growslice_fits (by omega) (by omega));have hge:=grownCap_ge w (n+s.size) cap e;have hcm:=grownCap_le_maxLen w (n+s.size) cap e h63;refine⟨_,_,hr,⟨hlen,.inr ⟨w.heap.size,_,_,(0,0),rfl,Nat.zero_le _,heap_alloc_new w.drew _,.inl rfl,hge,hcm, ?_, ?_⟩⟩,⟨rfl,rfl,rfl,by simp,fun k hk _=>heap_alloc_old w.drew _ hk⟩,Or.inr rfl⟩
  ·have hz1:(Value.int IntKind.u8 0).cells.size=1:=rfl;simp only[Array.size_append,List.size_toArray,size_zeroCells,hz1,hxl,hl];omega
  ·simp only[Array.toList_append,List.append_assoc];rw[←List.append_assoc,←hlen];exact List.take_left
section
variable {P : Program} {n : Nat} {s : ASt} {K : ASt → Prop} {ty t u : TypeId} {x y : Operand} {d : Nat}
theorem DD{e:TypeId} [Ty P t (.slice e)] [Ty P u .string] [Tz P e 1 1 (.int .u8 0)] {r len:Nat}{es:List (List AV)}{b:List Nat}(hb:aev s x=some (.own r 0 len))(hg:gU s.σ r=some (.arr e 1 es))(hlen:len≤es.length)(hpos:0<len)(hy:aev s y=some (.str (dV b)))(hlt:∀c∈b,c<256)
  (hmax:len+b.length≤140737488355328) (hd:d<n)
  (hK:∀r',Fresh r' (eZ [r] s.σ)→K ⟨(d,.own r' 0 (len+(b.map aH).length))::s.fr,(r',.arr e 1 (es.take len++b.map aH))::eZ [r] s.σ⟩):Hop P n (.call { callee:=.builtin .append,args:=#[x,y],argTypes:=#[t,u] }) ty (some d) s [r] K:=by
 intro M F N a w o ho hty hdst hr next Q hnext
 have hbase:=hr.aev hb;have hmem:=bV hg;obtain⟨h0,hrowsE,h3⟩:=hr.st.ent _ hmem;obtain⟨i,hi,hz0,hs0,hb0⟩:=Tz.parts P e;have he:a.eval y=.string (dV b):=by
  have:=hr.aev hy;generalize a.eval y=v at this⊢;cases this;rfl
 have hsl:(dV b).size=(b.map aH).length:=by simp[dV,ByteArray.size]
 have hnews:Lib.strCells (dV b)=b.map (fun c:Nat=>Value.int .u8 (c:Int)):=by
  unfold Lib.strCells dV;simp only[List.map_map];refine List.map_congr_left fun c hc=> ?_
  have:=hlt c hc;simp[Nat.mod_eq_of_lt this]
 have hrows:RowsAt M F w 1 (b.map aH) (Lib.strCells (dV b)):=by
  rw[hnews];refine⟨by simp,fun i x j a u hi hj hu=> ?_⟩;simp only[List.getElem?_map,Option.map_eq_some_iff]at hi hu;obtain⟨c,hc,rfl⟩:=hi
  match j,hj with
  |0,hj=>
   obtain rfl:=Option.some.inj hj;obtain⟨c',hc',rfl⟩:=hu;rw[Nat.mul_one,Nat.add_zero]at hc';obtain rfl:=Option.some.inj (hc.symm.trans hc');exact .int _ _
  |j+1,hj=>cases hj
 have hok:iT 1 (b.map aH):=by
  intro x hx;obtain⟨c,-,rfl⟩:=List.mem_map.1 hx;exact⟨rfl,by simp[aH,AV.cell]⟩
 generalize hys:b.map aH=ys at hrows hok hsl hK⊢;have hyl:ys.length=b.length:=by rw[←hys];simp
 obtain⟨news,hns⟩:∃news,news=Lib.strCells (dV b):=⟨_,rfl⟩
 rw[←hns]at hrows;have hokT:iT 1 (es.take len):=fun x hx=>hrowsE x (List.mem_of_mem_take hx)
 have hlenT:(es.take len).length=len:=by rw[List.length_take];omega
 --what the row holds
 have hown:∃v xs,a.eval x=v∧rowG w 0 e 1 v len xs∧RowsAt M F w 1 (es.take len) xs∧(∀g,v.ownBlock=some g→bY M r=some g)∨(∃A,a.eval x=.slice A 0 0∧len=0∧v=.slice A 0 0∧xs=[]):=by
  generalize a.eval x=u at hbase⊢;cases hbase with
  |own0=>exact⟨_,[],.inr ⟨_,rfl,rfl,rfl,rfl⟩⟩
  |own hM hle hmm=>
   rcases h3 with⟨hv',_⟩|⟨g,cc,vs,hM',hcl,hsz,hle',hmax',hvr⟩
   ·rw[hM]at hv';cases hv'
   ·have hg':=hM'.symm.trans hM;simp only[Option.some.injEq,Blk'.row.injEq]at hg';obtain⟨q1,q2,q3⟩:=hg';subst q1;subst q2;subst q3;obtain⟨fz,hcl,hfz⟩:=hcl;have hfit:len*1≤vs.size:=by rw[hsz];exact Nat.mul_le_mul_right _ (by omega)
    refine⟨_,vs.toList.take (len*1),.inl ⟨rfl,⟨by rw[List.length_take];simp;omega,.inr ⟨g,cc,vs,fz,by simp,Nat.zero_le _,hcl,hfz,by omega,hmm,hsz,rfl⟩⟩,⟨by rw[hlenT,List.length_take];simp;omega,fun i' x' j b u hi' hj hu=> ?_⟩,fun g2 hg2=> ?_⟩⟩
    ·have hil:=(List.getElem?_eq_some_iff.1 hi').1;rw[hlenT]at hil;have hjs:j<1:=by rw[←(hokT x' (List.mem_of_getElem? hi')).1];exact(List.getElem?_eq_some_iff.1 hj).1
     rw[List.getElem?_take_of_lt hil]at hi';rw[List.getElem?_take_of_lt (jO hil hjs)]at hu;exact hvr i' x' j b u hi' hj (by simpa using hu)
    ·simp only[Value.ownBlock,Option.some.injEq]at hg2;subst hg2;simp[bY,hM]
 obtain⟨v,xs,hown|⟨B,hx,rfl,rfl,rfl⟩⟩:=hown
 ·obtain⟨hx,hown,hrT,hblk⟩:=hown;obtain⟨v',w',hrun,ho',hg',hbl⟩:=AX (P:=P) w t u o.type e i (Ty.und (P:=P) (t:=t)) (Ty.und (P:=P) (t:=u)) hi hz0 hs0 hb0 v len xs hpos hown (dV b) (by rw[hsl];simp[maxLen];omega) (by rw[hsl];omega);rw[hsl,←hns]at ho';have hex:(execOp a.eval o).run P w=.ok (.value v') w':=by
   simp only[execOp,ho,resolve,invoke,builtin,Sem.run_bind,Sem.run_pure,Result.andThen_ok,List.map_toArray,List.map_cons,List.map_nil,hx,he,hrun]
  unfold Oper.wp;rw[hex,Oper.upon_value,hdst];have honly:Only (fun k=>bY M r=some k) w w':=⟨hg'.os,hg'.tape,hg'.output,hg'.size,fun k hk hne=>hg'.block k hk (fun e=>hne (hblk k e.symm))⟩
  have hSame:Same F w w':=fun g hgF=>honly.block g (hr.st.flt g hgF) (fun e=>hr.st.nof g ⟨_,hmem,e⟩ hgF)
  have hcat:RowsAt M F w 1 (es.take len++ys) (xs++news):=hrT.append hokT hrows;have hokC:iT 1 (es.take len++ys):=fun x hx=>(List.mem_append.1 hx).elim (hokT x) (hok x)
  rcases ho'.2 with⟨rfl,hz'⟩|⟨g2,cap,cur,fz2,rfl,_,hg2,hfz2,hn2,hm2,hs2,ht2⟩
  ·have hl0:len=0:=by omega
   have hy0:ys=[]:=List.eq_nil_of_length_eq_zero (by omega);subst hl0;subst hy0;have hE:ER (gH M N .virt) F w' N (.arr e 1 (es.take 0++ [])):=⟨h0,fun x hx=>by simp at hx,.inl ⟨cN _,by simp⟩⟩
   obtain⟨r1,e1,n1,o1⟩:=hr.move_ hmem .virt honly (fun g hg=>by simp[bY,cN]at hg) hE;exact hnext _ F (N+1) _ _ ⟨(d,.own N 0 (0+0))::s.fr,_⟩ (r1.put hd .own0) e1 o1 (hK N n1)
  ·have hE:ER (gH M N (.row g2 cap 1)) F w' N (.arr e 1 (es.take len++ys)):=by
    refine⟨h0,hokC,.inr ⟨g2,cap,cur,cN _,⟨fz2,hg2,hfz2⟩,hs2,by rw[List.length_append,hlenT];exact hn2,hm2,fun i' x' j b u hi' hj hu=> ?_⟩⟩;refine VR.mono (fun r b' h=>oR hr.st.fresh _ h) (fun _ h=>h) hSame (hcat.2 i' x' j b u hi' hj ?_);have hil:=(List.getElem?_eq_some_iff.1 hi').1;rw[List.length_append,hlenT]at hil;have hjs:j<1:=by rw[←(hokC x' (List.mem_of_getElem? hi')).1];exact(List.getElem?_eq_some_iff.1 hj).1
    rw[←ht2,List.getElem?_take_of_lt (jO hil hjs)];simpa using hu
   obtain⟨r1,e1,n1,o1⟩:=hr.move_ hmem (.row g2 cap 1) honly (fun g hg=>by
    simp only[bY,cN,Option.some.injEq]at hg;subst hg;rcases hbl with h|h
    ·exact .inl (hblk g2 (h.symm.trans rfl))
    ·simp only[Value.ownBlock,Option.some.injEq]at h;exact .inr (by omega)) hE
   have hv:=VR.own (M:=gH M N (.row g2 cap 1)) (F:=F) (w:=w') (t:=N) (off:=0) (len:=len+ys.length) (cN _) (by omega) hm2;simp only[Nat.zero_mul,Nat.sub_zero]at hv;exact hnext _ F (N+1) _ _ ⟨(d,.own N 0 (len+ys.length))::s.fr,_⟩ (r1.put hd hv) e1 o1 (hK N n1)
 ·omega
end
section
variable {P : Program} {n : Nat} {ops : Array Oper} {rest : List Oper} {fr : Fr} {σ : dY} {K : ASt → Prop} {ty t u : TypeId} {pos : String} {af : Array Edge} {x y : Operand} {d : Nat}
theorem apS{e:TypeId} [Ty P t (.slice e)] [Ty P u .string] [Tz P e 1 1 (.int .u8 0)] {r len:Nat}(vs b:List Nat)(hlt:∀c∈b,c<256)
  (hK:∀r',Fresh r' (eZ [r] σ)→∃σ',SSet σ r (.arr e 1 (vs.map aH)) r' (.arr e 1 ((vs++b).map aH)) σ'∧RS P n ops rest ⟨(d,.own r' 0 (vs++b).length)::fr,σ'⟩ K)
  (hb:aev ⟨fr,σ⟩ x=some (.own r 0 len):=by rfl) (hg:gU σ r=some (.arr e 1 (vs.map aH)):=by exact bH) (hlen:len=vs.length:=by exact JH) (hpos:0<len:=by first|omega|(simp;omega)) (hy:aev ⟨fr,σ⟩ y=some (.str (dV b)):=by rfl)
  (hmax:len+b.length≤140737488355328:=by(simp;try omega)) (hd:Nat.ble (d+1) n=true:=by rfl):
  RS P n ops (⟨some d,.call { callee:=.builtin .append,args:=#[x,y],argTypes:=#[t,u] },ty,pos,af,none⟩::rest) ⟨fr,σ⟩ K:=by
 refine iA (DD hb hg (by simp;omega) hpos hy hlt hmax (dF hd) fun r' hf=> ?_);obtain⟨σ',hs,hK⟩:=hK r' hf;dsimp only;rw[hlen,show vs.length=(vs.map aH).length by simp,List.take_length,←List.map_append];refine zG (fun p hp=>hs.sub p hp) ?_;rw[show(vs.map aH).length+(b.map aH).length=(vs++b).length by simp];exact hK
end
theorem jR{P:Program}{n:Nat}{ops:Array Oper}{listed:Array Bool}{rest:List (Nat×Bool)}{held:List (Nat×List Nat)}{s:ASt}{K:ASt→Prop}{z:Nat}{zb:Bool}(i j:Nat)(t1 t2:List (Nat×Bool)){dst dst':Option Nat}{op op':Op}{ty ty':TypeId}{pos pos':String}{af af':Array Edge}{f1 f2:List Nat}
  (hr:(Region.ready .any ops listed==[i,j]&&(t1.length==rest.length)&&(t2.length==rest.length)&&CC ops (listed.setIfInBounds i true) t1&&CC ops (listed.setIfInBounds j true) t2)=true)
  (hi:ops[i]? =some ⟨dst,op,ty,pos,af,none⟩) (hj:ops[j]? =some ⟨dst',op',ty',pos',af',none⟩)
  (h1:Hop P n op ty dst s f1 fun s'=>RD P n ops (listed.setIfInBounds i true) t1 held s' K) (h2:Hop P n op' ty' dst' s f2 fun s'=>RD P n ops (listed.setIfInBounds j true) t2 held s' K)
  (g1:f1=[]∨((∀r∈f1,r∈s.σ.map (·.1))∧HB ops i (s.σ.map (·.1)) f1 held)) (g2:f2=[]∨((∀r∈f2,r∈s.σ.map (·.1))∧HB ops j (s.σ.map (·.1)) f2 held)):RD P n ops listed ((z,zb)::rest) held s K:=by
 intro hsel _ M F N a w hr0;simp only[Bool.and_eq_true,beq_iff_eq]at hr;obtain⟨⟨⟨⟨hrd,hl1⟩,hl2⟩,hc1⟩,hc2⟩:=hr;have main:∀ {k:Nat} {t:List (Nat×Bool)} {dst:Option Nat} {op:Op} {ty:TypeId} {pos:String} {af:Array Edge} {fp:List Nat},t.length=rest.length→CC ops (listed.setIfInBounds k true) t=true→ops[k]? =some ⟨dst,op,ty,pos,af,none⟩→
   Hop P n op ty dst s fp (fun s'=>RD P n ops (listed.setIfInBounds k true) t held s' K)→(fp=[]∨((∀r∈fp,r∈s.σ.map (·.1))∧HB ops k (s.σ.map (·.1)) fp held))→wpOp P ops (PostN n M F N w s.σ K) k (fun a' w'=>(∀g,Hd ops M F held k g→g<w.heap.size→w'.heap[g]? =w.heap[g]?)∧tP P .any ops (PostN n M F N w s.σ K) (Hd ops M F held) rest.length (listed.setIfInBounds k true) a' w') a w:=by
  intro k t dst op ty pos af fp hl hc hk h hfp;unfold wpOp;simp only[hk];rw[if_pos (by simp[Region.wanted])];refine .inl (h M F N a w _ rfl rfl rfl hr0 _ _ fun M' F' N' a' w' s' hr' he ho hk'=>⟨fun g hg hlt=> ?_, ?_⟩)
  ·rcases hg with hg|⟨r,hrh,hg⟩
   ·exact he.only.block g hlt (fun hB=>hr0.st.nof g hB hg)
   ·rcases hfp with rfl|⟨hf1,hb⟩
    ·exact ho.block g hlt (by simp)
    ·obtain⟨h1,h2⟩:=hb.held r hrh;obtain⟨p,hp,rfl⟩:=List.mem_map.1 h1;refine ho.block g hlt ?_;rintro⟨q,hq,hqg⟩;obtain⟨p2,hp2,rfl⟩:=List.mem_map.1 (hf1 q hq);exact h2 (by rw[hr0.st.inj p hp p2 hp2 g hg hqg];exact hq)
  ·rw[←hl];refine jI (PostN.ext he) ?_ _ _ _ _ (hk' hsel hc M' F' N' a' w' hr');rintro j' g (hg|⟨r,hrr,hg⟩)
   ·exact .inl (he.ff g hg)
   ·refine .inr ⟨r,hrr, ?_⟩;unfold bY at hg⊢;cases hm:M r with
    |none=>rw[hm]at hg;cases hg
    |some b=>rw[hm]at hg;rw[he.mm _ _ hm];exact hg
 refine⟨fun h0=>by rw[hrd]at h0;simp at h0,fun k hk=> ?_⟩;rw[hrd]at hk;rcases List.mem_cons.1 hk with rfl|hk
 ·exact main hl1 hc1 hi h1 g1
 ·obtain rfl:=List.mem_singleton.1 hk;exact main hl2 hc2 hj h2 g2
theorem wC{P:Program}{n:Nat}{fr:Fr}{σ:dY}{K:ASt→Prop}{ty t:TypeId}{d:Nat}{e:TypeId}{sz by_:Nat}{zv:Value}{len:Nat}{parts:Array (Nat×Operand)}{vs:List AV}{es:List (List AV)}(i1:Ty P t (.slice e))(i2:Tz P e sz by_ zv)(hv:AEvs ⟨fr,σ⟩ (parts.toList.map (·.2)) vs)(hp:parts.toList=qS 0 (parts.toList.map (·.2)))(hlen:(len==vs.length)=true)(h0:(decide (0<sz)&&decide (len*sz≤16777216))=true)
  (hc:(vs.all fun v=>v.cells.length==sz&&v.cells.all AV.cell)=true) (he:vs.map AV.cells=es) (hd:Nat.ble (d+1) n=true) (hK:∀r,Fresh r σ→K ⟨(d,.own r 0 len)::fr,(r,.arr e sz es)::σ⟩):Hop P n (.buildSlice t len parts) ty (some d) ⟨fr,σ⟩ [] K:=by
 subst he;exact nR hp hv hlen h0 hc (dF hd) hK
theorem NE{s s':ASt}(ts:List Nat)(hf:∀i x',dU s'.fr i=some x'→∃x,dU s.fr i=some x∧Bor s.σ ts x x')(hσ:∀p∈s'.σ,p.1∉ts∧∃x,(p.1,x)∈s.σ∧∀(M:Mp) (F:Nat→Prop) (N:Nat) (w:World),SR M F N w s.σ→ER M F w p.1 x→ER M (FPlus M F s.σ ts) w p.1 p.2):SGo s s':=by
 intro M F N n a w hr;refine⟨M,FPlus M F s.σ ts,N,⟨hr.size,hr.defers,fun i x' hi=> ?_, ?_, ?_, ?_,fun b hb=>hb.flt hr.st,hr.st.fresh⟩,fun _ _ h=>h,fun _ h=>.inl h,Nat.le_refl _,Only.refl _ _, ?_, ?_, ?_⟩
 ·obtain⟨x,hx,hb⟩:=hf i x' hi;exact hb.vr hr.st (hr.fr i x hx)
 ·intro p hp;obtain⟨_,x,hx,hb⟩:=hσ p hp;exact hb M F N w hr.st (hr.st.ent _ hx)
 ·intro p hp q hq g h1 h2;obtain⟨_,x,hx,_⟩:=hσ p hp;obtain⟨_,y,hy,_⟩:=hσ q hq;exact hr.st.inj (p.1,x) hx (q.1,y) hy g h1 h2
 ·rintro g ⟨p,hp,hg⟩ hF;obtain⟨hn,x,hx,_⟩:=hσ p hp;rcases hF with hF|⟨q,hq,hqt,hqg⟩
  ·exact hr.st.nof g ⟨_,hx,hg⟩ hF
  ·exact hn (by have:=hr.st.inj _ hx _ hq g hg hqg;simp only at this;rw[this];exact hqt)
 ·rintro g ⟨p,hp,hg⟩ _;obtain⟨_,x,hx,_⟩:=hσ p hp;exact⟨_,hx,hg⟩
 ·rintro b (hb|⟨q,hq,_,hqg⟩)
  ·exact .inl hb
  ·exact .inr (.inr ⟨q,hq,hqg⟩)
 ·intro p hp _;obtain⟨_,x,hx,_⟩:=hσ p hp;exact⟨_,hx,rfl⟩
theorem SA{fr:Fr}{σ σ1 σ':dY}{r q:Nat}{et:TypeId}{sz:Nat}{es es':List (List AV)}{e:Ent}(hs:SSet σ r (.arr et sz es) r (.arr et sz es') σ1)(hd:SDel σ1 q e σ')(hl:es'.length=es.length)(hok:iT sz es')
  (hb:∀(i:Nat) (x x':List AV),es[i]? =some x→es'[i]? =some x'→BorL σ [q] x x'):SGo ⟨fr,σ⟩ ⟨fr,σ'⟩:=by
 refine NE [q] (fun i x' hi=>⟨x',hi,.refl _⟩) (fun p hp=> ?_);obtain⟨h1,h2⟩:=hd.sub p hp;refine⟨by simpa using h2, ?_⟩;rcases List.mem_cons.1 (hs.sub p h1)with rfl|h
 ·refine⟨_,bV hs.get,fun M F N w hr hx=> ?_⟩;obtain⟨g0,g1,g2⟩:=hx;refine⟨g0,hok, ?_⟩;rcases g2 with⟨k1,k2⟩|⟨g,c,vs,k1,k2,k3,k4,k5,k6⟩
  ·refine .inl ⟨k1, ?_⟩;subst k2;exact List.length_eq_zero_iff.1 hl
  ·refine .inr ⟨g,c,vs,k1,k2,k3,by rw[hl];exact k4,k5,fun i x' j a' u hi hj hu=> ?_⟩;have hil:=(List.getElem?_eq_some_iff.1 hi).1;have hx:es[i]? =some (es[i]'(by omega)):=List.getElem?_eq_getElem (by omega);obtain⟨hbl,hbe⟩:=(hb i _ x' hx hi).at_;have hjl:=(List.getElem?_eq_some_iff.1 hj).1;have ha:(es[i]'(by omega))[j]? =some ((es[i]'(by omega))[j]'(by omega)):=List.getElem?_eq_getElem (by omega);refine(hbe j a' hj).vr hr ?_;rw[List.getD_eq_getElem?_getD,ha,Option.getD_some];exact k6 i _ j _ u hx ha hu
 ·exact⟨p.2,(fC h).1,fun M F N w hr hx=>hx.mono (fun _ _ h=>h) (fun _ h=>.inl h) (fun _ _=>rfl) (fun _ _=>rfl)⟩
section
variable {P : Program} {n : Nat} {s : ASt} {K : ASt → Prop} {ty t u : TypeId} {x : Operand} {d : Nat}
theorem DE(w:World)(g n k:Nat)(h:k≠g):(w.freeze ⟨g,n,none⟩ 1).heap[k]? =w.heap[k]? :=by
 simp[World.freeze,Array.getElem?_modify,Ne.symm h]
theorem UP(w:World)(g n:Nat){vs:Array Value}{e:TypeId}{fz:Nat×Nat}(h:w.heap[g]? =some (.cells vs e fz)):(w.freeze ⟨g,n,none⟩ 1).heap[g]? =some (.cells vs e (if fz.1==fz.2 then(n,n+1)else(min fz.1 n,max fz.2 (n+1)))):=by
 obtain⟨lo,hi⟩:=fz;simp[World.freeze,Array.getElem?_modify,h]
theorem FJ{e:TypeId} [Ty P t (.slice e)] [Ty P e (.int .u8)] {r len:Nat}{et:TypeId}{es:List (List AV)}(hx:aev s x=some (.own r 0 len))(hg:gU s.σ r=some (.arr et 1 es))(hpos:0<len)(hd:d<n)
  (hK:K ⟨(d,.own r 0 len)::s.fr,AN s.σ r (.arr et 1 es)⟩):Hop P n (.convert t t x) ty (some d) s [r] K:=by
 intro M F N a w o ho hty hdst hr next Q hnext
 have hbase:=hr.aev hx;have hmem:=bV hg;obtain⟨h0,hrows,h3⟩:=hr.st.ent _ hmem;generalize hu:a.eval x=v at hbase;cases hbase with
 |own0=>omega
 |own hM hle hmm=>
  rcases h3 with⟨hv',_⟩|⟨g,c,vs,hM',hcl,hsz,hlc,hmax,hvr⟩
  ·rw[hM]at hv';cases hv'
  ·have hg':=hM'.symm.trans hM;simp only[Option.some.injEq,Blk'.row.injEq]at hg';obtain⟨q1,q2,q3⟩:=hg';subst q1;subst q2;obtain⟨fz,hcl,hz⟩:=hcl;have hsh:w.shape? g=some (et,vs.size):=by simp[World.shape?,hcl]
   have hex:(execOp a.eval o).run P w=.ok (.value (.slice (some ⟨g,0,none⟩) len (c-0))) (w.freeze ⟨g,vs.size,none⟩ 1):=by
    simp[execOp,ho,hu,convert,run_underlying (Ty.und (P:=P) (t:=t)),run_underlying (Ty.und (P:=P) (t:=e)),markStringish,hsh]
   unfold Oper.wp;rw[hex,Oper.upon_value,hdst];have hbl:bY M r=some g:=by simp[bY,hM]
   have hF:¬F g:=hr.st.nof g ⟨_,hmem,hbl⟩;have honly:Only (fun k=>k=g) w (w.freeze ⟨g,vs.size,none⟩ 1):=⟨rfl,rfl,rfl,by simp[World.freeze],fun k _ hne=>DE w g vs.size k hne⟩
   have hSame:Same F w (w.freeze ⟨g,vs.size,none⟩ 1):=fun b hb=>DE w g vs.size b (fun e=>hF (e▸hb))
   have hE:ER M F (w.freeze ⟨g,vs.size,none⟩ 1) r (.arr et 1 es):=by
    refine⟨h0,hrows,.inr ⟨g,c,vs,hM',⟨_,UP w g vs.size hcl, ?_⟩,hsz,hlc,hmax,fun i x j b u hi hj hu=>(hvr i x j b u hi hj hu).mono (fun _ _ h=>h) (fun _ h=>h) hSame⟩⟩;right;split
    ·exact Nat.le_refl _
    ·next hne=>
     rcases hz with rfl|hz
     ·exact absurd rfl hne
     ·exact Nat.le_min.2 ⟨hz,Nat.le_refl _⟩
   obtain⟨r1,e1,o1⟩:=hr.set_ hmem hbl honly hE;have hv:=VR.own (M:=M) (F:=F) (w:=w.freeze ⟨g,vs.size,none⟩ 1) (t:=r) (off:=0) (len:=len) hM hle hmm;simp only[Nat.zero_mul]at hv;exact hnext M F N _ _ ⟨(d,.own r 0 len)::s.fr,_⟩ (r1.put hd hv) e1 o1 hK
theorem FK{e:TypeId} [Ty P u .string] [Ty P t (.slice e)] [Ty P e (.int .u8)] {b:List Nat}(hlt:∀c∈b,c<256)(hb:b.length≤maxLen)(hx:aev s x=some (.str (dV b)))(hd:d<n)
  (hK:K ⟨(d,.ro 1 (b.map aH) .any)::s.fr,s.σ⟩):Hop P n (.convert u t x) ty (some d) s [] K:=by
 intro M F N a w o ho hty hdst hr next Q hnext
 have hu:a.eval x=.string (dV b):=by
  have:=hr.aev hx;generalize a.eval x=v at this⊢;cases this;rfl
 have hsz:(dV b).size=b.length:=by simp[dV,ByteArray.size]
 have hrun:=Lib.run_convert_string_bytes (P:=P) w u t e (dV b) (Ty.und (P:=P) (t:=u)) (Ty.und (P:=P) (t:=t)) (Ty.und (P:=P) (t:=e));have hex:(execOp a.eval o).run P w=.ok (.value (.slice (some ⟨w.heap.size,0,none⟩) b.length (grownCap w b.length 0 e))) (Lib.bytesWorld w e (dV b)):=by
  rw[hsz]at hrun;simp[execOp,ho,hu,hrun]
 unfold Oper.wp;rw[hex,Oper.upon_value,hdst];have hold:∀k,k<w.heap.size→(Lib.bytesWorld w e (dV b)).heap[k]? =w.heap[k]? :=fun k hk=>Lib.bytesWorld_at_old w e (dV b) k hk
 have hgs:(Lib.bytesWorld w e (dV b)).heap.size=w.heap.size+1:=Lib.bytesWorld_size w e (dV b);have hSame:Same F w (Lib.bytesWorld w e (dV b)):=fun g hg=>hold g (hr.st.flt g hg)
 have hsr:=hr.st.growF hold (by omega) (Nat.le_refl _) (by omega:w.heap.size<(Lib.bytesWorld w e (dV b)).heap.size);have hcell:∀(i:Nat) (c:Nat),b[i]? =some c→(Lib.bytesWorld w e (dV b)).cell? ⟨w.heap.size,i,none⟩=some (.int .u8 (c:Int)):=by
  intro i c hc;have hil:=(List.getElem?_eq_some_iff.1 hc).1;rw[Lib.bytesWorld_cell w e (dV b) i (by omega)];have hm:(dV b).data.toList=b.map UInt8.ofNat:=by simp[dV]
  have hc2:=hlt c (List.mem_of_getElem? hc);rw[hm,List.getD_eq_getElem?_getD,List.getElem?_map,hc];simp[Nat.mod_eq_of_lt hc2]
 have hv:VR M (fun g=>F g∨g=w.heap.size) (Lib.bytesWorld w e (dV b)) (.ro 1 (b.map aH) .any) (.slice (some ⟨w.heap.size,0,none⟩) b.length (grownCap w b.length 0 e)):=by
  have:=VR.ro (M:=M) (F:=fun g=>F g∨g=w.heap.size) (w:=Lib.bytesWorld w e (dV b)) (es:=b.map aH) (k:=.any) (b:=w.heap.size) (o:=0) (sz:=1) (cap:=grownCap w b.length 0 e) (us:=fun i j=>.int .u8 ((b[i]!):Int)) (.inr rfl)
   (by intro y hy;obtain⟨c,-,rfl⟩:=List.mem_map.1 hy;exact⟨rfl,by simp[aH,AV.cell]⟩)
   (fun i y j v hi hj=>by
    simp only[List.getElem?_map,Option.map_eq_some_iff]at hi;obtain⟨c,hc,rfl⟩:=hi
    match j,hj with
    |0,hj=>
     have hil:=(List.getElem?_eq_some_iff.1 hc)
     rw[Nat.zero_add,Nat.mul_one,Nat.add_zero,hcell i c hc,getElem!_pos b i hil.1,hil.2]
    |j+1,hj=>cases hj)
   (fun i y j v hi hj=>by
    simp only[List.getElem?_map,Option.map_eq_some_iff]at hi;obtain⟨c,hc,rfl⟩:=hi
    match j,hj with
    |0,hj=>
     have hil:=(List.getElem?_eq_some_iff.1 hc)
     obtain rfl:=Option.some.inj hj;rw[getElem!_pos b i hil.1,hil.2];exact .int _ _
    |j+1,hj=>cases hj)
   (by simpa using grownCap_ge w b.length 0 e) (grownCap_le_maxLen w b.length 0 e hb) (fun h=>by cases h) (fun h=>by cases h)
  rwa [List.length_map]at this
 have honly:∀S,Only S w (Lib.bytesWorld w e (dV b)):=fun S=>⟨rfl,rfl,rfl,by omega,fun k hk _=>hold k hk⟩
 have hext:Ext M F N w s.σ M (fun g=>F g∨g=w.heap.size) N (Lib.bytesWorld w e (dV b)) s.σ:=by
  refine⟨fun _ _ h=>h,fun _ h=>.inl h,Nat.le_refl _,honly _,fun _ h _=>h,fun g hg=> ?_,fun p hp _=>⟨p,hp,rfl⟩⟩;rcases hg with hg|rfl
  ·exact .inl hg
  ·exact .inr (.inl (Nat.le_refl _))
 have hr2:Rel M (fun g=>F g∨g=w.heap.size) N n s a (Lib.bytesWorld w e (dV b)):=hr.step hext hsr rfl;exact hnext M _ N _ _ ⟨(d,.ro 1 (b.map aH) .any)::s.fr,s.σ⟩ (hr2.put hd hv) hext (honly _) hK
end
section
variable {P : Program} {n : Nat} {ops : Array Oper} {rest : List Oper} {fr : Fr} {σ σ' : dY} {K : ASt → Prop} {ty t u : TypeId} {pos : String} {af : Array Edge} {x : Operand} {d : Nat}
theorem cvm{e:TypeId} [Ty P t (.slice e)] [Ty P e (.int .u8)] {r len:Nat}{et:TypeId}{es:List (List AV)}(hs:SSet σ r (.arr et 1 es) r (.arr et 1 es) σ')(hpos:0<len)(hK:RS P n ops rest ⟨(d,.own r 0 len)::fr,σ'⟩ K)
  (hx:aev ⟨fr,σ⟩ x=some (.own r 0 len):=by rfl) (hd:Nat.ble (d+1) n=true:=by rfl):RS P n ops (⟨some d,.convert t t x,ty,pos,af,none⟩::rest) ⟨fr,σ⟩ K:=
 iA (FJ hx hs.get hpos (dF hd) (zG (s:=⟨_,_⟩) (fun p hp=>hs.sub p hp) hK))
theorem cvb{e:TypeId} [Ty P u .string] [Ty P t (.slice e)] [Ty P e (.int .u8)] {b:List Nat}(hlt:∀c∈b,c<256)(hK:RS P n ops rest ⟨(d,.ro 1 (b.map aH) .any)::fr,σ⟩ K)(hb:b.length≤maxLen:=by(simp[maxLen];omega))
  (hx:aev ⟨fr,σ⟩ x=some (.str (dV b)):=by rfl) (hd:Nat.ble (d+1) n=true:=by rfl):RS P n ops (⟨some d,.convert u t x,ty,pos,af,none⟩::rest) ⟨fr,σ⟩ K:=
 iA (FK hlt hb hx (dF hd) hK)
end
theorem JV(bs:List Nat)(l h:Nat):(dV bs).extract l h=dV ((bs.drop l).take (h-l)):=by
 have:((dV bs).extract l h).data=(dV ((bs.drop l).take (h-l))).data:=by
  rw[ByteArray.data_extract];simp[dV,List.extract_eq_take_drop]
 cases h1:(dV bs).extract l h
 rw[h1]at this;simp only at this;rw[this]
section
variable {P : Program} {ty t : TypeId} {s : ASt} {c : Bool} {x : Operand}
theorem wD [Ty P t .string] {bs:List Nat}{lo hi:Option Operand}{l h:Nat}(hx:Ev s c x (.str (dV bs)))(hl:OB s c 0 lo l)(hh:OB s c bs.length hi h)(h1:c=true→l≤h∧h≤bs.length):
  Lop P (.slice t x lo hi none) ty s c (.str (dV ((bs.drop l).take (h-l)))) []:=
 Lop.pure_ fun M F N n a w hr hc=>by
  obtain⟨h1,h2⟩:=h1 hc;have hlb:VB 0 (lo.map a.eval) l:=hl.vb hr hc;have hhb:VB bs.length (hi.map a.eval) h:=hh.vb hr hc;have hsz:(dV bs).size=bs.length:=by simp[dV,ByteArray.size]
  have hb:∀(k:IntKind) (b y:Nat) (code:BoundsCode) (w:World),b≤y→(Instr.sliceBound (.int k b) y code).run P w=.ok b w:=fun k b y code w hby=>by
   rw[run_sliceBound w k b y code (by omega) (by omega)];simp
  refine⟨_,.str _,fun w' o ho _=> ?_⟩;have key2:∀(lo' hi':Option Value),VB 0 lo' l→VB bs.length hi' h→(Instr.sliceBounds false bs.length bs.length lo' hi' none).run P w'=.ok (l,h,bs.length) w':=by
   intro lo' hi' k1 k2;cases k1<;>cases k2<;>simp[Instr.sliceBounds,hb,h1,h2]
  have key:=key2 _ _ hlb hhb;have hrun:(Instr.sliceAt t (.string (dV bs)) (lo.map a.eval) (hi.map a.eval) none).run P w'=.ok (.string (dV ((bs.drop l).take (h-l)))) w':=by
   simp[Instr.sliceAt,Instr.slice,run_underlying (Ty.und (P:=P) (t:=t)),hsz,key,JV]
  simp[execOp,ho,hx.str hr hc,hrun]
theorem qL [Ty P t .string] {bs:List Nat}{y:Operand}{ki:IntKind}{m:Int}{b:Nat}(hx:Ev s c x (.str (dV bs)))(hi:Ev s c y (.int ki m))(hm:c=true→0≤m)(hv:c=true→bs[m.toNat]? =some b)(hb:c=true→b<256):Lop P (.index t x y) ty s c (.int .u8 b) []:=
 Lop.pure_ fun M F N n a w hr hc=>by
  have hm:=hm hc;have hv:=hv hc;have hb:=hb hc;have hg:(dV bs)[m.toNat]? =some (UInt8.ofNat b):=by
   have hlt:=(List.getElem?_eq_some_iff.1 hv).1;have e:(dV bs).size=bs.length:=by simp[dV,ByteArray.size]
   rw[getElem?_pos (dV bs) m.toNat (by rw[e];exact hlt)];have h2:=(List.getElem?_eq_some_iff.1 hv).2;simp[ByteArray.getElem_eq_getElem_data,dV,h2]
  refine⟨_,.int _ _,fun w' o ho _=> ?_⟩;simp[execOp,ho,hx.str hr hc,hi.int hr hc,Instr.index,asIntOf,run_underlying (Ty.und (P:=P) (t:=t)),hm,hg];omega
end
end Go.Proofs.YtjpdadobblffmaaGreat
