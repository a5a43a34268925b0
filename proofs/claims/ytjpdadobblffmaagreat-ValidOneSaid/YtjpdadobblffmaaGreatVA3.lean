import Derived.Test.YtjpdadobblffmaaGreatVA2
import Derived.Test.YtjpdadobblffmaaGreatVA1
import Derived.ChangeOld
import Derived.WalkKit
import Derived.ProofKit
import Derived.OpenShut
import Derived.Lib.AppendStr
set_option linter.unusedSimpArgs false
set_option linter.unusedVariables false
set_option maxRecDepth 100000
set_option maxHeartbeats 4000000
namespace Go.Proofs.YtjpdadobblffmaaGreat
open Go.RowKit Go.ChangeShapes Go.WideShapes Go.ChangeAt Go.Deep
attribute [local irreducible] SW RS RD fH eH
structure Ins where
 op:Int
 a:Int
 b:Int
 l:List Int
def iv (k:Rk) (x:Ins):List AV:=[.int .i64 x.op,.int .i64 x.a,.int .i64 x.b,.ro 1 (x.l.map aR) k]
def Ins.Ok (x:Ins):Prop:=-9223372036854775808≤x.op∧x.op≤9223372036854775807∧ -9223372036854775808≤x.a∧x.a≤9223372036854775807∧x.l.length≤9223372036854775807
theorem dV(n a b:Int):SCall Tryz.prog 218 [.int .i64 n,.int .i64 a,.int .i64 b] [] (fun x σ=>x=.bool (pW n a b)∧σ=[]):=by
 refine cC 15 [0,1,2,6] Tryz.func218 ?_;refine mY ?_;refine FP ?_;refine z4 ?_;refine z4 ?_;refine z54 ?_;refine z7 ?_;refine cZ ?_;exact aD aE ⟨by rfl,rfl⟩ aA
theorem iM(n:Int):SCall Tryz.prog 219 [.int .i64 n] [] (fun x σ=>x=.bool (pW n 0 1000)∧σ=[]):=by
 refine cC 5 [0,2] Tryz.func219 ?_;refine gX ?_
 (first|refine ln rfl rfl rfl rfl ?_ |refine lw rfl rfl (bV (v:=.bool false)) rfl ?_ |refine pu [] Tryz.call218 (dV _ _ _) rfl cK bC ?_ |refine AB [] rfl rfl Tryz.call218 (fun _=>(dV _ _ _)) rfl cK bC ?_ |refine puw [] rfl rfl Tryz.call218 (fun _=>(dV _ _ _)) rfl cK bC ?_);refine cZ ?_;exact aD aE ⟨by rfl,rfl⟩ aA
theorem pD:aBK Tryz.prog 220 [] [] (fun n=> !pW n 0 1000):=by
 refine⟨Tryz.call220,fun n=> ?_⟩;refine cC 6 [0,2] Tryz.func220 ?_;refine gX ?_
 (first|refine ln rfl rfl rfl rfl ?_ |refine lw rfl rfl (bV (v:=.bool false)) rfl ?_ |refine pu [] Tryz.call219 (iM _) rfl cK bC ?_ |refine AB [] rfl rfl Tryz.call219 (fun _=>(iM _)) rfl cK bC ?_ |refine puw [] rfl rfl Tryz.call219 (fun _=>(iM _)) rfl cK bC ?_);refine lo (eJ (E rfl)) rfl ?_;refine cZ ?_;exact aD aE ⟨by rfl,rfl⟩ aA
theorem iN(op:Int):SCall Tryz.prog 217 [.int .i64 op] [] (fun x σ=>x=.int .i64 (aW op)∧σ=[]):=by
 have:=UY op
 rwa [aKn]at this
theorem qF(op:Int)(h:-9223372036854775808≤op∧op≤9223372036854775807):SCall Tryz.prog 250 [.int .i64 op] [] (fun x σ=>x=.int .i64 (aW op)∧σ=[]):=by
 have:=aBI op
 rwa [aHJ op h]at this
def jD (x:Ins) (f:Int):Bool:=if(if(f !=4)=true then decide (0<(x.l.length:Int))else false)=true then true else if(f !=6)=true then(x.b !=0)else false
def dB (x:Ins):Bool:=
 if jD x (aW x.op)=true then false
 else if(aW x.op==1||aW x.op==7)=true then(x.a==0)
 else if(aW x.op==2)=true then pW x.a 0 2
 else if(aW x.op==3||aW x.op==5)=true then pW x.a 0 1000
 else if(aW x.op==4)=true then(if(if pW x.a 0 1000=true then decide ((x.l.length:Int)≤50)else false)=true then !(x.l.any fun n=> !pW n 0 1000)else false)
 else if(aW x.op==6)=true then(if pW x.a 0 3=true then pW x.b 0 4294967295 else false)
 else if(aW x.op==8)=true then pW x.a (-2147483648) 2147483647
 else(aW x.op==9)
theorem tM(a b:Int):(if(if(if decide (0≤a)=true then decide (a≤3)else false)=true then decide (0≤b)else false)=true then decide (b<4294967296)else false)=
  (if(if decide (0≤a)=true then decide (a≤3)else false)=true then(if decide (0≤b)=true then decide (b≤4294967295)else false)else false):=by
 rw[show decide (b≤4294967295)=decide (b<4294967296) by rw[decide_eq_decide];omega];generalize(if decide (0≤a)=true then decide (a≤3)else false)=b1;cases b1<;>simp
theorem tN(a:Int):(if decide (-2147483648≤a)=true then decide (a<2147483648)else false)=(if decide (-2147483648≤a)=true then decide (a≤2147483647)else false):=by
 rw[show decide (a≤2147483647)=decide (a<2147483648) by rw[decide_eq_decide];omega]
theorem aAa(k:Rk)(x:Ins):SCall Tryz.prog 111 [.agg (iv k x)] [] (fun r σ=>r=.bool (dB x)∧σ=[]):=by
 refine cC 76 [0,1,2,3,23,24,25,31,36,42,59,69,74] Tryz.func111 ?_;unfold iv;refine dG ?_;refine iG fun r1 h1=> ?_;intros
 refine iX ?_
 (first|refine ln rfl rfl rfl rfl ?_ |refine lw rfl rfl (bV (v:=.bool false)) rfl ?_ |refine pu [] Tryz.call217 (iN _) rfl cK bC ?_ |refine AB [] rfl rfl Tryz.call217 (fun _=>(iN _)) rfl cK bC ?_ |refine puw [] rfl rfl Tryz.call217 (fun _=>(iN _)) rfl cK bC ?_);refine iF ?_;refine lo (gA (E rfl) (E rfl)) rfl ?_;refine uK ?_;refine z63 ?_;refine z18 ?_;refine z7 ?_;refine yE ?_;refine z64 ?_;refine z8 ?_;refine z65 ?_;refine z66 ?_;refine z11 ?_;refine z12 ?_;refine z13 ?_;refine jI ?_;refine aB rfl (fun g1=> ?_) (fun g1=> ?_)
 ·refine bP ?_;apply aD;exact aE
  ·(unfold dB jD;simp only[g1,if_true,if_false,Bool.false_eq_true];exact⟨rfl,rfl⟩)
  ·exact aA
 refine dO ?_;refine qS ?_;apply fD rfl;exact cT
 ·intro _;(refine aI ?_);refine eV ?_;exact aJ
 refine aI ?_;refine aB rfl (fun g2=> ?_) (fun g2=> ?_)
 ·refine fE ?_;refine QM ?_;apply aD;exact aE
  ·(unfold dB jD;simp only[g1,g2,if_true,if_false,Bool.false_eq_true];exact⟨rfl,rfl⟩)
  ·exact aA
 refine dC ?_;refine aB rfl (fun g3=> ?_) (fun g3=> ?_)
 ·refine fE ?_
  (first|refine ln rfl rfl rfl rfl ?_ |refine lw rfl rfl (bV (v:=.bool false)) rfl ?_ |refine pu [] Tryz.call218 (dV _ _ _) rfl cK bC ?_ |refine AB [] rfl rfl Tryz.call218 (fun _=>(dV _ _ _)) rfl cK bC ?_ |refine puw [] rfl rfl Tryz.call218 (fun _=>(dV _ _ _)) rfl cK bC ?_);refine cZ ?_;apply aD;exact aE
  ·(unfold dB jD;simp only[g1,g2,g3,if_true,if_false,Bool.false_eq_true];exact⟨rfl,rfl⟩)
  ·exact aA
 refine dC ?_;apply fD rfl;exact cT
 ·intro _;(refine aI ?_);refine eV ?_;exact aJ
 refine aI ?_;refine aB rfl (fun g4=> ?_) (fun g4=> ?_)
 ·refine fE ?_
  (first|refine ln rfl rfl rfl rfl ?_ |refine lw rfl rfl (bV (v:=.bool false)) rfl ?_ |refine pu [] Tryz.call219 (iM _) rfl cK bC ?_ |refine AB [] rfl rfl Tryz.call219 (fun _=>(iM _)) rfl cK bC ?_ |refine puw [] rfl rfl Tryz.call219 (fun _=>(iM _)) rfl cK bC ?_);refine cZ ?_;apply aD;exact aE
  ·(unfold dB jD;simp only[g1,g2,g3,g4,if_true,if_false,Bool.false_eq_true];exact⟨rfl,rfl⟩)
  ·exact aA
 refine dC ?_;refine aB rfl (fun g5=> ?_) (fun g5=> ?_)
 ·refine fE ?_
  (first|refine ln rfl rfl rfl rfl ?_ |refine lw rfl rfl (bV (v:=.bool false)) rfl ?_ |refine pu [] Tryz.call219 (iM _) rfl cK bC ?_ |refine AB [] rfl rfl Tryz.call219 (fun _=>(iM _)) rfl cK bC ?_ |refine puw [] rfl rfl Tryz.call219 (fun _=>(iM _)) rfl cK bC ?_);refine uK ?_;refine z63 ?_;refine z55 ?_;refine z7 ?_;refine uK ?_
  (first|refine ln rfl rfl rfl rfl ?_ |refine lw rfl rfl (bV (v:=.bool false)) rfl ?_ |refine pu [] Tryz.call89 (oB pD x.l) rfl cK bC ?_ |refine AB [] rfl rfl Tryz.call89 (fun _=>(oB pD x.l)) rfl cK bC ?_ |refine puw [] rfl rfl Tryz.call89 (fun _=>(oB pD x.l)) rfl cK bC ?_);refine z67 ?_;refine z7 ?_;refine cZ ?_;apply aD;exact aE
  ·(unfold dB jD;simp only[g1,g2,g3,g4,g5,if_true,if_false,Bool.false_eq_true];exact⟨rfl,rfl⟩)
  ·exact aA
 refine dC ?_;refine aB rfl (fun g6=> ?_) (fun g6=> ?_)
 ·refine fE ?_
  (first|refine ln rfl rfl rfl rfl ?_ |refine lw rfl rfl (bV (v:=.bool false)) rfl ?_ |refine pu [] Tryz.call218 (dV _ _ _) rfl cK bC ?_ |refine AB [] rfl rfl Tryz.call218 (fun _=>(dV _ _ _)) rfl cK bC ?_ |refine puw [] rfl rfl Tryz.call218 (fun _=>(dV _ _ _)) rfl cK bC ?_);refine uK ?_
  (first|refine ln rfl rfl rfl rfl ?_ |refine lw rfl rfl (bV (v:=.bool false)) rfl ?_ |refine pu [] Tryz.call218 (dV _ _ _) rfl cK bC ?_ |refine AB [] rfl rfl Tryz.call218 (fun _=>(dV _ _ _)) rfl cK bC ?_ |refine puw [] rfl rfl Tryz.call218 (fun _=>(dV _ _ _)) rfl cK bC ?_);refine kM ?_;apply aD;exact aE
  ·(unfold dB jD;simp only[g1,g2,g3,g4,g5,g6,if_true,if_false,Bool.false_eq_true];exact⟨rfl,rfl⟩)
  ·exact aA
 refine dC ?_;refine aB rfl (fun g7=> ?_) (fun g7=> ?_)
 ·refine fE ?_
  (first|refine ln rfl rfl rfl rfl ?_ |refine lw rfl rfl (bV (v:=.bool false)) rfl ?_ |refine pu [] Tryz.call218 (dV _ _ _) rfl cK bC ?_ |refine AB [] rfl rfl Tryz.call218 (fun _=>(dV _ _ _)) rfl cK bC ?_ |refine puw [] rfl rfl Tryz.call218 (fun _=>(dV _ _ _)) rfl cK bC ?_);refine cZ ?_;apply aD;exact aE
  ·(unfold dB jD;simp only[g1,g2,g3,g4,g5,g6,g7,if_true,if_false,Bool.false_eq_true];exact⟨rfl,rfl⟩)
  ·exact aA
 refine dC ?_;refine aB rfl (fun g8=> ?_) (fun g8=> ?_)
 ·refine bP ?_;apply aD;exact aE
  ·(unfold dB jD;simp only[g1,g2,g3,g4,g5,g6,g7,g8,if_true,if_false,Bool.false_eq_true];exact⟨rfl,rfl⟩)
  ·exact aA
 refine bP ?_;apply aD;exact aE
 ·(unfold dB jD;simp only[g1,g2,g3,g4,g5,g6,g7,g8,if_true,if_false,Bool.false_eq_true];exact⟨rfl,rfl⟩)
 ·exact aA
theorem LV(k:Rk)(x:Ins)(hx:x.Ok):SCall Tryz.prog 156 [.agg (iv k x)] [] (fun r σ=>r=.bool (dB x)∧σ=[]):=by
 have hop:-9223372036854775808≤x.op∧x.op≤9223372036854775807:=⟨hx.1,hx.2.1⟩
 have hl:=hx.2.2.2.2;refine cC 122 [0,1,2,3,4,24,25,26,32,42,53,59,75,90,110] Tryz.func156 ?_;unfold iv;refine dG ?_;refine iG fun r1 h1=> ?_;intros
 refine iX ?_
 (first|refine ln rfl rfl rfl rfl ?_ |refine lw rfl rfl (bV (v:=.bool false)) rfl ?_ |refine pu [] Tryz.call250 (qF _ (by assumption)) rfl cK bC ?_ |refine AB [] rfl rfl Tryz.call250 (fun _=>(qF _ (by assumption))) rfl cK bC ?_ |refine puw [] rfl rfl Tryz.call250 (fun _=>(qF _ (by assumption))) rfl cK bC ?_);refine iF ?_;refine lo (gA (E rfl) (E rfl)) rfl ?_;refine uK ?_;refine z63 ?_;refine z18 ?_;refine z7 ?_;refine yE ?_;refine z64 ?_;refine z8 ?_;refine z65 ?_;refine z66 ?_;refine z11 ?_;refine z12 ?_;refine z13 ?_;refine jI ?_;refine aB rfl (fun g1=> ?_) (fun g1=> ?_)
 ·refine bP ?_;apply aD;exact aE
  ·(unfold dB jD pW;simp only[g1,if_true,if_false,Bool.false_eq_true];first|exact⟨rfl,rfl⟩|exact⟨congrArg AV.bool (tM x.a x.b),rfl⟩|exact⟨congrArg AV.bool (tN x.a),rfl⟩)
  ·exact aA
 refine dO ?_;refine qS ?_;apply fD rfl;exact cT
 ·intro _;(refine aI ?_);refine eV ?_;exact aJ
 refine aI ?_;refine aB rfl (fun g2=> ?_) (fun g2=> ?_)
 ·refine fE ?_;refine QM ?_;apply aD;exact aE
  ·(unfold dB jD pW;simp only[g1,g2,if_true,if_false,Bool.false_eq_true];first|exact⟨rfl,rfl⟩|exact⟨congrArg AV.bool (tM x.a x.b),rfl⟩|exact⟨congrArg AV.bool (tN x.a),rfl⟩)
  ·exact aA
 refine dC ?_;refine aB rfl (fun g3=> ?_) (fun g3=> ?_)
 ·refine fE ?_;refine FP ?_;refine z61 ?_;refine z62 ?_;refine z55 ?_;refine z7 ?_;refine cZ ?_;apply aD;exact aE
  ·(unfold dB jD pW;simp only[g1,g2,g3,if_true,if_false,Bool.false_eq_true];first|exact⟨rfl,rfl⟩|exact⟨congrArg AV.bool (tM x.a x.b),rfl⟩|exact⟨congrArg AV.bool (tN x.a),rfl⟩)
  ·exact aA
 refine dC ?_;apply fD rfl;exact cT
 ·intro _;(refine aI ?_);refine eV ?_;exact aJ
 refine aI ?_;refine aB rfl (fun g4=> ?_) (fun g4=> ?_)
 ·refine fE ?_;refine FP ?_;refine z61 ?_;refine z62 ?_;refine z55 ?_;refine z7 ?_;refine cZ ?_;apply aD;exact aE
  ·(unfold dB jD pW;simp only[g1,g2,g3,g4,if_true,if_false,Bool.false_eq_true];first|exact⟨rfl,rfl⟩|exact⟨congrArg AV.bool (tM x.a x.b),rfl⟩|exact⟨congrArg AV.bool (tN x.a),rfl⟩)
  ·exact aA
 refine dC ?_;refine aB rfl (fun g5=> ?_) (fun g5=> ?_)
 ·refine bP ?_;refine lp (β:=Nat) (fun j=>⟨[(1,.ptr r1 0),(4,.int .i64 j)],[(r1,.box 46 [.int .i64 x.op,.int .i64 x.a,.int .i64 x.b,.ro 1 (x.l.map aR) k])]⟩) (fun j=>j≤x.l.length∧(x.l.take j).any (fun n=> !pW n 0 1000)=false) (fun j=>x.l.length-j) 0 (by(exact aJ)) ⟨Nat.zero_le _,rfl⟩ ?_;rintro j ⟨hj,ht⟩;refine pC ?_;refine aB rfl (fun h1=> ?_) (fun h1=> ?_)
  ·have hlt:j<x.l.length:=by simp at h1;omega
   refine fE ?_;refine nA ?_;refine lo (iL (E rfl) (E rfl)) rfl ?_;refine uK ?_;refine z4 ?_;refine z71 ?_;refine z72 ?_;refine z18 ?_;refine z13 ?_;refine jI ?_;rw[Int.toNat_natCast];have hb:(if decide (x.l[j]! <0)=true then true else decide (1000<x.l[j]!))= !pW x.l[j]! 0 1000:=by
    rw[kG];generalize x.l[j]! =y;by_cases h3:y<0
    ·rw[decide_eq_true h3,if_pos rfl,decide_eq_false (by omega)];rfl
    ·by_cases h4:1000<y
     ·rw[decide_eq_false h3,decide_eq_true h4,decide_eq_false (by omega)];rfl
     ·rw[decide_eq_false h3,decide_eq_false h4,decide_eq_true (by omega)];rfl
   rw[hb];refine aB rfl (fun h2=> ?_) (fun h2=> ?_)
   ·have ha:(x.l.any fun n=> !pW n 0 1000)=true:=List.any_eq_true.2 ⟨x.l[j]!,by rw[getElem!_pos x.l j hlt];exact List.getElem_mem hlt,h2⟩;refine bP ?_;apply aD;exact aE
    ·unfold dB jD;simp only[g1,g2,g3,g4,g5,ha,if_true,if_false,Bool.false_eq_true];exact⟨by simp[gC,cX],rfl⟩
    ·exact aA
   ·refine lI ?_;refine⟨j+1,⟨by omega, ?_⟩,by omega, ?_⟩
    ·rw[List.take_add_one,List.any_append,ht,List.getElem?_eq_getElem hlt];rw[getElem!_pos x.l j hlt]at h2;simp only[Bool.false_or,Option.toList_some,List.any_cons,List.any_nil,Bool.or_false];exact h2
    ·exact aJ
  ·obtain rfl:j=x.l.length:=by simp at h1;omega
   rw[List.take_length]at ht;refine fE ?_;refine FP ?_;refine z61 ?_;refine z62 ?_;refine z55 ?_;refine z7 ?_;refine uK ?_;refine z63 ?_;refine z55 ?_;refine z7 ?_;refine cZ ?_;apply aD;exact aE
   ·unfold dB jD;simp only[g1,g2,g3,g4,g5,ht,if_true,if_false,Bool.false_eq_true];refine⟨?_,rfl⟩;unfold pW;show AV.bool _=AV.bool _
    congr 1
    generalize(if decide (0≤x.a)=true then decide (x.a≤1000)else false)=b1;cases b1<;>simp
   ·exact aA
 refine dC ?_;refine aB rfl (fun g6=> ?_) (fun g6=> ?_)
 ·refine fE ?_;refine FP ?_;refine z61 ?_;refine z62 ?_;refine z55 ?_;refine z7 ?_;refine uK ?_;refine z34 ?_;refine z7 ?_;refine uK ?_;refine z69 ?_;refine z7 ?_;refine cZ ?_;apply aD;exact aE
  ·(unfold dB jD pW;simp only[g1,g2,g3,g4,g5,g6,if_true,if_false,Bool.false_eq_true];first|exact⟨rfl,rfl⟩|exact⟨congrArg AV.bool (tM x.a x.b),rfl⟩|exact⟨congrArg AV.bool (tN x.a),rfl⟩)
  ·exact aA
 refine dC ?_;refine aB rfl (fun g7=> ?_) (fun g7=> ?_)
 ·refine fE ?_;refine FP ?_;refine z61 ?_;refine z62 ?_;refine z69 ?_;refine z7 ?_;refine cZ ?_;apply aD;exact aE
  ·(unfold dB jD pW;simp only[g1,g2,g3,g4,g5,g6,g7,if_true,if_false,Bool.false_eq_true];first|exact⟨rfl,rfl⟩|exact⟨congrArg AV.bool (tM x.a x.b),rfl⟩|exact⟨congrArg AV.bool (tN x.a),rfl⟩)
  ·exact aA
 refine dO ?_;refine QM ?_;apply aD;exact aE
 ·(unfold dB jD pW;simp only[g1,g2,g3,g4,g5,g6,g7,if_true,if_false,Bool.false_eq_true];first|exact⟨rfl,rfl⟩|exact⟨congrArg AV.bool (tM x.a x.b),rfl⟩|exact⟨congrArg AV.bool (tN x.a),rfl⟩)
 ·exact aA
def eqN (x y:Ins):Bool:=decide (x.op=y.op∧x.a=y.a∧x.b=y.b∧x.l=y.l)
theorem aEi(x y:Ins):(if(if(if(x.op==y.op)=true then x.a==y.a else false)=true then x.b==y.b else false)=true then decide (x.l=y.l)else false)=eqN x y:=by
 unfold eqN;by_cases h1:x.op=y.op<;>by_cases h2:x.a=y.a<;>by_cases h3:x.b=y.b<;>simp[h1,h2,h3]
theorem aBL(k k2:Rk)(x y:Ins):SCall Tryz.prog 122 [.agg (iv k x),.agg (iv k2 y)] [] (fun r σ=>r=.bool (eqN x y)∧σ=[]):=by
 refine cC 31 [0,1,2,3,4] Tryz.func122 ?_;unfold iv;refine dG ?_;refine iG fun r2 h2=> ?_;intros
 refine iG fun r3 h3=> ?_;intros
 refine iX ?_;refine oO ?_;refine lo (cI (E rfl) (E rfl)) rfl ?_;refine uK ?_;refine z61 ?_;refine z62 ?_;refine z70 ?_;refine z7 ?_;refine uK ?_;refine z61 ?_;refine z62 ?_;refine z70 ?_;refine z7 ?_;refine uK ?_;refine z61 ?_;refine z62 ?_
 (first|refine ln rfl rfl rfl rfl ?_ |refine lw rfl rfl (bV (v:=.bool false)) rfl ?_ |refine pu [] Tryz.call116 (gV x.l y.l) rfl cK bC ?_ |refine AB [] rfl rfl Tryz.call116 (fun _=>(gV x.l y.l)) rfl cK bC ?_ |refine puw [] rfl rfl Tryz.call116 (fun _=>(gV x.l y.l)) rfl cK bC ?_);refine kM ?_;exact aD aE ⟨by exact congrArg AV.bool (aEi x y),rfl⟩ aA
theorem RB{x:Ins}(h:aW x.op=0):dB x=false:=by
 unfold dB;split
 ·rfl
 ·simp[h]
theorem aEj{op:Int}(h:aW op≠0):0≤op∧op≤173:=by
 unfold aW iV QZ at h;simp only[Bool.or_eq_true,beq_iff_eq,decide_eq_true_eq]at h;by_cases hc:0≤op∧op≤173
 ·exact hc
 ·exfalso;repeat rw[if_neg (by omega)]at h
  exact h rfl
theorem LW{x:Ins}(h:dB x=true):0≤x.op∧x.op≤173:=by
 refine aEj fun h0=> ?_
 rw[RB h0]at h;cases h
theorem aHL{x:Ins}(h:dB x=true)(hf:(aW x.op==2)=true):0≤x.a∧x.a≤2:=by
 rw[beq_iff_eq]at hf;simp[dB,hf,kG]at h;omega
theorem aEk{x:Ins}(h:dB x=true)(hf:(aW x.op==3)=true):0≤x.a∧x.a≤1000:=by
 rw[beq_iff_eq]at hf;simp[dB,hf,kG]at h;omega
theorem aEl{x:Ins}(h:dB x=true)(hf:(aW x.op==5)=true):0≤x.a∧x.a≤1000:=by
 rw[beq_iff_eq]at hf;simp[dB,hf,kG]at h;omega
theorem aEm{x:Ins}(h:dB x=true)(hf:(aW x.op==4)=true):(0≤x.a∧x.a≤1000)∧x.l.length≤50∧∀n∈x.l,0≤n∧n≤1000:=by
 rw[beq_iff_eq]at hf;simp[dB,hf,kG]at h;obtain⟨h1,⟨h2,h3⟩,h4⟩:=h;exact⟨h2,by omega,h4⟩
theorem aEn{x:Ins}(h:dB x=true)(hf:(aW x.op==6)=true):0≤x.a∧x.a≤3∧0≤x.b∧x.b≤4294967295:=by
 rw[beq_iff_eq]at hf;simp[dB,hf,kG]at h;omega
def wG (a:Int):Nat:=if a=0 then 64 else if a=1 then 127 else 126
def fT (x:Ins):List Nat:=
 if(aW x.op==2)=true then [wG x.a]else if(aW x.op==3)=true then uB x.a.toNat else if(aW x.op==5)=true then uB x.a.toNat++ [0]
 else if(aW x.op==4)=true then uB x.l.length++(x.l.flatMap fun n=>uB n.toNat)++uB x.a.toNat else if(aW x.op==6)=true then uB x.a.toNat++uB x.b.toNat
 else if(aW x.op==7)=true then [0]else if(aW x.op==8||aW x.op==9)=true then sB x.a else []
def gG (x:Ins):List Nat:=x.op.toNat::fT x
theorem sS:∀ {l:List Int},(∀n∈l,0≤n∧n≤1000)→(l.flatMap fun n=>uB n.toNat).length≤2*l.length
 |[],_=>by simp
 |n::l,h=>by
  have ih:=sS (l:=l) fun m hm=>h m (List.mem_cons_of_mem _ hm)
  have hn:=h n List.mem_cons_self;have h1:=bR 1 n.toNat (by omega);simp only[List.flatMap_cons,List.length_append,List.length_cons];omega
theorem aEo{a:Int}(h:0≤a∧a≤2):([.int .u8 64,.int .u8 127,.int .u8 126]:List AV)[a.toNat]? =some (.int .u8 (wG a:Nat)):=by
 have:a=0∨a=1∨a=2:=by omega
 rcases this with rfl|rfl|rfl<;>rfl
theorem CK(q:Nat)(vs:List Nat)(hvs:vs.length≤50000000)(k:Rk)(x:Ins)(hx:x.Ok)(hm:dB x=true):SCall Tryz.prog 242 [.own q 0 vs.length,.agg (iv k x)] [(q,.arr 5 1 (vs.map aH))]
  (fun y σ=>∃r,y=.own r 0 (vs++gG x).length∧σ=[(r,.arr 5 1 ((vs++gG x).map aH))]):=by
 have f1:=LW hm;have f2:=aHL hm;have f3:=aEk hm;have f4:=aEm hm;have f5:=aEl hm;have f6:=aEn hm;have f8:-9223372036854775808≤x.a∧x.a≤9223372036854775807:=⟨hx.2.2.1,hx.2.2.2.1⟩
 obtain⟨op,ai,bi,l⟩:=x;dsimp only at f1 f2 f3 f4 f5 f6 f8;obtain⟨op,rfl⟩:=Int.eq_ofNat_of_zero_le f1.1;have hvo:vs++gG ⟨(op:Int),ai,bi,l⟩=(vs++ [op])++fT ⟨(op:Int),ai,bi,l⟩:=by simp[gG]
 rw[hvo];obtain⟨us,hus⟩:∃us,us=vs++ [op]:=⟨_,rfl⟩
 have hul:us.length≤50000001:=by rw[hus];simp;omega
 refine cC 90 [0,1,3,4,6,15,16,25,32,41,50,51,52,53,66,77,82] Tryz.func242 ?_;unfold iv;dsimp only;refine dG ?_;refine iG fun r3 h3=> ?_;intros
 refine iF ?_;refine oO ?_;refine z0 ?_;refine eS fun r11 h11=> ?_;intros
 apply ap (es':=(vs++ [op]).map aH) (len':=(vs++ [op]).length);rfl;rfl;exact aO
 ·simp
 ·exact .inr (.inr ⟨_,_,_,_,_,rfl,aO,by simp,rfl⟩)
 ·first|(simp[aH];done)|(simp only[List.drop_zero,List.map_append];congr 1;exact List.take_of_length_le (by simp))
 ·simp;try omega
 ·simp[maxLen];try omega
 ·simp;try omega
 ·rfl
 refine bL fun r12 h12=> ?_;intros
 refine cZ ?_;rw[←hus];refine nE ?_
 (first|refine ln rfl rfl rfl rfl ?_ |refine lw rfl rfl (bV (v:=.bool false)) rfl ?_ |refine pu [] Tryz.call217 (iN _) rfl cK bC ?_ |refine AB [] rfl rfl Tryz.call217 (fun _=>(iN _)) rfl cK bC ?_ |refine puw [] rfl rfl Tryz.call217 (fun _=>(iN _)) rfl cK bC ?_);refine qS ?_;refine aB rfl (fun g1=> ?_) (fun g1=> ?_)
 ·refine aI ?_;have ha:=f2 g1;have hp:fT ⟨(op:Int),ai,bi,l⟩=[wG ai]:=by unfold fT;simp only[g1,if_true,if_false,Bool.false_eq_true]
  refine eU ?_;refine lo (aBo (z:=_) ⟨_,_,_,rfl⟩) rfl ?_;refine oO ?_;refine lo (ZK rfl (E rfl) (E rfl) (fun _=>by omega) (fun _=>aEo ha)) rfl ?_;refine eS fun r23 h23=> ?_;intros
  apply ap (es':=(us++ [wG ai]).map aH) (len':=(us++ [wG ai]).length);rfl;rfl;exact aO
  ·simp
  ·exact .inr (.inr ⟨_,_,_,_,_,rfl,aO,by simp,rfl⟩)
  ·first|(simp[aH];done)|(simp only[List.drop_zero,List.map_append];congr 1;exact List.take_of_length_le (by simp))
  ·simp;try omega
  ·simp[maxLen];try omega
  ·simp;try omega
  ·rfl
  refine bL fun r24 h24=> ?_;intros
  refine cZ ?_;rw[hp];exact aD aE ⟨_,by rfl,rfl⟩ aA
 refine dC ?_;refine aB rfl (fun g2=> ?_) (fun g2=> ?_)
 ·refine aI ?_;have ha:=f3 g2;obtain⟨a,rfl⟩:=Int.eq_ofNat_of_zero_le ha.1;have hp:fT ⟨(op:Int),(a:Int),bi,l⟩=uB a:=by unfold fT;simp only[g1,g2,if_true,if_false,Bool.false_eq_true,Int.toNat_natCast]
  refine lO ?_;refine UP ?_;refine cw [(r12,.arr 5 1 ((us).map aH))] Tryz.call239 (nF r12 (us) (by first|omega|(simp;omega)) a (by omega)) rfl ?_ ?_ ?_
  ·exact aC
  ·exact aA
  rintro _ σ' ⟨ra,rfl,rfl⟩ hra;have kra:=bB hra;repeat rcases kra with⟨_,kra⟩
  refine eR ?_;rw[hp];exact aD aE ⟨_,by rfl,rfl⟩ aA
 refine dC ?_;refine aB rfl (fun g3=> ?_) (fun g3=> ?_)
 ·refine aI ?_;have ha:=f5 g3;obtain⟨a,rfl⟩:=Int.eq_ofNat_of_zero_le ha.1;have hp:fT ⟨(op:Int),(a:Int),bi,l⟩=uB a++ [0]:=by unfold fT;simp only[g1,g2,g3,if_true,if_false,Bool.false_eq_true,Int.toNat_natCast]
  have hal:=bR 1 a (by omega);refine lO ?_;refine UP ?_;refine cw [(r12,.arr 5 1 ((us).map aH))] Tryz.call239 (nF r12 (us) (by first|omega|(simp;omega)) a (by omega)) rfl ?_ ?_ ?_
  ·exact aC
  ·exact aA
  rintro _ σ' ⟨ra,rfl,rfl⟩ hra;have kra:=bB hra;repeat rcases kra with⟨_,kra⟩
  apply aZ;exact bN;refine eS fun r39 h39=> ?_;intros
  apply ap (es':=((us++uB a)++ [0]).map aH) (len':=((us++uB a)++ [0]).length);rfl;rfl;exact aO
  ·simp
  ·exact .inr (.inr ⟨_,_,_,_,_,rfl,aO,by simp,rfl⟩)
  ·first|(simp[aH];done)|(simp only[List.drop_zero,List.map_append];congr 1;exact List.take_of_length_le (by simp))
  ·simp;try omega
  ·simp[maxLen];try omega
  ·simp;try omega
  ·rfl
  refine bL fun r40 h40=> ?_;intros
  refine cZ ?_;rw[hp,←List.append_assoc];exact aD aE ⟨_,by rfl,rfl⟩ aA
 refine dC ?_;refine aB rfl (fun g4=> ?_) (fun g4=> ?_)
 ·refine aI ?_;have ha:=f4 g4;obtain⟨⟨ha0,ha1⟩,hl50,hall⟩:=ha;obtain⟨a,rfl⟩:=Int.eq_ofNat_of_zero_le ha0;have hp:fT ⟨(op:Int),(a:Int),bi,l⟩=uB l.length++(l.flatMap fun n=>uB n.toNat)++uB a:=by unfold fT;simp only[g1,g2,g3,g4,if_true,if_false,Bool.false_eq_true,Int.toNat_natCast]
  have hal:=bR 1 a (by omega);have hll:=bR 1 l.length (by omega);have hfl:=sS hall;refine eU ?_;refine nL ?_;refine UP ?_;refine cw [(r12,.arr 5 1 ((us).map aH))] Tryz.call239 (nF r12 (us) (by first|omega|(simp;omega)) l.length (by omega)) rfl ?_ ?_ ?_
  ·exact aC
  ·exact aA
  rintro _ σ' ⟨ra,rfl,rfl⟩ hra;have kra:=bB hra;repeat rcases kra with⟨_,kra⟩
  refine eR ?_;refine jH ?_;refine nL ?_;refine QO ?_;obtain⟨ws,hws⟩:∃ws,ws=us++uB l.length:=⟨_,rfl⟩
  have hwl:ws.length≤50000003:=by rw[hws];simp;omega
  rw[←hws];have hpre:∀j,(us++uB l.length++((l.take j).flatMap fun n=>uB n.toNat)).length≤50000103:=fun j=>by
   have:=sS (l:=l.take j) fun n hn=>hall n (List.mem_of_mem_take hn)
   simp at this⊢;omega
  refine lp (β:=Nat×Nat) (fun b=>⟨[(0,.own b.1 0 (ws++((l.take b.2).flatMap fun n=>uB n.toNat)).length),(3,.ptr r3 0),(50,.ro 1 (l.map aR) k),(51,.int .i64 l.length),(52,.int .i64 b.2)],[(b.1,.arr 5 1 ((ws++((l.take b.2).flatMap fun n=>uB n.toNat)).map aH)),(r3,.box 46 [.int .i64 op,.int .i64 a,.int .i64 bi,.ro 1 (l.map aR) k])]⟩) (fun b=>Nq b.1 r3∧b.2≤l.length) (fun b=>l.length-b.2) (ra,0) ?_ ⟨?_,Nat.zero_le _⟩ ?_
  ·simp only[List.take_zero,List.flatMap_nil,List.append_nil];exact aJ
  ·show Nq ra r3;exact bA
  rintro⟨rb,j⟩ ⟨hrb,hj⟩;dsimp only at hrb hj⊢;have hpj:=hpre j;rw[←hws]at hpj;refine jL ?_;refine aB rfl (fun h1=> ?_) (fun h1=> ?_)
  ·have hlt:j<l.length:=by simp at h1;omega
   obtain⟨y,hy⟩:∃y,l[j]? =some y:=⟨_,List.getElem?_eq_getElem hlt⟩
   obtain⟨hy0,hy1⟩:=hall y (List.mem_of_getElem? hy);obtain⟨z,rfl⟩:=Int.eq_ofNat_of_zero_le hy0;refine dG ?_;refine mJ ?_;refine nR ?_;refine UP ?_;refine cw [(rb,.arr 5 1 ((ws++((l.take j).flatMap fun n=>uB n.toNat)).map aH))] Tryz.call239 (nF rb (ws++((l.take j).flatMap fun n=>uB n.toNat)) (by first|omega|(simp;omega)) z (by omega)) rfl ?_ ?_ ?_
   ·exact aC
   ·exact aA
   rintro _ σ' ⟨rc,rfl,rfl⟩ hrc;have krc:=bB hrc;repeat rcases krc with⟨_,krc⟩
   refine uF ?_;have hnx:ws++((l.take j).flatMap fun n=>uB n.toNat)++uB z=ws++((l.take (j+1)).flatMap fun n=>uB n.toNat):=by
    rw[List.take_add_one,hy,List.flatMap_append,List.append_assoc];simp
   rw[hnx];refine⟨(rc,j+1),⟨by show Nq rc r3;(exact bA),hlt⟩,by show l.length-(j+1)<l.length-j;omega, ?_⟩;exact aJ
  ·obtain rfl:j=l.length:=by simp at h1;omega
   rw[List.take_length]at hpj⊢;refine nD ?_;refine UP ?_;refine cw [(rb,.arr 5 1 ((ws++(l.flatMap fun n=>uB n.toNat)).map aH))] Tryz.call239 (nF rb (ws++(l.flatMap fun n=>uB n.toNat)) (by first|omega|(simp;omega)) a (by omega)) rfl ?_ ?_ ?_
   ·exact aC
   ·exact aA
   rintro _ σ' ⟨rd,rfl,rfl⟩ hrd;have krd:=bB hrd;repeat rcases krd with⟨_,krd⟩
   refine eR ?_;rw[hp,show us++(uB l.length++(l.flatMap fun n=>uB n.toNat)++uB a)=ws++(l.flatMap fun n=>uB n.toNat)++uB a by rw[hws];simp];exact aD aE ⟨_,by rfl,rfl⟩ aA
 refine dC ?_;refine aB rfl (fun g5=> ?_) (fun g5=> ?_)
 ·refine aI ?_;have ha:=f6 g5;obtain⟨ha0,ha1,hb0,hb1⟩:=ha;obtain⟨a,rfl⟩:=Int.eq_ofNat_of_zero_le ha0;obtain⟨b,rfl⟩:=Int.eq_ofNat_of_zero_le hb0;have hp:fT ⟨(op:Int),(a:Int),(b:Int),l⟩=uB a++uB b:=by unfold fT;simp only[g1,g2,g3,g4,g5,if_true,if_false,Bool.false_eq_true,Int.toNat_natCast]
  have hal:=bR 1 a (by omega);refine fK [(0,true),(1,true),(2,true),(3,true),(5,true),(6,true),(7,true),(4,false),(8,false),(9,true)] ?_;refine DW ?_;refine z75 ?_;refine fZ ?_;refine z75 ?_;refine sD [(r12,.arr 5 1 ((us).map aH))] rfl Tryz.call239 (nF r12 (us) (by first|omega|(simp;omega)) a (by omega)) rfl ?_ ?_ ?_ ?_
  ·exact aC
  ·exact aA
  ·exact fS
  rintro _ σ' ⟨ra,rfl,rfl⟩ hra;have kra:=bB hra;repeat rcases kra with⟨_,kra⟩
  apply bZ;exact bN;refine sD [(ra,.arr 5 1 ((us++uB a).map aH))] rfl Tryz.call239 (nF ra (us++uB a) (by first|omega|(simp;omega)) b (by omega)) rfl ?_ ?_ ?_ ?_
  ·exact aC
  ·exact aA
  ·exact fS
  rintro _ σ' ⟨rb,rfl,rfl⟩ hrb;have krb:=bB hrb;repeat rcases krb with⟨_,krb⟩
  refine uE ?_;rw[hp,←List.append_assoc];exact aD aE ⟨_,by rfl,rfl⟩ aA
 refine dC ?_;refine aB rfl (fun g6=> ?_) (fun g6=> ?_)
 ·refine aI ?_;have hp:fT ⟨(op:Int),ai,bi,l⟩=[0]:=by unfold fT;simp only[g1,g2,g3,g4,g5,g6,if_true,if_false,Bool.false_eq_true]
  refine eU ?_;refine eS fun r80 h80=> ?_;intros
  apply ap (es':=(us++ [0]).map aH) (len':=(us++ [0]).length);rfl;rfl;exact aO
  ·simp
  ·exact .inr (.inr ⟨_,_,_,_,_,rfl,aO,by simp,rfl⟩)
  ·first|(simp[aH];done)|(simp only[List.drop_zero,List.map_append];congr 1;exact List.take_of_length_le (by simp))
  ·simp;try omega
  ·simp[maxLen];try omega
  ·simp;try omega
  ·rfl
  refine bL fun r81 h81=> ?_;intros
  refine cZ ?_;rw[hp];exact aD aE ⟨_,by rfl,rfl⟩ aA
 refine dC ?_;apply fD rfl;exact cT
 ·intro _;(refine aI ?_);refine eV ?_;exact aJ
 refine aI ?_;refine aB rfl (fun g7=> ?_) (fun g7=> ?_)
 ·refine aI ?_;have hp:fT ⟨(op:Int),ai,bi,l⟩=sB ai:=by unfold fT;simp only[g1,g2,g3,g4,g5,g6,g7,if_true,if_false,Bool.false_eq_true]
  refine lO ?_;refine cw [(r12,.arr 5 1 (us.map aH))] Tryz.call296 (QV r12 us (by omega) ai f8) rfl ?_ ?_ ?_
  ·exact aC
  ·exact aA
  rintro _ σ' ⟨ra,rfl,rfl⟩ hra;refine eR ?_;rw[hp];exact aD aE ⟨_,by rfl,rfl⟩ aA
 refine fF ?_;apply aD;exact aE
 ·(unfold fT;simp only[g1,g2,g3,g4,g5,g6,g7,if_true,if_false,Bool.false_eq_true,List.append_nil];exact⟨_,rfl,rfl⟩)
 ·exact aA
theorem aBM{a:Int}(h:0≤a∧a≤2):([[.int .u8 64],[.int .u8 127],[.int .u8 126]]:List (List AV))[a.toNat]? =some [.int .u8 (wG a:Nat)]:=by
 have:a=0∨a=1∨a=2:=by omega
 rcases this with rfl|rfl|rfl<;>rfl
theorem tO(k:Rk)(x:Ins)(hx:x.Ok)(hm:dB x=true):SCall Tryz.prog 253 [.agg (iv k x)] []
  (fun y σ=>∃r,y=.own r 0 (gG x).length∧σ=[(r,.arr 5 1 ((gG x).map aH))]):=by
 have f1:=LW hm;have f2:=aHL hm;have f3:=aEk hm;have f4:=aEm hm;have f5:=aEl hm;have f6:=aEn hm;have hop:-9223372036854775808≤x.op∧x.op≤9223372036854775807:=⟨hx.1,hx.2.1⟩
 have f8:-9223372036854775808≤x.a∧x.a≤9223372036854775807:=⟨hx.2.2.1,hx.2.2.2.1⟩
 have hs8:(sB x.a).length≤10:=yX 9 x.a (by omega) (by omega);obtain⟨op,ai,bi,l⟩:=x;dsimp only at f1 f2 f3 f4 f5 f6 f8 hop hs8;obtain⟨op,rfl⟩:=Int.eq_ofNat_of_zero_le f1.1;have hvo:gG ⟨(op:Int),ai,bi,l⟩=[op]++fT ⟨(op:Int),ai,bi,l⟩:=by simp[gG]
 rw[hvo];refine cC 98 [0,1,2,3,4,11,12,22,30,40,53,71,84,89] Tryz.func253 ?_;unfold iv;dsimp only;refine dG ?_;refine iG fun r1 h1=> ?_;intros
 refine iX ?_;refine z0 ?_;refine eS fun r8 h8=> ?_;intros
 refine cZ ?_;rw[show [[AV.int .u8 (op:Int)]]=[op].map aH from rfl,show AV.own r8 0 1=AV.own r8 0 [op].length from rfl];refine nE ?_
 (first|refine ln rfl rfl rfl rfl ?_ |refine lw rfl rfl (bV (v:=.bool false)) rfl ?_ |refine pu [] Tryz.call250 (qF _ (by assumption)) rfl cK bC ?_ |refine AB [] rfl rfl Tryz.call250 (fun _=>(qF _ (by assumption))) rfl cK bC ?_ |refine puw [] rfl rfl Tryz.call250 (fun _=>(qF _ (by assumption))) rfl cK bC ?_);refine qS ?_;refine aB rfl (fun g1=> ?_) (fun g1=> ?_)
 ·refine aI ?_;have ha:=f2 g1;have hp:fT ⟨(op:Int),ai,bi,l⟩=[wG ai]:=by unfold fT;simp only[g1,if_true,if_false,Bool.false_eq_true]
  refine eU ?_;refine eS fun r15 h15=> ?_;intros
  refine oO ?_;refine II ?_;refine lo (bQ (E rfl) rfl aO (fun _=>aBM ha) (fun _=>rfl)) rfl ?_;refine eS fun r20 h20=> ?_;intros
  apply ap (es':=([op]++ [wG ai]).map aH) (len':=([op]++ [wG ai]).length);rfl;rfl;exact aO
  ·simp
  ·exact .inr (.inr ⟨_,_,_,_,_,rfl,aO,by simp,rfl⟩)
  ·first|(simp[aH];done)|(simp only[List.drop_zero,List.map_append];congr 1;exact List.take_of_length_le (by simp))
  ·simp;try omega
  ·simp[maxLen];try omega
  ·simp;try omega
  ·rfl
  refine bL fun r21 h21=> ?_;intros
  refine cZ ?_;rw[hp];exact aD aE ⟨_,by rfl,rfl⟩ aA
 refine dC ?_;refine aB rfl (fun g2=> ?_) (fun g2=> ?_)
 ·refine aI ?_;have ha:=f3 g2;obtain⟨a,rfl⟩:=Int.eq_ofNat_of_zero_le ha.1;have hp:fT ⟨(op:Int),(a:Int),bi,l⟩=uB a:=by unfold fT;simp only[g1,g2,if_true,if_false,Bool.false_eq_true,Int.toNat_natCast]
  have hal:=bR 1 a (by omega);refine lO ?_;refine UP ?_;refine cw [] Tryz.call252 (DJ a (by omega)) rfl ?_ ?_ ?_
  ·exact aC
  ·exact aA
  rintro _ σ' ⟨ra,rfl,rfl⟩ hra
  replace hra:=gU hra;repeat rcases hra with⟨_,hra⟩
  apply aZ;exact bN
  apply ap (es':=([op]++uB a).map aH) (len':=([op]++uB a).length);rfl;rfl;exact aO
  ·simp
  ·exact .inr (.inr ⟨_,_,_,_,_,rfl,aO,by simp,rfl⟩)
  ·first|(simp[aH];done)|(simp only[List.drop_zero,List.map_append];congr 1;exact List.take_of_length_le (by simp))
  ·simp;try omega
  ·simp[maxLen];try omega
  ·simp;try omega
  ·rfl
  refine bL fun r29 h29=> ?_;intros
  refine cZ ?_;rw[hp];exact aD aE ⟨_,by rfl,rfl⟩ aA
 refine dC ?_;refine aB rfl (fun g3=> ?_) (fun g3=> ?_)
 ·refine aI ?_;have ha:=f5 g3;obtain⟨a,rfl⟩:=Int.eq_ofNat_of_zero_le ha.1;have hp:fT ⟨(op:Int),(a:Int),bi,l⟩=uB a++ [0]:=by unfold fT;simp only[g1,g2,g3,if_true,if_false,Bool.false_eq_true,Int.toNat_natCast]
  have hal:=bR 1 a (by omega);refine lO ?_;refine UP ?_;refine cw [] Tryz.call252 (DJ a (by omega)) rfl ?_ ?_ ?_
  ·exact aC
  ·exact aA
  rintro _ σ' ⟨ra,rfl,rfl⟩ hra
  replace hra:=gU hra;repeat rcases hra with⟨_,hra⟩
  apply aZ;exact bN;apply ap (es':=([op]++uB a).map aH) (len':=([op]++uB a).length);rfl;rfl;exact aO
  ·simp
  ·exact .inr (.inr ⟨_,_,_,_,_,rfl,aO,by simp,rfl⟩)
  ·first|(simp[aH];done)|(simp only[List.drop_zero,List.map_append];congr 1;exact List.take_of_length_le (by simp))
  ·simp;try omega
  ·simp[maxLen];try omega
  ·simp;try omega
  ·rfl
  refine bL fun r37 h37=> ?_;intros
  refine eS fun r38 h38=> ?_;intros
  apply ap (es':=(([op]++uB a)++ [0]).map aH) (len':=(([op]++uB a)++ [0]).length);rfl;rfl;exact aO
  ·simp
  ·exact .inr (.inr ⟨_,_,_,_,_,rfl,aO,by simp,rfl⟩)
  ·first|(simp[aH];done)|(simp only[List.drop_zero,List.map_append];congr 1;exact List.take_of_length_le (by simp))
  ·simp;try omega
  ·simp[maxLen];try omega
  ·simp;try omega
  ·rfl
  refine bL fun r39 h39=> ?_;intros
  refine cZ ?_;rw[hp,←List.append_assoc];exact aD aE ⟨_,by rfl,rfl⟩ aA
 refine dC ?_;refine aB rfl (fun g4=> ?_) (fun g4=> ?_)
 ·refine aI ?_;have ha:=f4 g4;obtain⟨⟨ha0,ha1⟩,hl50,hall⟩:=ha;obtain⟨a,rfl⟩:=Int.eq_ofNat_of_zero_le ha0;have hp:fT ⟨(op:Int),(a:Int),bi,l⟩=uB l.length++(l.flatMap fun n=>uB n.toNat)++uB a:=by unfold fT;simp only[g1,g2,g3,g4,if_true,if_false,Bool.false_eq_true,Int.toNat_natCast]
  have hal:=bR 1 a (by omega);have hll:=bR 1 l.length (by omega);have hfl:=sS hall;refine eU ?_;refine nL ?_;refine UP ?_;refine cw [] Tryz.call252 (DJ l.length (by omega)) rfl ?_ ?_ ?_
  ·exact aC
  ·exact aA
  rintro _ σ' ⟨ra,rfl,rfl⟩ hra
  replace hra:=gU hra;repeat rcases hra with⟨_,hra⟩
  apply aZ;exact bN;apply ap (es':=([op]++uB l.length).map aH) (len':=([op]++uB l.length).length);rfl;rfl;exact aO
  ·simp
  ·exact .inr (.inr ⟨_,_,_,_,_,rfl,aO,by simp,rfl⟩)
  ·first|(simp[aH];done)|(simp only[List.drop_zero,List.map_append];congr 1;exact List.take_of_length_le (by simp))
  ·simp;try omega
  ·simp[maxLen];try omega
  ·simp;try omega
  ·rfl
  refine bL fun r48 h48=> ?_;intros
  refine jC ?_;refine cZ ?_;obtain⟨ws,hws⟩:∃ws,ws=[op]++uB l.length:=⟨_,rfl⟩
  have hwl:ws.length≤3:=by rw[hws];simp;omega
  rw[←hws];have hpre:∀j,(ws++((l.take j).flatMap fun n=>uB n.toNat)).length≤103:=fun j=>by
   have:=sS (l:=l.take j) fun n hn=>hall n (List.mem_of_mem_take hn)
   simp at this⊢;omega
  refine lp (β:=Nat×Nat) (fun b=>⟨[(3,.own b.1 0 (ws++((l.take b.2).flatMap fun n=>uB n.toNat)).length),(1,.ptr r1 0),(4,.int .i64 b.2)],[(b.1,.arr 5 1 ((ws++((l.take b.2).flatMap fun n=>uB n.toNat)).map aH)),(r1,.box 46 [.int .i64 op,.int .i64 a,.int .i64 bi,.ro 1 (l.map aR) k])]⟩) (fun b=>Nq b.1 r1∧b.2≤l.length) (fun b=>l.length-b.2) (r48,0) ?_ ⟨?_,Nat.zero_le _⟩ ?_
  ·simp only[List.take_zero,List.flatMap_nil,List.append_nil];exact aJ
  ·show Nq r48 r1;exact bA
  rintro⟨rb,j⟩ ⟨hrb,hj⟩;dsimp only at hrb hj⊢;have hpj:=hpre j;refine pC ?_;refine aB rfl (fun h1=> ?_) (fun h1=> ?_)
  ·have hlt:j<l.length:=by simp at h1;omega
   obtain⟨y,hy⟩:∃y,l[j]? =some y:=⟨_,List.getElem?_eq_getElem hlt⟩
   obtain⟨hy0,hy1⟩:=hall y (List.mem_of_getElem? hy);obtain⟨z,rfl⟩:=Int.eq_ofNat_of_zero_le hy0;have hzl:=bR 1 z (by omega);obtain⟨pl,hpl⟩:∃pl,pl=ws++((l.take j).flatMap fun n=>uB n.toNat):=⟨_,rfl⟩
   rw[←hpl]at hpj⊢;refine nD ?_;refine nA ?_;refine UP ?_;refine cw [] Tryz.call252 (DJ z (by omega)) rfl ?_ ?_ ?_
   ·exact aC
   ·exact aA
   rintro _ σ' ⟨rc,rfl,rfl⟩ hrc
   replace hrc:=gU hrc;repeat rcases hrc with⟨_,hrc⟩
   apply aZ;exact bN;apply ap (es':=(pl++uB z).map aH) (len':=(pl++uB z).length);rfl;rfl;exact aO
   ·simp
   ·exact .inr (.inr ⟨_,_,_,_,_,rfl,aO,by simp,rfl⟩)
   ·first|(simp[aH];done)|(simp only[List.drop_zero,List.map_append];congr 1;exact List.take_of_length_le (by simp))
   ·simp;try omega
   ·simp[maxLen];try omega
   ·simp;try omega
   ·rfl
   refine bL fun r64 h64=> ?_;intros
   refine iF ?_;refine AE ?_;have hnx:ws++((l.take j).flatMap fun n=>uB n.toNat)++uB z=ws++((l.take (j+1)).flatMap fun n=>uB n.toNat):=by
    rw[List.take_add_one,hy,List.flatMap_append,List.append_assoc];simp
   rw[hpl,hnx];refine⟨(r64,j+1),⟨by show Nq r64 r1;(exact bA),hlt⟩,by show l.length-(j+1)<l.length-j;omega, ?_⟩;exact aJ
  ·obtain rfl:j=l.length:=by simp at h1;omega
   rw[List.take_length]at hpj⊢;obtain⟨pl,hpl⟩:∃pl,pl=ws++(l.flatMap fun n=>uB n.toNat):=⟨_,rfl⟩
   rw[←hpl]at hpj⊢;refine nD ?_;refine UP ?_;refine cw [] Tryz.call252 (DJ a (by omega)) rfl ?_ ?_ ?_
   ·exact aC
   ·exact aA
   rintro _ σ' ⟨rd,rfl,rfl⟩ hrd
   replace hrd:=gU hrd;repeat rcases hrd with⟨_,hrd⟩
   apply aZ;exact bN;apply ap (es':=(pl++uB a).map aH) (len':=(pl++uB a).length);rfl;rfl;exact aO
   ·simp
   ·exact .inr (.inr ⟨_,_,_,_,_,rfl,aO,by simp,rfl⟩)
   ·first|(simp[aH];done)|(simp only[List.drop_zero,List.map_append];congr 1;exact List.take_of_length_le (by simp))
   ·simp;try omega
   ·simp[maxLen];try omega
   ·simp;try omega
   ·rfl
   refine bL fun r70 h70=> ?_;intros
   refine cZ ?_;rw[hpl];rw[hp,show [op]++(uB l.length++(l.flatMap fun n=>uB n.toNat)++uB a)=ws++(l.flatMap fun n=>uB n.toNat)++uB a by rw[hws];simp];exact aD aE ⟨_,by rfl,rfl⟩ aA
 refine dC ?_;refine aB rfl (fun g5=> ?_) (fun g5=> ?_)
 ·refine aI ?_;have ha:=f6 g5;obtain⟨ha0,ha1,hb0,hb1⟩:=ha;obtain⟨a,rfl⟩:=Int.eq_ofNat_of_zero_le ha0;obtain⟨b,rfl⟩:=Int.eq_ofNat_of_zero_le hb0;have hp:fT ⟨(op:Int),(a:Int),(b:Int),l⟩=uB a++uB b:=by unfold fT;simp only[g1,g2,g3,g4,g5,if_true,if_false,Bool.false_eq_true,Int.toNat_natCast]
  have hal:=bR 1 a (by omega);have hbl:=bR 4 b (by omega);refine fK [(0,true),(1,true),(2,true),(3,true),(6,true),(7,true),(8,true),(4,false),(5,false),(9,false),(10,false),(11,true)] ?_;refine DW ?_;refine z75 ?_;refine fZ ?_;refine z75 ?_;refine sD [] rfl Tryz.call252 (DJ a (by omega)) rfl ?_ ?_ ?_ ?_
  ·exact aC
  ·exact aA
  ·exact fS
  rintro _ σ' ⟨ra,rfl,rfl⟩ hra
  replace hra:=gU hra;repeat rcases hra with⟨_,hra⟩
  apply bZ;exact bN;apply dap (es':=([op]++uB a).map aH) (len':=([op]++uB a).length);rfl;infer_instance;infer_instance;rfl;rfl;exact aO
  ·simp
  ·exact .inr (.inr ⟨_,_,_,_,_,rfl,aO,by simp,rfl⟩)
  ·first|(simp[aH];done)|(simp only[List.drop_zero,List.map_append];congr 1;exact List.take_of_length_le (by simp))
  ·simp;try omega
  ·simp[maxLen];try omega
  ·simp;try omega
  ·rfl
  ·exact fS
  refine bL fun r78 h78=> ?_;intros
  refine sD [] rfl Tryz.call252 (DJ b (by omega)) rfl ?_ ?_ ?_ ?_
  ·exact aC
  ·exact aA
  ·exact fS
  rintro _ σ' ⟨rb,rfl,rfl⟩ hrb
  replace hrb:=gU hrb;repeat rcases hrb with⟨_,hrb⟩
  apply bZ;exact bN;apply dap (es':=(([op]++uB a)++uB b).map aH) (len':=(([op]++uB a)++uB b).length);rfl;infer_instance;infer_instance;rfl;rfl;exact aO
  ·simp
  ·exact .inr (.inr ⟨_,_,_,_,_,rfl,aO,by simp,rfl⟩)
  ·first|(simp[aH];done)|(simp only[List.drop_zero,List.map_append];congr 1;exact List.take_of_length_le (by simp))
  ·simp;try omega
  ·simp[maxLen];try omega
  ·simp;try omega
  ·rfl
  ·exact fS
  refine bL fun r83 h83=> ?_;intros
  refine yV ?_;rw[hp,←List.append_assoc];exact aD aE ⟨_,by rfl,rfl⟩ aA
 refine dC ?_;refine aB rfl (fun g6=> ?_) (fun g6=> ?_)
 ·refine aI ?_;have hp:fT ⟨(op:Int),ai,bi,l⟩=[0]:=by unfold fT;simp only[g1,g2,g3,g4,g5,g6,if_true,if_false,Bool.false_eq_true]
  refine eU ?_;refine eS fun r87 h87=> ?_;intros
  apply ap (es':=([op]++ [0]).map aH) (len':=([op]++ [0]).length);rfl;rfl;exact aO
  ·simp
  ·exact .inr (.inr ⟨_,_,_,_,_,rfl,aO,by simp,rfl⟩)
  ·first|(simp[aH];done)|(simp only[List.drop_zero,List.map_append];congr 1;exact List.take_of_length_le (by simp))
  ·simp;try omega
  ·simp[maxLen];try omega
  ·simp;try omega
  ·rfl
  refine bL fun r88 h88=> ?_;intros
  refine cZ ?_;rw[hp];exact aD aE ⟨_,by rfl,rfl⟩ aA
 refine dC ?_;apply fD rfl;exact cT
 ·intro _;(refine aI ?_);refine eV ?_;exact aJ
 refine aI ?_;refine aB rfl (fun g7=> ?_) (fun g7=> ?_)
 ·refine aI ?_;have hp:fT ⟨(op:Int),ai,bi,l⟩=sB ai:=by unfold fT;simp only[g1,g2,g3,g4,g5,g6,g7,if_true,if_false,Bool.false_eq_true]
  refine lO ?_;refine cw [] Tryz.call297 (aKj ai f8) rfl ?_ ?_ ?_
  ·exact aC
  ·exact aA
  rintro _ σ' ⟨ra,rfl,rfl⟩ hra
  replace hra:=gU hra;repeat rcases hra with⟨_,hra⟩
  apply aZ;exact bN;apply ap (es':=([op]++sB ai).map aH) (len':=([op]++sB ai).length);rfl;rfl;exact aO
  ·simp
  ·exact .inr (.inr ⟨_,_,_,_,_,rfl,aO,by simp,rfl⟩)
  ·first|(simp[aH];done)|(simp only[List.drop_zero,List.map_append];congr 1;exact List.take_of_length_le (by simp))
  ·simp;try omega
  ·simp[maxLen];try omega
  ·simp;try omega
  ·rfl
  refine bL fun r96 h96=> ?_;intros
  refine cZ ?_;rw[hp];exact aD aE ⟨_,by rfl,rfl⟩ aA
 refine fF ?_;apply aD;exact aE
 ·(unfold fT;simp only[g1,g2,g3,g4,g5,g6,g7,if_true,if_false,Bool.false_eq_true,List.append_nil];exact⟨_,rfl,rfl⟩)
 ·exact aA
def rv (l:List Nat) (n:Nat) (e:Int):List AV:=[.ro 1 (l.map aH) .any,.int .i64 n,.int .i64 e]
def pY (l:List Nat) (n:Nat) (e:Int):Nat×Nat×Int:=
 if(e !=0)=true then(0,n,e)else if((n:Int)==(l.length:Int))=true then(0,n,2)else(l[n]!,n+1,e)
def gO (l:List Nat) (lim:Int) (n:Nat) (e:Int):Nat×Nat×Int:=
 if(e !=0)=true then(0,n,e)else if((lR (l.drop n)).2.2 !=0)=true then(0,n,(lR (l.drop n)).2.2)else if decide (lim<((lR (l.drop n)).1:Int))=true then(0,n,1)else((lR (l.drop n)).1,n+(lR (l.drop n)).2.1,(lR (l.drop n)).2.2)
def DK (l:List Nat) (bits:Nat) (n:Nat):Int×Nat×Int:=((xU bits (l.drop n)).1,n+(xU bits (l.drop n)).2.1,(xU bits (l.drop n)).2.2)
theorem FW(r:Nat)(l:List Nat)(hl:l.length≤1000000)(hlt:∀x∈l,x<256)(n:Nat)(hn:n≤l.length)(e:Int):SCall Tryz.prog 314 [.ptr r 0] [(r,.box 346 (rv l n e))]
  (fun x σ=>x=.int .i64 ((pY l n e).1:Nat)∧σ=[(r,.box 346 (rv l (pY l n e).2.1 (pY l n e).2.2))]):=by
 refine cC 42 [0,2,3,9] Tryz.func314 ?_;unfold rv;refine gX ?_;refine nN ?_;refine lo (gA (E rfl) (E rfl)) rfl ?_;refine cZ ?_;refine aB rfl (fun g1=> ?_) (fun g1=> ?_)
 ·refine bP ?_;apply aD;exact aE
  ·(unfold pY;simp only[g1,if_true,if_false,Bool.false_eq_true];exact⟨rfl,rfl⟩)
  ·exact aA
 refine aI ?_;refine fK [(0,true),(1,true),(2,true),(3,true),(4,true),(5,true),(6,true),(7,true),(8,true),(9,true),(10,true)] ?_;refine pV ?_;refine DI ?_;refine z79 ?_;refine yV ?_;refine aB rfl (fun g2=> ?_) (fun g2=> ?_)
 ·refine uJ ?_;refine nY ?_;refine bP ?_;apply aD;exact aE
  ·(unfold pY;simp only[g1,g2,if_true,if_false,Bool.false_eq_true];exact⟨rfl,rfl⟩)
  ·exact aA
 refine dO ?_;refine nN ?_;refine PR ?_;refine qO ?_;have hlt2:n<l.length:=by simp at g2;omega
 refine fK [(0,true),(1,true),(2,true),(3,true),(4,true),(5,true),(6,true),(7,true),(8,true),(9,true),(10,true),(11,true),(12,true)] ?_;refine pV ?_;refine pV ?_;refine z82 ?_;rw[show(n:Int)+1-1=(n:Nat) by omega];refine HY ?_;refine JP ?_;rw[Int.toNat_natCast];have hb8:=AN hlt n;refine z83 ?_;refine yV ?_;apply aD;exact aE
 ·(unfold pY;simp only[g1,g2,if_true,if_false,Bool.false_eq_true];exact⟨rfl,rfl⟩)
 ·exact aA
def LX (l:List Nat) (n:Nat) (e:Int):Nat×Int:=if(((pY l n e).1:Int) !=0)=true then((pY l n e).2.1,1)else(pY l n e).2
theorem RC(r:Nat)(l:List Nat)(hl:l.length≤1000000)(hlt:∀x∈l,x<256)(n:Nat)(hn:n≤l.length)(e:Int):SCall Tryz.prog 317 [.ptr r 0] [(r,.box 346 (rv l n e))]
  (fun x σ=>x=.tup []∧σ=[(r,.box 346 (rv l (LX l n e).1 (LX l n e).2))]):=by
 refine cC 8 [0,4] Tryz.func317 ?_;unfold rv;refine dO ?_;refine cw [(r,.box 346 (rv l n e))] Tryz.call314 (FW r l hl hlt n hn e) rfl ?_ ?_ ?_
 ·exact aC
 ·exact aA
 rintro _ σ' ⟨rfl,rfl⟩-;apply aZ;exact bN;refine sM ?_;unfold rv;refine aB rfl (fun g1=> ?_) (fun g1=> ?_)
 ·refine nP ?_;refine bY ?_;apply aD;exact aE
  ·unfold LX;rw[if_pos g1];exact⟨rfl,rfl⟩
  ·exact aA
 ·refine aI ?_;refine bY ?_;apply aD;exact aE
  ·unfold LX;rw[if_neg (by rw[g1];simp)];exact⟨rfl,rfl⟩
  ·exact aA
theorem KA{l:List Nat}{n:Nat}:List.take ((l.map aH).length-n) (List.drop n (l.map aH))=(l.drop n).map aH:=by
 rw[List.map_drop,List.take_of_length_le (by simp)]
theorem LY{e:Int}{b:Bool}(h:(if(e==0)=true then b else false)=true):e=0∧b=true:=by
 split at h
 ·next h1=>exact⟨by simpa using h1,h⟩
 ·cases h
theorem wH{e:Int}{b:Bool}(h:(if(e==0)=true then b else false)=false)(h0:(e !=0)=false):e=0∧b=false:=by
 have h1:e=0:=by simpa using h0
 subst h1;exact⟨rfl,h⟩
theorem jP(r:Nat)(l:List Nat)(hl:l.length≤1000000)(hlt:∀x∈l,x<256)(lim:Int)(n:Nat)(hn:n≤l.length)(e:Int):SCall Tryz.prog 316 [.ptr r 0,.int .i64 lim] [(r,.box 346 (rv l n e))]
  (fun x σ=>x=.int .i64 ((gO l lim n e).1:Nat)∧σ=[(r,.box 346 (rv l (gO l lim n e).2.1 (gO l lim n e).2.2))]):=by
 have hbd:=AL (l.drop n);obtain⟨hb1,hb2,hb3⟩:=hbd;rw[List.length_drop]at hb2;refine cC 51 [0,1,4,5,6,7,12,34,40] Tryz.func316 ?_;unfold rv;refine gX ?_;refine uG ?_;refine aB rfl (fun g1=> ?_) (fun g1=> ?_)
 ·refine bP ?_;apply aD;exact aE
  ·(unfold gO;simp only[g1,if_true,if_false,Bool.false_eq_true];first|exact⟨rfl,rfl⟩|(have hd:=wH g2 g3;simp only[hd.2,Bool.false_eq_true,if_false];exact⟨rfl,rfl⟩))
  ·exact aA
 refine aI ?_;refine fK [(0,true),(1,true),(2,true),(3,true),(4,true),(5,true),(6,true),(7,true),(8,true),(9,false),(10,true),(11,true),(12,true),(13,true),(14,true),(15,true),(16,true)] ?_;refine pV ?_;refine pV ?_;refine z84 ?_;rw[KA];refine dpu [] rfl Tryz.call166 (aGF (l.drop n) (by rw[List.length_drop];omega) (fun x hx=>hlt x (List.mem_of_mem_drop hx))) rfl cK bC ?_;refine fY rfl (aF (E rfl)) rfl ?_;refine z85 ?_;refine z85 ?_;refine z85 ?_;refine fY rfl (bU (E rfl)) rfl ?_;refine aHG ?_;refine dO ?_;refine lo (cI (E rfl) (E rfl)) rfl ?_;refine yE ?_;refine z80 ?_;refine z4 ?_;refine z81 ?_;refine z7 ?_;refine jI ?_;refine aB rfl (fun g2=> ?_) (fun g2=> ?_)
 ·refine mY ?_;refine qO ?_;refine eU ?_;refine lo (gA (E rfl) (E rfl)) rfl ?_;refine kU ?_;refine bP ?_;apply aD;exact aE
  ·unfold gO;have hd:=LY g2;simp only[g1,hd.1,hd.2,bne_self_eq_false,Bool.false_eq_true,if_true,if_false];exact⟨rfl,rfl⟩
  ·exact aA
 refine dF ?_;refine qO ?_;refine eU ?_;refine sM ?_;refine aB rfl (fun g3=> ?_) (fun g3=> ?_)
 ·refine bP ?_;apply aD;exact aE
  ·(unfold gO;simp only[g1,g2,g3,if_true,if_false,Bool.false_eq_true];first|exact⟨rfl,rfl⟩|(have hd:=wH g2 g3;simp only[hd.2,Bool.false_eq_true,if_false];exact⟨rfl,rfl⟩))
  ·exact aA
 refine dO ?_;refine JT ?_;refine PR ?_;refine qO ?_;refine eU ?_;refine z44 ?_;refine cZ ?_;apply aD;exact aE
 ·(unfold gO;simp only[g1,g2,g3,if_true,if_false,Bool.false_eq_true];first|exact⟨rfl,rfl⟩|(have hd:=wH g2 g3;simp only[hd.2,Bool.false_eq_true,if_false];exact⟨rfl,rfl⟩))
 ·exact aA
theorem FX(r:Nat)(l:List Nat)(hl:l.length≤1000000)(hlt:∀x∈l,x<256)(bits:Nat)(hb:bits=32∨bits=64)(n:Nat)(hn:n≤l.length)(e:Int):SCall Tryz.prog 318 [.ptr r 0,.int .i64 bits] [(r,.box 346 (rv l n e))]
  (fun x σ=>x=.int .i64 (DK l bits n).1∧σ=[(r,.box 346 (rv l (DK l bits n).2.1 (DK l bits n).2.2))]):=by
 have hbd:=XI bits (l.drop n);rw[List.length_drop]at hbd;refine cC 37 [0,1,4,5,6,7] Tryz.func318 ?_;unfold rv DK;refine bP ?_;refine fK [(0,true),(1,true),(2,true),(3,true),(4,true),(5,true),(6,true),(7,true),(8,true),(9,true),(10,false),(11,true),(12,true),(13,true),(14,true),(15,true),(16,true),(17,true)] ?_;refine pV ?_;refine pV ?_;refine z84 ?_;refine fY rfl (aF (E rfl)) rfl ?_;rw[KA];refine dpu [] rfl Tryz.call322 (aKm (l.drop n) (by rw[List.length_drop];omega) (fun x hx=>hlt x (List.mem_of_mem_drop hx)) bits hb) rfl cK bC ?_;refine fY rfl (aF (E rfl)) rfl ?_;refine z85 ?_;refine z85 ?_;refine z85 ?_;refine fY rfl (bU (E rfl)) rfl ?_;refine aHG ?_;refine uZ ?_;refine JT ?_;refine PR ?_;refine lo (aF (E rfl)) rfl ?_;refine AF ?_;apply HW;rfl;rfl;rfl;rfl;exact jU;refine qO ?_;refine eU ?_;refine cZ ?_;exact aD aE ⟨by rfl,rfl⟩ aA
def VC (l:List Int) (y:Int):Int:=match l.findIdx? (· ==y)with|some i=>i|none=> -1
theorem IR{k:Rk}(l:List Int)(y:Int):SCall Tryz.prog 321 [.ro 1 (l.map aR) k,.int .i64 y] [] (fun x σ=>x=.int .i64 (VC l y)∧σ=[]):=by
 refine cC 19 [0,1,4,5,7,8,9,16] Tryz.func321 ?_;refine hZ (i:=0) rfl fun hm=> ?_
 rw[List.length_map]at hm;unfold maxLen at hm;refine sQ ?_;refine lp (β:=Nat) (fun j=>⟨[(0,.ro 1 (l.map aR) k),(1,.int .i64 y),(7,.int .i64 l.length),(8,.int .i64 j)],[]⟩) (fun j=>j≤l.length∧∀i,i<j→l[i]? ≠some y) (fun j=>l.length-j) 0 ?_ ⟨Nat.zero_le _,fun i hi=>by omega⟩ ?_
 ·exact aJ
 rintro j ⟨hj,ht⟩;refine jL ?_;refine aB rfl (fun h1=> ?_) (fun h1=> ?_)
 ·have hlt:j<l.length:=by simp at h1;omega
  obtain⟨x,hx⟩:∃x,l[j]? =some x:=⟨_,List.getElem?_eq_getElem hlt⟩
  refine uI ?_;refine nA ?_;refine rL ?_;refine aB rfl (fun h2=> ?_) (fun h2=> ?_)
  ·have hxy:y=x:=by simpa using h2
   refine fF ?_;apply aD;exact aE
   ·have:l.findIdx? (· ==y)=some j:=by
     rw[List.findIdx?_eq_some_iff_getElem];refine⟨hlt, ?_,fun i hi=> ?_⟩
     ·rw[List.getElem?_eq_getElem hlt]at hx;simp at hx⊢;rw[hx,hxy]
     ·have:=ht i hi;rw[List.getElem?_eq_getElem (by omega)]at this;simpa using this
    unfold VC;rw[this];exact⟨rfl,rfl⟩
   ·exact aA
  ·have hxy:y≠x:=by simpa using h2
   refine lZ ?_;refine⟨j+1,⟨by omega,fun i hi=> ?_⟩,by omega, ?_⟩
   ·by_cases hij:i=j
    ·subst hij;rw[hx];simpa using fun e=>hxy e.symm
    ·exact ht i (by omega)
   ·exact aJ
 ·obtain rfl:j=l.length:=by simp at h1;omega
  refine bP ?_;apply aD;exact aE
  ·have:l.findIdx? (· ==y)=none:=by
    rw[List.findIdx?_eq_none_iff];intro x hx;obtain⟨i,hi,rfl⟩:=List.mem_iff_getElem.1 hx;have:=ht i hi;rw[List.getElem?_eq_getElem hi]at this;simpa using this
   unfold VC;rw[this];exact⟨rfl,rfl⟩
  ·exact aA
def wI (c:Nat):Int:=VC [64,127,126] c
def LZ (l:List Nat) (n:Nat) (e:Int):Int×Nat×Int:=
 if(if decide (wI (pY l n e).1<0)=true then((pY l n e).2.2==0)else false)=true then(if wI (pY l n e).1<0 then 0 else wI (pY l n e).1,(pY l n e).2.1,1)else(if wI (pY l n e).1<0 then 0 else wI (pY l n e).1,(pY l n e).2.1,(pY l n e).2.2)
theorem aBN(r:Nat)(l:List Nat)(hl:l.length≤1000000)(hlt:∀x∈l,x<256)(n:Nat)(hn:n≤l.length)(e:Int):SCall Tryz.prog 315 [.ptr r 0] [(r,.box 346 (rv l n e))]
  (fun x σ=>x=.int .i64 (LZ l n e).1∧σ=[(r,.box 346 (rv l (LZ l n e).2.1 (LZ l n e).2.2))]):=by
 refine cC 24 [0,2,3,4,18] Tryz.func315 ?_;unfold rv;refine gX ?_;refine cw [(r,.box 346 (rv l n e))] Tryz.call314 (FW r l hl hlt n hn e) rfl ?_ ?_ ?_
 ·exact aC
 ·exact aA
 rintro _ σ' ⟨rfl,rfl⟩-;refine eR ?_;unfold rv;refine jH ?_;refine eS fun r7 h7=> ?_;intros
 refine lo (aF (E rfl)) rfl ?_;rw[show([[.int .i64 64],[.int .i64 127],[.int .i64 126]]:List (List AV))=[64,127,126].map aR from rfl];refine pu [r7] Tryz.call321 (IR (k:=.any) [64,127,126] ((pY l n e).1:Nat)) rfl ?_ bC ?_
 ·exact aU
 refine cZ ?_;rw[show VC [64,127,126] ((pY l n e).1:Nat)=wI (pY l n e).1 from rfl];refine eU ?_;refine lo (iL (E rfl) (E rfl)) rfl ?_;refine yE ?_;refine z91 ?_;refine z92 ?_;refine z62 ?_;refine z6 ?_;refine z7 ?_;refine jI ?_;refine aB rfl (fun g1=> ?_) (fun g1=> ?_)
 ·refine nP ?_;refine eU ?_;refine lo (XB (E rfl) (E rfl)) rfl ?_;refine cZ ?_;apply aD;exact aE
  ·(unfold LZ;simp only[g1,if_true,if_false,Bool.false_eq_true];exact⟨rfl,rfl⟩)
  ·exact aA
 refine dO ?_;refine lo (XB (E rfl) (E rfl)) rfl ?_;refine cZ ?_;apply aD;exact aE
 ·(unfold LZ;simp only[g1,if_true,if_false,Bool.false_eq_true];exact⟨rfl,rfl⟩)
 ·exact aA
def io (q:Nat) (x:Ins):List AV:=[.int .i64 x.op,.int .i64 x.a,.int .i64 x.b,.own q 0 x.l.length]
def ins0:Ins:=⟨0,0,0,[]⟩
def rW (l:List Nat):Nat→Nat→Int→List Int×Nat×Int
 |0,n,e=>([],n,e)
 |m+1,n,e=>(((rW l m n e).1++ [((gO l 1000 (rW l m n e).2.1 (rW l m n e).2.2).1:Int)]),(gO l 1000 (rW l m n e).2.1 (rW l m n e).2.2).2)
def nG (x:Ins) (n:Nat) (e:Int):Ins×Nat×Int:=if(e !=0)=true then(ins0,0,e)else(x,n,0)
def tP (l:List Nat) (op:Int) (n:Nat) (e:Int):Ins×Nat×Int:=
 if(aW op==2)=true then nG ⟨op,(LZ l n e).1,0,[]⟩ (LZ l n e).2.1 (LZ l n e).2.2
 else if(aW op==3)=true then nG ⟨op,(gO l 1000 n e).1,0,[]⟩ (gO l 1000 n e).2.1 (gO l 1000 n e).2.2
 else if(aW op==5)=true then nG ⟨op,(gO l 1000 n e).1,0,[]⟩ (LX l (gO l 1000 n e).2.1 (gO l 1000 n e).2.2).1 (LX l (gO l 1000 n e).2.1 (gO l 1000 n e).2.2).2
 else if(aW op==4)=true then
  let u:=gO l 50 n e
  let w:=rW l u.1 u.2.1 u.2.2
  let v:=gO l 1000 w.2.1 w.2.2
  nG ⟨op,v.1,0,w.1⟩ v.2.1 v.2.2
 else if(aW op==6)=true then
  let u:=gO l 3 n e
  let v:=gO l 4294967295 u.2.1 u.2.2
  nG ⟨op,u.1,v.1,[]⟩ v.2.1 v.2.2
 else if(aW op==7)=true then nG ⟨op,0,0,[]⟩ (LX l n e).1 (LX l n e).2
 else if(aW op==8)=true then nG ⟨op,(DK l 32 n).1,0,[]⟩ (DK l 32 n).2.1 (DK l 32 n).2.2
 else if(aW op==9)=true then nG ⟨op,(DK l 64 n).1,0,[]⟩ (DK l 64 n).2.1 (DK l 64 n).2.2
 else nG ⟨op,0,0,[]⟩ n e
def fG (l:List Nat):Ins×Nat×Int:=
 if(aW ((pY l 0 0).1:Nat)==0)=true then(ins0,0,1)
 else if((pY l 0 0).2.2 !=0)=true then(ins0,0,(pY l 0 0).2.2)
 else tP l ((pY l 0 0).1:Nat) (pY l 0 0).2.1 (pY l 0 0).2.2
theorem aHM{l:List Nat}{n:Nat}{e:Int}(h:n≤l.length):(pY l n e).2.1≤l.length:=by
 unfold pY;split
 ·exact h
 ·split
  ·exact h
  ·next h1=>simp at h1⊢;omega
theorem MA{l:List Nat}{lim:Int}{n:Nat}{e:Int}(h:n≤l.length):(gO l lim n e).2.1≤l.length:=by
 have h1:=(AL (l.drop n)).2.1;rw[List.length_drop]at h1;unfold gO;repeat' split
 all_goals first|exact h|(simp;omega)
theorem aHN{l:List Nat}{lim:Int}{n:Nat}{e:Int}(h:0≤lim):((gO l lim n e).1:Int)≤lim:=by
 unfold gO;split
 ·exact h
 ·split
  ·exact h
  ·split
   ·exact h
   ·next h1=>simp at h1⊢;omega
theorem aBO{l:List Nat}:∀ {m n:Nat} {e:Int},n≤l.length→(rW l m n e).2.1≤l.length
 |0,_,_,h=>h
 | _ +1,_,_,h=>MA (aBO h)
theorem MB{l:List Nat}:∀ {m n:Nat} {e:Int},(rW l m n e).1.length=m
 |0,_,_=>rfl
 |m+1,n,e=>by rw[rW];simp[MB (m:=m)]
theorem KB(l:List Nat)(hl:l.length≤1000000)(hlt:∀x∈l,x<256):SCall Tryz.prog 298 [.ro 1 (l.map aH) .any] []
  (fun y σ=>∃q,y=.tup [.agg (io q (fG l).1),.int .i64 ((fG l).2.1:Nat),.int .i64 (fG l).2.2]∧σ=[(q,.arr 3 1 ((fG l).1.l.map aR))]):=by
 refine cC 104 [0,2,3,4,5,6,7,18,26,32,33,38,43,50,53,54,55,67,75,79,84,93] Tryz.func298 ?_;refine dG ?_;refine jZ fun r2 h2=> ?_;intros
 refine mK ?_;refine jY ?_;refine iG fun r10 h10=> ?_;intros
 refine iF ?_;refine cw [(r10,.box 346 (rv l (0) (0)))] Tryz.call314 (FW r10 l hl hlt 0 (by omega) 0) rfl ?_ ?_ ?_
 ·exact aC
 ·exact aA
 rintro _ σ' ⟨rfl,rfl⟩-;apply aZ;exact bN;unfold rv;refine jY ?_;refine jZ fun r6 h6=> ?_;intros
 refine nY ?_;refine an ?_;refine cO (ks:=[0,2,3,4,5,6,7,18,26,32,33,38,43,50,53,54,55,67,75,79,84,93]) r6 3 3 1 (by decide) aO rfl (by decide) fun q hq=> ?_
 simp only[aP,aX,and_true]at hq;repeat rcases hq with⟨_,hq⟩
 apply Exists.intro;apply And.intro;exact cJ;refine aI ?_;have hn1:=aHM (l:=l) (n:=0) (e:=0) (by omega);generalize hB:pY l 0 0=bb at*;obtain⟨c,n1,e1⟩:=bb;dsimp only at hn1⊢;rw[show([AV.int .i64 (c:Int),.int .i64 0,.int .i64 0,.ro 0 [] .nil].set 3 (.own q 0 0))=[.int .i64 (c:Int),.int .i64 0,.int .i64 0,.own q 0 0]from rfl];refine nE ?_
 (first|refine ln rfl rfl rfl rfl ?_ |refine lw rfl rfl (bV (v:=.bool false)) rfl ?_ |refine pu [] Tryz.call217 (iN _) rfl cK bC ?_ |refine AB [] rfl rfl Tryz.call217 (fun _=>(iN _)) rfl cK bC ?_ |refine puw [] rfl rfl Tryz.call217 (fun _=>(iN _)) rfl cK bC ?_);refine iF ?_;refine rL ?_;refine aB rfl (fun g1=> ?_) (fun g1=> ?_)
 ·refine aI ?_;have hG:fG l=(ins0,0,1):=by unfold fG;rw[hB];simp only[g1,if_true]
  refine eU ?_;refine qO ?_;refine eU ?_;refine uG ?_;refine fK [(0,true),(1,true),(2,true),(3,true),(4,true),(5,false),(6,true),(7,true)] ?_;refine wC ?_;refine cO (ks:=[0,2,3,4,5,6,7,18,26,32,33,38,43,50,53,54,55,67,75,79,84,93]) r2 3 3 1 (by decide) aO rfl (by decide) fun qz hqz=> ?_
  simp only[aP,aX,and_true]at hqz;repeat rcases hqz with⟨_,hqz⟩
  apply Exists.intro;apply And.intro;exact cJ;refine aI ?_;apply aD;exact aE
  ·rw[hG];exact⟨qz,rfl,rfl⟩
  ·exact aA
 refine dO ?_;refine uG ?_;refine aB rfl (fun g2=> ?_) (fun g2=> ?_)
 ·refine aI ?_;have hG:fG l=(ins0,0,e1):=by unfold fG;rw[hB];simp only[g1,g2,if_true,if_false,Bool.false_eq_true]
  refine fK [(0,true),(1,true),(2,true),(3,true),(4,true),(5,false),(6,true),(7,true)] ?_;refine wC ?_;refine cO (ks:=[0,2,3,4,5,6,7,18,26,32,33,38,43,50,53,54,55,67,75,79,84,93]) r2 3 3 1 (by decide) aO rfl (by decide) fun qz hqz=> ?_
  simp only[aP,aX,and_true]at hqz;repeat rcases hqz with⟨_,hqz⟩
  apply Exists.intro;apply And.intro;exact cJ;refine aI ?_;apply aD;exact aE
  ·rw[hG];exact⟨qz,rfl,rfl⟩
  ·exact aA
 refine dO ?_;refine qS ?_;refine aB rfl (fun g3=> ?_) (fun g3=> ?_)
 ·refine aI ?_;have hG:fG l=nG ⟨(c:Int),(LZ l n1 e1).1,0,[]⟩ (LZ l n1 e1).2.1 (LZ l n1 e1).2.2:=by unfold fG tP;rw[hB];simp only[g1,g2,g3,if_true,if_false,Bool.false_eq_true]
  refine eU ?_;refine cw [(r10,.box 346 (rv l (n1) (e1)))] Tryz.call315 (aBN r10 l hl hlt n1 hn1 e1) rfl ?_ ?_ ?_
  ·exact aC
  ·exact aA
  rintro _ σ' ⟨rfl,rfl⟩-;apply aZ;exact bN;unfold rv;refine oI ?_;refine nB ?_;refine uG ?_;refine aB rfl (fun ge=> ?_) (fun ge=> ?_)
  ·unfold nG at hG;rw[ge]at hG;simp only[if_true]at hG;refine aI ?_;refine fK [(0,true),(1,true),(2,true),(3,true),(4,true),(5,false),(6,true),(7,true)] ?_;refine wC ?_;refine cO (ks:=[0,2,3,4,5,6,7,18,26,32,33,38,43,50,53,54,55,67,75,79,84,93]) r2 3 3 1 (by decide) aO rfl (by decide) fun qz hqz=> ?_
   simp only[aP,aX,and_true]at hqz;repeat rcases hqz with⟨_,hqz⟩
   apply Exists.intro;apply And.intro;exact cJ;refine aI ?_;apply aD;exact aE
   ·rw[hG];exact⟨qz,rfl,rfl⟩
   ·exact aA
  ·unfold nG at hG;rw[ge]at hG;simp only[Bool.false_eq_true,if_false]at hG;refine aI ?_;refine fK [(0,true),(1,true),(2,true),(3,true),(4,true),(5,false),(6,true),(7,true)] ?_;refine UE ?_;refine IN ?_;refine aI ?_;apply aD;exact aE
   ·rw[hG];exact⟨q,rfl,rfl⟩
   ·exact aA
 refine dC ?_;refine aB rfl (fun g4=> ?_) (fun g4=> ?_)
 ·refine aI ?_;have hG:fG l=nG ⟨(c:Int),(gO l 1000 n1 e1).1,0,[]⟩ (gO l 1000 n1 e1).2.1 (gO l 1000 n1 e1).2.2:=by unfold fG tP;rw[hB];simp only[g1,g2,g3,g4,if_true,if_false,Bool.false_eq_true]
  refine eU ?_;refine cw [(r10,.box 346 (rv l (n1) (e1)))] Tryz.call316 (jP r10 l hl hlt 1000 n1 hn1 e1) rfl ?_ ?_ ?_
  ·exact aC
  ·exact aA
  rintro _ σ' ⟨rfl,rfl⟩-;apply aZ;exact bN;unfold rv;refine oI ?_;refine nB ?_;refine uG ?_;refine aB rfl (fun ge=> ?_) (fun ge=> ?_)
  ·unfold nG at hG;rw[ge]at hG;simp only[if_true]at hG;refine aI ?_;refine fK [(0,true),(1,true),(2,true),(3,true),(4,true),(5,false),(6,true),(7,true)] ?_;refine wC ?_;refine cO (ks:=[0,2,3,4,5,6,7,18,26,32,33,38,43,50,53,54,55,67,75,79,84,93]) r2 3 3 1 (by decide) aO rfl (by decide) fun qz hqz=> ?_
   simp only[aP,aX,and_true]at hqz;repeat rcases hqz with⟨_,hqz⟩
   apply Exists.intro;apply And.intro;exact cJ;refine aI ?_;apply aD;exact aE
   ·rw[hG];exact⟨qz,rfl,rfl⟩
   ·exact aA
  ·unfold nG at hG;rw[ge]at hG;simp only[Bool.false_eq_true,if_false]at hG;refine aI ?_;refine fK [(0,true),(1,true),(2,true),(3,true),(4,true),(5,false),(6,true),(7,true)] ?_;refine UE ?_;refine IN ?_;refine aI ?_;apply aD;exact aE
   ·rw[hG];exact⟨q,rfl,rfl⟩
   ·exact aA
 refine dC ?_;refine aB rfl (fun g5=> ?_) (fun g5=> ?_)
 ·refine aI ?_;have hG:fG l=nG ⟨(c:Int),(gO l 1000 n1 e1).1,0,[]⟩ (LX l (gO l 1000 n1 e1).2.1 (gO l 1000 n1 e1).2.2).1 (LX l (gO l 1000 n1 e1).2.1 (gO l 1000 n1 e1).2.2).2:=by unfold fG tP;rw[hB];simp only[g1,g2,g3,g4,g5,if_true,if_false,Bool.false_eq_true]
  have hn2:=MA (lim:=1000) (e:=e1) hn1;refine eU ?_;refine cw [(r10,.box 346 (rv l (n1) (e1)))] Tryz.call316 (jP r10 l hl hlt 1000 n1 hn1 e1) rfl ?_ ?_ ?_
  ·exact aC
  ·exact aA
  rintro _ σ' ⟨rfl,rfl⟩-;apply aZ;exact bN;unfold rv;refine oI ?_;refine jJ ?_;generalize gO l 1000 n1 e1=u at*;obtain⟨a,n2,e2⟩:=u;dsimp only at hn2 hG⊢;refine eU ?_;refine cw [(r10,.box 346 (rv l (n2) (e2)))] Tryz.call317 (RC r10 l hl hlt n2 hn2 e2) rfl ?_ ?_ ?_
  ·exact aC
  ·exact aA
  rintro _ σ' ⟨rfl,rfl⟩-;apply aZ;exact bN;unfold rv;refine jI ?_;refine eU ?_;refine uG ?_;refine aB rfl (fun ge=> ?_) (fun ge=> ?_)
  ·unfold nG at hG;rw[ge]at hG;simp only[if_true]at hG;refine aI ?_;refine fK [(0,true),(1,true),(2,true),(3,true),(4,true),(5,false),(6,true),(7,true)] ?_;refine wC ?_;refine cO (ks:=[0,2,3,4,5,6,7,18,26,32,33,38,43,50,53,54,55,67,75,79,84,93]) r2 3 3 1 (by decide) aO rfl (by decide) fun qz hqz=> ?_
   simp only[aP,aX,and_true]at hqz;repeat rcases hqz with⟨_,hqz⟩
   apply Exists.intro;apply And.intro;exact cJ;refine aI ?_;apply aD;exact aE
   ·rw[hG];exact⟨qz,rfl,rfl⟩
   ·exact aA
  ·unfold nG at hG;rw[ge]at hG;simp only[Bool.false_eq_true,if_false]at hG;refine aI ?_;refine fK [(0,true),(1,true),(2,true),(3,true),(4,true),(5,false),(6,true),(7,true)] ?_;refine UE ?_;refine IN ?_;refine aI ?_;apply aD;exact aE
   ·rw[hG];exact⟨q,rfl,rfl⟩
   ·exact aA
 refine dC ?_;refine aB rfl (fun g6=> ?_) (fun g6=> ?_)
 ·refine aI ?_;have hG:fG l=nG ⟨(c:Int),(gO l 1000 (rW l (gO l 50 n1 e1).1 (gO l 50 n1 e1).2.1 (gO l 50 n1 e1).2.2).2.1 (rW l (gO l 50 n1 e1).1 (gO l 50 n1 e1).2.1 (gO l 50 n1 e1).2.2).2.2).1,0,(rW l (gO l 50 n1 e1).1 (gO l 50 n1 e1).2.1 (gO l 50 n1 e1).2.2).1⟩ (gO l 1000 (rW l (gO l 50 n1 e1).1 (gO l 50 n1 e1).2.1 (gO l 50 n1 e1).2.2).2.1 (rW l (gO l 50 n1 e1).1 (gO l 50 n1 e1).2.1 (gO l 50 n1 e1).2.2).2.2).2.1 (gO l 1000 (rW l (gO l 50 n1 e1).1 (gO l 50 n1 e1).2.1 (gO l 50 n1 e1).2.2).2.1 (rW l (gO l 50 n1 e1).1 (gO l 50 n1 e1).2.1 (gO l 50 n1 e1).2.2).2.2).2.2:=by unfold fG tP;rw[hB];simp only[g1,g2,g3,g4,g5,g6,if_true,if_false,Bool.false_eq_true]
  have hn2:=MA (lim:=50) (e:=e1) hn1;have hm50:=aHN (l:=l) (lim:=50) (n:=n1) (e:=e1) (by omega);refine eU ?_;refine cw [(r10,.box 346 (rv l (n1) (e1)))] Tryz.call316 (jP r10 l hl hlt 50 n1 hn1 e1) rfl ?_ ?_ ?_
  ·exact aC
  ·exact aA
  rintro _ σ' ⟨rfl,rfl⟩-;apply aZ;exact bN;unfold rv;refine QO ?_;generalize gO l 50 n1 e1=u at*;obtain⟨m,n2,e2⟩:=u;dsimp only at hn2 hm50 hG⊢;refine lp (β:=Nat×Nat) (fun b=>⟨[(2,.ptr r2 0),(5,.ptr r10 0),(6,.ptr r6 0),(53,.int .i64 m),(54,.int .i64 b.2)],[(b.1,.arr 3 1 ((rW l b.2 n2 e2).1.map aR)),(r6,.box 46 [.int .i64 c,.int .i64 0,.int .i64 0,.own b.1 0 (rW l b.2 n2 e2).1.length]),(r10,.box 346 (rv l (rW l b.2 n2 e2).2.1 (rW l b.2 n2 e2).2.2)),(r2,.box 46 [.int .i64 0,.int .i64 0,.int .i64 0,.ro 0 [] .nil])]⟩) (fun b=>(Nq b.1 r6∧Nq b.1 r10∧Nq b.1 r2)∧b.2≤m) (fun b=>m-b.2) (q,0) (by(exact aJ)) ⟨⟨by(exact bA),by(exact bA),by(exact bA)⟩,Nat.zero_le _⟩ ?_;rintro⟨p,j⟩ ⟨⟨hp1,hp2,hp3⟩,hj⟩;dsimp only at hp1 hp2 hp3 hj⊢;have hn3:=aBO (m:=j) (e:=e2) hn2;have hlen:=MB (l:=l) (m:=j) (n:=n2) (e:=e2);have hstep:rW l (j+1) n2 e2=(((rW l j n2 e2).1++ [((gO l 1000 (rW l j n2 e2).2.1 (rW l j n2 e2).2.2).1:Int)]),(gO l 1000 (rW l j n2 e2).2.1 (rW l j n2 e2).2.2).2):=rfl;generalize hW:rW l j n2 e2=w at hn3 hlen hstep⊢;obtain⟨L,n3,e3⟩:=w;dsimp only at hn3 hlen hstep⊢;unfold rv;refine jL ?_;refine aB rfl (fun h1=> ?_) (fun h1=> ?_)
  ·have hlt2:j<m:=by simp at h1;omega
   refine aI ?_;refine fK [(0,true),(1,true),(2,true),(3,false),(4,false),(5,false),(6,true),(7,false)] ?_;refine fZ ?_;refine fY rfl (aF (E rfl)) rfl ?_;refine sD [(r10,.box 346 (rv l n3 e3))] rfl Tryz.call316 (jP r10 l hl hlt 1000 n3 hn3 e3) rfl ?_ ?_ ?_ ?_
   ·exact aC
   ·exact aA
   ·exact fS
   rintro _ σ' ⟨rfl,rfl⟩-;apply bZ;exact bN;unfold rv;generalize gO l 1000 n3 e3=u at hstep⊢;obtain⟨v,n4,e4⟩:=u;dsimp only at hstep⊢;refine CA fun r60 h60=> ?_;intros
   apply dap (es':=(L++ [(v:Int)]).map aR) (len':=(L++ [(v:Int)]).length);rfl;infer_instance;infer_instance;rfl;rfl;exact aO
   ·simp
   ·exact .inr (.inr ⟨_,_,_,_,_,rfl,aO,by simp,rfl⟩)
   ·simp[aR]
   ·simp
   ·simp[maxLen];omega
   ·simp;omega
   ·rfl
   ·exact fS
   refine bL fun r61 h61=> ?_;intros
   refine nC ?_;refine yR ?_;refine lZ ?_;refine⟨(r61,j+1),⟨⟨by show Nq r61 r6;(exact bA),by show Nq r61 r10;(exact bA),by show Nq r61 r2;(exact bA)⟩,hlt2⟩,by show m-(j+1)<m-j;omega, ?_⟩;dsimp only;rw[hstep];exact aJ
  ·obtain rfl:j=m:=by simp at h1;omega
   rw[hW]at hG;dsimp only at hG;refine dO ?_;refine cw [(r10,.box 346 (rv l (n3) (e3)))] Tryz.call316 (jP r10 l hl hlt 1000 n3 hn3 e3) rfl ?_ ?_ ?_
   ·exact aC
   ·exact aA
   rintro _ σ' ⟨rfl,rfl⟩-;apply aZ;exact bN;unfold rv;refine oI ?_;refine nB ?_;refine uG ?_;refine aB rfl (fun ge=> ?_) (fun ge=> ?_)
   ·unfold nG at hG;rw[ge]at hG;simp only[if_true]at hG;refine aI ?_;refine fK [(0,true),(1,true),(2,true),(3,true),(4,true),(5,false),(6,true),(7,true)] ?_;refine wC ?_;refine cO (ks:=[0,2,3,4,5,6,7,18,26,32,33,38,43,50,53,54,55,67,75,79,84,93]) r2 3 3 1 (by decide) aO rfl (by decide) fun qz hqz=> ?_
    simp only[aP,aX,and_true]at hqz;repeat rcases hqz with⟨_,hqz⟩
    apply Exists.intro;apply And.intro;exact cJ;refine aI ?_;apply aD;exact aE
    ·rw[hG];exact⟨qz,rfl,rfl⟩
    ·exact aA
   ·unfold nG at hG;rw[ge]at hG;simp only[Bool.false_eq_true,if_false]at hG;refine aI ?_;refine fK [(0,true),(1,true),(2,true),(3,true),(4,true),(5,false),(6,true),(7,true)] ?_;refine UE ?_;refine IN ?_;refine aI ?_;apply aD;exact aE
    ·rw[hG];exact⟨p,rfl,rfl⟩
    ·exact aA
 refine dC ?_;refine aB rfl (fun g7=> ?_) (fun g7=> ?_)
 ·refine aI ?_;have hG:fG l=nG ⟨(c:Int),(gO l 3 n1 e1).1,(gO l 4294967295 (gO l 3 n1 e1).2.1 (gO l 3 n1 e1).2.2).1,[]⟩ (gO l 4294967295 (gO l 3 n1 e1).2.1 (gO l 3 n1 e1).2.2).2.1 (gO l 4294967295 (gO l 3 n1 e1).2.1 (gO l 3 n1 e1).2.2).2.2:=by unfold fG tP;rw[hB];simp only[g1,g2,g3,g4,g5,g6,g7,if_true,if_false,Bool.false_eq_true]
  have hn2:=MA (lim:=3) (e:=e1) hn1;refine eU ?_;refine cw [(r10,.box 346 (rv l (n1) (e1)))] Tryz.call316 (jP r10 l hl hlt 3 n1 hn1 e1) rfl ?_ ?_ ?_
  ·exact aC
  ·exact aA
  rintro _ σ' ⟨rfl,rfl⟩-;apply aZ;exact bN;unfold rv;refine oI ?_;refine jJ ?_;generalize gO l 3 n1 e1=u at*;obtain⟨a,n2,e2⟩:=u;dsimp only at hn2 hG⊢;refine eU ?_;refine cw [(r10,.box 346 (rv l (n2) (e2)))] Tryz.call316 (jP r10 l hl hlt 4294967295 n2 hn2 e2) rfl ?_ ?_ ?_
  ·exact aC
  ·exact aA
  rintro _ σ' ⟨rfl,rfl⟩-;apply aZ;exact bN;unfold rv;refine oI ?_;refine nB ?_;refine uG ?_;refine aB rfl (fun ge=> ?_) (fun ge=> ?_)
  ·unfold nG at hG;rw[ge]at hG;simp only[if_true]at hG;refine aI ?_;refine fK [(0,true),(1,true),(2,true),(3,true),(4,true),(5,false),(6,true),(7,true)] ?_;refine wC ?_;refine cO (ks:=[0,2,3,4,5,6,7,18,26,32,33,38,43,50,53,54,55,67,75,79,84,93]) r2 3 3 1 (by decide) aO rfl (by decide) fun qz hqz=> ?_
   simp only[aP,aX,and_true]at hqz;repeat rcases hqz with⟨_,hqz⟩
   apply Exists.intro;apply And.intro;exact cJ;refine aI ?_;apply aD;exact aE
   ·rw[hG];exact⟨qz,rfl,rfl⟩
   ·exact aA
  ·unfold nG at hG;rw[ge]at hG;simp only[Bool.false_eq_true,if_false]at hG;refine aI ?_;refine fK [(0,true),(1,true),(2,true),(3,true),(4,true),(5,false),(6,true),(7,true)] ?_;refine UE ?_;refine IN ?_;refine aI ?_;apply aD;exact aE
   ·rw[hG];exact⟨q,rfl,rfl⟩
   ·exact aA
 refine dC ?_;refine aB rfl (fun g8=> ?_) (fun g8=> ?_)
 ·refine aI ?_;have hG:fG l=nG ⟨(c:Int),0,0,[]⟩ (LX l n1 e1).1 (LX l n1 e1).2:=by unfold fG tP;rw[hB];simp only[g1,g2,g3,g4,g5,g6,g7,g8,if_true,if_false,Bool.false_eq_true]
  refine eU ?_;refine cw [(r10,.box 346 (rv l (n1) (e1)))] Tryz.call317 (RC r10 l hl hlt n1 hn1 e1) rfl ?_ ?_ ?_
  ·exact aC
  ·exact aA
  rintro _ σ' ⟨rfl,rfl⟩-;apply aZ;exact bN;unfold rv;refine jI ?_;refine eU ?_;refine uG ?_;refine aB rfl (fun ge=> ?_) (fun ge=> ?_)
  ·unfold nG at hG;rw[ge]at hG;simp only[if_true]at hG;refine aI ?_;refine fK [(0,true),(1,true),(2,true),(3,true),(4,true),(5,false),(6,true),(7,true)] ?_;refine wC ?_;refine cO (ks:=[0,2,3,4,5,6,7,18,26,32,33,38,43,50,53,54,55,67,75,79,84,93]) r2 3 3 1 (by decide) aO rfl (by decide) fun qz hqz=> ?_
   simp only[aP,aX,and_true]at hqz;repeat rcases hqz with⟨_,hqz⟩
   apply Exists.intro;apply And.intro;exact cJ;refine aI ?_;apply aD;exact aE
   ·rw[hG];exact⟨qz,rfl,rfl⟩
   ·exact aA
  ·unfold nG at hG;rw[ge]at hG;simp only[Bool.false_eq_true,if_false]at hG;refine aI ?_;refine fK [(0,true),(1,true),(2,true),(3,true),(4,true),(5,false),(6,true),(7,true)] ?_;refine UE ?_;refine IN ?_;refine aI ?_;apply aD;exact aE
   ·rw[hG];exact⟨q,rfl,rfl⟩
   ·exact aA
 refine dC ?_;refine aB rfl (fun g9=> ?_) (fun g9=> ?_)
 ·refine aI ?_;have hG:fG l=nG ⟨(c:Int),(DK l 32 n1).1,0,[]⟩ (DK l 32 n1).2.1 (DK l 32 n1).2.2:=by unfold fG tP;rw[hB];simp only[g1,g2,g3,g4,g5,g6,g7,g8,g9,if_true,if_false,Bool.false_eq_true]
  refine eU ?_;refine cw [(r10,.box 346 (rv l (n1) (e1)))] Tryz.call318 (FX r10 l hl hlt 32 (.inl rfl) n1 hn1 e1) rfl ?_ ?_ ?_
  ·exact aC
  ·exact aA
  rintro _ σ' ⟨rfl,rfl⟩-;apply aZ;exact bN;unfold rv;refine oI ?_;refine nB ?_;refine uG ?_;refine aB rfl (fun ge=> ?_) (fun ge=> ?_)
  ·unfold nG at hG;rw[ge]at hG;simp only[if_true]at hG;refine aI ?_;refine fK [(0,true),(1,true),(2,true),(3,true),(4,true),(5,false),(6,true),(7,true)] ?_;refine wC ?_;refine cO (ks:=[0,2,3,4,5,6,7,18,26,32,33,38,43,50,53,54,55,67,75,79,84,93]) r2 3 3 1 (by decide) aO rfl (by decide) fun qz hqz=> ?_
   simp only[aP,aX,and_true]at hqz;repeat rcases hqz with⟨_,hqz⟩
   apply Exists.intro;apply And.intro;exact cJ;refine aI ?_;apply aD;exact aE
   ·rw[hG];exact⟨qz,rfl,rfl⟩
   ·exact aA
  ·unfold nG at hG;rw[ge]at hG;simp only[Bool.false_eq_true,if_false]at hG;refine aI ?_;refine fK [(0,true),(1,true),(2,true),(3,true),(4,true),(5,false),(6,true),(7,true)] ?_;refine UE ?_;refine IN ?_;refine aI ?_;apply aD;exact aE
   ·rw[hG];exact⟨q,rfl,rfl⟩
   ·exact aA
 refine dC ?_;refine aB rfl (fun g10=> ?_) (fun g10=> ?_)
 ·refine aI ?_;have hG:fG l=nG ⟨(c:Int),(DK l 64 n1).1,0,[]⟩ (DK l 64 n1).2.1 (DK l 64 n1).2.2:=by unfold fG tP;rw[hB];simp only[g1,g2,g3,g4,g5,g6,g7,g8,g9,g10,if_true,if_false,Bool.false_eq_true]
  refine eU ?_;refine cw [(r10,.box 346 (rv l (n1) (e1)))] Tryz.call318 (FX r10 l hl hlt 64 (.inr rfl) n1 hn1 e1) rfl ?_ ?_ ?_
  ·exact aC
  ·exact aA
  rintro _ σ' ⟨rfl,rfl⟩-;apply aZ;exact bN;unfold rv;refine oI ?_;refine nB ?_;refine uG ?_;refine aB rfl (fun ge=> ?_) (fun ge=> ?_)
  ·unfold nG at hG;rw[ge]at hG;simp only[if_true]at hG;refine aI ?_;refine fK [(0,true),(1,true),(2,true),(3,true),(4,true),(5,false),(6,true),(7,true)] ?_;refine wC ?_;refine cO (ks:=[0,2,3,4,5,6,7,18,26,32,33,38,43,50,53,54,55,67,75,79,84,93]) r2 3 3 1 (by decide) aO rfl (by decide) fun qz hqz=> ?_
   simp only[aP,aX,and_true]at hqz;repeat rcases hqz with⟨_,hqz⟩
   apply Exists.intro;apply And.intro;exact cJ;refine aI ?_;apply aD;exact aE
   ·rw[hG];exact⟨qz,rfl,rfl⟩
   ·exact aA
  ·unfold nG at hG;rw[ge]at hG;simp only[Bool.false_eq_true,if_false]at hG;refine aI ?_;refine fK [(0,true),(1,true),(2,true),(3,true),(4,true),(5,false),(6,true),(7,true)] ?_;refine UE ?_;refine IN ?_;refine aI ?_;apply aD;exact aE
   ·rw[hG];exact⟨q,rfl,rfl⟩
   ·exact aA
 refine aI ?_;have hG:fG l=nG ⟨(c:Int),0,0,[]⟩ n1 e1:=by unfold fG tP;rw[hB];simp only[g1,g2,g3,g4,g5,g6,g7,g8,g9,g10,if_true,if_false,Bool.false_eq_true]
 refine eU ?_;refine uG ?_;refine aB rfl (fun ge=> ?_) (fun ge=> ?_)
 ·unfold nG at hG;rw[ge]at hG;simp only[if_true]at hG;refine aI ?_;refine fK [(0,true),(1,true),(2,true),(3,true),(4,true),(5,false),(6,true),(7,true)] ?_;refine wC ?_;refine cO (ks:=[0,2,3,4,5,6,7,18,26,32,33,38,43,50,53,54,55,67,75,79,84,93]) r2 3 3 1 (by decide) aO rfl (by decide) fun qz hqz=> ?_
  simp only[aP,aX,and_true]at hqz;repeat rcases hqz with⟨_,hqz⟩
  apply Exists.intro;apply And.intro;exact cJ;refine aI ?_;apply aD;exact aE
  ·rw[hG];exact⟨qz,rfl,rfl⟩
  ·exact aA
 ·unfold nG at hG;rw[ge]at hG;simp only[Bool.false_eq_true,if_false]at hG;refine aI ?_;refine fK [(0,true),(1,true),(2,true),(3,true),(4,true),(5,false),(6,true),(7,true)] ?_;refine UE ?_;refine IN ?_;refine aI ?_;apply aD;exact aE
  ·rw[hG];exact⟨q,rfl,rfl⟩
  ·exact aA
end Go.Proofs.YtjpdadobblffmaaGreat
namespace Go.Proofs.YtjpdadobblffmaaGreat
open Go.RowKit Go.ChangeShapes Go.WideShapes Go.ChangeAt Go.Deep
theorem aBP(c:Nat):wI c=if c=64 then 0 else if c=127 then 1 else if c=126 then 2 else-1:=by
 by_cases h1:c=64
 ·subst h1;decide
 by_cases h2:c=127
 ·subst h2;decide
 by_cases h3:c=126
 ·subst h3;decide
 rw[if_neg h1,if_neg h2,if_neg h3];unfold wI VC;have:([64,127,126]:List Int).findIdx? (· ==(c:Int))=none:=by
  rw[List.findIdx?_eq_none_iff];intro x hx;simp at hx;rcases hx with rfl|rfl|rfl<;>simp<;>omega
 rw[this]
theorem AO{l p r:List Nat}{n:Nat}(h:l.drop n=p++r):l.drop (n+p.length)=r:=by
 rw[←List.drop_drop,h,List.drop_left]
theorem VD{l r:List Nat}{n b:Nat}(h:l.drop n=b::r):pY l n 0=(b,n+1,0):=by
 have hn:n<l.length:=by
  by_cases hc:n<l.length
  ·exact hc
  ·rw[List.drop_of_length_le (by omega)]at h;cases h
 have hb:l[n]! =b:=by
  rw[getElem!_pos l n hn];rw[List.drop_eq_getElem_cons hn]at h;exact(List.cons.inj h).1
 unfold pY;rw[if_neg (by simp),if_neg (by simp;omega),hb]
theorem aBQ{l r:List Nat}{n:Nat}(h:l.drop n=0::r):LX l n 0=(n+1,0):=by
 unfold LX;rw[VD h,if_neg (by simp)]
theorem zA{l r:List Nat}{n v:Nat}{lim:Int}(h:l.drop n=uB v++r)(h1:v<4294967296)(h2:(v:Int)≤lim):gO l lim n 0=(v,n+(uB v).length,0):=by
 unfold gO;rw[h,XG h1,if_neg (by simp),if_neg (by simp),if_neg (by simp;omega)]
theorem aBR{l r:List Nat}{n bits:Nat}(hb:bits=32∨bits=64){v:Int}(h:l.drop n=sB v++r)(h1:-9223372036854775808≤v)(h2:v≤9223372036854775807)(h3:bits=32→ -2147483648≤v∧v≤2147483647):DK l bits n=(v,n+(sB v).length,0):=by
 unfold DK;rw[h,aEb hb h1 h2 h3]
theorem aBS{l r:List Nat}{n:Nat}{L:List Int}(h:l.drop n=(L.flatMap fun z=>uB z.toNat)++r)(hL:∀z∈L,0≤z∧z≤1000):∀m,m≤L.length→rW l m n 0=(L.take m,n+((L.take m).flatMap fun z=>uB z.toNat).length,0)
 |0,_=>by simp[rW]
 |m+1,hm=>by
  have ih:=aBS h hL m (by omega);obtain⟨y,hy⟩:∃y,L[m]? =some y:=⟨_,List.getElem?_eq_getElem (by omega)⟩
  obtain⟨hy0,hy1⟩:=hL y (List.mem_of_getElem? hy);obtain⟨z,rfl⟩:=Int.eq_ofNat_of_zero_le hy0;have hd:l.drop (n+((L.take m).flatMap fun z=>uB z.toNat).length)=uB z++(((L.drop (m+1)).flatMap fun z=>uB z.toNat)++r):=by
   refine AO ?_;rw[h,←List.append_assoc,←List.append_assoc]
   congr 1
   have:L=L.take m++(z:Int)::L.drop (m+1):=by
    rw[List.getElem?_eq_getElem (by omega)]at hy;rw[←Option.some.inj hy,←List.drop_eq_getElem_cons (by omega),List.take_append_drop]
   conv=>lhs;rw[this]
   simp[List.flatMap_append]
  rw[rW,ih];dsimp only;rw[zA hd (by omega) hy1,List.take_add_one,hy];simp[List.flatMap_append,Nat.add_assoc]
theorem aMn{x:Ins}(h:dB x=true)(hf:(aW x.op==8)=true):-2147483648≤x.a∧x.a≤2147483647:=by
 rw[beq_iff_eq]at hf;simp[dB,hf,kG]at h;omega
theorem aGH{x:Ins}(h:dB x=true)(hf:(aW x.op==1||aW x.op==7)=true):x.a=0:=by
 unfold dB at h;split at h
 ·cases h
 ·first|(rw[if_pos hf]at h;simpa using h)|simpa using h
theorem aGI{x:Ins}(h:dB x=true)(hf:aW x.op≠6):x.b=0:=by
 unfold dB at h;split at h
 ·cases h
 ·next hp=>
  have h6:(aW x.op !=6)=true:=by simpa using hf
  unfold jD at hp;rw[if_pos h6]at hp;split at hp
  ·simp at hp;exact hp.2
  ·simpa using hp
theorem aGJ{x:Ins}(h:dB x=true)(hf:aW x.op≠4):x.l=[]:=by
 unfold dB at h;split at h
 ·cases h
 ·next hp=>
  have h4:(aW x.op !=4)=true:=by simpa using hf
  unfold jD at hp;rw[if_pos h4]at hp;split at hp
  ·simp at hp
  ·next hq=>simpa using hq
theorem MC{x:Ins}(hx:x.Ok)(h:dB x=true)(rest:List Nat):fG (gG x++rest)=(x,(gG x).length,0):=by
 have f1:=LW h;have f2:=aHL h;have f3:=aEk h;have f4:=aEm h;have f5:=aEl h;have f6:=aEn h;have f8:=aMn h;have f17:=aGH h;have fb:=aGI h;have fl:=aGJ h;have f9:-9223372036854775808≤x.a∧x.a≤9223372036854775807:=⟨hx.2.2.1,hx.2.2.2.1⟩
 have f0:(aW x.op==0)=false:=by
  by_cases h0:aW x.op=0
  ·rw[RB h0]at h;cases h
  ·simpa using h0
 obtain⟨op,a,b,L⟩:=x;dsimp only at f1 f2 f3 f4 f5 f6 f8 f9 f17 fb fl f0;obtain⟨op,rfl⟩:=Int.eq_ofNat_of_zero_le f1.1;have hp0:gG ⟨(op:Int),a,b,L⟩=op::fT ⟨(op:Int),a,b,L⟩:=rfl;obtain⟨l,hl⟩:∃l,l=gG ⟨(op:Int),a,b,L⟩++rest:=⟨_,rfl⟩
 rw[←hl];have hB:pY l 0 0=(op,1,0):=VD (r:=fT ⟨(op:Int),a,b,L⟩++rest) (by rw[hl,hp0];rfl);have h1:l.drop 1=fT ⟨(op:Int),a,b,L⟩++rest:=by rw[hl,hp0];rfl
 unfold fG;rw[hB,hp0];dsimp only;rw[f0];simp only[Bool.false_eq_true,if_false,bne_self_eq_false];unfold tP;unfold fT at h1⊢;by_cases g2:(aW (op:Int)==2)=true
 ·simp only[g2,if_true]at h1⊢;obtain⟨k1,k2⟩:=f2 g2;have e2:aW (op:Int)=2:=by simpa using g2
  obtain rfl:=fb (by omega);obtain rfl:=fl (by omega);have hk:LZ l 1 0=(a,2,0):=by
   unfold LZ;rw[VD h1,aBP];have:a=0∨a=1∨a=2:=by omega
   rcases this with rfl|rfl|rfl<;>rfl
  rw[hk];rfl
 simp only[g2,Bool.false_eq_true,if_false]at h1⊢;by_cases g3:(aW (op:Int)==3)=true
 ·simp only[g3,if_true]at h1⊢;obtain⟨k1,k2⟩:=f3 g3;have e2:aW (op:Int)=3:=by simpa using g3
  obtain rfl:=fb (by omega);obtain rfl:=fl (by omega);obtain⟨a,rfl⟩:=Int.eq_ofNat_of_zero_le k1;rw[Int.toNat_natCast]at h1⊢;rw[zA h1 (by omega) k2];simp[nG,Nat.add_comm]
 simp only[g3,Bool.false_eq_true,if_false]at h1⊢;by_cases g5:(aW (op:Int)==5)=true
 ·simp only[g5,if_true]at h1⊢;obtain⟨k1,k2⟩:=f5 g5;have e2:aW (op:Int)=5:=by simpa using g5
  obtain rfl:=fb (by omega);obtain rfl:=fl (by omega);obtain⟨a,rfl⟩:=Int.eq_ofNat_of_zero_le k1;rw[Int.toNat_natCast]at h1⊢;rw[List.append_assoc]at h1;rw[zA h1 (by omega) k2];dsimp only;rw[aBQ (AO h1)];simp[nG];omega
 simp only[g5,Bool.false_eq_true,if_false]at h1⊢;by_cases g4:(aW (op:Int)==4)=true
 ·simp only[g4,if_true]at h1⊢;obtain⟨⟨k1,k2⟩,k3,k4⟩:=f4 g4;have e2:aW (op:Int)=4:=by simpa using g4
  obtain rfl:=fb (by omega);obtain⟨a,rfl⟩:=Int.eq_ofNat_of_zero_le k1;rw[Int.toNat_natCast]at h1⊢;rw[List.append_assoc,List.append_assoc]at h1;have h2:=AO h1;rw[zA h1 (by omega) (by omega)];dsimp only;rw[aBS h2 k4 L.length (Nat.le_refl _),List.take_length];dsimp only;rw[zA (AO h2) (by omega) k2];simp[nG];omega
 simp only[g4,Bool.false_eq_true,if_false]at h1⊢;have e4:aW (op:Int)≠4:=by simpa using g4
 obtain rfl:=fl e4;by_cases g6:(aW (op:Int)==6)=true
 ·simp only[g6,if_true]at h1⊢;obtain⟨k1,k2,k3,k4⟩:=f6 g6;obtain⟨a,rfl⟩:=Int.eq_ofNat_of_zero_le k1;obtain⟨b,rfl⟩:=Int.eq_ofNat_of_zero_le k3;rw[Int.toNat_natCast,Int.toNat_natCast]at h1⊢;rw[List.append_assoc]at h1;rw[zA h1 (by omega) k2];dsimp only;rw[zA (AO h1) (by omega) k4];simp[nG];omega
 simp only[g6,Bool.false_eq_true,if_false]at h1⊢;have e6:aW (op:Int)≠6:=by simpa using g6
 obtain rfl:=fb e6;by_cases g7:(aW (op:Int)==7)=true
 ·simp only[g7,if_true]at h1⊢;obtain rfl:=f17 (by rw[g7];simp);rw[aBQ h1];simp[nG]
 simp only[g7,Bool.false_eq_true,if_false]at h1⊢;by_cases g8:(aW (op:Int)==8)=true
 ·simp only[g8,Bool.true_or,if_true]at h1⊢;obtain⟨k1,k2⟩:=f8 g8;rw[aBR (.inl rfl) h1 f9.1 f9.2 (fun _=>⟨k1,k2⟩)];simp[nG,Nat.add_comm]
 simp only[g8,Bool.false_eq_true,if_false]at h1⊢;by_cases g9:(aW (op:Int)==9)=true
 ·simp only[g9,Bool.or_true,if_true]at h1⊢;rw[aBR (.inr rfl) h1 f9.1 f9.2 (fun hc=>by cases hc)];simp[nG,Nat.add_comm]
 simp only[g9,Bool.or_false,Bool.false_eq_true,if_false]at h1⊢;have ha:a=0:=by
  by_cases g1:aW (op:Int)=1
  ·exact f17 (by rw[g1];rfl)
  ·exfalso;have:dB ⟨(op:Int),a,0,[]⟩=false:=by
    unfold dB;have g1':(aW (op:Int)==1)=false:=by simpa using g1
    simp[g1',g2,g3,g4,g5,g6,g7,g8,g9]
   rw[this]at h;cases h
 subst ha;simp[nG]
end Go.Proofs.YtjpdadobblffmaaGreat
namespace Go.Proofs.YtjpdadobblffmaaGreat
open Go.RowKit Go.ChangeShapes Go.WideShapes Go.ChangeAt Go.Deep
attribute [local irreducible] SW RS RD fH eH
theorem aAb(l:List Nat)(hl:l.length≤maxLen)(n:Nat):SCall Tryz.prog 55 [.ro 1 (l.map aH) .any,.int .i64 n] [] (fun x σ=>x=.ro 1 ((l.take n).map aH) .any∧σ=[]):=by
 unfold maxLen at hl;refine cC 13 [0,1,4,8] Tryz.func55 ?_;refine uL ?_;refine sN ?_;refine aB rfl (fun g1=> ?_) (fun g1=> ?_)
 ·refine aI ?_;have h2:=of_decide_eq_true g1;refine kL ?_;refine aD1 ?_;refine cZ ?_;apply aD;exact aE
  ·(first|(have h1:=of_decide_eq_false g1;rw[List.take_of_length_le (by omega)];exact⟨rfl,rfl⟩)|(rw[List.map_take];exact⟨by simp[gC],rfl⟩))
  ·exact aA
 refine fF ?_;apply aD;exact aE
 ·(first|(have h1:=of_decide_eq_false g1;rw[List.take_of_length_le (by omega)];exact⟨rfl,rfl⟩)|(rw[List.map_take];exact⟨by simp[gC],rfl⟩))
 ·exact aA
def VE (x:Ins):Ins:=⟨x.op,x.a,x.b,x.l.take 55⟩
theorem aEp(x:Ins)(hx:x.l.length≤maxLen):SCall Tryz.prog 81 [.agg (iv .any x)] [] (fun y σ=>∃q,y=.agg (io q (VE x))∧σ=[(q,.arr 3 1 ((VE x).l.map aR))]):=by
 unfold maxLen at hx;refine cC 34 [0,1,2,3,4,20] Tryz.func81 ?_;unfold iv;refine dG ?_;refine iG fun r1 h1=> ?_;intros
 refine jZ fun r2 h2=> ?_;intros
 refine kU ?_;refine fE ?_;refine oO ?_;refine oO ?_;refine jY ?_;refine jZ fun r3 h3=> ?_;intros
 refine nY ?_;refine an ?_;refine cO (ks:=[0,1,2,3,4,20]) r3 3 3 1 (by decide) aO rfl (by decide) fun q hq=> ?_
 simp only[aP,aX,and_true]at hq;repeat rcases hq with⟨_,hq⟩
 apply Exists.intro;apply And.intro;exact cJ;refine bP ?_;refine lp (β:=Nat×Nat) (fun b=>⟨[(1,.ptr r1 0),(2,.ptr r2 0),(3,.ptr r3 0),(4,.int .i64 b.2)],[(b.1,.arr 3 1 ((x.l.take b.2).map aR)),(r3,.box 46 [.int .i64 x.op,.int .i64 x.a,.int .i64 x.b,.own b.1 0 (x.l.take b.2).length]),(r2,.box 46 [.int .i64 0,.int .i64 0,.int .i64 0,.ro 0 [] .nil]),(r1,.box 46 [.int .i64 x.op,.int .i64 x.a,.int .i64 x.b,.ro 1 (x.l.map aR) .any])]⟩) (fun b=>(Nq b.1 r3∧Nq b.1 r2∧Nq b.1 r1)∧b.2≤x.l.length∧b.2≤55) (fun b=>55-b.2) (q,0) (by(exact aJ)) ⟨⟨by(exact bA),by(exact bA),by(exact bA)⟩,by omega,by omega⟩ ?_;rintro⟨p,j⟩ ⟨⟨hp1,hp2,hp3⟩,hj,hj5⟩;dsimp only at hp1 hp2 hp3 hj hj5⊢;refine LQ ?_;refine lo (iL (E rfl) (E rfl)) rfl ?_;refine yE ?_;refine z69 ?_;refine z7 ?_;refine jI ?_;refine aB rfl (fun h1=> ?_) (fun h1=> ?_)
 ·have hlt:j<x.l.length∧j<55:=by simp at h1;omega
  obtain⟨hlt,hlt5⟩:=hlt;obtain⟨y,hy⟩:∃y,x.l[j]? =some y:=⟨_,List.getElem?_eq_getElem hlt⟩
  have hn:x.l.take (j+1)=x.l.take j++ [y]:=by rw[List.take_add_one,hy];rfl
  have hlj:(x.l.take j).length=j:=by simp;omega
  refine aI ?_;refine fK [(0,true),(1,true),(2,true),(3,true),(4,true),(5,true),(6,true),(7,false),(8,false),(9,true),(10,false)] ?_;refine fZ ?_;refine ZP ?_;refine JP ?_;refine CA fun r30 h30=> ?_;intros
  apply dap (es':=(x.l.take j++ [y]).map aR) (len':=(x.l.take j++ [y]).length);rfl;infer_instance;infer_instance;rfl;rfl;exact aO
  ·simp
  ·exact .inr (.inr ⟨_,_,_,_,_,rfl,aO,by simp,rfl⟩)
  ·simp[aR]
  ·simp
  ·simp[maxLen];omega
  ·simp;omega
  ·rfl
  ·exact fS
  refine bL fun r31 h31=> ?_;intros
  refine nC ?_;refine yR ?_;refine lI ?_;refine⟨(r31,j+1),⟨⟨by show Nq r31 r3;(exact bA),by show Nq r31 r2;(exact bA),by show Nq r31 r1;(exact bA)⟩,hlt,hlt5⟩,by show 55-(j+1)<55-j;omega, ?_⟩;dsimp only;rw[hn];exact aJ
 ·have he:x.l.take j=x.l.take 55:=by
   have:j=x.l.length∨j=55:=by simp at h1;omega
   rcases this with rfl|rfl
   ·rw[List.take_of_length_le (Nat.le_refl _),List.take_of_length_le (by omega)]
   ·rfl
  rw[he];refine pM ?_;refine jJ ?_;refine bY ?_;exact aD aE ⟨p,by rfl,rfl⟩ aA
end Go.Proofs.YtjpdadobblffmaaGreat
namespace Go.Proofs.YtjpdadobblffmaaGreat
open Go.RowKit Go.ChangeShapes Go.WideShapes Go.ChangeAt Go.Deep
class NoE {α:Type} (enc:α→List AV):Prop where
 no:∀a,∀x∈enc a,NoF x
theorem aBT{α:Type}{enc:α→List AV} [h:NoE enc] {e:TypeId}{sz:Nat}{l:List α}:ENoF (.arr e sz (l.map enc)):=by
 intro y hy x hx;obtain⟨a,-,rfl⟩:=List.mem_map.1 hy;exact h.no a x hx
instance : NoE aH := ⟨fun a x hx => by simp [aH] at hx; subst hx; exact NoF.int⟩
theorem kH{P:Prop}(h:P:=by
  intro x σ' h;repeat(refine Exists.elim h ?_;clear h;intro _ h)
  first|(obtain⟨rfl,rfl⟩:=h)|(obtain⟨_,rfl,rfl⟩:=h)|(obtain⟨_,_,rfl,rfl⟩:=h)
  refine⟨bC, ?_⟩;intro p hp;simp only[List.mem_cons,List.not_mem_nil,or_false]at hp;repeat' (first|(rcases hp with rfl|hp)|(cases hp;done))
  all_goals first|exact aBT|exact enof_nil|exact enof_box bC):P:=h
section
variable {P : Program} {n : Nat} {ops : Array Oper} {rest : List Oper} {fr : Fr} {σ : dU} {K : ASt → Prop} {op : Op} {ty t t' : TypeId} {pos : String} {af : Array Edge} {x y : Operand} {d : Nat} {f : FuncId} {xs : List Operand} {ats : Array TypeId} {args : List AV}
theorem lS{v:AV}(hf:∀args w,(callFunc f args).run P w=.ok (.enter f args) w)(h:SCall P f args [] (fun x σ'=>x=v∧σ'=[]))(hd:Nat.ble (d+1) n=true)
  (hargs:ArgsIf ⟨fr,σ⟩ true (σ.map (·.1)) xs args) (hno:NoF v) (hK:RS P n ops rest ⟨(d,v)::fr,σ⟩ K):RS P n ops (⟨some d,.call { callee:=.value (.func f),args:=xs.toArray,argTypes:=ats },ty,pos,af,none⟩::rest) ⟨fr,σ⟩ K:=pu _ hf h hd hargs hno hK
theorem lJ{j dj:Nat}{want b:Bool}{v:AV}(hj:(ops[j]?).bind (·.dst)=some dj)(hb:dY fr dj=some (.bool b))(hf:∀args w,(callFunc f args).run P w=.ok (.enter f args) w)
  (h:(b==want)=true→SCall P f args [] (fun x σ'=>x=v∧σ'=[])) (hd:Nat.ble (d+1) n=true) (hargs:ArgsIf ⟨fr,σ⟩ (b==want) (σ.map (·.1)) xs args) (hno:NoF v) (hK:RS P n ops rest ⟨(d,.when (b==want) v)::fr,σ⟩ K):
  RS P n ops (⟨some d,.call { callee:=.value (.func f),args:=xs.toArray,argTypes:=ats },ty,pos,af,some (j,want)⟩::rest) ⟨fr,σ⟩ K:=AB _ hj hb hf h hd hargs hno hK
theorem sE{R:AV→dU→Prop}(hf:∀args w,(callFunc f args).run P w=.ok (.enter f args) w)(h:SCall P f args [] R)(hd:Nat.ble (d+1) n=true)
  (hargs:ArgsBor ⟨fr,σ⟩ (σ.map (·.1)) xs args) (hno:∀x σ',R x σ'→NoF x∧∀p∈σ',ENoF p.2) (hK:∀x σ',R x σ'→(∀p∈σ',Fresh p.1 σ)→RS P n ops rest ⟨(d,x)::fr,σ'++σ⟩ K):
  RS P n ops (⟨some d,.call { callee:=.value (.func f),args:=xs.toArray,argTypes:=ats },ty,pos,af,none⟩::rest) ⟨fr,σ⟩ K:=cl _ hf h hd hargs hno hK
theorem aEq{P:Prop}(h:P:=by(first|exact .inl ⟨_,rfl⟩|exact .inr (.inr ⟨_,_,_,_,_,rfl,aO,by simp,rfl⟩)|exact .inr (.inl ⟨_,_,rfl,rfl⟩))):P:=h
theorem aHO{P:Prop}(h:P:=by(first|rfl|(simp;done)|(simp only[List.map_append,List.drop_zero];rfl)|(simp only[List.drop_zero,List.map_append,List.map_cons,List.map_nil];congr 1;exact List.take_of_length_le (by simp))|(simp only[List.drop_zero,List.map_append];congr 1;exact List.take_of_length_le (by first|(simp;done)|omega)))):P:=h
theorem MD{P:Prop}(h:P:=by(first|rfl|omega|(simp;done)|(simp;omega)|(simp[maxLen];omega))):P:=h
theorem kI{e:TypeId} [Ty P t (.slice e)] {sz by_:Nat}{zv:Value} [Tz P e sz by_ zv] {r len:Nat}{es ys:List (List AV)}(es':List (List AV))(len':Nat)
  (hK:∀r',Fresh r' (eO [r] σ)→∃σ',SSet σ r (.arr e sz es) r' (.arr e sz es') σ'∧RS P n ops rest ⟨(d,.own r' 0 len')::fr,σ'⟩ K)
  (hz:zv.cells.size=sz:=by rfl) (hb:aev ⟨fr,σ⟩ x=some (.own r 0 len):=by rfl) (hg:gJ σ r=some (.arr e sz es):=by exact aO) (hlen:len=es.length:=by exact MD) (hy:Src ⟨fr,σ⟩ y sz ys:=by exact aEq)
  (he:es++ys=es':=by exact aHO) (hl':len'=len+ys.length:=by exact MD) (hmax:len'≤maxLen:=by(simp[maxLen];try omega)) (hby:len'*by_≤140737488355328:=by(simp;try omega)) (hd:Nat.ble (d+1) n=true:=by rfl):
  RS P n ops (⟨some d,.call { callee:=.builtin .append,args:=#[x,y],argTypes:=#[t,t] },ty,pos,af,none⟩::rest) ⟨fr,σ⟩ K:=ap hz hb hg hlen hy he hl' hmax hby hd hK
theorem ME{j q:Nat}{v v':AV}{e:Ent}{σ':dU}(hx:dY fr j=some v)(hd:SDel σ q e σ')(hb:Bor σ [q] v v'):SGo ⟨fr,σ⟩ ⟨(j,v')::fr,σ'⟩:=by
 refine qL [q] (fun i x' hi=> ?_) (fun p hp=> ?_)
 ·simp only[dY]at hi;split at hi
  ·next h=>subst h;obtain rfl:=Option.some.inj hi;exact⟨_,hx,hb⟩
  ·exact⟨x',hi,.refl _⟩
 ·obtain⟨h1,h2⟩:=hd.sub p hp;exact⟨by simpa using h2,p.2,h1,.refl _⟩
theorem iR{j q:Nat}{v v':AV}{e:Ent}{σ':dU}(hx:dY fr j=some v)(hd:SDel σ q e σ')(hb:Bor σ [q] v v')(hK:RS P n ops rest ⟨(j,v')::fr,σ'⟩ K):RS P n ops rest ⟨fr,σ⟩ K:=jT (ME hx hd hb) hK
theorem aAc{ks:List Nat}{c:Code}{Q:Exit→ASt→Prop}{j q:Nat}{v v':AV}{e:Ent}{σ':dU}(hx:dY fr j=some v)(hd:SDel σ q e σ')(hb:Bor σ [q] v v')(hK:SW P n ks c ⟨(j,v')::fr,σ'⟩ Q):SW P n ks c ⟨fr,σ⟩ Q:=dZ (ME hx hd hb) hK
theorem aM{q len sz:Nat}{et:TypeId}{es:List (List AV)}(hg:gJ σ q=some (.arr et sz es))(hl:len=es.length):Bor σ [q] (.own q 0 len) (.ro sz es .any):=
 aBl List.mem_cons_self hg (by omega) (by subst hl;simp)
variable {listed : Array Bool} {todo : List (Nat × Bool)} {held : List (Nat × List Nat)} {i : Nat}
theorem aAd{v:AV}(hi:ops[i]? =some ⟨some d,.call { callee:=.value (.func f),args:=xs.toArray,argTypes:=ats },ty,pos,af,none⟩)(hf:∀args w,(callFunc f args).run P w=.ok (.enter f args) w)(h:SCall P f args [] (fun x σ'=>x=v∧σ'=[]))(hd:Nat.ble (d+1) n=true)
  (hargs:ArgsIf ⟨fr,σ⟩ true (σ.map (·.1)) xs args) (hno:NoF v) (hK:RD P n ops (listed.setIfInBounds i true) todo held ⟨(d,v)::fr,σ⟩ K):RD P n ops listed ((i,false)::todo) held ⟨fr,σ⟩ K:=dpu _ hi hf h hd hargs hno hK
theorem lT{R:AV→dU→Prop}(hi:ops[i]? =some ⟨some d,.call { callee:=.value (.func f),args:=xs.toArray,argTypes:=ats },ty,pos,af,none⟩)(hf:∀args w,(callFunc f args).run P w=.ok (.enter f args) w)(h:SCall P f args [] R)(hd:Nat.ble (d+1) n=true)
  (hargs:ArgsBor ⟨fr,σ⟩ (σ.map (·.1)) xs args) (hno:∀x σ',R x σ'→NoF x∧∀p∈σ',ENoF p.2) (hK:∀x σ',R x σ'→(∀p∈σ',Fresh p.1 σ)→RD P n ops (listed.setIfInBounds i true) todo held ⟨(d,x)::fr,σ'++σ⟩ K):
  RD P n ops listed ((i,false)::todo) held ⟨fr,σ⟩ K:=dcl _ hi hf h hd hargs hno hK
theorem eX{e:TypeId}{sz by_:Nat}{zv:Value}{r len:Nat}{es ys:List (List AV)}(hi:ops[i]? =some ⟨some d,.call { callee:=.builtin .append,args:=#[x,y],argTypes:=#[t,t] },ty,pos,af,none⟩)(es':List (List AV))(len':Nat)
  (hK:∀r',Fresh r' (eO [r] σ)→∃σ',SSet σ r (.arr e sz es) r' (.arr e sz es') σ'∧RD P n ops (listed.setIfInBounds i true) todo held ⟨(d,.own r' 0 len')::fr,σ'⟩ K)
  (i1:Ty P t (.slice e):=by infer_instance) (i2:Tz P e sz by_ zv:=by infer_instance) (hz:zv.cells.size=sz:=by rfl) (hx:aev ⟨fr,σ⟩ x=some (.own r 0 len):=by rfl) (hg:gJ σ r=some (.arr e sz es):=by exact aO) (hlen:len=es.length:=by exact MD) (hy:Src ⟨fr,σ⟩ y sz ys:=by exact aEq)
  (he:es++ys=es':=by exact aHO) (hl':len'=len+ys.length:=by exact MD) (hmax:len'≤maxLen:=by(simp[maxLen];try omega)) (hby:len'*by_≤140737488355328:=by(simp;try omega)) (hd:Nat.ble (d+1) n=true:=by rfl) (hb:HB ops i (σ.map (·.1)) [r] held:=by exact fS):
  RD P n ops listed ((i,false)::todo) held ⟨fr,σ⟩ K:=dap hi i1 i2 hz hx hg hlen hy he hl' hmax hby hd hb hK
end
theorem aHP{p q:Bool}:(if p=true then q else false)=(p&&q):=by cases p<;>rfl
theorem aGK{p q:Bool}:(if p=true then true else q)=(p||q):=by cases p<;>rfl
theorem bT{H R:Prop}(a:H)(h:H→R:=by intro h;(try simp only[aHP,aGK]at h);simp only[Bool.and_eq_true,Bool.or_eq_true,Bool.and_eq_false_iff,Bool.or_eq_false_iff,decide_eq_true_eq,decide_eq_false_iff_not,Bool.not_eq_true',Bool.not_eq_false',bne_iff_ne,beq_iff_eq,ne_eq,Bool.not_eq_eq_eq_not,Bool.not_true,Bool.not_false,bne_eq_false_iff_eq,beq_eq_false_iff_ne]at h;exact h):R:=h a
instance : NoE aR := ⟨fun a x hx => by simp [aR] at hx; subst hx; exact NoF.int⟩
theorem aEr(x:Ins):∀b∈fT x,b<256:=by
 have hf:∀l:List Int,∀b∈(l.flatMap fun n=>uB n.toNat),b<256:=by
  intro l b hb;obtain⟨n,-,hn⟩:=List.mem_flatMap.1 hb;exact lQ _ b hn
 intro b hb;unfold fT at hb;split at hb
 ·rw[List.mem_singleton.1 hb];unfold wG;split<;>(try split)<;>decide
 split at hb
 ·exact lQ _ b hb
 split at hb
 ·rcases List.mem_append.1 hb with h|h
  ·exact lQ _ b h
  ·rw[List.mem_singleton.1 h];decide
 split at hb
 ·rcases List.mem_append.1 hb with h|h
  ·rcases List.mem_append.1 h with h|h
   ·exact lQ _ b h
   ·exact hf _ b h
  ·exact lQ _ b h
 split at hb
 ·rcases List.mem_append.1 hb with h|h
  ·exact lQ _ b h
  ·exact lQ _ b h
 split at hb
 ·rw[List.mem_singleton.1 hb];decide
 split at hb
 ·exact aGC _ x.a (Nat.le_refl _) b hb
 ·simp at hb
theorem XK{x:Ins}(hm:dB x=true):∀b∈gG x,b<256:=by
 intro b hb;rcases List.mem_cons.1 hb with rfl|hb
 ·have:=LW hm;omega
 ·exact aEr x b hb
theorem wJ{x:Ins}(hx:x.Ok)(hm:dB x=true):(gG x).length≤200:=by
 unfold gG;rw[List.length_cons]
 suffices (fT x).length≤199 by omega
 unfold fT;split
 ·simp
 split
 ·next h=>have:=aEk hm h;have:=bR 1 x.a.toNat (by omega);omega
 split
 ·next h=>have:=aEl hm h;have:=bR 1 x.a.toNat (by omega);simp;omega
 split
 ·next h=>
  obtain⟨h1,h2,h3⟩:=aEm hm h;have:=bR 1 x.a.toNat (by omega);have:=bR 0 x.l.length (by omega);have:=sS h3;simp only[List.length_append];omega
 split
 ·next h=>have:=aEn hm h;have:=bR 0 x.a.toNat (by omega);have:=bR 4 x.b.toNat (by omega);simp;omega
 split
 ·simp
 split
 ·obtain⟨-,-,h1,h2,-⟩:=hx;have:=yX 9 x.a (by omega) (by omega);omega
 ·simp
theorem MF{x y:Ins}:eqN x y=true↔x=y:=by
 cases x;cases y
 simp[eqN]
end Go.Proofs.YtjpdadobblffmaaGreat
namespace Go.Proofs.YtjpdadobblffmaaGreat
open Go.RowKit Go.ChangeShapes Go.WideShapes Go.ChangeAt Go.Deep
attribute [local irreducible] SW RS RD fH eH
def pN (l:List Ins) (n:Nat):List Ins:=(l.take n).map VE
theorem VF{l:List Ins}{j:Nat}{x:Ins}(h:l[j]? =some x):pN l (j+1)=pN l j++ [VE x]:=by
 unfold pN;rw[List.take_add_one,h];simp
theorem aAe{l:List Ins}{j:Nat}(h:j≤l.length):(pN l j).length=j:=by unfold pN;simp;omega
theorem aHQ{q:Nat}{x:Ins}{e:TypeId}{σ:dU}(h:gJ σ q=some (.arr e 1 (x.l.map aR))):Bor σ [q] (.agg (io q x)) (.agg (iv .any x)):=
 aBn (.cons (.refl _) (.cons (.refl _) (.cons (.refl _) (.cons (aM h (by simp)) .nil))))
theorem aBU(l:List Ins)(hl:l.length≤maxLen)(hw:∀x∈l,x.l.length≤maxLen)(n:Nat)(hn:n≤1000):SCall Tryz.prog 26 [.ro 4 (l.map (iv .any)) .any,.int .i64 n] []
  (fun y σ=>∃q,y=.own q 0 (pN l n).length∧σ=[(q,.arr 46 4 ((pN l n).map (iv .any)))]):=by
 unfold maxLen at hl;refine cC 27 [0,1,4,5,6,15] Tryz.func26 ?_;refine sR ?_;refine jC ?_;refine cZ ?_;refine bX 5 46 4 (by decide) rfl (by decide) (bI fun q0 hq0=> ?_);repeat rcases hq0 with⟨_,hq0⟩
 refine lp (β:=Nat×Nat) (fun b=>⟨[(0,.ro 4 (l.map (iv .any)) .any),(1,.int .i64 n),(5,.own b.1 0 (pN l b.2).length),(6,.int .i64 b.2)],[(b.1,.arr 46 4 ((pN l b.2).map (iv .any)))]⟩) (fun b=>b.2≤n∧b.2≤l.length) (fun b=>n-b.2) (q0,0) aJ ⟨by omega,by omega⟩ ?_;rintro⟨q,j⟩ ⟨hj,hjl⟩;dsimp only at hj hjl⊢;refine oR ?_;refine xT ?_;refine nW ?_;refine UR ?_;refine vB ?_;refine aB rfl (fun g3=> ?_) (fun g3=> ?_)
 ·replace g3:=bT g3
  obtain⟨x,hx⟩:∃x,l[j]? =some x:=⟨_,List.getElem?_eq_getElem (by omega)⟩
  have hxm:=hw x (List.mem_of_getElem? hx);have hnx:=VF hx;have hbl:=aAe hjl;refine dF ?_;refine mZ ?_;refine cw [] Tryz.call81 (aEp x hxm) rfl aC aA ?_;rintro _ σ' ⟨q2,rfl,rfl⟩ h23
  replace h23:=gU h23;repeat rcases h23 with⟨_,h23⟩
  apply aZ;exact bN;refine iR (j:=23) rfl bH (aHQ aO) ?_;refine eS fun r24 h24=> ?_;intros
  refine kI ((pN l j++ [VE x]).map (iv .any)) (pN l j++ [VE x]).length ?_;refine bL fun r25 h25=> ?_;intros
  refine iF ?_;refine AE ?_;refine⟨(r25,j+1),⟨by show j+1≤n;omega,by show j+1≤l.length;omega⟩,by show n-(j+1)<n-j;omega, ?_⟩;dsimp only;rw[hnx];exact aJ
 have he:pN l j=pN l n:=by
  have:j=n∨j=l.length:=by replace g3:=bT g3;omega
  rcases this with rfl|rfl
  ·rfl
  ·unfold pN;rw[List.take_of_length_le (Nat.le_refl _),List.take_of_length_le hj]
 rw[he];refine fF ?_;exact aD aE ⟨q,by rfl,rfl⟩ aA
end Go.Proofs.YtjpdadobblffmaaGreat
namespace Go.Proofs.YtjpdadobblffmaaGreat
open Go.RowKit Go.ChangeShapes Go.WideShapes Go.ChangeAt Go.Deep
theorem MG{H:Type}{enc:TypeId×Value→H}{P:Program}{W:World}{fuel:Nat}{t:TypeId}{n:Nat}{fs:Array Field}{cs:List Value}{x:DataW H×List MemPlace}(hs:P.underlying t=some (.struct fs))(hC:P.cellsOf t=n)
  (h:DataW.trod enc P W 0 (fun _=>true) true fuel t cs=some x):cs.length=n∧∀(i:Nat) (f:Field),fs[i]? =some f→∃m y,DataW.trod enc P W 0 (fun _=>true) true m f.type ((cs.drop f.offset).take (P.cellsOf f.type))=some y:=by
 obtain⟨xs,m,_,_,hl,hxl,hf⟩:=DataW.trod_struct hs h;refine⟨hl.trans hC,fun i f hi=> ?_⟩;have hlt:i<xs.length:=by rw[hxl];exact(Array.getElem?_eq_some_iff.1 hi).1
 exact⟨m,_,(hf i f hi).trans (List.getElem?_eq_getElem hlt)⟩
theorem XL{P:Program}{f:Func}(h:(f.params.toList.all fun t=>P.readableRec t&&decide (t<P.types.size))=true):∀t∈f.params.toList,P.readableRec t=true∧t<P.types.size:=by
 intro t ht;have:=List.all_eq_true.1 h t ht;simpa using this
def VR0 (W:World):AV→Value→Prop:=VR (fun _=>none) (fun b=>b<W.heap.size) W
structure RdA (P:Program) (t:TypeId) (α:Type) (sz:Nat) (en:α→List AV) (ok:α→Prop):Prop where
 cells:P.cellsOf t=sz
 shape:∀a,(en a).length=sz∧∀x∈en a,x.cell=true
 read:∀(H:Type) (enc:TypeId×Value→H) (W:World) (fuel:Nat) (cs:List Value) (x:DataW H×List MemPlace),DataW.trod enc P W 0 (fun _=>true) true fuel t cs=some x→
  ∃a:α,ok a∧cs.length=sz∧∀(j:Nat) (x:AV) (u:Value),(en a)[j]? =some x→cs[j]? =some u→VR0 W x u
section
variable {P : Program} {t : TypeId}
theorem sU{sz by_:Nat}{z:Value}(i2:Tz P t sz by_ z):P.cellsOf t=sz:=by
 obtain⟨i,h1,_,h2,_⟩:=Tz.parts P t;simp[Program.cellsOf,h1,h2]
theorem CL{W:World}{x:AV}{u:Value}(h:VR0 W x u):∀(j:Nat) (y:AV) (v:Value),[x][j]? =some y→ [u][j]? =some v→VR0 W y v:=by
 intro j y v hy hv
 match j with
 |0=>
  simp at hy hv;subst hy hv;exact h
 |j+1=>simp at hy
theorem EM{sz by_:Nat}{z:Value}{k:IntKind} [i:Ty P t (.int k)] [i2:Tz P t sz by_ z] (hsz:sz=1):RdA P t Int 1 (fun n=>[.int k n]) (fun n=>(Lit.int k n).wf=true):=by
 subst hsz;refine⟨sU i2,fun a=>⟨rfl,by simp[AV.cell]⟩,fun H enc W fuel cs x h=> ?_⟩;obtain⟨n,rfl,_,hw⟩:=DataW.trod_int i.und h;exact⟨n,hw,rfl,CL (.int k n)⟩
theorem aBV{sz by_:Nat}{z:Value} [i:Ty P t .bool] [i2:Tz P t sz by_ z] (hsz:sz=1):RdA P t Bool 1 (fun b=>[.bool b]) (fun _=>True):=by
 subst hsz;refine⟨sU i2,fun a=>⟨rfl,by simp[AV.cell]⟩,fun H enc W fuel cs x h=> ?_⟩;obtain⟨n,rfl,_⟩:=DataW.trod_bool i.und h;exact⟨n,trivial,rfl,CL (.bool n)⟩
theorem aEs{sz by_:Nat}{z:Value} [i:Ty P t .string] [i2:Tz P t sz by_ z] (hsz:sz=1):RdA P t ByteArray 1 (fun b=>[.str b]) (fun b=>b.size≤maxLen):=by
 subst hsz;refine⟨sU i2,fun a=>⟨rfl,by simp[AV.cell]⟩,fun H enc W fuel cs x h=> ?_⟩;obtain⟨n,rfl,_,hm⟩:=DataW.trod_string i.und h;exact⟨n,hm,rfl,CL (.str n)⟩
theorem kA{α:Type}{e:TypeId}{sz szs by_:Nat}{z:Value}{en:α→List AV}{ok:α→Prop} [i:Ty P t (.slice e)] [i2:Tz P t szs by_ z] (hsz:szs=1)(hpos:0<sz)(he:RdA P e α sz en ok):
  RdA P t (List α) 1 (fun l=>[.ro sz (l.map en) .any]) (fun l=>l.length≤maxLen∧∀a∈l,ok a):=by
 subst hsz;refine⟨sU i2,fun a=>⟨rfl,by simp[AV.cell]⟩,fun H enc W fuel cs x h=> ?_⟩;rcases open_slice i.und h with⟨rfl,_⟩|⟨a,len,cap,m,n,D,Pl,rfl,_,hl,hm,hmm,_,hi⟩
 ·exact⟨[],⟨Nat.zero_le _,by simp⟩,rfl,CL (.ro0 (Nat.zero_le _) (fun _=>rfl) (fun h=>by cases h) (fun h=>by cases h))⟩
 ·simp only[if_true]at hmm;subst hmm;rcases Nat.eq_zero_or_pos len with rfl|hlen
  ·exact⟨[],⟨Nat.zero_le _,by simp⟩,rfl,CL (.ro0 hm (fun h=>by cases h) (fun h=>by cases h) (fun h=>by cases h))⟩
  obtain⟨b,off,spot⟩:=a;have hspot:spot=none∧b<W.heap.size:=by
   obtain⟨us0,hc0,_⟩:=hi 0 (by omega);obtain⟨_,hul0,hat0⟩:=World.cells?_some hc0;rw[he.cells]at hul0 hat0;have h00:=hat0 0 hpos;rw[List.getElem?_eq_getElem (by omega)]at h00;simp only[Nat.zero_mul]at h00;have hs:spot=none:=by simpa[Addr.add]using World.cell?_spot h00
   refine⟨hs, ?_⟩;have:=World.block_lt_of_cell? _ _ h00
   rwa [zR,zR]at this
  obtain⟨rfl,hlt⟩:=hspot;have hex:∀i:Nat,∃y:Option (α×List Value),i<len→∃z us,y=some (z,us)∧ok z∧us.length=sz∧(∀(j:Nat) (u:Value),us[j]? =some u→W.cell? ⟨b,off+i*sz+j,none⟩=some u)∧∀(j:Nat) (x:AV) (u:Value),(en z)[j]? =some x→us[j]? =some u→VR0 W x u:=by
   intro i;by_cases hlt:i<len
   ·obtain⟨us,hc,htr⟩:=hi i (by omega);obtain⟨z,hz,hzl,hzv⟩:=he.read H enc W n us _ htr;obtain⟨_,hul,hat⟩:=World.cells?_some hc;rw[he.cells]at hul hat;refine⟨some (z,us),fun _=>⟨z,us,rfl,hz,hzl,fun j u hu=> ?_,hzv⟩⟩;have hj:j<sz:=by have:=(List.getElem?_eq_some_iff.1 hu).1;omega
    have:=hat j hj;rw[hu,UI,Addr.add_lit]at this;rw[Nat.add_assoc];exact this
   ·exact⟨none,fun h=>absurd h hlt⟩
  obtain⟨f,hf⟩:=Classical.axiomOfChoice hex;obtain⟨d,d2,_⟩:=hf 0 (by omega)
  let g:Nat→α×List Value:=fun i=>(f i).getD (d,d2)
  have hg:∀i,i<len→ok (g i).1∧(g i).2.length=sz∧(∀(j:Nat) (u:Value),(g i).2[j]? =some u→W.cell? ⟨b,off+i*sz+j,none⟩=some u)∧∀(j:Nat) (x:AV) (u:Value),(en (g i).1)[j]? =some x→(g i).2[j]? =some u→VR0 W x u:=by
   intro i hlt;obtain⟨z,us,hz,h1,h2,h3,h4⟩:=hf i hlt;have:g i=(z,us):=by show(f i).getD _=_;rw[hz];rfl
   rw[this];exact⟨h1,h2,h3,h4⟩
  have hpick:∀(i:Nat) (e:List AV) (j:Nat) (a:AV),(((List.range len).map fun i=>(g i).1).map en)[i]? =some e→e[j]? =some a→i<len∧(en (g i).1)[j]? =some a∧∃u,(g i).2[j]? =some u∧u=((g i).2[j]?).getD Go.undef:=by
   intro i e j a hie hja;have hlt:i<len:=by have:=(List.getElem?_eq_some_iff.1 hie).1;simpa using this
   rw[List.getElem?_map,List.getElem?_map,List.getElem?_range hlt]at hie;simp at hie;subst hie;refine⟨hlt,hja, ?_⟩;have hj:j<(g i).2.length:=by
    rw[(hg i hlt).2.1,←(he.shape (g i).1).1];exact(List.getElem?_eq_some_iff.1 hja).1
   exact⟨(g i).2[j],List.getElem?_eq_getElem hj,by simp[List.getElem?_eq_getElem hj]⟩
  refine⟨(List.range len).map (fun i=>(g i).1),⟨by simp;omega, ?_⟩,rfl,CL ?_⟩
  ·intro a ha;simp only[List.mem_map,List.mem_range]at ha;obtain⟨i,hi,rfl⟩:=ha;exact(hg i hi).1
  ·have hlen':(((List.range len).map fun i=>(g i).1).map en).length=len:=by simp
   have key:=VR.ro (M:=fun _=>none) (F:=fun b=>b<W.heap.size) (w:=W) (es:=((List.range len).map fun i=>(g i).1).map en) (k:=.any) (b:=b) (o:=off) (sz:=sz) (cap:=m)
    (us:=fun i j=>((g i).2[j]?).getD Go.undef) hlt ?_ ?_ ?_ (by rw[hlen'];exact hl) hm (fun h=>by cases h) (fun h=>by cases h)
   ·rw[hlen']at key;exact key
   ·intro x hx;simp only[List.mem_map]at hx;obtain⟨a,_,rfl⟩:=hx;exact he.shape a
   ·intro i e j a hie hja;obtain⟨h1,h2,u,hu,hu'⟩:=hpick i e j a hie hja;rw[←hu'];exact(hg i h1).2.2.1 j u hu
   ·intro i e j a hie hja;obtain⟨h1,h2,u,hu,hu'⟩:=hpick i e j a hie hja;rw[←hu'];exact(hg i h1).2.2.2 j a u h2 hu
structure RdF (P:Program) (fs:List Field) (off:Nat) (α:Type) (sz:Nat) (en:α→List AV) (ok:α→Prop):Prop where
 shape:∀a,(en a).length=sz∧∀x∈en a,x.cell=true
 read:∀(H:Type) (enc:TypeId×Value→H) (W:World) (cs:List Value),cs.length=off+sz→(∀f∈fs,∃m y,DataW.trod enc P W 0 (fun _=>true) true m f.type ((cs.drop f.offset).take (P.cellsOf f.type))=some y)→
  ∃a:α,ok a∧∀(j:Nat) (x:AV) (u:Value),(en a)[j]? =some x→cs[off+j]? =some u→VR0 W x u
theorem nH{α:Type}{sz off:Nat}{en:α→List AV}{ok:α→Prop}{f:Field}(h:RdA P f.type α sz en ok)(ho:f.offset=off):RdF P [f] off α sz en ok:=by
 refine⟨h.shape,fun H enc W cs hl hf=> ?_⟩;obtain⟨m,y,hy⟩:=hf f (by simp);obtain⟨a,h1,h2,h3⟩:=h.read H enc W m _ y hy;refine⟨a,h1,fun j x u hx hu=>h3 j x u hx ?_⟩;have hj:=(List.getElem?_eq_some_iff.1 hx).1;rw[(h.shape a).1]at hj;rw[List.getElem?_take,h.cells,if_pos hj,List.getElem?_drop,ho,hu]
theorem eT{α β:Type}{sz sz' off:Nat}{en:α→List AV}{ok:α→Prop}{en':β→List AV}{ok':β→Prop}{f:Field}{fs:List Field}(h:RdA P f.type α sz en ok)(ho:f.offset=off)
  (k:RdF P fs (off+sz) β sz' en' ok'):RdF P (f::fs) off (α×β) (sz+sz') (fun p=>en p.1++en' p.2) (fun p=>ok p.1∧ok' p.2):=by
 refine⟨fun a=>⟨by simp[(h.shape a.1).1,(k.shape a.2).1],fun x hx=>(List.mem_append.1 hx).elim ((h.shape a.1).2 x) ((k.shape a.2).2 x)⟩,fun H enc W cs hl hf=> ?_⟩;obtain⟨m,y,hy⟩:=hf f (by simp);obtain⟨a,h1,h2,h3⟩:=h.read H enc W m _ y hy;obtain⟨b,k1,k2⟩:=k.read H enc W cs (by omega) (fun f' hf'=>hf f' (by simp[hf']));refine⟨(a,b),⟨h1,k1⟩,fun j x u hx hu=> ?_⟩;have hsz:(en a).length=sz:=(h.shape a).1;dsimp only at hx;by_cases hj:j<sz
 ·refine h3 j x u ?_ ?_
  ·rwa [List.getElem?_append_left (by omega)]at hx
  ·rw[List.getElem?_take,h.cells,if_pos hj,List.getElem?_drop,ho,hu]
 ·refine k2 (j-sz) x u ?_ ?_
  ·rw[List.getElem?_append_right (by omega),hsz]at hx;exact hx
  ·rw[show off+sz+(j-sz)=off+j by omega];exact hu
theorem iA{α:Type}{fs:List Field}{sz by_:Nat}{z:Value}{en:α→List AV}{ok:α→Prop} [i:Ty P t (.struct fs.toArray)] [i2:Tz P t sz by_ z] (h:RdF P fs 0 α sz en ok):RdA P t α sz en ok:=by
 refine⟨sU i2,h.shape,fun H enc W fuel cs x hx=> ?_⟩;obtain⟨hl,hf⟩:=MG i.und (sU i2) hx;obtain⟨a,h1,h2⟩:=h.read H enc W cs (by omega) (fun f hfm=>by
  obtain⟨j,hj⟩:=List.getElem?_of_mem hfm;exact hf j f (by simpa using hj))
 exact⟨a,h1,by omega,fun j x u hx hu=>h2 j x u hx (by simpa using hu)⟩
theorem aEt{α:Type}{en:α→List AV}{ok:α→Prop}(h:RdA P t α 1 en ok){H:Type}{enc:TypeId×Value→H}{W:World}{v:Value}{d:DataW H}{p:List MemPlace}(hv:v.cells.toList=[v])
  (hd:DataW.Trod enc P W 0 (fun _=>true) true t v d p):∃a,ok a∧VR0 W ((en a).headD .undef) v:=by
 obtain⟨fuel,hf⟩:=hd;rw[hv]at hf;obtain⟨a,h1,h2,h3⟩:=h.read H enc W fuel _ _ hf;refine⟨a,h1, ?_⟩;have hl:=(h.shape a).1
 match he:en a,hl with
 |[x],_=>exact h3 0 x v (by rw[he];rfl) rfl
theorem aEu{α:Type}{sz:Nat}{en:α→List AV}{ok:α→Prop}(h:RdA P t α sz en ok){H:Type}{enc:TypeId×Value→H}{W:World}{cs:Array Value}{d:DataW H}{p:List MemPlace}
  (hd:DataW.Trod enc P W 0 (fun _=>true) true t (.agg cs) d p):∃a,ok a∧VR0 W (.agg (en a)) (.agg cs):=by
 obtain⟨fuel,hf⟩:=hd;obtain⟨a,h1,h2,h3⟩:=h.read H enc W fuel _ _ hf;refine⟨a,h1,.agg ?_ fun j x u hx hu=>h3 j x u hx ?_⟩
 ·rw[(h.shape a).1];simpa[Value.cells]using h2
 ·simpa[Value.cells]using hu
end
theorem XM{P:Program}{f:FuncId}{args:List AV}(h:SCall P f args [] (fun x _=>x=.bool true)){W:World}{vs:List Value}(hl:vs.length=args.length)(hv:∀(i:Nat) (x:AV) (v:Value),args[i]? =some x→vs[i]? =some v→VR0 W x v):
  Calls P f vs.toArray W fun e w'=>e=.returned (.bool true)∧Below W.heap.size W w':=by
 refine(h (fun _=>none) (fun b=>b<W.heap.size) 0 W vs hl hv ⟨by simp,by simp,fun g ⟨p,hp,_⟩=>by simp at hp,fun _ h=>h,fun _ _=>rfl⟩).mono ?_;rintro e w' ⟨v,x,M',F',N',σ',rfl,he,hvx,_,rfl⟩;cases hvx
 exact⟨rfl,he.only.below (Nat.le_refl _) fun i _ ⟨p,hp,_⟩=>by simp at hp⟩
theorem aBW{W:World}:∀(i:Nat) (x:AV) (v:Value),([]:List AV)[i]? =some x→([]:List Value)[i]? =some v→VR0 W x v:=fun i x v h=>by simp at h
theorem AP{W:World}{x:AV}{v:Value}{xs:List AV}{vs:List Value}(h:VR0 W x v)(k:∀(i:Nat) (x:AV) (v:Value),xs[i]? =some x→vs[i]? =some v→VR0 W x v):
  ∀(i:Nat) (x':AV) (v':Value),(x::xs)[i]? =some x'→(v::vs)[i]? =some v'→VR0 W x' v':=by
 intro i x' v' hx hv
 match i with
 |0=>simp at hx hv;subst hx hv;exact h
 |i+1=>exact k i x' v' (by simpa using hx) (by simpa using hv)
def aBX (n:Int):List AV:=[.int .u8 n]
theorem KC:∀ {l:List Int},(∀a∈l,0≤a∧a≤255)→l.map aBX=(l.map Int.toNat).map aH
 |[],_=>rfl
 |a::l,h=>by
  have:=h a List.mem_cons_self;rw[List.map_cons,List.map_cons,List.map_cons,KC fun b hb=>h b (List.mem_cons_of_mem _ hb),aBX,aH,Int.toNat_of_nonneg this.1]
abbrev oZ (a:Int):Prop:=(Lit.int .i64 a).wf=true
abbrev U8 (a:Int):Prop:=(Lit.int .u8 a).wf=true
theorem aGL{n:Int}(h:U8 n):0≤n∧n≤255:=by
 simp[U8,Lit.wf,IntKind.min,IntKind.max,IntKind.signed,IntKind.bits]at h;omega
theorem FY{n:Int}(h:oZ n):-9223372036854775808≤n∧n≤9223372036854775807:=by
 simp[oZ,Lit.wf,IntKind.min,IntKind.max,IntKind.signed,IntKind.bits]at h;omega
theorem DL:RdA Tryz.prog 3 Int 1 (fun n=>[.int .i64 n]) oZ:=EM (t:=3) (k:=.i64) rfl
theorem MH:RdA Tryz.prog 2 Int 1 (fun n=>[.int .i64 n]) oZ:=EM (t:=2) (k:=.i64) rfl
theorem aEv:RdA Tryz.prog 36 (List Int) 1 (fun l=>[.ro 1 (l.map aBX) .any]) (fun l=>l.length≤maxLen∧∀a∈l,U8 a):=kA rfl (by decide) (EM (t:=5) (k:=.u8) rfl)
theorem qU:RdA Tryz.prog 24 (List Int) 1 (fun l=>[.ro 1 (l.map aR) .any]) (fun l=>l.length≤maxLen∧∀a∈l,oZ a):=kA rfl (by decide) (EM (t:=3) (k:=.i64) rfl)
theorem aEw{P:Program}{t:TypeId}{α β:Type}{sz:Nat}{en:α→List AV}{ok:α→Prop}(f:α→β)(g:β→α)(hg:∀a,g (f a)=a)(h:RdA P t α sz en ok):RdA P t β sz (fun b=>en (g b)) (fun b=>ok (g b)):=
 ⟨h.cells,fun b=>h.shape (g b),fun H enc W fuel cs x hx=>by
  obtain⟨a,h1,h2,h3⟩:=h.read H enc W fuel cs x hx;exact⟨f a,by rw[hg];exact h1,h2,by rw[hg];exact h3⟩⟩
theorem aHR{P:Program}{t:TypeId}{α:Type}{sz:Nat}{en:α→List AV}{ok ok':α→Prop}(hk:∀a,ok a→ok' a)(h:RdA P t α sz en ok):RdA P t α sz en ok':=
 ⟨h.cells,h.shape,fun H enc W fuel cs x hx=>by
  obtain⟨a,h1,h2,h3⟩:=h.read H enc W fuel cs x hx;exact⟨a,hk a h1,h2,h3⟩⟩
def Ins.Wf (x:Ins):Prop:=(-9223372036854775808≤x.op∧x.op≤9223372036854775807)∧(-9223372036854775808≤x.a∧x.a≤9223372036854775807)∧(-9223372036854775808≤x.b∧x.b≤9223372036854775807)∧x.l.length≤maxLen∧∀a∈x.l,-9223372036854775808≤a∧a≤9223372036854775807
theorem aEx:RdA Tryz.prog 46 Ins 4 (iv .any) Ins.Wf:=by
 have h:RdA Tryz.prog 46 (Int×Int×Int×List Int) 4 (fun p:Int×Int×Int×List Int=>[.int .i64 p.1]++(fun p:Int×Int×List Int=>[.int .i64 p.1]++(fun p:Int×List Int=>[.int .i64 p.1]++ [.ro 1 (p.2.map aR) .any]) p.2) p.2) (fun p=>oZ p.1∧oZ p.2.1∧oZ p.2.2.1∧(p.2.2.2.length≤maxLen∧∀a∈p.2.2.2,oZ a)):=by
  refine iA ?_;refine eT (f:=⟨_,_,_,_,_,_,_⟩) (sz':=3) (en:=fun n=>[.int .i64 n]) (ok:=oZ) (en':=fun p:Int×Int×List Int=>[.int .i64 p.1]++(fun p:Int×List Int=>[.int .i64 p.1]++ [.ro 1 (p.2.map aR) .any]) p.2) (ok':=fun p=>oZ p.1∧oZ p.2.1∧(p.2.2.length≤maxLen∧∀a∈p.2.2,oZ a)) DL rfl ?_;refine eT (f:=⟨_,_,_,_,_,_,_⟩) (sz':=2) (en:=fun n=>[.int .i64 n]) (ok:=oZ) (en':=fun p:Int×List Int=>[.int .i64 p.1]++ [.ro 1 (p.2.map aR) .any]) (ok':=fun p=>oZ p.1∧(p.2.length≤maxLen∧∀a∈p.2,oZ a)) MH rfl ?_;refine eT (f:=⟨_,_,_,_,_,_,_⟩) (sz':=1) (en:=fun n=>[.int .i64 n]) (ok:=oZ) (en':=fun l:List Int=>[.ro 1 (l.map aR) .any]) (ok':=fun l:List Int=>l.length≤maxLen∧∀a∈l,oZ a) MH rfl ?_;exact nH qU rfl
 have h2:=aEw (fun p:Int×Int×Int×List Int=>(⟨p.1,p.2.1,p.2.2.1,p.2.2.2⟩:Ins)) (fun c=>(c.op,c.a,c.b,c.l)) (fun _=>rfl) h;exact aHR (fun x hx=>⟨FY hx.1,FY hx.2.1,FY hx.2.2.1,hx.2.2.2.1,fun a ha=>FY (hx.2.2.2.2 a ha)⟩) h2
theorem aBY:RdA Tryz.prog 42 (List Ins) 1 (fun l=>[.ro 4 (l.map (iv .any)) .any]) (fun l=>l.length≤maxLen∧∀x∈l,x.Wf):=kA rfl (by decide) aEx
theorem AQ:∀ {M:List Ins},(∀x∈M,x.Ok∧dB x=true)→(M.flatMap gG).length≤200*M.length
 |[],_=>by simp
 |x::M,h=>by
  have ih:=AQ (M:=M) fun y hy=>h y (List.mem_cons_of_mem _ hy)
  have h1:=wJ (h x List.mem_cons_self).1 (h x List.mem_cons_self).2;simp only[List.flatMap_cons,List.length_append,List.length_cons];omega
theorem RE{M:List Ins}(h:∀x∈M,x.Ok∧dB x=true):∀b∈M.flatMap gG,b<256:=by
 intro b hb;obtain⟨x,hx,hb⟩:=List.mem_flatMap.1 hb;exact XK (h x hx).2 b hb
def Sp (l:List Nat) (n m:Nat) (p:List Nat):Prop:=l.drop n=p++l.drop m∧m=n+p.length∧m≤l.length
theorem Sp.trans {l:List Nat}{n m k:Nat}{p q:List Nat}(h:Sp l n m p)(g:Sp l m k q):Sp l n k (p++q):=
 ⟨by rw[h.1,g.1,List.append_assoc],by rw[g.2.1,h.2.1,List.length_append];omega,g.2.2⟩
theorem Sp.nil {l:List Nat}{n:Nat}(h:n≤l.length):Sp l n n []:=⟨rfl,by simp,h⟩
theorem XN{l:List Nat}{n k:Nat}(h:n+k≤l.length):Sp l n (n+k) ((l.drop n).take k):=by
 have hk:((l.drop n).take k).length=k:=by simp;omega
 refine⟨?_,by rw[hk],h⟩;rw[←List.drop_drop];exact(List.take_append_drop k (l.drop n)).symm
theorem VG{l:List Nat}{n:Nat}(hn:n≤l.length)(h:(pY l n 0).2.2=0):Sp l n (pY l n 0).2.1 [(pY l n 0).1]∧(pY l n 0).1∈l:=by
 unfold pY at h⊢;rw[if_neg (by simp)]at h⊢;by_cases hc:((n:Int)==(l.length:Int))=true
 ·rw[if_pos hc]at h;cases h
 ·rw[if_neg hc];have hlt:n<l.length:=by simp at hc;omega
  dsimp only;rw[getElem!_pos l n hlt];exact⟨⟨by rw[List.drop_eq_getElem_cons hlt];rfl,rfl,hlt⟩,List.getElem_mem hlt⟩
theorem zC{l:List Nat}{lim:Int}{n:Nat}(hn:n≤l.length)(h:(gO l lim n 0).2.2=0):Sp l n (gO l lim n 0).2.1 (uB (gO l lim n 0).1)∧((gO l lim n 0).1:Int)≤lim∧(gO l lim n 0).1<4294967296:=by
 obtain⟨b1,b2,-⟩:=AL (l.drop n);unfold gO at h⊢;rw[if_neg (by simp)]at h⊢;split at h
 ·next h1=>simp at h1;exact absurd h (by simpa using h1)
 ·next h1=>
  rw[if_neg h1];split at h
  ·cases h
  ·next h2=>
   rw[if_neg h2];dsimp only;simp only[decide_eq_true_eq,Int.not_lt]at h2;refine⟨?_,h2,b1⟩;simp only[bne_iff_ne,ne_eq,Decidable.not_not]at h1;unfold lR at h1 b2⊢;split at h1
   ·next h3=>exact absurd h1 h3
   ·next h3=>
    rw[if_neg h3]at b2⊢;split at h1
    ·next h4=>
     rw[if_pos h4]at b2⊢;rw[h4.1];simp at b2;exact XN (by simp;omega)
    ·cases h1
theorem RF(n:Int):-9223372036854775808≤IntKind.i64.wrap n∧IntKind.i64.wrap n≤9223372036854775807:=by
 have h1:(2:Int)^IntKind.i64.bits=18446744073709551616:=by decide
 have h3:(2:Int)^(IntKind.i64.bits-1)=9223372036854775808:=by decide
 have h2:IntKind.i64.signed=true:=rfl;unfold IntKind.wrap;simp only[h1,h2,h3,Bool.true_and,decide_eq_true_eq];split<;>omega
theorem aBZ{l:List Nat}{bits:Nat}(hb:bits=32∨bits=64){n:Nat}(hn:n≤l.length)(h:(DK l bits n).2.2=0):Sp l n (DK l bits n).2.1 (sB (DK l bits n).1)∧(-9223372036854775808≤(DK l bits n).1∧(DK l bits n).1≤9223372036854775807)∧(bits=32→ -2147483648≤(DK l bits n).1∧(DK l bits n).1≤2147483647):=by
 have hv:∀t:List Nat,-9223372036854775808≤mA t∧mA t≤9223372036854775807:=by
  intro t
  match t with
  |[]=>simp[mA]
  |[b]=>unfold mA;split<;>omega
  |b::c::t=>
   rw[mA];exact RF _
 have b2:=XI bits (l.drop n);unfold DK at h⊢;dsimp only at h⊢;unfold xU at h b2⊢;split at h
 ·next h3=>exact absurd h h3
 ·next h3=>
  rw[if_neg h3]at b2⊢;split at h
  ·next h4=>
   rw[if_pos h4]at b2⊢;dsimp only at b2⊢;refine⟨?_,hv _,h4.2⟩;rw[h4.1];simp at b2;exact XN (by omega)
  ·cases h
theorem aB0{l:List Nat}{n:Nat}(hn:n≤l.length)(h:(LX l n 0).2=0):Sp l n (LX l n 0).1 [0]:=by
 unfold LX at h⊢;split at h
 ·cases h
 ·next h1=>
  rw[if_neg h1];have:=(VG hn h).1;rw[show(pY l n 0).1=0 by simpa using h1]at this;exact this
theorem aHS{l:List Nat}{n:Nat}{e:Int}(h:e≠0):pY l n e=(0,n,e):=by unfold pY;rw[if_pos (by simpa using h)]
theorem MI{l:List Nat}{lim:Int}{n:Nat}{e:Int}(h:e≠0):gO l lim n e=(0,n,e):=by unfold gO;rw[if_pos (by simpa using h)]
theorem aHT{l:List Nat}{n:Nat}(hn:n≤l.length)(h:(LZ l n 0).2.2=0):Sp l n (LZ l n 0).2.1 [wG (LZ l n 0).1]∧0≤(LZ l n 0).1∧(LZ l n 0).1≤2:=by
 unfold LZ at h⊢;by_cases h1:(if decide (wI (pY l n 0).1<0)=true then((pY l n 0).2.2==0)else false)=true
 ·rw[if_pos h1]at h;cases h
 ·rw[if_neg h1]at h⊢;dsimp only at h⊢;obtain⟨s,-⟩:=VG hn h;have hk:¬wI (pY l n 0).1<0:=by
   intro hk;rw[h,if_pos (by simpa using hk)]at h1;exact h1 rfl
  rw[if_neg hk];generalize hc:(pY l n 0).1=c at hk s⊢;have:c=64∨c=127∨c=126:=by
   by_cases c1:c=64
   ·exact .inl c1
   by_cases c2:c=127
   ·exact .inr (.inl c2)
   by_cases c3:c=126
   ·exact .inr (.inr c3)
   exfalso;apply hk;unfold wI VC;rw[show([64,127,126]:List Int).findIdx? (· ==(c:Int))=none by
    simp only[List.findIdx?_cons,List.findIdx?_nil];rw[if_neg (by simp;omega),if_neg (by simp;omega),if_neg (by simp;omega)];rfl]
   decide
  rcases this with rfl|rfl|rfl<;>exact⟨s,by decide,by decide⟩
theorem VH{l:List Nat}{n:Nat}{e:Int}(h:e≠0):∀m,(rW l m n e).2.2≠0
 |0=>h
 |m+1=>by
  rw[rW];dsimp only;rw[MI (VH h m)];exact VH h m
theorem aB1{l:List Nat}{n:Nat}(hn:n≤l.length):∀m,(rW l m n 0).2.2=0→Sp l n (rW l m n 0).2.1 ((rW l m n 0).1.flatMap fun z=>uB z.toNat)∧∀z∈(rW l m n 0).1,0≤z∧z≤1000
 |0,_=>⟨Sp.nil hn,by simp[rW]⟩
 |m+1,h=>by
  rw[rW]at h⊢;dsimp only at h⊢;have h0:(rW l m n 0).2.2=0:=by
   by_cases hc:(rW l m n 0).2.2=0
   ·exact hc
   ·rw[MI hc]at h;exact h
  obtain⟨s,hz⟩:=aB1 hn m h0;rw[h0]at h⊢;obtain⟨s2,h2,-⟩:=zC s.2.2 h;refine⟨?_,fun z hz2=> ?_⟩
  ·rw[List.flatMap_append];simpa using s.trans s2
  ·rcases List.mem_append.1 hz2 with hz2|hz2
   ·exact hz z hz2
   ·rw[List.mem_singleton.1 hz2];omega
theorem tQ{x:Ins}{n:Nat}{e:Int}(h:(nG x n e).2.2=0):e=0∧nG x n e=(x,n,0):=by
 unfold nG at h⊢;by_cases he:e=0
 ·subst he;exact⟨rfl,rfl⟩
 ·rw[if_pos (by simpa using he)]at h;exact absurd h he
theorem aHU{l:List Nat}{n:Nat}{e:Int}(h:e≠0):(LX l n e).2≠0:=by unfold LX;rw[aHS h,if_neg (by simp)];exact h
theorem aAg(op:Int):aW op=0∨aW op=1∨aW op=2∨aW op=3∨aW op=4∨aW op=5∨aW op=6∨aW op=7∨aW op=8∨aW op=9:=by
 unfold aW iV;repeat' split
 all_goals simp
theorem VI{l:List Nat}{op:Nat}(hop:op<256){n:Nat}(hn:n≤l.length)(hf:(aW (op:Int)==0)=false)(h:(tP l op n 0).2.2=0):
  (tP l op n 0).1.op=op∧(tP l op n 0).1.Ok∧dB (tP l op n 0).1=true∧Sp l n (tP l op n 0).2.1 (fT (tP l op n 0).1):=by
 unfold tP at h⊢;by_cases g2:(aW (op:Int)==2)=true
 ·simp only[g2,if_true]at h⊢;obtain⟨he,hx⟩:=tQ h;rw[hx];obtain⟨s,k1,k2⟩:=aHT hn he;have e2:aW (op:Int)=2:=by simpa using g2
  refine⟨rfl,⟨by dsimp only;omega,by dsimp only;omega,by dsimp only;omega,by dsimp only;omega,by simp⟩,by simp[dB,jD,e2,kG];omega, ?_⟩;simp only[fT,e2];exact s
 simp only[g2,Bool.false_eq_true,if_false]at h⊢;by_cases g3:(aW (op:Int)==3)=true
 ·simp only[g3,if_true]at h⊢;obtain⟨he,hx⟩:=tQ h;rw[hx];obtain⟨s,k1,k2⟩:=zC hn he;have e2:aW (op:Int)=3:=by simpa using g3
  refine⟨rfl,⟨by dsimp only;omega,by dsimp only;omega,by dsimp only;omega,by dsimp only;omega,by simp⟩,by simp[dB,jD,e2,kG];omega, ?_⟩;simp only[fT,e2];exact s
 simp only[g3,Bool.false_eq_true,if_false]at h⊢;by_cases g5:(aW (op:Int)==5)=true
 ·simp only[g5,if_true]at h⊢;obtain⟨he,hx⟩:=tQ h;rw[hx];have h0:(gO l 1000 n 0).2.2=0:=by
   by_cases hc:(gO l 1000 n 0).2.2=0
   ·exact hc
   ·exact absurd he (aHU hc)
  obtain⟨s,k1,k2⟩:=zC hn h0;rw[h0]at he⊢;have s2:=aB0 s.2.2 he;have e2:aW (op:Int)=5:=by simpa using g5
  refine⟨rfl,⟨by dsimp only;omega,by dsimp only;omega,by dsimp only;omega,by dsimp only;omega,by simp⟩,by simp[dB,jD,e2,kG];omega, ?_⟩;simp only[fT,e2];exact s.trans s2
 simp only[g5,Bool.false_eq_true,if_false]at h⊢;by_cases g4:(aW (op:Int)==4)=true
 ·simp only[g4,if_true]at h⊢;obtain⟨he,hx⟩:=tQ h;rw[hx];have h1:(rW l (gO l 50 n 0).1 (gO l 50 n 0).2.1 (gO l 50 n 0).2.2).2.2=0:=by
   by_cases hc:(rW l (gO l 50 n 0).1 (gO l 50 n 0).2.1 (gO l 50 n 0).2.2).2.2=0
   ·exact hc
   ·rw[MI hc]at he;exact he
  have h0:(gO l 50 n 0).2.2=0:=by
   by_cases hc:(gO l 50 n 0).2.2=0
   ·exact hc
   ·exact absurd h1 (VH hc _)
  obtain⟨s,k1,k2⟩:=zC hn h0;rw[h0]at h1 he⊢;obtain⟨s2,hz⟩:=aB1 s.2.2 _ h1;have hlen:=MB (l:=l) (m:=(gO l 50 n 0).1) (n:=(gO l 50 n 0).2.1) (e:=0);rw[h1]at he⊢;obtain⟨s3,k3,k4⟩:=zC s2.2.2 he;have e2:aW (op:Int)=4:=by simpa using g4
  generalize rW l (gO l 50 n 0).1 (gO l 50 n 0).2.1 0=w at*;obtain⟨L,m,e⟩:=w;dsimp only at*;have hany:(L.any fun z=> !pW z 0 1000)=false:=by
   rw[List.any_eq_false];intro z hzz;have:=hz z hzz;simp[kG];omega
  refine⟨rfl,⟨by dsimp only;omega,by dsimp only;omega,by dsimp only;omega,by dsimp only;omega,by simp;omega⟩, ?_, ?_⟩
  ·unfold dB jD;dsimp only;rw[e2,hany];simp[kG];omega
  ·unfold fT;dsimp only;rw[e2,hlen];exact(s.trans s2).trans s3
 simp only[g4,Bool.false_eq_true,if_false]at h⊢;by_cases g6:(aW (op:Int)==6)=true
 ·simp only[g6,if_true]at h⊢;obtain⟨he,hx⟩:=tQ h;rw[hx];have h0:(gO l 3 n 0).2.2=0:=by
   by_cases hc:(gO l 3 n 0).2.2=0
   ·exact hc
   ·rw[MI hc]at he;exact absurd he hc
  obtain⟨s,k1,k2⟩:=zC hn h0;rw[h0]at he⊢;obtain⟨s2,k3,k4⟩:=zC s.2.2 he;have e2:aW (op:Int)=6:=by simpa using g6
  refine⟨rfl,⟨by dsimp only;omega,by dsimp only;omega,by dsimp only;omega,by dsimp only;omega,by simp⟩,by simp[dB,jD,e2,kG];omega, ?_⟩;simp only[fT,e2];exact s.trans s2
 simp only[g6,Bool.false_eq_true,if_false]at h⊢;by_cases g7:(aW (op:Int)==7)=true
 ·simp only[g7,if_true]at h⊢;obtain⟨he,hx⟩:=tQ h;rw[hx];have s:=aB0 hn he;have e2:aW (op:Int)=7:=by simpa using g7
  refine⟨rfl,⟨by dsimp only;omega,by dsimp only;omega,by simp,by simp,by simp⟩,by simp[dB,jD,e2], ?_⟩;simp only[fT,e2];exact s
 simp only[g7,Bool.false_eq_true,if_false]at h⊢;by_cases g8:(aW (op:Int)==8)=true
 ·simp only[g8,if_true]at h⊢;obtain⟨he,hx⟩:=tQ h;rw[hx];obtain⟨s,k1,k2⟩:=aBZ (.inl rfl) hn he;have k2:=k2 rfl;have e2:aW (op:Int)=8:=by simpa using g8
  refine⟨rfl,⟨by dsimp only;omega,by dsimp only;omega,by dsimp only;omega,by dsimp only;omega,by simp⟩,by simp[dB,jD,e2,kG];omega, ?_⟩;simp only[fT,e2];exact s
 simp only[g8,Bool.false_eq_true,if_false]at h⊢;by_cases g9:(aW (op:Int)==9)=true
 ·simp only[g9,if_true]at h⊢;obtain⟨he,hx⟩:=tQ h;rw[hx];obtain⟨s,k1,k2⟩:=aBZ (.inr rfl) hn he;have e2:aW (op:Int)=9:=by simpa using g9
  refine⟨rfl,⟨by dsimp only;omega,by dsimp only;omega,by dsimp only;omega,by dsimp only;omega,by simp⟩,by simp[dB,jD,e2], ?_⟩;simp only[fT,e2];exact s
 simp only[g9,Bool.false_eq_true,if_false]at h⊢;have e2:aW (op:Int)=1:=by
  simp at hf g2 g3 g4 g5 g6 g7 g8 g9;have:=aAg (op:Int);omega
 obtain⟨he,hx⟩:=tQ h;rw[hx];refine⟨rfl,⟨by dsimp only;omega,by dsimp only;omega,by simp,by simp,by simp⟩,by simp[dB,jD,e2], ?_⟩;simp only[fT,e2];exact Sp.nil hn
theorem zD{l:List Nat}(hlt:∀x∈l,x<256)(h:(fG l).2.2=0):(fG l).1.Ok∧dB (fG l).1=true∧Sp l 0 (fG l).2.1 (gG (fG l).1):=by
 unfold fG at h⊢;by_cases g1:(aW ((pY l 0 0).1:Nat)==0)=true
 ·rw[if_pos g1]at h;cases h
 rw[if_neg g1]at h⊢;by_cases g2:((pY l 0 0).2.2 !=0)=true
 ·rw[if_pos g2]at h;rw[show(pY l 0 0).2.2=0 from h]at g2;simp at g2
 rw[if_neg g2]at h⊢;have he:(pY l 0 0).2.2=0:=by simpa using g2
 obtain⟨s,hm⟩:=VG (Nat.zero_le _) he;rw[he]at h⊢;obtain⟨k1,k2,k3,k4⟩:=VI (hlt _ hm) s.2.2 (by simpa using g1) h;refine⟨k2,k3, ?_⟩;have:=s.trans k4;unfold gG;rw[k1];exact this
theorem aMo{P:Prop}(h:P:=by(first|rfl|(simp;done)|(rw[List.drop_zero];exact List.take_of_length_le (by first|(simp;done)|(simp;omega)|omega))|(simp only[List.map_take,List.map_drop,List.drop_zero];done))):P:=h
theorem aB2{α:Type}{l:List α}{n:Nat}(h:l.length≤n):(l.drop 0).take n=l:=by rw[List.drop_zero];exact List.take_of_length_le h
theorem aKo{P:Prop}(h:P:=by(first|exact aB2 (by first|(simp;done)|(simp;omega)|omega)|rfl)):P:=h
section
variable {P : Program} {n : Nat} {ops : Array Oper} {rest : List Oper} {fr : Fr} {σ : dU} {K : ASt → Prop} {op : Op} {ty t t' : TypeId} {pos : String} {af : Array Edge} {x y : Operand} {d : Nat}
variable {listed : Array Bool} {todo : List (Nat × Bool)} {held : List (Nat × List Nat)} {i : Nat}
theorem aHV{e:TypeId}{sz by_:Nat}{zv:Value}{z:Nat}{k:Rk}{ys:List (List AV)}(hi:ops[i]? =some ⟨some d,.call { callee:=.builtin .append,args:=#[x,y],argTypes:=#[t,t] },ty,pos,af,none⟩)(es':List (List AV))(len':Nat)
  (hK:∀r,Fresh r σ→RD P n ops (listed.setIfInBounds i true) todo held ⟨(d,.own r 0 len')::fr,(r,.arr e sz es')::σ⟩ K)
  (i1:Ty P t (.slice e):=by infer_instance) (i2:Tz P e sz by_ zv:=by infer_instance) (hz:zv.cells.size=sz:=by rfl) (h0:Nat.ble 1 sz=true:=by rfl) (hb:aev ⟨fr,σ⟩ x=some (.ro z [] k):=by rfl) (hk:k≠ .any:=by decide) (hy:Src ⟨fr,σ⟩ y sz ys:=by exact aEq) (he:ys=es':=by exact aMo) (hl:len'=ys.length:=by exact MD) (hby:len'*by_≤140737488355328:=by(simp;try omega)) (hd:Nat.ble (d+1) n=true:=by rfl):
  RD P n ops listed ((i,false)::todo) held ⟨fr,σ⟩ K:=by
 subst he hl;exact yQ hi (FF (Nat.le_of_ble_eq_true h0) hz hb hk hy hby (dL hd) hK)
end
theorem iD{fr:Fr}{σ σ1 σ':dU}{r q:Nat}{bt:TypeId}{cs cs':List AV}{e:Ent}(hs:SSet σ r (.box bt cs) r (.box bt cs') σ1)(hd:SDel σ1 q e σ')(hb:BorL σ [q] cs cs'):SGo ⟨fr,σ⟩ ⟨fr,σ'⟩:=by
 refine qL [q] (fun i x' hi=>⟨x',hi,.refl _⟩) (fun p hp=> ?_);obtain⟨h1,h2⟩:=hd.sub p hp;refine⟨by simpa using h2, ?_⟩;rcases List.mem_cons.1 (hs.sub p h1)with rfl|h
 ·exact⟨_,cE hs.get,.box (aBn hb)⟩
 ·exact⟨p.2,(gB h).1,.refl _⟩
theorem oJ{fr:Fr}{σ σ':dU}{o:Nat}{e:TypeId}{sz:Nat}{es:List (List AV)}(k:Nat)(hs:SSet σ o (.arr e sz es) o (.arr e sz (es.take k)) σ'):SGo ⟨fr,σ⟩ ⟨fr,σ'⟩:=by
 intro M F N n a w hr;have hmem:∀p∈σ',(∃x,(p.1,x)∈σ)∧ER M F w p.1 p.2:=by
  intro p hp;rcases List.mem_cons.1 (hs.sub p hp)with rfl|h
  ·refine⟨⟨_,cE hs.get⟩, ?_⟩;obtain⟨h0,h1,h2⟩:=hr.st.ent _ (cE hs.get);refine⟨h0,fun x hx=>h1 x (List.mem_of_mem_take hx), ?_⟩;rcases h2 with⟨h2,h3⟩|⟨g,c,vs,h2,h3,h4,h5,h6,h7⟩
   ·exact .inl ⟨h2,by simp[h3]⟩
   ·refine .inr ⟨g,c,vs,h2,h3,h4,by simp;omega,h6,fun i x j b u hi=> ?_⟩;rw[List.getElem?_take]at hi;split at hi
    ·exact h7 i x j b u hi
    ·cases hi
  ·exact⟨⟨p.2,(gB h).1⟩,hr.st.ent p (gB h).1⟩
 exact⟨M,F,N,⟨hr.size,hr.defers,hr.fr,hr.st.retold hmem⟩,Ext.retold fun p hp=>(hmem p hp).1⟩
theorem jE(a:List Nat):(dE a).size=a.length:=by simp[dE,ByteArray.size]
section
variable {P : Program} {ty t t' : TypeId} {s : ASt} {c : Bool} {x y : Operand}
theorem MJ{e:TypeId} [Ty P t (.slice e)] [Ty P e (.int .u8)] [Ty P t' .string] {bs bs':List Nat}{r off len:Nat}{et:TypeId}(h:Ev s c x (.own r off len))(hg:gJ s.σ r=some (.arr et 1 (bs.map aH)):=by exact aO)(hle:off+len≤bs.length:=by exact MD)(hbs:(bs.drop off).take len=bs':=by exact aKo):Lop P (.convert t t' x) ty s c (.str (dE bs')) [r]:=IG h hg hle hbs
end
end Go.Proofs.YtjpdadobblffmaaGreat
namespace Go.Proofs.YtjpdadobblffmaaGreat
open Go.RowKit Go.ChangeShapes Go.WideShapes Go.ChangeAt Go.Deep
attribute [local irreducible] SW RS RD fH eH
def IS (n:Nat):List AV:=[.int .i64 n]
instance : NoE IS := ⟨fun a x hx => by simp [IS] at hx; subst hx; exact NoF.int⟩
structure Bk where
 at_:Nat
 els:Int
 en:Int
def wK (b:Bk):List AV:=[.int .i64 b.at_,.int .i64 b.els,.int .i64 b.en]
instance : NoE wK := ⟨fun a x hx => by simp [wK] at hx; rcases hx with rfl | rfl | rfl <;> exact NoF.int⟩
def qV (op:Int):Bool:=op==2||op==3||op==4
structure MS where
 all:List Bk
 opn:List Nat
def DZ (ops:List Int) (s:MS) (i:Nat) (op:Int):Option MS:=
 match s.opn.getLast? with
 |none=>none
 |some k=>match s.all[k]? with
  |none=>none
  |some b=>if op=11 then some ⟨s.all.set k ⟨b.at_,b.els,i⟩,s.opn.dropLast⟩
   else if ops[b.at_]? ≠some (4:Int)∨0≤b.els then none else some ⟨s.all.set k ⟨b.at_,i,b.en⟩,s.opn⟩
def oS (ops:List Int) (s:MS) (i:Nat) (op:Int):Option MS:=
 if qV op=true then(if s.opn.length=40 then none else some ⟨s.all++ [⟨i,-1,-1⟩],s.opn++ [s.all.length]⟩)
 else if op≠5∧op≠11 then some s else DZ ops s i op
def pZ (ops:List Int):Nat→Option MS
 |0=>some ⟨[],[]⟩
 |j+1=>match pZ ops j,ops[j]? with
  |some s,some op=>oS ops s j op
  | _,_=>none
theorem xG{ops:List Int}{j:Nat}{s:MS}{op:Int}(h:pZ ops j=some s)(ho:ops[j]? =some op):pZ ops (j+1)=oS ops s j op:=by
 rw[pZ,h,ho]
theorem CM{ops:List Int}{j:Nat}(h:pZ ops j=none):∀d,pZ ops (j+d)=none
 |0=>h
 |d+1=>by rw[←Nat.add_assoc,pZ,CM h d]
structure MOk (j:Nat) (s:MS):Prop where
 opn:∀k∈s.opn,k<s.all.length
 at_:∀b∈s.all,b.at_<j
 len:s.opn.length≤40
 all:s.all.length≤j
theorem aB3{ops:List Int}{j:Nat}{s s':MS}{op:Int}(h:MOk j s)(hs:oS ops s j op=some s'):MOk (j+1) s':=by
 unfold oS at hs;split at hs
 ·split at hs
  ·cases hs
  ·next h40=>
   obtain rfl:=Option.some.inj hs;refine⟨fun k hk=> ?_,fun b hb=> ?_,by have:=h.len;simp;omega,by have:=h.all;simp;omega⟩
   ·rcases List.mem_append.1 hk with hk|hk
    ·have:=h.opn k hk;simp;omega
    ·rw[List.mem_singleton.1 hk];simp
   ·rcases List.mem_append.1 hb with hb|hb
    ·have:=h.at_ b hb;omega
    ·rw[List.mem_singleton.1 hb];exact Nat.lt_succ_self _
 split at hs
 ·obtain rfl:=Option.some.inj hs;exact⟨h.opn,fun b hb=>Nat.lt_succ_of_lt (h.at_ b hb),h.len,Nat.le_succ_of_le h.all⟩
 unfold DZ at hs;split at hs
 ·cases hs
 split at hs
 ·cases hs
 ·next k hk b hb=>
  have hbm:=h.at_ b (List.mem_of_getElem? hb);split at hs
  ·obtain rfl:=Option.some.inj hs;refine⟨fun x hx=> ?_,fun x hx=> ?_,by have:=h.len;simp;omega,by have:=h.all;simp;omega⟩
   ·have:=h.opn x ((List.dropLast_sublist _).subset hx);simpa using this
   ·rcases List.mem_or_eq_of_mem_set hx with hx|rfl
    ·exact Nat.lt_succ_of_lt (h.at_ x hx)
    ·exact Nat.lt_succ_of_lt hbm
  split at hs
  ·cases hs
  ·obtain rfl:=Option.some.inj hs;refine⟨fun x hx=> ?_,fun x hx=> ?_,h.len,by have:=h.all;simp;omega⟩
   ·have:=h.opn x hx;simpa using this
   ·rcases List.mem_or_eq_of_mem_set hx with hx|rfl
    ·exact Nat.lt_succ_of_lt (h.at_ x hx)
    ·exact Nat.lt_succ_of_lt hbm
theorem AR{ops:List Int}:∀ {j:Nat} {s:MS},pZ ops j=some s→MOk j s
 |0,s,h=>by
  obtain rfl:=Option.some.inj h;exact⟨by simp,by simp,by simp,by simp⟩
 |j+1,s,h=>by
  rw[pZ]at h;split at h
  ·next s0 op h1 h2=>exact aB3 (AR h1) h
  ·cases h
def gH (ops:List Int):Option (List Bk):=if 300<ops.length then none else match pZ ops ops.length with|some ⟨all,[]⟩=>some all| _=>none
def blN (ops:List Int):List Bk:=(gH ops).getD []
def xV (ops:List Int):Bool:=(gH ops).isSome
theorem mC{ops:List Int}{j:Nat}(h:pZ ops j=none)(hj:j≤ops.length):gH ops=none:=by
 unfold gH;split
 ·rfl
 ·have:=CM h (ops.length-j);rw[Nat.add_sub_cancel' hj]at this;rw[this]
def cW (l:List Ins):List Int:=l.map Ins.op
theorem wL{l:List Ins}{j:Nat}{x:Ins}(h:l[j]? =some x):(cW l)[j]? =some x.op:=by simp[cW,h]
theorem oK{ops:List Int}{q:Nat}{t:TypeId}(h:gH ops=none):∃q2,AV.tup [.own q 0 0,.bool false]=.tup [.own q2 0 (blN ops).length,.bool (xV ops)]∧([(q,.arr t 3 [])]:dU)=[(q2,.arr t 3 ((blN ops).map wK))]:=
 ⟨q,by simp[blN,xV,h],by simp[blN,h]⟩
theorem zE(op:Int):SCall Tryz.prog 186 [.int .i64 op] [] (fun x σ=>x=.bool (qV op)∧σ=[]):=by
 refine cC 13 [0,2] Tryz.func186 ?_;refine gX ?_;refine lo (cI (E rfl) (E rfl)) rfl ?_;refine lM ?_;refine sL ?_;refine nX ?_;refine lM ?_;refine sL ?_;refine nX ?_;refine cZ ?_;exact aD aE ⟨by show AV.bool _=_;congr 1;simp only[aGK,qV],rfl⟩ aA
theorem CN{ops:List Int}{s:MS}{j:Nat}{op:Int}(h:qV op=true)(hl:s.opn.length≠40):oS ops s j op=some ⟨s.all++ [⟨j,-1,-1⟩],s.opn++ [s.all.length]⟩:=by
 unfold oS;rw[if_pos h,if_neg hl]
theorem CO{ops:List Int}{s:MS}{j:Nat}{op:Int}(h:qV op=true)(hl:s.opn.length=40):oS ops s j op=none:=by
 unfold oS;rw[if_pos h,if_pos hl]
theorem CP{ops:List Int}{s:MS}{j:Nat}{op:Int}(h:qV op=false)(h1:op≠5)(h2:op≠11):oS ops s j op=some s:=by
 unfold oS;rw[if_neg (by simp[h]),if_pos ⟨h1,h2⟩]
theorem AS{ops:List Int}{s:MS}{j:Nat}{op:Int}(h:qV op=false)(h1:op=5∨op=11):oS ops s j op=DZ ops s j op:=by
 unfold oS;rw[if_neg (by simp[h]),if_neg (by omega)]
theorem FZ{ops:List Int}{all:List Bk}{j:Nat}{op:Int}:DZ ops ⟨all,[]⟩ j op=none:=rfl
theorem MK{ops:List Int}{all:List Bk}{pre:List Nat}{k j:Nat}{b:Bk}(hb:all[k]? =some b):DZ ops ⟨all,pre++ [k]⟩ j 11=some ⟨all.set k ⟨b.at_,b.els,j⟩,pre⟩:=by
 unfold DZ;simp[hb]
theorem GA{ops:List Int}{all:List Bk}{pre:List Nat}{k j:Nat}{b:Bk}(hb:all[k]? =some b)(h4:ops[b.at_]? =some 4)(he:¬0≤b.els):DZ ops ⟨all,pre++ [k]⟩ j 5=some ⟨all.set k ⟨b.at_,j,b.en⟩,pre++ [k]⟩:=by
 unfold DZ;simp[hb,h4,he]
theorem ML{ops:List Int}{all:List Bk}{pre:List Nat}{k j:Nat}{b:Bk}(hb:all[k]? =some b)(h:ops[b.at_]? ≠some 4∨0≤b.els):DZ ops ⟨all,pre++ [k]⟩ j 5=none:=by
 unfold DZ;simp[hb];intro h4;rcases h with h|h
 ·exact absurd h4 h
 ·exact h
theorem MM{pre:List Nat}{k:Nat}:(pre++ [k])[(((pre++ [k]).length:Nat)-1:Int).toNat]? =some k:=by
 rw[show(((pre++ [k]).length:Nat)-1:Int).toNat=pre.length by simp];simp
theorem GB{α:Type}{l:List α}{k:Nat}{x:α}(h:l[k]? =some x):l[(k:Int).toNat]? =some x:=by rw[Int.toNat_natCast];exact h
theorem qW(l:List Ins)(hl:l.length≤100000):SCall Tryz.prog 75 [.ro 4 (l.map (iv .any)) .any] []
  (fun y σ=>∃q,y=.tup [.own q 0 (blN (cW l)).length,.bool (xV (cW l))]∧σ=[(q,.arr 162 3 ((blN (cW l)).map wK))]):=by
 have hol:(cW l).length=l.length:=by simp[cW]
 refine cC 113 [0,2,3,4,5,6,7,8,11,12,13,14,15,30,38,52,61,64,81,111] Tryz.func75 ?_;refine dG ?_;refine mK ?_;refine pH ?_;refine sN ?_;refine aB rfl (fun g1=> ?_) (fun g1=> ?_)
 ·refine wB ?_;refine bX 2 162 3 (by decide) rfl (by decide) (bI fun q2 hq2=> ?_);repeat rcases hq2 with⟨_,hq2⟩
  have hN:gH (cW l)=none:=by unfold gH;rw[if_pos (by simp at g1;omega)]
  refine aI ?_;apply aD;exact aE
  ·exact oK hN
  ·exact aA
 refine nQ ?_;refine eU ?_;refine qP ?_;refine bX 4 162 3 (by decide) rfl (by decide) (bI fun a0 ha0=> ?_);repeat rcases ha0 with⟨_,ha0⟩
 refine bX 5 3 1 (by decide) rfl (by decide) (bI fun o0 ho0=> ?_);repeat rcases ho0 with⟨_,ho0⟩
 refine lp (β:=Nat×Nat×Nat×MS) (fun b=>⟨[(0,.ro 4 (l.map (iv .any)) .any),(4,.own b.1 0 b.2.2.2.all.length),(5,.own b.2.1 0 b.2.2.2.opn.length),(12,.ro 4 (l.map (iv .any)) .any),(13,.int .i64 l.length),(14,.int .i64 b.2.2.1)],[(b.1,.arr 162 3 (b.2.2.2.all.map wK)),(b.2.1,.arr 3 1 (b.2.2.2.opn.map IS))]⟩) (fun b=>Nq b.1 b.2.1∧b.2.2.1≤l.length∧pZ (cW l) b.2.2.1=some b.2.2.2) (fun b=>l.length-b.2.2.1) (a0,o0,0,⟨[],[]⟩) aJ ⟨by show Nq a0 o0;(exact bA),Nat.zero_le _,rfl⟩ ?_;rintro⟨a,o,j,all,opn⟩ ⟨hao,hj,hrun⟩;dsimp only at hao hj hrun⊢;obtain⟨hk1,hk2,hk3,hk4⟩:=AR hrun;dsimp only at hk1 hk2 hk3 hk4;refine jL ?_;refine aB rfl (fun g6=> ?_) (fun g6=> ?_)
 ·have hlt:j<l.length:=by simp at g6;omega
  obtain⟨x,hx⟩:∃x,l[j]? =some x:=⟨_,List.getElem?_eq_getElem hlt⟩
  have hnx:=xG hrun (wL hx);refine dO ?_;refine qQ ?_;refine jZ fun r7 h7=> ?_;intros
  refine lo (bU (E rfl)) rfl ?_;refine nB ?_;refine pH ?_;refine iX ?_;refine lS Tryz.call186 (zE _) rfl aU bC ?_;refine lM ?_;refine sL ?_;refine kM ?_;refine aB rfl (fun g10=> ?_) (fun g10=> ?_)
  ·refine wB ?_;refine bX 2 162 3 (by decide) rfl (by decide) (bI fun q2 hq2=> ?_);repeat rcases hq2 with⟨_,hq2⟩
   have hN:gH (cW l)=none:=by replace g10:=bT g10;exact mC (hnx.trans (CO (s:=⟨all,opn⟩) g10.1 (by show opn.length=40;omega))) (by omega)
   refine aI ?_;apply aD;exact aE
   ·exact oK hN
   ·exact aA
  refine fE ?_;refine lS Tryz.call186 (zE _) rfl aU bC ?_;refine cZ ?_;refine aB rfl (fun g12=> ?_) (fun g12=> ?_)
  ·have hnn:=hnx.trans (CN g12 (by intro he;simp[g12,he]at g10));refine oR ?_;refine eS fun r45 h45=> ?_;intros
   refine kI ((opn++ [all.length]).map IS) (opn++ [all.length]).length ?_;refine bL fun r46 h46=> ?_;intros
   refine nR ?_;refine jY ?_;refine eS fun r50 h50=> ?_;intros
   refine kI ((all++ [(Bk.mk j (-1) (-1))]).map wK) (all++ [(Bk.mk j (-1) (-1))]).length ?_;refine bL fun r51 h51=> ?_;intros
   refine cZ ?_;obtain⟨A,O,hAO,rfl,rfl⟩:∃A O,Nq A O∧A=r51∧O=r46:=⟨_,_,by(exact bA),rfl,rfl⟩
   refine QP ?_;refine⟨(A,O,j+1,_),⟨hAO,hlt,hnn⟩,by show l.length-(j+1)<l.length-j;omega, ?_⟩;dsimp only;exact aJ
  refine fE ?_;refine lo (gA (E rfl) (E rfl)) rfl ?_;refine nM ?_;refine aD2 ?_;refine kM ?_;refine aB rfl (fun g15=> ?_) (fun g15=> ?_)
  ·have hnn:=hnx.trans (CP g12 (by replace g15:=bT g15;exact g15.1) (by replace g15:=bT g15;exact g15.2));obtain⟨A,O,hAO,rfl,rfl⟩:∃A O,Nq A O∧A=a∧O=o:=⟨_,_,by(exact bA),rfl,rfl⟩
   refine lZ ?_;refine⟨(A,O,j+1,_),⟨hAO,hlt,hnn⟩,by show l.length-(j+1)<l.length-j;omega, ?_⟩;dsimp only;exact aJ
  have h5:x.op=5∨x.op=11:=by replace g15:=bT g15;omega
  have hnx:=hnx.trans (AS g12 h5);refine dO ?_;refine QM ?_;refine aB rfl (fun g16=> ?_) (fun g16=> ?_)
  ·refine wB ?_;refine bX 2 162 3 (by decide) rfl (by decide) (bI fun q2 hq2=> ?_);repeat rcases hq2 with⟨_,hq2⟩
   have hN:gH (cW l)=none:=by obtain rfl:opn=[]:=(by simpa using g16);exact mC (hnx.trans FZ) (by omega)
   refine aI ?_;apply aD;exact aE
   ·exact oK hN
   ·exact aA
  have hne:opn≠ []:=by intro h;simp[h]at g16
  obtain⟨pre,k,rfl⟩:∃pre k,opn=pre++ [k]:=⟨opn.dropLast,opn.getLast hne,(List.dropLast_concat_getLast hne).symm⟩
  have hkl:=hk1 k (by simp);obtain⟨b,hb⟩:∃b,all[k]? =some b:=⟨_,List.getElem?_eq_getElem hkl⟩
  have hpl:(pre++ [k]).length=pre.length+1:=by simp
  have hlast:=MM (pre:=pre) (k:=k);have hbt:=GB hb;refine fE ?_;refine QM ?_;refine aB rfl (fun g18=> ?_) (fun g18=> ?_)
  ·have h11:x.op=11:=by simpa using g18
   have hnn:=hnx;rw[h11,MK hb]at hnn;obtain⟨A,O,hAO,rfl,rfl⟩:∃A O,Nq A O∧A=a∧O=o:=⟨_,_,by(exact bA),rfl,rfl⟩
   refine uZ ?_;refine sK ?_;refine mJ ?_;refine JQ ?_;refine yT ?_;refine jI ?_;refine kL ?_;refine sK ?_;refine aD1 ?_;refine cZ ?_;rw[show((((pre++ [k]).length:Nat):Int)-1).toNat-0=pre.length by simp];refine dZ (oJ (o:=O) pre.length cJ) ?_;rw[show(all.map wK).set (k:Int).toNat [.int .i64 (b.at_:Int),.int .i64 b.els,.int .i64 (j:Int)]=(all.set k ⟨b.at_,b.els,j⟩).map wK by rw[Int.toNat_natCast,List.map_set];rfl,show List.take pre.length ((pre++ [k]).map IS)=pre.map IS by simp];refine QP ?_;refine⟨(A,O,j+1,_),⟨hAO,hlt,hnn⟩,by show l.length-(j+1)<l.length-j;omega, ?_⟩;dsimp only;exact aJ
  have h05:x.op=5:=by simp at g18;omega
  have hnx:=by have:=hnx;rw[h05]at this;exact this
  have hba:=hk2 b (List.mem_of_getElem? hb);obtain⟨y,hy⟩:∃y,l[b.at_]? =some y:=⟨_,List.getElem?_eq_getElem (by omega)⟩
  have hyt:=GB hy;have hoy:=wL hy;refine uZ ?_;refine lo (aF (E rfl)) rfl ?_;refine sK ?_;refine mJ ?_;refine II ?_;refine yS ?_;refine z16 ?_;refine II ?_;refine yS ?_;refine z16 ?_;refine lo (gA (E rfl) (E rfl)) rfl ?_;refine lM ?_;refine nW ?_;refine nW ?_;refine aHw ?_;refine DU ?_;refine DV ?_;refine DU ?_;refine QJ ?_;refine DV ?_;refine US ?_;refine nX ?_;refine cZ ?_;refine aB rfl (fun g21=> ?_) (fun g21=> ?_)
  ·refine wB ?_;refine bX 2 162 3 (by decide) rfl (by decide) (bI fun q2 hq2=> ?_);repeat rcases hq2 with⟨_,hq2⟩
   have hN:gH (cW l)=none:=mC (hnx.trans (ML hb (by rw[hoy];replace g21:=bT g21;rcases g21 with h|h;exact .inl (fun e=>h (Option.some.inj e));exact .inr h))) (by omega);refine aI ?_;apply aD;exact aE
   ·exact oK hN
   ·exact aA
  have hnn:=hnx.trans (GA hb (by rw[hoy];replace g21:=bT g21;rw[g21.1]) (by replace g21:=bT g21;exact g21.2));obtain⟨A,O,hAO,rfl,rfl⟩:∃A O,Nq A O∧A=a∧O=o:=⟨_,_,by(exact bA),rfl,rfl⟩
  refine uZ ?_;refine sK ?_;refine mJ ?_;refine JQ ?_;refine yT ?_;refine jI ?_;rw[show(all.map wK).set (k:Int).toNat [.int .i64 (b.at_:Int),.int .i64 (j:Int),.int .i64 b.en]=(all.set k ⟨b.at_,j,b.en⟩).map wK by rw[Int.toNat_natCast,List.map_set];rfl];refine QP ?_;refine⟨(A,O,j+1,_),⟨hAO,hlt,hnn⟩,by show l.length-(j+1)<l.length-j;omega, ?_⟩;dsimp only;exact aJ
 obtain rfl:j=l.length:=by simp at g6;omega
 refine dO ?_;refine pH ?_;refine sN ?_;refine aB rfl (fun g24=> ?_) (fun g24=> ?_)
 ·refine wB ?_;refine bX 2 162 3 (by decide) rfl (by decide) (bI fun q2 hq2=> ?_);repeat rcases hq2 with⟨_,hq2⟩
  have hN:gH (cW l)=none:=by unfold gH;rw[hol,hrun,if_neg (by simp at g1;omega)];cases opn with|nil=>simp at g24|cons z zs=>rfl
  refine aI ?_;apply aD;exact aE
  ·exact oK hN
  ·exact aA
 refine dO ?_;refine jK ?_;apply aD;exact aE
 ·have hN:gH (cW l)=some all:=by unfold gH;rw[hol,hrun,if_neg (by simp at g1;omega)];cases opn with|nil=>rfl|cons z zs=>simp at g24
  simp only[blN,xV,hN,Option.getD_some,Option.isSome_some];exact⟨a,rfl,rfl⟩
 ·exact aA
theorem aAh(l:List Ins)(hl:l.length≤100000):SCall Tryz.prog 155 [.ro 4 (l.map (iv .any)) .any] []
  (fun y σ=>∃q,y=.tup [.own q 0 (blN (cW l)).length,.bool (xV (cW l))]∧σ=[(q,.arr 298 3 ((blN (cW l)).map wK))]):=by
 have hol:(cW l).length=l.length:=by simp[cW]
 refine cC 99 [0,2,3,4,5,6,7,11,18,19,35,36,40,64,70,74,97] Tryz.func155 ?_;refine dG ?_;refine jK ?_;refine jH ?_;refine jC ?_;refine jC ?_;refine cZ ?_;refine bX 4 298 3 (by decide) rfl (by decide) (bI fun a0 ha0=> ?_);repeat rcases ha0 with⟨_,ha0⟩
 refine bX 5 3 1 (by decide) rfl (by decide) (bI fun o0 ho0=> ?_);repeat rcases ho0 with⟨_,ho0⟩
 refine lp (β:=Nat×Nat×Nat×MS) (fun b=>⟨[(0,.ro 4 (l.map (iv .any)) .any),(4,.own b.1 0 b.2.2.2.all.length),(5,.own b.2.1 0 b.2.2.2.opn.length),(6,.int .i64 b.2.2.1)],[(b.1,.arr 298 3 (b.2.2.2.all.map wK)),(b.2.1,.arr 3 1 (b.2.2.2.opn.map IS))]⟩) (fun b=>Nq b.1 b.2.1∧b.2.2.1≤l.length∧pZ (cW l) b.2.2.1=some b.2.2.2) (fun b=>l.length-b.2.2.1) (a0,o0,0,⟨[],[]⟩) aJ ⟨by show Nq a0 o0;(exact bA),Nat.zero_le _,rfl⟩ ?_;rintro⟨a,o,j,all,opn⟩ ⟨hao,hj,hrun⟩;dsimp only at hao hj hrun⊢;obtain⟨hk1,hk2,hk3,hk4⟩:=AR hrun;dsimp only at hk1 hk2 hk3 hk4;refine oR ?_;refine oP ?_;refine aB rfl (fun g4=> ?_) (fun g4=> ?_)
 ·have hlt:j<l.length:=by simp at g4;omega
  obtain⟨x,hx⟩:∃x,l[j]? =some x:=⟨_,List.getElem?_eq_getElem hlt⟩
  have hnx:=xG hrun (wL hx);refine dF ?_;refine II ?_;refine yS ?_;refine z16 ?_;refine jI ?_;have hO:(x.op==2||(x.op==3||x.op==4))=qV x.op:=by unfold qV;rw[Bool.or_assoc]
  refine eV ?_;apply fD rfl;exact cT
  ·intro _;(refine aI ?_);refine eV ?_;apply eD rfl;exact cT
   ·intro _;(refine aI ?_);refine eV ?_;exact aJ
   exact aJ
  refine aI ?_;refine aB rfl (fun g7=> ?_) (fun g7=> ?_)
  ·have hso:qV x.op=true:=hO▸g7;refine oR ?_;refine eS fun r26 h26=> ?_;intros
   refine kI ((opn++ [all.length]).map IS) (opn++ [all.length]).length ?_;refine bL fun r27 h27=> ?_;intros
   refine nR ?_;refine jY ?_;refine eS fun r31 h31=> ?_;intros
   refine kI ((all++ [(Bk.mk j (-1) (-1))]).map wK) (all++ [(Bk.mk j (-1) (-1))]).length ?_;refine bL fun r32 h32=> ?_;intros
   refine iF ?_;refine pH ?_;refine sN ?_;refine aB rfl (fun g12=> ?_) (fun g12=> ?_)
   ·refine wB ?_;refine bX 2 298 3 (by decide) rfl (by decide) (bI fun q2 hq2=> ?_);repeat rcases hq2 with⟨_,hq2⟩
    have hN:gH (cW l)=none:=mC (hnx.trans (CO (s:=⟨all,opn⟩) hso (by show opn.length=40;simp at g12;omega))) (by omega);refine aI ?_;apply aD;exact aE
    ·exact oK hN
    ·exact aA
   have hnn:=hnx.trans (CN hso (by intro he;simp at g12;simp at he;omega));obtain⟨A,O,hAO,rfl,rfl⟩:∃A O,Nq A O∧A=r32∧O=r27:=⟨_,_,by(exact bA),rfl,rfl⟩
   refine lI ?_;refine⟨(A,O,j+1,_),⟨hAO,hlt,hnn⟩,by show l.length-(j+1)<l.length-j;omega, ?_⟩;dsimp only;exact aJ
  have hso:qV x.op=false:=hO▸g7;refine dC ?_;refine aB rfl (fun g14=> ?_) (fun g14=> ?_)
  ·have h5:x.op=5:=by simpa using g14
   have hnx:=hnx.trans (AS hso (.inl h5));rw[h5]at hnx;refine dO ?_;refine uM ?_;refine aB rfl (fun g15=> ?_) (fun g15=> ?_)
   ·refine wB ?_;refine bX 2 298 3 (by decide) rfl (by decide) (bI fun q2 hq2=> ?_);repeat rcases hq2 with⟨_,hq2⟩
    have hN:gH (cW l)=none:=by obtain rfl:opn=[]:=(by simpa using g15);exact mC (hnx.trans FZ) (by omega)
    refine aI ?_;apply aD;exact aE
    ·exact oK hN
    ·exact aA
   have hne:opn≠ []:=by intro h;simp[h]at g15
   obtain⟨pre,k,rfl⟩:∃pre k,opn=pre++ [k]:=⟨opn.dropLast,opn.getLast hne,(List.dropLast_concat_getLast hne).symm⟩
   have hkl:=hk1 k (by simp);obtain⟨b,hb⟩:∃b,all[k]? =some b:=⟨_,List.getElem?_eq_getElem hkl⟩
   have hpl:(pre++ [k]).length=pre.length+1:=by simp
   have hlast:=MM (pre:=pre) (k:=k);have hbt:=GB hb;have hba:=hk2 b (List.mem_of_getElem? hb);obtain⟨y,hy⟩:∃y,l[b.at_]? =some y:=⟨_,List.getElem?_eq_getElem (by omega)⟩
   have hyt:=GB hy;have hoy:=wL hy;refine oR ?_;refine sK ?_;refine mJ ?_;refine nR ?_;refine sO ?_;refine II ?_;refine yS ?_;refine z16 ?_;refine lo (gA (E rfl) (E rfl)) rfl ?_;refine lM ?_;refine nW ?_;refine DU ?_;refine QJ ?_;refine DV ?_;refine US ?_;refine lP ?_;refine aB rfl (fun g18=> ?_) (fun g18=> ?_)
   ·refine wB ?_;refine bX 2 298 3 (by decide) rfl (by decide) (bI fun q2 hq2=> ?_);repeat rcases hq2 with⟨_,hq2⟩
    have hN:gH (cW l)=none:=mC (hnx.trans (ML hb (by rw[hoy];replace g18:=bT g18;rcases g18 with h|h;exact .inl (fun e=>h (Option.some.inj e));exact .inr h))) (by omega);refine aI ?_;apply aD;exact aE
    ·exact oK hN
    ·exact aA
   have hnn:=hnx.trans (GA hb (by rw[hoy];replace g18:=bT g18;rw[g18.1]) (by replace g18:=bT g18;exact g18.2));refine dF ?_;refine JQ ?_;refine yT ?_;refine jI ?_;rw[show(all.map wK).set (k:Int).toNat [.int .i64 (b.at_:Int),.int .i64 (j:Int),.int .i64 b.en]=(all.set k ⟨b.at_,j,b.en⟩).map wK by rw[Int.toNat_natCast,List.map_set];rfl];obtain⟨A,O,hAO,rfl,rfl⟩:∃A O,Nq A O∧A=a∧O=o:=⟨_,_,by(exact bA),rfl,rfl⟩
   refine eU ?_;refine AE ?_;refine⟨(A,O,j+1,_),⟨hAO,hlt,hnn⟩,by show l.length-(j+1)<l.length-j;omega, ?_⟩;dsimp only;exact aJ
  have hn5:x.op≠5:=by simpa using g14
  refine dC ?_;refine aB rfl (fun g21=> ?_) (fun g21=> ?_)
  ·have h11:x.op=11:=by simpa using g21
   have hnx:=hnx.trans (AS hso (.inr h11));rw[h11]at hnx;refine dO ?_;refine uM ?_;refine aB rfl (fun g22=> ?_) (fun g22=> ?_)
   ·refine wB ?_;refine bX 2 298 3 (by decide) rfl (by decide) (bI fun q2 hq2=> ?_);repeat rcases hq2 with⟨_,hq2⟩
    have hN:gH (cW l)=none:=by obtain rfl:opn=[]:=(by simpa using g22);exact mC (hnx.trans FZ) (by omega)
    refine aI ?_;apply aD;exact aE
    ·exact oK hN
    ·exact aA
   have hne:opn≠ []:=by intro h;simp[h]at g22
   obtain⟨pre,k,rfl⟩:∃pre k,opn=pre++ [k]:=⟨opn.dropLast,opn.getLast hne,(List.dropLast_concat_getLast hne).symm⟩
   have hkl:=hk1 k (by simp);obtain⟨b,hb⟩:∃b,all[k]? =some b:=⟨_,List.getElem?_eq_getElem hkl⟩
   have hpl:(pre++ [k]).length=pre.length+1:=by simp
   have hlast:=MM (pre:=pre) (k:=k);have hbt:=GB hb;have hnn:=hnx;rw[MK hb]at hnn;refine uZ ?_;refine pH ?_;refine sK ?_;refine mJ ?_;refine JQ ?_;refine yT ?_;refine jI ?_;refine kL ?_;refine pH ?_;refine sK ?_;refine aD1 ?_;refine cZ ?_;rw[show((((pre++ [k]).length:Nat):Int)-1).toNat-0=pre.length by simp];refine dZ (oJ (o:=o) pre.length cJ) ?_;rw[show(all.map wK).set (k:Int).toNat [.int .i64 (b.at_:Int),.int .i64 b.els,.int .i64 (j:Int)]=(all.set k ⟨b.at_,b.els,j⟩).map wK by rw[Int.toNat_natCast,List.map_set];rfl,show List.take pre.length ((pre++ [k]).map IS)=pre.map IS by simp];obtain⟨A,O,hAO,rfl,rfl⟩:∃A O,Nq A O∧A=a∧O=o:=⟨_,_,by(exact bA),rfl,rfl⟩
   refine eU ?_;refine AE ?_;refine⟨(A,O,j+1,_),⟨hAO,hlt,hnn⟩,by show l.length-(j+1)<l.length-j;omega, ?_⟩;dsimp only;exact aJ
  have hnn:=hnx.trans (CP hso hn5 (by simpa using g21));obtain⟨A,O,hAO,rfl,rfl⟩:∃A O,Nq A O∧A=a∧O=o:=⟨_,_,by(exact bA),rfl,rfl⟩
  refine lI ?_;refine⟨(A,O,j+1,_),⟨hAO,hlt,hnn⟩,by show l.length-(j+1)<l.length-j;omega, ?_⟩;dsimp only;exact aJ
 obtain rfl:j=l.length:=by simp at g4;omega
 refine dO ?_;refine pH ?_;refine aKe ?_;refine rK ?_;refine LN ?_;refine lP ?_;refine aB rfl (fun g26=> ?_) (fun g26=> ?_)
 ·refine wB ?_;refine bX 2 298 3 (by decide) rfl (by decide) (bI fun q2 hq2=> ?_);repeat rcases hq2 with⟨_,hq2⟩
  have hN:gH (cW l)=none:=by replace g26:=bT g26;unfold gH;split;rfl;(rw[hol,hrun];cases opn with|nil=>(exfalso;simp at g26;omega)|cons z zs=>rfl)
  refine aI ?_;apply aD;exact aE
  ·exact oK hN
  ·exact aA
 have hN:gH (cW l)=some all:=by replace g26:=bT g26;unfold gH;rw[hol,hrun,if_neg (by omega)];cases opn with|nil=>rfl|cons z zs=>simp at g26
 refine dO ?_;refine jK ?_;apply aD;exact aE
 ·simp only[blN,xV,hN,Option.getD_some,Option.isSome_some];exact⟨a,rfl,rfl⟩
 ·exact aA
end Go.Proofs.YtjpdadobblffmaaGreat
namespace Go.Proofs.YtjpdadobblffmaaGreat
open Go.RowKit Go.ChangeShapes Go.WideShapes Go.ChangeAt Go.Deep
def iS (l:List Ins):List Nat:=l.flatMap gG++ [11]
def dN (d:Int) (op:Int):Int:=if(op==11)=true then d-1 else if qV op=true then d+1 else d
def RG (b:List Nat):Nat→Nat→Int→List Ins→List Ins×Nat×Int
 |0,_,_,_=>([],0,4)
 |f+1,k,d,l=>
  if((fG (b.drop k)).2.2 !=0)=true then([],0,(fG (b.drop k)).2.2)
  else if dN d (fG (b.drop k)).1.op<0 then(if xV (cW l)=true then(l,k+(fG (b.drop k)).2.1,0)else([],0,1))
  else RG b f (k+(fG (b.drop k)).2.1) (dN d (fG (b.drop k)).1.op) (l++ [(fG (b.drop k)).1])
def lK (b:List Nat):List Ins×Nat×Int:=RG b 301 0 0 []
theorem aHW{d op:Int}(hd:0≤d):dN d op<0↔((op==11)=true∧d=0):=by
 unfold dN;split
 ·next h=>constructor;intro h2;exact⟨h,by omega⟩;intro h2;omega
 ·next h=>
  constructor
  ·intro h2;split at h2<;>omega
  ·intro h2;exact absurd h2.1 h
theorem XO(b:List Nat):∀(f k:Nat) (d:Int) (l:List Ins),(RG b f k d l).2.2≠0→(RG b f k d l).1=[]∧(RG b f k d l).2.1=0
 |0,k,d,l=>fun _=>⟨rfl,rfl⟩
 |f+1,k,d,l=>by
  rw[RG];split
  ·exact fun _=>⟨rfl,rfl⟩
  split
  ·split
   ·exact fun h=>absurd rfl h
   ·exact fun _=>⟨rfl,rfl⟩
  ·exact XO b f _ _ _
theorem aB4(b:List Nat)(h:(lK b).2.2≠0):(lK b).1=[]∧(lK b).2.1=0:=XO _ _ _ _ _ h
theorem aHX{x:Ins}(hx:x.Ok)(hm:dB x=true)(h:x.op=11):x=⟨11,0,0,[]⟩:=by
 have f17:=aGH hm (by rw[h];rfl);have fb:=aGI hm (by rw[h];decide);have fl:=aGJ hm (by rw[h];decide);obtain⟨op,a,c,L⟩:=x;dsimp only at h f17 fb fl;subst h f17 fb fl;rfl
theorem Sp.of_drop {b p:List Nat}{k n:Nat}(hk:k≤b.length)(h:Sp (b.drop k) 0 n p):Sp b k (k+n) p:=by
 obtain⟨h1,h2,h3⟩:=h;rw[List.drop_zero,List.drop_drop]at h1;rw[List.length_drop]at h3;exact⟨h1,by omega,by omega⟩
theorem KD{b:List Nat}(hb:∀x∈b,x<256):∀(f k:Nat) (d:Int) (l:List Ins),0≤d→(RG b f k d l).2.2=0→Sp b 0 k (l.flatMap gG)→(∀x∈l,x.Ok∧dB x=true)→
  xV (cW (RG b f k d l).1)=true∧Sp b 0 (RG b f k d l).2.1 (iS (RG b f k d l).1)∧∀x∈(RG b f k d l).1,x.Ok∧dB x=true
 |0,k,d,l=>fun _ h=>by cases h
 |f+1,k,d,l=>by
  intro hd h hs hl;rw[RG]at h⊢;by_cases h1:((fG (b.drop k)).2.2 !=0)=true
  ·rw[if_pos h1]at h;rw[show(fG (b.drop k)).2.2=0 from h]at h1;simp at h1
  rw[if_neg h1]at h⊢;have he:(fG (b.drop k)).2.2=0:=by simpa using h1
  obtain⟨ho,hm,hsp⟩:=zD (fun x hx=>hb x (List.mem_of_mem_drop hx)) he;have hsp:=Sp.of_drop hs.2.2 hsp;by_cases h2:dN d (fG (b.drop k)).1.op<0
  ·rw[if_pos h2]at h⊢;by_cases h3:xV (cW l)=true
   ·rw[if_pos h3]at h⊢;refine⟨h3, ?_,hl⟩;have h11:=((aHW hd).1 h2).1;rw[aHX ho hm (by simpa using h11)]at hsp;exact hs.trans hsp
   ·rw[if_neg h3]at h;cases h
  ·rw[if_neg h2]at h⊢;refine KD hb f _ _ _ (by omega) h ?_ ?_
   ·rw[List.flatMap_append];simpa using hs.trans hsp
   ·intro x hx;rcases List.mem_append.1 hx with hx|hx
    ·exact hl x hx
    ·rw[List.mem_singleton.1 hx];exact⟨ho,hm⟩
theorem VJ{b:List Nat}(hb:∀x∈b,x<256)(h:(lK b).2.2=0):xV (cW (lK b).1)=true∧Sp b 0 (lK b).2.1 (iS (lK b).1)∧∀x∈(lK b).1,x.Ok∧dB x=true:=
 KD hb 301 0 0 [] (Int.le_refl 0) h (Sp.nil (Nat.zero_le _)) (by simp)
theorem MN{ops:List Int}(h:xV ops=true):ops.length≤300:=by
 unfold xV gH at h;split at h
 ·cases h
 ·omega
theorem XP{ops:List Int}(h:xV ops=true):∃all,pZ ops ops.length=some ⟨all,[]⟩:=by
 unfold xV gH at h;split at h
 ·cases h
 ·split at h
  ·next all h2=>exact⟨all,h2⟩
  ·cases h
theorem aHY{ops:List Int}(h:xV ops=true){j:Nat}(hj:j≤ops.length):∃s,pZ ops j=some s:=by
 obtain⟨all,h⟩:=XP h;cases hs:pZ ops j with
 |some s=>exact⟨s,rfl⟩
 |none=>
  have:=CM hs (ops.length-j);rw[Nat.add_sub_cancel' hj,h]at this;cases this
theorem aEy{ops:List Int}{s s':MS}{i:Nat}{op:Int}(h:oS ops s i op=some s'):(s'.opn.length:Int)=dN s.opn.length op:=by
 unfold oS at h;unfold dN;split at h
 ·next ho=>
  split at h
  ·cases h
  ·obtain rfl:=Option.some.inj h;rw[if_neg (by unfold qV at ho;simp at ho⊢;omega),if_pos ho];simp
 next ho=>
 split at h
 ·next h5=>
  obtain rfl:=Option.some.inj h;rw[if_neg (by simpa using h5.2),if_neg ho]
 next h5=>
 unfold DZ at h;split at h
 ·cases h
 next k hk=>
 split at h
 ·cases h
 split at h
 ·next h11=>
  obtain rfl:=Option.some.inj h;have:s.opn≠ []:=by intro h0;rw[h0]at hk;cases hk
  have:=List.length_pos_iff.2 this;rw[if_pos (by simpa using h11)];simp;omega
 next h11=>
 split at h
 ·cases h
 ·obtain rfl:=Option.some.inj h;rw[if_neg (by simpa using h11),if_neg ho]
theorem aB5{l:List Ins}(hl:∀x∈l,x.Ok∧dB x=true)(hok:xV (cW l)=true)(r:List Nat):∀(m j:Nat) (s:MS) (f:Nat),m+j=l.length→m<f→pZ (cW l) j=some s→
  RG (iS l++r) f ((l.take j).flatMap gG).length s.opn.length (l.take j)=(l,(iS l).length,0):=by
 have hol:(cW l).length=l.length:=by simp[cW]
 have hdrop:∀j,(iS l++r).drop ((l.take j).flatMap gG).length=(l.drop j).flatMap gG++(11::r):=by
  intro j;have:iS l++r=(l.take j).flatMap gG++((l.drop j).flatMap gG++(11::r)):=by
   unfold iS
   conv=>lhs;rw[←List.take_append_drop j l,List.flatMap_append]
   simp
  rw[this,List.drop_left]
 intro m
 induction m with
 |zero=>
  intro j s f hj hf hs;obtain⟨f,rfl⟩:∃g,f=g+1:=⟨f-1,by omega⟩
  obtain rfl:j=l.length:=by omega
  obtain⟨all,ha⟩:=XP hok;rw[hol,hs]at ha;obtain rfl:=Option.some.inj ha;have hg:fG ((iS l++r).drop ((l.take l.length).flatMap gG).length)=(⟨11,0,0,[]⟩,1,0):=by
   rw[hdrop,List.drop_length];exact MC (x:=⟨11,0,0,[]⟩) ⟨by decide,by decide,by decide,by decide,by decide⟩ (by decide) r
  rw[RG,hg,if_neg (by decide),if_pos (show dN (([]:List Nat).length:Nat) 11<0 by decide),List.take_length,if_pos hok];simp[iS]
 |succ m ih=>
  intro j s f hj hf hs;obtain⟨f,rfl⟩:∃g,f=g+1:=⟨f-1,by omega⟩
  have hlt:j<l.length:=by omega
  obtain⟨x,hx⟩:∃x,l[j]? =some x:=⟨_,List.getElem?_eq_getElem hlt⟩
  obtain⟨hxo,hxm⟩:=hl x (List.mem_of_getElem? hx);have hg:fG ((iS l++r).drop ((l.take j).flatMap gG).length)=(x,(gG x).length,0):=by
   rw[hdrop,List.drop_eq_getElem_cons hlt,(List.getElem?_eq_some_iff.1 hx).2,List.flatMap_cons,List.append_assoc];exact MC hxo hxm _
  obtain⟨s',hs'⟩:=aHY hok (j:=j+1) (by omega);have hst:=xG hs (wL hx);rw[hs']at hst;have hd:=aEy hst.symm;have ht:l.take (j+1)=l.take j++ [x]:=by rw[List.take_add_one,hx];rfl
  have hn:=ih (j+1) s' f (by omega) (by omega) hs';rw[RG,hg,if_neg (by simp)];dsimp only;rw[←hd,if_neg (by omega),←ht,←hn,ht,List.flatMap_append];simp
theorem aAi{l:List Ins}(hl:∀x∈l,x.Ok∧dB x=true)(hok:xV (cW l)=true)(r:List Nat):lK (iS l++r)=(l,(iS l).length,0):=by
 have:=MN hok;have hol:(cW l).length=l.length:=by simp[cW]
 exact aB5 hl hok r l.length 0 ⟨[],[]⟩ 301 (by omega) (by omega) rfl
end Go.Proofs.YtjpdadobblffmaaGreat
namespace Go.Proofs.YtjpdadobblffmaaGreat
open Go.RowKit Go.ChangeShapes Go.WideShapes Go.ChangeAt Go.Deep
attribute [local irreducible] SW RS RD fH eH
theorem RH{b:List Nat}{k:Nat}:List.take ((b.map aH).length-k) (List.drop k (b.map aH))=(b.drop k).map aH:=by
 rw[List.map_drop];exact List.take_of_length_le (by simp)
def pJ (l:List Ins) (j:Nat):List Nat:=(l.take j).flatMap gG
theorem XQ{l:List Ins}{j:Nat}{x:Ins}(h:l[j]? =some x):pJ l (j+1)=pJ l j++gG x:=by
 unfold pJ;rw[List.take_add_one,h,List.flatMap_append];simp
theorem VK{l:List Ins}(hm:∀x∈l,x.Ok∧dB x=true)(j:Nat):(pJ l j).length≤200*l.length:=by
 have h1:(pJ l j).length≤200*(l.take j).length:=AQ fun x hx=>hm x (List.mem_of_mem_take hx)
 have:(l.take j).length≤l.length:=by simp;omega
 omega
theorem VL{l:List Ins}:pJ l l.length++ [11]=iS l:=by unfold pJ iS;rw[List.take_length]
theorem AT{l:List Ins}(hm:∀x∈l,x.Ok∧dB x=true):(iS l).length≤200*l.length+1:=by
 rw[←VL];have:=VK hm l.length;simp;omega
theorem aEz{l:List Ins}(hm:∀x∈l,x.Ok∧dB x=true):∀b∈iS l,b<256:=by
 intro b hb;rcases List.mem_append.1 hb with hb|hb
 ·exact RE hm b hb
 ·rw[List.mem_singleton.1 hb];decide
theorem RI(q:Nat)(vs:List Nat)(hvs:vs.length≤20000000)(l:List Ins)(hl:l.length≤310)(hm:∀x∈l,x.Ok∧dB x=true):SCall Tryz.prog 248 [.own q 0 vs.length,.ro 4 (l.map (iv .any)) .any] [(q,.arr 5 1 (vs.map aH))]
  (fun y σ=>∃r,y=.own r 0 (vs++iS l).length∧σ=[(r,.arr 5 1 ((vs++iS l).map aH))]):=by
 refine cC 20 [0,1,4,6,7,8,9,10] Tryz.func248 ?_;refine sQ ?_;refine lp (β:=Nat×Nat) (fun b=>⟨[(0,.own b.1 0 (vs++pJ l b.2).length),(7,.ro 4 (l.map (iv .any)) .any),(8,.int .i64 l.length),(9,.int .i64 b.2)],[(b.1,.arr 5 1 ((vs++pJ l b.2).map aH))]⟩) (fun b=>b.2≤l.length) (fun b=>l.length-b.2) (q,0) (by dsimp only;rw[show vs++pJ l 0=vs by simp[pJ]];(exact aJ)) (Nat.zero_le _) ?_;rintro⟨q1,j⟩ hj;have hpl:=VK hm j;dsimp only at hj⊢;refine jL ?_;refine aB rfl (fun g2=> ?_) (fun g2=> ?_)
 ·have hlt:j<l.length:=by simp at g2;omega
  obtain⟨x,hx⟩:∃x,l[j]? =some x:=⟨_,List.getElem?_eq_getElem hlt⟩
  obtain⟨hxo,hxm⟩:=hm x (List.mem_of_getElem? hx);have hnx:=XQ hx;refine dG ?_;refine qQ ?_;refine jZ fun r6 h6=> ?_;intros
  refine nB ?_;refine mP ?_;refine cw [(q1,.arr 5 1 ((vs++pJ l j).map aH))] Tryz.call242 (CK q1 (vs++pJ l j) (by simp;omega) .any x hxo hxm) rfl aC aA ?_;rintro _ σ' ⟨r15,rfl,rfl⟩ h15;have k15:=bB h15;repeat rcases k15 with⟨_,k15⟩
  refine uF ?_;refine⟨(r15,j+1),hlt,by show l.length-(j+1)<l.length-j;omega, ?_⟩;dsimp only;rw[hnx,←List.append_assoc];exact aJ
 obtain rfl:j=l.length:=by simp at g2;omega
 refine dO ?_;refine eS fun r18 h18=> ?_;intros
 refine kI (((vs++pJ l l.length)++ [11]).map aH) ((vs++pJ l l.length)++ [11]).length ?_;refine bL fun r19 h19=> ?_;intros
 refine cZ ?_;rw[List.append_assoc,VL];exact aD aE ⟨r19,by rfl,rfl⟩ aA
theorem RJ(l:List Ins)(hl:l.length≤310)(hm:∀x∈l,x.Ok∧dB x=true):SCall Tryz.prog 256 [.ro 4 (l.map (iv .any)) .any] []
  (fun y σ=>∃r,y=.own r 0 (iS l).length∧σ=[(r,.arr 5 1 ((iS l).map aH))]):=by
 refine cC 21 [0,2,3,4,8] Tryz.func256 ?_;refine sR ?_;refine jC ?_;refine cZ ?_;refine bX 3 5 1 (by decide) rfl (by decide) (bI fun q0 hq0=> ?_);repeat rcases hq0 with⟨_,hq0⟩
 refine lp (β:=Nat×Nat) (fun b=>⟨[(0,.ro 4 (l.map (iv .any)) .any),(3,.own b.1 0 (pJ l b.2).length),(4,.int .i64 b.2)],[(b.1,.arr 5 1 ((pJ l b.2).map aH))]⟩) (fun b=>b.2≤l.length) (fun b=>l.length-b.2) (q0,0) aJ (Nat.zero_le _) ?_;rintro⟨q1,j⟩ hj;have hpl:=VK hm j;dsimp only at hj⊢;refine oR ?_;refine oP ?_;refine aB rfl (fun g3=> ?_) (fun g3=> ?_)
 ·have hlt:j<l.length:=by simp at g3;omega
  obtain⟨x,hx⟩:∃x,l[j]? =some x:=⟨_,List.getElem?_eq_getElem hlt⟩
  obtain⟨hxo,hxm⟩:=hm x (List.mem_of_getElem? hx);have hnx:=XQ hx;have hpx:=wJ hxo hxm;refine dF ?_;refine mZ ?_;refine sE Tryz.call253 (tO .any x hxo hxm) rfl bW kH ?_;rintro _ σ' ⟨r16,rfl,rfl⟩ h16
  replace h16:=cN h16;repeat rcases h16 with⟨_,h16⟩
  apply aZ;exact bN;refine kI ((pJ l j++gG x).map aH) (pJ l j++gG x).length ?_;refine bL fun r17 h17=> ?_;intros
  refine iF ?_;refine AE ?_;refine⟨(r17,j+1),hlt,by show l.length-(j+1)<l.length-j;omega, ?_⟩;dsimp only;rw[hnx];exact aJ
 obtain rfl:j=l.length:=by simp at g3;omega
 refine dO ?_;refine eS fun r19 h19=> ?_;intros
 refine kI ((pJ l l.length++ [11]).map aH) (pJ l l.length++ [11]).length ?_;refine bL fun r20 h20=> ?_;intros
 refine cZ ?_;rw[VL];exact aD aE ⟨r20,by rfl,rfl⟩ aA
instance : DecidableEq Ins := fun x y => if h : eqN x y = true then .isTrue (MF.1 h) else .isFalse fun e => h (MF.2 e)
theorem aB6(b:List Nat)(hb:b.length≤1000000)(hlt:∀x∈b,x<256):SCall Tryz.prog 266 [.ro 1 (b.map aH) .any] []
  (fun y σ=>∃q,y=.tup [.own q 0 (lK b).1.length,.int .i64 ((lK b).2.1:Nat),.int .i64 (lK b).2.2]∧σ=[(q,.arr 46 4 ((lK b).1.map (iv .any)))]):=by
 refine cC 55 [0,2,3,4,5,6,7,8,9,10,12,22,29,34,38,45,54] Tryz.func266 ?_;refine dG ?_;refine oQ ?_;refine jH ?_;refine jC ?_;refine jC ?_;refine cZ ?_;refine bX 5 46 4 (by decide) rfl (by decide) (bI fun q0 hq0=> ?_);repeat rcases hq0 with⟨_,hq0⟩
 refine lp (β:=Nat×Nat×Int×Nat×List Ins) (fun b'=>⟨[(0,.ro 1 (b.map aH) .any),(5,.own b'.1 0 b'.2.2.2.2.length),(6,.int .i64 b'.2.2.1),(7,.int .i64 b'.2.1)],[(b'.1,.arr 46 4 (b'.2.2.2.2.map (iv .any)))]⟩) (fun b'=>b'.2.1≤b.length∧0≤b'.2.2.1∧b'.2.2.1≤b'.2.2.2.2.length∧b'.2.2.2.1+b'.2.2.2.2.length=301∧1≤b'.2.2.2.1∧lK b=RG b b'.2.2.2.1 b'.2.1 b'.2.2.1 b'.2.2.2.2) (fun b'=>b'.2.2.2.1) (q0,0,0,301,[]) aJ ⟨Nat.zero_le _,Int.le_refl 0,Int.le_refl 0,rfl,by show 1≤301;decide,rfl⟩ ?_;rintro⟨q,k,d,f,l⟩ ⟨hk,hd0,hdl,hfl,hf1,hG⟩;dsimp only at hk hd0 hdl hfl hf1 hG⊢;obtain⟨f,rfl⟩:∃g,f=g+1:=⟨f-1,by omega⟩
 have hlt2:∀x∈b.drop k,x<256:=fun x hx=>hlt x (List.mem_of_mem_drop hx)
 have hsnd:=zD hlt2;rw[RG]at hG;refine dF ?_;refine aHx ?_;rw[RH];refine cw [] Tryz.call298 (KB (b.drop k) (by simp;omega) hlt2) rfl aC aA ?_;rintro _ σ' ⟨q3,rfl,rfl⟩ h17
 replace h17:=gU h17;repeat rcases h17 with⟨_,h17⟩
 apply aZ;exact bN;generalize fG (b.drop k)=gp at hG hsnd⊢;obtain⟨x,n,e⟩:=gp;dsimp only at hG hsnd⊢;refine vA ?_;refine lo (gT (E rfl) rfl) rfl ?_;refine jZ fun r8 h8=> ?_;intros
 apply HW;rfl;rfl;rfl;rfl;exact jU;refine mK ?_;refine sM ?_;refine aB rfl (fun g5=> ?_) (fun g5=> ?_)
 ·refine dO ?_;refine FU ?_;refine bX 2 46 4 (by decide) rfl (by decide) (bI fun q2 hq2=> ?_);repeat rcases hq2 with⟨_,hq2⟩
  have hE:lK b=([],0,e):=by rw[hG,if_pos g5]
  refine aI ?_;exact aD aE ⟨q2,by rw[hE];rfl,by rw[hE]⟩ aA
 rw[if_neg (by simp[g5])]at hG;obtain⟨hxo,hxm,hsp⟩:=hsnd (by simpa using g5);have hkn:k+n≤b.length:=by have:=hsp.2.2;simp at this;omega
 refine dF ?_;refine PR ?_;refine iX ?_;refine rL ?_;refine aB rfl (fun g8=> ?_) (fun g8=> ?_)
 ·have hD:dN d x.op=d-1:=by unfold dN;rw[if_pos g8]
  refine dO ?_;refine sK ?_;refine iF ?_;refine oP ?_;refine aB rfl (fun g12=> ?_) (fun g12=> ?_)
  ·rw[if_pos (by rw[hD];simpa using g12)]at hG;refine dO ?_;refine sE Tryz.call75 (qW l (by omega)) rfl bW kH ?_;rintro _ σ' ⟨q4,rfl,rfl⟩ h41
   replace h41:=cN h41;repeat rcases h41 with⟨_,h41⟩
   refine yG ?_;refine mK ?_;refine nZ ?_;refine aB rfl (fun g14=> ?_) (fun g14=> ?_)
   ·refine dG ?_;refine FU ?_;refine bX 2 46 4 (by decide) rfl (by decide) (bI fun q2 hq2=> ?_);repeat rcases hq2 with⟨_,hq2⟩
    have hE:lK b=([],0,1):=by rw[hG,if_neg];intro h;rw[h]at g14;cases g14
    refine aI ?_;exact aD aE ⟨q2,by rw[hE];rfl,by rw[hE]⟩ aA
   refine dF ?_;refine oQ ?_;have hE:lK b=(l,k+n,0):=by rw[hG,if_pos];cases h:xV (cW l);rw[h]at g14;cases g14;rfl
   exact aD aE ⟨q,by rw[hE];rfl,by rw[hE]⟩ aA
  rw[if_neg (by rw[hD];simpa using g12)]at hG;refine aI ?_;refine dZ (iD (r:=r8) (q:=q3) cJ bH (.cons (.refl _) (.cons (.refl _) (.cons (.refl _) (.cons (aM aO (by simp)) .nil))))) ?_;refine eU ?_;refine mP ?_;refine eS fun r50 h50=> ?_;intros
  refine kI ((l++ [x]).map (iv .any)) (l++ [x]).length ?_;refine bL fun r51 h51=> ?_;intros
  refine iF ?_;refine pH ?_;refine sN ?_;refine aB rfl (fun g18=> ?_) (fun g18=> ?_)
  ·refine dG ?_;refine FU ?_;refine bX 2 46 4 (by decide) rfl (by decide) (bI fun q2 hq2=> ?_);repeat rcases hq2 with⟨_,hq2⟩
   have hE:lK b=([],0,4):=by obtain rfl:f=0:=(by simp at g18;omega);rw[hG];rfl
   refine aI ?_;exact aD aE ⟨q2,by rw[hE];rfl,by rw[hE]⟩ aA
  refine aI ?_;have hf0:l.length+1≤300:=by simp at g18;omega
  refine⟨(r51,k+n,dN d x.op,f,l++ [x]),⟨hkn,by show 0≤dN d x.op;rw[hD];simp at g12;omega,by show dN d x.op≤((l++ [x]).length:Nat);rw[hD];simp;omega,by show f+(l++ [x]).length=301;simp;omega,by show 1≤f;omega,hG⟩,Nat.lt_succ_self _, ?_⟩;dsimp only;rw[hD];exact aJ
 refine fE ?_;refine lS Tryz.call186 (zE _) rfl aU bC ?_;refine jI ?_;refine aB rfl (fun g10=> ?_) (fun g10=> ?_)
 ·have hD:dN d x.op=d+1:=by unfold dN;rw[if_neg (by simp[g8]),if_pos g10]
  refine lI ?_;refine eU ?_;refine oP ?_;refine aB rfl (fun g12=> ?_) (fun g12=> ?_)
  ·rw[if_pos (by rw[hD];simpa using g12)]at hG;refine dO ?_;refine sE Tryz.call75 (qW l (by omega)) rfl bW kH ?_;rintro _ σ' ⟨q4,rfl,rfl⟩ h41
   replace h41:=cN h41;repeat rcases h41 with⟨_,h41⟩
   refine yG ?_;refine mK ?_;refine nZ ?_;refine aB rfl (fun g14=> ?_) (fun g14=> ?_)
   ·refine dG ?_;refine FU ?_;refine bX 2 46 4 (by decide) rfl (by decide) (bI fun q2 hq2=> ?_);repeat rcases hq2 with⟨_,hq2⟩
    have hE:lK b=([],0,1):=by rw[hG,if_neg];intro h;rw[h]at g14;cases g14
    refine aI ?_;exact aD aE ⟨q2,by rw[hE];rfl,by rw[hE]⟩ aA
   refine dF ?_;refine oQ ?_;have hE:lK b=(l,k+n,0):=by rw[hG,if_pos];cases h:xV (cW l);rw[h]at g14;cases g14;rfl
   exact aD aE ⟨q,by rw[hE];rfl,by rw[hE]⟩ aA
  rw[if_neg (by rw[hD];simpa using g12)]at hG;refine aI ?_;refine dZ (iD (r:=r8) (q:=q3) cJ bH (.cons (.refl _) (.cons (.refl _) (.cons (.refl _) (.cons (aM aO (by simp)) .nil))))) ?_;refine eU ?_;refine mP ?_;refine z1 ?_;refine bI fun r50 h50=> ?_;repeat rcases h50 with⟨_,h50⟩
  refine kI ((l++ [x]).map (iv .any)) (l++ [x]).length ?_;refine bL fun r51 h51=> ?_;intros
  refine iF ?_;refine pH ?_;refine sN ?_;refine aB rfl (fun g18=> ?_) (fun g18=> ?_)
  ·refine dG ?_;refine FU ?_;refine bX 2 46 4 (by decide) rfl (by decide) (bI fun q2 hq2=> ?_);repeat rcases hq2 with⟨_,hq2⟩
   have hE:lK b=([],0,4):=by obtain rfl:f=0:=(by simp at g18;omega);rw[hG];rfl
   refine aI ?_;exact aD aE ⟨q2,by rw[hE];rfl,by rw[hE]⟩ aA
  refine aI ?_;have hf0:l.length+1≤300:=by simp at g18;omega
  refine⟨(r51,k+n,dN d x.op,f,l++ [x]),⟨hkn,by show 0≤dN d x.op;rw[hD];simp at g12;omega,by show dN d x.op≤((l++ [x]).length:Nat);rw[hD];simp;omega,by show f+(l++ [x]).length=301;simp;omega,by show 1≤f;omega,hG⟩,Nat.lt_succ_self _, ?_⟩;dsimp only;rw[hD];exact aJ
 have hD:dN d x.op=d:=by unfold dN;rw[if_neg (by simp[g8]),if_neg (by simp[g10])]
 refine dO ?_;refine oP ?_;refine aB rfl (fun g12=> ?_) (fun g12=> ?_)
 ·rw[if_pos (by rw[hD];simpa using g12)]at hG;refine dO ?_;refine sE Tryz.call75 (qW l (by omega)) rfl bW kH ?_;rintro _ σ' ⟨q4,rfl,rfl⟩ h41
  replace h41:=cN h41;repeat rcases h41 with⟨_,h41⟩
  refine yG ?_;refine mK ?_;refine nZ ?_;refine aB rfl (fun g14=> ?_) (fun g14=> ?_)
  ·refine dG ?_;refine FU ?_;refine bX 2 46 4 (by decide) rfl (by decide) (bI fun q2 hq2=> ?_);repeat rcases hq2 with⟨_,hq2⟩
   have hE:lK b=([],0,1):=by rw[hG,if_neg];intro h;rw[h]at g14;cases g14
   refine aI ?_;exact aD aE ⟨q2,by rw[hE];rfl,by rw[hE]⟩ aA
  refine dF ?_;refine oQ ?_;have hE:lK b=(l,k+n,0):=by rw[hG,if_pos];cases h:xV (cW l);rw[h]at g14;cases g14;rfl
  exact aD aE ⟨q,by rw[hE];rfl,by rw[hE]⟩ aA
 rw[if_neg (by rw[hD];simpa using g12)]at hG;refine aI ?_;refine dZ (iD (r:=r8) (q:=q3) cJ bH (.cons (.refl _) (.cons (.refl _) (.cons (.refl _) (.cons (aM aO (by simp)) .nil))))) ?_;refine eU ?_;refine mP ?_;refine z1 ?_;refine bI fun r50 h50=> ?_;repeat rcases h50 with⟨_,h50⟩
 refine kI ((l++ [x]).map (iv .any)) (l++ [x]).length ?_;refine bL fun r51 h51=> ?_;intros
 refine iF ?_;refine pH ?_;refine sN ?_;refine aB rfl (fun g18=> ?_) (fun g18=> ?_)
 ·refine dG ?_;refine FU ?_;refine bX 2 46 4 (by decide) rfl (by decide) (bI fun q2 hq2=> ?_);repeat rcases hq2 with⟨_,hq2⟩
  have hE:lK b=([],0,4):=by obtain rfl:f=0:=(by simp at g18;omega);rw[hG];rfl
  refine aI ?_;exact aD aE ⟨q2,by rw[hE];rfl,by rw[hE]⟩ aA
 refine aI ?_;have hf0:l.length+1≤300:=by simp at g18;omega
 refine⟨(r51,k+n,dN d x.op,f,l++ [x]),⟨hkn,by show 0≤dN d x.op;rw[hD];simp at g12;omega,by show dN d x.op≤((l++ [x]).length:Nat);rw[hD];simp;omega,by show f+(l++ [x]).length=301;simp;omega,by show 1≤f;omega,hG⟩,Nat.lt_succ_self _, ?_⟩;dsimp only;rw[hD];exact aJ
end Go.Proofs.YtjpdadobblffmaaGreat
namespace Go.Proofs.YtjpdadobblffmaaGreat
open Go.RowKit Go.ChangeShapes Go.WideShapes Go.ChangeAt Go.Deep
theorem VLe.ro {sz:Nat}{es es':List (List AV)}{k:Rk}(hl:es.length=es'.length)(hs:jB sz es')
  (h:∀(i:Nat) (e e':List AV),es[i]? =some e→es'[i]? =some e'→e.length=e'.length∧∀(j:Nat) (a a':AV),e[j]? =some a→e'[j]? =some a'→VLe a a'):VLe (.ro sz es k) (.ro sz es' k):=fun M F w v hv=>by
 have hx:∀(i:Nat) (e':List AV),es'[i]? =some e'→∃e,es[i]? =some e:=fun i e' h=>⟨_,List.getElem?_eq_getElem (by have:=(List.getElem?_eq_some_iff.1 h).1;omega)⟩
 have hy:∀(i:Nat) (e':List AV) (j:Nat) (a':AV),es'[i]? =some e'→e'[j]? =some a'→∃e a,es[i]? =some e∧e[j]? =some a∧VLe a a':=fun i e' j a' h1 h2=>by
  obtain⟨e,he⟩:=hx i e' h1;obtain⟨g1,g2⟩:=h i e e' he h1;have hj:=(List.getElem?_eq_some_iff.1 h2).1;have ha:e[j]? =some (e[j]'(by omega)):=List.getElem?_eq_getElem (by omega);exact⟨e,_,he,ha,g2 j _ a' ha h2⟩
 cases hv with
 |ro hb hs' hc hr hle hm hf hn=>
  rw[hl];rw[hl]at hle hf
  rename_i b o cap us
  refine .ro (us:=us) hb hs (fun i e' j a' h1 h2=> ?_) (fun i e' j a' h1 h2=> ?_) hle hm hf hn
  ·obtain⟨e,a,he,ha,-⟩:=hy i e' j a' h1 h2;exact hc i e j a he ha
  ·obtain⟨e,a,he,ha,hv⟩:=hy i e' j a' h1 h2;exact hv _ _ _ _ (hr i e j a he ha)
 |ro0 hm hA hf hn=>
  obtain rfl:es'=[]:=List.length_eq_zero_iff.1 hl.symm;exact .ro0 hm hA hf hn
structure FT where
 pr:List Int
 rs:List Int
structure Im where
 mod:List Nat
 nm:List Nat
 ty:Int
structure Gl where
 mu:Bool
 kd:Int
 n:Int
structure Ex where
 nm:List Nat
 fn:Int
structure El where
 off:Int
 fs:List Int
structure Co where
 ls:List Int
 bd:List Ins
structure Da where
 off:Int
 bs:List Nat
structure Li where
 has:Bool
 mn:Int
 mx:Int
structure Md where
 ty:List FT
 im:List Im
 fn:List Int
 tb:Li
 me:Li
 gl:List Gl
 ex:List Ex
 el:List El
 co:List Co
 da:List Da
def IT:Li:=⟨false,0,0⟩
def md0:Md:=⟨[],[],[],IT,IT,[],[],[],[],[]⟩
def cP (x:FT):List AV:=[.ro 1 (x.pr.map aR) .any,.ro 1 (x.rs.map aR) .any]
def eE (x:Im):List AV:=[.str (dE x.mod),.str (dE x.nm),.int .i64 x.ty]
def eA (x:Gl):List AV:=[.bool x.mu,.int .i64 x.kd,.int .i64 x.n]
def dH (x:Ex):List AV:=[.str (dE x.nm),.int .i64 x.fn]
def dX (x:El):List AV:=[.int .i64 x.off,.ro 1 (x.fs.map aR) .any]
def dP (x:Co):List AV:=[.ro 1 (x.ls.map aR) .any,.ro 4 (x.bd.map (iv .any)) .any]
def eB (x:Da):List AV:=[.int .i64 x.off,.ro 1 (x.bs.map aH) .any]
def fA (x:Li):List AV:=[.bool x.has,.int .i64 x.mn,.int .i64 x.mx]
def aS (m:Md):List AV:=[.ro 2 (m.ty.map cP) .any,.ro 3 (m.im.map eE) .any,.ro 1 (m.fn.map aR) .any,.bool m.tb.has,.int .i64 m.tb.mn,.int .i64 m.tb.mx,.bool m.me.has,.int .i64 m.me.mn,.int .i64 m.me.mx,
 .ro 3 (m.gl.map eA) .any,.ro 2 (m.ex.map dH) .any,.ro 2 (m.el.map dX) .any,.ro 2 (m.co.map dP) .any,.ro 2 (m.da.map eB) .any]
def bD {α:Type} (l:List α) (pt:α→List Nat):List Nat:=uB l.length++l.flatMap pt
def bS (s:List Nat):List Nat:=uB s.length++s
def kB (k:Int):List Nat:=if(k==1)=true then [127]else [126]
def cH (n:Int):List Nat:=uB n.toNat
def mD (k n:Int):List Nat:=gG ⟨if(k==2)=true then 66 else 65,n,0,[]⟩++ [11]
def qX (n:Int):List Nat:=0::mD 1 n
def eM (l:Li):List Nat:=if decide (l.mx<0)=true then 0::cH l.mn else 1::(cH l.mn++cH l.mx)
def cD:List Int→List (List Int):=fun l=>l.foldl (fun r k=>match r.getLast? with
 |some (x::xs)=>if x==k then r.dropLast++ [(x::xs)++ [k]]else r++ [[k]]
 | _=>r++ [[k]]) []
def iH (r:List Int):List Nat:=cH r.length++kB (r.headD 0)
def kP (c:Co):List Nat:=uB (bD (cD c.ls) iH++iS c.bd).length++(bD (cD c.ls) iH++iS c.bd)
def bJ {α:Type} (no:Nat) (l:List α) (pt:α→List Nat):List Nat:=if l.isEmpty then []else no::(uB (bD l pt).length++bD l pt)
def wM (t:FT):List Nat:=96::(bD t.pr kB++bD t.rs kB)
def iY (x:Im):List Nat:=bS x.mod++bS x.nm++ [0]++cH x.ty
def vJ (g:Gl):List Nat:=kB g.kd++ [if g.mu then 1 else 0]++mD g.kd g.n
def nO (x:Ex):List Nat:=bS x.nm++ [0]++cH x.fn
def vO (x:El):List Nat:=qX x.off++bD x.fs cH
def xH (x:Da):List Nat:=qX x.off++uB x.bs.length++x.bs
def gP (l:Li):List Li:=if l.has then [l]else []
def headB:List Nat:=[0,97,115,109,1,0,0,0]
def fI (m:Md):List Nat:=headB++bJ 1 m.ty wM++bJ 2 m.im iY++bJ 3 m.fn cH++bJ 4 (gP m.tb) (fun l=>112::eM l)++bJ 5 (gP m.me) eM++bJ 6 m.gl vJ++bJ 7 m.ex nO++bJ 9 m.el vO++bJ 10 m.co kP++bJ 11 m.da xH
def iB (n:Int):Bool:=if decide (0≤n)=true then decide (n≤1000)else false
def AU (k:Int):Bool:=if(k==1)=true then true else(k==2)
def uO (s:List Nat):Bool:=if(s.length !=0)=true then(decide (s.length≤16)&&s.all fun c=>decide (32≤c)&&decide (c≤126))else false
def kV (n:Int):Bool:=decide (-2147483648≤n)&&decide (n≤2147483647)
def lU (l:Li) (least most:Int):Bool:=if l.has then decide (0≤l.mn)&&decide (l.mn≤least)&&decide (-1≤l.mx)&&decide (l.mx≤most)else(l.mn==0&&l.mx==0)
def cQ {α:Type} (l:List α) (most:Int) (p:α→Bool):Bool:=decide ((l.length:Int)≤most)&&l.all p
def mS (k n:Int):Bool:=(k==1&&decide (-2147483648≤n)&&decide (n≤2147483647))||(k==2)
def pE (m:Md):Bool:=cQ m.ty 16 (fun t=>cQ t.pr 32 AU&&cQ t.rs 1 AU)&&cQ m.im 16 (fun x=>uO x.mod&&uO x.nm&&iB x.ty)&&cQ m.fn (16-m.im.length) iB&&
 cQ m.gl 16 (fun g=>mS g.kd g.n)&&cQ m.ex 16 (fun x=>uO x.nm&&iB x.fn)&&cQ m.el 16 (fun x=>kV x.off&&cQ x.fs 50 iB)&&cQ m.da 16 (fun x=>kV x.off&&decide (x.bs.length≤1000))
def tR (c:Co):Bool:=xV (cW c.bd)&&cQ c.ls 32 AU&&cQ c.bd 300 dB
def mT (m:Md):Bool:=(m.co.length==m.fn.length&&cQ m.co 16 tR)&&pE m&&lU m.tb 16 1000&&lU m.me 16 65536&&decide ((fI m).length≤8000)
theorem GC{k n:Int}(h:mS k n=true)(hn:-9223372036854775808≤n∧n≤9223372036854775807):(⟨if(k==2)=true then 66 else 65,n,0,[]⟩:Ins).Ok∧dB ⟨if(k==2)=true then 66 else 65,n,0,[]⟩=true∧(k=1∨k=2):=by
 unfold mS at h;simp only[Bool.or_eq_true,Bool.and_eq_true,beq_iff_eq,decide_eq_true_eq]at h;rcases h with⟨⟨rfl,h1⟩,h2⟩|rfl
 ·refine⟨⟨by simp,by simp,hn.1,hn.2,by simp⟩, ?_,.inl rfl⟩;rw[if_neg (by decide)];have:aW 65=8:=by decide
  simp[dB,jD,this,kG];omega
 ·refine⟨⟨by simp,by simp,hn.1,hn.2,by simp⟩, ?_,.inr rfl⟩;rw[if_pos (by decide)];have:aW 66=9:=by decide
  simp[dB,jD,this]
theorem wN{P:Program}(w:World)(t u ty e:TypeId)(i:TypeInfo)(ht:P.underlying t=some (.slice e))(hu:P.underlying u=some .string)(hi:P.info? e=some i)(hs1:i.size=1)
  (g sLen sCap:Nat) (cur:Array Value) (fz:Nat×Nat) (hg:w.heap[g]? =some (.cells cur e fz)) (hz:Fz cur.size fz) (s:ByteArray)
  (hroom:sLen+s.size≤sCap) (hfit:sLen+s.size≤cur.size):
  (Builtin.append_ #[t,u] ty #[.slice (some ⟨g,0,none⟩) sLen sCap,.string s]).run P w=
   .ok (.slice (some ⟨g,0,none⟩) (sLen+s.size) sCap) (w.setRow g (cur.toList.take sLen++Lib.strCells s++cur.toList.drop (sLen+s.size)).toArray):=by
 have hf:=Lib.run_firstCells_string (P:=P) w 1 s;have hst:=gZ (P:=P) g sLen e fz (Lib.strCells s) 0 cur w hg hz (by simpa[Lib.strCells_length]using hfit) (Lib.strCells_oneCell s);simp only[Nat.add_zero,Lib.strCells_length]at hst;simp[Builtin.append_,run_underlying ht,run_underlying hu,sizeOf,typeInfo,hi,hs1,Builtin.lenOf,hroom,hf,Addr.add_lit,hst]
theorem EA{P:Program}(w:World)(t u ty e:TypeId)(i:TypeInfo)(ht:P.underlying t=some (.slice e))(hu:P.underlying u=some .string)(hi:P.info? e=some i)(hz:i.zero=some (.int .u8 0))
  (hsize:i.size=1) (hby:i.bytes=1) (v:Value) (n:Nat) (xs:List Value) (hn:0<n) (hown:rowG w 0 e 1 v n xs) (s:ByteArray) (h63:n+s.size≤maxLen) (hbytes:n+s.size≤140737488355328):
  ∃v' w',(Builtin.append_ #[t,u] ty #[v,.string s]).run P w=.ok v' w'∧rowG w' 0 e 1 v' (n+s.size) (xs++Lib.strCells s)∧w.grownBy w' v.ownBlock∧(v'.ownBlock=v.ownBlock∨v'.ownBlock=some w.heap.size):=by
 rcases hown.2 with⟨rfl,rfl⟩|⟨g,cap,cur,fz,rfl,hbg,hg,hfz,hnc,hcm,hcs,htake⟩
 ·omega
 have hl:=Lib.strCells_length s;have hxl:xs.length=n:=by simpa using hown.1
 have hsmall:n+s.size≤9223372036854775807:=by simp only[maxLen]at h63;omega
 have hlen:(xs++Lib.strCells s).length=(n+s.size)*1:=by rw[List.length_append,hxl,hl,Nat.mul_one]
 rw[Nat.mul_one]at hcs htake;by_cases hroom:n+s.size≤cap
 ·have hr:=wN (P:=P) w t u ty e i ht hu hi hsize g n cap cur fz hg hfz s hroom (by omega);have hsz2:(cur.toList.take n++Lib.strCells s++cur.toList.drop (n+s.size)).toArray.size=cur.size:=by
   simp only[List.size_toArray,List.length_append,List.length_take,List.length_drop,Array.length_toList,hl];omega
  refine⟨_,_,hr,⟨hlen,.inr ⟨g,cap,_,fz,rfl,hbg,setRow_heap w g cur _ e _ hg,by rw[hsz2];exact hfz,hroom,hcm,by rw[hsz2];omega, ?_⟩⟩,⟨rfl,rfl,rfl,by simp,fun k _ hk=>setRow_other w g k _ (fun e=>hk (by simp[Value.ownBlock,e]))⟩,Or.inl rfl⟩;rw[htake,←hlen];exact List.take_left
 ·have holds:∀j u,xs[j]? =some u→w.cell? ((⟨g,0,none⟩:Addr).add j)=some u:=by
   intro j u hu;rw[Addr.add_lit,Nat.zero_add,cell_of_row w g j cur e fz hg,←Array.getElem?_toList];rw[←htake,List.getElem?_take]at hu;split at hu
   ·exact hu
   ·cases hu
  have hr:=Lib.run_append_grow_string (P:=P) w t u ty e i (.int .u8 0) ht hu hi hz ⟨g,0,none⟩ n cap xs (by rw[hsize];simpa using hxl) holds s (by omega) (by omega) (by rw[hby];exact growslice_fits (by omega) (by omega));have hge:=grownCap_ge w (n+s.size) cap e;have hcm:=grownCap_le_maxLen w (n+s.size) cap e h63;refine⟨_,_,hr,⟨hlen,.inr ⟨w.heap.size,_,_,(0,0),rfl,Nat.zero_le _,heap_alloc_new w.drew _,.inl rfl,hge,hcm, ?_, ?_⟩⟩,⟨rfl,rfl,rfl,by simp,fun k hk _=>heap_alloc_old w.drew _ hk⟩,Or.inr rfl⟩
  ·have hz1:(Value.int IntKind.u8 0).cells.size=1:=rfl;simp only[Array.size_append,List.size_toArray,size_zeroCells,hz1,hxl,hl];omega
  ·simp only[Array.toList_append,List.append_assoc];rw[←List.append_assoc,←hlen];exact List.take_left
section
variable {P : Program} {n : Nat} {s : ASt} {K : ASt → Prop} {ty t u : TypeId} {x y : Operand} {d : Nat}
theorem GD{e:TypeId} [Ty P t (.slice e)] [Ty P u .string] [Tz P e 1 1 (.int .u8 0)] {r len:Nat}{es:List (List AV)}{b:List Nat}(hb:aev s x=some (.own r 0 len))(hg:gJ s.σ r=some (.arr e 1 es))(hlen:len≤es.length)(hpos:0<len)(hy:aev s y=some (.str (dE b)))(hlt:∀c∈b,c<256)
  (hmax:len+b.length≤140737488355328) (hd:d<n)
  (hK:∀r',Fresh r' (eO [r] s.σ)→K ⟨(d,.own r' 0 (len+(b.map aH).length))::s.fr,(r',.arr e 1 (es.take len++b.map aH))::eO [r] s.σ⟩):Hop P n (.call { callee:=.builtin .append,args:=#[x,y],argTypes:=#[t,u] }) ty (some d) s [r] K:=by
 intro M F N a w o ho hty hdst hr next Q hnext
 have hbase:=hr.aev hb;have hmem:=cE hg;obtain⟨h0,hrowsE,h3⟩:=hr.st.ent _ hmem;obtain⟨i,hi,hz0,hs0,hb0⟩:=Tz.parts P e;have he:a.eval y=.string (dE b):=by
  have:=hr.aev hy;generalize a.eval y=v at this⊢;cases this;rfl
 have hsl:(dE b).size=(b.map aH).length:=by simp[dE,ByteArray.size]
 have hnews:Lib.strCells (dE b)=b.map (fun c:Nat=>Value.int .u8 (c:Int)):=by
  unfold Lib.strCells dE;simp only[List.map_map];refine List.map_congr_left fun c hc=> ?_
  have:=hlt c hc;simp[Nat.mod_eq_of_lt this]
 have hrows:RowsAt M F w 1 (b.map aH) (Lib.strCells (dE b)):=by
  rw[hnews];refine⟨by simp,fun i x j a u hi hj hu=> ?_⟩;simp only[List.getElem?_map,Option.map_eq_some_iff]at hi hu;obtain⟨c,hc,rfl⟩:=hi
  match j,hj with
  |0,hj=>
   obtain rfl:=Option.some.inj hj;obtain⟨c',hc',rfl⟩:=hu;rw[Nat.mul_one,Nat.add_zero]at hc';obtain rfl:=Option.some.inj (hc.symm.trans hc');exact .int _ _
  |j+1,hj=>cases hj
 have hok:jB 1 (b.map aH):=by
  intro x hx;obtain⟨c,-,rfl⟩:=List.mem_map.1 hx;exact⟨rfl,by simp[aH,AV.cell]⟩
 generalize hys:b.map aH=ys at hrows hok hsl hK⊢;have hyl:ys.length=b.length:=by rw[←hys];simp
 obtain⟨news,hns⟩:∃news,news=Lib.strCells (dE b):=⟨_,rfl⟩
 rw[←hns]at hrows;have hokT:jB 1 (es.take len):=fun x hx=>hrowsE x (List.mem_of_mem_take hx)
 have hlenT:(es.take len).length=len:=by rw[List.length_take];omega
 --what the row holds
 have hown:∃v xs,a.eval x=v∧rowG w 0 e 1 v len xs∧RowsAt M F w 1 (es.take len) xs∧(∀g,v.ownBlock=some g→cG M r=some g)∨(∃A,a.eval x=.slice A 0 0∧len=0∧v=.slice A 0 0∧xs=[]):=by
  generalize a.eval x=u at hbase⊢;cases hbase with
  |own0=>exact⟨_,[],.inr ⟨_,rfl,rfl,rfl,rfl⟩⟩
  |own hM hle hmm=>
   rcases h3 with⟨hv',_⟩|⟨g,cc,vs,hM',hcl,hsz,hle',hmax',hvr⟩
   ·rw[hM]at hv';cases hv'
   ·have hg':=hM'.symm.trans hM;simp only[Option.some.injEq,Blk'.row.injEq]at hg';obtain⟨q1,q2,q3⟩:=hg';subst q1;subst q2;subst q3;obtain⟨fz,hcl,hfz⟩:=hcl;have hfit:len*1≤vs.size:=by rw[hsz];exact Nat.mul_le_mul_right _ (by omega)
    refine⟨_,vs.toList.take (len*1),.inl ⟨rfl,⟨by rw[List.length_take];simp;omega,.inr ⟨g,cc,vs,fz,by simp,Nat.zero_le _,hcl,hfz,by omega,hmm,hsz,rfl⟩⟩,⟨by rw[hlenT,List.length_take];simp;omega,fun i' x' j b u hi' hj hu=> ?_⟩,fun g2 hg2=> ?_⟩⟩
    ·have hil:=(List.getElem?_eq_some_iff.1 hi').1;rw[hlenT]at hil;have hjs:j<1:=by rw[←(hokT x' (List.mem_of_getElem? hi')).1];exact(List.getElem?_eq_some_iff.1 hj).1
     rw[List.getElem?_take_of_lt hil]at hi';rw[List.getElem?_take_of_lt (kS hil hjs)]at hu;exact hvr i' x' j b u hi' hj (by simpa using hu)
    ·simp only[Value.ownBlock,Option.some.injEq]at hg2;subst hg2;simp[cG,hM]
 obtain⟨v,xs,hown|⟨B,hx,rfl,rfl,rfl⟩⟩:=hown
 ·obtain⟨hx,hown,hrT,hblk⟩:=hown;obtain⟨v',w',hrun,ho',hg',hbl⟩:=EA (P:=P) w t u o.type e i (Ty.und (P:=P) (t:=t)) (Ty.und (P:=P) (t:=u)) hi hz0 hs0 hb0 v len xs hpos hown (dE b) (by rw[hsl];simp[maxLen];omega) (by rw[hsl];omega);rw[hsl,←hns]at ho';have hex:(execOp a.eval o).run P w=.ok (.value v') w':=by
   simp only[execOp,ho,resolve,invoke,builtin,Sem.run_bind,Sem.run_pure,Result.andThen_ok,List.map_toArray,List.map_cons,List.map_nil,hx,he,hrun]
  unfold Oper.wp;rw[hex,Oper.upon_value,hdst];have honly:Only (fun k=>cG M r=some k) w w':=⟨hg'.os,hg'.tape,hg'.output,hg'.size,fun k hk hne=>hg'.block k hk (fun e=>hne (hblk k e.symm))⟩
  have hSame:Same F w w':=fun g hgF=>honly.block g (hr.st.flt g hgF) (fun e=>hr.st.nof g ⟨_,hmem,e⟩ hgF)
  have hcat:RowsAt M F w 1 (es.take len++ys) (xs++news):=hrT.append hokT hrows;have hokC:jB 1 (es.take len++ys):=fun x hx=>(List.mem_append.1 hx).elim (hokT x) (hok x)
  rcases ho'.2 with⟨rfl,hz'⟩|⟨g2,cap,cur,jZ,rfl,_,hg2,hfz2,hn2,hm2,hs2,ht2⟩
  ·have hl0:len=0:=by omega
   have hy0:ys=[]:=List.eq_nil_of_length_eq_zero (by omega);subst hl0;subst hy0;have hE:ER (gK M N .virt) F w' N (.arr e 1 (es.take 0++ [])):=⟨h0,fun x hx=>by simp at hx,.inl ⟨cY _,by simp⟩⟩
   obtain⟨r1,e1,n1,o1⟩:=hr.move_ hmem .virt honly (fun g hg=>by simp[cG,cY]at hg) hE;exact hnext _ F (N+1) _ _ ⟨(d,.own N 0 (0+0))::s.fr,_⟩ (r1.put hd .own0) e1 o1 (hK N n1)
  ·have hE:ER (gK M N (.row g2 cap 1)) F w' N (.arr e 1 (es.take len++ys)):=by
    refine⟨h0,hokC,.inr ⟨g2,cap,cur,cY _,⟨jZ,hg2,hfz2⟩,hs2,by rw[List.length_append,hlenT];exact hn2,hm2,fun i' x' j b u hi' hj hu=> ?_⟩⟩;refine VR.mono (fun r b' h=>qJ hr.st.fresh _ h) (fun _ h=>h) hSame (hcat.2 i' x' j b u hi' hj ?_);have hil:=(List.getElem?_eq_some_iff.1 hi').1;rw[List.length_append,hlenT]at hil;have hjs:j<1:=by rw[←(hokC x' (List.mem_of_getElem? hi')).1];exact(List.getElem?_eq_some_iff.1 hj).1
    rw[←ht2,List.getElem?_take_of_lt (kS hil hjs)];simpa using hu
   obtain⟨r1,e1,n1,o1⟩:=hr.move_ hmem (.row g2 cap 1) honly (fun g hg=>by
    simp only[cG,cY,Option.some.injEq]at hg;subst hg;rcases hbl with h|h
    ·exact .inl (hblk g2 (h.symm.trans rfl))
    ·simp only[Value.ownBlock,Option.some.injEq]at h;exact .inr (by omega)) hE
   have hv:=VR.own (M:=gK M N (.row g2 cap 1)) (F:=F) (w:=w') (t:=N) (off:=0) (len:=len+ys.length) (cY _) (by omega) hm2;simp only[Nat.zero_mul,Nat.sub_zero]at hv;exact hnext _ F (N+1) _ _ ⟨(d,.own N 0 (len+ys.length))::s.fr,_⟩ (r1.put hd hv) e1 o1 (hK N n1)
 ·omega
end
section
variable {P : Program} {n : Nat} {ops : Array Oper} {rest : List Oper} {fr : Fr} {σ : dU} {K : ASt → Prop} {ty t u : TypeId} {pos : String} {af : Array Edge} {x y : Operand} {d : Nat}
theorem apS{e:TypeId} [Ty P t (.slice e)] [Ty P u .string] [Tz P e 1 1 (.int .u8 0)] {r len:Nat}(vs b:List Nat)(hlt:∀c∈b,c<256)
  (hK:∀r',Fresh r' (eO [r] σ)→∃σ',SSet σ r (.arr e 1 (vs.map aH)) r' (.arr e 1 ((vs++b).map aH)) σ'∧RS P n ops rest ⟨(d,.own r' 0 (vs++b).length)::fr,σ'⟩ K)
  (hb:aev ⟨fr,σ⟩ x=some (.own r 0 len):=by rfl) (hg:gJ σ r=some (.arr e 1 (vs.map aH)):=by exact aO) (hlen:len=vs.length:=by exact MD) (hpos:0<len:=by first|omega|(simp;omega)) (hy:aev ⟨fr,σ⟩ y=some (.str (dE b)):=by rfl)
  (hmax:len+b.length≤140737488355328:=by(simp;try omega)) (hd:Nat.ble (d+1) n=true:=by rfl):
  RS P n ops (⟨some d,.call { callee:=.builtin .append,args:=#[x,y],argTypes:=#[t,u] },ty,pos,af,none⟩::rest) ⟨fr,σ⟩ K:=by
 refine hY (GD hb hg (by simp;omega) hpos hy hlt hmax (dL hd) fun r' hf=> ?_);obtain⟨σ',hs,hK⟩:=hK r' hf;dsimp only;rw[hlen,show vs.length=(vs.map aH).length by simp,List.take_length,←List.map_append];refine CF (fun p hp=>hs.sub p hp) ?_;rw[show(vs.map aH).length+(b.map aH).length=(vs++b).length by simp];exact hK
end
theorem iC{P:Program}{n:Nat}{ops:Array Oper}{listed:Array Bool}{rest:List (Nat×Bool)}{held:List (Nat×List Nat)}{s:ASt}{K:ASt→Prop}{z:Nat}{zb:Bool}(i j:Nat)(t1 t2:List (Nat×Bool)){dst dst':Option Nat}{op op':Op}{ty ty':TypeId}{pos pos':String}{af af':Array Edge}{f1 f2:List Nat}
  (hr:(Region.ready .any ops listed==[i,j]&&(t1.length==rest.length)&&(t2.length==rest.length)&&FH ops (listed.setIfInBounds i true) t1&&FH ops (listed.setIfInBounds j true) t2)=true)
  (hi:ops[i]? =some ⟨dst,op,ty,pos,af,none⟩) (hj:ops[j]? =some ⟨dst',op',ty',pos',af',none⟩)
  (h1:Hop P n op ty dst s f1 fun s'=>RD P n ops (listed.setIfInBounds i true) t1 held s' K) (h2:Hop P n op' ty' dst' s f2 fun s'=>RD P n ops (listed.setIfInBounds j true) t2 held s' K)
  (g1:f1=[]∨((∀r∈f1,r∈s.σ.map (·.1))∧HB ops i (s.σ.map (·.1)) f1 held)) (g2:f2=[]∨((∀r∈f2,r∈s.σ.map (·.1))∧HB ops j (s.σ.map (·.1)) f2 held)):RD P n ops listed ((z,zb)::rest) held s K:=by
 intro hsel _ M F N a w hr0;simp only[Bool.and_eq_true,beq_iff_eq]at hr;obtain⟨⟨⟨⟨hrd,hl1⟩,hl2⟩,hc1⟩,hc2⟩:=hr;have main:∀ {k:Nat} {t:List (Nat×Bool)} {dst:Option Nat} {op:Op} {ty:TypeId} {pos:String} {af:Array Edge} {fp:List Nat},t.length=rest.length→FH ops (listed.setIfInBounds k true) t=true→ops[k]? =some ⟨dst,op,ty,pos,af,none⟩→
   Hop P n op ty dst s fp (fun s'=>RD P n ops (listed.setIfInBounds k true) t held s' K)→(fp=[]∨((∀r∈fp,r∈s.σ.map (·.1))∧HB ops k (s.σ.map (·.1)) fp held))→wpOp P ops (PostN n M F N w s.σ K) k (fun a' w'=>(∀g,Hd ops M F held k g→g<w.heap.size→w'.heap[g]? =w.heap[g]?)∧vY P .any ops (PostN n M F N w s.σ K) (Hd ops M F held) rest.length (listed.setIfInBounds k true) a' w') a w:=by
  intro k t dst op ty pos af fp hl hc hk h hfp;unfold wpOp;simp only[hk];rw[if_pos (by simp[Region.wanted])];refine .inl (h M F N a w _ rfl rfl rfl hr0 _ _ fun M' F' N' a' w' s' hr' he ho hk'=>⟨fun g hg hlt=> ?_, ?_⟩)
  ·rcases hg with hg|⟨r,hrh,hg⟩
   ·exact he.only.block g hlt (fun hB=>hr0.st.nof g hB hg)
   ·rcases hfp with rfl|⟨hf1,hb⟩
    ·exact ho.block g hlt (by simp)
    ·obtain⟨h1,h2⟩:=hb.held r hrh;obtain⟨p,hp,rfl⟩:=List.mem_map.1 h1;refine ho.block g hlt ?_;rintro⟨q,hq,hqg⟩;obtain⟨p2,hp2,rfl⟩:=List.mem_map.1 (hf1 q hq);exact h2 (by rw[hr0.st.inj p hp p2 hp2 g hg hqg];exact hq)
  ·rw[←hl];refine mG (PostN.ext he) ?_ _ _ _ _ (hk' hsel hc M' F' N' a' w' hr');rintro j' g (hg|⟨r,hrr,hg⟩)
   ·exact .inl (he.ff g hg)
   ·refine .inr ⟨r,hrr, ?_⟩;unfold cG at hg⊢;cases hm:M r with
    |none=>rw[hm]at hg;cases hg
    |some b=>rw[hm]at hg;rw[he.mm _ _ hm];exact hg
 refine⟨fun h0=>by rw[hrd]at h0;simp at h0,fun k hk=> ?_⟩;rw[hrd]at hk;rcases List.mem_cons.1 hk with rfl|hk
 ·exact main hl1 hc1 hi h1 g1
 ·obtain rfl:=List.mem_singleton.1 hk;exact main hl2 hc2 hj h2 g2
theorem uP{P:Program}{n:Nat}{fr:Fr}{σ:dU}{K:ASt→Prop}{ty t:TypeId}{d:Nat}{e:TypeId}{sz by_:Nat}{zv:Value}{len:Nat}{parts:Array (Nat×Operand)}{vs:List AV}{es:List (List AV)}(i1:Ty P t (.slice e))(i2:Tz P e sz by_ zv)(hv:AEvs ⟨fr,σ⟩ (parts.toList.map (·.2)) vs)(hp:parts.toList=sJ 0 (parts.toList.map (·.2)))(hlen:(len==vs.length)=true)(h0:(decide (0<sz)&&decide (len*sz≤16777216))=true)
  (hc:(vs.all fun v=>v.cells.length==sz&&v.cells.all AV.cell)=true) (he:vs.map AV.cells=es) (hd:Nat.ble (d+1) n=true) (hK:∀r,Fresh r σ→K ⟨(d,.own r 0 len)::fr,(r,.arr e sz es)::σ⟩):Hop P n (.buildSlice t len parts) ty (some d) ⟨fr,σ⟩ [] K:=by
 subst he;exact pA hp hv hlen h0 hc (dL hd) hK
theorem RK{s s':ASt}(ts:List Nat)(hf:∀i x',dY s'.fr i=some x'→∃x,dY s.fr i=some x∧Bor s.σ ts x x')(hσ:∀p∈s'.σ,p.1∉ts∧∃x,(p.1,x)∈s.σ∧∀(M:Mp) (F:Nat→Prop) (N:Nat) (w:World),SR M F N w s.σ→ER M F w p.1 x→ER M (FPlus M F s.σ ts) w p.1 p.2):SGo s s':=by
 intro M F N n a w hr;refine⟨M,FPlus M F s.σ ts,N,⟨hr.size,hr.defers,fun i x' hi=> ?_, ?_, ?_, ?_,fun b hb=>hb.flt hr.st,hr.st.fresh⟩,fun _ _ h=>h,fun _ h=>.inl h,Nat.le_refl _,Only.refl _ _, ?_, ?_, ?_⟩
 ·obtain⟨x,hx,hb⟩:=hf i x' hi;exact hb.vr hr.st (hr.fr i x hx)
 ·intro p hp;obtain⟨_,x,hx,hb⟩:=hσ p hp;exact hb M F N w hr.st (hr.st.ent _ hx)
 ·intro p hp q hq g h1 h2;obtain⟨_,x,hx,_⟩:=hσ p hp;obtain⟨_,y,hy,_⟩:=hσ q hq;exact hr.st.inj (p.1,x) hx (q.1,y) hy g h1 h2
 ·rintro g ⟨p,hp,hg⟩ hF;obtain⟨hn,x,hx,_⟩:=hσ p hp;rcases hF with hF|⟨q,hq,hqt,hqg⟩
  ·exact hr.st.nof g ⟨_,hx,hg⟩ hF
  ·exact hn (by have:=hr.st.inj _ hx _ hq g hg hqg;simp only at this;rw[this];exact hqt)
 ·rintro g ⟨p,hp,hg⟩ _;obtain⟨_,x,hx,_⟩:=hσ p hp;exact⟨_,hx,hg⟩
 ·rintro b (hb|⟨q,hq,_,hqg⟩)
  ·exact .inl hb
  ·exact .inr (.inr ⟨q,hq,hqg⟩)
 ·intro p hp _;obtain⟨_,x,hx,_⟩:=hσ p hp;exact⟨_,hx,rfl⟩
theorem XR{fr:Fr}{σ σ1 σ':dU}{r q:Nat}{et:TypeId}{sz:Nat}{es es':List (List AV)}{e:Ent}(hs:SSet σ r (.arr et sz es) r (.arr et sz es') σ1)(hd:SDel σ1 q e σ')(hl:es'.length=es.length)(hok:jB sz es')
  (hb:∀(i:Nat) (x x':List AV),es[i]? =some x→es'[i]? =some x'→BorL σ [q] x x'):SGo ⟨fr,σ⟩ ⟨fr,σ'⟩:=by
 refine RK [q] (fun i x' hi=>⟨x',hi,.refl _⟩) (fun p hp=> ?_);obtain⟨h1,h2⟩:=hd.sub p hp;refine⟨by simpa using h2, ?_⟩;rcases List.mem_cons.1 (hs.sub p h1)with rfl|h
 ·refine⟨_,cE hs.get,fun M F N w hr hx=> ?_⟩;obtain⟨g0,g1,g2⟩:=hx;refine⟨g0,hok, ?_⟩;rcases g2 with⟨k1,k2⟩|⟨g,c,vs,k1,k2,k3,k4,k5,k6⟩
  ·refine .inl ⟨k1, ?_⟩;subst k2;exact List.length_eq_zero_iff.1 hl
  ·refine .inr ⟨g,c,vs,k1,k2,k3,by rw[hl];exact k4,k5,fun i x' j a' u hi hj hu=> ?_⟩;have hil:=(List.getElem?_eq_some_iff.1 hi).1;have hx:es[i]? =some (es[i]'(by omega)):=List.getElem?_eq_getElem (by omega);obtain⟨hbl,hbe⟩:=(hb i _ x' hx hi).at_;have hjl:=(List.getElem?_eq_some_iff.1 hj).1;have ha:(es[i]'(by omega))[j]? =some ((es[i]'(by omega))[j]'(by omega)):=List.getElem?_eq_getElem (by omega);refine(hbe j a' hj).vr hr ?_;rw[List.getD_eq_getElem?_getD,ha,Option.getD_some];exact k6 i _ j _ u hx ha hu
 ·exact⟨p.2,(gB h).1,fun M F N w hr hx=>hx.mono (fun _ _ h=>h) (fun _ h=>.inl h) (fun _ _=>rfl) (fun _ _=>rfl)⟩
end Go.Proofs.YtjpdadobblffmaaGreat
namespace Go.Proofs.YtjpdadobblffmaaGreat
open Go.RowKit Go.ChangeShapes Go.WideShapes Go.ChangeAt Go.Deep
attribute [local irreducible] SW RS RD fH eH
def iT (P:Program) (t8:TypeId) (f:FuncId) {α:Type} (ar:α→AV) (pt:α→List Nat) (ok:α→Prop) (c B:Nat):Prop:=
 (∀args w,(callFunc f args).run P w=.ok (.enter f args) w)∧∀(q:Nat) (vs:List Nat) (x:α),ok x→0<vs.length→vs.length≤B→(pt x).length≤c∧
  SCall P f ([]++ [.own q 0 vs.length,ar x]++ []) [(q,.arr t8 1 (vs.map aH))] (fun y σ=>∃r,y=.own r 0 (vs++pt x).length∧σ=[(r,.arr t8 1 ((vs++pt x).map aH))])
theorem gQ{P:Program}{t8:TypeId}{f:FuncId}{α:Type}{ar:α→AV}{pt:α→List Nat}{ok:α→Prop}{c B:Nat}(hf:iT P t8 f ar pt ok c B)(hB:1≤B){l:List α}(hl:∀x∈l,ok x)(j:Nat):((l.take j).flatMap pt).length≤l.length*c:=by
 have h1:∀(l:List α),(∀x∈l,ok x)→(l.flatMap pt).length≤l.length*c:=by
  intro l
  induction l with
  |nil=>simp
  |cons x l ih=>
   intro h;have:=ih fun y hy=>h y (List.mem_cons_of_mem _ hy)
   have hx:=(hf.2 0 [0] x (h x List.mem_cons_self) (by simp) hB).1;rw[List.flatMap_cons,List.length_append,List.length_cons,Nat.add_mul];omega
 refine Nat.le_trans (h1 (l.take j) fun x hx=>hl x (List.mem_of_mem_take hx)) (Nat.mul_le_mul_right c ?_);simp;omega
theorem eI(q:Nat)(vs:List Nat)(hvs:vs.length≤50000000)(n:Nat)(hn:n<9223372036854775808):SCall Tryz.prog 135 [.own q 0 vs.length,.int .i64 n] [(q,.arr 5 1 (vs.map aH))]
  (fun y σ=>∃r,y=.own r 0 (vs++uB n).length∧σ=[(r,.arr 5 1 ((vs++uB n).map aH))]):=by
 refine cC 9 [0,1,4] Tryz.func135 ?_;refine mY ?_;refine UP ?_;refine cw [(q,.arr 5 1 (vs.map aH))] Tryz.call239 (nF q vs (by omega) n (by omega)) rfl aC aA ?_;rintro _ σ' ⟨r8,rfl,rfl⟩ h8;have k8:=bB h8;repeat rcases k8 with⟨_,k8⟩
 refine eR ?_;exact aD aE ⟨r8,by rfl,rfl⟩ aA
theorem eK{fr:Fr}{σ:dU}{j:Nat}{x y:AV}(h:dY fr j=some x)(hv:VLe x y):SGo ⟨fr,σ⟩ ⟨(j,y)::fr,σ⟩:=by
 refine SGo.of_le (fun i z hi=> ?_) (fun p hp=>hp);by_cases hij:i=j
 ·subst hij;rw[show dY ((i,y)::fr) i=some y by simp[dY]]at hi;obtain rfl:=Option.some.inj hi;exact⟨_,h,hv⟩
 ·rw[show dY ((j,y)::fr) i=dY fr i by simp[dY];intro e;exact absurd e hij]at hi;exact⟨z,hi,VLe.refl z⟩
theorem VLe.agg {cs cs':List AV}(hl:cs.length=cs'.length)(h:∀(j:Nat) (a a':AV),cs[j]? =some a→cs'[j]? =some a'→VLe a a'):VLe (.agg cs) (.agg cs'):=fun M F w v hv=>by
 cases hv with
 |agg hn hc=>
  refine .agg (hn.trans hl) fun j a' u ha' hu=> ?_
  have hj:=(List.getElem?_eq_some_iff.1 ha').1;have ha:cs[j]? =some (cs[j]'(by omega)):=List.getElem?_eq_getElem (by omega);exact h j _ a' ha ha' _ _ _ _ (hc j _ u ha hu)
theorem EN{op a b:Int}:VLe (.agg [.int .i64 op,.int .i64 a,.int .i64 b,.ro 0 [] .nil]) (.agg (iv .any ⟨op,a,b,[]⟩)):=by
 refine VLe.agg rfl fun j a a' ha ha'=> ?_
 match j with
 |0=>cases ha;cases ha';exact VLe.refl _
 |1=>cases ha;cases ha';exact VLe.refl _
 |2=>cases ha;cases ha';exact VLe.refl _
 |3=>cases ha;cases ha';exact VLe.empty
 | _ +4=>cases ha
theorem oC(q:Nat)(vs:List Nat)(hpos:0<vs.length)(hvs:vs.length≤20000000)(b:List Nat)(hb:b.length≤1000)(hlt:∀c∈b,c<256):SCall Tryz.prog 136 [.own q 0 vs.length,.str (dE b)] [(q,.arr 5 1 (vs.map aH))]
  (fun y σ=>∃r,y=.own r 0 (vs++bS b).length∧σ=[(r,.arr 5 1 ((vs++bS b).map aH))]):=by
 have hu:=bR 1 b.length (by omega);refine cC 11 [0,1,4] Tryz.func136 ?_;refine mY ?_;refine lo (fW (E rfl)) rfl ?_;rw[jE];refine cw [(q,.arr 5 1 (vs.map aH))] Tryz.call135 (eI q vs (by omega) b.length (by omega)) rfl aC aA ?_;rintro _ σ' ⟨r8,rfl,rfl⟩ h8;have k8:=bB h8;repeat rcases k8 with⟨_,k8⟩
 refine yU ?_;refine apS (vs++uB b.length) (b) hlt ?_;refine bL fun r10 h10=> ?_;intros
 refine cZ ?_;rw[show vs++uB b.length++b=vs++bS b by unfold bS;rw[List.append_assoc]];exact aD aE ⟨r10,by rfl,rfl⟩ aA
theorem tT(q:Nat)(vs:List Nat)(hvs:vs.length≤20000000)(k:Int):SCall Tryz.prog 132 [.own q 0 vs.length,.int .i64 k] [(q,.arr 5 1 (vs.map aH))]
  (fun y σ=>∃r,y=.own r 0 (vs++kB k).length∧σ=[(r,.arr 5 1 ((vs++kB k).map aH))]):=by
 refine cC 13 [0,1,4,6] Tryz.func132 ?_;refine gX ?_;refine rL ?_;refine aB rfl (fun g1=> ?_) (fun g1=> ?_)
 ·rw[show kB k=[127] by unfold kB;rw[if_pos g1]];refine dO ?_;refine eS fun r8 h8=> ?_;intros
  refine kI ((vs++ [127]).map aH) (vs++ [127]).length ?_;refine bL fun r9 h9=> ?_;intros
  refine cZ ?_;exact aD aE ⟨r9,by rfl,rfl⟩ aA
 rw[show kB k=[126] by unfold kB;rw[if_neg (by simp[g1])]];refine dO ?_;refine eS fun r11 h11=> ?_;intros
 refine kI ((vs++ [126]).map aH) (vs++ [126]).length ?_;refine bL fun r12 h12=> ?_;intros
 refine cZ ?_;exact aD aE ⟨r12,by rfl,rfl⟩ aA
theorem rX(q:Nat)(vs:List Nat)(hvs:vs.length≤20000000)(k n:Int)(hv:mS k n=true)(hn:-9223372036854775808≤n∧n≤9223372036854775807):SCall Tryz.prog 144 [.own q 0 vs.length,.agg [.int .i64 k,.int .i64 n]] [(q,.arr 5 1 (vs.map aH))]
  (fun y σ=>∃r,y=.own r 0 (vs++mD k n).length∧σ=[(r,.arr 5 1 ((vs++mD k n).map aH))]):=by
 obtain⟨ho,hm,-⟩:=GC hv hn;have hpl:=wJ ho hm;have hcB:mD k n=gG ⟨if(k==2)=true then 66 else 65,n,0,[]⟩++ [11]:=rfl;rw[hcB];generalize hop:(if(k==2)=true then(66:Int)else 65)=op at ho hm hpl hcB⊢;have hop:=hop.symm;refine cC 17 [0,1,3,4,5,8] Tryz.func144 ?_;refine dG ?_;refine iG fun r3 h3=> ?_;intros
 refine jC ?_;refine iX ?_;refine rL ?_;refine aB rfl (fun g2=> ?_) (fun g2=> ?_)
 ·have hco:cX (.int .i64 66)=AV.int .i64 op:=by rw[hop,if_pos g2];rfl
  refine bP ?_;rw[hco];refine kL ?_;refine oO ?_;refine jY ?_;refine jT (eK (j:=13) rfl EN) ?_;refine cw [(q,.arr 5 1 (vs.map aH))] Tryz.call242 (CK q vs (by omega) .any ⟨op,n,0,[]⟩ ho hm) rfl aC aA ?_;rintro _ σ' ⟨r14,rfl,rfl⟩ h14;have k14:=bB h14;repeat rcases k14 with⟨_,k14⟩
  apply aZ;exact bN;refine eS fun r15 h15=> ?_;intros
  refine kI ((vs++gG ⟨op,n,0,[]⟩++ [11]).map aH) (vs++gG ⟨op,n,0,[]⟩++ [11]).length ?_;refine bL fun r16 h16=> ?_;intros
  refine cZ ?_;rw[List.append_assoc];exact aD aE ⟨r16,by rfl,rfl⟩ aA
 have hco:cX (.int .i64 65)=AV.int .i64 op:=by rw[hop,if_neg (by simp[g2])];rfl
 refine aI ?_;rw[hco];refine kL ?_;refine oO ?_;refine jY ?_;refine jT (eK (j:=13) rfl EN) ?_;refine cw [(q,.arr 5 1 (vs.map aH))] Tryz.call242 (CK q vs (by omega) .any ⟨op,n,0,[]⟩ ho hm) rfl aC aA ?_;rintro _ σ' ⟨r14,rfl,rfl⟩ h14;have k14:=bB h14;repeat rcases k14 with⟨_,k14⟩
 apply aZ;exact bN;refine z1 ?_;refine bI fun r15 h15=> ?_;repeat rcases h15 with⟨_,h15⟩
 refine kI ((vs++gG ⟨op,n,0,[]⟩++ [11]).map aH) (vs++gG ⟨op,n,0,[]⟩++ [11]).length ?_;refine bL fun r16 h16=> ?_;intros
 refine cZ ?_;rw[List.append_assoc];exact aD aE ⟨r16,by rfl,rfl⟩ aA
theorem aHZ{f:FuncId}{pt:FT→List Nat}{ok:FT→Prop}{c B:Nat}(hf:iT Tryz.prog 5 f (fun x=>.agg (cP x)) pt ok c B)(hB:B≤50000000)(q:Nat)(vs:List Nat)(l:List FT)(hok:∀x∈l,ok x)(hl:l.length≤1000)(hb:vs.length+10+l.length*c≤B):
  SCall Tryz.prog 237 [.own q 0 vs.length,.ro 2 (l.map cP) .any,.fn (.func f) [] []] [(q,.arr 5 1 (vs.map aH))] (fun y σ=>∃r,y=.own r 0 (vs++bD l pt).length∧σ=[(r,.arr 5 1 ((vs++bD l pt).map aH))]):=by
 have hu:=bR 1 l.length (by omega);have hup:=iI l.length;have hpc:=gQ hf (by omega) hok;refine cC 25 [0,1,2,6,8,13,14,15,16] Tryz.func237 ?_;refine mY ?_;refine pH ?_;refine cw [(q,.arr 5 1 (vs.map aH))] Tryz.call135 (eI q vs (by omega) l.length (by omega)) rfl aC aA ?_;rintro _ σ' ⟨r12,rfl,rfl⟩ h12;have k12:=bB h12;repeat rcases k12 with⟨_,k12⟩
 refine eR ?_;refine eU ?_;refine qP ?_;refine lp (β:=Nat×Nat) (fun b=>⟨[(0,.own b.1 0 (vs++uB l.length++(l.take b.2).flatMap pt).length),(2,.fn (.func f) [] []),(13,.ro 2 (l.map cP) .any),(14,.int .i64 l.length),(15,.int .i64 b.2)],[(b.1,.arr 5 1 ((vs++uB l.length++(l.take b.2).flatMap pt).map aH))]⟩) (fun b=>b.2≤l.length) (fun b=>l.length-b.2) (r12,0) (by dsimp only;rw[show vs++uB l.length++(l.take 0).flatMap pt=vs++uB l.length by simp];(exact aJ)) (Nat.zero_le _) ?_;rintro⟨q1,j⟩ hj;have hpj:=hpc j;have hsl:(vs++uB l.length++(l.take j).flatMap pt).length=vs.length+(uB l.length).length+((l.take j).flatMap pt).length:=by simp[Nat.add_assoc]
 dsimp only at hj⊢;refine jL ?_;refine aB rfl (fun g3=> ?_) (fun g3=> ?_)
 ·have hlt:j<l.length:=by simp at g3;omega
  obtain⟨x,hx⟩:∃x,l[j]? =some x:=⟨_,List.getElem?_eq_getElem hlt⟩
  have hnx:vs++uB l.length++(l.take (j+1)).flatMap pt=vs++uB l.length++(l.take j).flatMap pt++pt x:=by rw[List.take_add_one,hx,List.flatMap_append];simp
  refine dG ?_;refine qQ ?_;refine jZ fun r8 h8=> ?_;intros
  refine jJ ?_;refine kL ?_;refine mP ?_;refine qE [(q1,.arr 5 1 ((vs++uB l.length++(l.take j).flatMap pt).map aH))] rfl hf.1 (hf.2 q1 _ x (hok x (List.mem_of_getElem? hx)) (by omega) (by omega)).2 rfl aC aA ?_;rintro _ σ' ⟨r22,rfl,rfl⟩ h22;have k22:=bB h22;repeat rcases k22 with⟨_,k22⟩
  refine uF ?_;refine⟨(r22,j+1),hlt,by show l.length-(j+1)<l.length-j;omega, ?_⟩;dsimp only;rw[hnx];exact aJ
 obtain rfl:j=l.length:=by simp at g3;omega
 refine fF ?_;rw[show vs++uB l.length++(l.take l.length).flatMap pt=vs++bD l pt by rw[List.take_length,List.append_assoc];rfl];exact aD aE ⟨q1,by rfl,rfl⟩ aA
theorem aEA{f:FuncId}{pt:FT→List Nat}{ok:FT→Prop}{c B:Nat}(hf:iT Tryz.prog 5 f (fun x=>.agg (cP x)) pt ok c B)(hB:B≤50000000)(l:List FT)(hok:∀x∈l,ok x)(hl:l.length≤1000)(hb:10+l.length*c≤B):
  SCall Tryz.prog 237 [.ro 0 [] .nil,.ro 2 (l.map cP) .any,.fn (.func f) [] []] [] (fun y σ=>∃r,y=.own r 0 (bD l pt).length∧σ=[(r,.arr 5 1 ((bD l pt).map aH))]):=
 iJ (e:=5) (sz:=1) (by decide) fun q _=>aHZ hf hB q [] l hok hl (by simpa using hb)
end Go.Proofs.YtjpdadobblffmaaGreat
