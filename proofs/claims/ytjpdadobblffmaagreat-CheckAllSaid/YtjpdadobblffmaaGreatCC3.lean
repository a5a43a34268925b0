import Derived.Test.YtjpdadobblffmaaGreatCC2
import Derived.Test.YtjpdadobblffmaaGreatCC1
import Derived.ChangeOld
import Derived.WalkKit
import Derived.ProofKit
import Derived.OpenShut
import Derived.Lib.AppendStr
set_option linter.unusedSimpArgs false
set_option linter.unusedVariables false
set_option maxRecDepth 100000
set_option maxHeartbeats 4000000
namespace Go.Proofs.YtjpdadobblffmaaGreat
open Go.RowKit Go.ChangeShapes Go.WideShapes Go.ChangeAt Go.Deep
attribute [local irreducible] SW RS RD fG eH
structure Ins where
 op:Int
 a:Int
 b:Int
 l:List Int
def iv (k:Rk) (x:Ins):List AV:=[.int .i64 x.op,.int .i64 x.a,.int .i64 x.b,.ro 1 (x.l.map aP) k]
def Ins.Ok (x:Ins):Prop:=-9223372036854775808≤x.op∧x.op≤9223372036854775807∧ -9223372036854775808≤x.a∧x.a≤9223372036854775807∧x.l.length≤9223372036854775807
theorem dU(n a b:Int):SCall Tryz.prog 218 [.int .i64 n,.int .i64 a,.int .i64 b] [] (fun x σ=>x=.bool (pF n a b)∧σ=[]):=by
 refine cF 15 [0,1,2,6] Tryz.func218 ?_;refine mW ?_;refine GN ?_;refine z4 ?_;refine z4 ?_;refine z54 ?_;refine z7 ?_;refine dE ?_;exact aE aF ⟨by rfl,rfl⟩ aA
theorem iL(n:Int):SCall Tryz.prog 219 [.int .i64 n] [] (fun x σ=>x=.bool (pF n 0 1000)∧σ=[]):=by
 refine cF 5 [0,2] Tryz.func219 ?_;refine iD ?_
 (first|refine ln rfl rfl rfl rfl ?_ |refine lw rfl rfl (bS (v:=.bool false)) rfl ?_ |refine pu [] Tryz.call218 (dU _ _ _) rfl cH bB ?_ |refine zE [] rfl rfl Tryz.call218 (fun _=>(dU _ _ _)) rfl cH bB ?_ |refine puw [] rfl rfl Tryz.call218 (fun _=>(dU _ _ _)) rfl cH bB ?_);refine dE ?_;exact aE aF ⟨by rfl,rfl⟩ aA
theorem oV:aCr Tryz.prog 220 [] [] (fun n=> !pF n 0 1000):=by
 refine⟨Tryz.call220,fun n=> ?_⟩;refine cF 6 [0,2] Tryz.func220 ?_;refine iD ?_
 (first|refine ln rfl rfl rfl rfl ?_ |refine lw rfl rfl (bS (v:=.bool false)) rfl ?_ |refine pu [] Tryz.call219 (iL _) rfl cH bB ?_ |refine zE [] rfl rfl Tryz.call219 (fun _=>(iL _)) rfl cH bB ?_ |refine puw [] rfl rfl Tryz.call219 (fun _=>(iL _)) rfl cH bB ?_);refine lo (dF (E rfl)) rfl ?_;refine dE ?_;exact aE aF ⟨by rfl,rfl⟩ aA
theorem iM(op:Int):SCall Tryz.prog 217 [.int .i64 op] [] (fun x σ=>x=.int .i64 (aW op)∧σ=[]):=by
 have:=XG op
 rwa [aKM]at this
theorem pO(op:Int)(h:-9223372036854775808≤op∧op≤9223372036854775807):SCall Tryz.prog 250 [.int .i64 op] [] (fun x σ=>x=.int .i64 (aW op)∧σ=[]):=by
 have:=aCp op
 rwa [aH7 op h]at this
def jB (x:Ins) (f:Int):Bool:=if(if(f !=4)=true then decide (0<(x.l.length:Int))else false)=true then true else if(f !=6)=true then(x.b !=0)else false
def cY (x:Ins):Bool:=
 if jB x (aW x.op)=true then false
 else if(aW x.op==1||aW x.op==7)=true then(x.a==0)
 else if(aW x.op==2)=true then pF x.a 0 2
 else if(aW x.op==3||aW x.op==5)=true then pF x.a 0 1000
 else if(aW x.op==4)=true then(if(if pF x.a 0 1000=true then decide ((x.l.length:Int)≤50)else false)=true then !(x.l.any fun n=> !pF n 0 1000)else false)
 else if(aW x.op==6)=true then(if pF x.a 0 3=true then pF x.b 0 4294967295 else false)
 else if(aW x.op==8)=true then pF x.a (-2147483648) 2147483647
 else(aW x.op==9)
theorem tF(a b:Int):(if(if(if decide (0≤a)=true then decide (a≤3)else false)=true then decide (0≤b)else false)=true then decide (b<4294967296)else false)=
  (if(if decide (0≤a)=true then decide (a≤3)else false)=true then(if decide (0≤b)=true then decide (b≤4294967295)else false)else false):=by
 rw[show decide (b≤4294967295)=decide (b<4294967296) by rw[decide_eq_decide];omega];generalize(if decide (0≤a)=true then decide (a≤3)else false)=b1;cases b1<;>simp
theorem tG(a:Int):(if decide (-2147483648≤a)=true then decide (a<2147483648)else false)=(if decide (-2147483648≤a)=true then decide (a≤2147483647)else false):=by
 rw[show decide (a≤2147483647)=decide (a<2147483648) by rw[decide_eq_decide];omega]
theorem aAZ(k:Rk)(x:Ins):SCall Tryz.prog 111 [.agg (iv k x)] [] (fun r σ=>r=.bool (cY x)∧σ=[]):=by
 refine cF 76 [0,1,2,3,23,24,25,31,36,42,59,69,74] Tryz.func111 ?_;unfold iv;refine dX ?_;refine iQ fun r1 h1=> ?_;intros
 refine iW ?_
 (first|refine ln rfl rfl rfl rfl ?_ |refine lw rfl rfl (bS (v:=.bool false)) rfl ?_ |refine pu [] Tryz.call217 (iM _) rfl cH bB ?_ |refine zE [] rfl rfl Tryz.call217 (fun _=>(iM _)) rfl cH bB ?_ |refine puw [] rfl rfl Tryz.call217 (fun _=>(iM _)) rfl cH bB ?_);refine hZ ?_;refine lo (gA (E rfl) (E rfl)) rfl ?_;refine uA ?_;refine z63 ?_;refine z18 ?_;refine z7 ?_;refine xK ?_;refine z64 ?_;refine z8 ?_;refine z65 ?_;refine z66 ?_;refine z11 ?_;refine z12 ?_;refine z13 ?_;refine lD ?_;refine aB rfl (fun g1=> ?_) (fun g1=> ?_)
 ·refine bM ?_;apply aE;exact aF
  ·(unfold cY jB;simp only[g1,if_true,if_false,Bool.false_eq_true];exact⟨rfl,rfl⟩)
  ·exact aA
 refine dM ?_;refine qA ?_;apply fE rfl;exact cT
 ·intro _;(refine aJ ?_);refine eU ?_;exact aL
 refine aJ ?_;refine aB rfl (fun g2=> ?_) (fun g2=> ?_)
 ·refine fN ?_;refine TM ?_;apply aE;exact aF
  ·(unfold cY jB;simp only[g1,g2,if_true,if_false,Bool.false_eq_true];exact⟨rfl,rfl⟩)
  ·exact aA
 refine cZ ?_;refine aB rfl (fun g3=> ?_) (fun g3=> ?_)
 ·refine fN ?_
  (first|refine ln rfl rfl rfl rfl ?_ |refine lw rfl rfl (bS (v:=.bool false)) rfl ?_ |refine pu [] Tryz.call218 (dU _ _ _) rfl cH bB ?_ |refine zE [] rfl rfl Tryz.call218 (fun _=>(dU _ _ _)) rfl cH bB ?_ |refine puw [] rfl rfl Tryz.call218 (fun _=>(dU _ _ _)) rfl cH bB ?_);refine dE ?_;apply aE;exact aF
  ·(unfold cY jB;simp only[g1,g2,g3,if_true,if_false,Bool.false_eq_true];exact⟨rfl,rfl⟩)
  ·exact aA
 refine cZ ?_;apply fE rfl;exact cT
 ·intro _;(refine aJ ?_);refine eU ?_;exact aL
 refine aJ ?_;refine aB rfl (fun g4=> ?_) (fun g4=> ?_)
 ·refine fN ?_
  (first|refine ln rfl rfl rfl rfl ?_ |refine lw rfl rfl (bS (v:=.bool false)) rfl ?_ |refine pu [] Tryz.call219 (iL _) rfl cH bB ?_ |refine zE [] rfl rfl Tryz.call219 (fun _=>(iL _)) rfl cH bB ?_ |refine puw [] rfl rfl Tryz.call219 (fun _=>(iL _)) rfl cH bB ?_);refine dE ?_;apply aE;exact aF
  ·(unfold cY jB;simp only[g1,g2,g3,g4,if_true,if_false,Bool.false_eq_true];exact⟨rfl,rfl⟩)
  ·exact aA
 refine cZ ?_;refine aB rfl (fun g5=> ?_) (fun g5=> ?_)
 ·refine fN ?_
  (first|refine ln rfl rfl rfl rfl ?_ |refine lw rfl rfl (bS (v:=.bool false)) rfl ?_ |refine pu [] Tryz.call219 (iL _) rfl cH bB ?_ |refine zE [] rfl rfl Tryz.call219 (fun _=>(iL _)) rfl cH bB ?_ |refine puw [] rfl rfl Tryz.call219 (fun _=>(iL _)) rfl cH bB ?_);refine uA ?_;refine z63 ?_;refine z55 ?_;refine z7 ?_;refine uA ?_
  (first|refine ln rfl rfl rfl rfl ?_ |refine lw rfl rfl (bS (v:=.bool false)) rfl ?_ |refine pu [] Tryz.call89 (nQ oV x.l) rfl cH bB ?_ |refine zE [] rfl rfl Tryz.call89 (fun _=>(nQ oV x.l)) rfl cH bB ?_ |refine puw [] rfl rfl Tryz.call89 (fun _=>(nQ oV x.l)) rfl cH bB ?_);refine z67 ?_;refine z7 ?_;refine dE ?_;apply aE;exact aF
  ·(unfold cY jB;simp only[g1,g2,g3,g4,g5,if_true,if_false,Bool.false_eq_true];exact⟨rfl,rfl⟩)
  ·exact aA
 refine cZ ?_;refine aB rfl (fun g6=> ?_) (fun g6=> ?_)
 ·refine fN ?_
  (first|refine ln rfl rfl rfl rfl ?_ |refine lw rfl rfl (bS (v:=.bool false)) rfl ?_ |refine pu [] Tryz.call218 (dU _ _ _) rfl cH bB ?_ |refine zE [] rfl rfl Tryz.call218 (fun _=>(dU _ _ _)) rfl cH bB ?_ |refine puw [] rfl rfl Tryz.call218 (fun _=>(dU _ _ _)) rfl cH bB ?_);refine uA ?_
  (first|refine ln rfl rfl rfl rfl ?_ |refine lw rfl rfl (bS (v:=.bool false)) rfl ?_ |refine pu [] Tryz.call218 (dU _ _ _) rfl cH bB ?_ |refine zE [] rfl rfl Tryz.call218 (fun _=>(dU _ _ _)) rfl cH bB ?_ |refine puw [] rfl rfl Tryz.call218 (fun _=>(dU _ _ _)) rfl cH bB ?_);refine kL ?_;apply aE;exact aF
  ·(unfold cY jB;simp only[g1,g2,g3,g4,g5,g6,if_true,if_false,Bool.false_eq_true];exact⟨rfl,rfl⟩)
  ·exact aA
 refine cZ ?_;refine aB rfl (fun g7=> ?_) (fun g7=> ?_)
 ·refine fN ?_
  (first|refine ln rfl rfl rfl rfl ?_ |refine lw rfl rfl (bS (v:=.bool false)) rfl ?_ |refine pu [] Tryz.call218 (dU _ _ _) rfl cH bB ?_ |refine zE [] rfl rfl Tryz.call218 (fun _=>(dU _ _ _)) rfl cH bB ?_ |refine puw [] rfl rfl Tryz.call218 (fun _=>(dU _ _ _)) rfl cH bB ?_);refine dE ?_;apply aE;exact aF
  ·(unfold cY jB;simp only[g1,g2,g3,g4,g5,g6,g7,if_true,if_false,Bool.false_eq_true];exact⟨rfl,rfl⟩)
  ·exact aA
 refine cZ ?_;refine aB rfl (fun g8=> ?_) (fun g8=> ?_)
 ·refine bM ?_;apply aE;exact aF
  ·(unfold cY jB;simp only[g1,g2,g3,g4,g5,g6,g7,g8,if_true,if_false,Bool.false_eq_true];exact⟨rfl,rfl⟩)
  ·exact aA
 refine bM ?_;apply aE;exact aF
 ·(unfold cY jB;simp only[g1,g2,g3,g4,g5,g6,g7,g8,if_true,if_false,Bool.false_eq_true];exact⟨rfl,rfl⟩)
 ·exact aA
theorem PG(k:Rk)(x:Ins)(hx:x.Ok):SCall Tryz.prog 156 [.agg (iv k x)] [] (fun r σ=>r=.bool (cY x)∧σ=[]):=by
 have hop:-9223372036854775808≤x.op∧x.op≤9223372036854775807:=⟨hx.1,hx.2.1⟩
 have hl:=hx.2.2.2.2;refine cF 122 [0,1,2,3,4,24,25,26,32,42,53,59,75,90,110] Tryz.func156 ?_;unfold iv;refine dX ?_;refine iQ fun r1 h1=> ?_;intros
 refine iW ?_
 (first|refine ln rfl rfl rfl rfl ?_ |refine lw rfl rfl (bS (v:=.bool false)) rfl ?_ |refine pu [] Tryz.call250 (pO _ (by assumption)) rfl cH bB ?_ |refine zE [] rfl rfl Tryz.call250 (fun _=>(pO _ (by assumption))) rfl cH bB ?_ |refine puw [] rfl rfl Tryz.call250 (fun _=>(pO _ (by assumption))) rfl cH bB ?_);refine hZ ?_;refine lo (gA (E rfl) (E rfl)) rfl ?_;refine uA ?_;refine z63 ?_;refine z18 ?_;refine z7 ?_;refine xK ?_;refine z64 ?_;refine z8 ?_;refine z65 ?_;refine z66 ?_;refine z11 ?_;refine z12 ?_;refine z13 ?_;refine lD ?_;refine aB rfl (fun g1=> ?_) (fun g1=> ?_)
 ·refine bM ?_;apply aE;exact aF
  ·(unfold cY jB pF;simp only[g1,if_true,if_false,Bool.false_eq_true];first|exact⟨rfl,rfl⟩|exact⟨congrArg AV.bool (tF x.a x.b),rfl⟩|exact⟨congrArg AV.bool (tG x.a),rfl⟩)
  ·exact aA
 refine dM ?_;refine qA ?_;apply fE rfl;exact cT
 ·intro _;(refine aJ ?_);refine eU ?_;exact aL
 refine aJ ?_;refine aB rfl (fun g2=> ?_) (fun g2=> ?_)
 ·refine fN ?_;refine TM ?_;apply aE;exact aF
  ·(unfold cY jB pF;simp only[g1,g2,if_true,if_false,Bool.false_eq_true];first|exact⟨rfl,rfl⟩|exact⟨congrArg AV.bool (tF x.a x.b),rfl⟩|exact⟨congrArg AV.bool (tG x.a),rfl⟩)
  ·exact aA
 refine cZ ?_;refine aB rfl (fun g3=> ?_) (fun g3=> ?_)
 ·refine fN ?_;refine GN ?_;refine z61 ?_;refine z62 ?_;refine z55 ?_;refine z7 ?_;refine dE ?_;apply aE;exact aF
  ·(unfold cY jB pF;simp only[g1,g2,g3,if_true,if_false,Bool.false_eq_true];first|exact⟨rfl,rfl⟩|exact⟨congrArg AV.bool (tF x.a x.b),rfl⟩|exact⟨congrArg AV.bool (tG x.a),rfl⟩)
  ·exact aA
 refine cZ ?_;apply fE rfl;exact cT
 ·intro _;(refine aJ ?_);refine eU ?_;exact aL
 refine aJ ?_;refine aB rfl (fun g4=> ?_) (fun g4=> ?_)
 ·refine fN ?_;refine GN ?_;refine z61 ?_;refine z62 ?_;refine z55 ?_;refine z7 ?_;refine dE ?_;apply aE;exact aF
  ·(unfold cY jB pF;simp only[g1,g2,g3,g4,if_true,if_false,Bool.false_eq_true];first|exact⟨rfl,rfl⟩|exact⟨congrArg AV.bool (tF x.a x.b),rfl⟩|exact⟨congrArg AV.bool (tG x.a),rfl⟩)
  ·exact aA
 refine cZ ?_;refine aB rfl (fun g5=> ?_) (fun g5=> ?_)
 ·refine bM ?_;refine lp (β:=Nat) (fun j=>⟨[(1,.ptr r1 0),(4,.int .i64 j)],[(r1,.box 46 [.int .i64 x.op,.int .i64 x.a,.int .i64 x.b,.ro 1 (x.l.map aP) k])]⟩) (fun j=>j≤x.l.length∧(x.l.take j).any (fun n=> !pF n 0 1000)=false) (fun j=>x.l.length-j) 0 (by(exact aL)) ⟨Nat.zero_le _,rfl⟩ ?_;rintro j ⟨hj,ht⟩;refine mY ?_;refine aB rfl (fun h1=> ?_) (fun h1=> ?_)
  ·have hlt:j<x.l.length:=by simp at h1;omega
   refine fN ?_;refine nJ ?_;refine lo (iB (E rfl) (E rfl)) rfl ?_;refine uA ?_;refine z4 ?_;refine z71 ?_;refine z72 ?_;refine z18 ?_;refine z13 ?_;refine lD ?_;rw[Int.toNat_natCast];have hb:(if decide (x.l[j]! <0)=true then true else decide (1000<x.l[j]!))= !pF x.l[j]! 0 1000:=by
    rw[kC];generalize x.l[j]! =y;by_cases h3:y<0
    ·rw[decide_eq_true h3,if_pos rfl,decide_eq_false (by omega)];rfl
    ·by_cases h4:1000<y
     ·rw[decide_eq_false h3,decide_eq_true h4,decide_eq_false (by omega)];rfl
     ·rw[decide_eq_false h3,decide_eq_false h4,decide_eq_true (by omega)];rfl
   rw[hb];refine aB rfl (fun h2=> ?_) (fun h2=> ?_)
   ·have ha:(x.l.any fun n=> !pF n 0 1000)=true:=List.any_eq_true.2 ⟨x.l[j]!,by rw[getElem!_pos x.l j hlt];exact List.getElem_mem hlt,h2⟩;refine bM ?_;apply aE;exact aF
    ·unfold cY jB;simp only[g1,g2,g3,g4,g5,ha,if_true,if_false,Bool.false_eq_true];exact⟨by simp[gU,cV],rfl⟩
    ·exact aA
   ·refine lY ?_;refine⟨j+1,⟨by omega, ?_⟩,by omega, ?_⟩
    ·rw[List.take_add_one,List.any_append,ht,List.getElem?_eq_getElem hlt];rw[getElem!_pos x.l j hlt]at h2;simp only[Bool.false_or,Option.toList_some,List.any_cons,List.any_nil,Bool.or_false];exact h2
    ·exact aL
  ·obtain rfl:j=x.l.length:=by simp at h1;omega
   rw[List.take_length]at ht;refine fN ?_;refine GN ?_;refine z61 ?_;refine z62 ?_;refine z55 ?_;refine z7 ?_;refine uA ?_;refine z63 ?_;refine z55 ?_;refine z7 ?_;refine dE ?_;apply aE;exact aF
   ·unfold cY jB;simp only[g1,g2,g3,g4,g5,ht,if_true,if_false,Bool.false_eq_true];refine⟨?_,rfl⟩;unfold pF;show AV.bool _=AV.bool _
    congr 1
    generalize(if decide (0≤x.a)=true then decide (x.a≤1000)else false)=b1;cases b1<;>simp
   ·exact aA
 refine cZ ?_;refine aB rfl (fun g6=> ?_) (fun g6=> ?_)
 ·refine fN ?_;refine GN ?_;refine z61 ?_;refine z62 ?_;refine z55 ?_;refine z7 ?_;refine uA ?_;refine z34 ?_;refine z7 ?_;refine uA ?_;refine z69 ?_;refine z7 ?_;refine dE ?_;apply aE;exact aF
  ·(unfold cY jB pF;simp only[g1,g2,g3,g4,g5,g6,if_true,if_false,Bool.false_eq_true];first|exact⟨rfl,rfl⟩|exact⟨congrArg AV.bool (tF x.a x.b),rfl⟩|exact⟨congrArg AV.bool (tG x.a),rfl⟩)
  ·exact aA
 refine cZ ?_;refine aB rfl (fun g7=> ?_) (fun g7=> ?_)
 ·refine fN ?_;refine GN ?_;refine z61 ?_;refine z62 ?_;refine z69 ?_;refine z7 ?_;refine dE ?_;apply aE;exact aF
  ·(unfold cY jB pF;simp only[g1,g2,g3,g4,g5,g6,g7,if_true,if_false,Bool.false_eq_true];first|exact⟨rfl,rfl⟩|exact⟨congrArg AV.bool (tF x.a x.b),rfl⟩|exact⟨congrArg AV.bool (tG x.a),rfl⟩)
  ·exact aA
 refine dM ?_;refine TM ?_;apply aE;exact aF
 ·(unfold cY jB pF;simp only[g1,g2,g3,g4,g5,g6,g7,if_true,if_false,Bool.false_eq_true];first|exact⟨rfl,rfl⟩|exact⟨congrArg AV.bool (tF x.a x.b),rfl⟩|exact⟨congrArg AV.bool (tG x.a),rfl⟩)
 ·exact aA
def eqN (x y:Ins):Bool:=decide (x.op=y.op∧x.a=y.a∧x.b=y.b∧x.l=y.l)
theorem aEO(x y:Ins):(if(if(if(x.op==y.op)=true then x.a==y.a else false)=true then x.b==y.b else false)=true then decide (x.l=y.l)else false)=eqN x y:=by
 unfold eqN;by_cases h1:x.op=y.op<;>by_cases h2:x.a=y.a<;>by_cases h3:x.b=y.b<;>simp[h1,h2,h3]
theorem aCs(k k2:Rk)(x y:Ins):SCall Tryz.prog 122 [.agg (iv k x),.agg (iv k2 y)] [] (fun r σ=>r=.bool (eqN x y)∧σ=[]):=by
 refine cF 31 [0,1,2,3,4] Tryz.func122 ?_;unfold iv;refine dX ?_;refine iQ fun r2 h2=> ?_;intros
 refine iQ fun r3 h3=> ?_;intros
 refine iW ?_;refine fW ?_;refine lo (dI (E rfl) (E rfl)) rfl ?_;refine uA ?_;refine z61 ?_;refine z62 ?_;refine z70 ?_;refine z7 ?_;refine uA ?_;refine z61 ?_;refine z62 ?_;refine z70 ?_;refine z7 ?_;refine uA ?_;refine z61 ?_;refine z62 ?_
 (first|refine ln rfl rfl rfl rfl ?_ |refine lw rfl rfl (bS (v:=.bool false)) rfl ?_ |refine pu [] Tryz.call116 (gV x.l y.l) rfl cH bB ?_ |refine zE [] rfl rfl Tryz.call116 (fun _=>(gV x.l y.l)) rfl cH bB ?_ |refine puw [] rfl rfl Tryz.call116 (fun _=>(gV x.l y.l)) rfl cH bB ?_);refine kL ?_;exact aE aF ⟨by exact congrArg AV.bool (aEO x y),rfl⟩ aA
theorem UA{x:Ins}(h:aW x.op=0):cY x=false:=by
 unfold cY;split
 ·rfl
 ·simp[h]
theorem aEP{op:Int}(h:aW op≠0):0≤op∧op≤173:=by
 unfold aW iU TY at h;simp only[Bool.or_eq_true,beq_iff_eq,decide_eq_true_eq]at h;by_cases hc:0≤op∧op≤173
 ·exact hc
 ·exfalso;repeat rw[if_neg (by omega)]at h
  exact h rfl
theorem PH{x:Ins}(h:cY x=true):0≤x.op∧x.op≤173:=by
 refine aEP fun h0=> ?_
 rw[UA h0]at h;cases h
theorem aH9{x:Ins}(h:cY x=true)(hf:(aW x.op==2)=true):0≤x.a∧x.a≤2:=by
 rw[beq_iff_eq]at hf;simp[cY,hf,kC]at h;omega
theorem aEQ{x:Ins}(h:cY x=true)(hf:(aW x.op==3)=true):0≤x.a∧x.a≤1000:=by
 rw[beq_iff_eq]at hf;simp[cY,hf,kC]at h;omega
theorem aER{x:Ins}(h:cY x=true)(hf:(aW x.op==5)=true):0≤x.a∧x.a≤1000:=by
 rw[beq_iff_eq]at hf;simp[cY,hf,kC]at h;omega
theorem aES{x:Ins}(h:cY x=true)(hf:(aW x.op==4)=true):(0≤x.a∧x.a≤1000)∧x.l.length≤50∧∀n∈x.l,0≤n∧n≤1000:=by
 rw[beq_iff_eq]at hf;simp[cY,hf,kC]at h;obtain⟨h1,⟨h2,h3⟩,h4⟩:=h;exact⟨h2,by omega,h4⟩
theorem aET{x:Ins}(h:cY x=true)(hf:(aW x.op==6)=true):0≤x.a∧x.a≤3∧0≤x.b∧x.b≤4294967295:=by
 rw[beq_iff_eq]at hf;simp[cY,hf,kC]at h;omega
def vN (a:Int):Nat:=if a=0 then 64 else if a=1 then 127 else 126
def fR (x:Ins):List Nat:=
 if(aW x.op==2)=true then [vN x.a]else if(aW x.op==3)=true then uB x.a.toNat else if(aW x.op==5)=true then uB x.a.toNat++ [0]
 else if(aW x.op==4)=true then uB x.l.length++(x.l.flatMap fun n=>uB n.toNat)++uB x.a.toNat else if(aW x.op==6)=true then uB x.a.toNat++uB x.b.toNat
 else if(aW x.op==7)=true then [0]else if(aW x.op==8||aW x.op==9)=true then sB x.a else []
def gG (x:Ins):List Nat:=x.op.toNat::fR x
theorem sL:∀ {l:List Int},(∀n∈l,0≤n∧n≤1000)→(l.flatMap fun n=>uB n.toNat).length≤2*l.length
 |[],_=>by simp
 |n::l,h=>by
  have ih:=sL (l:=l) fun m hm=>h m (List.mem_cons_of_mem _ hm)
  have hn:=h n List.mem_cons_self;have h1:=bP 1 n.toNat (by omega);simp only[List.flatMap_cons,List.length_append,List.length_cons];omega
theorem aEU{a:Int}(h:0≤a∧a≤2):([.int .u8 64,.int .u8 127,.int .u8 126]:List AV)[a.toNat]? =some (.int .u8 (vN a:Nat)):=by
 have:a=0∨a=1∨a=2:=by omega
 rcases this with rfl|rfl|rfl<;>rfl
theorem BS(q:Nat)(vs:List Nat)(hvs:vs.length≤50000000)(k:Rk)(x:Ins)(hx:x.Ok)(hm:cY x=true):SCall Tryz.prog 242 [.own q 0 vs.length,.agg (iv k x)] [(q,.arr 5 1 (vs.map aG))]
  (fun y σ=>∃r,y=.own r 0 (vs++gG x).length∧σ=[(r,.arr 5 1 ((vs++gG x).map aG))]):=by
 have f1:=PH hm;have f2:=aH9 hm;have f3:=aEQ hm;have f4:=aES hm;have f5:=aER hm;have f6:=aET hm;have f8:-9223372036854775808≤x.a∧x.a≤9223372036854775807:=⟨hx.2.2.1,hx.2.2.2.1⟩
 obtain⟨op,ai,bi,l⟩:=x;dsimp only at f1 f2 f3 f4 f5 f6 f8;obtain⟨op,rfl⟩:=Int.eq_ofNat_of_zero_le f1.1;have hvo:vs++gG ⟨(op:Int),ai,bi,l⟩=(vs++ [op])++fR ⟨(op:Int),ai,bi,l⟩:=by simp[gG]
 rw[hvo];obtain⟨us,hus⟩:∃us,us=vs++ [op]:=⟨_,rfl⟩
 have hul:us.length≤50000001:=by rw[hus];simp;omega
 refine cF 90 [0,1,3,4,6,15,16,25,32,41,50,51,52,53,66,77,82] Tryz.func242 ?_;unfold iv;dsimp only;refine dX ?_;refine iQ fun r3 h3=> ?_;intros
 refine hZ ?_;refine fW ?_;refine z0 ?_;refine eN fun r11 h11=> ?_;intros
 apply ap (es':=(vs++ [op]).map aG) (len':=(vs++ [op]).length);rfl;rfl;exact bA
 ·simp
 ·exact .inr (.inr ⟨_,_,_,_,_,rfl,bA,by simp,rfl⟩)
 ·first|(simp[aG];done)|(simp only[List.drop_zero,List.map_append];congr 1;exact List.take_of_length_le (by simp))
 ·simp;try omega
 ·simp[maxLen];try omega
 ·simp;try omega
 ·rfl
 refine bH fun r12 h12=> ?_;intros
 refine dE ?_;rw[←hus];refine mK ?_
 (first|refine ln rfl rfl rfl rfl ?_ |refine lw rfl rfl (bS (v:=.bool false)) rfl ?_ |refine pu [] Tryz.call217 (iM _) rfl cH bB ?_ |refine zE [] rfl rfl Tryz.call217 (fun _=>(iM _)) rfl cH bB ?_ |refine puw [] rfl rfl Tryz.call217 (fun _=>(iM _)) rfl cH bB ?_);refine qA ?_;refine aB rfl (fun g1=> ?_) (fun g1=> ?_)
 ·refine aJ ?_;have ha:=f2 g1;have hp:fR ⟨(op:Int),ai,bi,l⟩=[vN ai]:=by unfold fR;simp only[g1,if_true,if_false,Bool.false_eq_true]
  refine iC ?_;refine lo (aB6 (z:=_) ⟨_,_,_,rfl⟩) rfl ?_;refine fW ?_;refine lo (aAJ rfl (E rfl) (E rfl) (fun _=>by omega) (fun _=>aEU ha)) rfl ?_;refine eN fun r23 h23=> ?_;intros
  apply ap (es':=(us++ [vN ai]).map aG) (len':=(us++ [vN ai]).length);rfl;rfl;exact bA
  ·simp
  ·exact .inr (.inr ⟨_,_,_,_,_,rfl,bA,by simp,rfl⟩)
  ·first|(simp[aG];done)|(simp only[List.drop_zero,List.map_append];congr 1;exact List.take_of_length_le (by simp))
  ·simp;try omega
  ·simp[maxLen];try omega
  ·simp;try omega
  ·rfl
  refine bH fun r24 h24=> ?_;intros
  refine dE ?_;rw[hp];exact aE aF ⟨_,by rfl,rfl⟩ aA
 refine cZ ?_;refine aB rfl (fun g2=> ?_) (fun g2=> ?_)
 ·refine aJ ?_;have ha:=f3 g2;obtain⟨a,rfl⟩:=Int.eq_ofNat_of_zero_le ha.1;have hp:fR ⟨(op:Int),(a:Int),bi,l⟩=uB a:=by unfold fR;simp only[g1,g2,if_true,if_false,Bool.false_eq_true,Int.toNat_natCast]
  refine pE ?_;refine XA ?_;refine cw [(r12,.arr 5 1 ((us).map aG))] Tryz.call239 (nB r12 (us) (by first|omega|(simp;omega)) a (by omega)) rfl ?_ ?_ ?_
  ·exact aC
  ·exact aA
  rintro _ σ' ⟨ra,rfl,rfl⟩ hra;have kra:=aZ hra;repeat rcases kra with⟨_,kra⟩
  refine eZ ?_;rw[hp];exact aE aF ⟨_,by rfl,rfl⟩ aA
 refine cZ ?_;refine aB rfl (fun g3=> ?_) (fun g3=> ?_)
 ·refine aJ ?_;have ha:=f5 g3;obtain⟨a,rfl⟩:=Int.eq_ofNat_of_zero_le ha.1;have hp:fR ⟨(op:Int),(a:Int),bi,l⟩=uB a++ [0]:=by unfold fR;simp only[g1,g2,g3,if_true,if_false,Bool.false_eq_true,Int.toNat_natCast]
  have hal:=bP 1 a (by omega);refine pE ?_;refine XA ?_;refine cw [(r12,.arr 5 1 ((us).map aG))] Tryz.call239 (nB r12 (us) (by first|omega|(simp;omega)) a (by omega)) rfl ?_ ?_ ?_
  ·exact aC
  ·exact aA
  rintro _ σ' ⟨ra,rfl,rfl⟩ hra;have kra:=aZ hra;repeat rcases kra with⟨_,kra⟩
  apply aY;exact bN;refine eN fun r39 h39=> ?_;intros
  apply ap (es':=((us++uB a)++ [0]).map aG) (len':=((us++uB a)++ [0]).length);rfl;rfl;exact bA
  ·simp
  ·exact .inr (.inr ⟨_,_,_,_,_,rfl,bA,by simp,rfl⟩)
  ·first|(simp[aG];done)|(simp only[List.drop_zero,List.map_append];congr 1;exact List.take_of_length_le (by simp))
  ·simp;try omega
  ·simp[maxLen];try omega
  ·simp;try omega
  ·rfl
  refine bH fun r40 h40=> ?_;intros
  refine dE ?_;rw[hp,←List.append_assoc];exact aE aF ⟨_,by rfl,rfl⟩ aA
 refine cZ ?_;refine aB rfl (fun g4=> ?_) (fun g4=> ?_)
 ·refine aJ ?_;have ha:=f4 g4;obtain⟨⟨ha0,ha1⟩,hl50,hall⟩:=ha;obtain⟨a,rfl⟩:=Int.eq_ofNat_of_zero_le ha0;have hp:fR ⟨(op:Int),(a:Int),bi,l⟩=uB l.length++(l.flatMap fun n=>uB n.toNat)++uB a:=by unfold fR;simp only[g1,g2,g3,g4,if_true,if_false,Bool.false_eq_true,Int.toNat_natCast]
  have hal:=bP 1 a (by omega);have hll:=bP 1 l.length (by omega);have hfl:=sL hall;refine pE ?_;refine kU ?_;refine XA ?_;refine cw [(r12,.arr 5 1 ((us).map aG))] Tryz.call239 (nB r12 (us) (by first|omega|(simp;omega)) l.length (by omega)) rfl ?_ ?_ ?_
  ·exact aC
  ·exact aA
  rintro _ σ' ⟨ra,rfl,rfl⟩ hra;have kra:=aZ hra;repeat rcases kra with⟨_,kra⟩
  refine eZ ?_;refine mK ?_;refine oH ?_;obtain⟨ws,hws⟩:∃ws,ws=us++uB l.length:=⟨_,rfl⟩
  have hwl:ws.length≤50000003:=by rw[hws];simp;omega
  rw[←hws];have hpre:∀j,(us++uB l.length++((l.take j).flatMap fun n=>uB n.toNat)).length≤50000103:=fun j=>by
   have:=sL (l:=l.take j) fun n hn=>hall n (List.mem_of_mem_take hn)
   simp at this⊢;omega
  refine lp (β:=Nat×Nat) (fun b=>⟨[(0,.own b.1 0 (ws++((l.take b.2).flatMap fun n=>uB n.toNat)).length),(3,.ptr r3 0),(50,.ro 1 (l.map aP) k),(51,.int .i64 l.length),(52,.int .i64 b.2)],[(b.1,.arr 5 1 ((ws++((l.take b.2).flatMap fun n=>uB n.toNat)).map aG)),(r3,.box 46 [.int .i64 op,.int .i64 a,.int .i64 bi,.ro 1 (l.map aP) k])]⟩) (fun b=>Nq b.1 r3∧b.2≤l.length) (fun b=>l.length-b.2) (ra,0) ?_ ⟨?_,Nat.zero_le _⟩ ?_
  ·simp only[List.take_zero,List.flatMap_nil,List.append_nil];exact aL
  ·show Nq ra r3;exact bV
  rintro⟨rb,j⟩ ⟨hrb,hj⟩;dsimp only at hrb hj⊢;have hpj:=hpre j;rw[←hws]at hpj;refine jR ?_;refine aB rfl (fun h1=> ?_) (fun h1=> ?_)
  ·have hlt:j<l.length:=by simp at h1;omega
   obtain⟨y,hy⟩:∃y,l[j]? =some y:=⟨_,List.getElem?_eq_getElem hlt⟩
   obtain⟨hy0,hy1⟩:=hall y (List.mem_of_getElem? hy);obtain⟨z,rfl⟩:=Int.eq_ofNat_of_zero_le hy0;refine dX ?_;refine mI ?_;refine lK ?_;refine XA ?_;refine cw [(rb,.arr 5 1 ((ws++((l.take j).flatMap fun n=>uB n.toNat)).map aG))] Tryz.call239 (nB rb (ws++((l.take j).flatMap fun n=>uB n.toNat)) (by first|omega|(simp;omega)) z (by omega)) rfl ?_ ?_ ?_
   ·exact aC
   ·exact aA
   rintro _ σ' ⟨rc,rfl,rfl⟩ hrc;have krc:=aZ hrc;repeat rcases krc with⟨_,krc⟩
   refine tY ?_;have hnx:ws++((l.take j).flatMap fun n=>uB n.toNat)++uB z=ws++((l.take (j+1)).flatMap fun n=>uB n.toNat):=by
    rw[List.take_add_one,hy,List.flatMap_append,List.append_assoc];simp
   rw[hnx];refine⟨(rc,j+1),⟨by show Nq rc r3;(exact bV),hlt⟩,by show l.length-(j+1)<l.length-j;omega, ?_⟩;exact aL
  ·obtain rfl:j=l.length:=by simp at h1;omega
   rw[List.take_length]at hpj⊢;refine kA ?_;refine XA ?_;refine cw [(rb,.arr 5 1 ((ws++(l.flatMap fun n=>uB n.toNat)).map aG))] Tryz.call239 (nB rb (ws++(l.flatMap fun n=>uB n.toNat)) (by first|omega|(simp;omega)) a (by omega)) rfl ?_ ?_ ?_
   ·exact aC
   ·exact aA
   rintro _ σ' ⟨rd,rfl,rfl⟩ hrd;have krd:=aZ hrd;repeat rcases krd with⟨_,krd⟩
   refine eZ ?_;rw[hp,show us++(uB l.length++(l.flatMap fun n=>uB n.toNat)++uB a)=ws++(l.flatMap fun n=>uB n.toNat)++uB a by rw[hws];simp];exact aE aF ⟨_,by rfl,rfl⟩ aA
 refine cZ ?_;refine aB rfl (fun g5=> ?_) (fun g5=> ?_)
 ·refine aJ ?_;have ha:=f6 g5;obtain⟨ha0,ha1,hb0,hb1⟩:=ha;obtain⟨a,rfl⟩:=Int.eq_ofNat_of_zero_le ha0;obtain⟨b,rfl⟩:=Int.eq_ofNat_of_zero_le hb0;have hp:fR ⟨(op:Int),(a:Int),(b:Int),l⟩=uB a++uB b:=by unfold fR;simp only[g1,g2,g3,g4,g5,if_true,if_false,Bool.false_eq_true,Int.toNat_natCast]
  have hal:=bP 1 a (by omega);refine fM [(0,true),(1,true),(2,true),(3,true),(5,true),(6,true),(7,true),(4,false),(8,false),(9,true)] ?_;refine zI ?_;refine z75 ?_;refine fX ?_;refine z75 ?_;refine rW [(r12,.arr 5 1 ((us).map aG))] rfl Tryz.call239 (nB r12 (us) (by first|omega|(simp;omega)) a (by omega)) rfl ?_ ?_ ?_ ?_
  ·exact aC
  ·exact aA
  ·exact fV
  rintro _ σ' ⟨ra,rfl,rfl⟩ hra;have kra:=aZ hra;repeat rcases kra with⟨_,kra⟩
  apply bZ;exact bN;refine rW [(ra,.arr 5 1 ((us++uB a).map aG))] rfl Tryz.call239 (nB ra (us++uB a) (by first|omega|(simp;omega)) b (by omega)) rfl ?_ ?_ ?_ ?_
  ·exact aC
  ·exact aA
  ·exact fV
  rintro _ σ' ⟨rb,rfl,rfl⟩ hrb;have krb:=aZ hrb;repeat rcases krb with⟨_,krb⟩
  refine tX ?_;rw[hp,←List.append_assoc];exact aE aF ⟨_,by rfl,rfl⟩ aA
 refine cZ ?_;refine aB rfl (fun g6=> ?_) (fun g6=> ?_)
 ·refine aJ ?_;have hp:fR ⟨(op:Int),ai,bi,l⟩=[0]:=by unfold fR;simp only[g1,g2,g3,g4,g5,g6,if_true,if_false,Bool.false_eq_true]
  refine iC ?_;refine eN fun r80 h80=> ?_;intros
  apply ap (es':=(us++ [0]).map aG) (len':=(us++ [0]).length);rfl;rfl;exact bA
  ·simp
  ·exact .inr (.inr ⟨_,_,_,_,_,rfl,bA,by simp,rfl⟩)
  ·first|(simp[aG];done)|(simp only[List.drop_zero,List.map_append];congr 1;exact List.take_of_length_le (by simp))
  ·simp;try omega
  ·simp[maxLen];try omega
  ·simp;try omega
  ·rfl
  refine bH fun r81 h81=> ?_;intros
  refine dE ?_;rw[hp];exact aE aF ⟨_,by rfl,rfl⟩ aA
 refine cZ ?_;apply fE rfl;exact cT
 ·intro _;(refine aJ ?_);refine eU ?_;exact aL
 refine aJ ?_;refine aB rfl (fun g7=> ?_) (fun g7=> ?_)
 ·refine aJ ?_;have hp:fR ⟨(op:Int),ai,bi,l⟩=sB ai:=by unfold fR;simp only[g1,g2,g3,g4,g5,g6,g7,if_true,if_false,Bool.false_eq_true]
  refine pE ?_;refine cw [(r12,.arr 5 1 (us.map aG))] Tryz.call296 (TU r12 us (by omega) ai f8) rfl ?_ ?_ ?_
  ·exact aC
  ·exact aA
  rintro _ σ' ⟨ra,rfl,rfl⟩ hra;refine eZ ?_;rw[hp];exact aE aF ⟨_,by rfl,rfl⟩ aA
 refine fA ?_;apply aE;exact aF
 ·(unfold fR;simp only[g1,g2,g3,g4,g5,g6,g7,if_true,if_false,Bool.false_eq_true,List.append_nil];exact⟨_,rfl,rfl⟩)
 ·exact aA
theorem aCt{a:Int}(h:0≤a∧a≤2):([[.int .u8 64],[.int .u8 127],[.int .u8 126]]:List (List AV))[a.toNat]? =some [.int .u8 (vN a:Nat)]:=by
 have:a=0∨a=1∨a=2:=by omega
 rcases this with rfl|rfl|rfl<;>rfl
theorem tH(k:Rk)(x:Ins)(hx:x.Ok)(hm:cY x=true):SCall Tryz.prog 253 [.agg (iv k x)] []
  (fun y σ=>∃r,y=.own r 0 (gG x).length∧σ=[(r,.arr 5 1 ((gG x).map aG))]):=by
 have f1:=PH hm;have f2:=aH9 hm;have f3:=aEQ hm;have f4:=aES hm;have f5:=aER hm;have f6:=aET hm;have hop:-9223372036854775808≤x.op∧x.op≤9223372036854775807:=⟨hx.1,hx.2.1⟩
 have f8:-9223372036854775808≤x.a∧x.a≤9223372036854775807:=⟨hx.2.2.1,hx.2.2.2.1⟩
 have hs8:(sB x.a).length≤10:=yD 9 x.a (by omega) (by omega);obtain⟨op,ai,bi,l⟩:=x;dsimp only at f1 f2 f3 f4 f5 f6 f8 hop hs8;obtain⟨op,rfl⟩:=Int.eq_ofNat_of_zero_le f1.1;have hvo:gG ⟨(op:Int),ai,bi,l⟩=[op]++fR ⟨(op:Int),ai,bi,l⟩:=by simp[gG]
 rw[hvo];refine cF 98 [0,1,2,3,4,11,12,22,30,40,53,71,84,89] Tryz.func253 ?_;unfold iv;dsimp only;refine dX ?_;refine iQ fun r1 h1=> ?_;intros
 refine iW ?_;refine z0 ?_;refine eN fun r8 h8=> ?_;intros
 refine dE ?_;rw[show [[AV.int .u8 (op:Int)]]=[op].map aG from rfl,show AV.own r8 0 1=AV.own r8 0 [op].length from rfl];refine mK ?_
 (first|refine ln rfl rfl rfl rfl ?_ |refine lw rfl rfl (bS (v:=.bool false)) rfl ?_ |refine pu [] Tryz.call250 (pO _ (by assumption)) rfl cH bB ?_ |refine zE [] rfl rfl Tryz.call250 (fun _=>(pO _ (by assumption))) rfl cH bB ?_ |refine puw [] rfl rfl Tryz.call250 (fun _=>(pO _ (by assumption))) rfl cH bB ?_);refine qA ?_;refine aB rfl (fun g1=> ?_) (fun g1=> ?_)
 ·refine aJ ?_;have ha:=f2 g1;have hp:fR ⟨(op:Int),ai,bi,l⟩=[vN ai]:=by unfold fR;simp only[g1,if_true,if_false,Bool.false_eq_true]
  refine iC ?_;refine eN fun r15 h15=> ?_;intros
  refine fW ?_;refine OU ?_;refine lo (bO (E rfl) rfl bA (fun _=>aCt ha) (fun _=>rfl)) rfl ?_;refine eN fun r20 h20=> ?_;intros
  apply ap (es':=([op]++ [vN ai]).map aG) (len':=([op]++ [vN ai]).length);rfl;rfl;exact bA
  ·simp
  ·exact .inr (.inr ⟨_,_,_,_,_,rfl,bA,by simp,rfl⟩)
  ·first|(simp[aG];done)|(simp only[List.drop_zero,List.map_append];congr 1;exact List.take_of_length_le (by simp))
  ·simp;try omega
  ·simp[maxLen];try omega
  ·simp;try omega
  ·rfl
  refine bH fun r21 h21=> ?_;intros
  refine dE ?_;rw[hp];exact aE aF ⟨_,by rfl,rfl⟩ aA
 refine cZ ?_;refine aB rfl (fun g2=> ?_) (fun g2=> ?_)
 ·refine aJ ?_;have ha:=f3 g2;obtain⟨a,rfl⟩:=Int.eq_ofNat_of_zero_le ha.1;have hp:fR ⟨(op:Int),(a:Int),bi,l⟩=uB a:=by unfold fR;simp only[g1,g2,if_true,if_false,Bool.false_eq_true,Int.toNat_natCast]
  have hal:=bP 1 a (by omega);refine pE ?_;refine XA ?_;refine cw [] Tryz.call252 (CZ a (by omega)) rfl ?_ ?_ ?_
  ·exact aC
  ·exact aA
  rintro _ σ' ⟨ra,rfl,rfl⟩ hra
  replace hra:=gL hra;repeat rcases hra with⟨_,hra⟩
  apply aY;exact bN
  apply ap (es':=([op]++uB a).map aG) (len':=([op]++uB a).length);rfl;rfl;exact bA
  ·simp
  ·exact .inr (.inr ⟨_,_,_,_,_,rfl,bA,by simp,rfl⟩)
  ·first|(simp[aG];done)|(simp only[List.drop_zero,List.map_append];congr 1;exact List.take_of_length_le (by simp))
  ·simp;try omega
  ·simp[maxLen];try omega
  ·simp;try omega
  ·rfl
  refine bH fun r29 h29=> ?_;intros
  refine dE ?_;rw[hp];exact aE aF ⟨_,by rfl,rfl⟩ aA
 refine cZ ?_;refine aB rfl (fun g3=> ?_) (fun g3=> ?_)
 ·refine aJ ?_;have ha:=f5 g3;obtain⟨a,rfl⟩:=Int.eq_ofNat_of_zero_le ha.1;have hp:fR ⟨(op:Int),(a:Int),bi,l⟩=uB a++ [0]:=by unfold fR;simp only[g1,g2,g3,if_true,if_false,Bool.false_eq_true,Int.toNat_natCast]
  have hal:=bP 1 a (by omega);refine pE ?_;refine XA ?_;refine cw [] Tryz.call252 (CZ a (by omega)) rfl ?_ ?_ ?_
  ·exact aC
  ·exact aA
  rintro _ σ' ⟨ra,rfl,rfl⟩ hra
  replace hra:=gL hra;repeat rcases hra with⟨_,hra⟩
  apply aY;exact bN;apply ap (es':=([op]++uB a).map aG) (len':=([op]++uB a).length);rfl;rfl;exact bA
  ·simp
  ·exact .inr (.inr ⟨_,_,_,_,_,rfl,bA,by simp,rfl⟩)
  ·first|(simp[aG];done)|(simp only[List.drop_zero,List.map_append];congr 1;exact List.take_of_length_le (by simp))
  ·simp;try omega
  ·simp[maxLen];try omega
  ·simp;try omega
  ·rfl
  refine bH fun r37 h37=> ?_;intros
  refine eN fun r38 h38=> ?_;intros
  apply ap (es':=(([op]++uB a)++ [0]).map aG) (len':=(([op]++uB a)++ [0]).length);rfl;rfl;exact bA
  ·simp
  ·exact .inr (.inr ⟨_,_,_,_,_,rfl,bA,by simp,rfl⟩)
  ·first|(simp[aG];done)|(simp only[List.drop_zero,List.map_append];congr 1;exact List.take_of_length_le (by simp))
  ·simp;try omega
  ·simp[maxLen];try omega
  ·simp;try omega
  ·rfl
  refine bH fun r39 h39=> ?_;intros
  refine dE ?_;rw[hp,←List.append_assoc];exact aE aF ⟨_,by rfl,rfl⟩ aA
 refine cZ ?_;refine aB rfl (fun g4=> ?_) (fun g4=> ?_)
 ·refine aJ ?_;have ha:=f4 g4;obtain⟨⟨ha0,ha1⟩,hl50,hall⟩:=ha;obtain⟨a,rfl⟩:=Int.eq_ofNat_of_zero_le ha0;have hp:fR ⟨(op:Int),(a:Int),bi,l⟩=uB l.length++(l.flatMap fun n=>uB n.toNat)++uB a:=by unfold fR;simp only[g1,g2,g3,g4,if_true,if_false,Bool.false_eq_true,Int.toNat_natCast]
  have hal:=bP 1 a (by omega);have hll:=bP 1 l.length (by omega);have hfl:=sL hall;refine pE ?_;refine kU ?_;refine XA ?_;refine cw [] Tryz.call252 (CZ l.length (by omega)) rfl ?_ ?_ ?_
  ·exact aC
  ·exact aA
  rintro _ σ' ⟨ra,rfl,rfl⟩ hra
  replace hra:=gL hra;repeat rcases hra with⟨_,hra⟩
  apply aY;exact bN;apply ap (es':=([op]++uB l.length).map aG) (len':=([op]++uB l.length).length);rfl;rfl;exact bA
  ·simp
  ·exact .inr (.inr ⟨_,_,_,_,_,rfl,bA,by simp,rfl⟩)
  ·first|(simp[aG];done)|(simp only[List.drop_zero,List.map_append];congr 1;exact List.take_of_length_le (by simp))
  ·simp;try omega
  ·simp[maxLen];try omega
  ·simp;try omega
  ·rfl
  refine bH fun r48 h48=> ?_;intros
  refine lJ ?_;refine dE ?_;obtain⟨ws,hws⟩:∃ws,ws=[op]++uB l.length:=⟨_,rfl⟩
  have hwl:ws.length≤3:=by rw[hws];simp;omega
  rw[←hws];have hpre:∀j,(ws++((l.take j).flatMap fun n=>uB n.toNat)).length≤103:=fun j=>by
   have:=sL (l:=l.take j) fun n hn=>hall n (List.mem_of_mem_take hn)
   simp at this⊢;omega
  refine lp (β:=Nat×Nat) (fun b=>⟨[(3,.own b.1 0 (ws++((l.take b.2).flatMap fun n=>uB n.toNat)).length),(1,.ptr r1 0),(4,.int .i64 b.2)],[(b.1,.arr 5 1 ((ws++((l.take b.2).flatMap fun n=>uB n.toNat)).map aG)),(r1,.box 46 [.int .i64 op,.int .i64 a,.int .i64 bi,.ro 1 (l.map aP) k])]⟩) (fun b=>Nq b.1 r1∧b.2≤l.length) (fun b=>l.length-b.2) (r48,0) ?_ ⟨?_,Nat.zero_le _⟩ ?_
  ·simp only[List.take_zero,List.flatMap_nil,List.append_nil];exact aL
  ·show Nq r48 r1;exact bV
  rintro⟨rb,j⟩ ⟨hrb,hj⟩;dsimp only at hrb hj⊢;have hpj:=hpre j;refine mY ?_;refine aB rfl (fun h1=> ?_) (fun h1=> ?_)
  ·have hlt:j<l.length:=by simp at h1;omega
   obtain⟨y,hy⟩:∃y,l[j]? =some y:=⟨_,List.getElem?_eq_getElem hlt⟩
   obtain⟨hy0,hy1⟩:=hall y (List.mem_of_getElem? hy);obtain⟨z,rfl⟩:=Int.eq_ofNat_of_zero_le hy0;have hzl:=bP 1 z (by omega);obtain⟨pl,hpl⟩:∃pl,pl=ws++((l.take j).flatMap fun n=>uB n.toNat):=⟨_,rfl⟩
   rw[←hpl]at hpj⊢;refine kA ?_;refine nJ ?_;refine XA ?_;refine cw [] Tryz.call252 (CZ z (by omega)) rfl ?_ ?_ ?_
   ·exact aC
   ·exact aA
   rintro _ σ' ⟨rc,rfl,rfl⟩ hrc
   replace hrc:=gL hrc;repeat rcases hrc with⟨_,hrc⟩
   apply aY;exact bN;apply ap (es':=(pl++uB z).map aG) (len':=(pl++uB z).length);rfl;rfl;exact bA
   ·simp
   ·exact .inr (.inr ⟨_,_,_,_,_,rfl,bA,by simp,rfl⟩)
   ·first|(simp[aG];done)|(simp only[List.drop_zero,List.map_append];congr 1;exact List.take_of_length_le (by simp))
   ·simp;try omega
   ·simp[maxLen];try omega
   ·simp;try omega
   ·rfl
   refine bH fun r64 h64=> ?_;intros
   refine hZ ?_;refine GM ?_;have hnx:ws++((l.take j).flatMap fun n=>uB n.toNat)++uB z=ws++((l.take (j+1)).flatMap fun n=>uB n.toNat):=by
    rw[List.take_add_one,hy,List.flatMap_append,List.append_assoc];simp
   rw[hpl,hnx];refine⟨(r64,j+1),⟨by show Nq r64 r1;(exact bV),hlt⟩,by show l.length-(j+1)<l.length-j;omega, ?_⟩;exact aL
  ·obtain rfl:j=l.length:=by simp at h1;omega
   rw[List.take_length]at hpj⊢;obtain⟨pl,hpl⟩:∃pl,pl=ws++(l.flatMap fun n=>uB n.toNat):=⟨_,rfl⟩
   rw[←hpl]at hpj⊢;refine kA ?_;refine XA ?_;refine cw [] Tryz.call252 (CZ a (by omega)) rfl ?_ ?_ ?_
   ·exact aC
   ·exact aA
   rintro _ σ' ⟨rd,rfl,rfl⟩ hrd
   replace hrd:=gL hrd;repeat rcases hrd with⟨_,hrd⟩
   apply aY;exact bN;apply ap (es':=(pl++uB a).map aG) (len':=(pl++uB a).length);rfl;rfl;exact bA
   ·simp
   ·exact .inr (.inr ⟨_,_,_,_,_,rfl,bA,by simp,rfl⟩)
   ·first|(simp[aG];done)|(simp only[List.drop_zero,List.map_append];congr 1;exact List.take_of_length_le (by simp))
   ·simp;try omega
   ·simp[maxLen];try omega
   ·simp;try omega
   ·rfl
   refine bH fun r70 h70=> ?_;intros
   refine dE ?_;rw[hpl];rw[hp,show [op]++(uB l.length++(l.flatMap fun n=>uB n.toNat)++uB a)=ws++(l.flatMap fun n=>uB n.toNat)++uB a by rw[hws];simp];exact aE aF ⟨_,by rfl,rfl⟩ aA
 refine cZ ?_;refine aB rfl (fun g5=> ?_) (fun g5=> ?_)
 ·refine aJ ?_;have ha:=f6 g5;obtain⟨ha0,ha1,hb0,hb1⟩:=ha;obtain⟨a,rfl⟩:=Int.eq_ofNat_of_zero_le ha0;obtain⟨b,rfl⟩:=Int.eq_ofNat_of_zero_le hb0;have hp:fR ⟨(op:Int),(a:Int),(b:Int),l⟩=uB a++uB b:=by unfold fR;simp only[g1,g2,g3,g4,g5,if_true,if_false,Bool.false_eq_true,Int.toNat_natCast]
  have hal:=bP 1 a (by omega);have hbl:=bP 4 b (by omega);refine fM [(0,true),(1,true),(2,true),(3,true),(6,true),(7,true),(8,true),(4,false),(5,false),(9,false),(10,false),(11,true)] ?_;refine zI ?_;refine z75 ?_;refine fX ?_;refine z75 ?_;refine rW [] rfl Tryz.call252 (CZ a (by omega)) rfl ?_ ?_ ?_ ?_
  ·exact aC
  ·exact aA
  ·exact fV
  rintro _ σ' ⟨ra,rfl,rfl⟩ hra
  replace hra:=gL hra;repeat rcases hra with⟨_,hra⟩
  apply bZ;exact bN;apply dap (es':=([op]++uB a).map aG) (len':=([op]++uB a).length);rfl;infer_instance;infer_instance;rfl;rfl;exact bA
  ·simp
  ·exact .inr (.inr ⟨_,_,_,_,_,rfl,bA,by simp,rfl⟩)
  ·first|(simp[aG];done)|(simp only[List.drop_zero,List.map_append];congr 1;exact List.take_of_length_le (by simp))
  ·simp;try omega
  ·simp[maxLen];try omega
  ·simp;try omega
  ·rfl
  ·exact fV
  refine bH fun r78 h78=> ?_;intros
  refine rW [] rfl Tryz.call252 (CZ b (by omega)) rfl ?_ ?_ ?_ ?_
  ·exact aC
  ·exact aA
  ·exact fV
  rintro _ σ' ⟨rb,rfl,rfl⟩ hrb
  replace hrb:=gL hrb;repeat rcases hrb with⟨_,hrb⟩
  apply bZ;exact bN;apply dap (es':=(([op]++uB a)++uB b).map aG) (len':=(([op]++uB a)++uB b).length);rfl;infer_instance;infer_instance;rfl;rfl;exact bA
  ·simp
  ·exact .inr (.inr ⟨_,_,_,_,_,rfl,bA,by simp,rfl⟩)
  ·first|(simp[aG];done)|(simp only[List.drop_zero,List.map_append];congr 1;exact List.take_of_length_le (by simp))
  ·simp;try omega
  ·simp[maxLen];try omega
  ·simp;try omega
  ·rfl
  ·exact fV
  refine bH fun r83 h83=> ?_;intros
  refine yB ?_;rw[hp,←List.append_assoc];exact aE aF ⟨_,by rfl,rfl⟩ aA
 refine cZ ?_;refine aB rfl (fun g6=> ?_) (fun g6=> ?_)
 ·refine aJ ?_;have hp:fR ⟨(op:Int),ai,bi,l⟩=[0]:=by unfold fR;simp only[g1,g2,g3,g4,g5,g6,if_true,if_false,Bool.false_eq_true]
  refine iC ?_;refine eN fun r87 h87=> ?_;intros
  apply ap (es':=([op]++ [0]).map aG) (len':=([op]++ [0]).length);rfl;rfl;exact bA
  ·simp
  ·exact .inr (.inr ⟨_,_,_,_,_,rfl,bA,by simp,rfl⟩)
  ·first|(simp[aG];done)|(simp only[List.drop_zero,List.map_append];congr 1;exact List.take_of_length_le (by simp))
  ·simp;try omega
  ·simp[maxLen];try omega
  ·simp;try omega
  ·rfl
  refine bH fun r88 h88=> ?_;intros
  refine dE ?_;rw[hp];exact aE aF ⟨_,by rfl,rfl⟩ aA
 refine cZ ?_;apply fE rfl;exact cT
 ·intro _;(refine aJ ?_);refine eU ?_;exact aL
 refine aJ ?_;refine aB rfl (fun g7=> ?_) (fun g7=> ?_)
 ·refine aJ ?_;have hp:fR ⟨(op:Int),ai,bi,l⟩=sB ai:=by unfold fR;simp only[g1,g2,g3,g4,g5,g6,g7,if_true,if_false,Bool.false_eq_true]
  refine pE ?_;refine cw [] Tryz.call297 (aKI ai f8) rfl ?_ ?_ ?_
  ·exact aC
  ·exact aA
  rintro _ σ' ⟨ra,rfl,rfl⟩ hra
  replace hra:=gL hra;repeat rcases hra with⟨_,hra⟩
  apply aY;exact bN;apply ap (es':=([op]++sB ai).map aG) (len':=([op]++sB ai).length);rfl;rfl;exact bA
  ·simp
  ·exact .inr (.inr ⟨_,_,_,_,_,rfl,bA,by simp,rfl⟩)
  ·first|(simp[aG];done)|(simp only[List.drop_zero,List.map_append];congr 1;exact List.take_of_length_le (by simp))
  ·simp;try omega
  ·simp[maxLen];try omega
  ·simp;try omega
  ·rfl
  refine bH fun r96 h96=> ?_;intros
  refine dE ?_;rw[hp];exact aE aF ⟨_,by rfl,rfl⟩ aA
 refine fA ?_;apply aE;exact aF
 ·(unfold fR;simp only[g1,g2,g3,g4,g5,g6,g7,if_true,if_false,Bool.false_eq_true,List.append_nil];exact⟨_,rfl,rfl⟩)
 ·exact aA
def rv (l:List Nat) (n:Nat) (e:Int):List AV:=[.ro 1 (l.map aG) .any,.int .i64 n,.int .i64 e]
def pH (l:List Nat) (n:Nat) (e:Int):Nat×Nat×Int:=
 if(e !=0)=true then(0,n,e)else if((n:Int)==(l.length:Int))=true then(0,n,2)else(l[n]!,n+1,e)
def gO (l:List Nat) (lim:Int) (n:Nat) (e:Int):Nat×Nat×Int:=
 if(e !=0)=true then(0,n,e)else if((lN (l.drop n)).2.2 !=0)=true then(0,n,(lN (l.drop n)).2.2)else if decide (lim<((lN (l.drop n)).1:Int))=true then(0,n,1)else((lN (l.drop n)).1,n+(lN (l.drop n)).2.1,(lN (l.drop n)).2.2)
def DA (l:List Nat) (bits:Nat) (n:Nat):Int×Nat×Int:=((xE bits (l.drop n)).1,n+(xE bits (l.drop n)).2.1,(xE bits (l.drop n)).2.2)
theorem GS(r:Nat)(l:List Nat)(hl:l.length≤1000000)(hlt:∀x∈l,x<256)(n:Nat)(hn:n≤l.length)(e:Int):SCall Tryz.prog 314 [.ptr r 0] [(r,.box 346 (rv l n e))]
  (fun x σ=>x=.int .i64 ((pH l n e).1:Nat)∧σ=[(r,.box 346 (rv l (pH l n e).2.1 (pH l n e).2.2))]):=by
 refine cF 42 [0,2,3,9] Tryz.func314 ?_;unfold rv;refine iD ?_;refine kG ?_;refine lo (gA (E rfl) (E rfl)) rfl ?_;refine dE ?_;refine aB rfl (fun g1=> ?_) (fun g1=> ?_)
 ·refine bM ?_;apply aE;exact aF
  ·(unfold pH;simp only[g1,if_true,if_false,Bool.false_eq_true];exact⟨rfl,rfl⟩)
  ·exact aA
 refine aJ ?_;refine fM [(0,true),(1,true),(2,true),(3,true),(4,true),(5,true),(6,true),(7,true),(8,true),(9,true),(10,true)] ?_;refine pC ?_;refine CY ?_;refine z79 ?_;refine yB ?_;refine aB rfl (fun g2=> ?_) (fun g2=> ?_)
 ·refine xP ?_;refine bM ?_;apply aE;exact aF
  ·(unfold pH;simp only[g1,g2,if_true,if_false,Bool.false_eq_true];exact⟨rfl,rfl⟩)
  ·exact aA
 refine oK ?_;refine FH ?_;refine oI ?_;have hlt2:n<l.length:=by simp at g2;omega
 refine fM [(0,true),(1,true),(2,true),(3,true),(4,true),(5,true),(6,true),(7,true),(8,true),(9,true),(10,true),(11,true),(12,true)] ?_;refine pC ?_;refine pC ?_;refine z82 ?_;rw[show(n:Int)+1-1=(n:Nat) by omega];refine MT ?_;refine WR ?_;rw[Int.toNat_natCast];have hb8:=zS hlt n;refine z83 ?_;refine yB ?_;apply aE;exact aF
 ·(unfold pH;simp only[g1,g2,if_true,if_false,Bool.false_eq_true];exact⟨rfl,rfl⟩)
 ·exact aA
def PI (l:List Nat) (n:Nat) (e:Int):Nat×Int:=if(((pH l n e).1:Int) !=0)=true then((pH l n e).2.1,1)else(pH l n e).2
theorem UB(r:Nat)(l:List Nat)(hl:l.length≤1000000)(hlt:∀x∈l,x<256)(n:Nat)(hn:n≤l.length)(e:Int):SCall Tryz.prog 317 [.ptr r 0] [(r,.box 346 (rv l n e))]
  (fun x σ=>x=.tup []∧σ=[(r,.box 346 (rv l (PI l n e).1 (PI l n e).2))]):=by
 refine cF 8 [0,4] Tryz.func317 ?_;unfold rv;refine dM ?_;refine cw [(r,.box 346 (rv l n e))] Tryz.call314 (GS r l hl hlt n hn e) rfl ?_ ?_ ?_
 ·exact aC
 ·exact aA
 rintro _ σ' ⟨rfl,rfl⟩-;apply aY;exact bN;refine lX ?_;unfold rv;refine aB rfl (fun g1=> ?_) (fun g1=> ?_)
 ·refine sG ?_;refine bY ?_;apply aE;exact aF
  ·unfold PI;rw[if_pos g1];exact⟨rfl,rfl⟩
  ·exact aA
 ·refine aJ ?_;refine bY ?_;apply aE;exact aF
  ·unfold PI;rw[if_neg (by rw[g1];simp)];exact⟨rfl,rfl⟩
  ·exact aA
theorem ND{l:List Nat}{n:Nat}:List.take ((l.map aG).length-n) (List.drop n (l.map aG))=(l.drop n).map aG:=by
 rw[List.map_drop,List.take_of_length_le (by simp)]
theorem PJ{e:Int}{b:Bool}(h:(if(e==0)=true then b else false)=true):e=0∧b=true:=by
 split at h
 ·next h1=>exact⟨by simpa using h1,h⟩
 ·cases h
theorem vO{e:Int}{b:Bool}(h:(if(e==0)=true then b else false)=false)(h0:(e !=0)=false):e=0∧b=false:=by
 have h1:e=0:=by simpa using h0
 subst h1;exact⟨rfl,h⟩
theorem jM(r:Nat)(l:List Nat)(hl:l.length≤1000000)(hlt:∀x∈l,x<256)(lim:Int)(n:Nat)(hn:n≤l.length)(e:Int):SCall Tryz.prog 316 [.ptr r 0,.int .i64 lim] [(r,.box 346 (rv l n e))]
  (fun x σ=>x=.int .i64 ((gO l lim n e).1:Nat)∧σ=[(r,.box 346 (rv l (gO l lim n e).2.1 (gO l lim n e).2.2))]):=by
 have hbd:=zQ (l.drop n);obtain⟨hb1,hb2,hb3⟩:=hbd;rw[List.length_drop]at hb2;refine cF 51 [0,1,4,5,6,7,12,34,40] Tryz.func316 ?_;unfold rv;refine iD ?_;refine kG ?_;refine lX ?_;refine aB rfl (fun g1=> ?_) (fun g1=> ?_)
 ·refine bM ?_;apply aE;exact aF
  ·(unfold gO;simp only[g1,if_true,if_false,Bool.false_eq_true];first|exact⟨rfl,rfl⟩|(have hd:=vO g2 g3;simp only[hd.2,Bool.false_eq_true,if_false];exact⟨rfl,rfl⟩))
  ·exact aA
 refine aJ ?_;refine fM [(0,true),(1,true),(2,true),(3,true),(4,true),(5,true),(6,true),(7,true),(8,true),(9,false),(10,true),(11,true),(12,true),(13,true),(14,true),(15,true),(16,true)] ?_;refine pC ?_;refine pC ?_;refine z84 ?_;rw[ND];refine dpu [] rfl Tryz.call166 (aG2 (l.drop n) (by rw[List.length_drop];omega) (fun x hx=>hlt x (List.mem_of_mem_drop hx))) rfl cH bB ?_;refine fI rfl (aD (E rfl)) rfl ?_;refine z85 ?_;refine z85 ?_;refine z85 ?_;refine fI rfl (bG (E rfl)) rfl ?_;refine aH3 ?_;refine dM ?_;refine lo (dI (E rfl) (E rfl)) rfl ?_;refine xK ?_;refine z80 ?_;refine z4 ?_;refine z81 ?_;refine z7 ?_;refine lD ?_;refine aB rfl (fun g2=> ?_) (fun g2=> ?_)
 ·refine mW ?_;refine uO ?_;refine pD ?_;refine lo (gA (E rfl) (E rfl)) rfl ?_;refine iF ?_;refine bM ?_;apply aE;exact aF
  ·unfold gO;have hd:=PJ g2;simp only[g1,hd.1,hd.2,bne_self_eq_false,Bool.false_eq_true,if_true,if_false];exact⟨rfl,rfl⟩
  ·exact aA
 refine eX ?_;refine uO ?_;refine pD ?_;refine lX ?_;refine aB rfl (fun g3=> ?_) (fun g3=> ?_)
 ·refine bM ?_;apply aE;exact aF
  ·(unfold gO;simp only[g1,g2,g3,if_true,if_false,Bool.false_eq_true];first|exact⟨rfl,rfl⟩|(have hd:=vO g2 g3;simp only[hd.2,Bool.false_eq_true,if_false];exact⟨rfl,rfl⟩))
  ·exact aA
 refine oK ?_;refine lo (aD (E rfl)) rfl ?_;refine FH ?_;refine uO ?_;refine pD ?_;refine z44 ?_;refine dE ?_;apply aE;exact aF
 ·(unfold gO;simp only[g1,g2,g3,if_true,if_false,Bool.false_eq_true];first|exact⟨rfl,rfl⟩|(have hd:=vO g2 g3;simp only[hd.2,Bool.false_eq_true,if_false];exact⟨rfl,rfl⟩))
 ·exact aA
theorem GT(r:Nat)(l:List Nat)(hl:l.length≤1000000)(hlt:∀x∈l,x<256)(bits:Nat)(hb:bits=32∨bits=64)(n:Nat)(hn:n≤l.length)(e:Int):SCall Tryz.prog 318 [.ptr r 0,.int .i64 bits] [(r,.box 346 (rv l n e))]
  (fun x σ=>x=.int .i64 (DA l bits n).1∧σ=[(r,.box 346 (rv l (DA l bits n).2.1 (DA l bits n).2.2))]):=by
 have hbd:=ZH bits (l.drop n);rw[List.length_drop]at hbd;refine cF 37 [0,1,4,5,6,7] Tryz.func318 ?_;unfold rv DA;refine bM ?_;refine fM [(0,true),(1,true),(2,true),(3,true),(4,true),(5,true),(6,true),(7,true),(8,true),(9,true),(10,false),(11,true),(12,true),(13,true),(14,true),(15,true),(16,true),(17,true)] ?_;refine pC ?_;refine pC ?_;refine z84 ?_;refine fI rfl (aD (E rfl)) rfl ?_;rw[ND];refine dpu [] rfl Tryz.call322 (aKL (l.drop n) (by rw[List.length_drop];omega) (fun x hx=>hlt x (List.mem_of_mem_drop hx)) bits hb) rfl cH bB ?_;refine fI rfl (aD (E rfl)) rfl ?_;refine z85 ?_;refine z85 ?_;refine z85 ?_;refine fI rfl (bG (E rfl)) rfl ?_;refine aH3 ?_;refine tD ?_;refine kG ?_;refine lo (aD (E rfl)) rfl ?_;refine FH ?_;refine lo (aD (E rfl)) rfl ?_;refine uO ?_;apply SO;rfl;rfl;rfl;rfl;exact mU;refine uO ?_;refine pX ?_;refine fA ?_;exact aE aF ⟨by rfl,rfl⟩ aA
def XJ (l:List Int) (y:Int):Int:=match l.findIdx? (· ==y)with|some i=>i|none=> -1
theorem KT{k:Rk}(l:List Int)(y:Int):SCall Tryz.prog 321 [.ro 1 (l.map aP) k,.int .i64 y] [] (fun x σ=>x=.int .i64 (XJ l y)∧σ=[]):=by
 refine cF 19 [0,1,4,5,7,8,9,16] Tryz.func321 ?_;refine hY (i:=0) rfl fun hm=> ?_
 rw[List.length_map]at hm;unfold maxLen at hm;refine sJ ?_;refine lp (β:=Nat) (fun j=>⟨[(0,.ro 1 (l.map aP) k),(1,.int .i64 y),(7,.int .i64 l.length),(8,.int .i64 j)],[]⟩) (fun j=>j≤l.length∧∀i,i<j→l[i]? ≠some y) (fun j=>l.length-j) 0 ?_ ⟨Nat.zero_le _,fun i hi=>by omega⟩ ?_
 ·exact aL
 rintro j ⟨hj,ht⟩;refine jR ?_;refine aB rfl (fun h1=> ?_) (fun h1=> ?_)
 ·have hlt:j<l.length:=by simp at h1;omega
  obtain⟨x,hx⟩:∃x,l[j]? =some x:=⟨_,List.getElem?_eq_getElem hlt⟩
  refine tZ ?_;refine nJ ?_;refine rO ?_;refine aB rfl (fun h2=> ?_) (fun h2=> ?_)
  ·have hxy:y=x:=by simpa using h2
   refine fA ?_;apply aE;exact aF
   ·have:l.findIdx? (· ==y)=some j:=by
     rw[List.findIdx?_eq_some_iff_getElem];refine⟨hlt, ?_,fun i hi=> ?_⟩
     ·rw[List.getElem?_eq_getElem hlt]at hx;simp at hx⊢;rw[hx,hxy]
     ·have:=ht i hi;rw[List.getElem?_eq_getElem (by omega)]at this;simpa using this
    unfold XJ;rw[this];exact⟨rfl,rfl⟩
   ·exact aA
  ·have hxy:y≠x:=by simpa using h2
   refine mP ?_;refine⟨j+1,⟨by omega,fun i hi=> ?_⟩,by omega, ?_⟩
   ·by_cases hij:i=j
    ·subst hij;rw[hx];simpa using fun e=>hxy e.symm
    ·exact ht i (by omega)
   ·exact aL
 ·obtain rfl:j=l.length:=by simp at h1;omega
  refine bM ?_;apply aE;exact aF
  ·have:l.findIdx? (· ==y)=none:=by
    rw[List.findIdx?_eq_none_iff];intro x hx;obtain⟨i,hi,rfl⟩:=List.mem_iff_getElem.1 hx;have:=ht i hi;rw[List.getElem?_eq_getElem hi]at this;simpa using this
   unfold XJ;rw[this];exact⟨rfl,rfl⟩
  ·exact aA
def vP (c:Nat):Int:=XJ [64,127,126] c
def PK (l:List Nat) (n:Nat) (e:Int):Int×Nat×Int:=
 if(if decide (vP (pH l n e).1<0)=true then((pH l n e).2.2==0)else false)=true then(if vP (pH l n e).1<0 then 0 else vP (pH l n e).1,(pH l n e).2.1,1)else(if vP (pH l n e).1<0 then 0 else vP (pH l n e).1,(pH l n e).2.1,(pH l n e).2.2)
theorem aCu(r:Nat)(l:List Nat)(hl:l.length≤1000000)(hlt:∀x∈l,x<256)(n:Nat)(hn:n≤l.length)(e:Int):SCall Tryz.prog 315 [.ptr r 0] [(r,.box 346 (rv l n e))]
  (fun x σ=>x=.int .i64 (PK l n e).1∧σ=[(r,.box 346 (rv l (PK l n e).2.1 (PK l n e).2.2))]):=by
 refine cF 24 [0,2,3,4,18] Tryz.func315 ?_;unfold rv;refine iD ?_;refine cw [(r,.box 346 (rv l n e))] Tryz.call314 (GS r l hl hlt n hn e) rfl ?_ ?_ ?_
 ·exact aC
 ·exact aA
 rintro _ σ' ⟨rfl,rfl⟩-;refine eZ ?_;unfold rv;refine jQ ?_;refine eN fun r7 h7=> ?_;intros
 refine lo (aD (E rfl)) rfl ?_;rw[show([[.int .i64 64],[.int .i64 127],[.int .i64 126]]:List (List AV))=[64,127,126].map aP from rfl];refine pu [r7] Tryz.call321 (KT (k:=.any) [64,127,126] ((pH l n e).1:Nat)) rfl ?_ bB ?_
 ·exact aR
 refine dE ?_;rw[show XJ [64,127,126] ((pH l n e).1:Nat)=vP (pH l n e).1 from rfl];refine iC ?_;refine lo (iB (E rfl) (E rfl)) rfl ?_;refine xK ?_;refine z91 ?_;refine z92 ?_;refine z62 ?_;refine z6 ?_;refine z7 ?_;refine lD ?_;refine aB rfl (fun g1=> ?_) (fun g1=> ?_)
 ·refine KM ?_;refine pD ?_;refine lo (ZB (E rfl) (E rfl)) rfl ?_;refine dE ?_;apply aE;exact aF
  ·(unfold PK;simp only[g1,if_true,if_false,Bool.false_eq_true];exact⟨rfl,rfl⟩)
  ·exact aA
 refine dM ?_;refine lo (ZB (E rfl) (E rfl)) rfl ?_;refine dE ?_;apply aE;exact aF
 ·(unfold PK;simp only[g1,if_true,if_false,Bool.false_eq_true];exact⟨rfl,rfl⟩)
 ·exact aA
def io (q:Nat) (x:Ins):List AV:=[.int .i64 x.op,.int .i64 x.a,.int .i64 x.b,.own q 0 x.l.length]
def ins0:Ins:=⟨0,0,0,[]⟩
def rP (l:List Nat):Nat→Nat→Int→List Int×Nat×Int
 |0,n,e=>([],n,e)
 |m+1,n,e=>(((rP l m n e).1++ [((gO l 1000 (rP l m n e).2.1 (rP l m n e).2.2).1:Int)]),(gO l 1000 (rP l m n e).2.1 (rP l m n e).2.2).2)
def nC (x:Ins) (n:Nat) (e:Int):Ins×Nat×Int:=if(e !=0)=true then(ins0,0,e)else(x,n,0)
def tI (l:List Nat) (op:Int) (n:Nat) (e:Int):Ins×Nat×Int:=
 if(aW op==2)=true then nC ⟨op,(PK l n e).1,0,[]⟩ (PK l n e).2.1 (PK l n e).2.2
 else if(aW op==3)=true then nC ⟨op,(gO l 1000 n e).1,0,[]⟩ (gO l 1000 n e).2.1 (gO l 1000 n e).2.2
 else if(aW op==5)=true then nC ⟨op,(gO l 1000 n e).1,0,[]⟩ (PI l (gO l 1000 n e).2.1 (gO l 1000 n e).2.2).1 (PI l (gO l 1000 n e).2.1 (gO l 1000 n e).2.2).2
 else if(aW op==4)=true then
  let u:=gO l 50 n e
  let w:=rP l u.1 u.2.1 u.2.2
  let v:=gO l 1000 w.2.1 w.2.2
  nC ⟨op,v.1,0,w.1⟩ v.2.1 v.2.2
 else if(aW op==6)=true then
  let u:=gO l 3 n e
  let v:=gO l 4294967295 u.2.1 u.2.2
  nC ⟨op,u.1,v.1,[]⟩ v.2.1 v.2.2
 else if(aW op==7)=true then nC ⟨op,0,0,[]⟩ (PI l n e).1 (PI l n e).2
 else if(aW op==8)=true then nC ⟨op,(DA l 32 n).1,0,[]⟩ (DA l 32 n).2.1 (DA l 32 n).2.2
 else if(aW op==9)=true then nC ⟨op,(DA l 64 n).1,0,[]⟩ (DA l 64 n).2.1 (DA l 64 n).2.2
 else nC ⟨op,0,0,[]⟩ n e
def fF (l:List Nat):Ins×Nat×Int:=
 if(aW ((pH l 0 0).1:Nat)==0)=true then(ins0,0,1)
 else if((pH l 0 0).2.2 !=0)=true then(ins0,0,(pH l 0 0).2.2)
 else tI l ((pH l 0 0).1:Nat) (pH l 0 0).2.1 (pH l 0 0).2.2
theorem aIa{l:List Nat}{n:Nat}{e:Int}(h:n≤l.length):(pH l n e).2.1≤l.length:=by
 unfold pH;split
 ·exact h
 ·split
  ·exact h
  ·next h1=>simp at h1⊢;omega
theorem PL{l:List Nat}{lim:Int}{n:Nat}{e:Int}(h:n≤l.length):(gO l lim n e).2.1≤l.length:=by
 have h1:=(zQ (l.drop n)).2.1;rw[List.length_drop]at h1;unfold gO;repeat' split
 all_goals first|exact h|(simp;omega)
theorem aIb{l:List Nat}{lim:Int}{n:Nat}{e:Int}(h:0≤lim):((gO l lim n e).1:Int)≤lim:=by
 unfold gO;split
 ·exact h
 ·split
  ·exact h
  ·split
   ·exact h
   ·next h1=>simp at h1⊢;omega
theorem aCv{l:List Nat}:∀ {m n:Nat} {e:Int},n≤l.length→(rP l m n e).2.1≤l.length
 |0,_,_,h=>h
 | _ +1,_,_,h=>PL (aCv h)
theorem PM{l:List Nat}:∀ {m n:Nat} {e:Int},(rP l m n e).1.length=m
 |0,_,_=>rfl
 |m+1,n,e=>by rw[rP];simp[PM (m:=m)]
theorem NE(l:List Nat)(hl:l.length≤1000000)(hlt:∀x∈l,x<256):SCall Tryz.prog 298 [.ro 1 (l.map aG) .any] []
  (fun y σ=>∃q,y=.tup [.agg (io q (fF l).1),.int .i64 ((fF l).2.1:Nat),.int .i64 (fF l).2.2]∧σ=[(q,.arr 3 1 ((fF l).1.l.map aP))]):=by
 refine cF 104 [0,2,3,4,5,6,7,18,26,32,33,38,43,50,53,54,55,67,75,79,84,93] Tryz.func298 ?_;refine dX ?_;refine jU fun r2 h2=> ?_;intros
 refine mZ ?_;refine jK ?_;refine iQ fun r10 h10=> ?_;intros
 refine hZ ?_;refine cw [(r10,.box 346 (rv l (0) (0)))] Tryz.call314 (GS r10 l hl hlt 0 (by omega) 0) rfl ?_ ?_ ?_
 ·exact aC
 ·exact aA
 rintro _ σ' ⟨rfl,rfl⟩-;apply aY;exact bN;unfold rv;refine jK ?_;refine jU fun r6 h6=> ?_;intros
 refine pX ?_;refine an ?_;refine cM (ks:=[0,2,3,4,5,6,7,18,26,32,33,38,43,50,53,54,55,67,75,79,84,93]) r6 3 3 1 (by decide) bA rfl (by decide) fun q hq=> ?_
 simp only[aO,aT,and_true]at hq;repeat rcases hq with⟨_,hq⟩
 apply Exists.intro;apply And.intro;exact cA;refine aJ ?_;have hn1:=aIa (l:=l) (n:=0) (e:=0) (by omega);generalize hB:pH l 0 0=bb at*;obtain⟨c,n1,e1⟩:=bb;dsimp only at hn1⊢;rw[show([AV.int .i64 (c:Int),.int .i64 0,.int .i64 0,.ro 0 [] .nil].set 3 (.own q 0 0))=[.int .i64 (c:Int),.int .i64 0,.int .i64 0,.own q 0 0]from rfl];refine mK ?_
 (first|refine ln rfl rfl rfl rfl ?_ |refine lw rfl rfl (bS (v:=.bool false)) rfl ?_ |refine pu [] Tryz.call217 (iM _) rfl cH bB ?_ |refine zE [] rfl rfl Tryz.call217 (fun _=>(iM _)) rfl cH bB ?_ |refine puw [] rfl rfl Tryz.call217 (fun _=>(iM _)) rfl cH bB ?_);refine hZ ?_;refine rO ?_;refine aB rfl (fun g1=> ?_) (fun g1=> ?_)
 ·refine aJ ?_;have hG:fF l=(ins0,0,1):=by unfold fF;rw[hB];simp only[g1,if_true]
  refine iC ?_;refine uO ?_;refine pD ?_;refine kG ?_;refine lX ?_;refine fM [(0,true),(1,true),(2,true),(3,true),(4,true),(5,false),(6,true),(7,true)] ?_;refine vJ ?_;refine cM (ks:=[0,2,3,4,5,6,7,18,26,32,33,38,43,50,53,54,55,67,75,79,84,93]) r2 3 3 1 (by decide) bA rfl (by decide) fun qz hqz=> ?_
  simp only[aO,aT,and_true]at hqz;repeat rcases hqz with⟨_,hqz⟩
  apply Exists.intro;apply And.intro;exact cA;refine aJ ?_;apply aE;exact aF
  ·rw[hG];exact⟨qz,rfl,rfl⟩
  ·exact aA
 refine oK ?_;refine lX ?_;refine aB rfl (fun g2=> ?_) (fun g2=> ?_)
 ·refine aJ ?_;have hG:fF l=(ins0,0,e1):=by unfold fF;rw[hB];simp only[g1,g2,if_true,if_false,Bool.false_eq_true]
  refine fM [(0,true),(1,true),(2,true),(3,true),(4,true),(5,false),(6,true),(7,true)] ?_;refine vJ ?_;refine cM (ks:=[0,2,3,4,5,6,7,18,26,32,33,38,43,50,53,54,55,67,75,79,84,93]) r2 3 3 1 (by decide) bA rfl (by decide) fun qz hqz=> ?_
  simp only[aO,aT,and_true]at hqz;repeat rcases hqz with⟨_,hqz⟩
  apply Exists.intro;apply And.intro;exact cA;refine aJ ?_;apply aE;exact aF
  ·rw[hG];exact⟨qz,rfl,rfl⟩
  ·exact aA
 refine dM ?_;refine qA ?_;refine aB rfl (fun g3=> ?_) (fun g3=> ?_)
 ·refine aJ ?_;have hG:fF l=nC ⟨(c:Int),(PK l n1 e1).1,0,[]⟩ (PK l n1 e1).2.1 (PK l n1 e1).2.2:=by unfold fF tI;rw[hB];simp only[g1,g2,g3,if_true,if_false,Bool.false_eq_true]
  refine iC ?_;refine cw [(r10,.box 346 (rv l (n1) (e1)))] Tryz.call315 (aCu r10 l hl hlt n1 hn1 e1) rfl ?_ ?_ ?_
  ·exact aC
  ·exact aA
  rintro _ σ' ⟨rfl,rfl⟩-;apply aY;exact bN;unfold rv;refine wL ?_;refine pD ?_;refine kG ?_;refine lX ?_;refine aB rfl (fun ge=> ?_) (fun ge=> ?_)
  ·unfold nC at hG;rw[ge]at hG;simp only[if_true]at hG;refine aJ ?_;refine fM [(0,true),(1,true),(2,true),(3,true),(4,true),(5,false),(6,true),(7,true)] ?_;refine vJ ?_;refine cM (ks:=[0,2,3,4,5,6,7,18,26,32,33,38,43,50,53,54,55,67,75,79,84,93]) r2 3 3 1 (by decide) bA rfl (by decide) fun qz hqz=> ?_
   simp only[aO,aT,and_true]at hqz;repeat rcases hqz with⟨_,hqz⟩
   apply Exists.intro;apply And.intro;exact cA;refine aJ ?_;apply aE;exact aF
   ·rw[hG];exact⟨qz,rfl,rfl⟩
   ·exact aA
  ·unfold nC at hG;rw[ge]at hG;simp only[Bool.false_eq_true,if_false]at hG;refine aJ ?_;refine fM [(0,true),(1,true),(2,true),(3,true),(4,true),(5,false),(6,true),(7,true)] ?_;refine DJ ?_;refine KO ?_;refine aJ ?_;apply aE;exact aF
   ·rw[hG];exact⟨q,rfl,rfl⟩
   ·exact aA
 refine cZ ?_;refine aB rfl (fun g4=> ?_) (fun g4=> ?_)
 ·refine aJ ?_;have hG:fF l=nC ⟨(c:Int),(gO l 1000 n1 e1).1,0,[]⟩ (gO l 1000 n1 e1).2.1 (gO l 1000 n1 e1).2.2:=by unfold fF tI;rw[hB];simp only[g1,g2,g3,g4,if_true,if_false,Bool.false_eq_true]
  refine iC ?_;refine cw [(r10,.box 346 (rv l (n1) (e1)))] Tryz.call316 (jM r10 l hl hlt 1000 n1 hn1 e1) rfl ?_ ?_ ?_
  ·exact aC
  ·exact aA
  rintro _ σ' ⟨rfl,rfl⟩-;apply aY;exact bN;unfold rv;refine wL ?_;refine pD ?_;refine kG ?_;refine lX ?_;refine aB rfl (fun ge=> ?_) (fun ge=> ?_)
  ·unfold nC at hG;rw[ge]at hG;simp only[if_true]at hG;refine aJ ?_;refine fM [(0,true),(1,true),(2,true),(3,true),(4,true),(5,false),(6,true),(7,true)] ?_;refine vJ ?_;refine cM (ks:=[0,2,3,4,5,6,7,18,26,32,33,38,43,50,53,54,55,67,75,79,84,93]) r2 3 3 1 (by decide) bA rfl (by decide) fun qz hqz=> ?_
   simp only[aO,aT,and_true]at hqz;repeat rcases hqz with⟨_,hqz⟩
   apply Exists.intro;apply And.intro;exact cA;refine aJ ?_;apply aE;exact aF
   ·rw[hG];exact⟨qz,rfl,rfl⟩
   ·exact aA
  ·unfold nC at hG;rw[ge]at hG;simp only[Bool.false_eq_true,if_false]at hG;refine aJ ?_;refine fM [(0,true),(1,true),(2,true),(3,true),(4,true),(5,false),(6,true),(7,true)] ?_;refine DJ ?_;refine KO ?_;refine aJ ?_;apply aE;exact aF
   ·rw[hG];exact⟨q,rfl,rfl⟩
   ·exact aA
 refine cZ ?_;refine aB rfl (fun g5=> ?_) (fun g5=> ?_)
 ·refine aJ ?_;have hG:fF l=nC ⟨(c:Int),(gO l 1000 n1 e1).1,0,[]⟩ (PI l (gO l 1000 n1 e1).2.1 (gO l 1000 n1 e1).2.2).1 (PI l (gO l 1000 n1 e1).2.1 (gO l 1000 n1 e1).2.2).2:=by unfold fF tI;rw[hB];simp only[g1,g2,g3,g4,g5,if_true,if_false,Bool.false_eq_true]
  have hn2:=PL (lim:=1000) (e:=e1) hn1;refine iC ?_;refine cw [(r10,.box 346 (rv l (n1) (e1)))] Tryz.call316 (jM r10 l hl hlt 1000 n1 hn1 e1) rfl ?_ ?_ ?_
  ·exact aC
  ·exact aA
  rintro _ σ' ⟨rfl,rfl⟩-;apply aY;exact bN;unfold rv;refine wL ?_;refine lW ?_;generalize gO l 1000 n1 e1=u at*;obtain⟨a,n2,e2⟩:=u;dsimp only at hn2 hG⊢;refine iC ?_;refine cw [(r10,.box 346 (rv l (n2) (e2)))] Tryz.call317 (UB r10 l hl hlt n2 hn2 e2) rfl ?_ ?_ ?_
  ·exact aC
  ·exact aA
  rintro _ σ' ⟨rfl,rfl⟩-;apply aY;exact bN;unfold rv;refine iF ?_;refine oK ?_;refine lX ?_;refine aB rfl (fun ge=> ?_) (fun ge=> ?_)
  ·unfold nC at hG;rw[ge]at hG;simp only[if_true]at hG;refine aJ ?_;refine fM [(0,true),(1,true),(2,true),(3,true),(4,true),(5,false),(6,true),(7,true)] ?_;refine vJ ?_;refine cM (ks:=[0,2,3,4,5,6,7,18,26,32,33,38,43,50,53,54,55,67,75,79,84,93]) r2 3 3 1 (by decide) bA rfl (by decide) fun qz hqz=> ?_
   simp only[aO,aT,and_true]at hqz;repeat rcases hqz with⟨_,hqz⟩
   apply Exists.intro;apply And.intro;exact cA;refine aJ ?_;apply aE;exact aF
   ·rw[hG];exact⟨qz,rfl,rfl⟩
   ·exact aA
  ·unfold nC at hG;rw[ge]at hG;simp only[Bool.false_eq_true,if_false]at hG;refine aJ ?_;refine fM [(0,true),(1,true),(2,true),(3,true),(4,true),(5,false),(6,true),(7,true)] ?_;refine DJ ?_;refine KO ?_;refine aJ ?_;apply aE;exact aF
   ·rw[hG];exact⟨q,rfl,rfl⟩
   ·exact aA
 refine cZ ?_;refine aB rfl (fun g6=> ?_) (fun g6=> ?_)
 ·refine aJ ?_;have hG:fF l=nC ⟨(c:Int),(gO l 1000 (rP l (gO l 50 n1 e1).1 (gO l 50 n1 e1).2.1 (gO l 50 n1 e1).2.2).2.1 (rP l (gO l 50 n1 e1).1 (gO l 50 n1 e1).2.1 (gO l 50 n1 e1).2.2).2.2).1,0,(rP l (gO l 50 n1 e1).1 (gO l 50 n1 e1).2.1 (gO l 50 n1 e1).2.2).1⟩ (gO l 1000 (rP l (gO l 50 n1 e1).1 (gO l 50 n1 e1).2.1 (gO l 50 n1 e1).2.2).2.1 (rP l (gO l 50 n1 e1).1 (gO l 50 n1 e1).2.1 (gO l 50 n1 e1).2.2).2.2).2.1 (gO l 1000 (rP l (gO l 50 n1 e1).1 (gO l 50 n1 e1).2.1 (gO l 50 n1 e1).2.2).2.1 (rP l (gO l 50 n1 e1).1 (gO l 50 n1 e1).2.1 (gO l 50 n1 e1).2.2).2.2).2.2:=by unfold fF tI;rw[hB];simp only[g1,g2,g3,g4,g5,g6,if_true,if_false,Bool.false_eq_true]
  have hn2:=PL (lim:=50) (e:=e1) hn1;have hm50:=aIb (l:=l) (lim:=50) (n:=n1) (e:=e1) (by omega);refine iC ?_;refine cw [(r10,.box 346 (rv l (n1) (e1)))] Tryz.call316 (jM r10 l hl hlt 50 n1 hn1 e1) rfl ?_ ?_ ?_
  ·exact aC
  ·exact aA
  rintro _ σ' ⟨rfl,rfl⟩-;apply aY;exact bN;unfold rv;refine aH0 ?_;generalize gO l 50 n1 e1=u at*;obtain⟨m,n2,e2⟩:=u;dsimp only at hn2 hm50 hG⊢;refine lp (β:=Nat×Nat) (fun b=>⟨[(2,.ptr r2 0),(5,.ptr r10 0),(6,.ptr r6 0),(53,.int .i64 m),(54,.int .i64 b.2)],[(b.1,.arr 3 1 ((rP l b.2 n2 e2).1.map aP)),(r6,.box 46 [.int .i64 c,.int .i64 0,.int .i64 0,.own b.1 0 (rP l b.2 n2 e2).1.length]),(r10,.box 346 (rv l (rP l b.2 n2 e2).2.1 (rP l b.2 n2 e2).2.2)),(r2,.box 46 [.int .i64 0,.int .i64 0,.int .i64 0,.ro 0 [] .nil])]⟩) (fun b=>(Nq b.1 r6∧Nq b.1 r10∧Nq b.1 r2)∧b.2≤m) (fun b=>m-b.2) (q,0) (by(exact aL)) ⟨⟨by(exact bV),by(exact bV),by(exact bV)⟩,Nat.zero_le _⟩ ?_;rintro⟨p,j⟩ ⟨⟨hp1,hp2,hp3⟩,hj⟩;dsimp only at hp1 hp2 hp3 hj⊢;have hn3:=aCv (m:=j) (e:=e2) hn2;have hlen:=PM (l:=l) (m:=j) (n:=n2) (e:=e2);have hstep:rP l (j+1) n2 e2=(((rP l j n2 e2).1++ [((gO l 1000 (rP l j n2 e2).2.1 (rP l j n2 e2).2.2).1:Int)]),(gO l 1000 (rP l j n2 e2).2.1 (rP l j n2 e2).2.2).2):=rfl;generalize hW:rP l j n2 e2=w at hn3 hlen hstep⊢;obtain⟨L,n3,e3⟩:=w;dsimp only at hn3 hlen hstep⊢;unfold rv;refine jR ?_;refine aB rfl (fun h1=> ?_) (fun h1=> ?_)
  ·have hlt2:j<m:=by simp at h1;omega
   refine aJ ?_;refine fM [(0,true),(1,true),(2,true),(3,false),(4,false),(5,false),(6,true),(7,false)] ?_;refine fX ?_;refine fI rfl (aD (E rfl)) rfl ?_;refine rW [(r10,.box 346 (rv l n3 e3))] rfl Tryz.call316 (jM r10 l hl hlt 1000 n3 hn3 e3) rfl ?_ ?_ ?_ ?_
   ·exact aC
   ·exact aA
   ·exact fV
   rintro _ σ' ⟨rfl,rfl⟩-;apply bZ;exact bN;unfold rv;generalize gO l 1000 n3 e3=u at hstep⊢;obtain⟨v,n4,e4⟩:=u;dsimp only at hstep⊢;refine DQ fun r60 h60=> ?_;intros
   apply dap (es':=(L++ [(v:Int)]).map aP) (len':=(L++ [(v:Int)]).length);rfl;infer_instance;infer_instance;rfl;rfl;exact bA
   ·simp
   ·exact .inr (.inr ⟨_,_,_,_,_,rfl,bA,by simp,rfl⟩)
   ·simp[aP]
   ·simp
   ·simp[maxLen];omega
   ·simp;omega
   ·rfl
   ·exact fV
   refine bH fun r61 h61=> ?_;intros
   refine mJ ?_;refine xA ?_;refine mP ?_;refine⟨(r61,j+1),⟨⟨by show Nq r61 r6;(exact bV),by show Nq r61 r10;(exact bV),by show Nq r61 r2;(exact bV)⟩,hlt2⟩,by show m-(j+1)<m-j;omega, ?_⟩;dsimp only;rw[hstep];exact aL
  ·obtain rfl:j=m:=by simp at h1;omega
   rw[hW]at hG;dsimp only at hG;refine dM ?_;refine cw [(r10,.box 346 (rv l (n3) (e3)))] Tryz.call316 (jM r10 l hl hlt 1000 n3 hn3 e3) rfl ?_ ?_ ?_
   ·exact aC
   ·exact aA
   rintro _ σ' ⟨rfl,rfl⟩-;apply aY;exact bN;unfold rv;refine wL ?_;refine pD ?_;refine kG ?_;refine lX ?_;refine aB rfl (fun ge=> ?_) (fun ge=> ?_)
   ·unfold nC at hG;rw[ge]at hG;simp only[if_true]at hG;refine aJ ?_;refine fM [(0,true),(1,true),(2,true),(3,true),(4,true),(5,false),(6,true),(7,true)] ?_;refine vJ ?_;refine cM (ks:=[0,2,3,4,5,6,7,18,26,32,33,38,43,50,53,54,55,67,75,79,84,93]) r2 3 3 1 (by decide) bA rfl (by decide) fun qz hqz=> ?_
    simp only[aO,aT,and_true]at hqz;repeat rcases hqz with⟨_,hqz⟩
    apply Exists.intro;apply And.intro;exact cA;refine aJ ?_;apply aE;exact aF
    ·rw[hG];exact⟨qz,rfl,rfl⟩
    ·exact aA
   ·unfold nC at hG;rw[ge]at hG;simp only[Bool.false_eq_true,if_false]at hG;refine aJ ?_;refine fM [(0,true),(1,true),(2,true),(3,true),(4,true),(5,false),(6,true),(7,true)] ?_;refine DJ ?_;refine KO ?_;refine aJ ?_;apply aE;exact aF
    ·rw[hG];exact⟨p,rfl,rfl⟩
    ·exact aA
 refine cZ ?_;refine aB rfl (fun g7=> ?_) (fun g7=> ?_)
 ·refine aJ ?_;have hG:fF l=nC ⟨(c:Int),(gO l 3 n1 e1).1,(gO l 4294967295 (gO l 3 n1 e1).2.1 (gO l 3 n1 e1).2.2).1,[]⟩ (gO l 4294967295 (gO l 3 n1 e1).2.1 (gO l 3 n1 e1).2.2).2.1 (gO l 4294967295 (gO l 3 n1 e1).2.1 (gO l 3 n1 e1).2.2).2.2:=by unfold fF tI;rw[hB];simp only[g1,g2,g3,g4,g5,g6,g7,if_true,if_false,Bool.false_eq_true]
  have hn2:=PL (lim:=3) (e:=e1) hn1;refine iC ?_;refine cw [(r10,.box 346 (rv l (n1) (e1)))] Tryz.call316 (jM r10 l hl hlt 3 n1 hn1 e1) rfl ?_ ?_ ?_
  ·exact aC
  ·exact aA
  rintro _ σ' ⟨rfl,rfl⟩-;apply aY;exact bN;unfold rv;refine wL ?_;refine lW ?_;generalize gO l 3 n1 e1=u at*;obtain⟨a,n2,e2⟩:=u;dsimp only at hn2 hG⊢;refine iC ?_;refine cw [(r10,.box 346 (rv l (n2) (e2)))] Tryz.call316 (jM r10 l hl hlt 4294967295 n2 hn2 e2) rfl ?_ ?_ ?_
  ·exact aC
  ·exact aA
  rintro _ σ' ⟨rfl,rfl⟩-;apply aY;exact bN;unfold rv;refine wL ?_;refine pD ?_;refine kG ?_;refine lX ?_;refine aB rfl (fun ge=> ?_) (fun ge=> ?_)
  ·unfold nC at hG;rw[ge]at hG;simp only[if_true]at hG;refine aJ ?_;refine fM [(0,true),(1,true),(2,true),(3,true),(4,true),(5,false),(6,true),(7,true)] ?_;refine vJ ?_;refine cM (ks:=[0,2,3,4,5,6,7,18,26,32,33,38,43,50,53,54,55,67,75,79,84,93]) r2 3 3 1 (by decide) bA rfl (by decide) fun qz hqz=> ?_
   simp only[aO,aT,and_true]at hqz;repeat rcases hqz with⟨_,hqz⟩
   apply Exists.intro;apply And.intro;exact cA;refine aJ ?_;apply aE;exact aF
   ·rw[hG];exact⟨qz,rfl,rfl⟩
   ·exact aA
  ·unfold nC at hG;rw[ge]at hG;simp only[Bool.false_eq_true,if_false]at hG;refine aJ ?_;refine fM [(0,true),(1,true),(2,true),(3,true),(4,true),(5,false),(6,true),(7,true)] ?_;refine DJ ?_;refine KO ?_;refine aJ ?_;apply aE;exact aF
   ·rw[hG];exact⟨q,rfl,rfl⟩
   ·exact aA
 refine cZ ?_;refine aB rfl (fun g8=> ?_) (fun g8=> ?_)
 ·refine aJ ?_;have hG:fF l=nC ⟨(c:Int),0,0,[]⟩ (PI l n1 e1).1 (PI l n1 e1).2:=by unfold fF tI;rw[hB];simp only[g1,g2,g3,g4,g5,g6,g7,g8,if_true,if_false,Bool.false_eq_true]
  refine iC ?_;refine cw [(r10,.box 346 (rv l (n1) (e1)))] Tryz.call317 (UB r10 l hl hlt n1 hn1 e1) rfl ?_ ?_ ?_
  ·exact aC
  ·exact aA
  rintro _ σ' ⟨rfl,rfl⟩-;apply aY;exact bN;unfold rv;refine iF ?_;refine oK ?_;refine lX ?_;refine aB rfl (fun ge=> ?_) (fun ge=> ?_)
  ·unfold nC at hG;rw[ge]at hG;simp only[if_true]at hG;refine aJ ?_;refine fM [(0,true),(1,true),(2,true),(3,true),(4,true),(5,false),(6,true),(7,true)] ?_;refine vJ ?_;refine cM (ks:=[0,2,3,4,5,6,7,18,26,32,33,38,43,50,53,54,55,67,75,79,84,93]) r2 3 3 1 (by decide) bA rfl (by decide) fun qz hqz=> ?_
   simp only[aO,aT,and_true]at hqz;repeat rcases hqz with⟨_,hqz⟩
   apply Exists.intro;apply And.intro;exact cA;refine aJ ?_;apply aE;exact aF
   ·rw[hG];exact⟨qz,rfl,rfl⟩
   ·exact aA
  ·unfold nC at hG;rw[ge]at hG;simp only[Bool.false_eq_true,if_false]at hG;refine aJ ?_;refine fM [(0,true),(1,true),(2,true),(3,true),(4,true),(5,false),(6,true),(7,true)] ?_;refine DJ ?_;refine KO ?_;refine aJ ?_;apply aE;exact aF
   ·rw[hG];exact⟨q,rfl,rfl⟩
   ·exact aA
 refine cZ ?_;refine aB rfl (fun g9=> ?_) (fun g9=> ?_)
 ·refine aJ ?_;have hG:fF l=nC ⟨(c:Int),(DA l 32 n1).1,0,[]⟩ (DA l 32 n1).2.1 (DA l 32 n1).2.2:=by unfold fF tI;rw[hB];simp only[g1,g2,g3,g4,g5,g6,g7,g8,g9,if_true,if_false,Bool.false_eq_true]
  refine iC ?_;refine cw [(r10,.box 346 (rv l (n1) (e1)))] Tryz.call318 (GT r10 l hl hlt 32 (.inl rfl) n1 hn1 e1) rfl ?_ ?_ ?_
  ·exact aC
  ·exact aA
  rintro _ σ' ⟨rfl,rfl⟩-;apply aY;exact bN;unfold rv;refine wL ?_;refine pD ?_;refine kG ?_;refine lX ?_;refine aB rfl (fun ge=> ?_) (fun ge=> ?_)
  ·unfold nC at hG;rw[ge]at hG;simp only[if_true]at hG;refine aJ ?_;refine fM [(0,true),(1,true),(2,true),(3,true),(4,true),(5,false),(6,true),(7,true)] ?_;refine vJ ?_;refine cM (ks:=[0,2,3,4,5,6,7,18,26,32,33,38,43,50,53,54,55,67,75,79,84,93]) r2 3 3 1 (by decide) bA rfl (by decide) fun qz hqz=> ?_
   simp only[aO,aT,and_true]at hqz;repeat rcases hqz with⟨_,hqz⟩
   apply Exists.intro;apply And.intro;exact cA;refine aJ ?_;apply aE;exact aF
   ·rw[hG];exact⟨qz,rfl,rfl⟩
   ·exact aA
  ·unfold nC at hG;rw[ge]at hG;simp only[Bool.false_eq_true,if_false]at hG;refine aJ ?_;refine fM [(0,true),(1,true),(2,true),(3,true),(4,true),(5,false),(6,true),(7,true)] ?_;refine DJ ?_;refine KO ?_;refine aJ ?_;apply aE;exact aF
   ·rw[hG];exact⟨q,rfl,rfl⟩
   ·exact aA
 refine cZ ?_;refine aB rfl (fun g10=> ?_) (fun g10=> ?_)
 ·refine aJ ?_;have hG:fF l=nC ⟨(c:Int),(DA l 64 n1).1,0,[]⟩ (DA l 64 n1).2.1 (DA l 64 n1).2.2:=by unfold fF tI;rw[hB];simp only[g1,g2,g3,g4,g5,g6,g7,g8,g9,g10,if_true,if_false,Bool.false_eq_true]
  refine iC ?_;refine cw [(r10,.box 346 (rv l (n1) (e1)))] Tryz.call318 (GT r10 l hl hlt 64 (.inr rfl) n1 hn1 e1) rfl ?_ ?_ ?_
  ·exact aC
  ·exact aA
  rintro _ σ' ⟨rfl,rfl⟩-;apply aY;exact bN;unfold rv;refine wL ?_;refine pD ?_;refine kG ?_;refine lX ?_;refine aB rfl (fun ge=> ?_) (fun ge=> ?_)
  ·unfold nC at hG;rw[ge]at hG;simp only[if_true]at hG;refine aJ ?_;refine fM [(0,true),(1,true),(2,true),(3,true),(4,true),(5,false),(6,true),(7,true)] ?_;refine vJ ?_;refine cM (ks:=[0,2,3,4,5,6,7,18,26,32,33,38,43,50,53,54,55,67,75,79,84,93]) r2 3 3 1 (by decide) bA rfl (by decide) fun qz hqz=> ?_
   simp only[aO,aT,and_true]at hqz;repeat rcases hqz with⟨_,hqz⟩
   apply Exists.intro;apply And.intro;exact cA;refine aJ ?_;apply aE;exact aF
   ·rw[hG];exact⟨qz,rfl,rfl⟩
   ·exact aA
  ·unfold nC at hG;rw[ge]at hG;simp only[Bool.false_eq_true,if_false]at hG;refine aJ ?_;refine fM [(0,true),(1,true),(2,true),(3,true),(4,true),(5,false),(6,true),(7,true)] ?_;refine DJ ?_;refine KO ?_;refine aJ ?_;apply aE;exact aF
   ·rw[hG];exact⟨q,rfl,rfl⟩
   ·exact aA
 refine aJ ?_;have hG:fF l=nC ⟨(c:Int),0,0,[]⟩ n1 e1:=by unfold fF tI;rw[hB];simp only[g1,g2,g3,g4,g5,g6,g7,g8,g9,g10,if_true,if_false,Bool.false_eq_true]
 refine iC ?_;refine kG ?_;refine lX ?_;refine aB rfl (fun ge=> ?_) (fun ge=> ?_)
 ·unfold nC at hG;rw[ge]at hG;simp only[if_true]at hG;refine aJ ?_;refine fM [(0,true),(1,true),(2,true),(3,true),(4,true),(5,false),(6,true),(7,true)] ?_;refine vJ ?_;refine cM (ks:=[0,2,3,4,5,6,7,18,26,32,33,38,43,50,53,54,55,67,75,79,84,93]) r2 3 3 1 (by decide) bA rfl (by decide) fun qz hqz=> ?_
  simp only[aO,aT,and_true]at hqz;repeat rcases hqz with⟨_,hqz⟩
  apply Exists.intro;apply And.intro;exact cA;refine aJ ?_;apply aE;exact aF
  ·rw[hG];exact⟨qz,rfl,rfl⟩
  ·exact aA
 ·unfold nC at hG;rw[ge]at hG;simp only[Bool.false_eq_true,if_false]at hG;refine aJ ?_;refine fM [(0,true),(1,true),(2,true),(3,true),(4,true),(5,false),(6,true),(7,true)] ?_;refine DJ ?_;refine KO ?_;refine aJ ?_;apply aE;exact aF
  ·rw[hG];exact⟨q,rfl,rfl⟩
  ·exact aA
end Go.Proofs.YtjpdadobblffmaaGreat
namespace Go.Proofs.YtjpdadobblffmaaGreat
open Go.RowKit Go.ChangeShapes Go.WideShapes Go.ChangeAt Go.Deep
theorem aCw(c:Nat):vP c=if c=64 then 0 else if c=127 then 1 else if c=126 then 2 else-1:=by
 by_cases h1:c=64
 ·subst h1;decide
 by_cases h2:c=127
 ·subst h2;decide
 by_cases h3:c=126
 ·subst h3;decide
 rw[if_neg h1,if_neg h2,if_neg h3];unfold vP XJ;have:([64,127,126]:List Int).findIdx? (· ==(c:Int))=none:=by
  rw[List.findIdx?_eq_none_iff];intro x hx;simp at hx;rcases hx with rfl|rfl|rfl<;>simp<;>omega
 rw[this]
theorem zT{l p r:List Nat}{n:Nat}(h:l.drop n=p++r):l.drop (n+p.length)=r:=by
 rw[←List.drop_drop,h,List.drop_left]
theorem XK{l r:List Nat}{n b:Nat}(h:l.drop n=b::r):pH l n 0=(b,n+1,0):=by
 have hn:n<l.length:=by
  by_cases hc:n<l.length
  ·exact hc
  ·rw[List.drop_of_length_le (by omega)]at h;cases h
 have hb:l[n]! =b:=by
  rw[getElem!_pos l n hn];rw[List.drop_eq_getElem_cons hn]at h;exact(List.cons.inj h).1
 unfold pH;rw[if_neg (by simp),if_neg (by simp;omega),hb]
theorem aCx{l r:List Nat}{n:Nat}(h:l.drop n=0::r):PI l n 0=(n+1,0):=by
 unfold PI;rw[XK h,if_neg (by simp)]
theorem yG{l r:List Nat}{n v:Nat}{lim:Int}(h:l.drop n=uB v++r)(h1:v<4294967296)(h2:(v:Int)≤lim):gO l lim n 0=(v,n+(uB v).length,0):=by
 unfold gO;rw[h,ZF h1,if_neg (by simp),if_neg (by simp),if_neg (by simp;omega)]
theorem aCy{l r:List Nat}{n bits:Nat}(hb:bits=32∨bits=64){v:Int}(h:l.drop n=sB v++r)(h1:-9223372036854775808≤v)(h2:v≤9223372036854775807)(h3:bits=32→ -2147483648≤v∧v≤2147483647):DA l bits n=(v,n+(sB v).length,0):=by
 unfold DA;rw[h,aEH hb h1 h2 h3]
theorem aCz{l r:List Nat}{n:Nat}{L:List Int}(h:l.drop n=(L.flatMap fun z=>uB z.toNat)++r)(hL:∀z∈L,0≤z∧z≤1000):∀m,m≤L.length→rP l m n 0=(L.take m,n+((L.take m).flatMap fun z=>uB z.toNat).length,0)
 |0,_=>by simp[rP]
 |m+1,hm=>by
  have ih:=aCz h hL m (by omega);obtain⟨y,hy⟩:∃y,L[m]? =some y:=⟨_,List.getElem?_eq_getElem (by omega)⟩
  obtain⟨hy0,hy1⟩:=hL y (List.mem_of_getElem? hy);obtain⟨z,rfl⟩:=Int.eq_ofNat_of_zero_le hy0;have hd:l.drop (n+((L.take m).flatMap fun z=>uB z.toNat).length)=uB z++(((L.drop (m+1)).flatMap fun z=>uB z.toNat)++r):=by
   refine zT ?_;rw[h,←List.append_assoc,←List.append_assoc]
   congr 1
   have:L=L.take m++(z:Int)::L.drop (m+1):=by
    rw[List.getElem?_eq_getElem (by omega)]at hy;rw[←Option.some.inj hy,←List.drop_eq_getElem_cons (by omega),List.take_append_drop]
   conv=>lhs;rw[this]
   simp[List.flatMap_append]
  rw[rP,ih];dsimp only;rw[yG hd (by omega) hy1,List.take_add_one,hy];simp[List.flatMap_append,Nat.add_assoc]
theorem aMR{x:Ins}(h:cY x=true)(hf:(aW x.op==8)=true):-2147483648≤x.a∧x.a≤2147483647:=by
 rw[beq_iff_eq]at hf;simp[cY,hf,kC]at h;omega
theorem aG4{x:Ins}(h:cY x=true)(hf:(aW x.op==1||aW x.op==7)=true):x.a=0:=by
 unfold cY at h;split at h
 ·cases h
 ·first|(rw[if_pos hf]at h;simpa using h)|simpa using h
theorem aG5{x:Ins}(h:cY x=true)(hf:aW x.op≠6):x.b=0:=by
 unfold cY at h;split at h
 ·cases h
 ·next hp=>
  have h6:(aW x.op !=6)=true:=by simpa using hf
  unfold jB at hp;rw[if_pos h6]at hp;split at hp
  ·simp at hp;exact hp.2
  ·simpa using hp
theorem aG6{x:Ins}(h:cY x=true)(hf:aW x.op≠4):x.l=[]:=by
 unfold cY at h;split at h
 ·cases h
 ·next hp=>
  have h4:(aW x.op !=4)=true:=by simpa using hf
  unfold jB at hp;rw[if_pos h4]at hp;split at hp
  ·simp at hp
  ·next hq=>simpa using hq
theorem PN{x:Ins}(hx:x.Ok)(h:cY x=true)(rest:List Nat):fF (gG x++rest)=(x,(gG x).length,0):=by
 have f1:=PH h;have f2:=aH9 h;have f3:=aEQ h;have f4:=aES h;have f5:=aER h;have f6:=aET h;have f8:=aMR h;have f17:=aG4 h;have fb:=aG5 h;have fl:=aG6 h;have f9:-9223372036854775808≤x.a∧x.a≤9223372036854775807:=⟨hx.2.2.1,hx.2.2.2.1⟩
 have f0:(aW x.op==0)=false:=by
  by_cases h0:aW x.op=0
  ·rw[UA h0]at h;cases h
  ·simpa using h0
 obtain⟨op,a,b,L⟩:=x;dsimp only at f1 f2 f3 f4 f5 f6 f8 f9 f17 fb fl f0;obtain⟨op,rfl⟩:=Int.eq_ofNat_of_zero_le f1.1;have hp0:gG ⟨(op:Int),a,b,L⟩=op::fR ⟨(op:Int),a,b,L⟩:=rfl;obtain⟨l,hl⟩:∃l,l=gG ⟨(op:Int),a,b,L⟩++rest:=⟨_,rfl⟩
 rw[←hl];have hB:pH l 0 0=(op,1,0):=XK (r:=fR ⟨(op:Int),a,b,L⟩++rest) (by rw[hl,hp0];rfl);have h1:l.drop 1=fR ⟨(op:Int),a,b,L⟩++rest:=by rw[hl,hp0];rfl
 unfold fF;rw[hB,hp0];dsimp only;rw[f0];simp only[Bool.false_eq_true,if_false,bne_self_eq_false];unfold tI;unfold fR at h1⊢;by_cases g2:(aW (op:Int)==2)=true
 ·simp only[g2,if_true]at h1⊢;obtain⟨k1,k2⟩:=f2 g2;have e2:aW (op:Int)=2:=by simpa using g2
  obtain rfl:=fb (by omega);obtain rfl:=fl (by omega);have hk:PK l 1 0=(a,2,0):=by
   unfold PK;rw[XK h1,aCw];have:a=0∨a=1∨a=2:=by omega
   rcases this with rfl|rfl|rfl<;>rfl
  rw[hk];rfl
 simp only[g2,Bool.false_eq_true,if_false]at h1⊢;by_cases g3:(aW (op:Int)==3)=true
 ·simp only[g3,if_true]at h1⊢;obtain⟨k1,k2⟩:=f3 g3;have e2:aW (op:Int)=3:=by simpa using g3
  obtain rfl:=fb (by omega);obtain rfl:=fl (by omega);obtain⟨a,rfl⟩:=Int.eq_ofNat_of_zero_le k1;rw[Int.toNat_natCast]at h1⊢;rw[yG h1 (by omega) k2];simp[nC,Nat.add_comm]
 simp only[g3,Bool.false_eq_true,if_false]at h1⊢;by_cases g5:(aW (op:Int)==5)=true
 ·simp only[g5,if_true]at h1⊢;obtain⟨k1,k2⟩:=f5 g5;have e2:aW (op:Int)=5:=by simpa using g5
  obtain rfl:=fb (by omega);obtain rfl:=fl (by omega);obtain⟨a,rfl⟩:=Int.eq_ofNat_of_zero_le k1;rw[Int.toNat_natCast]at h1⊢;rw[List.append_assoc]at h1;rw[yG h1 (by omega) k2];dsimp only;rw[aCx (zT h1)];simp[nC];omega
 simp only[g5,Bool.false_eq_true,if_false]at h1⊢;by_cases g4:(aW (op:Int)==4)=true
 ·simp only[g4,if_true]at h1⊢;obtain⟨⟨k1,k2⟩,k3,k4⟩:=f4 g4;have e2:aW (op:Int)=4:=by simpa using g4
  obtain rfl:=fb (by omega);obtain⟨a,rfl⟩:=Int.eq_ofNat_of_zero_le k1;rw[Int.toNat_natCast]at h1⊢;rw[List.append_assoc,List.append_assoc]at h1;have h2:=zT h1;rw[yG h1 (by omega) (by omega)];dsimp only;rw[aCz h2 k4 L.length (Nat.le_refl _),List.take_length];dsimp only;rw[yG (zT h2) (by omega) k2];simp[nC];omega
 simp only[g4,Bool.false_eq_true,if_false]at h1⊢;have e4:aW (op:Int)≠4:=by simpa using g4
 obtain rfl:=fl e4;by_cases g6:(aW (op:Int)==6)=true
 ·simp only[g6,if_true]at h1⊢;obtain⟨k1,k2,k3,k4⟩:=f6 g6;obtain⟨a,rfl⟩:=Int.eq_ofNat_of_zero_le k1;obtain⟨b,rfl⟩:=Int.eq_ofNat_of_zero_le k3;rw[Int.toNat_natCast,Int.toNat_natCast]at h1⊢;rw[List.append_assoc]at h1;rw[yG h1 (by omega) k2];dsimp only;rw[yG (zT h1) (by omega) k4];simp[nC];omega
 simp only[g6,Bool.false_eq_true,if_false]at h1⊢;have e6:aW (op:Int)≠6:=by simpa using g6
 obtain rfl:=fb e6;by_cases g7:(aW (op:Int)==7)=true
 ·simp only[g7,if_true]at h1⊢;obtain rfl:=f17 (by rw[g7];simp);rw[aCx h1];simp[nC]
 simp only[g7,Bool.false_eq_true,if_false]at h1⊢;by_cases g8:(aW (op:Int)==8)=true
 ·simp only[g8,Bool.true_or,if_true]at h1⊢;obtain⟨k1,k2⟩:=f8 g8;rw[aCy (.inl rfl) h1 f9.1 f9.2 (fun _=>⟨k1,k2⟩)];simp[nC,Nat.add_comm]
 simp only[g8,Bool.false_eq_true,if_false]at h1⊢;by_cases g9:(aW (op:Int)==9)=true
 ·simp only[g9,Bool.or_true,if_true]at h1⊢;rw[aCy (.inr rfl) h1 f9.1 f9.2 (fun hc=>by cases hc)];simp[nC,Nat.add_comm]
 simp only[g9,Bool.or_false,Bool.false_eq_true,if_false]at h1⊢;have ha:a=0:=by
  by_cases g1:aW (op:Int)=1
  ·exact f17 (by rw[g1];rfl)
  ·exfalso;have:cY ⟨(op:Int),a,0,[]⟩=false:=by
    unfold cY;have g1':(aW (op:Int)==1)=false:=by simpa using g1
    simp[g1',g2,g3,g4,g5,g6,g7,g8,g9]
   rw[this]at h;cases h
 subst ha;simp[nC]
end Go.Proofs.YtjpdadobblffmaaGreat
namespace Go.Proofs.YtjpdadobblffmaaGreat
open Go.RowKit Go.ChangeShapes Go.WideShapes Go.ChangeAt Go.Deep
attribute [local irreducible] SW RS RD fG eH
theorem aA0(l:List Nat)(hl:l.length≤maxLen)(n:Nat):SCall Tryz.prog 55 [.ro 1 (l.map aG) .any,.int .i64 n] [] (fun x σ=>x=.ro 1 ((l.take n).map aG) .any∧σ=[]):=by
 unfold maxLen at hl;refine cF 13 [0,1,4,8] Tryz.func55 ?_;refine uD ?_;refine PC ?_;refine aB rfl (fun g1=> ?_) (fun g1=> ?_)
 ·refine aJ ?_;have h2:=of_decide_eq_true g1;refine kK ?_;refine aEo ?_;refine dE ?_;apply aE;exact aF
  ·(first|(have h1:=of_decide_eq_false g1;rw[List.take_of_length_le (by omega)];exact⟨rfl,rfl⟩)|(rw[List.map_take];exact⟨by simp[gU],rfl⟩))
  ·exact aA
 refine fA ?_;apply aE;exact aF
 ·(first|(have h1:=of_decide_eq_false g1;rw[List.take_of_length_le (by omega)];exact⟨rfl,rfl⟩)|(rw[List.map_take];exact⟨by simp[gU],rfl⟩))
 ·exact aA
def PO (x:Ins):Ins:=⟨x.op,x.a,x.b,x.l.take 55⟩
theorem aEV(x:Ins)(hx:x.l.length≤maxLen):SCall Tryz.prog 81 [.agg (iv .any x)] [] (fun y σ=>∃q,y=.agg (io q (PO x))∧σ=[(q,.arr 3 1 ((PO x).l.map aP))]):=by
 unfold maxLen at hx;refine cF 34 [0,1,2,3,4,20] Tryz.func81 ?_;unfold iv;refine dX ?_;refine iQ fun r1 h1=> ?_;intros
 refine jU fun r2 h2=> ?_;intros
 refine iF ?_;refine fN ?_;refine fW ?_;refine fW ?_;refine jK ?_;refine jU fun r3 h3=> ?_;intros
 refine pX ?_;refine an ?_;refine cM (ks:=[0,1,2,3,4,20]) r3 3 3 1 (by decide) bA rfl (by decide) fun q hq=> ?_
 simp only[aO,aT,and_true]at hq;repeat rcases hq with⟨_,hq⟩
 apply Exists.intro;apply And.intro;exact cA;refine bM ?_;refine lp (β:=Nat×Nat) (fun b=>⟨[(1,.ptr r1 0),(2,.ptr r2 0),(3,.ptr r3 0),(4,.int .i64 b.2)],[(b.1,.arr 3 1 ((x.l.take b.2).map aP)),(r3,.box 46 [.int .i64 x.op,.int .i64 x.a,.int .i64 x.b,.own b.1 0 (x.l.take b.2).length]),(r2,.box 46 [.int .i64 0,.int .i64 0,.int .i64 0,.ro 0 [] .nil]),(r1,.box 46 [.int .i64 x.op,.int .i64 x.a,.int .i64 x.b,.ro 1 (x.l.map aP) .any])]⟩) (fun b=>(Nq b.1 r3∧Nq b.1 r2∧Nq b.1 r1)∧b.2≤x.l.length∧b.2≤55) (fun b=>55-b.2) (q,0) (by(exact aL)) ⟨⟨by(exact bV),by(exact bV),by(exact bV)⟩,by omega,by omega⟩ ?_;rintro⟨p,j⟩ ⟨⟨hp1,hp2,hp3⟩,hj,hj5⟩;dsimp only at hp1 hp2 hp3 hj hj5⊢;refine kA ?_;refine kU ?_;refine lo (iB (E rfl) (E rfl)) rfl ?_;refine xK ?_;refine z69 ?_;refine z7 ?_;refine lD ?_;refine aB rfl (fun h1=> ?_) (fun h1=> ?_)
 ·have hlt:j<x.l.length∧j<55:=by simp at h1;omega
  obtain⟨hlt,hlt5⟩:=hlt;obtain⟨y,hy⟩:∃y,x.l[j]? =some y:=⟨_,List.getElem?_eq_getElem hlt⟩
  have hn:x.l.take (j+1)=x.l.take j++ [y]:=by rw[List.take_add_one,hy];rfl
  have hlj:(x.l.take j).length=j:=by simp;omega
  refine aJ ?_;refine fM [(0,true),(1,true),(2,true),(3,true),(4,true),(5,true),(6,true),(7,false),(8,false),(9,true),(10,false)] ?_;refine fX ?_;refine fX ?_;refine aAO ?_;refine WR ?_;refine DQ fun r30 h30=> ?_;intros
  apply dap (es':=(x.l.take j++ [y]).map aP) (len':=(x.l.take j++ [y]).length);rfl;infer_instance;infer_instance;rfl;rfl;exact bA
  ·simp
  ·exact .inr (.inr ⟨_,_,_,_,_,rfl,bA,by simp,rfl⟩)
  ·simp[aP]
  ·simp
  ·simp[maxLen];omega
  ·simp;omega
  ·rfl
  ·exact fV
  refine bH fun r31 h31=> ?_;intros
  refine mJ ?_;refine xA ?_;refine lY ?_;refine⟨(r31,j+1),⟨⟨by show Nq r31 r3;(exact bV),by show Nq r31 r2;(exact bV),by show Nq r31 r1;(exact bV)⟩,hlt,hlt5⟩,by show 55-(j+1)<55-j;omega, ?_⟩;dsimp only;rw[hn];exact aL
 ·have he:x.l.take j=x.l.take 55:=by
   have:j=x.l.length∨j=55:=by simp at h1;omega
   rcases this with rfl|rfl
   ·rw[List.take_of_length_le (Nat.le_refl _),List.take_of_length_le (by omega)]
   ·rfl
  rw[he];refine qB ?_;refine lW ?_;refine bY ?_;exact aE aF ⟨p,by rfl,rfl⟩ aA
end Go.Proofs.YtjpdadobblffmaaGreat
namespace Go.Proofs.YtjpdadobblffmaaGreat
open Go.RowKit Go.ChangeShapes Go.WideShapes Go.ChangeAt Go.Deep
class NoE {α:Type} (enc:α→List AV):Prop where
 no:∀a,∀x∈enc a,NoF x
theorem aCA{α:Type}{enc:α→List AV} [h:NoE enc] {e:TypeId}{sz:Nat}{l:List α}:ENoF (.arr e sz (l.map enc)):=by
 intro y hy x hx;obtain⟨a,-,rfl⟩:=List.mem_map.1 hy;exact h.no a x hx
instance : NoE aG := ⟨fun a x hx => by simp [aG] at hx; subst hx; exact NoF.int⟩
theorem kD{P:Prop}(h:P:=by
  intro x σ' h;repeat(refine Exists.elim h ?_;clear h;intro _ h)
  first|(obtain⟨rfl,rfl⟩:=h)|(obtain⟨_,rfl,rfl⟩:=h)|(obtain⟨_,_,rfl,rfl⟩:=h)
  refine⟨bB, ?_⟩;intro p hp;simp only[List.mem_cons,List.not_mem_nil,or_false]at hp;repeat' (first|(rcases hp with rfl|hp)|(cases hp;done))
  all_goals first|exact aCA|exact enof_nil|exact enof_box bB):P:=h
section
variable {P : Program} {n : Nat} {ops : Array Oper} {rest : List Oper} {fr : Fr} {σ : dS} {K : ASt → Prop} {op : Op} {ty t t' : TypeId} {pos : String} {af : Array Edge} {x y : Operand} {d : Nat} {f : FuncId} {xs : List Operand} {ats : Array TypeId} {args : List AV}
theorem oL{v:AV}(hf:∀args w,(callFunc f args).run P w=.ok (.enter f args) w)(h:SCall P f args [] (fun x σ'=>x=v∧σ'=[]))(hd:Nat.ble (d+1) n=true)
  (hargs:ArgsIf ⟨fr,σ⟩ true (σ.map (·.1)) xs args) (hno:NoF v) (hK:RS P n ops rest ⟨(d,v)::fr,σ⟩ K):RS P n ops (⟨some d,.call { callee:=.value (.func f),args:=xs.toArray,argTypes:=ats },ty,pos,af,none⟩::rest) ⟨fr,σ⟩ K:=pu _ hf h hd hargs hno hK
theorem lG{j dj:Nat}{want b:Bool}{v:AV}(hj:(ops[j]?).bind (·.dst)=some dj)(hb:dW fr dj=some (.bool b))(hf:∀args w,(callFunc f args).run P w=.ok (.enter f args) w)
  (h:(b==want)=true→SCall P f args [] (fun x σ'=>x=v∧σ'=[])) (hd:Nat.ble (d+1) n=true) (hargs:ArgsIf ⟨fr,σ⟩ (b==want) (σ.map (·.1)) xs args) (hno:NoF v) (hK:RS P n ops rest ⟨(d,.when (b==want) v)::fr,σ⟩ K):
  RS P n ops (⟨some d,.call { callee:=.value (.func f),args:=xs.toArray,argTypes:=ats },ty,pos,af,some (j,want)⟩::rest) ⟨fr,σ⟩ K:=zE _ hj hb hf h hd hargs hno hK
theorem rY{R:AV→dS→Prop}(hf:∀args w,(callFunc f args).run P w=.ok (.enter f args) w)(h:SCall P f args [] R)(hd:Nat.ble (d+1) n=true)
  (hargs:ArgsBor ⟨fr,σ⟩ (σ.map (·.1)) xs args) (hno:∀x σ',R x σ'→NoF x∧∀p∈σ',ENoF p.2) (hK:∀x σ',R x σ'→(∀p∈σ',Fresh p.1 σ)→RS P n ops rest ⟨(d,x)::fr,σ'++σ⟩ K):
  RS P n ops (⟨some d,.call { callee:=.value (.func f),args:=xs.toArray,argTypes:=ats },ty,pos,af,none⟩::rest) ⟨fr,σ⟩ K:=cl _ hf h hd hargs hno hK
theorem aCB{P:Prop}(h:P:=by(first|exact .inl ⟨_,rfl⟩|exact .inr (.inr ⟨_,_,_,_,_,rfl,bA,by simp,rfl⟩)|exact .inr (.inl ⟨_,_,rfl,rfl⟩))):P:=h
theorem aIc{P:Prop}(h:P:=by(first|rfl|(simp;done)|(simp only[List.map_append,List.drop_zero];rfl)|(simp only[List.drop_zero,List.map_append,List.map_cons,List.map_nil];congr 1;exact List.take_of_length_le (by simp))|(simp only[List.drop_zero,List.map_append];congr 1;exact List.take_of_length_le (by first|(simp;done)|omega)))):P:=h
theorem KU{P:Prop}(h:P:=by(first|rfl|omega|(simp;done)|(simp;omega)|(simp[maxLen];omega))):P:=h
theorem iY{e:TypeId} [Ty P t (.slice e)] {sz by_:Nat}{zv:Value} [Tz P e sz by_ zv] {r len:Nat}{es ys:List (List AV)}(es':List (List AV))(len':Nat)
  (hK:∀r',Fresh r' (eO [r] σ)→∃σ',SSet σ r (.arr e sz es) r' (.arr e sz es') σ'∧RS P n ops rest ⟨(d,.own r' 0 len')::fr,σ'⟩ K)
  (hz:zv.cells.size=sz:=by rfl) (hb:aev ⟨fr,σ⟩ x=some (.own r 0 len):=by rfl) (hg:gN σ r=some (.arr e sz es):=by exact bA) (hlen:len=es.length:=by exact KU) (hy:Src ⟨fr,σ⟩ y sz ys:=by exact aCB)
  (he:es++ys=es':=by exact aIc) (hl':len'=len+ys.length:=by exact KU) (hmax:len'≤maxLen:=by(simp[maxLen];try omega)) (hby:len'*by_≤140737488355328:=by(simp;try omega)) (hd:Nat.ble (d+1) n=true:=by rfl):
  RS P n ops (⟨some d,.call { callee:=.builtin .append,args:=#[x,y],argTypes:=#[t,t] },ty,pos,af,none⟩::rest) ⟨fr,σ⟩ K:=ap hz hb hg hlen hy he hl' hmax hby hd hK
theorem PP{j q:Nat}{v v':AV}{e:Ent}{σ':dS}(hx:dW fr j=some v)(hd:SDel σ q e σ')(hb:Bor σ [q] v v'):SGo ⟨fr,σ⟩ ⟨(j,v')::fr,σ'⟩:=by
 refine pU [q] (fun i x' hi=> ?_) (fun p hp=> ?_)
 ·simp only[dW]at hi;split at hi
  ·next h=>subst h;obtain rfl:=Option.some.inj hi;exact⟨_,hx,hb⟩
  ·exact⟨x',hi,.refl _⟩
 ·obtain⟨h1,h2⟩:=hd.sub p hp;exact⟨by simpa using h2,p.2,h1,.refl _⟩
theorem gJ{j q:Nat}{v v':AV}{e:Ent}{σ':dS}(hx:dW fr j=some v)(hd:SDel σ q e σ')(hb:Bor σ [q] v v')(hK:RS P n ops rest ⟨(j,v')::fr,σ'⟩ K):RS P n ops rest ⟨fr,σ⟩ K:=iK (PP hx hd hb) hK
theorem aCC{ks:List Nat}{c:Code}{Q:Exit→ASt→Prop}{j q:Nat}{v v':AV}{e:Ent}{σ':dS}(hx:dW fr j=some v)(hd:SDel σ q e σ')(hb:Bor σ [q] v v')(hK:SW P n ks c ⟨(j,v')::fr,σ'⟩ Q):SW P n ks c ⟨fr,σ⟩ Q:=dQ (PP hx hd hb) hK
theorem aK{q len sz:Nat}{et:TypeId}{es:List (List AV)}(hg:gN σ q=some (.arr et sz es))(hl:len=es.length):Bor σ [q] (.own q 0 len) (.ro sz es .any):=
 aEl List.mem_cons_self hg (by omega) (by subst hl;simp)
variable {listed : Array Bool} {todo : List (Nat × Bool)} {held : List (Nat × List Nat)} {i : Nat}
theorem zU{v:AV}(hi:ops[i]? =some ⟨some d,.call { callee:=.value (.func f),args:=xs.toArray,argTypes:=ats },ty,pos,af,none⟩)(hf:∀args w,(callFunc f args).run P w=.ok (.enter f args) w)(h:SCall P f args [] (fun x σ'=>x=v∧σ'=[]))(hd:Nat.ble (d+1) n=true)
  (hargs:ArgsIf ⟨fr,σ⟩ true (σ.map (·.1)) xs args) (hno:NoF v) (hK:RD P n ops (listed.setIfInBounds i true) todo held ⟨(d,v)::fr,σ⟩ K):RD P n ops listed ((i,false)::todo) held ⟨fr,σ⟩ K:=dpu _ hi hf h hd hargs hno hK
theorem NF{j dj:Nat}{want:Bool}{v:AV}(hi:ops[i]? =some ⟨some d,.call { callee:=.value (.func f),args:=xs.toArray,argTypes:=ats },ty,pos,af,some (j,want)⟩)(hj:(ops[j]?).bind (·.dst)=some dj)(hb:dW fr dj=some (.bool want))(hf:∀args w,(callFunc f args).run P w=.ok (.enter f args) w)(h:SCall P f args [] (fun x σ'=>x=v∧σ'=[]))(hd:Nat.ble (d+1) n=true)
  (hargs:ArgsIf ⟨fr,σ⟩ true (σ.map (·.1)) xs args) (hno:NoF v) (hK:RD P n ops (listed.setIfInBounds i true) todo held ⟨(d,v)::fr,σ⟩ K):RD P n ops listed ((i,false)::todo) held ⟨fr,σ⟩ K:=OT (s:=⟨fr,σ⟩) hi hj hb (TD _ hf h (cW hd) hargs hno hK) (.inl rfl)
theorem dhn{j dj:Nat}{want b:Bool}(hi:ops[i]? =some ⟨some d,op,ty,pos,af,some (j,want)⟩)(hj:(ops[j]?).bind (·.dst)=some dj)(hb:dW fr dj=some (.bool b))(hne:(b==want)=false)(hd:Nat.ble (d+1) n=true)
  (hK:RD P n ops (listed.setIfInBounds i true) todo held ⟨(d,.when false (.bool false))::fr,σ⟩ K):RD P n ops listed ((i,false)::todo) held ⟨fr,σ⟩ K:=TG (s:=⟨fr,σ⟩) hi hj hb hne hd hK
theorem lO{R:AV→dS→Prop}(hi:ops[i]? =some ⟨some d,.call { callee:=.value (.func f),args:=xs.toArray,argTypes:=ats },ty,pos,af,none⟩)(hf:∀args w,(callFunc f args).run P w=.ok (.enter f args) w)(h:SCall P f args [] R)(hd:Nat.ble (d+1) n=true)
  (hargs:ArgsBor ⟨fr,σ⟩ (σ.map (·.1)) xs args) (hno:∀x σ',R x σ'→NoF x∧∀p∈σ',ENoF p.2) (hK:∀x σ',R x σ'→(∀p∈σ',Fresh p.1 σ)→RD P n ops (listed.setIfInBounds i true) todo held ⟨(d,x)::fr,σ'++σ⟩ K):
  RD P n ops listed ((i,false)::todo) held ⟨fr,σ⟩ K:=dcl _ hi hf h hd hargs hno hK
theorem fB{e:TypeId}{sz by_:Nat}{zv:Value}{r len:Nat}{es ys:List (List AV)}(hi:ops[i]? =some ⟨some d,.call { callee:=.builtin .append,args:=#[x,y],argTypes:=#[t,t] },ty,pos,af,none⟩)(es':List (List AV))(len':Nat)
  (hK:∀r',Fresh r' (eO [r] σ)→∃σ',SSet σ r (.arr e sz es) r' (.arr e sz es') σ'∧RD P n ops (listed.setIfInBounds i true) todo held ⟨(d,.own r' 0 len')::fr,σ'⟩ K)
  (i1:Ty P t (.slice e):=by infer_instance) (i2:Tz P e sz by_ zv:=by infer_instance) (hz:zv.cells.size=sz:=by rfl) (hx:aev ⟨fr,σ⟩ x=some (.own r 0 len):=by rfl) (hg:gN σ r=some (.arr e sz es):=by exact bA) (hlen:len=es.length:=by exact KU) (hy:Src ⟨fr,σ⟩ y sz ys:=by exact aCB)
  (he:es++ys=es':=by exact aIc) (hl':len'=len+ys.length:=by exact KU) (hmax:len'≤maxLen:=by(simp[maxLen];try omega)) (hby:len'*by_≤140737488355328:=by(simp;try omega)) (hd:Nat.ble (d+1) n=true:=by rfl) (hb:HB ops i (σ.map (·.1)) [r] held:=by exact fV):
  RD P n ops listed ((i,false)::todo) held ⟨fr,σ⟩ K:=dap hi i1 i2 hz hx hg hlen hy he hl' hmax hby hd hb hK
end
theorem aId{p q:Bool}:(if p=true then q else false)=(p&&q):=by cases p<;>rfl
theorem aG7{p q:Bool}:(if p=true then true else q)=(p||q):=by cases p<;>rfl
theorem bT{H R:Prop}(a:H)(h:H→R:=by intro h;(try simp only[aId,aG7]at h);simp only[Bool.and_eq_true,Bool.or_eq_true,Bool.and_eq_false_iff,Bool.or_eq_false_iff,decide_eq_true_eq,decide_eq_false_iff_not,Bool.not_eq_true',Bool.not_eq_false',bne_iff_ne,beq_iff_eq,ne_eq,Bool.not_eq_eq_eq_not,Bool.not_true,Bool.not_false,bne_eq_false_iff_eq,beq_eq_false_iff_ne]at h;exact h):R:=h a
instance : NoE aP := ⟨fun a x hx => by simp [aP] at hx; subst hx; exact NoF.int⟩
theorem aEW(x:Ins):∀b∈fR x,b<256:=by
 have hf:∀l:List Int,∀b∈(l.flatMap fun n=>uB n.toNat),b<256:=by
  intro l b hb;obtain⟨n,-,hn⟩:=List.mem_flatMap.1 hb;exact lM _ b hn
 intro b hb;unfold fR at hb;split at hb
 ·rw[List.mem_singleton.1 hb];unfold vN;split<;>(try split)<;>decide
 split at hb
 ·exact lM _ b hb
 split at hb
 ·rcases List.mem_append.1 hb with h|h
  ·exact lM _ b h
  ·rw[List.mem_singleton.1 h];decide
 split at hb
 ·rcases List.mem_append.1 hb with h|h
  ·rcases List.mem_append.1 h with h|h
   ·exact lM _ b h
   ·exact hf _ b h
  ·exact lM _ b h
 split at hb
 ·rcases List.mem_append.1 hb with h|h
  ·exact lM _ b h
  ·exact lM _ b h
 split at hb
 ·rw[List.mem_singleton.1 hb];decide
 split at hb
 ·exact aGZ _ x.a (Nat.le_refl _) b hb
 ·simp at hb
theorem ZJ{x:Ins}(hm:cY x=true):∀b∈gG x,b<256:=by
 intro b hb;rcases List.mem_cons.1 hb with rfl|hb
 ·have:=PH hm;omega
 ·exact aEW x b hb
theorem vQ{x:Ins}(hx:x.Ok)(hm:cY x=true):(gG x).length≤200:=by
 unfold gG;rw[List.length_cons]
 suffices (fR x).length≤199 by omega
 unfold fR;split
 ·simp
 split
 ·next h=>have:=aEQ hm h;have:=bP 1 x.a.toNat (by omega);omega
 split
 ·next h=>have:=aER hm h;have:=bP 1 x.a.toNat (by omega);simp;omega
 split
 ·next h=>
  obtain⟨h1,h2,h3⟩:=aES hm h;have:=bP 1 x.a.toNat (by omega);have:=bP 0 x.l.length (by omega);have:=sL h3;simp only[List.length_append];omega
 split
 ·next h=>have:=aET hm h;have:=bP 0 x.a.toNat (by omega);have:=bP 4 x.b.toNat (by omega);simp;omega
 split
 ·simp
 split
 ·obtain⟨-,-,h1,h2,-⟩:=hx;have:=yD 9 x.a (by omega) (by omega);omega
 ·simp
theorem PQ{x y:Ins}:eqN x y=true↔x=y:=by
 cases x;cases y
 simp[eqN]
end Go.Proofs.YtjpdadobblffmaaGreat
namespace Go.Proofs.YtjpdadobblffmaaGreat
open Go.RowKit Go.ChangeShapes Go.WideShapes Go.ChangeAt Go.Deep
attribute [local irreducible] SW RS RD fG eH
def kE (l:List Ins) (n:Nat):List Ins:=(l.take n).map PO
theorem XL{l:List Ins}{j:Nat}{x:Ins}(h:l[j]? =some x):kE l (j+1)=kE l j++ [PO x]:=by
 unfold kE;rw[List.take_add_one,h];simp
theorem aA1{l:List Ins}{j:Nat}(h:j≤l.length):(kE l j).length=j:=by unfold kE;simp;omega
theorem aIe{q:Nat}{x:Ins}{e:TypeId}{σ:dS}(h:gN σ q=some (.arr e 1 (x.l.map aP))):Bor σ [q] (.agg (io q x)) (.agg (iv .any x)):=
 aB5 (.cons (.refl _) (.cons (.refl _) (.cons (.refl _) (.cons (aK h (by simp)) .nil))))
theorem UC(l:List Ins)(hl:l.length≤maxLen)(hw:∀x∈l,x.l.length≤maxLen)(n:Nat)(hn:n≤1000):SCall Tryz.prog 26 [.ro 4 (l.map (iv .any)) .any,.int .i64 n] []
  (fun y σ=>∃q,y=.own q 0 (kE l n).length∧σ=[(q,.arr 46 4 ((kE l n).map (iv .any)))]):=by
 unfold maxLen at hl;refine cF 27 [0,1,4,5,6,15] Tryz.func26 ?_;refine bM ?_;refine jQ ?_;refine lJ ?_;refine dE ?_;refine bW 5 46 4 (by decide) rfl (by decide) (bL fun q0 hq0=> ?_);repeat rcases hq0 with⟨_,hq0⟩
 refine lp (β:=Nat×Nat) (fun b=>⟨[(0,.ro 4 (l.map (iv .any)) .any),(1,.int .i64 n),(5,.own b.1 0 (kE l b.2).length),(6,.int .i64 b.2)],[(b.1,.arr 46 4 ((kE l b.2).map (iv .any)))]⟩) (fun b=>b.2≤n∧b.2≤l.length) (fun b=>n-b.2) (q0,0) aL ⟨by omega,by omega⟩ ?_;rintro⟨q,j⟩ ⟨hj,hjl⟩;dsimp only at hj hjl⊢;refine eX ?_;refine kU ?_;refine vG ?_;refine pW ?_;refine aEp ?_;refine vH ?_;refine aB rfl (fun g3=> ?_) (fun g3=> ?_)
 ·replace g3:=bT g3
  obtain⟨x,hx⟩:∃x,l[j]? =some x:=⟨_,List.getElem?_eq_getElem (by omega)⟩
  have hxm:=hw x (List.mem_of_getElem? hx);have hnx:=XL hx;have hbl:=aA1 hjl;refine eX ?_;refine mX ?_;refine cw [] Tryz.call81 (aEV x hxm) rfl aC aA ?_;rintro _ σ' ⟨q2,rfl,rfl⟩ h23
  replace h23:=gL h23;repeat rcases h23 with⟨_,h23⟩
  apply aY;exact bN;refine gJ (j:=23) rfl aU (aIe bA) ?_;refine eN fun r24 h24=> ?_;intros
  refine iY ((kE l j++ [PO x]).map (iv .any)) (kE l j++ [PO x]).length ?_;refine bH fun r25 h25=> ?_;intros
  refine hZ ?_;refine GM ?_;refine⟨(r25,j+1),⟨by show j+1≤n;omega,by show j+1≤l.length;omega⟩,by show n-(j+1)<n-j;omega, ?_⟩;dsimp only;rw[hnx];exact aL
 have he:kE l j=kE l n:=by
  have:j=n∨j=l.length:=by replace g3:=bT g3;omega
  rcases this with rfl|rfl
  ·rfl
  ·unfold kE;rw[List.take_of_length_le (Nat.le_refl _),List.take_of_length_le hj]
 rw[he];refine fA ?_;exact aE aF ⟨q,by rfl,rfl⟩ aA
end Go.Proofs.YtjpdadobblffmaaGreat
namespace Go.Proofs.YtjpdadobblffmaaGreat
open Go.RowKit Go.ChangeShapes Go.WideShapes Go.ChangeAt Go.Deep
theorem PR{H:Type}{enc:TypeId×Value→H}{P:Program}{W:World}{fuel:Nat}{t:TypeId}{n:Nat}{fs:Array Field}{cs:List Value}{x:DataW H×List MemPlace}(hs:P.underlying t=some (.struct fs))(hC:P.cellsOf t=n)
  (h:DataW.trod enc P W 0 (fun _=>true) true fuel t cs=some x):cs.length=n∧∀(i:Nat) (f:Field),fs[i]? =some f→∃m y,DataW.trod enc P W 0 (fun _=>true) true m f.type ((cs.drop f.offset).take (P.cellsOf f.type))=some y:=by
 obtain⟨xs,m,_,_,hl,hxl,hf⟩:=DataW.trod_struct hs h;refine⟨hl.trans hC,fun i f hi=> ?_⟩;have hlt:i<xs.length:=by rw[hxl];exact(Array.getElem?_eq_some_iff.1 hi).1
 exact⟨m,_,(hf i f hi).trans (List.getElem?_eq_getElem hlt)⟩
theorem FI{P:Program}{f:Func}(h:(f.params.toList.all fun t=>P.readableRec t&&decide (t<P.types.size))=true):∀t∈f.params.toList,P.readableRec t=true∧t<P.types.size:=by
 intro t ht;have:=List.all_eq_true.1 h t ht;simpa using this
def VR0 (W:World):AV→Value→Prop:=VR (fun _=>none) (fun b=>b<W.heap.size) W
structure RdA (P:Program) (t:TypeId) (α:Type) (sz:Nat) (en:α→List AV) (ok:α→Prop):Prop where
 cells:P.cellsOf t=sz
 shape:∀a,(en a).length=sz∧∀x∈en a,x.cell=true
 read:∀(H:Type) (enc:TypeId×Value→H) (W:World) (fuel:Nat) (cs:List Value) (x:DataW H×List MemPlace),DataW.trod enc P W 0 (fun _=>true) true fuel t cs=some x→
  ∃a:α,ok a∧cs.length=sz∧∀(j:Nat) (x:AV) (u:Value),(en a)[j]? =some x→cs[j]? =some u→VR0 W x u
section
variable {P : Program} {t : TypeId}
theorem sM{sz by_:Nat}{z:Value}(i2:Tz P t sz by_ z):P.cellsOf t=sz:=by
 obtain⟨i,h1,_,h2,_⟩:=Tz.parts P t;simp[Program.cellsOf,h1,h2]
theorem BT{W:World}{x:AV}{u:Value}(h:VR0 W x u):∀(j:Nat) (y:AV) (v:Value),[x][j]? =some y→ [u][j]? =some v→VR0 W y v:=by
 intro j y v hy hv
 match j with
 |0=>
  simp at hy hv;subst hy hv;exact h
 |j+1=>simp at hy
theorem FJ{sz by_:Nat}{z:Value}{k:IntKind} [i:Ty P t (.int k)] [i2:Tz P t sz by_ z] (hsz:sz=1):RdA P t Int 1 (fun n=>[.int k n]) (fun n=>(Lit.int k n).wf=true):=by
 subst hsz;refine⟨sM i2,fun a=>⟨rfl,by simp[AV.cell]⟩,fun H enc W fuel cs x h=> ?_⟩;obtain⟨n,rfl,_,hw⟩:=DataW.trod_int i.und h;exact⟨n,hw,rfl,BT (.int k n)⟩
theorem aCD{sz by_:Nat}{z:Value} [i:Ty P t .bool] [i2:Tz P t sz by_ z] (hsz:sz=1):RdA P t Bool 1 (fun b=>[.bool b]) (fun _=>True):=by
 subst hsz;refine⟨sM i2,fun a=>⟨rfl,by simp[AV.cell]⟩,fun H enc W fuel cs x h=> ?_⟩;obtain⟨n,rfl,_⟩:=DataW.trod_bool i.und h;exact⟨n,trivial,rfl,BT (.bool n)⟩
theorem aEX{sz by_:Nat}{z:Value} [i:Ty P t .string] [i2:Tz P t sz by_ z] (hsz:sz=1):RdA P t ByteArray 1 (fun b=>[.str b]) (fun b=>b.size≤maxLen):=by
 subst hsz;refine⟨sM i2,fun a=>⟨rfl,by simp[AV.cell]⟩,fun H enc W fuel cs x h=> ?_⟩;obtain⟨n,rfl,_,hm⟩:=DataW.trod_string i.und h;exact⟨n,hm,rfl,BT (.str n)⟩
theorem jV{α:Type}{e:TypeId}{sz szs by_:Nat}{z:Value}{en:α→List AV}{ok:α→Prop} [i:Ty P t (.slice e)] [i2:Tz P t szs by_ z] (hsz:szs=1)(hpos:0<sz)(he:RdA P e α sz en ok):
  RdA P t (List α) 1 (fun l=>[.ro sz (l.map en) .any]) (fun l=>l.length≤maxLen∧∀a∈l,ok a):=by
 subst hsz;refine⟨sM i2,fun a=>⟨rfl,by simp[AV.cell]⟩,fun H enc W fuel cs x h=> ?_⟩;rcases open_slice i.und h with⟨rfl,_⟩|⟨a,len,cap,m,n,D,Pl,rfl,_,hl,hm,hmm,_,hi⟩
 ·exact⟨[],⟨Nat.zero_le _,by simp⟩,rfl,BT (.ro0 (Nat.zero_le _) (fun _=>rfl) (fun h=>by cases h) (fun h=>by cases h))⟩
 ·simp only[if_true]at hmm;subst hmm;rcases Nat.eq_zero_or_pos len with rfl|hlen
  ·exact⟨[],⟨Nat.zero_le _,by simp⟩,rfl,BT (.ro0 hm (fun h=>by cases h) (fun h=>by cases h) (fun h=>by cases h))⟩
  obtain⟨b,off,spot⟩:=a;have hspot:spot=none∧b<W.heap.size:=by
   obtain⟨us0,hc0,_⟩:=hi 0 (by omega);obtain⟨_,hul0,hat0⟩:=World.cells?_some hc0;rw[he.cells]at hul0 hat0;have h00:=hat0 0 hpos;rw[List.getElem?_eq_getElem (by omega)]at h00;simp only[Nat.zero_mul]at h00;have hs:spot=none:=by simpa[Addr.add]using World.cell?_spot h00
   refine⟨hs, ?_⟩;have:=World.block_lt_of_cell? _ _ h00
   rwa [yU,yU]at this
  obtain⟨rfl,hlt⟩:=hspot;have hex:∀i:Nat,∃y:Option (α×List Value),i<len→∃z us,y=some (z,us)∧ok z∧us.length=sz∧(∀(j:Nat) (u:Value),us[j]? =some u→W.cell? ⟨b,off+i*sz+j,none⟩=some u)∧∀(j:Nat) (x:AV) (u:Value),(en z)[j]? =some x→us[j]? =some u→VR0 W x u:=by
   intro i;by_cases hlt:i<len
   ·obtain⟨us,hc,htr⟩:=hi i (by omega);obtain⟨z,hz,hzl,hzv⟩:=he.read H enc W n us _ htr;obtain⟨_,hul,hat⟩:=World.cells?_some hc;rw[he.cells]at hul hat;refine⟨some (z,us),fun _=>⟨z,us,rfl,hz,hzl,fun j u hu=> ?_,hzv⟩⟩;have hj:j<sz:=by have:=(List.getElem?_eq_some_iff.1 hu).1;omega
    have:=hat j hj;rw[hu,WT,Addr.add_lit]at this;rw[Nat.add_assoc];exact this
   ·exact⟨none,fun h=>absurd h hlt⟩
  obtain⟨f,hf⟩:=Classical.axiomOfChoice hex;obtain⟨d,d2,_⟩:=hf 0 (by omega)
  let g:Nat→α×List Value:=fun i=>(f i).getD (d,d2)
  have hg:∀i,i<len→ok (g i).1∧(g i).2.length=sz∧(∀(j:Nat) (u:Value),(g i).2[j]? =some u→W.cell? ⟨b,off+i*sz+j,none⟩=some u)∧∀(j:Nat) (x:AV) (u:Value),(en (g i).1)[j]? =some x→(g i).2[j]? =some u→VR0 W x u:=by
   intro i hlt;obtain⟨z,us,hz,h1,h2,h3,h4⟩:=hf i hlt;have:g i=(z,us):=by show(f i).getD _=_;rw[hz];rfl
   rw[this];exact⟨h1,h2,h3,h4⟩
  have hpick:∀(i:Nat) (e:List AV) (j:Nat) (a:AV),(((List.range len).map fun i=>(g i).1).map en)[i]? =some e→e[j]? =some a→i<len∧(en (g i).1)[j]? =some a∧∃u,(g i).2[j]? =some u∧u=((g i).2[j]?).getD Go.undef:=by
   intro i e j a hie hja;have hlt:i<len:=by have:=(List.getElem?_eq_some_iff.1 hie).1;simpa using this
   rw[List.getElem?_map,List.getElem?_map,List.getElem?_range hlt]at hie;simp at hie;subst hie;refine⟨hlt,hja, ?_⟩;have hj:j<(g i).2.length:=by
    rw[(hg i hlt).2.1,←(he.shape (g i).1).1];exact(List.getElem?_eq_some_iff.1 hja).1
   exact⟨(g i).2[j],List.getElem?_eq_getElem hj,by simp[List.getElem?_eq_getElem hj]⟩
  refine⟨(List.range len).map (fun i=>(g i).1),⟨by simp;omega, ?_⟩,rfl,BT ?_⟩
  ·intro a ha;simp only[List.mem_map,List.mem_range]at ha;obtain⟨i,hi,rfl⟩:=ha;exact(hg i hi).1
  ·have hlen':(((List.range len).map fun i=>(g i).1).map en).length=len:=by simp
   have key:=VR.ro (M:=fun _=>none) (F:=fun b=>b<W.heap.size) (w:=W) (es:=((List.range len).map fun i=>(g i).1).map en) (k:=.any) (b:=b) (o:=off) (sz:=sz) (cap:=m)
    (us:=fun i j=>((g i).2[j]?).getD Go.undef) hlt ?_ ?_ ?_ (by rw[hlen'];exact hl) hm (fun h=>by cases h) (fun h=>by cases h)
   ·rw[hlen']at key;exact key
   ·intro x hx;simp only[List.mem_map]at hx;obtain⟨a,_,rfl⟩:=hx;exact he.shape a
   ·intro i e j a hie hja;obtain⟨h1,h2,u,hu,hu'⟩:=hpick i e j a hie hja;rw[←hu'];exact(hg i h1).2.2.1 j u hu
   ·intro i e j a hie hja;obtain⟨h1,h2,u,hu,hu'⟩:=hpick i e j a hie hja;rw[←hu'];exact(hg i h1).2.2.2 j a u h2 hu
structure RdF (P:Program) (fs:List Field) (off:Nat) (α:Type) (sz:Nat) (en:α→List AV) (ok:α→Prop):Prop where
 shape:∀a,(en a).length=sz∧∀x∈en a,x.cell=true
 read:∀(H:Type) (enc:TypeId×Value→H) (W:World) (cs:List Value),cs.length=off+sz→(∀f∈fs,∃m y,DataW.trod enc P W 0 (fun _=>true) true m f.type ((cs.drop f.offset).take (P.cellsOf f.type))=some y)→
  ∃a:α,ok a∧∀(j:Nat) (x:AV) (u:Value),(en a)[j]? =some x→cs[off+j]? =some u→VR0 W x u
theorem nD{α:Type}{sz off:Nat}{en:α→List AV}{ok:α→Prop}{f:Field}(h:RdA P f.type α sz en ok)(ho:f.offset=off):RdF P [f] off α sz en ok:=by
 refine⟨h.shape,fun H enc W cs hl hf=> ?_⟩;obtain⟨m,y,hy⟩:=hf f (by simp);obtain⟨a,h1,h2,h3⟩:=h.read H enc W m _ y hy;refine⟨a,h1,fun j x u hx hu=>h3 j x u hx ?_⟩;have hj:=(List.getElem?_eq_some_iff.1 hx).1;rw[(h.shape a).1]at hj;rw[List.getElem?_take,h.cells,if_pos hj,List.getElem?_drop,ho,hu]
theorem eR{α β:Type}{sz sz' off:Nat}{en:α→List AV}{ok:α→Prop}{en':β→List AV}{ok':β→Prop}{f:Field}{fs:List Field}(h:RdA P f.type α sz en ok)(ho:f.offset=off)
  (k:RdF P fs (off+sz) β sz' en' ok'):RdF P (f::fs) off (α×β) (sz+sz') (fun p=>en p.1++en' p.2) (fun p=>ok p.1∧ok' p.2):=by
 refine⟨fun a=>⟨by simp[(h.shape a.1).1,(k.shape a.2).1],fun x hx=>(List.mem_append.1 hx).elim ((h.shape a.1).2 x) ((k.shape a.2).2 x)⟩,fun H enc W cs hl hf=> ?_⟩;obtain⟨m,y,hy⟩:=hf f (by simp);obtain⟨a,h1,h2,h3⟩:=h.read H enc W m _ y hy;obtain⟨b,k1,k2⟩:=k.read H enc W cs (by omega) (fun f' hf'=>hf f' (by simp[hf']));refine⟨(a,b),⟨h1,k1⟩,fun j x u hx hu=> ?_⟩;have hsz:(en a).length=sz:=(h.shape a).1;dsimp only at hx;by_cases hj:j<sz
 ·refine h3 j x u ?_ ?_
  ·rwa [List.getElem?_append_left (by omega)]at hx
  ·rw[List.getElem?_take,h.cells,if_pos hj,List.getElem?_drop,ho,hu]
 ·refine k2 (j-sz) x u ?_ ?_
  ·rw[List.getElem?_append_right (by omega),hsz]at hx;exact hx
  ·rw[show off+sz+(j-sz)=off+j by omega];exact hu
theorem iA{α:Type}{fs:List Field}{sz by_:Nat}{z:Value}{en:α→List AV}{ok:α→Prop} [i:Ty P t (.struct fs.toArray)] [i2:Tz P t sz by_ z] (h:RdF P fs 0 α sz en ok):RdA P t α sz en ok:=by
 refine⟨sM i2,h.shape,fun H enc W fuel cs x hx=> ?_⟩;obtain⟨hl,hf⟩:=PR i.und (sM i2) hx;obtain⟨a,h1,h2⟩:=h.read H enc W cs (by omega) (fun f hfm=>by
  obtain⟨j,hj⟩:=List.getElem?_of_mem hfm;exact hf j f (by simpa using hj))
 exact⟨a,h1,by omega,fun j x u hx hu=>h2 j x u hx (by simpa using hu)⟩
theorem ZK{α:Type}{en:α→List AV}{ok:α→Prop}(h:RdA P t α 1 en ok){H:Type}{enc:TypeId×Value→H}{W:World}{v:Value}{d:DataW H}{p:List MemPlace}(hv:v.cells.toList=[v])
  (hd:DataW.Trod enc P W 0 (fun _=>true) true t v d p):∃a,ok a∧VR0 W ((en a).headD .undef) v:=by
 obtain⟨fuel,hf⟩:=hd;rw[hv]at hf;obtain⟨a,h1,h2,h3⟩:=h.read H enc W fuel _ _ hf;refine⟨a,h1, ?_⟩;have hl:=(h.shape a).1
 match he:en a,hl with
 |[x],_=>exact h3 0 x v (by rw[he];rfl) rfl
theorem ZL{α:Type}{sz:Nat}{en:α→List AV}{ok:α→Prop}(h:RdA P t α sz en ok){H:Type}{enc:TypeId×Value→H}{W:World}{cs:Array Value}{d:DataW H}{p:List MemPlace}
  (hd:DataW.Trod enc P W 0 (fun _=>true) true t (.agg cs) d p):∃a,ok a∧VR0 W (.agg (en a)) (.agg cs):=by
 obtain⟨fuel,hf⟩:=hd;obtain⟨a,h1,h2,h3⟩:=h.read H enc W fuel _ _ hf;refine⟨a,h1,.agg ?_ fun j x u hx hu=>h3 j x u hx ?_⟩
 ·rw[(h.shape a).1];simpa[Value.cells]using h2
 ·simpa[Value.cells]using hu
end
theorem FK{P:Program}{f:FuncId}{args:List AV}(h:SCall P f args [] (fun x _=>x=.bool true)){W:World}{vs:List Value}(hl:vs.length=args.length)(hv:∀(i:Nat) (x:AV) (v:Value),args[i]? =some x→vs[i]? =some v→VR0 W x v):
  Calls P f vs.toArray W fun e w'=>e=.returned (.bool true)∧Below W.heap.size W w':=by
 refine(h (fun _=>none) (fun b=>b<W.heap.size) 0 W vs hl hv ⟨by simp,by simp,fun g ⟨p,hp,_⟩=>by simp at hp,fun _ h=>h,fun _ _=>rfl⟩).mono ?_;rintro e w' ⟨v,x,M',F',N',σ',rfl,he,hvx,_,rfl⟩;cases hvx
 exact⟨rfl,he.only.below (Nat.le_refl _) fun i _ ⟨p,hp,_⟩=>by simp at hp⟩
theorem PT{W:World}:∀(i:Nat) (x:AV) (v:Value),([]:List AV)[i]? =some x→([]:List Value)[i]? =some v→VR0 W x v:=fun i x v h=>by simp at h
theorem lS{W:World}{x:AV}{v:Value}{xs:List AV}{vs:List Value}(h:VR0 W x v)(k:∀(i:Nat) (x:AV) (v:Value),xs[i]? =some x→vs[i]? =some v→VR0 W x v):
  ∀(i:Nat) (x':AV) (v':Value),(x::xs)[i]? =some x'→(v::vs)[i]? =some v'→VR0 W x' v':=by
 intro i x' v' hx hv
 match i with
 |0=>simp at hx hv;subst hx hv;exact h
 |i+1=>exact k i x' v' (by simpa using hx) (by simpa using hv)
def aCE (n:Int):List AV:=[.int .u8 n]
theorem NG:∀ {l:List Int},(∀a∈l,0≤a∧a≤255)→l.map aCE=(l.map Int.toNat).map aG
 |[],_=>rfl
 |a::l,h=>by
  have:=h a List.mem_cons_self;rw[List.map_cons,List.map_cons,List.map_cons,NG fun b hb=>h b (List.mem_cons_of_mem _ hb),aCE,aG,Int.toNat_of_nonneg this.1]
abbrev nY (a:Int):Prop:=(Lit.int .i64 a).wf=true
abbrev U8 (a:Int):Prop:=(Lit.int .u8 a).wf=true
theorem aG8{n:Int}(h:U8 n):0≤n∧n≤255:=by
 simp[U8,Lit.wf,IntKind.min,IntKind.max,IntKind.signed,IntKind.bits]at h;omega
theorem BU{n:Int}(h:nY n):-9223372036854775808≤n∧n≤9223372036854775807:=by
 simp[nY,Lit.wf,IntKind.min,IntKind.max,IntKind.signed,IntKind.bits]at h;omega
theorem DB:RdA Tryz.prog 3 Int 1 (fun n=>[.int .i64 n]) nY:=FJ (t:=3) (k:=.i64) rfl
theorem PU:RdA Tryz.prog 2 Int 1 (fun n=>[.int .i64 n]) nY:=FJ (t:=2) (k:=.i64) rfl
theorem aEY:RdA Tryz.prog 36 (List Int) 1 (fun l=>[.ro 1 (l.map aCE) .any]) (fun l=>l.length≤maxLen∧∀a∈l,U8 a):=jV rfl (by decide) (FJ (t:=5) (k:=.u8) rfl)
theorem qC:RdA Tryz.prog 24 (List Int) 1 (fun l=>[.ro 1 (l.map aP) .any]) (fun l=>l.length≤maxLen∧∀a∈l,nY a):=jV rfl (by decide) (FJ (t:=3) (k:=.i64) rfl)
theorem aEZ{P:Program}{t:TypeId}{α β:Type}{sz:Nat}{en:α→List AV}{ok:α→Prop}(f:α→β)(g:β→α)(hg:∀a,g (f a)=a)(h:RdA P t α sz en ok):RdA P t β sz (fun b=>en (g b)) (fun b=>ok (g b)):=
 ⟨h.cells,fun b=>h.shape (g b),fun H enc W fuel cs x hx=>by
  obtain⟨a,h1,h2,h3⟩:=h.read H enc W fuel cs x hx;exact⟨f a,by rw[hg];exact h1,h2,by rw[hg];exact h3⟩⟩
theorem aIf{P:Program}{t:TypeId}{α:Type}{sz:Nat}{en:α→List AV}{ok ok':α→Prop}(hk:∀a,ok a→ok' a)(h:RdA P t α sz en ok):RdA P t α sz en ok':=
 ⟨h.cells,h.shape,fun H enc W fuel cs x hx=>by
  obtain⟨a,h1,h2,h3⟩:=h.read H enc W fuel cs x hx;exact⟨a,hk a h1,h2,h3⟩⟩
def Ins.Wf (x:Ins):Prop:=(-9223372036854775808≤x.op∧x.op≤9223372036854775807)∧(-9223372036854775808≤x.a∧x.a≤9223372036854775807)∧(-9223372036854775808≤x.b∧x.b≤9223372036854775807)∧x.l.length≤maxLen∧∀a∈x.l,-9223372036854775808≤a∧a≤9223372036854775807
theorem ZM:RdA Tryz.prog 46 Ins 4 (iv .any) Ins.Wf:=by
 have h:RdA Tryz.prog 46 (Int×Int×Int×List Int) 4 (fun p:Int×Int×Int×List Int=>[.int .i64 p.1]++(fun p:Int×Int×List Int=>[.int .i64 p.1]++(fun p:Int×List Int=>[.int .i64 p.1]++ [.ro 1 (p.2.map aP) .any]) p.2) p.2) (fun p=>nY p.1∧nY p.2.1∧nY p.2.2.1∧(p.2.2.2.length≤maxLen∧∀a∈p.2.2.2,nY a)):=by
  refine iA ?_;refine eR (f:=⟨_,_,_,_,_,_,_⟩) (sz':=3) (en:=fun n=>[.int .i64 n]) (ok:=nY) (en':=fun p:Int×Int×List Int=>[.int .i64 p.1]++(fun p:Int×List Int=>[.int .i64 p.1]++ [.ro 1 (p.2.map aP) .any]) p.2) (ok':=fun p=>nY p.1∧nY p.2.1∧(p.2.2.length≤maxLen∧∀a∈p.2.2,nY a)) DB rfl ?_;refine eR (f:=⟨_,_,_,_,_,_,_⟩) (sz':=2) (en:=fun n=>[.int .i64 n]) (ok:=nY) (en':=fun p:Int×List Int=>[.int .i64 p.1]++ [.ro 1 (p.2.map aP) .any]) (ok':=fun p=>nY p.1∧(p.2.length≤maxLen∧∀a∈p.2,nY a)) PU rfl ?_;refine eR (f:=⟨_,_,_,_,_,_,_⟩) (sz':=1) (en:=fun n=>[.int .i64 n]) (ok:=nY) (en':=fun l:List Int=>[.ro 1 (l.map aP) .any]) (ok':=fun l:List Int=>l.length≤maxLen∧∀a∈l,nY a) PU rfl ?_;exact nD qC rfl
 have h2:=aEZ (fun p:Int×Int×Int×List Int=>(⟨p.1,p.2.1,p.2.2.1,p.2.2.2⟩:Ins)) (fun c=>(c.op,c.a,c.b,c.l)) (fun _=>rfl) h;exact aIf (fun x hx=>⟨BU hx.1,BU hx.2.1,BU hx.2.2.1,hx.2.2.2.1,fun a ha=>BU (hx.2.2.2.2 a ha)⟩) h2
theorem UD:RdA Tryz.prog 42 (List Ins) 1 (fun l=>[.ro 4 (l.map (iv .any)) .any]) (fun l=>l.length≤maxLen∧∀x∈l,x.Wf):=jV rfl (by decide) ZM
theorem zV:∀ {M:List Ins},(∀x∈M,x.Ok∧cY x=true)→(M.flatMap gG).length≤200*M.length
 |[],_=>by simp
 |x::M,h=>by
  have ih:=zV (M:=M) fun y hy=>h y (List.mem_cons_of_mem _ hy)
  have h1:=vQ (h x List.mem_cons_self).1 (h x List.mem_cons_self).2;simp only[List.flatMap_cons,List.length_append,List.length_cons];omega
theorem UE{M:List Ins}(h:∀x∈M,x.Ok∧cY x=true):∀b∈M.flatMap gG,b<256:=by
 intro b hb;obtain⟨x,hx,hb⟩:=List.mem_flatMap.1 hb;exact ZJ (h x hx).2 b hb
theorem aIg{x:Ins}(h:x.Wf):(PO x).Ok:=⟨h.1.1,h.1.2,h.2.1.1,h.2.1.2,by simp[PO];omega⟩
theorem aE0{l:List Ins}(h:∀x∈l,x.Wf)(n:Nat):∀x∈kE l n,x.Ok:=by
 intro x hx;obtain⟨y,hy,rfl⟩:=List.mem_map.1 hx;exact aIg (h y (List.mem_of_mem_take hy))
def Sp (l:List Nat) (n m:Nat) (p:List Nat):Prop:=l.drop n=p++l.drop m∧m=n+p.length∧m≤l.length
theorem Sp.trans {l:List Nat}{n m k:Nat}{p q:List Nat}(h:Sp l n m p)(g:Sp l m k q):Sp l n k (p++q):=
 ⟨by rw[h.1,g.1,List.append_assoc],by rw[g.2.1,h.2.1,List.length_append];omega,g.2.2⟩
theorem Sp.nil {l:List Nat}{n:Nat}(h:n≤l.length):Sp l n n []:=⟨rfl,by simp,h⟩
theorem ZN{l:List Nat}{n k:Nat}(h:n+k≤l.length):Sp l n (n+k) ((l.drop n).take k):=by
 have hk:((l.drop n).take k).length=k:=by simp;omega
 refine⟨?_,by rw[hk],h⟩;rw[←List.drop_drop];exact(List.take_append_drop k (l.drop n)).symm
theorem XM{l:List Nat}{n:Nat}(hn:n≤l.length)(h:(pH l n 0).2.2=0):Sp l n (pH l n 0).2.1 [(pH l n 0).1]∧(pH l n 0).1∈l:=by
 unfold pH at h⊢;rw[if_neg (by simp)]at h⊢;by_cases hc:((n:Int)==(l.length:Int))=true
 ·rw[if_pos hc]at h;cases h
 ·rw[if_neg hc];have hlt:n<l.length:=by simp at hc;omega
  dsimp only;rw[getElem!_pos l n hlt];exact⟨⟨by rw[List.drop_eq_getElem_cons hlt];rfl,rfl,hlt⟩,List.getElem_mem hlt⟩
theorem yH{l:List Nat}{lim:Int}{n:Nat}(hn:n≤l.length)(h:(gO l lim n 0).2.2=0):Sp l n (gO l lim n 0).2.1 (uB (gO l lim n 0).1)∧((gO l lim n 0).1:Int)≤lim∧(gO l lim n 0).1<4294967296:=by
 obtain⟨b1,b2,-⟩:=zQ (l.drop n);unfold gO at h⊢;rw[if_neg (by simp)]at h⊢;split at h
 ·next h1=>simp at h1;exact absurd h (by simpa using h1)
 ·next h1=>
  rw[if_neg h1];split at h
  ·cases h
  ·next h2=>
   rw[if_neg h2];dsimp only;simp only[decide_eq_true_eq,Int.not_lt]at h2;refine⟨?_,h2,b1⟩;simp only[bne_iff_ne,ne_eq,Decidable.not_not]at h1;unfold lN at h1 b2⊢;split at h1
   ·next h3=>exact absurd h1 h3
   ·next h3=>
    rw[if_neg h3]at b2⊢;split at h1
    ·next h4=>
     rw[if_pos h4]at b2⊢;rw[h4.1];simp at b2;exact ZN (by simp;omega)
    ·cases h1
theorem UF(n:Int):-9223372036854775808≤IntKind.i64.wrap n∧IntKind.i64.wrap n≤9223372036854775807:=by
 have h1:(2:Int)^IntKind.i64.bits=18446744073709551616:=by decide
 have h3:(2:Int)^(IntKind.i64.bits-1)=9223372036854775808:=by decide
 have h2:IntKind.i64.signed=true:=rfl;unfold IntKind.wrap;simp only[h1,h2,h3,Bool.true_and,decide_eq_true_eq];split<;>omega
theorem aCF{l:List Nat}{bits:Nat}(hb:bits=32∨bits=64){n:Nat}(hn:n≤l.length)(h:(DA l bits n).2.2=0):Sp l n (DA l bits n).2.1 (sB (DA l bits n).1)∧(-9223372036854775808≤(DA l bits n).1∧(DA l bits n).1≤9223372036854775807)∧(bits=32→ -2147483648≤(DA l bits n).1∧(DA l bits n).1≤2147483647):=by
 have hv:∀t:List Nat,-9223372036854775808≤lZ t∧lZ t≤9223372036854775807:=by
  intro t
  match t with
  |[]=>simp[lZ]
  |[b]=>unfold lZ;split<;>omega
  |b::c::t=>
   rw[lZ];exact UF _
 have b2:=ZH bits (l.drop n);unfold DA at h⊢;dsimp only at h⊢;unfold xE at h b2⊢;split at h
 ·next h3=>exact absurd h h3
 ·next h3=>
  rw[if_neg h3]at b2⊢;split at h
  ·next h4=>
   rw[if_pos h4]at b2⊢;dsimp only at b2⊢;refine⟨?_,hv _,h4.2⟩;rw[h4.1];simp at b2;exact ZN (by omega)
  ·cases h
theorem aCG{l:List Nat}{n:Nat}(hn:n≤l.length)(h:(PI l n 0).2=0):Sp l n (PI l n 0).1 [0]:=by
 unfold PI at h⊢;split at h
 ·cases h
 ·next h1=>
  rw[if_neg h1];have:=(XM hn h).1;rw[show(pH l n 0).1=0 by simpa using h1]at this;exact this
theorem aIh{l:List Nat}{n:Nat}{e:Int}(h:e≠0):pH l n e=(0,n,e):=by unfold pH;rw[if_pos (by simpa using h)]
theorem PV{l:List Nat}{lim:Int}{n:Nat}{e:Int}(h:e≠0):gO l lim n e=(0,n,e):=by unfold gO;rw[if_pos (by simpa using h)]
theorem aIi{l:List Nat}{n:Nat}(hn:n≤l.length)(h:(PK l n 0).2.2=0):Sp l n (PK l n 0).2.1 [vN (PK l n 0).1]∧0≤(PK l n 0).1∧(PK l n 0).1≤2:=by
 unfold PK at h⊢;by_cases h1:(if decide (vP (pH l n 0).1<0)=true then((pH l n 0).2.2==0)else false)=true
 ·rw[if_pos h1]at h;cases h
 ·rw[if_neg h1]at h⊢;dsimp only at h⊢;obtain⟨s,-⟩:=XM hn h;have hk:¬vP (pH l n 0).1<0:=by
   intro hk;rw[h,if_pos (by simpa using hk)]at h1;exact h1 rfl
  rw[if_neg hk];generalize hc:(pH l n 0).1=c at hk s⊢;have:c=64∨c=127∨c=126:=by
   by_cases c1:c=64
   ·exact .inl c1
   by_cases c2:c=127
   ·exact .inr (.inl c2)
   by_cases c3:c=126
   ·exact .inr (.inr c3)
   exfalso;apply hk;unfold vP XJ;rw[show([64,127,126]:List Int).findIdx? (· ==(c:Int))=none by
    simp only[List.findIdx?_cons,List.findIdx?_nil];rw[if_neg (by simp;omega),if_neg (by simp;omega),if_neg (by simp;omega)];rfl]
   decide
  rcases this with rfl|rfl|rfl<;>exact⟨s,by decide,by decide⟩
theorem XN{l:List Nat}{n:Nat}{e:Int}(h:e≠0):∀m,(rP l m n e).2.2≠0
 |0=>h
 |m+1=>by
  rw[rP];dsimp only;rw[PV (XN h m)];exact XN h m
theorem aCH{l:List Nat}{n:Nat}(hn:n≤l.length):∀m,(rP l m n 0).2.2=0→Sp l n (rP l m n 0).2.1 ((rP l m n 0).1.flatMap fun z=>uB z.toNat)∧∀z∈(rP l m n 0).1,0≤z∧z≤1000
 |0,_=>⟨Sp.nil hn,by simp[rP]⟩
 |m+1,h=>by
  rw[rP]at h⊢;dsimp only at h⊢;have h0:(rP l m n 0).2.2=0:=by
   by_cases hc:(rP l m n 0).2.2=0
   ·exact hc
   ·rw[PV hc]at h;exact h
  obtain⟨s,hz⟩:=aCH hn m h0;rw[h0]at h⊢;obtain⟨s2,h2,-⟩:=yH s.2.2 h;refine⟨?_,fun z hz2=> ?_⟩
  ·rw[List.flatMap_append];simpa using s.trans s2
  ·rcases List.mem_append.1 hz2 with hz2|hz2
   ·exact hz z hz2
   ·rw[List.mem_singleton.1 hz2];omega
theorem tJ{x:Ins}{n:Nat}{e:Int}(h:(nC x n e).2.2=0):e=0∧nC x n e=(x,n,0):=by
 unfold nC at h⊢;by_cases he:e=0
 ·subst he;exact⟨rfl,rfl⟩
 ·rw[if_pos (by simpa using he)]at h;exact absurd h he
theorem aIj{l:List Nat}{n:Nat}{e:Int}(h:e≠0):(PI l n e).2≠0:=by unfold PI;rw[aIh h,if_neg (by simp)];exact h
theorem aA3(op:Int):aW op=0∨aW op=1∨aW op=2∨aW op=3∨aW op=4∨aW op=5∨aW op=6∨aW op=7∨aW op=8∨aW op=9:=by
 unfold aW iU;repeat' split
 all_goals simp
theorem XO{l:List Nat}{op:Nat}(hop:op<256){n:Nat}(hn:n≤l.length)(hf:(aW (op:Int)==0)=false)(h:(tI l op n 0).2.2=0):
  (tI l op n 0).1.op=op∧(tI l op n 0).1.Ok∧cY (tI l op n 0).1=true∧Sp l n (tI l op n 0).2.1 (fR (tI l op n 0).1):=by
 unfold tI at h⊢;by_cases g2:(aW (op:Int)==2)=true
 ·simp only[g2,if_true]at h⊢;obtain⟨he,hx⟩:=tJ h;rw[hx];obtain⟨s,k1,k2⟩:=aIi hn he;have e2:aW (op:Int)=2:=by simpa using g2
  refine⟨rfl,⟨by dsimp only;omega,by dsimp only;omega,by dsimp only;omega,by dsimp only;omega,by simp⟩,by simp[cY,jB,e2,kC];omega, ?_⟩;simp only[fR,e2];exact s
 simp only[g2,Bool.false_eq_true,if_false]at h⊢;by_cases g3:(aW (op:Int)==3)=true
 ·simp only[g3,if_true]at h⊢;obtain⟨he,hx⟩:=tJ h;rw[hx];obtain⟨s,k1,k2⟩:=yH hn he;have e2:aW (op:Int)=3:=by simpa using g3
  refine⟨rfl,⟨by dsimp only;omega,by dsimp only;omega,by dsimp only;omega,by dsimp only;omega,by simp⟩,by simp[cY,jB,e2,kC];omega, ?_⟩;simp only[fR,e2];exact s
 simp only[g3,Bool.false_eq_true,if_false]at h⊢;by_cases g5:(aW (op:Int)==5)=true
 ·simp only[g5,if_true]at h⊢;obtain⟨he,hx⟩:=tJ h;rw[hx];have h0:(gO l 1000 n 0).2.2=0:=by
   by_cases hc:(gO l 1000 n 0).2.2=0
   ·exact hc
   ·exact absurd he (aIj hc)
  obtain⟨s,k1,k2⟩:=yH hn h0;rw[h0]at he⊢;have s2:=aCG s.2.2 he;have e2:aW (op:Int)=5:=by simpa using g5
  refine⟨rfl,⟨by dsimp only;omega,by dsimp only;omega,by dsimp only;omega,by dsimp only;omega,by simp⟩,by simp[cY,jB,e2,kC];omega, ?_⟩;simp only[fR,e2];exact s.trans s2
 simp only[g5,Bool.false_eq_true,if_false]at h⊢;by_cases g4:(aW (op:Int)==4)=true
 ·simp only[g4,if_true]at h⊢;obtain⟨he,hx⟩:=tJ h;rw[hx];have h1:(rP l (gO l 50 n 0).1 (gO l 50 n 0).2.1 (gO l 50 n 0).2.2).2.2=0:=by
   by_cases hc:(rP l (gO l 50 n 0).1 (gO l 50 n 0).2.1 (gO l 50 n 0).2.2).2.2=0
   ·exact hc
   ·rw[PV hc]at he;exact he
  have h0:(gO l 50 n 0).2.2=0:=by
   by_cases hc:(gO l 50 n 0).2.2=0
   ·exact hc
   ·exact absurd h1 (XN hc _)
  obtain⟨s,k1,k2⟩:=yH hn h0;rw[h0]at h1 he⊢;obtain⟨s2,hz⟩:=aCH s.2.2 _ h1;have hlen:=PM (l:=l) (m:=(gO l 50 n 0).1) (n:=(gO l 50 n 0).2.1) (e:=0);rw[h1]at he⊢;obtain⟨s3,k3,k4⟩:=yH s2.2.2 he;have e2:aW (op:Int)=4:=by simpa using g4
  generalize rP l (gO l 50 n 0).1 (gO l 50 n 0).2.1 0=w at*;obtain⟨L,m,e⟩:=w;dsimp only at*;have hany:(L.any fun z=> !pF z 0 1000)=false:=by
   rw[List.any_eq_false];intro z hzz;have:=hz z hzz;simp[kC];omega
  refine⟨rfl,⟨by dsimp only;omega,by dsimp only;omega,by dsimp only;omega,by dsimp only;omega,by simp;omega⟩, ?_, ?_⟩
  ·unfold cY jB;dsimp only;rw[e2,hany];simp[kC];omega
  ·unfold fR;dsimp only;rw[e2,hlen];exact(s.trans s2).trans s3
 simp only[g4,Bool.false_eq_true,if_false]at h⊢;by_cases g6:(aW (op:Int)==6)=true
 ·simp only[g6,if_true]at h⊢;obtain⟨he,hx⟩:=tJ h;rw[hx];have h0:(gO l 3 n 0).2.2=0:=by
   by_cases hc:(gO l 3 n 0).2.2=0
   ·exact hc
   ·rw[PV hc]at he;exact absurd he hc
  obtain⟨s,k1,k2⟩:=yH hn h0;rw[h0]at he⊢;obtain⟨s2,k3,k4⟩:=yH s.2.2 he;have e2:aW (op:Int)=6:=by simpa using g6
  refine⟨rfl,⟨by dsimp only;omega,by dsimp only;omega,by dsimp only;omega,by dsimp only;omega,by simp⟩,by simp[cY,jB,e2,kC];omega, ?_⟩;simp only[fR,e2];exact s.trans s2
 simp only[g6,Bool.false_eq_true,if_false]at h⊢;by_cases g7:(aW (op:Int)==7)=true
 ·simp only[g7,if_true]at h⊢;obtain⟨he,hx⟩:=tJ h;rw[hx];have s:=aCG hn he;have e2:aW (op:Int)=7:=by simpa using g7
  refine⟨rfl,⟨by dsimp only;omega,by dsimp only;omega,by simp,by simp,by simp⟩,by simp[cY,jB,e2], ?_⟩;simp only[fR,e2];exact s
 simp only[g7,Bool.false_eq_true,if_false]at h⊢;by_cases g8:(aW (op:Int)==8)=true
 ·simp only[g8,if_true]at h⊢;obtain⟨he,hx⟩:=tJ h;rw[hx];obtain⟨s,k1,k2⟩:=aCF (.inl rfl) hn he;have k2:=k2 rfl;have e2:aW (op:Int)=8:=by simpa using g8
  refine⟨rfl,⟨by dsimp only;omega,by dsimp only;omega,by dsimp only;omega,by dsimp only;omega,by simp⟩,by simp[cY,jB,e2,kC];omega, ?_⟩;simp only[fR,e2];exact s
 simp only[g8,Bool.false_eq_true,if_false]at h⊢;by_cases g9:(aW (op:Int)==9)=true
 ·simp only[g9,if_true]at h⊢;obtain⟨he,hx⟩:=tJ h;rw[hx];obtain⟨s,k1,k2⟩:=aCF (.inr rfl) hn he;have e2:aW (op:Int)=9:=by simpa using g9
  refine⟨rfl,⟨by dsimp only;omega,by dsimp only;omega,by dsimp only;omega,by dsimp only;omega,by simp⟩,by simp[cY,jB,e2], ?_⟩;simp only[fR,e2];exact s
 simp only[g9,Bool.false_eq_true,if_false]at h⊢;have e2:aW (op:Int)=1:=by
  simp at hf g2 g3 g4 g5 g6 g7 g8 g9;have:=aA3 (op:Int);omega
 obtain⟨he,hx⟩:=tJ h;rw[hx];refine⟨rfl,⟨by dsimp only;omega,by dsimp only;omega,by simp,by simp,by simp⟩,by simp[cY,jB,e2], ?_⟩;simp only[fR,e2];exact Sp.nil hn
theorem yI{l:List Nat}(hlt:∀x∈l,x<256)(h:(fF l).2.2=0):(fF l).1.Ok∧cY (fF l).1=true∧Sp l 0 (fF l).2.1 (gG (fF l).1):=by
 unfold fF at h⊢;by_cases g1:(aW ((pH l 0 0).1:Nat)==0)=true
 ·rw[if_pos g1]at h;cases h
 rw[if_neg g1]at h⊢;by_cases g2:((pH l 0 0).2.2 !=0)=true
 ·rw[if_pos g2]at h;rw[show(pH l 0 0).2.2=0 from h]at g2;simp at g2
 rw[if_neg g2]at h⊢;have he:(pH l 0 0).2.2=0:=by simpa using g2
 obtain⟨s,hm⟩:=XM (Nat.zero_le _) he;rw[he]at h⊢;obtain⟨k1,k2,k3,k4⟩:=XO (hlt _ hm) s.2.2 (by simpa using g1) h;refine⟨k2,k3, ?_⟩;have:=s.trans k4;unfold gG;rw[k1];exact this
theorem aKN{P:Prop}(h:P:=by(first|rfl|(simp;done)|(rw[List.drop_zero];exact List.take_of_length_le (by first|(simp;done)|(simp;omega)|omega))|(simp only[List.map_take,List.map_drop,List.drop_zero];done))):P:=h
theorem aCI{α:Type}{l:List α}{n:Nat}(h:l.length≤n):(l.drop 0).take n=l:=by rw[List.drop_zero];exact List.take_of_length_le h
theorem aKO{P:Prop}(h:P:=by(first|exact aCI (by first|(simp;done)|(simp;omega)|omega)|rfl)):P:=h
section
variable {P : Program} {n : Nat} {ops : Array Oper} {rest : List Oper} {fr : Fr} {σ : dS} {K : ASt → Prop} {op : Op} {ty t t' : TypeId} {pos : String} {af : Array Edge} {x y : Operand} {d : Nat}
theorem anA{e:TypeId} [Ty P t (.slice e)] {sz by_:Nat}{zv:Value} [Tz P e sz by_ zv] {z:Nat}{k:Rk}{ys:List (List AV)}(es':List (List AV))(len':Nat)
  (hK:∀r,Fresh r σ→RS P n ops rest ⟨(d,.own r 0 len')::fr,(r,.arr e sz es')::σ⟩ K)
  (hz:zv.cells.size=sz:=by rfl) (h0:Nat.ble 1 sz=true:=by rfl) (hb:aev ⟨fr,σ⟩ x=some (.ro z [] k):=by rfl) (hk:k≠ .any:=by decide) (hy:Src ⟨fr,σ⟩ y sz ys:=by exact aCB) (he:ys=es':=by exact aKN) (hl:len'=ys.length:=by exact KU) (hby:len'*by_≤140737488355328:=by(simp;try omega)) (hd:Nat.ble (d+1) n=true:=by rfl):
  RS P n ops (⟨some d,.call { callee:=.builtin .append,args:=#[x,y],argTypes:=#[t,t] },ty,pos,af,none⟩::rest) ⟨fr,σ⟩ K:=by
 subst he hl;exact gK (vB (Nat.le_of_ble_eq_true h0) hz hb hk hy hby (cW hd) hK)
variable {listed : Array Bool} {todo : List (Nat × Bool)} {held : List (Nat × List Nat)} {i : Nat}
theorem aIk{e:TypeId}{sz by_:Nat}{zv:Value}{z:Nat}{k:Rk}{ys:List (List AV)}(hi:ops[i]? =some ⟨some d,.call { callee:=.builtin .append,args:=#[x,y],argTypes:=#[t,t] },ty,pos,af,none⟩)(es':List (List AV))(len':Nat)
  (hK:∀r,Fresh r σ→RD P n ops (listed.setIfInBounds i true) todo held ⟨(d,.own r 0 len')::fr,(r,.arr e sz es')::σ⟩ K)
  (i1:Ty P t (.slice e):=by infer_instance) (i2:Tz P e sz by_ zv:=by infer_instance) (hz:zv.cells.size=sz:=by rfl) (h0:Nat.ble 1 sz=true:=by rfl) (hb:aev ⟨fr,σ⟩ x=some (.ro z [] k):=by rfl) (hk:k≠ .any:=by decide) (hy:Src ⟨fr,σ⟩ y sz ys:=by exact aCB) (he:ys=es':=by exact aKN) (hl:len'=ys.length:=by exact KU) (hby:len'*by_≤140737488355328:=by(simp;try omega)) (hd:Nat.ble (d+1) n=true:=by rfl):
  RD P n ops listed ((i,false)::todo) held ⟨fr,σ⟩ K:=by
 subst he hl;exact vE hi (vB (Nat.le_of_ble_eq_true h0) hz hb hk hy hby (cW hd) hK)
end
theorem gC{fr:Fr}{σ σ1 σ':dS}{r q:Nat}{bt:TypeId}{cs cs':List AV}{e:Ent}(hs:SSet σ r (.box bt cs) r (.box bt cs') σ1)(hd:SDel σ1 q e σ')(hb:BorL σ [q] cs cs'):SGo ⟨fr,σ⟩ ⟨fr,σ'⟩:=by
 refine pU [q] (fun i x' hi=>⟨x',hi,.refl _⟩) (fun p hp=> ?_);obtain⟨h1,h2⟩:=hd.sub p hp;refine⟨by simpa using h2, ?_⟩;rcases List.mem_cons.1 (hs.sub p h1)with rfl|h
 ·exact⟨_,bX hs.get,.box (aB5 hb)⟩
 ·exact⟨p.2,(eT h).1,.refl _⟩
theorem nZ{fr:Fr}{σ σ':dS}{o:Nat}{e:TypeId}{sz:Nat}{es:List (List AV)}(k:Nat)(hs:SSet σ o (.arr e sz es) o (.arr e sz (es.take k)) σ'):SGo ⟨fr,σ⟩ ⟨fr,σ'⟩:=by
 intro M F N n a w hr;have hmem:∀p∈σ',(∃x,(p.1,x)∈σ)∧ER M F w p.1 p.2:=by
  intro p hp;rcases List.mem_cons.1 (hs.sub p hp)with rfl|h
  ·refine⟨⟨_,bX hs.get⟩, ?_⟩;obtain⟨h0,h1,h2⟩:=hr.st.ent _ (bX hs.get);refine⟨h0,fun x hx=>h1 x (List.mem_of_mem_take hx), ?_⟩;rcases h2 with⟨h2,h3⟩|⟨g,c,vs,h2,h3,h4,h5,h6,h7⟩
   ·exact .inl ⟨h2,by simp[h3]⟩
   ·refine .inr ⟨g,c,vs,h2,h3,h4,by simp;omega,h6,fun i x j b u hi=> ?_⟩;rw[List.getElem?_take]at hi;split at hi
    ·exact h7 i x j b u hi
    ·cases hi
  ·exact⟨⟨p.2,(eT h).1⟩,hr.st.ent p (eT h).1⟩
 exact⟨M,F,N,⟨hr.size,hr.defers,hr.fr,hr.st.retold hmem⟩,Ext.retold fun p hp=>(hmem p hp).1⟩
theorem jC(a:List Nat):(dC a).size=a.length:=by simp[dC,ByteArray.size]
section
variable {P : Program} {ty t t' : TypeId} {s : ASt} {c : Bool} {x y : Operand}
theorem PW{e:TypeId} [Ty P t (.slice e)] [Ty P e (.int .u8)] [Ty P t' .string] {bs bs':List Nat}{r off len:Nat}{et:TypeId}(h:Ev s c x (.own r off len))(hg:gN s.σ r=some (.arr et 1 (bs.map aG)):=by exact bA)(hle:off+len≤bs.length:=by exact KU)(hbs:(bs.drop off).take len=bs':=by exact aKO):Lop P (.convert t t' x) ty s c (.str (dC bs')) [r]:=KI h hg hle hbs
end
end Go.Proofs.YtjpdadobblffmaaGreat
namespace Go.Proofs.YtjpdadobblffmaaGreat
open Go.RowKit Go.ChangeShapes Go.WideShapes Go.ChangeAt Go.Deep
attribute [local irreducible] SW RS RD fG eH
def KV (n:Nat):List AV:=[.int .i64 n]
instance : NoE KV := ⟨fun a x hx => by simp [KV] at hx; subst hx; exact NoF.int⟩
structure Bk where
 at_:Nat
 els:Int
 en:Int
def vR (b:Bk):List AV:=[.int .i64 b.at_,.int .i64 b.els,.int .i64 b.en]
instance : NoE vR := ⟨fun a x hx => by simp [vR] at hx; rcases hx with rfl | rfl | rfl <;> exact NoF.int⟩
def qD (op:Int):Bool:=op==2||op==3||op==4
structure MS where
 all:List Bk
 opn:List Nat
def DS (ops:List Int) (s:MS) (i:Nat) (op:Int):Option MS:=
 match s.opn.getLast? with
 |none=>none
 |some k=>match s.all[k]? with
  |none=>none
  |some b=>if op=11 then some ⟨s.all.set k ⟨b.at_,b.els,i⟩,s.opn.dropLast⟩
   else if ops[b.at_]? ≠some (4:Int)∨0≤b.els then none else some ⟨s.all.set k ⟨b.at_,i,b.en⟩,s.opn⟩
def oM (ops:List Int) (s:MS) (i:Nat) (op:Int):Option MS:=
 if qD op=true then(if s.opn.length=40 then none else some ⟨s.all++ [⟨i,-1,-1⟩],s.opn++ [s.all.length]⟩)
 else if op≠5∧op≠11 then some s else DS ops s i op
def pI (ops:List Int):Nat→Option MS
 |0=>some ⟨[],[]⟩
 |j+1=>match pI ops j,ops[j]? with
  |some s,some op=>oM ops s j op
  | _,_=>none
theorem wO{ops:List Int}{j:Nat}{s:MS}{op:Int}(h:pI ops j=some s)(ho:ops[j]? =some op):pI ops (j+1)=oM ops s j op:=by
 rw[pI,h,ho]
theorem BV{ops:List Int}{j:Nat}(h:pI ops j=none):∀d,pI ops (j+d)=none
 |0=>h
 |d+1=>by rw[←Nat.add_assoc,pI,BV h d]
structure MOk (j:Nat) (s:MS):Prop where
 opn:∀k∈s.opn,k<s.all.length
 at_:∀b∈s.all,b.at_<j
 len:s.opn.length≤40
 all:s.all.length≤j
theorem aCJ{ops:List Int}{j:Nat}{s s':MS}{op:Int}(h:MOk j s)(hs:oM ops s j op=some s'):MOk (j+1) s':=by
 unfold oM at hs;split at hs
 ·split at hs
  ·cases hs
  ·next h40=>
   obtain rfl:=Option.some.inj hs;refine⟨fun k hk=> ?_,fun b hb=> ?_,by have:=h.len;simp;omega,by have:=h.all;simp;omega⟩
   ·rcases List.mem_append.1 hk with hk|hk
    ·have:=h.opn k hk;simp;omega
    ·rw[List.mem_singleton.1 hk];simp
   ·rcases List.mem_append.1 hb with hb|hb
    ·have:=h.at_ b hb;omega
    ·rw[List.mem_singleton.1 hb];exact Nat.lt_succ_self _
 split at hs
 ·obtain rfl:=Option.some.inj hs;exact⟨h.opn,fun b hb=>Nat.lt_succ_of_lt (h.at_ b hb),h.len,Nat.le_succ_of_le h.all⟩
 unfold DS at hs;split at hs
 ·cases hs
 split at hs
 ·cases hs
 ·next k hk b hb=>
  have hbm:=h.at_ b (List.mem_of_getElem? hb);split at hs
  ·obtain rfl:=Option.some.inj hs;refine⟨fun x hx=> ?_,fun x hx=> ?_,by have:=h.len;simp;omega,by have:=h.all;simp;omega⟩
   ·have:=h.opn x ((List.dropLast_sublist _).subset hx);simpa using this
   ·rcases List.mem_or_eq_of_mem_set hx with hx|rfl
    ·exact Nat.lt_succ_of_lt (h.at_ x hx)
    ·exact Nat.lt_succ_of_lt hbm
  split at hs
  ·cases hs
  ·obtain rfl:=Option.some.inj hs;refine⟨fun x hx=> ?_,fun x hx=> ?_,h.len,by have:=h.all;simp;omega⟩
   ·have:=h.opn x hx;simpa using this
   ·rcases List.mem_or_eq_of_mem_set hx with hx|rfl
    ·exact Nat.lt_succ_of_lt (h.at_ x hx)
    ·exact Nat.lt_succ_of_lt hbm
theorem zW{ops:List Int}:∀ {j:Nat} {s:MS},pI ops j=some s→MOk j s
 |0,s,h=>by
  obtain rfl:=Option.some.inj h;exact⟨by simp,by simp,by simp,by simp⟩
 |j+1,s,h=>by
  rw[pI]at h;split at h
  ·next s0 op h1 h2=>exact aCJ (zW h1) h
  ·cases h
def gH (ops:List Int):Option (List Bk):=if 300<ops.length then none else match pI ops ops.length with|some ⟨all,[]⟩=>some all| _=>none
def blN (ops:List Int):List Bk:=(gH ops).getD []
def xF (ops:List Int):Bool:=(gH ops).isSome
theorem mB{ops:List Int}{j:Nat}(h:pI ops j=none)(hj:j≤ops.length):gH ops=none:=by
 unfold gH;split
 ·rfl
 ·have:=BV h (ops.length-j);rw[Nat.add_sub_cancel' hj]at this;rw[this]
def cU (l:List Ins):List Int:=l.map Ins.op
theorem vS{l:List Ins}{j:Nat}{x:Ins}(h:l[j]? =some x):(cU l)[j]? =some x.op:=by simp[cU,h]
theorem oA{ops:List Int}{q:Nat}{t:TypeId}(h:gH ops=none):∃q2,AV.tup [.own q 0 0,.bool false]=.tup [.own q2 0 (blN ops).length,.bool (xF ops)]∧([(q,.arr t 3 [])]:dS)=[(q2,.arr t 3 ((blN ops).map vR))]:=
 ⟨q,by simp[blN,xF,h],by simp[blN,h]⟩
theorem yJ(op:Int):SCall Tryz.prog 186 [.int .i64 op] [] (fun x σ=>x=.bool (qD op)∧σ=[]):=by
 refine cF 13 [0,2] Tryz.func186 ?_;refine iD ?_;refine lo (dI (E rfl) (E rfl)) rfl ?_;refine jL ?_;refine xY ?_;refine rM ?_;refine jL ?_;refine xY ?_;refine rM ?_;refine dE ?_;exact aE aF ⟨by show AV.bool _=_;congr 1;simp only[aG7,qD],rfl⟩ aA
theorem BW{ops:List Int}{s:MS}{j:Nat}{op:Int}(h:qD op=true)(hl:s.opn.length≠40):oM ops s j op=some ⟨s.all++ [⟨j,-1,-1⟩],s.opn++ [s.all.length]⟩:=by
 unfold oM;rw[if_pos h,if_neg hl]
theorem BX{ops:List Int}{s:MS}{j:Nat}{op:Int}(h:qD op=true)(hl:s.opn.length=40):oM ops s j op=none:=by
 unfold oM;rw[if_pos h,if_pos hl]
theorem BY{ops:List Int}{s:MS}{j:Nat}{op:Int}(h:qD op=false)(h1:op≠5)(h2:op≠11):oM ops s j op=some s:=by
 unfold oM;rw[if_neg (by simp[h]),if_pos ⟨h1,h2⟩]
theorem zX{ops:List Int}{s:MS}{j:Nat}{op:Int}(h:qD op=false)(h1:op=5∨op=11):oM ops s j op=DS ops s j op:=by
 unfold oM;rw[if_neg (by simp[h]),if_neg (by omega)]
theorem GU{ops:List Int}{all:List Bk}{j:Nat}{op:Int}:DS ops ⟨all,[]⟩ j op=none:=rfl
theorem PX{ops:List Int}{all:List Bk}{pre:List Nat}{k j:Nat}{b:Bk}(hb:all[k]? =some b):DS ops ⟨all,pre++ [k]⟩ j 11=some ⟨all.set k ⟨b.at_,b.els,j⟩,pre⟩:=by
 unfold DS;simp[hb]
theorem GV{ops:List Int}{all:List Bk}{pre:List Nat}{k j:Nat}{b:Bk}(hb:all[k]? =some b)(h4:ops[b.at_]? =some 4)(he:¬0≤b.els):DS ops ⟨all,pre++ [k]⟩ j 5=some ⟨all.set k ⟨b.at_,j,b.en⟩,pre++ [k]⟩:=by
 unfold DS;simp[hb,h4,he]
theorem PY{ops:List Int}{all:List Bk}{pre:List Nat}{k j:Nat}{b:Bk}(hb:all[k]? =some b)(h:ops[b.at_]? ≠some 4∨0≤b.els):DS ops ⟨all,pre++ [k]⟩ j 5=none:=by
 unfold DS;simp[hb];intro h4;rcases h with h|h
 ·exact absurd h4 h
 ·exact h
theorem PZ{pre:List Nat}{k:Nat}:(pre++ [k])[(((pre++ [k]).length:Nat)-1:Int).toNat]? =some k:=by
 rw[show(((pre++ [k]).length:Nat)-1:Int).toNat=pre.length by simp];simp
theorem GW{α:Type}{l:List α}{k:Nat}{x:α}(h:l[k]? =some x):l[(k:Int).toNat]? =some x:=by rw[Int.toNat_natCast];exact h
theorem qE(l:List Ins)(hl:l.length≤100000):SCall Tryz.prog 75 [.ro 4 (l.map (iv .any)) .any] []
  (fun y σ=>∃q,y=.tup [.own q 0 (blN (cU l)).length,.bool (xF (cU l))]∧σ=[(q,.arr 162 3 ((blN (cU l)).map vR))]):=by
 have hol:(cU l).length=l.length:=by simp[cU]
 refine cF 113 [0,2,3,4,5,6,7,8,11,12,13,14,15,30,38,52,61,64,81,111] Tryz.func75 ?_;refine dX ?_;refine mZ ?_;refine uC ?_;refine aB rfl (fun g1=> ?_) (fun g1=> ?_)
 ·refine vI ?_;refine bW 2 162 3 (by decide) rfl (by decide) (bL fun q2 hq2=> ?_);repeat rcases hq2 with⟨_,hq2⟩
  have hN:gH (cU l)=none:=by unfold gH;rw[if_pos (by simp at g1;omega)]
  refine aJ ?_;apply aE;exact aF
  ·exact oA hN
  ·exact aA
 refine bM ?_;refine jQ ?_;refine hZ ?_;refine oH ?_;refine bW 4 162 3 (by decide) rfl (by decide) (bL fun a0 ha0=> ?_);repeat rcases ha0 with⟨_,ha0⟩
 refine bW 5 3 1 (by decide) rfl (by decide) (bL fun o0 ho0=> ?_);repeat rcases ho0 with⟨_,ho0⟩
 refine lp (β:=Nat×Nat×Nat×MS) (fun b=>⟨[(0,.ro 4 (l.map (iv .any)) .any),(4,.own b.1 0 b.2.2.2.all.length),(5,.own b.2.1 0 b.2.2.2.opn.length),(12,.ro 4 (l.map (iv .any)) .any),(13,.int .i64 l.length),(14,.int .i64 b.2.2.1)],[(b.1,.arr 162 3 (b.2.2.2.all.map vR)),(b.2.1,.arr 3 1 (b.2.2.2.opn.map KV))]⟩) (fun b=>Nq b.1 b.2.1∧b.2.2.1≤l.length∧pI (cU l) b.2.2.1=some b.2.2.2) (fun b=>l.length-b.2.2.1) (a0,o0,0,⟨[],[]⟩) aL ⟨by show Nq a0 o0;(exact bV),Nat.zero_le _,rfl⟩ ?_;rintro⟨a,o,j,all,opn⟩ ⟨hao,hj,hrun⟩;dsimp only at hao hj hrun⊢;obtain⟨hk1,hk2,hk3,hk4⟩:=zW hrun;dsimp only at hk1 hk2 hk3 hk4;refine jR ?_;refine aB rfl (fun g6=> ?_) (fun g6=> ?_)
 ·have hlt:j<l.length:=by simp at g6;omega
  obtain⟨x,hx⟩:∃x,l[j]? =some x:=⟨_,List.getElem?_eq_getElem hlt⟩
  have hnx:=wO hrun (vS hx);refine dM ?_;refine qX ?_;refine jU fun r7 h7=> ?_;intros
  refine lo (bG (E rfl)) rfl ?_;refine pD ?_;refine kU ?_;refine iW ?_;refine oL Tryz.call186 (yJ _) rfl aR bB ?_;refine jL ?_;refine xY ?_;refine kL ?_;refine aB rfl (fun g10=> ?_) (fun g10=> ?_)
  ·refine vI ?_;refine bW 2 162 3 (by decide) rfl (by decide) (bL fun q2 hq2=> ?_);repeat rcases hq2 with⟨_,hq2⟩
   have hN:gH (cU l)=none:=by replace g10:=bT g10;exact mB (hnx.trans (BX (s:=⟨all,opn⟩) g10.1 (by show opn.length=40;omega))) (by omega)
   refine aJ ?_;apply aE;exact aF
   ·exact oA hN
   ·exact aA
  refine fN ?_;refine oL Tryz.call186 (yJ _) rfl aR bB ?_;refine dE ?_;refine aB rfl (fun g12=> ?_) (fun g12=> ?_)
  ·have hnn:=hnx.trans (BW g12 (by intro he;simp[g12,he]at g10));refine eX ?_;refine kU ?_;refine eN fun r45 h45=> ?_;intros
   refine iY ((opn++ [all.length]).map KV) (opn++ [all.length]).length ?_;refine bH fun r46 h46=> ?_;intros
   refine lK ?_;refine jK ?_;refine eN fun r50 h50=> ?_;intros
   refine iY ((all++ [(Bk.mk j (-1) (-1))]).map vR) (all++ [(Bk.mk j (-1) (-1))]).length ?_;refine bH fun r51 h51=> ?_;intros
   refine dE ?_;obtain⟨A,O,hAO,rfl,rfl⟩:∃A O,Nq A O∧A=r51∧O=r46:=⟨_,_,by(exact bV),rfl,rfl⟩
   refine TN ?_;refine⟨(A,O,j+1,_),⟨hAO,hlt,hnn⟩,by show l.length-(j+1)<l.length-j;omega, ?_⟩;dsimp only;exact aL
  refine fN ?_;refine lo (gA (E rfl) (E rfl)) rfl ?_;refine oG ?_;refine aEs ?_;refine kL ?_;refine aB rfl (fun g15=> ?_) (fun g15=> ?_)
  ·have hnn:=hnx.trans (BY g12 (by replace g15:=bT g15;exact g15.1) (by replace g15:=bT g15;exact g15.2));obtain⟨A,O,hAO,rfl,rfl⟩:∃A O,Nq A O∧A=a∧O=o:=⟨_,_,by(exact bV),rfl,rfl⟩
   refine mP ?_;refine⟨(A,O,j+1,_),⟨hAO,hlt,hnn⟩,by show l.length-(j+1)<l.length-j;omega, ?_⟩;dsimp only;exact aL
  have h5:x.op=5∨x.op=11:=by replace g15:=bT g15;omega
  have hnx:=hnx.trans (zX g12 h5);refine dM ?_;refine TM ?_;refine aB rfl (fun g16=> ?_) (fun g16=> ?_)
  ·refine vI ?_;refine bW 2 162 3 (by decide) rfl (by decide) (bL fun q2 hq2=> ?_);repeat rcases hq2 with⟨_,hq2⟩
   have hN:gH (cU l)=none:=by obtain rfl:opn=[]:=(by simpa using g16);exact mB (hnx.trans GU) (by omega)
   refine aJ ?_;apply aE;exact aF
   ·exact oA hN
   ·exact aA
  have hne:opn≠ []:=by intro h;simp[h]at g16
  obtain⟨pre,k,rfl⟩:∃pre k,opn=pre++ [k]:=⟨opn.dropLast,opn.getLast hne,(List.dropLast_concat_getLast hne).symm⟩
  have hkl:=hk1 k (by simp);obtain⟨b,hb⟩:∃b,all[k]? =some b:=⟨_,List.getElem?_eq_getElem hkl⟩
  have hpl:(pre++ [k]).length=pre.length+1:=by simp
  have hlast:=PZ (pre:=pre) (k:=k);have hbt:=GW hb;refine fN ?_;refine TM ?_;refine aB rfl (fun g18=> ?_) (fun g18=> ?_)
  ·have h11:x.op=11:=by simpa using g18
   have hnn:=hnx;rw[h11,PX hb]at hnn;obtain⟨A,O,hAO,rfl,rfl⟩:∃A O,Nq A O∧A=a∧O=o:=⟨_,_,by(exact bV),rfl,rfl⟩
   refine tD ?_;refine tA ?_;refine mI ?_;refine pZ ?_;refine OY ?_;refine iF ?_;refine eX ?_;refine tA ?_;refine aEo ?_;refine dE ?_;rw[show((((pre++ [k]).length:Nat):Int)-1).toNat-0=pre.length by simp];refine dQ (nZ (o:=O) pre.length cA) ?_;rw[show(all.map vR).set (k:Int).toNat [.int .i64 (b.at_:Int),.int .i64 b.els,.int .i64 (j:Int)]=(all.set k ⟨b.at_,b.els,j⟩).map vR by rw[Int.toNat_natCast,List.map_set];rfl,show List.take pre.length ((pre++ [k]).map KV)=pre.map KV by simp];refine TN ?_;refine⟨(A,O,j+1,_),⟨hAO,hlt,hnn⟩,by show l.length-(j+1)<l.length-j;omega, ?_⟩;dsimp only;exact aL
  have h05:x.op=5:=by simp at g18;omega
  have hnx:=by have:=hnx;rw[h05]at this;exact this
  have hba:=hk2 b (List.mem_of_getElem? hb);obtain⟨y,hy⟩:∃y,l[b.at_]? =some y:=⟨_,List.getElem?_eq_getElem (by omega)⟩
  have hyt:=GW hy;have hoy:=vS hy;refine tD ?_;refine lo (aD (E rfl)) rfl ?_;refine tA ?_;refine mI ?_;refine OU ?_;refine OX ?_;refine OV ?_;refine OU ?_;refine OX ?_;refine OV ?_;refine lo (gA (E rfl) (E rfl)) rfl ?_;refine jL ?_;refine pW ?_;refine pW ?_;refine aHT ?_;refine DK ?_;refine DL ?_;refine DK ?_;refine TJ ?_;refine DL ?_;refine aEt ?_;refine rM ?_;refine dE ?_;refine aB rfl (fun g21=> ?_) (fun g21=> ?_)
  ·refine vI ?_;refine bW 2 162 3 (by decide) rfl (by decide) (bL fun q2 hq2=> ?_);repeat rcases hq2 with⟨_,hq2⟩
   have hN:gH (cU l)=none:=mB (hnx.trans (PY hb (by rw[hoy];replace g21:=bT g21;rcases g21 with h|h;exact .inl (fun e=>h (Option.some.inj e));exact .inr h))) (by omega);refine aJ ?_;apply aE;exact aF
   ·exact oA hN
   ·exact aA
  have hnn:=hnx.trans (GV hb (by rw[hoy];replace g21:=bT g21;rw[g21.1]) (by replace g21:=bT g21;exact g21.2));obtain⟨A,O,hAO,rfl,rfl⟩:∃A O,Nq A O∧A=a∧O=o:=⟨_,_,by(exact bV),rfl,rfl⟩
  refine tD ?_;refine tA ?_;refine mI ?_;refine pZ ?_;refine OY ?_;refine lD ?_;rw[show(all.map vR).set (k:Int).toNat [.int .i64 (b.at_:Int),.int .i64 (j:Int),.int .i64 b.en]=(all.set k ⟨b.at_,j,b.en⟩).map vR by rw[Int.toNat_natCast,List.map_set];rfl];refine TN ?_;refine⟨(A,O,j+1,_),⟨hAO,hlt,hnn⟩,by show l.length-(j+1)<l.length-j;omega, ?_⟩;dsimp only;exact aL
 obtain rfl:j=l.length:=by simp at g6;omega
 refine dM ?_;refine uC ?_;refine aB rfl (fun g24=> ?_) (fun g24=> ?_)
 ·refine vI ?_;refine bW 2 162 3 (by decide) rfl (by decide) (bL fun q2 hq2=> ?_);repeat rcases hq2 with⟨_,hq2⟩
  have hN:gH (cU l)=none:=by unfold gH;rw[hol,hrun,if_neg (by simp at g1;omega)];cases opn with|nil=>simp at g24|cons z zs=>rfl
  refine aJ ?_;apply aE;exact aF
  ·exact oA hN
  ·exact aA
 refine dM ?_;refine lE ?_;apply aE;exact aF
 ·have hN:gH (cU l)=some all:=by unfold gH;rw[hol,hrun,if_neg (by simp at g1;omega)];cases opn with|nil=>rfl|cons z zs=>simp at g24
  simp only[blN,xF,hN,Option.getD_some,Option.isSome_some];exact⟨a,rfl,rfl⟩
 ·exact aA
theorem aA4(l:List Ins)(hl:l.length≤100000):SCall Tryz.prog 155 [.ro 4 (l.map (iv .any)) .any] []
  (fun y σ=>∃q,y=.tup [.own q 0 (blN (cU l)).length,.bool (xF (cU l))]∧σ=[(q,.arr 298 3 ((blN (cU l)).map vR))]):=by
 have hol:(cU l).length=l.length:=by simp[cU]
 refine cF 99 [0,2,3,4,5,6,7,11,18,19,35,36,40,64,70,74,97] Tryz.func155 ?_;refine dX ?_;refine lE ?_;refine jQ ?_;refine lJ ?_;refine lJ ?_;refine dE ?_;refine bW 4 298 3 (by decide) rfl (by decide) (bL fun a0 ha0=> ?_);repeat rcases ha0 with⟨_,ha0⟩
 refine bW 5 3 1 (by decide) rfl (by decide) (bL fun o0 ho0=> ?_);repeat rcases ho0 with⟨_,ho0⟩
 refine lp (β:=Nat×Nat×Nat×MS) (fun b=>⟨[(0,.ro 4 (l.map (iv .any)) .any),(4,.own b.1 0 b.2.2.2.all.length),(5,.own b.2.1 0 b.2.2.2.opn.length),(6,.int .i64 b.2.2.1)],[(b.1,.arr 298 3 (b.2.2.2.all.map vR)),(b.2.1,.arr 3 1 (b.2.2.2.opn.map KV))]⟩) (fun b=>Nq b.1 b.2.1∧b.2.2.1≤l.length∧pI (cU l) b.2.2.1=some b.2.2.2) (fun b=>l.length-b.2.2.1) (a0,o0,0,⟨[],[]⟩) aL ⟨by show Nq a0 o0;(exact bV),Nat.zero_le _,rfl⟩ ?_;rintro⟨a,o,j,all,opn⟩ ⟨hao,hj,hrun⟩;dsimp only at hao hj hrun⊢;obtain⟨hk1,hk2,hk3,hk4⟩:=zW hrun;dsimp only at hk1 hk2 hk3 hk4;refine eX ?_;refine GO ?_;refine aB rfl (fun g4=> ?_) (fun g4=> ?_)
 ·have hlt:j<l.length:=by simp at g4;omega
  obtain⟨x,hx⟩:∃x,l[j]? =some x:=⟨_,List.getElem?_eq_getElem hlt⟩
  have hnx:=wO hrun (vS hx);refine eX ?_;refine OU ?_;refine OX ?_;refine OV ?_;refine lD ?_;have hO:(x.op==2||(x.op==3||x.op==4))=qD x.op:=by unfold qD;rw[Bool.or_assoc]
  refine eU ?_;apply fE rfl;exact cT
  ·intro _;(refine aJ ?_);refine eU ?_;apply eD rfl;exact cT
   ·intro _;(refine aJ ?_);refine eU ?_;exact aL
   exact aL
  refine aJ ?_;refine aB rfl (fun g7=> ?_) (fun g7=> ?_)
  ·have hso:qD x.op=true:=hO▸g7;refine eX ?_;refine kU ?_;refine eN fun r26 h26=> ?_;intros
   refine iY ((opn++ [all.length]).map KV) (opn++ [all.length]).length ?_;refine bH fun r27 h27=> ?_;intros
   refine lK ?_;refine jK ?_;refine eN fun r31 h31=> ?_;intros
   refine iY ((all++ [(Bk.mk j (-1) (-1))]).map vR) (all++ [(Bk.mk j (-1) (-1))]).length ?_;refine bH fun r32 h32=> ?_;intros
   refine hZ ?_;refine uC ?_;refine aB rfl (fun g12=> ?_) (fun g12=> ?_)
   ·refine vI ?_;refine bW 2 298 3 (by decide) rfl (by decide) (bL fun q2 hq2=> ?_);repeat rcases hq2 with⟨_,hq2⟩
    have hN:gH (cU l)=none:=mB (hnx.trans (BX (s:=⟨all,opn⟩) hso (by show opn.length=40;simp at g12;omega))) (by omega);refine aJ ?_;apply aE;exact aF
    ·exact oA hN
    ·exact aA
   have hnn:=hnx.trans (BW hso (by intro he;simp at g12;simp at he;omega));obtain⟨A,O,hAO,rfl,rfl⟩:∃A O,Nq A O∧A=r32∧O=r27:=⟨_,_,by(exact bV),rfl,rfl⟩
   refine lY ?_;refine⟨(A,O,j+1,_),⟨hAO,hlt,hnn⟩,by show l.length-(j+1)<l.length-j;omega, ?_⟩;dsimp only;exact aL
  have hso:qD x.op=false:=hO▸g7;refine cZ ?_;refine aB rfl (fun g14=> ?_) (fun g14=> ?_)
  ·have h5:x.op=5:=by simpa using g14
   have hnx:=hnx.trans (zX hso (.inl h5));rw[h5]at hnx;refine dM ?_;refine sK ?_;refine aB rfl (fun g15=> ?_) (fun g15=> ?_)
   ·refine vI ?_;refine bW 2 298 3 (by decide) rfl (by decide) (bL fun q2 hq2=> ?_);repeat rcases hq2 with⟨_,hq2⟩
    have hN:gH (cU l)=none:=by obtain rfl:opn=[]:=(by simpa using g15);exact mB (hnx.trans GU) (by omega)
    refine aJ ?_;apply aE;exact aF
    ·exact oA hN
    ·exact aA
   have hne:opn≠ []:=by intro h;simp[h]at g15
   obtain⟨pre,k,rfl⟩:∃pre k,opn=pre++ [k]:=⟨opn.dropLast,opn.getLast hne,(List.dropLast_concat_getLast hne).symm⟩
   have hkl:=hk1 k (by simp);obtain⟨b,hb⟩:∃b,all[k]? =some b:=⟨_,List.getElem?_eq_getElem hkl⟩
   have hpl:(pre++ [k]).length=pre.length+1:=by simp
   have hlast:=PZ (pre:=pre) (k:=k);have hbt:=GW hb;have hba:=hk2 b (List.mem_of_getElem? hb);obtain⟨y,hy⟩:∃y,l[b.at_]? =some y:=⟨_,List.getElem?_eq_getElem (by omega)⟩
   have hyt:=GW hy;have hoy:=vS hy;refine eX ?_;refine kU ?_;refine tA ?_;refine mI ?_;refine lK ?_;refine pZ ?_;refine OV ?_;refine OU ?_;refine OX ?_;refine OV ?_;refine lo (gA (E rfl) (E rfl)) rfl ?_;refine jL ?_;refine pW ?_;refine DK ?_;refine TJ ?_;refine DL ?_;refine aEt ?_;refine lL ?_;refine aB rfl (fun g18=> ?_) (fun g18=> ?_)
   ·refine vI ?_;refine bW 2 298 3 (by decide) rfl (by decide) (bL fun q2 hq2=> ?_);repeat rcases hq2 with⟨_,hq2⟩
    have hN:gH (cU l)=none:=mB (hnx.trans (PY hb (by rw[hoy];replace g18:=bT g18;rcases g18 with h|h;exact .inl (fun e=>h (Option.some.inj e));exact .inr h))) (by omega);refine aJ ?_;apply aE;exact aF
    ·exact oA hN
    ·exact aA
   have hnn:=hnx.trans (GV hb (by rw[hoy];replace g18:=bT g18;rw[g18.1]) (by replace g18:=bT g18;exact g18.2));refine eX ?_;refine pZ ?_;refine OY ?_;refine lD ?_;rw[show(all.map vR).set (k:Int).toNat [.int .i64 (b.at_:Int),.int .i64 (j:Int),.int .i64 b.en]=(all.set k ⟨b.at_,j,b.en⟩).map vR by rw[Int.toNat_natCast,List.map_set];rfl];obtain⟨A,O,hAO,rfl,rfl⟩:∃A O,Nq A O∧A=a∧O=o:=⟨_,_,by(exact bV),rfl,rfl⟩
   refine iC ?_;refine GM ?_;refine⟨(A,O,j+1,_),⟨hAO,hlt,hnn⟩,by show l.length-(j+1)<l.length-j;omega, ?_⟩;dsimp only;exact aL
  have hn5:x.op≠5:=by simpa using g14
  refine cZ ?_;refine aB rfl (fun g21=> ?_) (fun g21=> ?_)
  ·have h11:x.op=11:=by simpa using g21
   have hnx:=hnx.trans (zX hso (.inr h11));rw[h11]at hnx;refine dM ?_;refine sK ?_;refine aB rfl (fun g22=> ?_) (fun g22=> ?_)
   ·refine vI ?_;refine bW 2 298 3 (by decide) rfl (by decide) (bL fun q2 hq2=> ?_);repeat rcases hq2 with⟨_,hq2⟩
    have hN:gH (cU l)=none:=by obtain rfl:opn=[]:=(by simpa using g22);exact mB (hnx.trans GU) (by omega)
    refine aJ ?_;apply aE;exact aF
    ·exact oA hN
    ·exact aA
   have hne:opn≠ []:=by intro h;simp[h]at g22
   obtain⟨pre,k,rfl⟩:∃pre k,opn=pre++ [k]:=⟨opn.dropLast,opn.getLast hne,(List.dropLast_concat_getLast hne).symm⟩
   have hkl:=hk1 k (by simp);obtain⟨b,hb⟩:∃b,all[k]? =some b:=⟨_,List.getElem?_eq_getElem hkl⟩
   have hpl:(pre++ [k]).length=pre.length+1:=by simp
   have hlast:=PZ (pre:=pre) (k:=k);have hbt:=GW hb;have hnn:=hnx;rw[PX hb]at hnn;refine tD ?_;refine kU ?_;refine tA ?_;refine mI ?_;refine pZ ?_;refine OY ?_;refine iF ?_;refine eX ?_;refine kU ?_;refine tA ?_;refine aEo ?_;refine dE ?_;rw[show((((pre++ [k]).length:Nat):Int)-1).toNat-0=pre.length by simp];refine dQ (nZ (o:=o) pre.length cA) ?_;rw[show(all.map vR).set (k:Int).toNat [.int .i64 (b.at_:Int),.int .i64 b.els,.int .i64 (j:Int)]=(all.set k ⟨b.at_,b.els,j⟩).map vR by rw[Int.toNat_natCast,List.map_set];rfl,show List.take pre.length ((pre++ [k]).map KV)=pre.map KV by simp];obtain⟨A,O,hAO,rfl,rfl⟩:∃A O,Nq A O∧A=a∧O=o:=⟨_,_,by(exact bV),rfl,rfl⟩
   refine iC ?_;refine GM ?_;refine⟨(A,O,j+1,_),⟨hAO,hlt,hnn⟩,by show l.length-(j+1)<l.length-j;omega, ?_⟩;dsimp only;exact aL
  have hnn:=hnx.trans (BY hso hn5 (by simpa using g21));obtain⟨A,O,hAO,rfl,rfl⟩:∃A O,Nq A O∧A=a∧O=o:=⟨_,_,by(exact bV),rfl,rfl⟩
  refine lY ?_;refine⟨(A,O,j+1,_),⟨hAO,hlt,hnn⟩,by show l.length-(j+1)<l.length-j;omega, ?_⟩;dsimp only;exact aL
 obtain rfl:j=l.length:=by simp at g4;omega
 refine dM ?_;refine kU ?_;refine aH5 ?_;refine qU ?_;refine KK ?_;refine lL ?_;refine aB rfl (fun g26=> ?_) (fun g26=> ?_)
 ·refine vI ?_;refine bW 2 298 3 (by decide) rfl (by decide) (bL fun q2 hq2=> ?_);repeat rcases hq2 with⟨_,hq2⟩
  have hN:gH (cU l)=none:=by replace g26:=bT g26;unfold gH;split;rfl;(rw[hol,hrun];cases opn with|nil=>(exfalso;simp at g26;omega)|cons z zs=>rfl)
  refine aJ ?_;apply aE;exact aF
  ·exact oA hN
  ·exact aA
 have hN:gH (cU l)=some all:=by replace g26:=bT g26;unfold gH;rw[hol,hrun,if_neg (by omega)];cases opn with|nil=>rfl|cons z zs=>simp at g26
 refine dM ?_;refine lE ?_;apply aE;exact aF
 ·simp only[blN,xF,hN,Option.getD_some,Option.isSome_some];exact⟨a,rfl,rfl⟩
 ·exact aA
end Go.Proofs.YtjpdadobblffmaaGreat
namespace Go.Proofs.YtjpdadobblffmaaGreat
open Go.RowKit Go.ChangeShapes Go.WideShapes Go.ChangeAt Go.Deep
def iR (l:List Ins):List Nat:=l.flatMap gG++ [11]
def dN (d:Int) (op:Int):Int:=if(op==11)=true then d-1 else if qD op=true then d+1 else d
def UG (b:List Nat):Nat→Nat→Int→List Ins→List Ins×Nat×Int
 |0,_,_,_=>([],0,4)
 |f+1,k,d,l=>
  if((fF (b.drop k)).2.2 !=0)=true then([],0,(fF (b.drop k)).2.2)
  else if dN d (fF (b.drop k)).1.op<0 then(if xF (cU l)=true then(l,k+(fF (b.drop k)).2.1,0)else([],0,1))
  else UG b f (k+(fF (b.drop k)).2.1) (dN d (fF (b.drop k)).1.op) (l++ [(fF (b.drop k)).1])
def lH (b:List Nat):List Ins×Nat×Int:=UG b 301 0 0 []
theorem aIl{d op:Int}(hd:0≤d):dN d op<0↔((op==11)=true∧d=0):=by
 unfold dN;split
 ·next h=>constructor;intro h2;exact⟨h,by omega⟩;intro h2;omega
 ·next h=>
  constructor
  ·intro h2;split at h2<;>omega
  ·intro h2;exact absurd h2.1 h
theorem ZO(b:List Nat):∀(f k:Nat) (d:Int) (l:List Ins),(UG b f k d l).2.2≠0→(UG b f k d l).1=[]∧(UG b f k d l).2.1=0
 |0,k,d,l=>fun _=>⟨rfl,rfl⟩
 |f+1,k,d,l=>by
  rw[UG];split
  ·exact fun _=>⟨rfl,rfl⟩
  split
  ·split
   ·exact fun h=>absurd rfl h
   ·exact fun _=>⟨rfl,rfl⟩
  ·exact ZO b f _ _ _
theorem aCK(b:List Nat)(h:(lH b).2.2≠0):(lH b).1=[]∧(lH b).2.1=0:=ZO _ _ _ _ _ h
theorem aIm{x:Ins}(hx:x.Ok)(hm:cY x=true)(h:x.op=11):x=⟨11,0,0,[]⟩:=by
 have f17:=aG4 hm (by rw[h];rfl);have fb:=aG5 hm (by rw[h];decide);have fl:=aG6 hm (by rw[h];decide);obtain⟨op,a,c,L⟩:=x;dsimp only at h f17 fb fl;subst h f17 fb fl;rfl
theorem Sp.of_drop {b p:List Nat}{k n:Nat}(hk:k≤b.length)(h:Sp (b.drop k) 0 n p):Sp b k (k+n) p:=by
 obtain⟨h1,h2,h3⟩:=h;rw[List.drop_zero,List.drop_drop]at h1;rw[List.length_drop]at h3;exact⟨h1,by omega,by omega⟩
theorem NH{b:List Nat}(hb:∀x∈b,x<256):∀(f k:Nat) (d:Int) (l:List Ins),0≤d→(UG b f k d l).2.2=0→Sp b 0 k (l.flatMap gG)→(∀x∈l,x.Ok∧cY x=true)→
  xF (cU (UG b f k d l).1)=true∧Sp b 0 (UG b f k d l).2.1 (iR (UG b f k d l).1)∧∀x∈(UG b f k d l).1,x.Ok∧cY x=true
 |0,k,d,l=>fun _ h=>by cases h
 |f+1,k,d,l=>by
  intro hd h hs hl;rw[UG]at h⊢;by_cases h1:((fF (b.drop k)).2.2 !=0)=true
  ·rw[if_pos h1]at h;rw[show(fF (b.drop k)).2.2=0 from h]at h1;simp at h1
  rw[if_neg h1]at h⊢;have he:(fF (b.drop k)).2.2=0:=by simpa using h1
  obtain⟨ho,hm,hsp⟩:=yI (fun x hx=>hb x (List.mem_of_mem_drop hx)) he;have hsp:=Sp.of_drop hs.2.2 hsp;by_cases h2:dN d (fF (b.drop k)).1.op<0
  ·rw[if_pos h2]at h⊢;by_cases h3:xF (cU l)=true
   ·rw[if_pos h3]at h⊢;refine⟨h3, ?_,hl⟩;have h11:=((aIl hd).1 h2).1;rw[aIm ho hm (by simpa using h11)]at hsp;exact hs.trans hsp
   ·rw[if_neg h3]at h;cases h
  ·rw[if_neg h2]at h⊢;refine NH hb f _ _ _ (by omega) h ?_ ?_
   ·rw[List.flatMap_append];simpa using hs.trans hsp
   ·intro x hx;rcases List.mem_append.1 hx with hx|hx
    ·exact hl x hx
    ·rw[List.mem_singleton.1 hx];exact⟨ho,hm⟩
theorem XP{b:List Nat}(hb:∀x∈b,x<256)(h:(lH b).2.2=0):xF (cU (lH b).1)=true∧Sp b 0 (lH b).2.1 (iR (lH b).1)∧∀x∈(lH b).1,x.Ok∧cY x=true:=
 NH hb 301 0 0 [] (Int.le_refl 0) h (Sp.nil (Nat.zero_le _)) (by simp)
theorem QA{ops:List Int}(h:xF ops=true):ops.length≤300:=by
 unfold xF gH at h;split at h
 ·cases h
 ·omega
theorem ZP{ops:List Int}(h:xF ops=true):∃all,pI ops ops.length=some ⟨all,[]⟩:=by
 unfold xF gH at h;split at h
 ·cases h
 ·split at h
  ·next all h2=>exact⟨all,h2⟩
  ·cases h
theorem aIn{ops:List Int}(h:xF ops=true){j:Nat}(hj:j≤ops.length):∃s,pI ops j=some s:=by
 obtain⟨all,h⟩:=ZP h;cases hs:pI ops j with
 |some s=>exact⟨s,rfl⟩
 |none=>
  have:=BV hs (ops.length-j);rw[Nat.add_sub_cancel' hj,h]at this;cases this
theorem aE1{ops:List Int}{s s':MS}{i:Nat}{op:Int}(h:oM ops s i op=some s'):(s'.opn.length:Int)=dN s.opn.length op:=by
 unfold oM at h;unfold dN;split at h
 ·next ho=>
  split at h
  ·cases h
  ·obtain rfl:=Option.some.inj h;rw[if_neg (by unfold qD at ho;simp at ho⊢;omega),if_pos ho];simp
 next ho=>
 split at h
 ·next h5=>
  obtain rfl:=Option.some.inj h;rw[if_neg (by simpa using h5.2),if_neg ho]
 next h5=>
 unfold DS at h;split at h
 ·cases h
 next k hk=>
 split at h
 ·cases h
 split at h
 ·next h11=>
  obtain rfl:=Option.some.inj h;have:s.opn≠ []:=by intro h0;rw[h0]at hk;cases hk
  have:=List.length_pos_iff.2 this;rw[if_pos (by simpa using h11)];simp;omega
 next h11=>
 split at h
 ·cases h
 ·obtain rfl:=Option.some.inj h;rw[if_neg (by simpa using h11),if_neg ho]
theorem aCL{l:List Ins}(hl:∀x∈l,x.Ok∧cY x=true)(hok:xF (cU l)=true)(r:List Nat):∀(m j:Nat) (s:MS) (f:Nat),m+j=l.length→m<f→pI (cU l) j=some s→
  UG (iR l++r) f ((l.take j).flatMap gG).length s.opn.length (l.take j)=(l,(iR l).length,0):=by
 have hol:(cU l).length=l.length:=by simp[cU]
 have hdrop:∀j,(iR l++r).drop ((l.take j).flatMap gG).length=(l.drop j).flatMap gG++(11::r):=by
  intro j;have:iR l++r=(l.take j).flatMap gG++((l.drop j).flatMap gG++(11::r)):=by
   unfold iR
   conv=>lhs;rw[←List.take_append_drop j l,List.flatMap_append]
   simp
  rw[this,List.drop_left]
 intro m
 induction m with
 |zero=>
  intro j s f hj hf hs;obtain⟨f,rfl⟩:∃g,f=g+1:=⟨f-1,by omega⟩
  obtain rfl:j=l.length:=by omega
  obtain⟨all,ha⟩:=ZP hok;rw[hol,hs]at ha;obtain rfl:=Option.some.inj ha;have hg:fF ((iR l++r).drop ((l.take l.length).flatMap gG).length)=(⟨11,0,0,[]⟩,1,0):=by
   rw[hdrop,List.drop_length];exact PN (x:=⟨11,0,0,[]⟩) ⟨by decide,by decide,by decide,by decide,by decide⟩ (by decide) r
  rw[UG,hg,if_neg (by decide),if_pos (show dN (([]:List Nat).length:Nat) 11<0 by decide),List.take_length,if_pos hok];simp[iR]
 |succ m ih=>
  intro j s f hj hf hs;obtain⟨f,rfl⟩:∃g,f=g+1:=⟨f-1,by omega⟩
  have hlt:j<l.length:=by omega
  obtain⟨x,hx⟩:∃x,l[j]? =some x:=⟨_,List.getElem?_eq_getElem hlt⟩
  obtain⟨hxo,hxm⟩:=hl x (List.mem_of_getElem? hx);have hg:fF ((iR l++r).drop ((l.take j).flatMap gG).length)=(x,(gG x).length,0):=by
   rw[hdrop,List.drop_eq_getElem_cons hlt,(List.getElem?_eq_some_iff.1 hx).2,List.flatMap_cons,List.append_assoc];exact PN hxo hxm _
  obtain⟨s',hs'⟩:=aIn hok (j:=j+1) (by omega);have hst:=wO hs (vS hx);rw[hs']at hst;have hd:=aE1 hst.symm;have ht:l.take (j+1)=l.take j++ [x]:=by rw[List.take_add_one,hx];rfl
  have hn:=ih (j+1) s' f (by omega) (by omega) hs';rw[UG,hg,if_neg (by simp)];dsimp only;rw[←hd,if_neg (by omega),←ht,←hn,ht,List.flatMap_append];simp
theorem aA5{l:List Ins}(hl:∀x∈l,x.Ok∧cY x=true)(hok:xF (cU l)=true)(r:List Nat):lH (iR l++r)=(l,(iR l).length,0):=by
 have:=QA hok;have hol:(cU l).length=l.length:=by simp[cU]
 exact aCL hl hok r l.length 0 ⟨[],[]⟩ 301 (by omega) (by omega) rfl
end Go.Proofs.YtjpdadobblffmaaGreat
namespace Go.Proofs.YtjpdadobblffmaaGreat
open Go.RowKit Go.ChangeShapes Go.WideShapes Go.ChangeAt Go.Deep
attribute [local irreducible] SW RS RD fG eH
theorem UH{b:List Nat}{k:Nat}:List.take ((b.map aG).length-k) (List.drop k (b.map aG))=(b.drop k).map aG:=by
 rw[List.map_drop];exact List.take_of_length_le (by simp)
def pJ (l:List Ins) (j:Nat):List Nat:=(l.take j).flatMap gG
theorem ZQ{l:List Ins}{j:Nat}{x:Ins}(h:l[j]? =some x):pJ l (j+1)=pJ l j++gG x:=by
 unfold pJ;rw[List.take_add_one,h,List.flatMap_append];simp
theorem XQ{l:List Ins}(hm:∀x∈l,x.Ok∧cY x=true)(j:Nat):(pJ l j).length≤200*l.length:=by
 have h1:(pJ l j).length≤200*(l.take j).length:=zV fun x hx=>hm x (List.mem_of_mem_take hx)
 have:(l.take j).length≤l.length:=by simp;omega
 omega
theorem XR{l:List Ins}:pJ l l.length++ [11]=iR l:=by unfold pJ iR;rw[List.take_length]
theorem zY{l:List Ins}(hm:∀x∈l,x.Ok∧cY x=true):(iR l).length≤200*l.length+1:=by
 rw[←XR];have:=XQ hm l.length;simp;omega
theorem aE2{l:List Ins}(hm:∀x∈l,x.Ok∧cY x=true):∀b∈iR l,b<256:=by
 intro b hb;rcases List.mem_append.1 hb with hb|hb
 ·exact UE hm b hb
 ·rw[List.mem_singleton.1 hb];decide
theorem UI(q:Nat)(vs:List Nat)(hvs:vs.length≤20000000)(l:List Ins)(hl:l.length≤310)(hm:∀x∈l,x.Ok∧cY x=true):SCall Tryz.prog 248 [.own q 0 vs.length,.ro 4 (l.map (iv .any)) .any] [(q,.arr 5 1 (vs.map aG))]
  (fun y σ=>∃r,y=.own r 0 (vs++iR l).length∧σ=[(r,.arr 5 1 ((vs++iR l).map aG))]):=by
 refine cF 20 [0,1,4,6,7,8,9,10] Tryz.func248 ?_;refine sJ ?_;refine lp (β:=Nat×Nat) (fun b=>⟨[(0,.own b.1 0 (vs++pJ l b.2).length),(7,.ro 4 (l.map (iv .any)) .any),(8,.int .i64 l.length),(9,.int .i64 b.2)],[(b.1,.arr 5 1 ((vs++pJ l b.2).map aG))]⟩) (fun b=>b.2≤l.length) (fun b=>l.length-b.2) (q,0) (by dsimp only;rw[show vs++pJ l 0=vs by simp[pJ]];(exact aL)) (Nat.zero_le _) ?_;rintro⟨q1,j⟩ hj;have hpl:=XQ hm j;dsimp only at hj⊢;refine jR ?_;refine aB rfl (fun g2=> ?_) (fun g2=> ?_)
 ·have hlt:j<l.length:=by simp at g2;omega
  obtain⟨x,hx⟩:∃x,l[j]? =some x:=⟨_,List.getElem?_eq_getElem hlt⟩
  obtain⟨hxo,hxm⟩:=hm x (List.mem_of_getElem? hx);have hnx:=ZQ hx;refine dX ?_;refine qX ?_;refine jU fun r6 h6=> ?_;intros
  refine pD ?_;refine oS ?_;refine cw [(q1,.arr 5 1 ((vs++pJ l j).map aG))] Tryz.call242 (BS q1 (vs++pJ l j) (by simp;omega) .any x hxo hxm) rfl aC aA ?_;rintro _ σ' ⟨r15,rfl,rfl⟩ h15;have k15:=aZ h15;repeat rcases k15 with⟨_,k15⟩
  refine tY ?_;refine⟨(r15,j+1),hlt,by show l.length-(j+1)<l.length-j;omega, ?_⟩;dsimp only;rw[hnx,←List.append_assoc];exact aL
 obtain rfl:j=l.length:=by simp at g2;omega
 refine dM ?_;refine eN fun r18 h18=> ?_;intros
 refine iY (((vs++pJ l l.length)++ [11]).map aG) ((vs++pJ l l.length)++ [11]).length ?_;refine bH fun r19 h19=> ?_;intros
 refine dE ?_;rw[List.append_assoc,XR];exact aE aF ⟨r19,by rfl,rfl⟩ aA
theorem UJ(l:List Ins)(hl:l.length≤310)(hm:∀x∈l,x.Ok∧cY x=true):SCall Tryz.prog 256 [.ro 4 (l.map (iv .any)) .any] []
  (fun y σ=>∃r,y=.own r 0 (iR l).length∧σ=[(r,.arr 5 1 ((iR l).map aG))]):=by
 refine cF 21 [0,2,3,4,8] Tryz.func256 ?_;refine bM ?_;refine jQ ?_;refine lJ ?_;refine dE ?_;refine bW 3 5 1 (by decide) rfl (by decide) (bL fun q0 hq0=> ?_);repeat rcases hq0 with⟨_,hq0⟩
 refine lp (β:=Nat×Nat) (fun b=>⟨[(0,.ro 4 (l.map (iv .any)) .any),(3,.own b.1 0 (pJ l b.2).length),(4,.int .i64 b.2)],[(b.1,.arr 5 1 ((pJ l b.2).map aG))]⟩) (fun b=>b.2≤l.length) (fun b=>l.length-b.2) (q0,0) aL (Nat.zero_le _) ?_;rintro⟨q1,j⟩ hj;have hpl:=XQ hm j;dsimp only at hj⊢;refine eX ?_;refine GO ?_;refine aB rfl (fun g3=> ?_) (fun g3=> ?_)
 ·have hlt:j<l.length:=by simp at g3;omega
  obtain⟨x,hx⟩:∃x,l[j]? =some x:=⟨_,List.getElem?_eq_getElem hlt⟩
  obtain⟨hxo,hxm⟩:=hm x (List.mem_of_getElem? hx);have hnx:=ZQ hx;have hpx:=vQ hxo hxm;refine eX ?_;refine mX ?_;refine rY Tryz.call253 (tH .any x hxo hxm) rfl bU kD ?_;rintro _ σ' ⟨r16,rfl,rfl⟩ h16
  replace h16:=cL h16;repeat rcases h16 with⟨_,h16⟩
  apply aY;exact bN;refine iY ((pJ l j++gG x).map aG) (pJ l j++gG x).length ?_;refine bH fun r17 h17=> ?_;intros
  refine hZ ?_;refine GM ?_;refine⟨(r17,j+1),hlt,by show l.length-(j+1)<l.length-j;omega, ?_⟩;dsimp only;rw[hnx];exact aL
 obtain rfl:j=l.length:=by simp at g3;omega
 refine dM ?_;refine eN fun r19 h19=> ?_;intros
 refine iY ((pJ l l.length++ [11]).map aG) (pJ l l.length++ [11]).length ?_;refine bH fun r20 h20=> ?_;intros
 refine dE ?_;rw[XR];exact aE aF ⟨r20,by rfl,rfl⟩ aA
instance : DecidableEq Ins := fun x y => if h : eqN x y = true then .isTrue (PQ.1 h) else .isFalse fun e => h (PQ.2 e)
theorem aCM(b:List Nat)(hb:b.length≤1000000)(hlt:∀x∈b,x<256):SCall Tryz.prog 266 [.ro 1 (b.map aG) .any] []
  (fun y σ=>∃q,y=.tup [.own q 0 (lH b).1.length,.int .i64 ((lH b).2.1:Nat),.int .i64 (lH b).2.2]∧σ=[(q,.arr 46 4 ((lH b).1.map (iv .any)))]):=by
 refine cF 55 [0,2,3,4,5,6,7,8,9,10,12,22,29,34,38,45,54] Tryz.func266 ?_;refine dX ?_;refine oF ?_;refine jQ ?_;refine lJ ?_;refine lJ ?_;refine dE ?_;refine bW 5 46 4 (by decide) rfl (by decide) (bL fun q0 hq0=> ?_);repeat rcases hq0 with⟨_,hq0⟩
 refine lp (β:=Nat×Nat×Int×Nat×List Ins) (fun b'=>⟨[(0,.ro 1 (b.map aG) .any),(5,.own b'.1 0 b'.2.2.2.2.length),(6,.int .i64 b'.2.2.1),(7,.int .i64 b'.2.1)],[(b'.1,.arr 46 4 (b'.2.2.2.2.map (iv .any)))]⟩) (fun b'=>b'.2.1≤b.length∧0≤b'.2.2.1∧b'.2.2.1≤b'.2.2.2.2.length∧b'.2.2.2.1+b'.2.2.2.2.length=301∧1≤b'.2.2.2.1∧lH b=UG b b'.2.2.2.1 b'.2.1 b'.2.2.1 b'.2.2.2.2) (fun b'=>b'.2.2.2.1) (q0,0,0,301,[]) aL ⟨Nat.zero_le _,Int.le_refl 0,Int.le_refl 0,rfl,by show 1≤301;decide,rfl⟩ ?_;rintro⟨q,k,d,f,l⟩ ⟨hk,hd0,hdl,hfl,hf1,hG⟩;dsimp only at hk hd0 hdl hfl hf1 hG⊢;obtain⟨f,rfl⟩:∃g,f=g+1:=⟨f-1,by omega⟩
 have hlt2:∀x∈b.drop k,x<256:=fun x hx=>hlt x (List.mem_of_mem_drop hx)
 have hsnd:=yI hlt2;rw[UG]at hG;refine eX ?_;refine aHU ?_;rw[UH];refine cw [] Tryz.call298 (NE (b.drop k) (by simp;omega) hlt2) rfl aC aA ?_;rintro _ σ' ⟨q3,rfl,rfl⟩ h17
 replace h17:=gL h17;repeat rcases h17 with⟨_,h17⟩
 apply aY;exact bN;generalize fF (b.drop k)=gp at hG hsnd⊢;obtain⟨x,n,e⟩:=gp;dsimp only at hG hsnd⊢;refine yA ?_;refine lo (mF (E rfl) rfl) rfl ?_;refine jU fun r8 h8=> ?_;intros
 apply SO;rfl;rfl;rfl;rfl;exact mU;refine mZ ?_;refine lX ?_;refine aB rfl (fun g5=> ?_) (fun g5=> ?_)
 ·refine dM ?_;refine GR ?_;refine bW 2 46 4 (by decide) rfl (by decide) (bL fun q2 hq2=> ?_);repeat rcases hq2 with⟨_,hq2⟩
  have hE:lH b=([],0,e):=by rw[hG,if_pos g5]
  refine aJ ?_;exact aE aF ⟨q2,by rw[hE];rfl,by rw[hE]⟩ aA
 rw[if_neg (by simp[g5])]at hG;obtain⟨hxo,hxm,hsp⟩:=hsnd (by simpa using g5);have hkn:k+n≤b.length:=by have:=hsp.2.2;simp at this;omega
 refine eX ?_;refine FH ?_;refine iW ?_;refine rO ?_;refine aB rfl (fun g8=> ?_) (fun g8=> ?_)
 ·have hD:dN d x.op=d-1:=by unfold dN;rw[if_pos g8]
  refine dM ?_;refine tA ?_;refine hZ ?_;refine BO ?_;refine aB rfl (fun g12=> ?_) (fun g12=> ?_)
  ·rw[if_pos (by rw[hD];simpa using g12)]at hG;refine dM ?_;refine rY Tryz.call75 (qE l (by omega)) rfl bU kD ?_;rintro _ σ' ⟨q4,rfl,rfl⟩ h41
   replace h41:=cL h41;repeat rcases h41 with⟨_,h41⟩
   refine zN ?_;refine mZ ?_;refine qV ?_;refine aB rfl (fun g14=> ?_) (fun g14=> ?_)
   ·refine dX ?_;refine GR ?_;refine bW 2 46 4 (by decide) rfl (by decide) (bL fun q2 hq2=> ?_);repeat rcases hq2 with⟨_,hq2⟩
    have hE:lH b=([],0,1):=by rw[hG,if_neg];intro h;rw[h]at g14;cases g14
    refine aJ ?_;exact aE aF ⟨q2,by rw[hE];rfl,by rw[hE]⟩ aA
   refine eX ?_;refine oF ?_;have hE:lH b=(l,k+n,0):=by rw[hG,if_pos];cases h:xF (cU l);rw[h]at g14;cases g14;rfl
   exact aE aF ⟨q,by rw[hE];rfl,by rw[hE]⟩ aA
  rw[if_neg (by rw[hD];simpa using g12)]at hG;refine aJ ?_;refine dQ (gC (r:=r8) (q:=q3) cA aU (.cons (.refl _) (.cons (.refl _) (.cons (.refl _) (.cons (aK bA (by simp)) .nil))))) ?_;refine iC ?_;refine oS ?_;refine eN fun r50 h50=> ?_;intros
  refine iY ((l++ [x]).map (iv .any)) (l++ [x]).length ?_;refine bH fun r51 h51=> ?_;intros
  refine hZ ?_;refine uC ?_;refine aB rfl (fun g18=> ?_) (fun g18=> ?_)
  ·refine dX ?_;refine GR ?_;refine bW 2 46 4 (by decide) rfl (by decide) (bL fun q2 hq2=> ?_);repeat rcases hq2 with⟨_,hq2⟩
   have hE:lH b=([],0,4):=by obtain rfl:f=0:=(by simp at g18;omega);rw[hG];rfl
   refine aJ ?_;exact aE aF ⟨q2,by rw[hE];rfl,by rw[hE]⟩ aA
  refine aJ ?_;have hf0:l.length+1≤300:=by simp at g18;omega
  refine⟨(r51,k+n,dN d x.op,f,l++ [x]),⟨hkn,by show 0≤dN d x.op;rw[hD];simp at g12;omega,by show dN d x.op≤((l++ [x]).length:Nat);rw[hD];simp;omega,by show f+(l++ [x]).length=301;simp;omega,by show 1≤f;omega,hG⟩,Nat.lt_succ_self _, ?_⟩;dsimp only;rw[hD];exact aL
 refine fN ?_;refine oL Tryz.call186 (yJ _) rfl aR bB ?_;refine lD ?_;refine aB rfl (fun g10=> ?_) (fun g10=> ?_)
 ·have hD:dN d x.op=d+1:=by unfold dN;rw[if_neg (by simp[g8]),if_pos g10]
  refine lY ?_;refine iC ?_;refine BO ?_;refine aB rfl (fun g12=> ?_) (fun g12=> ?_)
  ·rw[if_pos (by rw[hD];simpa using g12)]at hG;refine dM ?_;refine rY Tryz.call75 (qE l (by omega)) rfl bU kD ?_;rintro _ σ' ⟨q4,rfl,rfl⟩ h41
   replace h41:=cL h41;repeat rcases h41 with⟨_,h41⟩
   refine zN ?_;refine mZ ?_;refine qV ?_;refine aB rfl (fun g14=> ?_) (fun g14=> ?_)
   ·refine dX ?_;refine GR ?_;refine bW 2 46 4 (by decide) rfl (by decide) (bL fun q2 hq2=> ?_);repeat rcases hq2 with⟨_,hq2⟩
    have hE:lH b=([],0,1):=by rw[hG,if_neg];intro h;rw[h]at g14;cases g14
    refine aJ ?_;exact aE aF ⟨q2,by rw[hE];rfl,by rw[hE]⟩ aA
   refine eX ?_;refine oF ?_;have hE:lH b=(l,k+n,0):=by rw[hG,if_pos];cases h:xF (cU l);rw[h]at g14;cases g14;rfl
   exact aE aF ⟨q,by rw[hE];rfl,by rw[hE]⟩ aA
  rw[if_neg (by rw[hD];simpa using g12)]at hG;refine aJ ?_;refine dQ (gC (r:=r8) (q:=q3) cA aU (.cons (.refl _) (.cons (.refl _) (.cons (.refl _) (.cons (aK bA (by simp)) .nil))))) ?_;refine iC ?_;refine oS ?_;refine z1 ?_;refine bL fun r50 h50=> ?_;repeat rcases h50 with⟨_,h50⟩
  refine iY ((l++ [x]).map (iv .any)) (l++ [x]).length ?_;refine bH fun r51 h51=> ?_;intros
  refine hZ ?_;refine uC ?_;refine aB rfl (fun g18=> ?_) (fun g18=> ?_)
  ·refine dX ?_;refine GR ?_;refine bW 2 46 4 (by decide) rfl (by decide) (bL fun q2 hq2=> ?_);repeat rcases hq2 with⟨_,hq2⟩
   have hE:lH b=([],0,4):=by obtain rfl:f=0:=(by simp at g18;omega);rw[hG];rfl
   refine aJ ?_;exact aE aF ⟨q2,by rw[hE];rfl,by rw[hE]⟩ aA
  refine aJ ?_;have hf0:l.length+1≤300:=by simp at g18;omega
  refine⟨(r51,k+n,dN d x.op,f,l++ [x]),⟨hkn,by show 0≤dN d x.op;rw[hD];simp at g12;omega,by show dN d x.op≤((l++ [x]).length:Nat);rw[hD];simp;omega,by show f+(l++ [x]).length=301;simp;omega,by show 1≤f;omega,hG⟩,Nat.lt_succ_self _, ?_⟩;dsimp only;rw[hD];exact aL
 have hD:dN d x.op=d:=by unfold dN;rw[if_neg (by simp[g8]),if_neg (by simp[g10])]
 refine dM ?_;refine BO ?_;refine aB rfl (fun g12=> ?_) (fun g12=> ?_)
 ·rw[if_pos (by rw[hD];simpa using g12)]at hG;refine dM ?_;refine rY Tryz.call75 (qE l (by omega)) rfl bU kD ?_;rintro _ σ' ⟨q4,rfl,rfl⟩ h41
  replace h41:=cL h41;repeat rcases h41 with⟨_,h41⟩
  refine zN ?_;refine mZ ?_;refine qV ?_;refine aB rfl (fun g14=> ?_) (fun g14=> ?_)
  ·refine dX ?_;refine GR ?_;refine bW 2 46 4 (by decide) rfl (by decide) (bL fun q2 hq2=> ?_);repeat rcases hq2 with⟨_,hq2⟩
   have hE:lH b=([],0,1):=by rw[hG,if_neg];intro h;rw[h]at g14;cases g14
   refine aJ ?_;exact aE aF ⟨q2,by rw[hE];rfl,by rw[hE]⟩ aA
  refine eX ?_;refine oF ?_;have hE:lH b=(l,k+n,0):=by rw[hG,if_pos];cases h:xF (cU l);rw[h]at g14;cases g14;rfl
  exact aE aF ⟨q,by rw[hE];rfl,by rw[hE]⟩ aA
 rw[if_neg (by rw[hD];simpa using g12)]at hG;refine aJ ?_;refine dQ (gC (r:=r8) (q:=q3) cA aU (.cons (.refl _) (.cons (.refl _) (.cons (.refl _) (.cons (aK bA (by simp)) .nil))))) ?_;refine iC ?_;refine oS ?_;refine z1 ?_;refine bL fun r50 h50=> ?_;repeat rcases h50 with⟨_,h50⟩
 refine iY ((l++ [x]).map (iv .any)) (l++ [x]).length ?_;refine bH fun r51 h51=> ?_;intros
 refine hZ ?_;refine uC ?_;refine aB rfl (fun g18=> ?_) (fun g18=> ?_)
 ·refine dX ?_;refine GR ?_;refine bW 2 46 4 (by decide) rfl (by decide) (bL fun q2 hq2=> ?_);repeat rcases hq2 with⟨_,hq2⟩
  have hE:lH b=([],0,4):=by obtain rfl:f=0:=(by simp at g18;omega);rw[hG];rfl
  refine aJ ?_;exact aE aF ⟨q2,by rw[hE];rfl,by rw[hE]⟩ aA
 refine aJ ?_;have hf0:l.length+1≤300:=by simp at g18;omega
 refine⟨(r51,k+n,dN d x.op,f,l++ [x]),⟨hkn,by show 0≤dN d x.op;rw[hD];simp at g12;omega,by show dN d x.op≤((l++ [x]).length:Nat);rw[hD];simp;omega,by show f+(l++ [x]).length=301;simp;omega,by show 1≤f;omega,hG⟩,Nat.lt_succ_self _, ?_⟩;dsimp only;rw[hD];exact aL
end Go.Proofs.YtjpdadobblffmaaGreat
namespace Go.Proofs.YtjpdadobblffmaaGreat
open Go.RowKit Go.ChangeShapes Go.WideShapes Go.ChangeAt Go.Deep
theorem VLe.ro {sz:Nat}{es es':List (List AV)}{k:Rk}(hl:es.length=es'.length)(hs:gZ sz es')
  (h:∀(i:Nat) (e e':List AV),es[i]? =some e→es'[i]? =some e'→e.length=e'.length∧∀(j:Nat) (a a':AV),e[j]? =some a→e'[j]? =some a'→VLe a a'):VLe (.ro sz es k) (.ro sz es' k):=fun M F w v hv=>by
 have hx:∀(i:Nat) (e':List AV),es'[i]? =some e'→∃e,es[i]? =some e:=fun i e' h=>⟨_,List.getElem?_eq_getElem (by have:=(List.getElem?_eq_some_iff.1 h).1;omega)⟩
 have hy:∀(i:Nat) (e':List AV) (j:Nat) (a':AV),es'[i]? =some e'→e'[j]? =some a'→∃e a,es[i]? =some e∧e[j]? =some a∧VLe a a':=fun i e' j a' h1 h2=>by
  obtain⟨e,he⟩:=hx i e' h1;obtain⟨g1,g2⟩:=h i e e' he h1;have hj:=(List.getElem?_eq_some_iff.1 h2).1;have ha:e[j]? =some (e[j]'(by omega)):=List.getElem?_eq_getElem (by omega);exact⟨e,_,he,ha,g2 j _ a' ha h2⟩
 cases hv with
 |ro hb hs' hc hr hle hm hf hn=>
  rw[hl];rw[hl]at hle hf
  rename_i b o cap us
  refine .ro (us:=us) hb hs (fun i e' j a' h1 h2=> ?_) (fun i e' j a' h1 h2=> ?_) hle hm hf hn
  ·obtain⟨e,a,he,ha,-⟩:=hy i e' j a' h1 h2;exact hc i e j a he ha
  ·obtain⟨e,a,he,ha,hv⟩:=hy i e' j a' h1 h2;exact hv _ _ _ _ (hr i e j a he ha)
 |ro0 hm hA hf hn=>
  obtain rfl:es'=[]:=List.length_eq_zero_iff.1 hl.symm;exact .ro0 hm hA hf hn
structure FT where
 pr:List Int
 rs:List Int
structure Im where
 mod:List Nat
 nm:List Nat
 ty:Int
structure Gl where
 mu:Bool
 kd:Int
 n:Int
structure Ex where
 nm:List Nat
 fn:Int
structure El where
 off:Int
 fs:List Int
structure Co where
 ls:List Int
 bd:List Ins
structure Da where
 off:Int
 bs:List Nat
structure Li where
 has:Bool
 mn:Int
 mx:Int
structure Md where
 ty:List FT
 im:List Im
 fn:List Int
 tb:Li
 me:Li
 gl:List Gl
 ex:List Ex
 el:List El
 co:List Co
 da:List Da
def NJ:Li:=⟨false,0,0⟩
def md0:Md:=⟨[],[],[],NJ,NJ,[],[],[],[],[]⟩
def dD (x:FT):List AV:=[.ro 1 (x.pr.map aP) .any,.ro 1 (x.rs.map aP) .any]
def eM (x:Im):List AV:=[.str (dC x.mod),.str (dC x.nm),.int .i64 x.ty]
def dZ (x:Gl):List AV:=[.bool x.mu,.int .i64 x.kd,.int .i64 x.n]
def eA (x:Ex):List AV:=[.str (dC x.nm),.int .i64 x.fn]
def dY (x:El):List AV:=[.int .i64 x.off,.ro 1 (x.fs.map aP) .any]
def dA (x:Co):List AV:=[.ro 1 (x.ls.map aP) .any,.ro 4 (x.bd.map (iv .any)) .any]
def eB (x:Da):List AV:=[.int .i64 x.off,.ro 1 (x.bs.map aG) .any]
def fC (x:Li):List AV:=[.bool x.has,.int .i64 x.mn,.int .i64 x.mx]
def bR (m:Md):List AV:=[.ro 2 (m.ty.map dD) .any,.ro 3 (m.im.map eM) .any,.ro 1 (m.fn.map aP) .any,.bool m.tb.has,.int .i64 m.tb.mn,.int .i64 m.tb.mx,.bool m.me.has,.int .i64 m.me.mn,.int .i64 m.me.mx,
 .ro 3 (m.gl.map dZ) .any,.ro 2 (m.ex.map eA) .any,.ro 2 (m.el.map dY) .any,.ro 2 (m.co.map dA) .any,.ro 2 (m.da.map eB) .any]
def bC {α:Type} (l:List α) (pt:α→List Nat):List Nat:=uB l.length++l.flatMap pt
def bQ (s:List Nat):List Nat:=uB s.length++s
def kB (k:Int):List Nat:=if(k==1)=true then [127]else [126]
def cG (n:Int):List Nat:=uB n.toNat
def mC (k n:Int):List Nat:=gG ⟨if(k==2)=true then 66 else 65,n,0,[]⟩++ [11]
def qF (n:Int):List Nat:=0::mC 1 n
def eK (l:Li):List Nat:=if decide (l.mx<0)=true then 0::cG l.mn else 1::(cG l.mn++cG l.mx)
def cC:List Int→List (List Int):=fun l=>l.foldl (fun r k=>match r.getLast? with
 |some (x::xs)=>if x==k then r.dropLast++ [(x::xs)++ [k]]else r++ [[k]]
 | _=>r++ [[k]]) []
def iE (r:List Int):List Nat:=cG r.length++kB (r.headD 0)
def kH (c:Co):List Nat:=uB (bC (cC c.ls) iE++iR c.bd).length++(bC (cC c.ls) iE++iR c.bd)
def bI {α:Type} (no:Nat) (l:List α) (pt:α→List Nat):List Nat:=if l.isEmpty then []else no::(uB (bC l pt).length++bC l pt)
def vT (t:FT):List Nat:=96::(bC t.pr kB++bC t.rs kB)
def iZ (x:Im):List Nat:=bQ x.mod++bQ x.nm++ [0]++cG x.ty
def uS (g:Gl):List Nat:=kB g.kd++ [if g.mu then 1 else 0]++mC g.kd g.n
def nI (x:Ex):List Nat:=bQ x.nm++ [0]++cG x.fn
def uT (x:El):List Nat:=qF x.off++bC x.fs cG
def wP (x:Da):List Nat:=qF x.off++uB x.bs.length++x.bs
def gP (l:Li):List Li:=if l.has then [l]else []
def headB:List Nat:=[0,97,115,109,1,0,0,0]
def fH (m:Md):List Nat:=headB++bI 1 m.ty vT++bI 2 m.im iZ++bI 3 m.fn cG++bI 4 (gP m.tb) (fun l=>112::eK l)++bI 5 (gP m.me) eK++bI 6 m.gl uS++bI 7 m.ex nI++bI 9 m.el uT++bI 10 m.co kH++bI 11 m.da wP
def iH (n:Int):Bool:=if decide (0≤n)=true then decide (n≤1000)else false
def zZ (k:Int):Bool:=if(k==1)=true then true else(k==2)
def uG (s:List Nat):Bool:=if(s.length !=0)=true then(decide (s.length≤16)&&s.all fun c=>decide (32≤c)&&decide (c≤126))else false
def kM (n:Int):Bool:=decide (-2147483648≤n)&&decide (n≤2147483647)
def lP (l:Li) (least most:Int):Bool:=if l.has then decide (0≤l.mn)&&decide (l.mn≤least)&&decide (-1≤l.mx)&&decide (l.mx≤most)else(l.mn==0&&l.mx==0)
def cO {α:Type} (l:List α) (most:Int) (p:α→Bool):Bool:=decide ((l.length:Int)≤most)&&l.all p
def mQ (k n:Int):Bool:=(k==1&&decide (-2147483648≤n)&&decide (n≤2147483647))||(k==2)
def qG (m:Md):Bool:=cO m.ty 16 (fun t=>cO t.pr 32 zZ&&cO t.rs 1 zZ)&&cO m.im 16 (fun x=>uG x.mod&&uG x.nm&&iH x.ty)&&cO m.fn (16-m.im.length) iH&&
 cO m.gl 16 (fun g=>mQ g.kd g.n)&&cO m.ex 16 (fun x=>uG x.nm&&iH x.fn)&&cO m.el 16 (fun x=>kM x.off&&cO x.fs 50 iH)&&cO m.da 16 (fun x=>kM x.off&&decide (x.bs.length≤1000))
def tK (c:Co):Bool:=xF (cU c.bd)&&cO c.ls 32 zZ&&cO c.bd 300 cY
def nR (m:Md):Bool:=(m.co.length==m.fn.length&&cO m.co 16 tK)&&qG m&&lP m.tb 16 1000&&lP m.me 16 65536&&decide ((fH m).length≤8000)
theorem GX{k n:Int}(h:mQ k n=true)(hn:-9223372036854775808≤n∧n≤9223372036854775807):(⟨if(k==2)=true then 66 else 65,n,0,[]⟩:Ins).Ok∧cY ⟨if(k==2)=true then 66 else 65,n,0,[]⟩=true∧(k=1∨k=2):=by
 unfold mQ at h;simp only[Bool.or_eq_true,Bool.and_eq_true,beq_iff_eq,decide_eq_true_eq]at h;rcases h with⟨⟨rfl,h1⟩,h2⟩|rfl
 ·refine⟨⟨by simp,by simp,hn.1,hn.2,by simp⟩, ?_,.inl rfl⟩;rw[if_neg (by decide)];have:aW 65=8:=by decide
  simp[cY,jB,this,kC];omega
 ·refine⟨⟨by simp,by simp,hn.1,hn.2,by simp⟩, ?_,.inr rfl⟩;rw[if_pos (by decide)];have:aW 66=9:=by decide
  simp[cY,jB,this]
theorem vU{P:Program}(w:World)(t u ty e:TypeId)(i:TypeInfo)(ht:P.underlying t=some (.slice e))(hu:P.underlying u=some .string)(hi:P.info? e=some i)(hs1:i.size=1)
  (g sLen sCap:Nat) (cur:Array Value) (fz:Nat×Nat) (hg:w.heap[g]? =some (.cells cur e fz)) (hz:Fz cur.size fz) (s:ByteArray)
  (hroom:sLen+s.size≤sCap) (hfit:sLen+s.size≤cur.size):
  (Builtin.append_ #[t,u] ty #[.slice (some ⟨g,0,none⟩) sLen sCap,.string s]).run P w=
   .ok (.slice (some ⟨g,0,none⟩) (sLen+s.size) sCap) (w.setRow g (cur.toList.take sLen++Lib.strCells s++cur.toList.drop (sLen+s.size)).toArray):=by
 have hf:=Lib.run_firstCells_string (P:=P) w 1 s;have hst:=gY (P:=P) g sLen e fz (Lib.strCells s) 0 cur w hg hz (by simpa[Lib.strCells_length]using hfit) (Lib.strCells_oneCell s);simp only[Nat.add_zero,Lib.strCells_length]at hst;simp[Builtin.append_,run_underlying ht,run_underlying hu,sizeOf,typeInfo,hi,hs1,Builtin.lenOf,hroom,hf,Addr.add_lit,hst]
theorem DT{P:Program}(w:World)(t u ty e:TypeId)(i:TypeInfo)(ht:P.underlying t=some (.slice e))(hu:P.underlying u=some .string)(hi:P.info? e=some i)(hz:i.zero=some (.int .u8 0))
  (hsize:i.size=1) (hby:i.bytes=1) (v:Value) (n:Nat) (xs:List Value) (hn:0<n) (hown:rowG w 0 e 1 v n xs) (s:ByteArray) (h63:n+s.size≤maxLen) (hbytes:n+s.size≤140737488355328):
  ∃v' w',(Builtin.append_ #[t,u] ty #[v,.string s]).run P w=.ok v' w'∧rowG w' 0 e 1 v' (n+s.size) (xs++Lib.strCells s)∧w.grownBy w' v.ownBlock∧(v'.ownBlock=v.ownBlock∨v'.ownBlock=some w.heap.size):=by
 rcases hown.2 with⟨rfl,rfl⟩|⟨g,cap,cur,fz,rfl,hbg,hg,hfz,hnc,hcm,hcs,htake⟩
 ·omega
 have hl:=Lib.strCells_length s;have hxl:xs.length=n:=by simpa using hown.1
 have hsmall:n+s.size≤9223372036854775807:=by simp only[maxLen]at h63;omega
 have hlen:(xs++Lib.strCells s).length=(n+s.size)*1:=by rw[List.length_append,hxl,hl,Nat.mul_one]
 rw[Nat.mul_one]at hcs htake;by_cases hroom:n+s.size≤cap
 ·have hr:=vU (P:=P) w t u ty e i ht hu hi hsize g n cap cur fz hg hfz s hroom (by omega);have hsz2:(cur.toList.take n++Lib.strCells s++cur.toList.drop (n+s.size)).toArray.size=cur.size:=by
   simp only[List.size_toArray,List.length_append,List.length_take,List.length_drop,Array.length_toList,hl];omega
  refine⟨_,_,hr,⟨hlen,.inr ⟨g,cap,_,fz,rfl,hbg,setRow_heap w g cur _ e _ hg,by rw[hsz2];exact hfz,hroom,hcm,by rw[hsz2];omega, ?_⟩⟩,⟨rfl,rfl,rfl,by simp,fun k _ hk=>setRow_other w g k _ (fun e=>hk (by simp[Value.ownBlock,e]))⟩,Or.inl rfl⟩;rw[htake,←hlen];exact List.take_left
 ·have holds:∀j u,xs[j]? =some u→w.cell? ((⟨g,0,none⟩:Addr).add j)=some u:=by
   intro j u hu;rw[Addr.add_lit,Nat.zero_add,cell_of_row w g j cur e fz hg,←Array.getElem?_toList];rw[←htake,List.getElem?_take]at hu;split at hu
   ·exact hu
   ·cases hu
  have hr:=Lib.run_append_grow_string (P:=P) w t u ty e i (.int .u8 0) ht hu hi hz ⟨g,0,none⟩ n cap xs (by rw[hsize];simpa using hxl) holds s (by omega) (by omega) (by rw[hby];exact growslice_fits (by omega) (by omega));have hge:=grownCap_ge w (n+s.size) cap e;have hcm:=grownCap_le_maxLen w (n+s.size) cap e h63;refine⟨_,_,hr,⟨hlen,.inr ⟨w.heap.size,_,_,(0,0),rfl,Nat.zero_le _,heap_alloc_new w.drew _,.inl rfl,hge,hcm, ?_, ?_⟩⟩,⟨rfl,rfl,rfl,by simp,fun k hk _=>heap_alloc_old w.drew _ hk⟩,Or.inr rfl⟩
  ·have hz1:(Value.int IntKind.u8 0).cells.size=1:=rfl;simp only[Array.size_append,List.size_toArray,size_zeroCells,hz1,hxl,hl];omega
  ·simp only[Array.toList_append,List.append_assoc];rw[←List.append_assoc,←hlen];exact List.take_left
section
variable {P : Program} {n : Nat} {s : ASt} {K : ASt → Prop} {ty t u : TypeId} {x y : Operand} {d : Nat}
theorem GY{e:TypeId} [Ty P t (.slice e)] [Ty P u .string] [Tz P e 1 1 (.int .u8 0)] {r len:Nat}{es:List (List AV)}{b:List Nat}(hb:aev s x=some (.own r 0 len))(hg:gN s.σ r=some (.arr e 1 es))(hlen:len≤es.length)(hpos:0<len)(hy:aev s y=some (.str (dC b)))(hlt:∀c∈b,c<256)
  (hmax:len+b.length≤140737488355328) (hd:d<n)
  (hK:∀r',Fresh r' (eO [r] s.σ)→K ⟨(d,.own r' 0 (len+(b.map aG).length))::s.fr,(r',.arr e 1 (es.take len++b.map aG))::eO [r] s.σ⟩):Hop P n (.call { callee:=.builtin .append,args:=#[x,y],argTypes:=#[t,u] }) ty (some d) s [r] K:=by
 intro M F N a w o ho hty hdst hr next Q hnext
 have hbase:=hr.aev hb;have hmem:=bX hg;obtain⟨h0,hrowsE,h3⟩:=hr.st.ent _ hmem;obtain⟨i,hi,hz0,hs0,hb0⟩:=Tz.parts P e;have he:a.eval y=.string (dC b):=by
  have:=hr.aev hy;generalize a.eval y=v at this⊢;cases this;rfl
 have hsl:(dC b).size=(b.map aG).length:=by simp[dC,ByteArray.size]
 have hnews:Lib.strCells (dC b)=b.map (fun c:Nat=>Value.int .u8 (c:Int)):=by
  unfold Lib.strCells dC;simp only[List.map_map];refine List.map_congr_left fun c hc=> ?_
  have:=hlt c hc;simp[Nat.mod_eq_of_lt this]
 have hrows:RowsAt M F w 1 (b.map aG) (Lib.strCells (dC b)):=by
  rw[hnews];refine⟨by simp,fun i x j a u hi hj hu=> ?_⟩;simp only[List.getElem?_map,Option.map_eq_some_iff]at hi hu;obtain⟨c,hc,rfl⟩:=hi
  match j,hj with
  |0,hj=>
   obtain rfl:=Option.some.inj hj;obtain⟨c',hc',rfl⟩:=hu;rw[Nat.mul_one,Nat.add_zero]at hc';obtain rfl:=Option.some.inj (hc.symm.trans hc');exact .int _ _
  |j+1,hj=>cases hj
 have hok:gZ 1 (b.map aG):=by
  intro x hx;obtain⟨c,-,rfl⟩:=List.mem_map.1 hx;exact⟨rfl,by simp[aG,AV.cell]⟩
 generalize hys:b.map aG=ys at hrows hok hsl hK⊢;have hyl:ys.length=b.length:=by rw[←hys];simp
 obtain⟨news,hns⟩:∃news,news=Lib.strCells (dC b):=⟨_,rfl⟩
 rw[←hns]at hrows;have hokT:gZ 1 (es.take len):=fun x hx=>hrowsE x (List.mem_of_mem_take hx)
 have hlenT:(es.take len).length=len:=by rw[List.length_take];omega
 --what the row holds
 have hown:∃v xs,a.eval x=v∧rowG w 0 e 1 v len xs∧RowsAt M F w 1 (es.take len) xs∧(∀g,v.ownBlock=some g→cD M r=some g)∨(∃A,a.eval x=.slice A 0 0∧len=0∧v=.slice A 0 0∧xs=[]):=by
  generalize a.eval x=u at hbase⊢;cases hbase with
  |own0=>exact⟨_,[],.inr ⟨_,rfl,rfl,rfl,rfl⟩⟩
  |own hM hle hmm=>
   rcases h3 with⟨hv',_⟩|⟨g,cc,vs,hM',hcl,hsz,hle',hmax',hvr⟩
   ·rw[hM]at hv';cases hv'
   ·have hg':=hM'.symm.trans hM;simp only[Option.some.injEq,Blk'.row.injEq]at hg';obtain⟨q1,q2,q3⟩:=hg';subst q1;subst q2;subst q3;obtain⟨fz,hcl,hfz⟩:=hcl;have hfit:len*1≤vs.size:=by rw[hsz];exact Nat.mul_le_mul_right _ (by omega)
    refine⟨_,vs.toList.take (len*1),.inl ⟨rfl,⟨by rw[List.length_take];simp;omega,.inr ⟨g,cc,vs,fz,by simp,Nat.zero_le _,hcl,hfz,by omega,hmm,hsz,rfl⟩⟩,⟨by rw[hlenT,List.length_take];simp;omega,fun i' x' j b u hi' hj hu=> ?_⟩,fun g2 hg2=> ?_⟩⟩
    ·have hil:=(List.getElem?_eq_some_iff.1 hi').1;rw[hlenT]at hil;have hjs:j<1:=by rw[←(hokT x' (List.mem_of_getElem? hi')).1];exact(List.getElem?_eq_some_iff.1 hj).1
     rw[List.getElem?_take_of_lt hil]at hi';rw[List.getElem?_take_of_lt (jP hil hjs)]at hu;exact hvr i' x' j b u hi' hj (by simpa using hu)
    ·simp only[Value.ownBlock,Option.some.injEq]at hg2;subst hg2;simp[cD,hM]
 obtain⟨v,xs,hown|⟨B,hx,rfl,rfl,rfl⟩⟩:=hown
 ·obtain⟨hx,hown,hrT,hblk⟩:=hown;obtain⟨v',w',hrun,ho',hg',hbl⟩:=DT (P:=P) w t u o.type e i (Ty.und (P:=P) (t:=t)) (Ty.und (P:=P) (t:=u)) hi hz0 hs0 hb0 v len xs hpos hown (dC b) (by rw[hsl];simp[maxLen];omega) (by rw[hsl];omega);rw[hsl,←hns]at ho';have hex:(execOp a.eval o).run P w=.ok (.value v') w':=by
   simp only[execOp,ho,resolve,invoke,builtin,Sem.run_bind,Sem.run_pure,Result.andThen_ok,List.map_toArray,List.map_cons,List.map_nil,hx,he,hrun]
  unfold Oper.wp;rw[hex,Oper.upon_value,hdst];have honly:Only (fun k=>cD M r=some k) w w':=⟨hg'.os,hg'.tape,hg'.output,hg'.size,fun k hk hne=>hg'.block k hk (fun e=>hne (hblk k e.symm))⟩
  have hSame:Same F w w':=fun g hgF=>honly.block g (hr.st.flt g hgF) (fun e=>hr.st.nof g ⟨_,hmem,e⟩ hgF)
  have hcat:RowsAt M F w 1 (es.take len++ys) (xs++news):=hrT.append hokT hrows;have hokC:gZ 1 (es.take len++ys):=fun x hx=>(List.mem_append.1 hx).elim (hokT x) (hok x)
  rcases ho'.2 with⟨rfl,hz'⟩|⟨g2,cap,cur,jU,rfl,_,hg2,hfz2,hn2,hm2,hs2,ht2⟩
  ·have hl0:len=0:=by omega
   have hy0:ys=[]:=List.eq_nil_of_length_eq_zero (by omega);subst hl0;subst hy0;have hE:ER (fZ M N .virt) F w' N (.arr e 1 (es.take 0++ [])):=⟨h0,fun x hx=>by simp at hx,.inl ⟨cN _,by simp⟩⟩
   obtain⟨r1,e1,n1,o1⟩:=hr.move_ hmem .virt honly (fun g hg=>by simp[cD,cN]at hg) hE;exact hnext _ F (N+1) _ _ ⟨(d,.own N 0 (0+0))::s.fr,_⟩ (r1.put hd .own0) e1 o1 (hK N n1)
  ·have hE:ER (fZ M N (.row g2 cap 1)) F w' N (.arr e 1 (es.take len++ys)):=by
    refine⟨h0,hokC,.inr ⟨g2,cap,cur,cN _,⟨jU,hg2,hfz2⟩,hs2,by rw[List.length_append,hlenT];exact hn2,hm2,fun i' x' j b u hi' hj hu=> ?_⟩⟩;refine VR.mono (fun r b' h=>pS hr.st.fresh _ h) (fun _ h=>h) hSame (hcat.2 i' x' j b u hi' hj ?_);have hil:=(List.getElem?_eq_some_iff.1 hi').1;rw[List.length_append,hlenT]at hil;have hjs:j<1:=by rw[←(hokC x' (List.mem_of_getElem? hi')).1];exact(List.getElem?_eq_some_iff.1 hj).1
    rw[←ht2,List.getElem?_take_of_lt (jP hil hjs)];simpa using hu
   obtain⟨r1,e1,n1,o1⟩:=hr.move_ hmem (.row g2 cap 1) honly (fun g hg=>by
    simp only[cD,cN,Option.some.injEq]at hg;subst hg;rcases hbl with h|h
    ·exact .inl (hblk g2 (h.symm.trans rfl))
    ·simp only[Value.ownBlock,Option.some.injEq]at h;exact .inr (by omega)) hE
   have hv:=VR.own (M:=fZ M N (.row g2 cap 1)) (F:=F) (w:=w') (t:=N) (off:=0) (len:=len+ys.length) (cN _) (by omega) hm2;simp only[Nat.zero_mul,Nat.sub_zero]at hv;exact hnext _ F (N+1) _ _ ⟨(d,.own N 0 (len+ys.length))::s.fr,_⟩ (r1.put hd hv) e1 o1 (hK N n1)
 ·omega
end
section
variable {P : Program} {n : Nat} {ops : Array Oper} {rest : List Oper} {fr : Fr} {σ : dS} {K : ASt → Prop} {ty t u : TypeId} {pos : String} {af : Array Edge} {x y : Operand} {d : Nat}
theorem apS{e:TypeId} [Ty P t (.slice e)] [Ty P u .string] [Tz P e 1 1 (.int .u8 0)] {r len:Nat}(vs b:List Nat)(hlt:∀c∈b,c<256)
  (hK:∀r',Fresh r' (eO [r] σ)→∃σ',SSet σ r (.arr e 1 (vs.map aG)) r' (.arr e 1 ((vs++b).map aG)) σ'∧RS P n ops rest ⟨(d,.own r' 0 (vs++b).length)::fr,σ'⟩ K)
  (hb:aev ⟨fr,σ⟩ x=some (.own r 0 len):=by rfl) (hg:gN σ r=some (.arr e 1 (vs.map aG)):=by exact bA) (hlen:len=vs.length:=by exact KU) (hpos:0<len:=by first|omega|(simp;omega)) (hy:aev ⟨fr,σ⟩ y=some (.str (dC b)):=by rfl)
  (hmax:len+b.length≤140737488355328:=by(simp;try omega)) (hd:Nat.ble (d+1) n=true:=by rfl):
  RS P n ops (⟨some d,.call { callee:=.builtin .append,args:=#[x,y],argTypes:=#[t,u] },ty,pos,af,none⟩::rest) ⟨fr,σ⟩ K:=by
 refine gK (GY hb hg (by simp;omega) hpos hy hlt hmax (cW hd) fun r' hf=> ?_);obtain⟨σ',hs,hK⟩:=hK r' hf;dsimp only;rw[hlen,show vs.length=(vs.map aG).length by simp,List.take_length,←List.map_append];refine BN (fun p hp=>hs.sub p hp) ?_;rw[show(vs.map aG).length+(b.map aG).length=(vs++b).length by simp];exact hK
end
theorem jD{P:Program}{n:Nat}{ops:Array Oper}{listed:Array Bool}{rest:List (Nat×Bool)}{held:List (Nat×List Nat)}{s:ASt}{K:ASt→Prop}{z:Nat}{zb:Bool}(i j:Nat)(t1 t2:List (Nat×Bool)){dst dst':Option Nat}{op op':Op}{ty ty':TypeId}{pos pos':String}{af af':Array Edge}{f1 f2:List Nat}
  (hr:(Region.ready .any ops listed==[i,j]&&(t1.length==rest.length)&&(t2.length==rest.length)&&GE ops (listed.setIfInBounds i true) t1&&GE ops (listed.setIfInBounds j true) t2)=true)
  (hi:ops[i]? =some ⟨dst,op,ty,pos,af,none⟩) (hj:ops[j]? =some ⟨dst',op',ty',pos',af',none⟩)
  (h1:Hop P n op ty dst s f1 fun s'=>RD P n ops (listed.setIfInBounds i true) t1 held s' K) (h2:Hop P n op' ty' dst' s f2 fun s'=>RD P n ops (listed.setIfInBounds j true) t2 held s' K)
  (g1:f1=[]∨((∀r∈f1,r∈s.σ.map (·.1))∧HB ops i (s.σ.map (·.1)) f1 held)) (g2:f2=[]∨((∀r∈f2,r∈s.σ.map (·.1))∧HB ops j (s.σ.map (·.1)) f2 held)):RD P n ops listed ((z,zb)::rest) held s K:=by
 intro hsel _ M F N a w hr0;simp only[Bool.and_eq_true,beq_iff_eq]at hr;obtain⟨⟨⟨⟨hrd,hl1⟩,hl2⟩,hc1⟩,hc2⟩:=hr;have main:∀ {k:Nat} {t:List (Nat×Bool)} {dst:Option Nat} {op:Op} {ty:TypeId} {pos:String} {af:Array Edge} {fp:List Nat},t.length=rest.length→GE ops (listed.setIfInBounds k true) t=true→ops[k]? =some ⟨dst,op,ty,pos,af,none⟩→
   Hop P n op ty dst s fp (fun s'=>RD P n ops (listed.setIfInBounds k true) t held s' K)→(fp=[]∨((∀r∈fp,r∈s.σ.map (·.1))∧HB ops k (s.σ.map (·.1)) fp held))→wpOp P ops (PostN n M F N w s.σ K) k (fun a' w'=>(∀g,Hd ops M F held k g→g<w.heap.size→w'.heap[g]? =w.heap[g]?)∧vC P .any ops (PostN n M F N w s.σ K) (Hd ops M F held) rest.length (listed.setIfInBounds k true) a' w') a w:=by
  intro k t dst op ty pos af fp hl hc hk h hfp;unfold wpOp;simp only[hk];rw[if_pos (by simp[Region.wanted])];refine .inl (h M F N a w _ rfl rfl rfl hr0 _ _ fun M' F' N' a' w' s' hr' he ho hk'=>⟨fun g hg hlt=> ?_, ?_⟩)
  ·rcases hg with hg|⟨r,hrh,hg⟩
   ·exact he.only.block g hlt (fun hB=>hr0.st.nof g hB hg)
   ·rcases hfp with rfl|⟨hf1,hb⟩
    ·exact ho.block g hlt (by simp)
    ·obtain⟨h1,h2⟩:=hb.held r hrh;obtain⟨p,hp,rfl⟩:=List.mem_map.1 h1;refine ho.block g hlt ?_;rintro⟨q,hq,hqg⟩;obtain⟨p2,hp2,rfl⟩:=List.mem_map.1 (hf1 q hq);exact h2 (by rw[hr0.st.inj p hp p2 hp2 g hg hqg];exact hq)
  ·rw[←hl];refine jG (PostN.ext he) ?_ _ _ _ _ (hk' hsel hc M' F' N' a' w' hr');rintro j' g (hg|⟨r,hrr,hg⟩)
   ·exact .inl (he.ff g hg)
   ·refine .inr ⟨r,hrr, ?_⟩;unfold cD at hg⊢;cases hm:M r with
    |none=>rw[hm]at hg;cases hg
    |some b=>rw[hm]at hg;rw[he.mm _ _ hm];exact hg
 refine⟨fun h0=>by rw[hrd]at h0;simp at h0,fun k hk=> ?_⟩;rw[hrd]at hk;rcases List.mem_cons.1 hk with rfl|hk
 ·exact main hl1 hc1 hi h1 g1
 ·obtain rfl:=List.mem_singleton.1 hk;exact main hl2 hc2 hj h2 g2
theorem xR{P:Program}{n:Nat}{fr:Fr}{σ:dS}{K:ASt→Prop}{ty t:TypeId}{d:Nat}{e:TypeId}{sz by_:Nat}{zv:Value}{len:Nat}{parts:Array (Nat×Operand)}{vs:List AV}{es:List (List AV)}(i1:Ty P t (.slice e))(i2:Tz P e sz by_ zv)(hv:AEvs ⟨fr,σ⟩ (parts.toList.map (·.2)) vs)(hp:parts.toList=sD 0 (parts.toList.map (·.2)))(hlen:(len==vs.length)=true)(h0:(decide (0<sz)&&decide (len*sz≤16777216))=true)
  (hc:(vs.all fun v=>v.cells.length==sz&&v.cells.all AV.cell)=true) (he:vs.map AV.cells=es) (hd:Nat.ble (d+1) n=true) (hK:∀r,Fresh r σ→K ⟨(d,.own r 0 len)::fr,(r,.arr e sz es)::σ⟩):Hop P n (.buildSlice t len parts) ty (some d) ⟨fr,σ⟩ [] K:=by
 subst he;exact oU hp hv hlen h0 hc (cW hd) hK
theorem UK{s s':ASt}(ts:List Nat)(hf:∀i x',dW s'.fr i=some x'→∃x,dW s.fr i=some x∧Bor s.σ ts x x')(hσ:∀p∈s'.σ,p.1∉ts∧∃x,(p.1,x)∈s.σ∧∀(M:Mp) (F:Nat→Prop) (N:Nat) (w:World),SR M F N w s.σ→ER M F w p.1 x→ER M (FPlus M F s.σ ts) w p.1 p.2):SGo s s':=by
 intro M F N n a w hr;refine⟨M,FPlus M F s.σ ts,N,⟨hr.size,hr.defers,fun i x' hi=> ?_, ?_, ?_, ?_,fun b hb=>hb.flt hr.st,hr.st.fresh⟩,fun _ _ h=>h,fun _ h=>.inl h,Nat.le_refl _,Only.refl _ _, ?_, ?_, ?_⟩
 ·obtain⟨x,hx,hb⟩:=hf i x' hi;exact hb.vr hr.st (hr.fr i x hx)
 ·intro p hp;obtain⟨_,x,hx,hb⟩:=hσ p hp;exact hb M F N w hr.st (hr.st.ent _ hx)
 ·intro p hp q hq g h1 h2;obtain⟨_,x,hx,_⟩:=hσ p hp;obtain⟨_,y,hy,_⟩:=hσ q hq;exact hr.st.inj (p.1,x) hx (q.1,y) hy g h1 h2
 ·rintro g ⟨p,hp,hg⟩ hF;obtain⟨hn,x,hx,_⟩:=hσ p hp;rcases hF with hF|⟨q,hq,hqt,hqg⟩
  ·exact hr.st.nof g ⟨_,hx,hg⟩ hF
  ·exact hn (by have:=hr.st.inj _ hx _ hq g hg hqg;simp only at this;rw[this];exact hqt)
 ·rintro g ⟨p,hp,hg⟩ _;obtain⟨_,x,hx,_⟩:=hσ p hp;exact⟨_,hx,hg⟩
 ·rintro b (hb|⟨q,hq,_,hqg⟩)
  ·exact .inl hb
  ·exact .inr (.inr ⟨q,hq,hqg⟩)
 ·intro p hp _;obtain⟨_,x,hx,_⟩:=hσ p hp;exact⟨_,hx,rfl⟩
theorem ZR{fr:Fr}{σ σ1 σ':dS}{r q:Nat}{et:TypeId}{sz:Nat}{es es':List (List AV)}{e:Ent}(hs:SSet σ r (.arr et sz es) r (.arr et sz es') σ1)(hd:SDel σ1 q e σ')(hl:es'.length=es.length)(hok:gZ sz es')
  (hb:∀(i:Nat) (x x':List AV),es[i]? =some x→es'[i]? =some x'→BorL σ [q] x x'):SGo ⟨fr,σ⟩ ⟨fr,σ'⟩:=by
 refine UK [q] (fun i x' hi=>⟨x',hi,.refl _⟩) (fun p hp=> ?_);obtain⟨h1,h2⟩:=hd.sub p hp;refine⟨by simpa using h2, ?_⟩;rcases List.mem_cons.1 (hs.sub p h1)with rfl|h
 ·refine⟨_,bX hs.get,fun M F N w hr hx=> ?_⟩;obtain⟨g0,g1,g2⟩:=hx;refine⟨g0,hok, ?_⟩;rcases g2 with⟨k1,k2⟩|⟨g,c,vs,k1,k2,k3,k4,k5,k6⟩
  ·refine .inl ⟨k1, ?_⟩;subst k2;exact List.length_eq_zero_iff.1 hl
  ·refine .inr ⟨g,c,vs,k1,k2,k3,by rw[hl];exact k4,k5,fun i x' j a' u hi hj hu=> ?_⟩;have hil:=(List.getElem?_eq_some_iff.1 hi).1;have hx:es[i]? =some (es[i]'(by omega)):=List.getElem?_eq_getElem (by omega);obtain⟨hbl,hbe⟩:=(hb i _ x' hx hi).at_;have hjl:=(List.getElem?_eq_some_iff.1 hj).1;have ha:(es[i]'(by omega))[j]? =some ((es[i]'(by omega))[j]'(by omega)):=List.getElem?_eq_getElem (by omega);refine(hbe j a' hj).vr hr ?_;rw[List.getD_eq_getElem?_getD,ha,Option.getD_some];exact k6 i _ j _ u hx ha hu
 ·exact⟨p.2,(eT h).1,fun M F N w hr hx=>hx.mono (fun _ _ h=>h) (fun _ h=>.inl h) (fun _ _=>rfl) (fun _ _=>rfl)⟩
end Go.Proofs.YtjpdadobblffmaaGreat
namespace Go.Proofs.YtjpdadobblffmaaGreat
open Go.RowKit Go.ChangeShapes Go.WideShapes Go.ChangeAt Go.Deep
attribute [local irreducible] SW RS RD fG eH
def iS (P:Program) (t8:TypeId) (f:FuncId) {α:Type} (ar:α→AV) (pt:α→List Nat) (ok:α→Prop) (c B:Nat):Prop:=
 (∀args w,(callFunc f args).run P w=.ok (.enter f args) w)∧∀(q:Nat) (vs:List Nat) (x:α),ok x→0<vs.length→vs.length≤B→(pt x).length≤c∧
  SCall P f ([]++ [.own q 0 vs.length,ar x]++ []) [(q,.arr t8 1 (vs.map aG))] (fun y σ=>∃r,y=.own r 0 (vs++pt x).length∧σ=[(r,.arr t8 1 ((vs++pt x).map aG))])
theorem gQ{P:Program}{t8:TypeId}{f:FuncId}{α:Type}{ar:α→AV}{pt:α→List Nat}{ok:α→Prop}{c B:Nat}(hf:iS P t8 f ar pt ok c B)(hB:1≤B){l:List α}(hl:∀x∈l,ok x)(j:Nat):((l.take j).flatMap pt).length≤l.length*c:=by
 have h1:∀(l:List α),(∀x∈l,ok x)→(l.flatMap pt).length≤l.length*c:=by
  intro l
  induction l with
  |nil=>simp
  |cons x l ih=>
   intro h;have:=ih fun y hy=>h y (List.mem_cons_of_mem _ hy)
   have hx:=(hf.2 0 [0] x (h x List.mem_cons_self) (by simp) hB).1;rw[List.flatMap_cons,List.length_append,List.length_cons,Nat.add_mul];omega
 refine Nat.le_trans (h1 (l.take j) fun x hx=>hl x (List.mem_of_mem_take hx)) (Nat.mul_le_mul_right c ?_);simp;omega
theorem eI(q:Nat)(vs:List Nat)(hvs:vs.length≤50000000)(n:Nat)(hn:n<9223372036854775808):SCall Tryz.prog 135 [.own q 0 vs.length,.int .i64 n] [(q,.arr 5 1 (vs.map aG))]
  (fun y σ=>∃r,y=.own r 0 (vs++uB n).length∧σ=[(r,.arr 5 1 ((vs++uB n).map aG))]):=by
 refine cF 9 [0,1,4] Tryz.func135 ?_;refine mW ?_;refine XA ?_;refine cw [(q,.arr 5 1 (vs.map aG))] Tryz.call239 (nB q vs (by omega) n (by omega)) rfl aC aA ?_;rintro _ σ' ⟨r8,rfl,rfl⟩ h8;have k8:=aZ h8;repeat rcases k8 with⟨_,k8⟩
 refine eZ ?_;exact aE aF ⟨r8,by rfl,rfl⟩ aA
theorem eF{fr:Fr}{σ:dS}{j:Nat}{x y:AV}(h:dW fr j=some x)(hv:VLe x y):SGo ⟨fr,σ⟩ ⟨(j,y)::fr,σ⟩:=by
 refine SGo.of_le (fun i z hi=> ?_) (fun p hp=>hp);by_cases hij:i=j
 ·subst hij;rw[show dW ((i,y)::fr) i=some y by simp[dW]]at hi;obtain rfl:=Option.some.inj hi;exact⟨_,h,hv⟩
 ·rw[show dW ((j,y)::fr) i=dW fr i by simp[dW];intro e;exact absurd e hij]at hi;exact⟨z,hi,VLe.refl z⟩
theorem VLe.agg {cs cs':List AV}(hl:cs.length=cs'.length)(h:∀(j:Nat) (a a':AV),cs[j]? =some a→cs'[j]? =some a'→VLe a a'):VLe (.agg cs) (.agg cs'):=fun M F w v hv=>by
 cases hv with
 |agg hn hc=>
  refine .agg (hn.trans hl) fun j a' u ha' hu=> ?_
  have hj:=(List.getElem?_eq_some_iff.1 ha').1;have ha:cs[j]? =some (cs[j]'(by omega)):=List.getElem?_eq_getElem (by omega);exact h j _ a' ha ha' _ _ _ _ (hc j _ u ha hu)
theorem FL{op a b:Int}:VLe (.agg [.int .i64 op,.int .i64 a,.int .i64 b,.ro 0 [] .nil]) (.agg (iv .any ⟨op,a,b,[]⟩)):=by
 refine VLe.agg rfl fun j a a' ha ha'=> ?_
 match j with
 |0=>cases ha;cases ha';exact VLe.refl _
 |1=>cases ha;cases ha';exact VLe.refl _
 |2=>cases ha;cases ha';exact VLe.refl _
 |3=>cases ha;cases ha';exact VLe.empty
 | _ +4=>cases ha
theorem nS(q:Nat)(vs:List Nat)(hpos:0<vs.length)(hvs:vs.length≤20000000)(b:List Nat)(hb:b.length≤1000)(hlt:∀c∈b,c<256):SCall Tryz.prog 136 [.own q 0 vs.length,.str (dC b)] [(q,.arr 5 1 (vs.map aG))]
  (fun y σ=>∃r,y=.own r 0 (vs++bQ b).length∧σ=[(r,.arr 5 1 ((vs++bQ b).map aG))]):=by
 have hu:=bP 1 b.length (by omega);refine cF 11 [0,1,4] Tryz.func136 ?_;refine mW ?_;refine lo (fU (E rfl)) rfl ?_;rw[jC];refine cw [(q,.arr 5 1 (vs.map aG))] Tryz.call135 (eI q vs (by omega) b.length (by omega)) rfl aC aA ?_;rintro _ σ' ⟨r8,rfl,rfl⟩ h8;have k8:=aZ h8;repeat rcases k8 with⟨_,k8⟩
 refine xZ ?_;refine apS (vs++uB b.length) (b) hlt ?_;refine bH fun r10 h10=> ?_;intros
 refine dE ?_;rw[show vs++uB b.length++b=vs++bQ b by unfold bQ;rw[List.append_assoc]];exact aE aF ⟨r10,by rfl,rfl⟩ aA
theorem tL(q:Nat)(vs:List Nat)(hvs:vs.length≤20000000)(k:Int):SCall Tryz.prog 132 [.own q 0 vs.length,.int .i64 k] [(q,.arr 5 1 (vs.map aG))]
  (fun y σ=>∃r,y=.own r 0 (vs++kB k).length∧σ=[(r,.arr 5 1 ((vs++kB k).map aG))]):=by
 refine cF 13 [0,1,4,6] Tryz.func132 ?_;refine iD ?_;refine rO ?_;refine aB rfl (fun g1=> ?_) (fun g1=> ?_)
 ·rw[show kB k=[127] by unfold kB;rw[if_pos g1]];refine dM ?_;refine eN fun r8 h8=> ?_;intros
  refine iY ((vs++ [127]).map aG) (vs++ [127]).length ?_;refine bH fun r9 h9=> ?_;intros
  refine dE ?_;exact aE aF ⟨r9,by rfl,rfl⟩ aA
 rw[show kB k=[126] by unfold kB;rw[if_neg (by simp[g1])]];refine dM ?_;refine eN fun r11 h11=> ?_;intros
 refine iY ((vs++ [126]).map aG) (vs++ [126]).length ?_;refine bH fun r12 h12=> ?_;intros
 refine dE ?_;exact aE aF ⟨r12,by rfl,rfl⟩ aA
theorem rQ(q:Nat)(vs:List Nat)(hvs:vs.length≤20000000)(k n:Int)(hv:mQ k n=true)(hn:-9223372036854775808≤n∧n≤9223372036854775807):SCall Tryz.prog 144 [.own q 0 vs.length,.agg [.int .i64 k,.int .i64 n]] [(q,.arr 5 1 (vs.map aG))]
  (fun y σ=>∃r,y=.own r 0 (vs++mC k n).length∧σ=[(r,.arr 5 1 ((vs++mC k n).map aG))]):=by
 obtain⟨ho,hm,-⟩:=GX hv hn;have hpl:=vQ ho hm;have hcB:mC k n=gG ⟨if(k==2)=true then 66 else 65,n,0,[]⟩++ [11]:=rfl;rw[hcB];generalize hop:(if(k==2)=true then(66:Int)else 65)=op at ho hm hpl hcB⊢;have hop:=hop.symm;refine cF 17 [0,1,3,4,5,8] Tryz.func144 ?_;refine dX ?_;refine iQ fun r3 h3=> ?_;intros
 refine lJ ?_;refine iW ?_;refine rO ?_;refine aB rfl (fun g2=> ?_) (fun g2=> ?_)
 ·have hco:cV (.int .i64 66)=AV.int .i64 op:=by rw[hop,if_pos g2];rfl
  refine bM ?_;rw[hco];refine kK ?_;refine fW ?_;refine jK ?_;refine iK (eF (j:=13) rfl FL) ?_;refine cw [(q,.arr 5 1 (vs.map aG))] Tryz.call242 (BS q vs (by omega) .any ⟨op,n,0,[]⟩ ho hm) rfl aC aA ?_;rintro _ σ' ⟨r14,rfl,rfl⟩ h14;have k14:=aZ h14;repeat rcases k14 with⟨_,k14⟩
  apply aY;exact bN;refine eN fun r15 h15=> ?_;intros
  refine iY ((vs++gG ⟨op,n,0,[]⟩++ [11]).map aG) (vs++gG ⟨op,n,0,[]⟩++ [11]).length ?_;refine bH fun r16 h16=> ?_;intros
  refine dE ?_;rw[List.append_assoc];exact aE aF ⟨r16,by rfl,rfl⟩ aA
 have hco:cV (.int .i64 65)=AV.int .i64 op:=by rw[hop,if_neg (by simp[g2])];rfl
 refine aJ ?_;rw[hco];refine kK ?_;refine fW ?_;refine jK ?_;refine iK (eF (j:=13) rfl FL) ?_;refine cw [(q,.arr 5 1 (vs.map aG))] Tryz.call242 (BS q vs (by omega) .any ⟨op,n,0,[]⟩ ho hm) rfl aC aA ?_;rintro _ σ' ⟨r14,rfl,rfl⟩ h14;have k14:=aZ h14;repeat rcases k14 with⟨_,k14⟩
 apply aY;exact bN;refine z1 ?_;refine bL fun r15 h15=> ?_;repeat rcases h15 with⟨_,h15⟩
 refine iY ((vs++gG ⟨op,n,0,[]⟩++ [11]).map aG) (vs++gG ⟨op,n,0,[]⟩++ [11]).length ?_;refine bH fun r16 h16=> ?_;intros
 refine dE ?_;rw[List.append_assoc];exact aE aF ⟨r16,by rfl,rfl⟩ aA
theorem aIo{f:FuncId}{pt:FT→List Nat}{ok:FT→Prop}{c B:Nat}(hf:iS Tryz.prog 5 f (fun x=>.agg (dD x)) pt ok c B)(hB:B≤50000000)(q:Nat)(vs:List Nat)(l:List FT)(hok:∀x∈l,ok x)(hl:l.length≤1000)(hb:vs.length+10+l.length*c≤B):
  SCall Tryz.prog 237 [.own q 0 vs.length,.ro 2 (l.map dD) .any,.fn (.func f) [] []] [(q,.arr 5 1 (vs.map aG))] (fun y σ=>∃r,y=.own r 0 (vs++bC l pt).length∧σ=[(r,.arr 5 1 ((vs++bC l pt).map aG))]):=by
 have hu:=bP 1 l.length (by omega);have hup:=iG l.length;have hpc:=gQ hf (by omega) hok;refine cF 25 [0,1,2,6,8,13,14,15,16] Tryz.func237 ?_;refine mW ?_;refine kU ?_;refine cw [(q,.arr 5 1 (vs.map aG))] Tryz.call135 (eI q vs (by omega) l.length (by omega)) rfl aC aA ?_;rintro _ σ' ⟨r12,rfl,rfl⟩ h12;have k12:=aZ h12;repeat rcases k12 with⟨_,k12⟩
 refine eZ ?_;refine iC ?_;refine oH ?_;refine lp (β:=Nat×Nat) (fun b=>⟨[(0,.own b.1 0 (vs++uB l.length++(l.take b.2).flatMap pt).length),(2,.fn (.func f) [] []),(13,.ro 2 (l.map dD) .any),(14,.int .i64 l.length),(15,.int .i64 b.2)],[(b.1,.arr 5 1 ((vs++uB l.length++(l.take b.2).flatMap pt).map aG))]⟩) (fun b=>b.2≤l.length) (fun b=>l.length-b.2) (r12,0) (by dsimp only;rw[show vs++uB l.length++(l.take 0).flatMap pt=vs++uB l.length by simp];(exact aL)) (Nat.zero_le _) ?_;rintro⟨q1,j⟩ hj;have hpj:=hpc j;have hsl:(vs++uB l.length++(l.take j).flatMap pt).length=vs.length+(uB l.length).length+((l.take j).flatMap pt).length:=by simp[Nat.add_assoc]
 dsimp only at hj⊢;refine jR ?_;refine aB rfl (fun g3=> ?_) (fun g3=> ?_)
 ·have hlt:j<l.length:=by simp at g3;omega
  obtain⟨x,hx⟩:∃x,l[j]? =some x:=⟨_,List.getElem?_eq_getElem hlt⟩
  have hnx:vs++uB l.length++(l.take (j+1)).flatMap pt=vs++uB l.length++(l.take j).flatMap pt++pt x:=by rw[List.take_add_one,hx,List.flatMap_append];simp
  refine dX ?_;refine qX ?_;refine jU fun r8 h8=> ?_;intros
  refine xM ?_;refine oS ?_;refine qY [(q1,.arr 5 1 ((vs++uB l.length++(l.take j).flatMap pt).map aG))] rfl hf.1 (hf.2 q1 _ x (hok x (List.mem_of_getElem? hx)) (by omega) (by omega)).2 rfl aC aA ?_;rintro _ σ' ⟨r22,rfl,rfl⟩ h22;have k22:=aZ h22;repeat rcases k22 with⟨_,k22⟩
  refine tY ?_;refine⟨(r22,j+1),hlt,by show l.length-(j+1)<l.length-j;omega, ?_⟩;dsimp only;rw[hnx];exact aL
 obtain rfl:j=l.length:=by simp at g3;omega
 refine fA ?_;rw[show vs++uB l.length++(l.take l.length).flatMap pt=vs++bC l pt by rw[List.take_length,List.append_assoc];rfl];exact aE aF ⟨q1,by rfl,rfl⟩ aA
theorem aE3{f:FuncId}{pt:FT→List Nat}{ok:FT→Prop}{c B:Nat}(hf:iS Tryz.prog 5 f (fun x=>.agg (dD x)) pt ok c B)(hB:B≤50000000)(l:List FT)(hok:∀x∈l,ok x)(hl:l.length≤1000)(hb:10+l.length*c≤B):
  SCall Tryz.prog 237 [.ro 0 [] .nil,.ro 2 (l.map dD) .any,.fn (.func f) [] []] [] (fun y σ=>∃r,y=.own r 0 (bC l pt).length∧σ=[(r,.arr 5 1 ((bC l pt).map aG))]):=
 iI (e:=5) (sz:=1) (by decide) fun q _=>aIo hf hB q [] l hok hl (by simpa using hb)
end Go.Proofs.YtjpdadobblffmaaGreat
