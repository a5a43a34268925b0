import Derived.Test.YtjpdadobblffmaaGreatIP2
import Derived.Test.YtjpdadobblffmaaGreatIP1
import Derived.ChangeOld
import Derived.Lib.AppendStr
import Derived.Lib.ConvBytes
set_option linter.unusedSimpArgs false
set_option linter.unusedVariables false
set_option maxRecDepth 100000
set_option maxHeartbeats 4000000
namespace Go.Proofs.YtjpdadobblffmaaGreat
open Go.RowKit Go.ChangeShapes Go.WideShapes Go.ChangeAt Go.Deep
attribute [local irreducible] SW RS RD fF eB
theorem RZ{k1 k2:Rk}(xs ys:List Int):SCall Tryz.prog 47 [.ro 1 (xs.map aK) k1,.ro 1 (ys.map aK) k2] [] (fun x σ=>x=.bool (decide (xs=ys))∧σ=[]):=by
 refine bS 26 [0,1,4,5,10,14,25] Tryz.func47 ?_;refine gS (i:=0) rfl fun hm=> ?_
 rw[List.length_map]at hm;unfold maxLen at hm;refine eX ?_;refine oQ ?_;refine qI ?_;refine qH ?_;refine aB rfl (fun h=> ?_) (fun h=> ?_)
 ·refine bF ?_;apply aD;exact aE
  ·have hne:xs≠ys:=by rintro rfl;simp at h
   exact⟨by simp[fG,cV,hne],rfl⟩
  ·exact aA
 have hl:xs.length=ys.length:=by simp at h;omega
 refine bF ?_;refine lp (β:=Nat) (fun k=>⟨[(0,.ro 1 (xs.map aK) k1),(1,.ro 1 (ys.map aK) k2),(4,.bool false),(5,.int .i64 k)],[]⟩) (fun k=>k≤xs.length∧xs.take k=ys.take k) (fun k=>xs.length-k) 0 ?_ ⟨Nat.zero_le _,rfl⟩ ?_
 ·exact aJ
 rintro k ⟨hk,ht⟩;refine nF ?_;refine nP ?_;refine aB rfl (fun h1=> ?_) (fun h1=> ?_)
 ·have hlt:k<xs.length:=by simp at h1;omega
  obtain⟨x,hx⟩:∃x,xs[k]? =some x:=⟨_,List.getElem?_eq_getElem hlt⟩
  obtain⟨y,hy⟩:∃y,ys[k]? =some y:=⟨_,List.getElem?_eq_getElem (by omega)⟩
  refine aI ?_;refine fJ [(0,true),(1,true),(2,true),(3,true),(4,true),(5,true),(6,true),(7,true),(8,true)] ?_;refine lF ?_;refine nG ?_;refine lF ?_;refine nG ?_;refine z58 ?_;refine jI ?_;refine aB rfl (fun h2=> ?_) (fun h2=> ?_)
  ·refine bF ?_;apply aD;exact aE
   ·have hne:xs≠ys:=by rintro rfl;rw[hx]at hy;simp at hy;subst hy;simp at h2
    exact⟨by simp[fG,cV,hne],rfl⟩
   ·exact aA
  ·refine lJ ?_;refine⟨k+1,⟨by omega, ?_⟩,by omega, ?_⟩
   ·rw[List.take_add_one,List.take_add_one,ht,hx,hy];simp at h2;rw[h2]
   ·exact aJ
 ·refine bF ?_;apply aD;exact aE
  ·simp at h1;have:xs=ys:=by rwa [List.take_of_length_le (by omega),List.take_of_length_le (by omega)]at ht
   exact⟨by simp[fG,cV,this],rfl⟩
  ·exact aA
theorem gN{k1 k2:Rk}(xs ys:List Int):SCall Tryz.prog 116 [.ro 1 (xs.map aK) k1,.ro 1 (ys.map aK) k2] [] (fun x σ=>x=.bool (decide (xs=ys))∧σ=[]):=by
 refine bS 26 [0,1,4,5,10,12,13,14,24] Tryz.func116 ?_;refine gS (i:=0) rfl fun hm=> ?_
 rw[List.length_map]at hm;unfold maxLen at hm;refine eX ?_;refine oQ ?_;refine qI ?_;refine qH ?_;refine aB rfl (fun h=> ?_) (fun h=> ?_)
 ·refine bF ?_;apply aD;exact aE
  ·have hne:xs≠ys:=by rintro rfl;simp at h
   exact⟨by simp[fG,cV,hne],rfl⟩
  ·exact aA
 have hl:xs.length=ys.length:=by simp at h;omega
 refine cX ?_;refine nR ?_;refine lp (β:=Nat) (fun k=>⟨[(0,.ro 1 (xs.map aK) k1),(1,.ro 1 (ys.map aK) k2),(4,.bool false),(12,.int .i64 xs.length),(13,.int .i64 k)],[]⟩) (fun k=>k≤xs.length∧xs.take k=ys.take k) (fun k=>xs.length-k) 0 ?_ ⟨Nat.zero_le _,rfl⟩ ?_
 ·exact aJ
 rintro k ⟨hk,ht⟩;refine gA ?_;refine aB rfl (fun h1=> ?_) (fun h1=> ?_)
 ·have hlt:k<xs.length:=by simp at h1;omega
  obtain⟨x,hx⟩:∃x,xs[k]? =some x:=⟨_,List.getElem?_eq_getElem hlt⟩
  obtain⟨y,hy⟩:∃y,ys[k]? =some y:=⟨_,List.getElem?_eq_getElem (by omega)⟩
  refine eW ?_;refine fJ [(0,true),(1,true),(2,true),(3,true),(4,true),(5,true),(6,true),(7,true),(8,true)] ?_;refine lF ?_;refine nG ?_;refine lF ?_;refine nG ?_;refine z58 ?_;refine jI ?_;refine aB rfl (fun h2=> ?_) (fun h2=> ?_)
  ·refine bF ?_;apply aD;exact aE
   ·have hne:xs≠ys:=by rintro rfl;rw[hx]at hy;simp at hy;subst hy;simp at h2
    exact⟨by simp[fG,cV,hne],rfl⟩
   ·exact aA
  ·refine jH ?_;refine⟨k+1,⟨by omega, ?_⟩,by omega, ?_⟩
   ·rw[List.take_add_one,List.take_add_one,ht,hx,hy];simp at h2;rw[h2]
   ·exact aJ
 ·refine bF ?_;apply aD;exact aE
  ·simp at h1;have:xs=ys:=by rwa [List.take_of_length_le (by omega),List.take_of_length_le (by omega)]at ht
   exact⟨by simp[fG,cV,this],rfl⟩
  ·exact aA
def aAE (P:Program) (f:FuncId) (caps:List AV) (σ:dC) (p:Int→Bool):Prop:=
 (∀args w,(callFunc f args).run P w=.ok (.enter f args) w)∧∀c,SCall P f ([]++ [.int .i64 c]++caps) σ (fun r σ'=>r=.bool (p c)∧σ'=σ)
theorem HO{k:Rk}{f:FuncId}{caps:List AV}{σ:dC}{p:Int→Bool}(hp:aAE Tryz.prog f caps σ p)(l:List Int):SCall Tryz.prog 205 [.ro 1 (l.map aK) k,.fn (.func f) [] caps] σ (fun x σ'=>∃m:Int,x=.int .i64 m∧decide (0≤m)=l.any p∧σ'=σ):=by
 refine bS 19 [0,1,4,5,7,8,9,16] Tryz.func205 ?_;refine gS (i:=0) rfl fun hm=> ?_
 rw[List.length_map]at hm;unfold maxLen at hm;refine rK ?_;refine lp (β:=Nat) (fun j=>⟨[(0,.ro 1 (l.map aK) k),(1,.fn (.func f) [] caps),(7,.int .i64 l.length),(8,.int .i64 j)],σ⟩) (fun j=>j≤l.length∧(l.take j).any p=false) (fun j=>l.length-j) 0 ?_ ⟨Nat.zero_le _,rfl⟩ ?_
 ·exact aJ
 rintro j ⟨hj,ht⟩;refine gA ?_;refine aB rfl (fun h1=> ?_) (fun h1=> ?_)
 ·have hlt:j<l.length:=by simp at h1;omega
  obtain⟨x,hx⟩:∃x,l[j]? =some x:=⟨_,List.getElem?_eq_getElem hlt⟩
  refine tM ?_;refine pA ?_;refine pP σ rfl hp.1 (hp.2 x) rfl ?_ ?_ ?_
  ·exact aC
  ·exact fun _ h=>h
  rintro r σ' ⟨rfl,rfl⟩-;rw[dQ,List.append_nil];refine iI ?_;refine aB rfl (fun h2=> ?_) (fun h2=> ?_)
  ·refine eW ?_;apply aD;exact aE
   ·refine⟨j,rfl, ?_,rfl⟩;rw[decide_eq_true (by omega)];exact(List.any_eq_true.2 ⟨x,List.mem_of_getElem? hx,h2⟩).symm
   ·exact aA
  ·refine jH ?_;refine⟨j+1,⟨by omega, ?_⟩,by omega, ?_⟩
   ·rw[List.take_add_one,hx,List.any_append,ht];simp[h2]
   ·exact aJ
 ·refine bF ?_;apply aD;exact aE
  ·simp at h1;rw[List.take_of_length_le (by omega)]at ht;exact⟨-1,rfl,by rw[ht];rfl,rfl⟩
  ·exact aA
theorem nV{k:Rk}{f:FuncId}{caps:List AV}{σ:dC}{p:Int→Bool}(hp:aAE Tryz.prog f caps σ p)(l:List Int):SCall Tryz.prog 89 [.ro 1 (l.map aK) k,.fn (.func f) [] caps] σ (fun x σ'=>x=.bool (l.any p)∧σ'=σ):=by
 refine bS 9 [0,1,4] Tryz.func89 ?_;refine lL ?_;refine cw σ Tryz.call205 (HO (k:=k) hp l) rfl ?_ ?_ ?_
 ·exact aC
 ·exact fun _ h=>h
 rintro x σ' ⟨m,rfl,hm,rfl⟩-;rw[dQ,List.append_nil];refine yU ?_;exact aD aE ⟨by simp only[fG];rw[←hm],rfl⟩ aA
structure Ins where
 op:Int
 a:Int
 b:Int
 l:List Int
def iv (k:Rk) (x:Ins):List AV:=[.int .i64 x.op,.int .i64 x.a,.int .i64 x.b,.ro 1 (x.l.map aK) k]
def Ins.Ok (x:Ins):Prop:=-9223372036854775808≤x.op∧x.op≤9223372036854775807∧ -9223372036854775808≤x.a∧x.a≤9223372036854775807∧x.l.length≤9223372036854775807
theorem dM(n a b:Int):SCall Tryz.prog 218 [.int .i64 n,.int .i64 a,.int .i64 b] [] (fun x σ=>x=.bool (pE n a b)∧σ=[]):=by
 refine bS 15 [0,1,2,6] Tryz.func218 ?_;refine lL ?_;refine IT ?_;refine z4 ?_;refine z54 ?_;refine rO ?_;exact aD aE ⟨by rfl,rfl⟩ aA
theorem iD(n:Int):SCall Tryz.prog 219 [.int .i64 n] [] (fun x σ=>x=.bool (pE n 0 1000)∧σ=[]):=by
 refine bS 5 [0,2] Tryz.func219 ?_;refine eX ?_
 (first|refine ln rfl rfl rfl rfl ?_ |refine lw rfl rfl (bR (v:=.bool false)) rfl ?_ |refine pu [] Tryz.call218 (dM _ _ _) rfl bU aS ?_ |refine vX [] rfl rfl Tryz.call218 (fun _=>(dM _ _ _)) rfl bU aS ?_ |refine BK [] rfl rfl Tryz.call218 (fun _=>(dM _ _ _)) rfl bU aS ?_);refine cM ?_;exact aD aE ⟨by rfl,rfl⟩ aA
theorem oS:aAE Tryz.prog 220 [] [] (fun n=> !pE n 0 1000):=by
 refine⟨Tryz.call220,fun n=> ?_⟩;refine bS 6 [0,2] Tryz.func220 ?_;refine eX ?_
 (first|refine ln rfl rfl rfl rfl ?_ |refine lw rfl rfl (bR (v:=.bool false)) rfl ?_ |refine pu [] Tryz.call219 (iD _) rfl bU aS ?_ |refine vX [] rfl rfl Tryz.call219 (fun _=>(iD _)) rfl bU aS ?_ |refine BK [] rfl rfl Tryz.call219 (fun _=>(iD _)) rfl bU aS ?_);refine lo (eI (E rfl)) rfl ?_;refine cM ?_;exact aD aE ⟨by rfl,rfl⟩ aA
theorem iE(op:Int):SCall Tryz.prog 217 [.int .i64 op] [] (fun x σ=>x=.int .i64 (bA op)∧σ=[]):=by
 have:=RX op
 rwa [aI8]at this
theorem pQ(op:Int)(h:-9223372036854775808≤op∧op≤9223372036854775807):SCall Tryz.prog 250 [.int .i64 op] [] (fun x σ=>x=.int .i64 (bA op)∧σ=[]):=by
 have:=aAC op
 rwa [aGu op h]at this
def iV (x:Ins) (f:Int):Bool:=if(if(f !=4)=true then decide (0<(x.l.length:Int))else false)=true then true else if(f !=6)=true then(x.b !=0)else false
def cT (x:Ins):Bool:=
 if iV x (bA x.op)=true then false
 else if(bA x.op==1||bA x.op==7)=true then(x.a==0)
 else if(bA x.op==2)=true then pE x.a 0 2
 else if(bA x.op==3||bA x.op==5)=true then pE x.a 0 1000
 else if(bA x.op==4)=true then(if(if pE x.a 0 1000=true then decide ((x.l.length:Int)≤50)else false)=true then !(x.l.any fun n=> !pE n 0 1000)else false)
 else if(bA x.op==6)=true then(if pE x.a 0 3=true then pE x.b 0 4294967295 else false)
 else if(bA x.op==8)=true then pE x.a (-2147483648) 2147483647
 else(bA x.op==9)
theorem sM(a b:Int):(if(if(if decide (0≤a)=true then decide (a≤3)else false)=true then decide (0≤b)else false)=true then decide (b<4294967296)else false)=
  (if(if decide (0≤a)=true then decide (a≤3)else false)=true then(if decide (0≤b)=true then decide (b≤4294967295)else false)else false):=by
 rw[show decide (b≤4294967295)=decide (b<4294967296) by rw[decide_eq_decide];omega];generalize(if decide (0≤a)=true then decide (a≤3)else false)=b1;cases b1<;>simp
theorem sN(a:Int):(if decide (-2147483648≤a)=true then decide (a<2147483648)else false)=(if decide (-2147483648≤a)=true then decide (a≤2147483647)else false):=by
 rw[show decide (a≤2147483647)=decide (a<2147483648) by rw[decide_eq_decide];omega]
theorem XJ(k:Rk)(x:Ins):SCall Tryz.prog 111 [.agg (iv k x)] [] (fun r σ=>r=.bool (cT x)∧σ=[]):=by
 refine bS 76 [0,1,2,3,23,24,25,31,36,42,59,69,74] Tryz.func111 ?_;unfold iv;refine cZ ?_;refine gQ fun r1 h1=> ?_;intros
 refine iJ ?_
 (first|refine ln rfl rfl rfl rfl ?_ |refine lw rfl rfl (bR (v:=.bool false)) rfl ?_ |refine pu [] Tryz.call217 (iE _) rfl bU aS ?_ |refine vX [] rfl rfl Tryz.call217 (fun _=>(iE _)) rfl bU aS ?_ |refine BK [] rfl rfl Tryz.call217 (fun _=>(iE _)) rfl bU aS ?_);refine gZ ?_;refine lo (dV (E rfl) (E rfl)) rfl ?_;refine lN ?_;refine z63 ?_;refine z18 ?_;refine z7 ?_;refine xS ?_;refine z64 ?_;refine z8 ?_;refine z65 ?_;refine z66 ?_;refine z11 ?_;refine z12 ?_;refine RQ ?_;refine iI ?_;refine aB rfl (fun g1=> ?_) (fun g1=> ?_)
 ·refine bF ?_;apply aD;exact aE
  ·(unfold cT iV;simp only[g1,if_true,if_false,Bool.false_eq_true];exact⟨rfl,rfl⟩)
  ·exact aA
 refine cX ?_;refine rN ?_;apply fR rfl;exact cO
 ·intro _;(refine aI ?_);refine eP ?_;exact aJ
 refine aI ?_;refine aB rfl (fun g2=> ?_) (fun g2=> ?_)
 ·refine fT ?_;refine OA ?_;apply aD;exact aE
  ·(unfold cT iV;simp only[g1,g2,if_true,if_false,Bool.false_eq_true];exact⟨rfl,rfl⟩)
  ·exact aA
 refine dE ?_;refine aB rfl (fun g3=> ?_) (fun g3=> ?_)
 ·refine fT ?_
  (first|refine ln rfl rfl rfl rfl ?_ |refine lw rfl rfl (bR (v:=.bool false)) rfl ?_ |refine pu [] Tryz.call218 (dM _ _ _) rfl bU aS ?_ |refine vX [] rfl rfl Tryz.call218 (fun _=>(dM _ _ _)) rfl bU aS ?_ |refine BK [] rfl rfl Tryz.call218 (fun _=>(dM _ _ _)) rfl bU aS ?_);refine cM ?_;apply aD;exact aE
  ·(unfold cT iV;simp only[g1,g2,g3,if_true,if_false,Bool.false_eq_true];exact⟨rfl,rfl⟩)
  ·exact aA
 refine dE ?_;apply fR rfl;exact cO
 ·intro _;(refine aI ?_);refine eP ?_;exact aJ
 refine aI ?_;refine aB rfl (fun g4=> ?_) (fun g4=> ?_)
 ·refine fT ?_
  (first|refine ln rfl rfl rfl rfl ?_ |refine lw rfl rfl (bR (v:=.bool false)) rfl ?_ |refine pu [] Tryz.call219 (iD _) rfl bU aS ?_ |refine vX [] rfl rfl Tryz.call219 (fun _=>(iD _)) rfl bU aS ?_ |refine BK [] rfl rfl Tryz.call219 (fun _=>(iD _)) rfl bU aS ?_);refine cM ?_;apply aD;exact aE
  ·(unfold cT iV;simp only[g1,g2,g3,g4,if_true,if_false,Bool.false_eq_true];exact⟨rfl,rfl⟩)
  ·exact aA
 refine dE ?_;refine aB rfl (fun g5=> ?_) (fun g5=> ?_)
 ·refine fT ?_
  (first|refine ln rfl rfl rfl rfl ?_ |refine lw rfl rfl (bR (v:=.bool false)) rfl ?_ |refine pu [] Tryz.call219 (iD _) rfl bU aS ?_ |refine vX [] rfl rfl Tryz.call219 (fun _=>(iD _)) rfl bU aS ?_ |refine BK [] rfl rfl Tryz.call219 (fun _=>(iD _)) rfl bU aS ?_);refine lN ?_;refine z63 ?_;refine z55 ?_;refine z7 ?_;refine lN ?_
  (first|refine ln rfl rfl rfl rfl ?_ |refine lw rfl rfl (bR (v:=.bool false)) rfl ?_ |refine pu [] Tryz.call89 (nV oS x.l) rfl bU aS ?_ |refine vX [] rfl rfl Tryz.call89 (fun _=>(nV oS x.l)) rfl bU aS ?_ |refine BK [] rfl rfl Tryz.call89 (fun _=>(nV oS x.l)) rfl bU aS ?_);refine z67 ?_;refine rO ?_;apply aD;exact aE
  ·(unfold cT iV;simp only[g1,g2,g3,g4,g5,if_true,if_false,Bool.false_eq_true];exact⟨rfl,rfl⟩)
  ·exact aA
 refine dE ?_;refine aB rfl (fun g6=> ?_) (fun g6=> ?_)
 ·refine fT ?_
  (first|refine ln rfl rfl rfl rfl ?_ |refine lw rfl rfl (bR (v:=.bool false)) rfl ?_ |refine pu [] Tryz.call218 (dM _ _ _) rfl bU aS ?_ |refine vX [] rfl rfl Tryz.call218 (fun _=>(dM _ _ _)) rfl bU aS ?_ |refine BK [] rfl rfl Tryz.call218 (fun _=>(dM _ _ _)) rfl bU aS ?_);refine lN ?_
  (first|refine ln rfl rfl rfl rfl ?_ |refine lw rfl rfl (bR (v:=.bool false)) rfl ?_ |refine pu [] Tryz.call218 (dM _ _ _) rfl bU aS ?_ |refine vX [] rfl rfl Tryz.call218 (fun _=>(dM _ _ _)) rfl bU aS ?_ |refine BK [] rfl rfl Tryz.call218 (fun _=>(dM _ _ _)) rfl bU aS ?_);refine jM ?_;apply aD;exact aE
  ·(unfold cT iV;simp only[g1,g2,g3,g4,g5,g6,if_true,if_false,Bool.false_eq_true];exact⟨rfl,rfl⟩)
  ·exact aA
 refine dE ?_;refine aB rfl (fun g7=> ?_) (fun g7=> ?_)
 ·refine fT ?_
  (first|refine ln rfl rfl rfl rfl ?_ |refine lw rfl rfl (bR (v:=.bool false)) rfl ?_ |refine pu [] Tryz.call218 (dM _ _ _) rfl bU aS ?_ |refine vX [] rfl rfl Tryz.call218 (fun _=>(dM _ _ _)) rfl bU aS ?_ |refine BK [] rfl rfl Tryz.call218 (fun _=>(dM _ _ _)) rfl bU aS ?_);refine cM ?_;apply aD;exact aE
  ·(unfold cT iV;simp only[g1,g2,g3,g4,g5,g6,g7,if_true,if_false,Bool.false_eq_true];exact⟨rfl,rfl⟩)
  ·exact aA
 refine dE ?_;refine aB rfl (fun g8=> ?_) (fun g8=> ?_)
 ·refine bF ?_;apply aD;exact aE
  ·(unfold cT iV;simp only[g1,g2,g3,g4,g5,g6,g7,g8,if_true,if_false,Bool.false_eq_true];exact⟨rfl,rfl⟩)
  ·exact aA
 refine bF ?_;apply aD;exact aE
 ·(unfold cT iV;simp only[g1,g2,g3,g4,g5,g6,g7,g8,if_true,if_false,Bool.false_eq_true];exact⟨rfl,rfl⟩)
 ·exact aA
theorem KX(k:Rk)(x:Ins)(hx:x.Ok):SCall Tryz.prog 156 [.agg (iv k x)] [] (fun r σ=>r=.bool (cT x)∧σ=[]):=by
 have hop:-9223372036854775808≤x.op∧x.op≤9223372036854775807:=⟨hx.1,hx.2.1⟩
 have hl:=hx.2.2.2.2;refine bS 122 [0,1,2,3,4,24,25,26,32,42,53,59,75,90,110] Tryz.func156 ?_;unfold iv;refine cZ ?_;refine gQ fun r1 h1=> ?_;intros
 refine iJ ?_
 (first|refine ln rfl rfl rfl rfl ?_ |refine lw rfl rfl (bR (v:=.bool false)) rfl ?_ |refine pu [] Tryz.call250 (pQ _ (by assumption)) rfl bU aS ?_ |refine vX [] rfl rfl Tryz.call250 (fun _=>(pQ _ (by assumption))) rfl bU aS ?_ |refine BK [] rfl rfl Tryz.call250 (fun _=>(pQ _ (by assumption))) rfl bU aS ?_);refine gZ ?_;refine lo (dV (E rfl) (E rfl)) rfl ?_;refine lN ?_;refine z63 ?_;refine z18 ?_;refine z7 ?_;refine xS ?_;refine z64 ?_;refine z8 ?_;refine z65 ?_;refine z66 ?_;refine z11 ?_;refine z12 ?_;refine RQ ?_;refine iI ?_;refine aB rfl (fun g1=> ?_) (fun g1=> ?_)
 ·refine bF ?_;apply aD;exact aE
  ·(unfold cT iV pE;simp only[g1,if_true,if_false,Bool.false_eq_true];first|exact⟨rfl,rfl⟩|exact⟨congrArg AV.bool (sM x.a x.b),rfl⟩|exact⟨congrArg AV.bool (sN x.a),rfl⟩)
  ·exact aA
 refine cX ?_;refine rN ?_;apply fR rfl;exact cO
 ·intro _;(refine aI ?_);refine eP ?_;exact aJ
 refine aI ?_;refine aB rfl (fun g2=> ?_) (fun g2=> ?_)
 ·refine fT ?_;refine OA ?_;apply aD;exact aE
  ·(unfold cT iV pE;simp only[g1,g2,if_true,if_false,Bool.false_eq_true];first|exact⟨rfl,rfl⟩|exact⟨congrArg AV.bool (sM x.a x.b),rfl⟩|exact⟨congrArg AV.bool (sN x.a),rfl⟩)
  ·exact aA
 refine dE ?_;refine aB rfl (fun g3=> ?_) (fun g3=> ?_)
 ·refine DV ?_;refine lN ?_;refine z55 ?_;refine rO ?_;apply aD;exact aE
  ·(unfold cT iV pE;simp only[g1,g2,g3,if_true,if_false,Bool.false_eq_true];first|exact⟨rfl,rfl⟩|exact⟨congrArg AV.bool (sM x.a x.b),rfl⟩|exact⟨congrArg AV.bool (sN x.a),rfl⟩)
  ·exact aA
 refine dE ?_;apply fR rfl;exact cO
 ·intro _;(refine aI ?_);refine eP ?_;exact aJ
 refine aI ?_;refine aB rfl (fun g4=> ?_) (fun g4=> ?_)
 ·refine DV ?_;refine lN ?_;refine z55 ?_;refine rO ?_;apply aD;exact aE
  ·(unfold cT iV pE;simp only[g1,g2,g3,g4,if_true,if_false,Bool.false_eq_true];first|exact⟨rfl,rfl⟩|exact⟨congrArg AV.bool (sM x.a x.b),rfl⟩|exact⟨congrArg AV.bool (sN x.a),rfl⟩)
  ·exact aA
 refine dE ?_;refine aB rfl (fun g5=> ?_) (fun g5=> ?_)
 ·refine bF ?_;refine lp (β:=Nat) (fun j=>⟨[(1,.ptr r1 0),(4,.int .i64 j)],[(r1,.box 46 [.int .i64 x.op,.int .i64 x.a,.int .i64 x.b,.ro 1 (x.l.map aK) k])]⟩) (fun j=>j≤x.l.length∧(x.l.take j).any (fun n=> !pE n 0 1000)=false) (fun j=>x.l.length-j) 0 (by(exact aJ)) ⟨Nat.zero_le _,rfl⟩ ?_;rintro j ⟨hj,ht⟩;refine nT ?_;refine aB rfl (fun h1=> ?_) (fun h1=> ?_)
  ·have hlt:j<x.l.length:=by simp at h1;omega
   refine fT ?_;refine pA ?_;refine lo (jC (E rfl) (E rfl)) rfl ?_;refine lN ?_;refine z4 ?_;refine z71 ?_;refine z72 ?_;refine z18 ?_;refine RQ ?_;refine iI ?_;rw[Int.toNat_natCast];have hb:(if decide (x.l[j]! <0)=true then true else decide (1000<x.l[j]!))= !pE x.l[j]! 0 1000:=by
    rw[jW];generalize x.l[j]! =y;by_cases h3:y<0
    ·rw[decide_eq_true h3,if_pos rfl,decide_eq_false (by omega)];rfl
    ·by_cases h4:1000<y
     ·rw[decide_eq_false h3,decide_eq_true h4,decide_eq_false (by omega)];rfl
     ·rw[decide_eq_false h3,decide_eq_false h4,decide_eq_true (by omega)];rfl
   rw[hb];refine aB rfl (fun h2=> ?_) (fun h2=> ?_)
   ·have ha:(x.l.any fun n=> !pE n 0 1000)=true:=List.any_eq_true.2 ⟨x.l[j]!,by rw[getElem!_pos x.l j hlt];exact List.getElem_mem hlt,h2⟩;refine bF ?_;apply aD;exact aE
    ·unfold cT iV;simp only[g1,g2,g3,g4,g5,ha,if_true,if_false,Bool.false_eq_true];exact⟨by simp[fG,cV],rfl⟩
    ·exact aA
   ·refine lJ ?_;refine⟨j+1,⟨by omega, ?_⟩,by omega, ?_⟩
    ·rw[List.take_add_one,List.any_append,ht,List.getElem?_eq_getElem hlt];rw[getElem!_pos x.l j hlt]at h2;simp only[Bool.false_or,Option.toList_some,List.any_cons,List.any_nil,Bool.or_false];exact h2
    ·exact aJ
  ·obtain rfl:j=x.l.length:=by simp at h1;omega
   rw[List.take_length]at ht;refine DV ?_;refine lN ?_;refine z55 ?_;refine z7 ?_;refine lN ?_;refine z63 ?_;refine z55 ?_;refine rO ?_;apply aD;exact aE
   ·unfold cT iV;simp only[g1,g2,g3,g4,g5,ht,if_true,if_false,Bool.false_eq_true];refine⟨?_,rfl⟩;unfold pE;show AV.bool _=AV.bool _
    congr 1
    generalize(if decide (0≤x.a)=true then decide (x.a≤1000)else false)=b1;cases b1<;>simp
   ·exact aA
 refine dE ?_;refine aB rfl (fun g6=> ?_) (fun g6=> ?_)
 ·refine DV ?_;refine lN ?_;refine z55 ?_;refine z7 ?_;refine lN ?_;refine z34 ?_;refine z7 ?_;refine lN ?_;refine z69 ?_;refine rO ?_;apply aD;exact aE
  ·(unfold cT iV pE;simp only[g1,g2,g3,g4,g5,g6,if_true,if_false,Bool.false_eq_true];first|exact⟨rfl,rfl⟩|exact⟨congrArg AV.bool (sM x.a x.b),rfl⟩|exact⟨congrArg AV.bool (sN x.a),rfl⟩)
  ·exact aA
 refine dE ?_;refine aB rfl (fun g7=> ?_) (fun g7=> ?_)
 ·refine DV ?_;refine lN ?_;refine z69 ?_;refine rO ?_;apply aD;exact aE
  ·(unfold cT iV pE;simp only[g1,g2,g3,g4,g5,g6,g7,if_true,if_false,Bool.false_eq_true];first|exact⟨rfl,rfl⟩|exact⟨congrArg AV.bool (sM x.a x.b),rfl⟩|exact⟨congrArg AV.bool (sN x.a),rfl⟩)
  ·exact aA
 refine cX ?_;refine OA ?_;apply aD;exact aE
 ·(unfold cT iV pE;simp only[g1,g2,g3,g4,g5,g6,g7,if_true,if_false,Bool.false_eq_true];first|exact⟨rfl,rfl⟩|exact⟨congrArg AV.bool (sM x.a x.b),rfl⟩|exact⟨congrArg AV.bool (sN x.a),rfl⟩)
 ·exact aA
def eqN (x y:Ins):Bool:=decide (x.op=y.op∧x.a=y.a∧x.b=y.b∧x.l=y.l)
theorem aDa(x y:Ins):(if(if(if(x.op==y.op)=true then x.a==y.a else false)=true then x.b==y.b else false)=true then decide (x.l=y.l)else false)=eqN x y:=by
 unfold eqN;by_cases h1:x.op=y.op<;>by_cases h2:x.a=y.a<;>by_cases h3:x.b=y.b<;>simp[h1,h2,h3]
theorem aAF(k k2:Rk)(x y:Ins):SCall Tryz.prog 122 [.agg (iv k x),.agg (iv k2 y)] [] (fun r σ=>r=.bool (eqN x y)∧σ=[]):=by
 refine bS 31 [0,1,2,3,4] Tryz.func122 ?_;unfold iv;refine cZ ?_;refine gQ fun r2 h2=> ?_;intros
 refine gQ fun r3 h3=> ?_;intros
 refine iJ ?_;refine fO ?_;refine lo (cN (E rfl) (E rfl)) rfl ?_;refine lN ?_;refine z61 ?_;refine z62 ?_;refine z70 ?_;refine z7 ?_;refine lN ?_;refine z61 ?_;refine z62 ?_;refine z70 ?_;refine z7 ?_;refine lN ?_;refine z61 ?_;refine z62 ?_
 (first|refine ln rfl rfl rfl rfl ?_ |refine lw rfl rfl (bR (v:=.bool false)) rfl ?_ |refine pu [] Tryz.call116 (gN x.l y.l) rfl bU aS ?_ |refine vX [] rfl rfl Tryz.call116 (fun _=>(gN x.l y.l)) rfl bU aS ?_ |refine BK [] rfl rfl Tryz.call116 (fun _=>(gN x.l y.l)) rfl bU aS ?_);refine jM ?_;exact aD aE ⟨by exact congrArg AV.bool (aDa x y),rfl⟩ aA
theorem OR{x:Ins}(h:bA x.op=0):cT x=false:=by
 unfold cT;split
 ·rfl
 ·simp[h]
theorem aDb{op:Int}(h:bA op≠0):0≤op∧op≤173:=by
 unfold bA iU kOk at h;simp only[Bool.or_eq_true,beq_iff_eq,decide_eq_true_eq]at h;by_cases hc:0≤op∧op≤173
 ·exact hc
 ·exfalso;repeat rw[if_neg (by omega)]at h
  exact h rfl
theorem KY{x:Ins}(h:cT x=true):0≤x.op∧x.op≤173:=by
 refine aDb fun h0=> ?_
 rw[OR h0]at h;cases h
theorem aGw{x:Ins}(h:cT x=true)(hf:(bA x.op==2)=true):0≤x.a∧x.a≤2:=by
 rw[beq_iff_eq]at hf;simp[cT,hf,jW]at h;omega
theorem aDc{x:Ins}(h:cT x=true)(hf:(bA x.op==3)=true):0≤x.a∧x.a≤1000:=by
 rw[beq_iff_eq]at hf;simp[cT,hf,jW]at h;omega
theorem aDd{x:Ins}(h:cT x=true)(hf:(bA x.op==5)=true):0≤x.a∧x.a≤1000:=by
 rw[beq_iff_eq]at hf;simp[cT,hf,jW]at h;omega
theorem aDe{x:Ins}(h:cT x=true)(hf:(bA x.op==4)=true):(0≤x.a∧x.a≤1000)∧x.l.length≤50∧∀n∈x.l,0≤n∧n≤1000:=by
 rw[beq_iff_eq]at hf;simp[cT,hf,jW]at h;obtain⟨h1,⟨h2,h3⟩,h4⟩:=h;exact⟨h2,by omega,h4⟩
theorem aDf{x:Ins}(h:cT x=true)(hf:(bA x.op==6)=true):0≤x.a∧x.a≤3∧0≤x.b∧x.b≤4294967295:=by
 rw[beq_iff_eq]at hf;simp[cT,hf,jW]at h;omega
def uY (a:Int):Nat:=if a=0 then 64 else if a=1 then 127 else 126
def fU (x:Ins):List Nat:=
 if(bA x.op==2)=true then [uY x.a]else if(bA x.op==3)=true then uB x.a.toNat else if(bA x.op==5)=true then uB x.a.toNat++ [0]
 else if(bA x.op==4)=true then uB x.l.length++(x.l.flatMap fun n=>uB n.toNat)++uB x.a.toNat else if(bA x.op==6)=true then uB x.a.toNat++uB x.b.toNat
 else if(bA x.op==7)=true then [0]else if(bA x.op==8||bA x.op==9)=true then sB x.a else []
def gE (x:Ins):List Nat:=x.op.toNat::fU x
theorem rP:∀ {l:List Int},(∀n∈l,0≤n∧n≤1000)→(l.flatMap fun n=>uB n.toNat).length≤2*l.length
 |[],_=>by simp
 |n::l,h=>by
  have ih:=rP (l:=l) fun m hm=>h m (List.mem_cons_of_mem _ hm)
  have hn:=h n List.mem_cons_self;have h1:=bG 1 n.toNat (by omega);simp only[List.flatMap_cons,List.length_append,List.length_cons];omega
theorem aDg{a:Int}(h:0≤a∧a≤2):([.int .u8 64,.int .u8 127,.int .u8 126]:List AV)[a.toNat]? =some (.int .u8 (uY a:Nat)):=by
 have:a=0∨a=1∨a=2:=by omega
 rcases this with rfl|rfl|rfl<;>rfl
theorem AM(q:Nat)(vs:List Nat)(hvs:vs.length≤50000000)(k:Rk)(x:Ins)(hx:x.Ok)(hm:cT x=true):SCall Tryz.prog 242 [.own q 0 vs.length,.agg (iv k x)] [(q,.arr 5 1 (vs.map aG))]
  (fun y σ=>∃r,y=.own r 0 (vs++gE x).length∧σ=[(r,.arr 5 1 ((vs++gE x).map aG))]):=by
 have f1:=KY hm;have f2:=aGw hm;have f3:=aDc hm;have f4:=aDe hm;have f5:=aDd hm;have f6:=aDf hm;have f8:-9223372036854775808≤x.a∧x.a≤9223372036854775807:=⟨hx.2.2.1,hx.2.2.2.1⟩
 obtain⟨op,ai,bi,l⟩:=x;dsimp only at f1 f2 f3 f4 f5 f6 f8;obtain⟨op,rfl⟩:=Int.eq_ofNat_of_zero_le f1.1;have hvo:vs++gE ⟨(op:Int),ai,bi,l⟩=(vs++ [op])++fU ⟨(op:Int),ai,bi,l⟩:=by simp[gE]
 rw[hvo];obtain⟨us,hus⟩:∃us,us=vs++ [op]:=⟨_,rfl⟩
 have hul:us.length≤50000001:=by rw[hus];simp;omega
 refine bS 90 [0,1,3,4,6,15,16,25,32,41,50,51,52,53,66,77,82] Tryz.func242 ?_;unfold iv;dsimp only;refine cZ ?_;refine gQ fun r3 h3=> ?_;intros
 refine gZ ?_;refine fO ?_;refine z0 ?_;refine eC fun r11 h11=> ?_;intros
 apply ap (es':=(vs++ [op]).map aG) (len':=(vs++ [op]).length);rfl;rfl;exact bC
 ·simp
 ·exact .inr (.inr ⟨_,_,_,_,_,rfl,bC,by simp,rfl⟩)
 ·first|(simp[aG];done)|(simp only[List.drop_zero,List.map_append];congr 1;exact List.take_of_length_le (by simp))
 ·simp;try omega
 ·simp[maxLen];try omega
 ·simp;try omega
 ·rfl
 refine bE fun r12 h12=> ?_;intros
 refine cM ?_;rw[←hus];refine mJ ?_;refine fO ?_
 (first|refine ln rfl rfl rfl rfl ?_ |refine lw rfl rfl (bR (v:=.bool false)) rfl ?_ |refine pu [] Tryz.call217 (iE _) rfl bU aS ?_ |refine vX [] rfl rfl Tryz.call217 (fun _=>(iE _)) rfl bU aS ?_ |refine BK [] rfl rfl Tryz.call217 (fun _=>(iE _)) rfl bU aS ?_);refine rN ?_;refine aB rfl (fun g1=> ?_) (fun g1=> ?_)
 ·refine aI ?_;have ha:=f2 g1;have hp:fU ⟨(op:Int),ai,bi,l⟩=[uY ai]:=by unfold fU;simp only[g1,if_true,if_false,Bool.false_eq_true]
  refine fV ?_;refine lo (aAg (z:=_) ⟨_,_,_,rfl⟩) rfl ?_;refine fO ?_;refine lo (WU rfl (E rfl) (E rfl) (fun _=>by omega) (fun _=>aDg ha)) rfl ?_;refine eC fun r23 h23=> ?_;intros
  apply ap (es':=(us++ [uY ai]).map aG) (len':=(us++ [uY ai]).length);rfl;rfl;exact bC
  ·simp
  ·exact .inr (.inr ⟨_,_,_,_,_,rfl,bC,by simp,rfl⟩)
  ·first|(simp[aG];done)|(simp only[List.drop_zero,List.map_append];congr 1;exact List.take_of_length_le (by simp))
  ·simp;try omega
  ·simp[maxLen];try omega
  ·simp;try omega
  ·rfl
  refine bE fun r24 h24=> ?_;intros
  refine cM ?_;rw[hp];exact aD aE ⟨_,by rfl,rfl⟩ aA
 refine dE ?_;refine aB rfl (fun g2=> ?_) (fun g2=> ?_)
 ·refine aI ?_;have ha:=f3 g2;obtain⟨a,rfl⟩:=Int.eq_ofNat_of_zero_le ha.1;have hp:fU ⟨(op:Int),(a:Int),bi,l⟩=uB a:=by unfold fU;simp only[g1,g2,if_true,if_false,Bool.false_eq_true,Int.toNat_natCast]
  refine lA ?_;refine RI ?_;refine cw [(r12,.arr 5 1 ((us).map aG))] Tryz.call239 (mU r12 (us) (by first|omega|(simp;omega)) a (by omega)) rfl ?_ ?_ ?_
  ·exact aC
  ·exact aA
  rintro _ σ' ⟨ra,rfl,rfl⟩ hra;have kra:=aV hra;repeat rcases kra with⟨_,kra⟩
  refine eY ?_;rw[hp];exact aD aE ⟨_,by rfl,rfl⟩ aA
 refine dE ?_;refine aB rfl (fun g3=> ?_) (fun g3=> ?_)
 ·refine aI ?_;have ha:=f5 g3;obtain⟨a,rfl⟩:=Int.eq_ofNat_of_zero_le ha.1;have hp:fU ⟨(op:Int),(a:Int),bi,l⟩=uB a++ [0]:=by unfold fU;simp only[g1,g2,g3,if_true,if_false,Bool.false_eq_true,Int.toNat_natCast]
  have hal:=bG 1 a (by omega);refine lA ?_;refine RI ?_;refine cw [(r12,.arr 5 1 ((us).map aG))] Tryz.call239 (mU r12 (us) (by first|omega|(simp;omega)) a (by omega)) rfl ?_ ?_ ?_
  ·exact aC
  ·exact aA
  rintro _ σ' ⟨ra,rfl,rfl⟩ hra;have kra:=aV hra;repeat rcases kra with⟨_,kra⟩
  apply aU;exact bD;refine eC fun r39 h39=> ?_;intros
  apply ap (es':=((us++uB a)++ [0]).map aG) (len':=((us++uB a)++ [0]).length);rfl;rfl;exact bC
  ·simp
  ·exact .inr (.inr ⟨_,_,_,_,_,rfl,bC,by simp,rfl⟩)
  ·first|(simp[aG];done)|(simp only[List.drop_zero,List.map_append];congr 1;exact List.take_of_length_le (by simp))
  ·simp;try omega
  ·simp[maxLen];try omega
  ·simp;try omega
  ·rfl
  refine bE fun r40 h40=> ?_;intros
  refine cM ?_;rw[hp,←List.append_assoc];exact aD aE ⟨_,by rfl,rfl⟩ aA
 refine dE ?_;refine aB rfl (fun g4=> ?_) (fun g4=> ?_)
 ·refine aI ?_;have ha:=f4 g4;obtain⟨⟨ha0,ha1⟩,hl50,hall⟩:=ha;obtain⟨a,rfl⟩:=Int.eq_ofNat_of_zero_le ha0;have hp:fU ⟨(op:Int),(a:Int),bi,l⟩=uB l.length++(l.flatMap fun n=>uB n.toNat)++uB a:=by unfold fU;simp only[g1,g2,g3,g4,if_true,if_false,Bool.false_eq_true,Int.toNat_natCast]
  have hal:=bG 1 a (by omega);have hll:=bG 1 l.length (by omega);have hfl:=rP hall;refine fV ?_;refine yT ?_;refine RI ?_;refine cw [(r12,.arr 5 1 ((us).map aG))] Tryz.call239 (mU r12 (us) (by first|omega|(simp;omega)) l.length (by omega)) rfl ?_ ?_ ?_
  ·exact aC
  ·exact aA
  rintro _ σ' ⟨ra,rfl,rfl⟩ hra;have kra:=aV hra;repeat rcases kra with⟨_,kra⟩
  refine eY ?_;refine mJ ?_;refine tN ?_;obtain⟨ws,hws⟩:∃ws,ws=us++uB l.length:=⟨_,rfl⟩
  have hwl:ws.length≤50000003:=by rw[hws];simp;omega
  rw[←hws];have hpre:∀j,(us++uB l.length++((l.take j).flatMap fun n=>uB n.toNat)).length≤50000103:=fun j=>by
   have:=rP (l:=l.take j) fun n hn=>hall n (List.mem_of_mem_take hn)
   simp at this⊢;omega
  refine lp (β:=Nat×Nat) (fun b=>⟨[(0,.own b.1 0 (ws++((l.take b.2).flatMap fun n=>uB n.toNat)).length),(3,.ptr r3 0),(50,.ro 1 (l.map aK) k),(51,.int .i64 l.length),(52,.int .i64 b.2)],[(b.1,.arr 5 1 ((ws++((l.take b.2).flatMap fun n=>uB n.toNat)).map aG)),(r3,.box 46 [.int .i64 op,.int .i64 a,.int .i64 bi,.ro 1 (l.map aK) k])]⟩) (fun b=>Nq b.1 r3∧b.2≤l.length) (fun b=>l.length-b.2) (ra,0) ?_ ⟨?_,Nat.zero_le _⟩ ?_
  ·simp only[List.take_zero,List.flatMap_nil,List.append_nil];exact aJ
  ·show Nq ra r3;exact cA
  rintro⟨rb,j⟩ ⟨hrb,hj⟩;dsimp only at hrb hj⊢;have hpj:=hpre j;rw[←hws]at hpj;refine gA ?_;refine aB rfl (fun h1=> ?_) (fun h1=> ?_)
  ·have hlt:j<l.length:=by simp at h1;omega
   obtain⟨y,hy⟩:∃y,l[j]? =some y:=⟨_,List.getElem?_eq_getElem hlt⟩
   obtain⟨hy0,hy1⟩:=hall y (List.mem_of_getElem? hy);obtain⟨z,rfl⟩:=Int.eq_ofNat_of_zero_le hy0;refine cZ ?_;refine lM ?_;refine lO ?_;refine RI ?_;refine cw [(rb,.arr 5 1 ((ws++((l.take j).flatMap fun n=>uB n.toNat)).map aG))] Tryz.call239 (mU rb (ws++((l.take j).flatMap fun n=>uB n.toNat)) (by first|omega|(simp;omega)) z (by omega)) rfl ?_ ?_ ?_
   ·exact aC
   ·exact aA
   rintro _ σ' ⟨rc,rfl,rfl⟩ hrc;have krc:=aV hrc;repeat rcases krc with⟨_,krc⟩
   refine tJ ?_;have hnx:ws++((l.take j).flatMap fun n=>uB n.toNat)++uB z=ws++((l.take (j+1)).flatMap fun n=>uB n.toNat):=by
    rw[List.take_add_one,hy,List.flatMap_append,List.append_assoc];simp
   rw[hnx];refine⟨(rc,j+1),⟨by show Nq rc r3;(exact cA),hlt⟩,by show l.length-(j+1)<l.length-j;omega, ?_⟩;exact aJ
  ·obtain rfl:j=l.length:=by simp at h1;omega
   rw[List.take_length]at hpj⊢;refine oI ?_;refine RI ?_;refine cw [(rb,.arr 5 1 ((ws++(l.flatMap fun n=>uB n.toNat)).map aG))] Tryz.call239 (mU rb (ws++(l.flatMap fun n=>uB n.toNat)) (by first|omega|(simp;omega)) a (by omega)) rfl ?_ ?_ ?_
   ·exact aC
   ·exact aA
   rintro _ σ' ⟨rd,rfl,rfl⟩ hrd;have krd:=aV hrd;repeat rcases krd with⟨_,krd⟩
   refine eY ?_;rw[hp,show us++(uB l.length++(l.flatMap fun n=>uB n.toNat)++uB a)=ws++(l.flatMap fun n=>uB n.toNat)++uB a by rw[hws];simp];exact aD aE ⟨_,by rfl,rfl⟩ aA
 refine dE ?_;refine aB rfl (fun g5=> ?_) (fun g5=> ?_)
 ·refine aI ?_;have ha:=f6 g5;obtain⟨ha0,ha1,hb0,hb1⟩:=ha;obtain⟨a,rfl⟩:=Int.eq_ofNat_of_zero_le ha0;obtain⟨b,rfl⟩:=Int.eq_ofNat_of_zero_le hb0;have hp:fU ⟨(op:Int),(a:Int),(b:Int),l⟩=uB a++uB b:=by unfold fU;simp only[g1,g2,g3,g4,g5,if_true,if_false,Bool.false_eq_true,Int.toNat_natCast]
  have hal:=bG 1 a (by omega);refine fJ [(0,true),(1,true),(2,true),(3,true),(5,true),(6,true),(7,true),(4,false),(8,false),(9,true)] ?_;refine CG ?_;refine z75 ?_;refine iC ?_;refine z75 ?_;refine pD [(r12,.arr 5 1 ((us).map aG))] rfl Tryz.call239 (mU r12 (us) (by first|omega|(simp;omega)) a (by omega)) rfl ?_ ?_ ?_ ?_
  ·exact aC
  ·exact aA
  ·exact eM
  rintro _ σ' ⟨ra,rfl,rfl⟩ hra;have kra:=aV hra;repeat rcases kra with⟨_,kra⟩
  apply bQ;exact bD;refine pD [(ra,.arr 5 1 ((us++uB a).map aG))] rfl Tryz.call239 (mU ra (us++uB a) (by first|omega|(simp;omega)) b (by omega)) rfl ?_ ?_ ?_ ?_
  ·exact aC
  ·exact aA
  ·exact eM
  rintro _ σ' ⟨rb,rfl,rfl⟩ hrb;have krb:=aV hrb;repeat rcases krb with⟨_,krb⟩
  refine tI ?_;rw[hp,←List.append_assoc];exact aD aE ⟨_,by rfl,rfl⟩ aA
 refine dE ?_;refine aB rfl (fun g6=> ?_) (fun g6=> ?_)
 ·refine aI ?_;have hp:fU ⟨(op:Int),ai,bi,l⟩=[0]:=by unfold fU;simp only[g1,g2,g3,g4,g5,g6,if_true,if_false,Bool.false_eq_true]
  refine fV ?_;refine eC fun r80 h80=> ?_;intros
  apply ap (es':=(us++ [0]).map aG) (len':=(us++ [0]).length);rfl;rfl;exact bC
  ·simp
  ·exact .inr (.inr ⟨_,_,_,_,_,rfl,bC,by simp,rfl⟩)
  ·first|(simp[aG];done)|(simp only[List.drop_zero,List.map_append];congr 1;exact List.take_of_length_le (by simp))
  ·simp;try omega
  ·simp[maxLen];try omega
  ·simp;try omega
  ·rfl
  refine bE fun r81 h81=> ?_;intros
  refine cM ?_;rw[hp];exact aD aE ⟨_,by rfl,rfl⟩ aA
 refine dE ?_;apply fR rfl;exact cO
 ·intro _;(refine aI ?_);refine eP ?_;exact aJ
 refine aI ?_;refine aB rfl (fun g7=> ?_) (fun g7=> ?_)
 ·refine aI ?_;have hp:fU ⟨(op:Int),ai,bi,l⟩=sB ai:=by unfold fU;simp only[g1,g2,g3,g4,g5,g6,g7,if_true,if_false,Bool.false_eq_true]
  refine lA ?_;refine cw [(r12,.arr 5 1 (us.map aG))] Tryz.call296 (OM r12 us (by omega) ai f8) rfl ?_ ?_ ?_
  ·exact aC
  ·exact aA
  rintro _ σ' ⟨ra,rfl,rfl⟩ hra;refine eY ?_;rw[hp];exact aD aE ⟨_,by rfl,rfl⟩ aA
 refine eW ?_;apply aD;exact aE
 ·(unfold fU;simp only[g1,g2,g3,g4,g5,g6,g7,if_true,if_false,Bool.false_eq_true,List.append_nil];exact⟨_,rfl,rfl⟩)
 ·exact aA
theorem aAG{a:Int}(h:0≤a∧a≤2):([[.int .u8 64],[.int .u8 127],[.int .u8 126]]:List (List AV))[a.toNat]? =some [.int .u8 (uY a:Nat)]:=by
 have:a=0∨a=1∨a=2:=by omega
 rcases this with rfl|rfl|rfl<;>rfl
theorem sO(k:Rk)(x:Ins)(hx:x.Ok)(hm:cT x=true):SCall Tryz.prog 253 [.agg (iv k x)] []
  (fun y σ=>∃r,y=.own r 0 (gE x).length∧σ=[(r,.arr 5 1 ((gE x).map aG))]):=by
 have f1:=KY hm;have f2:=aGw hm;have f3:=aDc hm;have f4:=aDe hm;have f5:=aDd hm;have f6:=aDf hm;have hop:-9223372036854775808≤x.op∧x.op≤9223372036854775807:=⟨hx.1,hx.2.1⟩
 have f8:-9223372036854775808≤x.a∧x.a≤9223372036854775807:=⟨hx.2.2.1,hx.2.2.2.1⟩
 have hs8:(sB x.a).length≤10:=xV 9 x.a (by omega) (by omega);obtain⟨op,ai,bi,l⟩:=x;dsimp only at f1 f2 f3 f4 f5 f6 f8 hop hs8;obtain⟨op,rfl⟩:=Int.eq_ofNat_of_zero_le f1.1;have hvo:gE ⟨(op:Int),ai,bi,l⟩=[op]++fU ⟨(op:Int),ai,bi,l⟩:=by simp[gE]
 rw[hvo];refine bS 98 [0,1,2,3,4,11,12,22,30,40,53,71,84,89] Tryz.func253 ?_;unfold iv;dsimp only;refine cZ ?_;refine gQ fun r1 h1=> ?_;intros
 refine iJ ?_;refine z0 ?_;refine eC fun r8 h8=> ?_;intros
 refine cM ?_;rw[show [[AV.int .u8 (op:Int)]]=[op].map aG from rfl,show AV.own r8 0 1=AV.own r8 0 [op].length from rfl];refine mJ ?_;refine fO ?_
 (first|refine ln rfl rfl rfl rfl ?_ |refine lw rfl rfl (bR (v:=.bool false)) rfl ?_ |refine pu [] Tryz.call250 (pQ _ (by assumption)) rfl bU aS ?_ |refine vX [] rfl rfl Tryz.call250 (fun _=>(pQ _ (by assumption))) rfl bU aS ?_ |refine BK [] rfl rfl Tryz.call250 (fun _=>(pQ _ (by assumption))) rfl bU aS ?_);refine rN ?_;refine aB rfl (fun g1=> ?_) (fun g1=> ?_)
 ·refine aI ?_;have ha:=f2 g1;have hp:fU ⟨(op:Int),ai,bi,l⟩=[uY ai]:=by unfold fU;simp only[g1,if_true,if_false,Bool.false_eq_true]
  refine fV ?_;refine eC fun r15 h15=> ?_;intros
  refine fO ?_;refine UC ?_;refine lo (bJ (E rfl) rfl bC (fun _=>aAG ha) (fun _=>rfl)) rfl ?_;refine eC fun r20 h20=> ?_;intros
  apply ap (es':=([op]++ [uY ai]).map aG) (len':=([op]++ [uY ai]).length);rfl;rfl;exact bC
  ·simp
  ·exact .inr (.inr ⟨_,_,_,_,_,rfl,bC,by simp,rfl⟩)
  ·first|(simp[aG];done)|(simp only[List.drop_zero,List.map_append];congr 1;exact List.take_of_length_le (by simp))
  ·simp;try omega
  ·simp[maxLen];try omega
  ·simp;try omega
  ·rfl
  refine bE fun r21 h21=> ?_;intros
  refine cM ?_;rw[hp];exact aD aE ⟨_,by rfl,rfl⟩ aA
 refine dE ?_;refine aB rfl (fun g2=> ?_) (fun g2=> ?_)
 ·refine aI ?_;have ha:=f3 g2;obtain⟨a,rfl⟩:=Int.eq_ofNat_of_zero_le ha.1;have hp:fU ⟨(op:Int),(a:Int),bi,l⟩=uB a:=by unfold fU;simp only[g1,g2,if_true,if_false,Bool.false_eq_true,Int.toNat_natCast]
  have hal:=bG 1 a (by omega);refine lA ?_;refine RI ?_;refine cw [] Tryz.call252 (BP a (by omega)) rfl ?_ ?_ ?_
  ·exact aC
  ·exact aA
  rintro _ σ' ⟨ra,rfl,rfl⟩ hra
  replace hra:=fY hra;repeat rcases hra with⟨_,hra⟩
  apply aU;exact bD
  apply ap (es':=([op]++uB a).map aG) (len':=([op]++uB a).length);rfl;rfl;exact bC
  ·simp
  ·exact .inr (.inr ⟨_,_,_,_,_,rfl,bC,by simp,rfl⟩)
  ·first|(simp[aG];done)|(simp only[List.drop_zero,List.map_append];congr 1;exact List.take_of_length_le (by simp))
  ·simp;try omega
  ·simp[maxLen];try omega
  ·simp;try omega
  ·rfl
  refine bE fun r29 h29=> ?_;intros
  refine cM ?_;rw[hp];exact aD aE ⟨_,by rfl,rfl⟩ aA
 refine dE ?_;refine aB rfl (fun g3=> ?_) (fun g3=> ?_)
 ·refine aI ?_;have ha:=f5 g3;obtain⟨a,rfl⟩:=Int.eq_ofNat_of_zero_le ha.1;have hp:fU ⟨(op:Int),(a:Int),bi,l⟩=uB a++ [0]:=by unfold fU;simp only[g1,g2,g3,if_true,if_false,Bool.false_eq_true,Int.toNat_natCast]
  have hal:=bG 1 a (by omega);refine lA ?_;refine RI ?_;refine cw [] Tryz.call252 (BP a (by omega)) rfl ?_ ?_ ?_
  ·exact aC
  ·exact aA
  rintro _ σ' ⟨ra,rfl,rfl⟩ hra
  replace hra:=fY hra;repeat rcases hra with⟨_,hra⟩
  apply aU;exact bD;apply ap (es':=([op]++uB a).map aG) (len':=([op]++uB a).length);rfl;rfl;exact bC
  ·simp
  ·exact .inr (.inr ⟨_,_,_,_,_,rfl,bC,by simp,rfl⟩)
  ·first|(simp[aG];done)|(simp only[List.drop_zero,List.map_append];congr 1;exact List.take_of_length_le (by simp))
  ·simp;try omega
  ·simp[maxLen];try omega
  ·simp;try omega
  ·rfl
  refine bE fun r37 h37=> ?_;intros
  refine eC fun r38 h38=> ?_;intros
  apply ap (es':=(([op]++uB a)++ [0]).map aG) (len':=(([op]++uB a)++ [0]).length);rfl;rfl;exact bC
  ·simp
  ·exact .inr (.inr ⟨_,_,_,_,_,rfl,bC,by simp,rfl⟩)
  ·first|(simp[aG];done)|(simp only[List.drop_zero,List.map_append];congr 1;exact List.take_of_length_le (by simp))
  ·simp;try omega
  ·simp[maxLen];try omega
  ·simp;try omega
  ·rfl
  refine bE fun r39 h39=> ?_;intros
  refine cM ?_;rw[hp,←List.append_assoc];exact aD aE ⟨_,by rfl,rfl⟩ aA
 refine dE ?_;refine aB rfl (fun g4=> ?_) (fun g4=> ?_)
 ·refine aI ?_;have ha:=f4 g4;obtain⟨⟨ha0,ha1⟩,hl50,hall⟩:=ha;obtain⟨a,rfl⟩:=Int.eq_ofNat_of_zero_le ha0;have hp:fU ⟨(op:Int),(a:Int),bi,l⟩=uB l.length++(l.flatMap fun n=>uB n.toNat)++uB a:=by unfold fU;simp only[g1,g2,g3,g4,if_true,if_false,Bool.false_eq_true,Int.toNat_natCast]
  have hal:=bG 1 a (by omega);have hll:=bG 1 l.length (by omega);have hfl:=rP hall;refine fV ?_;refine yT ?_;refine RI ?_;refine cw [] Tryz.call252 (BP l.length (by omega)) rfl ?_ ?_ ?_
  ·exact aC
  ·exact aA
  rintro _ σ' ⟨ra,rfl,rfl⟩ hra
  replace hra:=fY hra;repeat rcases hra with⟨_,hra⟩
  apply aU;exact bD;apply ap (es':=([op]++uB l.length).map aG) (len':=([op]++uB l.length).length);rfl;rfl;exact bC
  ·simp
  ·exact .inr (.inr ⟨_,_,_,_,_,rfl,bC,by simp,rfl⟩)
  ·first|(simp[aG];done)|(simp only[List.drop_zero,List.map_append];congr 1;exact List.take_of_length_le (by simp))
  ·simp;try omega
  ·simp[maxLen];try omega
  ·simp;try omega
  ·rfl
  refine bE fun r48 h48=> ?_;intros
  refine iX ?_;refine cM ?_;obtain⟨ws,hws⟩:∃ws,ws=[op]++uB l.length:=⟨_,rfl⟩
  have hwl:ws.length≤3:=by rw[hws];simp;omega
  rw[←hws];have hpre:∀j,(ws++((l.take j).flatMap fun n=>uB n.toNat)).length≤103:=fun j=>by
   have:=rP (l:=l.take j) fun n hn=>hall n (List.mem_of_mem_take hn)
   simp at this⊢;omega
  refine lp (β:=Nat×Nat) (fun b=>⟨[(3,.own b.1 0 (ws++((l.take b.2).flatMap fun n=>uB n.toNat)).length),(1,.ptr r1 0),(4,.int .i64 b.2)],[(b.1,.arr 5 1 ((ws++((l.take b.2).flatMap fun n=>uB n.toNat)).map aG)),(r1,.box 46 [.int .i64 op,.int .i64 a,.int .i64 bi,.ro 1 (l.map aK) k])]⟩) (fun b=>Nq b.1 r1∧b.2≤l.length) (fun b=>l.length-b.2) (r48,0) ?_ ⟨?_,Nat.zero_le _⟩ ?_
  ·simp only[List.take_zero,List.flatMap_nil,List.append_nil];exact aJ
  ·show Nq r48 r1;exact cA
  rintro⟨rb,j⟩ ⟨hrb,hj⟩;dsimp only at hrb hj⊢;have hpj:=hpre j;refine nT ?_;refine aB rfl (fun h1=> ?_) (fun h1=> ?_)
  ·have hlt:j<l.length:=by simp at h1;omega
   obtain⟨y,hy⟩:∃y,l[j]? =some y:=⟨_,List.getElem?_eq_getElem hlt⟩
   obtain⟨hy0,hy1⟩:=hall y (List.mem_of_getElem? hy);obtain⟨z,rfl⟩:=Int.eq_ofNat_of_zero_le hy0;have hzl:=bG 1 z (by omega);obtain⟨pl,hpl⟩:∃pl,pl=ws++((l.take j).flatMap fun n=>uB n.toNat):=⟨_,rfl⟩
   rw[←hpl]at hpj⊢;refine oI ?_;refine pA ?_;refine RI ?_;refine cw [] Tryz.call252 (BP z (by omega)) rfl ?_ ?_ ?_
   ·exact aC
   ·exact aA
   rintro _ σ' ⟨rc,rfl,rfl⟩ hrc
   replace hrc:=fY hrc;repeat rcases hrc with⟨_,hrc⟩
   apply aU;exact bD;apply ap (es':=(pl++uB z).map aG) (len':=(pl++uB z).length);rfl;rfl;exact bC
   ·simp
   ·exact .inr (.inr ⟨_,_,_,_,_,rfl,bC,by simp,rfl⟩)
   ·first|(simp[aG];done)|(simp only[List.drop_zero,List.map_append];congr 1;exact List.take_of_length_le (by simp))
   ·simp;try omega
   ·simp[maxLen];try omega
   ·simp;try omega
   ·rfl
   refine bE fun r64 h64=> ?_;intros
   refine gZ ?_;refine DS ?_;have hnx:ws++((l.take j).flatMap fun n=>uB n.toNat)++uB z=ws++((l.take (j+1)).flatMap fun n=>uB n.toNat):=by
    rw[List.take_add_one,hy,List.flatMap_append,List.append_assoc];simp
   rw[hpl,hnx];refine⟨(r64,j+1),⟨by show Nq r64 r1;(exact cA),hlt⟩,by show l.length-(j+1)<l.length-j;omega, ?_⟩;exact aJ
  ·obtain rfl:j=l.length:=by simp at h1;omega
   rw[List.take_length]at hpj⊢;obtain⟨pl,hpl⟩:∃pl,pl=ws++(l.flatMap fun n=>uB n.toNat):=⟨_,rfl⟩
   rw[←hpl]at hpj⊢;refine oI ?_;refine RI ?_;refine cw [] Tryz.call252 (BP a (by omega)) rfl ?_ ?_ ?_
   ·exact aC
   ·exact aA
   rintro _ σ' ⟨rd,rfl,rfl⟩ hrd
   replace hrd:=fY hrd;repeat rcases hrd with⟨_,hrd⟩
   apply aU;exact bD;apply ap (es':=(pl++uB a).map aG) (len':=(pl++uB a).length);rfl;rfl;exact bC
   ·simp
   ·exact .inr (.inr ⟨_,_,_,_,_,rfl,bC,by simp,rfl⟩)
   ·first|(simp[aG];done)|(simp only[List.drop_zero,List.map_append];congr 1;exact List.take_of_length_le (by simp))
   ·simp;try omega
   ·simp[maxLen];try omega
   ·simp;try omega
   ·rfl
   refine bE fun r70 h70=> ?_;intros
   refine cM ?_;rw[hpl];rw[hp,show [op]++(uB l.length++(l.flatMap fun n=>uB n.toNat)++uB a)=ws++(l.flatMap fun n=>uB n.toNat)++uB a by rw[hws];simp];exact aD aE ⟨_,by rfl,rfl⟩ aA
 refine dE ?_;refine aB rfl (fun g5=> ?_) (fun g5=> ?_)
 ·refine aI ?_;have ha:=f6 g5;obtain⟨ha0,ha1,hb0,hb1⟩:=ha;obtain⟨a,rfl⟩:=Int.eq_ofNat_of_zero_le ha0;obtain⟨b,rfl⟩:=Int.eq_ofNat_of_zero_le hb0;have hp:fU ⟨(op:Int),(a:Int),(b:Int),l⟩=uB a++uB b:=by unfold fU;simp only[g1,g2,g3,g4,g5,if_true,if_false,Bool.false_eq_true,Int.toNat_natCast]
  have hal:=bG 1 a (by omega);have hbl:=bG 4 b (by omega);refine fJ [(0,true),(1,true),(2,true),(3,true),(6,true),(7,true),(8,true),(4,false),(5,false),(9,false),(10,false),(11,true)] ?_;refine CG ?_;refine z75 ?_;refine iC ?_;refine z75 ?_;refine pD [] rfl Tryz.call252 (BP a (by omega)) rfl ?_ ?_ ?_ ?_
  ·exact aC
  ·exact aA
  ·exact eM
  rintro _ σ' ⟨ra,rfl,rfl⟩ hra
  replace hra:=fY hra;repeat rcases hra with⟨_,hra⟩
  apply bQ;exact bD;apply dap (es':=([op]++uB a).map aG) (len':=([op]++uB a).length);rfl;infer_instance;infer_instance;rfl;rfl;exact bC
  ·simp
  ·exact .inr (.inr ⟨_,_,_,_,_,rfl,bC,by simp,rfl⟩)
  ·first|(simp[aG];done)|(simp only[List.drop_zero,List.map_append];congr 1;exact List.take_of_length_le (by simp))
  ·simp;try omega
  ·simp[maxLen];try omega
  ·simp;try omega
  ·rfl
  ·exact eM
  refine bE fun r78 h78=> ?_;intros
  refine pD [] rfl Tryz.call252 (BP b (by omega)) rfl ?_ ?_ ?_ ?_
  ·exact aC
  ·exact aA
  ·exact eM
  rintro _ σ' ⟨rb,rfl,rfl⟩ hrb
  replace hrb:=fY hrb;repeat rcases hrb with⟨_,hrb⟩
  apply bQ;exact bD;apply dap (es':=(([op]++uB a)++uB b).map aG) (len':=(([op]++uB a)++uB b).length);rfl;infer_instance;infer_instance;rfl;rfl;exact bC
  ·simp
  ·exact .inr (.inr ⟨_,_,_,_,_,rfl,bC,by simp,rfl⟩)
  ·first|(simp[aG];done)|(simp only[List.drop_zero,List.map_append];congr 1;exact List.take_of_length_le (by simp))
  ·simp;try omega
  ·simp[maxLen];try omega
  ·simp;try omega
  ·rfl
  ·exact eM
  refine bE fun r83 h83=> ?_;intros
  refine wQ ?_;rw[hp,←List.append_assoc];exact aD aE ⟨_,by rfl,rfl⟩ aA
 refine dE ?_;refine aB rfl (fun g6=> ?_) (fun g6=> ?_)
 ·refine aI ?_;have hp:fU ⟨(op:Int),ai,bi,l⟩=[0]:=by unfold fU;simp only[g1,g2,g3,g4,g5,g6,if_true,if_false,Bool.false_eq_true]
  refine fV ?_;refine eC fun r87 h87=> ?_;intros
  apply ap (es':=([op]++ [0]).map aG) (len':=([op]++ [0]).length);rfl;rfl;exact bC
  ·simp
  ·exact .inr (.inr ⟨_,_,_,_,_,rfl,bC,by simp,rfl⟩)
  ·first|(simp[aG];done)|(simp only[List.drop_zero,List.map_append];congr 1;exact List.take_of_length_le (by simp))
  ·simp;try omega
  ·simp[maxLen];try omega
  ·simp;try omega
  ·rfl
  refine bE fun r88 h88=> ?_;intros
  refine cM ?_;rw[hp];exact aD aE ⟨_,by rfl,rfl⟩ aA
 refine dE ?_;apply fR rfl;exact cO
 ·intro _;(refine aI ?_);refine eP ?_;exact aJ
 refine aI ?_;refine aB rfl (fun g7=> ?_) (fun g7=> ?_)
 ·refine aI ?_;have hp:fU ⟨(op:Int),ai,bi,l⟩=sB ai:=by unfold fU;simp only[g1,g2,g3,g4,g5,g6,g7,if_true,if_false,Bool.false_eq_true]
  refine lA ?_;refine cw [] Tryz.call297 (aI4 ai f8) rfl ?_ ?_ ?_
  ·exact aC
  ·exact aA
  rintro _ σ' ⟨ra,rfl,rfl⟩ hra
  replace hra:=fY hra;repeat rcases hra with⟨_,hra⟩
  apply aU;exact bD;apply ap (es':=([op]++sB ai).map aG) (len':=([op]++sB ai).length);rfl;rfl;exact bC
  ·simp
  ·exact .inr (.inr ⟨_,_,_,_,_,rfl,bC,by simp,rfl⟩)
  ·first|(simp[aG];done)|(simp only[List.drop_zero,List.map_append];congr 1;exact List.take_of_length_le (by simp))
  ·simp;try omega
  ·simp[maxLen];try omega
  ·simp;try omega
  ·rfl
  refine bE fun r96 h96=> ?_;intros
  refine cM ?_;rw[hp];exact aD aE ⟨_,by rfl,rfl⟩ aA
 refine eW ?_;apply aD;exact aE
 ·(unfold fU;simp only[g1,g2,g3,g4,g5,g6,g7,if_true,if_false,Bool.false_eq_true,List.append_nil];exact⟨_,rfl,rfl⟩)
 ·exact aA
def rv (l:List Nat) (n:Nat) (e:Int):List AV:=[.ro 1 (l.map aG) .any,.int .i64 n,.int .i64 e]
def pG (l:List Nat) (n:Nat) (e:Int):Nat×Nat×Int:=
 if(e !=0)=true then(0,n,e)else if((n:Int)==(l.length:Int))=true then(0,n,2)else(l[n]!,n+1,e)
def gJ (l:List Nat) (lim:Int) (n:Nat) (e:Int):Nat×Nat×Int:=
 if(e !=0)=true then(0,n,e)else if((lQ (l.drop n)).2.2 !=0)=true then(0,n,(lQ (l.drop n)).2.2)else if decide (lim<((lQ (l.drop n)).1:Int))=true then(0,n,1)else((lQ (l.drop n)).1,n+(lQ (l.drop n)).2.1,(lQ (l.drop n)).2.2)
def BQ (l:List Nat) (bits:Nat) (n:Nat):Int×Nat×Int:=((wR bits (l.drop n)).1,n+(wR bits (l.drop n)).2.1,(wR bits (l.drop n)).2.2)
theorem DZ(r:Nat)(l:List Nat)(hl:l.length≤1000000)(hlt:∀x∈l,x<256)(n:Nat)(hn:n≤l.length)(e:Int):SCall Tryz.prog 314 [.ptr r 0] [(r,.box 346 (rv l n e))]
  (fun x σ=>x=.int .i64 ((pG l n e).1:Nat)∧σ=[(r,.box 346 (rv l (pG l n e).2.1 (pG l n e).2.2))]):=by
 refine bS 42 [0,2,3,9] Tryz.func314 ?_;unfold rv;refine eX ?_;refine gY ?_;refine lo (dV (E rfl) (E rfl)) rfl ?_;refine cM ?_;refine aB rfl (fun g1=> ?_) (fun g1=> ?_)
 ·refine bF ?_;apply aD;exact aE
  ·(unfold pG;simp only[g1,if_true,if_false,Bool.false_eq_true];exact⟨rfl,rfl⟩)
  ·exact aA
 refine aI ?_;refine fJ [(0,true),(1,true),(2,true),(3,true),(4,true),(5,true),(6,true),(7,true),(8,true),(9,true),(10,true)] ?_;refine mQ ?_;refine IS ?_;refine z79 ?_;refine wQ ?_;refine aB rfl (fun g2=> ?_) (fun g2=> ?_)
 ·refine qJ ?_;refine lU ?_;refine bF ?_;apply aD;exact aE
  ·(unfold pG;simp only[g1,g2,if_true,if_false,Bool.false_eq_true];exact⟨rfl,rfl⟩)
  ·exact aA
 refine cX ?_;refine gY ?_;refine NR ?_;refine lK ?_;have hlt2:n<l.length:=by simp at g2;omega
 refine fJ [(0,true),(1,true),(2,true),(3,true),(4,true),(5,true),(6,true),(7,true),(8,true),(9,true),(10,true),(11,true),(12,true)] ?_;refine mQ ?_;refine mQ ?_;refine z82 ?_;rw[show(n:Int)+1-1=(n:Nat) by omega];refine nG ?_;rw[Int.toNat_natCast];have hb8:=zA hlt n;refine z83 ?_;refine wQ ?_;apply aD;exact aE
 ·(unfold pG;simp only[g1,g2,if_true,if_false,Bool.false_eq_true];exact⟨rfl,rfl⟩)
 ·exact aA
def KZ (l:List Nat) (n:Nat) (e:Int):Nat×Int:=if(((pG l n e).1:Int) !=0)=true then((pG l n e).2.1,1)else(pG l n e).2
theorem OS(r:Nat)(l:List Nat)(hl:l.length≤1000000)(hlt:∀x∈l,x<256)(n:Nat)(hn:n≤l.length)(e:Int):SCall Tryz.prog 317 [.ptr r 0] [(r,.box 346 (rv l n e))]
  (fun x σ=>x=.tup []∧σ=[(r,.box 346 (rv l (KZ l n e).1 (KZ l n e).2))]):=by
 refine bS 8 [0,4] Tryz.func317 ?_;unfold rv;refine cX ?_;refine cw [(r,.box 346 (rv l n e))] Tryz.call314 (DZ r l hl hlt n hn e) rfl ?_ ?_ ?_
 ·exact aC
 ·exact aA
 rintro _ σ' ⟨rfl,rfl⟩-;apply aU;exact bD;refine qH ?_;unfold rv;refine aB rfl (fun g1=> ?_) (fun g1=> ?_)
 ·refine cX ?_;refine lK ?_;refine cL ?_;apply aD;exact aE
  ·unfold KZ;rw[if_pos g1];exact⟨rfl,rfl⟩
  ·exact aA
 ·refine aI ?_;refine cL ?_;apply aD;exact aE
  ·unfold KZ;rw[if_neg (by rw[g1];simp)];exact⟨rfl,rfl⟩
  ·exact aA
theorem JC{l:List Nat}{n:Nat}:List.take ((l.map aG).length-n) (List.drop n (l.map aG))=(l.drop n).map aG:=by
 rw[List.map_drop,List.take_of_length_le (by simp)]
theorem LA{e:Int}{b:Bool}(h:(if(e==0)=true then b else false)=true):e=0∧b=true:=by
 split at h
 ·next h1=>exact⟨by simpa using h1,h⟩
 ·cases h
theorem uZ{e:Int}{b:Bool}(h:(if(e==0)=true then b else false)=false)(h0:(e !=0)=false):e=0∧b=false:=by
 have h1:e=0:=by simpa using h0
 subst h1;exact⟨rfl,h⟩
theorem jJ(r:Nat)(l:List Nat)(hl:l.length≤1000000)(hlt:∀x∈l,x<256)(lim:Int)(n:Nat)(hn:n≤l.length)(e:Int):SCall Tryz.prog 316 [.ptr r 0,.int .i64 lim] [(r,.box 346 (rv l n e))]
  (fun x σ=>x=.int .i64 ((gJ l lim n e).1:Nat)∧σ=[(r,.box 346 (rv l (gJ l lim n e).2.1 (gJ l lim n e).2.2))]):=by
 have hbd:=yY (l.drop n);obtain⟨hb1,hb2,hb3⟩:=hbd;rw[List.length_drop]at hb2;refine bS 51 [0,1,4,5,6,7,12,34,40] Tryz.func316 ?_;unfold rv;refine eX ?_;refine tL ?_;refine aB rfl (fun g1=> ?_) (fun g1=> ?_)
 ·refine bF ?_;apply aD;exact aE
  ·(unfold gJ;simp only[g1,if_true,if_false,Bool.false_eq_true];first|exact⟨rfl,rfl⟩|(have hd:=uZ g2 g3;simp only[hd.2,Bool.false_eq_true,if_false];exact⟨rfl,rfl⟩))
  ·exact aA
 refine aI ?_;refine fJ [(0,true),(1,true),(2,true),(3,true),(4,true),(5,true),(6,true),(7,true),(8,true),(9,false),(10,true),(11,true),(12,true),(13,true),(14,true),(15,true),(16,true)] ?_;refine mQ ?_;refine mQ ?_;refine z84 ?_;rw[JC];refine dpu [] rfl Tryz.call166 (aFj (l.drop n) (by rw[List.length_drop];omega) (fun x hx=>hlt x (List.mem_of_mem_drop hx))) rfl bU aS ?_;refine fP rfl (aF (E rfl)) rfl ?_;refine z85 ?_;refine z85 ?_;refine z85 ?_;refine fP rfl (cK (E rfl)) rfl ?_;refine aGm ?_;refine cX ?_;refine lo (cN (E rfl) (E rfl)) rfl ?_;refine xS ?_;refine z80 ?_;refine z4 ?_;refine z81 ?_;refine z7 ?_;refine iI ?_;refine aB rfl (fun g2=> ?_) (fun g2=> ?_)
 ·refine lL ?_;refine lK ?_;refine fV ?_;refine lo (dV (E rfl) (E rfl)) rfl ?_;refine pO ?_;refine bF ?_;apply aD;exact aE
  ·unfold gJ;have hd:=LA g2;simp only[g1,hd.1,hd.2,bne_self_eq_false,Bool.false_eq_true,if_true,if_false];exact⟨rfl,rfl⟩
  ·exact aA
 refine dG ?_;refine lK ?_;refine fV ?_;refine qH ?_;refine aB rfl (fun g3=> ?_) (fun g3=> ?_)
 ·refine bF ?_;apply aD;exact aE
  ·(unfold gJ;simp only[g1,g2,g3,if_true,if_false,Bool.false_eq_true];first|exact⟨rfl,rfl⟩|(have hd:=uZ g2 g3;simp only[hd.2,Bool.false_eq_true,if_false];exact⟨rfl,rfl⟩))
  ·exact aA
 refine cX ?_;refine DU ?_;refine NR ?_;refine lK ?_;refine fV ?_;refine z44 ?_;refine cM ?_;apply aD;exact aE
 ·(unfold gJ;simp only[g1,g2,g3,if_true,if_false,Bool.false_eq_true];first|exact⟨rfl,rfl⟩|(have hd:=uZ g2 g3;simp only[hd.2,Bool.false_eq_true,if_false];exact⟨rfl,rfl⟩))
 ·exact aA
theorem EA(r:Nat)(l:List Nat)(hl:l.length≤1000000)(hlt:∀x∈l,x<256)(bits:Nat)(hb:bits=32∨bits=64)(n:Nat)(hn:n≤l.length)(e:Int):SCall Tryz.prog 318 [.ptr r 0,.int .i64 bits] [(r,.box 346 (rv l n e))]
  (fun x σ=>x=.int .i64 (BQ l bits n).1∧σ=[(r,.box 346 (rv l (BQ l bits n).2.1 (BQ l bits n).2.2))]):=by
 have hbd:=UM bits (l.drop n);rw[List.length_drop]at hbd;refine bS 37 [0,1,4,5,6,7] Tryz.func318 ?_;unfold rv BQ;refine bF ?_;refine fJ [(0,true),(1,true),(2,true),(3,true),(4,true),(5,true),(6,true),(7,true),(8,true),(9,true),(10,false),(11,true),(12,true),(13,true),(14,true),(15,true),(16,true),(17,true)] ?_;refine mQ ?_;refine mQ ?_;refine z84 ?_;refine fP rfl (aF (E rfl)) rfl ?_;rw[JC];refine dpu [] rfl Tryz.call322 (aI7 (l.drop n) (by rw[List.length_drop];omega) (fun x hx=>hlt x (List.mem_of_mem_drop hx)) bits hb) rfl bU aS ?_;refine fP rfl (aF (E rfl)) rfl ?_;refine z85 ?_;refine z85 ?_;refine z85 ?_;refine fP rfl (cK (E rfl)) rfl ?_;refine aGm ?_;refine DY ?_;refine DU ?_;refine NR ?_;refine lo (aF (E rfl)) rfl ?_;refine tZ ?_;apply MZ;rfl;rfl;rfl;rfl;exact mP;refine lK ?_;refine fV ?_;refine cM ?_;exact aD aE ⟨by rfl,rfl⟩ aA
def SA (l:List Int) (y:Int):Int:=match l.findIdx? (· ==y)with|some i=>i|none=> -1
theorem HP{k:Rk}(l:List Int)(y:Int):SCall Tryz.prog 321 [.ro 1 (l.map aK) k,.int .i64 y] [] (fun x σ=>x=.int .i64 (SA l y)∧σ=[]):=by
 refine bS 19 [0,1,4,5,7,8,9,16] Tryz.func321 ?_;refine gS (i:=0) rfl fun hm=> ?_
 rw[List.length_map]at hm;unfold maxLen at hm;refine rK ?_;refine lp (β:=Nat) (fun j=>⟨[(0,.ro 1 (l.map aK) k),(1,.int .i64 y),(7,.int .i64 l.length),(8,.int .i64 j)],[]⟩) (fun j=>j≤l.length∧∀i,i<j→l[i]? ≠some y) (fun j=>l.length-j) 0 ?_ ⟨Nat.zero_le _,fun i hi=>by omega⟩ ?_
 ·exact aJ
 rintro j ⟨hj,ht⟩;refine gA ?_;refine aB rfl (fun h1=> ?_) (fun h1=> ?_)
 ·have hlt:j<l.length:=by simp at h1;omega
  obtain⟨x,hx⟩:∃x,l[j]? =some x:=⟨_,List.getElem?_eq_getElem hlt⟩
  refine tM ?_;refine pA ?_;refine xR ?_;refine aB rfl (fun h2=> ?_) (fun h2=> ?_)
  ·have hxy:y=x:=by simpa using h2
   refine eW ?_;apply aD;exact aE
   ·have:l.findIdx? (· ==y)=some j:=by
     rw[List.findIdx?_eq_some_iff_getElem];refine⟨hlt, ?_,fun i hi=> ?_⟩
     ·rw[List.getElem?_eq_getElem hlt]at hx;simp at hx⊢;rw[hx,hxy]
     ·have:=ht i hi;rw[List.getElem?_eq_getElem (by omega)]at this;simpa using this
    unfold SA;rw[this];exact⟨rfl,rfl⟩
   ·exact aA
  ·have hxy:y≠x:=by simpa using h2
   refine jH ?_;refine⟨j+1,⟨by omega,fun i hi=> ?_⟩,by omega, ?_⟩
   ·by_cases hij:i=j
    ·subst hij;rw[hx];simpa using fun e=>hxy e.symm
    ·exact ht i (by omega)
   ·exact aJ
 ·obtain rfl:j=l.length:=by simp at h1;omega
  refine bF ?_;apply aD;exact aE
  ·have:l.findIdx? (· ==y)=none:=by
    rw[List.findIdx?_eq_none_iff];intro x hx;obtain⟨i,hi,rfl⟩:=List.mem_iff_getElem.1 hx;have:=ht i hi;rw[List.getElem?_eq_getElem hi]at this;simpa using this
   unfold SA;rw[this];exact⟨rfl,rfl⟩
  ·exact aA
def vA (c:Nat):Int:=SA [64,127,126] c
def LB (l:List Nat) (n:Nat) (e:Int):Int×Nat×Int:=
 if(if decide (vA (pG l n e).1<0)=true then((pG l n e).2.2==0)else false)=true then(if vA (pG l n e).1<0 then 0 else vA (pG l n e).1,(pG l n e).2.1,1)else(if vA (pG l n e).1<0 then 0 else vA (pG l n e).1,(pG l n e).2.1,(pG l n e).2.2)
theorem aAH(r:Nat)(l:List Nat)(hl:l.length≤1000000)(hlt:∀x∈l,x<256)(n:Nat)(hn:n≤l.length)(e:Int):SCall Tryz.prog 315 [.ptr r 0] [(r,.box 346 (rv l n e))]
  (fun x σ=>x=.int .i64 (LB l n e).1∧σ=[(r,.box 346 (rv l (LB l n e).2.1 (LB l n e).2.2))]):=by
 refine bS 24 [0,2,3,4,18] Tryz.func315 ?_;unfold rv;refine eX ?_;refine cw [(r,.box 346 (rv l n e))] Tryz.call314 (DZ r l hl hlt n hn e) rfl ?_ ?_ ?_
 ·exact aC
 ·exact aA
 rintro _ σ' ⟨rfl,rfl⟩-;refine eY ?_;unfold rv;refine mJ ?_;refine eC fun r7 h7=> ?_;intros
 refine lo (aF (E rfl)) rfl ?_;rw[show([[.int .i64 64],[.int .i64 127],[.int .i64 126]]:List (List AV))=[64,127,126].map aK from rfl];refine pu [r7] Tryz.call321 (HP (k:=.any) [64,127,126] ((pG l n e).1:Nat)) rfl ?_ aS ?_
 ·exact aP
 refine cM ?_;rw[show SA [64,127,126] ((pG l n e).1:Nat)=vA (pG l n e).1 from rfl];refine fV ?_;refine OI ?_;refine z91 ?_;refine z92 ?_;refine z62 ?_;refine z6 ?_;refine z7 ?_;refine iI ?_;refine aB rfl (fun g1=> ?_) (fun g1=> ?_)
 ·refine cX ?_;refine lK ?_;refine fV ?_;refine lo (CQ (E rfl) (E rfl)) rfl ?_;refine cM ?_;apply aD;exact aE
  ·(unfold LB;simp only[g1,if_true,if_false,Bool.false_eq_true];exact⟨rfl,rfl⟩)
  ·exact aA
 refine cX ?_;refine lo (CQ (E rfl) (E rfl)) rfl ?_;refine cM ?_;apply aD;exact aE
 ·(unfold LB;simp only[g1,if_true,if_false,Bool.false_eq_true];exact⟨rfl,rfl⟩)
 ·exact aA
def io (q:Nat) (x:Ins):List AV:=[.int .i64 x.op,.int .i64 x.a,.int .i64 x.b,.own q 0 x.l.length]
def ins0:Ins:=⟨0,0,0,[]⟩
def qW (l:List Nat):Nat→Nat→Int→List Int×Nat×Int
 |0,n,e=>([],n,e)
 |m+1,n,e=>(((qW l m n e).1++ [((gJ l 1000 (qW l m n e).2.1 (qW l m n e).2.2).1:Int)]),(gJ l 1000 (qW l m n e).2.1 (qW l m n e).2.2).2)
def lX (x:Ins) (n:Nat) (e:Int):Ins×Nat×Int:=if(e !=0)=true then(ins0,0,e)else(x,n,0)
def sP (l:List Nat) (op:Int) (n:Nat) (e:Int):Ins×Nat×Int:=
 if(bA op==2)=true then lX ⟨op,(LB l n e).1,0,[]⟩ (LB l n e).2.1 (LB l n e).2.2
 else if(bA op==3)=true then lX ⟨op,(gJ l 1000 n e).1,0,[]⟩ (gJ l 1000 n e).2.1 (gJ l 1000 n e).2.2
 else if(bA op==5)=true then lX ⟨op,(gJ l 1000 n e).1,0,[]⟩ (KZ l (gJ l 1000 n e).2.1 (gJ l 1000 n e).2.2).1 (KZ l (gJ l 1000 n e).2.1 (gJ l 1000 n e).2.2).2
 else if(bA op==4)=true then
  let u:=gJ l 50 n e
  let w:=qW l u.1 u.2.1 u.2.2
  let v:=gJ l 1000 w.2.1 w.2.2
  lX ⟨op,v.1,0,w.1⟩ v.2.1 v.2.2
 else if(bA op==6)=true then
  let u:=gJ l 3 n e
  let v:=gJ l 4294967295 u.2.1 u.2.2
  lX ⟨op,u.1,v.1,[]⟩ v.2.1 v.2.2
 else if(bA op==7)=true then lX ⟨op,0,0,[]⟩ (KZ l n e).1 (KZ l n e).2
 else if(bA op==8)=true then lX ⟨op,(BQ l 32 n).1,0,[]⟩ (BQ l 32 n).2.1 (BQ l 32 n).2.2
 else if(bA op==9)=true then lX ⟨op,(BQ l 64 n).1,0,[]⟩ (BQ l 64 n).2.1 (BQ l 64 n).2.2
 else lX ⟨op,0,0,[]⟩ n e
def fB (l:List Nat):Ins×Nat×Int:=
 if(bA ((pG l 0 0).1:Nat)==0)=true then(ins0,0,1)
 else if((pG l 0 0).2.2 !=0)=true then(ins0,0,(pG l 0 0).2.2)
 else sP l ((pG l 0 0).1:Nat) (pG l 0 0).2.1 (pG l 0 0).2.2
theorem aGx{l:List Nat}{n:Nat}{e:Int}(h:n≤l.length):(pG l n e).2.1≤l.length:=by
 unfold pG;split
 ·exact h
 ·split
  ·exact h
  ·next h1=>simp at h1⊢;omega
theorem LC{l:List Nat}{lim:Int}{n:Nat}{e:Int}(h:n≤l.length):(gJ l lim n e).2.1≤l.length:=by
 have h1:=(yY (l.drop n)).2.1;rw[List.length_drop]at h1;unfold gJ;repeat' split
 all_goals first|exact h|(simp;omega)
theorem aGy{l:List Nat}{lim:Int}{n:Nat}{e:Int}(h:0≤lim):((gJ l lim n e).1:Int)≤lim:=by
 unfold gJ;split
 ·exact h
 ·split
  ·exact h
  ·split
   ·exact h
   ·next h1=>simp at h1⊢;omega
theorem aAI{l:List Nat}:∀ {m n:Nat} {e:Int},n≤l.length→(qW l m n e).2.1≤l.length
 |0,_,_,h=>h
 | _ +1,_,_,h=>LC (aAI h)
theorem LD{l:List Nat}:∀ {m n:Nat} {e:Int},(qW l m n e).1.length=m
 |0,_,_=>rfl
 |m+1,n,e=>by rw[qW];simp[LD (m:=m)]
theorem JD(l:List Nat)(hl:l.length≤1000000)(hlt:∀x∈l,x<256):SCall Tryz.prog 298 [.ro 1 (l.map aG) .any] []
  (fun y σ=>∃q,y=.tup [.agg (io q (fB l).1),.int .i64 ((fB l).2.1:Nat),.int .i64 (fB l).2.2]∧σ=[(q,.arr 3 1 ((fB l).1.l.map aK))]):=by
 refine bS 104 [0,2,3,4,5,6,7,18,26,32,33,38,43,50,53,54,55,67,75,79,84,93] Tryz.func298 ?_;refine cZ ?_;refine iO fun r2 h2=> ?_;intros
 refine nS ?_;refine lE ?_;refine gQ fun r10 h10=> ?_;intros
 refine gZ ?_;refine cw [(r10,.box 346 (rv l (0) (0)))] Tryz.call314 (DZ r10 l hl hlt 0 (by omega) 0) rfl ?_ ?_ ?_
 ·exact aC
 ·exact aA
 rintro _ σ' ⟨rfl,rfl⟩-;apply aU;exact bD;unfold rv;refine lE ?_;refine iO fun r6 h6=> ?_;intros
 refine lU ?_;refine an ?_;refine cH (ks:=[0,2,3,4,5,6,7,18,26,32,33,38,43,50,53,54,55,67,75,79,84,93]) r6 3 3 1 (by decide) bC rfl (by decide) fun q hq=> ?_
 simp only[aO,aT,and_true]at hq;repeat rcases hq with⟨_,hq⟩
 apply Exists.intro;apply And.intro;exact cE;refine aI ?_;have hn1:=aGx (l:=l) (n:=0) (e:=0) (by omega);generalize hB:pG l 0 0=bb at*;obtain⟨c,n1,e1⟩:=bb;dsimp only at hn1⊢;rw[show([AV.int .i64 (c:Int),.int .i64 0,.int .i64 0,.ro 0 [] .nil].set 3 (.own q 0 0))=[.int .i64 (c:Int),.int .i64 0,.int .i64 0,.own q 0 0]from rfl];refine mJ ?_;refine fO ?_
 (first|refine ln rfl rfl rfl rfl ?_ |refine lw rfl rfl (bR (v:=.bool false)) rfl ?_ |refine pu [] Tryz.call217 (iE _) rfl bU aS ?_ |refine vX [] rfl rfl Tryz.call217 (fun _=>(iE _)) rfl bU aS ?_ |refine BK [] rfl rfl Tryz.call217 (fun _=>(iE _)) rfl bU aS ?_);refine gZ ?_;refine xR ?_;refine aB rfl (fun g1=> ?_) (fun g1=> ?_)
 ·refine aI ?_;have hG:fB l=(ins0,0,1):=by unfold fB;rw[hB];simp only[g1,if_true]
  refine fV ?_;refine lK ?_;refine fV ?_;refine tL ?_;refine fJ [(0,true),(1,true),(2,true),(3,true),(4,true),(5,false),(6,true),(7,true)] ?_;refine uU ?_;refine cH (ks:=[0,2,3,4,5,6,7,18,26,32,33,38,43,50,53,54,55,67,75,79,84,93]) r2 3 3 1 (by decide) bC rfl (by decide) fun qz hqz=> ?_
  simp only[aO,aT,and_true]at hqz;repeat rcases hqz with⟨_,hqz⟩
  apply Exists.intro;apply And.intro;exact cE;refine aI ?_;apply aD;exact aE
  ·rw[hG];exact⟨qz,rfl,rfl⟩
  ·exact aA
 refine cX ?_;refine tL ?_;refine aB rfl (fun g2=> ?_) (fun g2=> ?_)
 ·refine aI ?_;have hG:fB l=(ins0,0,e1):=by unfold fB;rw[hB];simp only[g1,g2,if_true,if_false,Bool.false_eq_true]
  refine fJ [(0,true),(1,true),(2,true),(3,true),(4,true),(5,false),(6,true),(7,true)] ?_;refine uU ?_;refine cH (ks:=[0,2,3,4,5,6,7,18,26,32,33,38,43,50,53,54,55,67,75,79,84,93]) r2 3 3 1 (by decide) bC rfl (by decide) fun qz hqz=> ?_
  simp only[aO,aT,and_true]at hqz;repeat rcases hqz with⟨_,hqz⟩
  apply Exists.intro;apply And.intro;exact cE;refine aI ?_;apply aD;exact aE
  ·rw[hG];exact⟨qz,rfl,rfl⟩
  ·exact aA
 refine cX ?_;refine rN ?_;refine aB rfl (fun g3=> ?_) (fun g3=> ?_)
 ·refine aI ?_;have hG:fB l=lX ⟨(c:Int),(LB l n1 e1).1,0,[]⟩ (LB l n1 e1).2.1 (LB l n1 e1).2.2:=by unfold fB sP;rw[hB];simp only[g1,g2,g3,if_true,if_false,Bool.false_eq_true]
  refine fV ?_;refine cw [(r10,.box 346 (rv l (n1) (e1)))] Tryz.call315 (aAH r10 l hl hlt n1 hn1 e1) rfl ?_ ?_ ?_
  ·exact aC
  ·exact aA
  rintro _ σ' ⟨rfl,rfl⟩-;apply aU;exact bD;unfold rv;refine yK ?_;refine mT ?_;refine tL ?_;refine aB rfl (fun ge=> ?_) (fun ge=> ?_)
  ·unfold lX at hG;rw[ge]at hG;simp only[if_true]at hG;refine aI ?_;refine fJ [(0,true),(1,true),(2,true),(3,true),(4,true),(5,false),(6,true),(7,true)] ?_;refine uU ?_;refine cH (ks:=[0,2,3,4,5,6,7,18,26,32,33,38,43,50,53,54,55,67,75,79,84,93]) r2 3 3 1 (by decide) bC rfl (by decide) fun qz hqz=> ?_
   simp only[aO,aT,and_true]at hqz;repeat rcases hqz with⟨_,hqz⟩
   apply Exists.intro;apply And.intro;exact cE;refine aI ?_;apply aD;exact aE
   ·rw[hG];exact⟨qz,rfl,rfl⟩
   ·exact aA
  ·unfold lX at hG;rw[ge]at hG;simp only[Bool.false_eq_true,if_false]at hG;refine aI ?_;refine fJ [(0,true),(1,true),(2,true),(3,true),(4,true),(5,false),(6,true),(7,true)] ?_;refine IQ ?_;refine HK ?_;refine aI ?_;apply aD;exact aE
   ·rw[hG];exact⟨q,rfl,rfl⟩
   ·exact aA
 refine dE ?_;refine aB rfl (fun g4=> ?_) (fun g4=> ?_)
 ·refine aI ?_;have hG:fB l=lX ⟨(c:Int),(gJ l 1000 n1 e1).1,0,[]⟩ (gJ l 1000 n1 e1).2.1 (gJ l 1000 n1 e1).2.2:=by unfold fB sP;rw[hB];simp only[g1,g2,g3,g4,if_true,if_false,Bool.false_eq_true]
  refine fV ?_;refine cw [(r10,.box 346 (rv l (n1) (e1)))] Tryz.call316 (jJ r10 l hl hlt 1000 n1 hn1 e1) rfl ?_ ?_ ?_
  ·exact aC
  ·exact aA
  rintro _ σ' ⟨rfl,rfl⟩-;apply aU;exact bD;unfold rv;refine yK ?_;refine mT ?_;refine tL ?_;refine aB rfl (fun ge=> ?_) (fun ge=> ?_)
  ·unfold lX at hG;rw[ge]at hG;simp only[if_true]at hG;refine aI ?_;refine fJ [(0,true),(1,true),(2,true),(3,true),(4,true),(5,false),(6,true),(7,true)] ?_;refine uU ?_;refine cH (ks:=[0,2,3,4,5,6,7,18,26,32,33,38,43,50,53,54,55,67,75,79,84,93]) r2 3 3 1 (by decide) bC rfl (by decide) fun qz hqz=> ?_
   simp only[aO,aT,and_true]at hqz;repeat rcases hqz with⟨_,hqz⟩
   apply Exists.intro;apply And.intro;exact cE;refine aI ?_;apply aD;exact aE
   ·rw[hG];exact⟨qz,rfl,rfl⟩
   ·exact aA
  ·unfold lX at hG;rw[ge]at hG;simp only[Bool.false_eq_true,if_false]at hG;refine aI ?_;refine fJ [(0,true),(1,true),(2,true),(3,true),(4,true),(5,false),(6,true),(7,true)] ?_;refine IQ ?_;refine HK ?_;refine aI ?_;apply aD;exact aE
   ·rw[hG];exact⟨q,rfl,rfl⟩
   ·exact aA
 refine dE ?_;refine aB rfl (fun g5=> ?_) (fun g5=> ?_)
 ·refine aI ?_;have hG:fB l=lX ⟨(c:Int),(gJ l 1000 n1 e1).1,0,[]⟩ (KZ l (gJ l 1000 n1 e1).2.1 (gJ l 1000 n1 e1).2.2).1 (KZ l (gJ l 1000 n1 e1).2.1 (gJ l 1000 n1 e1).2.2).2:=by unfold fB sP;rw[hB];simp only[g1,g2,g3,g4,g5,if_true,if_false,Bool.false_eq_true]
  have hn2:=LC (lim:=1000) (e:=e1) hn1;refine fV ?_;refine cw [(r10,.box 346 (rv l (n1) (e1)))] Tryz.call316 (jJ r10 l hl hlt 1000 n1 hn1 e1) rfl ?_ ?_ ?_
  ·exact aC
  ·exact aA
  rintro _ σ' ⟨rfl,rfl⟩-;apply aU;exact bD;unfold rv;refine yK ?_;refine gT ?_;generalize gJ l 1000 n1 e1=u at*;obtain⟨a,n2,e2⟩:=u;dsimp only at hn2 hG⊢;refine fV ?_;refine cw [(r10,.box 346 (rv l (n2) (e2)))] Tryz.call317 (OS r10 l hl hlt n2 hn2 e2) rfl ?_ ?_ ?_
  ·exact aC
  ·exact aA
  rintro _ σ' ⟨rfl,rfl⟩-;apply aU;exact bD;unfold rv;refine oR ?_;refine tL ?_;refine aB rfl (fun ge=> ?_) (fun ge=> ?_)
  ·unfold lX at hG;rw[ge]at hG;simp only[if_true]at hG;refine aI ?_;refine fJ [(0,true),(1,true),(2,true),(3,true),(4,true),(5,false),(6,true),(7,true)] ?_;refine uU ?_;refine cH (ks:=[0,2,3,4,5,6,7,18,26,32,33,38,43,50,53,54,55,67,75,79,84,93]) r2 3 3 1 (by decide) bC rfl (by decide) fun qz hqz=> ?_
   simp only[aO,aT,and_true]at hqz;repeat rcases hqz with⟨_,hqz⟩
   apply Exists.intro;apply And.intro;exact cE;refine aI ?_;apply aD;exact aE
   ·rw[hG];exact⟨qz,rfl,rfl⟩
   ·exact aA
  ·unfold lX at hG;rw[ge]at hG;simp only[Bool.false_eq_true,if_false]at hG;refine aI ?_;refine fJ [(0,true),(1,true),(2,true),(3,true),(4,true),(5,false),(6,true),(7,true)] ?_;refine IQ ?_;refine HK ?_;refine aI ?_;apply aD;exact aE
   ·rw[hG];exact⟨q,rfl,rfl⟩
   ·exact aA
 refine dE ?_;refine aB rfl (fun g6=> ?_) (fun g6=> ?_)
 ·refine aI ?_;have hG:fB l=lX ⟨(c:Int),(gJ l 1000 (qW l (gJ l 50 n1 e1).1 (gJ l 50 n1 e1).2.1 (gJ l 50 n1 e1).2.2).2.1 (qW l (gJ l 50 n1 e1).1 (gJ l 50 n1 e1).2.1 (gJ l 50 n1 e1).2.2).2.2).1,0,(qW l (gJ l 50 n1 e1).1 (gJ l 50 n1 e1).2.1 (gJ l 50 n1 e1).2.2).1⟩ (gJ l 1000 (qW l (gJ l 50 n1 e1).1 (gJ l 50 n1 e1).2.1 (gJ l 50 n1 e1).2.2).2.1 (qW l (gJ l 50 n1 e1).1 (gJ l 50 n1 e1).2.1 (gJ l 50 n1 e1).2.2).2.2).2.1 (gJ l 1000 (qW l (gJ l 50 n1 e1).1 (gJ l 50 n1 e1).2.1 (gJ l 50 n1 e1).2.2).2.1 (qW l (gJ l 50 n1 e1).1 (gJ l 50 n1 e1).2.1 (gJ l 50 n1 e1).2.2).2.2).2.2:=by unfold fB sP;rw[hB];simp only[g1,g2,g3,g4,g5,g6,if_true,if_false,Bool.false_eq_true]
  have hn2:=LC (lim:=50) (e:=e1) hn1;have hm50:=aGy (l:=l) (lim:=50) (n:=n1) (e:=e1) (by omega);refine fV ?_;refine cw [(r10,.box 346 (rv l (n1) (e1)))] Tryz.call316 (jJ r10 l hl hlt 50 n1 hn1 e1) rfl ?_ ?_ ?_
  ·exact aC
  ·exact aA
  rintro _ σ' ⟨rfl,rfl⟩-;apply aU;exact bD;unfold rv;refine aCZ ?_;generalize gJ l 50 n1 e1=u at*;obtain⟨m,n2,e2⟩:=u;dsimp only at hn2 hm50 hG⊢;refine lp (β:=Nat×Nat) (fun b=>⟨[(2,.ptr r2 0),(5,.ptr r10 0),(6,.ptr r6 0),(53,.int .i64 m),(54,.int .i64 b.2)],[(b.1,.arr 3 1 ((qW l b.2 n2 e2).1.map aK)),(r6,.box 46 [.int .i64 c,.int .i64 0,.int .i64 0,.own b.1 0 (qW l b.2 n2 e2).1.length]),(r10,.box 346 (rv l (qW l b.2 n2 e2).2.1 (qW l b.2 n2 e2).2.2)),(r2,.box 46 [.int .i64 0,.int .i64 0,.int .i64 0,.ro 0 [] .nil])]⟩) (fun b=>(Nq b.1 r6∧Nq b.1 r10∧Nq b.1 r2)∧b.2≤m) (fun b=>m-b.2) (q,0) (by(exact aJ)) ⟨⟨by(exact cA),by(exact cA),by(exact cA)⟩,Nat.zero_le _⟩ ?_;rintro⟨p,j⟩ ⟨⟨hp1,hp2,hp3⟩,hj⟩;dsimp only at hp1 hp2 hp3 hj⊢;have hn3:=aAI (m:=j) (e:=e2) hn2;have hlen:=LD (l:=l) (m:=j) (n:=n2) (e:=e2);have hstep:qW l (j+1) n2 e2=(((qW l j n2 e2).1++ [((gJ l 1000 (qW l j n2 e2).2.1 (qW l j n2 e2).2.2).1:Int)]),(gJ l 1000 (qW l j n2 e2).2.1 (qW l j n2 e2).2.2).2):=rfl;generalize hW:qW l j n2 e2=w at hn3 hlen hstep⊢;obtain⟨L,n3,e3⟩:=w;dsimp only at hn3 hlen hstep⊢;unfold rv;refine gA ?_;refine aB rfl (fun h1=> ?_) (fun h1=> ?_)
  ·have hlt2:j<m:=by simp at h1;omega
   refine aI ?_;refine fJ [(0,true),(1,true),(2,true),(3,false),(4,false),(5,false),(6,true),(7,false)] ?_;refine HG ?_;refine pD [(r10,.box 346 (rv l n3 e3))] rfl Tryz.call316 (jJ r10 l hl hlt 1000 n3 hn3 e3) rfl ?_ ?_ ?_ ?_
   ·exact aC
   ·exact aA
   ·exact eM
   rintro _ σ' ⟨rfl,rfl⟩-;apply bQ;exact bD;unfold rv;generalize gJ l 1000 n3 e3=u at hstep⊢;obtain⟨v,n4,e4⟩:=u;dsimp only at hstep⊢;refine HL fun r60 h60=> ?_;intros
   apply dap (es':=(L++ [(v:Int)]).map aK) (len':=(L++ [(v:Int)]).length);rfl;infer_instance;infer_instance;rfl;rfl;exact bC
   ·simp
   ·exact .inr (.inr ⟨_,_,_,_,_,rfl,bC,by simp,rfl⟩)
   ·simp[aK]
   ·simp
   ·simp[maxLen];omega
   ·simp;omega
   ·rfl
   ·exact eM
   refine bE fun r61 h61=> ?_;intros
   refine UG ?_;refine CC ?_;refine jH ?_;refine⟨(r61,j+1),⟨⟨by show Nq r61 r6;(exact cA),by show Nq r61 r10;(exact cA),by show Nq r61 r2;(exact cA)⟩,hlt2⟩,by show m-(j+1)<m-j;omega, ?_⟩;dsimp only;rw[hstep];exact aJ
  ·obtain rfl:j=m:=by simp at h1;omega
   rw[hW]at hG;dsimp only at hG;refine cX ?_;refine cw [(r10,.box 346 (rv l (n3) (e3)))] Tryz.call316 (jJ r10 l hl hlt 1000 n3 hn3 e3) rfl ?_ ?_ ?_
   ·exact aC
   ·exact aA
   rintro _ σ' ⟨rfl,rfl⟩-;apply aU;exact bD;unfold rv;refine yK ?_;refine mT ?_;refine tL ?_;refine aB rfl (fun ge=> ?_) (fun ge=> ?_)
   ·unfold lX at hG;rw[ge]at hG;simp only[if_true]at hG;refine aI ?_;refine fJ [(0,true),(1,true),(2,true),(3,true),(4,true),(5,false),(6,true),(7,true)] ?_;refine uU ?_;refine cH (ks:=[0,2,3,4,5,6,7,18,26,32,33,38,43,50,53,54,55,67,75,79,84,93]) r2 3 3 1 (by decide) bC rfl (by decide) fun qz hqz=> ?_
    simp only[aO,aT,and_true]at hqz;repeat rcases hqz with⟨_,hqz⟩
    apply Exists.intro;apply And.intro;exact cE;refine aI ?_;apply aD;exact aE
    ·rw[hG];exact⟨qz,rfl,rfl⟩
    ·exact aA
   ·unfold lX at hG;rw[ge]at hG;simp only[Bool.false_eq_true,if_false]at hG;refine aI ?_;refine fJ [(0,true),(1,true),(2,true),(3,true),(4,true),(5,false),(6,true),(7,true)] ?_;refine IQ ?_;refine HK ?_;refine aI ?_;apply aD;exact aE
    ·rw[hG];exact⟨p,rfl,rfl⟩
    ·exact aA
 refine dE ?_;refine aB rfl (fun g7=> ?_) (fun g7=> ?_)
 ·refine aI ?_;have hG:fB l=lX ⟨(c:Int),(gJ l 3 n1 e1).1,(gJ l 4294967295 (gJ l 3 n1 e1).2.1 (gJ l 3 n1 e1).2.2).1,[]⟩ (gJ l 4294967295 (gJ l 3 n1 e1).2.1 (gJ l 3 n1 e1).2.2).2.1 (gJ l 4294967295 (gJ l 3 n1 e1).2.1 (gJ l 3 n1 e1).2.2).2.2:=by unfold fB sP;rw[hB];simp only[g1,g2,g3,g4,g5,g6,g7,if_true,if_false,Bool.false_eq_true]
  have hn2:=LC (lim:=3) (e:=e1) hn1;refine fV ?_;refine cw [(r10,.box 346 (rv l (n1) (e1)))] Tryz.call316 (jJ r10 l hl hlt 3 n1 hn1 e1) rfl ?_ ?_ ?_
  ·exact aC
  ·exact aA
  rintro _ σ' ⟨rfl,rfl⟩-;apply aU;exact bD;unfold rv;refine yK ?_;refine gT ?_;generalize gJ l 3 n1 e1=u at*;obtain⟨a,n2,e2⟩:=u;dsimp only at hn2 hG⊢;refine fV ?_;refine cw [(r10,.box 346 (rv l (n2) (e2)))] Tryz.call316 (jJ r10 l hl hlt 4294967295 n2 hn2 e2) rfl ?_ ?_ ?_
  ·exact aC
  ·exact aA
  rintro _ σ' ⟨rfl,rfl⟩-;apply aU;exact bD;unfold rv;refine yK ?_;refine mT ?_;refine tL ?_;refine aB rfl (fun ge=> ?_) (fun ge=> ?_)
  ·unfold lX at hG;rw[ge]at hG;simp only[if_true]at hG;refine aI ?_;refine fJ [(0,true),(1,true),(2,true),(3,true),(4,true),(5,false),(6,true),(7,true)] ?_;refine uU ?_;refine cH (ks:=[0,2,3,4,5,6,7,18,26,32,33,38,43,50,53,54,55,67,75,79,84,93]) r2 3 3 1 (by decide) bC rfl (by decide) fun qz hqz=> ?_
   simp only[aO,aT,and_true]at hqz;repeat rcases hqz with⟨_,hqz⟩
   apply Exists.intro;apply And.intro;exact cE;refine aI ?_;apply aD;exact aE
   ·rw[hG];exact⟨qz,rfl,rfl⟩
   ·exact aA
  ·unfold lX at hG;rw[ge]at hG;simp only[Bool.false_eq_true,if_false]at hG;refine aI ?_;refine fJ [(0,true),(1,true),(2,true),(3,true),(4,true),(5,false),(6,true),(7,true)] ?_;refine IQ ?_;refine HK ?_;refine aI ?_;apply aD;exact aE
   ·rw[hG];exact⟨q,rfl,rfl⟩
   ·exact aA
 refine dE ?_;refine aB rfl (fun g8=> ?_) (fun g8=> ?_)
 ·refine aI ?_;have hG:fB l=lX ⟨(c:Int),0,0,[]⟩ (KZ l n1 e1).1 (KZ l n1 e1).2:=by unfold fB sP;rw[hB];simp only[g1,g2,g3,g4,g5,g6,g7,g8,if_true,if_false,Bool.false_eq_true]
  refine fV ?_;refine cw [(r10,.box 346 (rv l (n1) (e1)))] Tryz.call317 (OS r10 l hl hlt n1 hn1 e1) rfl ?_ ?_ ?_
  ·exact aC
  ·exact aA
  rintro _ σ' ⟨rfl,rfl⟩-;apply aU;exact bD;unfold rv;refine oR ?_;refine tL ?_;refine aB rfl (fun ge=> ?_) (fun ge=> ?_)
  ·unfold lX at hG;rw[ge]at hG;simp only[if_true]at hG;refine aI ?_;refine fJ [(0,true),(1,true),(2,true),(3,true),(4,true),(5,false),(6,true),(7,true)] ?_;refine uU ?_;refine cH (ks:=[0,2,3,4,5,6,7,18,26,32,33,38,43,50,53,54,55,67,75,79,84,93]) r2 3 3 1 (by decide) bC rfl (by decide) fun qz hqz=> ?_
   simp only[aO,aT,and_true]at hqz;repeat rcases hqz with⟨_,hqz⟩
   apply Exists.intro;apply And.intro;exact cE;refine aI ?_;apply aD;exact aE
   ·rw[hG];exact⟨qz,rfl,rfl⟩
   ·exact aA
  ·unfold lX at hG;rw[ge]at hG;simp only[Bool.false_eq_true,if_false]at hG;refine aI ?_;refine fJ [(0,true),(1,true),(2,true),(3,true),(4,true),(5,false),(6,true),(7,true)] ?_;refine IQ ?_;refine HK ?_;refine aI ?_;apply aD;exact aE
   ·rw[hG];exact⟨q,rfl,rfl⟩
   ·exact aA
 refine dE ?_;refine aB rfl (fun g9=> ?_) (fun g9=> ?_)
 ·refine aI ?_;have hG:fB l=lX ⟨(c:Int),(BQ l 32 n1).1,0,[]⟩ (BQ l 32 n1).2.1 (BQ l 32 n1).2.2:=by unfold fB sP;rw[hB];simp only[g1,g2,g3,g4,g5,g6,g7,g8,g9,if_true,if_false,Bool.false_eq_true]
  refine fV ?_;refine cw [(r10,.box 346 (rv l (n1) (e1)))] Tryz.call318 (EA r10 l hl hlt 32 (.inl rfl) n1 hn1 e1) rfl ?_ ?_ ?_
  ·exact aC
  ·exact aA
  rintro _ σ' ⟨rfl,rfl⟩-;apply aU;exact bD;unfold rv;refine yK ?_;refine mT ?_;refine tL ?_;refine aB rfl (fun ge=> ?_) (fun ge=> ?_)
  ·unfold lX at hG;rw[ge]at hG;simp only[if_true]at hG;refine aI ?_;refine fJ [(0,true),(1,true),(2,true),(3,true),(4,true),(5,false),(6,true),(7,true)] ?_;refine uU ?_;refine cH (ks:=[0,2,3,4,5,6,7,18,26,32,33,38,43,50,53,54,55,67,75,79,84,93]) r2 3 3 1 (by decide) bC rfl (by decide) fun qz hqz=> ?_
   simp only[aO,aT,and_true]at hqz;repeat rcases hqz with⟨_,hqz⟩
   apply Exists.intro;apply And.intro;exact cE;refine aI ?_;apply aD;exact aE
   ·rw[hG];exact⟨qz,rfl,rfl⟩
   ·exact aA
  ·unfold lX at hG;rw[ge]at hG;simp only[Bool.false_eq_true,if_false]at hG;refine aI ?_;refine fJ [(0,true),(1,true),(2,true),(3,true),(4,true),(5,false),(6,true),(7,true)] ?_;refine IQ ?_;refine HK ?_;refine aI ?_;apply aD;exact aE
   ·rw[hG];exact⟨q,rfl,rfl⟩
   ·exact aA
 refine dE ?_;refine aB rfl (fun g10=> ?_) (fun g10=> ?_)
 ·refine aI ?_;have hG:fB l=lX ⟨(c:Int),(BQ l 64 n1).1,0,[]⟩ (BQ l 64 n1).2.1 (BQ l 64 n1).2.2:=by unfold fB sP;rw[hB];simp only[g1,g2,g3,g4,g5,g6,g7,g8,g9,g10,if_true,if_false,Bool.false_eq_true]
  refine fV ?_;refine cw [(r10,.box 346 (rv l (n1) (e1)))] Tryz.call318 (EA r10 l hl hlt 64 (.inr rfl) n1 hn1 e1) rfl ?_ ?_ ?_
  ·exact aC
  ·exact aA
  rintro _ σ' ⟨rfl,rfl⟩-;apply aU;exact bD;unfold rv;refine yK ?_;refine mT ?_;refine tL ?_;refine aB rfl (fun ge=> ?_) (fun ge=> ?_)
  ·unfold lX at hG;rw[ge]at hG;simp only[if_true]at hG;refine aI ?_;refine fJ [(0,true),(1,true),(2,true),(3,true),(4,true),(5,false),(6,true),(7,true)] ?_;refine uU ?_;refine cH (ks:=[0,2,3,4,5,6,7,18,26,32,33,38,43,50,53,54,55,67,75,79,84,93]) r2 3 3 1 (by decide) bC rfl (by decide) fun qz hqz=> ?_
   simp only[aO,aT,and_true]at hqz;repeat rcases hqz with⟨_,hqz⟩
   apply Exists.intro;apply And.intro;exact cE;refine aI ?_;apply aD;exact aE
   ·rw[hG];exact⟨qz,rfl,rfl⟩
   ·exact aA
  ·unfold lX at hG;rw[ge]at hG;simp only[Bool.false_eq_true,if_false]at hG;refine aI ?_;refine fJ [(0,true),(1,true),(2,true),(3,true),(4,true),(5,false),(6,true),(7,true)] ?_;refine IQ ?_;refine HK ?_;refine aI ?_;apply aD;exact aE
   ·rw[hG];exact⟨q,rfl,rfl⟩
   ·exact aA
 refine aI ?_;have hG:fB l=lX ⟨(c:Int),0,0,[]⟩ n1 e1:=by unfold fB sP;rw[hB];simp only[g1,g2,g3,g4,g5,g6,g7,g8,g9,g10,if_true,if_false,Bool.false_eq_true]
 refine fV ?_;refine tL ?_;refine aB rfl (fun ge=> ?_) (fun ge=> ?_)
 ·unfold lX at hG;rw[ge]at hG;simp only[if_true]at hG;refine aI ?_;refine fJ [(0,true),(1,true),(2,true),(3,true),(4,true),(5,false),(6,true),(7,true)] ?_;refine uU ?_;refine cH (ks:=[0,2,3,4,5,6,7,18,26,32,33,38,43,50,53,54,55,67,75,79,84,93]) r2 3 3 1 (by decide) bC rfl (by decide) fun qz hqz=> ?_
  simp only[aO,aT,and_true]at hqz;repeat rcases hqz with⟨_,hqz⟩
  apply Exists.intro;apply And.intro;exact cE;refine aI ?_;apply aD;exact aE
  ·rw[hG];exact⟨qz,rfl,rfl⟩
  ·exact aA
 ·unfold lX at hG;rw[ge]at hG;simp only[Bool.false_eq_true,if_false]at hG;refine aI ?_;refine fJ [(0,true),(1,true),(2,true),(3,true),(4,true),(5,false),(6,true),(7,true)] ?_;refine IQ ?_;refine HK ?_;refine aI ?_;apply aD;exact aE
  ·rw[hG];exact⟨q,rfl,rfl⟩
  ·exact aA
end Go.Proofs.YtjpdadobblffmaaGreat
namespace Go.Proofs.YtjpdadobblffmaaGreat
open Go.RowKit Go.ChangeShapes Go.WideShapes Go.ChangeAt Go.Deep
theorem aAJ(c:Nat):vA c=if c=64 then 0 else if c=127 then 1 else if c=126 then 2 else-1:=by
 by_cases h1:c=64
 ·subst h1;decide
 by_cases h2:c=127
 ·subst h2;decide
 by_cases h3:c=126
 ·subst h3;decide
 rw[if_neg h1,if_neg h2,if_neg h3];unfold vA SA;have:([64,127,126]:List Int).findIdx? (· ==(c:Int))=none:=by
  rw[List.findIdx?_eq_none_iff];intro x hx;simp at hx;rcases hx with rfl|rfl|rfl<;>simp<;>omega
 rw[this]
theorem zB{l p r:List Nat}{n:Nat}(h:l.drop n=p++r):l.drop (n+p.length)=r:=by
 rw[←List.drop_drop,h,List.drop_left]
theorem SB{l r:List Nat}{n b:Nat}(h:l.drop n=b::r):pG l n 0=(b,n+1,0):=by
 have hn:n<l.length:=by
  by_cases hc:n<l.length
  ·exact hc
  ·rw[List.drop_of_length_le (by omega)]at h;cases h
 have hb:l[n]! =b:=by
  rw[getElem!_pos l n hn];rw[List.drop_eq_getElem_cons hn]at h;exact(List.cons.inj h).1
 unfold pG;rw[if_neg (by simp),if_neg (by simp;omega),hb]
theorem aAK{l r:List Nat}{n:Nat}(h:l.drop n=0::r):KZ l n 0=(n+1,0):=by
 unfold KZ;rw[SB h,if_neg (by simp)]
theorem xY{l r:List Nat}{n v:Nat}{lim:Int}(h:l.drop n=uB v++r)(h1:v<4294967296)(h2:(v:Int)≤lim):gJ l lim n 0=(v,n+(uB v).length,0):=by
 unfold gJ;rw[h,UK h1,if_neg (by simp),if_neg (by simp),if_neg (by simp;omega)]
theorem aAL{l r:List Nat}{n bits:Nat}(hb:bits=32∨bits=64){v:Int}(h:l.drop n=sB v++r)(h1:-9223372036854775808≤v)(h2:v≤9223372036854775807)(h3:bits=32→ -2147483648≤v∧v≤2147483647):BQ l bits n=(v,n+(sB v).length,0):=by
 unfold BQ;rw[h,aC3 hb h1 h2 h3]
theorem aAM{l r:List Nat}{n:Nat}{L:List Int}(h:l.drop n=(L.flatMap fun z=>uB z.toNat)++r)(hL:∀z∈L,0≤z∧z≤1000):∀m,m≤L.length→qW l m n 0=(L.take m,n+((L.take m).flatMap fun z=>uB z.toNat).length,0)
 |0,_=>by simp[qW]
 |m+1,hm=>by
  have ih:=aAM h hL m (by omega);obtain⟨y,hy⟩:∃y,L[m]? =some y:=⟨_,List.getElem?_eq_getElem (by omega)⟩
  obtain⟨hy0,hy1⟩:=hL y (List.mem_of_getElem? hy);obtain⟨z,rfl⟩:=Int.eq_ofNat_of_zero_le hy0;have hd:l.drop (n+((L.take m).flatMap fun z=>uB z.toNat).length)=uB z++(((L.drop (m+1)).flatMap fun z=>uB z.toNat)++r):=by
   refine zB ?_;rw[h,←List.append_assoc,←List.append_assoc]
   congr 1
   have:L=L.take m++(z:Int)::L.drop (m+1):=by
    rw[List.getElem?_eq_getElem (by omega)]at hy;rw[←Option.some.inj hy,←List.drop_eq_getElem_cons (by omega),List.take_append_drop]
   conv=>lhs;rw[this]
   simp[List.flatMap_append]
  rw[qW,ih];dsimp only;rw[xY hd (by omega) hy1,List.take_add_one,hy];simp[List.flatMap_append,Nat.add_assoc]
theorem aLq{x:Ins}(h:cT x=true)(hf:(bA x.op==8)=true):-2147483648≤x.a∧x.a≤2147483647:=by
 rw[beq_iff_eq]at hf;simp[cT,hf,jW]at h;omega
theorem aFm{x:Ins}(h:cT x=true)(hf:(bA x.op==1||bA x.op==7)=true):x.a=0:=by
 unfold cT at h;split at h
 ·cases h
 ·first|(rw[if_pos hf]at h;simpa using h)|simpa using h
theorem aFn{x:Ins}(h:cT x=true)(hf:bA x.op≠6):x.b=0:=by
 unfold cT at h;split at h
 ·cases h
 ·next hp=>
  have h6:(bA x.op !=6)=true:=by simpa using hf
  unfold iV at hp;rw[if_pos h6]at hp;split at hp
  ·simp at hp;exact hp.2
  ·simpa using hp
theorem aFo{x:Ins}(h:cT x=true)(hf:bA x.op≠4):x.l=[]:=by
 unfold cT at h;split at h
 ·cases h
 ·next hp=>
  have h4:(bA x.op !=4)=true:=by simpa using hf
  unfold iV at hp;rw[if_pos h4]at hp;split at hp
  ·simp at hp
  ·next hq=>simpa using hq
theorem LF{x:Ins}(hx:x.Ok)(h:cT x=true)(rest:List Nat):fB (gE x++rest)=(x,(gE x).length,0):=by
 have f1:=KY h;have f2:=aGw h;have f3:=aDc h;have f4:=aDe h;have f5:=aDd h;have f6:=aDf h;have f8:=aLq h;have f17:=aFm h;have fb:=aFn h;have fl:=aFo h;have f9:-9223372036854775808≤x.a∧x.a≤9223372036854775807:=⟨hx.2.2.1,hx.2.2.2.1⟩
 have f0:(bA x.op==0)=false:=by
  by_cases h0:bA x.op=0
  ·rw[OR h0]at h;cases h
  ·simpa using h0
 obtain⟨op,a,b,L⟩:=x;dsimp only at f1 f2 f3 f4 f5 f6 f8 f9 f17 fb fl f0;obtain⟨op,rfl⟩:=Int.eq_ofNat_of_zero_le f1.1;have hp0:gE ⟨(op:Int),a,b,L⟩=op::fU ⟨(op:Int),a,b,L⟩:=rfl;obtain⟨l,hl⟩:∃l,l=gE ⟨(op:Int),a,b,L⟩++rest:=⟨_,rfl⟩
 rw[←hl];have hB:pG l 0 0=(op,1,0):=SB (r:=fU ⟨(op:Int),a,b,L⟩++rest) (by rw[hl,hp0];rfl);have h1:l.drop 1=fU ⟨(op:Int),a,b,L⟩++rest:=by rw[hl,hp0];rfl
 unfold fB;rw[hB,hp0];dsimp only;rw[f0];simp only[Bool.false_eq_true,if_false,bne_self_eq_false];unfold sP;unfold fU at h1⊢;by_cases g2:(bA (op:Int)==2)=true
 ·simp only[g2,if_true]at h1⊢;obtain⟨k1,k2⟩:=f2 g2;have e2:bA (op:Int)=2:=by simpa using g2
  obtain rfl:=fb (by omega);obtain rfl:=fl (by omega);have hk:LB l 1 0=(a,2,0):=by
   unfold LB;rw[SB h1,aAJ];have:a=0∨a=1∨a=2:=by omega
   rcases this with rfl|rfl|rfl<;>rfl
  rw[hk];rfl
 simp only[g2,Bool.false_eq_true,if_false]at h1⊢;by_cases g3:(bA (op:Int)==3)=true
 ·simp only[g3,if_true]at h1⊢;obtain⟨k1,k2⟩:=f3 g3;have e2:bA (op:Int)=3:=by simpa using g3
  obtain rfl:=fb (by omega);obtain rfl:=fl (by omega);obtain⟨a,rfl⟩:=Int.eq_ofNat_of_zero_le k1;rw[Int.toNat_natCast]at h1⊢;rw[xY h1 (by omega) k2];simp[lX,Nat.add_comm]
 simp only[g3,Bool.false_eq_true,if_false]at h1⊢;by_cases g5:(bA (op:Int)==5)=true
 ·simp only[g5,if_true]at h1⊢;obtain⟨k1,k2⟩:=f5 g5;have e2:bA (op:Int)=5:=by simpa using g5
  obtain rfl:=fb (by omega);obtain rfl:=fl (by omega);obtain⟨a,rfl⟩:=Int.eq_ofNat_of_zero_le k1;rw[Int.toNat_natCast]at h1⊢;rw[List.append_assoc]at h1;rw[xY h1 (by omega) k2];dsimp only;rw[aAK (zB h1)];simp[lX];omega
 simp only[g5,Bool.false_eq_true,if_false]at h1⊢;by_cases g4:(bA (op:Int)==4)=true
 ·simp only[g4,if_true]at h1⊢;obtain⟨⟨k1,k2⟩,k3,k4⟩:=f4 g4;have e2:bA (op:Int)=4:=by simpa using g4
  obtain rfl:=fb (by omega);obtain⟨a,rfl⟩:=Int.eq_ofNat_of_zero_le k1;rw[Int.toNat_natCast]at h1⊢;rw[List.append_assoc,List.append_assoc]at h1;have h2:=zB h1;rw[xY h1 (by omega) (by omega)];dsimp only;rw[aAM h2 k4 L.length (Nat.le_refl _),List.take_length];dsimp only;rw[xY (zB h2) (by omega) k2];simp[lX];omega
 simp only[g4,Bool.false_eq_true,if_false]at h1⊢;have e4:bA (op:Int)≠4:=by simpa using g4
 obtain rfl:=fl e4;by_cases g6:(bA (op:Int)==6)=true
 ·simp only[g6,if_true]at h1⊢;obtain⟨k1,k2,k3,k4⟩:=f6 g6;obtain⟨a,rfl⟩:=Int.eq_ofNat_of_zero_le k1;obtain⟨b,rfl⟩:=Int.eq_ofNat_of_zero_le k3;rw[Int.toNat_natCast,Int.toNat_natCast]at h1⊢;rw[List.append_assoc]at h1;rw[xY h1 (by omega) k2];dsimp only;rw[xY (zB h1) (by omega) k4];simp[lX];omega
 simp only[g6,Bool.false_eq_true,if_false]at h1⊢;have e6:bA (op:Int)≠6:=by simpa using g6
 obtain rfl:=fb e6;by_cases g7:(bA (op:Int)==7)=true
 ·simp only[g7,if_true]at h1⊢;obtain rfl:=f17 (by rw[g7];simp);rw[aAK h1];simp[lX]
 simp only[g7,Bool.false_eq_true,if_false]at h1⊢;by_cases g8:(bA (op:Int)==8)=true
 ·simp only[g8,Bool.true_or,if_true]at h1⊢;obtain⟨k1,k2⟩:=f8 g8;rw[aAL (.inl rfl) h1 f9.1 f9.2 (fun _=>⟨k1,k2⟩)];simp[lX,Nat.add_comm]
 simp only[g8,Bool.false_eq_true,if_false]at h1⊢;by_cases g9:(bA (op:Int)==9)=true
 ·simp only[g9,Bool.or_true,if_true]at h1⊢;rw[aAL (.inr rfl) h1 f9.1 f9.2 (fun hc=>by cases hc)];simp[lX,Nat.add_comm]
 simp only[g9,Bool.or_false,Bool.false_eq_true,if_false]at h1⊢;have ha:a=0:=by
  by_cases g1:bA (op:Int)=1
  ·exact f17 (by rw[g1];rfl)
  ·exfalso;have:cT ⟨(op:Int),a,0,[]⟩=false:=by
    unfold cT;have g1':(bA (op:Int)==1)=false:=by simpa using g1
    simp[g1',g2,g3,g4,g5,g6,g7,g8,g9]
   rw[this]at h;cases h
 subst ha;simp[lX]
class NoE {α:Type} (enc:α→List AV):Prop where
 no:∀a,∀x∈enc a,NoF x
theorem aAN{α:Type}{enc:α→List AV} [h:NoE enc] {e:TypeId}{sz:Nat}{l:List α}:ENoF (.arr e sz (l.map enc)):=by
 intro y hy x hx;obtain⟨a,-,rfl⟩:=List.mem_map.1 hy;exact h.no a x hx
instance : NoE aG := ⟨fun a x hx => by simp [aG] at hx; subst hx; exact NoF.int⟩
theorem kA{P:Prop}(h:P:=by
  intro x σ' h;repeat(refine Exists.elim h ?_;clear h;intro _ h)
  first|(obtain⟨rfl,rfl⟩:=h)|(obtain⟨_,rfl,rfl⟩:=h)|(obtain⟨_,_,rfl,rfl⟩:=h)
  refine⟨aS, ?_⟩;intro p hp;simp only[List.mem_cons,List.not_mem_nil,or_false]at hp;repeat' (first|(rcases hp with rfl|hp)|(cases hp;done))
  all_goals first|exact aAN|exact enof_nil|exact enof_box aS):P:=h
section
variable {P : Program} {n : Nat} {ops : Array Oper} {rest : List Oper} {fr : Fr} {σ : dC} {K : ASt → Prop} {op : Op} {ty t t' : TypeId} {pos : String} {af : Array Edge} {x y : Operand} {d : Nat} {f : FuncId} {xs : List Operand} {ats : Array TypeId} {args : List AV}
theorem lB{v:AV}(hf:∀args w,(callFunc f args).run P w=.ok (.enter f args) w)(h:SCall P f args [] (fun x σ'=>x=v∧σ'=[]))(hd:Nat.ble (d+1) n=true)
  (hargs:ArgsIf ⟨fr,σ⟩ true (σ.map (·.1)) xs args) (hno:NoF v) (hK:RS P n ops rest ⟨(d,v)::fr,σ⟩ K):RS P n ops (⟨some d,.call { callee:=.value (.func f),args:=xs.toArray,argTypes:=ats },ty,pos,af,none⟩::rest) ⟨fr,σ⟩ K:=pu _ hf h hd hargs hno hK
theorem lG{j dj:Nat}{want b:Bool}{v:AV}(hj:(ops[j]?).bind (·.dst)=some dj)(hb:dD fr dj=some (.bool b))(hf:∀args w,(callFunc f args).run P w=.ok (.enter f args) w)
  (h:(b==want)=true→SCall P f args [] (fun x σ'=>x=v∧σ'=[])) (hd:Nat.ble (d+1) n=true) (hargs:ArgsIf ⟨fr,σ⟩ (b==want) (σ.map (·.1)) xs args) (hno:NoF v) (hK:RS P n ops rest ⟨(d,.when (b==want) v)::fr,σ⟩ K):
  RS P n ops (⟨some d,.call { callee:=.value (.func f),args:=xs.toArray,argTypes:=ats },ty,pos,af,some (j,want)⟩::rest) ⟨fr,σ⟩ K:=vX _ hj hb hf h hd hargs hno hK
theorem qN{R:AV→dC→Prop}(hf:∀args w,(callFunc f args).run P w=.ok (.enter f args) w)(h:SCall P f args [] R)(hd:Nat.ble (d+1) n=true)
  (hargs:ArgsBor ⟨fr,σ⟩ (σ.map (·.1)) xs args) (hno:∀x σ',R x σ'→NoF x∧∀p∈σ',ENoF p.2) (hK:∀x σ',R x σ'→(∀p∈σ',Fresh p.1 σ)→RS P n ops rest ⟨(d,x)::fr,σ'++σ⟩ K):
  RS P n ops (⟨some d,.call { callee:=.value (.func f),args:=xs.toArray,argTypes:=ats },ty,pos,af,none⟩::rest) ⟨fr,σ⟩ K:=cl _ hf h hd hargs hno hK
theorem aDh{P:Prop}(h:P:=by(first|exact .inl ⟨_,rfl⟩|exact .inr (.inr ⟨_,_,_,_,_,rfl,bC,by simp,rfl⟩)|exact .inr (.inl ⟨_,_,rfl,rfl⟩))):P:=h
theorem aGz{P:Prop}(h:P:=by(first|rfl|(simp;done)|(simp only[List.map_append,List.drop_zero];rfl)|(simp only[List.drop_zero,List.map_append,List.map_cons,List.map_nil];congr 1;exact List.take_of_length_le (by simp))|(simp only[List.drop_zero,List.map_append];congr 1;exact List.take_of_length_le (by first|(simp;done)|omega)))):P:=h
theorem LG{P:Prop}(h:P:=by(first|rfl|omega|(simp;done)|(simp;omega)|(simp[maxLen];omega))):P:=h
theorem jQ{e:TypeId} [Ty P t (.slice e)] {sz by_:Nat}{zv:Value} [Tz P e sz by_ zv] {r len:Nat}{es ys:List (List AV)}(es':List (List AV))(len':Nat)
  (hK:∀r',Fresh r' (dS [r] σ)→∃σ',SSet σ r (.arr e sz es) r' (.arr e sz es') σ'∧RS P n ops rest ⟨(d,.own r' 0 len')::fr,σ'⟩ K)
  (hz:zv.cells.size=sz:=by rfl) (hb:aev ⟨fr,σ⟩ x=some (.own r 0 len):=by rfl) (hg:fZ σ r=some (.arr e sz es):=by exact bC) (hlen:len=es.length:=by exact LG) (hy:Src ⟨fr,σ⟩ y sz ys:=by exact aDh)
  (he:es++ys=es':=by exact aGz) (hl':len'=len+ys.length:=by exact LG) (hmax:len'≤maxLen:=by(simp[maxLen];try omega)) (hby:len'*by_≤140737488355328:=by(simp;try omega)) (hd:Nat.ble (d+1) n=true:=by rfl):
  RS P n ops (⟨some d,.call { callee:=.builtin .append,args:=#[x,y],argTypes:=#[t,t] },ty,pos,af,none⟩::rest) ⟨fr,σ⟩ K:=ap hz hb hg hlen hy he hl' hmax hby hd hK
theorem LH{j q:Nat}{v v':AV}{e:Ent}{σ':dC}(hx:dD fr j=some v)(hd:SDel σ q e σ')(hb:Bor σ [q] v v'):SGo ⟨fr,σ⟩ ⟨(j,v')::fr,σ'⟩:=by
 refine pU [q] (fun i x' hi=> ?_) (fun p hp=> ?_)
 ·simp only[dD]at hi;split at hi
  ·next h=>subst h;obtain rfl:=Option.some.inj hi;exact⟨_,hx,hb⟩
  ·exact⟨x',hi,.refl _⟩
 ·obtain⟨h1,h2⟩:=hd.sub p hp;exact⟨by simpa using h2,p.2,h1,.refl _⟩
theorem iW{j q:Nat}{v v':AV}{e:Ent}{σ':dC}(hx:dD fr j=some v)(hd:SDel σ q e σ')(hb:Bor σ [q] v v')(hK:RS P n ops rest ⟨(j,v')::fr,σ'⟩ K):RS P n ops rest ⟨fr,σ⟩ K:=iR (LH hx hd hb) hK
theorem aAO{ks:List Nat}{c:Code}{Q:Exit→ASt→Prop}{j q:Nat}{v v':AV}{e:Ent}{σ':dC}(hx:dD fr j=some v)(hd:SDel σ q e σ')(hb:Bor σ [q] v v')(hK:SW P n ks c ⟨(j,v')::fr,σ'⟩ Q):SW P n ks c ⟨fr,σ⟩ Q:=dZ (LH hx hd hb) hK
theorem aN{q len sz:Nat}{et:TypeId}{es:List (List AV)}(hg:fZ σ q=some (.arr et sz es))(hl:len=es.length):Bor σ [q] (.own q 0 len) (.ro sz es .any):=
 NN List.mem_cons_self hg (by omega) (by subst hl;simp)
variable {listed : Array Bool} {todo : List (Nat × Bool)} {held : List (Nat × List Nat)} {i : Nat}
theorem aDi{v:AV}(hi:ops[i]? =some ⟨some d,.call { callee:=.value (.func f),args:=xs.toArray,argTypes:=ats },ty,pos,af,none⟩)(hf:∀args w,(callFunc f args).run P w=.ok (.enter f args) w)(h:SCall P f args [] (fun x σ'=>x=v∧σ'=[]))(hd:Nat.ble (d+1) n=true)
  (hargs:ArgsIf ⟨fr,σ⟩ true (σ.map (·.1)) xs args) (hno:NoF v) (hK:RD P n ops (listed.setIfInBounds i true) todo held ⟨(d,v)::fr,σ⟩ K):RD P n ops listed ((i,false)::todo) held ⟨fr,σ⟩ K:=dpu _ hi hf h hd hargs hno hK
theorem aI9{j dj:Nat}{want b:Bool}{v:AV}(hi:ops[i]? =some ⟨some d,.call { callee:=.value (.func f),args:=xs.toArray,argTypes:=ats },ty,pos,af,some (j,want)⟩)(hj:(ops[j]?).bind (·.dst)=some dj)(hb:dD fr dj=some (.bool b))(hf:∀args w,(callFunc f args).run P w=.ok (.enter f args) w)
  (h:(b==want)=true→SCall P f args [] (fun x σ'=>x=v∧σ'=[])) (hd:Nat.ble (d+1) n=true) (hargs:ArgsIf ⟨fr,σ⟩ (b==want) (σ.map (·.1)) xs args) (hno:NoF v) (hK:RD P n ops (listed.setIfInBounds i true) todo held ⟨(d,.when (b==want) v)::fr,σ⟩ K):
  RD P n ops listed ((i,false)::todo) held ⟨fr,σ⟩ K:=aKu _ hi hj hb hf h hd hargs hno hK
theorem aJa{j dj:Nat}{want:Bool}{v:AV}(hi:ops[i]? =some ⟨some d,.call { callee:=.value (.func f),args:=xs.toArray,argTypes:=ats },ty,pos,af,some (j,want)⟩)(hj:(ops[j]?).bind (·.dst)=some dj)(hb:dD fr dj=some (.bool want))(hf:∀args w,(callFunc f args).run P w=.ok (.enter f args) w)(h:SCall P f args [] (fun x σ'=>x=v∧σ'=[]))(hd:Nat.ble (d+1) n=true)
  (hargs:ArgsIf ⟨fr,σ⟩ true (σ.map (·.1)) xs args) (hno:NoF v) (hK:RD P n ops (listed.setIfInBounds i true) todo held ⟨(d,v)::fr,σ⟩ K):RD P n ops listed ((i,false)::todo) held ⟨fr,σ⟩ K:=yQ (s:=⟨fr,σ⟩) hi hj hb (NL _ hf h (cI hd) hargs hno hK) (.inl rfl)
theorem nB{R:AV→dC→Prop}(hi:ops[i]? =some ⟨some d,.call { callee:=.value (.func f),args:=xs.toArray,argTypes:=ats },ty,pos,af,none⟩)(hf:∀args w,(callFunc f args).run P w=.ok (.enter f args) w)(h:SCall P f args [] R)(hd:Nat.ble (d+1) n=true)
  (hargs:ArgsBor ⟨fr,σ⟩ (σ.map (·.1)) xs args) (hno:∀x σ',R x σ'→NoF x∧∀p∈σ',ENoF p.2) (hK:∀x σ',R x σ'→(∀p∈σ',Fresh p.1 σ)→RD P n ops (listed.setIfInBounds i true) todo held ⟨(d,x)::fr,σ'++σ⟩ K):
  RD P n ops listed ((i,false)::todo) held ⟨fr,σ⟩ K:=dcl _ hi hf h hd hargs hno hK
theorem eZ{e:TypeId}{sz by_:Nat}{zv:Value}{r len:Nat}{es ys:List (List AV)}(hi:ops[i]? =some ⟨some d,.call { callee:=.builtin .append,args:=#[x,y],argTypes:=#[t,t] },ty,pos,af,none⟩)(es':List (List AV))(len':Nat)
  (hK:∀r',Fresh r' (dS [r] σ)→∃σ',SSet σ r (.arr e sz es) r' (.arr e sz es') σ'∧RD P n ops (listed.setIfInBounds i true) todo held ⟨(d,.own r' 0 len')::fr,σ'⟩ K)
  (i1:Ty P t (.slice e):=by infer_instance) (i2:Tz P e sz by_ zv:=by infer_instance) (hz:zv.cells.size=sz:=by rfl) (hx:aev ⟨fr,σ⟩ x=some (.own r 0 len):=by rfl) (hg:fZ σ r=some (.arr e sz es):=by exact bC) (hlen:len=es.length:=by exact LG) (hy:Src ⟨fr,σ⟩ y sz ys:=by exact aDh)
  (he:es++ys=es':=by exact aGz) (hl':len'=len+ys.length:=by exact LG) (hmax:len'≤maxLen:=by(simp[maxLen];try omega)) (hby:len'*by_≤140737488355328:=by(simp;try omega)) (hd:Nat.ble (d+1) n=true:=by rfl) (hb:HB ops i (σ.map (·.1)) [r] held:=by exact eM):
  RD P n ops listed ((i,false)::todo) held ⟨fr,σ⟩ K:=dap hi i1 i2 hz hx hg hlen hy he hl' hmax hby hd hb hK
end
theorem aGA{p q:Bool}:(if p=true then q else false)=(p&&q):=by cases p<;>rfl
theorem aFp{p q:Bool}:(if p=true then true else q)=(p||q):=by cases p<;>rfl
theorem bT{H R:Prop}(a:H)(h:H→R:=by intro h;(try simp only[aGA,aFp]at h);simp only[Bool.and_eq_true,Bool.or_eq_true,Bool.and_eq_false_iff,Bool.or_eq_false_iff,decide_eq_true_eq,decide_eq_false_iff_not,Bool.not_eq_true',Bool.not_eq_false',bne_iff_ne,beq_iff_eq,ne_eq,Bool.not_eq_eq_eq_not,Bool.not_true,Bool.not_false,bne_eq_false_iff_eq,beq_eq_false_iff_ne]at h;exact h):R:=h a
instance : NoE aK := ⟨fun a x hx => by simp [aK] at hx; subst hx; exact NoF.int⟩
theorem aDj(x:Ins):∀b∈fU x,b<256:=by
 have hf:∀l:List Int,∀b∈(l.flatMap fun n=>uB n.toNat),b<256:=by
  intro l b hb;obtain⟨n,-,hn⟩:=List.mem_flatMap.1 hb;exact lP _ b hn
 intro b hb;unfold fU at hb;split at hb
 ·rw[List.mem_singleton.1 hb];unfold uY;split<;>(try split)<;>decide
 split at hb
 ·exact lP _ b hb
 split at hb
 ·rcases List.mem_append.1 hb with h|h
  ·exact lP _ b h
  ·rw[List.mem_singleton.1 h];decide
 split at hb
 ·rcases List.mem_append.1 hb with h|h
  ·rcases List.mem_append.1 h with h|h
   ·exact lP _ b h
   ·exact hf _ b h
  ·exact lP _ b h
 split at hb
 ·rcases List.mem_append.1 hb with h|h
  ·exact lP _ b h
  ·exact lP _ b h
 split at hb
 ·rw[List.mem_singleton.1 hb];decide
 split at hb
 ·exact aFg _ x.a (Nat.le_refl _) b hb
 ·simp at hb
theorem UO{x:Ins}(hm:cT x=true):∀b∈gE x,b<256:=by
 intro b hb;rcases List.mem_cons.1 hb with rfl|hb
 ·have:=KY hm;omega
 ·exact aDj x b hb
theorem vB{x:Ins}(hx:x.Ok)(hm:cT x=true):(gE x).length≤200:=by
 unfold gE;rw[List.length_cons]
 suffices (fU x).length≤199 by omega
 unfold fU;split
 ·simp
 split
 ·next h=>have:=aDc hm h;have:=bG 1 x.a.toNat (by omega);omega
 split
 ·next h=>have:=aDd hm h;have:=bG 1 x.a.toNat (by omega);simp;omega
 split
 ·next h=>
  obtain⟨h1,h2,h3⟩:=aDe hm h;have:=bG 1 x.a.toNat (by omega);have:=bG 0 x.l.length (by omega);have:=rP h3;simp only[List.length_append];omega
 split
 ·next h=>have:=aDf hm h;have:=bG 0 x.a.toNat (by omega);have:=bG 4 x.b.toNat (by omega);simp;omega
 split
 ·simp
 split
 ·obtain⟨-,-,h1,h2,-⟩:=hx;have:=xV 9 x.a (by omega) (by omega);omega
 ·simp
theorem LI{x y:Ins}:eqN x y=true↔x=y:=by
 cases x;cases y
 simp[eqN]
theorem aDk{P:Program}{f:Func}(h:(f.params.toList.all fun t=>P.readableRec t&&decide (t<P.types.size))=true):∀t∈f.params.toList,P.readableRec t=true∧t<P.types.size:=by
 intro t ht;have:=List.all_eq_true.1 h t ht;simpa using this
def VR0 (W:World):AV→Value→Prop:=VR (fun _=>none) (fun b=>b<W.heap.size) W
theorem aDl{P:Program}{f:FuncId}{args:List AV}(h:SCall P f args [] (fun x _=>x=.bool true)){W:World}{vs:List Value}(hl:vs.length=args.length)(hv:∀(i:Nat) (x:AV) (v:Value),args[i]? =some x→vs[i]? =some v→VR0 W x v):
  Calls P f vs.toArray W fun e w'=>e=.returned (.bool true)∧Below W.heap.size W w':=by
 refine(h (fun _=>none) (fun b=>b<W.heap.size) 0 W vs hl hv ⟨by simp,by simp,fun g ⟨p,hp,_⟩=>by simp at hp,fun _ h=>h,fun _ _=>rfl⟩).mono ?_;rintro e w' ⟨v,x,M',F',N',σ',rfl,he,hvx,_,rfl⟩;cases hvx
 exact⟨rfl,he.only.below (Nat.le_refl _) fun i _ ⟨p,hp,_⟩=>by simp at hp⟩
theorem aGB{W:World}:∀(i:Nat) (x:AV) (v:Value),([]:List AV)[i]? =some x→([]:List Value)[i]? =some v→VR0 W x v:=fun i x v h=>by simp at h
theorem CR{W:World}{x:AV}{v:Value}{xs:List AV}{vs:List Value}(h:VR0 W x v)(k:∀(i:Nat) (x:AV) (v:Value),xs[i]? =some x→vs[i]? =some v→VR0 W x v):
  ∀(i:Nat) (x':AV) (v':Value),(x::xs)[i]? =some x'→(v::vs)[i]? =some v'→VR0 W x' v':=by
 intro i x' v' hx hv
 match i with
 |0=>simp at hx hv;subst hx hv;exact h
 |i+1=>exact k i x' v' (by simpa using hx) (by simpa using hv)
theorem zC:∀ {M:List Ins},(∀x∈M,x.Ok∧cT x=true)→(M.flatMap gE).length≤200*M.length
 |[],_=>by simp
 |x::M,h=>by
  have ih:=zC (M:=M) fun y hy=>h y (List.mem_cons_of_mem _ hy)
  have h1:=vB (h x List.mem_cons_self).1 (h x List.mem_cons_self).2;simp only[List.flatMap_cons,List.length_append,List.length_cons];omega
theorem OT{M:List Ins}(h:∀x∈M,x.Ok∧cT x=true):∀b∈M.flatMap gE,b<256:=by
 intro b hb;obtain⟨x,hx,hb⟩:=List.mem_flatMap.1 hb;exact UO (h x hx).2 b hb
def Sp (l:List Nat) (n m:Nat) (p:List Nat):Prop:=l.drop n=p++l.drop m∧m=n+p.length∧m≤l.length
theorem Sp.trans {l:List Nat}{n m k:Nat}{p q:List Nat}(h:Sp l n m p)(g:Sp l m k q):Sp l n k (p++q):=
 ⟨by rw[h.1,g.1,List.append_assoc],by rw[g.2.1,h.2.1,List.length_append];omega,g.2.2⟩
theorem Sp.nil {l:List Nat}{n:Nat}(h:n≤l.length):Sp l n n []:=⟨rfl,by simp,h⟩
theorem UP{l:List Nat}{n k:Nat}(h:n+k≤l.length):Sp l n (n+k) ((l.drop n).take k):=by
 have hk:((l.drop n).take k).length=k:=by simp;omega
 refine⟨?_,by rw[hk],h⟩;rw[←List.drop_drop];exact(List.take_append_drop k (l.drop n)).symm
theorem SC{l:List Nat}{n:Nat}(hn:n≤l.length)(h:(pG l n 0).2.2=0):Sp l n (pG l n 0).2.1 [(pG l n 0).1]∧(pG l n 0).1∈l:=by
 unfold pG at h⊢;rw[if_neg (by simp)]at h⊢;by_cases hc:((n:Int)==(l.length:Int))=true
 ·rw[if_pos hc]at h;cases h
 ·rw[if_neg hc];have hlt:n<l.length:=by simp at hc;omega
  dsimp only;rw[getElem!_pos l n hlt];exact⟨⟨by rw[List.drop_eq_getElem_cons hlt];rfl,rfl,hlt⟩,List.getElem_mem hlt⟩
theorem xZ{l:List Nat}{lim:Int}{n:Nat}(hn:n≤l.length)(h:(gJ l lim n 0).2.2=0):Sp l n (gJ l lim n 0).2.1 (uB (gJ l lim n 0).1)∧((gJ l lim n 0).1:Int)≤lim∧(gJ l lim n 0).1<4294967296:=by
 obtain⟨b1,b2,-⟩:=yY (l.drop n);unfold gJ at h⊢;rw[if_neg (by simp)]at h⊢;split at h
 ·next h1=>simp at h1;exact absurd h (by simpa using h1)
 ·next h1=>
  rw[if_neg h1];split at h
  ·cases h
  ·next h2=>
   rw[if_neg h2];dsimp only;simp only[decide_eq_true_eq,Int.not_lt]at h2;refine⟨?_,h2,b1⟩;simp only[bne_iff_ne,ne_eq,Decidable.not_not]at h1;unfold lQ at h1 b2⊢;split at h1
   ·next h3=>exact absurd h1 h3
   ·next h3=>
    rw[if_neg h3]at b2⊢;split at h1
    ·next h4=>
     rw[if_pos h4]at b2⊢;rw[h4.1];simp at b2;exact UP (by simp;omega)
    ·cases h1
theorem OU(n:Int):-9223372036854775808≤IntKind.i64.wrap n∧IntKind.i64.wrap n≤9223372036854775807:=by
 have h1:(2:Int)^IntKind.i64.bits=18446744073709551616:=by decide
 have h3:(2:Int)^(IntKind.i64.bits-1)=9223372036854775808:=by decide
 have h2:IntKind.i64.signed=true:=rfl;unfold IntKind.wrap;simp only[h1,h2,h3,Bool.true_and,decide_eq_true_eq];split<;>omega
theorem aAP{l:List Nat}{bits:Nat}(hb:bits=32∨bits=64){n:Nat}(hn:n≤l.length)(h:(BQ l bits n).2.2=0):Sp l n (BQ l bits n).2.1 (sB (BQ l bits n).1)∧(-9223372036854775808≤(BQ l bits n).1∧(BQ l bits n).1≤9223372036854775807)∧(bits=32→ -2147483648≤(BQ l bits n).1∧(BQ l bits n).1≤2147483647):=by
 have hv:∀t:List Nat,-9223372036854775808≤lV t∧lV t≤9223372036854775807:=by
  intro t
  match t with
  |[]=>simp[lV]
  |[b]=>unfold lV;split<;>omega
  |b::c::t=>
   rw[lV];exact OU _
 have b2:=UM bits (l.drop n);unfold BQ at h⊢;dsimp only at h⊢;unfold wR at h b2⊢;split at h
 ·next h3=>exact absurd h h3
 ·next h3=>
  rw[if_neg h3]at b2⊢;split at h
  ·next h4=>
   rw[if_pos h4]at b2⊢;dsimp only at b2⊢;refine⟨?_,hv _,h4.2⟩;rw[h4.1];simp at b2;exact UP (by omega)
  ·cases h
theorem aAQ{l:List Nat}{n:Nat}(hn:n≤l.length)(h:(KZ l n 0).2=0):Sp l n (KZ l n 0).1 [0]:=by
 unfold KZ at h⊢;split at h
 ·cases h
 ·next h1=>
  rw[if_neg h1];have:=(SC hn h).1;rw[show(pG l n 0).1=0 by simpa using h1]at this;exact this
theorem aGC{l:List Nat}{n:Nat}{e:Int}(h:e≠0):pG l n e=(0,n,e):=by unfold pG;rw[if_pos (by simpa using h)]
theorem LJ{l:List Nat}{lim:Int}{n:Nat}{e:Int}(h:e≠0):gJ l lim n e=(0,n,e):=by unfold gJ;rw[if_pos (by simpa using h)]
theorem aGD{l:List Nat}{n:Nat}(hn:n≤l.length)(h:(LB l n 0).2.2=0):Sp l n (LB l n 0).2.1 [uY (LB l n 0).1]∧0≤(LB l n 0).1∧(LB l n 0).1≤2:=by
 unfold LB at h⊢;by_cases h1:(if decide (vA (pG l n 0).1<0)=true then((pG l n 0).2.2==0)else false)=true
 ·rw[if_pos h1]at h;cases h
 ·rw[if_neg h1]at h⊢;dsimp only at h⊢;obtain⟨s,-⟩:=SC hn h;have hk:¬vA (pG l n 0).1<0:=by
   intro hk;rw[h,if_pos (by simpa using hk)]at h1;exact h1 rfl
  rw[if_neg hk];generalize hc:(pG l n 0).1=c at hk s⊢;have:c=64∨c=127∨c=126:=by
   by_cases c1:c=64
   ·exact .inl c1
   by_cases c2:c=127
   ·exact .inr (.inl c2)
   by_cases c3:c=126
   ·exact .inr (.inr c3)
   exfalso;apply hk;unfold vA SA;rw[show([64,127,126]:List Int).findIdx? (· ==(c:Int))=none by
    simp only[List.findIdx?_cons,List.findIdx?_nil];rw[if_neg (by simp;omega),if_neg (by simp;omega),if_neg (by simp;omega)];rfl]
   decide
  rcases this with rfl|rfl|rfl<;>exact⟨s,by decide,by decide⟩
theorem SD{l:List Nat}{n:Nat}{e:Int}(h:e≠0):∀m,(qW l m n e).2.2≠0
 |0=>h
 |m+1=>by
  rw[qW];dsimp only;rw[LJ (SD h m)];exact SD h m
theorem aAR{l:List Nat}{n:Nat}(hn:n≤l.length):∀m,(qW l m n 0).2.2=0→Sp l n (qW l m n 0).2.1 ((qW l m n 0).1.flatMap fun z=>uB z.toNat)∧∀z∈(qW l m n 0).1,0≤z∧z≤1000
 |0,_=>⟨Sp.nil hn,by simp[qW]⟩
 |m+1,h=>by
  rw[qW]at h⊢;dsimp only at h⊢;have h0:(qW l m n 0).2.2=0:=by
   by_cases hc:(qW l m n 0).2.2=0
   ·exact hc
   ·rw[LJ hc]at h;exact h
  obtain⟨s,hz⟩:=aAR hn m h0;rw[h0]at h⊢;obtain⟨s2,h2,-⟩:=xZ s.2.2 h;refine⟨?_,fun z hz2=> ?_⟩
  ·rw[List.flatMap_append];simpa using s.trans s2
  ·rcases List.mem_append.1 hz2 with hz2|hz2
   ·exact hz z hz2
   ·rw[List.mem_singleton.1 hz2];omega
theorem sQ{x:Ins}{n:Nat}{e:Int}(h:(lX x n e).2.2=0):e=0∧lX x n e=(x,n,0):=by
 unfold lX at h⊢;by_cases he:e=0
 ·subst he;exact⟨rfl,rfl⟩
 ·rw[if_pos (by simpa using he)]at h;exact absurd h he
theorem aGE{l:List Nat}{n:Nat}{e:Int}(h:e≠0):(KZ l n e).2≠0:=by unfold KZ;rw[aGC h,if_neg (by simp)];exact h
theorem XK(op:Int):bA op=0∨bA op=1∨bA op=2∨bA op=3∨bA op=4∨bA op=5∨bA op=6∨bA op=7∨bA op=8∨bA op=9:=by
 unfold bA iU;repeat' split
 all_goals simp
theorem SE{l:List Nat}{op:Nat}(hop:op<256){n:Nat}(hn:n≤l.length)(hf:(bA (op:Int)==0)=false)(h:(sP l op n 0).2.2=0):
  (sP l op n 0).1.op=op∧(sP l op n 0).1.Ok∧cT (sP l op n 0).1=true∧Sp l n (sP l op n 0).2.1 (fU (sP l op n 0).1):=by
 unfold sP at h⊢;by_cases g2:(bA (op:Int)==2)=true
 ·simp only[g2,if_true]at h⊢;obtain⟨he,hx⟩:=sQ h;rw[hx];obtain⟨s,k1,k2⟩:=aGD hn he;have e2:bA (op:Int)=2:=by simpa using g2
  refine⟨rfl,⟨by dsimp only;omega,by dsimp only;omega,by dsimp only;omega,by dsimp only;omega,by simp⟩,by simp[cT,iV,e2,jW];omega, ?_⟩;simp only[fU,e2];exact s
 simp only[g2,Bool.false_eq_true,if_false]at h⊢;by_cases g3:(bA (op:Int)==3)=true
 ·simp only[g3,if_true]at h⊢;obtain⟨he,hx⟩:=sQ h;rw[hx];obtain⟨s,k1,k2⟩:=xZ hn he;have e2:bA (op:Int)=3:=by simpa using g3
  refine⟨rfl,⟨by dsimp only;omega,by dsimp only;omega,by dsimp only;omega,by dsimp only;omega,by simp⟩,by simp[cT,iV,e2,jW];omega, ?_⟩;simp only[fU,e2];exact s
 simp only[g3,Bool.false_eq_true,if_false]at h⊢;by_cases g5:(bA (op:Int)==5)=true
 ·simp only[g5,if_true]at h⊢;obtain⟨he,hx⟩:=sQ h;rw[hx];have h0:(gJ l 1000 n 0).2.2=0:=by
   by_cases hc:(gJ l 1000 n 0).2.2=0
   ·exact hc
   ·exact absurd he (aGE hc)
  obtain⟨s,k1,k2⟩:=xZ hn h0;rw[h0]at he⊢;have s2:=aAQ s.2.2 he;have e2:bA (op:Int)=5:=by simpa using g5
  refine⟨rfl,⟨by dsimp only;omega,by dsimp only;omega,by dsimp only;omega,by dsimp only;omega,by simp⟩,by simp[cT,iV,e2,jW];omega, ?_⟩;simp only[fU,e2];exact s.trans s2
 simp only[g5,Bool.false_eq_true,if_false]at h⊢;by_cases g4:(bA (op:Int)==4)=true
 ·simp only[g4,if_true]at h⊢;obtain⟨he,hx⟩:=sQ h;rw[hx];have h1:(qW l (gJ l 50 n 0).1 (gJ l 50 n 0).2.1 (gJ l 50 n 0).2.2).2.2=0:=by
   by_cases hc:(qW l (gJ l 50 n 0).1 (gJ l 50 n 0).2.1 (gJ l 50 n 0).2.2).2.2=0
   ·exact hc
   ·rw[LJ hc]at he;exact he
  have h0:(gJ l 50 n 0).2.2=0:=by
   by_cases hc:(gJ l 50 n 0).2.2=0
   ·exact hc
   ·exact absurd h1 (SD hc _)
  obtain⟨s,k1,k2⟩:=xZ hn h0;rw[h0]at h1 he⊢;obtain⟨s2,hz⟩:=aAR s.2.2 _ h1;have hlen:=LD (l:=l) (m:=(gJ l 50 n 0).1) (n:=(gJ l 50 n 0).2.1) (e:=0);rw[h1]at he⊢;obtain⟨s3,k3,k4⟩:=xZ s2.2.2 he;have e2:bA (op:Int)=4:=by simpa using g4
  generalize qW l (gJ l 50 n 0).1 (gJ l 50 n 0).2.1 0=w at*;obtain⟨L,m,e⟩:=w;dsimp only at*;have hany:(L.any fun z=> !pE z 0 1000)=false:=by
   rw[List.any_eq_false];intro z hzz;have:=hz z hzz;simp[jW];omega
  refine⟨rfl,⟨by dsimp only;omega,by dsimp only;omega,by dsimp only;omega,by dsimp only;omega,by simp;omega⟩, ?_, ?_⟩
  ·unfold cT iV;dsimp only;rw[e2,hany];simp[jW];omega
  ·unfold fU;dsimp only;rw[e2,hlen];exact(s.trans s2).trans s3
 simp only[g4,Bool.false_eq_true,if_false]at h⊢;by_cases g6:(bA (op:Int)==6)=true
 ·simp only[g6,if_true]at h⊢;obtain⟨he,hx⟩:=sQ h;rw[hx];have h0:(gJ l 3 n 0).2.2=0:=by
   by_cases hc:(gJ l 3 n 0).2.2=0
   ·exact hc
   ·rw[LJ hc]at he;exact absurd he hc
  obtain⟨s,k1,k2⟩:=xZ hn h0;rw[h0]at he⊢;obtain⟨s2,k3,k4⟩:=xZ s.2.2 he;have e2:bA (op:Int)=6:=by simpa using g6
  refine⟨rfl,⟨by dsimp only;omega,by dsimp only;omega,by dsimp only;omega,by dsimp only;omega,by simp⟩,by simp[cT,iV,e2,jW];omega, ?_⟩;simp only[fU,e2];exact s.trans s2
 simp only[g6,Bool.false_eq_true,if_false]at h⊢;by_cases g7:(bA (op:Int)==7)=true
 ·simp only[g7,if_true]at h⊢;obtain⟨he,hx⟩:=sQ h;rw[hx];have s:=aAQ hn he;have e2:bA (op:Int)=7:=by simpa using g7
  refine⟨rfl,⟨by dsimp only;omega,by dsimp only;omega,by simp,by simp,by simp⟩,by simp[cT,iV,e2], ?_⟩;simp only[fU,e2];exact s
 simp only[g7,Bool.false_eq_true,if_false]at h⊢;by_cases g8:(bA (op:Int)==8)=true
 ·simp only[g8,if_true]at h⊢;obtain⟨he,hx⟩:=sQ h;rw[hx];obtain⟨s,k1,k2⟩:=aAP (.inl rfl) hn he;have k2:=k2 rfl;have e2:bA (op:Int)=8:=by simpa using g8
  refine⟨rfl,⟨by dsimp only;omega,by dsimp only;omega,by dsimp only;omega,by dsimp only;omega,by simp⟩,by simp[cT,iV,e2,jW];omega, ?_⟩;simp only[fU,e2];exact s
 simp only[g8,Bool.false_eq_true,if_false]at h⊢;by_cases g9:(bA (op:Int)==9)=true
 ·simp only[g9,if_true]at h⊢;obtain⟨he,hx⟩:=sQ h;rw[hx];obtain⟨s,k1,k2⟩:=aAP (.inr rfl) hn he;have e2:bA (op:Int)=9:=by simpa using g9
  refine⟨rfl,⟨by dsimp only;omega,by dsimp only;omega,by dsimp only;omega,by dsimp only;omega,by simp⟩,by simp[cT,iV,e2], ?_⟩;simp only[fU,e2];exact s
 simp only[g9,Bool.false_eq_true,if_false]at h⊢;have e2:bA (op:Int)=1:=by
  simp at hf g2 g3 g4 g5 g6 g7 g8 g9;have:=XK (op:Int);omega
 obtain⟨he,hx⟩:=sQ h;rw[hx];refine⟨rfl,⟨by dsimp only;omega,by dsimp only;omega,by simp,by simp,by simp⟩,by simp[cT,iV,e2], ?_⟩;simp only[fU,e2];exact Sp.nil hn
theorem yA{l:List Nat}(hlt:∀x∈l,x<256)(h:(fB l).2.2=0):(fB l).1.Ok∧cT (fB l).1=true∧Sp l 0 (fB l).2.1 (gE (fB l).1):=by
 unfold fB at h⊢;by_cases g1:(bA ((pG l 0 0).1:Nat)==0)=true
 ·rw[if_pos g1]at h;cases h
 rw[if_neg g1]at h⊢;by_cases g2:((pG l 0 0).2.2 !=0)=true
 ·rw[if_pos g2]at h;rw[show(pG l 0 0).2.2=0 from h]at g2;simp at g2
 rw[if_neg g2]at h⊢;have he:(pG l 0 0).2.2=0:=by simpa using g2
 obtain⟨s,hm⟩:=SC (Nat.zero_le _) he;rw[he]at h⊢;obtain⟨k1,k2,k3,k4⟩:=SE (hlt _ hm) s.2.2 (by simpa using g1) h;refine⟨k2,k3, ?_⟩;have:=s.trans k4;unfold gE;rw[k1];exact this
theorem aLr{P:Prop}(h:P:=by(first|rfl|(simp;done)|(rw[List.drop_zero];exact List.take_of_length_le (by first|(simp;done)|(simp;omega)|omega))|(simp only[List.map_take,List.map_drop,List.drop_zero];done))):P:=h
theorem aAS{α:Type}{l:List α}{n:Nat}(h:l.length≤n):(l.drop 0).take n=l:=by rw[List.drop_zero];exact List.take_of_length_le h
theorem aJc{P:Prop}(h:P:=by(first|exact aAS (by first|(simp;done)|(simp;omega)|omega)|rfl)):P:=h
section
variable {P : Program} {n : Nat} {ops : Array Oper} {rest : List Oper} {fr : Fr} {σ : dC} {K : ASt → Prop} {op : Op} {ty t t' : TypeId} {pos : String} {af : Array Edge} {x y : Operand} {d : Nat}
variable {listed : Array Bool} {todo : List (Nat × Bool)} {held : List (Nat × List Nat)} {i : Nat}
theorem aJd{e:TypeId}{sz by_:Nat}{zv:Value}{z:Nat}{k:Rk}{ys:List (List AV)}(hi:ops[i]? =some ⟨some d,.call { callee:=.builtin .append,args:=#[x,y],argTypes:=#[t,t] },ty,pos,af,none⟩)(es':List (List AV))(len':Nat)
  (hK:∀r,Fresh r σ→RD P n ops (listed.setIfInBounds i true) todo held ⟨(d,.own r 0 len')::fr,(r,.arr e sz es')::σ⟩ K)
  (i1:Ty P t (.slice e):=by infer_instance) (i2:Tz P e sz by_ zv:=by infer_instance) (hz:zv.cells.size=sz:=by rfl) (h0:Nat.ble 1 sz=true:=by rfl) (hb:aev ⟨fr,σ⟩ x=some (.ro z [] k):=by rfl) (hk:k≠ .any:=by decide) (hy:Src ⟨fr,σ⟩ y sz ys:=by exact aDh) (he:ys=es':=by exact aLr) (hl:len'=ys.length:=by exact LG) (hby:len'*by_≤140737488355328:=by(simp;try omega)) (hd:Nat.ble (d+1) n=true:=by rfl):
  RD P n ops listed ((i,false)::todo) held ⟨fr,σ⟩ K:=by
 subst he hl;exact uR hi (DI (Nat.le_of_ble_eq_true h0) hz hb hk hy hby (cI hd) hK)
end
theorem kT{fr:Fr}{σ σ1 σ':dC}{r q:Nat}{bt:TypeId}{cs cs':List AV}{e:Ent}(hs:SSet σ r (.box bt cs) r (.box bt cs') σ1)(hd:SDel σ1 q e σ')(hb:BorL σ [q] cs cs'):SGo ⟨fr,σ⟩ ⟨fr,σ'⟩:=by
 refine pU [q] (fun i x' hi=>⟨x',hi,.refl _⟩) (fun p hp=> ?_);obtain⟨h1,h2⟩:=hd.sub p hp;refine⟨by simpa using h2, ?_⟩;rcases List.mem_cons.1 (hs.sub p h1)with rfl|h
 ·exact⟨_,bV hs.get,.box (aAf hb)⟩
 ·exact⟨p.2,(fM h).1,.refl _⟩
theorem nZ{fr:Fr}{σ σ':dC}{o:Nat}{e:TypeId}{sz:Nat}{es:List (List AV)}(k:Nat)(hs:SSet σ o (.arr e sz es) o (.arr e sz (es.take k)) σ'):SGo ⟨fr,σ⟩ ⟨fr,σ'⟩:=by
 intro M F N n a w hr;have hmem:∀p∈σ',(∃x,(p.1,x)∈σ)∧ER M F w p.1 p.2:=by
  intro p hp;rcases List.mem_cons.1 (hs.sub p hp)with rfl|h
  ·refine⟨⟨_,bV hs.get⟩, ?_⟩;obtain⟨h0,h1,h2⟩:=hr.st.ent _ (bV hs.get);refine⟨h0,fun x hx=>h1 x (List.mem_of_mem_take hx), ?_⟩;rcases h2 with⟨h2,h3⟩|⟨g,c,vs,h2,h3,h4,h5,h6,h7⟩
   ·exact .inl ⟨h2,by simp[h3]⟩
   ·refine .inr ⟨g,c,vs,h2,h3,h4,by simp;omega,h6,fun i x j b u hi=> ?_⟩;rw[List.getElem?_take]at hi;split at hi
    ·exact h7 i x j b u hi
    ·cases hi
  ·exact⟨⟨p.2,(fM h).1⟩,hr.st.ent p (fM h).1⟩
 exact⟨M,F,N,⟨hr.size,hr.defers,hr.fr,hr.st.retold hmem⟩,Ext.retold fun p hp=>(hmem p hp).1⟩
theorem jR(a:List Nat):(dI a).size=a.length:=by simp[dI,ByteArray.size]
section
variable {P : Program} {ty t t' : TypeId} {s : ASt} {c : Bool} {x y : Operand}
theorem zD{e:TypeId} [Ty P t (.slice e)] [Ty P e (.int .u8)] [Ty P t' .string] {bs bs':List Nat}{r off len:Nat}{et:TypeId}(h:Ev s c x (.own r off len))(hg:fZ s.σ r=some (.arr et 1 (bs.map aG)):=by exact bC)(hle:off+len≤bs.length:=by exact LG)(hbs:(bs.drop off).take len=bs':=by exact aJc):Lop P (.convert t t' x) ty s c (.str (dI bs')) [r]:=HC h hg hle hbs
end
end Go.Proofs.YtjpdadobblffmaaGreat
namespace Go.Proofs.YtjpdadobblffmaaGreat
open Go.RowKit Go.ChangeShapes Go.WideShapes Go.ChangeAt Go.Deep
attribute [local irreducible] SW RS RD fF eB
def HQ (n:Nat):List AV:=[.int .i64 n]
instance : NoE HQ := ⟨fun a x hx => by simp [HQ] at hx; subst hx; exact NoF.int⟩
structure Bk where
 at_:Nat
 els:Int
 en:Int
def vC (b:Bk):List AV:=[.int .i64 b.at_,.int .i64 b.els,.int .i64 b.en]
instance : NoE vC := ⟨fun a x hx => by simp [vC] at hx; rcases hx with rfl | rfl | rfl <;> exact NoF.int⟩
def uG (op:Int):Bool:=op==2||op==3||op==4
structure MS where
 all:List Bk
 opn:List Nat
def CI (ops:List Int) (s:MS) (i:Nat) (op:Int):Option MS:=
 match s.opn.getLast? with
 |none=>none
 |some k=>match s.all[k]? with
  |none=>none
  |some b=>if op=11 then some ⟨s.all.set k ⟨b.at_,b.els,i⟩,s.opn.dropLast⟩
   else if ops[b.at_]? ≠some (4:Int)∨0≤b.els then none else some ⟨s.all.set k ⟨b.at_,i,b.en⟩,s.opn⟩
def oL (ops:List Int) (s:MS) (i:Nat) (op:Int):Option MS:=
 if uG op=true then(if s.opn.length=40 then none else some ⟨s.all++ [⟨i,-1,-1⟩],s.opn++ [s.all.length]⟩)
 else if op≠5∧op≠11 then some s else CI ops s i op
def pH (ops:List Int):Nat→Option MS
 |0=>some ⟨[],[]⟩
 |j+1=>match pH ops j,ops[j]? with
  |some s,some op=>oL ops s j op
  | _,_=>none
theorem wA{ops:List Int}{j:Nat}{s:MS}{op:Int}(h:pH ops j=some s)(ho:ops[j]? =some op):pH ops (j+1)=oL ops s j op:=by
 rw[pH,h,ho]
theorem AN{ops:List Int}{j:Nat}(h:pH ops j=none):∀d,pH ops (j+d)=none
 |0=>h
 |d+1=>by rw[←Nat.add_assoc,pH,AN h d]
structure MOk (j:Nat) (s:MS):Prop where
 opn:∀k∈s.opn,k<s.all.length
 at_:∀b∈s.all,b.at_<j
 len:s.opn.length≤40
 all:s.all.length≤j
theorem aAT{ops:List Int}{j:Nat}{s s':MS}{op:Int}(h:MOk j s)(hs:oL ops s j op=some s'):MOk (j+1) s':=by
 unfold oL at hs;split at hs
 ·split at hs
  ·cases hs
  ·next h40=>
   obtain rfl:=Option.some.inj hs;refine⟨fun k hk=> ?_,fun b hb=> ?_,by have:=h.len;simp;omega,by have:=h.all;simp;omega⟩
   ·rcases List.mem_append.1 hk with hk|hk
    ·have:=h.opn k hk;simp;omega
    ·rw[List.mem_singleton.1 hk];simp
   ·rcases List.mem_append.1 hb with hb|hb
    ·have:=h.at_ b hb;omega
    ·rw[List.mem_singleton.1 hb];exact Nat.lt_succ_self _
 split at hs
 ·obtain rfl:=Option.some.inj hs;exact⟨h.opn,fun b hb=>Nat.lt_succ_of_lt (h.at_ b hb),h.len,Nat.le_succ_of_le h.all⟩
 unfold CI at hs;split at hs
 ·cases hs
 split at hs
 ·cases hs
 ·next k hk b hb=>
  have hbm:=h.at_ b (List.mem_of_getElem? hb);split at hs
  ·obtain rfl:=Option.some.inj hs;refine⟨fun x hx=> ?_,fun x hx=> ?_,by have:=h.len;simp;omega,by have:=h.all;simp;omega⟩
   ·have:=h.opn x ((List.dropLast_sublist _).subset hx);simpa using this
   ·rcases List.mem_or_eq_of_mem_set hx with hx|rfl
    ·exact Nat.lt_succ_of_lt (h.at_ x hx)
    ·exact Nat.lt_succ_of_lt hbm
  split at hs
  ·cases hs
  ·obtain rfl:=Option.some.inj hs;refine⟨fun x hx=> ?_,fun x hx=> ?_,h.len,by have:=h.all;simp;omega⟩
   ·have:=h.opn x hx;simpa using this
   ·rcases List.mem_or_eq_of_mem_set hx with hx|rfl
    ·exact Nat.lt_succ_of_lt (h.at_ x hx)
    ·exact Nat.lt_succ_of_lt hbm
theorem zE{ops:List Int}:∀ {j:Nat} {s:MS},pH ops j=some s→MOk j s
 |0,s,h=>by
  obtain rfl:=Option.some.inj h;exact⟨by simp,by simp,by simp,by simp⟩
 |j+1,s,h=>by
  rw[pH]at h;split at h
  ·next s0 op h1 h2=>exact aAT (zE h1) h
  ·cases h
def gF (ops:List Int):Option (List Bk):=if 300<ops.length then none else match pH ops ops.length with|some ⟨all,[]⟩=>some all| _=>none
def UQ (ops:List Int):List Bk:=(gF ops).getD []
def wT (ops:List Int):Bool:=(gF ops).isSome
theorem lY{ops:List Int}{j:Nat}(h:pH ops j=none)(hj:j≤ops.length):gF ops=none:=by
 unfold gF;split
 ·rfl
 ·have:=AN h (ops.length-j);rw[Nat.add_sub_cancel' hj]at this;rw[this]
def dA (l:List Ins):List Int:=l.map Ins.op
theorem vD{l:List Ins}{j:Nat}{x:Ins}(h:l[j]? =some x):(dA l)[j]? =some x.op:=by simp[dA,h]
theorem oA{ops:List Int}{q:Nat}{t:TypeId}(h:gF ops=none):∃q2,AV.tup [.own q 0 0,.bool false]=.tup [.own q2 0 (UQ ops).length,.bool (wT ops)]∧([(q,.arr t 3 [])]:dC)=[(q2,.arr t 3 ((UQ ops).map vC))]:=
 ⟨q,by simp[UQ,wT,h],by simp[UQ,h]⟩
theorem yB(op:Int):SCall Tryz.prog 186 [.int .i64 op] [] (fun x σ=>x=.bool (uG op)∧σ=[]):=by
 refine bS 13 [0,2] Tryz.func186 ?_;refine eX ?_;refine lo (cN (E rfl) (E rfl)) rfl ?_;refine jU ?_;refine pW ?_;refine jE ?_;refine jU ?_;refine pW ?_;refine jE ?_;refine cM ?_;exact aD aE ⟨by show AV.bool _=_;congr 1;simp only[aFp,uG],rfl⟩ aA
theorem AO{ops:List Int}{s:MS}{j:Nat}{op:Int}(h:uG op=true)(hl:s.opn.length≠40):oL ops s j op=some ⟨s.all++ [⟨j,-1,-1⟩],s.opn++ [s.all.length]⟩:=by
 unfold oL;rw[if_pos h,if_neg hl]
theorem AP{ops:List Int}{s:MS}{j:Nat}{op:Int}(h:uG op=true)(hl:s.opn.length=40):oL ops s j op=none:=by
 unfold oL;rw[if_pos h,if_pos hl]
theorem AQ{ops:List Int}{s:MS}{j:Nat}{op:Int}(h:uG op=false)(h1:op≠5)(h2:op≠11):oL ops s j op=some s:=by
 unfold oL;rw[if_neg (by simp[h]),if_pos ⟨h1,h2⟩]
theorem zF{ops:List Int}{s:MS}{j:Nat}{op:Int}(h:uG op=false)(h1:op=5∨op=11):oL ops s j op=CI ops s j op:=by
 unfold oL;rw[if_neg (by simp[h]),if_neg (by omega)]
theorem EB{ops:List Int}{all:List Bk}{j:Nat}{op:Int}:CI ops ⟨all,[]⟩ j op=none:=rfl
theorem LK{ops:List Int}{all:List Bk}{pre:List Nat}{k j:Nat}{b:Bk}(hb:all[k]? =some b):CI ops ⟨all,pre++ [k]⟩ j 11=some ⟨all.set k ⟨b.at_,b.els,j⟩,pre⟩:=by
 unfold CI;simp[hb]
theorem EC{ops:List Int}{all:List Bk}{pre:List Nat}{k j:Nat}{b:Bk}(hb:all[k]? =some b)(h4:ops[b.at_]? =some 4)(he:¬0≤b.els):CI ops ⟨all,pre++ [k]⟩ j 5=some ⟨all.set k ⟨b.at_,j,b.en⟩,pre++ [k]⟩:=by
 unfold CI;simp[hb,h4,he]
theorem LL{ops:List Int}{all:List Bk}{pre:List Nat}{k j:Nat}{b:Bk}(hb:all[k]? =some b)(h:ops[b.at_]? ≠some 4∨0≤b.els):CI ops ⟨all,pre++ [k]⟩ j 5=none:=by
 unfold CI;simp[hb];intro h4;rcases h with h|h
 ·exact absurd h4 h
 ·exact h
theorem LM{pre:List Nat}{k:Nat}:(pre++ [k])[(((pre++ [k]).length:Nat)-1:Int).toNat]? =some k:=by
 rw[show(((pre++ [k]).length:Nat)-1:Int).toNat=pre.length by simp];simp
theorem ED{α:Type}{l:List α}{k:Nat}{x:α}(h:l[k]? =some x):l[(k:Int).toNat]? =some x:=by rw[Int.toNat_natCast];exact h
theorem lZ(l:List Ins)(hl:l.length≤100000):SCall Tryz.prog 75 [.ro 4 (l.map (iv .any)) .any] []
  (fun y σ=>∃q,y=.tup [.own q 0 (UQ (dA l)).length,.bool (wT (dA l))]∧σ=[(q,.arr 162 3 ((UQ (dA l)).map vC))]):=by
 have hol:(dA l).length=l.length:=by simp[dA]
 refine bS 113 [0,2,3,4,5,6,7,8,11,12,13,14,15,30,38,52,61,64,81,111] Tryz.func75 ?_;refine cZ ?_;refine nS ?_;refine xT ?_;refine iI ?_;refine aB rfl (fun g1=> ?_) (fun g1=> ?_)
 ·refine xE ?_;refine bP 2 162 3 (by decide) rfl (by decide) (bN fun q2 hq2=> ?_);repeat rcases hq2 with⟨_,hq2⟩
  have hN:gF (dA l)=none:=by unfold gF;rw[if_pos (by simp at g1;omega)]
  refine aI ?_;apply aD;exact aE
  ·exact oA hN
  ·exact aA
 refine oK ?_;refine fV ?_;refine nR ?_;refine bP 4 162 3 (by decide) rfl (by decide) (bN fun a0 ha0=> ?_);repeat rcases ha0 with⟨_,ha0⟩
 refine bP 5 3 1 (by decide) rfl (by decide) (bN fun o0 ho0=> ?_);repeat rcases ho0 with⟨_,ho0⟩
 refine lp (β:=Nat×Nat×Nat×MS) (fun b=>⟨[(0,.ro 4 (l.map (iv .any)) .any),(4,.own b.1 0 b.2.2.2.all.length),(5,.own b.2.1 0 b.2.2.2.opn.length),(12,.ro 4 (l.map (iv .any)) .any),(13,.int .i64 l.length),(14,.int .i64 b.2.2.1)],[(b.1,.arr 162 3 (b.2.2.2.all.map vC)),(b.2.1,.arr 3 1 (b.2.2.2.opn.map HQ))]⟩) (fun b=>Nq b.1 b.2.1∧b.2.2.1≤l.length∧pH (dA l) b.2.2.1=some b.2.2.2) (fun b=>l.length-b.2.2.1) (a0,o0,0,⟨[],[]⟩) aJ ⟨by show Nq a0 o0;(exact cA),Nat.zero_le _,rfl⟩ ?_;rintro⟨a,o,j,all,opn⟩ ⟨hao,hj,hrun⟩;dsimp only at hao hj hrun⊢;obtain⟨hk1,hk2,hk3,hk4⟩:=zE hrun;dsimp only at hk1 hk2 hk3 hk4;refine gA ?_;refine aB rfl (fun g6=> ?_) (fun g6=> ?_)
 ·have hlt:j<l.length:=by simp at g6;omega
  obtain⟨x,hx⟩:∃x,l[j]? =some x:=⟨_,List.getElem?_eq_getElem hlt⟩
  have hnx:=wA hrun (vD hx);refine cX ?_;refine yV ?_;refine iO fun r7 h7=> ?_;intros
  refine lo (cK (E rfl)) rfl ?_;refine mT ?_;refine qI ?_;refine iJ ?_;refine lB Tryz.call186 (yB _) rfl aP aS ?_;refine jU ?_;refine pW ?_;refine jM ?_;refine aB rfl (fun g10=> ?_) (fun g10=> ?_)
  ·refine xE ?_;refine bP 2 162 3 (by decide) rfl (by decide) (bN fun q2 hq2=> ?_);repeat rcases hq2 with⟨_,hq2⟩
   have hN:gF (dA l)=none:=by replace g10:=bT g10;exact lY (hnx.trans (AP (s:=⟨all,opn⟩) g10.1 (by show opn.length=40;omega))) (by omega)
   refine aI ?_;apply aD;exact aE
   ·exact oA hN
   ·exact aA
  refine fT ?_;refine lB Tryz.call186 (yB _) rfl aP aS ?_;refine cM ?_;refine aB rfl (fun g12=> ?_) (fun g12=> ?_)
  ·have hnn:=hnx.trans (AO g12 (by intro he;simp[g12,he]at g10));refine nF ?_;refine eC fun r45 h45=> ?_;intros
   refine jQ ((opn++ [all.length]).map HQ) (opn++ [all.length]).length ?_;refine bE fun r46 h46=> ?_;intros
   refine lO ?_;refine lE ?_;refine eC fun r50 h50=> ?_;intros
   refine jQ ((all++ [(Bk.mk j (-1) (-1))]).map vC) (all++ [(Bk.mk j (-1) (-1))]).length ?_;refine bE fun r51 h51=> ?_;intros
   refine cM ?_;obtain⟨A,O,hAO,rfl,rfl⟩:∃A O,Nq A O∧A=r51∧O=r46:=⟨_,_,by(exact cA),rfl,rfl⟩
   refine OD ?_;refine⟨(A,O,j+1,_),⟨hAO,hlt,hnn⟩,by show l.length-(j+1)<l.length-j;omega, ?_⟩;dsimp only;exact aJ
  refine fT ?_;refine lo (dV (E rfl) (E rfl)) rfl ?_;refine mR ?_;refine aAj ?_;refine jM ?_;refine aB rfl (fun g15=> ?_) (fun g15=> ?_)
  ·have hnn:=hnx.trans (AQ g12 (by replace g15:=bT g15;exact g15.1) (by replace g15:=bT g15;exact g15.2));obtain⟨A,O,hAO,rfl,rfl⟩:∃A O,Nq A O∧A=a∧O=o:=⟨_,_,by(exact cA),rfl,rfl⟩
   refine jH ?_;refine⟨(A,O,j+1,_),⟨hAO,hlt,hnn⟩,by show l.length-(j+1)<l.length-j;omega, ?_⟩;dsimp only;exact aJ
  have h5:x.op=5∨x.op=11:=by replace g15:=bT g15;omega
  have hnx:=hnx.trans (zF g12 h5);refine cX ?_;refine OA ?_;refine aB rfl (fun g16=> ?_) (fun g16=> ?_)
  ·refine xE ?_;refine bP 2 162 3 (by decide) rfl (by decide) (bN fun q2 hq2=> ?_);repeat rcases hq2 with⟨_,hq2⟩
   have hN:gF (dA l)=none:=by obtain rfl:opn=[]:=(by simpa using g16);exact lY (hnx.trans EB) (by omega)
   refine aI ?_;apply aD;exact aE
   ·exact oA hN
   ·exact aA
  have hne:opn≠ []:=by intro h;simp[h]at g16
  obtain⟨pre,k,rfl⟩:∃pre k,opn=pre++ [k]:=⟨opn.dropLast,opn.getLast hne,(List.dropLast_concat_getLast hne).symm⟩
  have hkl:=hk1 k (by simp);obtain⟨b,hb⟩:∃b,all[k]? =some b:=⟨_,List.getElem?_eq_getElem hkl⟩
  have hpl:(pre++ [k]).length=pre.length+1:=by simp
  have hlast:=LM (pre:=pre) (k:=k);have hbt:=ED hb;refine fT ?_;refine OA ?_;refine aB rfl (fun g18=> ?_) (fun g18=> ?_)
  ·have h11:x.op=11:=by simpa using g18
   have hnn:=hnx;rw[h11,LK hb]at hnn;obtain⟨A,O,hAO,rfl,rfl⟩:∃A O,Nq A O∧A=a∧O=o:=⟨_,_,by(exact cA),rfl,rfl⟩
   refine DY ?_;refine tF ?_;refine lM ?_;refine IR ?_;refine KP ?_;refine iI ?_;refine kQ ?_;refine tF ?_;refine aF9 ?_;refine cM ?_;rw[show((((pre++ [k]).length:Nat):Int)-1).toNat-0=pre.length by simp];refine dZ (nZ (o:=O) pre.length cE) ?_;rw[show(all.map vC).set (k:Int).toNat [.int .i64 (b.at_:Int),.int .i64 b.els,.int .i64 (j:Int)]=(all.set k ⟨b.at_,b.els,j⟩).map vC by rw[Int.toNat_natCast,List.map_set];rfl,show List.take pre.length ((pre++ [k]).map HQ)=pre.map HQ by simp];refine OD ?_;refine⟨(A,O,j+1,_),⟨hAO,hlt,hnn⟩,by show l.length-(j+1)<l.length-j;omega, ?_⟩;dsimp only;exact aJ
  have h05:x.op=5:=by simp at g18;omega
  have hnx:=by have:=hnx;rw[h05]at this;exact this
  have hba:=hk2 b (List.mem_of_getElem? hb);obtain⟨y,hy⟩:∃y,l[b.at_]? =some y:=⟨_,List.getElem?_eq_getElem (by omega)⟩
  have hyt:=ED hy;have hoy:=vD hy;refine dG ?_;refine HI ?_;refine tF ?_;refine lM ?_;refine UC ?_;refine KO ?_;refine z16 ?_;refine UC ?_;refine KO ?_;refine z16 ?_;refine lo (dV (E rfl) (E rfl)) rfl ?_;refine jU ?_;refine kG ?_;refine kG ?_;refine aGc ?_;refine CD ?_;refine CE ?_;refine CD ?_;refine NS ?_;refine CE ?_;refine NT ?_;refine jE ?_;refine cM ?_;refine aB rfl (fun g21=> ?_) (fun g21=> ?_)
  ·refine xE ?_;refine bP 2 162 3 (by decide) rfl (by decide) (bN fun q2 hq2=> ?_);repeat rcases hq2 with⟨_,hq2⟩
   have hN:gF (dA l)=none:=lY (hnx.trans (LL hb (by rw[hoy];replace g21:=bT g21;rcases g21 with h|h;exact .inl (fun e=>h (Option.some.inj e));exact .inr h))) (by omega);refine aI ?_;apply aD;exact aE
   ·exact oA hN
   ·exact aA
  have hnn:=hnx.trans (EC hb (by rw[hoy];replace g21:=bT g21;rw[g21.1]) (by replace g21:=bT g21;exact g21.2));obtain⟨A,O,hAO,rfl,rfl⟩:∃A O,Nq A O∧A=a∧O=o:=⟨_,_,by(exact cA),rfl,rfl⟩
  refine DY ?_;refine tF ?_;refine lM ?_;refine IR ?_;refine KP ?_;refine iI ?_;rw[show(all.map vC).set (k:Int).toNat [.int .i64 (b.at_:Int),.int .i64 (j:Int),.int .i64 b.en]=(all.set k ⟨b.at_,j,b.en⟩).map vC by rw[Int.toNat_natCast,List.map_set];rfl];refine OD ?_;refine⟨(A,O,j+1,_),⟨hAO,hlt,hnn⟩,by show l.length-(j+1)<l.length-j;omega, ?_⟩;dsimp only;exact aJ
 obtain rfl:j=l.length:=by simp at g6;omega
 refine cX ?_;refine xT ?_;refine iI ?_;refine aB rfl (fun g24=> ?_) (fun g24=> ?_)
 ·refine xE ?_;refine bP 2 162 3 (by decide) rfl (by decide) (bN fun q2 hq2=> ?_);repeat rcases hq2 with⟨_,hq2⟩
  have hN:gF (dA l)=none:=by unfold gF;rw[hol,hrun,if_neg (by simp at g1;omega)];cases opn with|nil=>simp at g24|cons z zs=>rfl
  refine aI ?_;apply aD;exact aE
  ·exact oA hN
  ·exact aA
 refine cX ?_;refine jF ?_;apply aD;exact aE
 ·have hN:gF (dA l)=some all:=by unfold gF;rw[hol,hrun,if_neg (by simp at g1;omega)];cases opn with|nil=>rfl|cons z zs=>simp at g24
  simp only[UQ,wT,hN,Option.getD_some,Option.isSome_some];exact⟨a,rfl,rfl⟩
 ·exact aA
theorem XL(l:List Ins)(hl:l.length≤100000):SCall Tryz.prog 155 [.ro 4 (l.map (iv .any)) .any] []
  (fun y σ=>∃q,y=.tup [.own q 0 (UQ (dA l)).length,.bool (wT (dA l))]∧σ=[(q,.arr 298 3 ((UQ (dA l)).map vC))]):=by
 have hol:(dA l).length=l.length:=by simp[dA]
 refine bS 99 [0,2,3,4,5,6,7,11,18,19,35,36,40,64,70,74,97] Tryz.func155 ?_;refine cZ ?_;refine qL ?_;refine iX ?_;refine iX ?_;refine cM ?_;refine bP 4 298 3 (by decide) rfl (by decide) (bN fun a0 ha0=> ?_);repeat rcases ha0 with⟨_,ha0⟩
 refine bP 5 3 1 (by decide) rfl (by decide) (bN fun o0 ho0=> ?_);repeat rcases ho0 with⟨_,ho0⟩
 refine lp (β:=Nat×Nat×Nat×MS) (fun b=>⟨[(0,.ro 4 (l.map (iv .any)) .any),(4,.own b.1 0 b.2.2.2.all.length),(5,.own b.2.1 0 b.2.2.2.opn.length),(6,.int .i64 b.2.2.1)],[(b.1,.arr 298 3 (b.2.2.2.all.map vC)),(b.2.1,.arr 3 1 (b.2.2.2.opn.map HQ))]⟩) (fun b=>Nq b.1 b.2.1∧b.2.2.1≤l.length∧pH (dA l) b.2.2.1=some b.2.2.2) (fun b=>l.length-b.2.2.1) (a0,o0,0,⟨[],[]⟩) aJ ⟨by show Nq a0 o0;(exact cA),Nat.zero_le _,rfl⟩ ?_;rintro⟨a,o,j,all,opn⟩ ⟨hao,hj,hrun⟩;dsimp only at hao hj hrun⊢;obtain⟨hk1,hk2,hk3,hk4⟩:=zE hrun;dsimp only at hk1 hk2 hk3 hk4;refine nF ?_;refine nP ?_;refine aB rfl (fun g4=> ?_) (fun g4=> ?_)
 ·have hlt:j<l.length:=by simp at g4;omega
  obtain⟨x,hx⟩:∃x,l[j]? =some x:=⟨_,List.getElem?_eq_getElem hlt⟩
  have hnx:=wA hrun (vD hx);refine dG ?_;refine UC ?_;refine KO ?_;refine z16 ?_;refine iI ?_;have hO:(x.op==2||(x.op==3||x.op==4))=uG x.op:=by unfold uG;rw[Bool.or_assoc]
  refine eP ?_;apply fR rfl;exact cO
  ·intro _;(refine aI ?_);refine eP ?_;apply dR rfl;exact cO
   ·intro _;(refine aI ?_);refine eP ?_;exact aJ
   exact aJ
  refine aI ?_;refine aB rfl (fun g7=> ?_) (fun g7=> ?_)
  ·have hso:uG x.op=true:=hO▸g7;refine nF ?_;refine eC fun r26 h26=> ?_;intros
   refine jQ ((opn++ [all.length]).map HQ) (opn++ [all.length]).length ?_;refine bE fun r27 h27=> ?_;intros
   refine lO ?_;refine lE ?_;refine eC fun r31 h31=> ?_;intros
   refine jQ ((all++ [(Bk.mk j (-1) (-1))]).map vC) (all++ [(Bk.mk j (-1) (-1))]).length ?_;refine bE fun r32 h32=> ?_;intros
   refine gZ ?_;refine xT ?_;refine iI ?_;refine aB rfl (fun g12=> ?_) (fun g12=> ?_)
   ·refine xE ?_;refine bP 2 298 3 (by decide) rfl (by decide) (bN fun q2 hq2=> ?_);repeat rcases hq2 with⟨_,hq2⟩
    have hN:gF (dA l)=none:=lY (hnx.trans (AP (s:=⟨all,opn⟩) hso (by show opn.length=40;simp at g12;omega))) (by omega);refine aI ?_;apply aD;exact aE
    ·exact oA hN
    ·exact aA
   have hnn:=hnx.trans (AO hso (by intro he;simp at g12;simp at he;omega));obtain⟨A,O,hAO,rfl,rfl⟩:∃A O,Nq A O∧A=r32∧O=r27:=⟨_,_,by(exact cA),rfl,rfl⟩
   refine lJ ?_;refine⟨(A,O,j+1,_),⟨hAO,hlt,hnn⟩,by show l.length-(j+1)<l.length-j;omega, ?_⟩;dsimp only;exact aJ
  have hso:uG x.op=false:=hO▸g7;refine dE ?_;refine aB rfl (fun g14=> ?_) (fun g14=> ?_)
  ·have h5:x.op=5:=by simpa using g14
   have hnx:=hnx.trans (zF hso (.inl h5));rw[h5]at hnx;refine cX ?_;refine rL ?_;refine aB rfl (fun g15=> ?_) (fun g15=> ?_)
   ·refine xE ?_;refine bP 2 298 3 (by decide) rfl (by decide) (bN fun q2 hq2=> ?_);repeat rcases hq2 with⟨_,hq2⟩
    have hN:gF (dA l)=none:=by obtain rfl:opn=[]:=(by simpa using g15);exact lY (hnx.trans EB) (by omega)
    refine aI ?_;apply aD;exact aE
    ·exact oA hN
    ·exact aA
   have hne:opn≠ []:=by intro h;simp[h]at g15
   obtain⟨pre,k,rfl⟩:∃pre k,opn=pre++ [k]:=⟨opn.dropLast,opn.getLast hne,(List.dropLast_concat_getLast hne).symm⟩
   have hkl:=hk1 k (by simp);obtain⟨b,hb⟩:∃b,all[k]? =some b:=⟨_,List.getElem?_eq_getElem hkl⟩
   have hpl:(pre++ [k]).length=pre.length+1:=by simp
   have hlast:=LM (pre:=pre) (k:=k);have hbt:=ED hb;have hba:=hk2 b (List.mem_of_getElem? hb);obtain⟨y,hy⟩:∃y,l[b.at_]? =some y:=⟨_,List.getElem?_eq_getElem (by omega)⟩
   have hyt:=ED hy;have hoy:=vD hy;refine nF ?_;refine tF ?_;refine lM ?_;refine lO ?_;refine tK ?_;refine UC ?_;refine KO ?_;refine z16 ?_;refine lo (dV (E rfl) (E rfl)) rfl ?_;refine jU ?_;refine kG ?_;refine CD ?_;refine NS ?_;refine CE ?_;refine NT ?_;refine oJ ?_;refine aB rfl (fun g18=> ?_) (fun g18=> ?_)
   ·refine xE ?_;refine bP 2 298 3 (by decide) rfl (by decide) (bN fun q2 hq2=> ?_);repeat rcases hq2 with⟨_,hq2⟩
    have hN:gF (dA l)=none:=lY (hnx.trans (LL hb (by rw[hoy];replace g18:=bT g18;rcases g18 with h|h;exact .inl (fun e=>h (Option.some.inj e));exact .inr h))) (by omega);refine aI ?_;apply aD;exact aE
    ·exact oA hN
    ·exact aA
   have hnn:=hnx.trans (EC hb (by rw[hoy];replace g18:=bT g18;rw[g18.1]) (by replace g18:=bT g18;exact g18.2));refine dG ?_;refine IR ?_;refine KP ?_;refine iI ?_;rw[show(all.map vC).set (k:Int).toNat [.int .i64 (b.at_:Int),.int .i64 (j:Int),.int .i64 b.en]=(all.set k ⟨b.at_,j,b.en⟩).map vC by rw[Int.toNat_natCast,List.map_set];rfl];obtain⟨A,O,hAO,rfl,rfl⟩:∃A O,Nq A O∧A=a∧O=o:=⟨_,_,by(exact cA),rfl,rfl⟩
   refine fV ?_;refine DS ?_;refine⟨(A,O,j+1,_),⟨hAO,hlt,hnn⟩,by show l.length-(j+1)<l.length-j;omega, ?_⟩;dsimp only;exact aJ
  have hn5:x.op≠5:=by simpa using g14
  refine dE ?_;refine aB rfl (fun g21=> ?_) (fun g21=> ?_)
  ·have h11:x.op=11:=by simpa using g21
   have hnx:=hnx.trans (zF hso (.inr h11));rw[h11]at hnx;refine cX ?_;refine rL ?_;refine aB rfl (fun g22=> ?_) (fun g22=> ?_)
   ·refine xE ?_;refine bP 2 298 3 (by decide) rfl (by decide) (bN fun q2 hq2=> ?_);repeat rcases hq2 with⟨_,hq2⟩
    have hN:gF (dA l)=none:=by obtain rfl:opn=[]:=(by simpa using g22);exact lY (hnx.trans EB) (by omega)
    refine aI ?_;apply aD;exact aE
    ·exact oA hN
    ·exact aA
   have hne:opn≠ []:=by intro h;simp[h]at g22
   obtain⟨pre,k,rfl⟩:∃pre k,opn=pre++ [k]:=⟨opn.dropLast,opn.getLast hne,(List.dropLast_concat_getLast hne).symm⟩
   have hkl:=hk1 k (by simp);obtain⟨b,hb⟩:∃b,all[k]? =some b:=⟨_,List.getElem?_eq_getElem hkl⟩
   have hpl:(pre++ [k]).length=pre.length+1:=by simp
   have hlast:=LM (pre:=pre) (k:=k);have hbt:=ED hb;have hnn:=hnx;rw[LK hb]at hnn;refine dG ?_;refine CH ?_;refine tF ?_;refine lM ?_;refine IR ?_;refine KP ?_;refine iI ?_;refine kQ ?_;refine qI ?_;refine tF ?_;refine aF9 ?_;refine cM ?_;rw[show((((pre++ [k]).length:Nat):Int)-1).toNat-0=pre.length by simp];refine dZ (nZ (o:=o) pre.length cE) ?_;rw[show(all.map vC).set (k:Int).toNat [.int .i64 (b.at_:Int),.int .i64 b.els,.int .i64 (j:Int)]=(all.set k ⟨b.at_,b.els,j⟩).map vC by rw[Int.toNat_natCast,List.map_set];rfl,show List.take pre.length ((pre++ [k]).map HQ)=pre.map HQ by simp];obtain⟨A,O,hAO,rfl,rfl⟩:∃A O,Nq A O∧A=a∧O=o:=⟨_,_,by(exact cA),rfl,rfl⟩
   refine fV ?_;refine DS ?_;refine⟨(A,O,j+1,_),⟨hAO,hlt,hnn⟩,by show l.length-(j+1)<l.length-j;omega, ?_⟩;dsimp only;exact aJ
  have hnn:=hnx.trans (AQ hso hn5 (by simpa using g21));obtain⟨A,O,hAO,rfl,rfl⟩:∃A O,Nq A O∧A=a∧O=o:=⟨_,_,by(exact cA),rfl,rfl⟩
  refine lJ ?_;refine⟨(A,O,j+1,_),⟨hAO,hlt,hnn⟩,by show l.length-(j+1)<l.length-j;omega, ?_⟩;dsimp only;exact aJ
 obtain rfl:j=l.length:=by simp at g4;omega
 refine cX ?_;refine xT ?_;refine jU ?_;refine qV ?_;refine AJ ?_;refine oJ ?_;refine aB rfl (fun g26=> ?_) (fun g26=> ?_)
 ·refine xE ?_;refine bP 2 298 3 (by decide) rfl (by decide) (bN fun q2 hq2=> ?_);repeat rcases hq2 with⟨_,hq2⟩
  have hN:gF (dA l)=none:=by replace g26:=bT g26;unfold gF;split;rfl;(rw[hol,hrun];cases opn with|nil=>(exfalso;simp at g26;omega)|cons z zs=>rfl)
  refine aI ?_;apply aD;exact aE
  ·exact oA hN
  ·exact aA
 have hN:gF (dA l)=some all:=by replace g26:=bT g26;unfold gF;rw[hol,hrun,if_neg (by omega)];cases opn with|nil=>rfl|cons z zs=>simp at g26
 refine cX ?_;refine jF ?_;apply aD;exact aE
 ·simp only[UQ,wT,hN,Option.getD_some,Option.isSome_some];exact⟨a,rfl,rfl⟩
 ·exact aA
end Go.Proofs.YtjpdadobblffmaaGreat
namespace Go.Proofs.YtjpdadobblffmaaGreat
open Go.RowKit Go.ChangeShapes Go.WideShapes Go.ChangeAt Go.Deep
def iK (l:List Ins):List Nat:=l.flatMap gE++ [11]
def dN (d:Int) (op:Int):Int:=if(op==11)=true then d-1 else if uG op=true then d+1 else d
def OV (b:List Nat):Nat→Nat→Int→List Ins→List Ins×Nat×Int
 |0,_,_,_=>([],0,4)
 |f+1,k,d,l=>
  if((fB (b.drop k)).2.2 !=0)=true then([],0,(fB (b.drop k)).2.2)
  else if dN d (fB (b.drop k)).1.op<0 then(if wT (dA l)=true then(l,k+(fB (b.drop k)).2.1,0)else([],0,1))
  else OV b f (k+(fB (b.drop k)).2.1) (dN d (fB (b.drop k)).1.op) (l++ [(fB (b.drop k)).1])
def lH (b:List Nat):List Ins×Nat×Int:=OV b 301 0 0 []
theorem aGF{d op:Int}(hd:0≤d):dN d op<0↔((op==11)=true∧d=0):=by
 unfold dN;split
 ·next h=>constructor;intro h2;exact⟨h,by omega⟩;intro h2;omega
 ·next h=>
  constructor
  ·intro h2;split at h2<;>omega
  ·intro h2;exact absurd h2.1 h
theorem UR(b:List Nat):∀(f k:Nat) (d:Int) (l:List Ins),(OV b f k d l).2.2≠0→(OV b f k d l).1=[]∧(OV b f k d l).2.1=0
 |0,k,d,l=>fun _=>⟨rfl,rfl⟩
 |f+1,k,d,l=>by
  rw[OV];split
  ·exact fun _=>⟨rfl,rfl⟩
  split
  ·split
   ·exact fun h=>absurd rfl h
   ·exact fun _=>⟨rfl,rfl⟩
  ·exact UR b f _ _ _
theorem aAU(b:List Nat)(h:(lH b).2.2≠0):(lH b).1=[]∧(lH b).2.1=0:=UR _ _ _ _ _ h
theorem aGG{x:Ins}(hx:x.Ok)(hm:cT x=true)(h:x.op=11):x=⟨11,0,0,[]⟩:=by
 have f17:=aFm hm (by rw[h];rfl);have fb:=aFn hm (by rw[h];decide);have fl:=aFo hm (by rw[h];decide);obtain⟨op,a,c,L⟩:=x;dsimp only at h f17 fb fl;subst h f17 fb fl;rfl
theorem Sp.of_drop {b p:List Nat}{k n:Nat}(hk:k≤b.length)(h:Sp (b.drop k) 0 n p):Sp b k (k+n) p:=by
 obtain⟨h1,h2,h3⟩:=h;rw[List.drop_zero,List.drop_drop]at h1;rw[List.length_drop]at h3;exact⟨h1,by omega,by omega⟩
theorem JE{b:List Nat}(hb:∀x∈b,x<256):∀(f k:Nat) (d:Int) (l:List Ins),0≤d→(OV b f k d l).2.2=0→Sp b 0 k (l.flatMap gE)→(∀x∈l,x.Ok∧cT x=true)→
  wT (dA (OV b f k d l).1)=true∧Sp b 0 (OV b f k d l).2.1 (iK (OV b f k d l).1)∧∀x∈(OV b f k d l).1,x.Ok∧cT x=true
 |0,k,d,l=>fun _ h=>by cases h
 |f+1,k,d,l=>by
  intro hd h hs hl;rw[OV]at h⊢;by_cases h1:((fB (b.drop k)).2.2 !=0)=true
  ·rw[if_pos h1]at h;rw[show(fB (b.drop k)).2.2=0 from h]at h1;simp at h1
  rw[if_neg h1]at h⊢;have he:(fB (b.drop k)).2.2=0:=by simpa using h1
  obtain⟨ho,hm,hsp⟩:=yA (fun x hx=>hb x (List.mem_of_mem_drop hx)) he;have hsp:=Sp.of_drop hs.2.2 hsp;by_cases h2:dN d (fB (b.drop k)).1.op<0
  ·rw[if_pos h2]at h⊢;by_cases h3:wT (dA l)=true
   ·rw[if_pos h3]at h⊢;refine⟨h3, ?_,hl⟩;have h11:=((aGF hd).1 h2).1;rw[aGG ho hm (by simpa using h11)]at hsp;exact hs.trans hsp
   ·rw[if_neg h3]at h;cases h
  ·rw[if_neg h2]at h⊢;refine JE hb f _ _ _ (by omega) h ?_ ?_
   ·rw[List.flatMap_append];simpa using hs.trans hsp
   ·intro x hx;rcases List.mem_append.1 hx with hx|hx
    ·exact hl x hx
    ·rw[List.mem_singleton.1 hx];exact⟨ho,hm⟩
theorem SF{b:List Nat}(hb:∀x∈b,x<256)(h:(lH b).2.2=0):wT (dA (lH b).1)=true∧Sp b 0 (lH b).2.1 (iK (lH b).1)∧∀x∈(lH b).1,x.Ok∧cT x=true:=
 JE hb 301 0 0 [] (Int.le_refl 0) h (Sp.nil (Nat.zero_le _)) (by simp)
theorem LN{ops:List Int}(h:wT ops=true):ops.length≤300:=by
 unfold wT gF at h;split at h
 ·cases h
 ·omega
theorem US{ops:List Int}(h:wT ops=true):∃all,pH ops ops.length=some ⟨all,[]⟩:=by
 unfold wT gF at h;split at h
 ·cases h
 ·split at h
  ·next all h2=>exact⟨all,h2⟩
  ·cases h
theorem aGH{ops:List Int}(h:wT ops=true){j:Nat}(hj:j≤ops.length):∃s,pH ops j=some s:=by
 obtain⟨all,h⟩:=US h;cases hs:pH ops j with
 |some s=>exact⟨s,rfl⟩
 |none=>
  have:=AN hs (ops.length-j);rw[Nat.add_sub_cancel' hj,h]at this;cases this
theorem aDm{ops:List Int}{s s':MS}{i:Nat}{op:Int}(h:oL ops s i op=some s'):(s'.opn.length:Int)=dN s.opn.length op:=by
 unfold oL at h;unfold dN;split at h
 ·next ho=>
  split at h
  ·cases h
  ·obtain rfl:=Option.some.inj h;rw[if_neg (by unfold uG at ho;simp at ho⊢;omega),if_pos ho];simp
 next ho=>
 split at h
 ·next h5=>
  obtain rfl:=Option.some.inj h;rw[if_neg (by simpa using h5.2),if_neg ho]
 next h5=>
 unfold CI at h;split at h
 ·cases h
 next k hk=>
 split at h
 ·cases h
 split at h
 ·next h11=>
  obtain rfl:=Option.some.inj h;have:s.opn≠ []:=by intro h0;rw[h0]at hk;cases hk
  have:=List.length_pos_iff.2 this;rw[if_pos (by simpa using h11)];simp;omega
 next h11=>
 split at h
 ·cases h
 ·obtain rfl:=Option.some.inj h;rw[if_neg (by simpa using h11),if_neg ho]
theorem aAV{l:List Ins}(hl:∀x∈l,x.Ok∧cT x=true)(hok:wT (dA l)=true)(r:List Nat):∀(m j:Nat) (s:MS) (f:Nat),m+j=l.length→m<f→pH (dA l) j=some s→
  OV (iK l++r) f ((l.take j).flatMap gE).length s.opn.length (l.take j)=(l,(iK l).length,0):=by
 have hol:(dA l).length=l.length:=by simp[dA]
 have hdrop:∀j,(iK l++r).drop ((l.take j).flatMap gE).length=(l.drop j).flatMap gE++(11::r):=by
  intro j;have:iK l++r=(l.take j).flatMap gE++((l.drop j).flatMap gE++(11::r)):=by
   unfold iK
   conv=>lhs;rw[←List.take_append_drop j l,List.flatMap_append]
   simp
  rw[this,List.drop_left]
 intro m
 induction m with
 |zero=>
  intro j s f hj hf hs;obtain⟨f,rfl⟩:∃g,f=g+1:=⟨f-1,by omega⟩
  obtain rfl:j=l.length:=by omega
  obtain⟨all,ha⟩:=US hok;rw[hol,hs]at ha;obtain rfl:=Option.some.inj ha;have hg:fB ((iK l++r).drop ((l.take l.length).flatMap gE).length)=(⟨11,0,0,[]⟩,1,0):=by
   rw[hdrop,List.drop_length];exact LF (x:=⟨11,0,0,[]⟩) ⟨by decide,by decide,by decide,by decide,by decide⟩ (by decide) r
  rw[OV,hg,if_neg (by decide),if_pos (show dN (([]:List Nat).length:Nat) 11<0 by decide),List.take_length,if_pos hok];simp[iK]
 |succ m ih=>
  intro j s f hj hf hs;obtain⟨f,rfl⟩:∃g,f=g+1:=⟨f-1,by omega⟩
  have hlt:j<l.length:=by omega
  obtain⟨x,hx⟩:∃x,l[j]? =some x:=⟨_,List.getElem?_eq_getElem hlt⟩
  obtain⟨hxo,hxm⟩:=hl x (List.mem_of_getElem? hx);have hg:fB ((iK l++r).drop ((l.take j).flatMap gE).length)=(x,(gE x).length,0):=by
   rw[hdrop,List.drop_eq_getElem_cons hlt,(List.getElem?_eq_some_iff.1 hx).2,List.flatMap_cons,List.append_assoc];exact LF hxo hxm _
  obtain⟨s',hs'⟩:=aGH hok (j:=j+1) (by omega);have hst:=wA hs (vD hx);rw[hs']at hst;have hd:=aDm hst.symm;have ht:l.take (j+1)=l.take j++ [x]:=by rw[List.take_add_one,hx];rfl
  have hn:=ih (j+1) s' f (by omega) (by omega) hs';rw[OV,hg,if_neg (by simp)];dsimp only;rw[←hd,if_neg (by omega),←ht,←hn,ht,List.flatMap_append];simp
theorem XM{l:List Ins}(hl:∀x∈l,x.Ok∧cT x=true)(hok:wT (dA l)=true)(r:List Nat):lH (iK l++r)=(l,(iK l).length,0):=by
 have:=LN hok;have hol:(dA l).length=l.length:=by simp[dA]
 exact aAV hl hok r l.length 0 ⟨[],[]⟩ 301 (by omega) (by omega) rfl
end Go.Proofs.YtjpdadobblffmaaGreat
namespace Go.Proofs.YtjpdadobblffmaaGreat
open Go.RowKit Go.ChangeShapes Go.WideShapes Go.ChangeAt Go.Deep
attribute [local irreducible] SW RS RD fF eB
theorem OW{b:List Nat}{k:Nat}:List.take ((b.map aG).length-k) (List.drop k (b.map aG))=(b.drop k).map aG:=by
 rw[List.map_drop];exact List.take_of_length_le (by simp)
def pJ (l:List Ins) (j:Nat):List Nat:=(l.take j).flatMap gE
theorem UT{l:List Ins}{j:Nat}{x:Ins}(h:l[j]? =some x):pJ l (j+1)=pJ l j++gE x:=by
 unfold pJ;rw[List.take_add_one,h,List.flatMap_append];simp
theorem SG{l:List Ins}(hm:∀x∈l,x.Ok∧cT x=true)(j:Nat):(pJ l j).length≤200*l.length:=by
 have h1:(pJ l j).length≤200*(l.take j).length:=zC fun x hx=>hm x (List.mem_of_mem_take hx)
 have:(l.take j).length≤l.length:=by simp;omega
 omega
theorem SH{l:List Ins}:pJ l l.length++ [11]=iK l:=by unfold pJ iK;rw[List.take_length]
theorem zG{l:List Ins}(hm:∀x∈l,x.Ok∧cT x=true):(iK l).length≤200*l.length+1:=by
 rw[←SH];have:=SG hm l.length;simp;omega
theorem aDn{l:List Ins}(hm:∀x∈l,x.Ok∧cT x=true):∀b∈iK l,b<256:=by
 intro b hb;rcases List.mem_append.1 hb with hb|hb
 ·exact OT hm b hb
 ·rw[List.mem_singleton.1 hb];decide
theorem OX(q:Nat)(vs:List Nat)(hvs:vs.length≤20000000)(l:List Ins)(hl:l.length≤310)(hm:∀x∈l,x.Ok∧cT x=true):SCall Tryz.prog 248 [.own q 0 vs.length,.ro 4 (l.map (iv .any)) .any] [(q,.arr 5 1 (vs.map aG))]
  (fun y σ=>∃r,y=.own r 0 (vs++iK l).length∧σ=[(r,.arr 5 1 ((vs++iK l).map aG))]):=by
 refine bS 20 [0,1,4,6,7,8,9,10] Tryz.func248 ?_;refine rK ?_;refine lp (β:=Nat×Nat) (fun b=>⟨[(0,.own b.1 0 (vs++pJ l b.2).length),(7,.ro 4 (l.map (iv .any)) .any),(8,.int .i64 l.length),(9,.int .i64 b.2)],[(b.1,.arr 5 1 ((vs++pJ l b.2).map aG))]⟩) (fun b=>b.2≤l.length) (fun b=>l.length-b.2) (q,0) (by dsimp only;rw[show vs++pJ l 0=vs by simp[pJ]];(exact aJ)) (Nat.zero_le _) ?_;rintro⟨q1,j⟩ hj;have hpl:=SG hm j;dsimp only at hj⊢;refine gA ?_;refine aB rfl (fun g2=> ?_) (fun g2=> ?_)
 ·have hlt:j<l.length:=by simp at g2;omega
  obtain⟨x,hx⟩:∃x,l[j]? =some x:=⟨_,List.getElem?_eq_getElem hlt⟩
  obtain⟨hxo,hxm⟩:=hm x (List.mem_of_getElem? hx);have hnx:=UT hx;refine pB ?_;refine iO fun r6 h6=> ?_;intros
  refine mT ?_;refine kP ?_;refine cw [(q1,.arr 5 1 ((vs++pJ l j).map aG))] Tryz.call242 (AM q1 (vs++pJ l j) (by simp;omega) .any x hxo hxm) rfl aC aA ?_;rintro _ σ' ⟨r15,rfl,rfl⟩ h15;have k15:=aV h15;repeat rcases k15 with⟨_,k15⟩
  refine tJ ?_;refine⟨(r15,j+1),hlt,by show l.length-(j+1)<l.length-j;omega, ?_⟩;dsimp only;rw[hnx,←List.append_assoc];exact aJ
 obtain rfl:j=l.length:=by simp at g2;omega
 refine cX ?_;refine eC fun r18 h18=> ?_;intros
 refine jQ (((vs++pJ l l.length)++ [11]).map aG) ((vs++pJ l l.length)++ [11]).length ?_;refine bE fun r19 h19=> ?_;intros
 refine cM ?_;rw[List.append_assoc,SH];exact aD aE ⟨r19,by rfl,rfl⟩ aA
theorem OY(l:List Ins)(hl:l.length≤310)(hm:∀x∈l,x.Ok∧cT x=true):SCall Tryz.prog 256 [.ro 4 (l.map (iv .any)) .any] []
  (fun y σ=>∃r,y=.own r 0 (iK l).length∧σ=[(r,.arr 5 1 ((iK l).map aG))]):=by
 refine bS 21 [0,2,3,4,8] Tryz.func256 ?_;refine qK ?_;refine iX ?_;refine cM ?_;refine bP 3 5 1 (by decide) rfl (by decide) (bN fun q0 hq0=> ?_);repeat rcases hq0 with⟨_,hq0⟩
 refine lp (β:=Nat×Nat) (fun b=>⟨[(0,.ro 4 (l.map (iv .any)) .any),(3,.own b.1 0 (pJ l b.2).length),(4,.int .i64 b.2)],[(b.1,.arr 5 1 ((pJ l b.2).map aG))]⟩) (fun b=>b.2≤l.length) (fun b=>l.length-b.2) (q0,0) aJ (Nat.zero_le _) ?_;rintro⟨q1,j⟩ hj;have hpl:=SG hm j;dsimp only at hj⊢;refine nF ?_;refine nP ?_;refine aB rfl (fun g3=> ?_) (fun g3=> ?_)
 ·have hlt:j<l.length:=by simp at g3;omega
  obtain⟨x,hx⟩:∃x,l[j]? =some x:=⟨_,List.getElem?_eq_getElem hlt⟩
  obtain⟨hxo,hxm⟩:=hm x (List.mem_of_getElem? hx);have hnx:=UT hx;have hpx:=vB hxo hxm;refine dG ?_;refine oG ?_;refine qN Tryz.call253 (sO .any x hxo hxm) rfl bM kA ?_;rintro _ σ' ⟨r16,rfl,rfl⟩ h16
  replace h16:=cB h16;repeat rcases h16 with⟨_,h16⟩
  apply aU;exact bD;refine jQ ((pJ l j++gE x).map aG) (pJ l j++gE x).length ?_;refine bE fun r17 h17=> ?_;intros
  refine gZ ?_;refine DS ?_;refine⟨(r17,j+1),hlt,by show l.length-(j+1)<l.length-j;omega, ?_⟩;dsimp only;rw[hnx];exact aJ
 obtain rfl:j=l.length:=by simp at g3;omega
 refine cX ?_;refine eC fun r19 h19=> ?_;intros
 refine jQ ((pJ l l.length++ [11]).map aG) (pJ l l.length++ [11]).length ?_;refine bE fun r20 h20=> ?_;intros
 refine cM ?_;rw[SH];exact aD aE ⟨r20,by rfl,rfl⟩ aA
instance : DecidableEq Ins := fun x y => if h : eqN x y = true then .isTrue (LI.1 h) else .isFalse fun e => h (LI.2 e)
theorem aAW(b:List Nat)(hb:b.length≤1000000)(hlt:∀x∈b,x<256):SCall Tryz.prog 266 [.ro 1 (b.map aG) .any] []
  (fun y σ=>∃q,y=.tup [.own q 0 (lH b).1.length,.int .i64 ((lH b).2.1:Nat),.int .i64 (lH b).2.2]∧σ=[(q,.arr 46 4 ((lH b).1.map (iv .any)))]):=by
 refine bS 55 [0,2,3,4,5,6,7,8,9,10,12,22,29,34,38,45,54] Tryz.func266 ?_;refine cZ ?_;refine oF ?_;refine mJ ?_;refine iX ?_;refine iX ?_;refine cM ?_;refine bP 5 46 4 (by decide) rfl (by decide) (bN fun q0 hq0=> ?_);repeat rcases hq0 with⟨_,hq0⟩
 refine lp (β:=Nat×Nat×Int×Nat×List Ins) (fun b'=>⟨[(0,.ro 1 (b.map aG) .any),(5,.own b'.1 0 b'.2.2.2.2.length),(6,.int .i64 b'.2.2.1),(7,.int .i64 b'.2.1)],[(b'.1,.arr 46 4 (b'.2.2.2.2.map (iv .any)))]⟩) (fun b'=>b'.2.1≤b.length∧0≤b'.2.2.1∧b'.2.2.1≤b'.2.2.2.2.length∧b'.2.2.2.1+b'.2.2.2.2.length=301∧1≤b'.2.2.2.1∧lH b=OV b b'.2.2.2.1 b'.2.1 b'.2.2.1 b'.2.2.2.2) (fun b'=>b'.2.2.2.1) (q0,0,0,301,[]) aJ ⟨Nat.zero_le _,Int.le_refl 0,Int.le_refl 0,rfl,by show 1≤301;decide,rfl⟩ ?_;rintro⟨q,k,d,f,l⟩ ⟨hk,hd0,hdl,hfl,hf1,hG⟩;dsimp only at hk hd0 hdl hfl hf1 hG⊢;obtain⟨f,rfl⟩:∃g,f=g+1:=⟨f-1,by omega⟩
 have hlt2:∀x∈b.drop k,x<256:=fun x hx=>hlt x (List.mem_of_mem_drop hx)
 have hsnd:=yA hlt2;rw[OV]at hG;refine dG ?_;refine aCU ?_;rw[OW];refine cw [] Tryz.call298 (JD (b.drop k) (by simp;omega) hlt2) rfl aC aA ?_;rintro _ σ' ⟨q3,rfl,rfl⟩ h17
 replace h17:=fY h17;repeat rcases h17 with⟨_,h17⟩
 apply aU;exact bD;generalize fB (b.drop k)=gp at hG hsnd⊢;obtain⟨x,n,e⟩:=gp;dsimp only at hG hsnd⊢;refine sK ?_;refine lo (eN (E rfl) rfl) rfl ?_;refine iO fun r8 h8=> ?_;intros
 apply MZ;rfl;rfl;rfl;rfl;exact mP;refine nS ?_;refine qH ?_;refine aB rfl (fun g5=> ?_) (fun g5=> ?_)
 ·refine cX ?_;refine DW ?_;refine bP 2 46 4 (by decide) rfl (by decide) (bN fun q2 hq2=> ?_);repeat rcases hq2 with⟨_,hq2⟩
  have hE:lH b=([],0,e):=by rw[hG,if_pos g5]
  refine aI ?_;exact aD aE ⟨q2,by rw[hE];rfl,by rw[hE]⟩ aA
 rw[if_neg (by simp[g5])]at hG;obtain⟨hxo,hxm,hsp⟩:=hsnd (by simpa using g5);have hkn:k+n≤b.length:=by have:=hsp.2.2;simp at this;omega
 refine dG ?_;refine NR ?_;refine iJ ?_;refine xR ?_;refine aB rfl (fun g8=> ?_) (fun g8=> ?_)
 ·have hD:dN d x.op=d-1:=by unfold dN;rw[if_pos g8]
  refine cX ?_;refine tF ?_;refine gZ ?_;refine nP ?_;refine aB rfl (fun g12=> ?_) (fun g12=> ?_)
  ·rw[if_pos (by rw[hD];simpa using g12)]at hG;refine cX ?_;refine qN Tryz.call75 (lZ l (by omega)) rfl bM kA ?_;rintro _ σ' ⟨q4,rfl,rfl⟩ h41
   replace h41:=cB h41;repeat rcases h41 with⟨_,h41⟩
   refine nE ?_;refine nS ?_;refine nQ ?_;refine aB rfl (fun g14=> ?_) (fun g14=> ?_)
   ·refine cZ ?_;refine DW ?_;refine bP 2 46 4 (by decide) rfl (by decide) (bN fun q2 hq2=> ?_);repeat rcases hq2 with⟨_,hq2⟩
    have hE:lH b=([],0,1):=by rw[hG,if_neg];intro h;rw[h]at g14;cases g14
    refine aI ?_;exact aD aE ⟨q2,by rw[hE];rfl,by rw[hE]⟩ aA
   refine dG ?_;refine oF ?_;have hE:lH b=(l,k+n,0):=by rw[hG,if_pos];cases h:wT (dA l);rw[h]at g14;cases g14;rfl
   exact aD aE ⟨q,by rw[hE];rfl,by rw[hE]⟩ aA
  rw[if_neg (by rw[hD];simpa using g12)]at hG;refine aI ?_;refine dZ (kT (r:=r8) (q:=q3) cE bK (.cons (.refl _) (.cons (.refl _) (.cons (.refl _) (.cons (aN bC (by simp)) .nil))))) ?_;refine fV ?_;refine kP ?_;refine eC fun r50 h50=> ?_;intros
  refine jQ ((l++ [x]).map (iv .any)) (l++ [x]).length ?_;refine bE fun r51 h51=> ?_;intros
  refine gZ ?_;refine xT ?_;refine iI ?_;refine aB rfl (fun g18=> ?_) (fun g18=> ?_)
  ·refine cZ ?_;refine DW ?_;refine bP 2 46 4 (by decide) rfl (by decide) (bN fun q2 hq2=> ?_);repeat rcases hq2 with⟨_,hq2⟩
   have hE:lH b=([],0,4):=by obtain rfl:f=0:=(by simp at g18;omega);rw[hG];rfl
   refine aI ?_;exact aD aE ⟨q2,by rw[hE];rfl,by rw[hE]⟩ aA
  refine aI ?_;have hf0:l.length+1≤300:=by simp at g18;omega
  refine⟨(r51,k+n,dN d x.op,f,l++ [x]),⟨hkn,by show 0≤dN d x.op;rw[hD];simp at g12;omega,by show dN d x.op≤((l++ [x]).length:Nat);rw[hD];simp;omega,by show f+(l++ [x]).length=301;simp;omega,by show 1≤f;omega,hG⟩,Nat.lt_succ_self _, ?_⟩;dsimp only;rw[hD];exact aJ
 refine fT ?_;refine lB Tryz.call186 (yB _) rfl aP aS ?_;refine iI ?_;refine aB rfl (fun g10=> ?_) (fun g10=> ?_)
 ·have hD:dN d x.op=d+1:=by unfold dN;rw[if_neg (by simp[g8]),if_pos g10]
  refine lJ ?_;refine fV ?_;refine nP ?_;refine aB rfl (fun g12=> ?_) (fun g12=> ?_)
  ·rw[if_pos (by rw[hD];simpa using g12)]at hG;refine cX ?_;refine qN Tryz.call75 (lZ l (by omega)) rfl bM kA ?_;rintro _ σ' ⟨q4,rfl,rfl⟩ h41
   replace h41:=cB h41;repeat rcases h41 with⟨_,h41⟩
   refine nE ?_;refine nS ?_;refine nQ ?_;refine aB rfl (fun g14=> ?_) (fun g14=> ?_)
   ·refine cZ ?_;refine DW ?_;refine bP 2 46 4 (by decide) rfl (by decide) (bN fun q2 hq2=> ?_);repeat rcases hq2 with⟨_,hq2⟩
    have hE:lH b=([],0,1):=by rw[hG,if_neg];intro h;rw[h]at g14;cases g14
    refine aI ?_;exact aD aE ⟨q2,by rw[hE];rfl,by rw[hE]⟩ aA
   refine dG ?_;refine oF ?_;have hE:lH b=(l,k+n,0):=by rw[hG,if_pos];cases h:wT (dA l);rw[h]at g14;cases g14;rfl
   exact aD aE ⟨q,by rw[hE];rfl,by rw[hE]⟩ aA
  rw[if_neg (by rw[hD];simpa using g12)]at hG;refine aI ?_;refine dZ (kT (r:=r8) (q:=q3) cE bK (.cons (.refl _) (.cons (.refl _) (.cons (.refl _) (.cons (aN bC (by simp)) .nil))))) ?_;refine fV ?_;refine kP ?_;refine z1 ?_;refine bN fun r50 h50=> ?_;repeat rcases h50 with⟨_,h50⟩
  refine jQ ((l++ [x]).map (iv .any)) (l++ [x]).length ?_;refine bE fun r51 h51=> ?_;intros
  refine gZ ?_;refine xT ?_;refine iI ?_;refine aB rfl (fun g18=> ?_) (fun g18=> ?_)
  ·refine cZ ?_;refine DW ?_;refine bP 2 46 4 (by decide) rfl (by decide) (bN fun q2 hq2=> ?_);repeat rcases hq2 with⟨_,hq2⟩
   have hE:lH b=([],0,4):=by obtain rfl:f=0:=(by simp at g18;omega);rw[hG];rfl
   refine aI ?_;exact aD aE ⟨q2,by rw[hE];rfl,by rw[hE]⟩ aA
  refine aI ?_;have hf0:l.length+1≤300:=by simp at g18;omega
  refine⟨(r51,k+n,dN d x.op,f,l++ [x]),⟨hkn,by show 0≤dN d x.op;rw[hD];simp at g12;omega,by show dN d x.op≤((l++ [x]).length:Nat);rw[hD];simp;omega,by show f+(l++ [x]).length=301;simp;omega,by show 1≤f;omega,hG⟩,Nat.lt_succ_self _, ?_⟩;dsimp only;rw[hD];exact aJ
 have hD:dN d x.op=d:=by unfold dN;rw[if_neg (by simp[g8]),if_neg (by simp[g10])]
 refine cX ?_;refine nP ?_;refine aB rfl (fun g12=> ?_) (fun g12=> ?_)
 ·rw[if_pos (by rw[hD];simpa using g12)]at hG;refine cX ?_;refine qN Tryz.call75 (lZ l (by omega)) rfl bM kA ?_;rintro _ σ' ⟨q4,rfl,rfl⟩ h41
  replace h41:=cB h41;repeat rcases h41 with⟨_,h41⟩
  refine nE ?_;refine nS ?_;refine nQ ?_;refine aB rfl (fun g14=> ?_) (fun g14=> ?_)
  ·refine cZ ?_;refine DW ?_;refine bP 2 46 4 (by decide) rfl (by decide) (bN fun q2 hq2=> ?_);repeat rcases hq2 with⟨_,hq2⟩
   have hE:lH b=([],0,1):=by rw[hG,if_neg];intro h;rw[h]at g14;cases g14
   refine aI ?_;exact aD aE ⟨q2,by rw[hE];rfl,by rw[hE]⟩ aA
  refine dG ?_;refine oF ?_;have hE:lH b=(l,k+n,0):=by rw[hG,if_pos];cases h:wT (dA l);rw[h]at g14;cases g14;rfl
  exact aD aE ⟨q,by rw[hE];rfl,by rw[hE]⟩ aA
 rw[if_neg (by rw[hD];simpa using g12)]at hG;refine aI ?_;refine dZ (kT (r:=r8) (q:=q3) cE bK (.cons (.refl _) (.cons (.refl _) (.cons (.refl _) (.cons (aN bC (by simp)) .nil))))) ?_;refine fV ?_;refine kP ?_;refine z1 ?_;refine bN fun r50 h50=> ?_;repeat rcases h50 with⟨_,h50⟩
 refine jQ ((l++ [x]).map (iv .any)) (l++ [x]).length ?_;refine bE fun r51 h51=> ?_;intros
 refine gZ ?_;refine xT ?_;refine iI ?_;refine aB rfl (fun g18=> ?_) (fun g18=> ?_)
 ·refine cZ ?_;refine DW ?_;refine bP 2 46 4 (by decide) rfl (by decide) (bN fun q2 hq2=> ?_);repeat rcases hq2 with⟨_,hq2⟩
  have hE:lH b=([],0,4):=by obtain rfl:f=0:=(by simp at g18;omega);rw[hG];rfl
  refine aI ?_;exact aD aE ⟨q2,by rw[hE];rfl,by rw[hE]⟩ aA
 refine aI ?_;have hf0:l.length+1≤300:=by simp at g18;omega
 refine⟨(r51,k+n,dN d x.op,f,l++ [x]),⟨hkn,by show 0≤dN d x.op;rw[hD];simp at g12;omega,by show dN d x.op≤((l++ [x]).length:Nat);rw[hD];simp;omega,by show f+(l++ [x]).length=301;simp;omega,by show 1≤f;omega,hG⟩,Nat.lt_succ_self _, ?_⟩;dsimp only;rw[hD];exact aJ
end Go.Proofs.YtjpdadobblffmaaGreat
namespace Go.Proofs.YtjpdadobblffmaaGreat
open Go.RowKit Go.ChangeShapes Go.WideShapes Go.ChangeAt Go.Deep
theorem VLe.ro {sz:Nat}{es es':List (List AV)}{k:Rk}(hl:es.length=es'.length)(hs:iH sz es')
  (h:∀(i:Nat) (e e':List AV),es[i]? =some e→es'[i]? =some e'→e.length=e'.length∧∀(j:Nat) (a a':AV),e[j]? =some a→e'[j]? =some a'→VLe a a'):VLe (.ro sz es k) (.ro sz es' k):=fun M F w v hv=>by
 have hx:∀(i:Nat) (e':List AV),es'[i]? =some e'→∃e,es[i]? =some e:=fun i e' h=>⟨_,List.getElem?_eq_getElem (by have:=(List.getElem?_eq_some_iff.1 h).1;omega)⟩
 have hy:∀(i:Nat) (e':List AV) (j:Nat) (a':AV),es'[i]? =some e'→e'[j]? =some a'→∃e a,es[i]? =some e∧e[j]? =some a∧VLe a a':=fun i e' j a' h1 h2=>by
  obtain⟨e,he⟩:=hx i e' h1;obtain⟨g1,g2⟩:=h i e e' he h1;have hj:=(List.getElem?_eq_some_iff.1 h2).1;have ha:e[j]? =some (e[j]'(by omega)):=List.getElem?_eq_getElem (by omega);exact⟨e,_,he,ha,g2 j _ a' ha h2⟩
 cases hv with
 |ro hb hs' hc hr hle hm hf hn=>
  rw[hl];rw[hl]at hle hf
  rename_i b o cap us
  refine .ro (us:=us) hb hs (fun i e' j a' h1 h2=> ?_) (fun i e' j a' h1 h2=> ?_) hle hm hf hn
  ·obtain⟨e,a,he,ha,-⟩:=hy i e' j a' h1 h2;exact hc i e j a he ha
  ·obtain⟨e,a,he,ha,hv⟩:=hy i e' j a' h1 h2;exact hv _ _ _ _ (hr i e j a he ha)
 |ro0 hm hA hf hn=>
  obtain rfl:es'=[]:=List.length_eq_zero_iff.1 hl.symm;exact .ro0 hm hA hf hn
structure FT where
 pr:List Int
 rs:List Int
structure Im where
 mod:List Nat
 nm:List Nat
 ty:Int
structure Gl where
 mu:Bool
 kd:Int
 n:Int
structure Ex where
 nm:List Nat
 fn:Int
structure El where
 off:Int
 fs:List Int
structure Co where
 ls:List Int
 bd:List Ins
structure Da where
 off:Int
 bs:List Nat
structure Li where
 has:Bool
 mn:Int
 mx:Int
structure Md where
 ty:List FT
 im:List Im
 fn:List Int
 tb:Li
 me:Li
 gl:List Gl
 ex:List Ex
 el:List El
 co:List Co
 da:List Da
def HR:Li:=⟨false,0,0⟩
def md0:Md:=⟨[],[],[],HR,HR,[],[],[],[],[]⟩
def dF (x:FT):List AV:=[.ro 1 (x.pr.map aK) .any,.ro 1 (x.rs.map aK) .any]
def eT (x:Im):List AV:=[.str (dI x.mod),.str (dI x.nm),.int .i64 x.ty]
def eU (x:Gl):List AV:=[.bool x.mu,.int .i64 x.kd,.int .i64 x.n]
def eA (x:Ex):List AV:=[.str (dI x.nm),.int .i64 x.fn]
def eQ (x:El):List AV:=[.int .i64 x.off,.ro 1 (x.fs.map aK) .any]
def dJ (x:Co):List AV:=[.ro 1 (x.ls.map aK) .any,.ro 4 (x.bd.map (iv .any)) .any]
def eO (x:Da):List AV:=[.int .i64 x.off,.ro 1 (x.bs.map aG) .any]
def gO (x:Li):List AV:=[.bool x.has,.int .i64 x.mn,.int .i64 x.mx]
def aZ (m:Md):List AV:=[.ro 2 (m.ty.map dF) .any,.ro 3 (m.im.map eT) .any,.ro 1 (m.fn.map aK) .any,.bool m.tb.has,.int .i64 m.tb.mn,.int .i64 m.tb.mx,.bool m.me.has,.int .i64 m.me.mn,.int .i64 m.me.mx,
 .ro 3 (m.gl.map eU) .any,.ro 2 (m.ex.map eA) .any,.ro 2 (m.el.map eQ) .any,.ro 2 (m.co.map dJ) .any,.ro 2 (m.da.map eO) .any]
def aY {α:Type} (l:List α) (pt:α→List Nat):List Nat:=uB l.length++l.flatMap pt
def bI (s:List Nat):List Nat:=uB s.length++s
def kB (k:Int):List Nat:=if(k==1)=true then [127]else [126]
def cC (n:Int):List Nat:=uB n.toNat
def mA (k n:Int):List Nat:=gE ⟨if(k==2)=true then 66 else 65,n,0,[]⟩++ [11]
def qB (n:Int):List Nat:=0::mA 1 n
def dW (l:Li):List Nat:=if decide (l.mx<0)=true then 0::cC l.mn else 1::(cC l.mn++cC l.mx)
def bY:List Int→List (List Int):=fun l=>l.foldl (fun r k=>match r.getLast? with
 |some (x::xs)=>if x==k then r.dropLast++ [(x::xs)++ [k]]else r++ [[k]]
 | _=>r++ [[k]]) []
def gW (r:List Int):List Nat:=cC r.length++kB (r.headD 0)
def kC (c:Co):List Nat:=uB (aY (bY c.ls) gW++iK c.bd).length++(aY (bY c.ls) gW++iK c.bd)
def bB {α:Type} (no:Nat) (l:List α) (pt:α→List Nat):List Nat:=if l.isEmpty then []else no::(uB (aY l pt).length++aY l pt)
def vE (t:FT):List Nat:=96::(aY t.pr kB++aY t.rs kB)
def iQ (x:Im):List Nat:=bI x.mod++bI x.nm++ [0]++cC x.ty
def uH (g:Gl):List Nat:=kB g.kd++ [if g.mu then 1 else 0]++mA g.kd g.n
def nC (x:Ex):List Nat:=bI x.nm++ [0]++cC x.fn
def sE (x:El):List Nat:=qB x.off++aY x.fs cC
def tP (x:Da):List Nat:=qB x.off++uB x.bs.length++x.bs
def gK (l:Li):List Li:=if l.has then [l]else []
def headB:List Nat:=[0,97,115,109,1,0,0,0]
def eL (m:Md):List Nat:=headB++bB 1 m.ty vE++bB 2 m.im iQ++bB 3 m.fn cC++bB 4 (gK m.tb) (fun l=>112::dW l)++bB 5 (gK m.me) dW++bB 6 m.gl uH++bB 7 m.ex nC++bB 9 m.el sE++bB 10 m.co kC++bB 11 m.da tP
def gG (n:Int):Bool:=if decide (0≤n)=true then decide (n≤1000)else false
def AG (k:Int):Bool:=if(k==1)=true then true else(k==2)
def tQ (s:List Nat):Bool:=if(s.length !=0)=true then(decide (s.length≤16)&&s.all fun c=>decide (32≤c)&&decide (c≤126))else false
def gI (n:Int):Bool:=decide (-2147483648≤n)&&decide (n≤2147483647)
def kI (l:Li) (least most:Int):Bool:=if l.has then decide (0≤l.mn)&&decide (l.mn≤least)&&decide (-1≤l.mx)&&decide (l.mx≤most)else(l.mn==0&&l.mx==0)
def cF {α:Type} (l:List α) (most:Int) (p:α→Bool):Bool:=decide ((l.length:Int)≤most)&&l.all p
def mK (k n:Int):Bool:=(k==1&&decide (-2147483648≤n)&&decide (n≤2147483647))||(k==2)
def mB (m:Md):Bool:=cF m.ty 16 (fun t=>cF t.pr 32 AG&&cF t.rs 1 AG)&&cF m.im 16 (fun x=>tQ x.mod&&tQ x.nm&&gG x.ty)&&cF m.fn (16-m.im.length) gG&&
 cF m.gl 16 (fun g=>mK g.kd g.n)&&cF m.ex 16 (fun x=>tQ x.nm&&gG x.fn)&&cF m.el 16 (fun x=>gI x.off&&cF x.fs 50 gG)&&cF m.da 16 (fun x=>gI x.off&&decide (x.bs.length≤1000))
def sR (c:Co):Bool:=wT (dA c.bd)&&cF c.ls 32 AG&&cF c.bd 300 cT
def kD (m:Md):Bool:=(m.co.length==m.fn.length&&cF m.co 16 sR)&&mB m&&kI m.tb 16 1000&&kI m.me 16 65536&&decide ((eL m).length≤8000)
theorem EE{k n:Int}(h:mK k n=true)(hn:-9223372036854775808≤n∧n≤9223372036854775807):(⟨if(k==2)=true then 66 else 65,n,0,[]⟩:Ins).Ok∧cT ⟨if(k==2)=true then 66 else 65,n,0,[]⟩=true∧(k=1∨k=2):=by
 unfold mK at h;simp only[Bool.or_eq_true,Bool.and_eq_true,beq_iff_eq,decide_eq_true_eq]at h;rcases h with⟨⟨rfl,h1⟩,h2⟩|rfl
 ·refine⟨⟨by simp,by simp,hn.1,hn.2,by simp⟩, ?_,.inl rfl⟩;rw[if_neg (by decide)];have:bA 65=8:=by decide
  simp[cT,iV,this,jW];omega
 ·refine⟨⟨by simp,by simp,hn.1,hn.2,by simp⟩, ?_,.inr rfl⟩;rw[if_pos (by decide)];have:bA 66=9:=by decide
  simp[cT,iV,this]
structure Ct where
 op:Int
 kd:Int
 ht:Nat
 dd:Bool
structure PS where
 vs:List Int
 cs:List Ct
 bad:Bool
def mF (c:Ct):List AV:=[.int .i64 c.op,.int .i64 c.kd,.int .i64 c.ht,.bool c.dd]
def ct0:Ct:=⟨0,0,0,false⟩
def PS.top (s:PS):Ct:=s.cs.getLast?.getD ct0
def eV (s:PS) (ok:Bool):PS:=⟨s.vs,s.cs,if s.bad=true then true else !ok⟩
def iN (s:PS) (ks:List Int):PS:=⟨s.vs++ks,s.cs,s.bad⟩
def dB (s:PS) (w:Int):Int×PS:=
 if((s.vs.length:Int)==s.top.ht)=true then(w,eV s s.top.dd)
 else if(s.vs.getLast?.getD 0==0)=true then(w,⟨s.vs.dropLast,s.cs,s.bad⟩)
 else(s.vs.getLast?.getD 0,eV ⟨s.vs.dropLast,s.cs,s.bad⟩ (if(w==0)=true then true else(s.vs.getLast?.getD 0==w)))
def fA (s:PS) (ks:List Int):PS:=ks.reverse.foldl (fun s k=>(dB s k).2) s
def dY (k:Int):List Int:=if(k==0)=true then []else [k]
def openP (s:PS) (op kd:Int):PS:=⟨s.vs,s.cs++ [⟨op,kd,s.vs.length,false⟩],s.bad⟩
def nJ (s:PS):PS:=
 let s1:=fA s (dY s.top.kd)
 let s2:=eV s1 ((s1.vs.length:Int)==s.top.ht)
 ⟨s2.vs,s2.cs.dropLast,s2.bad⟩
def pC (s:PS):PS:=⟨s.vs.take s.top.ht,s.cs.dropLast++ [⟨s.top.op,s.top.kd,s.top.ht,true⟩],s.bad⟩
def cU (s:PS) (n:Int):List Int×PS:=
 if decide ((s.cs.length:Int)≤n)=true then([],⟨s.vs,s.cs,true⟩)
 else(if((s.cs.getD (s.cs.length-1-n.toNat) ct0).op==3)=true then []else dY (s.cs.getD (s.cs.length-1-n.toNat) ct0).kd,s)
def AR:FT:=⟨[],[]⟩
def dP (m:Md) (t:Int):FT×Bool:=if(if decide (t<0)=true then true else decide ((m.ty.length:Int)≤t))=true then(AR,false)else(m.ty.getD t.toNat AR,true)
def oM (m:Md) (f:Int):Int:=
 if decide (f<m.im.length)=true then(m.im.getD f.toNat ⟨[],[],0⟩).ty
 else if decide (f-m.im.length<m.fn.length)=true then m.fn.getD (f-m.im.length).toNat 0
 else-1
def sS (s:PS) (t:FT) (ok:Bool):PS:=iN (fA (eV s ok) t.pr) t.rs
def eq1 (a b:List Int):Bool:=if((a.length:Int)==b.length)=true then(if((a.length:Int)==0)=true then true else(a.headD 0==b.headD 0))else false
def AS (w:List Int) (s:PS) (n:Int):PS:=eV (cU s n).2 (eq1 (cU s n).1 w)
def sU (s:PS) (x:Ins):PS:=
 let r:=cU (dB s 1).2 x.a
 pC (fA (x.l.foldl (AS r.1) r.2) r.1)
def cG (m:Md) (s:PS) (x:Ins):Bool×PS:=
 if(x.op==0)=true then(true,pC s)
 else if(x.op==1)=true then(true,s)
 else if(x.op==2||x.op==3)=true then(true,openP s x.op x.a)
 else if(x.op==4)=true then(true,openP (dB s 1).2 x.op x.a)
 else if(x.op==5)=true then(true,openP (nJ s) 5 s.top.kd)
 else if(x.op==11)=true then(true,iN (eV (nJ s) (if(s.top.op !=4)=true then true else(s.top.kd==0))) (dY s.top.kd))
 else if(x.op==12)=true then(true,pC (fA (cU s x.a).2 (cU s x.a).1))
 else if(x.op==13)=true then(true,let r:=cU (dB s 1).2 x.a;iN (fA r.2 r.1) r.1)
 else if(x.op==14)=true then(true,sU s x)
 else if(x.op==15)=true then(true,pC (fA s (dY (s.cs.getD 0 ct0).kd)))
 else if(x.op==16)=true then(true,let t:=dP m (oM m x.a);sS s t.1 t.2)
 else if(x.op==17)=true then(true,let t:=dP m x.a;sS (dB (eV s m.tb.has) 1).2 t.1 t.2)
 else(false,s)
def eD (ls:List Int) (s:PS) (n:Int):Int×PS:=if decide ((ls.length:Int)≤n)=true then(0,⟨s.vs,s.cs,true⟩)else(ls.getD n.toNat 0,s)
def gl0:Gl:=⟨false,0,0⟩
def fK (m:Md) (s:PS) (n:Int):Gl×PS:=if decide ((m.gl.length:Int)≤n)=true then(gl0,⟨s.vs,s.cs,true⟩)else(m.gl.getD n.toNat gl0,s)
def gV (m:Md) (s:PS) (x:Ins) (al:Int) (tk mk:List Int):PS:=iN (fA (eV s (if m.me.has=true then decide (x.a≤al)else false)) tk) mk
def dO (m:Md) (ls:List Int) (s:PS) (x:Ins):PS:=
 if(x.op==26)=true then(dB s 0).2
 else if(x.op==27)=true then
  let s1:=(dB s 1).2;let r:=dB s1 0;let r2:=dB r.2 r.1;iN r2.2 [r2.1]
 else if(x.op==32)=true then let r:=eD ls s x.a;iN r.2 [r.1]
 else if(x.op==33)=true then let r:=eD ls s x.a;(dB r.2 r.1).2
 else if(x.op==34)=true then let r:=eD ls s x.a;let r2:=eD ls (dB r.2 r.1).2 x.a;iN r2.2 [r2.1]
 else if(x.op==35)=true then let r:=fK m s x.a;iN r.2 [r.1.kd]
 else if(x.op==36)=true then let r:=fK m s x.a;(dB (eV r.2 r.1.mu) r.1.kd).2
 else if(x.op==40)=true then gV m s x 2 [1] [1]
 else if(x.op==41)=true then gV m s x 3 [1] [2]
 else if(x.op==44||x.op==45)=true then gV m s x 0 [1] [1]
 else if(x.op==54)=true then gV m s x 2 [1,1] []
 else if(x.op==55)=true then gV m s x 3 [1,2] []
 else if(x.op==58)=true then gV m s x 0 [1,1] []
 else if(x.op==63)=true then gV m s x 0 [] [1]
 else if(x.op==64)=true then gV m s x 0 [1] [1]
 else if(x.op==65)=true then iN s [1]
 else if(x.op==66)=true then iN s [2]
 else let k:=kN x.op;iN (fA (eV s k.2.2) k.1) [k.2.1]
def qO (m:Md) (ls:List Int) (s:PS) (x:Ins):PS:=let r:=cG m s x;if r.1=true then r.2 else dO m ls r.2 x
def goP (m:Md) (ls:List Int):List Ins→PS→PS
 |[],s=>s
 |x::l,s=>let s':=qO m ls s x;if s'.bad=true then s' else goP m ls l s'
def zH (m:Md) (k:Int):Bool:=
 if(if(if decide (k<0)=true then true else decide ((m.co.length:Int)≤k))=true then true else decide ((m.fn.length:Int)≤k))=true then false
 else
  let c:=m.co.getD k.toNat ⟨[],[]⟩
  let t:=dP m (m.fn.getD k.toNat 0)
  if(if(!t.2)=true then true else !(wT (dA c.bd)))=true then false
  else
   let ls:=t.1.pr++c.ls
   let s:=goP m ls c.bd (openP ⟨[],[],false⟩ 2 (if decide ((0:Int)<t.1.rs.length)=true then t.1.rs.headD 0 else 0))
   if s.bad=true then false else(if(!(nJ s).bad)=true then decide ((ls.length:Int)≤32)else false)
structure PS.Ok0 (s:PS):Prop where
 le:∀c∈s.cs,c.ht≤s.vs.length
 up:s.cs.Pairwise fun a b=>a.ht≤b.ht
structure PS.Ok (s:PS):Prop extends s.Ok0 where
 ne:s.cs≠ []
theorem EF{vs:List Int}{i:List Ct}{t:Ct}{b:Bool}:PS.top ⟨vs,i++ [t],b⟩=t:=by simp[PS.top]
theorem PS.Ok0.split {vs:List Int}{i:List Ct}{t:Ct}{b:Bool}(h:PS.Ok0 ⟨vs,i++ [t],b⟩):(∀c∈i,c.ht≤t.ht)∧t.ht≤vs.length∧i.Pairwise (fun a b=>a.ht≤b.ht):=by
 obtain⟨h1,h2⟩:=h;rw[List.pairwise_append]at h2;exact⟨fun c hc=>h2.2.2 c hc t (by simp),h1 t (by simp),h2.1⟩
theorem PS.Ok.cut {s:PS}(h:s.Ok):∃i,s.cs=i++ [s.top]:=by
 obtain⟨vs,cs,b⟩:=s;have hn:=h.ne;rcases List.eq_nil_or_concat cs with rfl|⟨i,t,rfl⟩
 ·exact absurd rfl hn
 ·rw[List.concat_eq_append];exact⟨i,by rw[EF]⟩
theorem UU(s:PS)(b:Bool):(eV s b).cs=s.cs:=rfl
theorem CS(s:PS)(b:Bool):(eV s b).vs=s.vs:=rfl
theorem PS.Ok.need {s:PS}(h:s.Ok)(b:Bool):(eV s b).Ok:=⟨⟨h.le,h.up⟩,h.ne⟩
theorem yC(s:PS)(w:Int):(dB s w).2.cs=s.cs:=by unfold dB;split<;>(try split)<;>rfl
theorem sV(s:PS)(w:Int):(dB s w).2.vs.length≤s.vs.length:=by
 unfold dB;split
 ·exact Nat.le_refl _
 ·split
  ·simp
  ·simp[eV]
theorem PS.Ok.pop {s:PS}(h:s.Ok)(w:Int):(dB s w).2.Ok:=by
 obtain⟨i,hi⟩:=h.cut;have h0:=h.toOk0;have hne:=h.ne;obtain⟨vs,cs,b⟩:=s;dsimp only at hi;generalize PS.top ⟨vs,cs,b⟩=t at hi;subst hi;obtain⟨h1,h2,h3⟩:=h0.split;have key:¬(vs.length:Int)==t.ht→∀b',PS.Ok ⟨vs.dropLast,i++ [t],b'⟩:=fun hl b'=>by
  have hl:vs.length≠t.ht:=fun e=>hl (by rw[e];exact beq_self_eq_true _)
  refine⟨⟨fun c hc=> ?_,h0.up⟩,by simp⟩;show c.ht≤vs.dropLast.length;rw[List.length_dropLast];rcases List.mem_append.1 hc with hc|hc
  ·have:=h1 c hc;omega
  ·obtain rfl:=List.mem_singleton.1 hc;omega
 unfold dB;rw[EF];split
 ·exact h.need _
 ·next hl=>
  split
  ·exact key hl b
  ·exact(key hl b).need _
theorem XN(s:PS)(ks:List Int)(k:Int):fA s (ks++ [k])=fA (dB s k).2 ks:=by simp[fA]
theorem EG{p:PS→Prop}(h:∀s w,p s→p (dB s w).2):∀(ks:List Int) (s:PS),p s→p (fA s ks):=by
 have:∀(l:List Int) (s:PS),p s→p (l.foldl (fun s k=>(dB s k).2) s):=by
  intro l
  induction l with
  |nil=>intro s hs;exact hs
  |cons a l ih=>intro s hs;exact ih _ (h s a hs)
 intro ks s hs;exact this _ s hs
theorem pI(s:PS)(ks:List Int):(fA s ks).cs=s.cs:=EG (p:=fun q=>q.cs=s.cs) (fun q w h=>by rw[yC,h]) ks s rfl
theorem oN(s:PS)(ks:List Int):(fA s ks).vs.length≤s.vs.length:=EG (p:=fun q=>q.vs.length≤s.vs.length) (fun q w h=>Nat.le_trans (sV q w) h) ks s (Nat.le_refl _)
theorem PS.Ok.pops {s:PS}(h:s.Ok)(ks:List Int):(fA s ks).Ok:=EG (fun q w h=>h.pop w) ks s h
theorem PS.Ok0.push {s:PS}(h:s.Ok0)(ks:List Int):(iN s ks).Ok0:=⟨fun c hc=>by have:=h.le c hc;simp[iN];omega,h.up⟩
theorem PS.Ok.push {s:PS}(h:s.Ok)(ks:List Int):(iN s ks).Ok:=⟨h.toOk0.push ks,h.ne⟩
theorem PS.Ok0.openP {s:PS}(h:s.Ok0)(op kd:Int):(openP s op kd).Ok:=by
 refine⟨⟨fun c hc=> ?_, ?_⟩,by simp[Proofs.YtjpdadobblffmaaGreat.openP]⟩
 ·rcases List.mem_append.1 hc with hc|hc
  ·exact h.le c hc
  ·obtain rfl:=List.mem_singleton.1 hc;exact Nat.le_refl _
 ·show(s.cs++ [_]).Pairwise _;rw[List.pairwise_append];exact⟨h.up,by simp,fun a ha b hb=>by obtain rfl:=List.mem_singleton.1 hb;exact h.le a ha⟩
theorem PS.Ok.dropc {s:PS}(h:s.Ok):PS.Ok0 ⟨s.vs,s.cs.dropLast,s.bad⟩:=⟨fun c hc=>h.le c (List.dropLast_subset _ hc),h.up.sublist (List.dropLast_sublist _)⟩
theorem PS.Ok.shut {s:PS}(h:s.Ok):(nJ s).Ok0:=((h.pops _).need _).dropc
theorem CT(s:PS):(nJ s).cs=s.cs.dropLast:=by show(fA s _).cs.dropLast=_;rw[pI]
theorem EH(s:PS):(nJ s).vs.length≤s.vs.length:=oN _ _
theorem PS.Ok0.ok {s:PS}(h:s.Ok0)(hn:s.cs≠ []):s.Ok:=⟨h,hn⟩
theorem PS.Ok.dead {s:PS}(h:s.Ok):(pC s).Ok:=by
 obtain⟨i,hi⟩:=h.cut;have h0:=h.toOk0;obtain⟨vs,cs,b⟩:=s;dsimp only at hi;have hT:pC ⟨vs,cs,b⟩=⟨vs.take (PS.top ⟨vs,cs,b⟩).ht,cs.dropLast++ [⟨(PS.top ⟨vs,cs,b⟩).op,(PS.top ⟨vs,cs,b⟩).kd,(PS.top ⟨vs,cs,b⟩).ht,true⟩],b⟩:=rfl;rw[hT];generalize PS.top ⟨vs,cs,b⟩=t at hi;subst hi;obtain⟨h1,h2,h3⟩:=h0.split;refine⟨⟨fun c hc=> ?_, ?_⟩,by simp⟩
 ·show c.ht≤(vs.take t.ht).length;rw[List.length_take,Nat.min_eq_left h2];simp only[List.dropLast_concat]at hc;rcases List.mem_append.1 hc with hc|hc
  ·exact h1 c hc
  ·obtain rfl:=List.mem_singleton.1 hc;exact Nat.le_refl _
 ·simp only[List.dropLast_concat];rw[List.pairwise_append];exact⟨h3,by simp,fun a ha b hb=>by obtain rfl:=List.mem_singleton.1 hb;exact h1 a ha⟩
theorem zI(s:PS):(pC s).vs.length≤s.vs.length:=by simp[pC];omega
theorem CU{s:PS}(h:s.Ok):(pC s).cs.length=s.cs.length:=by
 have:0<s.cs.length:=List.length_pos_iff.2 h.ne;simp[pC];omega
theorem vF(s:PS)(n:Int):(cU s n).2.cs=s.cs:=by unfold cU;split<;>rfl
theorem vG(s:PS)(n:Int):(cU s n).2.vs=s.vs:=by unfold cU;split<;>rfl
theorem PS.Ok.label {s:PS}(h:s.Ok)(n:Int):(cU s n).2.Ok:=by unfold cU;split;exact⟨⟨h.le,h.up⟩,h.ne⟩;exact h
theorem rQ(k:Int):(dY k).length≤1:=by unfold dY;split<;>simp
theorem rR(s:PS)(n:Int):(cU s n).1.length≤1:=by
 unfold cU;split
 ·simp
 ·dsimp only;split
  ·simp
  ·exact rQ _
theorem zJ(w:List Int)(l:List Int)(s:PS):(l.foldl (AS w) s).cs=s.cs∧(l.foldl (AS w) s).vs=s.vs∧(s.Ok→(l.foldl (AS w) s).Ok):=by
 induction l generalizing s with
 |nil=>exact⟨rfl,rfl,id⟩
 |cons a l ih=>
  obtain⟨h1,h2,h3⟩:=ih (AS w s a);rw[List.foldl_cons];exact⟨h1.trans (vF s a),h2.trans (vG s a),fun h=>h3 ((h.label a).need _)⟩
theorem UV(s:PS)(ks:List Int):(iN s ks).cs=s.cs:=rfl
theorem zK(s:PS)(ks:List Int):(iN s ks).vs.length=s.vs.length+ks.length:=by simp[iN]
theorem EI(s:PS)(op kd:Int):(openP s op kd).cs.length=s.cs.length+1:=by simp[openP]
theorem PS.Ok.calls {s:PS}(h:s.Ok)(t:FT)(ok:Bool):(sS s t ok).Ok:=((h.need ok).pops _).push _
theorem OZ(s:PS)(t:FT)(ok:Bool):(sS s t ok).cs=s.cs:=pI _ _
theorem JF(s:PS)(t:FT)(ok:Bool):(sS s t ok).vs.length≤s.vs.length+t.rs.length:=by
 unfold sS;rw[zK];have:=oN (eV s ok) t.pr;rw[CS]at this;omega
theorem PS.Ok.table {s:PS}(h:s.Ok)(x:Ins):(sU s x).Ok:=(((zJ _ _ _).2.2 ((h.pop 1).label x.a)).pops _).dead
theorem aAX{s:PS}(h:s.Ok)(x:Ins):(sU s x).cs.length=s.cs.length:=by
 unfold sU;dsimp only;rw[CU (((zJ _ _ _).2.2 ((h.pop 1).label x.a)).pops _),pI,(zJ _ _ _).1,vF,yC]
theorem XO(s:PS)(x:Ins):(sU s x).vs.length≤s.vs.length:=by
 unfold sU;dsimp only;refine Nat.le_trans (zI _) (Nat.le_trans (oN _ _) ?_);rw[(zJ _ _ _).2.1,vG];exact sV _ _
def dK (op:Int):Int:=if(op==2||op==3||op==4)=true then 1 else if(op==11)=true then-1 else 0
def FT.Sm (t:FT):Prop:=t.pr.length≤100∧t.rs.length≤100
def Md.TS (m:Md):Prop:=∀t∈m.ty,t.Sm
theorem aL{α:Type}{c:Prop} [Decidable c] {p:α→Prop}{a b:α}(h1:c→p a)(h2:¬c→p b):p (if c then a else b):=by split;exact h1 ‹_›;exact h2 ‹_›
theorem pR{m:Md}(h:m.TS)(n:Int):(dP m n).1.Sm:=by
 unfold dP;refine aL (p:=fun r:FT×Bool=>r.1.Sm) (fun _=> ?_) (fun _=> ?_)
 ·exact⟨by simp[AR],by simp[AR]⟩
 ·show FT.Sm (m.ty.getD n.toNat AR);rw[List.getD_eq_getElem?_getD];cases hg:m.ty[n.toNat]? with
  |none=>exact⟨by simp[AR],by simp[AR]⟩
  |some t=>exact h t (List.mem_of_getElem? hg)
theorem pK{α:Type}(l:List α):l.dropLast.length=l.length-1:=List.length_dropLast
def aJe (s:PS) (x:Ins) (r:Bool×PS):Prop:=r.2.Ok∧r.2.vs.length≤s.vs.length+100∧(r.2.cs.length:Int)=s.cs.length+(if r.1=true then dK x.op else 0)
theorem PA{m:Md}{s:PS}{x:Ins}(h:s.Ok)(hx:x.op=11→2≤s.cs.length)(hT:m.TS):aJe s x (cG m s x):=by
 have hp:0<s.cs.length:=List.length_pos_iff.2 h.ne;unfold cG;refine aL (fun g=> ?_) (fun _=> ?_)
 ·have:=eq_of_beq g;exact⟨h.dead,by have:=zI s;dsimp only;omega,by rw[CU h,this];simp[dK]⟩
 refine aL (fun g=> ?_) (fun _=> ?_)
 ·have:=eq_of_beq g;exact⟨h,by dsimp only;omega,by rw[this];simp[dK]⟩
 refine aL (fun g=> ?_) (fun _=> ?_)
 ·
  refine⟨h.toOk0.openP _ _,by show s.vs.length≤ _;omega, ?_⟩;dsimp only;rw[EI];simp only[Bool.or_eq_true,beq_iff_eq]at g;rcases g with g|g<;>(rw[g];simp[dK])
 refine aL (fun g=> ?_) (fun _=> ?_)
 ·
  refine⟨(h.pop 1).toOk0.openP _ _,by have:=sV s 1;show(dB s 1).2.vs.length≤ _;omega, ?_⟩;dsimp only;rw[EI,yC,eq_of_beq g];simp[dK]
 refine aL (fun g=> ?_) (fun _=> ?_)
 ·
  refine⟨h.shut.openP _ _,by have:=EH s;show(nJ s).vs.length≤ _;omega, ?_⟩;dsimp only;rw[EI,CT,pK,eq_of_beq g];simp[dK];omega
 refine aL (fun g=> ?_) (fun _=> ?_)
 ·
  have h2:=hx (eq_of_beq g);have hne:(nJ s).cs≠ []:=by rw[CT];exact List.length_pos_iff.1 (by rw[pK];omega)
  refine⟨((h.shut.ok hne).need _).push _, ?_, ?_⟩
  ·have h3:=EH s;have h4:=rQ s.top.kd;dsimp only;rw[zK,CS];omega
  ·dsimp only;rw[UV,UU,CT,pK,eq_of_beq g];simp[dK];omega
 refine aL (fun g=> ?_) (fun _=> ?_)
 ·
  refine⟨((h.label _).pops _).dead, ?_, ?_⟩
  ·refine Nat.le_trans (zI _) (Nat.le_trans (oN _ _) ?_);rw[vG];omega
  ·dsimp only;rw[CU ((h.label _).pops _),pI,vF,eq_of_beq g];simp[dK]
 refine aL (fun g=> ?_) (fun _=> ?_)
 ·
  refine⟨(((h.pop 1).label _).pops _).push _, ?_, ?_⟩
  ·dsimp only;rw[zK];have h1:=oN (cU (dB s 1).2 x.a).2 (cU (dB s 1).2 x.a).1;rw[vG]at h1;have h2:=sV s 1;have h3:=rR (dB s 1).2 x.a;omega
  ·dsimp only;rw[UV,pI,vF,yC,eq_of_beq g];simp[dK]
 refine aL (fun g=> ?_) (fun _=> ?_)
 ·exact⟨h.table x,by have:=XO s x;dsimp only;omega,by dsimp only;rw[aAX h,eq_of_beq g];simp[dK]⟩
 refine aL (fun g=> ?_) (fun _=> ?_)
 ·
  refine⟨(h.pops _).dead, ?_, ?_⟩
  ·refine Nat.le_trans (zI _) (Nat.le_trans (oN _ _) ?_);omega
  ·dsimp only;rw[CU (h.pops _),pI,eq_of_beq g];simp[dK]
 refine aL (fun g=> ?_) (fun _=> ?_)
 ·
  refine⟨h.calls _ _, ?_, ?_⟩
  ·have h1:=JF s (dP m (oM m x.a)).1 (dP m (oM m x.a)).2;have h2:=(pR hT (oM m x.a)).2;dsimp only;omega
  ·dsimp only;rw[OZ,eq_of_beq g];simp[dK]
 refine aL (fun g=> ?_) (fun _=> ?_)
 ·
  refine⟨((h.need _).pop _).calls _ _, ?_, ?_⟩
  ·have h1:=JF (dB (eV s m.tb.has) 1).2 (dP m x.a).1 (dP m x.a).2;have h2:=(pR hT x.a).2;have h3:=sV (eV s m.tb.has) 1;rw[CS]at h3;dsimp only;omega
  ·dsimp only;rw[OZ,yC,UU,eq_of_beq g];simp[dK]
 ·exact⟨h,by dsimp only;omega,by simp⟩
def Nxt (s:PS) (n:Nat) (q:PS):Prop:=q.Ok∧q.vs.length≤s.vs.length+n∧q.cs=s.cs
theorem PS.Ok.nxt {s:PS}(h:s.Ok):Nxt s 0 s:=⟨h,Nat.le_refl _,rfl⟩
theorem Nxt.pop {s q:PS}{n:Nat}(h:Nxt s n q)(w:Int):Nxt s n (dB q w).2:=⟨h.1.pop w,Nat.le_trans (sV q w) h.2.1,(yC q w).trans h.2.2⟩
theorem Nxt.pops {s q:PS}{n:Nat}(h:Nxt s n q)(ks:List Int):Nxt s n (fA q ks):=⟨h.1.pops ks,Nat.le_trans (oN q ks) h.2.1,(pI q ks).trans h.2.2⟩
theorem Nxt.need {s q:PS}{n:Nat}(h:Nxt s n q)(b:Bool):Nxt s n (eV q b):=⟨h.1.need b,h.2.1,h.2.2⟩
theorem Nxt.bad {s q:PS}{n:Nat}(h:Nxt s n q):Nxt s n ⟨q.vs,q.cs,true⟩:=⟨⟨⟨h.1.le,h.1.up⟩,h.1.ne⟩,h.2.1,h.2.2⟩
theorem Nxt.push {s q:PS}{n:Nat}(h:Nxt s n q)(ks:List Int)(k:Nat)(hk:n+ks.length≤k):Nxt s k (iN q ks):=⟨h.1.push ks,by rw[zK];have:=h.2.1;omega,h.2.2⟩
theorem Nxt.up {s q:PS}{n:Nat}(h:Nxt s n q)(k:Nat)(hk:n≤k):Nxt s k q:=⟨h.1,by have:=h.2.1;omega,h.2.2⟩
theorem Nxt.loc {s q:PS}{n:Nat}(h:Nxt s n q)(ls:List Int)(x:Int):Nxt s n (eD ls q x).2:=by unfold eD;split;exact h.bad;exact h
theorem Nxt.glob {s q:PS}{n:Nat}(h:Nxt s n q)(m:Md)(x:Int):Nxt s n (fK m q x).2:=by unfold fK;split;exact h.bad;exact h
theorem Nxt.acc {s q:PS}{n:Nat}(h:Nxt s n q)(m:Md)(x:Ins)(al:Int)(tk mk:List Int)(k:Nat)(hk:n+mk.length≤k):Nxt s k (gV m q x al tk mk):=((h.need _).pops _).push _ k hk
theorem XP{m:Md}{ls:List Int}{s:PS}{x:Ins}(h:s.Ok):Nxt s 1 (dO m ls s x):=by
 have h:=h.nxt;unfold dO;refine aL (fun _=>(h.pop 0).up 1 (by omega)) (fun _=> ?_);refine aL (fun _=>Nxt.push (((h.pop 1).pop 0).pop _) _ 1 (by simp)) (fun _=> ?_);refine aL (fun _=>(h.loc ls x.a).push _ 1 (by simp)) (fun _=> ?_);refine aL (fun _=>Nxt.up ((h.loc ls x.a).pop _) 1 (by omega)) (fun _=> ?_);refine aL (fun _=>Nxt.push (((h.loc ls x.a).pop _).loc ls x.a) _ 1 (by simp)) (fun _=> ?_);refine aL (fun _=>(h.glob m x.a).push _ 1 (by simp)) (fun _=> ?_);refine aL (fun _=>Nxt.up (((h.glob m x.a).need _).pop _) 1 (by omega)) (fun _=> ?_);refine aL (fun _=>h.acc m x _ _ _ 1 (by simp)) (fun _=> ?_);refine aL (fun _=>h.acc m x _ _ _ 1 (by simp)) (fun _=> ?_);refine aL (fun _=>h.acc m x _ _ _ 1 (by simp)) (fun _=> ?_);refine aL (fun _=>h.acc m x _ _ _ 1 (by simp)) (fun _=> ?_);refine aL (fun _=>h.acc m x _ _ _ 1 (by simp)) (fun _=> ?_);refine aL (fun _=>h.acc m x _ _ _ 1 (by simp)) (fun _=> ?_);refine aL (fun _=>h.acc m x _ _ _ 1 (by simp)) (fun _=> ?_);refine aL (fun _=>h.acc m x _ _ _ 1 (by simp)) (fun _=> ?_);refine aL (fun _=>h.push _ 1 (by simp)) (fun _=> ?_);refine aL (fun _=>h.push _ 1 (by simp)) (fun _=> ?_);exact((h.need _).pops _).push _ 1 (by simp)
theorem vH{P:Program}(w:World)(t u ty e:TypeId)(i:TypeInfo)(ht:P.underlying t=some (.slice e))(hu:P.underlying u=some .string)(hi:P.info? e=some i)(hs1:i.size=1)
  (g sLen sCap:Nat) (cur:Array Value) (fz:Nat×Nat) (hg:w.heap[g]? =some (.cells cur e fz)) (hz:Fz e cur.size fz) (s:ByteArray)
  (hroom:sLen+s.size≤sCap) (hfit:sLen+s.size≤cur.size):
  (Builtin.append_ #[t,u] ty #[.slice (some ⟨g,0,none⟩) sLen sCap,.string s]).run P w=
   .ok (.slice (some ⟨g,0,none⟩) (sLen+s.size) sCap) (w.setRow g (cur.toList.take sLen++Lib.strCells s++cur.toList.drop (sLen+s.size)).toArray):=by
 have hf:=Lib.run_firstCells_string (P:=P) w 1 s;have hst:=gR (P:=P) g sLen e fz (Lib.strCells s) 0 cur w hg hz (by simpa[Lib.strCells_length]using hfit) (Lib.strCells_oneCell s);simp only[Nat.add_zero,Lib.strCells_length]at hst;simp[Builtin.append_,run_underlying ht,run_underlying hu,sizeOf,typeInfo,hi,hs1,Builtin.lenOf,hroom,hf,Addr.add_lit,hst]
theorem CJ{P:Program}(w:World)(t u ty e:TypeId)(i:TypeInfo)(ht:P.underlying t=some (.slice e))(hu:P.underlying u=some .string)(hi:P.info? e=some i)(hz:i.zero=some (.int .u8 0))
  (hsize:i.size=1) (hby:i.bytes=1) (v:Value) (n:Nat) (xs:List Value) (hn:0<n) (hown:rowG w 0 e 1 v n xs) (s:ByteArray) (h63:n+s.size≤maxLen) (hbytes:n+s.size≤140737488355328):
  ∃v' w',(Builtin.append_ #[t,u] ty #[v,.string s]).run P w=.ok v' w'∧rowG w' 0 e 1 v' (n+s.size) (xs++Lib.strCells s)∧w.grownBy w' v.ownBlock∧(v'.ownBlock=v.ownBlock∨v'.ownBlock=some w.heap.size):=by
 rcases hown.2 with⟨rfl,rfl⟩|⟨g,cap,cur,fz,rfl,hbg,hg,hfz,hnc,hcm,hcs,htake⟩
 ·omega
 have hl:=Lib.strCells_length s;have hxl:xs.length=n:=by simpa using hown.1
 have hsmall:n+s.size≤9223372036854775807:=by simp only[maxLen]at h63;omega
 have hlen:(xs++Lib.strCells s).length=(n+s.size)*1:=by rw[List.length_append,hxl,hl,Nat.mul_one]
 rw[Nat.mul_one]at hcs htake;by_cases hroom:n+s.size≤cap
 ·have hr:=vH (P:=P) w t u ty e i ht hu hi hsize g n cap cur fz hg hfz s hroom (by omega);have hsz2:(cur.toList.take n++Lib.strCells s++cur.toList.drop (n+s.size)).toArray.size=cur.size:=by
   simp only[List.size_toArray,List.length_append,List.length_take,List.length_drop,Array.length_toList,hl];omega
  refine⟨_,_,hr,⟨hlen,.inr ⟨g,cap,_,fz,rfl,hbg,setRow_heap w g cur _ e _ hg,by rw[hsz2];exact hfz,hroom,hcm,by rw[hsz2];omega, ?_⟩⟩,⟨rfl,rfl,rfl,by simp,fun k _ hk=>setRow_other w g k _ (fun e=>hk (by simp[Value.ownBlock,e]))⟩,Or.inl rfl⟩;rw[htake,←hlen];exact List.take_left
 ·have holds:∀j u,xs[j]? =some u→w.cell? ((⟨g,0,none⟩:Addr).add j)=some u:=by
   intro j u hu;rw[Addr.add_lit,Nat.zero_add,cell_of_row w g j cur e fz hg,←Array.getElem?_toList];rw[←htake,List.getElem?_take]at hu;split at hu
   ·exact hu
   ·cases hu
  have hr:=Lib.run_append_grow_string (P:=P) w t u ty e i (.int .u8 0) ht hu hi hz ⟨g,0,none⟩ n cap xs (by rw[hsize];simpa using hxl) holds s (by omega) (by omega) (by rw[hby];exact growslice_fits (by omega) (by omega));have hge:=grownCap_ge w (n+s.size) cap e;have hcm:=grownCap_le_maxLen w (n+s.size) cap e h63;refine⟨_,_,hr,⟨hlen,.inr ⟨w.heap.size,_,_,(0,0),rfl,Nat.zero_le _,heap_alloc_new w.drew _,Fz.zero,hge,hcm, ?_, ?_⟩⟩,⟨rfl,rfl,rfl,by simp,fun k hk _=>heap_alloc_old w.drew _ hk⟩,Or.inr rfl⟩
  ·have hz1:(Value.int IntKind.u8 0).cells.size=1:=rfl;simp only[Array.size_append,List.size_toArray,size_zeroCells,hz1,hxl,hl];omega
  ·simp only[Array.toList_append,List.append_assoc];rw[←List.append_assoc,←hlen];exact List.take_left
section
variable {P : Program} {n : Nat} {s : ASt} {K : ASt → Prop} {ty t u : TypeId} {x y : Operand} {d : Nat}
theorem EJ{e:TypeId} [Ty P t (.slice e)] [Ty P u .string] [Tz P e 1 1 (.int .u8 0)] {r len:Nat}{es:List (List AV)}{b:List Nat}(hb:aev s x=some (.own r 0 len))(hg:fZ s.σ r=some (.arr e 1 es))(hlen:len≤es.length)(hpos:0<len)(hy:aev s y=some (.str (dI b)))(hlt:∀c∈b,c<256)
  (hmax:len+b.length≤140737488355328) (hd:d<n)
  (hK:∀r',Fresh r' (dS [r] s.σ)→K ⟨(d,.own r' 0 (len+(b.map aG).length))::s.fr,(r',.arr e 1 (es.take len++b.map aG))::dS [r] s.σ⟩):Hop P n (.call { callee:=.builtin .append,args:=#[x,y],argTypes:=#[t,u] }) ty (some d) s [r] K:=by
 intro M F N a w o ho hty hdst hr next Q hnext
 have hbase:=hr.aev hb;have hmem:=bV hg;obtain⟨h0,hrowsE,h3⟩:=hr.st.ent _ hmem;obtain⟨i,hi,hz0,hs0,hb0⟩:=Tz.parts P e;have he:a.eval y=.string (dI b):=by
  have:=hr.aev hy;generalize a.eval y=v at this⊢;cases this;rfl
 have hsl:(dI b).size=(b.map aG).length:=by simp[dI,ByteArray.size]
 have hnews:Lib.strCells (dI b)=b.map (fun c:Nat=>Value.int .u8 (c:Int)):=by
  unfold Lib.strCells dI;simp only[List.map_map];refine List.map_congr_left fun c hc=> ?_
  have:=hlt c hc;simp[Nat.mod_eq_of_lt this]
 have hrows:RowsAt M F w 1 (b.map aG) (Lib.strCells (dI b)):=by
  rw[hnews];refine⟨by simp,fun i x j a u hi hj hu=> ?_⟩;simp only[List.getElem?_map,Option.map_eq_some_iff]at hi hu;obtain⟨c,hc,rfl⟩:=hi
  match j,hj with
  |0,hj=>
   obtain rfl:=Option.some.inj hj;obtain⟨c',hc',rfl⟩:=hu;rw[Nat.mul_one,Nat.add_zero]at hc';obtain rfl:=Option.some.inj (hc.symm.trans hc');exact .int _ _
  |j+1,hj=>cases hj
 have hok:iH 1 (b.map aG):=by
  intro x hx;obtain⟨c,-,rfl⟩:=List.mem_map.1 hx;exact⟨rfl,by simp[aG,AV.cell]⟩
 generalize hys:b.map aG=ys at hrows hok hsl hK⊢;have hyl:ys.length=b.length:=by rw[←hys];simp
 obtain⟨news,hns⟩:∃news,news=Lib.strCells (dI b):=⟨_,rfl⟩
 rw[←hns]at hrows;have hokT:iH 1 (es.take len):=fun x hx=>hrowsE x (List.mem_of_mem_take hx)
 have hlenT:(es.take len).length=len:=by rw[List.length_take];omega
 --what the row holds
 have hown:∃v xs,a.eval x=v∧rowG w 0 e 1 v len xs∧RowsAt M F w 1 (es.take len) xs∧(∀g,v.ownBlock=some g→bO M r=some g)∨(∃A,a.eval x=.slice A 0 0∧len=0∧v=.slice A 0 0∧xs=[]):=by
  generalize a.eval x=u at hbase⊢;cases hbase with
  |own0=>exact⟨_,[],.inr ⟨_,rfl,rfl,rfl,rfl⟩⟩
  |own hM hle hmm=>
   rcases h3 with⟨hv',_⟩|⟨g,cc,vs,hM',hcl,hsz,hle',hmax',hvr⟩
   ·rw[hM]at hv';cases hv'
   ·have hg':=hM'.symm.trans hM;simp only[Option.some.injEq,Blk'.row.injEq]at hg';obtain⟨q1,q2,q3⟩:=hg';subst q1;subst q2;subst q3;obtain⟨fz,hcl,hfz⟩:=hcl;have hfit:len*1≤vs.size:=by rw[hsz];exact Nat.mul_le_mul_right _ (by omega)
    refine⟨_,vs.toList.take (len*1),.inl ⟨rfl,⟨by rw[List.length_take];simp;omega,.inr ⟨g,cc,vs,fz,by simp,Nat.zero_le _,hcl,hfz,by omega,hmm,hsz,rfl⟩⟩,⟨by rw[hlenT,List.length_take];simp;omega,fun i' x' j b u hi' hj hu=> ?_⟩,fun g2 hg2=> ?_⟩⟩
    ·have hil:=(List.getElem?_eq_some_iff.1 hi').1;rw[hlenT]at hil;have hjs:j<1:=by rw[←(hokT x' (List.mem_of_getElem? hi')).1];exact(List.getElem?_eq_some_iff.1 hj).1
     rw[List.getElem?_take_of_lt hil]at hi';rw[List.getElem?_take_of_lt (kE hil hjs)]at hu;exact hvr i' x' j b u hi' hj (by simpa using hu)
    ·simp only[Value.ownBlock,Option.some.injEq]at hg2;subst hg2;simp[bO,hM]
 obtain⟨v,xs,hown|⟨B,hx,rfl,rfl,rfl⟩⟩:=hown
 ·obtain⟨hx,hown,hrT,hblk⟩:=hown;obtain⟨v',w',hrun,ho',hg',hbl⟩:=CJ (P:=P) w t u o.type e i (Ty.und (P:=P) (t:=t)) (Ty.und (P:=P) (t:=u)) hi hz0 hs0 hb0 v len xs hpos hown (dI b) (by rw[hsl];simp[maxLen];omega) (by rw[hsl];omega);rw[hsl,←hns]at ho';have hex:(execOp a.eval o).run P w=.ok (.value v') w':=by
   simp only[execOp,ho,resolve,invoke,builtin,Sem.run_bind,Sem.run_pure,Result.andThen_ok,List.map_toArray,List.map_cons,List.map_nil,hx,he,hrun]
  unfold Oper.wp;rw[hex,Oper.upon_value,hdst];have honly:Only (fun k=>bO M r=some k) w w':=⟨hg'.os,hg'.tape,hg'.output,hg'.size,fun k hk hne=>hg'.block k hk (fun e=>hne (hblk k e.symm))⟩
  have hSame:Same F w w':=fun g hgF=>honly.block g (hr.st.flt g hgF) (fun e=>hr.st.nof g ⟨_,hmem,e⟩ hgF)
  have hcat:RowsAt M F w 1 (es.take len++ys) (xs++news):=hrT.append hokT hrows;have hokC:iH 1 (es.take len++ys):=fun x hx=>(List.mem_append.1 hx).elim (hokT x) (hok x)
  rcases ho'.2 with⟨rfl,hz'⟩|⟨g2,cap,cur,iO,rfl,_,hg2,hfz2,hn2,hm2,hs2,ht2⟩
  ·have hl0:len=0:=by omega
   have hy0:ys=[]:=List.eq_nil_of_length_eq_zero (by omega);subst hl0;subst hy0;have hE:ER (fN M N .virt) F w' N (.arr e 1 (es.take 0++ [])):=⟨h0,fun x hx=>by simp at hx,.inl ⟨bW _,by simp⟩⟩
   obtain⟨r1,e1,n1,o1⟩:=hr.move_ hmem .virt honly (fun g hg=>by simp[bO,bW]at hg) hE;exact hnext _ F (N+1) _ _ ⟨(d,.own N 0 (0+0))::s.fr,_⟩ (r1.put hd .own0) e1 o1 (hK N n1)
  ·have hE:ER (fN M N (.row g2 cap 1)) F w' N (.arr e 1 (es.take len++ys)):=by
    refine⟨h0,hokC,.inr ⟨g2,cap,cur,bW _,⟨iO,hg2,hfz2⟩,hs2,by rw[List.length_append,hlenT];exact hn2,hm2,fun i' x' j b u hi' hj hu=> ?_⟩⟩;refine VR.mono (fun r b' h=>oD hr.st.fresh _ h) (fun _ h=>h) hSame (hcat.2 i' x' j b u hi' hj ?_);have hil:=(List.getElem?_eq_some_iff.1 hi').1;rw[List.length_append,hlenT]at hil;have hjs:j<1:=by rw[←(hokC x' (List.mem_of_getElem? hi')).1];exact(List.getElem?_eq_some_iff.1 hj).1
    rw[←ht2,List.getElem?_take_of_lt (kE hil hjs)];simpa using hu
   obtain⟨r1,e1,n1,o1⟩:=hr.move_ hmem (.row g2 cap 1) honly (fun g hg=>by
    simp only[bO,bW,Option.some.injEq]at hg;subst hg;rcases hbl with h|h
    ·exact .inl (hblk g2 (h.symm.trans rfl))
    ·simp only[Value.ownBlock,Option.some.injEq]at h;exact .inr (by omega)) hE
   have hv:=VR.own (M:=fN M N (.row g2 cap 1)) (F:=F) (w:=w') (t:=N) (off:=0) (len:=len+ys.length) (bW _) (by omega) hm2;simp only[Nat.zero_mul,Nat.sub_zero]at hv;exact hnext _ F (N+1) _ _ ⟨(d,.own N 0 (len+ys.length))::s.fr,_⟩ (r1.put hd hv) e1 o1 (hK N n1)
 ·omega
end
section
variable {P : Program} {n : Nat} {ops : Array Oper} {rest : List Oper} {fr : Fr} {σ : dC} {K : ASt → Prop} {ty t u : TypeId} {pos : String} {af : Array Edge} {x y : Operand} {d : Nat}
theorem apS{e:TypeId} [Ty P t (.slice e)] [Ty P u .string] [Tz P e 1 1 (.int .u8 0)] {r len:Nat}(vs b:List Nat)(hlt:∀c∈b,c<256)
  (hK:∀r',Fresh r' (dS [r] σ)→∃σ',SSet σ r (.arr e 1 (vs.map aG)) r' (.arr e 1 ((vs++b).map aG)) σ'∧RS P n ops rest ⟨(d,.own r' 0 (vs++b).length)::fr,σ'⟩ K)
  (hb:aev ⟨fr,σ⟩ x=some (.own r 0 len):=by rfl) (hg:fZ σ r=some (.arr e 1 (vs.map aG)):=by exact bC) (hlen:len=vs.length:=by exact LG) (hpos:0<len:=by first|omega|(simp;omega)) (hy:aev ⟨fr,σ⟩ y=some (.str (dI b)):=by rfl)
  (hmax:len+b.length≤140737488355328:=by(simp;try omega)) (hd:Nat.ble (d+1) n=true:=by rfl):
  RS P n ops (⟨some d,.call { callee:=.builtin .append,args:=#[x,y],argTypes:=#[t,u] },ty,pos,af,none⟩::rest) ⟨fr,σ⟩ K:=by
 refine fW (EJ hb hg (by simp;omega) hpos hy hlt hmax (cI hd) fun r' hf=> ?_);obtain⟨σ',hs,hK⟩:=hK r' hf;dsimp only;rw[hlen,show vs.length=(vs.map aG).length by simp,List.take_length,←List.map_append];refine AI (fun p hp=>hs.sub p hp) ?_;rw[show(vs.map aG).length+(b.map aG).length=(vs++b).length by simp];exact hK
end
theorem kJ{P:Program}{n:Nat}{ops:Array Oper}{listed:Array Bool}{rest:List (Nat×Bool)}{held:List (Nat×List Nat)}{s:ASt}{K:ASt→Prop}{z:Nat}{zb:Bool}(i j:Nat)(t1 t2:List (Nat×Bool)){dst dst':Option Nat}{op op':Op}{ty ty':TypeId}{pos pos':String}{af af':Array Edge}{f1 f2:List Nat}
  (hr:(Region.ready .any ops listed==[i,j]&&(t1.length==rest.length)&&(t2.length==rest.length)&&DK ops (listed.setIfInBounds i true) t1&&DK ops (listed.setIfInBounds j true) t2)=true)
  (hi:ops[i]? =some ⟨dst,op,ty,pos,af,none⟩) (hj:ops[j]? =some ⟨dst',op',ty',pos',af',none⟩)
  (h1:Hop P n op ty dst s f1 fun s'=>RD P n ops (listed.setIfInBounds i true) t1 held s' K) (h2:Hop P n op' ty' dst' s f2 fun s'=>RD P n ops (listed.setIfInBounds j true) t2 held s' K)
  (g1:f1=[]∨((∀r∈f1,r∈s.σ.map (·.1))∧HB ops i (s.σ.map (·.1)) f1 held)) (g2:f2=[]∨((∀r∈f2,r∈s.σ.map (·.1))∧HB ops j (s.σ.map (·.1)) f2 held)):RD P n ops listed ((z,zb)::rest) held s K:=by
 intro hsel _ M F N a w hr0;simp only[Bool.and_eq_true,beq_iff_eq]at hr;obtain⟨⟨⟨⟨hrd,hl1⟩,hl2⟩,hc1⟩,hc2⟩:=hr;have main:∀ {k:Nat} {t:List (Nat×Bool)} {dst:Option Nat} {op:Op} {ty:TypeId} {pos:String} {af:Array Edge} {fp:List Nat},t.length=rest.length→DK ops (listed.setIfInBounds k true) t=true→ops[k]? =some ⟨dst,op,ty,pos,af,none⟩→
   Hop P n op ty dst s fp (fun s'=>RD P n ops (listed.setIfInBounds k true) t held s' K)→(fp=[]∨((∀r∈fp,r∈s.σ.map (·.1))∧HB ops k (s.σ.map (·.1)) fp held))→wpOp P ops (PostN n M F N w s.σ K) k (fun a' w'=>(∀g,Hd ops M F held k g→g<w.heap.size→w'.heap[g]? =w.heap[g]?)∧sG P .any ops (PostN n M F N w s.σ K) (Hd ops M F held) rest.length (listed.setIfInBounds k true) a' w') a w:=by
  intro k t dst op ty pos af fp hl hc hk h hfp;unfold wpOp;simp only[hk];rw[if_pos (by simp[Region.wanted])];refine .inl (h M F N a w _ rfl rfl rfl hr0 _ _ fun M' F' N' a' w' s' hr' he ho hk'=>⟨fun g hg hlt=> ?_, ?_⟩)
  ·rcases hg with hg|⟨r,hrh,hg⟩
   ·exact he.only.block g hlt (fun hB=>hr0.st.nof g hB hg)
   ·rcases hfp with rfl|⟨hf1,hb⟩
    ·exact ho.block g hlt (by simp)
    ·obtain⟨h1,h2⟩:=hb.held r hrh;obtain⟨p,hp,rfl⟩:=List.mem_map.1 h1;refine ho.block g hlt ?_;rintro⟨q,hq,hqg⟩;obtain⟨p2,hp2,rfl⟩:=List.mem_map.1 (hf1 q hq);exact h2 (by rw[hr0.st.inj p hp p2 hp2 g hg hqg];exact hq)
  ·rw[←hl];refine iZ (PostN.ext he) ?_ _ _ _ _ (hk' hsel hc M' F' N' a' w' hr');rintro j' g (hg|⟨r,hrr,hg⟩)
   ·exact .inl (he.ff g hg)
   ·refine .inr ⟨r,hrr, ?_⟩;unfold bO at hg⊢;cases hm:M r with
    |none=>rw[hm]at hg;cases hg
    |some b=>rw[hm]at hg;rw[he.mm _ _ hm];exact hg
 refine⟨fun h0=>by rw[hrd]at h0;simp at h0,fun k hk=> ?_⟩;rw[hrd]at hk;rcases List.mem_cons.1 hk with rfl|hk
 ·exact main hl1 hc1 hi h1 g1
 ·obtain rfl:=List.mem_singleton.1 hk;exact main hl2 hc2 hj h2 g2
theorem xI{P:Program}{n:Nat}{fr:Fr}{σ:dC}{K:ASt→Prop}{ty t:TypeId}{d:Nat}{e:TypeId}{sz by_:Nat}{zv:Value}{len:Nat}{parts:Array (Nat×Operand)}{vs:List AV}{es:List (List AV)}(i1:Ty P t (.slice e))(i2:Tz P e sz by_ zv)(hv:AEvs ⟨fr,σ⟩ (parts.toList.map (·.2)) vs)(hp:parts.toList=rD 0 (parts.toList.map (·.2)))(hlen:(len==vs.length)=true)(h0:(decide (0<sz)&&decide (len*sz≤16777216))=true)
  (hc:(vs.all fun v=>v.cells.length==sz&&v.cells.all AV.cell)=true) (he:vs.map AV.cells=es) (hd:Nat.ble (d+1) n=true) (hK:∀r,Fresh r σ→K ⟨(d,.own r 0 len)::fr,(r,.arr e sz es)::σ⟩):Hop P n (.buildSlice t len parts) ty (some d) ⟨fr,σ⟩ [] K:=by
 subst he;exact oP hp hv hlen h0 hc (cI hd) hK
theorem PB{s s':ASt}(ts:List Nat)(hf:∀i x',dD s'.fr i=some x'→∃x,dD s.fr i=some x∧Bor s.σ ts x x')(hσ:∀p∈s'.σ,p.1∉ts∧∃x,(p.1,x)∈s.σ∧∀(M:Mp) (F:Nat→Prop) (N:Nat) (w:World),SR M F N w s.σ→ER M F w p.1 x→ER M (FPlus M F s.σ ts) w p.1 p.2):SGo s s':=by
 intro M F N n a w hr;refine⟨M,FPlus M F s.σ ts,N,⟨hr.size,hr.defers,fun i x' hi=> ?_, ?_, ?_, ?_,fun b hb=>hb.flt hr.st,hr.st.fresh⟩,fun _ _ h=>h,fun _ h=>.inl h,Nat.le_refl _,Only.refl _ _, ?_, ?_, ?_⟩
 ·obtain⟨x,hx,hb⟩:=hf i x' hi;exact hb.vr hr.st (hr.fr i x hx)
 ·intro p hp;obtain⟨_,x,hx,hb⟩:=hσ p hp;exact hb M F N w hr.st (hr.st.ent _ hx)
 ·intro p hp q hq g h1 h2;obtain⟨_,x,hx,_⟩:=hσ p hp;obtain⟨_,y,hy,_⟩:=hσ q hq;exact hr.st.inj (p.1,x) hx (q.1,y) hy g h1 h2
 ·rintro g ⟨p,hp,hg⟩ hF;obtain⟨hn,x,hx,_⟩:=hσ p hp;rcases hF with hF|⟨q,hq,hqt,hqg⟩
  ·exact hr.st.nof g ⟨_,hx,hg⟩ hF
  ·exact hn (by have:=hr.st.inj _ hx _ hq g hg hqg;simp only at this;rw[this];exact hqt)
 ·rintro g ⟨p,hp,hg⟩ _;obtain⟨_,x,hx,_⟩:=hσ p hp;exact⟨_,hx,hg⟩
 ·rintro b (hb|⟨q,hq,_,hqg⟩)
  ·exact .inl hb
  ·exact .inr (.inr ⟨q,hq,hqg⟩)
 ·intro p hp _;obtain⟨_,x,hx,_⟩:=hσ p hp;exact⟨_,hx,rfl⟩
theorem UW{fr:Fr}{σ σ1 σ':dC}{r q:Nat}{et:TypeId}{sz:Nat}{es es':List (List AV)}{e:Ent}(hs:SSet σ r (.arr et sz es) r (.arr et sz es') σ1)(hd:SDel σ1 q e σ')(hl:es'.length=es.length)(hok:iH sz es')
  (hb:∀(i:Nat) (x x':List AV),es[i]? =some x→es'[i]? =some x'→BorL σ [q] x x'):SGo ⟨fr,σ⟩ ⟨fr,σ'⟩:=by
 refine PB [q] (fun i x' hi=>⟨x',hi,.refl _⟩) (fun p hp=> ?_);obtain⟨h1,h2⟩:=hd.sub p hp;refine⟨by simpa using h2, ?_⟩;rcases List.mem_cons.1 (hs.sub p h1)with rfl|h
 ·refine⟨_,bV hs.get,fun M F N w hr hx=> ?_⟩;obtain⟨g0,g1,g2⟩:=hx;refine⟨g0,hok, ?_⟩;rcases g2 with⟨k1,k2⟩|⟨g,c,vs,k1,k2,k3,k4,k5,k6⟩
  ·refine .inl ⟨k1, ?_⟩;subst k2;exact List.length_eq_zero_iff.1 hl
  ·refine .inr ⟨g,c,vs,k1,k2,k3,by rw[hl];exact k4,k5,fun i x' j a' u hi hj hu=> ?_⟩;have hil:=(List.getElem?_eq_some_iff.1 hi).1;have hx:es[i]? =some (es[i]'(by omega)):=List.getElem?_eq_getElem (by omega);obtain⟨hbl,hbe⟩:=(hb i _ x' hx hi).at_;have hjl:=(List.getElem?_eq_some_iff.1 hj).1;have ha:(es[i]'(by omega))[j]? =some ((es[i]'(by omega))[j]'(by omega)):=List.getElem?_eq_getElem (by omega);refine(hbe j a' hj).vr hr ?_;rw[List.getD_eq_getElem?_getD,ha,Option.getD_some];exact k6 i _ j _ u hx ha hu
 ·exact⟨p.2,(fM h).1,fun M F N w hr hx=>hx.mono (fun _ _ h=>h) (fun _ h=>.inl h) (fun _ _=>rfl) (fun _ _=>rfl)⟩
section
variable {P : Program} {n : Nat} {s : ASt} {K : ASt → Prop} {ty t u : TypeId} {x : Operand} {d : Nat}
theorem EK(w:World)(g n k:Nat)(h:k≠g):(w.freeze ⟨g,n,none⟩ 1).heap[k]? =w.heap[k]? :=by
 simp[World.freeze,Array.getElem?_modify,Ne.symm h]
theorem XQ(w:World)(g n:Nat){vs:Array Value}{e:TypeId}{fz:Nat×Nat}(h:w.heap[g]? =some (.cells vs e fz)):(w.freeze ⟨g,n,none⟩ 1).heap[g]? =some (.cells vs e (if fz.1==fz.2 then(n,n+1)else(min fz.1 n,max fz.2 (n+1)))):=by
 obtain⟨lo,hi⟩:=fz;simp[World.freeze,Array.getElem?_modify,h]
theorem HS{e:TypeId} [Ty P t (.slice e)] [Ty P e (.int .u8)] {r len:Nat}{et:TypeId}{es:List (List AV)}(he:et≠3)(hx:aev s x=some (.own r 0 len))(hg:fZ s.σ r=some (.arr et 1 es))(hpos:0<len)(hd:d<n)
  (hK:K ⟨(d,.own r 0 len)::s.fr,CA s.σ r (.arr et 1 es)⟩):Hop P n (.convert t t x) ty (some d) s [r] K:=by
 intro M F N a w o ho hty hdst hr next Q hnext
 have hbase:=hr.aev hx;have hmem:=bV hg;obtain⟨h0,hrows,h3⟩:=hr.st.ent _ hmem;generalize hu:a.eval x=v at hbase;cases hbase with
 |own0=>omega
 |own hM hle hmm=>
  rcases h3 with⟨hv',_⟩|⟨g,c,vs,hM',hcl,hsz,hlc,hmax,hvr⟩
  ·rw[hM]at hv';cases hv'
  ·have hg':=hM'.symm.trans hM;simp only[Option.some.injEq,Blk'.row.injEq]at hg';obtain⟨q1,q2,q3⟩:=hg';subst q1;subst q2;obtain⟨fz,hcl,hz⟩:=hcl;have hsh:w.shape? g=some (et,vs.size):=by simp[World.shape?,hcl]
   have hex:(execOp a.eval o).run P w=.ok (.value (.slice (some ⟨g,0,none⟩) len (c-0))) (w.freeze ⟨g,vs.size,none⟩ 1):=by
    simp[execOp,ho,hu,convert,run_underlying (Ty.und (P:=P) (t:=t)),run_underlying (Ty.und (P:=P) (t:=e)),markStringish,hsh]
   unfold Oper.wp;rw[hex,Oper.upon_value,hdst];have hbl:bO M r=some g:=by simp[bO,hM]
   have hF:¬F g:=hr.st.nof g ⟨_,hmem,hbl⟩;have honly:Only (fun k=>k=g) w (w.freeze ⟨g,vs.size,none⟩ 1):=⟨rfl,rfl,rfl,by simp[World.freeze],fun k _ hne=>EK w g vs.size k hne⟩
   have hSame:Same F w (w.freeze ⟨g,vs.size,none⟩ 1):=fun b hb=>EK w g vs.size b (fun e=>hF (e▸hb))
   have hE:ER M F (w.freeze ⟨g,vs.size,none⟩ 1) r (.arr et 1 es):=by
    refine⟨h0,hrows,.inr ⟨g,c,vs,hM',⟨_,XQ w g vs.size hcl, ?_⟩,hsz,hlc,hmax,fun i x j b u hi hj hu=>(hvr i x j b u hi hj hu).mono (fun _ _ h=>h) (fun _ h=>h) hSame⟩⟩;refine⟨Or.inr ?_,fun e3=>absurd e3 he⟩;split
    ·exact Nat.le_refl _
    ·next hne=>
     rcases hz.1 with rfl|hz
     ·exact absurd rfl hne
     ·exact Nat.le_min.2 ⟨hz,Nat.le_refl _⟩
   obtain⟨r1,e1,o1⟩:=hr.set_ hmem hbl honly hE;have hv:=VR.own (M:=M) (F:=F) (w:=w.freeze ⟨g,vs.size,none⟩ 1) (t:=r) (off:=0) (len:=len) hM hle hmm;simp only[Nat.zero_mul]at hv;exact hnext M F N _ _ ⟨(d,.own r 0 len)::s.fr,_⟩ (r1.put hd hv) e1 o1 hK
theorem HT{e:TypeId} [Ty P u .string] [Ty P t (.slice e)] [Ty P e (.int .u8)] {b:List Nat}(hlt:∀c∈b,c<256)(hb:b.length≤maxLen)(hx:aev s x=some (.str (dI b)))(hd:d<n)
  (hK:K ⟨(d,.ro 1 (b.map aG) .any)::s.fr,s.σ⟩):Hop P n (.convert u t x) ty (some d) s [] K:=by
 intro M F N a w o ho hty hdst hr next Q hnext
 have hu:a.eval x=.string (dI b):=by
  have:=hr.aev hx;generalize a.eval x=v at this⊢;cases this;rfl
 have hsz:(dI b).size=b.length:=by simp[dI,ByteArray.size]
 have hrun:=Lib.run_convert_string_bytes (P:=P) w u t e (dI b) (Ty.und (P:=P) (t:=u)) (Ty.und (P:=P) (t:=t)) (Ty.und (P:=P) (t:=e));have hex:(execOp a.eval o).run P w=.ok (.value (.slice (some ⟨w.heap.size,0,none⟩) b.length (grownCap w b.length 0 e))) (Lib.bytesWorld w e (dI b)):=by
  rw[hsz]at hrun;simp[execOp,ho,hu,hrun]
 unfold Oper.wp;rw[hex,Oper.upon_value,hdst];have hold:∀k,k<w.heap.size→(Lib.bytesWorld w e (dI b)).heap[k]? =w.heap[k]? :=fun k hk=>Lib.bytesWorld_at_old w e (dI b) k hk
 have hgs:(Lib.bytesWorld w e (dI b)).heap.size=w.heap.size+1:=Lib.bytesWorld_size w e (dI b);have hSame:Same F w (Lib.bytesWorld w e (dI b)):=fun g hg=>hold g (hr.st.flt g hg)
 have hsr:=hr.st.growF hold (by omega) (Nat.le_refl _) (by omega:w.heap.size<(Lib.bytesWorld w e (dI b)).heap.size);have hcell:∀(i:Nat) (c:Nat),b[i]? =some c→(Lib.bytesWorld w e (dI b)).cell? ⟨w.heap.size,i,none⟩=some (.int .u8 (c:Int)):=by
  intro i c hc;have hil:=(List.getElem?_eq_some_iff.1 hc).1;rw[Lib.bytesWorld_cell w e (dI b) i (by omega)];have hm:(dI b).data.toList=b.map UInt8.ofNat:=by simp[dI]
  have hc2:=hlt c (List.mem_of_getElem? hc);rw[hm,List.getD_eq_getElem?_getD,List.getElem?_map,hc];simp[Nat.mod_eq_of_lt hc2]
 have hv:VR M (fun g=>F g∨g=w.heap.size) (Lib.bytesWorld w e (dI b)) (.ro 1 (b.map aG) .any) (.slice (some ⟨w.heap.size,0,none⟩) b.length (grownCap w b.length 0 e)):=by
  have:=VR.ro (M:=M) (F:=fun g=>F g∨g=w.heap.size) (w:=Lib.bytesWorld w e (dI b)) (es:=b.map aG) (k:=.any) (b:=w.heap.size) (o:=0) (sz:=1) (cap:=grownCap w b.length 0 e) (us:=fun i j=>.int .u8 ((b[i]!):Int)) (.inr rfl)
   (by intro y hy;obtain⟨c,-,rfl⟩:=List.mem_map.1 hy;exact⟨rfl,by simp[aG,AV.cell]⟩)
   (fun i y j v hi hj=>by
    simp only[List.getElem?_map,Option.map_eq_some_iff]at hi;obtain⟨c,hc,rfl⟩:=hi
    match j,hj with
    |0,hj=>
     have hil:=(List.getElem?_eq_some_iff.1 hc)
     rw[Nat.zero_add,Nat.mul_one,Nat.add_zero,hcell i c hc,getElem!_pos b i hil.1,hil.2]
    |j+1,hj=>cases hj)
   (fun i y j v hi hj=>by
    simp only[List.getElem?_map,Option.map_eq_some_iff]at hi;obtain⟨c,hc,rfl⟩:=hi
    match j,hj with
    |0,hj=>
     have hil:=(List.getElem?_eq_some_iff.1 hc)
     obtain rfl:=Option.some.inj hj;rw[getElem!_pos b i hil.1,hil.2];exact .int _ _
    |j+1,hj=>cases hj)
   (by simpa using grownCap_ge w b.length 0 e) (grownCap_le_maxLen w b.length 0 e hb) (fun h=>by cases h) (fun h=>by cases h)
  rwa [List.length_map]at this
 have honly:∀S,Only S w (Lib.bytesWorld w e (dI b)):=fun S=>⟨rfl,rfl,rfl,by omega,fun k hk _=>hold k hk⟩
 have hext:Ext M F N w s.σ M (fun g=>F g∨g=w.heap.size) N (Lib.bytesWorld w e (dI b)) s.σ:=by
  refine⟨fun _ _ h=>h,fun _ h=>.inl h,Nat.le_refl _,honly _,fun _ h _=>h,fun g hg=> ?_,fun p hp _=>⟨p,hp,rfl⟩⟩;rcases hg with hg|rfl
  ·exact .inl hg
  ·exact .inr (.inl (Nat.le_refl _))
 have hr2:Rel M (fun g=>F g∨g=w.heap.size) N n s a (Lib.bytesWorld w e (dI b)):=hr.step hext hsr rfl;exact hnext M _ N _ _ ⟨(d,.ro 1 (b.map aG) .any)::s.fr,s.σ⟩ (hr2.put hd hv) hext (honly _) hK
end
section
variable {P : Program} {n : Nat} {ops : Array Oper} {rest : List Oper} {fr : Fr} {σ σ' : dC} {K : ASt → Prop} {ty t u : TypeId} {pos : String} {af : Array Edge} {x : Operand} {d : Nat}
theorem cvm{e:TypeId} [Ty P t (.slice e)] [Ty P e (.int .u8)] {r len:Nat}{et:TypeId}{es:List (List AV)}(hs:SSet σ r (.arr et 1 es) r (.arr et 1 es) σ')(hpos:0<len)(hK:RS P n ops rest ⟨(d,.own r 0 len)::fr,σ'⟩ K)
  (hx:aev ⟨fr,σ⟩ x=some (.own r 0 len):=by rfl) (hd:Nat.ble (d+1) n=true:=by rfl) (he:et≠3:=by decide):RS P n ops (⟨some d,.convert t t x,ty,pos,af,none⟩::rest) ⟨fr,σ⟩ K:=
 fW (HS he hx hs.get hpos (cI hd) (AI (s:=⟨_,_⟩) (fun p hp=>hs.sub p hp) hK))
theorem cvb{e:TypeId} [Ty P u .string] [Ty P t (.slice e)] [Ty P e (.int .u8)] {b:List Nat}(hlt:∀c∈b,c<256)(hK:RS P n ops rest ⟨(d,.ro 1 (b.map aG) .any)::fr,σ⟩ K)(hb:b.length≤maxLen:=by(simp[maxLen];omega))
  (hx:aev ⟨fr,σ⟩ x=some (.str (dI b)):=by rfl) (hd:Nat.ble (d+1) n=true:=by rfl):RS P n ops (⟨some d,.convert u t x,ty,pos,af,none⟩::rest) ⟨fr,σ⟩ K:=
 fW (HT hlt hb hx (cI hd) hK)
end
theorem LO(bs:List Nat)(l h:Nat):(dI bs).extract l h=dI ((bs.drop l).take (h-l)):=by
 have:((dI bs).extract l h).data=(dI ((bs.drop l).take (h-l))).data:=by
  rw[ByteArray.data_extract];simp[dI,List.extract_eq_take_drop]
 cases h1:(dI bs).extract l h
 rw[h1]at this;simp only at this;rw[this]
section
variable {P : Program} {ty t : TypeId} {s : ASt} {c : Bool} {x : Operand}
theorem HU [Ty P t .string] {bs:List Nat}{lo hi:Option Operand}{l h:Nat}(hx:Ev s c x (.str (dI bs)))(hl:OB s c 0 lo l)(hh:OB s c bs.length hi h)(h1:c=true→l≤h∧h≤bs.length):
  Lop P (.slice t x lo hi none) ty s c (.str (dI ((bs.drop l).take (h-l)))) []:=
 Lop.pure_ fun M F N n a w hr hc=>by
  obtain⟨h1,h2⟩:=h1 hc;have hlb:VB 0 (lo.map a.eval) l:=hl.vb hr hc;have hhb:VB bs.length (hi.map a.eval) h:=hh.vb hr hc;have hsz:(dI bs).size=bs.length:=by simp[dI,ByteArray.size]
  have hb:∀(k:IntKind) (b y:Nat) (code:BoundsCode) (w:World),b≤y→(Instr.sliceBound (.int k b) y code).run P w=.ok b w:=fun k b y code w hby=>by
   rw[run_sliceBound w k b y code (by omega) (by omega)];simp
  refine⟨_,.str _,fun w' o ho _=> ?_⟩;have key2:∀(lo' hi':Option Value),VB 0 lo' l→VB bs.length hi' h→(Instr.sliceBounds false bs.length bs.length lo' hi' none).run P w'=.ok (l,h,bs.length) w':=by
   intro lo' hi' k1 k2;cases k1<;>cases k2<;>simp[Instr.sliceBounds,hb,h1,h2]
  have key:=key2 _ _ hlb hhb;have hrun:(Instr.sliceAt t (.string (dI bs)) (lo.map a.eval) (hi.map a.eval) none).run P w'=.ok (.string (dI ((bs.drop l).take (h-l)))) w':=by
   simp[Instr.sliceAt,Instr.slice,run_underlying (Ty.und (P:=P) (t:=t)),hsz,key,LO]
  simp[execOp,ho,hx.str hr hc,hrun]
theorem xJ [Ty P t .string] {bs:List Nat}{y:Operand}{ki:IntKind}{m:Int}{b:Nat}(hx:Ev s c x (.str (dI bs)))(hi:Ev s c y (.int ki m))(hm:c=true→0≤m)(hv:c=true→bs[m.toNat]? =some b)(hb:c=true→b<256):Lop P (.index t x y) ty s c (.int .u8 b) []:=
 Lop.pure_ fun M F N n a w hr hc=>by
  have hm:=hm hc;have hv:=hv hc;have hb:=hb hc;have hg:(dI bs)[m.toNat]? =some (UInt8.ofNat b):=by
   have hlt:=(List.getElem?_eq_some_iff.1 hv).1;have e:(dI bs).size=bs.length:=by simp[dI,ByteArray.size]
   rw[getElem?_pos (dI bs) m.toNat (by rw[e];exact hlt)];have h2:=(List.getElem?_eq_some_iff.1 hv).2;simp[ByteArray.getElem_eq_getElem_data,dI,h2]
  refine⟨_,.int _ _,fun w' o ho _=> ?_⟩;simp[execOp,ho,hx.str hr hc,hi.int hr hc,Instr.index,asIntOf,run_underlying (Ty.und (P:=P) (t:=t)),hm,hg];omega
end
section
variable {P : Program} {n : Nat} {ops : Array Oper} {fr : Fr} {σ : dC} {K : ASt → Prop} {ty t : TypeId} {d : Nat} {x y : Operand} {listed : Array Bool} {todo : List (Nat × Bool)} {held : List (Nat × List Nat)}
theorem aGI{e:TypeId}{sz by_:Nat}{zv:Value}{r len:Nat}{es ys:List (List AV)}(es':List (List AV))(len':Nat)
  (hK:∀r',Fresh r' (dS [r] σ)→∃σ',SSet σ r (.arr e sz es) r' (.arr e sz es') σ'∧RD P n ops listed todo held ⟨(d,.own r' 0 len')::fr,σ'⟩ K)
  (i1:Ty P t (.slice e):=by infer_instance) (i2:Tz P e sz by_ zv:=by infer_instance) (hz:zv.cells.size=sz:=by rfl) (hx:aev ⟨fr,σ⟩ x=some (.own r 0 len):=by rfl) (hg:fZ σ r=some (.arr e sz es):=by exact bC) (hlen:len=es.length:=by exact LG) (hy:Src ⟨fr,σ⟩ y sz ys:=by exact aDh)
  (he:es++ys=es':=by exact aGz) (hl':len'=len+ys.length:=by exact LG) (hmax:len'≤maxLen:=by(simp[maxLen];try omega)) (hby:len'*by_≤140737488355328:=by(simp;try omega)) (hd:Nat.ble (d+1) n=true:=by rfl):
  Hop P n (.call { callee:=.builtin .append,args:=#[x,y],argTypes:=#[t,t] }) ty (some d) ⟨fr,σ⟩ [r] (fun s'=>RD P n ops listed todo held s' K):=by
 subst he hl';refine pT hz hx hg (by omega) hy hmax hby (cI hd) fun r' hf=> ?_
 obtain⟨σ',hs,hK⟩:=hK r' hf;rw[hlen,List.take_length];refine DQ (fun p hp=>hs.sub p hp) ?_;rw[←hlen];exact hK
theorem mV{f:FuncId}{xs:List Operand}{ats:Array TypeId}{args:List AV}{R:AV→dC→Prop}(hf:∀args w,(callFunc f args).run P w=.ok (.enter f args) w)(h:SCall P f args [] R)(hd:d<n)
  (hK:∀x σ',R x σ'→(∀p∈σ',Fresh p.1 σ)→K ⟨(d,x)::fr,σ'++σ⟩) (hargs:ArgsBor ⟨fr,σ⟩ (σ.map (·.1)) xs args:=by exact bM) (hno:∀x σ',R x σ'→NoF x∧∀p∈σ',ENoF p.2:=by exact kA):
  Hop P n (.call { callee:=.value (.func f),args:=xs.toArray,argTypes:=ats }) ty (some d) ⟨fr,σ⟩ [] K:=qU (s:=⟨fr,σ⟩) _ hf h hd hargs hno hK
end
section
variable {P : Program} {n : Nat} {ops : Array Oper} {fr : Fr} {σ : dC} {K : ASt → Prop} {listed : Array Bool} {todo : List (Nat × Bool)} {held : List (Nat × List Nat)}
theorem aJf{s s':ASt}(hgo:SGo s s')(h:RD P n ops listed todo held s' K):RD P n ops listed todo held s K:=by
 intro hsel hc M F N a w hr;obtain⟨M1,F1,N1,hr1,he1⟩:=hgo M F N n a w hr;refine iZ (PostN.ext he1) (fun j g hg=> ?_) _ _ _ _ (h hsel hc M1 F1 N1 a w hr1);rcases hg with hg|⟨r,hr,hb⟩
 ·exact .inl (he1.ff g hg)
 ·refine .inr ⟨r,hr, ?_⟩;unfold bO at hb⊢;cases hm:M r with
  |none=>rw[hm]at hb;cases hb
  |some b=>rw[he1.mm r b hm];rw[hm]at hb;exact hb
theorem aJg{j q:Nat}{v v':AV}{e:Ent}{σ':dC}(hx:dD fr j=some v)(hd:SDel σ q e σ')(hb:Bor σ [q] v v')(hK:RD P n ops listed todo held ⟨(j,v')::fr,σ'⟩ K):RD P n ops listed todo held ⟨fr,σ⟩ K:=aJf (LH hx hd hb) hK
end
theorem zL{P:Program}{rs:Array ResultVar}{R:AV→dC→Prop}{s s':ASt}(hgo:SGo s s')(h:KH P rs R .normal s'):KH P rs R .normal s:=cL (aCL hgo h)
theorem UX{P:Program}{n:Nat}{op:Op}{ty:TypeId}{d:Nat}{s:ASt}{v:AV}{rs:List Nat}{K:ASt→Prop}(h:Lop P op ty s true v rs)(hd:d<n)(hK:K (s.put d v)):Hop P n op ty (some d) s [] K:=by
 intro M F N a w o ho ht hdst hr next Q hnext
 obtain⟨u,hu,hrun⟩:=h.2 M F N n a w hr rfl;obtain⟨dst,op',ty',pos,after,guard⟩:=o;dsimp only at ho ht hdst;subst ho ht hdst;unfold Oper.wp;rw[hrun w _ rfl rfl (fun _ _=>rfl)];exact hnext _ _ _ _ _ _ (hr.put hd hu) (Ext.refl _ _ _ _ _) (Only.refl _ _) hK
theorem dhl{P:Program}{n i d:Nat}{ops:Array Oper}{listed:Array Bool}{todo:List (Nat×Bool)}{held:List (Nat×List Nat)}{fr:Fr}{σ:dC}{K:ASt→Prop}{op:Op}{ty:TypeId}{pos:String}{af:Array Edge}{v:AV}{rs:List Nat}(hi:ops[i]? =some ⟨some d,op,ty,pos,af,none⟩)(h:Lop P op ty ⟨fr,σ⟩ true v rs)(hd:Nat.ble (d+1) n=true)(hK:RD P n ops (listed.setIfInBounds i true) todo held ⟨(d,v)::fr,σ⟩ K):
  RD P n ops listed ((i,false)::todo) held ⟨fr,σ⟩ K:=uR hi (UX h (cI hd) hK)
end Go.Proofs.YtjpdadobblffmaaGreat
