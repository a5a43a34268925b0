import Derived.Test.YtjpdadobblffmaaGreatJA2
import Derived.Test.YtjpdadobblffmaaGreatJA1
import Derived.ChangeOld
import Derived.WalkKit
import Derived.ProofKit
import Derived.OpenShut
import Derived.Lib.AppendStr
import Derived.Lib.ConvBytes
set_option linter.unusedSimpArgs false
set_option linter.unusedVariables false
set_option maxRecDepth 100000
set_option maxHeartbeats 4000000
open And renaming intro->Bl
open Bool renaming and_eq_true->Ap,false_eq_true->Ag
open Int renaming eq_ofNat_of_zero_le->Bh,toNat_natCast->Bc
open List renaming all_eq_true->Bw,append_assoc->Aq,append_nil->Be,drop_zero->Bu,flatMap_append->Bo,getD_eq_getElem?_getD->Ax,getElem?_append_left->Ba,getElem?_append_right->A6,getElem?_drop->Bb,getElem?_eq_getElem->Ar,getElem?_eq_some_iff->Ai,getElem?_map->Bg,getElem?_take_of_lt->A2,length_append->Ao,length_cons->Bj,length_drop->Bv,length_map->Az,length_take->Bi,map_append->Bx,map_cons->Bn,map_nil->B3,mem_append->A8,mem_cons->Av,mem_cons_of_mem->An,mem_cons_self->Au,mem_map->Bm,mem_of_getElem?->Ah,mem_of_mem_take->Bf,mem_singleton->A1,take_add_one->Al,take_length->Aw,take_of_length_le->Aj
open Nat renaming add_assoc->By,ble->Bp,le_refl->A3,le_trans->A4,mul_le_mul_right->Bq,zero_add->B2,zero_le->Am
open Option renaming getD_some->Bz
open Go.Proofs.Tryz
namespace Go.Proofs.YtjpdadobblffmaaGreat
open Go.RowKit Go.ChangeShapes Go.WideShapes Go.ChangeAt Go.Deep
attribute [local irreducible] SW RS RD fE eA
structure Ins where
 op:Int
 a:Int
 b:Int
 l:List Int
def iv (k:Rk) (x:Ins):List AV:=[.int .i64 x.op,.int .i64 x.a,.int .i64 x.b,.ro 1 (x.l.map aK) k]
def Ins.Ok (x:Ins):Prop:=-9223372036854775808<=x.op/\x.op<=9223372036854775807/\ -9223372036854775808<=x.a/\x.a<=9223372036854775807/\x.l.length<=9223372036854775807
theorem mS(n a b:Int):SCall prog 218 [.int .i64 n,.int .i64 a,.int .i64 b] [] (fun x Y=>x=.bool (qQ n a b)/\Y=[]):=by
 refine bO 15 [0,1,2,6] func218 ?_;refine mO ?_;refine MK ?_;refine z4 ?_;refine z54 ?_;refine tW ?_;exact aD aE ⟨by rfl,rfl⟩ aA
theorem xX(n:Int):SCall prog 219 [.int .i64 n] [] (fun x Y=>x=.bool (qQ n 0 1000)/\Y=[]):=by
 refine bO 5 [0,2] func219 ?_;refine fK ?_;(refine pu [] call218 (mS _ _ _) rfl fY bH ?_);refine cN ?_;exact aD aE ⟨by rfl,rfl⟩ aA
theorem GM:aDs prog 220 [] [] (fun n=> !qQ n 0 1000):=by
 refine⟨call220,fun n=> ?_⟩;refine bO 6 [0,2] func220 ?_;refine fK ?_;(refine pu [] call219 (xX _) rfl fY bH ?_);refine Cd ?_;refine cN ?_;exact aD aE ⟨by rfl,rfl⟩ aA
theorem xY(op:Int):SCall prog 217 [.int .i64 op] [] (fun x Y=>x=.int .i64 (aW op)/\Y=[]):=by
 have:=XV op
 rwa [aMW]at this
theorem MU(op:Int)(h:-9223372036854775808<=op/\op<=9223372036854775807):SCall prog 250 [.int .i64 op] [] (fun x Y=>x=.int .i64 (aW op)/\Y=[]):=by
 have:=aDq op
 rwa [aJ1 op h]at this
def jN (x:Ins) (f:Int):Bool:=if(if(f !=4)=true then decide (0<(x.l.length:Int))else false)=true then true else if(f !=6)=true then(x.b !=0)else false
def cY (x:Ins):Bool:=
 if jN x (aW x.op)=true then false
 else if(aW x.op==1||aW x.op==7)=true then(x.a==0)
 else if(aW x.op==2)=true then qQ x.a 0 2
 else if(aW x.op==3||aW x.op==5)=true then qQ x.a 0 1000
 else if(aW x.op==4)=true then(if(if qQ x.a 0 1000=true then decide ((x.l.length:Int)<=50)else false)=true then !(x.l.any fun n=> !qQ n 0 1000)else false)
 else if(aW x.op==6)=true then(if qQ x.a 0 3=true then qQ x.b 0 4294967295 else false)
 else if(aW x.op==8)=true then qQ x.a (-2147483648) 2147483647
 else(aW x.op==9)
theorem aGj(a b:Int):(if(if(if decide (0<=a)=true then decide (a<=3)else false)=true then decide (0<=b)else false)=true then decide (b<4294967296)else false)=
  (if(if decide (0<=a)=true then decide (a<=3)else false)=true then(if decide (0<=b)=true then decide (b<=4294967295)else false)else false):=by
 rw[show decide (b<=4294967295)=decide (b<4294967296) by rw[decide_eq_decide];omega];generalize(if decide (0<=a)=true then decide (a<=3)else false)=b1;cases b1<;>simp
theorem aGk(a:Int):(if decide (-2147483648<=a)=true then decide (a<2147483648)else false)=(if decide (-2147483648<=a)=true then decide (a<=2147483647)else false):=by
 rw[show decide (a<=2147483647)=decide (a<2147483648) by rw[decide_eq_decide];omega]
theorem aBI(k:Rk)(x:Ins):SCall prog 111 [.agg (iv k x)] [] (fun r Y=>r=.bool (cY x)/\Y=[]):=by
 refine bO 76 [0,1,2,3,23,24,25,31,36,42,59,69,74] func111 ?_;unfold iv;refine dB ?_;refine fZ fun r1 h1=> ?_;intros;refine iO ?_;(refine pu [] call217 (xY _) rfl fY bH ?_);refine gX ?_;refine B9 ?_;refine qP ?_;refine z63 ?_;refine z18 ?_;refine z7 ?_;refine AZ ?_;refine z64 ?_;refine z8 ?_;refine z65 ?_;refine z66 ?_;refine z11 ?_;refine z12 ?_;refine XP ?_;refine iM ?_;refine aB rfl ?_ ?_<;>intro g1
 ·refine cV ?_;apply aD;exact aE
  ·(unfold cY jN;simp only[g1,Dd,De,Ag];exact⟨rfl,rfl⟩)
  ·exact aA
 refine dG ?_;refine rP ?_;apply fJ rfl;exact cP
 ·intro _;(refine aI ?_);refine eU ?_;exact aH
 refine aI ?_;refine aB rfl ?_ ?_<;>intro g2
 ·refine eY ?_;refine SS ?_;apply aD;exact aE
  ·(unfold cY jN;simp only[g1,g2,Dd,De,Ag];exact⟨rfl,rfl⟩)
  ·exact aA
 refine cZ ?_;refine aB rfl ?_ ?_<;>intro g3
 ·refine eY ?_;(refine pu [] call218 (mS _ _ _) rfl fY bH ?_);refine cN ?_;apply aD;exact aE
  ·(unfold cY jN;simp only[g1,g2,g3,Dd,De,Ag];exact⟨rfl,rfl⟩)
  ·exact aA
 refine cZ ?_;apply fJ rfl;exact cP
 ·intro _;(refine aI ?_);refine eU ?_;exact aH
 refine aI ?_;refine aB rfl ?_ ?_<;>intro g4
 ·refine eY ?_;(refine pu [] call219 (xX _) rfl fY bH ?_);refine cN ?_;apply aD;exact aE
  ·(unfold cY jN;simp only[g1,g2,g3,g4,Dd,De,Ag];exact⟨rfl,rfl⟩)
  ·exact aA
 refine cZ ?_;refine aB rfl ?_ ?_<;>intro g5
 ·refine eY ?_;(refine pu [] call219 (xX _) rfl fY bH ?_);refine qP ?_;refine z63 ?_;refine z55 ?_;refine z7 ?_;refine qP ?_;(refine pug [] rfl rfl call89 (fun _=>(EI GM x.l)) rfl fY bH ?_);refine z67 ?_;refine tW ?_;apply aD;exact aE
  ·(unfold cY jN;simp only[g1,g2,g3,g4,g5,Dd,De,Ag];exact⟨rfl,rfl⟩)
  ·exact aA
 refine cZ ?_;refine aB rfl ?_ ?_<;>intro g6
 ·refine eY ?_;(refine pu [] call218 (mS _ _ _) rfl fY bH ?_);refine qP ?_;(refine pug [] rfl rfl call218 (fun _=>(mS _ _ _)) rfl fY bH ?_);refine kA ?_;apply aD;exact aE
  ·(unfold cY jN;simp only[g1,g2,g3,g4,g5,g6,Dd,De,Ag];exact⟨rfl,rfl⟩)
  ·exact aA
 refine cZ ?_;refine aB rfl ?_ ?_<;>intro g7
 ·refine eY ?_;(refine pu [] call218 (mS _ _ _) rfl fY bH ?_);refine cN ?_;apply aD;exact aE
  ·(unfold cY jN;simp only[g1,g2,g3,g4,g5,g6,g7,Dd,De,Ag];exact⟨rfl,rfl⟩)
  ·exact aA
 refine cZ ?_;refine aB rfl ?_ ?_<;>intro g8
 ·refine cV ?_;apply aD;exact aE
  ·(unfold cY jN;simp only[g1,g2,g3,g4,g5,g6,g7,g8,Dd,De,Ag];exact⟨rfl,rfl⟩)
  ·exact aA
 refine cV ?_;apply aD;exact aE
 ·(unfold cY jN;simp only[g1,g2,g3,g4,g5,g6,g7,g8,Dd,De,Ag];exact⟨rfl,rfl⟩)
 ·exact aA
theorem PE(k:Rk)(x:Ins)(hx:x.Ok):SCall prog 156 [.agg (iv k x)] [] (fun r Y=>r=.bool (cY x)/\Y=[]):=by
 have hop:-9223372036854775808<=x.op/\x.op<=9223372036854775807:=⟨hx.1,hx.2.1⟩
 have hl:=hx.2.2.2.2;refine bO 122 [0,1,2,3,4,24,25,26,32,42,53,59,75,90,110] func156 ?_;unfold iv;refine dB ?_;refine fZ fun r1 h1=> ?_;intros;refine iO ?_;(refine pu [] call250 (MU _ (by assumption)) rfl fY bH ?_);refine gX ?_;refine B9 ?_;refine qP ?_;refine z63 ?_;refine z18 ?_;refine z7 ?_;refine AZ ?_;refine z64 ?_;refine z8 ?_;refine z65 ?_;refine z66 ?_;refine z11 ?_;refine z12 ?_;refine XP ?_;refine iM ?_;refine aB rfl ?_ ?_<;>intro g1
 ·refine cV ?_;apply aD;exact aE
  ·(unfold cY jN qQ;simp only[g1,Dd,De,Ag];exact⟨rfl,rfl⟩)
  ·exact aA
 refine dG ?_;refine rP ?_;apply fJ rfl;exact cP
 ·intro _;(refine aI ?_);refine eU ?_;exact aH
 refine aI ?_;refine aB rfl ?_ ?_<;>intro g2
 ·refine eY ?_;refine SS ?_;apply aD;exact aE
  ·(unfold cY jN qQ;simp only[g1,g2,Dd,De,Ag];exact⟨rfl,rfl⟩)
  ·exact aA
 refine cZ ?_;refine aB rfl ?_ ?_<;>intro g3
 ·refine IM ?_;refine qP ?_;refine z55 ?_;refine tW ?_;apply aD;exact aE
  ·(unfold cY jN qQ;simp only[g1,g2,g3,Dd,De,Ag];exact⟨rfl,rfl⟩)
  ·exact aA
 refine cZ ?_;apply fJ rfl;exact cP
 ·intro _;(refine aI ?_);refine eU ?_;exact aH
 refine aI ?_;refine aB rfl ?_ ?_<;>intro g4
 ·refine IM ?_;refine qP ?_;refine z55 ?_;refine tW ?_;apply aD;exact aE
  ·(unfold cY jN qQ;simp only[g1,g2,g3,g4,Dd,De,Ag];exact⟨rfl,rfl⟩)
  ·exact aA
 refine cZ ?_;refine aB rfl ?_ ?_<;>intro g5
 ·refine cV ?_;refine lp (β:=Nat) (fun j=>⟨[(1,.ptr r1 0),(4,.int .i64 j)],[(r1,.box 46 [.int .i64 x.op,.int .i64 x.a,.int .i64 x.b,.ro 1 (x.l.map aK) k])]⟩) (fun j=>j<=x.l.length/\(x.l.take j).any (fun n=> !qQ n 0 1000)=false) (fun j=>x.l.length-j) 0 (by(exact aH)) ⟨Am _,rfl⟩ ?_;rintro j ⟨hj,ht⟩;refine kJ ?_;refine aB rfl (fun h1=> ?_) (fun h1=> ?_)
  ·have hlt:j<x.l.length:=by simp at h1;omega
   refine eY ?_;refine nX ?_;refine lo (iI (E rfl) (E rfl)) rfl ?_;refine qP ?_;refine z4 ?_;refine z71 ?_;refine z72 ?_;refine z18 ?_;refine XP ?_;refine iM ?_;rw[Bc];have hb:(if decide (x.l[j]! <0)=true then true else decide (1000<x.l[j]!))= !qQ x.l[j]! 0 1000:=by
    rw[kW];generalize x.l[j]! =y;by_cases h3:y<0
    ·rw[decide_eq_true h3,Dc rfl,decide_eq_false U];rfl
    ·by_cases h4:1000<y
     ·rw[decide_eq_false h3,decide_eq_true h4,decide_eq_false U];rfl
     ·rw[decide_eq_false h3,decide_eq_false h4,decide_eq_true U];rfl
   rw[hb];refine aB rfl (fun h2=> ?_) (fun h2=> ?_)
   ·have ha:(x.l.any fun n=> !qQ n 0 1000)=true:=List.any_eq_true.2 ⟨x.l[j]!,by rw[getElem!_pos x.l j hlt];exact List.getElem_mem hlt,h2⟩;refine cV ?_;apply aD;exact aE
    ·unfold cY jN;simp only[g1,g2,g3,g4,g5,ha,Dd,De,Ag];exact⟨by simp[fM,cM],rfl⟩
    ·exact aA
   ·refine iN ?_;refine⟨j+1,⟨U, ?_⟩,U, ?_⟩
    ·rw[Al,List.any_append,ht,Ar hlt];rw[getElem!_pos x.l j hlt]at h2;simp only[Bool.false_or,Option.toList_some,List.any_cons,List.any_nil,Bool.or_false];exact h2
    ·exact aH
  ·obtain rfl:j=x.l.length:=by simp at h1;omega
   rw[Aw]at ht;refine IM ?_;refine qP ?_;refine z55 ?_;refine z7 ?_;refine qP ?_;refine z63 ?_;refine z55 ?_;refine tW ?_;apply aD;exact aE
   ·unfold cY jN;simp only[g1,g2,g3,g4,g5,ht,Dd,De,Ag];refine⟨?_,rfl⟩;unfold qQ;show AV.bool _=AV.bool _
    congr 1
    generalize(if decide (0<=x.a)=true then decide (x.a<=1000)else false)=b1;cases b1<;>simp
   ·exact aA
 refine cZ ?_;refine aB rfl ?_ ?_<;>intro g6
 ·refine IM ?_;refine qP ?_;refine z55 ?_;refine z7 ?_;refine qP ?_;refine z34 ?_;refine z7 ?_;refine qP ?_;refine z69 ?_;refine tW ?_;apply aD;exact aE
  ·(unfold cY jN qQ;simp only[g1,g2,g3,g4,g5,g6,Dd,De,Ag];exact⟨congrArg AV.bool (aGj x.a x.b),rfl⟩)
  ·exact aA
 refine cZ ?_;refine aB rfl ?_ ?_<;>intro g7
 ·refine IM ?_;refine qP ?_;refine z69 ?_;refine tW ?_;apply aD;exact aE
  ·(unfold cY jN qQ;simp only[g1,g2,g3,g4,g5,g6,g7,Dd,De,Ag];exact⟨congrArg AV.bool (aGk x.a),rfl⟩)
  ·exact aA
 refine dG ?_;refine SS ?_;apply aD;exact aE
 ·(unfold cY jN qQ;simp only[g1,g2,g3,g4,g5,g6,g7,Dd,De,Ag];exact⟨rfl,rfl⟩)
 ·exact aA
def eqN (x y:Ins):Bool:=decide (x.op=y.op/\x.a=y.a/\x.b=y.b/\x.l=y.l)
theorem aAz(x y:Ins):(if(if(if(x.op==y.op)=true then x.a==y.a else false)=true then x.b==y.b else false)=true then decide (x.l=y.l)else false)=eqN x y:=by
 unfold eqN;by_cases h1:x.op=y.op<;>by_cases h2:x.a=y.a<;>by_cases h3:x.b=y.b<;>simp[h1,h2,h3]
theorem aDt(k k2:Rk)(x y:Ins):SCall prog 122 [.agg (iv k x),.agg (iv k2 y)] [] (fun r Y=>r=.bool (eqN x y)/\Y=[]):=by
 refine bO 31 [0,1,2,3,4] func122 ?_;unfold iv;refine dB ?_;refine fZ fun r2 h2=> ?_;intros;refine fZ fun r3 h3=> ?_;intros;refine iO ?_;refine pD ?_;refine Ch ?_;refine qP ?_;refine z61 ?_;refine z62 ?_;refine z70 ?_;refine z7 ?_;refine qP ?_;refine z61 ?_;refine z62 ?_;refine z70 ?_;refine z7 ?_;refine qP ?_;refine z61 ?_;refine z62 ?_;(refine pug [] rfl rfl call116 (fun _=>(kQ x.l y.l)) rfl fY bH ?_);refine kA ?_;exact aD aE ⟨by exact congrArg AV.bool (aAz x y),rfl⟩ aA
theorem TK(k k2:Rk)(x y:Ins):SCall prog 268 [.agg (iv k x),.agg (iv k2 y)] [] (fun r Y=>r=.bool (eqN x y)/\Y=[]):=by
 refine bO 31 [0,1,2,3,4] func268 ?_;unfold iv;refine dB ?_;refine fZ fun r2 h2=> ?_;intros;refine fZ fun r3 h3=> ?_;intros;refine iO ?_;refine pD ?_;refine Ch ?_;refine qP ?_;refine z61 ?_;refine z62 ?_;refine z70 ?_;refine z7 ?_;refine qP ?_;refine z61 ?_;refine z62 ?_;refine z70 ?_;refine z7 ?_;refine qP ?_;refine z61 ?_;refine z62 ?_;(refine pug [] rfl rfl call47 (fun _=>(fT x.l y.l)) rfl fY bH ?_);refine kA ?_;exact aD aE ⟨by exact congrArg AV.bool (aAz x y),rfl⟩ aA
theorem TL{x:Ins}(h:aW x.op=0):cY x=false:=by
 unfold cY;split
 ·rfl
 ·simp[h]
theorem aGl{op:Int}(h:aW op≠0):0<=op/\op<=173:=by
 unfold aW jE TI at h;simp only[Bool.or_eq_true,beq_iff_eq,decide_eq_true_eq]at h;by_cases hc:0<=op/\op<=173
 ·exact hc
 ·exfalso;repeat rw[Db U]at h
  exact h rfl
theorem PF{x:Ins}(h:cY x=true):0<=x.op/\x.op<=173:=by
 refine aGl fun h0=> ?_
 rw[TL h0]at h;cases h
theorem aJ2{x:Ins}(h:cY x=true)(hf:(aW x.op==2)=true):0<=x.a/\x.a<=2:=by
 rw[beq_iff_eq]at hf;simp[cY,hf,kW]at h;omega
theorem aGm{x:Ins}(h:cY x=true)(hf:(aW x.op==3)=true):0<=x.a/\x.a<=1000:=by
 rw[beq_iff_eq]at hf;simp[cY,hf,kW]at h;omega
theorem aGn{x:Ins}(h:cY x=true)(hf:(aW x.op==5)=true):0<=x.a/\x.a<=1000:=by
 rw[beq_iff_eq]at hf;simp[cY,hf,kW]at h;omega
theorem aGo{x:Ins}(h:cY x=true)(hf:(aW x.op==4)=true):(0<=x.a/\x.a<=1000)/\x.l.length<=50/\∀n∈x.l,0<=n/\n<=1000:=by
 rw[beq_iff_eq]at hf;simp[cY,hf,kW]at h;obtain⟨h1,⟨h2,h3⟩,h4⟩:=h;exact⟨h2,U,h4⟩
theorem aGp{x:Ins}(h:cY x=true)(hf:(aW x.op==6)=true):0<=x.a/\x.a<=3/\0<=x.b/\x.b<=4294967295:=by
 rw[beq_iff_eq]at hf;simp[cY,hf,kW]at h;omega
def xZ (a:Int):Nat:=if a=0 then 64 else if a=1 then 127 else 126
def gG (x:Ins):List Nat:=
 if(aW x.op==2)=true then [xZ x.a]else if(aW x.op==3)=true then uB x.a.toNat else if(aW x.op==5)=true then uB x.a.toNat++ [0]
 else if(aW x.op==4)=true then uB x.l.length++(x.l.flatMap fun n=>uB n.toNat)++uB x.a.toNat else if(aW x.op==6)=true then uB x.a.toNat++uB x.b.toNat
 else if(aW x.op==7)=true then [0]else if(aW x.op==8||aW x.op==9)=true then sB x.a else []
def gT (x:Ins):List Nat:=x.op.toNat::gG x
theorem tX:∀ {l:List Int},(∀n∈l,0<=n/\n<=1000)->(l.flatMap fun n=>uB n.toNat).length<=2*l.length
 |[],_=>by simp
 |n::l,h=>by
  have ih:=tX (l:=l) fun m hm=>h m (An _ hm)
  have hn:=h n Au;have h1:=bJ 1 n.toNat U;simp only[List.flatMap_cons,Ao,Bj];omega
theorem aGq{a:Int}(h:0<=a/\a<=2):([.int .u8 64,.int .u8 127,.int .u8 126]:List AV)[a.toNat]? =some (.int .u8 (xZ a:Nat)):=by
 have:a=0\/a=1\/a=2:=by omega
 rcases this with rfl|rfl|rfl<;>rfl
theorem EJ(q:Nat)(vs:List Nat)(hvs:vs.length<=50000000)(k:Rk)(x:Ins)(hx:x.Ok)(hm:cY x=true):SCall prog 242 [.own q 0 vs.length,.agg (iv k x)] [(q,.arr 5 1 (vs.map aG))]
  (fun y Y=>∃r,y=.own r 0 (vs++gT x).length/\Y=[(r,.arr 5 1 ((vs++gT x).map aG))]):=by
 have f1:=PF hm;have f2:=aJ2 hm;have f3:=aGm hm;have f4:=aGo hm;have f5:=aGn hm;have f6:=aGp hm;have f8:-9223372036854775808<=x.a/\x.a<=9223372036854775807:=⟨hx.2.2.1,hx.2.2.2.1⟩
 obtain⟨op,ai,bi,l⟩:=x;dsimp only at f1 f2 f3 f4 f5 f6 f8;obtain⟨op,rfl⟩:=Bh f1.1;have hvo:vs++gT ⟨(op:Int),ai,bi,l⟩=(vs++ [op])++gG ⟨(op:Int),ai,bi,l⟩:=by simp[gT]
 rw[hvo];obtain⟨us,hus⟩:∃us,us=vs++ [op]:=⟨_,rfl⟩
 have hul:us.length<=50000001:=by rw[hus];simp;omega
 refine bO 90 [0,1,3,4,6,15,16,25,32,41,50,51,52,53,66,77,82] func242 ?_;unfold iv;dsimp only;refine dB ?_;refine fZ fun r3 h3=> ?_;intros;refine gX ?_;refine pD ?_;refine z0 ?_;refine eN fun r11 h11=> ?_;intros;apply ap (es':=(vs++ [op]).map aG) (len':=(vs++ [op]).length);rfl;rfl;exact bR
 ·simp
 ·exact .inr (.inr ⟨_,_,_,_,_,rfl,bR,X,rfl⟩)
 ·(simp[aG];done)
 ·simp;try omega
 ·simp[maxLen];try omega
 ·simp;try omega
 ·rfl
 refine bG fun r12 h12=> ?_;intros;refine cN ?_;rw[<-hus];refine mP ?_;(refine pu [] call217 (xY _) rfl fY bH ?_);refine rP ?_;refine aB rfl ?_ ?_<;>intro g1
 ·refine aI ?_;have ha:=f2 g1;have hp:gG ⟨(op:Int),ai,bi,l⟩=[xZ ai]:=by unfold gG;simp only[g1,Dd,De,Ag]
  refine fO ?_;refine lo (aC2 (z:=_) ⟨_,_,_,rfl⟩) rfl ?_;refine pD ?_;refine lo (aBs rfl (E rfl) (E rfl) (fun _=>by omega) (fun _=>aGq ha)) rfl ?_;refine eN fun r23 h23=> ?_;intros;apply ap (es':=(us++ [xZ ai]).map aG) (len':=(us++ [xZ ai]).length);rfl;rfl;exact bR
  ·simp
  ·exact .inr (.inr ⟨_,_,_,_,_,rfl,bR,X,rfl⟩)
  ·(simp[aG];done)
  ·simp;try omega
  ·simp[maxLen];try omega
  ·simp;try omega
  ·rfl
  refine bG fun r24 h24=> ?_;intros;refine cN ?_;rw[hp];exact aD aE ⟨_,by rfl,rfl⟩ aA
 refine cZ ?_;refine aB rfl ?_ ?_<;>intro g2
 ·refine aI ?_;have ha:=f3 g2;obtain⟨a,rfl⟩:=Bh ha.1;have hp:gG ⟨(op:Int),(a:Int),bi,l⟩=uB a:=by unfold gG;simp only[g1,g2,Dd,De,Ag,Bc]
  refine lT ?_;refine XE ?_;refine cw [(r12,.arr 5 1 ((us).map aG))] call239 (oC r12 (us) U a U) rfl ?_ ?_ ?_
  ·exact aC
  ·exact aA
  rintro _ Y' ⟨ra,rfl,rfl⟩ hra;have kra:=aV hra;repeat rcases kra with⟨_,kra⟩
  refine fF ?_;rw[hp];exact aD aE ⟨_,by rfl,rfl⟩ aA
 refine cZ ?_;refine aB rfl ?_ ?_<;>intro g3
 ·refine aI ?_;have ha:=f5 g3;obtain⟨a,rfl⟩:=Bh ha.1;have hp:gG ⟨(op:Int),(a:Int),bi,l⟩=uB a++ [0]:=by unfold gG;simp only[g1,g2,g3,Dd,De,Ag,Bc]
  have hal:=bJ 1 a U;refine lT ?_;refine XE ?_;refine cw [(r12,.arr 5 1 ((us).map aG))] call239 (oC r12 (us) U a U) rfl ?_ ?_ ?_
  ·exact aC
  ·exact aA
  rintro _ Y' ⟨ra,rfl,rfl⟩ hra;have kra:=aV hra;repeat rcases kra with⟨_,kra⟩
  apply aR;exact aU;refine eN fun r39 h39=> ?_;intros;apply ap (es':=((us++uB a)++ [0]).map aG) (len':=((us++uB a)++ [0]).length);rfl;rfl;exact bR
  ·simp
  ·exact .inr (.inr ⟨_,_,_,_,_,rfl,bR,X,rfl⟩)
  ·(simp[aG];done)
  ·simp;try omega
  ·simp[maxLen];try omega
  ·simp;try omega
  ·rfl
  refine bG fun r40 h40=> ?_;intros;refine cN ?_;rw[hp,<-Aq];exact aD aE ⟨_,by rfl,rfl⟩ aA
 refine cZ ?_;refine aB rfl ?_ ?_<;>intro g4
 ·refine aI ?_;have ha:=f4 g4;obtain⟨⟨ha0,ha1⟩,hl50,hall⟩:=ha;obtain⟨a,rfl⟩:=Bh ha0;have hp:gG ⟨(op:Int),(a:Int),bi,l⟩=uB l.length++(l.flatMap fun n=>uB n.toNat)++uB a:=by unfold gG;simp only[g1,g2,g3,g4,Dd,De,Ag,Bc]
  have hal:=bJ 1 a U;have hll:=bJ 1 l.length U;have hfl:=tX hall;refine fO ?_;refine qA ?_;refine XE ?_;refine cw [(r12,.arr 5 1 ((us).map aG))] call239 (oC r12 (us) U l.length U) rfl ?_ ?_ ?_
  ·exact aC
  ·exact aA
  rintro _ Y' ⟨ra,rfl,rfl⟩ hra;have kra:=aV hra;repeat rcases kra with⟨_,kra⟩
  refine fF ?_;refine jD ?_;refine sM ?_;obtain⟨ws,hws⟩:∃ws,ws=us++uB l.length:=⟨_,rfl⟩
  have hwl:ws.length<=50000003:=by rw[hws];simp;omega
  rw[<-hws];have hpre:∀j,(us++uB l.length++((l.take j).flatMap fun n=>uB n.toNat)).length<=50000103:=fun j=>by
   have:=tX (l:=l.take j) fun n hn=>hall n (Bf hn)
   simp at this⊢;omega
  refine lp (β:=Nat×Nat) (fun b=>⟨[(0,.own b.1 0 (ws++((l.take b.2).flatMap fun n=>uB n.toNat)).length),(3,.ptr r3 0),(50,.ro 1 (l.map aK) k),(51,.int .i64 l.length),(52,.int .i64 b.2)],[(b.1,.arr 5 1 ((ws++((l.take b.2).flatMap fun n=>uB n.toNat)).map aG)),(r3,.box 46 [.int .i64 op,.int .i64 a,.int .i64 bi,.ro 1 (l.map aK) k])]⟩) (fun b=>Nq b.1 r3/\b.2<=l.length) (fun b=>l.length-b.2) (ra,0) ?_ ⟨?_,Am _⟩ ?_
  ·simp only[List.take_zero,List.flatMap_nil,Be];exact aH
  ·show Nq ra r3;exact aX
  rintro⟨rb,j⟩ ⟨hrb,hj⟩;dsimp only at hrb hj⊢;have hpj:=hpre j;rw[<-hws]at hpj;refine gN ?_;refine aB rfl (fun h1=> ?_) (fun h1=> ?_)
  ·have hlt:j<l.length:=by simp at h1;omega
   obtain⟨y,hy⟩:=Aa l j hlt
   obtain⟨hy0,hy1⟩:=hall y (Ah hy);obtain⟨z,rfl⟩:=Bh hy0;refine dB ?_;refine mD ?_;refine pP ?_;refine XE ?_;refine cw [(rb,.arr 5 1 ((ws++((l.take j).flatMap fun n=>uB n.toNat)).map aG))] call239 (oC rb (ws++((l.take j).flatMap fun n=>uB n.toNat)) U z U) rfl ?_ ?_ ?_
   ·exact aC
   ·exact aA
   rintro _ Y' ⟨rc,rfl,rfl⟩ hrc;have krc:=aV hrc;repeat rcases krc with⟨_,krc⟩
   refine vR ?_;have hnx:ws++((l.take j).flatMap fun n=>uB n.toNat)++uB z=ws++((l.take (j+1)).flatMap fun n=>uB n.toNat):=by
    rw[Al,hy,Bo,Aq];simp
   rw[hnx];refine⟨(rc,j+1),⟨Ae rc r3,hlt⟩,Ab U, ?_⟩;exact aH
  ·obtain rfl:j=l.length:=by simp at h1;omega
   rw[Aw]at hpj⊢;refine oA ?_;refine XE ?_;refine cw [(rb,.arr 5 1 ((ws++(l.flatMap fun n=>uB n.toNat)).map aG))] call239 (oC rb (ws++(l.flatMap fun n=>uB n.toNat)) U a U) rfl ?_ ?_ ?_
   ·exact aC
   ·exact aA
   rintro _ Y' ⟨rd,rfl,rfl⟩ hrd;have krd:=aV hrd;repeat rcases krd with⟨_,krd⟩
   refine fF ?_;rw[hp,show us++(uB l.length++(l.flatMap fun n=>uB n.toNat)++uB a)=ws++(l.flatMap fun n=>uB n.toNat)++uB a by rw[hws];simp];exact aD aE ⟨_,by rfl,rfl⟩ aA
 refine cZ ?_;refine aB rfl ?_ ?_<;>intro g5
 ·refine aI ?_;have ha:=f6 g5;obtain⟨ha0,ha1,hb0,hb1⟩:=ha;obtain⟨a,rfl⟩:=Bh ha0;obtain⟨b,rfl⟩:=Bh hb0;have hp:gG ⟨(op:Int),(a:Int),(b:Int),l⟩=uB a++uB b:=by unfold gG;simp only[g1,g2,g3,g4,g5,Dd,De,Ag,Bc]
  have hal:=bJ 1 a U;refine eK (Ac [0,1,2,3,5,6,7] (Ad 4 (Ad 8 (Ac [9] [])))) ?_;refine GL ?_;refine z75 ?_;refine eQ ?_;refine z75 ?_;refine pB [(r12,.arr 5 1 ((us).map aG))] rfl call239 (oC r12 (us) U a U) rfl ?_ ?_ ?_ ?_
  ·exact aC
  ·exact aA
  ·exact eC
  rintro _ Y' ⟨ra,rfl,rfl⟩ hra;have kra:=aV hra;repeat rcases kra with⟨_,kra⟩
  apply bC;exact aU;refine pB [(ra,.arr 5 1 ((us++uB a).map aG))] rfl call239 (oC ra (us++uB a) (by(simp;omega)) b U) rfl ?_ ?_ ?_ ?_
  ·exact aC
  ·exact aA
  ·exact eC
  rintro _ Y' ⟨rb,rfl,rfl⟩ hrb;have krb:=aV hrb;repeat rcases krb with⟨_,krb⟩
  refine vQ ?_;rw[hp,<-Aq];exact aD aE ⟨_,by rfl,rfl⟩ aA
 refine cZ ?_;refine aB rfl ?_ ?_<;>intro g6
 ·refine aI ?_;have hp:gG ⟨(op:Int),ai,bi,l⟩=[0]:=by unfold gG;simp only[g1,g2,g3,g4,g5,g6,Dd,De,Ag]
  refine fO ?_;refine eN fun r80 h80=> ?_;intros;apply ap (es':=(us++ [0]).map aG) (len':=(us++ [0]).length);rfl;rfl;exact bR
  ·simp
  ·exact .inr (.inr ⟨_,_,_,_,_,rfl,bR,X,rfl⟩)
  ·(simp[aG];done)
  ·simp;try omega
  ·simp[maxLen];try omega
  ·simp;try omega
  ·rfl
  refine bG fun r81 h81=> ?_;intros;refine cN ?_;rw[hp];exact aD aE ⟨_,by rfl,rfl⟩ aA
 refine cZ ?_;apply fJ rfl;exact cP
 ·intro _;(refine aI ?_);refine eU ?_;exact aH
 refine aI ?_;refine aB rfl ?_ ?_<;>intro g7
 ·refine aI ?_;have hp:gG ⟨(op:Int),ai,bi,l⟩=sB ai:=by unfold gG;simp only[g1,g2,g3,g4,g5,g6,g7,Dd,De,Ag]
  refine lT ?_;refine cw [(r12,.arr 5 1 (us.map aG))] call296 (TF r12 us U ai f8) rfl ?_ ?_ ?_
  ·exact aC
  ·exact aA
  rintro _ Y' ⟨ra,rfl,rfl⟩ hra;refine fF ?_;rw[hp];exact aD aE ⟨_,by rfl,rfl⟩ aA
 refine fC ?_;apply aD;exact aE
 ·(unfold gG;simp only[g1,g2,g3,g4,g5,g6,g7,Dd,De,Ag,Be];exact⟨_,rfl,rfl⟩)
 ·exact aA
theorem aDu{a:Int}(h:0<=a/\a<=2):([[.int .u8 64],[.int .u8 127],[.int .u8 126]]:List (List AV))[a.toNat]? =some [.int .u8 (xZ a:Nat)]:=by
 have:a=0\/a=1\/a=2:=by omega
 rcases this with rfl|rfl|rfl<;>rfl
theorem uZ(k:Rk)(x:Ins)(hx:x.Ok)(hm:cY x=true):SCall prog 253 [.agg (iv k x)] []
  (fun y Y=>∃r,y=.own r 0 (gT x).length/\Y=[(r,.arr 5 1 ((gT x).map aG))]):=by
 have f1:=PF hm;have f2:=aJ2 hm;have f3:=aGm hm;have f4:=aGo hm;have f5:=aGn hm;have f6:=aGp hm;have hop:-9223372036854775808<=x.op/\x.op<=9223372036854775807:=⟨hx.1,hx.2.1⟩
 have f8:-9223372036854775808<=x.a/\x.a<=9223372036854775807:=⟨hx.2.2.1,hx.2.2.2.1⟩
 have hs8:(sB x.a).length<=10:=BD 9 x.a U U;obtain⟨op,ai,bi,l⟩:=x;dsimp only at f1 f2 f3 f4 f5 f6 f8 hop hs8;obtain⟨op,rfl⟩:=Bh f1.1;have hvo:gT ⟨(op:Int),ai,bi,l⟩=[op]++gG ⟨(op:Int),ai,bi,l⟩:=by simp[gT]
 rw[hvo];refine bO 98 [0,1,2,3,4,11,12,22,30,40,53,71,84,89] func253 ?_;unfold iv;dsimp only;refine dB ?_;refine fZ fun r1 h1=> ?_;intros;refine iO ?_;refine z0 ?_;refine eN fun r8 h8=> ?_;intros;refine cN ?_;rw[show [[AV.int .u8 (op:Int)]]=[op].map aG from rfl,show AV.own r8 0 1=AV.own r8 0 [op].length from rfl];refine mP ?_;(refine pu [] call250 (MU _ (by assumption)) rfl fY bH ?_);refine rP ?_;refine aB rfl ?_ ?_<;>intro g1
 ·refine aI ?_;have ha:=f2 g1;have hp:gG ⟨(op:Int),ai,bi,l⟩=[xZ ai]:=by unfold gG;simp only[g1,Dd,De,Ag]
  refine fO ?_;refine eN fun r15 h15=> ?_;intros;refine pD ?_;refine z15 ?_;refine lo (jS (E rfl) rfl bR (fun _=>aDu ha) (fun _=>rfl)) rfl ?_;refine eN fun r20 h20=> ?_;intros;apply ap (es':=([op]++ [xZ ai]).map aG) (len':=([op]++ [xZ ai]).length);rfl;rfl;exact bR
  ·simp
  ·exact .inr (.inr ⟨_,_,_,_,_,rfl,bR,X,rfl⟩)
  ·(simp[aG];done)
  ·simp;try omega
  ·simp[maxLen];try omega
  ·simp;try omega
  ·rfl
  refine bG fun r21 h21=> ?_;intros;refine cN ?_;rw[hp];exact aD aE ⟨_,by rfl,rfl⟩ aA
 refine cZ ?_;refine aB rfl ?_ ?_<;>intro g2
 ·refine aI ?_;have ha:=f3 g2;obtain⟨a,rfl⟩:=Bh ha.1;have hp:gG ⟨(op:Int),(a:Int),bi,l⟩=uB a:=by unfold gG;simp only[g1,g2,Dd,De,Ag,Bc]
  have hal:=bJ 1 a U;refine lT ?_;refine XE ?_;refine cw [] call252 (FM a U) rfl ?_ ?_ ?_
  ·exact aC
  ·exact aA
  rintro _ Y' ⟨ra,rfl,rfl⟩ hra
  replace hra:=gE hra;repeat rcases hra with⟨_,hra⟩
  apply aR;exact aU
  apply ap (es':=([op]++uB a).map aG) (len':=([op]++uB a).length);rfl;rfl;exact bR
  ·simp
  ·exact .inr (.inr ⟨_,_,_,_,_,rfl,bR,X,rfl⟩)
  ·(simp only[Bu,Bx];congr 1;exact Aj X)
  ·simp;try omega
  ·simp[maxLen];try omega
  ·simp;try omega
  ·rfl
  refine bG fun r29 h29=> ?_;intros;refine cN ?_;rw[hp];exact aD aE ⟨_,by rfl,rfl⟩ aA
 refine cZ ?_;refine aB rfl ?_ ?_<;>intro g3
 ·refine aI ?_;have ha:=f5 g3;obtain⟨a,rfl⟩:=Bh ha.1;have hp:gG ⟨(op:Int),(a:Int),bi,l⟩=uB a++ [0]:=by unfold gG;simp only[g1,g2,g3,Dd,De,Ag,Bc]
  have hal:=bJ 1 a U;refine lT ?_;refine XE ?_;refine cw [] call252 (FM a U) rfl ?_ ?_ ?_
  ·exact aC
  ·exact aA
  rintro _ Y' ⟨ra,rfl,rfl⟩ hra
  replace hra:=gE hra;repeat rcases hra with⟨_,hra⟩
  apply aR;exact aU;apply ap (es':=([op]++uB a).map aG) (len':=([op]++uB a).length);rfl;rfl;exact bR
  ·simp
  ·exact .inr (.inr ⟨_,_,_,_,_,rfl,bR,X,rfl⟩)
  ·(simp only[Bu,Bx];congr 1;exact Aj X)
  ·simp;try omega
  ·simp[maxLen];try omega
  ·simp;try omega
  ·rfl
  refine bG fun r37 h37=> ?_;intros;refine eN fun r38 h38=> ?_;intros;apply ap (es':=(([op]++uB a)++ [0]).map aG) (len':=(([op]++uB a)++ [0]).length);rfl;rfl;exact bR
  ·simp
  ·exact .inr (.inr ⟨_,_,_,_,_,rfl,bR,X,rfl⟩)
  ·(simp[aG];done)
  ·simp;try omega
  ·simp[maxLen];try omega
  ·simp;try omega
  ·rfl
  refine bG fun r39 h39=> ?_;intros;refine cN ?_;rw[hp,<-Aq];exact aD aE ⟨_,by rfl,rfl⟩ aA
 refine cZ ?_;refine aB rfl ?_ ?_<;>intro g4
 ·refine aI ?_;have ha:=f4 g4;obtain⟨⟨ha0,ha1⟩,hl50,hall⟩:=ha;obtain⟨a,rfl⟩:=Bh ha0;have hp:gG ⟨(op:Int),(a:Int),bi,l⟩=uB l.length++(l.flatMap fun n=>uB n.toNat)++uB a:=by unfold gG;simp only[g1,g2,g3,g4,Dd,De,Ag,Bc]
  have hal:=bJ 1 a U;have hll:=bJ 1 l.length U;have hfl:=tX hall;refine fO ?_;refine qA ?_;refine XE ?_;refine cw [] call252 (FM l.length U) rfl ?_ ?_ ?_
  ·exact aC
  ·exact aA
  rintro _ Y' ⟨ra,rfl,rfl⟩ hra
  replace hra:=gE hra;repeat rcases hra with⟨_,hra⟩
  apply aR;exact aU;apply ap (es':=([op]++uB l.length).map aG) (len':=([op]++uB l.length).length);rfl;rfl;exact bR
  ·simp
  ·exact .inr (.inr ⟨_,_,_,_,_,rfl,bR,X,rfl⟩)
  ·(simp only[Bu,Bx];congr 1;exact Aj X)
  ·simp;try omega
  ·simp[maxLen];try omega
  ·simp;try omega
  ·rfl
  refine bG fun r48 h48=> ?_;intros;refine iT ?_;refine cN ?_;obtain⟨ws,hws⟩:∃ws,ws=[op]++uB l.length:=⟨_,rfl⟩
  have hwl:ws.length<=3:=by rw[hws];simp;omega
  rw[<-hws];have hpre:∀j,(ws++((l.take j).flatMap fun n=>uB n.toNat)).length<=103:=fun j=>by
   have:=tX (l:=l.take j) fun n hn=>hall n (Bf hn)
   simp at this⊢;omega
  refine lp (β:=Nat×Nat) (fun b=>⟨[(3,.own b.1 0 (ws++((l.take b.2).flatMap fun n=>uB n.toNat)).length),(1,.ptr r1 0),(4,.int .i64 b.2)],[(b.1,.arr 5 1 ((ws++((l.take b.2).flatMap fun n=>uB n.toNat)).map aG)),(r1,.box 46 [.int .i64 op,.int .i64 a,.int .i64 bi,.ro 1 (l.map aK) k])]⟩) (fun b=>Nq b.1 r1/\b.2<=l.length) (fun b=>l.length-b.2) (r48,0) ?_ ⟨?_,Am _⟩ ?_
  ·simp only[List.take_zero,List.flatMap_nil,Be];exact aH
  ·show Nq r48 r1;exact aX
  rintro⟨rb,j⟩ ⟨hrb,hj⟩;dsimp only at hrb hj⊢;have hpj:=hpre j;refine kJ ?_;refine aB rfl (fun h1=> ?_) (fun h1=> ?_)
  ·have hlt:j<l.length:=by simp at h1;omega
   obtain⟨y,hy⟩:=Aa l j hlt
   obtain⟨hy0,hy1⟩:=hall y (Ah hy);obtain⟨z,rfl⟩:=Bh hy0;have hzl:=bJ 1 z U;obtain⟨pl,hpl⟩:∃pl,pl=ws++((l.take j).flatMap fun n=>uB n.toNat):=⟨_,rfl⟩
   rw[<-hpl]at hpj⊢;refine oA ?_;refine nX ?_;refine XE ?_;refine cw [] call252 (FM z U) rfl ?_ ?_ ?_
   ·exact aC
   ·exact aA
   rintro _ Y' ⟨rc,rfl,rfl⟩ hrc
   replace hrc:=gE hrc;repeat rcases hrc with⟨_,hrc⟩
   apply aR;exact aU;apply ap (es':=(pl++uB z).map aG) (len':=(pl++uB z).length);rfl;rfl;exact bR
   ·simp
   ·exact .inr (.inr ⟨_,_,_,_,_,rfl,bR,X,rfl⟩)
   ·(simp only[Bu,Bx];congr 1;exact Aj X)
   ·simp;try omega
   ·simp[maxLen];try omega
   ·simp;try omega
   ·rfl
   refine bG fun r64 h64=> ?_;intros;refine gX ?_;refine xK ?_;have hnx:ws++((l.take j).flatMap fun n=>uB n.toNat)++uB z=ws++((l.take (j+1)).flatMap fun n=>uB n.toNat):=by
    rw[Al,hy,Bo,Aq];simp
   rw[hpl,hnx];refine⟨(r64,j+1),⟨Ae r64 r1,hlt⟩,Ab U, ?_⟩;exact aH
  ·obtain rfl:j=l.length:=by simp at h1;omega
   rw[Aw]at hpj⊢;obtain⟨pl,hpl⟩:∃pl,pl=ws++(l.flatMap fun n=>uB n.toNat):=⟨_,rfl⟩
   rw[<-hpl]at hpj⊢;refine oA ?_;refine XE ?_;refine cw [] call252 (FM a U) rfl ?_ ?_ ?_
   ·exact aC
   ·exact aA
   rintro _ Y' ⟨rd,rfl,rfl⟩ hrd
   replace hrd:=gE hrd;repeat rcases hrd with⟨_,hrd⟩
   apply aR;exact aU;apply ap (es':=(pl++uB a).map aG) (len':=(pl++uB a).length);rfl;rfl;exact bR
   ·simp
   ·exact .inr (.inr ⟨_,_,_,_,_,rfl,bR,X,rfl⟩)
   ·(simp only[Bu,Bx];congr 1;exact Aj X)
   ·simp;try omega
   ·simp[maxLen];try omega
   ·simp;try omega
   ·rfl
   refine bG fun r70 h70=> ?_;intros;refine cN ?_;rw[hpl];rw[hp,show [op]++(uB l.length++(l.flatMap fun n=>uB n.toNat)++uB a)=ws++(l.flatMap fun n=>uB n.toNat)++uB a by rw[hws];simp];exact aD aE ⟨_,by rfl,rfl⟩ aA
 refine cZ ?_;refine aB rfl ?_ ?_<;>intro g5
 ·refine aI ?_;have ha:=f6 g5;obtain⟨ha0,ha1,hb0,hb1⟩:=ha;obtain⟨a,rfl⟩:=Bh ha0;obtain⟨b,rfl⟩:=Bh hb0;have hp:gG ⟨(op:Int),(a:Int),(b:Int),l⟩=uB a++uB b:=by unfold gG;simp only[g1,g2,g3,g4,g5,Dd,De,Ag,Bc]
  have hal:=bJ 1 a U;have hbl:=bJ 4 b U;refine eK (Ac [0,1,2,3,6,7,8] (Ad 4 (Ad 5 (Ad 9 (Ad 10 (Ac [11] [])))))) ?_;refine GL ?_;refine z75 ?_;refine eQ ?_;refine z75 ?_;refine pB [] rfl call252 (FM a U) rfl ?_ ?_ ?_ ?_
  ·exact aC
  ·exact aA
  ·exact eC
  rintro _ Y' ⟨ra,rfl,rfl⟩ hra
  replace hra:=gE hra;repeat rcases hra with⟨_,hra⟩
  apply bC;exact aU;apply dap (es':=([op]++uB a).map aG) (len':=([op]++uB a).length);rfl;infer_instance;infer_instance;rfl;rfl;exact bR
  ·simp
  ·exact .inr (.inr ⟨_,_,_,_,_,rfl,bR,X,rfl⟩)
  ·(simp only[Bu,Bx];congr 1;exact Aj X)
  ·simp;try omega
  ·simp[maxLen];try omega
  ·simp;try omega
  ·rfl
  ·exact eC
  refine bG fun r78 h78=> ?_;intros;refine pB [] rfl call252 (FM b U) rfl ?_ ?_ ?_ ?_
  ·exact aC
  ·exact aA
  ·exact eC
  rintro _ Y' ⟨rb,rfl,rfl⟩ hrb
  replace hrb:=gE hrb;repeat rcases hrb with⟨_,hrb⟩
  apply bC;exact aU;apply dap (es':=(([op]++uB a)++uB b).map aG) (len':=(([op]++uB a)++uB b).length);rfl;infer_instance;infer_instance;rfl;rfl;exact bR
  ·simp
  ·exact .inr (.inr ⟨_,_,_,_,_,rfl,bR,X,rfl⟩)
  ·(simp only[Bu,Bx];congr 1;exact Aj X)
  ·simp;try omega
  ·simp[maxLen];try omega
  ·simp;try omega
  ·rfl
  ·exact eC
  refine bG fun r83 h83=> ?_;intros;refine tQ ?_;rw[hp,<-Aq];exact aD aE ⟨_,by rfl,rfl⟩ aA
 refine cZ ?_;refine aB rfl ?_ ?_<;>intro g6
 ·refine aI ?_;have hp:gG ⟨(op:Int),ai,bi,l⟩=[0]:=by unfold gG;simp only[g1,g2,g3,g4,g5,g6,Dd,De,Ag]
  refine fO ?_;refine eN fun r87 h87=> ?_;intros;apply ap (es':=([op]++ [0]).map aG) (len':=([op]++ [0]).length);rfl;rfl;exact bR
  ·simp
  ·exact .inr (.inr ⟨_,_,_,_,_,rfl,bR,X,rfl⟩)
  ·(simp[aG];done)
  ·simp;try omega
  ·simp[maxLen];try omega
  ·simp;try omega
  ·rfl
  refine bG fun r88 h88=> ?_;intros;refine cN ?_;rw[hp];exact aD aE ⟨_,by rfl,rfl⟩ aA
 refine cZ ?_;apply fJ rfl;exact cP
 ·intro _;(refine aI ?_);refine eU ?_;exact aH
 refine aI ?_;refine aB rfl ?_ ?_<;>intro g7
 ·refine aI ?_;have hp:gG ⟨(op:Int),ai,bi,l⟩=sB ai:=by unfold gG;simp only[g1,g2,g3,g4,g5,g6,g7,Dd,De,Ag]
  refine lT ?_;refine cw [] call297 (aMS ai f8) rfl ?_ ?_ ?_
  ·exact aC
  ·exact aA
  rintro _ Y' ⟨ra,rfl,rfl⟩ hra
  replace hra:=gE hra;repeat rcases hra with⟨_,hra⟩
  apply aR;exact aU;apply ap (es':=([op]++sB ai).map aG) (len':=([op]++sB ai).length);rfl;rfl;exact bR
  ·simp
  ·exact .inr (.inr ⟨_,_,_,_,_,rfl,bR,X,rfl⟩)
  ·(simp only[Bu,Bx];congr 1;exact Aj X)
  ·simp;try omega
  ·simp[maxLen];try omega
  ·simp;try omega
  ·rfl
  refine bG fun r96 h96=> ?_;intros;refine cN ?_;rw[hp];exact aD aE ⟨_,by rfl,rfl⟩ aA
 refine fC ?_;apply aD;exact aE
 ·(unfold gG;simp only[g1,g2,g3,g4,g5,g6,g7,Dd,De,Ag,Be];exact⟨_,rfl,rfl⟩)
 ·exact aA
def rv (l:List Nat) (n:Nat) (e:Int):List AV:=[.ro 1 (l.map aG) .any,.int .i64 n,.int .i64 e]
def qS (l:List Nat) (n:Nat) (e:Int):Nat×Nat×Int:=
 if(e !=0)=true then(0,n,e)else if((n:Int)==(l.length:Int))=true then(0,n,2)else(l[n]!,n+1,e)
def hZ (l:List Nat) (lim:Int) (n:Nat) (e:Int):Nat×Nat×Int:=
 if(e !=0)=true then(0,n,e)else if((mR (l.drop n)).2.2 !=0)=true then(0,n,(mR (l.drop n)).2.2)else if decide (lim<((mR (l.drop n)).1:Int))=true then(0,n,1)else((mR (l.drop n)).1,n+(mR (l.drop n)).2.1,(mR (l.drop n)).2.2)
def FN (l:List Nat) (bits:Nat) (n:Nat):Int×Nat×Int:=((zR bits (l.drop n)).1,n+(zR bits (l.drop n)).2.1,(zR bits (l.drop n)).2.2)
theorem IR(r:Nat)(l:List Nat)(hl:l.length<=1000000)(hlt:∀x∈l,x<256)(n:Nat)(hn:n<=l.length)(e:Int):SCall prog 314 [.ptr r 0] [(r,.box 346 (rv l n e))]
  (fun x Y=>x=.int .i64 ((qS l n e).1:Nat)/\Y=[(r,.box 346 (rv l (qS l n e).2.1 (qS l n e).2.2))]):=by
 refine bO 42 [0,2,3,9] func314 ?_;unfold rv;refine fK ?_;refine AY ?_;refine B9 ?_;refine cN ?_;refine aB rfl ?_ ?_<;>intro g1
 ·refine cV ?_;apply aD;exact aE
  ·(unfold qS;simp only[g1,Dd,De,Ag];exact⟨rfl,rfl⟩)
  ·exact aA
 refine aI ?_;refine eK (Ac [0,1,2,3,4,5,6,7,8,9,10] []) ?_;refine lS ?_;refine FL ?_;refine z79 ?_;refine tQ ?_;refine aB rfl ?_ ?_<;>intro g2
 ·refine rO ?_;refine mG ?_;refine cV ?_;apply aD;exact aE
  ·(unfold qS;simp only[g1,g2,Dd,De,Ag];exact⟨rfl,rfl⟩)
  ·exact aA
 refine vZ ?_;refine SH ?_;refine oJ ?_;have hlt2:n<l.length:=by simp at g2;omega
 refine C5 ?_;refine lS ?_;refine lS ?_;refine z82 ?_;rw[show(n:Int)+1-1=(n:Nat) by omega];refine z56 ?_;refine MF ?_;rw[Bc];have hb8:=CL hlt n;refine z83 ?_;refine tQ ?_;apply aD;exact aE
 ·(unfold qS;simp only[g1,g2,Dd,De,Ag];exact⟨rfl,rfl⟩)
 ·exact aA
def PG (l:List Nat) (n:Nat) (e:Int):Nat×Int:=if(((qS l n e).1:Int) !=0)=true then((qS l n e).2.1,1)else(qS l n e).2
theorem TM(r:Nat)(l:List Nat)(hl:l.length<=1000000)(hlt:∀x∈l,x<256)(n:Nat)(hn:n<=l.length)(e:Int):SCall prog 317 [.ptr r 0] [(r,.box 346 (rv l n e))]
  (fun x Y=>x=.tup []/\Y=[(r,.box 346 (rv l (PG l n e).1 (PG l n e).2))]):=by
 refine bO 8 [0,4] func317 ?_;unfold rv;refine dG ?_;refine cw [(r,.box 346 (rv l n e))] call314 (IR r l hl hlt n hn e) rfl ?_ ?_ ?_
 ·exact aC
 ·exact aA
 rintro _ Y' ⟨rfl,rfl⟩-;apply aR;exact aU;refine wU ?_;unfold rv;refine aB rfl ?_ ?_<;>intro g1
 ·refine oL ?_;refine bS ?_;apply aD;exact aE
  ·unfold PG;rw[Dc g1];exact⟨rfl,rfl⟩
  ·exact aA
 ·refine aI ?_;refine bS ?_;apply aD;exact aE
  ·unfold PG;rw[Db (by rw[g1];simp)];exact⟨rfl,rfl⟩
  ·exact aA
theorem MV{l:List Nat}{n:Nat}:List.take ((l.map aG).length-n) (List.drop n (l.map aG))=(l.drop n).map aG:=by
 rw[List.map_drop,Aj X]
theorem PH{e:Int}{b:Bool}(h:(if(e==0)=true then b else false)=true):e=0/\b=true:=by
 split at h
 ·next h1=>exact⟨C8 h1,h⟩
 ·cases h
theorem TN{e:Int}{b:Bool}(h:(if(e==0)=true then b else false)=false)(h0:(e !=0)=false):e=0/\b=false:=by
 have h1:e=0:=C8 h0
 subst h1;exact⟨rfl,h⟩
theorem kC(r:Nat)(l:List Nat)(hl:l.length<=1000000)(hlt:∀x∈l,x<256)(lim:Int)(n:Nat)(hn:n<=l.length)(e:Int):SCall prog 316 [.ptr r 0,.int .i64 lim] [(r,.box 346 (rv l n e))]
  (fun x Y=>x=.int .i64 ((hZ l lim n e).1:Nat)/\Y=[(r,.box 346 (rv l (hZ l lim n e).2.1 (hZ l lim n e).2.2))]):=by
 have hbd:=CJ (l.drop n);obtain⟨hb1,hb2,hb3⟩:=hbd;rw[Bv]at hb2;refine bO 51 [0,1,4,5,6,7,12,34,40] func316 ?_;unfold rv;refine fK ?_;refine AY ?_;refine wU ?_;refine aB rfl ?_ ?_<;>intro g1
 ·refine cV ?_;apply aD;exact aE
  ·(unfold hZ;simp only[g1,Dd,De,Ag];exact⟨rfl,rfl⟩)
  ·exact aA
 refine aI ?_;refine eK (Ac [0,1,2,3,4,5,6,7,8] (Ad 9 (Ac [10,11,12,13,14,15,16] []))) ?_;refine lS ?_;refine lS ?_;refine z84 ?_;rw[MV];refine dpu [] rfl call166 (aIU (l.drop n) (by rw[Bv];omega) (fun x hx=>hlt x (List.mem_of_mem_drop hx))) rfl fY bH ?_;refine B5 ?_;refine z85 ?_;refine z85 ?_;refine z85 ?_;refine eS rfl (aT (E rfl)) rfl ?_;refine aJX ?_;refine dG ?_;refine Ch ?_;refine AZ ?_;refine z80 ?_;refine z4 ?_;refine z81 ?_;refine z7 ?_;refine iM ?_;refine aB rfl ?_ ?_<;>intro g2
 ·refine mO ?_;refine oJ ?_;refine fO ?_;refine B9 ?_;refine kX ?_;refine cV ?_;apply aD;exact aE
  ·unfold hZ;have hd:=PH g2;simp only[g1,hd.1,hd.2,bne_self_eq_false,Ag,Dd,De];exact⟨rfl,rfl⟩
  ·exact aA
 refine cJ ?_;refine oJ ?_;refine fO ?_;refine wU ?_;refine aB rfl ?_ ?_<;>intro g3
 ·refine cV ?_;apply aD;exact aE
  ·(unfold hZ;simp only[g1,g2,g3,Dd,De,Ag];exact⟨rfl,rfl⟩)
  ·exact aA
 refine dG ?_;refine xM ?_;refine SH ?_;refine oJ ?_;refine fO ?_;refine z44 ?_;refine cN ?_;apply aD;exact aE
 ·(unfold hZ;simp only[g1,g2,g3,Dd,De,Ag];(have hd:=TN g2 g3;simp only[hd.2,Ag,De];exact⟨rfl,rfl⟩))
 ·exact aA
theorem IS(r:Nat)(l:List Nat)(hl:l.length<=1000000)(hlt:∀x∈l,x<256)(bits:Nat)(hb:bits=32\/bits=64)(n:Nat)(hn:n<=l.length)(e:Int):SCall prog 318 [.ptr r 0,.int .i64 bits] [(r,.box 346 (rv l n e))]
  (fun x Y=>x=.int .i64 (FN l bits n).1/\Y=[(r,.box 346 (rv l (FN l bits n).2.1 (FN l bits n).2.2))]):=by
 have hbd:=aAx bits (l.drop n);rw[Bv]at hbd;refine bO 37 [0,1,4,5,6,7] func318 ?_;unfold rv FN;refine cV ?_;refine eK (Ac [0,1,2,3,4,5,6,7,8,9] (Ad 10 (Ac [11,12,13,14,15,16,17] []))) ?_;refine lS ?_;refine lS ?_;refine z84 ?_;refine B5 ?_;rw[MV];refine dpu [] rfl call322 (aMV (l.drop n) (by rw[Bv];omega) (fun x hx=>hlt x (List.mem_of_mem_drop hx)) bits hb) rfl fY bH ?_;refine B5 ?_;refine z85 ?_;refine z85 ?_;refine z85 ?_;refine eS rfl (aT (E rfl)) rfl ?_;refine aJX ?_;refine uX ?_;refine xM ?_;refine SH ?_;refine B4 ?_;refine qB ?_;apply OT;rfl;rfl;rfl;rfl;exact nI;refine oJ ?_;refine fO ?_;refine cN ?_;exact aD aE ⟨by rfl,rfl⟩ aA
def XX (l:List Int) (y:Int):Int:=match l.findIdx? (· ==y)with|some i=>i|none=> -1
theorem LL{k:Rk}(l:List Int)(y:Int):SCall prog 321 [.ro 1 (l.map aK) k,.int .i64 y] [] (fun x Y=>x=.int .i64 (XX l y)/\Y=[]):=by
 refine bO 19 [0,1,4,5,7,8,9,16] func321 ?_;refine iG (i:=0) rfl fun hm=> ?_
 rw[Az]at hm;unfold maxLen at hm;refine tU ?_;refine lp (β:=Nat) (fun j=>⟨[(0,.ro 1 (l.map aK) k),(1,.int .i64 y),(7,.int .i64 l.length),(8,.int .i64 j)],[]⟩) (fun j=>j<=l.length/\∀i,i<j->l[i]? ≠some y) (fun j=>l.length-j) 0 ?_ ⟨Am _,fun i hi=>by omega⟩ ?_
 ·exact aH
 rintro j ⟨hj,ht⟩;refine gN ?_;refine aB rfl (fun h1=> ?_) (fun h1=> ?_)
 ·have hlt:j<l.length:=by simp at h1;omega
  obtain⟨x,hx⟩:=Aa l j hlt
  refine vS ?_;refine nX ?_;refine sH ?_;refine aB rfl (fun h2=> ?_) (fun h2=> ?_)
  ·have hxy:y=x:=C8 h2
   refine fC ?_;apply aD;exact aE
   ·have:l.findIdx? (· ==y)=some j:=by
     rw[List.findIdx?_eq_some_iff_getElem];refine⟨hlt, ?_,fun i hi=> ?_⟩
     ·rw[Ar hlt]at hx;simp at hx⊢;rw[hx,hxy]
     ·have:=ht i hi;rw[Ar U]at this;simpa using this
    unfold XX;rw[this];exact⟨rfl,rfl⟩
   ·exact aA
  ·have hxy:y≠x:=C8 h2
   refine jH ?_;refine⟨j+1,⟨U,fun i hi=> ?_⟩,U, ?_⟩
   ·by_cases hij:i=j
    ·subst hij;rw[hx];simpa using fun e=>hxy e.symm
    ·exact ht i U
   ·exact aH
 ·obtain rfl:j=l.length:=by simp at h1;omega
  refine cV ?_;apply aD;exact aE
  ·have:l.findIdx? (· ==y)=none:=by
    rw[List.findIdx?_eq_none_iff];intro x hx;obtain⟨i,hi,rfl⟩:=List.mem_iff_getElem.1 hx;have:=ht i hi;rw[Ar hi]at this;simpa using this
   unfold XX;rw[this];exact⟨rfl,rfl⟩
  ·exact aA
def yA (c:Nat):Int:=XX [64,127,126] c
def PI (l:List Nat) (n:Nat) (e:Int):Int×Nat×Int:=
 if(if decide (yA (qS l n e).1<0)=true then((qS l n e).2.2==0)else false)=true then(if yA (qS l n e).1<0 then 0 else yA (qS l n e).1,(qS l n e).2.1,1)else(if yA (qS l n e).1<0 then 0 else yA (qS l n e).1,(qS l n e).2.1,(qS l n e).2.2)
theorem aDv(r:Nat)(l:List Nat)(hl:l.length<=1000000)(hlt:∀x∈l,x<256)(n:Nat)(hn:n<=l.length)(e:Int):SCall prog 315 [.ptr r 0] [(r,.box 346 (rv l n e))]
  (fun x Y=>x=.int .i64 (PI l n e).1/\Y=[(r,.box 346 (rv l (PI l n e).2.1 (PI l n e).2.2))]):=by
 refine bO 24 [0,2,3,4,18] func315 ?_;unfold rv;refine fK ?_;refine cw [(r,.box 346 (rv l n e))] call314 (IR r l hl hlt n hn e) rfl ?_ ?_ ?_
 ·exact aC
 ·exact aA
 rintro _ Y' ⟨rfl,rfl⟩-;refine fF ?_;unfold rv;refine jD ?_;refine eN fun r7 h7=> ?_;intros;refine B4 ?_;rw[show([[.int .i64 64],[.int .i64 127],[.int .i64 126]]:List (List AV))=[64,127,126].map aK from rfl];refine pu [r7] call321 (LL (k:=.any) [64,127,126] ((qS l n e).1:Nat)) rfl ?_ bH ?_
 ·exact aO
 refine cN ?_;rw[show XX [64,127,126] ((qS l n e).1:Nat)=yA (qS l n e).1 from rfl];refine fO ?_;refine MJ ?_;refine z91 ?_;refine z92 ?_;refine z62 ?_;refine z6 ?_;refine z7 ?_;refine iM ?_;refine aB rfl ?_ ?_<;>intro g1
 ·refine oL ?_;refine fO ?_;refine lo (GZ (E rfl) (E rfl)) rfl ?_;refine cN ?_;apply aD;exact aE
  ·(unfold PI;simp only[g1,Dd,De,Ag];exact⟨rfl,rfl⟩)
  ·exact aA
 refine dG ?_;refine lo (GZ (E rfl) (E rfl)) rfl ?_;refine cN ?_;apply aD;exact aE
 ·(unfold PI;simp only[g1,Dd,De,Ag];exact⟨rfl,rfl⟩)
 ·exact aA
def io (q:Nat) (x:Ins):List AV:=[.int .i64 x.op,.int .i64 x.a,.int .i64 x.b,.own q 0 x.l.length]
def ins0:Ins:=⟨0,0,0,[]⟩
def tD (l:List Nat):Nat->Nat->Int->List Int×Nat×Int
 |0,n,e=>([],n,e)
 |m+1,n,e=>(((tD l m n e).1++ [((hZ l 1000 (tD l m n e).2.1 (tD l m n e).2.2).1:Int)]),(hZ l 1000 (tD l m n e).2.1 (tD l m n e).2.2).2)
def mH (x:Ins) (n:Nat) (e:Int):Ins×Nat×Int:=if(e !=0)=true then(ins0,0,e)else(x,n,0)
def vA (l:List Nat) (op:Int) (n:Nat) (e:Int):Ins×Nat×Int:=
 if(aW op==2)=true then mH ⟨op,(PI l n e).1,0,[]⟩ (PI l n e).2.1 (PI l n e).2.2
 else if(aW op==3)=true then mH ⟨op,(hZ l 1000 n e).1,0,[]⟩ (hZ l 1000 n e).2.1 (hZ l 1000 n e).2.2
 else if(aW op==5)=true then mH ⟨op,(hZ l 1000 n e).1,0,[]⟩ (PG l (hZ l 1000 n e).2.1 (hZ l 1000 n e).2.2).1 (PG l (hZ l 1000 n e).2.1 (hZ l 1000 n e).2.2).2
 else if(aW op==4)=true then
  let u:=hZ l 50 n e
  let w:=tD l u.1 u.2.1 u.2.2
  let v:=hZ l 1000 w.2.1 w.2.2
  mH ⟨op,v.1,0,w.1⟩ v.2.1 v.2.2
 else if(aW op==6)=true then
  let u:=hZ l 3 n e
  let v:=hZ l 4294967295 u.2.1 u.2.2
  mH ⟨op,u.1,v.1,[]⟩ v.2.1 v.2.2
 else if(aW op==7)=true then mH ⟨op,0,0,[]⟩ (PG l n e).1 (PG l n e).2
 else if(aW op==8)=true then mH ⟨op,(FN l 32 n).1,0,[]⟩ (FN l 32 n).2.1 (FN l 32 n).2.2
 else if(aW op==9)=true then mH ⟨op,(FN l 64 n).1,0,[]⟩ (FN l 64 n).2.1 (FN l 64 n).2.2
 else mH ⟨op,0,0,[]⟩ n e
def fP (l:List Nat):Ins×Nat×Int:=
 if(aW ((qS l 0 0).1:Nat)==0)=true then(ins0,0,1)
 else if((qS l 0 0).2.2 !=0)=true then(ins0,0,(qS l 0 0).2.2)
 else vA l ((qS l 0 0).1:Nat) (qS l 0 0).2.1 (qS l 0 0).2.2
theorem aJ3{l:List Nat}{n:Nat}{e:Int}(h:n<=l.length):(qS l n e).2.1<=l.length:=by
 unfold qS;split
 ·exact h
 ·split
  ·exact h
  ·next h1=>simp at h1⊢;omega
theorem PJ{l:List Nat}{lim:Int}{n:Nat}{e:Int}(h:n<=l.length):(hZ l lim n e).2.1<=l.length:=by
 have h1:=(CJ (l.drop n)).2.1;rw[Bv]at h1;unfold hZ;repeat' split
 all_goals first|exact h|(simp;omega)
theorem aJ4{l:List Nat}{lim:Int}{n:Nat}{e:Int}(h:0<=lim):((hZ l lim n e).1:Int)<=lim:=by
 unfold hZ;split
 ·exact h
 ·split
  ·exact h
  ·split
   ·exact h
   ·next h1=>simp at h1⊢;omega
theorem aDw{l:List Nat}:∀ {m n:Nat} {e:Int},n<=l.length->(tD l m n e).2.1<=l.length
 |0,_,_,h=>h
 | _ +1,_,_,h=>PJ (aDw h)
theorem PK{l:List Nat}:∀ {m n:Nat} {e:Int},(tD l m n e).1.length=m
 |0,_,_=>rfl
 |m+1,n,e=>by rw[tD];simp[PK (m:=m)]
theorem MW(l:List Nat)(hl:l.length<=1000000)(hlt:∀x∈l,x<256):SCall prog 298 [.ro 1 (l.map aG) .any] []
  (fun y Y=>∃q,y=.tup [.agg (io q (fP l).1),.int .i64 ((fP l).2.1:Nat),.int .i64 (fP l).2.2]/\Y=[(q,.arr 3 1 ((fP l).1.l.map aK))]):=by
 refine bO 104 [0,2,3,4,5,6,7,18,26,32,33,38,43,50,53,54,55,67,75,79,84,93] func298 ?_;refine dB ?_;refine iD fun r2 h2=> ?_;intros;refine pN ?_;refine mM ?_;refine fZ fun r10 h10=> ?_;intros;refine gX ?_;refine cw [(r10,.box 346 (rv l (0) (0)))] call314 (IR r10 l hl hlt 0 U 0) rfl ?_ ?_ ?_
 ·exact aC
 ·exact aA
 rintro _ Y' ⟨rfl,rfl⟩-;apply aR;exact aU;unfold rv;refine mM ?_;refine iD fun r6 h6=> ?_;intros;refine mG ?_;refine an ?_;refine bN (ks:=[0,2,3,4,5,6,7,18,26,32,33,38,43,50,53,54,55,67,75,79,84,93]) r6 3 3 1 V bR rfl V fun q hq=> ?_
 simp only[aN,aQ,and_true]at hq;repeat rcases hq with⟨_,hq⟩
 apply Exists.intro;apply Bl;exact bK;refine aI ?_;have hn1:=aJ3 (l:=l) (n:=0) (e:=0) U;generalize hB:qS l 0 0=bb at*;obtain⟨c,n1,e1⟩:=bb;dsimp only at hn1⊢;rw[show([AV.int .i64 (c:Int),.int .i64 0,.int .i64 0,.ro 0 [] .nil].set 3 (.own q 0 0))=[.int .i64 (c:Int),.int .i64 0,.int .i64 0,.own q 0 0]from rfl];refine mP ?_;(refine pu [] call217 (xY _) rfl fY bH ?_);refine gX ?_;refine sH ?_;refine aB rfl ?_ ?_<;>intro g1
 ·refine aI ?_;have hG:fP l=(ins0,0,1):=by unfold fP;rw[hB];simp only[g1,Dd]
  refine fO ?_;refine oJ ?_;refine AF ?_;refine B8 ?_;refine xR ?_;refine bN (ks:=[0,2,3,4,5,6,7,18,26,32,33,38,43,50,53,54,55,67,75,79,84,93]) r2 3 3 1 V bR rfl V fun qz hqz=> ?_
  simp only[aN,aQ,and_true]at hqz;repeat rcases hqz with⟨_,hqz⟩
  apply Exists.intro;apply Bl;exact bK;refine aI ?_;apply aD;exact aE
  ·rw[hG];exact⟨qz,rfl,rfl⟩
  ·exact aA
 refine vZ ?_;refine wU ?_;refine aB rfl ?_ ?_<;>intro g2
 ·refine aI ?_;have hG:fP l=(ins0,0,e1):=by unfold fP;rw[hB];simp only[g1,g2,Dd,De,Ag]
  refine B8 ?_;refine xR ?_;refine bN (ks:=[0,2,3,4,5,6,7,18,26,32,33,38,43,50,53,54,55,67,75,79,84,93]) r2 3 3 1 V bR rfl V fun qz hqz=> ?_
  simp only[aN,aQ,and_true]at hqz;repeat rcases hqz with⟨_,hqz⟩
  apply Exists.intro;apply Bl;exact bK;refine aI ?_;apply aD;exact aE
  ·rw[hG];exact⟨qz,rfl,rfl⟩
  ·exact aA
 refine dG ?_;refine rP ?_;refine aB rfl ?_ ?_<;>intro g3
 ·refine aI ?_;have hG:fP l=mH ⟨(c:Int),(PI l n1 e1).1,0,[]⟩ (PI l n1 e1).2.1 (PI l n1 e1).2.2:=by unfold fP vA;rw[hB];simp only[g1,g2,g3,Dd,De,Ag]
  refine fO ?_;refine cw [(r10,.box 346 (rv l (n1) (e1)))] call315 (aDv r10 l hl hlt n1 hn1 e1) rfl ?_ ?_ ?_
  ·exact aC
  ·exact aA
  rintro _ Y' ⟨rfl,rfl⟩-;apply aR;exact aU;unfold rv;refine EF ?_;refine fR ?_;refine AF ?_;refine aB rfl ?_ ?_<;>intro ge
  ·unfold mH at hG;rw[ge]at hG;simp only[Dd]at hG;refine aI ?_;refine B8 ?_;refine xR ?_;refine bN (ks:=[0,2,3,4,5,6,7,18,26,32,33,38,43,50,53,54,55,67,75,79,84,93]) r2 3 3 1 V bR rfl V fun qz hqz=> ?_
   simp only[aN,aQ,and_true]at hqz;repeat rcases hqz with⟨_,hqz⟩
   apply Exists.intro;apply Bl;exact bK;refine aI ?_;apply aD;exact aE
   ·rw[hG];exact⟨qz,rfl,rfl⟩
   ·exact aA
  ·unfold mH at hG;rw[ge]at hG;simp only[Ag,De]at hG;refine aI ?_;refine B8 ?_;refine II ?_;refine CG ?_;apply aD;exact aE
   ·rw[hG];exact⟨q,rfl,rfl⟩
   ·exact aA
 refine cZ ?_;refine aB rfl ?_ ?_<;>intro g4
 ·refine aI ?_;have hG:fP l=mH ⟨(c:Int),(hZ l 1000 n1 e1).1,0,[]⟩ (hZ l 1000 n1 e1).2.1 (hZ l 1000 n1 e1).2.2:=by unfold fP vA;rw[hB];simp only[g1,g2,g3,g4,Dd,De,Ag]
  refine fO ?_;refine cw [(r10,.box 346 (rv l (n1) (e1)))] call316 (kC r10 l hl hlt 1000 n1 hn1 e1) rfl ?_ ?_ ?_
  ·exact aC
  ·exact aA
  rintro _ Y' ⟨rfl,rfl⟩-;apply aR;exact aU;unfold rv;refine EF ?_;refine fR ?_;refine AF ?_;refine aB rfl ?_ ?_<;>intro ge
  ·unfold mH at hG;rw[ge]at hG;simp only[Dd]at hG;refine aI ?_;refine B8 ?_;refine xR ?_;refine bN (ks:=[0,2,3,4,5,6,7,18,26,32,33,38,43,50,53,54,55,67,75,79,84,93]) r2 3 3 1 V bR rfl V fun qz hqz=> ?_
   simp only[aN,aQ,and_true]at hqz;repeat rcases hqz with⟨_,hqz⟩
   apply Exists.intro;apply Bl;exact bK;refine aI ?_;apply aD;exact aE
   ·rw[hG];exact⟨qz,rfl,rfl⟩
   ·exact aA
  ·unfold mH at hG;rw[ge]at hG;simp only[Ag,De]at hG;refine aI ?_;refine B8 ?_;refine II ?_;refine CG ?_;apply aD;exact aE
   ·rw[hG];exact⟨q,rfl,rfl⟩
   ·exact aA
 refine cZ ?_;refine aB rfl ?_ ?_<;>intro g5
 ·refine aI ?_;have hG:fP l=mH ⟨(c:Int),(hZ l 1000 n1 e1).1,0,[]⟩ (PG l (hZ l 1000 n1 e1).2.1 (hZ l 1000 n1 e1).2.2).1 (PG l (hZ l 1000 n1 e1).2.1 (hZ l 1000 n1 e1).2.2).2:=by unfold fP vA;rw[hB];simp only[g1,g2,g3,g4,g5,Dd,De,Ag]
  have hn2:=PJ (lim:=1000) (e:=e1) hn1;refine fO ?_;refine cw [(r10,.box 346 (rv l (n1) (e1)))] call316 (kC r10 l hl hlt 1000 n1 hn1 e1) rfl ?_ ?_ ?_
  ·exact aC
  ·exact aA
  rintro _ Y' ⟨rfl,rfl⟩-;apply aR;exact aU;unfold rv;refine EF ?_;refine fR ?_;generalize hZ l 1000 n1 e1=u at*;obtain⟨a,n2,e2⟩:=u;dsimp only at hn2 hG⊢;refine fO ?_;refine cw [(r10,.box 346 (rv l (n2) (e2)))] call317 (TM r10 l hl hlt n2 hn2 e2) rfl ?_ ?_ ?_
  ·exact aC
  ·exact aA
  rintro _ Y' ⟨rfl,rfl⟩-;apply aR;exact aU;unfold rv;refine iM ?_;refine AF ?_;refine aB rfl ?_ ?_<;>intro ge
  ·unfold mH at hG;rw[ge]at hG;simp only[Dd]at hG;refine aI ?_;refine B8 ?_;refine xR ?_;refine bN (ks:=[0,2,3,4,5,6,7,18,26,32,33,38,43,50,53,54,55,67,75,79,84,93]) r2 3 3 1 V bR rfl V fun qz hqz=> ?_
   simp only[aN,aQ,and_true]at hqz;repeat rcases hqz with⟨_,hqz⟩
   apply Exists.intro;apply Bl;exact bK;refine aI ?_;apply aD;exact aE
   ·rw[hG];exact⟨qz,rfl,rfl⟩
   ·exact aA
  ·unfold mH at hG;rw[ge]at hG;simp only[Ag,De]at hG;refine aI ?_;refine B8 ?_;refine II ?_;refine CG ?_;apply aD;exact aE
   ·rw[hG];exact⟨q,rfl,rfl⟩
   ·exact aA
 refine cZ ?_;refine aB rfl ?_ ?_<;>intro g6
 ·refine aI ?_;have hG:fP l=mH ⟨(c:Int),(hZ l 1000 (tD l (hZ l 50 n1 e1).1 (hZ l 50 n1 e1).2.1 (hZ l 50 n1 e1).2.2).2.1 (tD l (hZ l 50 n1 e1).1 (hZ l 50 n1 e1).2.1 (hZ l 50 n1 e1).2.2).2.2).1,0,(tD l (hZ l 50 n1 e1).1 (hZ l 50 n1 e1).2.1 (hZ l 50 n1 e1).2.2).1⟩ (hZ l 1000 (tD l (hZ l 50 n1 e1).1 (hZ l 50 n1 e1).2.1 (hZ l 50 n1 e1).2.2).2.1 (tD l (hZ l 50 n1 e1).1 (hZ l 50 n1 e1).2.1 (hZ l 50 n1 e1).2.2).2.2).2.1 (hZ l 1000 (tD l (hZ l 50 n1 e1).1 (hZ l 50 n1 e1).2.1 (hZ l 50 n1 e1).2.2).2.1 (tD l (hZ l 50 n1 e1).1 (hZ l 50 n1 e1).2.1 (hZ l 50 n1 e1).2.2).2.2).2.2:=by unfold fP vA;rw[hB];simp only[g1,g2,g3,g4,g5,g6,Dd,De,Ag]
  have hn2:=PJ (lim:=50) (e:=e1) hn1;have hm50:=aJ4 (l:=l) (lim:=50) (n:=n1) (e:=e1) U;refine fO ?_;refine cw [(r10,.box 346 (rv l (n1) (e1)))] call316 (kC r10 l hl hlt 50 n1 hn1 e1) rfl ?_ ?_ ?_
  ·exact aC
  ·exact aA
  rintro _ Y' ⟨rfl,rfl⟩-;apply aR;exact aU;unfold rv;refine aF8 ?_;generalize hZ l 50 n1 e1=u at*;obtain⟨m,n2,e2⟩:=u;dsimp only at hn2 hm50 hG⊢;refine lp (β:=Nat×Nat) (fun b=>⟨[(2,.ptr r2 0),(5,.ptr r10 0),(6,.ptr r6 0),(53,.int .i64 m),(54,.int .i64 b.2)],[(b.1,.arr 3 1 ((tD l b.2 n2 e2).1.map aK)),(r6,.box 46 [.int .i64 c,.int .i64 0,.int .i64 0,.own b.1 0 (tD l b.2 n2 e2).1.length]),(r10,.box 346 (rv l (tD l b.2 n2 e2).2.1 (tD l b.2 n2 e2).2.2)),(r2,.box 46 [.int .i64 0,.int .i64 0,.int .i64 0,.ro 0 [] .nil])]⟩) (fun b=>(Nq b.1 r6/\Nq b.1 r10/\Nq b.1 r2)/\b.2<=m) (fun b=>m-b.2) (q,0) (by(exact aH)) ⟨⟨by(exact aX),by(exact aX),by(exact aX)⟩,Am _⟩ ?_;rintro⟨p,j⟩ ⟨⟨hp1,hp2,hp3⟩,hj⟩;dsimp only at hp1 hp2 hp3 hj⊢;have hn3:=aDw (m:=j) (e:=e2) hn2;have hlen:=PK (l:=l) (m:=j) (n:=n2) (e:=e2);have hstep:tD l (j+1) n2 e2=(((tD l j n2 e2).1++ [((hZ l 1000 (tD l j n2 e2).2.1 (tD l j n2 e2).2.2).1:Int)]),(hZ l 1000 (tD l j n2 e2).2.1 (tD l j n2 e2).2.2).2):=rfl;generalize hW:tD l j n2 e2=w at hn3 hlen hstep⊢;obtain⟨L,n3,e3⟩:=w;dsimp only at hn3 hlen hstep⊢;unfold rv;refine gN ?_;refine aB rfl (fun h1=> ?_) (fun h1=> ?_)
  ·have hlt2:j<m:=by simp at h1;omega
   refine aI ?_;refine eK (Ac [0,1,2] (Ad 3 (Ad 4 (Ad 5 (Ac [6] (Ad 7 [])))))) ?_;refine MI ?_;refine pB [(r10,.box 346 (rv l n3 e3))] rfl call316 (kC r10 l hl hlt 1000 n3 hn3 e3) rfl ?_ ?_ ?_ ?_
   ·exact aC
   ·exact aA
   ·exact eC
   rintro _ Y' ⟨rfl,rfl⟩-;apply bC;exact aU;unfold rv;generalize hZ l 1000 n3 e3=u at hstep⊢;obtain⟨v,n4,e4⟩:=u;dsimp only at hstep⊢;refine CH fun r60 h60=> ?_;intros;apply dap (es':=(L++ [(v:Int)]).map aK) (len':=(L++ [(v:Int)]).length);rfl;infer_instance;infer_instance;rfl;rfl;exact bR
   ·simp
   ·exact .inr (.inr ⟨_,_,_,_,_,rfl,bR,X,rfl⟩)
   ·simp[aK]
   ·simp
   ·simp[maxLen];omega
   ·simp;omega
   ·rfl
   ·exact eC
   refine bG fun r61 h61=> ?_;intros;refine aAr ?_;refine jH ?_;refine⟨(r61,j+1),⟨⟨Ae r61 r6,Ae r61 r10,Ae r61 r2⟩,hlt2⟩,Ab U, ?_⟩;dsimp only;rw[hstep];exact aH
  ·obtain rfl:j=m:=by simp at h1;omega
   rw[hW]at hG;dsimp only at hG;refine dG ?_;refine cw [(r10,.box 346 (rv l (n3) (e3)))] call316 (kC r10 l hl hlt 1000 n3 hn3 e3) rfl ?_ ?_ ?_
   ·exact aC
   ·exact aA
   rintro _ Y' ⟨rfl,rfl⟩-;apply aR;exact aU;unfold rv;refine EF ?_;refine fR ?_;refine AF ?_;refine aB rfl ?_ ?_<;>intro ge
   ·unfold mH at hG;rw[ge]at hG;simp only[Dd]at hG;refine aI ?_;refine B8 ?_;refine xR ?_;refine bN (ks:=[0,2,3,4,5,6,7,18,26,32,33,38,43,50,53,54,55,67,75,79,84,93]) r2 3 3 1 V bR rfl V fun qz hqz=> ?_
    simp only[aN,aQ,and_true]at hqz;repeat rcases hqz with⟨_,hqz⟩
    apply Exists.intro;apply Bl;exact bK;refine aI ?_;apply aD;exact aE
    ·rw[hG];exact⟨qz,rfl,rfl⟩
    ·exact aA
   ·unfold mH at hG;rw[ge]at hG;simp only[Ag,De]at hG;refine aI ?_;refine B8 ?_;refine II ?_;refine CG ?_;apply aD;exact aE
    ·rw[hG];exact⟨p,rfl,rfl⟩
    ·exact aA
 refine cZ ?_;refine aB rfl ?_ ?_<;>intro g7
 ·refine aI ?_;have hG:fP l=mH ⟨(c:Int),(hZ l 3 n1 e1).1,(hZ l 4294967295 (hZ l 3 n1 e1).2.1 (hZ l 3 n1 e1).2.2).1,[]⟩ (hZ l 4294967295 (hZ l 3 n1 e1).2.1 (hZ l 3 n1 e1).2.2).2.1 (hZ l 4294967295 (hZ l 3 n1 e1).2.1 (hZ l 3 n1 e1).2.2).2.2:=by unfold fP vA;rw[hB];simp only[g1,g2,g3,g4,g5,g6,g7,Dd,De,Ag]
  have hn2:=PJ (lim:=3) (e:=e1) hn1;refine fO ?_;refine cw [(r10,.box 346 (rv l (n1) (e1)))] call316 (kC r10 l hl hlt 3 n1 hn1 e1) rfl ?_ ?_ ?_
  ·exact aC
  ·exact aA
  rintro _ Y' ⟨rfl,rfl⟩-;apply aR;exact aU;unfold rv;refine EF ?_;refine fR ?_;generalize hZ l 3 n1 e1=u at*;obtain⟨a,n2,e2⟩:=u;dsimp only at hn2 hG⊢;refine fO ?_;refine cw [(r10,.box 346 (rv l (n2) (e2)))] call316 (kC r10 l hl hlt 4294967295 n2 hn2 e2) rfl ?_ ?_ ?_
  ·exact aC
  ·exact aA
  rintro _ Y' ⟨rfl,rfl⟩-;apply aR;exact aU;unfold rv;refine EF ?_;refine fR ?_;refine AF ?_;refine aB rfl ?_ ?_<;>intro ge
  ·unfold mH at hG;rw[ge]at hG;simp only[Dd]at hG;refine aI ?_;refine B8 ?_;refine xR ?_;refine bN (ks:=[0,2,3,4,5,6,7,18,26,32,33,38,43,50,53,54,55,67,75,79,84,93]) r2 3 3 1 V bR rfl V fun qz hqz=> ?_
   simp only[aN,aQ,and_true]at hqz;repeat rcases hqz with⟨_,hqz⟩
   apply Exists.intro;apply Bl;exact bK;refine aI ?_;apply aD;exact aE
   ·rw[hG];exact⟨qz,rfl,rfl⟩
   ·exact aA
  ·unfold mH at hG;rw[ge]at hG;simp only[Ag,De]at hG;refine aI ?_;refine B8 ?_;refine II ?_;refine CG ?_;apply aD;exact aE
   ·rw[hG];exact⟨q,rfl,rfl⟩
   ·exact aA
 refine cZ ?_;refine aB rfl ?_ ?_<;>intro g8
 ·refine aI ?_;have hG:fP l=mH ⟨(c:Int),0,0,[]⟩ (PG l n1 e1).1 (PG l n1 e1).2:=by unfold fP vA;rw[hB];simp only[g1,g2,g3,g4,g5,g6,g7,g8,Dd,De,Ag]
  refine fO ?_;refine cw [(r10,.box 346 (rv l (n1) (e1)))] call317 (TM r10 l hl hlt n1 hn1 e1) rfl ?_ ?_ ?_
  ·exact aC
  ·exact aA
  rintro _ Y' ⟨rfl,rfl⟩-;apply aR;exact aU;unfold rv;refine iM ?_;refine AF ?_;refine aB rfl ?_ ?_<;>intro ge
  ·unfold mH at hG;rw[ge]at hG;simp only[Dd]at hG;refine aI ?_;refine B8 ?_;refine xR ?_;refine bN (ks:=[0,2,3,4,5,6,7,18,26,32,33,38,43,50,53,54,55,67,75,79,84,93]) r2 3 3 1 V bR rfl V fun qz hqz=> ?_
   simp only[aN,aQ,and_true]at hqz;repeat rcases hqz with⟨_,hqz⟩
   apply Exists.intro;apply Bl;exact bK;refine aI ?_;apply aD;exact aE
   ·rw[hG];exact⟨qz,rfl,rfl⟩
   ·exact aA
  ·unfold mH at hG;rw[ge]at hG;simp only[Ag,De]at hG;refine aI ?_;refine B8 ?_;refine II ?_;refine CG ?_;apply aD;exact aE
   ·rw[hG];exact⟨q,rfl,rfl⟩
   ·exact aA
 refine cZ ?_;refine aB rfl ?_ ?_<;>intro g9
 ·refine aI ?_;have hG:fP l=mH ⟨(c:Int),(FN l 32 n1).1,0,[]⟩ (FN l 32 n1).2.1 (FN l 32 n1).2.2:=by unfold fP vA;rw[hB];simp only[g1,g2,g3,g4,g5,g6,g7,g8,g9,Dd,De,Ag]
  refine fO ?_;refine cw [(r10,.box 346 (rv l (n1) (e1)))] call318 (IS r10 l hl hlt 32 (.inl rfl) n1 hn1 e1) rfl ?_ ?_ ?_
  ·exact aC
  ·exact aA
  rintro _ Y' ⟨rfl,rfl⟩-;apply aR;exact aU;unfold rv;refine EF ?_;refine fR ?_;refine AF ?_;refine aB rfl ?_ ?_<;>intro ge
  ·unfold mH at hG;rw[ge]at hG;simp only[Dd]at hG;refine aI ?_;refine B8 ?_;refine xR ?_;refine bN (ks:=[0,2,3,4,5,6,7,18,26,32,33,38,43,50,53,54,55,67,75,79,84,93]) r2 3 3 1 V bR rfl V fun qz hqz=> ?_
   simp only[aN,aQ,and_true]at hqz;repeat rcases hqz with⟨_,hqz⟩
   apply Exists.intro;apply Bl;exact bK;refine aI ?_;apply aD;exact aE
   ·rw[hG];exact⟨qz,rfl,rfl⟩
   ·exact aA
  ·unfold mH at hG;rw[ge]at hG;simp only[Ag,De]at hG;refine aI ?_;refine B8 ?_;refine II ?_;refine CG ?_;apply aD;exact aE
   ·rw[hG];exact⟨q,rfl,rfl⟩
   ·exact aA
 refine cZ ?_;refine aB rfl ?_ ?_<;>intro g10
 ·refine aI ?_;have hG:fP l=mH ⟨(c:Int),(FN l 64 n1).1,0,[]⟩ (FN l 64 n1).2.1 (FN l 64 n1).2.2:=by unfold fP vA;rw[hB];simp only[g1,g2,g3,g4,g5,g6,g7,g8,g9,g10,Dd,De,Ag]
  refine fO ?_;refine cw [(r10,.box 346 (rv l (n1) (e1)))] call318 (IS r10 l hl hlt 64 (.inr rfl) n1 hn1 e1) rfl ?_ ?_ ?_
  ·exact aC
  ·exact aA
  rintro _ Y' ⟨rfl,rfl⟩-;apply aR;exact aU;unfold rv;refine EF ?_;refine fR ?_;refine AF ?_;refine aB rfl ?_ ?_<;>intro ge
  ·unfold mH at hG;rw[ge]at hG;simp only[Dd]at hG;refine aI ?_;refine B8 ?_;refine xR ?_;refine bN (ks:=[0,2,3,4,5,6,7,18,26,32,33,38,43,50,53,54,55,67,75,79,84,93]) r2 3 3 1 V bR rfl V fun qz hqz=> ?_
   simp only[aN,aQ,and_true]at hqz;repeat rcases hqz with⟨_,hqz⟩
   apply Exists.intro;apply Bl;exact bK;refine aI ?_;apply aD;exact aE
   ·rw[hG];exact⟨qz,rfl,rfl⟩
   ·exact aA
  ·unfold mH at hG;rw[ge]at hG;simp only[Ag,De]at hG;refine aI ?_;refine B8 ?_;refine II ?_;refine CG ?_;apply aD;exact aE
   ·rw[hG];exact⟨q,rfl,rfl⟩
   ·exact aA
 refine aI ?_;have hG:fP l=mH ⟨(c:Int),0,0,[]⟩ n1 e1:=by unfold fP vA;rw[hB];simp only[g1,g2,g3,g4,g5,g6,g7,g8,g9,g10,Dd,De,Ag]
 refine AF ?_;refine aB rfl ?_ ?_<;>intro ge
 ·unfold mH at hG;rw[ge]at hG;simp only[Dd]at hG;refine aI ?_;refine B8 ?_;refine xR ?_;refine bN (ks:=[0,2,3,4,5,6,7,18,26,32,33,38,43,50,53,54,55,67,75,79,84,93]) r2 3 3 1 V bR rfl V fun qz hqz=> ?_
  simp only[aN,aQ,and_true]at hqz;repeat rcases hqz with⟨_,hqz⟩
  apply Exists.intro;apply Bl;exact bK;refine aI ?_;apply aD;exact aE
  ·rw[hG];exact⟨qz,rfl,rfl⟩
  ·exact aA
 ·unfold mH at hG;rw[ge]at hG;simp only[Ag,De]at hG;refine aI ?_;refine B8 ?_;refine II ?_;refine CG ?_;apply aD;exact aE
  ·rw[hG];exact⟨q,rfl,rfl⟩
  ·exact aA
end Go.Proofs.YtjpdadobblffmaaGreat
namespace Go.Proofs.YtjpdadobblffmaaGreat
open Go.RowKit Go.ChangeShapes Go.WideShapes Go.ChangeAt Go.Deep
theorem aDx(c:Nat):yA c=if c=64 then 0 else if c=127 then 1 else if c=126 then 2 else-1:=by
 by_cases h1:c=64
 ·subst h1;decide
 by_cases h2:c=127
 ·subst h2;decide
 by_cases h3:c=126
 ·subst h3;decide
 rw[Db h1,Db h2,Db h3];unfold yA XX;have:([64,127,126]:List Int).findIdx? (· ==(c:Int))=none:=by
  rw[List.findIdx?_eq_none_iff];intro x hx;simp at hx;rcases hx with rfl|rfl|rfl<;>simp<;>omega
 rw[this]
theorem CM{l p r:List Nat}{n:Nat}(h:l.drop n=p++r):l.drop (n+p.length)=r:=by
 rw[<-List.drop_drop,h,List.drop_left]
theorem XY{l r:List Nat}{n b:Nat}(h:l.drop n=b::r):qS l n 0=(b,n+1,0):=by
 have hn:n<l.length:=by
  by_cases hc:n<l.length
  ·exact hc
  ·rw[List.drop_of_length_le U]at h;cases h
 have hb:l[n]! =b:=by
  rw[getElem!_pos l n hn];rw[List.drop_eq_getElem_cons hn]at h;exact(List.cons.inj h).1
 unfold qS;rw[Db X,Db Af,hb]
theorem aDy{l r:List Nat}{n:Nat}(h:l.drop n=0::r):PG l n 0=(n+1,0):=by
 unfold PG;rw[XY h,Db X]
theorem BG{l r:List Nat}{n v:Nat}{lim:Int}(h:l.drop n=uB v++r)(h1:v<4294967296)(h2:(v:Int)<=lim):hZ l lim n 0=(v,n+(uB v).length,0):=by
 unfold hZ;rw[h,aAv h1,Db X,Db X,Db Af]
theorem aDz{l r:List Nat}{n bits:Nat}(hb:bits=32\/bits=64){v:Int}(h:l.drop n=sB v++r)(h1:-9223372036854775808<=v)(h2:v<=9223372036854775807)(h3:bits=32-> -2147483648<=v/\v<=2147483647):FN l bits n=(v,n+(sB v).length,0):=by
 unfold FN;rw[h,aGb hb h1 h2 h3]
theorem aDA{l r:List Nat}{n:Nat}{L:List Int}(h:l.drop n=(L.flatMap fun z=>uB z.toNat)++r)(hL:∀z∈L,0<=z/\z<=1000):∀m,m<=L.length->tD l m n 0=(L.take m,n+((L.take m).flatMap fun z=>uB z.toNat).length,0)
 |0,_=>by simp[tD]
 |m+1,hm=>by
  have ih:=aDA h hL m U;obtain⟨y,hy⟩:=Aa L m U
  obtain⟨hy0,hy1⟩:=hL y (Ah hy);obtain⟨z,rfl⟩:=Bh hy0;have hd:l.drop (n+((L.take m).flatMap fun z=>uB z.toNat).length)=uB z++(((L.drop (m+1)).flatMap fun z=>uB z.toNat)++r):=by
   refine CM ?_;rw[h,<-Aq,<-Aq]
   congr 1
   have:L=L.take m++(z:Int)::L.drop (m+1):=by
    rw[Ar U]at hy;rw[<-Option.some.inj hy,<-List.drop_eq_getElem_cons U,List.take_append_drop]
   conv=>lhs;rw[this]
   simp[Bo]
  rw[tD,ih];dsimp only;rw[BG hd U hy1,Al,hy];simp[Bo,By]
theorem aOY{x:Ins}(h:cY x=true)(hf:(aW x.op==8)=true):-2147483648<=x.a/\x.a<=2147483647:=by
 rw[beq_iff_eq]at hf;simp[cY,hf,kW]at h;omega
theorem aIW{x:Ins}(h:cY x=true)(hf:(aW x.op==1||aW x.op==7)=true):x.a=0:=by
 unfold cY at h;split at h
 ·cases h
 ·first|(rw[Dc hf]at h;simpa using h)|simpa using h
theorem aIX{x:Ins}(h:cY x=true)(hf:aW x.op≠6):x.b=0:=by
 unfold cY at h;split at h
 ·cases h
 ·next hp=>
  have h6:(aW x.op !=6)=true:=C8 hf
  unfold jN at hp;rw[Dc h6]at hp;split at hp
  ·simp at hp;exact hp.2
  ·simpa using hp
theorem aIY{x:Ins}(h:cY x=true)(hf:aW x.op≠4):x.l=[]:=by
 unfold cY at h;split at h
 ·cases h
 ·next hp=>
  have h4:(aW x.op !=4)=true:=C8 hf
  unfold jN at hp;rw[Dc h4]at hp;split at hp
  ·simp at hp
  ·next hq=>simpa using hq
theorem PL{x:Ins}(hx:x.Ok)(h:cY x=true)(rest:List Nat):fP (gT x++rest)=(x,(gT x).length,0):=by
 have f1:=PF h;have f2:=aJ2 h;have f3:=aGm h;have f4:=aGo h;have f5:=aGn h;have f6:=aGp h;have f8:=aOY h;have f17:=aIW h;have fb:=aIX h;have fl:=aIY h;have f9:-9223372036854775808<=x.a/\x.a<=9223372036854775807:=⟨hx.2.2.1,hx.2.2.2.1⟩
 have f0:(aW x.op==0)=false:=by
  by_cases h0:aW x.op=0
  ·rw[TL h0]at h;cases h
  ·simpa using h0
 obtain⟨op,a,b,L⟩:=x;dsimp only at f1 f2 f3 f4 f5 f6 f8 f9 f17 fb fl f0;obtain⟨op,rfl⟩:=Bh f1.1;have hp0:gT ⟨(op:Int),a,b,L⟩=op::gG ⟨(op:Int),a,b,L⟩:=rfl;obtain⟨l,hl⟩:∃l,l=gT ⟨(op:Int),a,b,L⟩++rest:=⟨_,rfl⟩
 rw[<-hl];have hB:qS l 0 0=(op,1,0):=XY (r:=gG ⟨(op:Int),a,b,L⟩++rest) (by rw[hl,hp0];rfl);have h1:l.drop 1=gG ⟨(op:Int),a,b,L⟩++rest:=by rw[hl,hp0];rfl
 unfold fP;rw[hB,hp0];dsimp only;rw[f0];simp only[Ag,De,bne_self_eq_false];unfold vA;unfold gG at h1⊢;by_cases g2:(aW (op:Int)==2)=true
 ·simp only[g2,Dd]at h1⊢;obtain⟨k1,k2⟩:=f2 g2;have e2:aW (op:Int)=2:=C8 g2
  obtain rfl:=fb U;obtain rfl:=fl U;have hk:PI l 1 0=(a,2,0):=by
   unfold PI;rw[XY h1,aDx];have:a=0\/a=1\/a=2:=by omega
   rcases this with rfl|rfl|rfl<;>rfl
  rw[hk];rfl
 simp only[g2,Ag,De]at h1⊢;by_cases g3:(aW (op:Int)==3)=true
 ·simp only[g3,Dd]at h1⊢;obtain⟨k1,k2⟩:=f3 g3;have e2:aW (op:Int)=3:=C8 g3
  obtain rfl:=fb U;obtain rfl:=fl U;obtain⟨a,rfl⟩:=Bh k1;rw[Bc]at h1⊢;rw[BG h1 U k2];simp[mH,Nat.add_comm]
 simp only[g3,Ag,De]at h1⊢;by_cases g5:(aW (op:Int)==5)=true
 ·simp only[g5,Dd]at h1⊢;obtain⟨k1,k2⟩:=f5 g5;have e2:aW (op:Int)=5:=C8 g5
  obtain rfl:=fb U;obtain rfl:=fl U;obtain⟨a,rfl⟩:=Bh k1;rw[Bc]at h1⊢;rw[Aq]at h1;rw[BG h1 U k2];dsimp only;rw[aDy (CM h1)];simp[mH];omega
 simp only[g5,Ag,De]at h1⊢;by_cases g4:(aW (op:Int)==4)=true
 ·simp only[g4,Dd]at h1⊢;obtain⟨⟨k1,k2⟩,k3,k4⟩:=f4 g4;have e2:aW (op:Int)=4:=C8 g4
  obtain rfl:=fb U;obtain⟨a,rfl⟩:=Bh k1;rw[Bc]at h1⊢;rw[Aq,Aq]at h1;have h2:=CM h1;rw[BG h1 U U];dsimp only;rw[aDA h2 k4 L.length (A3 _),Aw];dsimp only;rw[BG (CM h2) U k2];simp[mH];omega
 simp only[g4,Ag,De]at h1⊢;have e4:aW (op:Int)≠4:=C8 g4
 obtain rfl:=fl e4;by_cases g6:(aW (op:Int)==6)=true
 ·simp only[g6,Dd]at h1⊢;obtain⟨k1,k2,k3,k4⟩:=f6 g6;obtain⟨a,rfl⟩:=Bh k1;obtain⟨b,rfl⟩:=Bh k3;rw[Bc,Bc]at h1⊢;rw[Aq]at h1;rw[BG h1 U k2];dsimp only;rw[BG (CM h1) U k4];simp[mH];omega
 simp only[g6,Ag,De]at h1⊢;have e6:aW (op:Int)≠6:=C8 g6
 obtain rfl:=fb e6;by_cases g7:(aW (op:Int)==7)=true
 ·simp only[g7,Dd]at h1⊢;obtain rfl:=f17 (by rw[g7];simp);rw[aDy h1];simp[mH]
 simp only[g7,Ag,De]at h1⊢;by_cases g8:(aW (op:Int)==8)=true
 ·simp only[g8,Bool.true_or,Dd]at h1⊢;obtain⟨k1,k2⟩:=f8 g8;rw[aDz (.inl rfl) h1 f9.1 f9.2 (fun _=>⟨k1,k2⟩)];simp[mH,Nat.add_comm]
 simp only[g8,Ag,De]at h1⊢;by_cases g9:(aW (op:Int)==9)=true
 ·simp only[g9,Bool.or_true,Dd]at h1⊢;rw[aDz (.inr rfl) h1 f9.1 f9.2 (fun hc=>by cases hc)];simp[mH,Nat.add_comm]
 simp only[g9,Bool.or_false,Ag,De]at h1⊢;have ha:a=0:=by
  by_cases g1:aW (op:Int)=1
  ·exact f17 (by rw[g1];rfl)
  ·exfalso;have:cY ⟨(op:Int),a,0,[]⟩=false:=by
    unfold cY;have g1':(aW (op:Int)==1)=false:=C8 g1
    simp[g1',g2,g3,g4,g5,g6,g7,g8,g9]
   rw[this]at h;cases h
 subst ha;simp[mH]
theorem aDB(x:Ins):eqN x x=true:=by unfold eqN;simp
attribute [local irreducible] SW RS RD fE eA
theorem aBJ(l:List Nat)(hl:l.length<=maxLen)(n:Nat):SCall prog 55 [.ro 1 (l.map aG) .any,.int .i64 n] [] (fun x Y=>x=.ro 1 ((l.take n).map aG) .any/\Y=[]):=by
 unfold maxLen at hl;refine bO 13 [0,1,4,8] func55 ?_;refine aIQ ?_;refine tP ?_;refine aB rfl ?_ ?_<;>intro g1
 ·refine aI ?_;have h2:=of_decide_eq_true g1;refine kV ?_;refine aF0 ?_;refine cN ?_;apply aD;exact aE
  ·(first|(have h1:=of_decide_eq_false g1;rw[Aj U];exact⟨rfl,rfl⟩)|(rw[List.map_take];exact⟨by simp[fM],rfl⟩))
  ·exact aA
 refine fC ?_;apply aD;exact aE
 ·(first|(have h1:=of_decide_eq_false g1;rw[Aj U];exact⟨rfl,rfl⟩)|(rw[List.map_take];exact⟨by simp[fM],rfl⟩))
 ·exact aA
def XZ (x:Ins):Ins:=⟨x.op,x.a,x.b,x.l.take 55⟩
theorem aGr(x:Ins)(hx:x.l.length<=maxLen):SCall prog 81 [.agg (iv .any x)] [] (fun y Y=>∃q,y=.agg (io q (XZ x))/\Y=[(q,.arr 3 1 ((XZ x).l.map aK))]):=by
 unfold maxLen at hx;refine bO 34 [0,1,2,3,4,20] func81 ?_;unfold iv;refine dB ?_;refine fZ fun r1 h1=> ?_;intros;refine iD fun r2 h2=> ?_;intros;refine kX ?_;refine eY ?_;refine pD ?_;refine pD ?_;refine mM ?_;refine iD fun r3 h3=> ?_;intros;refine mG ?_;refine an ?_;refine bN (ks:=[0,1,2,3,4,20]) r3 3 3 1 V bR rfl V fun q hq=> ?_
 simp only[aN,aQ,and_true]at hq;repeat rcases hq with⟨_,hq⟩
 apply Exists.intro;apply Bl;exact bK;refine cV ?_;refine lp (β:=Nat×Nat) (fun b=>⟨[(1,.ptr r1 0),(2,.ptr r2 0),(3,.ptr r3 0),(4,.int .i64 b.2)],[(b.1,.arr 3 1 ((x.l.take b.2).map aK)),(r3,.box 46 [.int .i64 x.op,.int .i64 x.a,.int .i64 x.b,.own b.1 0 (x.l.take b.2).length]),(r2,.box 46 [.int .i64 0,.int .i64 0,.int .i64 0,.ro 0 [] .nil]),(r1,.box 46 [.int .i64 x.op,.int .i64 x.a,.int .i64 x.b,.ro 1 (x.l.map aK) .any])]⟩) (fun b=>(Nq b.1 r3/\Nq b.1 r2/\Nq b.1 r1)/\b.2<=x.l.length/\b.2<=55) (fun b=>55-b.2) (q,0) (by(exact aH)) ⟨⟨by(exact aX),by(exact aX),by(exact aX)⟩,U,U⟩ ?_;rintro⟨p,j⟩ ⟨⟨hp1,hp2,hp3⟩,hj,hj5⟩;dsimp only at hp1 hp2 hp3 hj hj5⊢;refine OY ?_;refine MJ ?_;refine z69 ?_;refine z7 ?_;refine iM ?_;refine aB rfl (fun h1=> ?_) (fun h1=> ?_)
 ·have hlt:j<x.l.length/\j<55:=by simp at h1;omega
  obtain⟨hlt,hlt5⟩:=hlt;obtain⟨y,hy⟩:=Aa x.l j hlt
  have hn:x.l.take (j+1)=x.l.take j++ [y]:=by rw[Al,hy];rfl
  have hlj:(x.l.take j).length=j:=by simp;omega
  refine aI ?_;refine eK (Ac [0,1,2,3,4,5,6] (Ad 7 (Ad 8 (Ac [9] (Ad 10 []))))) ?_;refine eQ ?_;refine CC ?_;refine MF ?_;refine CH fun r30 h30=> ?_;intros;apply dap (es':=(x.l.take j++ [y]).map aK) (len':=(x.l.take j++ [y]).length);rfl;infer_instance;infer_instance;rfl;rfl;exact bR
  ·simp
  ·exact .inr (.inr ⟨_,_,_,_,_,rfl,bR,X,rfl⟩)
  ·simp[aK]
  ·simp
  ·simp[maxLen];omega
  ·simp;omega
  ·rfl
  ·exact eC
  refine bG fun r31 h31=> ?_;intros;refine xQ ?_;refine⟨(r31,j+1),⟨⟨Ae r31 r3,Ae r31 r2,Ae r31 r1⟩,hlt,hlt5⟩,Ab U, ?_⟩;dsimp only;rw[hn];exact aH
 ·have he:x.l.take j=x.l.take 55:=by
   have:j=x.l.length\/j=55:=by simp at h1;omega
   rcases this with rfl|rfl
   ·rw[Aj (A3 _),Aj U]
   ·rfl
  rw[he];refine mE ?_;refine fR ?_;refine bS ?_;exact aD aE ⟨p,by rfl,rfl⟩ aA
end Go.Proofs.YtjpdadobblffmaaGreat
namespace Go.Proofs.YtjpdadobblffmaaGreat
open Go.RowKit Go.ChangeShapes Go.WideShapes Go.ChangeAt Go.Deep
class NoE {α:Type} (enc:α->List AV):Prop where
 no:∀a,∀x∈enc a,NoF x
theorem aDC{α:Type}{enc:α->List AV} [h:NoE enc] {e:TypeId}{sz:Nat}{l:List α}:ENoF (.arr e sz (l.map enc)):=by
 intro y hy x hx;obtain⟨a,-,rfl⟩:=Bm.1 hy;exact h.no a x hx
instance : NoE aG := ⟨fun a x hx => by simp [aG] at hx; subst hx; exact NoF.int⟩
theorem kK{P:Prop}(h:P:=by
  intro x Y' h;repeat(refine Exists.elim h ?_;clear h;intro _ h)
  first|(obtain⟨rfl,rfl⟩:=h)|(obtain⟨_,rfl,rfl⟩:=h)|(obtain⟨_,_,rfl,rfl⟩:=h)
  refine⟨bH, ?_⟩;intro p hp;simp only[List.mem_cons,List.not_mem_nil,or_false]at hp;repeat' (first|(rcases hp with rfl|hp)|(cases hp;done))
  all_goals first|exact aDC|exact enof_nil|exact enof_box bH):P:=h
section
variable {P : Program} {n : Nat} {ops : Array Oper} {rest : List Oper} {fr : Fr} {Y : dI} {K : ASt -> Prop} {op : Op} {ty t t' : TypeId} {pos : String} {af : Array Edge} {x y : Operand} {d : Nat} {f : FuncId} {xs : List Operand} {ats : Array TypeId} {args : List AV}
theorem kY{v:AV}(hf:∀args w,(callFunc f args).run P w=.ok (.enter f args) w)(h:SCall P f args [] (fun x Y'=>x=v/\Y'=[]))(hd:Bp (d+1) n=true)
  (hargs:ArgsIf ⟨fr,Y⟩ true (Y.map (·.1)) xs args) (hno:NoF v) (hK:RS P n ops rest ⟨(d,v)::fr,Y⟩ K):RS P n ops (⟨some d,.call { callee:=.value (.func f),args:=xs.toArray,argTypes:=ats },ty,pos,af,none⟩::rest) ⟨fr,Y⟩ K:=pu _ hf h hd hargs hno hK
theorem kL{j dj:Nat}{want b:Bool}{v:AV}(hj:(ops[j]?).bind (·.dst)=some dj)(hb:dR fr dj=some (.bool b))(hf:∀args w,(callFunc f args).run P w=.ok (.enter f args) w)
  (h:(b==want)=true->SCall P f args [] (fun x Y'=>x=v/\Y'=[])) (hd:Bp (d+1) n=true) (hargs:ArgsIf ⟨fr,Y⟩ (b==want) (Y.map (·.1)) xs args) (hno:NoF v) (hK:RS P n ops rest ⟨(d,.when (b==want) v)::fr,Y⟩ K):
  RS P n ops (⟨some d,.call { callee:=.value (.func f),args:=xs.toArray,argTypes:=ats },ty,pos,af,some (j,want)⟩::rest) ⟨fr,Y⟩ K:=pug _ hj hb hf h hd hargs hno hK
theorem tE{R:AV->dI->Prop}(hf:∀args w,(callFunc f args).run P w=.ok (.enter f args) w)(h:SCall P f args [] R)(hd:Bp (d+1) n=true)
  (hargs:ArgsBor ⟨fr,Y⟩ (Y.map (·.1)) xs args) (hno:∀x Y',R x Y'->NoF x/\∀p∈Y',ENoF p.2) (hK:∀x Y',R x Y'->(∀p∈Y',Fresh p.1 Y)->RS P n ops rest ⟨(d,x)::fr,Y'++Y⟩ K):
  RS P n ops (⟨some d,.call { callee:=.value (.func f),args:=xs.toArray,argTypes:=ats },ty,pos,af,none⟩::rest) ⟨fr,Y⟩ K:=cl _ hf h hd hargs hno hK
theorem aGs{P:Prop}(h:P:=by(first|exact .inl ⟨_,rfl⟩|exact .inr (.inr ⟨_,_,_,_,_,rfl,bR,X,rfl⟩)|exact .inr (.inl ⟨_,_,rfl,rfl⟩))):P:=h
theorem aJ5{P:Prop}(h:P:=by(first|rfl|(simp;done)|(simp only[List.map_append,List.drop_zero];rfl)|(simp only[List.drop_zero,List.map_append,List.map_cons,List.map_nil];congr 1;exact List.take_of_length_le X)|(simp only[List.drop_zero,List.map_append];congr 1;exact List.take_of_length_le (by first|(simp;done)|omega)))):P:=h
theorem PM{P:Prop}(h:P:=by(first|rfl|omega|(simp;done)|(simp;omega)|(simp[maxLen];omega))):P:=h
theorem kD{e:TypeId} [Ty P t (.slice e)] {sz by_:Nat}{zv:Value} [Tz P e sz by_ zv] {r len:Nat}{es ys:List (List AV)}(es':List (List AV))(len':Nat)
  (hK:∀r',Fresh r' (eD [r] Y)->∃Y',SSet Y r (.arr e sz es) r' (.arr e sz es') Y'/\RS P n ops rest ⟨(d,.own r' 0 len')::fr,Y'⟩ K)
  (hz:zv.cells.size=sz:=by rfl) (hb:aev ⟨fr,Y⟩ x=some (.own r 0 len):=by rfl) (hg:gM Y r=some (.arr e sz es):=by exact bR) (hlen:len=es.length:=by exact PM) (hy:Src ⟨fr,Y⟩ y sz ys:=by exact aGs)
  (he:es++ys=es':=by exact aJ5) (hl':len'=len+ys.length:=by exact PM) (hmax:len'<=maxLen:=by(simp[maxLen];try omega)) (hby:len'*by_<=140737488355328:=by(simp;try omega)) (hd:Nat.ble (d+1) n=true:=by rfl):
  RS P n ops (⟨some d,.call { callee:=.builtin .append,args:=#[x,y],argTypes:=#[t,t] },ty,pos,af,none⟩::rest) ⟨fr,Y⟩ K:=ap hz hb hg hlen hy he hl' hmax hby hd hK
theorem PN{j q:Nat}{v v':AV}{e:Ent}{Y':dI}(hx:dR fr j=some v)(hd:SDel Y q e Y')(hb:Bor Y [q] v v'):SGo ⟨fr,Y⟩ ⟨(j,v')::fr,Y'⟩:=by
 refine uV [q] (fun i x' hi=> ?_) (fun p hp=> ?_)
 ·simp only[dR]at hi;split at hi
  ·next h=>subst h;obtain rfl:=Option.some.inj hi;exact⟨_,hx,hb⟩
  ·exact⟨x',hi,.refl _⟩
 ·obtain⟨h1,h2⟩:=hd.sub p hp;exact⟨C8 h2,p.2,h1,.refl _⟩
theorem iE{j q:Nat}{v v':AV}{e:Ent}{Y':dI}(hx:dR fr j=some v)(hd:SDel Y q e Y')(hb:Bor Y [q] v v')(hK:RS P n ops rest ⟨(j,v')::fr,Y'⟩ K):RS P n ops rest ⟨fr,Y⟩ K:=mC (PN hx hd hb) hK
theorem TO{ks:List Nat}{c:Code}{Q:Exit->ASt->Prop}{j q:Nat}{v v':AV}{e:Ent}{Y':dI}(hx:dR fr j=some v)(hd:SDel Y q e Y')(hb:Bor Y [q] v v')(hK:SW P n ks c ⟨(j,v')::fr,Y'⟩ Q):SW P n ks c ⟨fr,Y⟩ Q:=dO (PN hx hd hb) hK
theorem aL{q len sz:Nat}{et:TypeId}{es:List (List AV)}(hg:gM Y q=some (.arr et sz es))(hl:len=es.length):Bor Y [q] (.own q 0 len) (.ro sz es .any):=
 XN Au hg U (by subst hl;simp)
variable {listed : Array Bool} {todo : List (Nat × Bool)} {held : List (Nat × List Nat)} {i : Nat}
theorem LM{v:AV}(hi:ops[i]? =some ⟨some d,.call { callee:=.value (.func f),args:=xs.toArray,argTypes:=ats },ty,pos,af,none⟩)(hf:∀args w,(callFunc f args).run P w=.ok (.enter f args) w)(h:SCall P f args [] (fun x Y'=>x=v/\Y'=[]))(hd:Bp (d+1) n=true)
  (hargs:ArgsIf ⟨fr,Y⟩ true (Y.map (·.1)) xs args) (hno:NoF v) (hK:RD P n ops (listed.setIfInBounds i true) todo held ⟨(d,v)::fr,Y⟩ K):RD P n ops listed ((i,false)::todo) held ⟨fr,Y⟩ K:=dpu _ hi hf h hd hargs hno hK
theorem aDD{j dj:Nat}{want b:Bool}{v:AV}(hi:ops[i]? =some ⟨some d,.call { callee:=.value (.func f),args:=xs.toArray,argTypes:=ats },ty,pos,af,some (j,want)⟩)(hj:(ops[j]?).bind (·.dst)=some dj)(hb:dR fr dj=some (.bool b))(hf:∀args w,(callFunc f args).run P w=.ok (.enter f args) w)
  (h:(b==want)=true->SCall P f args [] (fun x Y'=>x=v/\Y'=[])) (hd:Bp (d+1) n=true) (hargs:ArgsIf ⟨fr,Y⟩ (b==want) (Y.map (·.1)) xs args) (hno:NoF v) (hK:RD P n ops (listed.setIfInBounds i true) todo held ⟨(d,.when (b==want) v)::fr,Y⟩ K):
  RD P n ops listed ((i,false)::todo) held ⟨fr,Y⟩ K:=aN9 _ hi hj hb hf h hd hargs hno hK
theorem FO{j dj:Nat}{want:Bool}{v:AV}(hi:ops[i]? =some ⟨some d,.call { callee:=.value (.func f),args:=xs.toArray,argTypes:=ats },ty,pos,af,some (j,want)⟩)(hj:(ops[j]?).bind (·.dst)=some dj)(hb:dR fr dj=some (.bool want))(hf:∀args w,(callFunc f args).run P w=.ok (.enter f args) w)(h:SCall P f args [] (fun x Y'=>x=v/\Y'=[]))(hd:Bp (d+1) n=true)
  (hargs:ArgsIf ⟨fr,Y⟩ true (Y.map (·.1)) xs args) (hno:NoF v) (hK:RD P n ops (listed.setIfInBounds i true) todo held ⟨(d,v)::fr,Y⟩ K):RD P n ops listed ((i,false)::todo) held ⟨fr,Y⟩ K:=BZ (s:=⟨fr,Y⟩) hi hj hb (SD _ hf h (cL hd) hargs hno hK) (.inl rfl)
theorem mI{R:AV->dI->Prop}(hi:ops[i]? =some ⟨some d,.call { callee:=.value (.func f),args:=xs.toArray,argTypes:=ats },ty,pos,af,none⟩)(hf:∀args w,(callFunc f args).run P w=.ok (.enter f args) w)(h:SCall P f args [] R)(hd:Bp (d+1) n=true)
  (hargs:ArgsBor ⟨fr,Y⟩ (Y.map (·.1)) xs args) (hno:∀x Y',R x Y'->NoF x/\∀p∈Y',ENoF p.2) (hK:∀x Y',R x Y'->(∀p∈Y',Fresh p.1 Y)->RD P n ops (listed.setIfInBounds i true) todo held ⟨(d,x)::fr,Y'++Y⟩ K):
  RD P n ops listed ((i,false)::todo) held ⟨fr,Y⟩ K:=dcl _ hi hf h hd hargs hno hK
theorem eW{e:TypeId}{sz by_:Nat}{zv:Value}{r len:Nat}{es ys:List (List AV)}(hi:ops[i]? =some ⟨some d,.call { callee:=.builtin .append,args:=#[x,y],argTypes:=#[t,t] },ty,pos,af,none⟩)(es':List (List AV))(len':Nat)
  (hK:∀r',Fresh r' (eD [r] Y)->∃Y',SSet Y r (.arr e sz es) r' (.arr e sz es') Y'/\RD P n ops (listed.setIfInBounds i true) todo held ⟨(d,.own r' 0 len')::fr,Y'⟩ K)
  (i1:Ty P t (.slice e):=by infer_instance) (i2:Tz P e sz by_ zv:=by infer_instance) (hz:zv.cells.size=sz:=by rfl) (hx:aev ⟨fr,Y⟩ x=some (.own r 0 len):=by rfl) (hg:gM Y r=some (.arr e sz es):=by exact bR) (hlen:len=es.length:=by exact PM) (hy:Src ⟨fr,Y⟩ y sz ys:=by exact aGs)
  (he:es++ys=es':=by exact aJ5) (hl':len'=len+ys.length:=by exact PM) (hmax:len'<=maxLen:=by(simp[maxLen];try omega)) (hby:len'*by_<=140737488355328:=by(simp;try omega)) (hd:Nat.ble (d+1) n=true:=by rfl) (hb:HB ops i (Y.map (·.1)) [r] held:=by exact eC):
  RD P n ops listed ((i,false)::todo) held ⟨fr,Y⟩ K:=dap hi i1 i2 hz hx hg hlen hy he hl' hmax hby hd hb hK
end
theorem aJ6{p q:Bool}:(if p=true then q else false)=(p&&q):=by cases p<;>rfl
theorem aIZ{p q:Bool}:(if p=true then true else q)=(p||q):=by cases p<;>rfl
theorem bT{H R:Prop}(a:H)(h:H->R:=by intro h;(try simp only[aJ6,aIZ]at h);simp only[Bool.and_eq_true,Bool.or_eq_true,Bool.and_eq_false_iff,Bool.or_eq_false_iff,decide_eq_true_eq,decide_eq_false_iff_not,Bool.not_eq_true',Bool.not_eq_false',bne_iff_ne,beq_iff_eq,ne_eq,Bool.not_eq_eq_eq_not,Bool.not_true,Bool.not_false,bne_eq_false_iff_eq,beq_eq_false_iff_ne]at h;exact h):R:=h a
instance : NoE aK := ⟨fun a x hx => by simp [aK] at hx; subst hx; exact NoF.int⟩
theorem aGt(x:Ins):∀b∈gG x,b<256:=by
 have hf:∀l:List Int,∀b∈(l.flatMap fun n=>uB n.toNat),b<256:=by
  intro l b hb;obtain⟨n,-,hn⟩:=List.mem_flatMap.1 hb;exact mQ _ b hn
 intro b hb;unfold gG at hb;split at hb
 ·rw[A1.1 hb];unfold xZ;split<;>(try split)<;>decide
 split at hb
 ·exact mQ _ b hb
 split at hb
 ·rcases A8.1 hb with h|h
  ·exact mQ _ b h
  ·rw[A1.1 h];decide
 split at hb
 ·rcases A8.1 hb with h|h
  ·rcases A8.1 h with h|h
   ·exact mQ _ b h
   ·exact hf _ b h
  ·exact mQ _ b h
 split at hb
 ·rcases A8.1 hb with h|h
  ·exact mQ _ b h
  ·exact mQ _ b h
 split at hb
 ·rw[A1.1 hb];decide
 split at hb
 ·exact aIR _ x.a (A3 _) b hb
 ·simp at hb
theorem aAA{x:Ins}(hm:cY x=true):∀b∈gT x,b<256:=by
 intro b hb;rcases Av.1 hb with rfl|hb
 ·have:=PF hm;omega
 ·exact aGt x b hb
theorem yB{x:Ins}(hx:x.Ok)(hm:cY x=true):(gT x).length<=200:=by
 unfold gT;rw[Bj]
 suffices (gG x).length<=199 by omega
 unfold gG;split
 ·simp
 split
 ·next h=>have:=aGm hm h;have:=bJ 1 x.a.toNat U;omega
 split
 ·next h=>have:=aGn hm h;have:=bJ 1 x.a.toNat U;simp;omega
 split
 ·next h=>
  obtain⟨h1,h2,h3⟩:=aGo hm h;have:=bJ 1 x.a.toNat U;have:=bJ 0 x.l.length U;have:=tX h3;simp only[Ao];omega
 split
 ·next h=>have:=aGp hm h;have:=bJ 0 x.a.toNat U;have:=bJ 4 x.b.toNat U;simp;omega
 split
 ·simp
 split
 ·obtain⟨-,-,h1,h2,-⟩:=hx;have:=BD 9 x.a U U;omega
 ·simp
theorem HA{x y:Ins}:eqN x y=true↔x=y:=by
 cases x;cases y
 simp[eqN]
attribute [local irreducible] SW RS RD fE eA
def qL (l:List Ins) (n:Nat):List Ins:=(l.take n).map XZ
theorem YA{l:List Ins}{j:Nat}{x:Ins}(h:l[j]? =some x):qL l (j+1)=qL l j++ [XZ x]:=by
 unfold qL;rw[Al,h];simp
theorem aBK{l:List Ins}{j:Nat}(h:j<=l.length):(qL l j).length=j:=by unfold qL;simp;omega
theorem aJ7{q:Nat}{x:Ins}{e:TypeId}{Y:dI}(h:gM Y q=some (.arr e 1 (x.l.map aK))):Bor Y [q] (.agg (io q x)) (.agg (iv .any x)):=
 aC1 (.cons (.refl _) (.cons (.refl _) (.cons (.refl _) (.cons (aL h X) .nil))))
theorem aDE(l:List Ins)(hl:l.length<=maxLen)(hw:∀x∈l,x.l.length<=maxLen)(n:Nat)(hn:n<=1000):SCall prog 26 [.ro 4 (l.map (iv .any)) .any,.int .i64 n] []
  (fun y Y=>∃q,y=.own q 0 (qL l n).length/\Y=[(q,.arr 46 4 ((qL l n).map (iv .any)))]):=by
 unfold maxLen at hl;refine bO 27 [0,1,4,5,6,15] func26 ?_;refine sP ?_;refine iT ?_;refine cN ?_;refine bQ 5 46 4 V rfl V (bD fun q0 hq0=> ?_);repeat rcases hq0 with⟨_,hq0⟩
 refine lp (β:=Nat×Nat) (fun b=>⟨[(0,.ro 4 (l.map (iv .any)) .any),(1,.int .i64 n),(5,.own b.1 0 (qL l b.2).length),(6,.int .i64 b.2)],[(b.1,.arr 46 4 ((qL l b.2).map (iv .any)))]⟩) (fun b=>b.2<=n/\b.2<=l.length) (fun b=>n-b.2) (q0,0) aH ⟨U,U⟩ ?_;rintro⟨q,j⟩ ⟨hj,hjl⟩;dsimp only at hj hjl⊢;refine AB ?_;refine xL ?_;refine jZ ?_;refine GF ?_;refine qO ?_;refine aB rfl ?_ ?_<;>intro g3
 ·replace g3:=bT g3
  obtain⟨x,hx⟩:=Aa l j U
  have hxm:=hw x (Ah hx);have hnx:=YA hx;have hbl:=aBK hjl;refine cJ ?_;refine sI ?_;refine cw [] call81 (aGr x hxm) rfl aC aA ?_;rintro _ Y' ⟨q2,rfl,rfl⟩ h23
  replace h23:=gE h23;repeat rcases h23 with⟨_,h23⟩
  apply aR;exact aU;refine iE (j:=23) rfl aY (aJ7 bR) ?_;refine eN fun r24 h24=> ?_;intros;refine kD ((qL l j++ [XZ x]).map (iv .any)) (qL l j++ [XZ x]).length ?_;refine bG fun r25 h25=> ?_;intros;refine gX ?_;refine xK ?_;refine⟨(r25,j+1),⟨by show j+1<=n;omega,by show j+1<=l.length;omega⟩,Ab U, ?_⟩;dsimp only;rw[hnx];exact aH
 have he:qL l j=qL l n:=by
  have:j=n\/j=l.length:=by replace g3:=bT g3;omega
  rcases this with rfl|rfl
  ·rfl
  ·unfold qL;rw[Aj (A3 _),Aj hj]
 rw[he];refine fC ?_;exact aD aE ⟨q,by rfl,rfl⟩ aA
end Go.Proofs.YtjpdadobblffmaaGreat
namespace Go.Proofs.YtjpdadobblffmaaGreat
open Go.RowKit Go.ChangeShapes Go.WideShapes Go.ChangeAt Go.Deep
theorem PO{H:Type}{enc:TypeId×Value->H}{P:Program}{W:World}{fuel:Nat}{t:TypeId}{n:Nat}{fs:Array Field}{cs:List Value}{x:DataW H×List MemPlace}(hs:P.underlying t=some (.struct fs))(hC:P.cellsOf t=n)
  (h:DataW.trod enc P W 0 (fun _=>true) true fuel t cs=some x):cs.length=n/\∀(i:Nat) (f:Field),fs[i]? =some f->∃m y,DataW.trod enc P W 0 (fun _=>true) true m f.type ((cs.drop f.offset).take (P.cellsOf f.type))=some y:=by
 obtain⟨xs,m,_,_,hl,hxl,hf⟩:=DataW.trod_struct hs h;refine⟨hl.trans hC,fun i f hi=> ?_⟩;have hlt:i<xs.length:=by rw[hxl];exact(Array.getElem?_eq_some_iff.1 hi).1
 exact⟨m,_,(hf i f hi).trans (Ar hlt)⟩
theorem aGu{P:Program}{f:Func}(h:(f.params.toList.all fun t=>P.readableRec t&&decide (t<P.types.size))=true):∀t∈f.params.toList,P.readableRec t=true/\t<P.types.size:=by
 intro t ht;have:=Bw.1 h t ht;simpa using this
def VR0 (W:World):AV->Value->Prop:=VR (fun _=>none) (fun b=>b<W.heap.size) W
structure RdA (P:Program) (t:TypeId) (α:Type) (sz:Nat) (en:α->List AV) (ok:α->Prop):Prop where
 cells:P.cellsOf t=sz
 shape:∀a,(en a).length=sz/\∀x∈en a,x.cell=true
 read:∀(H:Type) (enc:TypeId×Value->H) (W:World) (fuel:Nat) (cs:List Value) (x:DataW H×List MemPlace),DataW.trod enc P W 0 (fun _=>true) true fuel t cs=some x->
  ∃a:α,ok a/\cs.length=sz/\∀(j:Nat) (x:AV) (u:Value),(en a)[j]? =some x->cs[j]? =some u->VR0 W x u
section
variable {P : Program} {t : TypeId}
theorem tY{sz by_:Nat}{z:Value}(i2:Tz P t sz by_ z):P.cellsOf t=sz:=by
 obtain⟨i,h1,_,h2,_⟩:=Tz.parts P t;simp[Program.cellsOf,h1,h2]
theorem EK{W:World}{x:AV}{u:Value}(h:VR0 W x u):∀(j:Nat) (y:AV) (v:Value),[x][j]? =some y-> [u][j]? =some v->VR0 W y v:=by
 intro j y v hy hv
 match j with
 |0=>
  simp at hy hv;subst hy hv;exact h
 |j+1=>simp at hy
theorem HC{sz by_:Nat}{z:Value}{k:IntKind} [i:Ty P t (.int k)] [i2:Tz P t sz by_ z] (hsz:sz=1):RdA P t Int 1 (fun n=>[.int k n]) (fun n=>(Lit.int k n).wf=true):=by
 subst hsz;refine⟨tY i2,fun a=>⟨rfl,by simp[AV.cell]⟩,fun H enc W fuel cs x h=> ?_⟩;obtain⟨n,rfl,_,hw⟩:=DataW.trod_int i.und h;exact⟨n,hw,rfl,EK (.int k n)⟩
theorem aDF{sz by_:Nat}{z:Value} [i:Ty P t .bool] [i2:Tz P t sz by_ z] (hsz:sz=1):RdA P t Bool 1 (fun b=>[.bool b]) (fun _=>True):=by
 subst hsz;refine⟨tY i2,fun a=>⟨rfl,by simp[AV.cell]⟩,fun H enc W fuel cs x h=> ?_⟩;obtain⟨n,rfl,_⟩:=DataW.trod_bool i.und h;exact⟨n,trivial,rfl,EK (.bool n)⟩
theorem aGv{sz by_:Nat}{z:Value} [i:Ty P t .string] [i2:Tz P t sz by_ z] (hsz:sz=1):RdA P t ByteArray 1 (fun b=>[.str b]) (fun b=>b.size<=maxLen):=by
 subst hsz;refine⟨tY i2,fun a=>⟨rfl,by simp[AV.cell]⟩,fun H enc W fuel cs x h=> ?_⟩;obtain⟨n,rfl,_,hm⟩:=DataW.trod_string i.und h;exact⟨n,hm,rfl,EK (.str n)⟩
theorem kR{α:Type}{e:TypeId}{sz szs by_:Nat}{z:Value}{en:α->List AV}{ok:α->Prop} [i:Ty P t (.slice e)] [i2:Tz P t szs by_ z] (hsz:szs=1)(hpos:0<sz)(he:RdA P e α sz en ok):
  RdA P t (List α) 1 (fun l=>[.ro sz (l.map en) .any]) (fun l=>l.length<=maxLen/\∀a∈l,ok a):=by
 subst hsz;refine⟨tY i2,fun a=>⟨rfl,by simp[AV.cell]⟩,fun H enc W fuel cs x h=> ?_⟩;rcases open_slice i.und h with⟨rfl,_⟩|⟨a,len,cap,m,n,D,Pl,rfl,_,hl,hm,hmm,_,hi⟩
 ·exact⟨[],⟨Am _,X⟩,rfl,EK (.ro0 (Am _) (fun _=>rfl) (fun h=>by cases h) (fun h=>by cases h))⟩
 ·simp only[Dd]at hmm;subst hmm;rcases Nat.eq_zero_or_pos len with rfl|hlen
  ·exact⟨[],⟨Am _,X⟩,rfl,EK (.ro0 hm (fun h=>by cases h) (fun h=>by cases h) (fun h=>by cases h))⟩
  obtain⟨b,off,spot⟩:=a;have hspot:spot=none/\b<W.heap.size:=by
   obtain⟨us0,hc0,_⟩:=hi 0 U;obtain⟨_,hul0,hat0⟩:=World.cells?_some hc0;rw[he.cells]at hul0 hat0;have h00:=hat0 0 hpos;rw[Ar U]at h00;simp only[Nat.zero_mul]at h00;have hs:spot=none:=by simpa[Addr.add]using World.cell?_spot h00
   refine⟨hs, ?_⟩;have:=World.block_lt_of_cell? _ _ h00
   rwa [BV,BV]at this
  obtain⟨rfl,hlt⟩:=hspot;have hex:∀i:Nat,∃y:Option (α×List Value),i<len->∃z us,y=some (z,us)/\ok z/\us.length=sz/\(∀(j:Nat) (u:Value),us[j]? =some u->W.cell? ⟨b,off+i*sz+j,none⟩=some u)/\∀(j:Nat) (x:AV) (u:Value),(en z)[j]? =some x->us[j]? =some u->VR0 W x u:=by
   intro i;by_cases hlt:i<len
   ·obtain⟨us,hc,htr⟩:=hi i U;obtain⟨z,hz,hzl,hzv⟩:=he.read H enc W n us _ htr;obtain⟨_,hul,hat⟩:=World.cells?_some hc;rw[he.cells]at hul hat;refine⟨some (z,us),fun _=>⟨z,us,rfl,hz,hzl,fun j u hu=> ?_,hzv⟩⟩;have hj:j<sz:=by have:=(Ai.1 hu).1;omega
    have:=hat j hj;rw[hu,XJ,Addr.add_lit]at this;rw[By];exact this
   ·exact⟨none,fun h=>absurd h hlt⟩
  obtain⟨f,hf⟩:=Classical.axiomOfChoice hex;obtain⟨d,d2,_⟩:=hf 0 U
  let g:Nat->α×List Value:=fun i=>(f i).getD (d,d2)
  have hg:∀i,i<len->ok (g i).1/\(g i).2.length=sz/\(∀(j:Nat) (u:Value),(g i).2[j]? =some u->W.cell? ⟨b,off+i*sz+j,none⟩=some u)/\∀(j:Nat) (x:AV) (u:Value),(en (g i).1)[j]? =some x->(g i).2[j]? =some u->VR0 W x u:=by
   intro i hlt;obtain⟨z,us,hz,h1,h2,h3,h4⟩:=hf i hlt;have:g i=(z,us):=by show(f i).getD _=_;rw[hz];rfl
   rw[this];exact⟨h1,h2,h3,h4⟩
  have hpick:∀(i:Nat) (e:List AV) (j:Nat) (a:AV),(((List.range len).map fun i=>(g i).1).map en)[i]? =some e->e[j]? =some a->i<len/\(en (g i).1)[j]? =some a/\∃u,(g i).2[j]? =some u/\u=((g i).2[j]?).getD Go.undef:=by
   intro i e j a hie hja;have hlt:i<len:=by have:=(Ai.1 hie).1;simpa using this
   rw[Bg,Bg,List.getElem?_range hlt]at hie;simp at hie;subst hie;refine⟨hlt,hja, ?_⟩;have hj:j<(g i).2.length:=by
    rw[(hg i hlt).2.1,<-(he.shape (g i).1).1];exact(Ai.1 hja).1
   exact⟨(g i).2[j],Ar hj,by simp[Ar hj]⟩
  refine⟨(List.range len).map (fun i=>(g i).1),⟨by simp;omega, ?_⟩,rfl,EK ?_⟩
  ·intro a ha;simp only[Bm,List.mem_range]at ha;obtain⟨i,hi,rfl⟩:=ha;exact(hg i hi).1
  ·have hlen':(((List.range len).map fun i=>(g i).1).map en).length=len:=by simp
   have key:=VR.ro (M:=fun _=>none) (F:=fun b=>b<W.heap.size) (w:=W) (es:=((List.range len).map fun i=>(g i).1).map en) (k:=.any) (b:=b) (o:=off) (sz:=sz) (cap:=m)
    (us:=fun i j=>((g i).2[j]?).getD Go.undef) hlt ?_ ?_ ?_ (by rw[hlen'];exact hl) hm (fun h=>by cases h) (fun h=>by cases h)
   ·rw[hlen']at key;exact key
   ·intro x hx;simp only[Bm]at hx;obtain⟨a,_,rfl⟩:=hx;exact he.shape a
   ·intro i e j a hie hja;obtain⟨h1,h2,u,hu,hu'⟩:=hpick i e j a hie hja;rw[<-hu'];exact(hg i h1).2.2.1 j u hu
   ·intro i e j a hie hja;obtain⟨h1,h2,u,hu,hu'⟩:=hpick i e j a hie hja;rw[<-hu'];exact(hg i h1).2.2.2 j a u h2 hu
structure RdF (P:Program) (fs:List Field) (off:Nat) (α:Type) (sz:Nat) (en:α->List AV) (ok:α->Prop):Prop where
 shape:∀a,(en a).length=sz/\∀x∈en a,x.cell=true
 read:∀(H:Type) (enc:TypeId×Value->H) (W:World) (cs:List Value),cs.length=off+sz->(∀f∈fs,∃m y,DataW.trod enc P W 0 (fun _=>true) true m f.type ((cs.drop f.offset).take (P.cellsOf f.type))=some y)->
  ∃a:α,ok a/\∀(j:Nat) (x:AV) (u:Value),(en a)[j]? =some x->cs[off+j]? =some u->VR0 W x u
theorem oD{α:Type}{sz off:Nat}{en:α->List AV}{ok:α->Prop}{f:Field}(h:RdA P f.type α sz en ok)(ho:f.offset=off):RdF P [f] off α sz en ok:=by
 refine⟨h.shape,fun H enc W cs hl hf=> ?_⟩;obtain⟨m,y,hy⟩:=hf f X;obtain⟨a,h1,h2,h3⟩:=h.read H enc W m _ y hy;refine⟨a,h1,fun j x u hx hu=>h3 j x u hx ?_⟩;have hj:=(Ai.1 hx).1;rw[(h.shape a).1]at hj;rw[List.getElem?_take,h.cells,Dc hj,Bb,ho,hu]
theorem eR{α β:Type}{sz sz' off:Nat}{en:α->List AV}{ok:α->Prop}{en':β->List AV}{ok':β->Prop}{f:Field}{fs:List Field}(h:RdA P f.type α sz en ok)(ho:f.offset=off)
  (k:RdF P fs (off+sz) β sz' en' ok'):RdF P (f::fs) off (α×β) (sz+sz') (fun p=>en p.1++en' p.2) (fun p=>ok p.1/\ok' p.2):=by
 refine⟨fun a=>⟨by simp[(h.shape a.1).1,(k.shape a.2).1],fun x hx=>(A8.1 hx).elim ((h.shape a.1).2 x) ((k.shape a.2).2 x)⟩,fun H enc W cs hl hf=> ?_⟩;obtain⟨m,y,hy⟩:=hf f X;obtain⟨a,h1,h2,h3⟩:=h.read H enc W m _ y hy;obtain⟨b,k1,k2⟩:=k.read H enc W cs U (fun f' hf'=>hf f' (by simp[hf']));refine⟨(a,b),⟨h1,k1⟩,fun j x u hx hu=> ?_⟩;have hsz:(en a).length=sz:=(h.shape a).1;dsimp only at hx;by_cases hj:j<sz
 ·refine h3 j x u ?_ ?_
  ·rwa [Ba U]at hx
  ·rw[List.getElem?_take,h.cells,Dc hj,Bb,ho,hu]
 ·refine k2 (j-sz) x u ?_ ?_
  ·rw[A6 U,hsz]at hx;exact hx
  ·rw[show off+sz+(j-sz)=off+j by omega];exact hu
theorem iH{α:Type}{fs:List Field}{sz by_:Nat}{z:Value}{en:α->List AV}{ok:α->Prop} [i:Ty P t (.struct fs.toArray)] [i2:Tz P t sz by_ z] (h:RdF P fs 0 α sz en ok):RdA P t α sz en ok:=by
 refine⟨tY i2,h.shape,fun H enc W fuel cs x hx=> ?_⟩;obtain⟨hl,hf⟩:=PO i.und (tY i2) hx;obtain⟨a,h1,h2⟩:=h.read H enc W cs U (fun f hfm=>by
  obtain⟨j,hj⟩:=List.getElem?_of_mem hfm;exact hf j f (C8 hj))
 exact⟨a,h1,U,fun j x u hx hu=>h2 j x u hx (C8 hu)⟩
theorem aGw{α:Type}{sz:Nat}{en:α->List AV}{ok:α->Prop}(h:RdA P t α sz en ok){H:Type}{enc:TypeId×Value->H}{W:World}{cs:Array Value}{d:DataW H}{p:List MemPlace}
  (hd:DataW.Trod enc P W 0 (fun _=>true) true t (.agg cs) d p):∃a,ok a/\VR0 W (.agg (en a)) (.agg cs):=by
 obtain⟨fuel,hf⟩:=hd;obtain⟨a,h1,h2,h3⟩:=h.read H enc W fuel _ _ hf;refine⟨a,h1,.agg ?_ fun j x u hx hu=>h3 j x u hx ?_⟩
 ·rw[(h.shape a).1];simpa[Value.cells]using h2
 ·simpa[Value.cells]using hu
end
theorem aGx{P:Program}{f:FuncId}{args:List AV}(h:SCall P f args [] (fun x _=>x=.bool true)){W:World}{vs:List Value}(hl:vs.length=args.length)(hv:∀(i:Nat) (x:AV) (v:Value),args[i]? =some x->vs[i]? =some v->VR0 W x v):
  Calls P f vs.toArray W fun e w'=>e=.returned (.bool true)/\Below W.heap.size W w':=by
 refine(h (fun _=>none) (fun b=>b<W.heap.size) 0 W vs hl hv ⟨X,X,fun g ⟨p,hp,_⟩=>by simp at hp,fun _ h=>h,fun _ _=>rfl⟩).mono ?_;rintro e w' ⟨v,x,M',F',N',Y',rfl,he,hvx,_,rfl⟩;cases hvx
 exact⟨rfl,he.only.below (A3 _) fun i _ ⟨p,hp,_⟩=>by simp at hp⟩
theorem aJ8{W:World}:∀(i:Nat) (x:AV) (v:Value),([]:List AV)[i]? =some x->([]:List Value)[i]? =some v->VR0 W x v:=fun i x v h=>by simp at h
theorem PP{W:World}{x:AV}{v:Value}{xs:List AV}{vs:List Value}(h:VR0 W x v)(k:∀(i:Nat) (x:AV) (v:Value),xs[i]? =some x->vs[i]? =some v->VR0 W x v):
  ∀(i:Nat) (x':AV) (v':Value),(x::xs)[i]? =some x'->(v::vs)[i]? =some v'->VR0 W x' v':=by
 intro i x' v' hx hv
 match i with
 |0=>simp at hx hv;subst hx hv;exact h
 |i+1=>exact k i x' v' (C8 hx) (C8 hv)
def aDG (n:Int):List AV:=[.int .u8 n]
theorem MX:∀ {l:List Int},(∀a∈l,0<=a/\a<=255)->l.map aDG=(l.map Int.toNat).map aG
 |[],_=>rfl
 |a::l,h=>by
  have:=h a Au;rw[Bn,Bn,Bn,MX fun b hb=>h b (An _ hb),aDG,aG,Int.toNat_of_nonneg this.1]
abbrev pY (a:Int):Prop:=(Lit.int .i64 a).wf=true
abbrev U8 (a:Int):Prop:=(Lit.int .u8 a).wf=true
theorem aI0{n:Int}(h:U8 n):0<=n/\n<=255:=by
 simp[U8,Lit.wf,IntKind.min,IntKind.max,IntKind.signed,IntKind.bits]at h;omega
theorem EL{n:Int}(h:pY n):-9223372036854775808<=n/\n<=9223372036854775807:=by
 simp[pY,Lit.wf,IntKind.min,IntKind.max,IntKind.signed,IntKind.bits]at h;omega
theorem FP:RdA prog 3 Int 1 (fun n=>[.int .i64 n]) pY:=HC (t:=3) (k:=.i64) rfl
theorem PQ:RdA prog 2 Int 1 (fun n=>[.int .i64 n]) pY:=HC (t:=2) (k:=.i64) rfl
theorem aGy:RdA prog 36 (List Int) 1 (fun l=>[.ro 1 (l.map aDG) .any]) (fun l=>l.length<=maxLen/\∀a∈l,U8 a):=kR rfl V (HC (t:=5) (k:=.u8) rfl)
theorem tZ:RdA prog 24 (List Int) 1 (fun l=>[.ro 1 (l.map aK) .any]) (fun l=>l.length<=maxLen/\∀a∈l,pY a):=kR rfl V (HC (t:=3) (k:=.i64) rfl)
theorem aGz{P:Program}{t:TypeId}{α β:Type}{sz:Nat}{en:α->List AV}{ok:α->Prop}(f:α->β)(g:β->α)(hg:∀a,g (f a)=a)(h:RdA P t α sz en ok):RdA P t β sz (fun b=>en (g b)) (fun b=>ok (g b)):=
 ⟨h.cells,fun b=>h.shape (g b),fun H enc W fuel cs x hx=>by
  obtain⟨a,h1,h2,h3⟩:=h.read H enc W fuel cs x hx;exact⟨f a,by rw[hg];exact h1,h2,by rw[hg];exact h3⟩⟩
theorem aJ9{P:Program}{t:TypeId}{α:Type}{sz:Nat}{en:α->List AV}{ok ok':α->Prop}(hk:∀a,ok a->ok' a)(h:RdA P t α sz en ok):RdA P t α sz en ok':=
 ⟨h.cells,h.shape,fun H enc W fuel cs x hx=>by
  obtain⟨a,h1,h2,h3⟩:=h.read H enc W fuel cs x hx;exact⟨a,hk a h1,h2,h3⟩⟩
def Ins.Wf (x:Ins):Prop:=(-9223372036854775808<=x.op/\x.op<=9223372036854775807)/\(-9223372036854775808<=x.a/\x.a<=9223372036854775807)/\(-9223372036854775808<=x.b/\x.b<=9223372036854775807)/\x.l.length<=maxLen/\∀a∈x.l,-9223372036854775808<=a/\a<=9223372036854775807
theorem aGA:RdA prog 46 Ins 4 (iv .any) Ins.Wf:=by
 have h:RdA prog 46 (Int×Int×Int×List Int) 4 (fun p:Int×Int×Int×List Int=>[.int .i64 p.1]++(fun p:Int×Int×List Int=>[.int .i64 p.1]++(fun p:Int×List Int=>[.int .i64 p.1]++ [.ro 1 (p.2.map aK) .any]) p.2) p.2) (fun p=>pY p.1/\pY p.2.1/\pY p.2.2.1/\(p.2.2.2.length<=maxLen/\∀a∈p.2.2.2,pY a)):=by
  refine iH ?_;refine eR (f:=⟨_,_,_,_,_,_,_⟩) (sz':=3) (en:=fun n=>[.int .i64 n]) (ok:=pY) (en':=fun p:Int×Int×List Int=>[.int .i64 p.1]++(fun p:Int×List Int=>[.int .i64 p.1]++ [.ro 1 (p.2.map aK) .any]) p.2) (ok':=fun p=>pY p.1/\pY p.2.1/\(p.2.2.length<=maxLen/\∀a∈p.2.2,pY a)) FP rfl ?_;refine eR (f:=⟨_,_,_,_,_,_,_⟩) (sz':=2) (en:=fun n=>[.int .i64 n]) (ok:=pY) (en':=fun p:Int×List Int=>[.int .i64 p.1]++ [.ro 1 (p.2.map aK) .any]) (ok':=fun p=>pY p.1/\(p.2.length<=maxLen/\∀a∈p.2,pY a)) PQ rfl ?_;refine eR (f:=⟨_,_,_,_,_,_,_⟩) (sz':=1) (en:=fun n=>[.int .i64 n]) (ok:=pY) (en':=fun l:List Int=>[.ro 1 (l.map aK) .any]) (ok':=fun l:List Int=>l.length<=maxLen/\∀a∈l,pY a) PQ rfl ?_;exact oD tZ rfl
 have h2:=aGz (fun p:Int×Int×Int×List Int=>(⟨p.1,p.2.1,p.2.2.1,p.2.2.2⟩:Ins)) (fun c=>(c.op,c.a,c.b,c.l)) (fun _=>rfl) h;exact aJ9 (fun x hx=>⟨EL hx.1,EL hx.2.1,EL hx.2.2.1,hx.2.2.2.1,fun a ha=>EL (hx.2.2.2.2 a ha)⟩) h2
theorem aDH:RdA prog 42 (List Ins) 1 (fun l=>[.ro 4 (l.map (iv .any)) .any]) (fun l=>l.length<=maxLen/\∀x∈l,x.Wf):=kR rfl V aGA
theorem CN:∀ {M:List Ins},(∀x∈M,x.Ok/\cY x=true)->(M.flatMap gT).length<=200*M.length
 |[],_=>by simp
 |x::M,h=>by
  have ih:=CN (M:=M) fun y hy=>h y (An _ hy)
  have h1:=yB (h x Au).1 (h x Au).2;simp only[List.flatMap_cons,Ao,Bj];omega
theorem TP{M:List Ins}(h:∀x∈M,x.Ok/\cY x=true):∀b∈M.flatMap gT,b<256:=by
 intro b hb;obtain⟨x,hx,hb⟩:=List.mem_flatMap.1 hb;exact aAA (h x hx).2 b hb
def Sp (l:List Nat) (n m:Nat) (p:List Nat):Prop:=l.drop n=p++l.drop m/\m=n+p.length/\m<=l.length
theorem Sp.trans {l:List Nat}{n m k:Nat}{p q:List Nat}(h:Sp l n m p)(g:Sp l m k q):Sp l n k (p++q):=
 ⟨by rw[h.1,g.1,Aq],by rw[g.2.1,h.2.1,Ao];omega,g.2.2⟩
theorem Sp.nil {l:List Nat}{n:Nat}(h:n<=l.length):Sp l n n []:=⟨rfl,X,h⟩
theorem aAB{l:List Nat}{n k:Nat}(h:n+k<=l.length):Sp l n (n+k) ((l.drop n).take k):=by
 have hk:((l.drop n).take k).length=k:=by simp;omega
 refine⟨?_,by rw[hk],h⟩;rw[<-List.drop_drop];exact(List.take_append_drop k (l.drop n)).symm
theorem YB{l:List Nat}{n:Nat}(hn:n<=l.length)(h:(qS l n 0).2.2=0):Sp l n (qS l n 0).2.1 [(qS l n 0).1]/\(qS l n 0).1∈l:=by
 unfold qS at h⊢;rw[Db X]at h⊢;by_cases hc:((n:Int)==(l.length:Int))=true
 ·rw[Dc hc]at h;cases h
 ·rw[Db hc];have hlt:n<l.length:=by simp at hc;omega
  dsimp only;rw[getElem!_pos l n hlt];exact⟨⟨by rw[List.drop_eq_getElem_cons hlt];rfl,rfl,hlt⟩,List.getElem_mem hlt⟩
theorem BH{l:List Nat}{lim:Int}{n:Nat}(hn:n<=l.length)(h:(hZ l lim n 0).2.2=0):Sp l n (hZ l lim n 0).2.1 (uB (hZ l lim n 0).1)/\((hZ l lim n 0).1:Int)<=lim/\(hZ l lim n 0).1<4294967296:=by
 obtain⟨b1,b2,-⟩:=CJ (l.drop n);unfold hZ at h⊢;rw[Db X]at h⊢;split at h
 ·next h1=>simp at h1;exact absurd h (C8 h1)
 ·next h1=>
  rw[Db h1];split at h
  ·cases h
  ·next h2=>
   rw[Db h2];dsimp only;simp only[decide_eq_true_eq,Int.not_lt]at h2;refine⟨?_,h2,b1⟩;simp only[bne_iff_ne,ne_eq,Decidable.not_not]at h1;unfold mR at h1 b2⊢;split at h1
   ·next h3=>exact absurd h1 h3
   ·next h3=>
    rw[Db h3]at b2⊢;split at h1
    ·next h4=>
     rw[Dc h4]at b2⊢;rw[h4.1];simp at b2;exact aAB Af
    ·cases h1
theorem TQ(n:Int):-9223372036854775808<=IntKind.i64.wrap n/\IntKind.i64.wrap n<=9223372036854775807:=by
 have h1:(2:Int)^IntKind.i64.bits=18446744073709551616:=by decide
 have h3:(2:Int)^(IntKind.i64.bits-1)=9223372036854775808:=by decide
 have h2:IntKind.i64.signed=true:=rfl;unfold IntKind.wrap;simp only[h1,h2,h3,Bool.true_and,decide_eq_true_eq];split<;>omega
theorem aDI{l:List Nat}{bits:Nat}(hb:bits=32\/bits=64){n:Nat}(hn:n<=l.length)(h:(FN l bits n).2.2=0):Sp l n (FN l bits n).2.1 (sB (FN l bits n).1)/\(-9223372036854775808<=(FN l bits n).1/\(FN l bits n).1<=9223372036854775807)/\(bits=32-> -2147483648<=(FN l bits n).1/\(FN l bits n).1<=2147483647):=by
 have hv:∀t:List Nat,-9223372036854775808<=mY t/\mY t<=9223372036854775807:=by
  intro t
  match t with
  |[]=>simp[mY]
  |[b]=>unfold mY;split<;>omega
  |b::c::t=>
   rw[mY];exact TQ _
 have b2:=aAx bits (l.drop n);unfold FN at h⊢;dsimp only at h⊢;unfold zR at h b2⊢;split at h
 ·next h3=>exact absurd h h3
 ·next h3=>
  rw[Db h3]at b2⊢;split at h
  ·next h4=>
   rw[Dc h4]at b2⊢;dsimp only at b2⊢;refine⟨?_,hv _,h4.2⟩;rw[h4.1];simp at b2;exact aAB U
  ·cases h
theorem aDJ{l:List Nat}{n:Nat}(hn:n<=l.length)(h:(PG l n 0).2=0):Sp l n (PG l n 0).1 [0]:=by
 unfold PG at h⊢;split at h
 ·cases h
 ·next h1=>
  rw[Db h1];have:=(YB hn h).1;rw[show(qS l n 0).1=0 by simpa using h1]at this;exact this
theorem aKa{l:List Nat}{n:Nat}{e:Int}(h:e≠0):qS l n e=(0,n,e):=by unfold qS;rw[Dc (C8 h)]
theorem PR{l:List Nat}{lim:Int}{n:Nat}{e:Int}(h:e≠0):hZ l lim n e=(0,n,e):=by unfold hZ;rw[Dc (C8 h)]
theorem aKb{l:List Nat}{n:Nat}(hn:n<=l.length)(h:(PI l n 0).2.2=0):Sp l n (PI l n 0).2.1 [xZ (PI l n 0).1]/\0<=(PI l n 0).1/\(PI l n 0).1<=2:=by
 unfold PI at h⊢;by_cases h1:(if decide (yA (qS l n 0).1<0)=true then((qS l n 0).2.2==0)else false)=true
 ·rw[Dc h1]at h;cases h
 ·rw[Db h1]at h⊢;dsimp only at h⊢;obtain⟨s,-⟩:=YB hn h;have hk:¬yA (qS l n 0).1<0:=by
   intro hk;rw[h,Dc (C8 hk)]at h1;exact h1 rfl
  rw[Db hk];generalize hc:(qS l n 0).1=c at hk s⊢;have:c=64\/c=127\/c=126:=by
   by_cases c1:c=64
   ·exact .inl c1
   by_cases c2:c=127
   ·exact .inr (.inl c2)
   by_cases c3:c=126
   ·exact .inr (.inr c3)
   exfalso;apply hk;unfold yA XX;rw[show([64,127,126]:List Int).findIdx? (· ==(c:Int))=none by
    simp only[List.findIdx?_cons,List.findIdx?_nil];rw[Db Af,Db Af,Db Af];rfl]
   decide
  rcases this with rfl|rfl|rfl<;>exact⟨s,V,V⟩
theorem YC{l:List Nat}{n:Nat}{e:Int}(h:e≠0):∀m,(tD l m n e).2.2≠0
 |0=>h
 |m+1=>by
  rw[tD];dsimp only;rw[PR (YC h m)];exact YC h m
theorem aDK{l:List Nat}{n:Nat}(hn:n<=l.length):∀m,(tD l m n 0).2.2=0->Sp l n (tD l m n 0).2.1 ((tD l m n 0).1.flatMap fun z=>uB z.toNat)/\∀z∈(tD l m n 0).1,0<=z/\z<=1000
 |0,_=>⟨Sp.nil hn,by simp[tD]⟩
 |m+1,h=>by
  rw[tD]at h⊢;dsimp only at h⊢;have h0:(tD l m n 0).2.2=0:=by
   by_cases hc:(tD l m n 0).2.2=0
   ·exact hc
   ·rw[PR hc]at h;exact h
  obtain⟨s,hz⟩:=aDK hn m h0;rw[h0]at h⊢;obtain⟨s2,h2,-⟩:=BH s.2.2 h;refine⟨?_,fun z hz2=> ?_⟩
  ·rw[Bo];simpa using s.trans s2
  ·rcases A8.1 hz2 with hz2|hz2
   ·exact hz z hz2
   ·rw[A1.1 hz2];omega
theorem vB{x:Ins}{n:Nat}{e:Int}(h:(mH x n e).2.2=0):e=0/\mH x n e=(x,n,0):=by
 unfold mH at h⊢;by_cases he:e=0
 ·subst he;exact⟨rfl,rfl⟩
 ·rw[Dc (C8 he)]at h;exact absurd h he
theorem aKc{l:List Nat}{n:Nat}{e:Int}(h:e≠0):(PG l n e).2≠0:=by unfold PG;rw[aKa h,Db X];exact h
theorem aBL(op:Int):aW op=0\/aW op=1\/aW op=2\/aW op=3\/aW op=4\/aW op=5\/aW op=6\/aW op=7\/aW op=8\/aW op=9:=by
 unfold aW jE;repeat' split
 all_goals simp
theorem YD{l:List Nat}{op:Nat}(hop:op<256){n:Nat}(hn:n<=l.length)(hf:(aW (op:Int)==0)=false)(h:(vA l op n 0).2.2=0):
  (vA l op n 0).1.op=op/\(vA l op n 0).1.Ok/\cY (vA l op n 0).1=true/\Sp l n (vA l op n 0).2.1 (gG (vA l op n 0).1):=by
 unfold vA at h⊢;by_cases g2:(aW (op:Int)==2)=true
 ·simp only[g2,Dd]at h⊢;obtain⟨he,hx⟩:=vB h;rw[hx];obtain⟨s,k1,k2⟩:=aKb hn he;have e2:aW (op:Int)=2:=C8 g2
  refine⟨rfl,⟨by dsimp only;omega,by dsimp only;omega,by dsimp only;omega,by dsimp only;omega,X⟩,by simp[cY,jN,e2,kW];omega, ?_⟩;simp only[gG,e2];exact s
 simp only[g2,Ag,De]at h⊢;by_cases g3:(aW (op:Int)==3)=true
 ·simp only[g3,Dd]at h⊢;obtain⟨he,hx⟩:=vB h;rw[hx];obtain⟨s,k1,k2⟩:=BH hn he;have e2:aW (op:Int)=3:=C8 g3
  refine⟨rfl,⟨by dsimp only;omega,by dsimp only;omega,by dsimp only;omega,by dsimp only;omega,X⟩,by simp[cY,jN,e2,kW];omega, ?_⟩;simp only[gG,e2];exact s
 simp only[g3,Ag,De]at h⊢;by_cases g5:(aW (op:Int)==5)=true
 ·simp only[g5,Dd]at h⊢;obtain⟨he,hx⟩:=vB h;rw[hx];have h0:(hZ l 1000 n 0).2.2=0:=by
   by_cases hc:(hZ l 1000 n 0).2.2=0
   ·exact hc
   ·exact absurd he (aKc hc)
  obtain⟨s,k1,k2⟩:=BH hn h0;rw[h0]at he⊢;have s2:=aDJ s.2.2 he;have e2:aW (op:Int)=5:=C8 g5
  refine⟨rfl,⟨by dsimp only;omega,by dsimp only;omega,by dsimp only;omega,by dsimp only;omega,X⟩,by simp[cY,jN,e2,kW];omega, ?_⟩;simp only[gG,e2];exact s.trans s2
 simp only[g5,Ag,De]at h⊢;by_cases g4:(aW (op:Int)==4)=true
 ·simp only[g4,Dd]at h⊢;obtain⟨he,hx⟩:=vB h;rw[hx];have h1:(tD l (hZ l 50 n 0).1 (hZ l 50 n 0).2.1 (hZ l 50 n 0).2.2).2.2=0:=by
   by_cases hc:(tD l (hZ l 50 n 0).1 (hZ l 50 n 0).2.1 (hZ l 50 n 0).2.2).2.2=0
   ·exact hc
   ·rw[PR hc]at he;exact he
  have h0:(hZ l 50 n 0).2.2=0:=by
   by_cases hc:(hZ l 50 n 0).2.2=0
   ·exact hc
   ·exact absurd h1 (YC hc _)
  obtain⟨s,k1,k2⟩:=BH hn h0;rw[h0]at h1 he⊢;obtain⟨s2,hz⟩:=aDK s.2.2 _ h1;have hlen:=PK (l:=l) (m:=(hZ l 50 n 0).1) (n:=(hZ l 50 n 0).2.1) (e:=0);rw[h1]at he⊢;obtain⟨s3,k3,k4⟩:=BH s2.2.2 he;have e2:aW (op:Int)=4:=C8 g4
  generalize tD l (hZ l 50 n 0).1 (hZ l 50 n 0).2.1 0=w at*;obtain⟨L,m,e⟩:=w;dsimp only at*;have hany:(L.any fun z=> !qQ z 0 1000)=false:=by
   rw[List.any_eq_false];intro z hzz;have:=hz z hzz;simp[kW];omega
  refine⟨rfl,⟨by dsimp only;omega,by dsimp only;omega,by dsimp only;omega,by dsimp only;omega,by simp;omega⟩, ?_, ?_⟩
  ·unfold cY jN;dsimp only;rw[e2,hany];simp[kW];omega
  ·unfold gG;dsimp only;rw[e2,hlen];exact(s.trans s2).trans s3
 simp only[g4,Ag,De]at h⊢;by_cases g6:(aW (op:Int)==6)=true
 ·simp only[g6,Dd]at h⊢;obtain⟨he,hx⟩:=vB h;rw[hx];have h0:(hZ l 3 n 0).2.2=0:=by
   by_cases hc:(hZ l 3 n 0).2.2=0
   ·exact hc
   ·rw[PR hc]at he;exact absurd he hc
  obtain⟨s,k1,k2⟩:=BH hn h0;rw[h0]at he⊢;obtain⟨s2,k3,k4⟩:=BH s.2.2 he;have e2:aW (op:Int)=6:=C8 g6
  refine⟨rfl,⟨by dsimp only;omega,by dsimp only;omega,by dsimp only;omega,by dsimp only;omega,X⟩,by simp[cY,jN,e2,kW];omega, ?_⟩;simp only[gG,e2];exact s.trans s2
 simp only[g6,Ag,De]at h⊢;by_cases g7:(aW (op:Int)==7)=true
 ·simp only[g7,Dd]at h⊢;obtain⟨he,hx⟩:=vB h;rw[hx];have s:=aDJ hn he;have e2:aW (op:Int)=7:=C8 g7
  refine⟨rfl,⟨by dsimp only;omega,by dsimp only;omega,X,X,X⟩,by simp[cY,jN,e2], ?_⟩;simp only[gG,e2];exact s
 simp only[g7,Ag,De]at h⊢;by_cases g8:(aW (op:Int)==8)=true
 ·simp only[g8,Dd]at h⊢;obtain⟨he,hx⟩:=vB h;rw[hx];obtain⟨s,k1,k2⟩:=aDI (.inl rfl) hn he;have k2:=k2 rfl;have e2:aW (op:Int)=8:=C8 g8
  refine⟨rfl,⟨by dsimp only;omega,by dsimp only;omega,by dsimp only;omega,by dsimp only;omega,X⟩,by simp[cY,jN,e2,kW];omega, ?_⟩;simp only[gG,e2];exact s
 simp only[g8,Ag,De]at h⊢;by_cases g9:(aW (op:Int)==9)=true
 ·simp only[g9,Dd]at h⊢;obtain⟨he,hx⟩:=vB h;rw[hx];obtain⟨s,k1,k2⟩:=aDI (.inr rfl) hn he;have e2:aW (op:Int)=9:=C8 g9
  refine⟨rfl,⟨by dsimp only;omega,by dsimp only;omega,by dsimp only;omega,by dsimp only;omega,X⟩,by simp[cY,jN,e2], ?_⟩;simp only[gG,e2];exact s
 simp only[g9,Ag,De]at h⊢;have e2:aW (op:Int)=1:=by
  simp at hf g2 g3 g4 g5 g6 g7 g8 g9;have:=aBL (op:Int);omega
 obtain⟨he,hx⟩:=vB h;rw[hx];refine⟨rfl,⟨by dsimp only;omega,by dsimp only;omega,X,X,X⟩,by simp[cY,jN,e2], ?_⟩;simp only[gG,e2];exact Sp.nil hn
theorem BI{l:List Nat}(hlt:∀x∈l,x<256)(h:(fP l).2.2=0):(fP l).1.Ok/\cY (fP l).1=true/\Sp l 0 (fP l).2.1 (gT (fP l).1):=by
 unfold fP at h⊢;by_cases g1:(aW ((qS l 0 0).1:Nat)==0)=true
 ·rw[Dc g1]at h;cases h
 rw[Db g1]at h⊢;by_cases g2:((qS l 0 0).2.2 !=0)=true
 ·rw[Dc g2]at h;rw[show(qS l 0 0).2.2=0 from h]at g2;simp at g2
 rw[Db g2]at h⊢;have he:(qS l 0 0).2.2=0:=C8 g2
 obtain⟨s,hm⟩:=YB (Am _) he;rw[he]at h⊢;obtain⟨k1,k2,k3,k4⟩:=YD (hlt _ hm) s.2.2 (C8 g1) h;refine⟨k2,k3, ?_⟩;have:=s.trans k4;unfold gT;rw[k1];exact this
theorem aOZ{P:Prop}(h:P:=by(first|rfl|(simp;done)|(rw[List.drop_zero];exact List.take_of_length_le (by first|(simp;done)|(simp;omega)|omega))|(simp only[List.map_take,List.map_drop,List.drop_zero];done))):P:=h
theorem aDL{α:Type}{l:List α}{n:Nat}(h:l.length<=n):(l.drop 0).take n=l:=by rw[Bu];exact Aj h
theorem aMX{P:Prop}(h:P:=by(first|exact aDL (by first|(simp;done)|(simp;omega)|omega)|rfl)):P:=h
section
variable {P : Program} {n : Nat} {ops : Array Oper} {rest : List Oper} {fr : Fr} {Y : dI} {K : ASt -> Prop} {op : Op} {ty t t' : TypeId} {pos : String} {af : Array Edge} {x y : Operand} {d : Nat}
variable {listed : Array Bool} {todo : List (Nat × Bool)} {held : List (Nat × List Nat)} {i : Nat}
theorem aKd{e:TypeId}{sz by_:Nat}{zv:Value}{z:Nat}{k:Rk}{ys:List (List AV)}(hi:ops[i]? =some ⟨some d,.call { callee:=.builtin .append,args:=#[x,y],argTypes:=#[t,t] },ty,pos,af,none⟩)(es':List (List AV))(len':Nat)
  (hK:∀r,Fresh r Y->RD P n ops (listed.setIfInBounds i true) todo held ⟨(d,.own r 0 len')::fr,(r,.arr e sz es')::Y⟩ K)
  (i1:Ty P t (.slice e):=by infer_instance) (i2:Tz P e sz by_ zv:=by infer_instance) (hz:zv.cells.size=sz:=by rfl) (h0:Nat.ble 1 sz=true:=by rfl) (hb:aev ⟨fr,Y⟩ x=some (.ro z [] k):=by rfl) (hk:k≠ .any:=by decide) (hy:Src ⟨fr,Y⟩ y sz ys:=by exact aGs) (he:ys=es':=by exact aOZ) (hl:len'=ys.length:=by exact PM) (hby:len'*by_<=140737488355328:=by(simp;try omega)) (hd:Nat.ble (d+1) n=true:=by rfl):
  RD P n ops listed ((i,false)::todo) held ⟨fr,Y⟩ K:=by
 subst he hl;exact AS hi (HV (Nat.le_of_ble_eq_true h0) hz hb hk hy hby (cL hd) hK)
end
theorem gO{fr:Fr}{Y Y1 Y':dI}{r q:Nat}{bt:TypeId}{cs cs':List AV}{e:Ent}(hs:SSet Y r (.box bt cs) r (.box bt cs') Y1)(hd:SDel Y1 q e Y')(hb:BorL Y [q] cs cs'):SGo ⟨fr,Y⟩ ⟨fr,Y'⟩:=by
 refine uV [q] (fun i x' hi=>⟨x',hi,.refl _⟩) (fun p hp=> ?_);obtain⟨h1,h2⟩:=hd.sub p hp;refine⟨C8 h2, ?_⟩;rcases Av.1 (hs.sub p h1)with rfl|h
 ·exact⟨_,bV hs.get,.box (aC1 hb)⟩
 ·exact⟨p.2,(fV h).1,.refl _⟩
theorem pE{fr:Fr}{Y Y':dI}{o:Nat}{e:TypeId}{sz:Nat}{es:List (List AV)}(k:Nat)(hs:SSet Y o (.arr e sz es) o (.arr e sz (es.take k)) Y'):SGo ⟨fr,Y⟩ ⟨fr,Y'⟩:=by
 intro M F N n a w hr;have hmem:∀p∈Y',(∃x,(p.1,x)∈Y)/\ER M F w p.1 p.2:=by
  intro p hp;rcases Av.1 (hs.sub p hp)with rfl|h
  ·refine⟨⟨_,bV hs.get⟩, ?_⟩;obtain⟨h0,h1,h2⟩:=hr.st.ent _ (bV hs.get);refine⟨h0,fun x hx=>h1 x (Bf hx), ?_⟩;rcases h2 with⟨h2,h3⟩|⟨g,c,vs,h2,h3,h4,h5,h6,h7⟩
   ·exact .inl ⟨h2,by simp[h3]⟩
   ·refine .inr ⟨g,c,vs,h2,h3,h4,by simp;omega,h6,fun i x j b u hi=> ?_⟩;rw[List.getElem?_take]at hi;split at hi
    ·exact h7 i x j b u hi
    ·cases hi
  ·exact⟨⟨p.2,(fV h).1⟩,hr.st.ent p (fV h).1⟩
 exact⟨M,F,N,⟨hr.size,hr.defers,hr.fr,hr.st.retold hmem⟩,Ext.retold fun p hp=>(hmem p hp).1⟩
theorem jO(a:List Nat):(cB a).size=a.length:=by simp[cB,ByteArray.size]
section
variable {P : Program} {ty t t' : TypeId} {s : ASt} {c : Bool} {x y : Operand}
theorem CO{e:TypeId} [Ty P t (.slice e)] [Ty P e (.int .u8)] [Ty P t' .string] {bs bs':List Nat}{r off len:Nat}{et:TypeId}(h:Ev s c x (.own r off len))(hg:gM s.Y r=some (.arr et 1 (bs.map aG)):=by exact bR)(hle:off+len<=bs.length:=by exact PM)(hbs:(bs.drop off).take len=bs':=by exact aMX):Lop P (.convert t t' x) ty s c (.str (cB bs')) [r]:=LD h hg hle hbs
end
attribute [local irreducible] SW RS RD fE eA
def LN (n:Nat):List AV:=[.int .i64 n]
instance : NoE LN := ⟨fun a x hx => by simp [LN] at hx; subst hx; exact NoF.int⟩
structure Bk where
 at_:Nat
 els:Int
 en:Int
def tF (b:Bk):List AV:=[.int .i64 b.at_,.int .i64 b.els,.int .i64 b.en]
instance : NoE tF := ⟨fun a x hx => by simp [tF] at hx; rcases hx with rfl | rfl | rfl <;> exact NoF.int⟩
def rQ (op:Int):Bool:=op==2||op==3||op==4
structure MS where
 all:List Bk
 opn:List Nat
def GN (ops:List Int) (s:MS) (i:Nat) (op:Int):Option MS:=
 match s.opn.getLast? with
 |none=>none
 |some k=>match s.all[k]? with
  |none=>none
  |some b=>if op=11 then some ⟨s.all.set k ⟨b.at_,b.els,i⟩,s.opn.dropLast⟩
   else if ops[b.at_]? ≠some (4:Int)\/0<=b.els then none else some ⟨s.all.set k ⟨b.at_,i,b.en⟩,s.opn⟩
def pQ (ops:List Int) (s:MS) (i:Nat) (op:Int):Option MS:=
 if rQ op=true then(if s.opn.length=40 then none else some ⟨s.all++ [⟨i,-1,-1⟩],s.opn++ [s.all.length]⟩)
 else if op≠5/\op≠11 then some s else GN ops s i op
def qT (ops:List Int):Nat->Option MS
 |0=>some ⟨[],[]⟩
 |j+1=>match qT ops j,ops[j]? with
  |some s,some op=>pQ ops s j op
  | _,_=>none
theorem zB{ops:List Int}{j:Nat}{s:MS}{op:Int}(h:qT ops j=some s)(ho:ops[j]? =some op):qT ops (j+1)=pQ ops s j op:=by
 rw[qT,h,ho]
theorem EM{ops:List Int}{j:Nat}(h:qT ops j=none):∀d,qT ops (j+d)=none
 |0=>h
 |d+1=>by rw[<-By,qT,EM h d]
structure MOk (j:Nat) (s:MS):Prop where
 opn:∀k∈s.opn,k<s.all.length
 at_:∀b∈s.all,b.at_<j
 len:s.opn.length<=40
 all:s.all.length<=j
theorem aDM{ops:List Int}{j:Nat}{s s':MS}{op:Int}(h:MOk j s)(hs:pQ ops s j op=some s'):MOk (j+1) s':=by
 unfold pQ at hs;split at hs
 ·split at hs
  ·cases hs
  ·next h40=>
   obtain rfl:=Option.some.inj hs;refine⟨fun k hk=> ?_,fun b hb=> ?_,by have:=h.len;simp;omega,by have:=h.all;simp;omega⟩
   ·rcases A8.1 hk with hk|hk
    ·have:=h.opn k hk;simp;omega
    ·rw[A1.1 hk];simp
   ·rcases A8.1 hb with hb|hb
    ·have:=h.at_ b hb;omega
    ·rw[A1.1 hb];exact Nat.lt_succ_self _
 split at hs
 ·obtain rfl:=Option.some.inj hs;exact⟨h.opn,fun b hb=>Nat.lt_succ_of_lt (h.at_ b hb),h.len,Nat.le_succ_of_le h.all⟩
 unfold GN at hs;split at hs
 ·cases hs
 split at hs
 ·cases hs
 ·next k hk b hb=>
  have hbm:=h.at_ b (Ah hb);split at hs
  ·obtain rfl:=Option.some.inj hs;refine⟨fun x hx=> ?_,fun x hx=> ?_,by have:=h.len;simp;omega,by have:=h.all;simp;omega⟩
   ·have:=h.opn x ((List.dropLast_sublist _).subset hx);simpa using this
   ·rcases List.mem_or_eq_of_mem_set hx with hx|rfl
    ·exact Nat.lt_succ_of_lt (h.at_ x hx)
    ·exact Nat.lt_succ_of_lt hbm
  split at hs
  ·cases hs
  ·obtain rfl:=Option.some.inj hs;refine⟨fun x hx=> ?_,fun x hx=> ?_,h.len,by have:=h.all;simp;omega⟩
   ·have:=h.opn x hx;simpa using this
   ·rcases List.mem_or_eq_of_mem_set hx with hx|rfl
    ·exact Nat.lt_succ_of_lt (h.at_ x hx)
    ·exact Nat.lt_succ_of_lt hbm
theorem zC{ops:List Int}:∀ {j:Nat} {s:MS},qT ops j=some s->MOk j s
 |0,s,h=>by
  obtain rfl:=Option.some.inj h;exact⟨X,X,X,X⟩
 |j+1,s,h=>by
  rw[qT]at h;split at h
  ·next s0 op h1 h2=>exact aDM (zC h1) h
  ·cases h
def gK (ops:List Int):Option (List Bk):=if 300<ops.length then none else match qT ops ops.length with|some ⟨all,[]⟩=>some all| _=>none
def TR (ops:List Int):List Bk:=(gK ops).getD []
def zS (ops:List Int):Bool:=(gK ops).isSome
theorem mZ{ops:List Int}{j:Nat}(h:qT ops j=none)(hj:j<=ops.length):gK ops=none:=by
 unfold gK;split
 ·rfl
 ·have:=EM h (ops.length-j);rw[Nat.add_sub_cancel' hj]at this;rw[this]
def cH (l:List Ins):List Int:=l.map Ins.op
theorem yC{l:List Ins}{j:Nat}{x:Ins}(h:l[j]? =some x):(cH l)[j]? =some x.op:=by simp[cH,h]
theorem pF{ops:List Int}{q:Nat}{t:TypeId}(h:gK ops=none):∃q2,AV.tup [.own q 0 0,.bool false]=.tup [.own q2 0 (TR ops).length,.bool (zS ops)]/\([(q,.arr t 3 [])]:dI)=[(q2,.arr t 3 ((TR ops).map tF))]:=
 ⟨q,by simp[TR,zS,h],by simp[TR,h]⟩
theorem BJ(op:Int):SCall prog 186 [.int .i64 op] [] (fun x Y=>x=.bool (rQ op)/\Y=[]):=by
 refine bO 13 [0,2] func186 ?_;refine fK ?_;refine Ch ?_;refine kH ?_;refine tB ?_;refine jG ?_;refine kH ?_;refine tB ?_;refine jG ?_;refine cN ?_;exact aD aE ⟨by show AV.bool _=_;congr 1;simp only[aIZ,rQ],rfl⟩ aA
theorem EN{ops:List Int}{s:MS}{j:Nat}{op:Int}(h:rQ op=true)(hl:s.opn.length≠40):pQ ops s j op=some ⟨s.all++ [⟨j,-1,-1⟩],s.opn++ [s.all.length]⟩:=by
 unfold pQ;rw[Dc h,Db hl]
theorem EO{ops:List Int}{s:MS}{j:Nat}{op:Int}(h:rQ op=true)(hl:s.opn.length=40):pQ ops s j op=none:=by
 unfold pQ;rw[Dc h,Dc hl]
theorem EP{ops:List Int}{s:MS}{j:Nat}{op:Int}(h:rQ op=false)(h1:op≠5)(h2:op≠11):pQ ops s j op=some s:=by
 unfold pQ;rw[Db (by simp[h]),Dc ⟨h1,h2⟩]
theorem CP{ops:List Int}{s:MS}{j:Nat}{op:Int}(h:rQ op=false)(h1:op=5\/op=11):pQ ops s j op=GN ops s j op:=by
 unfold pQ;rw[Db (by simp[h]),Db U]
theorem IT{ops:List Int}{all:List Bk}{j:Nat}{op:Int}:GN ops ⟨all,[]⟩ j op=none:=rfl
theorem PT{ops:List Int}{all:List Bk}{pre:List Nat}{k j:Nat}{b:Bk}(hb:all[k]? =some b):GN ops ⟨all,pre++ [k]⟩ j 11=some ⟨all.set k ⟨b.at_,b.els,j⟩,pre⟩:=by
 unfold GN;simp[hb]
theorem IU{ops:List Int}{all:List Bk}{pre:List Nat}{k j:Nat}{b:Bk}(hb:all[k]? =some b)(h4:ops[b.at_]? =some 4)(he:¬0<=b.els):GN ops ⟨all,pre++ [k]⟩ j 5=some ⟨all.set k ⟨b.at_,j,b.en⟩,pre++ [k]⟩:=by
 unfold GN;simp[hb,h4,he]
theorem PU{ops:List Int}{all:List Bk}{pre:List Nat}{k j:Nat}{b:Bk}(hb:all[k]? =some b)(h:ops[b.at_]? ≠some 4\/0<=b.els):GN ops ⟨all,pre++ [k]⟩ j 5=none:=by
 unfold GN;simp[hb];intro h4;rcases h with h|h
 ·exact absurd h4 h
 ·exact h
theorem PV{pre:List Nat}{k:Nat}:(pre++ [k])[(((pre++ [k]).length:Nat)-1:Int).toNat]? =some k:=by
 rw[show(((pre++ [k]).length:Nat)-1:Int).toNat=pre.length by simp];simp
theorem IV{α:Type}{l:List α}{k:Nat}{x:α}(h:l[k]? =some x):l[(k:Int).toNat]? =some x:=by rw[Bc];exact h
theorem aDN(ops:List Int):(TR ops).length<=ops.length/\∀b∈TR ops,b.at_<ops.length:=by
 unfold TR gK;split
 ·simp
 split
 ·next all h=>
  have:=zC h;exact⟨this.all,this.at_⟩
 ·simp
theorem nA(l:List Ins)(hl:l.length<=100000):SCall prog 75 [.ro 4 (l.map (iv .any)) .any] []
  (fun y Y=>∃q,y=.tup [.own q 0 (TR (cH l)).length,.bool (zS (cH l))]/\Y=[(q,.arr 162 3 ((TR (cH l)).map tF))]):=by
 have hol:(cH l).length=l.length:=by simp[cH]
 refine bO 113 [0,2,3,4,5,6,7,8,11,12,13,14,15,30,38,52,61,64,81,111] func75 ?_;refine dB ?_;refine pN ?_;refine vP ?_;refine tP ?_;refine aB rfl ?_ ?_<;>intro g1
 ·refine xP ?_;refine bQ 2 162 3 V rfl V (bD fun q2 hq2=> ?_);repeat rcases hq2 with⟨_,hq2⟩
  have hN:gK (cH l)=none:=by unfold gK;rw[Dc (by simp at g1;omega)]
  refine aI ?_;apply aD;exact aE
  ·exact pF hN
  ·exact aA
 refine oB ?_;refine fO ?_;refine qD ?_;refine bQ 4 162 3 V rfl V (bD fun a0 ha0=> ?_);repeat rcases ha0 with⟨_,ha0⟩
 refine bQ 5 3 1 V rfl V (bD fun o0 ho0=> ?_);repeat rcases ho0 with⟨_,ho0⟩
 refine lp (β:=Nat×Nat×Nat×MS) (fun b=>⟨[(0,.ro 4 (l.map (iv .any)) .any),(4,.own b.1 0 b.2.2.2.all.length),(5,.own b.2.1 0 b.2.2.2.opn.length),(12,.ro 4 (l.map (iv .any)) .any),(13,.int .i64 l.length),(14,.int .i64 b.2.2.1)],[(b.1,.arr 162 3 (b.2.2.2.all.map tF)),(b.2.1,.arr 3 1 (b.2.2.2.opn.map LN))]⟩) (fun b=>Nq b.1 b.2.1/\b.2.2.1<=l.length/\qT (cH l) b.2.2.1=some b.2.2.2) (fun b=>l.length-b.2.2.1) (a0,o0,0,⟨[],[]⟩) aH ⟨Ae a0 o0,Am _,rfl⟩ ?_;rintro⟨a,o,j,all,opn⟩ ⟨hao,hj,hrun⟩;dsimp only at hao hj hrun⊢;obtain⟨hk1,hk2,hk3,hk4⟩:=zC hrun;dsimp only at hk1 hk2 hk3 hk4;refine gN ?_;refine aB rfl ?_ ?_<;>intro g6
 ·have hlt:j<l.length:=by simp at g6;omega
  obtain⟨x,hx⟩:=Aa l j hlt
  have hnx:=zB hrun (yC hx);refine dG ?_;refine CE ?_;refine iD fun r7 h7=> ?_;intros;refine IO ?_;refine fO ?_;refine vP ?_;refine iO ?_;refine kY call186 (BJ _) rfl aO bH ?_;refine kH ?_;refine tB ?_;refine kA ?_;refine aB rfl ?_ ?_<;>intro g10
  ·refine xP ?_;refine bQ 2 162 3 V rfl V (bD fun q2 hq2=> ?_);repeat rcases hq2 with⟨_,hq2⟩
   have hN:gK (cH l)=none:=by replace g10:=bT g10;exact mZ (hnx.trans (EO (s:=⟨all,opn⟩) g10.1 (by show opn.length=40;omega))) U
   refine aI ?_;apply aD;exact aE
   ·exact pF hN
   ·exact aA
  refine eY ?_;refine kY call186 (BJ _) rfl aO bH ?_;refine cN ?_;refine aB rfl ?_ ?_<;>intro g12
  ·have hnn:=hnx.trans (EN g12 (by intro he;simp[g12,he]at g10));refine AB ?_;refine eN fun r45 h45=> ?_;intros;refine kD ((opn++ [all.length]).map LN) (opn++ [all.length]).length ?_;refine bG fun r46 h46=> ?_;intros;refine pP ?_;refine mM ?_;refine eN fun r50 h50=> ?_;intros;refine kD ((all++ [(Bk.mk j (-1) (-1))]).map tF) (all++ [(Bk.mk j (-1) (-1))]).length ?_;refine bG fun r51 h51=> ?_;intros;refine cN ?_;obtain⟨A,O,hAO,rfl,rfl⟩:∃A O,Nq A O/\A=r51/\O=r46:=⟨_,_,by(exact aX),rfl,rfl⟩
   refine SX ?_;refine⟨(A,O,j+1,_),⟨hAO,hlt,hnn⟩,Ab U, ?_⟩;dsimp only;exact aH
  refine eY ?_;refine B9 ?_;refine zQ ?_;refine SK ?_;refine kA ?_;refine aB rfl ?_ ?_<;>intro g15
  ·have hnn:=hnx.trans (EP g12 (by replace g15:=bT g15;exact g15.1) (by replace g15:=bT g15;exact g15.2));obtain⟨A,O,hAO,rfl,rfl⟩:∃A O,Nq A O/\A=a/\O=o:=⟨_,_,by(exact aX),rfl,rfl⟩
   refine jH ?_;refine⟨(A,O,j+1,_),⟨hAO,hlt,hnn⟩,Ab U, ?_⟩;dsimp only;exact aH
  have h5:x.op=5\/x.op=11:=by replace g15:=bT g15;omega
  have hnx:=hnx.trans (CP g12 h5);refine dG ?_;refine SS ?_;refine aB rfl ?_ ?_<;>intro g16
  ·refine xP ?_;refine bQ 2 162 3 V rfl V (bD fun q2 hq2=> ?_);repeat rcases hq2 with⟨_,hq2⟩
   have hN:gK (cH l)=none:=by obtain rfl:opn=[]:=(C8 g16);exact mZ (hnx.trans IT) U
   refine aI ?_;apply aD;exact aE
   ·exact pF hN
   ·exact aA
  have hne:opn≠ []:=by intro h;simp[h]at g16
  obtain⟨pre,k,rfl⟩:∃pre k,opn=pre++ [k]:=⟨opn.dropLast,opn.getLast hne,(List.dropLast_concat_getLast hne).symm⟩
  have hkl:=hk1 k X;obtain⟨b,hb⟩:=Aa all k hkl
  have hpl:(pre++ [k]).length=pre.length+1:=by simp
  have hlast:=PV (pre:=pre) (k:=k);have hbt:=IV hb;refine eY ?_;refine SS ?_;refine aB rfl ?_ ?_<;>intro g18
  ·have h11:x.op=11:=C8 g18
   have hnn:=hnx;rw[h11,PT hb]at hnn;obtain⟨A,O,hAO,rfl,rfl⟩:∃A O,Nq A O/\A=a/\O=o:=⟨_,_,by(exact aX),rfl,rfl⟩
   refine uX ?_;refine tN ?_;refine mD ?_;refine MG ?_;refine SN ?_;refine iM ?_;refine kV ?_;refine tN ?_;refine aF0 ?_;refine cN ?_;rw[show((((pre++ [k]).length:Nat):Int)-1).toNat-0=pre.length by simp];refine dO (pE (o:=O) pre.length bK) ?_;rw[show(all.map tF).set (k:Int).toNat [.int .i64 (b.at_:Int),.int .i64 b.els,.int .i64 (j:Int)]=(all.set k ⟨b.at_,b.els,j⟩).map tF by rw[Bc,List.map_set];rfl,show List.take pre.length ((pre++ [k]).map LN)=pre.map LN by simp];refine SX ?_;refine⟨(A,O,j+1,_),⟨hAO,hlt,hnn⟩,Ab U, ?_⟩;dsimp only;exact aH
  have h05:x.op=5:=by simp at g18;omega
  have hnx:=by have:=hnx;rw[h05]at this;exact this
  have hba:=hk2 b (Ah hb);obtain⟨y,hy⟩:=Aa l b.at_ U
  have hyt:=IV hy;have hoy:=yC hy;refine uX ?_;refine B4 ?_;refine tN ?_;refine mD ?_;refine z15 ?_;refine SM ?_;refine z16 ?_;refine z15 ?_;refine SM ?_;refine z16 ?_;refine B9 ?_;refine kH ?_;refine jZ ?_;refine jZ ?_;refine aJO ?_;refine GG ?_;refine GH ?_;refine GG ?_;refine SO ?_;refine GH ?_;refine SP ?_;refine jG ?_;refine cN ?_;refine aB rfl ?_ ?_<;>intro g21
  ·refine xP ?_;refine bQ 2 162 3 V rfl V (bD fun q2 hq2=> ?_);repeat rcases hq2 with⟨_,hq2⟩
   have hN:gK (cH l)=none:=mZ (hnx.trans (PU hb (by rw[hoy];replace g21:=bT g21;rcases g21 with h|h;exact .inl (fun e=>h (Option.some.inj e));exact .inr h))) U;refine aI ?_;apply aD;exact aE
   ·exact pF hN
   ·exact aA
  have hnn:=hnx.trans (IU hb (by rw[hoy];replace g21:=bT g21;rw[g21.1]) (by replace g21:=bT g21;exact g21.2));obtain⟨A,O,hAO,rfl,rfl⟩:∃A O,Nq A O/\A=a/\O=o:=⟨_,_,by(exact aX),rfl,rfl⟩
  refine uX ?_;refine tN ?_;refine mD ?_;refine MG ?_;refine SN ?_;refine iM ?_;rw[show(all.map tF).set (k:Int).toNat [.int .i64 (b.at_:Int),.int .i64 (j:Int),.int .i64 b.en]=(all.set k ⟨b.at_,j,b.en⟩).map tF by rw[Bc,List.map_set];rfl];refine SX ?_;refine⟨(A,O,j+1,_),⟨hAO,hlt,hnn⟩,Ab U, ?_⟩;dsimp only;exact aH
 obtain rfl:j=l.length:=by simp at g6;omega
 refine dG ?_;refine vP ?_;refine tP ?_;refine aB rfl ?_ ?_<;>intro g24
 ·refine xP ?_;refine bQ 2 162 3 V rfl V (bD fun q2 hq2=> ?_);repeat rcases hq2 with⟨_,hq2⟩
  have hN:gK (cH l)=none:=by unfold gK;rw[hol,hrun,Db (by simp at g1;omega)];cases opn with|nil=>simp at g24|cons z zs=>rfl
  refine aI ?_;apply aD;exact aE
  ·exact pF hN
  ·exact aA
 refine dG ?_;refine fS ?_;apply aD;exact aE
 ·have hN:gK (cH l)=some all:=by unfold gK;rw[hol,hrun,Db (by simp at g1;omega)];cases opn with|nil=>rfl|cons z zs=>simp at g24
  simp only[TR,zS,hN,Bz,Option.isSome_some];exact⟨a,rfl,rfl⟩
 ·exact aA
theorem aBM(l:List Ins)(hl:l.length<=100000):SCall prog 155 [.ro 4 (l.map (iv .any)) .any] []
  (fun y Y=>∃q,y=.tup [.own q 0 (TR (cH l)).length,.bool (zS (cH l))]/\Y=[(q,.arr 298 3 ((TR (cH l)).map tF))]):=by
 have hol:(cH l).length=l.length:=by simp[cH]
 refine bO 99 [0,2,3,4,5,6,7,11,18,19,35,36,40,64,70,74,97] func155 ?_;refine dB ?_;refine fS ?_;refine jD ?_;refine iT ?_;refine iT ?_;refine cN ?_;refine bQ 4 298 3 V rfl V (bD fun a0 ha0=> ?_);repeat rcases ha0 with⟨_,ha0⟩
 refine bQ 5 3 1 V rfl V (bD fun o0 ho0=> ?_);repeat rcases ho0 with⟨_,ho0⟩
 refine lp (β:=Nat×Nat×Nat×MS) (fun b=>⟨[(0,.ro 4 (l.map (iv .any)) .any),(4,.own b.1 0 b.2.2.2.all.length),(5,.own b.2.1 0 b.2.2.2.opn.length),(6,.int .i64 b.2.2.1)],[(b.1,.arr 298 3 (b.2.2.2.all.map tF)),(b.2.1,.arr 3 1 (b.2.2.2.opn.map LN))]⟩) (fun b=>Nq b.1 b.2.1/\b.2.2.1<=l.length/\qT (cH l) b.2.2.1=some b.2.2.2) (fun b=>l.length-b.2.2.1) (a0,o0,0,⟨[],[]⟩) aH ⟨Ae a0 o0,Am _,rfl⟩ ?_;rintro⟨a,o,j,all,opn⟩ ⟨hao,hj,hrun⟩;dsimp only at hao hj hrun⊢;obtain⟨hk1,hk2,hk3,hk4⟩:=zC hrun;dsimp only at hk1 hk2 hk3 hk4;refine vT ?_;refine aB rfl ?_ ?_<;>intro g4
 ·have hlt:j<l.length:=by simp at g4;omega
  obtain⟨x,hx⟩:=Aa l j hlt
  have hnx:=zB hrun (yC hx);refine cJ ?_;refine z15 ?_;refine SM ?_;refine z16 ?_;refine iM ?_;have hO:(x.op==2||(x.op==3||x.op==4))=rQ x.op:=by unfold rQ;rw[Bool.or_assoc]
  refine eU ?_;apply fJ rfl;exact cP
  ·intro _;(refine aI ?_);refine eU ?_;apply eB rfl;exact cP
   ·intro _;(refine aI ?_);refine eU ?_;exact aH
   exact aH
  refine aI ?_;refine aB rfl ?_ ?_<;>intro g7
  ·have hso:rQ x.op=true:=hO▸g7;refine AB ?_;refine eN fun r26 h26=> ?_;intros;refine kD ((opn++ [all.length]).map LN) (opn++ [all.length]).length ?_;refine bG fun r27 h27=> ?_;intros;refine pP ?_;refine mM ?_;refine eN fun r31 h31=> ?_;intros;refine kD ((all++ [(Bk.mk j (-1) (-1))]).map tF) (all++ [(Bk.mk j (-1) (-1))]).length ?_;refine bG fun r32 h32=> ?_;intros;refine gX ?_;refine vP ?_;refine tP ?_;refine aB rfl ?_ ?_<;>intro g12
   ·refine xP ?_;refine bQ 2 298 3 V rfl V (bD fun q2 hq2=> ?_);repeat rcases hq2 with⟨_,hq2⟩
    have hN:gK (cH l)=none:=mZ (hnx.trans (EO (s:=⟨all,opn⟩) hso (by show opn.length=40;simp at g12;omega))) U;refine aI ?_;apply aD;exact aE
    ·exact pF hN
    ·exact aA
   have hnn:=hnx.trans (EN hso (by intro he;simp at g12;simp at he;omega));obtain⟨A,O,hAO,rfl,rfl⟩:∃A O,Nq A O/\A=r32/\O=r27:=⟨_,_,by(exact aX),rfl,rfl⟩
   refine iN ?_;refine⟨(A,O,j+1,_),⟨hAO,hlt,hnn⟩,Ab U, ?_⟩;dsimp only;exact aH
  have hso:rQ x.op=false:=hO▸g7;refine cZ ?_;refine aB rfl ?_ ?_<;>intro g14
  ·have h5:x.op=5:=C8 g14
   have hnx:=hnx.trans (CP hso (.inl h5));rw[h5]at hnx;refine dG ?_;refine wA ?_;refine aB rfl ?_ ?_<;>intro g15
   ·refine xP ?_;refine bQ 2 298 3 V rfl V (bD fun q2 hq2=> ?_);repeat rcases hq2 with⟨_,hq2⟩
    have hN:gK (cH l)=none:=by obtain rfl:opn=[]:=(C8 g15);exact mZ (hnx.trans IT) U
    refine aI ?_;apply aD;exact aE
    ·exact pF hN
    ·exact aA
   have hne:opn≠ []:=by intro h;simp[h]at g15
   obtain⟨pre,k,rfl⟩:∃pre k,opn=pre++ [k]:=⟨opn.dropLast,opn.getLast hne,(List.dropLast_concat_getLast hne).symm⟩
   have hkl:=hk1 k X;obtain⟨b,hb⟩:=Aa all k hkl
   have hpl:(pre++ [k]).length=pre.length+1:=by simp
   have hlast:=PV (pre:=pre) (k:=k);have hbt:=IV hb;have hba:=hk2 b (Ah hb);obtain⟨y,hy⟩:=Aa l b.at_ U
   have hyt:=IV hy;have hoy:=yC hy;refine AB ?_;refine tN ?_;refine mD ?_;refine pP ?_;refine rN ?_;refine z15 ?_;refine SM ?_;refine z16 ?_;refine B9 ?_;refine kH ?_;refine jZ ?_;refine GG ?_;refine SO ?_;refine GH ?_;refine SP ?_;refine uY ?_;refine aB rfl ?_ ?_<;>intro g18
   ·refine xP ?_;refine bQ 2 298 3 V rfl V (bD fun q2 hq2=> ?_);repeat rcases hq2 with⟨_,hq2⟩
    have hN:gK (cH l)=none:=mZ (hnx.trans (PU hb (by rw[hoy];replace g18:=bT g18;rcases g18 with h|h;exact .inl (fun e=>h (Option.some.inj e));exact .inr h))) U;refine aI ?_;apply aD;exact aE
    ·exact pF hN
    ·exact aA
   have hnn:=hnx.trans (IU hb (by rw[hoy];replace g18:=bT g18;rw[g18.1]) (by replace g18:=bT g18;exact g18.2));refine cJ ?_;refine MG ?_;refine SN ?_;refine iM ?_;rw[show(all.map tF).set (k:Int).toNat [.int .i64 (b.at_:Int),.int .i64 (j:Int),.int .i64 b.en]=(all.set k ⟨b.at_,j,b.en⟩).map tF by rw[Bc,List.map_set];rfl];obtain⟨A,O,hAO,rfl,rfl⟩:∃A O,Nq A O/\A=a/\O=o:=⟨_,_,by(exact aX),rfl,rfl⟩
   refine fO ?_;refine xK ?_;refine⟨(A,O,j+1,_),⟨hAO,hlt,hnn⟩,Ab U, ?_⟩;dsimp only;exact aH
  have hn5:x.op≠5:=C8 g14
  refine cZ ?_;refine aB rfl ?_ ?_<;>intro g21
  ·have h11:x.op=11:=C8 g21
   have hnx:=hnx.trans (CP hso (.inr h11));rw[h11]at hnx;refine dG ?_;refine wA ?_;refine aB rfl ?_ ?_<;>intro g22
   ·refine xP ?_;refine bQ 2 298 3 V rfl V (bD fun q2 hq2=> ?_);repeat rcases hq2 with⟨_,hq2⟩
    have hN:gK (cH l)=none:=by obtain rfl:opn=[]:=(C8 g22);exact mZ (hnx.trans IT) U
    refine aI ?_;apply aD;exact aE
    ·exact pF hN
    ·exact aA
   have hne:opn≠ []:=by intro h;simp[h]at g22
   obtain⟨pre,k,rfl⟩:∃pre k,opn=pre++ [k]:=⟨opn.dropLast,opn.getLast hne,(List.dropLast_concat_getLast hne).symm⟩
   have hkl:=hk1 k X;obtain⟨b,hb⟩:=Aa all k hkl
   have hpl:(pre++ [k]).length=pre.length+1:=by simp
   have hlast:=PV (pre:=pre) (k:=k);have hbt:=IV hb;have hnn:=hnx;rw[PT hb]at hnn;refine uX ?_;refine vP ?_;refine tN ?_;refine mD ?_;refine MG ?_;refine SN ?_;refine iM ?_;refine kV ?_;refine vP ?_;refine tN ?_;refine aF0 ?_;refine cN ?_;rw[show((((pre++ [k]).length:Nat):Int)-1).toNat-0=pre.length by simp];refine dO (pE (o:=o) pre.length bK) ?_;rw[show(all.map tF).set (k:Int).toNat [.int .i64 (b.at_:Int),.int .i64 b.els,.int .i64 (j:Int)]=(all.set k ⟨b.at_,b.els,j⟩).map tF by rw[Bc,List.map_set];rfl,show List.take pre.length ((pre++ [k]).map LN)=pre.map LN by simp];obtain⟨A,O,hAO,rfl,rfl⟩:∃A O,Nq A O/\A=a/\O=o:=⟨_,_,by(exact aX),rfl,rfl⟩
   refine fO ?_;refine xK ?_;refine⟨(A,O,j+1,_),⟨hAO,hlt,hnn⟩,Ab U, ?_⟩;dsimp only;exact aH
  have hnn:=hnx.trans (EP hso hn5 (C8 g21));obtain⟨A,O,hAO,rfl,rfl⟩:∃A O,Nq A O/\A=a/\O=o:=⟨_,_,by(exact aX),rfl,rfl⟩
  refine iN ?_;refine⟨(A,O,j+1,_),⟨hAO,hlt,hnn⟩,Ab U, ?_⟩;dsimp only;exact aH
 obtain rfl:j=l.length:=by simp at g4;omega
 refine dG ?_;refine vP ?_;refine aJZ ?_;refine CA ?_;refine OU ?_;refine uY ?_;refine aB rfl ?_ ?_<;>intro g26
 ·refine xP ?_;refine bQ 2 298 3 V rfl V (bD fun q2 hq2=> ?_);repeat rcases hq2 with⟨_,hq2⟩
  have hN:gK (cH l)=none:=by replace g26:=bT g26;unfold gK;split;rfl;(rw[hol,hrun];cases opn with|nil=>(exfalso;simp at g26;omega)|cons z zs=>rfl)
  refine aI ?_;apply aD;exact aE
  ·exact pF hN
  ·exact aA
 have hN:gK (cH l)=some all:=by replace g26:=bT g26;unfold gK;rw[hol,hrun,Db U];cases opn with|nil=>rfl|cons z zs=>simp at g26
 refine dG ?_;refine fS ?_;apply aD;exact aE
 ·simp only[TR,zS,hN,Bz,Option.isSome_some];exact⟨a,rfl,rfl⟩
 ·exact aA
end Go.Proofs.YtjpdadobblffmaaGreat
namespace Go.Proofs.YtjpdadobblffmaaGreat
open Go.RowKit Go.ChangeShapes Go.WideShapes Go.ChangeAt Go.Deep
def jA (l:List Ins):List Nat:=l.flatMap gT++ [11]
def dN (d:Int) (op:Int):Int:=if(op==11)=true then d-1 else if rQ op=true then d+1 else d
def TT (b:List Nat):Nat->Nat->Int->List Ins->List Ins×Nat×Int
 |0,_,_,_=>([],0,4)
 |f+1,k,d,l=>
  if((fP (b.drop k)).2.2 !=0)=true then([],0,(fP (b.drop k)).2.2)
  else if dN d (fP (b.drop k)).1.op<0 then(if zS (cH l)=true then(l,k+(fP (b.drop k)).2.1,0)else([],0,1))
  else TT b f (k+(fP (b.drop k)).2.1) (dN d (fP (b.drop k)).1.op) (l++ [(fP (b.drop k)).1])
def mJ (b:List Nat):List Ins×Nat×Int:=TT b 301 0 0 []
theorem aKe{d op:Int}(hd:0<=d):dN d op<0↔((op==11)=true/\d=0):=by
 unfold dN;split
 ·next h=>constructor;intro h2;exact⟨h,U⟩;intro h2;omega
 ·next h=>
  constructor
  ·intro h2;split at h2<;>omega
  ·intro h2;exact absurd h2.1 h
theorem aAC(b:List Nat):∀(f k:Nat) (d:Int) (l:List Ins),(TT b f k d l).2.2≠0->(TT b f k d l).1=[]/\(TT b f k d l).2.1=0
 |0,k,d,l=>fun _=>⟨rfl,rfl⟩
 |f+1,k,d,l=>by
  rw[TT];split
  ·exact fun _=>⟨rfl,rfl⟩
  split
  ·split
   ·exact fun h=>absurd rfl h
   ·exact fun _=>⟨rfl,rfl⟩
  ·exact aAC b f _ _ _
theorem aDO(b:List Nat)(h:(mJ b).2.2≠0):(mJ b).1=[]/\(mJ b).2.1=0:=aAC _ _ _ _ _ h
theorem aKf{x:Ins}(hx:x.Ok)(hm:cY x=true)(h:x.op=11):x=⟨11,0,0,[]⟩:=by
 have f17:=aIW hm (by rw[h];rfl);have fb:=aIX hm (by rw[h];decide);have fl:=aIY hm (by rw[h];decide);obtain⟨op,a,c,L⟩:=x;dsimp only at h f17 fb fl;subst h f17 fb fl;rfl
theorem Sp.of_drop {b p:List Nat}{k n:Nat}(hk:k<=b.length)(h:Sp (b.drop k) 0 n p):Sp b k (k+n) p:=by
 obtain⟨h1,h2,h3⟩:=h;rw[Bu,List.drop_drop]at h1;rw[Bv]at h3;exact⟨h1,U,U⟩
theorem MY{b:List Nat}(hb:∀x∈b,x<256):∀(f k:Nat) (d:Int) (l:List Ins),0<=d->(TT b f k d l).2.2=0->Sp b 0 k (l.flatMap gT)->(∀x∈l,x.Ok/\cY x=true)->
  zS (cH (TT b f k d l).1)=true/\Sp b 0 (TT b f k d l).2.1 (jA (TT b f k d l).1)/\∀x∈(TT b f k d l).1,x.Ok/\cY x=true
 |0,k,d,l=>fun _ h=>by cases h
 |f+1,k,d,l=>by
  intro hd h hs hl;rw[TT]at h⊢;by_cases h1:((fP (b.drop k)).2.2 !=0)=true
  ·rw[Dc h1]at h;rw[show(fP (b.drop k)).2.2=0 from h]at h1;simp at h1
  rw[Db h1]at h⊢;have he:(fP (b.drop k)).2.2=0:=C8 h1
  obtain⟨ho,hm,hsp⟩:=BI (fun x hx=>hb x (List.mem_of_mem_drop hx)) he;have hsp:=Sp.of_drop hs.2.2 hsp;by_cases h2:dN d (fP (b.drop k)).1.op<0
  ·rw[Dc h2]at h⊢;by_cases h3:zS (cH l)=true
   ·rw[Dc h3]at h⊢;refine⟨h3, ?_,hl⟩;have h11:=((aKe hd).1 h2).1;rw[aKf ho hm (C8 h11)]at hsp;exact hs.trans hsp
   ·rw[Db h3]at h;cases h
  ·rw[Db h2]at h⊢;refine MY hb f _ _ _ U h ?_ ?_
   ·rw[Bo];simpa using hs.trans hsp
   ·intro x hx;rcases A8.1 hx with hx|hx
    ·exact hl x hx
    ·rw[A1.1 hx];exact⟨ho,hm⟩
theorem YE{b:List Nat}(hb:∀x∈b,x<256)(h:(mJ b).2.2=0):zS (cH (mJ b).1)=true/\Sp b 0 (mJ b).2.1 (jA (mJ b).1)/\∀x∈(mJ b).1,x.Ok/\cY x=true:=
 MY hb 301 0 0 [] (Int.le_refl 0) h (Sp.nil (Am _)) X
theorem PW{ops:List Int}(h:zS ops=true):ops.length<=300:=by
 unfold zS gK at h;split at h
 ·cases h
 ·omega
theorem aAD{ops:List Int}(h:zS ops=true):∃all,qT ops ops.length=some ⟨all,[]⟩:=by
 unfold zS gK at h;split at h
 ·cases h
 ·split at h
  ·next all h2=>exact⟨all,h2⟩
  ·cases h
theorem aKg{ops:List Int}(h:zS ops=true){j:Nat}(hj:j<=ops.length):∃s,qT ops j=some s:=by
 obtain⟨all,h⟩:=aAD h;cases hs:qT ops j with
 |some s=>exact⟨s,rfl⟩
 |none=>
  have:=EM hs (ops.length-j);rw[Nat.add_sub_cancel' hj,h]at this;cases this
theorem aGB{ops:List Int}{s s':MS}{i:Nat}{op:Int}(h:pQ ops s i op=some s'):(s'.opn.length:Int)=dN s.opn.length op:=by
 unfold pQ at h;unfold dN;split at h
 ·next ho=>
  split at h
  ·cases h
  ·obtain rfl:=Option.some.inj h;rw[Db (by unfold rQ at ho;simp at ho⊢;omega),Dc ho];simp
 next ho=>
 split at h
 ·next h5=>
  obtain rfl:=Option.some.inj h;rw[Db (C8 h5.2),Db ho]
 next h5=>
 unfold GN at h;split at h
 ·cases h
 next k hk=>
 split at h
 ·cases h
 split at h
 ·next h11=>
  obtain rfl:=Option.some.inj h;have:s.opn≠ []:=by intro h0;rw[h0]at hk;cases hk
  have:=List.length_pos_iff.2 this;rw[Dc (C8 h11)];simp;omega
 next h11=>
 split at h
 ·cases h
 ·obtain rfl:=Option.some.inj h;rw[Db (C8 h11),Db ho]
theorem aDP{l:List Ins}(hl:∀x∈l,x.Ok/\cY x=true)(hok:zS (cH l)=true)(r:List Nat):∀(m j:Nat) (s:MS) (f:Nat),m+j=l.length->m<f->qT (cH l) j=some s->
  TT (jA l++r) f ((l.take j).flatMap gT).length s.opn.length (l.take j)=(l,(jA l).length,0):=by
 have hol:(cH l).length=l.length:=by simp[cH]
 have hdrop:∀j,(jA l++r).drop ((l.take j).flatMap gT).length=(l.drop j).flatMap gT++(11::r):=by
  intro j;have:jA l++r=(l.take j).flatMap gT++((l.drop j).flatMap gT++(11::r)):=by
   unfold jA
   conv=>lhs;rw[<-List.take_append_drop j l,Bo]
   simp
  rw[this,List.drop_left]
 intro m
 induction m with
 |zero=>
  intro j s f hj hf hs;obtain⟨f,rfl⟩:∃g,f=g+1:=⟨f-1,U⟩
  obtain rfl:j=l.length:=by omega
  obtain⟨all,ha⟩:=aAD hok;rw[hol,hs]at ha;obtain rfl:=Option.some.inj ha;have hg:fP ((jA l++r).drop ((l.take l.length).flatMap gT).length)=(⟨11,0,0,[]⟩,1,0):=by
   rw[hdrop,List.drop_length];exact PL (x:=⟨11,0,0,[]⟩) ⟨V,V,V,V,V⟩ V r
  rw[TT,hg,Db V,Dc (show dN (([]:List Nat).length:Nat) 11<0 by decide),Aw,Dc hok];simp[jA]
 |succ m ih=>
  intro j s f hj hf hs;obtain⟨f,rfl⟩:∃g,f=g+1:=⟨f-1,U⟩
  have hlt:j<l.length:=by omega
  obtain⟨x,hx⟩:=Aa l j hlt
  obtain⟨hxo,hxm⟩:=hl x (Ah hx);have hg:fP ((jA l++r).drop ((l.take j).flatMap gT).length)=(x,(gT x).length,0):=by
   rw[hdrop,List.drop_eq_getElem_cons hlt,(Ai.1 hx).2,List.flatMap_cons,Aq];exact PL hxo hxm _
  obtain⟨s',hs'⟩:=aKg hok (j:=j+1) U;have hst:=zB hs (yC hx);rw[hs']at hst;have hd:=aGB hst.symm;have ht:l.take (j+1)=l.take j++ [x]:=by rw[Al,hx];rfl
  have hn:=ih (j+1) s' f U U hs';rw[TT,hg,Db X];dsimp only;rw[<-hd,Db U,<-ht,<-hn,ht,Bo];simp
theorem aBN{l:List Ins}(hl:∀x∈l,x.Ok/\cY x=true)(hok:zS (cH l)=true)(r:List Nat):mJ (jA l++r)=(l,(jA l).length,0):=by
 have:=PW hok;have hol:(cH l).length=l.length:=by simp[cH]
 exact aDP hl hok r l.length 0 ⟨[],[]⟩ 301 U U rfl
attribute [local irreducible] SW RS RD fE eA
theorem TU{b:List Nat}{k:Nat}:List.take ((b.map aG).length-k) (List.drop k (b.map aG))=(b.drop k).map aG:=by
 rw[List.map_drop];exact Aj X
def pJ (l:List Ins) (j:Nat):List Nat:=(l.take j).flatMap gT
theorem aAE{l:List Ins}{j:Nat}{x:Ins}(h:l[j]? =some x):pJ l (j+1)=pJ l j++gT x:=by
 unfold pJ;rw[Al,h,Bo];simp
theorem YF{l:List Ins}(hm:∀x∈l,x.Ok/\cY x=true)(j:Nat):(pJ l j).length<=200*l.length:=by
 have h1:(pJ l j).length<=200*(l.take j).length:=CN fun x hx=>hm x (Bf hx)
 have:(l.take j).length<=l.length:=by simp;omega
 omega
theorem YG{l:List Ins}:pJ l l.length++ [11]=jA l:=by unfold pJ jA;rw[Aw]
theorem CQ{l:List Ins}(hm:∀x∈l,x.Ok/\cY x=true):(jA l).length<=200*l.length+1:=by
 rw[<-YG];have:=YF hm l.length;simp;omega
theorem aGC{l:List Ins}(hm:∀x∈l,x.Ok/\cY x=true):∀b∈jA l,b<256:=by
 intro b hb;rcases A8.1 hb with hb|hb
 ·exact TP hm b hb
 ·rw[A1.1 hb];decide
theorem TV(q:Nat)(vs:List Nat)(hvs:vs.length<=20000000)(l:List Ins)(hl:l.length<=310)(hm:∀x∈l,x.Ok/\cY x=true):SCall prog 248 [.own q 0 vs.length,.ro 4 (l.map (iv .any)) .any] [(q,.arr 5 1 (vs.map aG))]
  (fun y Y=>∃r,y=.own r 0 (vs++jA l).length/\Y=[(r,.arr 5 1 ((vs++jA l).map aG))]):=by
 refine bO 20 [0,1,4,6,7,8,9,10] func248 ?_;refine tU ?_;refine lp (β:=Nat×Nat) (fun b=>⟨[(0,.own b.1 0 (vs++pJ l b.2).length),(7,.ro 4 (l.map (iv .any)) .any),(8,.int .i64 l.length),(9,.int .i64 b.2)],[(b.1,.arr 5 1 ((vs++pJ l b.2).map aG))]⟩) (fun b=>b.2<=l.length) (fun b=>l.length-b.2) (q,0) (by dsimp only;rw[show vs++pJ l 0=vs by simp[pJ]];exact aH) (Am _) ?_;rintro⟨q1,j⟩ hj;have hpl:=YF hm j;dsimp only at hj⊢;refine gN ?_;refine aB rfl ?_ ?_<;>intro g2
 ·have hlt:j<l.length:=by simp at g2;omega
  obtain⟨x,hx⟩:=Aa l j hlt
  obtain⟨hxo,hxm⟩:=hm x (Ah hx);have hnx:=aAE hx;refine nY ?_;refine iD fun r6 h6=> ?_;intros;refine vV ?_;refine jY ?_;refine cw [(q1,.arr 5 1 ((vs++pJ l j).map aG))] call242 (EJ q1 (vs++pJ l j) Af .any x hxo hxm) rfl aC aA ?_;rintro _ Y' ⟨r15,rfl,rfl⟩ h15;have k15:=aV h15;repeat rcases k15 with⟨_,k15⟩
  refine vR ?_;refine⟨(r15,j+1),hlt,Ab U, ?_⟩;dsimp only;rw[hnx,<-Aq];exact aH
 obtain rfl:j=l.length:=by simp at g2;omega
 refine dG ?_;refine eN fun r18 h18=> ?_;intros;refine kD (((vs++pJ l l.length)++ [11]).map aG) ((vs++pJ l l.length)++ [11]).length ?_;refine bG fun r19 h19=> ?_;intros;refine cN ?_;rw[Aq,YG];exact aD aE ⟨r19,by rfl,rfl⟩ aA
theorem TW(l:List Ins)(hl:l.length<=310)(hm:∀x∈l,x.Ok/\cY x=true):SCall prog 256 [.ro 4 (l.map (iv .any)) .any] []
  (fun y Y=>∃r,y=.own r 0 (jA l).length/\Y=[(r,.arr 5 1 ((jA l).map aG))]):=by
 refine bO 21 [0,2,3,4,8] func256 ?_;refine sP ?_;refine iT ?_;refine cN ?_;refine bQ 3 5 1 V rfl V (bD fun q0 hq0=> ?_);repeat rcases hq0 with⟨_,hq0⟩
 refine lp (β:=Nat×Nat) (fun b=>⟨[(0,.ro 4 (l.map (iv .any)) .any),(3,.own b.1 0 (pJ l b.2).length),(4,.int .i64 b.2)],[(b.1,.arr 5 1 ((pJ l b.2).map aG))]⟩) (fun b=>b.2<=l.length) (fun b=>l.length-b.2) (q0,0) aH (Am _) ?_;rintro⟨q1,j⟩ hj;have hpl:=YF hm j;dsimp only at hj⊢;refine vT ?_;refine aB rfl ?_ ?_<;>intro g3
 ·have hlt:j<l.length:=by simp at g3;omega
  obtain⟨x,hx⟩:=Aa l j hlt
  obtain⟨hxo,hxm⟩:=hm x (Ah hx);have hnx:=aAE hx;have hpx:=yB hxo hxm;refine cJ ?_;refine sI ?_;refine tE call253 (uZ .any x hxo hxm) rfl bL kK ?_;rintro _ Y' ⟨r16,rfl,rfl⟩ h16
  replace h16:=bU h16;repeat rcases h16 with⟨_,h16⟩
  apply aR;exact aU;refine kD ((pJ l j++gT x).map aG) (pJ l j++gT x).length ?_;refine bG fun r17 h17=> ?_;intros;refine gX ?_;refine xK ?_;refine⟨(r17,j+1),hlt,Ab U, ?_⟩;dsimp only;rw[hnx];exact aH
 obtain rfl:j=l.length:=by simp at g3;omega
 refine dG ?_;refine eN fun r19 h19=> ?_;intros;refine kD ((pJ l l.length++ [11]).map aG) (pJ l l.length++ [11]).length ?_;refine bG fun r20 h20=> ?_;intros;refine cN ?_;rw[YG];exact aD aE ⟨r20,by rfl,rfl⟩ aA
instance : DecidableEq Ins := fun x y => if h : eqN x y = true then .isTrue (HA.1 h) else .isFalse fun e => h (HA.2 e)
def YH (a c:List Ins):Bool:=decide (a=c)
theorem IW(k k2:Rk)(a c:List Ins)(ha:a.length<=100000)(hc:c.length<=100000):SCall prog 185 [.ro 4 (a.map (iv .any)) k,.ro 4 (c.map (iv .any)) k2] [] (fun r Y=>r=.bool (YH a c)/\Y=[]):=by
 refine bO 27 [0,1,4,5,10,14,26] func185 ?_;refine vX ?_;refine aB rfl ?_ ?_<;>intro g1
 ·have hE:YH a c=false:=by unfold YH;rw[decide_eq_false];intro e;rw[e]at g1;simp at g1
  refine cV ?_;exact aD aE ⟨by rw[hE];rfl,rfl⟩ aA
 have hlen:a.length=c.length:=by simp at g1;omega
 refine cV ?_;refine lp (β:=Nat) (fun j=>⟨[(0,.ro 4 (a.map (iv .any)) k),(1,.ro 4 (c.map (iv .any)) k2),(5,.int .i64 j)],[]⟩) (fun j=>j<=a.length/\a.take j=c.take j) (fun j=>a.length-j) 0 aH ⟨Am _,rfl⟩ ?_;intro j ⟨hj,hjt⟩;refine vT ?_;refine aB rfl ?_ ?_<;>intro g4
 ·have hlt:j<a.length:=by simp at g4;omega
  obtain⟨x,hx⟩:=Aa a j hlt
  obtain⟨y,hy⟩:=Aa c j U
  refine aI ?_;refine eK (Ac [0,1,2,3,4,5,6,7] (Ad 8 (Ac [9] []))) ?_;refine wW ?_;refine wT ?_;refine wW ?_;refine wT ?_;refine LM rfl call268 (TK .any .any x y) rfl aO bH ?_;refine Cv ?_;refine oI ?_;refine aB rfl ?_ ?_<;>intro g6
  ·have hE:YH a c=false:=by unfold YH;rw[decide_eq_false];intro e;rw[e,hy]at hx;rw[Option.some.inj hx,aDB]at g6;simp at g6
   refine cV ?_;exact aD aE ⟨by rw[hE];rfl,rfl⟩ aA
  have hxy:x=y:=HA.1 (C8 g6);refine iN ?_;refine⟨j+1,⟨hlt,by rw[Al,Al,hjt,hx,hy,hxy]⟩,Ab U, ?_⟩;exact aH
 obtain rfl:j=a.length:=by simp at g4;omega
 have hE:YH a c=true:=by unfold YH;rw[decide_eq_true];rw[Aw,hlen,Aw]at hjt;exact hjt
 refine cV ?_;exact aD aE ⟨by rw[hE];rfl,rfl⟩ aA
theorem aDQ(b:List Nat)(hb:b.length<=1000000)(hlt:∀x∈b,x<256):SCall prog 266 [.ro 1 (b.map aG) .any] []
  (fun y Y=>∃q,y=.tup [.own q 0 (mJ b).1.length,.int .i64 ((mJ b).2.1:Nat),.int .i64 (mJ b).2.2]/\Y=[(q,.arr 46 4 ((mJ b).1.map (iv .any)))]):=by
 refine bO 55 [0,2,3,4,5,6,7,8,9,10,12,22,29,34,38,45,54] func266 ?_;refine dB ?_;refine pM ?_;refine jD ?_;refine iT ?_;refine iT ?_;refine cN ?_;refine bQ 5 46 4 V rfl V (bD fun q0 hq0=> ?_);repeat rcases hq0 with⟨_,hq0⟩
 refine lp (β:=Nat×Nat×Int×Nat×List Ins) (fun b'=>⟨[(0,.ro 1 (b.map aG) .any),(5,.own b'.1 0 b'.2.2.2.2.length),(6,.int .i64 b'.2.2.1),(7,.int .i64 b'.2.1)],[(b'.1,.arr 46 4 (b'.2.2.2.2.map (iv .any)))]⟩) (fun b'=>b'.2.1<=b.length/\0<=b'.2.2.1/\b'.2.2.1<=b'.2.2.2.2.length/\b'.2.2.2.1+b'.2.2.2.2.length=301/\1<=b'.2.2.2.1/\mJ b=TT b b'.2.2.2.1 b'.2.1 b'.2.2.1 b'.2.2.2.2) (fun b'=>b'.2.2.2.1) (q0,0,0,301,[]) aH ⟨Am _,Int.le_refl 0,Int.le_refl 0,rfl,by show 1<=301;decide,rfl⟩ ?_;rintro⟨q,k,d,f,l⟩ ⟨hk,hd0,hdl,hfl,hf1,hG⟩;dsimp only at hk hd0 hdl hfl hf1 hG⊢;obtain⟨f,rfl⟩:∃g,f=g+1:=⟨f-1,U⟩
 have hlt2:∀x∈b.drop k,x<256:=fun x hx=>hlt x (List.mem_of_mem_drop hx)
 have hsnd:=BI hlt2;rw[TT]at hG;refine cJ ?_;refine aF2 ?_;rw[TU];refine cw [] call298 (MW (b.drop k) Af hlt2) rfl aC aA ?_;rintro _ Y' ⟨q3,rfl,rfl⟩ h17
 replace h17:=gE h17;repeat rcases h17 with⟨_,h17⟩
 apply aR;exact aU;generalize fP (b.drop k)=gp at hG hsnd⊢;obtain⟨x,n,e⟩:=gp;dsimp only at hG hsnd⊢;refine tC ?_;refine B6 ?_;refine iD fun r8 h8=> ?_;intros;apply OT;rfl;rfl;rfl;rfl;exact nI;refine pN ?_;refine wU ?_;refine aB rfl ?_ ?_<;>intro g5
 ·refine dG ?_;refine IN ?_;refine bQ 2 46 4 V rfl V (bD fun q2 hq2=> ?_);repeat rcases hq2 with⟨_,hq2⟩
  have hE:mJ b=([],0,e):=by rw[hG,Dc g5]
  refine aI ?_;exact aD aE ⟨q2,by rw[hE];rfl,by rw[hE]⟩ aA
 rw[Db (by simp[g5])]at hG;obtain⟨hxo,hxm,hsp⟩:=hsnd (C8 g5);have hkn:k+n<=b.length:=by have:=hsp.2.2;simp at this;omega
 refine cJ ?_;refine xK ?_;refine mP ?_;refine sH ?_;refine aB rfl ?_ ?_<;>intro g8
 ·have hD:dN d x.op=d-1:=by unfold dN;rw[Dc g8]
  refine dG ?_;refine tN ?_;refine gX ?_;refine sG ?_;refine aB rfl ?_ ?_<;>intro g12
  ·rw[Dc (by rw[hD];simpa using g12)]at hG;refine dG ?_;refine tE call75 (nA l U) rfl bL kK ?_;rintro _ Y' ⟨q4,rfl,rfl⟩ h41
   replace h41:=bU h41;repeat rcases h41 with⟨_,h41⟩
   refine sJ ?_;refine pN ?_;refine mX ?_;refine aB rfl ?_ ?_<;>intro g14
   ·refine dB ?_;refine IN ?_;refine bQ 2 46 4 V rfl V (bD fun q2 hq2=> ?_);repeat rcases hq2 with⟨_,hq2⟩
    have hE:mJ b=([],0,1):=by rw[hG,Db];intro h;rw[h]at g14;cases g14
    refine aI ?_;exact aD aE ⟨q2,by rw[hE];rfl,by rw[hE]⟩ aA
   refine cJ ?_;refine pM ?_;have hE:mJ b=(l,k+n,0):=by rw[hG,Dc];cases h:zS (cH l);rw[h]at g14;cases g14;rfl
   exact aD aE ⟨q,by rw[hE];rfl,by rw[hE]⟩ aA
  rw[Db (by rw[hD];simpa using g12)]at hG;refine aI ?_;refine dO (gO (r:=r8) (q:=q3) bK aY (.cons (.refl _) (.cons (.refl _) (.cons (.refl _) (.cons (aL bR X) .nil))))) ?_;refine fO ?_;refine jY ?_;refine eN fun r50 h50=> ?_;intros;refine kD ((l++ [x]).map (iv .any)) (l++ [x]).length ?_;refine bG fun r51 h51=> ?_;intros;refine gX ?_;refine vP ?_;refine tP ?_;refine aB rfl ?_ ?_<;>intro g18
  ·refine dB ?_;refine IN ?_;refine bQ 2 46 4 V rfl V (bD fun q2 hq2=> ?_);repeat rcases hq2 with⟨_,hq2⟩
   have hE:mJ b=([],0,4):=by obtain rfl:f=0:=(by simp at g18;omega);rw[hG];rfl
   refine aI ?_;exact aD aE ⟨q2,by rw[hE];rfl,by rw[hE]⟩ aA
  refine aI ?_;have hf0:l.length+1<=300:=by simp at g18;omega
  refine⟨(r51,k+n,dN d x.op,f,l++ [x]),⟨hkn,by show 0<=dN d x.op;rw[hD];simp at g12;omega,by show dN d x.op<=((l++ [x]).length:Nat);rw[hD];simp;omega,by show f+(l++ [x]).length=301;simp;omega,by show 1<=f;omega,hG⟩,Nat.lt_succ_self _, ?_⟩;dsimp only;rw[hD];exact aH
 refine eY ?_;refine kY call186 (BJ _) rfl aO bH ?_;refine iM ?_;refine aB rfl ?_ ?_<;>intro g10
 ·have hD:dN d x.op=d+1:=by unfold dN;rw[Db (by simp[g8]),Dc g10]
  refine iN ?_;refine fO ?_;refine sG ?_;refine aB rfl ?_ ?_<;>intro g12
  ·rw[Dc (by rw[hD];simpa using g12)]at hG;refine dG ?_;refine tE call75 (nA l U) rfl bL kK ?_;rintro _ Y' ⟨q4,rfl,rfl⟩ h41
   replace h41:=bU h41;repeat rcases h41 with⟨_,h41⟩
   refine sJ ?_;refine pN ?_;refine mX ?_;refine aB rfl ?_ ?_<;>intro g14
   ·refine dB ?_;refine IN ?_;refine bQ 2 46 4 V rfl V (bD fun q2 hq2=> ?_);repeat rcases hq2 with⟨_,hq2⟩
    have hE:mJ b=([],0,1):=by rw[hG,Db];intro h;rw[h]at g14;cases g14
    refine aI ?_;exact aD aE ⟨q2,by rw[hE];rfl,by rw[hE]⟩ aA
   refine cJ ?_;refine pM ?_;have hE:mJ b=(l,k+n,0):=by rw[hG,Dc];cases h:zS (cH l);rw[h]at g14;cases g14;rfl
   exact aD aE ⟨q,by rw[hE];rfl,by rw[hE]⟩ aA
  rw[Db (by rw[hD];simpa using g12)]at hG;refine aI ?_;refine dO (gO (r:=r8) (q:=q3) bK aY (.cons (.refl _) (.cons (.refl _) (.cons (.refl _) (.cons (aL bR X) .nil))))) ?_;refine fO ?_;refine jY ?_;refine z1 ?_;refine bD fun r50 h50=> ?_;repeat rcases h50 with⟨_,h50⟩
  refine kD ((l++ [x]).map (iv .any)) (l++ [x]).length ?_;refine bG fun r51 h51=> ?_;intros;refine gX ?_;refine vP ?_;refine tP ?_;refine aB rfl ?_ ?_<;>intro g18
  ·refine dB ?_;refine IN ?_;refine bQ 2 46 4 V rfl V (bD fun q2 hq2=> ?_);repeat rcases hq2 with⟨_,hq2⟩
   have hE:mJ b=([],0,4):=by obtain rfl:f=0:=(by simp at g18;omega);rw[hG];rfl
   refine aI ?_;exact aD aE ⟨q2,by rw[hE];rfl,by rw[hE]⟩ aA
  refine aI ?_;have hf0:l.length+1<=300:=by simp at g18;omega
  refine⟨(r51,k+n,dN d x.op,f,l++ [x]),⟨hkn,by show 0<=dN d x.op;rw[hD];simp at g12;omega,by show dN d x.op<=((l++ [x]).length:Nat);rw[hD];simp;omega,by show f+(l++ [x]).length=301;simp;omega,by show 1<=f;omega,hG⟩,Nat.lt_succ_self _, ?_⟩;dsimp only;rw[hD];exact aH
 have hD:dN d x.op=d:=by unfold dN;rw[Db (by simp[g8]),Db (by simp[g10])]
 refine dG ?_;refine sG ?_;refine aB rfl ?_ ?_<;>intro g12
 ·rw[Dc (by rw[hD];simpa using g12)]at hG;refine dG ?_;refine tE call75 (nA l U) rfl bL kK ?_;rintro _ Y' ⟨q4,rfl,rfl⟩ h41
  replace h41:=bU h41;repeat rcases h41 with⟨_,h41⟩
  refine sJ ?_;refine pN ?_;refine mX ?_;refine aB rfl ?_ ?_<;>intro g14
  ·refine dB ?_;refine IN ?_;refine bQ 2 46 4 V rfl V (bD fun q2 hq2=> ?_);repeat rcases hq2 with⟨_,hq2⟩
   have hE:mJ b=([],0,1):=by rw[hG,Db];intro h;rw[h]at g14;cases g14
   refine aI ?_;exact aD aE ⟨q2,by rw[hE];rfl,by rw[hE]⟩ aA
  refine cJ ?_;refine pM ?_;have hE:mJ b=(l,k+n,0):=by rw[hG,Dc];cases h:zS (cH l);rw[h]at g14;cases g14;rfl
  exact aD aE ⟨q,by rw[hE];rfl,by rw[hE]⟩ aA
 rw[Db (by rw[hD];simpa using g12)]at hG;refine aI ?_;refine dO (gO (r:=r8) (q:=q3) bK aY (.cons (.refl _) (.cons (.refl _) (.cons (.refl _) (.cons (aL bR X) .nil))))) ?_;refine fO ?_;refine jY ?_;refine z1 ?_;refine bD fun r50 h50=> ?_;repeat rcases h50 with⟨_,h50⟩
 refine kD ((l++ [x]).map (iv .any)) (l++ [x]).length ?_;refine bG fun r51 h51=> ?_;intros;refine gX ?_;refine vP ?_;refine tP ?_;refine aB rfl ?_ ?_<;>intro g18
 ·refine dB ?_;refine IN ?_;refine bQ 2 46 4 V rfl V (bD fun q2 hq2=> ?_);repeat rcases hq2 with⟨_,hq2⟩
  have hE:mJ b=([],0,4):=by obtain rfl:f=0:=(by simp at g18;omega);rw[hG];rfl
  refine aI ?_;exact aD aE ⟨q2,by rw[hE];rfl,by rw[hE]⟩ aA
 refine aI ?_;have hf0:l.length+1<=300:=by simp at g18;omega
 refine⟨(r51,k+n,dN d x.op,f,l++ [x]),⟨hkn,by show 0<=dN d x.op;rw[hD];simp at g12;omega,by show dN d x.op<=((l++ [x]).length:Nat);rw[hD];simp;omega,by show f+(l++ [x]).length=301;simp;omega,by show 1<=f;omega,hG⟩,Nat.lt_succ_self _, ?_⟩;dsimp only;rw[hD];exact aH
end Go.Proofs.YtjpdadobblffmaaGreat
namespace Go.Proofs.YtjpdadobblffmaaGreat
open Go.RowKit Go.ChangeShapes Go.WideShapes Go.ChangeAt Go.Deep
theorem VLe.ro {sz:Nat}{es es':List (List AV)}{k:Rk}(hl:es.length=es'.length)(hs:iY sz es')
  (h:∀(i:Nat) (e e':List AV),es[i]? =some e->es'[i]? =some e'->e.length=e'.length/\∀(j:Nat) (a a':AV),e[j]? =some a->e'[j]? =some a'->VLe a a'):VLe (.ro sz es k) (.ro sz es' k):=fun M F w v hv=>by
 have hx:∀(i:Nat) (e':List AV),es'[i]? =some e'->∃e,es[i]? =some e:=fun i e' h=>⟨_,Ar (by have:=(Ai.1 h).1;omega)⟩
 have hy:∀(i:Nat) (e':List AV) (j:Nat) (a':AV),es'[i]? =some e'->e'[j]? =some a'->∃e a,es[i]? =some e/\e[j]? =some a/\VLe a a':=fun i e' j a' h1 h2=>by
  obtain⟨e,he⟩:=hx i e' h1;obtain⟨g1,g2⟩:=h i e e' he h1;have hj:=(Ai.1 h2).1;have ha:e[j]? =some (e[j]' U):=Ar U;exact⟨e,_,he,ha,g2 j _ a' ha h2⟩
 cases hv with
 |ro hb hs' hc hr hle hm hf hn=>
  rw[hl];rw[hl]at hle hf
  rename_i b o cap us
  refine .ro (us:=us) hb hs (fun i e' j a' h1 h2=> ?_) (fun i e' j a' h1 h2=> ?_) hle hm hf hn
  ·obtain⟨e,a,he,ha,-⟩:=hy i e' j a' h1 h2;exact hc i e j a he ha
  ·obtain⟨e,a,he,ha,hv⟩:=hy i e' j a' h1 h2;exact hv _ _ _ _ (hr i e j a he ha)
 |ro0 hm hA hf hn=>
  obtain rfl:es'=[]:=List.length_eq_zero_iff.1 hl.symm;exact .ro0 hm hA hf hn
structure FT where
 pr:List Int
 rs:List Int
structure Im where
 mod:List Nat
 nm:List Nat
 ty:Int
structure Gl where
 mu:Bool
 kd:Int
 n:Int
structure Ex where
 nm:List Nat
 fn:Int
structure El where
 off:Int
 fs:List Int
structure Co where
 ls:List Int
 bd:List Ins
structure Da where
 off:Int
 bs:List Nat
structure Li where
 has:Bool
 mn:Int
 mx:Int
structure Md where
 ty:List FT
 im:List Im
 fn:List Int
 tb:Li
 me:Li
 gl:List Gl
 ex:List Ex
 el:List El
 co:List Co
 da:List Da
def MZ:Li:=⟨false,0,0⟩
def md0:Md:=⟨[],[],[],MZ,MZ,[],[],[],[],[]⟩
def cD (x:FT):List AV:=[.ro 1 (x.pr.map aK) .any,.ro 1 (x.rs.map aK) .any]
def eE (x:Im):List AV:=[.str (cB x.mod),.str (cB x.nm),.int .i64 x.ty]
def dX (x:Gl):List AV:=[.bool x.mu,.int .i64 x.kd,.int .i64 x.n]
def dD (x:Ex):List AV:=[.str (cB x.nm),.int .i64 x.fn]
def dP (x:El):List AV:=[.int .i64 x.off,.ro 1 (x.fs.map aK) .any]
def cQ (x:Co):List AV:=[.ro 1 (x.ls.map aK) .any,.ro 4 (x.bd.map (iv .any)) .any]
def dV (x:Da):List AV:=[.int .i64 x.off,.ro 1 (x.bs.map aG) .any]
def eO (x:Li):List AV:=[.bool x.has,.int .i64 x.mn,.int .i64 x.mx]
def aM (m:Md):List AV:=[.ro 2 (m.ty.map cD) .any,.ro 3 (m.im.map eE) .any,.ro 1 (m.fn.map aK) .any,.bool m.tb.has,.int .i64 m.tb.mn,.int .i64 m.tb.mx,.bool m.me.has,.int .i64 m.me.mn,.int .i64 m.me.mx,
 .ro 3 (m.gl.map dX) .any,.ro 2 (m.ex.map dD) .any,.ro 2 (m.el.map dP) .any,.ro 2 (m.co.map cQ) .any,.ro 2 (m.da.map dV) .any]
def bB {α:Type} (l:List α) (pt:α->List Nat):List Nat:=uB l.length++l.flatMap pt
def bM (s:List Nat):List Nat:=uB s.length++s
def kB (k:Int):List Nat:=if(k==1)=true then [127]else [126]
def cC (n:Int):List Nat:=uB n.toNat
def nB (k n:Int):List Nat:=gT ⟨if(k==2)=true then 66 else 65,n,0,[]⟩++ [11]
def rR (n:Int):List Nat:=0::nB 1 n
def eL (l:Li):List Nat:=if decide (l.mx<0)=true then 0::cC l.mn else 1::(cC l.mn++cC l.mx)
def bZ:List Int->List (List Int):=fun l=>l.foldl (fun r k=>match r.getLast? with
 |some (x::xs)=>if x==k then r.dropLast++ [(x::xs)++ [k]]else r++ [[k]]
 | _=>r++ [[k]]) []
def iK (r:List Int):List Nat:=cC r.length++kB (r.headD 0)
def lD (c:Co):List Nat:=uB (bB (bZ c.ls) iK++jA c.bd).length++(bB (bZ c.ls) iK++jA c.bd)
def bF {α:Type} (no:Nat) (l:List α) (pt:α->List Nat):List Nat:=if l.isEmpty then []else no::(uB (bB l pt).length++bB l pt)
def yD (t:FT):List Nat:=96::(bB t.pr kB++bB t.rs kB)
def jI (x:Im):List Nat:=bM x.mod++bM x.nm++ [0]++cC x.ty
def xA (g:Gl):List Nat:=kB g.kd++ [if g.mu then 1 else 0]++nB g.kd g.n
def oK (x:Ex):List Nat:=bM x.nm++ [0]++cC x.fn
def uS (x:El):List Nat:=rR x.off++bB x.fs cC
def wD (x:Da):List Nat:=rR x.off++uB x.bs.length++x.bs
def iA (l:Li):List Li:=if l.has then [l]else []
def headB:List Nat:=[0,97,115,109,1,0,0,0]
def eZ (m:Md):List Nat:=headB++bF 1 m.ty yD++bF 2 m.im jI++bF 3 m.fn cC++bF 4 (iA m.tb) (fun l=>112::eL l)++bF 5 (iA m.me) eL++bF 6 m.gl xA++bF 7 m.ex oK++bF 9 m.el uS++bF 10 m.co lD++bF 11 m.da wD
def gU (n:Int):Bool:=if decide (0<=n)=true then decide (n<=1000)else false
def CR (k:Int):Bool:=if(k==1)=true then true else(k==2)
def wG (s:List Nat):Bool:=if(s.length !=0)=true then(decide (s.length<=16)&&s.all fun c=>decide (32<=c)&&decide (c<=126))else false
def gV (n:Int):Bool:=decide (-2147483648<=n)&&decide (n<=2147483647)
def lE (l:Li) (least most:Int):Bool:=if l.has then decide (0<=l.mn)&&decide (l.mn<=least)&&decide (-1<=l.mx)&&decide (l.mx<=most)else(l.mn==0&&l.mx==0)
def cI {α:Type} (l:List α) (most:Int) (p:α->Bool):Bool:=decide ((l.length:Int)<=most)&&l.all p
def nT (k n:Int):Bool:=(k==1&&decide (-2147483648<=n)&&decide (n<=2147483647))||(k==2)
def mK (m:Md):Bool:=cI m.ty 16 (fun t=>cI t.pr 32 CR&&cI t.rs 1 CR)&&cI m.im 16 (fun x=>wG x.mod&&wG x.nm&&gU x.ty)&&cI m.fn (16-m.im.length) gU&&
 cI m.gl 16 (fun g=>nT g.kd g.n)&&cI m.ex 16 (fun x=>wG x.nm&&gU x.fn)&&cI m.el 16 (fun x=>gV x.off&&cI x.fs 50 gU)&&cI m.da 16 (fun x=>gV x.off&&decide (x.bs.length<=1000))
def uA (c:Co):Bool:=zS (cH c.bd)&&cI c.ls 32 CR&&cI c.bd 300 cY
def jP (m:Md):Bool:=(m.co.length==m.fn.length&&cI m.co 16 uA)&&mK m&&lE m.tb 16 1000&&lE m.me 16 65536&&decide ((eZ m).length<=8000)
theorem IX{k n:Int}(h:nT k n=true)(hn:-9223372036854775808<=n/\n<=9223372036854775807):(⟨if(k==2)=true then 66 else 65,n,0,[]⟩:Ins).Ok/\cY ⟨if(k==2)=true then 66 else 65,n,0,[]⟩=true/\(k=1\/k=2):=by
 unfold nT at h;simp only[Bool.or_eq_true,Ap,beq_iff_eq,decide_eq_true_eq]at h;rcases h with⟨⟨rfl,h1⟩,h2⟩|rfl
 ·refine⟨⟨X,X,hn.1,hn.2,X⟩, ?_,.inl rfl⟩;rw[Db V];have:aW 65=8:=by decide
  simp[cY,jN,this,kW];omega
 ·refine⟨⟨X,X,hn.1,hn.2,X⟩, ?_,.inr rfl⟩;rw[Dc V];have:aW 66=9:=by decide
  simp[cY,jN,this]
structure Ct where
 op:Int
 kd:Int
 ht:Nat
 dd:Bool
structure PS where
 vs:List Int
 cs:List Ct
 bad:Bool
def nL (c:Ct):List AV:=[.int .i64 c.op,.int .i64 c.kd,.int .i64 c.ht,.bool c.dd]
def ct0:Ct:=⟨0,0,0,false⟩
def PS.top (s:PS):Ct:=s.cs.getLast?.getD ct0
def dA (s:PS) (ok:Bool):PS:=⟨s.vs,s.cs,if s.bad=true then true else !ok⟩
def gB (s:PS) (ks:List Int):PS:=⟨s.vs++ks,s.cs,s.bad⟩
def cO (s:PS) (w:Int):Int×PS:=
 if((s.vs.length:Int)==s.top.ht)=true then(w,dA s s.top.dd)
 else if(s.vs.getLast?.getD 0==0)=true then(w,⟨s.vs.dropLast,s.cs,s.bad⟩)
 else(s.vs.getLast?.getD 0,dA ⟨s.vs.dropLast,s.cs,s.bad⟩ (if(w==0)=true then true else(s.vs.getLast?.getD 0==w)))
def dQ (s:PS) (ks:List Int):PS:=ks.reverse.foldl (fun s k=>(cO s k).2) s
def aZ (k:Int):List Int:=if(k==0)=true then []else [k]
def openP (s:PS) (op kd:Int):PS:=⟨s.vs,s.cs++ [⟨op,kd,s.vs.length,false⟩],s.bad⟩
def gL (s:PS):PS:=
 let s1:=dQ s (aZ s.top.kd)
 let s2:=dA s1 ((s1.vs.length:Int)==s.top.ht)
 ⟨s2.vs,s2.cs.dropLast,s2.bad⟩
def pR (s:PS):PS:=⟨s.vs.take s.top.ht,s.cs.dropLast++ [⟨s.top.op,s.top.kd,s.top.ht,true⟩],s.bad⟩
def cR (s:PS) (n:Int):List Int×PS:=
 if decide ((s.cs.length:Int)<=n)=true then([],⟨s.vs,s.cs,true⟩)
 else(if((s.cs.getD (s.cs.length-1-n.toNat) ct0).op==3)=true then []else aZ (s.cs.getD (s.cs.length-1-n.toNat) ct0).kd,s)
def qM:FT:=⟨[],[]⟩
def cF (m:Md) (t:Int):FT×Bool:=if(if decide (t<0)=true then true else decide ((m.ty.length:Int)<=t))=true then(qM,false)else(m.ty.getD t.toNat qM,true)
def lI (m:Md) (f:Int):Int:=
 if decide (f<m.im.length)=true then(m.im.getD f.toNat ⟨[],[],0⟩).ty
 else if decide (f-m.im.length<m.fn.length)=true then m.fn.getD (f-m.im.length).toNat 0
 else-1
def rS (s:PS) (t:FT) (ok:Bool):PS:=gB (dQ (dA s ok) t.pr) t.rs
def eq1 (a b:List Int):Bool:=if((a.length:Int)==b.length)=true then(if((a.length:Int)==0)=true then true else(a.headD 0==b.headD 0))else false
def zT (w:List Int) (s:PS) (n:Int):PS:=dA (cR s n).2 (eq1 (cR s n).1 w)
def vC (s:PS) (x:Ins):PS:=
 let r:=cR (cO s 1).2 x.a
 pR (dQ (x.l.foldl (zT r.1) r.2) r.1)
def cE (m:Md) (s:PS) (x:Ins):Bool×PS:=
 if(x.op==0)=true then(true,pR s)
 else if(x.op==1)=true then(true,s)
 else if(x.op==2||x.op==3)=true then(true,openP s x.op x.a)
 else if(x.op==4)=true then(true,openP (cO s 1).2 x.op x.a)
 else if(x.op==5)=true then(true,openP (gL s) 5 s.top.kd)
 else if(x.op==11)=true then(true,gB (dA (gL s) (if(s.top.op !=4)=true then true else(s.top.kd==0))) (aZ s.top.kd))
 else if(x.op==12)=true then(true,pR (dQ (cR s x.a).2 (cR s x.a).1))
 else if(x.op==13)=true then(true,let r:=cR (cO s 1).2 x.a;gB (dQ r.2 r.1) r.1)
 else if(x.op==14)=true then(true,vC s x)
 else if(x.op==15)=true then(true,pR (dQ s (aZ (s.cs.getD 0 ct0).kd)))
 else if(x.op==16)=true then(true,let t:=cF m (lI m x.a);rS s t.1 t.2)
 else if(x.op==17)=true then(true,let t:=cF m x.a;rS (cO (dA s m.tb.has) 1).2 t.1 t.2)
 else(false,s)
def cT (ls:List Int) (s:PS) (n:Int):Int×PS:=if decide ((ls.length:Int)<=n)=true then(0,⟨s.vs,s.cs,true⟩)else(ls.getD n.toNat 0,s)
def NA:Gl:=⟨false,0,0⟩
def dZ (m:Md) (s:PS) (n:Int):Gl×PS:=if decide ((m.gl.length:Int)<=n)=true then(NA,⟨s.vs,s.cs,true⟩)else(m.gl.getD n.toNat NA,s)
def gP (m:Md) (s:PS) (x:Ins) (al:Int) (tk mk:List Int):PS:=gB (dQ (dA s (if m.me.has=true then decide (x.a<=al)else false)) tk) mk
def dW (m:Md) (ls:List Int) (s:PS) (x:Ins):PS:=
 if(x.op==26)=true then(cO s 0).2
 else if(x.op==27)=true then
  let s1:=(cO s 1).2;let r:=cO s1 0;let r2:=cO r.2 r.1;gB r2.2 [r2.1]
 else if(x.op==32)=true then let r:=cT ls s x.a;gB r.2 [r.1]
 else if(x.op==33)=true then let r:=cT ls s x.a;(cO r.2 r.1).2
 else if(x.op==34)=true then let r:=cT ls s x.a;let r2:=cT ls (cO r.2 r.1).2 x.a;gB r2.2 [r2.1]
 else if(x.op==35)=true then let r:=dZ m s x.a;gB r.2 [r.1.kd]
 else if(x.op==36)=true then let r:=dZ m s x.a;(cO (dA r.2 r.1.mu) r.1.kd).2
 else if(x.op==40)=true then gP m s x 2 [1] [1]
 else if(x.op==41)=true then gP m s x 3 [1] [2]
 else if(x.op==44||x.op==45)=true then gP m s x 0 [1] [1]
 else if(x.op==54)=true then gP m s x 2 [1,1] []
 else if(x.op==55)=true then gP m s x 3 [1,2] []
 else if(x.op==58)=true then gP m s x 0 [1,1] []
 else if(x.op==63)=true then gP m s x 0 [] [1]
 else if(x.op==64)=true then gP m s x 0 [1] [1]
 else if(x.op==65)=true then gB s [1]
 else if(x.op==66)=true then gB s [2]
 else let k:=kN x.op;gB (dQ (dA s k.2.2) k.1) [k.2.1]
def gQ (m:Md) (ls:List Int) (s:PS) (x:Ins):PS:=let r:=cE m s x;if r.1=true then r.2 else dW m ls r.2 x
def BU (m:Md) (ls:List Int):List Ins->PS->PS
 |[],s=>s
 |x::l,s=>let s':=gQ m ls s x;if s'.bad=true then s' else BU m ls l s'
def GO (m:Md) (k:Int):Bool:=
 if(if(if decide (k<0)=true then true else decide ((m.co.length:Int)<=k))=true then true else decide ((m.fn.length:Int)<=k))=true then false
 else
  let c:=m.co.getD k.toNat ⟨[],[]⟩
  let t:=cF m (m.fn.getD k.toNat 0)
  if(if(!t.2)=true then true else !(zS (cH c.bd)))=true then false
  else
   let ls:=t.1.pr++c.ls
   let s:=BU m ls c.bd (openP ⟨[],[],false⟩ 2 (if decide ((0:Int)<t.1.rs.length)=true then t.1.rs.headD 0 else 0))
   if s.bad=true then false else(if(!(gL s).bad)=true then decide ((ls.length:Int)<=32)else false)
structure PS.Ok0 (s:PS):Prop where
 le:∀c∈s.cs,c.ht<=s.vs.length
 up:s.cs.Pairwise fun a b=>a.ht<=b.ht
structure PS.Ok (s:PS):Prop extends s.Ok0 where
 ne:s.cs≠ []
theorem IY{vs:List Int}{i:List Ct}{t:Ct}{b:Bool}:PS.top ⟨vs,i++ [t],b⟩=t:=by simp[PS.top]
theorem PS.Ok0.split {vs:List Int}{i:List Ct}{t:Ct}{b:Bool}(h:PS.Ok0 ⟨vs,i++ [t],b⟩):(∀c∈i,c.ht<=t.ht)/\t.ht<=vs.length/\i.Pairwise (fun a b=>a.ht<=b.ht):=by
 obtain⟨h1,h2⟩:=h;rw[List.pairwise_append]at h2;exact⟨fun c hc=>h2.2.2 c hc t X,h1 t X,h2.1⟩
theorem PS.Ok.cut {s:PS}(h:s.Ok):∃i,s.cs=i++ [s.top]:=by
 obtain⟨vs,cs,b⟩:=s;have hn:=h.ne;rcases List.eq_nil_or_concat cs with rfl|⟨i,t,rfl⟩
 ·exact absurd rfl hn
 ·rw[List.concat_eq_append];exact⟨i,by rw[IY]⟩
theorem aAF(s:PS)(b:Bool):(dA s b).cs=s.cs:=rfl
theorem HD(s:PS)(b:Bool):(dA s b).vs=s.vs:=rfl
theorem PS.Ok.need {s:PS}(h:s.Ok)(b:Bool):(dA s b).Ok:=⟨⟨h.le,h.up⟩,h.ne⟩
theorem BK(s:PS)(w:Int):(cO s w).2.cs=s.cs:=by unfold cO;split<;>(try split)<;>rfl
theorem vD(s:PS)(w:Int):(cO s w).2.vs.length<=s.vs.length:=by
 unfold cO;split
 ·exact A3 _
 ·split
  ·simp
  ·simp[dA]
theorem PS.Ok.pop {s:PS}(h:s.Ok)(w:Int):(cO s w).2.Ok:=by
 obtain⟨i,hi⟩:=h.cut;have h0:=h.toOk0;have hne:=h.ne;obtain⟨vs,cs,b⟩:=s;dsimp only at hi;generalize PS.top ⟨vs,cs,b⟩=t at hi;subst hi;obtain⟨h1,h2,h3⟩:=h0.split;have key:¬(vs.length:Int)==t.ht->∀b',PS.Ok ⟨vs.dropLast,i++ [t],b'⟩:=fun hl b'=>by
  have hl:vs.length≠t.ht:=fun e=>hl (by rw[e];exact beq_self_eq_true _)
  refine⟨⟨fun c hc=> ?_,h0.up⟩,X⟩;show c.ht<=vs.dropLast.length;rw[List.length_dropLast];rcases A8.1 hc with hc|hc
  ·have:=h1 c hc;omega
  ·obtain rfl:=A1.1 hc;omega
 unfold cO;rw[IY];split
 ·exact h.need _
 ·next hl=>
  split
  ·exact key hl b
  ·exact(key hl b).need _
theorem aBO(s:PS)(ks:List Int)(k:Int):dQ s (ks++ [k])=dQ (cO s k).2 ks:=by simp[dQ]
theorem CS{p:PS->Prop}(h:∀s w,p s->p (cO s w).2):∀(ks:List Int) (s:PS),p s->p (dQ s ks):=by
 have:∀(l:List Int) (s:PS),p s->p (l.foldl (fun s k=>(cO s k).2) s):=by
  intro l
  induction l with
  |nil=>intro s hs;exact hs
  |cons a l ih=>intro s hs;exact ih _ (h s a hs)
 intro ks s hs;exact this _ s hs
theorem qU(s:PS)(ks:List Int):(dQ s ks).cs=s.cs:=CS (p:=fun q=>q.cs=s.cs) (fun q w h=>by rw[BK,h]) ks s rfl
theorem pS(s:PS)(ks:List Int):(dQ s ks).vs.length<=s.vs.length:=CS (p:=fun q=>q.vs.length<=s.vs.length) (fun q w h=>A4 (vD q w) h) ks s (A3 _)
theorem PS.Ok.pops {s:PS}(h:s.Ok)(ks:List Int):(dQ s ks).Ok:=CS (fun q w h=>h.pop w) ks s h
theorem PS.Ok0.push {s:PS}(h:s.Ok0)(ks:List Int):(gB s ks).Ok0:=⟨fun c hc=>by have:=h.le c hc;simp[gB];omega,h.up⟩
theorem PS.Ok.push {s:PS}(h:s.Ok)(ks:List Int):(gB s ks).Ok:=⟨h.toOk0.push ks,h.ne⟩
theorem PS.Ok0.openP {s:PS}(h:s.Ok0)(op kd:Int):(openP s op kd).Ok:=by
 refine⟨⟨fun c hc=> ?_, ?_⟩,by simp[Proofs.YtjpdadobblffmaaGreat.openP]⟩
 ·rcases A8.1 hc with hc|hc
  ·exact h.le c hc
  ·obtain rfl:=A1.1 hc;exact A3 _
 ·show(s.cs++ [_]).Pairwise _;rw[List.pairwise_append];exact⟨h.up,X,fun a ha b hb=>by obtain rfl:=A1.1 hb;exact h.le a ha⟩
theorem PS.Ok.dropc {s:PS}(h:s.Ok):PS.Ok0 ⟨s.vs,s.cs.dropLast,s.bad⟩:=⟨fun c hc=>h.le c (List.dropLast_subset _ hc),h.up.sublist (List.dropLast_sublist _)⟩
theorem PS.Ok.shut {s:PS}(h:s.Ok):(gL s).Ok0:=((h.pops _).need _).dropc
theorem HE(s:PS):(gL s).cs=s.cs.dropLast:=by show(dQ s _).cs.dropLast=_;rw[qU]
theorem IZ(s:PS):(gL s).vs.length<=s.vs.length:=pS _ _
theorem PS.Ok0.ok {s:PS}(h:s.Ok0)(hn:s.cs≠ []):s.Ok:=⟨h,hn⟩
theorem PS.Ok.dead {s:PS}(h:s.Ok):(pR s).Ok:=by
 obtain⟨i,hi⟩:=h.cut;have h0:=h.toOk0;obtain⟨vs,cs,b⟩:=s;dsimp only at hi;have hT:pR ⟨vs,cs,b⟩=⟨vs.take (PS.top ⟨vs,cs,b⟩).ht,cs.dropLast++ [⟨(PS.top ⟨vs,cs,b⟩).op,(PS.top ⟨vs,cs,b⟩).kd,(PS.top ⟨vs,cs,b⟩).ht,true⟩],b⟩:=rfl;rw[hT];generalize PS.top ⟨vs,cs,b⟩=t at hi;subst hi;obtain⟨h1,h2,h3⟩:=h0.split;refine⟨⟨fun c hc=> ?_, ?_⟩,X⟩
 ·show c.ht<=(vs.take t.ht).length;rw[Bi,Nat.min_eq_left h2];simp only[List.dropLast_concat]at hc;rcases A8.1 hc with hc|hc
  ·exact h1 c hc
  ·obtain rfl:=A1.1 hc;exact A3 _
 ·simp only[List.dropLast_concat];rw[List.pairwise_append];exact⟨h3,X,fun a ha b hb=>by obtain rfl:=A1.1 hb;exact h1 a ha⟩
theorem CT(s:PS):(pR s).vs.length<=s.vs.length:=by simp[pR];omega
theorem HF{s:PS}(h:s.Ok):(pR s).cs.length=s.cs.length:=by
 have:0<s.cs.length:=List.length_pos_iff.2 h.ne;simp[pR];omega
theorem yE(s:PS)(n:Int):(cR s n).2.cs=s.cs:=by unfold cR;split<;>rfl
theorem yF(s:PS)(n:Int):(cR s n).2.vs=s.vs:=by unfold cR;split<;>rfl
theorem PS.Ok.label {s:PS}(h:s.Ok)(n:Int):(cR s n).2.Ok:=by unfold cR;split;exact⟨⟨h.le,h.up⟩,h.ne⟩;exact h
theorem rT(k:Int):(aZ k).length<=1:=by unfold aZ;split<;>simp
theorem oV(s:PS)(n:Int):(cR s n).1.length<=1:=by
 unfold cR;split
 ·simp
 ·dsimp only;split
  ·simp
  ·exact rT _
theorem CU(w:List Int)(l:List Int)(s:PS):(l.foldl (zT w) s).cs=s.cs/\(l.foldl (zT w) s).vs=s.vs/\(s.Ok->(l.foldl (zT w) s).Ok):=by
 induction l generalizing s with
 |nil=>exact⟨rfl,rfl,id⟩
 |cons a l ih=>
  obtain⟨h1,h2,h3⟩:=ih (zT w s a);rw[List.foldl_cons];exact⟨h1.trans (yE s a),h2.trans (yF s a),fun h=>h3 ((h.label a).need _)⟩
theorem aAG(s:PS)(ks:List Int):(gB s ks).cs=s.cs:=rfl
theorem CV(s:PS)(ks:List Int):(gB s ks).vs.length=s.vs.length+ks.length:=by simp[gB]
theorem JA(s:PS)(op kd:Int):(openP s op kd).cs.length=s.cs.length+1:=by simp[openP]
theorem PS.Ok.calls {s:PS}(h:s.Ok)(t:FT)(ok:Bool):(rS s t ok).Ok:=((h.need ok).pops _).push _
theorem TX(s:PS)(t:FT)(ok:Bool):(rS s t ok).cs=s.cs:=qU _ _
theorem NB(s:PS)(t:FT)(ok:Bool):(rS s t ok).vs.length<=s.vs.length+t.rs.length:=by
 unfold rS;rw[CV];have:=pS (dA s ok) t.pr;rw[HD]at this;omega
theorem PS.Ok.table {s:PS}(h:s.Ok)(x:Ins):(vC s x).Ok:=(((CU _ _ _).2.2 ((h.pop 1).label x.a)).pops _).dead
theorem aDR{s:PS}(h:s.Ok)(x:Ins):(vC s x).cs.length=s.cs.length:=by
 unfold vC;dsimp only;rw[HF (((CU _ _ _).2.2 ((h.pop 1).label x.a)).pops _),qU,(CU _ _ _).1,yE,BK]
theorem aBP(s:PS)(x:Ins):(vC s x).vs.length<=s.vs.length:=by
 unfold vC;dsimp only;refine A4 (CT _) (A4 (pS _ _) ?_);rw[(CU _ _ _).2.1,yF];exact vD _ _
def dK (op:Int):Int:=if(op==2||op==3||op==4)=true then 1 else if(op==11)=true then-1 else 0
def FT.Sm (t:FT):Prop:=t.pr.length<=100/\t.rs.length<=100
def Md.TS (m:Md):Prop:=∀t∈m.ty,t.Sm
theorem aJ{α:Type}{c:Prop} [Decidable c] {p:α->Prop}{a b:α}(h1:c->p a)(h2:¬c->p b):p (if c then a else b):=by split;exact h1 ‹_›;exact h2 ‹_›
theorem qZ{m:Md}(h:m.TS)(n:Int):(cF m n).1.Sm:=by
 unfold cF;refine aJ (p:=fun r:FT×Bool=>r.1.Sm) (fun _=> ?_) (fun _=> ?_)
 ·exact⟨by simp[qM],by simp[qM]⟩
 ·show FT.Sm (m.ty.getD n.toNat qM);rw[Ax];cases hg:m.ty[n.toNat]? with
  |none=>exact⟨by simp[qM],by simp[qM]⟩
  |some t=>exact h t (Ah hg)
theorem qV{α:Type}(l:List α):l.dropLast.length=l.length-1:=List.length_dropLast
def aMZ (s:PS) (x:Ins) (r:Bool×PS):Prop:=r.2.Ok/\r.2.vs.length<=s.vs.length+100/\(r.2.cs.length:Int)=s.cs.length+(if r.1=true then dK x.op else 0)
theorem TY{m:Md}{s:PS}{x:Ins}(h:s.Ok)(hx:x.op=11->2<=s.cs.length)(hT:m.TS):aMZ s x (cE m s x):=by
 have hp:0<s.cs.length:=List.length_pos_iff.2 h.ne;unfold cE;refine aJ (fun g=> ?_) (fun _=> ?_)
 ·have:=eq_of_beq g;exact⟨h.dead,by have:=CT s;dsimp only;omega,by rw[HF h,this];simp[dK]⟩
 refine aJ (fun g=> ?_) (fun _=> ?_)
 ·have:=eq_of_beq g;exact⟨h,by dsimp only;omega,by rw[this];simp[dK]⟩
 refine aJ (fun g=> ?_) (fun _=> ?_)
 ·
  refine⟨h.toOk0.openP _ _,by show s.vs.length<= _;omega, ?_⟩;dsimp only;rw[JA];simp only[Bool.or_eq_true,beq_iff_eq]at g;rcases g with g|g<;>(rw[g];simp[dK])
 refine aJ (fun g=> ?_) (fun _=> ?_)
 ·
  refine⟨(h.pop 1).toOk0.openP _ _,by have:=vD s 1;show(cO s 1).2.vs.length<= _;omega, ?_⟩;dsimp only;rw[JA,BK,eq_of_beq g];simp[dK]
 refine aJ (fun g=> ?_) (fun _=> ?_)
 ·
  refine⟨h.shut.openP _ _,by have:=IZ s;show(gL s).vs.length<= _;omega, ?_⟩;dsimp only;rw[JA,HE,qV,eq_of_beq g];simp[dK];omega
 refine aJ (fun g=> ?_) (fun _=> ?_)
 ·
  have h2:=hx (eq_of_beq g);have hne:(gL s).cs≠ []:=by rw[HE];exact List.length_pos_iff.1 (by rw[qV];omega)
  refine⟨((h.shut.ok hne).need _).push _, ?_, ?_⟩
  ·have h3:=IZ s;have h4:=rT s.top.kd;dsimp only;rw[CV,HD];omega
  ·dsimp only;rw[aAG,aAF,HE,qV,eq_of_beq g];simp[dK];omega
 refine aJ (fun g=> ?_) (fun _=> ?_)
 ·
  refine⟨((h.label _).pops _).dead, ?_, ?_⟩
  ·refine A4 (CT _) (A4 (pS _ _) ?_);rw[yF];omega
  ·dsimp only;rw[HF ((h.label _).pops _),qU,yE,eq_of_beq g];simp[dK]
 refine aJ (fun g=> ?_) (fun _=> ?_)
 ·
  refine⟨(((h.pop 1).label _).pops _).push _, ?_, ?_⟩
  ·dsimp only;rw[CV];have h1:=pS (cR (cO s 1).2 x.a).2 (cR (cO s 1).2 x.a).1;rw[yF]at h1;have h2:=vD s 1;have h3:=oV (cO s 1).2 x.a;omega
  ·dsimp only;rw[aAG,qU,yE,BK,eq_of_beq g];simp[dK]
 refine aJ (fun g=> ?_) (fun _=> ?_)
 ·exact⟨h.table x,by have:=aBP s x;dsimp only;omega,by dsimp only;rw[aDR h,eq_of_beq g];simp[dK]⟩
 refine aJ (fun g=> ?_) (fun _=> ?_)
 ·
  refine⟨(h.pops _).dead, ?_, ?_⟩
  ·refine A4 (CT _) (A4 (pS _ _) ?_);omega
  ·dsimp only;rw[HF (h.pops _),qU,eq_of_beq g];simp[dK]
 refine aJ (fun g=> ?_) (fun _=> ?_)
 ·
  refine⟨h.calls _ _, ?_, ?_⟩
  ·have h1:=NB s (cF m (lI m x.a)).1 (cF m (lI m x.a)).2;have h2:=(qZ hT (lI m x.a)).2;dsimp only;omega
  ·dsimp only;rw[TX,eq_of_beq g];simp[dK]
 refine aJ (fun g=> ?_) (fun _=> ?_)
 ·
  refine⟨((h.need _).pop _).calls _ _, ?_, ?_⟩
  ·have h1:=NB (cO (dA s m.tb.has) 1).2 (cF m x.a).1 (cF m x.a).2;have h2:=(qZ hT x.a).2;have h3:=vD (dA s m.tb.has) 1;rw[HD]at h3;dsimp only;omega
  ·dsimp only;rw[TX,BK,aAF,eq_of_beq g];simp[dK]
 ·exact⟨h,by dsimp only;omega,X⟩
def Nxt (s:PS) (n:Nat) (q:PS):Prop:=q.Ok/\q.vs.length<=s.vs.length+n/\q.cs=s.cs
theorem PS.Ok.nxt {s:PS}(h:s.Ok):Nxt s 0 s:=⟨h,A3 _,rfl⟩
theorem Nxt.pop {s q:PS}{n:Nat}(h:Nxt s n q)(w:Int):Nxt s n (cO q w).2:=⟨h.1.pop w,A4 (vD q w) h.2.1,(BK q w).trans h.2.2⟩
theorem Nxt.pops {s q:PS}{n:Nat}(h:Nxt s n q)(ks:List Int):Nxt s n (dQ q ks):=⟨h.1.pops ks,A4 (pS q ks) h.2.1,(qU q ks).trans h.2.2⟩
theorem Nxt.need {s q:PS}{n:Nat}(h:Nxt s n q)(b:Bool):Nxt s n (dA q b):=⟨h.1.need b,h.2.1,h.2.2⟩
theorem Nxt.bad {s q:PS}{n:Nat}(h:Nxt s n q):Nxt s n ⟨q.vs,q.cs,true⟩:=⟨⟨⟨h.1.le,h.1.up⟩,h.1.ne⟩,h.2.1,h.2.2⟩
theorem Nxt.push {s q:PS}{n:Nat}(h:Nxt s n q)(ks:List Int)(k:Nat)(hk:n+ks.length<=k):Nxt s k (gB q ks):=⟨h.1.push ks,by rw[CV];have:=h.2.1;omega,h.2.2⟩
theorem Nxt.up {s q:PS}{n:Nat}(h:Nxt s n q)(k:Nat)(hk:n<=k):Nxt s k q:=⟨h.1,by have:=h.2.1;omega,h.2.2⟩
theorem Nxt.loc {s q:PS}{n:Nat}(h:Nxt s n q)(ls:List Int)(x:Int):Nxt s n (cT ls q x).2:=by unfold cT;split;exact h.bad;exact h
theorem Nxt.glob {s q:PS}{n:Nat}(h:Nxt s n q)(m:Md)(x:Int):Nxt s n (dZ m q x).2:=by unfold dZ;split;exact h.bad;exact h
theorem Nxt.acc {s q:PS}{n:Nat}(h:Nxt s n q)(m:Md)(x:Ins)(al:Int)(tk mk:List Int)(k:Nat)(hk:n+mk.length<=k):Nxt s k (gP m q x al tk mk):=((h.need _).pops _).push _ k hk
theorem aBQ{m:Md}{ls:List Int}{s:PS}{x:Ins}(h:s.Ok):Nxt s 1 (dW m ls s x):=by
 have h:=h.nxt;unfold dW;refine aJ (fun _=>(h.pop 0).up 1 U) (fun _=> ?_);refine aJ (fun _=>Nxt.push (((h.pop 1).pop 0).pop _) _ 1 X) (fun _=> ?_);refine aJ (fun _=>(h.loc ls x.a).push _ 1 X) (fun _=> ?_);refine aJ (fun _=>Nxt.up ((h.loc ls x.a).pop _) 1 U) (fun _=> ?_);refine aJ (fun _=>Nxt.push (((h.loc ls x.a).pop _).loc ls x.a) _ 1 X) (fun _=> ?_);refine aJ (fun _=>(h.glob m x.a).push _ 1 X) (fun _=> ?_);refine aJ (fun _=>Nxt.up (((h.glob m x.a).need _).pop _) 1 U) (fun _=> ?_);refine aJ (fun _=>h.acc m x _ _ _ 1 X) (fun _=> ?_);refine aJ (fun _=>h.acc m x _ _ _ 1 X) (fun _=> ?_);refine aJ (fun _=>h.acc m x _ _ _ 1 X) (fun _=> ?_);refine aJ (fun _=>h.acc m x _ _ _ 1 X) (fun _=> ?_);refine aJ (fun _=>h.acc m x _ _ _ 1 X) (fun _=> ?_);refine aJ (fun _=>h.acc m x _ _ _ 1 X) (fun _=> ?_);refine aJ (fun _=>h.acc m x _ _ _ 1 X) (fun _=> ?_);refine aJ (fun _=>h.acc m x _ _ _ 1 X) (fun _=> ?_);refine aJ (fun _=>h.push _ 1 X) (fun _=> ?_);refine aJ (fun _=>h.push _ 1 X) (fun _=> ?_);exact((h.need _).pops _).push _ 1 X
theorem yG{P:Program}(w:World)(t u ty e:TypeId)(i:TypeInfo)(ht:P.underlying t=some (.slice e))(hu:P.underlying u=some .string)(hi:P.info? e=some i)(hs1:i.size=1)
  (g sLen sCap:Nat) (cur:Array Value) (fz:Nat×Nat) (hg:w.heap[g]? =some (.cells cur e fz)) (hz:Fz e cur.size fz) (s:ByteArray)
  (hroom:sLen+s.size<=sCap) (hfit:sLen+s.size<=cur.size):
  (Builtin.append_ #[t,u] ty #[.slice (some ⟨g,0,none⟩) sLen sCap,.string s]).run P w=
   .ok (.slice (some ⟨g,0,none⟩) (sLen+s.size) sCap) (w.setRow g (cur.toList.take sLen++Lib.strCells s++cur.toList.drop (sLen+s.size)).toArray):=by
 have hf:=Lib.run_firstCells_string (P:=P) w 1 s;have hst:=iF (P:=P) g sLen e fz (Lib.strCells s) 0 cur w hg hz (by simpa[Lib.strCells_length]using hfit) (Lib.strCells_oneCell s);simp only[Nat.add_zero,Lib.strCells_length]at hst;simp[Builtin.append_,run_underlying ht,run_underlying hu,sizeOf,typeInfo,hi,hs1,Builtin.lenOf,hroom,hf,Addr.add_lit,hst]
theorem GP{P:Program}(w:World)(t u ty e:TypeId)(i:TypeInfo)(ht:P.underlying t=some (.slice e))(hu:P.underlying u=some .string)(hi:P.info? e=some i)(hz:i.zero=some (.int .u8 0))
  (hsize:i.size=1) (hby:i.bytes=1) (v:Value) (n:Nat) (xs:List Value) (hn:0<n) (hown:rowG w 0 e 1 v n xs) (s:ByteArray) (h63:n+s.size<=maxLen) (hbytes:n+s.size<=140737488355328):
  ∃v' w',(Builtin.append_ #[t,u] ty #[v,.string s]).run P w=.ok v' w'/\rowG w' 0 e 1 v' (n+s.size) (xs++Lib.strCells s)/\w.grownBy w' v.ownBlock/\(v'.ownBlock=v.ownBlock\/v'.ownBlock=some w.heap.size):=by
 rcases hown.2 with⟨rfl,rfl⟩|⟨g,cap,cur,fz,rfl,hbg,hg,hfz,hnc,hcm,hcs,htake⟩
 ·omega
 have hl:=Lib.strCells_length s;have hxl:xs.length=n:=C8 hown.1
 have hsmall:n+s.size<=9223372036854775807:=by simp only[maxLen]at h63;omega
 have hlen:(xs++Lib.strCells s).length=(n+s.size)*1:=by rw[Ao,hxl,hl,Nat.mul_one]
 rw[Nat.mul_one]at hcs htake;by_cases hroom:n+s.size<=cap
 ·have hr:=yG (P:=P) w t u ty e i ht hu hi hsize g n cap cur fz hg hfz s hroom U;have hsz2:(cur.toList.take n++Lib.strCells s++cur.toList.drop (n+s.size)).toArray.size=cur.size:=by
   simp only[List.size_toArray,Ao,Bi,Bv,Array.length_toList,hl];omega
  refine⟨_,_,hr,⟨hlen,.inr ⟨g,cap,_,fz,rfl,hbg,setRow_heap w g cur _ e _ hg,by rw[hsz2];exact hfz,hroom,hcm,by rw[hsz2];omega, ?_⟩⟩,⟨rfl,rfl,rfl,X,fun k _ hk=>setRow_other w g k _ (fun e=>hk (by simp[Value.ownBlock,e]))⟩,Or.inl rfl⟩;rw[htake,<-hlen];exact List.take_left
 ·have holds:∀j u,xs[j]? =some u->w.cell? ((⟨g,0,none⟩:Addr).add j)=some u:=by
   intro j u hu;rw[Addr.add_lit,B2,cell_of_row w g j cur e fz hg,<-Array.getElem?_toList];rw[<-htake,List.getElem?_take]at hu;split at hu
   ·exact hu
   ·cases hu
  have hr:=Lib.run_append_grow_string (P:=P) w t u ty e i (.int .u8 0) ht hu hi hz ⟨g,0,none⟩ n cap xs (by rw[hsize];simpa using hxl) holds s U U (by rw[hby];exact growslice_fits U U);have hge:=grownCap_ge w (n+s.size) cap e;have hcm:=grownCap_le_maxLen w (n+s.size) cap e h63;refine⟨_,_,hr,⟨hlen,.inr ⟨w.heap.size,_,_,(0,0),rfl,Am _,heap_alloc_new w.drew _,Fz.zero,hge,hcm, ?_, ?_⟩⟩,⟨rfl,rfl,rfl,X,fun k hk _=>heap_alloc_old w.drew _ hk⟩,Or.inr rfl⟩
  ·have hz1:(Value.int IntKind.u8 0).cells.size=1:=rfl;simp only[Array.size_append,List.size_toArray,size_zeroCells,hz1,hxl,hl];omega
  ·simp only[Array.toList_append,Aq];rw[<-Aq,<-hlen];exact List.take_left
section
variable {P : Program} {n : Nat} {s : ASt} {K : ASt -> Prop} {ty t u : TypeId} {x y : Operand} {d : Nat}
theorem JB{e:TypeId} [Ty P t (.slice e)] [Ty P u .string] [Tz P e 1 1 (.int .u8 0)] {r len:Nat}{es:List (List AV)}{b:List Nat}(hb:aev s x=some (.own r 0 len))(hg:gM s.Y r=some (.arr e 1 es))(hlen:len<=es.length)(hpos:0<len)(hy:aev s y=some (.str (cB b)))(hlt:∀c∈b,c<256)
  (hmax:len+b.length<=140737488355328) (hd:d<n)
  (hK:∀r',Fresh r' (eD [r] s.Y)->K ⟨(d,.own r' 0 (len+(b.map aG).length))::s.fr,(r',.arr e 1 (es.take len++b.map aG))::eD [r] s.Y⟩):Hop P n (.call { callee:=.builtin .append,args:=#[x,y],argTypes:=#[t,u] }) ty (some d) s [r] K:=by
 intro M F N a w o ho hty hdst hr next Q hnext
 have hbase:=hr.aev hb;have hmem:=bV hg;obtain⟨h0,hrowsE,h3⟩:=hr.st.ent _ hmem;obtain⟨i,hi,hz0,hs0,hb0⟩:=Tz.parts P e;have he:a.eval y=.string (cB b):=by
  have:=hr.aev hy;generalize a.eval y=v at this⊢;cases this;rfl
 have hsl:(cB b).size=(b.map aG).length:=by simp[cB,ByteArray.size]
 have hnews:Lib.strCells (cB b)=b.map (fun c:Nat=>Value.int .u8 (c:Int)):=by
  unfold Lib.strCells cB;simp only[List.map_map];refine List.map_congr_left fun c hc=> ?_
  have:=hlt c hc;simp[Nat.mod_eq_of_lt this]
 have hrows:RowsAt M F w 1 (b.map aG) (Lib.strCells (cB b)):=by
  rw[hnews];refine⟨X,fun i x j a u hi hj hu=> ?_⟩;simp only[Bg,Option.map_eq_some_iff]at hi hu;obtain⟨c,hc,rfl⟩:=hi
  match j,hj with
  |0,hj=>
   obtain rfl:=Option.some.inj hj;obtain⟨c',hc',rfl⟩:=hu;rw[Nat.mul_one,Nat.add_zero]at hc';obtain rfl:=Option.some.inj (hc.symm.trans hc');exact .int _ _
  |j+1,hj=>cases hj
 have hok:iY 1 (b.map aG):=by
  intro x hx;obtain⟨c,-,rfl⟩:=Bm.1 hx;exact⟨rfl,by simp[aG,AV.cell]⟩
 generalize hys:b.map aG=ys at hrows hok hsl hK⊢;have hyl:ys.length=b.length:=by rw[<-hys];simp
 obtain⟨news,hns⟩:∃news,news=Lib.strCells (cB b):=⟨_,rfl⟩
 rw[<-hns]at hrows;have hokT:iY 1 (es.take len):=fun x hx=>hrowsE x (Bf hx)
 have hlenT:(es.take len).length=len:=by rw[Bi];omega
 --what the row holds
 have hown:∃v xs,a.eval x=v/\rowG w 0 e 1 v len xs/\RowsAt M F w 1 (es.take len) xs/\(∀g,v.ownBlock=some g->bP M r=some g)\/(∃A,a.eval x=.slice A 0 0/\len=0/\v=.slice A 0 0/\xs=[]):=by
  generalize a.eval x=u at hbase⊢;cases hbase with
  |own0=>exact⟨_,[],.inr ⟨_,rfl,rfl,rfl,rfl⟩⟩
  |own hM hle hmm=>
   rcases h3 with⟨hv',_⟩|⟨g,cc,vs,hM',hcl,hsz,hle',hmax',hvr⟩
   ·rw[hM]at hv';cases hv'
   ·have hg':=hM'.symm.trans hM;simp only[Option.some.injEq,Blk'.row.injEq]at hg';obtain⟨q1,q2,q3⟩:=hg';subst q1;subst q2;subst q3;obtain⟨fz,hcl,hfz⟩:=hcl;have hfit:len*1<=vs.size:=by rw[hsz];exact Bq _ U
    refine⟨_,vs.toList.take (len*1),.inl ⟨rfl,⟨by rw[Bi];simp;omega,.inr ⟨g,cc,vs,fz,X,Am _,hcl,hfz,U,hmm,hsz,rfl⟩⟩,⟨by rw[hlenT,Bi];simp;omega,fun i' x' j b u hi' hj hu=> ?_⟩,fun g2 hg2=> ?_⟩⟩
    ·have hil:=(Ai.1 hi').1;rw[hlenT]at hil;have hjs:j<1:=by rw[<-(hokT x' (Ah hi')).1];exact(Ai.1 hj).1
     rw[A2 hil]at hi';rw[A2 (lG hil hjs)]at hu;exact hvr i' x' j b u hi' hj (C8 hu)
    ·simp only[Value.ownBlock,Option.some.injEq]at hg2;subst hg2;simp[bP,hM]
 obtain⟨v,xs,hown|⟨B,hx,rfl,rfl,rfl⟩⟩:=hown
 ·obtain⟨hx,hown,hrT,hblk⟩:=hown;obtain⟨v',w',hrun,ho',hg',hbl⟩:=GP (P:=P) w t u o.type e i (Ty.und (P:=P) (t:=t)) (Ty.und (P:=P) (t:=u)) hi hz0 hs0 hb0 v len xs hpos hown (cB b) (by rw[hsl];simp[maxLen];omega) (by rw[hsl];omega);rw[hsl,<-hns]at ho';have hex:(execOp a.eval o).run P w=.ok (.value v') w':=by
   simp only[execOp,ho,resolve,invoke,builtin,Sem.run_bind,Sem.run_pure,Result.andThen_ok,List.map_toArray,Bn,B3,hx,he,hrun]
  unfold Oper.wp;rw[hex,Oper.upon_value,hdst];have honly:Only (fun k=>bP M r=some k) w w':=⟨hg'.os,hg'.tape,hg'.output,hg'.size,fun k hk hne=>hg'.block k hk (fun e=>hne (hblk k e.symm))⟩
  have hSame:Same F w w':=fun g hgF=>honly.block g (hr.st.flt g hgF) (fun e=>hr.st.nof g ⟨_,hmem,e⟩ hgF)
  have hcat:RowsAt M F w 1 (es.take len++ys) (xs++news):=hrT.append hokT hrows;have hokC:iY 1 (es.take len++ys):=fun x hx=>(A8.1 hx).elim (hokT x) (hok x)
  rcases ho'.2 with⟨rfl,hz'⟩|⟨g2,cap,cur,iD,rfl,_,hg2,hfz2,hn2,hm2,hs2,ht2⟩
  ·have hl0:len=0:=by omega
   have hy0:ys=[]:=List.eq_nil_of_length_eq_zero U;subst hl0;subst hy0;have hE:ER (fX M N .virt) F w' N (.arr e 1 (es.take 0++ [])):=⟨h0,fun x hx=>by simp at hx,.inl ⟨bX _,X⟩⟩
   obtain⟨r1,e1,n1,o1⟩:=hr.move_ hmem .virt honly (fun g hg=>by simp[bP,bX]at hg) hE;exact hnext _ F (N+1) _ _ ⟨(d,.own N 0 (0+0))::s.fr,_⟩ (r1.put hd .own0) e1 o1 (hK N n1)
  ·have hE:ER (fX M N (.row g2 cap 1)) F w' N (.arr e 1 (es.take len++ys)):=by
    refine⟨h0,hokC,.inr ⟨g2,cap,cur,bX _,⟨iD,hg2,hfz2⟩,hs2,by rw[Ao,hlenT];exact hn2,hm2,fun i' x' j b u hi' hj hu=> ?_⟩⟩;refine VR.mono (fun r b' h=>pL hr.st.fresh _ h) (fun _ h=>h) hSame (hcat.2 i' x' j b u hi' hj ?_);have hil:=(Ai.1 hi').1;rw[Ao,hlenT]at hil;have hjs:j<1:=by rw[<-(hokC x' (Ah hi')).1];exact(Ai.1 hj).1
    rw[<-ht2,A2 (lG hil hjs)];simpa using hu
   obtain⟨r1,e1,n1,o1⟩:=hr.move_ hmem (.row g2 cap 1) honly (fun g hg=>by
    simp only[bP,bX,Option.some.injEq]at hg;subst hg;rcases hbl with h|h
    ·exact .inl (hblk g2 (h.symm.trans rfl))
    ·simp only[Value.ownBlock,Option.some.injEq]at h;exact .inr U) hE
   have hv:=VR.own (M:=fX M N (.row g2 cap 1)) (F:=F) (w:=w') (t:=N) (off:=0) (len:=len+ys.length) (bX _) U hm2;simp only[Nat.zero_mul,Nat.sub_zero]at hv;exact hnext _ F (N+1) _ _ ⟨(d,.own N 0 (len+ys.length))::s.fr,_⟩ (r1.put hd hv) e1 o1 (hK N n1)
 ·omega
end
section
variable {P : Program} {n : Nat} {ops : Array Oper} {rest : List Oper} {fr : Fr} {Y : dI} {K : ASt -> Prop} {ty t u : TypeId} {pos : String} {af : Array Edge} {x y : Operand} {d : Nat}
theorem apS{e:TypeId} [Ty P t (.slice e)] [Ty P u .string] [Tz P e 1 1 (.int .u8 0)] {r len:Nat}(vs b:List Nat)(hlt:∀c∈b,c<256)
  (hK:∀r',Fresh r' (eD [r] Y)->∃Y',SSet Y r (.arr e 1 (vs.map aG)) r' (.arr e 1 ((vs++b).map aG)) Y'/\RS P n ops rest ⟨(d,.own r' 0 (vs++b).length)::fr,Y'⟩ K)
  (hb:aev ⟨fr,Y⟩ x=some (.own r 0 len):=by rfl) (hg:gM Y r=some (.arr e 1 (vs.map aG)):=by exact bR) (hlen:len=vs.length:=by exact PM) (hpos:0<len:=by first|omega|(simp;omega)) (hy:aev ⟨fr,Y⟩ y=some (.str (cB b)):=by rfl)
  (hmax:len+b.length<=140737488355328:=by(simp;try omega)) (hd:Nat.ble (d+1) n=true:=by rfl):
  RS P n ops (⟨some d,.call { callee:=.builtin .append,args:=#[x,y],argTypes:=#[t,u] },ty,pos,af,none⟩::rest) ⟨fr,Y⟩ K:=by
 refine gA (JB hb hg Af hpos hy hlt hmax (cL hd) fun r' hf=> ?_);obtain⟨Y',hs,hK⟩:=hK r' hf;dsimp only;rw[hlen,show vs.length=(vs.map aG).length by simp,List.take_length,<-List.map_append];refine AT (fun p hp=>hs.sub p hp) ?_;rw[show(vs.map aG).length+(b.map aG).length=(vs++b).length by simp];exact hK
end
theorem gY{P:Program}{n:Nat}{ops:Array Oper}{listed:Array Bool}{rest:List (Nat×Bool)}{held:List (Nat×List Nat)}{s:ASt}{K:ASt->Prop}{z:Nat}{zb:Bool}(i j:Nat)(t1 t2:List (Nat×Bool)){dst dst':Option Nat}{op op':Op}{ty ty':TypeId}{pos pos':String}{af af':Array Edge}{f1 f2:List Nat}
  (hr:(Region.ready .any ops listed==[i,j]&&(t1.length==rest.length)&&(t2.length==rest.length)&&HX ops (listed.setIfInBounds i true) t1&&HX ops (listed.setIfInBounds j true) t2)=true)
  (hi:ops[i]? =some ⟨dst,op,ty,pos,af,none⟩) (hj:ops[j]? =some ⟨dst',op',ty',pos',af',none⟩)
  (h1:Hop P n op ty dst s f1 fun s'=>RD P n ops (listed.setIfInBounds i true) t1 held s' K) (h2:Hop P n op' ty' dst' s f2 fun s'=>RD P n ops (listed.setIfInBounds j true) t2 held s' K)
  (g1:f1=[]\/((∀r∈f1,r∈s.Y.map (·.1))/\HB ops i (s.Y.map (·.1)) f1 held)) (g2:f2=[]\/((∀r∈f2,r∈s.Y.map (·.1))/\HB ops j (s.Y.map (·.1)) f2 held)):RD P n ops listed ((z,zb)::rest) held s K:=by
 intro hsel _ M F N a w hr0;simp only[Ap,beq_iff_eq]at hr;obtain⟨⟨⟨⟨hrd,hl1⟩,hl2⟩,hc1⟩,hc2⟩:=hr;have main:∀ {k:Nat} {t:List (Nat×Bool)} {dst:Option Nat} {op:Op} {ty:TypeId} {pos:String} {af:Array Edge} {fp:List Nat},t.length=rest.length->HX ops (listed.setIfInBounds k true) t=true->ops[k]? =some ⟨dst,op,ty,pos,af,none⟩->
   Hop P n op ty dst s fp (fun s'=>RD P n ops (listed.setIfInBounds k true) t held s' K)->(fp=[]\/((∀r∈fp,r∈s.Y.map (·.1))/\HB ops k (s.Y.map (·.1)) fp held))->wpOp P ops (PostN n M F N w s.Y K) k (fun a' w'=>(∀g,Hd ops M F held k g->g<w.heap.size->w'.heap[g]? =w.heap[g]?)/\uU P .any ops (PostN n M F N w s.Y K) (Hd ops M F held) rest.length (listed.setIfInBounds k true) a' w') a w:=by
  intro k t dst op ty pos af fp hl hc hk h hfp;unfold wpOp;simp only[hk];rw[Dc (by simp[Region.wanted])];refine .inl (h M F N a w _ rfl rfl rfl hr0 _ _ fun M' F' N' a' w' s' hr' he ho hk'=>⟨fun g hg hlt=> ?_, ?_⟩)
  ·rcases hg with hg|⟨r,hrh,hg⟩
   ·exact he.only.block g hlt (fun hB=>hr0.st.nof g hB hg)
   ·rcases hfp with rfl|⟨hf1,hb⟩
    ·exact ho.block g hlt X
    ·obtain⟨h1,h2⟩:=hb.held r hrh;obtain⟨p,hp,rfl⟩:=Bm.1 h1;refine ho.block g hlt ?_;rintro⟨q,hq,hqg⟩;obtain⟨p2,hp2,rfl⟩:=Bm.1 (hf1 q hq);exact h2 (by rw[hr0.st.inj p hp p2 hp2 g hg hqg];exact hq)
  ·rw[<-hl];refine jV (PostN.ext he) ?_ _ _ _ _ (hk' hsel hc M' F' N' a' w' hr');rintro j' g (hg|⟨r,hrr,hg⟩)
   ·exact .inl (he.ff g hg)
   ·refine .inr ⟨r,hrr, ?_⟩;unfold bP at hg⊢;cases hm:M r with
    |none=>rw[hm]at hg;cases hg
    |some b=>rw[hm]at hg;rw[he.mm _ _ hm];exact hg
 refine⟨fun h0=>by rw[hrd]at h0;simp at h0,fun k hk=> ?_⟩;rw[hrd]at hk;rcases Av.1 hk with rfl|hk
 ·exact main hl1 hc1 hi h1 g1
 ·obtain rfl:=A1.1 hk;exact main hl2 hc2 hj h2 g2
theorem AJ{P:Program}{n:Nat}{fr:Fr}{Y:dI}{K:ASt->Prop}{ty t:TypeId}{d:Nat}{e:TypeId}{sz by_:Nat}{zv:Value}{len:Nat}{parts:Array (Nat×Operand)}{vs:List AV}{es:List (List AV)}(i1:Ty P t (.slice e))(i2:Tz P e sz by_ zv)(hv:AEvs ⟨fr,Y⟩ (parts.toList.map (·.2)) vs)(hp:parts.toList=tK 0 (parts.toList.map (·.2)))(hlen:(len==vs.length)=true)(h0:(decide (0<sz)&&decide (len*sz<=16777216))=true)
  (hc:(vs.all fun v=>v.cells.length==sz&&v.cells.all AV.cell)=true) (he:vs.map AV.cells=es) (hd:Bp (d+1) n=true) (hK:∀r,Fresh r Y->K ⟨(d,.own r 0 len)::fr,(r,.arr e sz es)::Y⟩):Hop P n (.buildSlice t len parts) ty (some d) ⟨fr,Y⟩ [] K:=by
 subst he;exact pZ hp hv hlen h0 hc (cL hd) hK
theorem TZ{s s':ASt}(ts:List Nat)(hf:∀i x',dR s'.fr i=some x'->∃x,dR s.fr i=some x/\Bor s.Y ts x x')(Dg:∀p∈s'.Y,p.1∉ts/\∃x,(p.1,x)∈s.Y/\∀(M:Mp) (F:Nat->Prop) (N:Nat) (w:World),SR M F N w s.Y->ER M F w p.1 x->ER M (FPlus M F s.Y ts) w p.1 p.2):SGo s s':=by
 intro M F N n a w hr;refine⟨M,FPlus M F s.Y ts,N,⟨hr.size,hr.defers,fun i x' hi=> ?_, ?_, ?_, ?_,fun b hb=>hb.flt hr.st,hr.st.fresh⟩,fun _ _ h=>h,fun _ h=>.inl h,A3 _,Only.refl _ _, ?_, ?_, ?_⟩
 ·obtain⟨x,hx,hb⟩:=hf i x' hi;exact hb.vr hr.st (hr.fr i x hx)
 ·intro p hp;obtain⟨_,x,hx,hb⟩:=Dg p hp;exact hb M F N w hr.st (hr.st.ent _ hx)
 ·intro p hp q hq g h1 h2;obtain⟨_,x,hx,_⟩:=Dg p hp;obtain⟨_,y,hy,_⟩:=Dg q hq;exact hr.st.inj (p.1,x) hx (q.1,y) hy g h1 h2
 ·rintro g ⟨p,hp,hg⟩ hF;obtain⟨hn,x,hx,_⟩:=Dg p hp;rcases hF with hF|⟨q,hq,hqt,hqg⟩
  ·exact hr.st.nof g ⟨_,hx,hg⟩ hF
  ·exact hn (by have:=hr.st.inj _ hx _ hq g hg hqg;simp only at this;rw[this];exact hqt)
 ·rintro g ⟨p,hp,hg⟩ _;obtain⟨_,x,hx,_⟩:=Dg p hp;exact⟨_,hx,hg⟩
 ·rintro b (hb|⟨q,hq,_,hqg⟩)
  ·exact .inl hb
  ·exact .inr (.inr ⟨q,hq,hqg⟩)
 ·intro p hp _;obtain⟨_,x,hx,_⟩:=Dg p hp;exact⟨_,hx,rfl⟩
theorem aAH{fr:Fr}{Y Y1 Y':dI}{r q:Nat}{et:TypeId}{sz:Nat}{es es':List (List AV)}{e:Ent}(hs:SSet Y r (.arr et sz es) r (.arr et sz es') Y1)(hd:SDel Y1 q e Y')(hl:es'.length=es.length)(hok:iY sz es')
  (hb:∀(i:Nat) (x x':List AV),es[i]? =some x->es'[i]? =some x'->BorL Y [q] x x'):SGo ⟨fr,Y⟩ ⟨fr,Y'⟩:=by
 refine TZ [q] (fun i x' hi=>⟨x',hi,.refl _⟩) (fun p hp=> ?_);obtain⟨h1,h2⟩:=hd.sub p hp;refine⟨C8 h2, ?_⟩;rcases Av.1 (hs.sub p h1)with rfl|h
 ·refine⟨_,bV hs.get,fun M F N w hr hx=> ?_⟩;obtain⟨g0,g1,g2⟩:=hx;refine⟨g0,hok, ?_⟩;rcases g2 with⟨k1,k2⟩|⟨g,c,vs,k1,k2,k3,k4,k5,k6⟩
  ·refine .inl ⟨k1, ?_⟩;subst k2;exact List.length_eq_zero_iff.1 hl
  ·refine .inr ⟨g,c,vs,k1,k2,k3,by rw[hl];exact k4,k5,fun i x' j a' u hi hj hu=> ?_⟩;have hil:=(Ai.1 hi).1;have hx:es[i]? =some (es[i]' U):=Ar U;obtain⟨hbl,hbe⟩:=(hb i _ x' hx hi).at_;have hjl:=(Ai.1 hj).1;have ha:(es[i]' U)[j]? =some ((es[i]' U)[j]' U):=Ar U;refine(hbe j a' hj).vr hr ?_;rw[Ax,ha,Bz];exact k6 i _ j _ u hx ha hu
 ·exact⟨p.2,(fV h).1,fun M F N w hr hx=>hx.mono (fun _ _ h=>h) (fun _ h=>.inl h) (fun _ _=>rfl) (fun _ _=>rfl)⟩
section
variable {P : Program} {n : Nat} {s : ASt} {K : ASt -> Prop} {ty t u : TypeId} {x : Operand} {d : Nat}
theorem JC(w:World)(g n k:Nat)(h:k≠g):(w.freeze ⟨g,n,none⟩ 1).heap[k]? =w.heap[k]? :=by
 simp[World.freeze,Array.getElem?_modify,Ne.symm h]
theorem aBR(w:World)(g n:Nat){vs:Array Value}{e:TypeId}{fz:Nat×Nat}(h:w.heap[g]? =some (.cells vs e fz)):(w.freeze ⟨g,n,none⟩ 1).heap[g]? =some (.cells vs e (if fz.1==fz.2 then(n,n+1)else(min fz.1 n,max fz.2 (n+1)))):=by
 obtain⟨lo,hi⟩:=fz;simp[World.freeze,Array.getElem?_modify,h]
theorem LO{e:TypeId} [Ty P t (.slice e)] [Ty P e (.int .u8)] {r len:Nat}{et:TypeId}{es:List (List AV)}(he:et≠3)(hx:aev s x=some (.own r 0 len))(hg:gM s.Y r=some (.arr et 1 es))(hpos:0<len)(hd:d<n)
  (hK:K ⟨(d,.own r 0 len)::s.fr,ED s.Y r (.arr et 1 es)⟩):Hop P n (.convert t t x) ty (some d) s [r] K:=by
 intro M F N a w o ho hty hdst hr next Q hnext
 have hbase:=hr.aev hx;have hmem:=bV hg;obtain⟨h0,hrows,h3⟩:=hr.st.ent _ hmem;generalize hu:a.eval x=v at hbase;cases hbase with
 |own0=>omega
 |own hM hle hmm=>
  rcases h3 with⟨hv',_⟩|⟨g,c,vs,hM',hcl,hsz,hlc,hmax,hvr⟩
  ·rw[hM]at hv';cases hv'
  ·have hg':=hM'.symm.trans hM;simp only[Option.some.injEq,Blk'.row.injEq]at hg';obtain⟨q1,q2,q3⟩:=hg';subst q1;subst q2;obtain⟨fz,hcl,hz⟩:=hcl;have hsh:w.shape? g=some (et,vs.size):=by simp[World.shape?,hcl]
   have hex:(execOp a.eval o).run P w=.ok (.value (.slice (some ⟨g,0,none⟩) len (c-0))) (w.freeze ⟨g,vs.size,none⟩ 1):=by
    simp[execOp,ho,hu,convert,run_underlying (Ty.und (P:=P) (t:=t)),run_underlying (Ty.und (P:=P) (t:=e)),markStringish,hsh]
   unfold Oper.wp;rw[hex,Oper.upon_value,hdst];have hbl:bP M r=some g:=by simp[bP,hM]
   have hF:¬F g:=hr.st.nof g ⟨_,hmem,hbl⟩;have honly:Only (fun k=>k=g) w (w.freeze ⟨g,vs.size,none⟩ 1):=⟨rfl,rfl,rfl,by simp[World.freeze],fun k _ hne=>JC w g vs.size k hne⟩
   have hSame:Same F w (w.freeze ⟨g,vs.size,none⟩ 1):=fun b hb=>JC w g vs.size b (fun e=>hF (e▸hb))
   have hE:ER M F (w.freeze ⟨g,vs.size,none⟩ 1) r (.arr et 1 es):=by
    refine⟨h0,hrows,.inr ⟨g,c,vs,hM',⟨_,aBR w g vs.size hcl, ?_⟩,hsz,hlc,hmax,fun i x j b u hi hj hu=>(hvr i x j b u hi hj hu).mono (fun _ _ h=>h) (fun _ h=>h) hSame⟩⟩;refine⟨Or.inr ?_,fun e3=>absurd e3 he⟩;split
    ·exact A3 _
    ·next hne=>
     rcases hz.1 with rfl|hz
     ·exact absurd rfl hne
     ·exact Nat.le_min.2 ⟨hz,A3 _⟩
   obtain⟨r1,e1,o1⟩:=hr.set_ hmem hbl honly hE;have hv:=VR.own (M:=M) (F:=F) (w:=w.freeze ⟨g,vs.size,none⟩ 1) (t:=r) (off:=0) (len:=len) hM hle hmm;simp only[Nat.zero_mul]at hv;exact hnext M F N _ _ ⟨(d,.own r 0 len)::s.fr,_⟩ (r1.put hd hv) e1 o1 hK
theorem LP{e:TypeId} [Ty P u .string] [Ty P t (.slice e)] [Ty P e (.int .u8)] {b:List Nat}(hlt:∀c∈b,c<256)(hb:b.length<=maxLen)(hx:aev s x=some (.str (cB b)))(hd:d<n)
  (hK:K ⟨(d,.ro 1 (b.map aG) .any)::s.fr,s.Y⟩):Hop P n (.convert u t x) ty (some d) s [] K:=by
 intro M F N a w o ho hty hdst hr next Q hnext
 have hu:a.eval x=.string (cB b):=by
  have:=hr.aev hx;generalize a.eval x=v at this⊢;cases this;rfl
 have hsz:(cB b).size=b.length:=by simp[cB,ByteArray.size]
 have hrun:=Lib.run_convert_string_bytes (P:=P) w u t e (cB b) (Ty.und (P:=P) (t:=u)) (Ty.und (P:=P) (t:=t)) (Ty.und (P:=P) (t:=e));have hex:(execOp a.eval o).run P w=.ok (.value (.slice (some ⟨w.heap.size,0,none⟩) b.length (grownCap w b.length 0 e))) (Lib.bytesWorld w e (cB b)):=by
  rw[hsz]at hrun;simp[execOp,ho,hu,hrun]
 unfold Oper.wp;rw[hex,Oper.upon_value,hdst];have hold:∀k,k<w.heap.size->(Lib.bytesWorld w e (cB b)).heap[k]? =w.heap[k]? :=fun k hk=>Lib.bytesWorld_at_old w e (cB b) k hk
 have hgs:(Lib.bytesWorld w e (cB b)).heap.size=w.heap.size+1:=Lib.bytesWorld_size w e (cB b);have hSame:Same F w (Lib.bytesWorld w e (cB b)):=fun g hg=>hold g (hr.st.flt g hg)
 have hsr:=hr.st.growF hold U (A3 _) (by omega:w.heap.size<(Lib.bytesWorld w e (cB b)).heap.size);have hcell:∀(i:Nat) (c:Nat),b[i]? =some c->(Lib.bytesWorld w e (cB b)).cell? ⟨w.heap.size,i,none⟩=some (.int .u8 (c:Int)):=by
  intro i c hc;have hil:=(Ai.1 hc).1;rw[Lib.bytesWorld_cell w e (cB b) i U];have hm:(cB b).data.toList=b.map UInt8.ofNat:=by simp[cB]
  have hc2:=hlt c (Ah hc);rw[hm,Ax,Bg,hc];simp[Nat.mod_eq_of_lt hc2]
 have hv:VR M (fun g=>F g\/g=w.heap.size) (Lib.bytesWorld w e (cB b)) (.ro 1 (b.map aG) .any) (.slice (some ⟨w.heap.size,0,none⟩) b.length (grownCap w b.length 0 e)):=by
  have:=VR.ro (M:=M) (F:=fun g=>F g\/g=w.heap.size) (w:=Lib.bytesWorld w e (cB b)) (es:=b.map aG) (k:=.any) (b:=w.heap.size) (o:=0) (sz:=1) (cap:=grownCap w b.length 0 e) (us:=fun i j=>.int .u8 ((b[i]!):Int)) (.inr rfl)
   (by intro y hy;obtain⟨c,-,rfl⟩:=Bm.1 hy;exact⟨rfl,by simp[aG,AV.cell]⟩)
   (fun i y j v hi hj=>by
    simp only[Bg,Option.map_eq_some_iff]at hi;obtain⟨c,hc,rfl⟩:=hi
    match j,hj with
    |0,hj=>
     have hil:=(Ai.1 hc)
     rw[B2,Nat.mul_one,Nat.add_zero,hcell i c hc,getElem!_pos b i hil.1,hil.2]
    |j+1,hj=>cases hj)
   (fun i y j v hi hj=>by
    simp only[Bg,Option.map_eq_some_iff]at hi;obtain⟨c,hc,rfl⟩:=hi
    match j,hj with
    |0,hj=>
     have hil:=(Ai.1 hc)
     obtain rfl:=Option.some.inj hj;rw[getElem!_pos b i hil.1,hil.2];exact .int _ _
    |j+1,hj=>cases hj)
   (by simpa using grownCap_ge w b.length 0 e) (grownCap_le_maxLen w b.length 0 e hb) (fun h=>by cases h) (fun h=>by cases h)
  rwa [Az]at this
 have honly:∀S,Only S w (Lib.bytesWorld w e (cB b)):=fun S=>⟨rfl,rfl,rfl,U,fun k hk _=>hold k hk⟩
 have hext:Ext M F N w s.Y M (fun g=>F g\/g=w.heap.size) N (Lib.bytesWorld w e (cB b)) s.Y:=by
  refine⟨fun _ _ h=>h,fun _ h=>.inl h,A3 _,honly _,fun _ h _=>h,fun g hg=> ?_,fun p hp _=>⟨p,hp,rfl⟩⟩;rcases hg with hg|rfl
  ·exact .inl hg
  ·exact .inr (.inl (A3 _))
 have hr2:Rel M (fun g=>F g\/g=w.heap.size) N n s a (Lib.bytesWorld w e (cB b)):=hr.step hext hsr rfl;exact hnext M _ N _ _ ⟨(d,.ro 1 (b.map aG) .any)::s.fr,s.Y⟩ (hr2.put hd hv) hext (honly _) hK
end
section
variable {P : Program} {n : Nat} {ops : Array Oper} {rest : List Oper} {fr : Fr} {Y Y' : dI} {K : ASt -> Prop} {ty t u : TypeId} {pos : String} {af : Array Edge} {x : Operand} {d : Nat}
theorem cvm{e:TypeId} [Ty P t (.slice e)] [Ty P e (.int .u8)] {r len:Nat}{et:TypeId}{es:List (List AV)}(hs:SSet Y r (.arr et 1 es) r (.arr et 1 es) Y')(hpos:0<len)(hK:RS P n ops rest ⟨(d,.own r 0 len)::fr,Y'⟩ K)
  (hx:aev ⟨fr,Y⟩ x=some (.own r 0 len):=by rfl) (hd:Nat.ble (d+1) n=true:=by rfl) (he:et≠3:=by decide):RS P n ops (⟨some d,.convert t t x,ty,pos,af,none⟩::rest) ⟨fr,Y⟩ K:=
 gA (LO he hx hs.get hpos (cL hd) (AT (s:=⟨_,_⟩) (fun p hp=>hs.sub p hp) hK))
theorem cvb{e:TypeId} [Ty P u .string] [Ty P t (.slice e)] [Ty P e (.int .u8)] {b:List Nat}(hlt:∀c∈b,c<256)(hK:RS P n ops rest ⟨(d,.ro 1 (b.map aG) .any)::fr,Y⟩ K)(hb:b.length<=maxLen:=by(simp[maxLen];omega))
  (hx:aev ⟨fr,Y⟩ x=some (.str (cB b)):=by rfl) (hd:Nat.ble (d+1) n=true:=by rfl):RS P n ops (⟨some d,.convert u t x,ty,pos,af,none⟩::rest) ⟨fr,Y⟩ K:=
 gA (LP hlt hb hx (cL hd) hK)
end
theorem PX(bs:List Nat)(l h:Nat):(cB bs).extract l h=cB ((bs.drop l).take (h-l)):=by
 have:((cB bs).extract l h).data=(cB ((bs.drop l).take (h-l))).data:=by
  rw[ByteArray.data_extract];simp[cB,List.extract_eq_take_drop]
 cases h1:(cB bs).extract l h
 rw[h1]at this;simp only at this;rw[this]
section
variable {P : Program} {ty t : TypeId} {s : ASt} {c : Bool} {x : Operand}
theorem AK [Ty P t .string] {bs:List Nat}{lo hi:Option Operand}{l h:Nat}(hx:Ev s c x (.str (cB bs)))(hl:OB s c 0 lo l)(hh:OB s c bs.length hi h)(h1:c=true->l<=h/\h<=bs.length):
  Lop P (.slice t x lo hi none) ty s c (.str (cB ((bs.drop l).take (h-l)))) []:=
 Lop.pure_ fun M F N n a w hr hc=>by
  obtain⟨h1,h2⟩:=h1 hc;have hlb:VB 0 (lo.map a.eval) l:=hl.vb hr hc;have hhb:VB bs.length (hi.map a.eval) h:=hh.vb hr hc;have hsz:(cB bs).size=bs.length:=by simp[cB,ByteArray.size]
  have hb:∀(k:IntKind) (b y:Nat) (code:BoundsCode) (w:World),b<=y->(Instr.sliceBound (.int k b) y code).run P w=.ok b w:=fun k b y code w hby=>by
   rw[run_sliceBound w k b y code U U];simp
  refine⟨_,.str _,fun w' o ho _=> ?_⟩;have key2:∀(lo' hi':Option Value),VB 0 lo' l->VB bs.length hi' h->(Instr.sliceBounds false bs.length bs.length lo' hi' none).run P w'=.ok (l,h,bs.length) w':=by
   intro lo' hi' k1 k2;cases k1<;>cases k2<;>simp[Instr.sliceBounds,hb,h1,h2]
  have key:=key2 _ _ hlb hhb;have hrun:(Instr.sliceAt t (.string (cB bs)) (lo.map a.eval) (hi.map a.eval) none).run P w'=.ok (.string (cB ((bs.drop l).take (h-l)))) w':=by
   simp[Instr.sliceAt,Instr.slice,run_underlying (Ty.und (P:=P) (t:=t)),hsz,key,PX]
  simp[execOp,ho,hx.str hr hc,hrun]
theorem AL [Ty P t .string] {bs:List Nat}{y:Operand}{ki:IntKind}{m:Int}{b:Nat}(hx:Ev s c x (.str (cB bs)))(hi:Ev s c y (.int ki m))(hm:c=true->0<=m)(hv:c=true->bs[m.toNat]? =some b)(hb:c=true->b<256):Lop P (.index t x y) ty s c (.int .u8 b) []:=
 Lop.pure_ fun M F N n a w hr hc=>by
  have hm:=hm hc;have hv:=hv hc;have hb:=hb hc;have hg:(cB bs)[m.toNat]? =some (UInt8.ofNat b):=by
   have hlt:=(Ai.1 hv).1;have e:(cB bs).size=bs.length:=by simp[cB,ByteArray.size]
   rw[getElem?_pos (cB bs) m.toNat (by rw[e];exact hlt)];have h2:=(Ai.1 hv).2;simp[ByteArray.getElem_eq_getElem_data,cB,h2]
  refine⟨_,.int _ _,fun w' o ho _=> ?_⟩;simp[execOp,ho,hx.str hr hc,hi.int hr hc,Instr.index,asIntOf,run_underlying (Ty.und (P:=P) (t:=t)),hm,hg];omega
end
end Go.Proofs.YtjpdadobblffmaaGreat
