import Derived.Test.YtjpdadobblffmaaGreatJA5
import Derived.ChangeKeysEq
import Derived.Laws.StructEq
import Derived.Test.YtjpdadobblffmaaGreatJA4
import Derived.Test.YtjpdadobblffmaaGreatJA3
set_option linter.unusedSimpArgs false
set_option linter.unusedVariables false
set_option maxRecDepth 100000
set_option maxHeartbeats 4000000
open And renaming intro->Bl
open BitVec renaming ofInt->A9
open Bool renaming and_eq_true->Ap,eq_iff_iff->B1,false_eq_true->Ag
open List renaming all_eq_true->Bw,append_assoc->Aq,append_nil->Be,cons_append->As,drop_zero->Bu,getD_eq_getElem?_getD->Ax,getElem?_eq_getElem->Ar,getElem?_eq_some_iff->Ai,getElem?_map->Bg,length_append->Ao,length_cons->Bj,length_map->Az,map_append->Bx,map_cons->Bn,mem_cons->Av,mem_cons_of_mem->An,mem_cons_self->Au,mem_map->Bm,mem_of_getElem?->Ah,mem_singleton->A1,nil_append->Ay,not_mem_nil->A5,replicate->Ak,take_add_one->Al,take_length->Aw,take_of_length_le->Aj
open Nat renaming le_refl->A3,le_trans->A4,lt_or_ge->Br,zero_le->Am
open Option renaming getD_some->Bz
open Go.Proofs.Tryz
namespace Go.Proofs.YtjpdadobblffmaaGreat
open Go.RowKit Go.ChangeShapes Go.WideShapes Go.ChangeAt Go.Deep
attribute [local irreducible] SW RS RD fE eA
theorem iS{α:Type}{l:List α}{p:α->Bool}{j:Nat}{x:α}(hx:l[j]? =some x)(h:p x=false):l.all p=false:=by
 rw[List.all_eq_false];exact⟨x,Ah hx,by rw[h];simp⟩
theorem lK{α:Type}{l:List α}{p:α->Bool}{j:Nat}{x:α}(ha:(l.take j).all p=true)(hx:l[j]? =some x)(h:p x=true):(l.take (j+1)).all p=true:=by
 rw[Al,hx,List.all_append,ha];simp[h]
theorem JN(n:Int):SCall prog 59 [.int .i64 n] [] (fun r Y'=>r=.bool (gU n)/\Y'=[]):=by
 refine bO 9 [0,2] func59 ?_;refine fK ?_;refine ML ?_;refine OV ?_;refine kA ?_;exact aD aE ⟨by rfl,rfl⟩ aA
theorem aEA(n:Int):SCall prog 154 [.int .i64 n] [] (fun r Y'=>r=.bool (gV n)/\Y'=[]):=by
 refine bO 9 [0,2] func154 ?_;refine fK ?_;refine ML ?_;refine IJ ?_;refine kA ?_;exact aD aE ⟨by unfold gV;rw[show decide (n<=2147483647)=decide (n<2147483648)from decide_eq_decide.2 U];cases h:decide (-2147483648<=n)<;>simp_all [fM],rfl⟩ aA
theorem aK6(k n:Int):SCall prog 60 [.agg [.int .i64 k,.int .i64 n]] [] (fun r Y'=>r=.bool (nT k n)/\Y'=[]):=by
 have hd:decide (n<=2147483647)=decide (n<2147483648):=decide_eq_decide.2 U;refine bO 21 [0,1,2] func60 ?_;refine dB ?_;refine fZ fun r1 h1=> ?_;intros;refine iO ?_;refine FK ?_;refine tB ?_;refine aBu ?_;refine aC7 ?_;refine aC8 ?_;refine aMC ?_;refine aF3 ?_;refine aBu ?_;refine aC7 ?_;refine aC8 ?_;refine aOM ?_;refine aF3 ?_;refine jG ?_;refine cN ?_;exact aD aE ⟨by unfold nT;rw[hd];cases h:(k==2)<;>cases h1:(k==1)<;>cases h2:decide (-2147483648<=n)<;>cases h3:decide (n<2147483648)<;>rfl,rfl⟩ aA
theorem NO(l:Li)(a c:Int):SCall prog 62 [.agg (eO l),.int .i64 a,.int .i64 c] [] (fun r Y'=>r=.bool (lE l a c)/\Y'=[]):=by
 obtain⟨has,mn,mx⟩:=l;refine bO 38 [0,1,2,3,6,9] func62 ?_;unfold eO;refine dB ?_;refine fZ fun r3 h3=> ?_;intros;refine iO ?_;refine mX ?_;refine aB rfl ?_ ?_<;>intro g1
 ·have hE:lE ⟨has,mn,mx⟩ a c=if(mn==0)=true then(mx==0)else false:=by obtain rfl:has=false:=(C8 g1);unfold lE;cases h:mn==0<;>simp_all
  refine eY ?_;refine FK ?_;refine tB ?_;refine kA ?_;exact aD aE ⟨by rw[hE];rfl,rfl⟩ aA
 have hE:lE ⟨has,mn,mx⟩ a c=if(if(if decide (0<=mn)=true then decide (mn<=a)else false)=true then decide (-1<=mx)else false)=true then decide (mx<=c)else false:=by obtain rfl:has=true:=(C8 g1);unfold lE;rw[Dc rfl];cases h:decide (0<=mn)<;>cases h2:decide (mn<=a)<;>cases h3:decide (-1<=mx)<;>rfl
 refine IM ?_;refine qI ?_;refine aC6 ?_;refine sF ?_;refine zQ ?_;refine SP ?_;refine sF ?_;refine qI ?_;refine aC6 ?_;refine kA ?_;exact aD aE ⟨by rw[hE];rfl,rfl⟩ aA
theorem JO(l:List Int)(hl:l.length<=1000000)(most:Int):SCall prog 57 [.ro 1 (l.map aK) .any,.int .i64 most] [] (fun r Y'=>r=.bool (cI l most CR)/\Y'=[]):=by
 refine bO 28 [0,1,4,5,9,23] func57 ?_;refine oB ?_;refine lp (β:=Nat) (fun j=>⟨[(0,.ro 1 (l.map aK) .any),(1,.int .i64 most),(5,.int .i64 j)],[]⟩) (fun j=>j<=l.length/\(l.take j).all CR=true) (fun j=>l.length-j) 0 aH ⟨Am _,rfl⟩ ?_;rintro j ⟨hj,ha⟩;refine vT ?_;refine aB rfl ?_ ?_<;>intro g2
 ·have hlt:j<l.length:=by simp at g2;omega
  obtain⟨x,hx⟩:=Aa l j hlt
  refine cJ ?_;refine mD ?_;refine B9 ?_;refine kH ?_;refine jZ ?_;refine GG ?_;refine GH ?_;refine SK ?_;refine qO ?_;refine aB rfl ?_ ?_<;>intro g4
  ·have hE:cI l most CR=false:=by unfold cI;rw[iS hx (by unfold CR;cases h1:(x==1)<;>cases h2:(x==2)<;>simp_all),Bool.and_false]
   refine cV ?_;exact aD aE ⟨by rw[hE];rfl,rfl⟩ aA
  refine iN ?_;refine⟨j+1,⟨hlt,lK ha hx (by unfold CR;cases h1:(x==1)<;>cases h2:(x==2)<;>simp_all)⟩,Ab U, ?_⟩;exact aH
 obtain rfl:j=l.length:=by simp at g2;omega
 have hE:cI l most CR=decide ((l.length:Int)<=most):=by unfold cI;rw[Aw]at ha;rw[ha,Bool.and_true]
 refine dG ?_;refine aJY ?_;refine cN ?_;exact aD aE ⟨by rw[hE];rfl,rfl⟩ aA
theorem JP(l:List Int)(hl:l.length<=1000000)(most:Int):SCall prog 61 [.ro 1 (l.map aK) .any,.int .i64 most] [] (fun r Y'=>r=.bool (cI l most gU)/\Y'=[]):=by
 refine bO 22 [0,1,4,5,9,17] func61 ?_;refine oB ?_;refine lp (β:=Nat) (fun j=>⟨[(0,.ro 1 (l.map aK) .any),(1,.int .i64 most),(5,.int .i64 j)],[]⟩) (fun j=>j<=l.length/\(l.take j).all gU=true) (fun j=>l.length-j) 0 aH ⟨Am _,rfl⟩ ?_;rintro j ⟨hj,ha⟩;refine vT ?_;refine aB rfl ?_ ?_<;>intro g2
 ·have hlt:j<l.length:=by simp at g2;omega
  obtain⟨x,hx⟩:=Aa l j hlt
  refine cJ ?_;refine mD ?_;refine kY call59 (JN x) rfl aO bH ?_;refine mX ?_;refine aB rfl ?_ ?_<;>intro g4
  ·have hE:cI l most gU=false:=by unfold cI;rw[iS hx (C8 g4),Bool.and_false]
   refine cV ?_;exact aD aE ⟨by rw[hE];rfl,rfl⟩ aA
  refine iN ?_;refine⟨j+1,⟨hlt,lK ha hx (C8 g4)⟩,Ab U, ?_⟩;exact aH
 obtain rfl:j=l.length:=by simp at g2;omega
 have hE:cI l most gU=decide ((l.length:Int)<=most):=by unfold cI;rw[Aw]at ha;rw[ha,Bool.and_true]
 refine dG ?_;refine aJY ?_;refine cN ?_;exact aD aE ⟨by rw[hE];rfl,rfl⟩ aA
theorem QM(s:List Nat)(hl:s.length<=1000000)(hs:∀c∈s,c<256):SCall prog 58 [.str (cB s)] [] (fun r Y'=>r=.bool (wG s)/\Y'=[]):=by
 have hch:∀x:Nat,(if decide ((x:Int)<32)=true then true else decide ((126:Int)<x))= !chN x:=fun x=>by unfold chN;rw[show decide ((x:Int)<32)= !decide (32<=x) by rw[<-decide_not];exact decide_eq_decide.2 U,show decide ((126:Int)<x)= !decide (x<=126) by rw[<-decide_not];exact decide_eq_decide.2 U];cases decide (32<=x)<;>rfl
 have hnm:wG s=if decide ((1:Int)<=s.length)=true then(decide ((s.length:Int)<=16)&&s.all chN)else false:=by
  rw[aD7];unfold cI;rcases s with _ |⟨x,s⟩
  ·rfl
  ·rw[Dc X,Dc Af]
 refine bO 28 [0,2,3,7,19] func58 ?_;refine oB ?_;refine lp (β:=Nat) (fun j=>⟨[(0,.str (cB s)),(3,.int .i64 j)],[]⟩) (fun j=>j<=s.length/\(s.take j).all chN=true) (fun j=>s.length-j) 0 aH ⟨Am _,rfl⟩ ?_;rintro j ⟨hj,ha⟩;refine cJ ?_;refine Cw ?_;rw[jO];refine sG ?_;refine aB rfl ?_ ?_<;>intro g2
 ·have hlt:j<s.length:=by simp at g2;omega
  obtain⟨x,hx⟩:=Aa s j hlt
  have hx256:x<256:=hs x (Ah hx);refine cJ ?_;refine aON ?_;refine xL ?_;refine jZ ?_;refine aOO ?_;refine OU ?_;refine uY ?_;rw[hch];refine aB rfl ?_ ?_<;>intro g4
  ·have hE:wG s=false:=by rw[hnm,iS hx (C8 g4),Bool.and_false];split<;>rfl
   refine cV ?_;exact aD aE ⟨by rw[hE];rfl,rfl⟩ aA
  refine iN ?_;refine⟨j+1,⟨hlt,lK ha hx (C8 g4)⟩,Ab U, ?_⟩;exact aH
 obtain rfl:j=s.length:=by simp at g2;omega
 rw[Aw]at ha;refine dG ?_;refine Cw ?_;rw[jO];refine ML ?_;refine aJS ?_;rw[jO];refine OV ?_;refine kA ?_;have hE:wG s=if decide ((1:Int)<=s.length)=true then decide ((s.length:Int)<=16)else false:=by rw[hnm,ha,Bool.and_true]
 exact aD aE ⟨by rw[hE];rfl,rfl⟩ aA
def elP (x:El):Bool:=gV x.off&&cI x.fs 50 gU
def daP (x:Da):Bool:=gV x.off&&decide (x.bs.length<=1000)
def QN (c:Co):Bool:=zS (cH c.bd)&&cI c.ls 32 CR&&c.bd.all cY
def mL (m:Md):Bool:=m.el.all elP&&m.co.all QN&&m.da.all daP
theorem aHv(c:Co):QN c=uA c:=by
 unfold QN uA;cases h:zS (cH c.bd)with
 |false=>rfl
 |true=>
  have:=PW h;simp only[cH,Az]at this;unfold cI;rw[decide_eq_true (show(c.bd.length:Int)<=300 by omega)];rfl
structure Md.Z (m:Md):Prop where
 ty:m.ty.length<=1000000/\∀x∈m.ty,x.pr.length<=1000000/\x.rs.length<=1000000
 im:m.im.length<=1000000
 fn:m.fn.length<=1000000
 gl:m.gl.length<=1000000
 ex:m.ex.length<=1000000
 el:m.el.length<=1000000/\∀x∈m.el,x.fs.length<=1000000
 co:m.co.length<=1000000/\∀x∈m.co,x.ls.length<=1000000
 da:m.da.length<=1000000/\∀x∈m.da,x.bs.length<=1000000
theorem aEB(m:Md)(h:m.WO)(hz:m.Z):SCall prog 63 [.agg (aM m)] [] (fun r Y'=>r=.bool (mL m)/\Y'=[]):=by
 obtain⟨⟨-,-,h3,-,-⟩,h5,-⟩:=h;obtain⟨-,-,-,-,-,⟨z1,z2⟩,⟨z3,z4⟩,⟨z5,z6⟩⟩:=hz;obtain⟨ty,im,fn,tb,me,gl,ex,el,co,da⟩:=m;dsimp only at h3 h5 z1 z2 z3 z4 z5 z6;refine bO 100 [0,1,2,3,4,5,7,8,9,14,34,39,60,65,74,79,99] func63 ?_;unfold aM;dsimp only;refine dB ?_;refine fZ fun r1 h1=> ?_;intros;refine iT ?_;refine cN ?_;refine lp (β:=Nat) (fun j=>⟨[(1,.ptr r1 0),(3,.int .i64 j)],[(r1,.box 33 (aM ⟨ty,im,fn,tb,me,gl,ex,el,co,da⟩))]⟩) (fun j=>j<=el.length/\(el.take j).all elP=true) (fun j=>el.length-j) 0 aH ⟨Am _,rfl⟩ ?_;rintro j ⟨hj,ha⟩;unfold aM;dsimp only;refine kJ ?_;refine aB rfl ?_ ?_<;>intro g2
 ·have hlt:j<el.length:=by simp at g2;omega
  obtain⟨⟨oo,fs⟩,hx⟩:=Aa el j hlt
  have hfl:=z2 _ (Ah hx);refine eY ?_;refine rN ?_;refine kY call154 (aEA oo) rfl aO bH ?_;refine Cd ?_;refine qI ?_;refine GG ?_;refine SO ?_;refine GH ?_;refine kL rfl rfl call61 (fun _=>(JP fs hfl 50)) rfl aO bH ?_;refine xS ?_;refine aB rfl ?_ ?_<;>intro g4
  ·have hE:mL ⟨ty,im,fn,tb,me,gl,ex,el,co,da⟩=false:=by unfold mL;rw[iS hx (by unfold elP;cases h1:gV oo<;>cases h2:cI fs 50 gU<;>simp_all),Bool.false_and,Bool.false_and]
   refine cV ?_;exact aD aE ⟨by rw[hE];rfl,rfl⟩ aA
  refine iN ?_;refine⟨j+1,⟨hlt,lK ha hx (by unfold elP;cases h1:gV oo<;>cases h2:cI fs 50 gU<;>simp_all)⟩,Ab U, ?_⟩;exact aH
 obtain rfl:j=el.length:=by simp at g2;omega
 rw[Aw]at ha;refine cV ?_;refine lp (β:=Nat) (fun j=>⟨[(1,.ptr r1 0),(4,.int .i64 j)],[(r1,.box 33 (aM ⟨ty,im,fn,tb,me,gl,ex,el,co,da⟩))]⟩) (fun j=>j<=co.length/\(co.take j).all QN=true) (fun j=>co.length-j) 0 aH ⟨Am _,rfl⟩ ?_;rintro j ⟨hj,hc⟩;unfold aM;dsimp only;refine kJ ?_;refine aB rfl ?_ ?_<;>intro g7
 ·have hlt:j<co.length:=by simp at g7;omega
  obtain⟨⟨ls,bd⟩,hx⟩:=Aa co j hlt
  have hll:=z4 _ (Ah hx);have hbl:=h3 _ (Ah hx);have hbo:=h5 _ (Ah hx);dsimp only at hll hbl hbo;refine eY ?_;refine sI ?_;apply al;rfl;exact rK;refine bD fun r5 h5=> ?_;repeat rcases h5 with⟨_,h5⟩
  refine mG ?_;refine eY ?_;refine tE call155 (aBM bd hbl) rfl bL kK ?_;rintro _ Y' ⟨q50,rfl,rfl⟩ h50
  replace h50:=bU h50;repeat rcases h50 with⟨_,h50⟩
  refine sJ ?_;refine pN ?_;refine Cd ?_;refine zQ ?_;refine kL rfl rfl call57 (fun _=>(JO ls hll 32)) rfl aO bH ?_;refine xS ?_;refine aB rfl ?_ ?_<;>intro g11
  ·have hE:mL ⟨ty,im,fn,tb,me,gl,ex,el,co,da⟩=false:=by unfold mL;rw[iS hx (by unfold QN;dsimp only;cases h1:zS (cH bd)<;>cases h2:cI ls 32 CR<;>simp_all),Bool.and_false,Bool.false_and]
   refine cV ?_;exact aD aE ⟨by rw[hE];rfl,rfl⟩ aA
  have hok:zS (cH bd)=true/\cI ls 32 CR=true:=by cases h1:zS (cH bd)<;>cases h2:cI ls 32 CR<;>simp_all
  refine cV ?_;refine lp (β:=Nat) (fun i=>⟨[(1,.ptr r1 0),(4,.int .i64 j),(5,.ptr r5 0),(8,.int .i64 i)],[(r5,.box 44 (cQ ⟨ls,bd⟩)),(r1,.box 33 (aM ⟨ty,im,fn,tb,me,gl,ex,el,co,da⟩))]⟩) (fun i=>i<=bd.length/\(bd.take i).all cY=true) (fun i=>bd.length-i) 0 aH ⟨Am _,rfl⟩ ?_;rintro i ⟨hi,hb⟩;unfold aM cQ;dsimp only;refine kJ ?_;refine aB rfl ?_ ?_<;>intro g14
  ·have hlt2:i<bd.length:=by simp at g14;omega
   obtain⟨x,hx2⟩:=Aa bd i hlt2
   refine eY ?_;refine sI ?_;refine kY call156 (PE .any x (hbo x (Ah hx2))) rfl aO bH ?_;refine mX ?_;refine aB rfl ?_ ?_<;>intro g16
   ·have hE:mL ⟨ty,im,fn,tb,me,gl,ex,el,co,da⟩=false:=by unfold mL;rw[iS hx (by unfold QN;dsimp only;rw[iS hx2 (C8 g16),Bool.and_false]),Bool.and_false,Bool.false_and]
    refine cV ?_;exact aD aE ⟨by rw[hE];rfl,rfl⟩ aA
   refine iN ?_;refine⟨i+1,⟨hlt2,lK hb hx2 (C8 g16)⟩,Ab U, ?_⟩;exact aH
  obtain rfl:i=bd.length:=by simp at g14;omega
  rw[Aw]at hb;refine iN ?_;refine⟨j+1,⟨hlt,lK hc hx (by unfold QN;dsimp only;rw[hok.1,hok.2,hb];rfl)⟩,Ab U, ?_⟩;exact aH
 obtain rfl:j=co.length:=by simp at g7;omega
 rw[Aw]at hc;refine cV ?_;refine lp (β:=Nat) (fun j=>⟨[(1,.ptr r1 0),(9,.int .i64 j)],[(r1,.box 33 (aM ⟨ty,im,fn,tb,me,gl,ex,el,co,da⟩))]⟩) (fun j=>j<=da.length/\(da.take j).all daP=true) (fun j=>da.length-j) 0 aH ⟨Am _,rfl⟩ ?_;rintro j ⟨hj,hd⟩;unfold aM;dsimp only;refine kJ ?_;refine aB rfl ?_ ?_<;>intro g19
 ·have hlt:j<da.length:=by simp at g19;omega
  obtain⟨⟨oo,bs⟩,hx⟩:=Aa da j hlt
  have hfl:=z6 _ (Ah hx);have hgt:decide ((1000:Int)<bs.length)= !decide (bs.length<=1000):=by rw[<-decide_not];exact decide_eq_decide.2 U
  refine eY ?_;refine rN ?_;refine kY call154 (aEA oo) rfl aO bH ?_;refine Cd ?_;refine qI ?_;refine GG ?_;refine SO ?_;refine GH ?_;refine CA ?_;refine OU ?_;refine uY ?_;rw[hgt];refine aB rfl ?_ ?_<;>intro g21
  ·have hE:mL ⟨ty,im,fn,tb,me,gl,ex,el,co,da⟩=false:=by unfold mL;rw[iS hx (by unfold daP;dsimp only;cases h1:gV oo<;>cases h2:decide (bs.length<=1000)<;>rw[h1,h2]at g21<;>first|rfl|cases g21),Bool.and_false]
   refine cV ?_;exact aD aE ⟨by rw[hE];rfl,rfl⟩ aA
  refine iN ?_;refine⟨j+1,⟨hlt,lK hd hx (by unfold daP;dsimp only;cases h1:gV oo<;>cases h2:decide (bs.length<=1000)<;>rw[h1,h2]at g21<;>first|rfl|cases g21)⟩,Ab U, ?_⟩;exact aH
 obtain rfl:j=da.length:=by simp at g19;omega
 rw[Aw]at hd;refine cV ?_;have hE:mL ⟨ty,im,fn,tb,me,gl,ex,el,co,da⟩=true:=by unfold mL;rw[ha,hc,hd];rfl
 exact aD aE ⟨by rw[hE];rfl,rfl⟩ aA
def tyP (t:FT):Bool:=cI t.pr 32 CR&&cI t.rs 1 CR
def imP (x:Im):Bool:=wG x.mod&&wG x.nm&&gU x.ty
def glP (g:Gl):Bool:=nT g.kd g.n
def exP (x:Ex):Bool:=wG x.nm&&gU x.fn
def JQ (m:Md):Bool:=decide (m.ty.length<=16/\m.im.length+m.fn.length<=16/\m.gl.length<=16/\m.ex.length<=16/\m.el.length<=16/\m.da.length<=16/\m.co.length=m.fn.length)
def aK7 (m:Md):Bool:=JQ m&&m.ty.all tyP&&m.im.all imP&&m.gl.all glP&&m.ex.all exP&&cI m.fn 16 gU&&lE m.tb 16 1000&&lE m.me 16 65536&&mL m
theorem aHw(m:Md):aK7 m=nC m:=by
 have hc:m.co.all QN=m.co.all uA:=by rw[show QN=uA from funext aHv]
 unfold aK7 nC mK JQ mL;rw[hc,B1];simp only[Ap,decide_eq_true_eq,beq_iff_eq,cI];constructor
 ·rintro⟨⟨⟨⟨⟨⟨⟨⟨⟨l1,l2,l3,l4,l5,l6,l7⟩,a1⟩,a2⟩,a3⟩,a4⟩,-,a5⟩,a6⟩,a7⟩,⟨a8,a9⟩,a10⟩;exact⟨⟨⟨⟨l7,U,a9⟩,⟨⟨⟨⟨⟨⟨U,a1⟩,U,a2⟩,U,a5⟩,U,a3⟩,U,a4⟩,U,a8⟩,U,a10⟩,a6⟩,a7⟩
 ·rintro⟨⟨⟨⟨l7,l8,a9⟩,⟨⟨⟨⟨⟨⟨l1,a1⟩,l2,a2⟩,l3,a5⟩,l4,a3⟩,l5,a4⟩,l6,a8⟩,l9,a10⟩,a6⟩,a7⟩;exact⟨⟨⟨⟨⟨⟨⟨⟨⟨U,U,U,U,U,U,l7⟩,a1⟩,a2⟩,a3⟩,a4⟩,U,a5⟩,a6⟩,a7⟩,⟨a8,a9⟩,a10⟩
theorem aEC{s:List Nat}(h:wG s=true):VA s:=⟨by have:=(lW h).1;omega,(lW h).2.1⟩
theorem aHx{n:Int}(h:gU n=true):SmI n:=⟨(QA h).1,by have:=(QA h).2;omega⟩
theorem JR{m:Md}(h:nC m=true)(hw:m.WO):m.G:=by
 obtain⟨-,hO1,hO2⟩:=hw;have hw2:=h;unfold nC at h;simp only[Ap]at h;obtain⟨⟨⟨⟨-,hco⟩,hls⟩,htb⟩,hme⟩:=h;unfold mK at hls;simp only[Ap]at hls;obtain⟨⟨⟨⟨⟨⟨hty,him⟩,hfn⟩,hgl⟩,hex⟩,hel⟩,hda⟩:=hls;obtain⟨a1,a2⟩:=bW hty;obtain⟨b1,b2⟩:=bW him;obtain⟨c1,c2⟩:=bW hfn;obtain⟨d1,d2⟩:=bW hgl;obtain⟨e1,e2⟩:=bW hex;obtain⟨f1,f2⟩:=bW hel;obtain⟨g1,g2⟩:=bW hda;obtain⟨i1,i2⟩:=bW hco;simp only[Ap]at a2 b2 e2 f2 g2;refine⟨⟨U,fun x hx=> ?_⟩,⟨U,fun x hx=> ?_⟩,⟨U,fun x hx=>aHx (c2 x hx)⟩,fun hh=> ?_,fun hh=> ?_,⟨U,fun x hx=>⟨d2 x hx,hO2 x hx⟩⟩,⟨U,fun x hx=> ?_⟩,⟨U,fun x hx=> ?_⟩,⟨U,fun x hx=> ?_⟩,⟨U,fun x hx=> ?_⟩⟩
 ·have h1:=(bW (a2 x hx).1).1;have h2:=(bW (a2 x hx).2).1;omega
 ·exact⟨aEC (b2 x hx).1.1,aEC (b2 x hx).1.2,aHx (b2 x hx).2⟩
 ·exact(QC htb V V).1 m.tb (by unfold iA;rw[hh];simp)
 ·exact(QC hme V V).1 m.me (by unfold iA;rw[hh];simp)
 ·exact⟨aEC (e2 x hx).1,aHx (e2 x hx).2⟩
 ·exact⟨(f2 x hx).1,by have:=(bW (f2 x hx).2).1;omega,fun n hn=>aHx ((bW (f2 x hx).2).2 n hn)⟩
 ·have h1:=i2 x hx;unfold uA at h1;simp only[Ap]at h1;exact⟨by have:=(bW h1.1.2).1;omega,by have:=(bW h1.2).1;omega,fun i hi=>⟨hO1 x hx i hi,(bW h1.2).2 i hi⟩⟩
 ·exact⟨(g2 x hx).1,by simpa using(g2 x hx).2⟩
theorem or7(a b c d e f g:Bool):(if(if(if(if(if(if a=true then true else b)=true then true else c)=true then true else d)=true then true else e)=true then true else f)=true then true else g)=(a||b||c||d||e||f||g):=by
 cases a<;>cases b<;>cases c<;>cases d<;>cases e<;>cases f<;>cases g<;>rfl
theorem pT{a b:Bool}(h:(if(!a)=true then true else !b)=true):(a&&b)=false:=by cases a<;>cases b<;>simp_all
theorem pU{a b:Bool}(h:(if(!a)=true then true else !b)=false):(a&&b)=true:=by cases a<;>cases b<;>simp_all
theorem aHy(m:Md)(h:m.WO)(hz:m.Z):SCall prog 19 [.agg (aM m)] [] (fun r Y'=>r=.bool (jP m)/\Y'=[]):=by
 have hM:=vF m;have hpt:=aEB m h hz;have hby:=fun ha=>aB6 m (JR ha h)
 have hrA:=aHw m;unfold aK7 at hrA;obtain⟨⟨h1,h2,h3,h4,-⟩,h5,h6⟩:=h;obtain⟨⟨z1,z2⟩,z3,z4,z5,z6,⟨z7,z8⟩,⟨z9,z10⟩,⟨z11,z12⟩⟩:=hz;obtain⟨ty,im,fn,tb,me,gl,ex,el,co,da⟩:=m;dsimp only at h1 h2 h3 h4 h5 h6 z1 z2 z3 z4 z5 z6 z7 z8 z9 z10 z11 z12 hrA;have bad:nC ⟨ty,im,fn,tb,me,gl,ex,el,co,da⟩=false->jP ⟨ty,im,fn,tb,me,gl,ex,el,co,da⟩=false:=fun h=>by rw[hM,h];rfl
 refine bO 179 [0,1,2,3,4,5,6,53,58,78,83,113,118,128,133,153,174] func19 ?_;unfold aM;dsimp only;refine dB ?_;apply bx;rfl;rfl;exact rK;rfl;refine bD fun r1 h1=> ?_;repeat rcases h1 with⟨_,h1⟩
 refine iT ?_;refine qA ?_;refine Cx ?_;refine vY ?_;refine nZ ?_;refine aOP ?_;refine OU ?_;refine jG ?_;refine vY ?_;refine OU ?_;refine jG ?_;refine vY ?_;refine OU ?_;refine jG ?_;refine vY ?_;refine OU ?_;refine jG ?_;refine vY ?_;refine OU ?_;refine jG ?_;refine vY ?_;refine nZ ?_;refine GI ?_;refine uY ?_;refine aB rfl ?_ ?_<;>intro g1
 ·have hl0:JQ ⟨ty,im,fn,tb,me,gl,ex,el,co,da⟩=false:=by cases hh:JQ ⟨ty,im,fn,tb,me,gl,ex,el,co,da⟩with|false=>rfl|true=>(unfold JQ at hh;simp only[decide_eq_true_eq]at hh;obtain⟨l1,l2,l3,l4,l5,l6,l7⟩:=hh;rw[decide_eq_false U,decide_eq_false U,decide_eq_false U,decide_eq_false U,decide_eq_false U,decide_eq_false U]at g1;simp[l7]at g1)
  have hE:=bad (by rw[<-hrA,hl0];rfl);refine cV ?_;exact aD aE ⟨by rw[hE];rfl,rfl⟩ aA
 rw[or7]at g1;simp only[Bool.or_eq_false_iff,decide_eq_false_iff_not,bne_eq_false_iff_eq]at g1;have hl1:JQ ⟨ty,im,fn,tb,me,gl,ex,el,co,da⟩=true:=by unfold JQ;rw[decide_eq_true];obtain⟨⟨⟨⟨⟨⟨m1,m2⟩,m3⟩,m4⟩,m5⟩,m6⟩,m7⟩:=g1;dsimp only;omega
 refine cV ?_;refine lp (β:=Nat) (fun j=>⟨[(1,.ptr r1 0),(3,.int .i64 j)],[(r1,.box 33 (aM ⟨ty,im,fn,tb,me,gl,ex,el,co,da⟩))]⟩) (fun j=>j<=ty.length/\(ty.take j).all tyP=true) (fun j=>ty.length-j) 0 aH ⟨Am _,rfl⟩ ?_;rintro j ⟨hj,a1⟩;unfold aM;dsimp only;refine kJ ?_;refine aB rfl ?_ ?_<;>intro g4
 ·have hlt:j<ty.length:=by simp at g4;omega
  obtain⟨⟨pr,rs⟩,hx⟩:=Aa ty j hlt
  obtain⟨hp1,hp2⟩:=z2 _ (Ah hx);dsimp only at hp1 hp2;refine eY ?_;refine rN ?_;refine kY call57 (JO pr hp1 32) rfl aO bH ?_;refine Cd ?_;refine qI ?_;refine GG ?_;refine SO ?_;refine GH ?_;refine kL rfl rfl call57 (fun _=>(JO rs hp2 1)) rfl aO bH ?_;refine xS ?_;refine aB rfl ?_ ?_<;>intro g6
  ·have hE:=bad (by rw[<-hrA,iS hx (pT g6)];simp);refine cV ?_;exact aD aE ⟨by rw[hE];rfl,rfl⟩ aA
  refine iN ?_;refine⟨j+1,⟨hlt,lK a1 hx (pU g6)⟩,Ab U, ?_⟩;exact aH
 obtain rfl:j=ty.length:=by simp at g4;omega
 rw[Aw]at a1;refine cV ?_;refine lp (β:=Nat) (fun j=>⟨[(1,.ptr r1 0),(4,.int .i64 j)],[(r1,.box 33 (aM ⟨ty,im,fn,tb,me,gl,ex,el,co,da⟩))]⟩) (fun j=>j<=im.length/\(im.take j).all imP=true) (fun j=>im.length-j) 0 aH ⟨Am _,rfl⟩ ?_;rintro j ⟨hj,a2⟩;unfold aM;dsimp only;refine kJ ?_;refine aB rfl ?_ ?_<;>intro g9
 ·have hlt:j<im.length:=by simp at g9;omega
  obtain⟨⟨md,nm,tt⟩,hx⟩:=Aa im j hlt
  obtain⟨⟨hp1,hp2⟩,hp3,hp4⟩:=h1 _ (Ah hx);dsimp only at hp1 hp2 hp3 hp4;refine eY ?_;refine rN ?_;refine kY call58 (QM md U hp2) rfl aO bH ?_;refine Cd ?_;refine qI ?_;refine GG ?_;refine SO ?_;refine GH ?_;refine kL rfl rfl call58 (fun _=>(QM nm U hp4)) rfl aO bH ?_;refine AW ?_;refine jG ?_;refine qI ?_;refine GG ?_;refine SO ?_;refine GH ?_;refine kL rfl rfl call59 (fun _=>(JN tt)) rfl aO bH ?_;refine xS ?_;refine aB rfl ?_ ?_<;>intro g11
  ·have hE:=bad (by rw[<-hrA,iS hx (show imP ⟨md,nm,tt⟩=false by unfold imP;dsimp only;cases h7:wG md<;>cases h8:wG nm<;>cases h9:gU tt<;>simp_all)];simp);refine cV ?_;exact aD aE ⟨by rw[hE];rfl,rfl⟩ aA
  refine iN ?_;refine⟨j+1,⟨hlt,lK a2 hx (show imP ⟨md,nm,tt⟩=true by unfold imP;dsimp only;cases h7:wG md<;>cases h8:wG nm<;>cases h9:gU tt<;>simp_all)⟩,Ab U, ?_⟩;exact aH
 obtain rfl:j=im.length:=by simp at g9;omega
 rw[Aw]at a2;refine cV ?_;refine lp (β:=Nat) (fun j=>⟨[(1,.ptr r1 0),(5,.int .i64 j)],[(r1,.box 33 (aM ⟨ty,im,fn,tb,me,gl,ex,el,co,da⟩))]⟩) (fun j=>j<=gl.length/\(gl.take j).all glP=true) (fun j=>gl.length-j) 0 aH ⟨Am _,rfl⟩ ?_;rintro j ⟨hj,a3⟩;unfold aM;dsimp only;refine kJ ?_;refine aB rfl ?_ ?_<;>intro g14
 ·have hlt:j<gl.length:=by simp at g14;omega
  obtain⟨⟨mu,kk,nn⟩,hx⟩:=Aa gl j hlt
  refine eY ?_;refine MG ?_;refine aJN ?_;refine kY call60 (aK6 kk nn) rfl aO bH ?_;refine mX ?_;refine aB rfl ?_ ?_<;>intro g16
  ·have hE:=bad (by rw[<-hrA,iS hx (show glP ⟨mu,kk,nn⟩=false by unfold glP;simpa using g16)];simp);refine cV ?_;exact aD aE ⟨by rw[hE];rfl,rfl⟩ aA
  refine iN ?_;refine⟨j+1,⟨hlt,lK a3 hx (show glP ⟨mu,kk,nn⟩=true by unfold glP;simpa using g16)⟩,Ab U, ?_⟩;exact aH
 obtain rfl:j=gl.length:=by simp at g14;omega
 rw[Aw]at a3;refine cV ?_;refine lp (β:=Nat) (fun j=>⟨[(1,.ptr r1 0),(6,.int .i64 j)],[(r1,.box 33 (aM ⟨ty,im,fn,tb,me,gl,ex,el,co,da⟩))]⟩) (fun j=>j<=ex.length/\(ex.take j).all exP=true) (fun j=>ex.length-j) 0 aH ⟨Am _,rfl⟩ ?_;rintro j ⟨hj,a4⟩;unfold aM;dsimp only;refine kJ ?_;refine aB rfl ?_ ?_<;>intro g19
 ·have hlt:j<ex.length:=by simp at g19;omega
  obtain⟨⟨nm,ff⟩,hx⟩:=Aa ex j hlt
  obtain⟨hp3,hp4⟩:=h2 _ (Ah hx);dsimp only at hp3 hp4;refine eY ?_;refine rN ?_;refine kY call58 (QM nm U hp4) rfl aO bH ?_;refine Cd ?_;refine qI ?_;refine GG ?_;refine SO ?_;refine GH ?_;refine kL rfl rfl call59 (fun _=>(JN ff)) rfl aO bH ?_;refine xS ?_;refine aB rfl ?_ ?_<;>intro g21
  ·have hE:=bad (by rw[<-hrA,iS hx (pT g21)];simp);refine cV ?_;exact aD aE ⟨by rw[hE];rfl,rfl⟩ aA
  refine iN ?_;refine⟨j+1,⟨hlt,lK a4 hx (pU g21)⟩,Ab U, ?_⟩;exact aH
 obtain rfl:j=ex.length:=by simp at g19;omega
 rw[Aw]at a4;refine eY ?_;refine kY call61 (JP fn z4 16) rfl aO bH ?_;refine Cd ?_;refine GJ ?_;refine CB ?_;refine kL rfl rfl call62 (fun _=>(NO tb 16 1000)) rfl aO bH ?_;refine AW ?_;refine jG ?_;refine GJ ?_;refine CB ?_;refine kL rfl rfl call62 (fun _=>(NO me 16 65536)) rfl aO bH ?_;refine AW ?_;refine jG ?_;refine CF ?_;refine kL rfl rfl call63 (fun _=>hpt) rfl aO bH ?_;refine xS ?_;refine aB rfl ?_ ?_<;>intro g23
 ·have hE:=bad (by rw[<-hrA];cases h7:cI fn 16 gU<;>cases h8:lE tb 16 1000<;>cases h9:lE me 16 65536<;>cases h10:mL ⟨ty,im,fn,tb,me,gl,ex,el,co,da⟩<;>simp_all);refine cV ?_;exact aD aE ⟨by rw[hE];rfl,rfl⟩ aA
 have hq:cI fn 16 gU=true/\lE tb 16 1000=true/\lE me 16 65536=true/\mL ⟨ty,im,fn,tb,me,gl,ex,el,co,da⟩=true:=by cases h7:cI fn 16 gU<;>cases h8:lE tb 16 1000<;>cases h9:lE me 16 65536<;>cases h10:mL ⟨ty,im,fn,tb,me,gl,ex,el,co,da⟩<;>simp_all
 obtain⟨q1,q2,q3,q4⟩:=hq;have hA:nC ⟨ty,im,fn,tb,me,gl,ex,el,co,da⟩=true:=by rw[<-hrA,hl1,a1,a2,a3,a4,q1,q2,q3,q4];rfl
 refine mE ?_;refine tE call64 (hby hA) rfl bL kK ?_;rintro _ Y' ⟨q176,rfl,rfl⟩ h176
 replace h176:=bU h176;repeat rcases h176 with⟨_,h176⟩
 apply aR;exact aU;refine vP ?_;refine lo (nU (E rfl) (E rfl)) rfl ?_;refine cN ?_;have hE:jP ⟨ty,im,fn,tb,me,gl,ex,el,co,da⟩=decide (((eZ ⟨ty,im,fn,tb,me,gl,ex,el,co,da⟩).length:Int)<=8000):=by rw[hM,hA,Bool.true_and];exact decide_eq_decide.2 U
 exact aD aE ⟨by rw[hE];rfl,rfl⟩ aA
end Go.Proofs.YtjpdadobblffmaaGreat
namespace Go.Proofs.YtjpdadobblffmaaGreat
open Go.RowKit Go.ChangeShapes Go.WideShapes Go.ChangeAt Go.Deep
theorem aED{M:Mp}{F:Nat->Prop}{w:World}{a b:AV}{x y u:Value}(ha:∀u,VR M F w a u->u=x)(hb:∀u,VR M F w b u->u=y)(h:VR M F w (.agg [a,b]) u):u=.agg #[x,y]:=by
 cases h with
 |@agg _ vs hl h=>
  obtain⟨l⟩:=vs
  match l,hl with
  |[p,q],_=>rw[ha p (h 0 _ p rfl rfl),hb q (h 1 _ q rfl rfl)]
theorem EV{M:Mp}{F:Nat->Prop}{w:World}{a b c:AV}{x y z u:Value}(ha:∀u,VR M F w a u->u=x)(hb:∀u,VR M F w b u->u=y)(hc:∀u,VR M F w c u->u=z)(h:VR M F w (.agg [a,b,c]) u):u=.agg #[x,y,z]:=by
 cases h with
 |@agg _ vs hl h=>
  obtain⟨l⟩:=vs
  match l,hl with
  |[p,q,r],_=>rw[ha p (h 0 _ p rfl rfl),hb q (h 1 _ q rfl rfl),hc r (h 2 _ r rfl rfl)]
theorem qF{M:Mp}{F:Nat->Prop}{w:World}{k:IntKind}{n:Int}:∀u,VR M F w (.int k n) u->u=.int k n:=fun u h=>by cases h;rfl
theorem HN{M:Mp}{F:Nat->Prop}{w:World}{b:Bool}:∀u,VR M F w (.bool b) u->u=.bool b:=fun u h=>by cases h;rfl
theorem EW{M:Mp}{F:Nat->Prop}{w:World}{b:ByteArray}:∀u,VR M F w (.str b) u->u=.string b:=fun u h=>by cases h;rfl
theorem aNC(w:World)(a d:Bool)(b c e f:Int):(Op.equal 26 (.agg #[.bool a,.int .i64 b,.int .i64 c]) (.agg #[.bool d,.int .i64 e,.int .i64 f])).run prog w=.ok (a==d&&b==e&&c==f) w:=by
 have hs:prog.stoodInHeld 26=false:=by kernel_rfl
 have hf:prog.underlying 26=some (.struct (prog.fieldsOf 26)):=by unfold Program.fieldsOf;rw[Tryz.underlying26]
 have p1:prog.plainKey 4=true:=by kernel_rfl
 have p2:prog.plainKey 3=true:=by kernel_rfl
 have h:(Op.equalIn (9999+1) 26 (.agg #[.bool a,.int .i64 b,.int .i64 c]) (.agg #[.bool d,.int .i64 e,.int .i64 f])).run prog w=.ok (a==d&&b==e&&c==f) w:=by
  rw[run_equalIn_struct w 9999 _ _ _ hf hs];unfold Program.fieldsOf;rw[Tryz.underlying26];simp only[Op.eqFields];cases h1:(a==d)<;>cases h2:(b==e)<;>cases h3:(c==f)<;>simp[run_part_plain w p1 (xs:=#[.bool a,.int .i64 b,.int .i64 c]) (off:=0) rfl,run_part_plain w p1 (xs:=#[.bool d,.int .i64 e,.int .i64 f]) (off:=0) rfl,run_part_plain w p2 (xs:=#[.bool a,.int .i64 b,.int .i64 c]) (off:=1) rfl,run_part_plain w p2 (xs:=#[.bool d,.int .i64 e,.int .i64 f]) (off:=1) rfl,run_part_plain w p2 (xs:=#[.bool a,.int .i64 b,.int .i64 c]) (off:=2) rfl,run_part_plain w p2 (xs:=#[.bool d,.int .i64 e,.int .i64 f]) (off:=2) rfl,run_equalIn_int w _ _ _ _ _ _ Tryz.underlying3,run_equalIn_bool' w _ _ _ _ Tryz.underlying4,h1,h2,h3]
 exact h
theorem aND(w:World)(a b d e:ByteArray)(c f:Int):(Op.equal 64 (.agg #[.string a,.string b,.int .i64 c]) (.agg #[.string d,.string e,.int .i64 f])).run prog w=.ok (a.toList==d.toList&&b.toList==e.toList&&c==f) w:=by
 have hs:prog.stoodInHeld 64=false:=by kernel_rfl
 have hf:prog.underlying 64=some (.struct (prog.fieldsOf 64)):=by unfold Program.fieldsOf;rw[Tryz.underlying64]
 have p1:prog.plainKey 9=true:=by kernel_rfl
 have p2:prog.plainKey 3=true:=by kernel_rfl
 have h:(Op.equalIn (9999+1) 64 (.agg #[.string a,.string b,.int .i64 c]) (.agg #[.string d,.string e,.int .i64 f])).run prog w=.ok (a.toList==d.toList&&b.toList==e.toList&&c==f) w:=by
  rw[run_equalIn_struct w 9999 _ _ _ hf hs];unfold Program.fieldsOf;rw[Tryz.underlying64];simp only[Op.eqFields];cases h1:(a.toList==d.toList)<;>cases h2:(b.toList==e.toList)<;>cases h3:(c==f)<;>simp[run_part_plain w p1 (xs:=#[.string a,.string b,.int .i64 c]) (off:=0) rfl,run_part_plain w p1 (xs:=#[.string d,.string e,.int .i64 f]) (off:=0) rfl,run_part_plain w p1 (xs:=#[.string a,.string b,.int .i64 c]) (off:=1) rfl,run_part_plain w p1 (xs:=#[.string d,.string e,.int .i64 f]) (off:=1) rfl,run_part_plain w p2 (xs:=#[.string a,.string b,.int .i64 c]) (off:=2) rfl,run_part_plain w p2 (xs:=#[.string d,.string e,.int .i64 f]) (off:=2) rfl,run_equalIn_int w _ _ _ _ _ _ Tryz.underlying3,run_equalIn_string w _ _ _ _ Tryz.underlying9,h1,h2,h3]
 exact h
theorem aNE(w:World)(a d:ByteArray)(c f:Int):(Op.equal 66 (.agg #[.string a,.int .i64 c]) (.agg #[.string d,.int .i64 f])).run prog w=.ok (a.toList==d.toList&&c==f) w:=by
 have hs:prog.stoodInHeld 66=false:=by kernel_rfl
 have hf:prog.underlying 66=some (.struct (prog.fieldsOf 66)):=by unfold Program.fieldsOf;rw[Tryz.underlying66]
 have p1:prog.plainKey 9=true:=by kernel_rfl
 have p2:prog.plainKey 3=true:=by kernel_rfl
 have h:(Op.equalIn (9999+1) 66 (.agg #[.string a,.int .i64 c]) (.agg #[.string d,.int .i64 f])).run prog w=.ok (a.toList==d.toList&&c==f) w:=by
  rw[run_equalIn_struct w 9999 _ _ _ hf hs];unfold Program.fieldsOf;rw[Tryz.underlying66];simp only[Op.eqFields];cases h1:(a.toList==d.toList)<;>cases h3:(c==f)<;>simp[run_part_plain w p1 (xs:=#[.string a,.int .i64 c]) (off:=0) rfl,run_part_plain w p1 (xs:=#[.string d,.int .i64 f]) (off:=0) rfl,run_part_plain w p2 (xs:=#[.string a,.int .i64 c]) (off:=1) rfl,run_part_plain w p2 (xs:=#[.string d,.int .i64 f]) (off:=1) rfl,run_equalIn_int w _ _ _ _ _ _ Tryz.underlying3,run_equalIn_string w _ _ _ _ Tryz.underlying9,h1,h3]
 exact h
theorem aHz(n:Nat)(w:World)(a b c d:Int):(Op.equalIn (n+2) 71 (.agg #[.int .i64 a,.int .i64 b]) (.agg #[.int .i64 c,.int .i64 d])).run prog w=.ok (a==c&&b==d) w:=by
 have hs:prog.stoodInHeld 71=false:=by kernel_rfl
 have hf:prog.underlying 71=some (.struct (prog.fieldsOf 71)):=by unfold Program.fieldsOf;rw[Tryz.underlying71]
 have p1:prog.plainKey 3=true:=by kernel_rfl
 have p2:prog.plainKey 2=true:=by kernel_rfl
 rw[run_equalIn_struct w (n+1) _ _ _ hf hs];unfold Program.fieldsOf;rw[Tryz.underlying71];simp only[Op.eqFields];cases h1:(a==c)<;>cases h2:(b==d)<;>simp[run_part_plain w p1 (xs:=#[.int .i64 a,.int .i64 b]) (off:=0) rfl,run_part_plain w p1 (xs:=#[.int .i64 c,.int .i64 d]) (off:=0) rfl,run_part_plain w p2 (xs:=#[.int .i64 a,.int .i64 b]) (off:=1) rfl,run_part_plain w p2 (xs:=#[.int .i64 c,.int .i64 d]) (off:=1) rfl,run_equalIn_int w _ _ _ _ _ _ Tryz.underlying3,run_equalIn_int w _ _ _ _ _ _ Tryz.underlying2,h1,h2]
theorem aNF(w:World)(a d:Bool)(b c e f:Int):(Op.equal 73 (.agg #[.bool a,.int .i64 b,.int .i64 c]) (.agg #[.bool d,.int .i64 e,.int .i64 f])).run prog w=.ok (a==d&&(b==e&&c==f)) w:=by
 have hs:prog.stoodInHeld 73=false:=by kernel_rfl
 have hf:prog.underlying 73=some (.struct (prog.fieldsOf 73)):=by unfold Program.fieldsOf;rw[Tryz.underlying73]
 have p1:prog.plainKey 4=true:=by kernel_rfl
 have q1:∀a b c,(part 71 #[.bool a,.int .i64 b,.int .i64 c] 1).run prog w=.ok (.agg #[.int .i64 b,.int .i64 c]) w:=fun a b c=>by
  obtain⟨i,hi,hz,hs,_⟩:=Tz.parts prog 71;simp[part,isAgg,run_underlying Tryz.underlying71,sizeOf,typeInfo,hi,hs]
 have h:(Op.equalIn (9999+1) 73 (.agg #[.bool a,.int .i64 b,.int .i64 c]) (.agg #[.bool d,.int .i64 e,.int .i64 f])).run prog w=.ok (a==d&&(b==e&&c==f)) w:=by
  rw[run_equalIn_struct w 9999 _ _ _ hf hs];unfold Program.fieldsOf;rw[Tryz.underlying73];simp only[Op.eqFields];cases h1:(a==d)<;>cases h2:(b==e&&c==f)<;>simp[run_part_plain w p1 (xs:=#[.bool a,.int .i64 b,.int .i64 c]) (off:=0) rfl,run_part_plain w p1 (xs:=#[.bool d,.int .i64 e,.int .i64 f]) (off:=0) rfl,q1,run_equalIn_bool' w _ _ _ _ Tryz.underlying4,aHz 9997,h1,h2]
 exact h
instance : DecidableEq FT := fun a b => decidable_of_iff (a.pr = b.pr /\ a.rs = b.rs) ⟨fun h => by cases a; cases b; simp_all, fun h => by subst h; exact ⟨rfl, rfl⟩⟩
instance : DecidableEq Im := fun a b => decidable_of_iff (a.mod = b.mod /\ a.nm = b.nm /\ a.ty = b.ty) ⟨fun h => by cases a; cases b; simp_all, fun h => by subst h; exact ⟨rfl, rfl, rfl⟩⟩
instance : DecidableEq Gl := fun a b => decidable_of_iff (a.mu = b.mu /\ a.kd = b.kd /\ a.n = b.n) ⟨fun h => by cases a; cases b; simp_all, fun h => by subst h; exact ⟨rfl, rfl, rfl⟩⟩
instance : DecidableEq Ex := fun a b => decidable_of_iff (a.nm = b.nm /\ a.fn = b.fn) ⟨fun h => by cases a; cases b; simp_all, fun h => by subst h; exact ⟨rfl, rfl⟩⟩
instance : DecidableEq El := fun a b => decidable_of_iff (a.off = b.off /\ a.fs = b.fs) ⟨fun h => by cases a; cases b; simp_all, fun h => by subst h; exact ⟨rfl, rfl⟩⟩
instance : DecidableEq Co := fun a b => decidable_of_iff (a.ls = b.ls /\ a.bd = b.bd) ⟨fun h => by cases a; cases b; simp_all, fun h => by subst h; exact ⟨rfl, rfl⟩⟩
instance : DecidableEq Da := fun a b => decidable_of_iff (a.off = b.off /\ a.bs = b.bs) ⟨fun h => by cases a; cases b; simp_all, fun h => by subst h; exact ⟨rfl, rfl⟩⟩
instance : DecidableEq Li := fun a b => decidable_of_iff (a.has = b.has /\ a.mn = b.mn /\ a.mx = b.mx) ⟨fun h => by cases a; cases b; simp_all, fun h => by subst h; exact ⟨rfl, rfl, rfl⟩⟩
section
variable {s : ASt} {c : Bool} {x y : Operand} {ty t t' : TypeId}
theorem VC{xs ys:Array Value}{cx cy:List AV}{b:Bool}(hg:prog.eqGuardType prog.depth t=false)(hx:∀(M:Mp) (F:Nat->Prop) (w:World) (u:Value),VR M F w (.agg cx) u->u=.agg xs)(hy:∀(M:Mp) (F:Nat->Prop) (w:World) (u:Value),VR M F w (.agg cy) u->u=.agg ys)
  (he:∀w:World,(Op.equal t (.agg xs) (.agg ys)).run prog w=.ok b w) (h:Ev s c x (.agg cx)) (h':Ev s c y (.agg cy)):Lop prog (.binOp .eql t x y t') ty s c (.bool b) []:=
 Lop.pure_ fun M F N n ac w hr hc=>⟨_,.bool _,fun w' o ho _=>by
  have e1:=hx _ _ _ _ (h.vr hr hc);have e2:=hy _ _ _ _ (h'.vr hr hc);refine oQ ho ?_ ?_
  ·rw[e1,e2];exact run_eqGuard_agg w' .eql _ x y _ _ hg
  ·rw[e1,e2];simp only[binOp,Sem.run_bind,he,Result.andThen_ok,Sem.run_pure]⟩
theorem yQ{xs ys:Array Value}{cx cy:List AV}{b:Bool}(hg:prog.eqGuardType prog.depth t=false)(hx:∀(M:Mp) (F:Nat->Prop) (w:World) (u:Value),VR M F w (.agg cx) u->u=.agg xs)(hy:∀(M:Mp) (F:Nat->Prop) (w:World) (u:Value),VR M F w (.agg cy) u->u=.agg ys)
  (he:∀w:World,(Op.equal t (.agg xs) (.agg ys)).run prog w=.ok b w) (h:Ev s c x (.agg cx)) (h':Ev s c y (.agg cy)):Lop prog (.binOp .neq t x y t') ty s c (.bool (!b)) []:=
 Lop.pure_ fun M F N n ac w hr hc=>⟨_,.bool _,fun w' o ho _=>by
  have e1:=hx _ _ _ _ (h.vr hr hc);have e2:=hy _ _ _ _ (h'.vr hr hc);refine oQ ho ?_ ?_
  ·rw[e1,e2];exact run_eqGuard_agg w' .neq _ x y _ _ hg
  ·rw[e1,e2];simp only[binOp,Sem.run_bind,he,Result.andThen_ok,Sem.run_pure]⟩
theorem JS{a b:Li}(h:Ev s c x (.agg (eO a)))(h':Ev s c y (.agg (eO b))):Lop prog (.binOp .eql 26 x y t') ty s c (.bool (decide (a=b))) []:=by
 have he:decide (a=b)=(a.has==b.has&&a.mn==b.mn&&a.mx==b.mx):=by rw[B1];cases a;cases b;simp[and_assoc]
 rw[he];exact VC (by kernel_rfl) (fun _ _ _ _=>EV HN qF qF) (fun _ _ _ _=>EV HN qF qF) (fun w=>aNC w _ _ _ _ _ _) h h'
theorem YS{a b:Im}(ha:mF a.mod/\mF a.nm)(hb:mF b.mod/\mF b.nm)(h:Ev s c x (.agg (eE a)))(h':Ev s c y (.agg (eE b))):Lop prog (.binOp .neq 64 x y t') ty s c (.bool (!decide (a=b))) []:=by
 have he:decide (a=b)=((cB a.mod).toList==(cB b.mod).toList&&(cB a.nm).toList==(cB b.nm).toList&&a.ty==b.ty):=by rw[jL ha.1.2 hb.1.2,jL ha.2.2 hb.2.2,B1];cases a;cases b;simp[and_assoc]
 rw[he];exact yQ (by kernel_rfl) (fun _ _ _ _=>EV EW EW qF) (fun _ _ _ _=>EV EW EW qF) (fun w=>aND w _ _ _ _ _ _) h h'
theorem YT{a b:Ex}(ha:mF a.nm)(hb:mF b.nm)(h:Ev s c x (.agg (dD a)))(h':Ev s c y (.agg (dD b))):Lop prog (.binOp .neq 66 x y t') ty s c (.bool (!decide (a=b))) []:=by
 have he:decide (a=b)=((cB a.nm).toList==(cB b.nm).toList&&a.fn==b.fn):=by rw[jL ha.2 hb.2,B1];cases a;cases b;simp
 rw[he];exact yQ (by kernel_rfl) (fun _ _ _ _=>aED EW qF) (fun _ _ _ _=>aED EW qF) (fun w=>aNE w _ _ _ _) h h'
theorem YU{a b:Gl}(h:Ev s c x (.agg (dX a)))(h':Ev s c y (.agg (dX b))):Lop prog (.binOp .neq 73 x y t') ty s c (.bool (!decide (a=b))) []:=by
 have he:decide (a=b)=(a.mu==b.mu&&(a.kd==b.kd&&a.n==b.n)):=by rw[B1];cases a;cases b;simp
 rw[he];exact yQ (by kernel_rfl) (fun _ _ _ _=>EV HN qF qF) (fun _ _ _ _=>EV HN qF qF) (fun w=>aNF w _ _ _ _ _ _) h h'
end
theorem aK8(xs ys:List Im)(hox:∀x∈xs,(fun x:Im=>mF x.mod/\mF x.nm) x)(hoy:∀y∈ys,(fun x:Im=>mF x.mod/\mF x.nm) y):SCall prog 126 [.ro 3 (xs.map eE) .any,.ro 3 (ys.map eE) .any] [] (fun r Y=>r=.bool (decide (xs=ys))/\Y=[]):=by
 refine bO 26 [0,1,4,5,10,12,13,14,24] func126 ?_;refine iG (i:=0) rfl fun hm=> ?_
 rw[Az]at hm;unfold maxLen at hm;refine vX ?_;refine aB rfl ?_ ?_<;>intro g1
 ·have hE:decide (xs=ys)=false:=decide_eq_false (by rintro rfl;simp at g1);refine cV ?_;exact aD aE ⟨by rw[hE];rfl,rfl⟩ aA
 have hl:xs.length=ys.length:=by simp at g1;omega
 refine dG ?_;refine qD ?_;refine lp (β:=Nat) (fun k=>⟨[(0,.ro 3 (xs.map eE) .any),(1,.ro 3 (ys.map eE) .any),(12,.int .i64 xs.length),(13,.int .i64 k)],[]⟩) (fun k=>k<=xs.length/\xs.take k=ys.take k) (fun k=>xs.length-k) 0 aH ⟨Am _,rfl⟩ ?_;rintro k ⟨hk,ht⟩;refine gN ?_;refine aB rfl ?_ ?_<;>intro g4
 ·have hlt:k<xs.length:=by simp at g4;omega
  obtain⟨x,hx⟩:=Aa xs k hlt
  obtain⟨y,hy⟩:=Aa ys k U
  have hox1:=hox x (Ah hx);have hoy1:=hoy y (Ah hy);refine fC ?_;refine Cj ?_;refine wW ?_;refine wT ?_;refine wW ?_;refine wT ?_;refine eS rfl (YS hox1 hoy1 (E rfl) (E rfl)) rfl ?_;refine oI ?_;refine aB rfl ?_ ?_<;>intro g6
  ·have hne:x≠y:=by intro e;subst e;simp at g6
   have hE:decide (xs=ys)=false:=decide_eq_false (by rintro rfl;rw[hx]at hy;exact hne (Option.some.inj hy));refine cV ?_;exact aD aE ⟨by rw[hE];rfl,rfl⟩ aA
  refine jH ?_;have hxy:x=y:=by first|simpa using g6|(simp at g6;omega)
  refine⟨k+1,⟨hlt,by rw[Al,Al,ht,hx,hy,hxy]⟩,Ab U, ?_⟩;exact aH
 have hE:decide (xs=ys)=true:=decide_eq_true (by simp at g4;rwa [Aj U,Aj U]at ht);refine cV ?_;exact aD aE ⟨by rw[hE];rfl,rfl⟩ aA
theorem aK9(xs ys:List Ex)(hox:∀x∈xs,(fun x:Ex=>mF x.nm) x)(hoy:∀y∈ys,(fun x:Ex=>mF x.nm) y):SCall prog 128 [.ro 2 (xs.map dD) .any,.ro 2 (ys.map dD) .any] [] (fun r Y=>r=.bool (decide (xs=ys))/\Y=[]):=by
 refine bO 26 [0,1,4,5,10,12,13,14,24] func128 ?_;refine iG (i:=0) rfl fun hm=> ?_
 rw[Az]at hm;unfold maxLen at hm;refine vX ?_;refine aB rfl ?_ ?_<;>intro g1
 ·have hE:decide (xs=ys)=false:=decide_eq_false (by rintro rfl;simp at g1);refine cV ?_;exact aD aE ⟨by rw[hE];rfl,rfl⟩ aA
 have hl:xs.length=ys.length:=by simp at g1;omega
 refine dG ?_;refine qD ?_;refine lp (β:=Nat) (fun k=>⟨[(0,.ro 2 (xs.map dD) .any),(1,.ro 2 (ys.map dD) .any),(12,.int .i64 xs.length),(13,.int .i64 k)],[]⟩) (fun k=>k<=xs.length/\xs.take k=ys.take k) (fun k=>xs.length-k) 0 aH ⟨Am _,rfl⟩ ?_;rintro k ⟨hk,ht⟩;refine gN ?_;refine aB rfl ?_ ?_<;>intro g4
 ·have hlt:k<xs.length:=by simp at g4;omega
  obtain⟨x,hx⟩:=Aa xs k hlt
  obtain⟨y,hy⟩:=Aa ys k U
  have hox1:=hox x (Ah hx);have hoy1:=hoy y (Ah hy);refine fC ?_;refine Cj ?_;refine wW ?_;refine wT ?_;refine wW ?_;refine wT ?_;refine eS rfl (YT hox1 hoy1 (E rfl) (E rfl)) rfl ?_;refine oI ?_;refine aB rfl ?_ ?_<;>intro g6
  ·have hne:x≠y:=by intro e;subst e;simp at g6
   have hE:decide (xs=ys)=false:=decide_eq_false (by rintro rfl;rw[hx]at hy;exact hne (Option.some.inj hy));refine cV ?_;exact aD aE ⟨by rw[hE];rfl,rfl⟩ aA
  refine jH ?_;have hxy:x=y:=by first|simpa using g6|(simp at g6;omega)
  refine⟨k+1,⟨hlt,by rw[Al,Al,ht,hx,hy,hxy]⟩,Ab U, ?_⟩;exact aH
 have hE:decide (xs=ys)=true:=decide_eq_true (by simp at g4;rwa [Aj U,Aj U]at ht);refine cV ?_;exact aD aE ⟨by rw[hE];rfl,rfl⟩ aA
theorem aLa(xs ys:List Gl)(hox:∀x∈xs,(fun _:Gl=>True) x)(hoy:∀y∈ys,(fun _:Gl=>True) y):SCall prog 127 [.ro 3 (xs.map dX) .any,.ro 3 (ys.map dX) .any] [] (fun r Y=>r=.bool (decide (xs=ys))/\Y=[]):=by
 refine bO 26 [0,1,4,5,10,12,13,14,24] func127 ?_;refine iG (i:=0) rfl fun hm=> ?_
 rw[Az]at hm;unfold maxLen at hm;refine vX ?_;refine aB rfl ?_ ?_<;>intro g1
 ·have hE:decide (xs=ys)=false:=decide_eq_false (by rintro rfl;simp at g1);refine cV ?_;exact aD aE ⟨by rw[hE];rfl,rfl⟩ aA
 have hl:xs.length=ys.length:=by simp at g1;omega
 refine dG ?_;refine qD ?_;refine lp (β:=Nat) (fun k=>⟨[(0,.ro 3 (xs.map dX) .any),(1,.ro 3 (ys.map dX) .any),(12,.int .i64 xs.length),(13,.int .i64 k)],[]⟩) (fun k=>k<=xs.length/\xs.take k=ys.take k) (fun k=>xs.length-k) 0 aH ⟨Am _,rfl⟩ ?_;rintro k ⟨hk,ht⟩;refine gN ?_;refine aB rfl ?_ ?_<;>intro g4
 ·have hlt:k<xs.length:=by simp at g4;omega
  obtain⟨x,hx⟩:=Aa xs k hlt
  obtain⟨y,hy⟩:=Aa ys k U
  have hox1:=hox x (Ah hx);have hoy1:=hoy y (Ah hy);refine fC ?_;refine Cj ?_;refine wW ?_;refine wT ?_;refine wW ?_;refine wT ?_;refine eS rfl (YU (E rfl) (E rfl)) rfl ?_;refine oI ?_;refine aB rfl ?_ ?_<;>intro g6
  ·have hne:x≠y:=by intro e;subst e;simp at g6
   have hE:decide (xs=ys)=false:=decide_eq_false (by rintro rfl;rw[hx]at hy;exact hne (Option.some.inj hy));refine cV ?_;exact aD aE ⟨by rw[hE];rfl,rfl⟩ aA
  refine jH ?_;have hxy:x=y:=by first|simpa using g6|(simp at g6;omega)
  refine⟨k+1,⟨hlt,by rw[Al,Al,ht,hx,hy,hxy]⟩,Ab U, ?_⟩;exact aH
 have hE:decide (xs=ys)=true:=decide_eq_true (by simp at g4;rwa [Aj U,Aj U]at ht);refine cV ?_;exact aD aE ⟨by rw[hE];rfl,rfl⟩ aA
theorem aLb(xs ys:List Nat)(hox:∀x∈xs,(fun _:Nat=>True) x)(hoy:∀y∈ys,(fun _:Nat=>True) y):SCall prog 125 [.ro 1 (xs.map aG) .any,.ro 1 (ys.map aG) .any] [] (fun r Y=>r=.bool (decide (xs=ys))/\Y=[]):=by
 refine bO 26 [0,1,4,5,10,12,13,14,24] func125 ?_;refine iG (i:=0) rfl fun hm=> ?_
 rw[Az]at hm;unfold maxLen at hm;refine vX ?_;refine aB rfl ?_ ?_<;>intro g1
 ·have hE:decide (xs=ys)=false:=decide_eq_false (by rintro rfl;simp at g1);refine cV ?_;exact aD aE ⟨by rw[hE];rfl,rfl⟩ aA
 have hl:xs.length=ys.length:=by simp at g1;omega
 refine dG ?_;refine qD ?_;refine lp (β:=Nat) (fun k=>⟨[(0,.ro 1 (xs.map aG) .any),(1,.ro 1 (ys.map aG) .any),(12,.int .i64 xs.length),(13,.int .i64 k)],[]⟩) (fun k=>k<=xs.length/\xs.take k=ys.take k) (fun k=>xs.length-k) 0 aH ⟨Am _,rfl⟩ ?_;rintro k ⟨hk,ht⟩;refine gN ?_;refine aB rfl ?_ ?_<;>intro g4
 ·have hlt:k<xs.length:=by simp at g4;omega
  obtain⟨x,hx⟩:=Aa xs k hlt
  obtain⟨y,hy⟩:=Aa ys k U
  have hox1:=hox x (Ah hx);have hoy1:=hoy y (Ah hy);refine fC ?_;refine Cj ?_;refine wW ?_;refine MF ?_;refine wW ?_;refine MF ?_;refine z58 ?_;refine oI ?_;refine aB rfl ?_ ?_<;>intro g6
  ·have hz:True:=True.intro;have hne:x≠y:=by intro e;subst e;simp at g6
   have hE:decide (xs=ys)=false:=decide_eq_false (by rintro rfl;rw[hx]at hy;exact hne (Option.some.inj hy));refine cV ?_;exact aD aE ⟨by rw[hE];rfl,rfl⟩ aA
  refine jH ?_;have hxy:x=y:=by first|simpa using g6|(simp at g6;omega)
  refine⟨k+1,⟨hlt,by rw[Al,Al,ht,hx,hy,hxy]⟩,Ab U, ?_⟩;exact aH
 have hE:decide (xs=ys)=true:=decide_eq_true (by simp at g4;rwa [Aj U,Aj U]at ht);refine cV ?_;exact aD aE ⟨by rw[hE];rfl,rfl⟩ aA
theorem aLc{f:FuncId}{ok:FT->Prop}(hf:(∀args w,(callFunc f args).run prog w=.ok (.enter f args) w)/\∀x y,ok x->ok y->SCall prog f ([]++ [.agg (cD x),.agg (cD y)]++ []) [] (fun r Y=>r=.bool (decide (x=y))/\Y=[]))(xs ys:List FT)(hox:∀x∈xs,ok x)(hoy:∀y∈ys,ok y):SCall prog 114 [.ro 2 (xs.map cD) .any,.ro 2 (ys.map cD) .any,.fn (.func f) [] []] [] (fun r Y=>r=.bool (decide (xs=ys))/\Y=[]):=by
 refine bO 32 [0,1,2,6,7,8,9,14,15,16,17,18,30] func114 ?_;refine iG (i:=0) rfl fun hm=> ?_
 rw[Az]at hm;unfold maxLen at hm;refine vX ?_;refine aB rfl ?_ ?_<;>intro g1
 ·have hE:decide (xs=ys)=false:=decide_eq_false (by rintro rfl;simp at g1);refine cV ?_;exact aD aE ⟨by rw[hE];rfl,rfl⟩ aA
 have hl:xs.length=ys.length:=by simp at g1;omega
 refine dG ?_;refine qD ?_;refine lp (β:=Nat) (fun k=>⟨[(1,.ro 2 (ys.map cD) .any),(2,.fn (.func f) [] []),(15,.ro 2 (xs.map cD) .any),(16,.int .i64 xs.length),(17,.int .i64 k)],[]⟩) (fun k=>k<=xs.length/\xs.take k=ys.take k) (fun k=>xs.length-k) 0 aH ⟨Am _,rfl⟩ ?_;rintro k ⟨hk,ht⟩;refine gN ?_;refine aB rfl ?_ ?_<;>intro g4
 ·have hlt:k<xs.length:=by simp at g4;omega
  obtain⟨x,hx⟩:=Aa xs k hlt
  obtain⟨y,hy⟩:=Aa ys k U
  refine dG ?_;refine CE ?_;refine iD fun r8 h8=> ?_;intros;refine IO ?_;refine kV ?_;refine CE ?_;refine iD fun r9 h9=> ?_;intros;refine vV ?_;refine jY ?_;refine jY ?_;refine qY [] rfl hf.1 (hf.2 x y (hox x (Ah hx)) (hoy y (Ah hy))) rfl aC aA ?_;rintro _ Y' ⟨rfl,rfl⟩ h29;apply aR;exact aU;refine mX ?_;refine aB rfl ?_ ?_<;>intro g7
  ·have hne:x≠y:=C8 g7
   have hE:decide (xs=ys)=false:=decide_eq_false (by rintro rfl;rw[hx]at hy;exact hne (Option.some.inj hy));refine cV ?_;exact aD aE ⟨by rw[hE];rfl,rfl⟩ aA
  refine jH ?_;have hxy:x=y:=C8 g7
  refine⟨k+1,⟨hlt,by rw[Al,Al,ht,hx,hy,hxy]⟩,Ab U, ?_⟩;exact aH
 have hE:decide (xs=ys)=true:=decide_eq_true (by simp at g4;rwa [Aj U,Aj U]at ht);refine cV ?_;exact aD aE ⟨by rw[hE];rfl,rfl⟩ aA
theorem aLd{f:FuncId}{ok:El->Prop}(hf:(∀args w,(callFunc f args).run prog w=.ok (.enter f args) w)/\∀x y,ok x->ok y->SCall prog f ([]++ [.agg (dP x),.agg (dP y)]++ []) [] (fun r Y=>r=.bool (decide (x=y))/\Y=[]))(xs ys:List El)(hox:∀x∈xs,ok x)(hoy:∀y∈ys,ok y):SCall prog 117 [.ro 2 (xs.map dP) .any,.ro 2 (ys.map dP) .any,.fn (.func f) [] []] [] (fun r Y=>r=.bool (decide (xs=ys))/\Y=[]):=by
 refine bO 32 [0,1,2,6,7,8,9,14,15,16,17,18,30] func117 ?_;refine iG (i:=0) rfl fun hm=> ?_
 rw[Az]at hm;unfold maxLen at hm;refine vX ?_;refine aB rfl ?_ ?_<;>intro g1
 ·have hE:decide (xs=ys)=false:=decide_eq_false (by rintro rfl;simp at g1);refine cV ?_;exact aD aE ⟨by rw[hE];rfl,rfl⟩ aA
 have hl:xs.length=ys.length:=by simp at g1;omega
 refine dG ?_;refine qD ?_;refine lp (β:=Nat) (fun k=>⟨[(1,.ro 2 (ys.map dP) .any),(2,.fn (.func f) [] []),(15,.ro 2 (xs.map dP) .any),(16,.int .i64 xs.length),(17,.int .i64 k)],[]⟩) (fun k=>k<=xs.length/\xs.take k=ys.take k) (fun k=>xs.length-k) 0 aH ⟨Am _,rfl⟩ ?_;rintro k ⟨hk,ht⟩;refine gN ?_;refine aB rfl ?_ ?_<;>intro g4
 ·have hlt:k<xs.length:=by simp at g4;omega
  obtain⟨x,hx⟩:=Aa xs k hlt
  obtain⟨y,hy⟩:=Aa ys k U
  refine dG ?_;refine CE ?_;refine iD fun r8 h8=> ?_;intros;refine IO ?_;refine kV ?_;refine CE ?_;refine iD fun r9 h9=> ?_;intros;refine vV ?_;refine jY ?_;refine jY ?_;refine qY [] rfl hf.1 (hf.2 x y (hox x (Ah hx)) (hoy y (Ah hy))) rfl aC aA ?_;rintro _ Y' ⟨rfl,rfl⟩ h29;apply aR;exact aU;refine mX ?_;refine aB rfl ?_ ?_<;>intro g7
  ·have hne:x≠y:=C8 g7
   have hE:decide (xs=ys)=false:=decide_eq_false (by rintro rfl;rw[hx]at hy;exact hne (Option.some.inj hy));refine cV ?_;exact aD aE ⟨by rw[hE];rfl,rfl⟩ aA
  refine jH ?_;have hxy:x=y:=C8 g7
  refine⟨k+1,⟨hlt,by rw[Al,Al,ht,hx,hy,hxy]⟩,Ab U, ?_⟩;exact aH
 have hE:decide (xs=ys)=true:=decide_eq_true (by simp at g4;rwa [Aj U,Aj U]at ht);refine cV ?_;exact aD aE ⟨by rw[hE];rfl,rfl⟩ aA
theorem aLe{f:FuncId}{ok:Co->Prop}(hf:(∀args w,(callFunc f args).run prog w=.ok (.enter f args) w)/\∀x y,ok x->ok y->SCall prog f ([]++ [.agg (cQ x),.agg (cQ y)]++ []) [] (fun r Y=>r=.bool (decide (x=y))/\Y=[]))(xs ys:List Co)(hox:∀x∈xs,ok x)(hoy:∀y∈ys,ok y):SCall prog 119 [.ro 2 (xs.map cQ) .any,.ro 2 (ys.map cQ) .any,.fn (.func f) [] []] [] (fun r Y=>r=.bool (decide (xs=ys))/\Y=[]):=by
 refine bO 32 [0,1,2,6,7,8,9,14,15,16,17,18,30] func119 ?_;refine iG (i:=0) rfl fun hm=> ?_
 rw[Az]at hm;unfold maxLen at hm;refine vX ?_;refine aB rfl ?_ ?_<;>intro g1
 ·have hE:decide (xs=ys)=false:=decide_eq_false (by rintro rfl;simp at g1);refine cV ?_;exact aD aE ⟨by rw[hE];rfl,rfl⟩ aA
 have hl:xs.length=ys.length:=by simp at g1;omega
 refine dG ?_;refine qD ?_;refine lp (β:=Nat) (fun k=>⟨[(1,.ro 2 (ys.map cQ) .any),(2,.fn (.func f) [] []),(15,.ro 2 (xs.map cQ) .any),(16,.int .i64 xs.length),(17,.int .i64 k)],[]⟩) (fun k=>k<=xs.length/\xs.take k=ys.take k) (fun k=>xs.length-k) 0 aH ⟨Am _,rfl⟩ ?_;rintro k ⟨hk,ht⟩;refine gN ?_;refine aB rfl ?_ ?_<;>intro g4
 ·have hlt:k<xs.length:=by simp at g4;omega
  obtain⟨x,hx⟩:=Aa xs k hlt
  obtain⟨y,hy⟩:=Aa ys k U
  refine dG ?_;refine CE ?_;refine iD fun r8 h8=> ?_;intros;refine IO ?_;refine kV ?_;refine CE ?_;refine iD fun r9 h9=> ?_;intros;refine vV ?_;refine jY ?_;refine jY ?_;refine qY [] rfl hf.1 (hf.2 x y (hox x (Ah hx)) (hoy y (Ah hy))) rfl aC aA ?_;rintro _ Y' ⟨rfl,rfl⟩ h29;apply aR;exact aU;refine mX ?_;refine aB rfl ?_ ?_<;>intro g7
  ·have hne:x≠y:=C8 g7
   have hE:decide (xs=ys)=false:=decide_eq_false (by rintro rfl;rw[hx]at hy;exact hne (Option.some.inj hy));refine cV ?_;exact aD aE ⟨by rw[hE];rfl,rfl⟩ aA
  refine jH ?_;have hxy:x=y:=C8 g7
  refine⟨k+1,⟨hlt,by rw[Al,Al,ht,hx,hy,hxy]⟩,Ab U, ?_⟩;exact aH
 have hE:decide (xs=ys)=true:=decide_eq_true (by simp at g4;rwa [Aj U,Aj U]at ht);refine cV ?_;exact aD aE ⟨by rw[hE];rfl,rfl⟩ aA
theorem aLf{f:FuncId}{ok:Da->Prop}(hf:(∀args w,(callFunc f args).run prog w=.ok (.enter f args) w)/\∀x y,ok x->ok y->SCall prog f ([]++ [.agg (dV x),.agg (dV y)]++ []) [] (fun r Y=>r=.bool (decide (x=y))/\Y=[]))(xs ys:List Da)(hox:∀x∈xs,ok x)(hoy:∀y∈ys,ok y):SCall prog 123 [.ro 2 (xs.map dV) .any,.ro 2 (ys.map dV) .any,.fn (.func f) [] []] [] (fun r Y=>r=.bool (decide (xs=ys))/\Y=[]):=by
 refine bO 32 [0,1,2,6,7,8,9,14,15,16,17,18,30] func123 ?_;refine iG (i:=0) rfl fun hm=> ?_
 rw[Az]at hm;unfold maxLen at hm;refine vX ?_;refine aB rfl ?_ ?_<;>intro g1
 ·have hE:decide (xs=ys)=false:=decide_eq_false (by rintro rfl;simp at g1);refine cV ?_;exact aD aE ⟨by rw[hE];rfl,rfl⟩ aA
 have hl:xs.length=ys.length:=by simp at g1;omega
 refine dG ?_;refine qD ?_;refine lp (β:=Nat) (fun k=>⟨[(1,.ro 2 (ys.map dV) .any),(2,.fn (.func f) [] []),(15,.ro 2 (xs.map dV) .any),(16,.int .i64 xs.length),(17,.int .i64 k)],[]⟩) (fun k=>k<=xs.length/\xs.take k=ys.take k) (fun k=>xs.length-k) 0 aH ⟨Am _,rfl⟩ ?_;rintro k ⟨hk,ht⟩;refine gN ?_;refine aB rfl ?_ ?_<;>intro g4
 ·have hlt:k<xs.length:=by simp at g4;omega
  obtain⟨x,hx⟩:=Aa xs k hlt
  obtain⟨y,hy⟩:=Aa ys k U
  refine dG ?_;refine CE ?_;refine iD fun r8 h8=> ?_;intros;refine IO ?_;refine kV ?_;refine CE ?_;refine iD fun r9 h9=> ?_;intros;refine vV ?_;refine jY ?_;refine jY ?_;refine qY [] rfl hf.1 (hf.2 x y (hox x (Ah hx)) (hoy y (Ah hy))) rfl aC aA ?_;rintro _ Y' ⟨rfl,rfl⟩ h29;apply aR;exact aU;refine mX ?_;refine aB rfl ?_ ?_<;>intro g7
  ·have hne:x≠y:=C8 g7
   have hE:decide (xs=ys)=false:=decide_eq_false (by rintro rfl;rw[hx]at hy;exact hne (Option.some.inj hy));refine cV ?_;exact aD aE ⟨by rw[hE];rfl,rfl⟩ aA
  refine jH ?_;have hxy:x=y:=C8 g7
  refine⟨k+1,⟨hlt,by rw[Al,Al,ht,hx,hy,hxy]⟩,Ab U, ?_⟩;exact aH
 have hE:decide (xs=ys)=true:=decide_eq_true (by simp at g4;rwa [Aj U,Aj U]at ht);refine cV ?_;exact aD aE ⟨by rw[hE];rfl,rfl⟩ aA
theorem aHA{f:FuncId}{ok:Ins->Prop}(hf:(∀args w,(callFunc f args).run prog w=.ok (.enter f args) w)/\∀x y,ok x->ok y->SCall prog f ([]++ [.agg ((iv .any) x),.agg ((iv .any) y)]++ []) [] (fun r Y=>r=.bool (decide (x=y))/\Y=[]))(xs ys:List Ins)(hox:∀x∈xs,ok x)(hoy:∀y∈ys,ok y):SCall prog 121 [.ro 4 (xs.map (iv .any)) .any,.ro 4 (ys.map (iv .any)) .any,.fn (.func f) [] []] [] (fun r Y=>r=.bool (decide (xs=ys))/\Y=[]):=by
 refine bO 32 [0,1,2,6,7,8,9,14,15,16,17,18,30] func121 ?_;refine iG (i:=0) rfl fun hm=> ?_
 rw[Az]at hm;unfold maxLen at hm;refine vX ?_;refine aB rfl ?_ ?_<;>intro g1
 ·have hE:decide (xs=ys)=false:=decide_eq_false (by rintro rfl;simp at g1);refine cV ?_;exact aD aE ⟨by rw[hE];rfl,rfl⟩ aA
 have hl:xs.length=ys.length:=by simp at g1;omega
 refine dG ?_;refine qD ?_;refine lp (β:=Nat) (fun k=>⟨[(1,.ro 4 (ys.map (iv .any)) .any),(2,.fn (.func f) [] []),(15,.ro 4 (xs.map (iv .any)) .any),(16,.int .i64 xs.length),(17,.int .i64 k)],[]⟩) (fun k=>k<=xs.length/\xs.take k=ys.take k) (fun k=>xs.length-k) 0 aH ⟨Am _,rfl⟩ ?_;rintro k ⟨hk,ht⟩;refine gN ?_;refine aB rfl ?_ ?_<;>intro g4
 ·have hlt:k<xs.length:=by simp at g4;omega
  obtain⟨x,hx⟩:=Aa xs k hlt
  obtain⟨y,hy⟩:=Aa ys k U
  refine dG ?_;refine CE ?_;refine iD fun r8 h8=> ?_;intros;refine IO ?_;refine kV ?_;refine CE ?_;refine iD fun r9 h9=> ?_;intros;refine vV ?_;refine jY ?_;refine jY ?_;refine qY [] rfl hf.1 (hf.2 x y (hox x (Ah hx)) (hoy y (Ah hy))) rfl aC aA ?_;rintro _ Y' ⟨rfl,rfl⟩ h29;apply aR;exact aU;refine mX ?_;refine aB rfl ?_ ?_<;>intro g7
  ·have hne:x≠y:=C8 g7
   have hE:decide (xs=ys)=false:=decide_eq_false (by rintro rfl;rw[hx]at hy;exact hne (Option.some.inj hy));refine cV ?_;exact aD aE ⟨by rw[hE];rfl,rfl⟩ aA
  refine jH ?_;have hxy:x=y:=C8 g7
  refine⟨k+1,⟨hlt,by rw[Al,Al,ht,hx,hy,hxy]⟩,Ab U, ?_⟩;exact aH
 have hE:decide (xs=ys)=true:=decide_eq_true (by simp at g4;rwa [Aj U,Aj U]at ht);refine cV ?_;exact aD aE ⟨by rw[hE];rfl,rfl⟩ aA
attribute [local irreducible] SW RS RD fE eA
def XG (a b:Md):Bool:=decide (a.ty=b.ty)&&decide (a.el=b.el)&&decide (a.co=b.co)&&decide (a.da=b.da)&&decide (a.im=b.im)&&decide (a.fn=b.fn)&&decide (a.tb=b.tb)&&decide (a.me=b.me)&&decide (a.gl=b.gl)&&decide (a.ex=b.ex)
theorem aHB{a b:Md}:XG a b=true↔a=b:=by
 unfold XG;simp only[Ap,decide_eq_true_eq];constructor
 ·rintro⟨⟨⟨⟨⟨⟨⟨⟨⟨h1,h2⟩,h3⟩,h4⟩,h5⟩,h6⟩,h7⟩,h8⟩,h9⟩,h10⟩;cases a;cases b;simp_all
 ·rintro rfl;simp
theorem VD(a:Md):XG a a=true:=aHB.2 rfl
theorem aHC(x y:Ins):eqN x y=decide (x=y):=by
 rw[B1,HA,decide_eq_true_iff]
theorem aEE:(∀args w,(callFunc 122 args).run prog w=.ok (.enter 122 args) w)/\∀x y:Ins,True->True->SCall prog 122 ([]++ [.agg (iv .any x),.agg (iv .any y)]++ []) [] (fun r Y=>r=.bool (decide (x=y))/\Y=[]):=
 ⟨call122,fun x y _ _=>by rw[<-aHC];exact aDt .any .any x y⟩
theorem aHD:(∀args w,(callFunc 115 args).run prog w=.ok (.enter 115 args) w)/\∀x y:FT,True->True->SCall prog 115 ([]++ [.agg (cD x),.agg (cD y)]++ []) [] (fun r Y=>r=.bool (decide (x=y))/\Y=[]):=by
 refine⟨call115,fun x y _ _=> ?_⟩;obtain⟨p1,v1⟩:=x;obtain⟨p2,v2⟩:=y;have hE:decide ((⟨p1,v1⟩:FT)=⟨p2,v2⟩)=if decide (p1=p2)=true then decide (v1=v2)else false:=by rw[iU,B1];simp
 refine bO 17 [0,1,2,3,4] func115 ?_;unfold cD;refine dB ?_;refine fZ fun r2 h2=> ?_;intros;refine fZ fun r3 h3=> ?_;intros;refine iO ?_;refine pD ?_;refine kY call116 (kQ p1 p2) rfl aO bH ?_;refine qJ ?_;refine kL rfl rfl call116 (fun _=>(kQ v1 v2)) rfl aO bH ?_;refine kA ?_;exact aD aE ⟨by rw[hE];rfl,rfl⟩ aA
theorem aHE:(∀args w,(callFunc 118 args).run prog w=.ok (.enter 118 args) w)/\∀x y:El,True->True->SCall prog 118 ([]++ [.agg (dP x),.agg (dP y)]++ []) [] (fun r Y=>r=.bool (decide (x=y))/\Y=[]):=by
 refine⟨call118,fun x y _ _=> ?_⟩;obtain⟨p1,v1⟩:=x;obtain⟨p2,v2⟩:=y;have hE:decide ((⟨p1,v1⟩:El)=⟨p2,v2⟩)=if(p1==p2)=true then decide (v1=v2)else false:=by rw[iU,B1];simp
 refine bO 17 [0,1,2,3,4] func118 ?_;unfold dP;refine dB ?_;refine fZ fun r2 h2=> ?_;intros;refine fZ fun r3 h3=> ?_;intros;refine iO ?_;refine pD ?_;refine FK ?_;refine SV ?_;refine kL rfl rfl call116 (fun _=>(kQ v1 v2)) rfl aO bH ?_;refine kA ?_;exact aD aE ⟨by rw[hE];rfl,rfl⟩ aA
theorem aHF:(∀args w,(callFunc 120 args).run prog w=.ok (.enter 120 args) w)/\∀x y:Co,True->True->SCall prog 120 ([]++ [.agg (cQ x),.agg (cQ y)]++ []) [] (fun r Y=>r=.bool (decide (x=y))/\Y=[]):=by
 refine⟨call120,fun x y _ _=> ?_⟩;obtain⟨p1,v1⟩:=x;obtain⟨p2,v2⟩:=y;have hE:decide ((⟨p1,v1⟩:Co)=⟨p2,v2⟩)=if decide (p1=p2)=true then decide (v1=v2)else false:=by rw[iU,B1];simp
 refine bO 17 [0,1,2,3,4] func120 ?_;unfold cQ;refine dB ?_;refine fZ fun r2 h2=> ?_;intros;refine fZ fun r3 h3=> ?_;intros;refine iO ?_;refine pD ?_;refine kY call116 (kQ p1 p2) rfl aO bH ?_;refine qJ ?_;refine kL rfl rfl call121 (fun _=>(aHA aEE v1 v2 (fun _ _=>True.intro) (fun _ _=>True.intro))) rfl aO bH ?_;refine kA ?_;exact aD aE ⟨by rw[hE];rfl,rfl⟩ aA
theorem aHG:(∀args w,(callFunc 124 args).run prog w=.ok (.enter 124 args) w)/\∀x y:Da,True->True->SCall prog 124 ([]++ [.agg (dV x),.agg (dV y)]++ []) [] (fun r Y=>r=.bool (decide (x=y))/\Y=[]):=by
 refine⟨call124,fun x y _ _=> ?_⟩;obtain⟨p1,v1⟩:=x;obtain⟨p2,v2⟩:=y;have hE:decide ((⟨p1,v1⟩:Da)=⟨p2,v2⟩)=if(p1==p2)=true then decide (v1=v2)else false:=by rw[iU,B1];simp
 refine bO 17 [0,1,2,3,4] func124 ?_;unfold dV;refine dB ?_;refine fZ fun r2 h2=> ?_;intros;refine fZ fun r3 h3=> ?_;intros;refine iO ?_;refine pD ?_;refine FK ?_;refine SV ?_;refine kL rfl rfl call125 (fun _=>(aLb v1 v2 (fun _ _=>True.intro) (fun _ _=>True.intro))) rfl aO bH ?_;refine kA ?_;exact aD aE ⟨by rw[hE];rfl,rfl⟩ aA
theorem aA4(a c:Md)(ha:a.W)(hc:c.W):SCall prog 52 [.agg (aM a),.agg (aM c)] [] (fun r Y=>r=.bool (XG a c)/\Y=[]):=by
 obtain⟨a1,a2,-,-,-⟩:=ha;obtain⟨c1,c2,-,-,-⟩:=hc;obtain⟨ty,im,fn,tb,me,gl,ex,el,co,da⟩:=a;obtain⟨ty',im',fn',tb',me',gl',ex',el',co',da'⟩:=c;dsimp only at a1 a2 c1 c2;have hE:∀(a b c d e f g h i j:Bool),(if(if(if(if(if(if(if(if(if a=true then b else false)=true then c else false)=true then d else false)=true then e else false)=true then f else false)=true then g else false)=true then h else false)=true then i else false)=true then j else false)=(a&&b&&c&&d&&e&&f&&g&&h&&i&&j):=by
  intro a b c d e f g h i j;simp only[iU]
 refine bO 81 [0,1,2,3,4,5,6,7,8] func52 ?_;unfold aM;dsimp only;refine dB ?_;refine fZ fun r2 h2=> ?_;intros;refine fZ fun r3 h3=> ?_;intros;refine iO ?_;refine pD ?_;refine kY call114 (aLc aHD ty ty' (fun _ _=>True.intro) (fun _ _=>True.intro)) rfl aO bH ?_;refine iO ?_;refine pD ?_;refine kY call117 (aLd aHE el el' (fun _ _=>True.intro) (fun _ _=>True.intro)) rfl aO bH ?_;refine iO ?_;refine pD ?_;refine kY call119 (aLe aHF co co' (fun _ _=>True.intro) (fun _ _=>True.intro)) rfl aO bH ?_;refine iO ?_;refine pD ?_;refine kY call123 (aLf aHG da da' (fun _ _=>True.intro) (fun _ _=>True.intro)) rfl aO bH ?_;refine pP ?_;refine jZ ?_;refine qK ?_;refine qK ?_;refine sF ?_;refine qJ ?_;refine kL rfl rfl call126 (fun _=>(aK8 im im' a1 c1)) rfl aO bH ?_;refine sF ?_;refine qJ ?_;refine kL rfl rfl call116 (fun _=>(kQ fn fn')) rfl aO bH ?_;refine sF ?_;refine GJ ?_;refine CB ?_;refine AU ?_;refine CB ?_;refine lg rfl rfl (JS (a:=tb) (b:=tb') (W rfl id) (W rfl id)) rfl ?_;refine sF ?_;refine GJ ?_;refine CB ?_;refine AU ?_;refine CB ?_;refine lg rfl rfl (JS (a:=me) (b:=me') (W rfl id) (W rfl id)) rfl ?_;refine sF ?_;refine qJ ?_;refine kL rfl rfl call127 (fun _=>(aLa gl gl' (fun _ _=>True.intro) (fun _ _=>True.intro))) rfl aO bH ?_;refine sF ?_;refine qJ ?_;refine kL rfl rfl call128 (fun _=>(aK9 ex ex' a2 c2)) rfl aO bH ?_;refine kA ?_
 exact aD aE ⟨by simp only[fM];rw[hE];rfl,rfl⟩ aA
theorem uG{a b c:Bool}(h:(if(if(!a)=true then true else !b)=true then true else !c)=false):(a&&b&&c)=true:=by cases a<;>cases b<;>cases c<;>simp_all
theorem uH{a b c:Bool}(h:(if(if(!a)=true then true else !b)=true then true else !c)=true):(a&&b&&c)=false:=by cases a<;>cases b<;>cases c<;>simp_all
def eqP (a b:Md):Bool:=decide (a.el=b.el/\a.co=b.co/\a.da=b.da)
def eqH (a b:Md):Bool:=decide (a.ty=b.ty/\a.im=b.im/\a.fn=b.fn/\a.tb=b.tb/\a.me=b.me/\a.gl=b.gl/\a.ex=b.ex)
theorem VE(a b:Md):XG a b=(eqH a b&&eqP a b):=by
 unfold XG eqH eqP;rw[B1];simp only[Ap,decide_eq_true_eq];constructor
 ·rintro⟨⟨⟨⟨⟨⟨⟨⟨⟨h1,h2⟩,h3⟩,h4⟩,h5⟩,h6⟩,h7⟩,h8⟩,h9⟩,h10⟩;exact⟨⟨h1,h5,h6,h7,h8,h9,h10⟩,h2,h3,h4⟩
 ·rintro⟨⟨h1,h5,h6,h7,h8,h9,h10⟩,h2,h3,h4⟩;exact⟨⟨⟨⟨⟨⟨⟨⟨⟨h1,h2⟩,h3⟩,h4⟩,h5⟩,h6⟩,h7⟩,h8⟩,h9⟩,h10⟩
theorem NP(a c:Li):SCall prog 71 [.agg (eO a),.agg (eO c)] [] (fun r Y=>r=.bool (decide (a=c))/\Y=[]):=by
 have hE:decide (a=c)=if(if(a.has==c.has)=true then a.mn==c.mn else false)=true then a.mx==c.mx else false:=by
  rw[iU,iU,B1];cases a;cases c;simp[and_assoc]
 rw[hE];refine bO 24 [0,1,2,3,4] func71 ?_;unfold eO;refine dB ?_;refine fZ fun r2 h2=> ?_;intros;refine fZ fun r3 h3=> ?_;intros;refine iO ?_;refine pD ?_;refine lo (RV (E rfl) (E rfl)) rfl ?_;refine qJ ?_;refine aC5 ?_;refine sF ?_;refine qJ ?_;refine aC5 ?_;refine kA ?_;exact aD aE ⟨by rfl,rfl⟩ aA
theorem aEF(a c:Md)(za:a.Z)(zc:c.Z)(ba:∀x∈a.co,x.bd.length<=100000)(bc:∀x∈c.co,x.bd.length<=100000)(da1:∀x∈a.da,∀c∈x.bs,c<256)(dc1:∀x∈c.da,∀c∈x.bs,c<256):SCall prog 72 [.agg (aM a),.agg (aM c)] [] (fun r Y=>r=.bool (eqP a c)/\Y=[]):=by
 obtain⟨-,-,-,-,-,⟨z1,z2⟩,⟨z3,z4⟩,⟨z5,z6⟩⟩:=za;obtain⟨-,-,-,-,-,⟨y1,y2⟩,⟨y3,y4⟩,⟨y5,y6⟩⟩:=zc;obtain⟨ty,im,fn,tb,me,gl,ex,el,co,da⟩:=a;obtain⟨ty',im',fn',tb',me',gl',ex',el',co',da'⟩:=c;dsimp only at z1 z2 z3 z4 z5 z6 y1 y2 y3 y4 y5 y6 ba bc da1 dc1;refine bO 139 [0,1,2,3,4,5,6,7,8,9,34,39,70,75,101,106,138] func72 ?_;unfold aM;dsimp only;refine dB ?_;refine fZ fun r2 h2=> ?_;intros;refine fZ fun r3 h3=> ?_;intros;refine iT ?_;refine qA ?_;refine qA ?_;refine B9 ?_;refine vY ?_;refine nZ ?_;refine GI ?_;refine jG ?_;refine vY ?_;refine nZ ?_;refine GI ?_;refine uY ?_;refine aB rfl ?_ ?_<;>intro g1
 ·have h3:=uH (a:=(el.length:Int)==el'.length) (b:=(co.length:Int)==co'.length) (c:=(da.length:Int)==da'.length) g1;have hE:eqP ⟨ty,im,fn,tb,me,gl,ex,el,co,da⟩ ⟨ty',im',fn',tb',me',gl',ex',el',co',da'⟩=false:=by refine decide_eq_false ?_;rintro⟨e1,e2,e3⟩;dsimp only at e1 e2 e3;rw[e1,e2,e3]at h3;simp at h3
  refine cV ?_;exact aD aE ⟨by rw[hE];rfl,rfl⟩ aA
 have h3:=uG (a:=(el.length:Int)==el'.length) (b:=(co.length:Int)==co'.length) (c:=(da.length:Int)==da'.length) g1;simp only[Ap,beq_iff_eq]at h3;obtain⟨⟨hl1,hl2⟩,hl3⟩:=h3;refine cV ?_;refine lp (β:=Nat) (fun j=>⟨[(2,.ptr r2 0),(3,.ptr r3 0),(5,.int .i64 j)],[(r3,.box 33 (aM ⟨ty',im',fn',tb',me',gl',ex',el',co',da'⟩)),(r2,.box 33 (aM ⟨ty,im,fn,tb,me,gl,ex,el,co,da⟩))]⟩) (fun j=>j<=el.length/\el.take j=el'.take j) (fun j=>el.length-j) 0 aH ⟨Am _,rfl⟩ ?_;rintro j ⟨hj,htel⟩;unfold aM;dsimp only;refine kJ ?_;refine aB rfl ?_ ?_<;>intro g4
 ·have hlt:j<el.length:=by simp at g4;omega
  have hlt2:j<el'.length:=by omega
  obtain⟨⟨o1,f1⟩,hx⟩:=Aa el j hlt
  obtain⟨⟨o2,f2⟩,hy⟩:=Aa el' j hlt2
  refine aI ?_;refine eK (Ac [0,1,2,3,4,5,6,7,8,9,10,11,12,13,14,15,16,17,18,19,20,21,22,23,24,25] (Ad 26 (Ac [27,28] []))) ?_;refine sK ?_;refine z58 ?_;refine BB ?_;refine AE ?_;refine rL ?_;refine AE ?_;refine aDD rfl rfl rfl call47 (fun _=>(fT f1 f2)) rfl aO bH ?_;refine IK ?_;refine sL ?_;refine aB rfl ?_ ?_<;>intro g6
  ·have hn2:=pT (a:=o1==o2) (b:=decide (f1=f2)) g6;have hne:(⟨o1,f1⟩:El)≠⟨o2,f2⟩:=by intro e;cases e;simp at hn2
   have hE:eqP ⟨ty,im,fn,tb,me,gl,ex,el,co,da⟩ ⟨ty',im',fn',tb',me',gl',ex',el',co',da'⟩=false:=by refine decide_eq_false ?_;rintro⟨e_el,e_co,e_da⟩;dsimp only at e_el;rw[e_el,hy]at hx;exact hne (Option.some.inj hx).symm
   refine cV ?_;exact aD aE ⟨by rw[hE];rfl,rfl⟩ aA
  have hn2:=pU (a:=o1==o2) (b:=decide (f1=f2)) g6;have hxy:(⟨o1,f1⟩:El)=⟨o2,f2⟩:=by simp at hn2;rw[hn2.1,hn2.2]
  refine iN ?_;refine⟨j+1,⟨hlt,by rw[Al,Al,htel,hx,hy,hxy]⟩,Ab U, ?_⟩;exact aH
 have eel:el=el':=by simp at g4;rwa [Aj U,Aj U]at htel
 refine cV ?_;refine lp (β:=Nat) (fun j=>⟨[(2,.ptr r2 0),(3,.ptr r3 0),(6,.int .i64 j)],[(r3,.box 33 (aM ⟨ty',im',fn',tb',me',gl',ex',el',co',da'⟩)),(r2,.box 33 (aM ⟨ty,im,fn,tb,me,gl,ex,el,co,da⟩))]⟩) (fun j=>j<=co.length/\co.take j=co'.take j) (fun j=>co.length-j) 0 aH ⟨Am _,rfl⟩ ?_;rintro j ⟨hj,htco⟩;unfold aM;dsimp only;refine kJ ?_;refine aB rfl ?_ ?_<;>intro g9
 ·have hlt:j<co.length:=by simp at g9;omega
  have hlt2:j<co'.length:=by omega
  obtain⟨⟨o1,f1⟩,hx⟩:=Aa co j hlt
  obtain⟨⟨o2,f2⟩,hy⟩:=Aa co' j hlt2
  have hb1:=ba _ (Ah hx);have hb2:=bc _ (Ah hy);dsimp only at hb1 hb2;refine aI ?_;refine eK (Ac [0,1,2,3,4,5,6,7,8,9] (Ad 14 (Ad 14 (Ad 14 (Ad 14 []))))) ?_;refine CC ?_;refine wT ?_;refine CC ?_;refine wT ?_;refine gY 10 11 [(11,false),(12,false),(13,false)] [(10,false),(12,false),(13,false)] (f1:=[]) (f2:=[]) (by kernel_rfl) rfl rfl ?_ ?_ (.inl rfl) (.inl rfl)
  ·apply FQ;infer_instance;rfl;exact rK;refine gD fun r7 h7=> ?_;intros;apply dal;rfl;infer_instance;rfl;exact rK;refine gD fun r8 h8=> ?_;intros;refine XQ ?_;refine EH ?_;refine eY ?_;refine pD ?_;refine kY call47 (fT o1 o2) rfl aO bH ?_;refine Cd ?_;refine qJ ?_;refine kL rfl rfl call185 (fun _=>(IW .any .any f1 f2 U U)) rfl aO bH ?_;refine xS ?_;refine aB rfl ?_ ?_<;>intro g12
   ·have hn2:=pT (a:=decide (o1=o2)) (b:=YH f1 f2) g12;have hne:(⟨o1,f1⟩:Co)≠⟨o2,f2⟩:=by intro e;cases e;unfold YH at hn2;simp at hn2
    have hE:eqP ⟨ty,im,fn,tb,me,gl,ex,el,co,da⟩ ⟨ty',im',fn',tb',me',gl',ex',el',co',da'⟩=false:=by refine decide_eq_false ?_;rintro⟨e_el,e_co,e_da⟩;dsimp only at e_co;rw[e_co,hy]at hx;exact hne (Option.some.inj hx).symm
    refine cV ?_;exact aD aE ⟨by rw[hE];rfl,rfl⟩ aA
   have hn2:=pU (a:=decide (o1=o2)) (b:=YH f1 f2) g12;have hxy:(⟨o1,f1⟩:Co)=⟨o2,f2⟩:=by unfold YH at hn2;simp at hn2;rw[hn2.1,hn2.2]
   refine iN ?_;refine⟨j+1,⟨hlt,by rw[Al,Al,htco,hx,hy,hxy]⟩,Ab U, ?_⟩;exact aH
  ·apply FQ;infer_instance;rfl;exact rK;refine bD fun r8 h8=> ?_;repeat rcases h8 with⟨_,h8⟩
   apply dal;rfl;infer_instance;rfl;exact rK;refine bD fun r7 h7=> ?_;repeat rcases h7 with⟨_,h7⟩
   refine XQ ?_;refine EH ?_;refine eY ?_;refine pD ?_;refine kY call47 (fT o1 o2) rfl aO bH ?_;refine Cd ?_;refine qJ ?_;refine kL rfl rfl call185 (fun _=>(IW .any .any f1 f2 U U)) rfl aO bH ?_;refine xS ?_;refine aB rfl ?_ ?_<;>intro g12
   ·have hn2:=pT (a:=decide (o1=o2)) (b:=YH f1 f2) g12;have hne:(⟨o1,f1⟩:Co)≠⟨o2,f2⟩:=by intro e;cases e;unfold YH at hn2;simp at hn2
    have hE:eqP ⟨ty,im,fn,tb,me,gl,ex,el,co,da⟩ ⟨ty',im',fn',tb',me',gl',ex',el',co',da'⟩=false:=by refine decide_eq_false ?_;rintro⟨e_el,e_co,e_da⟩;dsimp only at e_co;rw[e_co,hy]at hx;exact hne (Option.some.inj hx).symm
    refine cV ?_;exact aD aE ⟨by rw[hE];rfl,rfl⟩ aA
   have hn2:=pU (a:=decide (o1=o2)) (b:=YH f1 f2) g12;have hxy:(⟨o1,f1⟩:Co)=⟨o2,f2⟩:=by unfold YH at hn2;simp at hn2;rw[hn2.1,hn2.2]
   refine iN ?_;refine⟨j+1,⟨hlt,by rw[Al,Al,htco,hx,hy,hxy]⟩,Ab U, ?_⟩;exact aH
 have eco:co=co':=by simp at g9;rwa [Aj U,Aj U]at htco
 refine cV ?_;refine lp (β:=Nat) (fun j=>⟨[(2,.ptr r2 0),(3,.ptr r3 0),(9,.int .i64 j)],[(r3,.box 33 (aM ⟨ty',im',fn',tb',me',gl',ex',el',co',da'⟩)),(r2,.box 33 (aM ⟨ty,im,fn,tb,me,gl,ex,el,co,da⟩))]⟩) (fun j=>j<=da.length/\da.take j=da'.take j) (fun j=>da.length-j) 0 aH ⟨Am _,rfl⟩ ?_;rintro j ⟨hj,htda⟩;unfold aM;dsimp only;refine kJ ?_;refine aB rfl ?_ ?_<;>intro g15
 ·have hlt:j<da.length:=by simp at g15;omega
  have hlt2:j<da'.length:=by omega
  obtain⟨⟨o1,f1⟩,hx⟩:=Aa da j hlt
  obtain⟨⟨o2,f2⟩,hy⟩:=Aa da' j hlt2
  have hb1:=da1 _ (Ah hx);have hb2:=dc1 _ (Ah hy);refine aI ?_;refine eK (Ac [0,1,2,3,4,5,6,7,8,9,10,11,12,13,14,15,16,17,18,19,20,21,22,23,24,25,26,27,28,29] []) ?_;refine sK ?_;refine z58 ?_;refine BB ?_;refine AE ?_;refine aMG ?_;refine rL ?_;refine AE ?_;refine aMG ?_;refine aOR ?_;refine sL ?_;refine aB rfl ?_ ?_<;>intro g17
  ·have hn2:=pT (a:=o1==o2) (b:=(cB f1).toList==(cB f2).toList) g17;have hne:(⟨o1,f1⟩:Da)≠⟨o2,f2⟩:=by intro e;cases e;simp at hn2
   have hE:eqP ⟨ty,im,fn,tb,me,gl,ex,el,co,da⟩ ⟨ty',im',fn',tb',me',gl',ex',el',co',da'⟩=false:=by refine decide_eq_false ?_;rintro⟨e_el,e_co,e_da⟩;dsimp only at e_da;rw[e_da,hy]at hx;exact hne (Option.some.inj hx).symm
   refine cV ?_;exact aD aE ⟨by rw[hE];rfl,rfl⟩ aA
  have hn2:=pU (a:=o1==o2) (b:=(cB f1).toList==(cB f2).toList) g17;rw[jL hb1 hb2]at hn2;have hxy:(⟨o1,f1⟩:Da)=⟨o2,f2⟩:=by simp at hn2;rw[hn2.1,hn2.2]
  refine iN ?_;refine⟨j+1,⟨hlt,by rw[Al,Al,htda,hx,hy,hxy]⟩,Ab U, ?_⟩;exact aH
 have eda:da=da':=by simp at g15;rwa [Aj U,Aj U]at htda
 refine cV ?_;have hE:eqP ⟨ty,im,fn,tb,me,gl,ex,el,co,da⟩ ⟨ty',im',fn',tb',me',gl',ex',el',co',da'⟩=true:=decide_eq_true ⟨eel,eco,eda⟩;exact aD aE ⟨by rw[hE];rfl,rfl⟩ aA
theorem aLg(a c:Md)(wa:a.W)(wc:c.W)(za:a.Z)(zc:c.Z):SCall prog 21 [.agg (aM a),.agg (aM c)] [] (fun r Y=>r=.bool (XG a c)/\Y=[]):=by
 have hpt:=aEF a c za zc wa.co wc.co wa.da wc.da;have hHP:=VE a c;obtain⟨⟨z1,z2⟩,z3,z4,z5,z6,-,-,-⟩:=za;obtain⟨⟨y1,y2⟩,y3,y4,y5,y6,-,-,-⟩:=zc;obtain⟨a1,a2,-,-,-⟩:=wa;obtain⟨c1,c2,-,-,-⟩:=wc;obtain⟨ty,im,fn,tb,me,gl,ex,el,co,da⟩:=a;obtain⟨ty',im',fn',tb',me',gl',ex',el',co',da'⟩:=c;dsimp only at z1 z2 z3 z4 z5 z6 y1 y2 y3 y4 y5 y6 a1 a2 c1 c2;refine bO 222 [0,1,2,3,4,5,6,7,8,9,10,11,12,70,75,107,112,143,148,183,188,218] func21 ?_;unfold aM;dsimp only;refine dB ?_;refine fZ fun r2 h2=> ?_;intros;refine fZ fun r3 h3=> ?_;intros;refine iT ?_;refine qA ?_;refine qA ?_;refine B9 ?_;refine vY ?_;refine nZ ?_;refine GI ?_;refine jG ?_;refine qJ ?_;refine kL rfl rfl call47 (fun _=>(fT fn fn')) rfl aO bH ?_;refine AW ?_;refine jG ?_;refine vY ?_;refine nZ ?_;refine GI ?_;refine jG ?_;refine vY ?_;refine nZ ?_;refine GI ?_;refine jG ?_;refine GJ ?_;refine CB ?_;refine AU ?_;refine CB ?_;refine kL rfl rfl call71 (fun _=>(NP tb tb')) rfl aO bH ?_;refine AW ?_;refine jG ?_;refine GJ ?_;refine CB ?_;refine AU ?_;refine CB ?_;refine kL rfl rfl call71 (fun _=>(NP me me')) rfl aO bH ?_;refine xS ?_;rw[or7];refine aB rfl ?_ ?_<;>intro g1
 ·have hE:XG ⟨ty,im,fn,tb,me,gl,ex,el,co,da⟩ ⟨ty',im',fn',tb',me',gl',ex',el',co',da'⟩=false:=by rw[VE];unfold eqH;rw[decide_eq_false];rfl;rintro⟨e_ty,e_im,e_fn,e_tb,e_me,e_gl,e_ex⟩;dsimp only at e_ty e_im e_fn e_tb e_me e_gl e_ex;rw[e_ty,e_im,e_fn,e_tb,e_me,e_gl,e_ex]at g1;simp at g1
  refine cV ?_;exact aD aE ⟨by rw[hE];rfl,rfl⟩ aA
 simp only[Bool.or_eq_false_iff,bne_eq_false_iff_eq,Bool.not_eq_false',decide_eq_true_eq]at g1;obtain⟨⟨⟨⟨⟨⟨m1,m2⟩,efn⟩,m3⟩,m4⟩,etb⟩,eme⟩:=g1;refine cV ?_;refine lp (β:=Nat) (fun j=>⟨[(2,.ptr r2 0),(3,.ptr r3 0),(5,.int .i64 j)],[(r3,.box 33 (aM ⟨ty',im',fn',tb',me',gl',ex',el',co',da'⟩)),(r2,.box 33 (aM ⟨ty,im,fn,tb,me,gl,ex,el,co,da⟩))]⟩) (fun j=>j<=ty.length/\ty.take j=ty'.take j) (fun j=>ty.length-j) 0 aH ⟨Am _,rfl⟩ ?_;rintro j ⟨hj,htty⟩;unfold aM;dsimp only;refine kJ ?_;refine aB rfl ?_ ?_<;>intro g4
 ·have hlt:j<ty.length:=by simp at g4;omega
  have hlt2:j<ty'.length:=by omega
  obtain⟨⟨o1,f1⟩,hx⟩:=Aa ty j hlt
  obtain⟨⟨o2,f2⟩,hy⟩:=Aa ty' j hlt2
  refine aI ?_;refine eK (Ac [0,1,2,3,4,5,6,7,8,9,10,11] (Ad 12 (Ac [13,14,15,16,17,18,19,20,21,22,23,24,25,26] (Ad 27 (Ac [28,29] []))))) ?_;refine sK ?_;refine LM rfl call47 (fT o1 o2) rfl aO bH ?_;refine Cv ?_;refine BB ?_;refine AE ?_;refine rL ?_;refine AE ?_;refine aDD rfl rfl rfl call47 (fun _=>(fT f1 f2)) rfl aO bH ?_;refine IK ?_;refine sL ?_;refine aB rfl ?_ ?_<;>intro g6
  ·have hn2:=pT (a:=decide (o1=o2)) (b:=decide (f1=f2)) g6;have hne:(⟨o1,f1⟩:FT)≠⟨o2,f2⟩:=by intro e;cases e;simp at hn2
   have hE:XG ⟨ty,im,fn,tb,me,gl,ex,el,co,da⟩ ⟨ty',im',fn',tb',me',gl',ex',el',co',da'⟩=false:=by rw[VE];unfold eqH;rw[decide_eq_false];rfl;rintro⟨e_ty,e_im,e_fn,e_tb,e_me,e_gl,e_ex⟩;dsimp only at e_ty;rw[e_ty,hy]at hx;exact hne (Option.some.inj hx).symm
   refine cV ?_;exact aD aE ⟨by rw[hE];rfl,rfl⟩ aA
  have hn2:=pU (a:=decide (o1=o2)) (b:=decide (f1=f2)) g6;have hxy:(⟨o1,f1⟩:FT)=⟨o2,f2⟩:=by simp at hn2;rw[hn2.1,hn2.2]
  refine iN ?_;refine⟨j+1,⟨hlt,by rw[Al,Al,htty,hx,hy,hxy]⟩,Ab U, ?_⟩;exact aH
 have ety:ty=ty':=by simp at g4;rwa [Aj U,Aj U]at htty
 refine cV ?_;refine lp (β:=Nat) (fun j=>⟨[(2,.ptr r2 0),(3,.ptr r3 0),(6,.int .i64 j)],[(r3,.box 33 (aM ⟨ty',im',fn',tb',me',gl',ex',el',co',da'⟩)),(r2,.box 33 (aM ⟨ty,im,fn,tb,me,gl,ex,el,co,da⟩))]⟩) (fun j=>j<=im.length/\im.take j=im'.take j) (fun j=>im.length-j) 0 aH ⟨Am _,rfl⟩ ?_;rintro j ⟨hj,htim⟩;unfold aM;dsimp only;refine kJ ?_;refine aB rfl ?_ ?_<;>intro g9
 ·have hlt:j<im.length:=by simp at g9;omega
  have hlt2:j<im'.length:=by omega
  obtain⟨⟨o1,f1,k1⟩,hx⟩:=Aa im j hlt
  obtain⟨⟨o2,f2,k2⟩,hy⟩:=Aa im' j hlt2
  obtain⟨⟨-,p1⟩,-,p2⟩:=a1 _ (Ah hx);obtain⟨⟨-,p3⟩,-,p4⟩:=c1 _ (Ah hy);dsimp only at p1 p2 p3 p4;refine aI ?_;refine eK (Ac [0,1,2,3,4,5,6,7,8,9] (Ad 14 (Ad 14 (Ad 14 (Ad 14 []))))) ?_;refine CC ?_;refine wT ?_;refine CC ?_;refine wT ?_;refine gY 10 11 [(11,false),(12,false),(13,false)] [(10,false),(12,false),(13,false)] (f1:=[]) (f2:=[]) (by kernel_rfl) rfl rfl ?_ ?_ (.inl rfl) (.inl rfl)
  ·apply FQ;infer_instance;rfl;exact rK;refine gD fun r7 h7=> ?_;intros;apply dal;rfl;infer_instance;rfl;exact rK;refine gD fun r8 h8=> ?_;intros;refine XQ ?_;refine EH ?_;refine eY ?_;refine pD ?_;refine lo (rF (E rfl) (E rfl)) rfl ?_;refine qJ ?_;refine aMH ?_;refine jG ?_;refine qJ ?_;refine GI ?_;refine uY ?_;refine aB rfl ?_ ?_<;>intro g12
   ·have hn2:=uH (a:=(cB o1).toList==(cB o2).toList) (b:=(cB f1).toList==(cB f2).toList) (c:=k1==k2) g12;have hne:(⟨o1,f1,k1⟩:Im)≠⟨o2,f2,k2⟩:=by intro e;cases e;simp at hn2
    have hE:XG ⟨ty,im,fn,tb,me,gl,ex,el,co,da⟩ ⟨ty',im',fn',tb',me',gl',ex',el',co',da'⟩=false:=by rw[VE];unfold eqH;rw[decide_eq_false];rfl;rintro⟨e_ty,e_im,e_fn,e_tb,e_me,e_gl,e_ex⟩;dsimp only at e_im;rw[e_im,hy]at hx;exact hne (Option.some.inj hx).symm
    refine cV ?_;exact aD aE ⟨by rw[hE];rfl,rfl⟩ aA
   have hn2:=uG (a:=(cB o1).toList==(cB o2).toList) (b:=(cB f1).toList==(cB f2).toList) (c:=k1==k2) g12;rw[jL p1 p3,jL p2 p4]at hn2;have hxy:(⟨o1,f1,k1⟩:Im)=⟨o2,f2,k2⟩:=by simp at hn2;rw[hn2.1.1,hn2.1.2,hn2.2]
   refine iN ?_;refine⟨j+1,⟨hlt,by rw[Al,Al,htim,hx,hy,hxy]⟩,Ab U, ?_⟩;exact aH
  ·apply FQ;infer_instance;rfl;exact rK;refine bD fun r8 h8=> ?_;repeat rcases h8 with⟨_,h8⟩
   apply dal;rfl;infer_instance;rfl;exact rK;refine bD fun r7 h7=> ?_;repeat rcases h7 with⟨_,h7⟩
   refine XQ ?_;refine EH ?_;refine eY ?_;refine pD ?_;refine lo (rF (E rfl) (E rfl)) rfl ?_;refine qJ ?_;refine aMH ?_;refine jG ?_;refine qJ ?_;refine GI ?_;refine uY ?_;refine aB rfl ?_ ?_<;>intro g12
   ·have hn2:=uH (a:=(cB o1).toList==(cB o2).toList) (b:=(cB f1).toList==(cB f2).toList) (c:=k1==k2) g12;have hne:(⟨o1,f1,k1⟩:Im)≠⟨o2,f2,k2⟩:=by intro e;cases e;simp at hn2
    have hE:XG ⟨ty,im,fn,tb,me,gl,ex,el,co,da⟩ ⟨ty',im',fn',tb',me',gl',ex',el',co',da'⟩=false:=by rw[VE];unfold eqH;rw[decide_eq_false];rfl;rintro⟨e_ty,e_im,e_fn,e_tb,e_me,e_gl,e_ex⟩;dsimp only at e_im;rw[e_im,hy]at hx;exact hne (Option.some.inj hx).symm
    refine cV ?_;exact aD aE ⟨by rw[hE];rfl,rfl⟩ aA
   have hn2:=uG (a:=(cB o1).toList==(cB o2).toList) (b:=(cB f1).toList==(cB f2).toList) (c:=k1==k2) g12;rw[jL p1 p3,jL p2 p4]at hn2;have hxy:(⟨o1,f1,k1⟩:Im)=⟨o2,f2,k2⟩:=by simp at hn2;rw[hn2.1.1,hn2.1.2,hn2.2]
   refine iN ?_;refine⟨j+1,⟨hlt,by rw[Al,Al,htim,hx,hy,hxy]⟩,Ab U, ?_⟩;exact aH
 have eim:im=im':=by simp at g9;rwa [Aj U,Aj U]at htim
 refine cV ?_;refine lp (β:=Nat) (fun j=>⟨[(2,.ptr r2 0),(3,.ptr r3 0),(9,.int .i64 j)],[(r3,.box 33 (aM ⟨ty',im',fn',tb',me',gl',ex',el',co',da'⟩)),(r2,.box 33 (aM ⟨ty,im,fn,tb,me,gl,ex,el,co,da⟩))]⟩) (fun j=>j<=gl.length/\gl.take j=gl'.take j) (fun j=>gl.length-j) 0 aH ⟨Am _,rfl⟩ ?_;rintro j ⟨hj,htgl⟩;unfold aM;dsimp only;refine kJ ?_;refine aB rfl ?_ ?_<;>intro g15
 ·have hlt:j<gl.length:=by simp at g15;omega
  have hlt2:j<gl'.length:=by omega
  obtain⟨⟨o1,f1,k1⟩,hx⟩:=Aa gl j hlt
  obtain⟨⟨o2,f2,k2⟩,hy⟩:=Aa gl' j hlt2
  refine aI ?_;refine eK (Ac [0,1,2,3,4,5,6,7,8,9] (Ad 14 (Ad 14 (Ad 14 (Ad 14 []))))) ?_;refine CC ?_;refine wT ?_;refine CC ?_;refine wT ?_;refine gY 10 11 [(11,false),(12,false),(13,false)] [(10,false),(12,false),(13,false)] (f1:=[]) (f2:=[]) (by kernel_rfl) rfl rfl ?_ ?_ (.inl rfl) (.inl rfl)
  ·apply FQ;infer_instance;rfl;exact rK;refine gD fun r10 h10=> ?_;intros;apply dal;rfl;infer_instance;rfl;exact rK;refine gD fun r11 h11=> ?_;intros;refine XQ ?_;refine EH ?_;refine eY ?_;refine pD ?_;refine lo (rD (E rfl) (E rfl)) rfl ?_;refine xT ?_;refine AU ?_;refine GK ?_;refine GI ?_;refine jG ?_;refine xT ?_;refine AU ?_;refine GK ?_;refine GI ?_;refine uY ?_;refine aB rfl ?_ ?_<;>intro g18
   ·have hn2:=uH (a:=o1==o2) (b:=f1==f2) (c:=k1==k2) g18;have hne:(⟨o1,f1,k1⟩:Gl)≠⟨o2,f2,k2⟩:=by intro e;cases e;simp at hn2
    have hE:XG ⟨ty,im,fn,tb,me,gl,ex,el,co,da⟩ ⟨ty',im',fn',tb',me',gl',ex',el',co',da'⟩=false:=by rw[VE];unfold eqH;rw[decide_eq_false];rfl;rintro⟨e_ty,e_im,e_fn,e_tb,e_me,e_gl,e_ex⟩;dsimp only at e_gl;rw[e_gl,hy]at hx;exact hne (Option.some.inj hx).symm
    refine cV ?_;exact aD aE ⟨by rw[hE];rfl,rfl⟩ aA
   have hn2:=uG (a:=o1==o2) (b:=f1==f2) (c:=k1==k2) g18;have hxy:(⟨o1,f1,k1⟩:Gl)=⟨o2,f2,k2⟩:=by simp at hn2;rw[hn2.1.1,hn2.1.2,hn2.2]
   refine iN ?_;refine⟨j+1,⟨hlt,by rw[Al,Al,htgl,hx,hy,hxy]⟩,Ab U, ?_⟩;exact aH
  ·apply FQ;infer_instance;rfl;exact rK;refine bD fun r11 h11=> ?_;repeat rcases h11 with⟨_,h11⟩
   apply dal;rfl;infer_instance;rfl;exact rK;refine bD fun r10 h10=> ?_;repeat rcases h10 with⟨_,h10⟩
   refine XQ ?_;refine EH ?_;refine eY ?_;refine pD ?_;refine lo (rD (E rfl) (E rfl)) rfl ?_;refine xT ?_;refine AU ?_;refine GK ?_;refine GI ?_;refine jG ?_;refine xT ?_;refine AU ?_;refine GK ?_;refine GI ?_;refine uY ?_;refine aB rfl ?_ ?_<;>intro g18
   ·have hn2:=uH (a:=o1==o2) (b:=f1==f2) (c:=k1==k2) g18;have hne:(⟨o1,f1,k1⟩:Gl)≠⟨o2,f2,k2⟩:=by intro e;cases e;simp at hn2
    have hE:XG ⟨ty,im,fn,tb,me,gl,ex,el,co,da⟩ ⟨ty',im',fn',tb',me',gl',ex',el',co',da'⟩=false:=by rw[VE];unfold eqH;rw[decide_eq_false];rfl;rintro⟨e_ty,e_im,e_fn,e_tb,e_me,e_gl,e_ex⟩;dsimp only at e_gl;rw[e_gl,hy]at hx;exact hne (Option.some.inj hx).symm
    refine cV ?_;exact aD aE ⟨by rw[hE];rfl,rfl⟩ aA
   have hn2:=uG (a:=o1==o2) (b:=f1==f2) (c:=k1==k2) g18;have hxy:(⟨o1,f1,k1⟩:Gl)=⟨o2,f2,k2⟩:=by simp at hn2;rw[hn2.1.1,hn2.1.2,hn2.2]
   refine iN ?_;refine⟨j+1,⟨hlt,by rw[Al,Al,htgl,hx,hy,hxy]⟩,Ab U, ?_⟩;exact aH
 have egl:gl=gl':=by simp at g15;rwa [Aj U,Aj U]at htgl
 refine cV ?_;refine lp (β:=Nat) (fun j=>⟨[(2,.ptr r2 0),(3,.ptr r3 0),(12,.int .i64 j)],[(r3,.box 33 (aM ⟨ty',im',fn',tb',me',gl',ex',el',co',da'⟩)),(r2,.box 33 (aM ⟨ty,im,fn,tb,me,gl,ex,el,co,da⟩))]⟩) (fun j=>j<=ex.length/\ex.take j=ex'.take j) (fun j=>ex.length-j) 0 aH ⟨Am _,rfl⟩ ?_;rintro j ⟨hj,htex⟩;unfold aM;dsimp only;refine kJ ?_;refine aB rfl ?_ ?_<;>intro g21
 ·have hlt:j<ex.length:=by simp at g21;omega
  have hlt2:j<ex'.length:=by omega
  obtain⟨⟨o1,f1⟩,hx⟩:=Aa ex j hlt
  obtain⟨⟨o2,f2⟩,hy⟩:=Aa ex' j hlt2
  obtain⟨-,p1⟩:=a2 _ (Ah hx);obtain⟨-,p3⟩:=c2 _ (Ah hy);dsimp only at p1 p3;refine aI ?_;refine eK (Ac [0,1,2,3,4,5,6,7,8,9,10,11,12,13,14,15,16,17,18,19,20,21,22,23,24,25,26,27] []) ?_;refine sK ?_;refine aMI ?_;refine BB ?_;refine AE ?_;refine rL ?_;refine AE ?_;refine aJT ?_;refine sL ?_;refine aB rfl ?_ ?_<;>intro g23
  ·have hn2:=pT (a:=(cB o1).toList==(cB o2).toList) (b:=f1==f2) g23;have hne:(⟨o1,f1⟩:Ex)≠⟨o2,f2⟩:=by intro e;cases e;simp at hn2
   have hE:XG ⟨ty,im,fn,tb,me,gl,ex,el,co,da⟩ ⟨ty',im',fn',tb',me',gl',ex',el',co',da'⟩=false:=by rw[VE];unfold eqH;rw[decide_eq_false];rfl;rintro⟨e_ty,e_im,e_fn,e_tb,e_me,e_gl,e_ex⟩;dsimp only at e_ex;rw[e_ex,hy]at hx;exact hne (Option.some.inj hx).symm
   refine cV ?_;exact aD aE ⟨by rw[hE];rfl,rfl⟩ aA
  have hn2:=pU (a:=(cB o1).toList==(cB o2).toList) (b:=f1==f2) g23;rw[jL p1 p3]at hn2;have hxy:(⟨o1,f1⟩:Ex)=⟨o2,f2⟩:=by simp at hn2;rw[hn2.1,hn2.2]
  refine iN ?_;refine⟨j+1,⟨hlt,by rw[Al,Al,htex,hx,hy,hxy]⟩,Ab U, ?_⟩;exact aH
 have eex:ex=ex':=by simp at g21;rwa [Aj U,Aj U]at htex
 refine mE ?_;refine jY ?_;refine kY call72 hpt rfl aO bH ?_;refine cN ?_;have hE:XG ⟨ty,im,fn,tb,me,gl,ex,el,co,da⟩ ⟨ty',im',fn',tb',me',gl',ex',el',co',da'⟩=eqP ⟨ty,im,fn,tb,me,gl,ex,el,co,da⟩ ⟨ty',im',fn',tb',me',gl',ex',el',co',da'⟩:=by rw[hHP];unfold eqH;rw[decide_eq_true ⟨ety,eim,efn,etb,eme,egl,eex⟩,Bool.true_and]
 exact aD aE ⟨by rw[hE];rfl,rfl⟩ aA
def eX {α:Type} (f:α->α) (l:List α) (j:Nat):List α:=(l.take j).map f
theorem oY{α:Type}{f:α->α}{l:List α}{j:Nat}{x:α}(h:l[j]? =some x):eX f l (j+1)=eX f l j++ [f x]:=by
 unfold eX;rw[Al,h];simp
theorem rX{α:Type}{f:α->α}{l:List α}{j:Nat}(h:j<=l.length):(eX f l j).length=j:=by unfold eX;simp;omega
theorem rY{α:Type}{f:α->α}{l:List α}{j n:Nat}(h1:j<=l.length)(h2:j<=n)(h:¬(j<l.length/\j<n)):eX f l j=eX f l n:=by
 have:j=n\/j=l.length:=by omega
 rcases this with rfl|rfl
 ·rfl
 ·unfold eX;rw[Aw,Aj h2]
def yR (x:FT):FT:=⟨x.pr.take 34,x.rs.take 3⟩
def vI (x:Im):Im:=⟨x.mod.take 20,x.nm.take 20,x.ty⟩
def DJ (x:Ex):Ex:=⟨x.nm.take 20,x.fn⟩
def EX (x:El):El:=⟨x.off,x.fs.take 55⟩
def EY (x:Co):Co:=⟨x.ls.take 34,qL x.bd 120⟩
def JT (x:Da):Da:=⟨x.off,x.bs.take 1010⟩
def DK (x:Gl):Gl:=x
def aHH (m:Md):Md:=⟨eX yR m.ty 18,eX vI m.im 18,m.fn.take 18,m.tb,m.me,eX DK m.gl 18,eX DJ m.ex 18,eX EX m.el 18,eX EY m.co 18,eX JT m.da 18⟩
structure Md.A (m:Md):Prop where
 ty:m.ty.length<=maxLen/\∀x∈m.ty,x.pr.length<=maxLen/\x.rs.length<=maxLen
 im:m.im.length<=maxLen/\∀x∈m.im,x.mod.length<=maxLen/\x.nm.length<=maxLen
 fn:m.fn.length<=maxLen
 gl:m.gl.length<=maxLen
 ex:m.ex.length<=maxLen/\∀x∈m.ex,x.nm.length<=maxLen
 el:m.el.length<=maxLen/\∀x∈m.el,x.fs.length<=maxLen
 co:m.co.length<=maxLen/\∀x∈m.co,x.ls.length<=maxLen/\x.bd.length<=maxLen/\∀i∈x.bd,i.l.length<=maxLen
 da:m.da.length<=maxLen/\∀x∈m.da,x.bs.length<=maxLen
theorem vJ{a b:Nat}{x:Nat}(h:(if decide ((x:Int)<(a:Nat))=true then decide ((x:Int)<(b:Nat))else false)=true):x<a/\x<b:=by
 rw[iU]at h;simp only[Ap,decide_eq_true_eq]at h;omega
theorem sW{a b:Nat}{x:Nat}(h:(if decide ((x:Int)<(a:Nat))=true then decide ((x:Int)<(b:Nat))else false)=false):¬(x<a/\x<b):=by
 rintro⟨h1,h2⟩;rw[decide_eq_true U,Dc rfl,decide_eq_true U]at h;cases h
theorem uI(l:List Int)(hl:l.length<=maxLen)(n:Nat)(hn:n<=1000):SCall prog 53 [.ro 1 (l.map aK) .any,.int .i64 n] [] (fun y Y=>∃q,y=.own q 0 (l.take n).length/\Y=[(q,.arr 3 1 ((l.take n).map aK))]):=by
 unfold maxLen at hl;refine bO 26 [0,1,4,5,6,15] func53 ?_;refine oB ?_;refine bQ 5 3 1 V rfl V (bD fun q0 hq0=> ?_);repeat rcases hq0 with⟨_,hq0⟩
 refine kI ?_;refine lp (β:=Nat×Nat) (fun b=>⟨[(0,.ro 1 (l.map aK) .any),(1,.int .i64 n),(5,.own b.1 0 (l.take b.2).length),(6,.int .i64 b.2)],[(b.1,.arr 3 1 ((l.take b.2).map aK))]⟩) (fun b=>b.2<=n/\b.2<=l.length) (fun b=>n-b.2) (q0,0) aH ⟨Am _,Am _⟩ ?_;rintro⟨q,j⟩ ⟨hj,hjl⟩;dsimp only at hj hjl⊢;refine AB ?_;refine xL ?_;refine jZ ?_;refine GF ?_;refine qO ?_;refine aB rfl ?_ ?_<;>intro g3
 ·obtain⟨hl1,hl2⟩:=vJ g3;obtain⟨x,hx⟩:=Aa l j hl1
  have hnx:l.take (j+1)=l.take j++ [x]:=by rw[Al,hx];rfl
  have htl:(l.take j).length=j:=by simp;omega
  refine cJ ?_;refine nX ?_;refine eN fun r23 h23=> ?_;intros;refine kD ((l.take j++ [x]).map aK) (l.take j++ [x]).length ?_;refine bG fun r24 h24=> ?_;intros;refine gX ?_;refine xK ?_;refine⟨(r24,j+1),⟨hl2,hl1⟩,Ab U, ?_⟩;dsimp only;rw[hnx];exact aH
 have he:l.take j=l.take n:=by have:=sW g3;have:j=n\/j=l.length:=U;rcases this with rfl|rfl;rfl;rw[Aw,Aj hj]
 rw[he];refine fC ?_;exact aD aE ⟨q,by rfl,rfl⟩ aA
theorem JU(s:List Nat)(hl:s.length<=maxLen):SCall prog 54 [.str (cB s)] [] (fun y Y=>y=.str (cB (s.take 20))/\Y=[]):=by
 unfold maxLen at hl;refine bO 9 [0,2,5] func54 ?_;refine fK ?_;refine Cw ?_;rw[jO];refine tP ?_;refine aB rfl ?_ ?_<;>intro g1
 ·have hlt:20<s.length:=by simp at g1;omega
  have hE:s.take 20=(s.drop 0).take (20-0):=rfl;refine dG ?_;refine lo (AK (h:=20) (E rfl) OB.none (OB.some (E rfl) (fun _=>rfl)) (fun _=>⟨Am _,U⟩)) rfl ?_;refine cN ?_;exact aD aE ⟨by rw[hE];rfl,rfl⟩ aA
 have hE:s.take 20=s:=Aj (by simp at g1;omega);refine fC ?_;exact aD aE ⟨by rw[hE];rfl,rfl⟩ aA
theorem aEG(m:Md)(h:m.A):SCall prog 17 [.agg (aM m)] [] (fun y Y=>y=.agg (aM (aHH m))/\Y=[]):=by
 obtain⟨⟨kz1,kz2⟩,⟨kz3,kz4⟩,kz5,kz6,⟨kz7,kz8⟩,⟨kz9,kz10⟩,⟨kz11,kz12⟩,⟨kz13,kz14⟩⟩:=h;obtain⟨ty,im,fn,tb,me,gl,ex,el,co,da⟩:=m;dsimp only at kz1 kz2 kz3 kz4 kz5 kz6 kz7 kz8 kz9 kz10 kz11 kz12 kz13 kz14;have ky1:=kz1;have ky3:=kz3;have ky6:=kz6;have ky7:=kz7;have ky9:=kz9;have ky11:=kz11;have ky13:=kz13;unfold maxLen at ky1 ky3 ky6 ky7 ky9 ky11 ky13;refine bO 231 [0,1,2,3,4,5,6,7,8,9,10,27,58,95,116,146,176,207] func17 ?_;unfold aM;dsimp only;refine dB ?_;refine fZ fun r1 h1=> ?_;intros;refine iD fun r2 h2=> ?_;intros;refine iM ?_;refine sja (β:=Nat×Nat) (fun b=>⟨[(1,.ptr r1 0),(2,.ptr r2 0),(3,.ptr b.1 0)],[(b.1,.box 33 [.ro 0 [] .nil,.ro 0 [] .nil,.own b.2 0 (fn.take 18).length,.bool tb.has,.int .i64 tb.mn,.int .i64 tb.mx,.bool me.has,.int .i64 me.mn,.int .i64 me.mx,.ro 0 [] .nil,.ro 0 [] .nil,.ro 0 [] .nil,.ro 0 [] .nil,.ro 0 [] .nil]),(b.2,.arr 3 1 ((fn.take 18).map aK)),(r1,.box 33 (aM ⟨ty,im,fn,tb,me,gl,ex,el,co,da⟩)),(r2,.box 33 [.ro 0 [] .nil,.ro 0 [] .nil,.ro 0 [] .nil,.bool false,.int .i64 0,.int .i64 0,.bool false,.int .i64 0,.int .i64 0,.ro 0 [] .nil,.ro 0 [] .nil,.ro 0 [] .nil,.ro 0 [] .nil,.ro 0 [] .nil])]⟩) (fun b=>(Nq b.1 b.2/\Nq b.1 r1/\Nq b.1 r2)/\Nq b.2 r1/\Nq b.2 r2) ?_ ?_
 ·refine eK (Ac [0,1,3,4,5,6] (Ad 10 (Ad 10 (Ad 10 (Ad 10 []))))) ?_;refine eQ ?_;refine IH ?_;refine II ?_;refine IH ?_;refine II ?_;refine gY 2 8 [(7,true),(8,false),(9,false)] [(2,false),(7,true),(9,false)] (f1:=[]) (f2:=[]) (by kernel_rfl) rfl rfl ?_ ?_ (.inl rfl) (.inl rfl)
  ·refine lJ call53 (uI fn kz5 18 V) (cL rfl) ?_;rintro _ Y' ⟨q13,rfl,rfl⟩ h13
   replace h13:=bU h13;repeat rcases h13 with⟨_,h13⟩
   apply bC;exact aU;refine SJ ?_;apply dal;rfl;infer_instance;rfl;exact rK;refine gD fun r3 h3=> ?_;intros;refine EH ?_;refine an ?_;exact⟨(r3,q13),⟨⟨Ae r3 q13,Ae r3 r1,Ae r3 r2⟩,Ae q13 r1,Ae q13 r2⟩,aH⟩
  ·apply FQ;infer_instance;rfl;exact rK;refine bD fun r3 h3=> ?_;repeat rcases h3 with⟨_,h3⟩
   refine mI rfl call53 (uI fn kz5 18 V) rfl bL kK ?_;rintro _ Y' ⟨q13,rfl,rfl⟩ h13
   replace h13:=bU h13;repeat rcases h13 with⟨_,h13⟩
   apply bC;exact aU;refine SJ ?_;refine EH ?_;refine an ?_;exact⟨(r3,q13),⟨⟨Ae r3 q13,Ae r3 r1,Ae r3 r2⟩,Ae q13 r1,Ae q13 r2⟩,aH⟩
 rintro⟨r3,q13⟩ ⟨⟨n1,n2,n3⟩,n4,n5⟩;dsimp only at n1 n2 n3 n4 n5⊢;refine dO (gO (r:=r3) (q:=q13) bK aY (.cons (.refl _) (.cons (.refl _) (.cons (aL bR X) (Df (Df (.cons (.refl _) (.cons (.refl _) (.cons (.refl _) .nil))))))))) ?_;unfold aM;dsimp only;refine cV ?_;refine bN (ks:=[0,1,2,3,4,5,6,7,8,9,10,27,58,95,116,146,176,207]) r3 0 50 2 V bR rfl V fun qty hqty=> ?_
 simp only[aN,aQ,and_true]at hqty;repeat rcases hqty with⟨_,hqty⟩
 apply Exists.intro;apply Bl;exact bK;refine lp (β:=Nat×Nat) (fun b=>⟨[(1,.ptr r1 0),(2,.ptr r2 0),(3,.ptr r3 0),(4,.int .i64 b.2)],[(r3,.box 33 [.own b.1 0 (eX yR ty b.2).length,.ro 0 [] .nil,.ro 1 ((fn.take 18).map aK) .any,.bool tb.has,.int .i64 tb.mn,.int .i64 tb.mx,.bool me.has,.int .i64 me.mn,.int .i64 me.mx,.ro 0 [] .nil,.ro 0 [] .nil,.ro 0 [] .nil,.ro 0 [] .nil,.ro 0 [] .nil]),(b.1,.arr 50 2 ((eX yR ty b.2).map cD)),(r1,.box 33 (aM ⟨ty,im,fn,tb,me,gl,ex,el,co,da⟩)),(r2,.box 33 [.ro 0 [] .nil,.ro 0 [] .nil,.ro 0 [] .nil,.bool false,.int .i64 0,.int .i64 0,.bool false,.int .i64 0,.int .i64 0,.ro 0 [] .nil,.ro 0 [] .nil,.ro 0 [] .nil,.ro 0 [] .nil,.ro 0 [] .nil])]⟩) (fun b=>(b.2<=ty.length/\b.2<=18)/\Nq b.1 r1/\Nq b.1 r2/\Nq b.1 r3) (fun b=>18-b.2) (qty,0) aH ⟨⟨Am _,Am _⟩,Ae qty r1,Ae qty r2,Ae qty r3⟩ ?_;rintro⟨q1,j⟩ ⟨⟨hj1,hj2⟩,e1,e2,e3⟩;dsimp only at hj1 hj2 e1 e2 e3⊢;unfold aM;dsimp only;refine OY ?_;refine xL ?_;refine IJ ?_;refine qO ?_;refine aB rfl ?_ ?_<;>intro g3
 ·obtain⟨hl1,hl2⟩:=vJ (b:=18) g3;obtain⟨⟨pr,rs⟩,hx⟩:=Aa ty j hl1
  have hol:=rX (f:=yR) hj1;have hnx:=oY (f:=yR) hx;obtain⟨hp1,hp2⟩:=kz2 _ (Ah hx);dsimp only at hp1 hp2;refine aI ?_;refine eK (Ac [0,1,2,3,4,5,6,7,9,10,11,12,13,14] (Ad 8 (Ad 15 (Ac [16] (Ad 17 (Ad 18 (Ac [19] (Ad 20 [])))))))) ?_;refine eQ ?_;refine sK ?_;refine mI rfl call53 (uI pr hp1 34 V) rfl bL kK ?_;rintro _ Y' ⟨q38,rfl,rfl⟩ h38
  replace h38:=bU h38;repeat rcases h38 with⟨_,h38⟩
  apply bC;exact aU;refine YI (j:=38) rfl aY (aL bR X) ?_;refine mI rfl call53 (uI rs hp2 3 V) rfl bL kK ?_;rintro _ Y' ⟨q45,rfl,rfl⟩ h45
  replace h45:=bU h45;repeat rcases h45 with⟨_,h45⟩
  apply bC;exact aU;refine YI (j:=45) rfl aY (aL bR X) ?_;refine SJ ?_;refine CH fun r47 h47=> ?_;intros;refine eW rfl ((eX yR ty j++ [yR ⟨pr,rs⟩]).map cD) (eX yR ty j++ [yR ⟨pr,rs⟩]).length ?_;refine bG fun r48 h48=> ?_;intros;refine xQ ?_;refine⟨(r48,j+1),⟨⟨hl1,hl2⟩,Ae r48 r1,Ae r48 r2,Ae r48 r3⟩,Ab U, ?_⟩;dsimp only;rw[hnx];exact aH
 have he:=rY (f:=yR) hj1 hj2 (sW (b:=18) g3);rw[he];refine dO (gO (r:=r3) (q:=q1) bK aY (.cons (aL bR X) (Df (Df (Df (.cons (.refl _) .nil)))))) ?_;refine cV ?_;refine bN (ks:=[0,1,2,3,4,5,6,7,8,9,10,27,58,95,116,146,176,207]) r3 1 64 3 V bR rfl V fun qim hqim=> ?_
 simp only[aN,aQ,and_true]at hqim;repeat rcases hqim with⟨_,hqim⟩
 apply Exists.intro;apply Bl;exact bK;refine lp (β:=Nat×Nat) (fun b=>⟨[(1,.ptr r1 0),(2,.ptr r2 0),(3,.ptr r3 0),(5,.int .i64 b.2)],[(r3,.box 33 [.ro 2 ((eX yR ty 18).map cD) .any,.own b.1 0 (eX vI im b.2).length,.ro 1 ((fn.take 18).map aK) .any,.bool tb.has,.int .i64 tb.mn,.int .i64 tb.mx,.bool me.has,.int .i64 me.mn,.int .i64 me.mx,.ro 0 [] .nil,.ro 0 [] .nil,.ro 0 [] .nil,.ro 0 [] .nil,.ro 0 [] .nil]),(b.1,.arr 64 3 ((eX vI im b.2).map eE)),(r1,.box 33 (aM ⟨ty,im,fn,tb,me,gl,ex,el,co,da⟩)),(r2,.box 33 [.ro 0 [] .nil,.ro 0 [] .nil,.ro 0 [] .nil,.bool false,.int .i64 0,.int .i64 0,.bool false,.int .i64 0,.int .i64 0,.ro 0 [] .nil,.ro 0 [] .nil,.ro 0 [] .nil,.ro 0 [] .nil,.ro 0 [] .nil])]⟩) (fun b=>(b.2<=im.length/\b.2<=18)/\Nq b.1 r1/\Nq b.1 r2/\Nq b.1 r3) (fun b=>18-b.2) (qim,0) aH ⟨⟨Am _,Am _⟩,Ae qim r1,Ae qim r2,Ae qim r3⟩ ?_;rintro⟨q1,j⟩ ⟨⟨hj1,hj2⟩,e1,e2,e3⟩;dsimp only at hj1 hj2 e1 e2 e3⊢;unfold aM;dsimp only;refine OY ?_;refine xL ?_;refine IJ ?_;refine qO ?_;refine aB rfl ?_ ?_<;>intro g7
 ·obtain⟨hl1,hl2⟩:=vJ (b:=18) g7;obtain⟨⟨md,nm,tt⟩,hx⟩:=Aa im j hl1
  have hol:=rX (f:=vI) hj1;have hnx:=oY (f:=vI) hx;obtain⟨hp1,hp2⟩:=kz4 _ (Ah hx);dsimp only at hp1 hp2;refine aI ?_;refine eK (Ac [0,1,2,3,4,5,6,7,9,10,11,12,13,14,16,17,18,19,20,21] (Ad 8 (Ad 15 (Ac [22] (Ad 23 (Ad 24 (Ac [25] (Ad 26 [])))))))) ?_;refine eQ ?_;refine sK ?_;refine BA ?_;refine LM rfl call54 (JU md hp1) rfl aO bH ?_;refine LM rfl call54 (JU nm hp2) rfl aO bH ?_;refine SJ ?_;refine CH fun r84 h84=> ?_;intros;refine eW rfl ((eX vI im j++ [vI ⟨md,nm,tt⟩]).map eE) (eX vI im j++ [vI ⟨md,nm,tt⟩]).length ?_;refine bG fun r85 h85=> ?_;intros;refine xQ ?_;refine⟨(r85,j+1),⟨⟨hl1,hl2⟩,Ae r85 r1,Ae r85 r2,Ae r85 r3⟩,Ab U, ?_⟩;dsimp only;rw[hnx];exact aH
 have he:=rY (f:=vI) hj1 hj2 (sW (b:=18) g7);rw[he];refine dO (gO (r:=r3) (q:=q1) bK aY (.cons (.refl _) (.cons (aL bR X) (Df (Df (.cons (.refl _) (.cons (.refl _) (.cons (.refl _) (.cons (.refl _) .nil))))))))) ?_;refine cV ?_;refine bN (ks:=[0,1,2,3,4,5,6,7,8,9,10,27,58,95,116,146,176,207]) r3 9 73 3 V bR rfl V fun qgl hqgl=> ?_
 simp only[aN,aQ,and_true]at hqgl;repeat rcases hqgl with⟨_,hqgl⟩
 apply Exists.intro;apply Bl;exact bK;refine lp (β:=Nat×Nat) (fun b=>⟨[(1,.ptr r1 0),(2,.ptr r2 0),(3,.ptr r3 0),(6,.int .i64 b.2)],[(r3,.box 33 [.ro 2 ((eX yR ty 18).map cD) .any,.ro 3 ((eX vI im 18).map eE) .any,.ro 1 ((fn.take 18).map aK) .any,.bool tb.has,.int .i64 tb.mn,.int .i64 tb.mx,.bool me.has,.int .i64 me.mn,.int .i64 me.mx,.own b.1 0 (eX DK gl b.2).length,.ro 0 [] .nil,.ro 0 [] .nil,.ro 0 [] .nil,.ro 0 [] .nil]),(b.1,.arr 73 3 ((eX DK gl b.2).map dX)),(r1,.box 33 (aM ⟨ty,im,fn,tb,me,gl,ex,el,co,da⟩)),(r2,.box 33 [.ro 0 [] .nil,.ro 0 [] .nil,.ro 0 [] .nil,.bool false,.int .i64 0,.int .i64 0,.bool false,.int .i64 0,.int .i64 0,.ro 0 [] .nil,.ro 0 [] .nil,.ro 0 [] .nil,.ro 0 [] .nil,.ro 0 [] .nil])]⟩) (fun b=>(b.2<=gl.length/\b.2<=18)/\Nq b.1 r1/\Nq b.1 r2/\Nq b.1 r3) (fun b=>18-b.2) (qgl,0) aH ⟨⟨Am _,Am _⟩,Ae qgl r1,Ae qgl r2,Ae qgl r3⟩ ?_;rintro⟨q1,j⟩ ⟨⟨hj1,hj2⟩,e1,e2,e3⟩;dsimp only at hj1 hj2 e1 e2 e3⊢;unfold aM;dsimp only;refine OY ?_;refine xL ?_;refine IJ ?_;refine qO ?_;refine aB rfl ?_ ?_<;>intro g11
 ·obtain⟨hl1,hl2⟩:=vJ (b:=18) g11;obtain⟨x,hx⟩:=Aa gl j hl1
  have hol:=rX (f:=DK) hj1;have hnx:=oY (f:=DK) hx;refine aI ?_;refine eK (Ac [0,1,2,3,4,5,6] (Ad 7 (Ad 8 (Ac [9] (Ad 10 []))))) ?_;refine eQ ?_;refine CC ?_;refine wT ?_;refine CH fun r105 h105=> ?_;intros;refine eW rfl ((eX DK gl j++ [DK x]).map dX) (eX DK gl j++ [DK x]).length ?_;refine bG fun r106 h106=> ?_;intros;refine xQ ?_;refine⟨(r106,j+1),⟨⟨hl1,hl2⟩,Ae r106 r1,Ae r106 r2,Ae r106 r3⟩,Ab U, ?_⟩;dsimp only;rw[hnx];exact aH
 have he:=rY (f:=DK) hj1 hj2 (sW (b:=18) g11);rw[he];refine dO (gO (r:=r3) (q:=q1) bK aY (Df (Df (.cons (.refl _) (.cons (aL bR X) (.cons (.refl _) (.cons (.refl _) (.cons (.refl _) (.cons (.refl _) .nil))))))))) ?_;refine cV ?_;refine bN (ks:=[0,1,2,3,4,5,6,7,8,9,10,27,58,95,116,146,176,207]) r3 10 66 2 V bR rfl V fun qex hqex=> ?_
 simp only[aN,aQ,and_true]at hqex;repeat rcases hqex with⟨_,hqex⟩
 apply Exists.intro;apply Bl;exact bK;refine lp (β:=Nat×Nat) (fun b=>⟨[(1,.ptr r1 0),(2,.ptr r2 0),(3,.ptr r3 0),(7,.int .i64 b.2)],[(r3,.box 33 [.ro 2 ((eX yR ty 18).map cD) .any,.ro 3 ((eX vI im 18).map eE) .any,.ro 1 ((fn.take 18).map aK) .any,.bool tb.has,.int .i64 tb.mn,.int .i64 tb.mx,.bool me.has,.int .i64 me.mn,.int .i64 me.mx,.ro 3 ((eX DK gl 18).map dX) .any,.own b.1 0 (eX DJ ex b.2).length,.ro 0 [] .nil,.ro 0 [] .nil,.ro 0 [] .nil]),(b.1,.arr 66 2 ((eX DJ ex b.2).map dD)),(r1,.box 33 (aM ⟨ty,im,fn,tb,me,gl,ex,el,co,da⟩)),(r2,.box 33 [.ro 0 [] .nil,.ro 0 [] .nil,.ro 0 [] .nil,.bool false,.int .i64 0,.int .i64 0,.bool false,.int .i64 0,.int .i64 0,.ro 0 [] .nil,.ro 0 [] .nil,.ro 0 [] .nil,.ro 0 [] .nil,.ro 0 [] .nil])]⟩) (fun b=>(b.2<=ex.length/\b.2<=18)/\Nq b.1 r1/\Nq b.1 r2/\Nq b.1 r3) (fun b=>18-b.2) (qex,0) aH ⟨⟨Am _,Am _⟩,Ae qex r1,Ae qex r2,Ae qex r3⟩ ?_;rintro⟨q1,j⟩ ⟨⟨hj1,hj2⟩,e1,e2,e3⟩;dsimp only at hj1 hj2 e1 e2 e3⊢;unfold aM;dsimp only;refine OY ?_;refine xL ?_;refine IJ ?_;refine qO ?_;refine aB rfl ?_ ?_<;>intro g15
 ·obtain⟨hl1,hl2⟩:=vJ (b:=18) g15;obtain⟨⟨nm,ff⟩,hx⟩:=Aa ex j hl1
  have hol:=rX (f:=DJ) hj1;have hnx:=oY (f:=DJ) hx;have hp1:=kz8 _ (Ah hx);dsimp only at hp1;refine aI ?_;refine eK (Ac [0,1,2,3,4,5,6,7,9,10,11,12,13,14] (Ad 8 (Ac [15] (Ad 16 (Ad 17 (Ac [18] (Ad 19 []))))))) ?_;refine eQ ?_;refine sK ?_;refine LM rfl call54 (JU nm hp1) rfl aO bH ?_;refine SJ ?_;refine CH fun r135 h135=> ?_;intros;refine eW rfl ((eX DJ ex j++ [DJ ⟨nm,ff⟩]).map dD) (eX DJ ex j++ [DJ ⟨nm,ff⟩]).length ?_;refine bG fun r136 h136=> ?_;intros;refine xQ ?_;refine⟨(r136,j+1),⟨⟨hl1,hl2⟩,Ae r136 r1,Ae r136 r2,Ae r136 r3⟩,Ab U, ?_⟩;dsimp only;rw[hnx];exact aH
 have he:=rY (f:=DJ) hj1 hj2 (sW (b:=18) g15);rw[he];refine dO (gO (r:=r3) (q:=q1) bK aY (Df (Df (.cons (.refl _) (.cons (.refl _) (.cons (aL bR X) (.cons (.refl _) (.cons (.refl _) (.cons (.refl _) .nil))))))))) ?_;refine cV ?_;refine bN (ks:=[0,1,2,3,4,5,6,7,8,9,10,27,58,95,116,146,176,207]) r3 11 69 2 V bR rfl V fun qel hqel=> ?_
 simp only[aN,aQ,and_true]at hqel;repeat rcases hqel with⟨_,hqel⟩
 apply Exists.intro;apply Bl;exact bK;refine lp (β:=Nat×Nat) (fun b=>⟨[(1,.ptr r1 0),(2,.ptr r2 0),(3,.ptr r3 0),(8,.int .i64 b.2)],[(r3,.box 33 [.ro 2 ((eX yR ty 18).map cD) .any,.ro 3 ((eX vI im 18).map eE) .any,.ro 1 ((fn.take 18).map aK) .any,.bool tb.has,.int .i64 tb.mn,.int .i64 tb.mx,.bool me.has,.int .i64 me.mn,.int .i64 me.mx,.ro 3 ((eX DK gl 18).map dX) .any,.ro 2 ((eX DJ ex 18).map dD) .any,.own b.1 0 (eX EX el b.2).length,.ro 0 [] .nil,.ro 0 [] .nil]),(b.1,.arr 69 2 ((eX EX el b.2).map dP)),(r1,.box 33 (aM ⟨ty,im,fn,tb,me,gl,ex,el,co,da⟩)),(r2,.box 33 [.ro 0 [] .nil,.ro 0 [] .nil,.ro 0 [] .nil,.bool false,.int .i64 0,.int .i64 0,.bool false,.int .i64 0,.int .i64 0,.ro 0 [] .nil,.ro 0 [] .nil,.ro 0 [] .nil,.ro 0 [] .nil,.ro 0 [] .nil])]⟩) (fun b=>(b.2<=el.length/\b.2<=18)/\Nq b.1 r1/\Nq b.1 r2/\Nq b.1 r3) (fun b=>18-b.2) (qel,0) aH ⟨⟨Am _,Am _⟩,Ae qel r1,Ae qel r2,Ae qel r3⟩ ?_;rintro⟨q1,j⟩ ⟨⟨hj1,hj2⟩,e1,e2,e3⟩;dsimp only at hj1 hj2 e1 e2 e3⊢;unfold aM;dsimp only;refine OY ?_;refine xL ?_;refine IJ ?_;refine qO ?_;refine aB rfl ?_ ?_<;>intro g19
 ·obtain⟨hl1,hl2⟩:=vJ (b:=18) g19;obtain⟨⟨oo,fs⟩,hx⟩:=Aa el j hl1
  have hol:=rX (f:=EX) hj1;have hnx:=oY (f:=EX) hx;have hp1:=kz10 _ (Ah hx);dsimp only at hp1;refine aI ?_;refine eK (Ac [0,1,2,3,4,5,6,7,8,9,10,11,12,13] (Ad 14 (Ac [15] (Ad 16 (Ad 17 (Ac [18] (Ad 19 []))))))) ?_;refine eQ ?_;refine sK ?_;refine mI rfl call53 (uI fs hp1 55 V) rfl bL kK ?_;rintro _ Y' ⟨q163,rfl,rfl⟩ h163
  replace h163:=bU h163;repeat rcases h163 with⟨_,h163⟩
  apply bC;exact aU;refine YI (j:=163) rfl aY (aL bR X) ?_;refine SJ ?_;refine CH fun r165 h165=> ?_;intros;refine eW rfl ((eX EX el j++ [EX ⟨oo,fs⟩]).map dP) (eX EX el j++ [EX ⟨oo,fs⟩]).length ?_;refine bG fun r166 h166=> ?_;intros;refine xQ ?_;refine⟨(r166,j+1),⟨⟨hl1,hl2⟩,Ae r166 r1,Ae r166 r2,Ae r166 r3⟩,Ab U, ?_⟩;dsimp only;rw[hnx];exact aH
 have he:=rY (f:=EX) hj1 hj2 (sW (b:=18) g19);rw[he];refine dO (gO (r:=r3) (q:=q1) bK aY (Df (Df (.cons (.refl _) (.cons (.refl _) (.cons (.refl _) (.cons (aL bR X) (.cons (.refl _) (.cons (.refl _) .nil))))))))) ?_;refine cV ?_;refine bN (ks:=[0,1,2,3,4,5,6,7,8,9,10,27,58,95,116,146,176,207]) r3 12 44 2 V bR rfl V fun qco hqco=> ?_
 simp only[aN,aQ,and_true]at hqco;repeat rcases hqco with⟨_,hqco⟩
 apply Exists.intro;apply Bl;exact bK;refine lp (β:=Nat×Nat) (fun b=>⟨[(1,.ptr r1 0),(2,.ptr r2 0),(3,.ptr r3 0),(9,.int .i64 b.2)],[(r3,.box 33 [.ro 2 ((eX yR ty 18).map cD) .any,.ro 3 ((eX vI im 18).map eE) .any,.ro 1 ((fn.take 18).map aK) .any,.bool tb.has,.int .i64 tb.mn,.int .i64 tb.mx,.bool me.has,.int .i64 me.mn,.int .i64 me.mx,.ro 3 ((eX DK gl 18).map dX) .any,.ro 2 ((eX DJ ex 18).map dD) .any,.ro 2 ((eX EX el 18).map dP) .any,.own b.1 0 (eX EY co b.2).length,.ro 0 [] .nil]),(b.1,.arr 44 2 ((eX EY co b.2).map cQ)),(r1,.box 33 (aM ⟨ty,im,fn,tb,me,gl,ex,el,co,da⟩)),(r2,.box 33 [.ro 0 [] .nil,.ro 0 [] .nil,.ro 0 [] .nil,.bool false,.int .i64 0,.int .i64 0,.bool false,.int .i64 0,.int .i64 0,.ro 0 [] .nil,.ro 0 [] .nil,.ro 0 [] .nil,.ro 0 [] .nil,.ro 0 [] .nil])]⟩) (fun b=>(b.2<=co.length/\b.2<=18)/\Nq b.1 r1/\Nq b.1 r2/\Nq b.1 r3) (fun b=>18-b.2) (qco,0) aH ⟨⟨Am _,Am _⟩,Ae qco r1,Ae qco r2,Ae qco r3⟩ ?_;rintro⟨q1,j⟩ ⟨⟨hj1,hj2⟩,e1,e2,e3⟩;dsimp only at hj1 hj2 e1 e2 e3⊢;unfold aM;dsimp only;refine OY ?_;refine xL ?_;refine IJ ?_;refine qO ?_;refine aB rfl ?_ ?_<;>intro g23
 ·obtain⟨hl1,hl2⟩:=vJ (b:=18) g23;obtain⟨⟨ls,bd⟩,hx⟩:=Aa co j hl1
  have hol:=rX (f:=EY) hj1;have hnx:=oY (f:=EY) hx;obtain⟨hp1,hp2,hp3⟩:=kz12 _ (Ah hx);dsimp only at hp1 hp2 hp3;refine aI ?_;refine eK (Ac [0,1,2,3,4,5,6,7,9,10,11,12,13,14] (Ad 8 (Ad 15 (Ac [16] (Ad 17 (Ad 18 (Ac [19] (Ad 20 [])))))))) ?_;refine eQ ?_;refine sK ?_;refine mI rfl call53 (uI ls hp1 34 V) rfl bL kK ?_;rintro _ Y' ⟨q187,rfl,rfl⟩ h187
  replace h187:=bU h187;repeat rcases h187 with⟨_,h187⟩
  apply bC;exact aU;refine YI (j:=187) rfl aY (aL bR X) ?_;refine pB [] rfl call26 (aDE bd hp2 hp3 120 V) rfl aC aA eC ?_;rintro _ Y' ⟨q194,rfl,rfl⟩ h194
  replace h194:=gE h194;repeat rcases h194 with⟨_,h194⟩
  apply bC;exact aU;refine YI (j:=194) rfl aY (aL bR X) ?_;refine SJ ?_;refine CH fun r196 h196=> ?_;intros;refine eW rfl ((eX EY co j++ [EY ⟨ls,bd⟩]).map cQ) (eX EY co j++ [EY ⟨ls,bd⟩]).length ?_;refine bG fun r197 h197=> ?_;intros;refine xQ ?_;refine⟨(r197,j+1),⟨⟨hl1,hl2⟩,Ae r197 r1,Ae r197 r2,Ae r197 r3⟩,Ab U, ?_⟩;dsimp only;rw[hnx];exact aH
 have he:=rY (f:=EY) hj1 hj2 (sW (b:=18) g23);rw[he];refine dO (gO (r:=r3) (q:=q1) bK aY (Df (Df (Df (.cons (aL bR X) (.cons (.refl _) .nil)))))) ?_;refine cV ?_;refine bN (ks:=[0,1,2,3,4,5,6,7,8,9,10,27,58,95,116,146,176,207]) r3 13 48 2 V bR rfl V fun qda hqda=> ?_
 simp only[aN,aQ,and_true]at hqda;repeat rcases hqda with⟨_,hqda⟩
 apply Exists.intro;apply Bl;exact bK;refine lp (β:=Nat×Nat) (fun b=>⟨[(1,.ptr r1 0),(2,.ptr r2 0),(3,.ptr r3 0),(10,.int .i64 b.2)],[(r3,.box 33 [.ro 2 ((eX yR ty 18).map cD) .any,.ro 3 ((eX vI im 18).map eE) .any,.ro 1 ((fn.take 18).map aK) .any,.bool tb.has,.int .i64 tb.mn,.int .i64 tb.mx,.bool me.has,.int .i64 me.mn,.int .i64 me.mx,.ro 3 ((eX DK gl 18).map dX) .any,.ro 2 ((eX DJ ex 18).map dD) .any,.ro 2 ((eX EX el 18).map dP) .any,.ro 2 ((eX EY co 18).map cQ) .any,.own b.1 0 (eX JT da b.2).length]),(b.1,.arr 48 2 ((eX JT da b.2).map dV)),(r1,.box 33 (aM ⟨ty,im,fn,tb,me,gl,ex,el,co,da⟩)),(r2,.box 33 [.ro 0 [] .nil,.ro 0 [] .nil,.ro 0 [] .nil,.bool false,.int .i64 0,.int .i64 0,.bool false,.int .i64 0,.int .i64 0,.ro 0 [] .nil,.ro 0 [] .nil,.ro 0 [] .nil,.ro 0 [] .nil,.ro 0 [] .nil])]⟩) (fun b=>(b.2<=da.length/\b.2<=18)/\Nq b.1 r1/\Nq b.1 r2/\Nq b.1 r3) (fun b=>18-b.2) (qda,0) aH ⟨⟨Am _,Am _⟩,Ae qda r1,Ae qda r2,Ae qda r3⟩ ?_;rintro⟨q1,j⟩ ⟨⟨hj1,hj2⟩,e1,e2,e3⟩;dsimp only at hj1 hj2 e1 e2 e3⊢;unfold aM;dsimp only;refine OY ?_;refine xL ?_;refine IJ ?_;refine qO ?_;refine aB rfl ?_ ?_<;>intro g27
 ·obtain⟨hl1,hl2⟩:=vJ (b:=18) g27;obtain⟨⟨oo,bs⟩,hx⟩:=Aa da j hl1
  have hol:=rX (f:=JT) hj1;have hnx:=oY (f:=JT) hx;have hp1:=kz14 _ (Ah hx);dsimp only at hp1;refine aI ?_;refine eK (Ac [0,1,2,3,4,5,6,7,8,9,10,11,12,13] (Ad 14 (Ad 15 (Ac [16] (Ad 17 (Ad 18 (Ac [19] (Ad 20 [])))))))) ?_;refine eQ ?_;refine sK ?_;refine pB [] rfl call55 (aBJ bs hp1 1010) rfl aC aA eC ?_;rintro _ Y' ⟨rfl,rfl⟩ h224;apply bC;exact aU;refine aKd rfl ((bs.take 1010).map aG) (bs.take 1010).length ?_;refine gD fun r225 h225=> ?_;intros;refine YI (j:=225) rfl aY (aL bR X) ?_;refine SJ ?_;refine CH fun r227 h227=> ?_;intros;refine eW rfl ((eX JT da j++ [JT ⟨oo,bs⟩]).map dV) (eX JT da j++ [JT ⟨oo,bs⟩]).length ?_;refine bG fun r228 h228=> ?_;intros;refine xQ ?_;refine⟨(r228,j+1),⟨⟨hl1,hl2⟩,Ae r228 r1,Ae r228 r2,Ae r228 r3⟩,Ab U, ?_⟩;dsimp only;rw[hnx];exact aH
 have he:=rY (f:=JT) hj1 hj2 (sW (b:=18) g27);rw[he];refine dO (gO (r:=r3) (q:=q1) bK aY (Df (Df (Df (.cons (.refl _) (.cons (aL bR X) .nil)))))) ?_;refine mE ?_;refine fR ?_;exact aD aE ⟨by rfl,rfl⟩ aA
end Go.Proofs.YtjpdadobblffmaaGreat
namespace Go.Proofs.YtjpdadobblffmaaGreat
open Go.RowKit Go.ChangeShapes Go.WideShapes Go.ChangeAt Go.Deep
def smallM:Md:=⟨[⟨[1,1],[1]⟩],[],[0],MZ,MZ,[],[⟨[97,100,100],0⟩],[],[⟨[],[⟨32,0,0,[]⟩,⟨32,1,0,[]⟩,⟨106,0,0,[]⟩]⟩],[]⟩
def fun0:Md:= { md0 with fn:=[0] }
theorem small_wo:smallM.WO:=by
 refine⟨⟨by simp[smallM], ?_, ?_,by simp[smallM],by simp[smallM]⟩, ?_,by simp[smallM]⟩
 ·intro x hx;obtain rfl:x=⟨[97,100,100],0⟩:=by simpa[smallM]using hx
  exact⟨V,V⟩
 ·intro x hx;obtain rfl:x=⟨[],[⟨32,0,0,[]⟩,⟨32,1,0,[]⟩,⟨106,0,0,[]⟩]⟩:=by simpa[smallM]using hx
  decide
 ·intro x hx;obtain rfl:x=⟨[],[⟨32,0,0,[]⟩,⟨32,1,0,[]⟩,⟨106,0,0,[]⟩]⟩:=by simpa[smallM]using hx
  intro i hi;simp only[Av,A5,or_false]at hi;rcases hi with rfl|rfl|rfl<;>exact⟨V,V,V,V,V⟩
theorem aHI:nC smallM=true:=by decide
theorem aA5:(eZ smallM).length<=8000/\8<(eZ smallM).length:=by
 have h1:gT ⟨32,0,0,[]⟩=[32,0]:=by
  have f:aW 32=3:=by decide
  simp[gT,gG,f,wC]
 have h2:gT ⟨32,1,0,[]⟩=[32,1]:=by
  have f:aW 32=3:=by decide
  simp[gT,gG,f,wC]
 have h3:gT ⟨106,0,0,[]⟩=[106]:=by
  have f:aW 106=1:=by decide
  simp[gT,gG,f]
 have:(eZ smallM).length=41:=by
  simp[eZ,smallM,headB,bF,bB,wC,yD,kB,cC,oK,bM,lD,bZ,jA,h1,h2,h3,iA,MZ]
 omega
theorem EZ:jP smallM=true:=by
 rw[vF,aHI,Bool.true_and];exact decide_eq_true aA5.1
theorem NQ:oE smallM=eZ smallM:=Dc EZ
theorem aB7:zV (oE smallM)=(smallM,0):=by rw[NQ];exact UI EZ small_wo.ok
theorem aEH:∀c∈oE smallM,c<256:=QJ small_wo
theorem aHJ:jP md0=true:=by
 have h:(eZ md0).length=8:=by simp[eZ,md0,headB,bF,iA,MZ]
 rw[vF,show nC md0=true by decide,Bool.true_and,h];decide
theorem aHK:(oE md0).length=8:=by
 unfold oE;rw[Dc aHJ];simp[eZ,md0,headB,bF,iA,MZ]
theorem QO:fun0.WO:=⟨⟨by simp[fun0,md0],by simp[fun0,md0],by simp[fun0,md0],by simp[fun0,md0],by simp[fun0,md0]⟩,by simp[fun0,md0],by simp[fun0,md0]⟩
theorem aEI:jP fun0=false:=by rw[vF,show nC fun0=false by decide];rfl
theorem aNG:zV [120]=(md0,1):=by
 unfold zV;rw[Db V,Dc V]
theorem aEJ:XG smallM md0=false:=by decide
attribute [local irreducible] SW RS RD fE eA
def aNH (x:Ins):List AV:=[.int .i64 x.op,.int .i64 x.a,.int .i64 x.b,.ro 0 [] .nil]
theorem JV{l:List Ins}(h:∀x∈l,x.l=[]){k:Rk}:VLe (.ro 4 (l.map aNH) k) (.ro 4 (l.map (iv .any)) k):=by
 refine VLe.ro X ?_ ?_
 ·intro x hx;simp only[Bm]at hx;obtain⟨o,-,rfl⟩:=hx;exact⟨rfl,by simp[iv,AV.cell]⟩
 ·intro i e e' h1 h2;simp only[Bg,Option.map_eq_some_iff]at h1 h2;obtain⟨o,ho,rfl⟩:=h1;obtain⟨o',ho',rfl⟩:=h2;obtain rfl:=Option.some.inj (ho.symm.trans ho');have hl:=h o (Ah ho);refine⟨rfl,fun j a a' ha ha'=> ?_⟩;unfold iv at ha';rw[hl]at ha'
  match j with
  |0=>cases ha;cases ha';exact VLe.refl _
  |1=>cases ha;cases ha';exact VLe.refl _
  |2=>cases ha;cases ha';exact VLe.refl _
  |3=>cases ha;cases ha';exact VLe.empty
  | _ +4=>cases ha
theorem QP{es:List (List AV)}:VLe (.agg [.ro 0 [] .nil,.ro 4 es .any]) (.agg [.ro 1 ([].map aK) .any,.ro 4 es .any]):=by
 refine VLe.agg rfl fun j a a' ha ha'=> ?_
 match j with
 |0=>cases ha;cases ha';exact VLe.empty
 |1=>cases ha;cases ha';exact VLe.refl _
 | _ +2=>cases ha
theorem aA6:VLe (.agg [.ro 0 [] .nil,.ro 0 [] .nil,.ro 0 [] .nil,.bool false,.int .i64 0,.int .i64 0,.bool false,.int .i64 0,.int .i64 0,.ro 0 [] .nil,.ro 0 [] .nil,.ro 0 [] .nil,.ro 0 [] .nil,.ro 0 [] .nil]) (.agg (aM md0)):=by
 refine VLe.agg rfl fun j a a' ha ha'=> ?_
 match j with
 |0=>cases ha;cases ha';exact VLe.empty
 |1=>cases ha;cases ha';exact VLe.empty
 |2=>cases ha;cases ha';exact VLe.empty
 |3=>cases ha;cases ha';exact VLe.refl _
 |4=>cases ha;cases ha';exact VLe.refl _
 |5=>cases ha;cases ha';exact VLe.refl _
 |6=>cases ha;cases ha';exact VLe.refl _
 |7=>cases ha;cases ha';exact VLe.refl _
 |8=>cases ha;cases ha';exact VLe.refl _
 |9=>cases ha;cases ha';exact VLe.empty
 |10=>cases ha;cases ha';exact VLe.empty
 |11=>cases ha;cases ha';exact VLe.empty
 |12=>cases ha;cases ha';exact VLe.empty
 |13=>cases ha;cases ha';exact VLe.empty
 | _ +14=>cases ha
theorem JW:VLe (.agg [.ro 0 [] .nil,.ro 0 [] .nil,.ro 1 [[.int .i64 0]] .any,.bool false,.int .i64 0,.int .i64 0,.bool false,.int .i64 0,.int .i64 0,.ro 0 [] .nil,.ro 0 [] .nil,.ro 0 [] .nil,.ro 0 [] .nil,.ro 0 [] .nil]) (.agg (aM fun0)):=by
 refine VLe.agg rfl fun j a a' ha ha'=> ?_
 match j with
 |0=>cases ha;cases ha';exact VLe.empty
 |1=>cases ha;cases ha';exact VLe.empty
 |2=>cases ha;cases ha';exact VLe.refl _
 |3=>cases ha;cases ha';exact VLe.refl _
 |4=>cases ha;cases ha';exact VLe.refl _
 |5=>cases ha;cases ha';exact VLe.refl _
 |6=>cases ha;cases ha';exact VLe.refl _
 |7=>cases ha;cases ha';exact VLe.refl _
 |8=>cases ha;cases ha';exact VLe.refl _
 |9=>cases ha;cases ha';exact VLe.empty
 |10=>cases ha;cases ha';exact VLe.empty
 |11=>cases ha;cases ha';exact VLe.empty
 |12=>cases ha;cases ha';exact VLe.empty
 |13=>cases ha;cases ha';exact VLe.empty
 | _ +14=>cases ha
def smallIs:List Ins:=[⟨32,0,0,[]⟩,⟨32,1,0,[]⟩,⟨106,0,0,[]⟩]
theorem zG:SCall prog 50 [] [] (fun y Y=>y=.agg (aM smallM)/\Y=[]):=by
 refine bO 15 [0] func50 ?_;refine dB ?_;refine iD fun r0 h0=> ?_;intros;refine kX ?_;refine dB ?_;refine eN fun r1 h1=> ?_;intros;refine iE (j:=1) rfl aY (aL bR X) ?_;refine eN fun r2 h2=> ?_;intros;refine iE (j:=2) rfl aY (aL bR X) ?_;refine mM ?_;refine eN fun r4 h4=> ?_;intros;refine iE (j:=4) rfl aY (aL bR X) ?_;refine eN fun r5 h5=> ?_;intros;refine iE (j:=5) rfl aY (aL bR X) ?_;refine mM ?_;refine eN fun r7 h7=> ?_;intros;refine iE (j:=7) rfl aY (aL bR X) ?_;refine mM ?_;refine mM ?_;refine mM ?_;refine eN fun r11 h11=> ?_;intros;refine iE (j:=11) rfl aY (aL bR X) ?_;refine mC (fH (j:=11) rfl (JV (l:=smallIs) (by simp[smallIs]))) ?_;refine mM ?_;refine mC (fH (j:=12) rfl QP) ?_;refine eN fun r13 h13=> ?_;intros;refine iE (j:=13) rfl aY (aL bR X) ?_;refine mM ?_;refine mG ?_;refine an ?_;refine dO (gR (r:=r0) (cs':=aM smallM) bK (.cons (.refl _) (.cons (.le VLe.empty) (Df (.cons (.refl _) (.cons (.refl _) (.cons (.refl _) (.cons (.le VLe.empty) (.cons (.refl _) (.cons (.le VLe.empty) (.cons (.refl _) (.cons (.le VLe.empty) .nil)))))))))))) ?_;refine aI ?_;exact aD aE ⟨by rfl,rfl⟩ aA
theorem NR:(oE smallM).length<=8000/\8<(oE smallM).length:=by rw[NQ];exact aA5
theorem YV:SCall prog 16 [] [] (fun y Y=>y=.bool true/\Y=[]):=by
 have w1:=yM (oE smallM) (by have:=NR.1;omega) aEH;rw[aB7]at w1;have w2:=yM [120] V V;rw[aNG]at w2;have w3:=DC smallM small_wo;rw[EZ]at w3;have w4:=aA4 smallM smallM small_wo.w small_wo.w;rw[VD]at w4;have w5:=aA4 smallM md0 small_wo.w wo0.w;rw[aEJ]at w5;have w6:=sS md0 wo0;have w7:=DC fun0 QO;rw[aEI]at w7;have h8:=NR.2;refine bO 59 [0,1,2,3,4,6] func16 ?_;refine sP ?_;refine uW [] call50 zG ?_;refine iD fun r1 h1=> ?_;intros;refine mG ?_;refine mE ?_;refine tE call18 (sS smallM small_wo) rfl bL kK ?_;rintro _ Y' ⟨q9,rfl,rfl⟩ h9
 replace h9:=bU h9;repeat rcases h9 with⟨_,h9⟩
 apply aR;exact aU;refine iE (j:=9) rfl aY (aL bR X) ?_;refine gX ?_;refine cw [] call20 w1 rfl aC aA ?_;rintro _ Y' ⟨rfl,rfl⟩ h12;refine sJ ?_;refine iD fun r3 h3=> ?_;intros;apply OT;rfl;rfl;rfl;rfl;exact nI;refine iT ?_;refine eN fun r16 h16=> ?_;intros;refine cvm (len:=1) bK V ?_;refine iE (j:=17) rfl aY (aL bR X) ?_;refine cw [] call20 w2 rfl aC aA ?_;rintro _ Y' ⟨rfl,rfl⟩ h18;refine sJ ?_;refine iD fun r5 h5=> ?_;intros;apply OT;rfl;rfl;rfl;rfl;exact nI;refine iT ?_;refine jY ?_;refine kY call51 w3 rfl aO bH ?_;refine kH ?_;refine CA ?_;refine OU ?_;rw[show decide ((8:Int)<((oE smallM).length:Int))=true from decide_eq_true U];refine qK ?_;refine tB ?_;rw[show((0:Int)==0)=true from rfl];refine sF ?_;refine CF ?_;refine aF4 ?_;refine Cm ?_;refine kY call52 w4 rfl aO bH ?_;refine sF ?_;refine CF ?_;refine aJU ?_;refine mC (fH (j:=39) rfl aA6) ?_;refine Cm ?_;refine kY call52 w5 rfl aO bH ?_;refine AW ?_;rw[show(!false)=true from rfl];refine qK ?_;refine tB ?_;rw[show((1:Int)==1)=true from rfl];refine sF ?_;refine B4 ?_;refine aJU ?_;refine mC (fH (j:=48) rfl aA6) ?_;refine Cm ?_;refine tE call18 w6 rfl bL kK ?_;rintro _ Y' ⟨q49,rfl,rfl⟩ h49
 replace h49:=bU h49;repeat rcases h49 with⟨_,h49⟩
 apply aR;exact aU;refine CA ?_;refine tB ?_;rw[aHK,show(((8:Nat):Int)==8)=true from rfl];refine sF ?_;refine B4 ?_;refine fz4 fun r54 h54=> ?_;intros;refine iE (j:=54) rfl aY (aL bR X) ?_;refine aJU ?_;refine mC (fH (j:=55) rfl JW) ?_;refine Cm ?_;refine kY call51 w7 rfl aO bH ?_;refine aBw ?_;exact aD aE ⟨by rfl,rfl⟩ aA
def b1 (w:Int):Int:=IntKind.wrap .i64 ((A9 (IntKind.bits .i64) w&&&A9 (IntKind.bits .i64) 1).toNat:Int)
def b3 (w:Int):Int:=IntKind.wrap .i64 ((A9 (IntKind.bits .i64) w&&&A9 (IntKind.bits .i64) 3).toNat:Int)
theorem aLh(w:Int):b1 w=0\/b1 w=1:=by
 have h:(A9 (IntKind.bits .i64) w&&&A9 (IntKind.bits .i64) 1).toNat<=1:=by
  rw[BitVec.toNat_and];exact Nat.and_le_right
 unfold b1;rw[fD U U];omega
def GR (ps:List Int):List Int:=(ps.take 5).map fun p=>1+b1 p
def GS (r:Int):List Int:=if(if decide (0<b3 r)=true then decide (b3 r<3)else false)=true then [b3 r]else []
def DL:List Ins:=[⟨32,0,0,[]⟩]
def iL (pr rs:List Int) (co:List Co):Md:=⟨[⟨pr,rs⟩,⟨[],[]⟩,⟨[1],[1]⟩,⟨[2,1],[2]⟩],[⟨[119],[102],2⟩,⟨[119],[103],1⟩],[0,3],⟨true,4,-1⟩,⟨true,1,3⟩,[⟨true,1,0⟩,⟨false,2,5⟩],[⟨[109,97,105,110],2⟩],[⟨0,[0,2,3]⟩],co,[]⟩
def aLi (pr rs:List Int) (q:Nat):List AV:=[.ro 2 ((iL pr rs []).ty.map cD) .any,.ro 3 ((iL pr rs []).im.map eE) .any,.ro 1 ([0,3].map aK) .any,.bool true,.int .i64 4,.int .i64 (-1),.bool true,.int .i64 1,.int .i64 3,
 .ro 3 ((iL pr rs []).gl.map dX) .any,.ro 2 ((iL pr rs []).ex.map dD) .any,.ro 2 ((iL pr rs []).el.map dP) .any,.own q 0 2,.ro 2 ([].map dV) .any]
theorem aHL:VLe (.agg [.ro 0 [] .nil,.ro 0 [] .nil]) (.agg (cD ⟨[],[]⟩)):=by
 refine VLe.agg rfl fun j a a' ha ha'=> ?_
 match j with
 |0=>cases ha;cases ha';exact VLe.empty
 |1=>cases ha;cases ha';exact VLe.empty
 | _ +2=>cases ha
theorem aEK{ps:List Int}{j:Nat}{w:Int}(h:ps[j]? =some w):(ps.take j).map (fun p=>1+b1 p)++ [1+b1 w]=(ps.take (j+1)).map (fun p=>1+b1 p):=by
 rw[Al,h];simp
theorem aEL(ps:List Int)(r:Int):SCall prog 25 [.ro 1 (ps.map aK) .any,.int .i64 r] [] (fun y Y=>∃q,y=.agg (aLi (GR ps) (GS r) q)/\Y=[(q,.arr 44 2 [[.ro 0 [] .nil,.ro 0 [] .nil],cQ ⟨[],DL⟩])]):=by
 refine bO 72 [0,1,4,5,6,15,36] func25 ?_;refine dB ?_;refine iD fun r4 h4=> ?_;intros;refine kX ?_;refine sN ?_;refine iD fun r5 h5=> ?_;intros;refine fR ?_;refine bN (ks:=[0,1,4,5,6,15,36]) r5 0 3 1 V bR rfl V fun p0 hp0=> ?_
 simp only[aN,aQ,and_true]at hp0;repeat rcases hp0 with⟨_,hp0⟩
 apply Exists.intro;apply Bl;exact bK;refine kI ?_;refine lp (β:=Nat×Nat) (fun b=>⟨[(0,.ro 1 (ps.map aK) .any),(1,.int .i64 r),(4,.ptr r4 0),(5,.ptr r5 0),(6,.int .i64 b.1)],[(r5,.box 50 [.own b.2 0 ((ps.take b.1).map fun p=>1+b1 p).length,.ro 0 [] .nil]),(b.2,.arr 3 1 (((ps.take b.1).map fun p=>1+b1 p).map aK)),(r4,.box 33 [.ro 0 [] .nil,.ro 0 [] .nil,.ro 0 [] .nil,.bool false,.int .i64 0,.int .i64 0,.bool false,.int .i64 0,.int .i64 0,.ro 0 [] .nil,.ro 0 [] .nil,.ro 0 [] .nil,.ro 0 [] .nil,.ro 0 [] .nil])]⟩) (fun b=>b.1<=ps.length/\b.1<=5/\Nq b.2 r5/\Nq b.2 r4) (fun b=>5-b.1) (0,p0) aH ⟨Am _,Am _,Ae p0 r5,Ae p0 r4⟩ ?_;rintro⟨j,p⟩ ⟨hj,hj5,n1,n2⟩;dsimp only at hj hj5 n1 n2⊢;have hpl:((ps.take j).map fun p=>1+b1 p).length=j:=by simp;omega
 refine AB ?_;refine xL ?_;refine IJ ?_;refine qO ?_;refine aB rfl ?_ ?_<;>intro g3
 ·have hlt:j<ps.length/\j<5:=vJ g3;obtain⟨w,hw⟩:∃w,ps[j]? =some w:=⟨_,Ar hlt.1⟩
  have hb:=aLh w;unfold b1 at hb;refine aI ?_;refine eK (Ac [0,1,2,3,4,5,6,7] (Ad 8 (Ad 9 (Ac [10] (Ad 11 []))))) ?_;refine eQ ?_;refine wW ?_;refine MF ?_;refine eS rfl (lQ (E rfl) (E rfl)) rfl ?_;refine aC9 ?_;refine CH fun r26 h26=> ?_;intros;refine eW rfl (((ps.take j).map (fun p=>1+b1 p)++ [1+b1 w]).map aK) ((ps.take j).map (fun p=>1+b1 p)++ [1+b1 w]).length ?_;refine bG fun r27 h27=> ?_;intros;refine xQ ?_;refine⟨(j+1,r27),⟨hlt.1,hlt.2,Ae r27 r5,Ae r27 r4⟩,Ab U, ?_⟩;dsimp only;rw[<-aEK hw];exact aH
 rw[show(ps.take j).map (fun p=>1+b1 p)=GR ps by
   unfold GR;rcases Br j 5 with h5j|h5j
   ·have:j=ps.length:=by
     rcases Br j ps.length with h|h
     ·rw[decide_eq_true U,Dc rfl,decide_eq_true U]at g3;cases g3
     ·omega
    subst this;rw[Aw,Aj U]
   ·obtain rfl:j=5:=by omega
    rfl]
 refine dO (gO (r:=r5) (q:=p) bK aY (.cons (aL bR X) (.cons (.refl _) .nil))) ?_;refine dG ?_;refine Cq ?_;refine aJZ ?_
 (first|refine ln rfl rfl rfl rfl ?_ |(refine gy rfl rfl ?_;refine lo (lQ aa (E rfl)) rfl ?_)|refine lg rfl rfl (lQ aa (E rfl)) rfl ?_);refine IJ ?_;refine qO ?_;refine sja (β:=Unit) (fun _=>⟨[(4,.ptr r4 0),(5,.ptr r5 0)],[(r5,.box 50 [.ro 1 ((GR ps).map aK) .any,.ro 1 ((GS r).map aK) .any]),(r4,.box 33 [.ro 0 [] .nil,.ro 0 [] .nil,.ro 0 [] .nil,.bool false,.int .i64 0,.int .i64 0,.bool false,.int .i64 0,.int .i64 0,.ro 0 [] .nil,.ro 0 [] .nil,.ro 0 [] .nil,.ro 0 [] .nil,.ro 0 [] .nil])]⟩) (fun _=>True) ?_ ?_
 ·refine aB rfl ?_ ?_<;>intro g6
  ·rw[show GS r=[b3 r]from Dc g6];refine dG ?_;refine Cq ?_;refine eN fun r39 h39=> ?_;intros;refine EF ?_;refine iE (j:=39) rfl aY (aL bR X) ?_;refine fR ?_;exact⟨(),trivial,aH⟩
  rw[show GS r=[] by unfold GS;exact Db (fun e=>by rw[show(if decide (0<b3 r)=true then decide (b3 r<3)else false)=false from g6]at e;cases e)];refine dO (gR (r:=r5) (cs':=[.ro 1 ((GR ps).map aK) .any,.ro 1 (([]:List Int).map aK) .any]) bK (.cons (.refl _) (.cons (.le VLe.empty) .nil))) ?_;refine aI ?_;exact⟨(),trivial,aH⟩
 rintro⟨⟩-;refine mE ?_;refine mM ?_;refine mC (fH (j:=42) rfl aHL) ?_;refine eN fun r43 h43=> ?_;intros;refine eN fun r44 h44=> ?_;intros;refine iE (j:=43) rfl aY (aL bR X) ?_;refine iE (j:=44) rfl aY (aL bR X) ?_;refine mM ?_;refine eN fun r46 h46=> ?_;intros;refine eN fun r47 h47=> ?_;intros;refine iE (j:=46) rfl aY (aL bR X) ?_;refine iE (j:=47) rfl aY (aL bR X) ?_;refine mM ?_;refine eN fun r49 h49=> ?_;intros;refine iE (j:=49) rfl aY (aL bR X) ?_;refine mM ?_;refine mM ?_;refine eN fun r52 h52=> ?_;intros;refine iE (j:=52) rfl aY (aL bR X) ?_;refine eN fun r53 h53=> ?_;intros;refine iE (j:=53) rfl aY (aL bR X) ?_;refine mM ?_;refine mM ?_;refine mM ?_;refine mM ?_;refine mM ?_;refine mM ?_;refine eN fun r60 h60=> ?_;intros;refine iE (j:=60) rfl aY (aL bR X) ?_;refine mM ?_;refine eN fun r62 h62=> ?_;intros;refine iE (j:=62) rfl aY (aL bR X) ?_;refine eN fun r63 h63=> ?_;intros;refine iE (j:=63) rfl aY (aL bR X) ?_;refine mM ?_;refine eN fun r65 h65=> ?_;intros;refine iE (j:=65) rfl aY (aL bR X) ?_;refine mM ?_;refine mM ?_;refine eN fun r68 h68=> ?_;intros;refine iE (j:=68) rfl aY (aL bR X) ?_;refine mC (fH (j:=68) rfl (JV (l:=DL) (by simp[DL]))) ?_;refine mM ?_;refine mC (fH (j:=69) rfl QP) ?_;refine eN fun r70 h70=> ?_;intros;refine mM ?_;refine mG ?_;refine an ?_;refine dO (gR (r:=r4) (cs':=aLi (GR ps) (GS r) r70) bK (Df (Df (Df (.cons (.refl _) (.cons (.le VLe.empty) .nil)))))) ?_;refine aI ?_;exact aD aE ⟨r70,by rfl,rfl⟩ aA
def aA7 (q:Nat):List AV:=[.ro 2 (smallM.ty.map cD) .any,.ro 3 [] .any,.ro 1 (smallM.fn.map aK) .any,.bool false,.int .i64 0,.int .i64 0,.bool false,.int .i64 0,.int .i64 0,.ro 3 [] .any,.ro 2 (smallM.ex.map dD) .any,.ro 2 [] .any,.own q 0 1,.ro 2 [] .any]
theorem JX:SCall prog 50 [] [] (fun y Y=>∃q,y=.agg (aA7 q)/\Y=[(q,.arr 44 2 [[.ro 0 [] .nil,.ro 4 (smallIs.map (iv .any)) .any]])]):=by
 refine bO 15 [0] func50 ?_;refine dB ?_;refine iD fun r0 h0=> ?_;intros;refine kX ?_;refine dB ?_;refine eN fun r1 h1=> ?_;intros;refine iE (j:=1) rfl aY (aL bR X) ?_;refine eN fun r2 h2=> ?_;intros;refine iE (j:=2) rfl aY (aL bR X) ?_;refine mM ?_;refine eN fun r4 h4=> ?_;intros;refine iE (j:=4) rfl aY (aL bR X) ?_;refine eN fun r5 h5=> ?_;intros;refine iE (j:=5) rfl aY (aL bR X) ?_;refine mM ?_;refine eN fun r7 h7=> ?_;intros;refine iE (j:=7) rfl aY (aL bR X) ?_;refine mM ?_;refine mM ?_;refine mM ?_;refine eN fun r11 h11=> ?_;intros;refine iE (j:=11) rfl aY (aL bR X) ?_;refine mC (fH (j:=11) rfl (JV (l:=smallIs) (by simp[smallIs]))) ?_;refine mM ?_;refine eN fun r13 h13=> ?_;intros;refine mM ?_;refine mG ?_;refine an ?_;refine dO (gR (r:=r0) (cs':=aA7 r13) bK (.cons (.refl _) (.cons (.le VLe.empty) (Df (.cons (.refl _) (.cons (.refl _) (.cons (.refl _) (.cons (.le VLe.empty) (.cons (.refl _) (.cons (.le VLe.empty) (.cons (.refl _) (.cons (.le VLe.empty) .nil)))))))))))) ?_;refine aI ?_;exact aD aE ⟨r13,by rfl,rfl⟩ aA
theorem aA8{x x' y:AV}(h:VLe x x')(hx:x'.cell=true)(hy:y.cell=true){es:List (List AV)}(hes:iY 2 es):VLe (.ro 2 ([x,y]::es) .any) (.ro 2 ([x',y]::es) .any):=by
 refine VLe.ro X ?_ ?_
 ·intro e he;rcases Av.1 he with rfl|he
  ·exact⟨rfl,fun a ha=>by
    simp only[Av,A5,or_false]at ha;rcases ha with rfl|rfl<;>assumption⟩
  ·exact hes e he
 ·intro i e e' h1 h2;cases i with
  |zero=>
   cases h1;cases h2
   refine⟨rfl,fun j a a' ha ha'=> ?_⟩
   match j with
   |0=>cases ha;cases ha';exact h
   |1=>cases ha;cases ha';exact VLe.refl _
   | _ +2=>cases ha
  |succ i=>
   obtain rfl:=Option.some.inj (h1.symm.trans h2);exact⟨rfl,fun j a a' ha ha'=>by obtain rfl:=Option.some.inj (ha.symm.trans ha');exact VLe.refl _⟩
theorem NS:iY 2 []:=fun x hx=>by simp at hx
def YW:Md:= { smallM with co:=[⟨[],[⟨32,0,0,[]⟩,⟨32,1,0,[]⟩]⟩] }
def uIs:List Ins:=[⟨0,0,0,[]⟩,⟨106,0,0,[]⟩]
def YX:Md:= { smallM with co:=[⟨[],uIs⟩] }
def aEM (x:Ins):Bool:=decide (0<=x.a)&&decide (x.a<=9223372036854775807)&&x.l.all (fun n=>decide (0<=n))&&decide (x.l.length<=1000000)
theorem aNI{x:Ins}(h:aEM x=true):x.Ck:=by
 unfold aEM at h;simp only[Ap,decide_eq_true_eq,Bw]at h;exact⟨fun _=>h.1.1.1,fun _=>h.1.2,h.2,h.1.1.2⟩
def aNJ (m:Md):Bool:=m.ty.all (fun t=>decide (t.pr.length<=100)&&decide (t.rs.length<=100))&&decide (m.im.length<=1000000)&&m.co.all (fun c=>decide (c.bd.length<=100000)&&c.bd.all aEM&&decide (c.ls.length<=1000))
theorem aA9{m:Md}(h:aNJ m=true):m.Fn:=by
 unfold aNJ at h;simp only[Ap,decide_eq_true_eq,Bw]at h;obtain⟨⟨h1,h2⟩,h3⟩:=h;exact⟨⟨fun t ht=>h1 t ht,h2⟩,fun c hc=>⟨(h3 c hc).1.1,fun x hx=>aNI ((h3 c hc).1.2 x hx)⟩,fun c hc=>(h3 c hc).2⟩
theorem aLj:GO smallM 0=true:=by decide+kernel
theorem aLk:GO smallM 1=false:=by decide+kernel
theorem aLl:GO YW 0=false:=by decide+kernel
theorem aLm:GO YX 0=true:=by decide+kernel
theorem YY:SCall prog 73 [] [] (fun y Y=>y=.bool true/\Y=[]):=by
 refine bO 2 [0] func73 ?_;refine sP ?_;refine kY call16 YV rfl aO bH ?_;refine cN ?_;exact aD aE ⟨by rfl,rfl⟩ aA
theorem YZ:SCall prog 22 [] [] (fun y Y=>y=.bool true/\Y=[]):=by
 have hs3:smallIs.length=3:=rfl;have w1:=rW smallM (aA9 V) 0;have w2:=rW YW (aA9 V) 0;have w3:=rW YX (aA9 V) 0;have w4:=rW smallM (aA9 V) 1;rw[aLj]at w1;rw[aLl]at w2;rw[aLm]at w3;rw[aLk]at w4;refine bO 43 [0,1,2,3] func22 ?_;refine sP ?_;refine uW [] call50 zG ?_;refine iD fun r1 h1=> ?_;intros;refine mG ?_;refine dB ?_;refine cw [] call50 JX rfl aC aA ?_;rintro _ Y' ⟨q1,rfl,rfl⟩ h5
 replace h5:=gE h5;repeat rcases h5 with⟨_,h5⟩
 unfold aA7;apply aR;exact aU;refine iD fun r2 h2=> ?_;intros;refine fR ?_;refine eK (Ac [0,1,2,3,4,5,6,7,8,9] (Ad 10 [])) ?_;refine eQ ?_;refine eQ ?_;refine z56 ?_;refine SU ?_;refine z25 ?_;refine z56 ?_;refine aDa ?_;apply aJG;rfl;infer_instance;rfl;rfl;rfl;rfl;exact bK;exact atT;exact IG;rfl;exact eC;refine oI ?_;refine dO (gO (r:=r2) (q:=q1) bK aY (Df (Df (Df (.cons (aL bR X) (.cons (.refl _) .nil)))))) ?_;refine dO (gR (r:=r2) (cs':=aM YW) bK (Df (Df (Df (.cons (.le (aA8 VLe.empty rfl rfl NS)) (.cons (.refl _) .nil)))))) ?_;refine jD ?_;refine cw [] call50 JX rfl aC aA ?_;rintro _ Y' ⟨q2,rfl,rfl⟩ h16
 replace h16:=gE h16;repeat rcases h16 with⟨_,h16⟩
 unfold aA7;apply aR;exact aU;refine iD fun r3 h3=> ?_;intros;refine mG ?_;refine eY ?_;refine mM ?_;refine mM ?_;refine eN fun r21 h21=> ?_;intros;refine z15 ?_;refine SM ?_;refine iE (j:=21) rfl aY (aL bR X) ?_;refine mC (fH (j:=21) rfl (JV (l:=uIs) (by simp[uIs]))) ?_;refine SN ?_;refine iM ?_;refine dO (gO (r:=r3) (q:=q2) bK aY (Df (Df (Df (.cons (aL bR X) (.cons (.refl _) .nil)))))) ?_;refine dO (gR (r:=r3) (cs':=aM YX) bK (Df (Df (Df (.cons (.le (aA8 VLe.empty rfl rfl NS)) (.cons (.refl _) .nil)))))) ?_;refine jD ?_;refine kY call73 YY rfl aO bH ?_;refine CF ?_;refine kL rfl rfl call23 (fun _=>w1) rfl aO bH ?_;refine sF ?_;refine CF ?_;refine kL rfl rfl call23 (fun _=>w2) rfl aO bH ?_;refine AW ?_;refine sF ?_;refine CF ?_;refine kL rfl rfl call23 (fun _=>w3) rfl aO bH ?_;refine sF ?_;refine CF ?_;refine kL rfl rfl call23 (fun _=>w4) rfl aO bH ?_;refine aBw ?_;exact aD aE ⟨by rfl,rfl⟩ aA
def aEN:Co:=⟨[],DL⟩
end Go.Proofs.YtjpdadobblffmaaGreat
namespace Go.Proofs.YtjpdadobblffmaaGreat
open Go.RowKit Go.ChangeShapes Go.WideShapes Go.ChangeAt Go.Deep
structure RT where
 a:Nat
 lb:List (List Int)
 bad:Bool
 l:List Int
 dd:Bool
def eH (t:RT):RT:=⟨t.a,t.lb,true,t.l,t.dd⟩
def QQ (x k:Int):Bool:=if(if(x !=k)=true then(x !=0)else false)=true then(k !=0)else false
def jQ (t:RT) (k:Int):Int×RT:=
 if((t.l.length:Int)==0)=true then(k,if(!t.dd)=true then eH t else t)
 else(if(t.l.getLast?.getD 0==0)=true then k else t.l.getLast?.getD 0,⟨t.a,t.lb,if QQ (t.l.getLast?.getD 0) k=true then true else t.bad,t.l.dropLast,t.dd⟩)
def aS (t:RT) (ks:List Int):RT:=ks.reverse.foldl (fun t k=>(jQ t k).2) t
def iC (t:RT) (ks:List Int):RT:=⟨t.a,t.lb,t.bad,t.l++ks,t.dd⟩
def rZ (t:RT):RT:=⟨t.a,t.lb,t.bad,[],true⟩
def cW (t:RT) (n:Int):List Int×RT:=
 if(if decide (n<0)=true then true else decide ((t.lb.length:Int)-1-n<0))=true then([],eH t)else(t.lb.getD ((t.lb.length:Int)-1-n).toNat [],t)
def eP (bd:List Ins) (t:RT) (op:Int):Bool×RT:=
 if(if decide ((t.a:Int)<bd.length)=true then((bd.getD t.a ⟨0,0,0,[]⟩).op==op)else false)=true then(true,⟨t.a+1,t.lb,t.bad,t.l,t.dd⟩)else(false,t)
def sA (t:RT) (res:List Int) (l:List Int) (dd:Bool):RT:=
 let t1:=aS t res
 ⟨t1.a,t1.lb.dropLast,if decide ((0:Int)<t1.l.length)=true then true else t1.bad,l,dd⟩
def dU (lp:RT->RT) (res br:List Int) (t:RT):RT:=sA (lp ⟨t.a,t.lb++ [br],t.bad,[],false⟩) res t.l t.dd
def uJ (lp:RT->RT) (bd:List Ins) (x:Ins) (t:RT):RT:=
 let r:=aZ x.a
 let t1:=if(x.op==4)=true then aS t [1]else t
 let t2:=if(x.op==3)=true then dU lp r [] t1 else dU lp r r t1
 let t3:=if(x.op==4)=true then(let p:=eP bd t2 5;if p.1=true then dU lp r r p.2 else if decide ((0:Int)<r.length)=true then eH p.2 else p.2)else t2
 let p:=eP bd t3 11
 iC (if(!p.1)=true then eH p.2 else p.2) r
def pV (w:List Int) (t:RT) (n:Int):RT:=let r:=cW t n;if(!(decide (w=r.1)))=true then eH r.2 else r.2
def gH (res:List Int) (x:Ins) (t:RT):RT:=
 if(x.op==12)=true then let r:=cW t x.a;rZ (aS r.2 r.1)
 else if(x.op==13)=true then let r:=cW (aS t [1]) x.a;iC (aS r.2 r.1) r.1
 else if(x.op==14)=true then let r:=cW (aS t [1]) x.a;rZ (aS (x.l.foldl (pV r.1) r.2) r.1)
 else if(x.op==15)=true then rZ (aS t res)
 else rZ t
def cG (m:Md) (f:Int):FT×Bool:=
 let k:=if(if decide (0<=f)=true then decide (f<m.im.length)else false)=true then(m.im.getD f.toNat ⟨[],[],0⟩).ty
  else if(if decide (0<=f)=true then decide (f-m.im.length<m.fn.length)else false)=true then m.fn.getD (f-m.im.length).toNat 0 else-1
 if(if decide (k<0)=true then true else decide ((m.ty.length:Int)<=k))=true then(qM,false)else(m.ty.getD k.toNat qM,true)
def sC (m:Md) (x:Ins) (t:RT):RT:=
 if(x.op==16)=true then let y:=cG m x.a;if(!y.2)=true then eH t else iC (aS t y.1.pr) y.1.rs
 else if(if(!m.tb.has)=true then true else decide ((m.ty.length:Int)<=x.a))=true then eH t
 else iC (aS (aS t [1]) (m.ty.getD x.a.toNat qM).pr) (m.ty.getD x.a.toNat qM).rs
def vK (x:Ins) (c k:Int) (t:RT):RT:=
 let t:=if decide (c<x.a)=true then eH t else t
 if decide (54<=x.op)=true then aS t [1,k]else iC (aS t [1]) [k]
def DM (x:Ins) (t:RT):RT:=
 if(x.op==40||x.op==54)=true then vK x 2 1 t
 else if(x.op==41||x.op==55)=true then vK x 3 2 t
 else if(x.op==63)=true then iC t [1]
 else if(x.op==64)=true then iC (aS t [1]) [1]
 else vK x 0 1 t
def GT (m:Md) (x:Ins) (t:RT):RT:=DM x (if(!m.me.has)=true then eH t else t)
def gS (m:Md) (ls:List Int) (x:Ins) (t:RT):RT:=
 if(x.op==65)=true then iC t [1]
 else if(x.op==66)=true then iC t [2]
 else if(x.op==32||(x.op==33||x.op==34))=true then
  if decide ((ls.length:Int)<=x.a)=true then eH t
  else
   let k:=ls.getD x.a.toNat 0
   let t:=if(x.op !=32)=true then aS t [k]else t
   if(x.op !=33)=true then iC t [k]else t
 else if(x.op==35||x.op==36)=true then
  if(if decide ((m.gl.length:Int)<=x.a)=true then true else if(x.op==36)=true then !(m.gl.getD x.a.toNat NA).mu else false)=true then eH t
  else if(x.op==35)=true then iC t [(m.gl.getD x.a.toNat NA).kd]else aS t [(m.gl.getD x.a.toNat NA).kd]
 else GT m x t
def aNK (t:RT) (k:Int) (n:Nat):RT:=aS t (Ak n k)
def RU (op:Int):Bool:=op==12||(op==13||(op==14||(op==15||op==0)))
def gZ (m:Md) (ls res:List Int) (x:Ins) (t:RT):RT:=
 if RU x.op=true then gH res x t
 else if(x.op==16||x.op==17)=true then sC m x t
 else if(x.op==26)=true then(jQ t 0).2
 else if(x.op==27)=true then let r:=jQ (aS t [1]) 0;let r2:=jQ r.2 r.1;iC r2.2 [r2.1]
 else if(x.op==1)=true then t
 else if(pX x.op).2.2.2=true then iC (aNK t (pX x.op).2.1 (pX x.op).1.toNat) [(pX x.op).2.2.1]
 else gS m ls x t
def fG (m:Md) (ls res:List Int) (bd:List Ins) (lp:RT->RT) (x:Ins) (t:RT):RT:=
 if rQ x.op=true then uJ lp bd x ⟨t.a+1,t.lb,t.bad,t.l,t.dd⟩else gZ m ls res x ⟨t.a+1,t.lb,t.bad,t.l,t.dd⟩
def nN (m:Md) (ls res:List Int) (bd:List Ins):Nat->RT->RT
 |0,t=>t
 |f+1,t=>
  if(if decide ((t.a:Int)<bd.length)=true then !t.bad else false)=true then
   let x:=bd.getD t.a ⟨0,0,0,[]⟩
   if(if(x.op==11)=true then true else(x.op==5))=true then t
   else nN m ls res bd f (fG m ls res bd (nN m ls res bd f) x t)
  else t
theorem aBa(t:RT)(k:Int):(jQ t k).2.a=t.a:=by
 unfold jQ;refine aJ (p:=fun r:Int×RT=>r.2.a=t.a) (fun _=> ?_) (fun _=>rfl);exact aJ (p:=fun r:RT=>r.a=t.a) (fun _=>rfl) (fun _=>rfl)
theorem aEO(t:RT)(k:Int):(jQ t k).2.lb=t.lb:=by
 unfold jQ;refine aJ (p:=fun r:Int×RT=>r.2.lb=t.lb) (fun _=> ?_) (fun _=>rfl);exact aJ (p:=fun r:RT=>r.lb=t.lb) (fun _=>rfl) (fun _=>rfl)
theorem HO(t:RT)(k:Int)(h:t.bad=true):(jQ t k).2.bad=true:=by
 unfold jQ;refine aJ (p:=fun r:Int×RT=>r.2.bad=true) (fun _=> ?_) (fun _=> ?_)
 ·exact aJ (p:=fun r:RT=>r.bad=true) (fun _=>rfl) (fun _=>h)
 ·dsimp only;rw[h];simp
theorem DO{p:RT->Prop}(h:∀s w,p s->p (jQ s w).2):∀(ks:List Int) (s:RT),p s->p (aS s ks):=by
 have:∀(l:List Int) (s:RT),p s->p (l.foldl (fun s k=>(jQ s k).2) s):=by
  intro l
  induction l with
  |nil=>intro s hs;exact hs
  |cons a l ih=>intro s hs;exact ih _ (h s a hs)
 intro ks s hs;exact this _ s hs
theorem BP(t:RT)(ks:List Int):(aS t ks).a=t.a:=DO (p:=fun q=>q.a=t.a) (fun q w h=>(aBa q w).trans h) ks t rfl
theorem sX(t:RT)(ks:List Int):(aS t ks).lb=t.lb:=DO (p:=fun q=>q.lb=t.lb) (fun q w h=>(aEO q w).trans h) ks t rfl
theorem JY(t:RT)(ks:List Int)(h:t.bad=true):(aS t ks).bad=true:=DO (p:=fun q=>q.bad=true) (fun q w h=>HO q w h) ks t h
theorem QR(t:RT)(n:Int):(cW t n).2.a=t.a:=by
 unfold cW;exact aJ (p:=fun r:List Int×RT=>r.2.a=t.a) (fun _=>rfl) (fun _=>rfl)
theorem uK(t:RT)(n:Int)(h:t.bad=true):(cW t n).2.bad=true:=by
 unfold cW;exact aJ (p:=fun r:List Int×RT=>r.2.bad=true) (fun _=>rfl) (fun _=>h)
def Adv (t:RT) (n:Nat) (q:RT):Prop:=t.a+n<=q.a/\(t.bad=true->q.bad=true)
theorem Adv.refl (t:RT):Adv t 0 t:=⟨A3 _,id⟩
theorem Adv.trans {t q r:RT}{n k:Nat}(h:Adv t n q)(h':Adv q k r):Adv t (n+k) r:=⟨by have:=h.1;have:=h'.1;omega,fun e=>h'.2 (h.2 e)⟩
theorem Adv.le {t q:RT}{n k:Nat}(h:Adv t n q)(hk:k<=n):Adv t k q:=⟨by have:=h.1;omega,h.2⟩
theorem Adv.take {t q:RT}{n:Nat}(h:Adv t n q)(ks:List Int):Adv t n (aS q ks):=⟨by rw[BP];exact h.1,fun e=>JY _ _ (h.2 e)⟩
theorem Adv.one {t q:RT}{n:Nat}(h:Adv t n q)(k:Int):Adv t n (jQ q k).2:=⟨by rw[aBa];exact h.1,fun e=>HO _ _ (h.2 e)⟩
theorem Adv.put {t q:RT}{n:Nat}(h:Adv t n q)(ks:List Int):Adv t n (iC q ks):=h
theorem Adv.ends {t q:RT}{n:Nat}(h:Adv t n q):Adv t n (rZ q):=h
theorem Adv.bad {t q:RT}{n:Nat}(h:Adv t n q):Adv t n (eH q):=⟨h.1,fun _=>rfl⟩
theorem Adv.label {t q:RT}{n:Nat}(h:Adv t n q)(x:Int):Adv t n (cW q x).2:=⟨by rw[QR];exact h.1,fun e=>uK _ _ (h.2 e)⟩
theorem Adv.tabs {t q:RT}{n:Nat}(h:Adv t n q)(w l:List Int):Adv t n (l.foldl (pV w) q):=by
 induction l generalizing q with
 |nil=>exact h
 |cons a l ih=>exact ih (aJ (p:=Adv t n) (fun _=>(h.label a).bad) (fun _=>h.label a))
theorem ZA(res:List Int)(x:Ins)(t:RT):Adv t 0 (gH res x t):=by
 have h:=Adv.refl t;unfold gH;refine aJ (fun _=>((h.label _).take _).ends) (fun _=> ?_);refine aJ (fun _=>(((h.take _).label _).take _).put _) (fun _=> ?_);refine aJ (fun _=>((((h.take _).label _).tabs _ _).take _).ends) (fun _=> ?_);exact aJ (fun _=>(h.take _).ends) (fun _=>h.ends)
theorem aEP(m:Md)(x:Ins)(t:RT):Adv t 0 (sC m x t):=by
 have h:=Adv.refl t;unfold sC;refine aJ (fun _=>aJ (p:=Adv t 0) (fun _=>h.bad) (fun _=>(h.take _).put _)) (fun _=> ?_);exact aJ (fun _=>h.bad) (fun _=>((h.take _).take _).put _)
theorem QS{t q:RT}(h:Adv t 0 q)(x:Ins)(c k:Int):Adv t 0 (vK x c k q):=by
 have ha:Adv t 0 (if decide (c<x.a)=true then eH q else q):=aJ (fun _=>h.bad) (fun _=>h);exact aJ (fun _=>ha.take _) (fun _=>(ha.take _).put _)
theorem aHM(m:Md)(x:Ins)(t:RT):Adv t 0 (GT m x t):=by
 have h:Adv t 0 (if(!m.me.has)=true then eH t else t):=aJ (fun _=>(Adv.refl t).bad) (fun _=>Adv.refl t);unfold GT;generalize(if(!m.me.has)=true then eH t else t)=q at h;unfold DM;refine aJ (fun _=>QS h x _ _) (fun _=> ?_);refine aJ (fun _=>QS h x _ _) (fun _=> ?_);refine aJ (fun _=>h.put _) (fun _=> ?_);exact aJ (fun _=>(h.take _).put _) (fun _=>QS h x _ _)
theorem ZB(m:Md)(ls:List Int)(x:Ins)(t:RT):Adv t 0 (gS m ls x t):=by
 have h:=Adv.refl t;unfold gS;refine aJ (fun _=>h.put _) (fun _=> ?_);refine aJ (fun _=>h.put _) (fun _=> ?_);refine aJ (fun _=>aJ (fun _=>h.bad) (fun _=> ?_)) (fun _=> ?_)
 ·have hq:Adv t 0 (if(x.op !=32)=true then aS t [ls.getD x.a.toNat 0]else t):=aJ (fun _=>h.take _) (fun _=>h);exact aJ (fun _=>hq.put _) (fun _=>hq)
 refine aJ (fun _=>aJ (fun _=>h.bad) (fun _=>aJ (fun _=>h.put _) (fun _=>h.take _))) (fun _=>aHM m x t)
theorem aEQ(m:Md)(ls res:List Int)(x:Ins)(t:RT):Adv t 0 (gZ m ls res x t):=by
 have h:=Adv.refl t;unfold gZ;refine aJ (fun _=>ZA _ _ _) (fun _=> ?_);refine aJ (fun _=>aEP _ _ _) (fun _=> ?_);refine aJ (fun _=>h.one 0) (fun _=> ?_);refine aJ (fun _=>(((h.take _).one _).one _).put _) (fun _=> ?_);refine aJ (fun _=>h) (fun _=> ?_);exact aJ (fun _=>(h.take _).put _) (fun _=>ZB _ _ _ _)
theorem uL(bd:List Ins)(t:RT)(op:Int):Adv t 0 (eP bd t op).2:=by
 unfold eP;exact aJ (p:=fun r:Bool×RT=>Adv t 0 r.2) (fun _=>⟨Nat.le_succ _,id⟩) (fun _=>Adv.refl t)
theorem mA{lp:RT->RT}(hl:∀q,Adv q 0 (lp q))(res br:List Int)(t:RT):Adv t 0 (dU lp res br t):=by
 have h:=(hl ⟨t.a,t.lb++ [br],t.bad,[],false⟩).take res;refine⟨h.1,fun e=> ?_⟩;show(if _ then true else _)=true;rw[h.2 e];simp
theorem aER{lp:RT->RT}(hl:∀q,Adv q 0 (lp q))(bd:List Ins)(x:Ins)(t:RT):Adv t 0 (uJ lp bd x t):=by
 unfold uJ;dsimp only;have h1:Adv t 0 (if(x.op==4)=true then aS t [1]else t):=aJ (fun _=>(Adv.refl t).take _) (fun _=>Adv.refl t);generalize(if(x.op==4)=true then aS t [1]else t)=t1 at h1;have h2:Adv t 0 (if(x.op==3)=true then dU lp (aZ x.a) [] t1 else dU lp (aZ x.a) (aZ x.a) t1):=aJ (fun _=>h1.trans (mA hl _ _ _)) (fun _=>h1.trans (mA hl _ _ _));generalize(if(x.op==3)=true then dU lp (aZ x.a) [] t1 else dU lp (aZ x.a) (aZ x.a) t1)=t2 at h2;have hp:=h2.trans (uL bd t2 5);have h3:Adv t 0 (if(x.op==4)=true then(if(eP bd t2 5).1=true then dU lp (aZ x.a) (aZ x.a) (eP bd t2 5).2 else if decide ((0:Int)<(aZ x.a).length)=true then eH (eP bd t2 5).2 else(eP bd t2 5).2)else t2):=
  aJ (fun _=>aJ (fun _=>hp.trans (mA hl _ _ _)) (fun _=>aJ (fun _=>hp.bad) (fun _=>hp))) (fun _=>h2)
 generalize(if(x.op==4)=true then(if(eP bd t2 5).1=true then dU lp (aZ x.a) (aZ x.a) (eP bd t2 5).2 else if decide ((0:Int)<(aZ x.a).length)=true then eH (eP bd t2 5).2 else(eP bd t2 5).2)else t2)=t3 at h3;have hq:=h3.trans (uL bd t3 11);exact Adv.put (aJ (fun _=>hq.bad) (fun _=>hq)) _
theorem zH(m:Md)(ls res:List Int)(bd:List Ins){lp:RT->RT}(hl:∀q,Adv q 0 (lp q))(x:Ins)(t:RT):Adv t 1 (fG m ls res bd lp x t):=by
 unfold fG;refine aJ (fun _=> ?_) (fun _=> ?_)
 ·have h:=aER hl bd x ⟨t.a+1,t.lb,t.bad,t.l,t.dd⟩;exact⟨h.1,h.2⟩
 ·have h:=aEQ m ls res x ⟨t.a+1,t.lb,t.bad,t.l,t.dd⟩;exact⟨h.1,h.2⟩
theorem yS(m:Md)(ls res:List Int)(bd:List Ins):∀(f:Nat) (t:RT),Adv t 0 (nN m ls res bd f t)
 |0,t=>Adv.refl t
 |f+1,t=>by
  rw[nN];refine aJ (fun _=> ?_) (fun _=>Adv.refl t);exact aJ (p:=Adv t 0) (fun _=>Adv.refl t) (fun _=>((zH m ls res bd (yS m ls res bd f) _ t).trans (yS m ls res bd f _)).le (Am _))
theorem ZC{l1 l2:RT->RT}{res br:List Int}{t:RT}(h:∀q,t.a<=q.a->l1 q=l2 q):dU l1 res br t=dU l2 res br t:=by
 unfold dU;rw[h ⟨t.a,t.lb++ [br],t.bad,[],false⟩ (A3 _)]
theorem aB8{l1 l2:RT->RT}(hl:∀q,Adv q 0 (l2 q)){bd:List Ins}{x:Ins}{t:RT}(h:∀q,t.a<=q.a->l1 q=l2 q):uJ l1 bd x t=uJ l2 bd x t:=by
 have h1:Adv t 0 (if(x.op==4)=true then aS t [1]else t):=aJ (fun _=>(Adv.refl t).take _) (fun _=>Adv.refl t);have hb:∀ {res br:List Int} {q:RT},Adv t 0 q->dU l1 res br q=dU l2 res br q:=fun hq=>ZC fun q' hq'=>h q' (A4 hq.1 hq')
 unfold uJ;dsimp only;generalize(if(x.op==4)=true then aS t [1]else t)=t1 at h1;rw[hb h1,hb h1];have h2:Adv t 0 (if(x.op==3)=true then dU l2 (aZ x.a) [] t1 else dU l2 (aZ x.a) (aZ x.a) t1):=aJ (fun _=>h1.trans (mA hl _ _ _)) (fun _=>h1.trans (mA hl _ _ _));generalize(if(x.op==3)=true then dU l2 (aZ x.a) [] t1 else dU l2 (aZ x.a) (aZ x.a) t1)=t2 at h2;rw[hb (h2.trans (uL bd t2 5))]
theorem JZ{m:Md}{ls res:List Int}{l1 l2:RT->RT}(hl:∀q,Adv q 0 (l2 q)){bd:List Ins}{x:Ins}{t:RT}(h:∀q,t.a+1<=q.a->l1 q=l2 q):fG m ls res bd l1 x t=fG m ls res bd l2 x t:=by
 unfold fG;rw[aB8 hl h]
theorem zI(m:Md)(ls res:List Int)(bd:List Ins):∀(f g:Nat) (t:RT),bd.length+1<=f+t.a->bd.length+1<=g+t.a->nN m ls res bd f t=nN m ls res bd g t
 |0,0,_,_,_=>rfl
 |0,g+1,t,h,_=>by
  rw[nN,nN,Db];rw[decide_eq_false U,Db X];simp
 |f+1,0,t,_,h=>by
  rw[nN,nN,Db];rw[decide_eq_false U,Db X];simp
 |f+1,g+1,t,h,h'=>by
  rw[nN,nN];dsimp only;have e:∀x,fG m ls res bd (nN m ls res bd f) x t=fG m ls res bd (nN m ls res bd g) x t:=fun x=>JZ (yS m ls res bd g) fun q hq=>zI m ls res bd f g q U U
  rw[e];have h2:=(zH m ls res bd (yS m ls res bd g) (bd.getD t.a ⟨0,0,0,[]⟩) t).1;rw[zI m ls res bd f g _ U U]
def LR (m:Md) (ls res:List Int) (bd:List Ins) (t:RT):RT:=nN m ls res bd (bd.length+1) t
theorem KA(m:Md)(ls res:List Int)(bd:List Ins)(t:RT):Adv t 0 (LR m ls res bd t):=yS m ls res bd _ t
theorem VF(m:Md)(ls res:List Int)(bd:List Ins)(t:RT):LR m ls res bd t=
  if(if decide ((t.a:Int)<bd.length)=true then !t.bad else false)=true then
   (if(if((bd.getD t.a ⟨0,0,0,[]⟩).op==11)=true then true else((bd.getD t.a ⟨0,0,0,[]⟩).op==5))=true then t
   else LR m ls res bd (fG m ls res bd (LR m ls res bd) (bd.getD t.a ⟨0,0,0,[]⟩) t))
  else t:=by
 have e:∀x,fG m ls res bd (nN m ls res bd bd.length) x t=fG m ls res bd (LR m ls res bd) x t:=fun x=>JZ (KA m ls res bd) fun q hq=>zI m ls res bd _ _ q U U
 conv=>lhs;rw[LR,nN]
 dsimp only;rw[e];have h2:=(zH m ls res bd (KA m ls res bd) (bd.getD t.a ⟨0,0,0,[]⟩) t).1;rw[zI m ls res bd bd.length (bd.length+1) _ U U];rfl
def ZD (m:Md) (k:Int):Bool:=
 if(if(if(if(if decide (k<0)=true then true else decide ((m.co.length:Int)<=k))=true then true else decide ((m.fn.length:Int)<=k))=true then true else decide (m.fn.getD k.toNat 0<0))=true then true else decide ((m.ty.length:Int)<=m.fn.getD k.toNat 0))=true then false
 else
  let t:=m.ty.getD (m.fn.getD k.toNat 0).toNat qM
  let c:=m.co.getD k.toNat ⟨[],[]⟩
  let ls:=t.pr++c.ls
  if decide ((32:Int)<ls.length)=true then false
  else
   let r:=dU (LR m ls t.rs c.bd) t.rs t.rs ⟨0,[],false,[],false⟩
   if(!r.bad)=true then((r.a:Int)==c.bd.length)else false
def lbC (c:Ct):List Int:=if(c.op==3)=true then []else aZ c.kd
structure Cor (o:List Ct) (op kd:Int) (base:List Int) (t:RT) (s:PS):Prop where
 vs:s.vs=base++t.l
 cs:s.cs=o++ [⟨op,kd,base.length,t.dd⟩]
 lb:t.lb=s.cs.map lbC
def rA (o:List Ct) (op kd:Int) (base:List Int) (t:RT) (s:PS):Prop:=(t.bad=true/\s.bad=true)\/(t.bad=false/\s.bad=false/\Cor o op kd base t s)
section
variable {o : List Ct} {op kd : Int} {base : List Int} {t : RT} {s : PS}
theorem Cor.top (h:Cor o op kd base t s):s.top=⟨op,kd,base.length,t.dd⟩:=by unfold PS.top;rw[h.cs];simp
theorem oZ(s:PS)(b:Bool)(h:s.bad=true):(dA s b).bad=true:=by unfold dA;rw[h];rfl
theorem DP(s:PS)(w:Int)(h:s.bad=true):(cO s w).2.bad=true:=by
 unfold cO;refine aJ (p:=fun r:Int×PS=>r.2.bad=true) (fun _=>oZ _ _ h) (fun _=> ?_);exact aJ (p:=fun r:Int×PS=>r.2.bad=true) (fun _=>h) (fun _=>oZ _ _ h)
theorem yT(s:PS)(ks:List Int)(h:s.bad=true):(dQ s ks).bad=true:=CS (p:=fun q=>q.bad=true) (fun q w h=>DP q w h) ks s h
theorem ZE(s:PS)(n:Int)(h:s.bad=true):(cR s n).2.bad=true:=by
 unfold cR;exact aJ (p:=fun r:List Int×PS=>r.2.bad=true) (fun _=>rfl) (fun _=>h)
theorem HP(h:rA o op kd base t s){k k':Int}(hk:t.bad=false->k=k'):rA o op kd base (jQ t k).2 (cO s k').2/\((jQ t k).2.bad=false->(jQ t k).1=(cO s k').1):=by
 rcases h with⟨h1,h2⟩|⟨h1,h2,h3⟩
 ·exact⟨.inl ⟨HO t k h1,DP s k' h2⟩,fun e=>by rw[HO t k h1]at e;cases e⟩
 obtain rfl:=hk h1;have ht:=h3.top;obtain⟨ta,tl,tb,l,dd⟩:=t;obtain⟨vs,cs,sb⟩:=s;obtain⟨e1,e2,e3⟩:=h3;dsimp only at e1 e2 e3 h1 h2;subst h1 h2 e1;unfold jQ cO;rw[ht];rcases List.eq_nil_or_concat l with rfl|⟨l',x,rfl⟩
 ·dsimp only;have c1:(((base++ []).length:Int)==(base.length:Int))=true:=by simp
  rw[Dc (show((([]:List Int).length:Int)==0)=true from rfl),Dc c1];cases dd with
  |true=>exact⟨.inr ⟨rfl,rfl,⟨rfl,e2,e3⟩⟩,fun _=>rfl⟩
  |false=>exact⟨.inl ⟨rfl,rfl⟩,fun e=>by cases e⟩
 ·rw[List.concat_eq_append];have c2:¬(((l'++ [x]).length:Int)==0)=true:=by simp only[Ao,Bj,List.length_nil,beq_iff_eq];omega
  have c3:¬(((base++(l'++ [x])).length:Int)==(base.length:Int))=true:=by simp only[Ao,Bj,List.length_nil,beq_iff_eq];omega
  dsimp only;rw[Db c2,Db c3];have g1:(l'++ [x]).getLast?.getD 0=x:=by simp
  have g2:(base++(l'++ [x])).getLast?.getD 0=x:=by rw[<-Aq];simp
  have g3:(base++(l'++ [x])).dropLast=base++l':=by rw[<-Aq];simp
  have g4:(l'++ [x]).dropLast=l':=by simp
  rw[g1,g2,g3,g4];by_cases hx:x=0
  ·subst hx;rw[show QQ 0 k=false by simp[QQ]];simp only[beq_self_eq_true,Dd,Ag,De];exact⟨.inr ⟨rfl,rfl,⟨rfl,e2,e3⟩⟩,fun _=>trivial⟩
  ·rw[show(x==0)=false by simpa using hx];simp only[Ag,De];unfold dA QQ;by_cases hk0:k=0
   ·subst hk0;exact⟨.inr ⟨X,X,⟨rfl,e2,e3⟩⟩,fun _=>trivial⟩
   ·by_cases hxk:x=k
    ·subst hxk;exact⟨.inr ⟨X,X,⟨rfl,e2,e3⟩⟩,fun _=>trivial⟩
    ·exact⟨.inl ⟨by simp[hxk,hx,hk0],by simp[hxk,hk0]⟩,fun _=>trivial⟩
theorem fU(h:rA o op kd base t s){ks ks':List Int}(hk:t.bad=false->ks=ks'):rA o op kd base (aS t ks) (dQ s ks'):=by
 rcases Bool.eq_false_or_eq_true t.bad with hb|hb
 ·rcases h with⟨h1,h2⟩|⟨h1,h2,h3⟩
  ·exact .inl ⟨JY t ks h1,yT s ks' h2⟩
  ·rw[hb]at h1;cases h1
 obtain rfl:=hk hb;unfold aS dQ;generalize ks.reverse=l;clear hk hb
 induction l generalizing t s with
 |nil=>exact h
 |cons a l ih=>exact ih (HP h (fun _=>rfl)).1
theorem kF(h:rA o op kd base t s){ks ks':List Int}(hk:t.bad=false->ks=ks'):rA o op kd base (iC t ks) (gB s ks'):=by
 rcases h with⟨h1,h2⟩|⟨h1,h2,h3⟩
 ·exact .inl ⟨h1,h2⟩
 ·obtain rfl:=hk h1;exact .inr ⟨h1,h2,⟨by show s.vs++ks=base++(t.l++ks);rw[h3.vs,Aq],h3.cs,h3.lb⟩⟩
theorem DQ(h:rA o op kd base t s):rA o op kd base (rZ t) (pR s):=by
 rcases h with⟨h1,h2⟩|⟨h1,h2,h3⟩
 ·exact .inl ⟨h1,h2⟩
 ·have ht:=h3.top;refine .inr ⟨h1,h2,⟨?_, ?_, ?_⟩⟩
  ·show s.vs.take s.top.ht=base++ [];rw[ht,h3.vs];simp
  ·show s.cs.dropLast++ [⟨s.top.op,s.top.kd,s.top.ht,true⟩]=_;rw[ht,h3.cs];simp[rZ]
  ·show t.lb=(s.cs.dropLast++ [(⟨s.top.op,s.top.kd,s.top.ht,true⟩:Ct)]).map lbC;rw[ht,h3.lb,h3.cs];simp[lbC]
theorem sD(h:rA o op kd base t s){b b':Bool}(hb:t.bad=false->b=b'):rA o op kd base (if b=true then t else eH t) (dA s b'):=by
 rcases h with⟨h1,h2⟩|⟨h1,h2,h3⟩
 ·refine .inl ⟨?_,oZ s b' h2⟩;exact aJ (p:=fun r:RT=>r.bad=true) (fun _=>h1) (fun _=>rfl)
 ·obtain rfl:=hb h1;cases b with
  |true=>rw[Dc rfl];exact Or.inr ⟨h1,by simp[dA,h2],⟨h3.vs,h3.cs,h3.lb⟩⟩
  |false=>rw[Db X];exact .inl ⟨rfl,by simp[dA]⟩
theorem aHO(t:RT)(s:PS):rA o op kd base (eH t) ⟨s.vs,s.cs,true⟩:=.inl ⟨rfl,rfl⟩
theorem zJ(h:rA o op kd base t s){n:Int}(hn:0<=n):rA o op kd base (cW t n).2 (cR s n).2/\((cW t n).2.bad=false->(cW t n).1=(cR s n).1):=by
 rcases h with⟨h1,h2⟩|⟨h1,h2,h3⟩
 ·exact⟨.inl ⟨uK t n h1,ZE s n h2⟩,fun e=>by rw[uK t n h1]at e;cases e⟩
 have hl:t.lb.length=s.cs.length:=by rw[h3.lb];simp
 unfold cW cR;rw[hl];by_cases hc:(s.cs.length:Int)<=n
 ·rw[Dc (by rw[Db Af];simp;omega),Dc (C8 hc)];exact⟨aHO t s,fun e=>by cases e⟩
 ·rw[Db (by rw[Db Af];simp;omega),Db (C8 hc)];refine⟨.inr ⟨h1,h2,h3⟩,fun _=> ?_⟩;dsimp only;have hi:((s.cs.length:Int)-1-n).toNat=s.cs.length-1-n.toNat:=by omega
  have hlt:s.cs.length-1-n.toNat<s.cs.length:=by omega
  rw[hi,h3.lb,Ax,Ax,Bg,Ar hlt];rfl
theorem aLn{a b:List Int}(ha:a.length<=1)(hb:b.length<=1):eq1 a b=decide (b=a):=by
 unfold eq1
 match a,b,ha,hb with
 |[],[],_,_=>rfl
 |[],[y],_,_=>simp
 |[x],[],_,_=>simp
 |[x],[y],_,_=>simp[Bool.beq_eq_decide_eq];exact eq_comm
theorem VG{w w':List Int}(hw:w'.length<=1):∀ {l:List Int} (_:∀n∈l,0<=n) {t:RT} {s:PS} (_:rA o op kd base t s) (_:t.bad=false->w=w'),rA o op kd base (l.foldl (pV w) t) (l.foldl (zT w') s)
 |[],_,_,_,h,_=>h
 |n::l,hl,t,s,h,he=>by
  have hn:=hl n Au;obtain⟨h1,h2⟩:=zJ h hn;have hs:rA o op kd base (pV w t n) (zT w' s n):=by
   have:=sD h1 (b:=decide (w=(cW t n).1)) (b':=eq1 (cR s n).1 w') fun e=>by
    rw[h2 e,aLn (oV s n) hw];have e0:t.bad=false:=by
     cases hb:t.bad with
     |false=>rfl
     |true=>rw[uK t n hb]at e;cases e
    rw[he e0]
   unfold pV zT;dsimp only;cases hd:decide (w=(cW t n).1)with
   |true=>rw[hd]at this;exact this
   |false=>rw[hd]at this;exact this
  refine VG hw (fun n hn=>hl n (An _ hn)) hs fun e=>he ?_
  cases hb:t.bad with
  |false=>rfl
  |true=>
   have:(pV w t n).bad=true:=by
    unfold pV;exact aJ (p:=fun r:RT=>r.bad=true) (fun _=>rfl) (fun _=>uK t n hb)
   rw[this]at e;cases e
theorem aES{P:Prop}{t q:RT}{n:Nat}(h:Adv t n q)(k:t.bad=false->P):q.bad=false->P:=fun e=>k (by
 cases hb:t.bad with
 |false=>rfl
 |true=>rw[h.2 hb]at e;cases e)
end
def aNL (n:Nat):Bool:= !(TI n)||decide ((kN n).1=Ak (pX n).1.toNat (pX n).2.1/\(kN n).2.1=(pX n).2.2.1/\(kN n).2.2=true/\(pX n).2.2.2=true)
theorem aHP:((List.range 174).all aNL)=true:=by decide+kernel
theorem aLo{op:Int}(h:TI op=true):(kN op).1=Ak (pX op).1.toNat (pX op).2.1/\(kN op).2.1=(pX op).2.2.1/\(kN op).2.2=true/\(pX op).2.2.2=true:=by
 have h0:0<=op/\op<174:=by unfold TI at h;have:=of_decide_eq_true h;omega
 obtain⟨n,rfl⟩:∃n:Nat,op=n:=⟨op.toNat,U⟩
 have h1:=Bw.1 aHP n (List.mem_range.2 U);unfold aNL at h1;rw[h]at h1;simpa using h1
theorem aET{op:Int}(h:aW op≠0):op∈([0,1,5,11,15,26,27,2,3,4,12,13,16,32,33,34,35,36,14,17,40,41,44,45,54,55,58,63,64,65,66]:List Int)\/TI op=true:=by
 unfold aW jE at h;cases hk:TI op with
 |true=>exact .inr rfl
 |false=>
  left;rw[hk]at h;simp only[Av,A5,or_false];simp only[Bool.or_eq_true,beq_iff_eq,Ag,De]at h;repeat' split at h
  all_goals first|omega|exact absurd rfl h
theorem aEU{x:Ins}(h:cY x=true):aW x.op≠0:=by
 intro e;unfold cY at h;rw[e]at h;revert h;refine aJ (p:=fun b:Bool=>b=true->False) (fun _=>by simp) (fun _=> ?_);simp
theorem pH{n a b:Int}(h:qQ n a b=true):a<=n/\n<=b:=by rw[kW]at h;exact of_decide_eq_true h
theorem lL{x:Ins}(h:cY x=true)(hf:aW x.op=3\/aW x.op=4\/aW x.op=5\/aW x.op=6):0<=x.a/\(aW x.op=4->∀n∈x.l,0<=n):=by
 unfold cY at h;have h0:jN x (aW x.op)=false:=by
  cases hp:jN x (aW x.op)with
  |false=>rfl
  |true=>rw[hp]at h;simp at h
 rw[h0]at h;simp only[Ag,De]at h;rcases hf with e|e|e|e<;>rw[e]at h⊢
 ·simp only[show((3:Int)==1||(3:Int)==7)=false from rfl,show((3:Int)==2)=false from rfl,show((3:Int)==3||(3:Int)==5)=true from rfl,Ag,De,Dd]at h;exact⟨(pH h).1,fun e=>by simp at e⟩
 ·simp only[show((4:Int)==1||(4:Int)==7)=false from rfl,show((4:Int)==2)=false from rfl,show((4:Int)==3||(4:Int)==5)=false from rfl,show((4:Int)==4)=true from rfl,Ag,De,Dd]at h;cases ha:qQ x.a 0 1000 with
  |false=>rw[ha]at h;simp at h
  |true=>
   refine⟨(pH ha).1,fun _ n hn=> ?_⟩;rw[ha]at h;simp only[Dd]at h;split at h
   ·simp only[Bool.not_eq_true',List.any_eq_false,Bool.not_eq_true',Bool.not_eq_false]at h;have:=h n hn;have:qQ n 0 1000=true:=C8 this
    exact(pH this).1
   ·cases h
 ·simp only[show((5:Int)==1||(5:Int)==7)=false from rfl,show((5:Int)==2)=false from rfl,show((5:Int)==3||(5:Int)==5)=true from rfl,Ag,De,Dd]at h;exact⟨(pH h).1,fun e=>by simp at e⟩
 ·simp only[show((6:Int)==1||(6:Int)==7)=false from rfl,show((6:Int)==2)=false from rfl,show((6:Int)==3||(6:Int)==5)=false from rfl,show((6:Int)==4)=false from rfl,show((6:Int)==6)=true from rfl,Ag,De,Dd]at h;cases ha:qQ x.a 0 3 with
  |false=>rw[ha]at h;simp at h
  |true=>exact⟨(pH ha).1,fun e=>by simp at e⟩
theorem uM{x:Ins}(h:cY x=true)(hf:aW x.op=1\/aW x.op=7):x.a=0:=by
 unfold cY at h;have h0:jN x (aW x.op)=false:=by
  cases hp:jN x (aW x.op)with
  |false=>rfl
  |true=>rw[hp]at h;simp at h
 rw[h0]at h;rcases hf with e|e<;>rw[e]at h<;>simpa using h
def rkd (o:List Ct) (kd:Int):Int:=match o with|[]=>kd|c:: _=>c.kd
theorem aLp(o:List Ct)(op kd:Int)(h:Nat)(d:Bool):((o++ [(⟨op,kd,h,d⟩:Ct)]).getD 0 ct0).kd=rkd o kd:=by cases o<;>rfl
section
variable {o : List Ct} {op kd : Int} {base : List Int} {t : RT} {s : PS} {m : Md} {ls res : List Int}
theorem ZF(h:rA o op kd base t s)(hr:res=aZ (rkd o kd)){x:Ins}(hx:cY x=true)(hb:RU x.op=true):rA o op kd base (gH res x t) (gQ m ls s x):=by
 obtain⟨xo,a,b,l⟩:=x;have hb':xo=12\/xo=13\/xo=14\/xo=15\/xo=0:=by unfold RU at hb;simpa[or_assoc]using hb
 rcases hb' with rfl|rfl|rfl|rfl|rfl
 ·have ha:=(lL hx (.inl (show aW 12=3 by decide))).1;obtain⟨h1,h2⟩:=zJ h ha;exact DQ (fU h1 h2)
 ·have ha:=(lL hx (.inl (show aW 13=3 by decide))).1;obtain⟨h1,h2⟩:=zJ (fU (ks:=[1]) h fun _=>rfl) ha;have h3:=fU h1 h2;exact kF h3 (aES ((Adv.refl _).take _) h2)
 ·have ha:=lL hx (.inr (.inl (show aW 14=4 by decide)));obtain⟨h1,h2⟩:=zJ (fU (ks:=[1]) h fun _=>rfl) ha.1;have h3:=VG (w:=(cW (aS t [1]) a).1) (oV _ a) (l:=l) (ha.2 (show aW 14=4 by decide)) h1 h2;exact DQ (fU h3 (aES ((Adv.refl _).tabs _ _) h2))
 ·refine DQ (fU h fun e=> ?_);rcases h with⟨h1,-⟩|⟨-,-,h3⟩
  ·rw[h1]at e;cases e
  ·rw[h3.cs,aLp,hr]
 ·exact DQ h
theorem zK{m:Md}{f:Int}(hf:0<=f):cG m f=cF m (lI m f):=by
 unfold cG cF lI;rw[decide_eq_true hf];simp only[Dd]
theorem ZG{m:Md}{f:Int}(hf:0<=f):cF m f=if decide ((m.ty.length:Int)<=f)=true then(qM,false)else(m.ty.getD f.toNat qM,true):=by
 unfold cF;rw[decide_eq_false (by omega:¬f<0)];simp only[Ag,De]
theorem NT(h:rA o op kd base t s)(y:FT×Bool):rA o op kd base (if(!y.2)=true then eH t else iC (aS t y.1.pr) y.1.rs) (rS s y.1 y.2):=by
 obtain⟨y,b⟩:=y;cases b with
 |true=>
  have h1:=sD h (b:=true) (b':=true) fun _=>rfl
  exact kF (fU h1 fun _=>rfl) fun _=>rfl
 |false=>exact .inl ⟨rfl,by show(dQ _ _).bad=true;exact yT _ _ (by simp[dA])⟩
theorem aEV(h:rA o op kd base t s){x:Ins}(hx:cY x=true)(hb:(x.op==16||x.op==17)=true):rA o op kd base (sC m x t) (gQ m ls s x):=by
 obtain⟨xo,a,b,l⟩:=x;have hb':xo=16\/xo=17:=C8 hb
 rcases hb' with rfl|rfl
 ·have ha:0<=a:=(lL hx (.inl (show aW 16=3 by decide))).1;have:=NT h (cG m a);rw[zK ha]at this;show rA _ _ _ _ (if(!(cG m a).2)=true then eH t else iC (aS t (cG m a).1.pr) (cG m a).1.rs) _;rw[zK ha];exact this
 ·have ha:0<=a:=(lL hx (.inr (.inr (.inl (show aW 17=5 by decide))))).1;have h1:=sD h (b:=m.tb.has) fun _=>rfl
  have h2:=fU (ks:=[1]) (ks':=[1]) h1 fun _=>rfl
  have h3:=NT h2 (cF m a);show rA _ _ _ _ (if(if(!m.tb.has)=true then true else decide ((m.ty.length:Int)<=a))=true then eH t else iC (aS (aS t [1]) (m.ty.getD a.toNat qM).pr) (m.ty.getD a.toNat qM).rs) (rS (dQ (dA s m.tb.has) [1]) (cF m a).1 (cF m a).2);rw[ZG ha]at h3⊢;cases hh:m.tb.has with
  |false=>
   refine .inl ⟨rfl, ?_⟩;show(dQ _ _).bad=true;exact yT _ _ (oZ _ _ (yT _ _ (by simp[dA])))
  |true=>
   rw[hh]at h3;simp only[Bool.not_true,Ag,De,Dd]at h3⊢;cases hl:decide ((m.ty.length:Int)<=a)with
   |true=>
    rw[hl]at h3;refine .inl ⟨rfl, ?_⟩;show(dQ _ _).bad=true;exact yT _ _ (by simp[dA])
   |false=>rw[hl]at h3;exact h3
theorem aB9{n:Int}(h:¬(ls.length:Int)<=n):cT ls s n=(ls.getD n.toNat 0,s):=Db (C8 h)
theorem NU{n:Int}(h:(ls.length:Int)<=n):cT ls s n=(0,⟨s.vs,s.cs,true⟩):=Dc (C8 h)
theorem QT(h:rA o op kd base t s){a b:Int}{l:List Int}(xo:Int)(ho:xo=32\/xo=33\/xo=34):rA o op kd base (gZ m ls res ⟨xo,a,b,l⟩ t) (gQ m ls s ⟨xo,a,b,l⟩):=by
 by_cases hl:(ls.length:Int)<=a
 ·have e:=NU (s:=s) hl;refine .inl ⟨?_, ?_⟩
  ·rcases ho with rfl|rfl|rfl<;>
   ·show(if decide ((ls.length:Int)<=a)=true then eH t else _).bad=true;rw[Dc (C8 hl)];rfl
  ·rcases ho with rfl|rfl|rfl
   ·show(gB (cT ls s a).2 _).bad=true;rw[e];rfl
   ·show(cO (cT ls s a).2 _).2.bad=true;rw[e];exact DP _ _ rfl
   ·show(gB (cT ls (cO (cT ls s a).2 (cT ls s a).1).2 a).2 _).bad=true;rw[NU hl];rfl
 ·have e:=fun s:PS=>aB9 (s:=s) hl
  rcases ho with rfl|rfl|rfl
  ·show rA _ _ _ _ (if decide ((ls.length:Int)<=a)=true then eH t else iC t [ls.getD a.toNat 0]) (gB (cT ls s a).2 [(cT ls s a).1]);rw[Db (C8 hl),e];exact kF h fun _=>rfl
  ·show rA _ _ _ _ (if decide ((ls.length:Int)<=a)=true then eH t else aS t [ls.getD a.toNat 0]) (cO (cT ls s a).2 (cT ls s a).1).2;rw[Db (C8 hl),e];exact fU h fun _=>rfl
  ·show rA _ _ _ _ (if decide ((ls.length:Int)<=a)=true then eH t else iC (aS t [ls.getD a.toNat 0]) [ls.getD a.toNat 0]) (gB (cT ls (cO (cT ls s a).2 (cT ls s a).1).2 a).2 [(cT ls (cO (cT ls s a).2 (cT ls s a).1).2 a).1]);rw[Db (C8 hl),e,e];exact kF (fU (ks:=[ls.getD a.toNat 0]) (ks':=[ls.getD a.toNat 0]) h fun _=>rfl) fun _=>rfl
theorem VH(h:rA o op kd base t s){a b:Int}{l:List Int}(xo:Int)(ho:xo=35\/xo=36):rA o op kd base (gZ m ls res ⟨xo,a,b,l⟩ t) (gQ m ls s ⟨xo,a,b,l⟩):=by
 by_cases hl:(m.gl.length:Int)<=a
 ·have e:dZ m s a=(NA,⟨s.vs,s.cs,true⟩):=Dc (C8 hl);refine .inl ⟨?_, ?_⟩
  ·have:∀c,(if(if decide ((m.gl.length:Int)<=a)=true then true else c)=true then eH t else if(xo==35)=true then iC t [(m.gl.getD a.toNat NA).kd]else aS t [(m.gl.getD a.toNat NA).kd]).bad=true:=fun c=>by rw[Dc (by rw[Dc (C8 hl)])];rfl
   rcases ho with rfl|rfl<;>exact this _
  ·rcases ho with rfl|rfl
   ·show(gB (dZ m s a).2 _).bad=true;rw[e];rfl
   ·show(cO (dA (dZ m s a).2 _) _).2.bad=true;rw[e];exact DP _ _ (oZ _ _ rfl)
 ·have e:dZ m s a=(m.gl.getD a.toNat NA,s):=Db (C8 hl);rcases ho with rfl|rfl
  ·show rA _ _ _ _ (if(if decide ((m.gl.length:Int)<=a)=true then true else false)=true then eH t else iC t [(m.gl.getD a.toNat NA).kd]) (gB (dZ m s a).2 [(dZ m s a).1.kd]);rw[e,Db (by rw[Db (C8 hl)];simp)];exact kF h fun _=>rfl
  ·show rA _ _ _ _ (if(if decide ((m.gl.length:Int)<=a)=true then true else !(m.gl.getD a.toNat NA).mu)=true then eH t else aS t [(m.gl.getD a.toNat NA).kd]) (cO (dA (dZ m s a).2 (dZ m s a).1.mu) (dZ m s a).1.kd).2;rw[e,Db (by simpa using hl:¬decide ((m.gl.length:Int)<=a)=true)];have h1:=sD h (b:=(m.gl.getD a.toNat NA).mu) fun _=>rfl
   cases hm:(m.gl.getD a.toNat NA).mu with
   |true=>rw[hm]at h1;exact fU h1 fun _=>rfl
   |false=>exact .inl ⟨rfl,by exact DP _ _ (by simp[dA,hm])⟩
theorem aEW{op c:Int}(h:TI op=true)(hc:TI c=false):(op==c)=false:=by
 cases he:op==c with
 |false=>rfl
 |true=>rw[eq_of_beq he,hc]at h;cases h
theorem aEX{x:Ins}(h:TI x.op=true):gQ m ls s x=gB (dQ (dA s (kN x.op).2.2) (kN x.op).1) [(kN x.op).2.1]:=by
 have hc:=fun c hc=>aEW (c:=c) h hc
 unfold gQ cE dW;simp only[hc 0 V,hc 1 V,hc 2 V,hc 3 V,hc 4 V,hc 5 V,hc 11 V,hc 12 V,hc 13 V,hc 14 V,hc 15 V,hc 16 V,hc 17 V,hc 26 V,hc 27 V,hc 32 V,hc 33 V,hc 34 V,hc 35 V,hc 36 V,hc 40 V,hc 41 V,hc 44 V,hc 45 V,hc 54 V,hc 55 V,hc 58 V,hc 63 V,hc 64 V,hc 65 V,hc 66 V,Bool.or_self,Ag,De]
theorem aEY{x:Ins}{t:RT}(h:TI x.op=true)(h':(pX x.op).2.2.2=true):gZ m ls res x t=iC (aS t (Ak (pX x.op).1.toNat (pX x.op).2.1)) [(pX x.op).2.2.1]:=by
 have hc:=fun c hc=>aEW (c:=c) h hc
 unfold gZ RU;simp only[hc 0 V,hc 1 V,hc 12 V,hc 13 V,hc 14 V,hc 15 V,hc 16 V,hc 17 V,hc 26 V,hc 27 V,h',Bool.or_false,Ag,De,Dd];rfl
theorem NV(s:PS):dA s true=s:=by obtain⟨vs,cs,b⟩:=s;cases b<;>rfl
theorem vL(h:rA o op kd base t s){x:Ins}(al k:Int)(st:Bool):
  rA o op kd base (let t:=if(!m.me.has)=true then eH t else t;let t:=if decide (al<x.a)=true then eH t else t;if st=true then aS t [1,k]else iC (aS t [1]) [k])
   (gP m s x al (if st=true then [1,k]else [1]) (if st=true then []else [k])):=by
 have hn:rA o op kd base (let t:=if(!m.me.has)=true then eH t else t;if decide (al<x.a)=true then eH t else t) (dA s (if m.me.has=true then decide (x.a<=al)else false)):=by
  have h1:=sD h (b:=if m.me.has=true then decide (x.a<=al)else false) fun _=>rfl
  cases hh:m.me.has with
  |false=>
   refine .inl ⟨?_,by simp[dA]⟩;dsimp only;exact aJ (p:=fun r:RT=>r.bad=true) (fun _=>rfl) (fun _=>rfl)
  |true=>
   rw[hh]at h1;by_cases hl:x.a<=al
   ·simpa[hl,show¬al<x.a by omega]using h1
   ·simpa[hl,show al<x.a by omega]using h1
 dsimp only at hn⊢;cases st with
 |true=>
  have:=kF (fU (ks:=[1,k]) hn fun _=>rfl) (ks:=[]) (ks':=[]) fun _=>rfl
  unfold gP;simp only[Dd];have e:∀q:RT,iC q []=q:=fun q=>by unfold iC;rw[Be]
  rw[e]at this;exact this
 |false=>exact kF (fU (ks:=[1]) hn fun _=>rfl) fun _=>rfl
theorem VI(h:rA o op kd base t s){a:Int}(ha:a=0):rA o op kd base (if(!m.me.has)=true then eH t else t) (dA s (if m.me.has=true then decide (a<=0)else false)):=by
 subst ha;have h1:=sD h (b:=m.me.has) fun _=>rfl
 cases hh:m.me.has with
 |false=>rw[hh]at h1;exact h1
 |true=>rw[hh]at h1;exact h1
theorem aCa(h:rA o op kd base t s){x:Ins}(hx:cY x=true)(hb:RU x.op=false)(hc:(x.op==16||x.op==17)=false)(hO:rQ x.op=false)(h5:x.op≠5)(h11:x.op≠11):rA o op kd base (gZ m ls res x t) (gQ m ls s x):=by
 rcases aET (aEU hx)with hm|hk
 ·obtain⟨xo,a,b,l⟩:=x;dsimp only at hm hb hc hO h5 h11;simp only[Av,A5,or_false]at hm;rcases hm with rfl|rfl|rfl|rfl|rfl|rfl|rfl|rfl|rfl|rfl|rfl|rfl|rfl|rfl|rfl|rfl|rfl|rfl|rfl|rfl|rfl|rfl|rfl|rfl|rfl|rfl|rfl|rfl|rfl|rfl|rfl
  ·cases hb
  ·exact h
  ·exact absurd rfl h5
  ·exact absurd rfl h11
  ·cases hb
  ·exact(HP h (k:=0) fun _=>rfl).1
  ·obtain⟨h1,h2⟩:=HP (fU (ks:=[1]) (ks':=[1]) h fun _=>rfl) (k:=0) (k':=0) fun _=>rfl
   obtain⟨h3,h4⟩:=HP h1 h2;exact kF h3 fun e=>by rw[h4 e];rfl
  ·cases hO
  ·cases hO
  ·cases hO
  ·cases hb
  ·cases hb
  ·cases hc
  ·exact QT h 32 (.inl rfl)
  ·exact QT h 33 (.inr (.inl rfl))
  ·exact QT h 34 (.inr (.inr rfl))
  ·exact VH h 35 (.inl rfl)
  ·exact VH h 36 (.inr rfl)
  ·cases hb
  ·cases hc
  ·exact vL h 2 1 false
  ·exact vL h 3 2 false
  ·exact vL h 0 1 false
  ·exact vL h 0 1 false
  ·exact vL h 2 1 true
  ·exact vL h 3 2 true
  ·exact vL h 0 1 true
  ·exact kF (VI h (uM hx (.inr (show aW 63=7 by decide)))) fun _=>rfl
  ·exact kF (fU (ks:=[1]) (VI h (uM hx (.inr (show aW 64=7 by decide)))) fun _=>rfl) fun _=>rfl
  ·exact kF h fun _=>rfl
  ·exact kF h fun _=>rfl
 ·obtain⟨k1,k2,k3,k4⟩:=aLo hk;rw[aEX hk,aEY hk k4,k1,k2,k3,NV];exact kF (fU h fun _=>rfl) fun _=>rfl
theorem aEZ(h:rA o op kd base t s)(hr:res=aZ (rkd o kd)){x:Ins}(hx:cY x=true)(hO:rQ x.op=false)(h5:x.op≠5)(h11:x.op≠11):rA o op kd base (gZ m ls res x t) (gQ m ls s x):=by
 cases hb:RU x.op with
 |true=>
  have:=ZF (m:=m) (ls:=ls) h hr hx hb;unfold gZ;rw[Dc hb];exact this
 |false=>
  cases hc:(x.op==16||x.op==17)with
  |true=>
   have:=aEV (m:=m) (ls:=ls) h hx hc;unfold gZ;rw[Db (by simp[hb]),Dc hc];exact this
  |false=>exact aCa h hx hb hc hO h5 h11
end
def Sta (t q:RT):Prop:=q.a=t.a
theorem Sta.refl (t:RT):Sta t t:=rfl
theorem Sta.take {t q:RT}(h:Sta t q)(ks:List Int):Sta t (aS q ks):=(BP q ks).trans h
theorem Sta.one {t q:RT}(h:Sta t q)(k:Int):Sta t (jQ q k).2:=(aBa q k).trans h
theorem Sta.put {t q:RT}(h:Sta t q)(ks:List Int):Sta t (iC q ks):=h
theorem Sta.ends {t q:RT}(h:Sta t q):Sta t (rZ q):=h
theorem Sta.bad {t q:RT}(h:Sta t q):Sta t (eH q):=h
theorem Sta.label {t q:RT}(h:Sta t q)(x:Int):Sta t (cW q x).2:=(QR q x).trans h
theorem Sta.tabs {t q:RT}(h:Sta t q)(w l:List Int):Sta t (l.foldl (pV w) q):=by
 induction l generalizing q with
 |nil=>exact h
 |cons a l ih=>exact ih (aJ (p:=Sta t) (fun _=>(h.label a).bad) (fun _=>h.label a))
theorem aCb(res:List Int)(x:Ins)(t:RT):Sta t (gH res x t):=by
 have h:=Sta.refl t;unfold gH;refine aJ (fun _=>((h.label _).take _).ends) (fun _=> ?_);refine aJ (fun _=>(((h.take _).label _).take _).put _) (fun _=> ?_);refine aJ (fun _=>((((h.take _).label _).tabs _ _).take _).ends) (fun _=> ?_);exact aJ (fun _=>(h.take _).ends) (fun _=>h.ends)
theorem aHQ(m:Md)(x:Ins)(t:RT):Sta t (sC m x t):=by
 have h:=Sta.refl t;unfold sC;refine aJ (fun _=>aJ (p:=Sta t) (fun _=>h.bad) (fun _=>(h.take _).put _)) (fun _=> ?_);exact aJ (fun _=>h.bad) (fun _=>((h.take _).take _).put _)
theorem ZH{t q:RT}(h:Sta t q)(x:Ins)(c k:Int):Sta t (vK x c k q):=by
 have ha:Sta t (if decide (c<x.a)=true then eH q else q):=aJ (fun _=>h.bad) (fun _=>h);exact aJ (fun _=>ha.take _) (fun _=>(ha.take _).put _)
theorem aLq(m:Md)(x:Ins)(t:RT):Sta t (GT m x t):=by
 have h:Sta t (if(!m.me.has)=true then eH t else t):=aJ (fun _=>(Sta.refl t).bad) (fun _=>Sta.refl t);unfold GT;generalize(if(!m.me.has)=true then eH t else t)=q at h;unfold DM;refine aJ (fun _=>ZH h x _ _) (fun _=> ?_);refine aJ (fun _=>ZH h x _ _) (fun _=> ?_);refine aJ (fun _=>h.put _) (fun _=> ?_);exact aJ (fun _=>(h.take _).put _) (fun _=>ZH h x _ _)
theorem aCc(m:Md)(ls:List Int)(x:Ins)(t:RT):Sta t (gS m ls x t):=by
 have h:=Sta.refl t;unfold gS;refine aJ (fun _=>h.put _) (fun _=> ?_);refine aJ (fun _=>h.put _) (fun _=> ?_);refine aJ (fun _=>aJ (fun _=>h.bad) (fun _=> ?_)) (fun _=> ?_)
 ·have hq:Sta t (if(x.op !=32)=true then aS t [ls.getD x.a.toNat 0]else t):=aJ (fun _=>h.take _) (fun _=>h);exact aJ (fun _=>hq.put _) (fun _=>hq)
 refine aJ (fun _=>aJ (fun _=>h.bad) (fun _=>aJ (fun _=>h.put _) (fun _=>h.take _))) (fun _=>aLq m x t)
theorem aHR(m:Md)(ls res:List Int)(x:Ins)(t:RT):Sta t (gZ m ls res x t):=by
 have h:=Sta.refl t;unfold gZ;refine aJ (fun _=>aCb _ _ _) (fun _=> ?_);refine aJ (fun _=>aHQ _ _ _) (fun _=> ?_);refine aJ (fun _=>h.one 0) (fun _=> ?_);refine aJ (fun _=>(((h.take _).one _).one _).put _) (fun _=> ?_);refine aJ (fun _=>h) (fun _=> ?_);exact aJ (fun _=>(h.take _).put _) (fun _=>aCc _ _ _ _)
def oP (lp:RT->RT) (bd:List Ins) (x:Ins) (t:RT):RT:=
 if(x.op==4)=true then(if(eP bd t 5).1=true then dU lp (aZ x.a) (aZ x.a) (eP bd t 5).2 else if decide ((0:Int)<(aZ x.a).length)=true then eH (eP bd t 5).2 else(eP bd t 5).2)else t
def GU (bd:List Ins) (x:Ins) (t:RT):RT:=iC (if(!(eP bd t 11).1)=true then eH (eP bd t 11).2 else(eP bd t 11).2) (aZ x.a)
def brN (x:Ins):List Int:=if(x.op==3)=true then []else aZ x.a
theorem HQ(lp:RT->RT)(bd:List Ins)(x:Ins)(t:RT):uJ lp bd x t=GU bd x (oP lp bd x (dU lp (aZ x.a) (brN x) (if(x.op==4)=true then aS t [1]else t))):=by
 unfold uJ brN;cases h:x.op==3<;>simp only[Dd,De,Ag]<;>rfl
theorem KB{bd:List Ins}{t:RT}{y:Ins}(hy:bd[t.a]? =some y):eP bd t y.op=(true,⟨t.a+1,t.lb,t.bad,t.l,t.dd⟩):=by
 have:=(Ai.1 hy).1;unfold eP;rw[Ax,hy,decide_eq_true U,Dc rfl,Dc X]
theorem aHS{bd:List Ins}{t:RT}{y:Ins}{op:Int}(hy:bd[t.a]? =some y)(ho:y.op≠op):eP bd t op=(false,t):=by
 unfold eP;rw[Ax,hy,Db];split
 ·simpa using ho
 ·simp
theorem DR{bd:List Ins}{x:Ins}{t:RT}(h:t.bad=true):(GU bd x t).bad=true:=by
 have:=(uL bd t 11).2 h;exact aJ (p:=fun r:RT=>(iC r (aZ x.a)).bad=true) (fun _=>rfl) (fun _=>this)
theorem NW{lp:RT->RT}(hl:∀q,Adv q 0 (lp q)){bd:List Ins}{x:Ins}{t:RT}(h:t.bad=true):(oP lp bd x t).bad=true:=by
 have h1:=(uL bd t 5).2 h;refine aJ (p:=fun r:RT=>r.bad=true) (fun _=> ?_) (fun _=>h);refine aJ (p:=fun r:RT=>r.bad=true) (fun _=>(mA hl _ _ _).2 h1) (fun _=> ?_);exact aJ (p:=fun r:RT=>r.bad=true) (fun _=>rfl) (fun _=>h1)
theorem KC{m:Md}{ls res:List Int}{bd:List Ins}{t:RT}(h:t.bad=true):LR m ls res bd t=t:=by
 rw[VF,Db];rw[h];split<;>simp
theorem KD{t:RT}(res l:List Int)(dd:Bool)(h:t.bad=true):(sA t res l dd).bad=true:=by
 show(if _ then true else(aS t res).bad)=true;rw[JY _ _ h];simp
theorem VJ{o:List Ct}{op kd op' kd':Int}{base l:List Int}{dd:Bool}{t:RT}{s:PS}(hb:t.bad=false)(hb':s.bad=false)(h:Cor (o++ [⟨op,kd,base.length,dd⟩]) op' kd' (base++l) t s):rA o op kd base (sA t (aZ kd') l dd) (gL s):=by
 have h1:=fU (ks:=aZ kd') (ks':=aZ kd') (.inr ⟨hb,hb',h⟩) fun _=>rfl
 have ht:=h.top;have hs:gL s=⟨(dQ s (aZ kd')).vs,(dQ s (aZ kd')).cs.dropLast,(dA (dQ s (aZ kd')) (((dQ s (aZ kd')).vs.length:Int)==(base++l).length)).bad⟩:=by
  unfold gL;rw[ht];rfl
 rw[hs];unfold sA;dsimp only;rcases h1 with⟨e1,e2⟩|⟨e1,e2,e3⟩
 ·refine .inl ⟨?_, ?_⟩
  ·show(if _ then true else(aS t (aZ kd')).bad)=true;rw[e1];simp
  ·exact oZ _ _ e2
 ·have hl:((dQ s (aZ kd')).vs.length:Int)=(base++l).length+(aS t (aZ kd')).l.length:=by rw[e3.vs];simp;omega
  cases hz:(aS t (aZ kd')).l with
  |nil=>
   rw[hz]at hl;refine .inr ⟨?_, ?_,⟨?_, ?_, ?_⟩⟩
   ·show(if decide ((0:Int)<(([]:List Int).length:Int))=true then true else(aS t (aZ kd')).bad)=false;rw[e1];rfl
   ·unfold dA;dsimp only;rw[e2,hl];simp
   ·show(dQ s (aZ kd')).vs=base++l;rw[e3.vs,hz];simp
   ·show(dQ s (aZ kd')).cs.dropLast=_;rw[e3.cs];simp
   ·show(aS t (aZ kd')).lb.dropLast=((dQ s (aZ kd')).cs.dropLast).map lbC;rw[e3.lb,List.map_dropLast]
  |cons y ys=>
   rw[hz]at hl;refine .inl ⟨?_, ?_⟩
   ·show(if decide ((0:Int)<((y::ys).length:Int))=true then true else(aS t (aZ kd')).bad)=true;rw[Dc (by simp only[Bj,decide_eq_true_eq];omega)]
   ·unfold dA;dsimp only;rw[e2,hl];simp;omega
theorem ZI(t:RT)(res l:List Int)(dd:Bool):(sA t res l dd).a=t.a:=BP t res
section
variable {m : Md} {ls res : List Int} {bd : List Ins}
theorem HR{a:Nat}{x:Ins}(h:bd[a]? =some x):bd.drop a=x::bd.drop (a+1):=by
 obtain⟨h1,rfl⟩:=Ai.1 h;exact List.drop_eq_getElem_cons h1
theorem QU{a:Nat}{x:Ins}(h:bd[a]? =some x):(cH bd).drop a=x.op::(cH bd).drop (a+1):=by
 unfold cH;rw[<-List.map_drop,HR h,Bn,List.map_drop]
def aNM (m:Md) (ls:List Int) (bd:List Ins) (o:List Ct) (op kd:Int) (base:List Int) (S:List Bool) (a:Nat) (s:PS) (r:RT):Prop:=
 (r.bad=true/\(BU m ls (bd.drop a) s).bad=true)\/
 (r.bad=false/\a<=r.a/\r.a<=bd.length/\∃s',BU m ls (bd.drop a) s=BU m ls (bd.drop r.a) s'/\s'.bad=false/\Cor o op kd base r s'/\nD 40 ((cH bd).drop r.a) S=some []/\(r.a=bd.length\/∃x,bd[r.a]? =some x/\(x.op=11\/x.op=5)))
theorem aE0(o:List Ct)(op kd kd':Int)(h:Nat)(d:Bool):rkd (o++ [⟨op,kd,h,d⟩]) kd'=rkd o kd:=by cases o<;>rfl
theorem aE1{x:Ins}(h:rQ x.op=true)(s:PS):gQ m ls s x=openP (if(x.op==4)=true then(cO s 1).2 else s) x.op x.a:=by
 obtain⟨xo,a,b,l⟩:=x;have h':xo=2\/xo=3\/xo=4:=by unfold rQ at h;simpa[or_assoc]using h
 rcases h' with rfl|rfl|rfl<;>rfl
theorem aCd{y:Ins}(h:y.op=5)(s:PS):gQ m ls s y=openP (gL s) 5 s.top.kd:=by
 obtain⟨yo,a,b,l⟩:=y;dsimp only at h;subst h;rfl
theorem VK{y:Ins}(h:y.op=11)(s:PS):gQ m ls s y=gB (dA (gL s) (if(s.top.op !=4)=true then true else(s.top.kd==0))) (aZ s.top.kd):=by
 obtain⟨yo,a,b,l⟩:=y;dsimp only at h;subst h;rfl
theorem VL{o:List Ct}{op kd:Int}{base:List Int}{t:RT}{s:PS}(h:Cor o op kd base t s)(op' kd':Int)(a:Nat):Cor (o++ [⟨op,kd,base.length,t.dd⟩]) op' kd' (base++t.l) ⟨a,t.lb++ [lbC ⟨op',kd',0,false⟩],false,[],false⟩ (openP s op' kd'):=by
 refine⟨?_, ?_, ?_⟩
 ·show s.vs=base++t.l++ [];rw[h.vs,Be]
 ·show s.cs++ [⟨op',kd',s.vs.length,false⟩]=_;rw[h.cs,h.vs]
 ·show t.lb++ [lbC ⟨op',kd',0,false⟩]=(s.cs++ [(⟨op',kd',s.vs.length,false⟩:Ct)]).map lbC;rw[h.lb,Bx];rfl
theorem DS(hm:∀x∈bd,cY x=true):∀(n:Nat) (o:List Ct) (op kd:Int) (base:List Int) (S:List Bool) (t:RT) (s:PS),bd.length-t.a<n->t.a<=bd.length->t.bad=false->s.bad=false->Cor o op kd base t s->res=aZ (rkd o kd)->nD 40 ((cH bd).drop t.a) S=some []->aNM m ls bd o op kd base S t.a s (LR m ls res bd t)
 |0,_,_,_,_,_,t,_,h,_,_,_,_,_,_=>absurd h (Nat.not_lt_zero _)
 |n+1,o,op,kd,base,S,t,s,hn,ha,hb,hb',hC,hr,hS=>by
  rw[VF];by_cases hlt:t.a<bd.length
  case neg=>
   rw[Db (by rw[decide_eq_false U];simp)];exact .inr ⟨hb,A3 _,ha,s,rfl,hb',hC,hS,.inl U⟩
  obtain⟨x,hx⟩:=Aa bd t.a hlt
  have hxm:=hm x (Ah hx);rw[Dc (by rw[decide_eq_true U,hb];rfl),Ax,hx,Bz];by_cases hend:x.op=11\/x.op=5
  ·rw[Dc (by rcases hend with e|e<;>rw[e]<;>rfl)];exact .inr ⟨hb,A3 _,ha,s,rfl,hb',hC,hS,.inr ⟨x,hx,hend⟩⟩
  have h11:x.op≠11:=fun e=>hend (.inl e)
  have h5:x.op≠5:=fun e=>hend (.inr e)
  rw[Db (by simp[h11,h5])];rw[QU hx,nD]at hS;have mH:∀(q:RT) (r:PS),rA o op kd base q r->t.a<q.a->q.a<=bd.length->nD 40 ((cH bd).drop q.a) S=some []->(BU m ls (bd.drop t.a) s=if r.bad=true then r else BU m ls (bd.drop q.a) r)->aNM m ls bd o op kd base S t.a s (LR m ls res bd q):=by
   intro q r hs hqa hql hqS hgo;rcases hs with⟨e1,e2⟩|⟨e1,e2,e3⟩
   ·rw[KC e1];exact .inl ⟨e1,by rw[hgo,Dc e2];exact e2⟩
   ·have hg:BU m ls (bd.drop t.a) s=BU m ls (bd.drop q.a) r:=by rw[hgo,Db (by simp[e2])]
    rcases DS hm n o op kd base S q r U hql e1 e2 e3 hr hqS with⟨f1,f2⟩|⟨f1,f2,f3,s',f4,f5⟩
    ·exact .inl ⟨f1,by rw[hg];exact f2⟩
    ·exact .inr ⟨f1,U,f3,s',hg.trans f4,f5⟩
  have hgo1:BU m ls (bd.drop t.a) s=if(gQ m ls s x).bad=true then gQ m ls s x else BU m ls (bd.drop (t.a+1)) (gQ m ls s x):=by rw[HR hx];rfl
  have hC1:rA o op kd base ⟨t.a+1,t.lb,t.bad,t.l,t.dd⟩ s:=.inr ⟨hb,hb',⟨hC.vs,hC.cs,hC.lb⟩⟩;cases hO:rQ x.op with
  |false=>
   have hst:jF 40 S x.op=some S:=by unfold jF;rw[Db (by simp[hO]),Dc ⟨h5,h11⟩]
   rw[hst]at hS;have hq:=aEZ (m:=m) (ls:=ls) (res:=res) hC1 hr hxm hO h5 h11;have hqa:(gZ m ls res x ⟨t.a+1,t.lb,t.bad,t.l,t.dd⟩).a=t.a+1:=aHR m ls res x _;have hi:fG m ls res bd (LR m ls res bd) x t=gZ m ls res x ⟨t.a+1,t.lb,t.bad,t.l,t.dd⟩:=Db (by simp[hO]);rw[hi];exact mH _ _ hq U U (by rw[hqa];exact hS) (by rw[hqa];exact hgo1)
  |true=>
   have hi:fG m ls res bd (LR m ls res bd) x t=uJ (LR m ls res bd) bd x ⟨t.a+1,t.lb,t.bad,t.l,t.dd⟩:=Dc hO;rw[hi,HQ];have hst:∃S',jF 40 S x.op=some S'/\S'=S++ [x.op==4]:=by
    have:jF 40 S x.op=if 40<=S.length then none else some (S++ [x.op==4]):=by unfold jF;rw[Dc hO]
    rw[this]at hS⊢;split
    ·next h40=>rw[Dc h40]at hS;cases hS
    ·exact⟨_,rfl,rfl⟩
   obtain⟨S',hst,rfl⟩:=hst;rw[hst]at hS;rw[aE1 hO]at hgo1;have h2:rA o op kd base (if(x.op==4)=true then aS ⟨t.a+1,t.lb,t.bad,t.l,t.dd⟩ [1]else⟨t.a+1,t.lb,t.bad,t.l,t.dd⟩) (if(x.op==4)=true then(cO s 1).2 else s):=by
    split
    ·exact fU (ks:=[1]) (ks':=[1]) hC1 fun _=>rfl
    ·exact hC1
   have h2a:(if(x.op==4)=true then aS ⟨t.a+1,t.lb,t.bad,t.l,t.dd⟩ [1]else⟨t.a+1,t.lb,t.bad,t.l,t.dd⟩).a=t.a+1:=aJ (p:=fun r:RT=>r.a=t.a+1) (fun _=>BP _ _) (fun _=>rfl);generalize(if(x.op==4)=true then aS ⟨t.a+1,t.lb,t.bad,t.l,t.dd⟩ [1]else⟨t.a+1,t.lb,t.bad,t.l,t.dd⟩)=t2 at h2 h2a⊢;generalize(if(x.op==4)=true then(cO s 1).2 else s)=s2 at h2 hgo1;have hAd:=KA m ls res bd;rcases h2 with⟨e1,e2⟩|⟨e1,e2,e3⟩
   ·have hbad:(GU bd x (oP (LR m ls res bd) bd x (dU (LR m ls res bd) (aZ x.a) (brN x) t2))).bad=true:=DR (NW hAd ((mA hAd _ _ _).2 e1));rw[KC hbad];have:(openP s2 x.op x.a).bad=true:=e2;exact .inl ⟨hbad,by rw[hgo1,Dc this];exact this⟩
   have hgo2:BU m ls (bd.drop t.a) s=BU m ls (bd.drop (t.a+1)) (openP s2 x.op x.a):=by rw[hgo1,Db (by show¬s2.bad=true;simp[e2])]
   have hC3:=VL e3 x.op x.a t2.a;rw[show lbC ⟨x.op,x.a,0,false⟩=brN x from rfl]at hC3;have hbl:dU (LR m ls res bd) (aZ x.a) (brN x) t2=sA (LR m ls res bd ⟨t2.a,t2.lb++ [brN x],false,[],false⟩) (aZ x.a) t2.l t2.dd:=by unfold dU;rw[e1]
   rw[hbl];have hI:=DS hm n (o++ [⟨op,kd,base.length,t2.dd⟩]) x.op x.a (base++t2.l) (S++ [x.op==4]) ⟨t2.a,t2.lb++ [brN x],false,[],false⟩ (openP s2 x.op x.a) (by show bd.length-t2.a<n;omega) (by show t2.a<= _;omega) rfl e2 hC3 (hr.trans (by rw[aE0])) (by show nD 40 ((cH bd).drop t2.a) _=_;rw[h2a];exact hS);generalize LR m ls res bd ⟨t2.a,t2.lb++ [brN x],false,[],false⟩=r3 at hI⊢;rcases hI with⟨f1,f2⟩|⟨f1,f2,f3,s4,f4,f5,f6,f7,f8⟩
   ·have hbad:(GU bd x (oP (LR m ls res bd) bd x (sA r3 (aZ x.a) t2.l t2.dd))).bad=true:=DR (NW hAd (KD _ _ _ f1));rw[KC hbad];exact .inl ⟨hbad,by rw[hgo2];dsimp only at f2;rw[h2a]at f2;exact f2⟩
   dsimp only at f2 f4;rw[h2a]at f2 f4;obtain⟨y,hy,hyo⟩:∃y,bd[r3.a]? =some y/\(y.op=11\/y.op=5):=by
    rcases f8 with e|h
    ·rw[List.drop_of_length_le (by unfold cH;rw[Az];omega),nD]at f7;simp at f7
    ·exact h
   have hya:=(Ai.1 hy).1;rw[QU hy,nD]at f7;have hgl:(S++ [x.op==4]).getLast? =some (x.op==4):=by simp
   have hsh:=VJ f1 f5 f6;have hsa:=ZI r3 (aZ x.a) t2.l t2.dd;have htop:=f6.top;have hgo3:BU m ls (bd.drop t.a) s=if(gQ m ls s4 y).bad=true then gQ m ls s4 y else BU m ls (bd.drop (r3.a+1)) (gQ m ls s4 y):=by rw[hgo2,f4,HR hy];rfl
   generalize sA r3 (aZ x.a) t2.l t2.dd=t5 at hsh hsa⊢;rw[<-hsa]at hy;rcases hyo with hyo|hyo
   ·--the end
    have hst:jF 40 (S++ [x.op==4]) y.op=some S:=by
     rw[hyo];unfold jF;rw[Db V,Db V,hgl];simp
    rw[hst]at f7;rw[VK hyo,htop]at hgo3;dsimp only at hgo3;have hE:oP (LR m ls res bd) bd x t5=if(if(x.op !=4)=true then true else(x.a==0))=true then t5 else eH t5:=by
     unfold oP;rw[aHS hy (by rw[hyo];decide)];cases h4:x.op==4 with
     |false=>simp[bne,h4]
     |true=>
      simp only[bne,h4,Bool.not_true,Ag,Dd,De];by_cases hz:x.a=0
      ·simp[aZ,hz]
      ·simp[aZ,hz]
    have h6:=sD hsh (b:=(if(x.op !=4)=true then true else(x.a==0))) fun _=>rfl
    rw[hE];have h6a:(if(if(x.op !=4)=true then true else(x.a==0))=true then t5 else eH t5).a=r3.a:=aJ (p:=fun r:RT=>r.a=r3.a) (fun _=>hsa) (fun _=>hsa);generalize(if(if(x.op !=4)=true then true else(x.a==0))=true then t5 else eH t5)=t6 at h6 h6a⊢;generalize dA (gL s4) (if(x.op !=4)=true then true else(x.a==0))=s6 at h6 hgo3;have hN:GU bd x t6=iC ⟨t6.a+1,t6.lb,t6.bad,t6.l,t6.dd⟩ (aZ x.a):=by
     unfold GU;have:=KB (bd:=bd) (t:=t6) (y:=y) (by rw[h6a,<-hsa];exact hy);rw[hyo]at this;rw[this];rfl
    rw[hN];have h7:rA o op kd base (⟨t6.a+1,t6.lb,t6.bad,t6.l,t6.dd⟩:RT) s6:=by
     rcases h6 with⟨g1,g2⟩|⟨g1,g2,g3⟩
     ·exact .inl ⟨g1,g2⟩
     ·exact .inr ⟨g1,g2,⟨g3.vs,g3.cs,g3.lb⟩⟩
    refine mH _ _ (kF h7 fun _=>rfl) (by show t.a<t6.a+1;omega) (by show t6.a+1<= _;omega) (by show nD 40 ((cH bd).drop (t6.a+1)) S=_;rw[h6a];exact f7) ?_;show _=if _ then _ else BU m ls (bd.drop (t6.a+1)) _
    rw[h6a];exact hgo3
   ·--the else
    have hst:jF 40 (S++ [x.op==4]) y.op=if(x.op==4)=true then some (S++ [false])else none:=by
     rw[hyo];unfold jF;rw[Db V,Db V,hgl];simp
    rw[hst]at f7;have h4:(x.op==4)=true:=by
     cases h4:x.op==4 with
     |true=>rfl
     |false=>rw[h4]at f7;simp at f7
    rw[Dc h4]at f7;dsimp only at f7;rw[aCd hyo,htop]at hgo3;dsimp only at hgo3;have hE:oP (LR m ls res bd) bd x t5=dU (LR m ls res bd) (aZ x.a) (aZ x.a) ⟨t5.a+1,t5.lb,t5.bad,t5.l,t5.dd⟩:=by
     unfold oP;have:=KB (bd:=bd) (t:=t5) (y:=y) hy;rw[hyo]at this;rw[this,Dc h4,Dc rfl]
    rw[hE];rcases hsh with⟨g1,g2⟩|⟨g1,g2,g3⟩
    ·have hbad:(GU bd x (dU (LR m ls res bd) (aZ x.a) (aZ x.a) ⟨t5.a+1,t5.lb,t5.bad,t5.l,t5.dd⟩)).bad=true:=DR ((mA hAd _ _ _).2 g1);rw[KC hbad];have:(openP (gL s4) 5 x.a).bad=true:=g2;exact .inl ⟨hbad,by rw[hgo3,Dc this];exact this⟩
    have hgo4:BU m ls (bd.drop t.a) s=BU m ls (bd.drop (r3.a+1)) (openP (gL s4) 5 x.a):=by rw[hgo3,Db (by show¬(gL s4).bad=true;simp[g2])]
    have hC6:=VL g3 5 x.a (t5.a+1);rw[show lbC ⟨5,x.a,0,false⟩=aZ x.a from rfl]at hC6;have hbl2:dU (LR m ls res bd) (aZ x.a) (aZ x.a) ⟨t5.a+1,t5.lb,t5.bad,t5.l,t5.dd⟩=sA (LR m ls res bd ⟨t5.a+1,t5.lb++ [aZ x.a],false,[],false⟩) (aZ x.a) t5.l t5.dd:=by unfold dU;rw[g1]
    rw[hbl2];have hI:=DS hm n (o++ [⟨op,kd,base.length,t5.dd⟩]) 5 x.a (base++t5.l) (S++ [false]) ⟨t5.a+1,t5.lb++ [aZ x.a],false,[],false⟩ (openP (gL s4) 5 x.a) (by show bd.length-(t5.a+1)<n;omega) (by show t5.a+1<= _;omega) rfl g2 hC6 (hr.trans (by rw[aE0])) (by show nD 40 ((cH bd).drop (t5.a+1)) _=_;rw[hsa];exact f7);generalize LR m ls res bd ⟨t5.a+1,t5.lb++ [aZ x.a],false,[],false⟩=r6 at hI⊢;rcases hI with⟨k1,k2⟩|⟨k1,k2,k3,s7,k4,k5,k6,k7,k8⟩
    ·have hbad:(GU bd x (sA r6 (aZ x.a) t5.l t5.dd)).bad=true:=DR (KD _ _ _ k1);rw[KC hbad];exact .inl ⟨hbad,by rw[hgo4];dsimp only at k2;rw[hsa]at k2;exact k2⟩
    dsimp only at k2 k4;rw[hsa]at k2 k4;obtain⟨z,hz,hzo⟩:∃z,bd[r6.a]? =some z/\(z.op=11\/z.op=5):=by
     rcases k8 with e|h
     ·rw[List.drop_of_length_le (by unfold cH;rw[Az];omega),nD]at k7;simp at k7
     ·exact h
    have hza:=(Ai.1 hz).1;rw[QU hz,nD]at k7;have hgl2:(S++ [false]).getLast? =some false:=by simp
    have hz11:z.op=11:=by
     rcases hzo with e|e
     ·exact e
     ·have:jF 40 (S++ [false]) z.op=none:=by
       rw[e];unfold jF;rw[Db V,Db V,hgl2];simp
      rw[this]at k7;cases k7
    have hst2:jF 40 (S++ [false]) z.op=some S:=by
     rw[hz11];unfold jF;rw[Db V,Db V,hgl2];simp
    rw[hst2]at k7;have hsh2:=VJ k1 k5 k6;have hsa2:=ZI r6 (aZ x.a) t5.l t5.dd;have htop2:=k6.top;have hgo5:BU m ls (bd.drop t.a) s=if(gQ m ls s7 z).bad=true then gQ m ls s7 z else BU m ls (bd.drop (r6.a+1)) (gQ m ls s7 z):=by rw[hgo4,k4,HR hz];rfl
    generalize sA r6 (aZ x.a) t5.l t5.dd=t8 at hsh2 hsa2⊢;rw[VK hz11,htop2]at hgo5;dsimp only at hgo5;rw[show(if((5:Int) !=4)=true then true else(x.a==0))=true from rfl,NV]at hgo5;have hN:GU bd x t8=iC ⟨t8.a+1,t8.lb,t8.bad,t8.l,t8.dd⟩ (aZ x.a):=by
     unfold GU;have:=KB (bd:=bd) (t:=t8) (y:=z) (by rw[hsa2];exact hz);rw[hz11]at this;rw[this];rfl
    rw[hN];have h7:rA o op kd base (⟨t8.a+1,t8.lb,t8.bad,t8.l,t8.dd⟩:RT) (gL s7):=by
     rcases hsh2 with⟨g1,g2⟩|⟨g1,g2,g3⟩
     ·exact .inl ⟨g1,g2⟩
     ·exact .inr ⟨g1,g2,⟨g3.vs,g3.cs,g3.lb⟩⟩
    refine mH _ _ (kF h7 fun _=>rfl) (by show t.a<t8.a+1;omega) (by show t8.a+1<= _;omega) (by show nD 40 ((cH bd).drop (t8.a+1)) S=_;rw[hsa2];exact k7) ?_;show _=if _ then _ else BU m ls (bd.drop (t8.a+1)) _
    rw[hsa2];exact hgo5
end
theorem aHT{o:List Ct}{op kd:Int}{base:List Int}{t:RT}{s:PS}(hb:t.bad=false)(hb':s.bad=false)(h:Cor o op kd base t s)(l:List Int)(dd:Bool):(sA t (aZ kd) l dd).bad=(gL s).bad:=by
 have h1:=fU (ks:=aZ kd) (ks':=aZ kd) (.inr ⟨hb,hb',h⟩) fun _=>rfl
 have ht:=h.top;have hs:(gL s).bad=(dA (dQ s (aZ kd)) (((dQ s (aZ kd)).vs.length:Int)==base.length)).bad:=by
  unfold gL;rw[ht]
 rw[hs];show(if decide ((0:Int)<(aS t (aZ kd)).l.length)=true then true else(aS t (aZ kd)).bad)=_;rcases h1 with⟨e1,e2⟩|⟨e1,e2,e3⟩
 ·rw[e1,oZ _ _ e2];simp
 ·have hl:((dQ s (aZ kd)).vs.length:Int)=base.length+(aS t (aZ kd)).l.length:=by rw[e3.vs];simp
  unfold dA;dsimp only;rw[e1,e2,hl];cases hz:(aS t (aZ kd)).l with
  |nil=>simp
  |cons y ys=>
   have h0:((base.length:Int)+((y::ys).length:Int)==base.length)=false:=by simp only[Bj,beq_eq_false_iff_ne];omega
   have h1:decide ((0:Int)<((y::ys).length:Int))=true:=by simp only[Bj,decide_eq_true_eq];omega
   rw[h0,h1];rfl
theorem aLr{m:Md}(hm:nC m=true)(k:Int):GO m k=ZD m k:=by
 unfold nC at hm;simp only[Ap]at hm;obtain⟨⟨⟨⟨-,hco⟩,hls⟩,-⟩,-⟩:=hm;unfold mK at hls;simp only[Ap]at hls;obtain⟨⟨⟨⟨⟨⟨hty,-⟩,-⟩,-⟩,-⟩,-⟩,-⟩:=hls;unfold GO ZD;by_cases h1:(if(if decide (k<0)=true then true else decide ((m.co.length:Int)<=k))=true then true else decide ((m.fn.length:Int)<=k))=true
 ·rw[Dc h1,Dc];rw[Dc h1];simp
 rw[Db h1];have h1':0<=k/\k<m.co.length/\k<m.fn.length:=by
  refine⟨?_, ?_, ?_⟩
  ·rcases Int.lt_or_le k 0 with h|h
   ·exact absurd (by simp[h]) h1
   ·exact h
  ·rcases Int.lt_or_le k m.co.length with h|h
   ·exact h
   ·exact absurd (by simp[h]) h1
  ·rcases Int.lt_or_le k m.fn.length with h|h
   ·exact h
   ·exact absurd (by simp[h]) h1
 rw[Db h1];generalize hf:m.fn.getD k.toNat 0=f;by_cases h2:f<0\/(m.ty.length:Int)<=f
 ·have hc2:(if decide (f<0)=true then true else decide ((m.ty.length:Int)<=f))=true:=by rcases h2 with h|h<;>simp[h]
  have:cF m f=(qM,false):=Dc hc2;rw[Dc hc2,this];rfl
 have hf0:¬f<0:=fun h=>h2 (.inl h)
 have hfl:¬(m.ty.length:Int)<=f:=fun h=>h2 (.inr h)
 have hc2:¬(if decide (f<0)=true then true else decide ((m.ty.length:Int)<=f))=true:=by rw[decide_eq_false hf0,Db X,decide_eq_false hfl];simp
 have:cF m f=(m.ty.getD f.toNat qM,true):=Db hc2;rw[Db hc2,this];dsimp only;obtain⟨c,hc⟩:=Aa m.co k.toNat U
 obtain⟨t,ht⟩:=Aa m.ty f.toNat U
 rw[Ax,Ax,hc,ht,Bz,Bz];have hcn:=(bW hco).2 c (Ah hc);unfold uA at hcn;simp only[Ap]at hcn;obtain⟨⟨hok,-⟩,hbd⟩:=hcn;have hmay:=(bW hbd).2;have htn:=(bW hty).2 t (Ah ht);simp only[Ap]at htn;have hr1:=(bW htn.2).1;have hr2:=(bW htn.2).2;rw[hok];rw[Db (c:=(if(!true)=true then true else !true)=true) X];have hkd:t.rs=aZ (if decide ((0:Int)<t.rs.length)=true then t.rs.headD 0 else 0):=by
  match hrs:t.rs with
  |[]=>rfl
  |[r]=>
   have:CR r=true:=hr2 r (by rw[hrs];exact A1.2 rfl);have hr0:r≠0:=by rintro rfl;exact absurd this V
   simp[aZ,hr0]
  | _:: _:: _=>rw[hrs]at hr1;simp at hr1;omega
 generalize(if decide ((0:Int)<t.rs.length)=true then t.rs.headD 0 else 0)=kd at hkd;have hS:=(QL.1 hok).2;have hG:=DS (m:=m) (ls:=t.pr++c.ls) (res:=t.rs) (bd:=c.bd) hmay (c.bd.length+1) [] 2 kd [] [] ⟨0,[]++ [t.rs],false,[],false⟩ (openP ⟨[],[],false⟩ 2 kd) (Nat.lt_succ_self _) (Am _) rfl rfl ⟨rfl,rfl,by rw[hkd];rfl⟩ hkd hS;show(if(BU m (t.pr++c.ls) c.bd (openP ⟨[],[],false⟩ 2 kd)).bad=true then false else if(!(gL (BU m (t.pr++c.ls) c.bd (openP ⟨[],[],false⟩ 2 kd))).bad)=true then decide (((t.pr++c.ls).length:Int)<=32)else false)=
  if decide ((32:Int)<(t.pr++c.ls).length)=true then false else if(!(sA (LR m (t.pr++c.ls) t.rs c.bd ⟨0,[]++ [t.rs],false,[],false⟩) t.rs [] false).bad)=true then(((sA (LR m (t.pr++c.ls) t.rs c.bd ⟨0,[]++ [t.rs],false,[],false⟩) t.rs [] false).a:Int)==c.bd.length)else false
 generalize LR m (t.pr++c.ls) t.rs c.bd ⟨0,[]++ [t.rs],false,[],false⟩=r at hG⊢;rcases hG with⟨e1,e2⟩|⟨e1,-,e3,s',e4,e5,e6,e7,e8⟩
 ·rw[Dc (C8 e2)];have:=KD t.rs [] false e1;rw[this];split<;>simp
 ·have hl:r.a=c.bd.length:=by
   rcases e8 with e|⟨y,hy,hyo⟩
   ·exact e
   ·rw[QU hy,nD]at e7;have:jF 40 [] y.op=none:=by
     unfold jF;rcases hyo with e|e<;>rw[e]<;>simp[rQ]
    rw[this]at e7;cases e7
  have hg:BU m (t.pr++c.ls) c.bd (openP ⟨[],[],false⟩ 2 kd)=s':=by
   have:=e4;rw[Bu,hl,List.drop_length]at this;exact this
  have hsb:=aHT e1 e5 e6 [] false;rw[<-hkd]at hsb;have hsa:(sA r t.rs [] false).a=c.bd.length:=(ZI r t.rs [] false).trans hl;rw[hg,hsb,hsa,Db (by simp[e5])];by_cases h32:((t.pr++c.ls).length:Int)<=32
  ·rw[decide_eq_true h32,decide_eq_false U];cases(gL s').bad<;>simp
  ·rw[decide_eq_false h32,decide_eq_true U];cases(gL s').bad<;>simp
attribute [local irreducible] SW RS RD fE eA
structure Env where
 m:Md
 ls:List Int
 res:List Int
 bd:List Ins
def oH (E0:Env) (p a n:Nat) (b:Bool):List AV:=[.ro 2 (E0.m.ty.map cD) .any,.ro 3 (E0.m.im.map eE) .any,.ro 1 (E0.m.fn.map aK) .any,.bool E0.m.tb.has,.int .i64 E0.m.tb.mn,.int .i64 E0.m.tb.mx,.bool E0.m.me.has,.int .i64 E0.m.me.mn,.int .i64 E0.m.me.mx,
 .ro 3 (E0.m.gl.map dX) .any,.ro 2 (E0.m.ex.map dD) .any,.ro 2 (E0.m.el.map dP) .any,.ro 2 (E0.m.co.map cQ) .any,.ro 2 (E0.m.da.map dV) .any,.ro 4 (E0.bd.map (iv .any)) .any,.ro 1 (E0.ls.map aK) .any,.ro 1 (E0.res.map aK) .any,.int .i64 a,.own p 0 n,.bool b]
def kT (E0:Env) (r p:Nat) (t:RT):dI:=[(r,.box 142 (oH E0 p t.a t.lb.length t.bad)),(p,.arr 24 1 (t.lb.map lV))]
theorem aLs{e:Nat}{Y1 Y:dI}{C G:Prop}(h:(∃q∈Y1,q.1=e)\/Fresh e Y)(k:C)(g:C9 C->Fresh e (eD (Y1.map (·.1)) Y)->G:=by intro k q;unfold kT at q;simp(disch:=(first|(simp only[List.mem_cons,List.not_mem_nil,true_or,or_true,or_false];done)|(focus (simp only[List.mem_cons,List.not_mem_nil,or_false,not_or];(repeat' (first|apply And.intro|(exact aX)));done))|omega)) only[List.map_cons,List.map_nil,lF,nG,pK,nH,aN,aQ,and_true]at q;revert q;(repeat refine aC3 ?_);exact k.h):G:=g ⟨k⟩ (rJ h)
def jR (z q:Nat) (t:RT):dI:=[(z,.box 261 [.own q 0 t.l.length,.bool t.dd]),(q,.arr 3 1 (t.l.map aK))]
theorem uN{e:Nat}{Y1 Y:dI}{C G:Prop}(h:(∃q∈Y1,q.1=e)\/Fresh e Y)(k:C)(g:C9 C->Fresh e (eD (Y1.map (·.1)) Y)->G:=by intro k q;unfold jR at q;simp(disch:=(first|(simp only[List.mem_cons,List.not_mem_nil,true_or,or_true,or_false];done)|(focus (simp only[List.mem_cons,List.not_mem_nil,or_false,not_or];(repeat' (first|apply And.intro|(exact aX)));done))|omega)) only[List.map_cons,List.map_nil,lF,nG,pK,nH,aN,aQ,and_true]at q;revert q;(repeat refine aC3 ?_);exact k.h):G:=g ⟨k⟩ (rJ h)
def fW (E0:Env) (r p z q:Nat) (t:RT):dI:=kT E0 r p t++jR z q t
structure Nr (r p z q:Nat):Prop where
 pr:Nq p r
 zr:Nq z r
 zp:Nq z p
 qr:Nq q r
 qp:Nq q p
 qz:Nq q z
theorem dE{P:Prop}(h:P:=by(try unfold fW);(try unfold kT);(try unfold jR);(try unfold oH);(try dsimp only[List.cons_append,List.nil_append]);exact aA):P:=h
theorem aNN{P:Prop}(h:P:=by(try unfold fW);(try unfold kT);(try unfold jR);(try unfold oH);(try dsimp only[List.cons_append,List.nil_append]);exact eC):P:=h
section
variable {r p z q : Nat} {E0 : Env}
theorem DT(hN:Nr r p z q)(t:RT)(hl:t.l.length<=1000000)(k:Int):SCall prog 274 [.ptr r 0,.ptr z 0,.int .i64 k] (fW E0 r p z q t) (fun y Y=>y=.int .i64 (jQ t k).1/\Y=fW E0 r p z q (jQ t k).2):=by
 obtain⟨ta,tl,tb,l,dd⟩:=t;obtain⟨n1,n2,n3,n4,n5,n6⟩:=hN;dsimp only at hl;refine bO 67 [0,1,2,6,7,13,18,59,64] func274 ?_;unfold fW kT jR oH;dsimp only[As,Ay];refine fK ?_;refine tV ?_;refine sH ?_;refine aB rfl ?_ ?_<;>intro g1
 ·have hP:jQ ⟨ta,tl,tb,l,dd⟩ k=(k,if(!dd)=true then eH ⟨ta,tl,tb,l,dd⟩else⟨ta,tl,tb,l,dd⟩):=Dc g1;rw[hP];refine vZ ?_;refine mX ?_;refine aB rfl ?_ ?_<;>intro g2
  ·rw[Dc g2];refine oL ?_;refine fO ?_;refine cN ?_;exact aD aE ⟨by rfl,rfl⟩ aA
  rw[Db (by simp[g2])];refine fC ?_;exact aD aE ⟨by rfl,rfl⟩ aA
 obtain⟨ws,g,rfl⟩:∃ws g,l=ws++ [g]:=by
  rcases List.eq_nil_or_concat l with e|⟨ws,g,e⟩
  ·subst e;simp at g1
  ·exact⟨ws,g,by rw[e,List.concat_eq_append]⟩
 have hP:jQ ⟨ta,tl,tb,ws++ [g],dd⟩ k=(if(g==0)=true then k else g,⟨ta,tl,if QQ g k=true then true else tb,ws,dd⟩):=by unfold jQ;rw[Db (fun e=>by rw[g1]at e;cases e)];simp
 rw[hP];have hel2:=uD (l:=ws.map aK) (x:=aK g) (n:=ws.length) X;rw[QD]at hl;rw[QD,aD3];refine aI ?_;refine C5 ?_;refine lS ?_;refine tT ?_;refine z56 ?_;refine MF ?_;refine tQ ?_;refine Cf ?_;refine EG ?_;refine tT ?_;refine z25 ?_;refine XF ?_;refine IH ?_;refine vW ?_;rw[rV];refine dO (pE (o:=q) ws.length bK) ?_;rw[show List.take ws.length (ws.map aK++ [aK g])=ws.map aK by rw[List.take_left' X]];refine kV ?_;refine B9 ?_;refine kH ?_;refine SK ?_;refine qK ?_;refine SK ?_;refine qO ?_;refine aB rfl ?_ ?_<;>intro g7
 ·have hnf:QQ g k=true:=g7;rw[show(if QQ g k=true then true else tb)=true by rw[hnf];rfl];refine oL ?_;refine fO ?_;refine sH ?_;refine aB rfl ?_ ?_<;>intro g9
  ·rw[Dc (c:=(g==0)=true) g9];refine fC ?_;exact aD aE ⟨by rfl,rfl⟩ aA
  rw[Db (c:=(g==0)=true) (fun e=>by rw[g9]at e;cases e)];refine fC ?_;exact aD aE ⟨by rfl,rfl⟩ aA
 have hnf:QQ g k=false:=g7;rw[show(if QQ g k=true then true else tb)=tb by rw[hnf];rfl];refine dG ?_;refine sH ?_;refine aB rfl ?_ ?_<;>intro g9
 ·rw[Dc (c:=(g==0)=true) g9];refine fC ?_;exact aD aE ⟨by rfl,rfl⟩ aA
 rw[Db (c:=(g==0)=true) (fun e=>by rw[g9]at e;cases e)];refine fC ?_;exact aD aE ⟨by rfl,rfl⟩ aA
theorem jJ(hz:Nq q z)(t:RT)(hl:t.l.length<=1000000)(ks:List Int)(hk:ks.length<=1000):SCall prog 275 [.ptr z 0,.ro 1 (ks.map aK) .any] (jR z q t) (fun _ Y=>∃e,Nq e z/\Y=jR z e (iC t ks)):=by
 obtain⟨ta,tl,tb,l,dd⟩:=t;dsimp only at hl;refine bO 13 [0,1] func275 ?_;unfold jR;dsimp only;refine cJ ?_;refine xM ?_;refine kD ((l++ks).map aK) (l++ks).length ?_;refine bG fun r10 h10=> ?_;intros;refine oJ ?_;refine bS ?_;exact aD aE ⟨r10,by(exact aX),rfl⟩ aA
theorem aLt(k:Int):SCall prog 299 [.int .i64 k] [] (fun y Y=>y=.ro 1 ((aZ k).map aK) .any/\Y=[]):=by
 refine bO 7 [0,2,4] func299 ?_;refine fK ?_;refine sH ?_;refine aB rfl ?_ ?_<;>intro g1
 ·rw[show aZ k=[]from Dc g1];refine tR ?_;refine dO (fH (j:=2) (y:=.ro 1 (([]:List Int).map aK) .any) rfl VLe.empty) ?_;refine aI ?_;exact aD aE ⟨by rfl,rfl⟩ aA
 rw[show aZ k=[k]from Db (by simp[g1])];refine dG ?_;refine eN fun r6 h6=> ?_;intros;refine PA ?_;refine TO (j:=2) rfl aY (aL bR X) ?_;refine aI ?_;exact aD aE ⟨by rfl,rfl⟩ aA
theorem DU(hz:Nq q z)(t:RT):SCall prog 302 [.ptr z 0] (jR z q t) (fun _ Y=>∃e,Nq e z/\Y=jR z e (rZ t)):=by
 obtain⟨ta,tl,tb,l,dd⟩:=t;refine bO 8 [0] func302 ?_;unfold jR;dsimp only;refine cJ ?_;refine qB ?_;apply OT;rfl;rfl;rfl;rfl;exact nI;refine FH z 0 3 1 V bR rfl V fun e he=> ?_
 simp only[aN,aQ,and_true]at he;repeat rcases he with⟨_,he⟩
 apply Exists.intro;apply Bl;exact bK;refine oJ ?_;refine bS ?_;exact aD aE ⟨e,by(exact aX),rfl⟩ aA
theorem zL(hp:Nq p r)(t:RT)(hl:t.lb.length<=1000000)(n:Int)(hn:-9000000000000000000<=n/\n<=9000000000000000000):SCall prog 301 [.ptr r 0,.int .i64 n] (kT E0 r p t) (fun y Y=>∃b,y=.tup [.ro 1 ((cW t n).1.map aK) .any,.bool b]/\Y=kT E0 r p (cW t n).2):=by
 obtain⟨ta,tl,tb,l,dd⟩:=t;dsimp only at hl;refine bO 31 [0,1,4,5,6,20] func301 ?_;unfold kT oH;dsimp only;refine dB ?_;refine pN ?_;refine tV ?_;refine tN ?_;refine B4 ?_;refine tN ?_;refine gX ?_;refine xL ?_;refine IJ ?_;refine uY ?_;refine aB rfl ?_ ?_<;>intro g2
 ·have hP:cW ⟨ta,tl,tb,l,dd⟩ n=([],eH ⟨ta,tl,tb,l,dd⟩):=Dc g2;rw[hP];refine rO ?_;refine mG ?_;refine xP ?_;refine dO (fH (j:=4) (y:=.ro 1 (([]:List Int).map aK) .any) rfl VLe.empty) ?_;refine aI ?_;exact aD aE ⟨_,by rfl,rfl⟩ aA
 have h2:0<=n/\0<=(tl.length:Int)-1-n:=by
  have:∀p q:Bool,(if p=true then true else q)=false->p=false/\q=false:=by intro p q;cases p<;>cases q<;>simp
  obtain⟨h1,h2⟩:=this _ _ g2;simp only[decide_eq_false_iff_not]at h1 h2;exact⟨U,U⟩
 obtain⟨w,hw⟩:=Aa tl (((tl.length:Int)-1-n).toNat) U
 have hP:cW ⟨ta,tl,tb,l,dd⟩ n=(w,⟨ta,tl,tb,l,dd⟩):=by unfold cW;rw[Db (fun e=>by rw[g2]at e;cases e)];rw[Ax,hw];rfl
 rw[hP];refine vZ ?_;refine nX ?_;refine fS ?_;exact aD aE ⟨_,by rfl,rfl⟩ aA
theorem VM(hp:Nq p r)(t:RT)(ha:t.a<=1000000)(op:Int):SCall prog 300 [.ptr r 0,.int .i64 op] (kT E0 r p t) (fun y Y=>y=.bool (eP E0.bd t op).1/\Y=kT E0 r p (eP E0.bd t op).2):=by
 obtain⟨ta,tl,tb,l,dd⟩:=t;dsimp only at ha;have hu:∀b:Bool,(if decide ((ta:Int)<E0.bd.length)=true then((E0.bd.getD ta ⟨0,0,0,[]⟩).op==op)else false)=b->eP E0.bd ⟨ta,tl,tb,l,dd⟩ op=if b=true then(true,⟨ta+1,tl,tb,l,dd⟩)else(false,⟨ta,tl,tb,l,dd⟩):=fun b e=>by unfold eP;rw[e]
 refine bO 37 [0,1,4,29] func300 ?_;unfold kT oH;dsimp only;refine cV ?_;by_cases hlt:ta<E0.bd.length
 ·obtain⟨x,hx⟩:=Aa E0.bd ta hlt
  rw[Ax,hx,decide_eq_true U]at hu;refine eK (Ac [0,1,2,3,4,5,6,7,8,9,10,11,12,13,14,15,16,17,18,19,20,21,22,23,24] []) ?_;refine lS ?_;refine FL ?_;refine z46 ?_;rw[show decide ((ta:Int)<(E0.bd.length:Int))=true from decide_eq_true U];refine qC ?_;(refine kP rfl rfl rfl (bI (E rfl) (.inl ⟨_,_,rfl⟩)) rfl ?_);(refine kP rfl rfl rfl (aP (E rfl) rfl V) rfl ?_);refine MH ?_;(refine kP rfl rfl rfl (bI (E rfl) (.inl ⟨_,_,rfl⟩)) rfl ?_);(refine kP rfl rfl rfl (aP (E rfl) rfl V) rfl ?_);refine jM ?_;refine XR ?_;refine SZ ?_;refine lC ?_;refine aF6 ?_;refine OW ?_;refine oI ?_;refine aB rfl ?_ ?_<;>intro g1
  ·rw[hu true g1];refine vZ ?_;refine SH ?_;refine qB ?_;refine mG ?_;refine cV ?_;exact aD aE ⟨by rfl,rfl⟩ aA
  rw[hu false g1];refine cV ?_;exact aD aE ⟨by rfl,rfl⟩ aA
 ·rw[decide_eq_false U]at hu;rw[hu false rfl];refine eK (Ac [0,1,2,3,4,5,6,7,8,9,10,11,12,13,14,15,16,17,18,19,20,21,22,23,24] []) ?_;refine lS ?_;refine FL ?_;refine z46 ?_;rw[show decide ((ta:Int)<(E0.bd.length:Int))=false from decide_eq_false U];refine qC ?_;refine OZ ?_;refine MH ?_;refine OZ ?_;refine jM ?_;refine XR ?_;refine SZ ?_;refine lC ?_;refine aF6 ?_;refine OW ?_;refine KT ?_;refine cV ?_;exact aD aE ⟨by rfl,rfl⟩ aA
end
end Go.Proofs.YtjpdadobblffmaaGreat
