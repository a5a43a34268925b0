/-
  A module that may run comes to life just if all that is laid has its place; it is as it says.
-/
import Derived.Test.YtjpdadobblffmaaGreatJA8
open And renaming intro->Bl
open List renaming mem_cons->Av,not_mem_nil->A5,replicate->Ak
open Go.Proofs.Tryz
namespace Go.Proofs.YtjpdadobblffmaaGreat
open Go.RowKit Go.ChangeShapes Go.WideShapes Go.ChangeAt Go.Deep
set_option linter.unusedSimpArgs false
set_option linter.unusedVariables false
attribute [local irreducible] SW RS RD fE eA
theorem aAa:SCall prog 37 [.agg (aM (fB el0 []))] [] (fun y Y=>∃x mm q d s t g J,NX x mm q d s t g/\y=.tup [.ptr x 0,.int .i64 0]/\Y=RI (fB el0 []) [0,2,3,-1] aNU J x mm q d s t g):=by
 refine(OF (fB el0 []) el0_ok.wo el0_ok.z el0_ok.vl rfl).mono fun y Y hy=> ?_
 have k1:kG FY (Ak (iQ (fB el0 [])) (-1)) (fB el0 []).el=some [0,2,3,-1]:=rfl;have k2:kG daO (DZ (fB el0 [])) (fB el0 []).da=some aNU:=rfl;rcases hy with⟨e,-⟩|⟨tb',e,⟨e2,-⟩|⟨b',e2,hr⟩⟩
 ·rw[k1]at e;cases e
 ·rw[k2]at e2;cases e2
 ·rw[k1]at e;rw[k2]at e2;cases e;cases e2
  exact hr
theorem aAb:SCall prog 37 [.agg (aM smallM)] [] (fun y Y=>∃x s t g J,(Nq x s/\Nq x t/\Nq x g/\Nq t s/\Nq g s/\Nq g t)/\y=.tup [.ptr x 0,.int .i64 0]/\Y=VW smallM [] J x s t g):=by
 refine(OG smallM small_wo aBj WC rfl).mono fun y Y hy=> ?_
 have k1:kG FY (Ak (iQ smallM) (-1)) smallM.el=some []:=rfl;rcases hy with⟨e,-⟩|⟨tb',e,hr⟩
 ·rw[k1]at e;cases e
 ·rw[k1]at e;cases e
  exact hr
set_option maxHeartbeats 4000000 in
set_option maxRecDepth 100000 in
theorem RN:SCall prog 32 [] [] (fun y Y=>y=.bool true/\Y=[]):=by
 have wS:=aAb;have wB:=OE fun0 QO aFy (by rw[aBk];rfl);have wF:=aAa;have wE:=fun x s (J:List (List Int×List AV))=>sY (x:=x) (s:=s) (m:=smallM) (p:=.nilp) (j:=.ro 1 (J.map eT) .any) V [97,100,100]
 have wX:=fun x s (J:List (List Int×List AV))=>sY (x:=x) (s:=s) (m:=smallM) (p:=.nilp) (j:=.ro 1 (J.map eT) .any) V [120]
 rw[show XI smallM.ex [97,100,100]=(0,true) by kernel_rfl]at wE;rw[show XI smallM.ex [120]=(0,false) by kernel_rfl]at wX;dsimp only at wE wX;refine bO 104 [0,1,2,4,5,6,7,8,10,11,12,29,55] func32 ?_;(refine aI ?_);refine jD ?_;refine B7 ?_;refine kX ?_;(refine aI ?_);refine jD ?_;refine uW [] call50 zG ?_;refine cw [] call37 wS rfl aC aA ?_;rintro _ Y' ⟨x1,s1,t1,g1,J1,hs,rfl,rfl⟩ h15;unfold VW;obtain⟨w1,w2,w3,w4,w5,w6⟩:=hs;(apply aR;exact aU);refine B4 ?_;refine B6 ?_;refine B6 ?_;refine B7 ?_;refine B7 ?_;refine kX ?_;(refine aI ?_);refine jD ?_;refine eN fun r19 h19=> ?_;intros;refine iE (j:=19) rfl aY (aL bR X) ?_;refine mM ?_;refine mC (fH (j:=20) rfl JW) ?_;refine kY call37 wB rfl aO bH ?_;refine B4 ?_;refine B6 ?_;refine B6 ?_;refine B7 ?_;refine B7 ?_;refine kX ?_;(refine aI ?_);refine jD ?_;refine B4 ?_;refine B9 ?_;rw[show((0:Int) !=0)=false from rfl];refine B4 ?_;refine jZ ?_;(refine gy rfl rfl ?_;(refine lo (dY (E rfl) (E rfl) (.inr (.inl ⟨⟨_,_,rfl⟩,rfl⟩))) rfl ?_));refine jG ?_;refine kX ?_;(refine aI ?_);refine jD ?_;refine B4 ?_;refine uW [(x1,.box 157 (cX smallM .nilp (.ptr s1 0) (.ro 1 (J1.map eT) .any)))] call30 ZV ?_;refine B4 ?_;refine B6 ?_;refine B6 ?_;refine iD fun r5 h5=> ?_;intros;apply OT;rfl;rfl;rfl;rfl;exact nI;refine B7 ?_;refine kX ?_;(refine aI ?_);refine jD ?_;refine B4 ?_;refine uW [(x1,.box 157 (cX smallM .nilp (.ptr s1 0) (.ro 1 (J1.map eT) .any)))] call31 (wE x1 s1 J1) ?_;refine B4 ?_;refine B6 ?_;refine B6 ?_;refine B7 ?_;refine B7 ?_;refine kX ?_;(refine aI ?_);refine jD ?_;refine B4 ?_;refine uW [(x1,.box 157 (cX smallM .nilp (.ptr s1 0) (.ro 1 (J1.map eT) .any)))] call31 (wX x1 s1 J1) ?_;refine B4 ?_;refine B6 ?_;refine B6 ?_;refine B7 ?_;refine B7 ?_;refine kX ?_;(refine aI ?_);refine jD ?_;refine cw [] call25 (aEL [] 0) rfl aC aA ?_;rintro _ Y' ⟨q2,rfl,rfl⟩ h46
 replace h46:=gE h46;(repeat(rcases h46 with⟨_,h46⟩))
 (apply aR;exact aU);refine iE (j:=46) rfl aY (aC1 (aCD bR)) ?_;refine cw [] call37 wF rfl aC aA ?_;rintro _ Y' ⟨x2,m2,q3,d2,s2,t2,g2,J2,hn,rfl,rfl⟩ h47;unfold RI at h47
 replace h47:=FZ h47;replace h47:=bU h47;(repeat(rcases h47 with⟨_,h47⟩))
 unfold RI;obtain⟨y1,y2,y3,y4,y5,y6,y7,y8,y9,y10,y11,y12,y13,y14,y15,y16,y17,y18,y19,y20,y21⟩:=hn;(apply aR;exact aU);refine B4 ?_;refine B6 ?_;refine B6 ?_;refine B7 ?_;refine B7 ?_;refine kX ?_;(refine aI ?_);refine jD ?_;refine B4 ?_;refine B9 ?_;rw[show((0:Int) !=0)=false from rfl];refine B4 ?_;refine jZ ?_;refine SK ?_;refine sF ?_;refine kX ?_;(refine aI ?_);refine jD ?_;refine kY call94 ZZ rfl aO bH ?_;refine B4 ?_;refine jZ ?_;refine tB ?_;rw[show((6:Int)==6)=true from rfl];refine sF ?_;refine B4 ?_;refine AU ?_;refine aF1 ?_;refine CA ?_;refine tB ?_;refine sF ?_;refine B4 ?_;refine jZ ?_;refine sF ?_;refine B4 ?_;refine jZ ?_;refine tB ?_;refine sF ?_;refine B4 ?_;refine jZ ?_;refine sF ?_;refine B4 ?_;refine jZ ?_;refine AW ?_;refine sF ?_;refine B4 ?_;refine jZ ?_;refine Cm ?_;refine uW [(x1,.box 157 (cX smallM .nilp (.ptr s1 0) (.ro 1 (J1.map eT) .any)))] call34 FD ?_;(refine gy rfl rfl ?_;(refine lo (dY (E rfl) (E rfl) (.inl ⟨rfl,rfl⟩)) rfl ?_))
 refine sF ?_;refine B4 ?_;refine jZ ?_;refine Cm ?_;refine uW [(x1,.box 157 (cX smallM .nilp (.ptr s1 0) (.ro 1 (J1.map eT) .any)))] call35 nF ?_;(refine gy rfl rfl ?_;(refine lo (rG (E rfl) (E rfl) (.inr (.inl ⟨⟨_,_,rfl⟩,rfl⟩))) rfl ?_));refine sF ?_;refine B4 ?_;refine jZ ?_;refine Cm ?_;refine uW [(x1,.box 157 (cX smallM .nilp (.ptr s1 0) (.ro 1 (J1.map eT) .any)))] call36 (nP 0) ?_;refine AW ?_;refine sF ?_;refine B4 ?_;refine jZ ?_;(refine gy rfl rfl ?_;(refine lo (dY (E rfl) (E rfl) (.inr (.inl ⟨⟨_,_,rfl⟩,rfl⟩))) rfl ?_));refine aBu ?_;(refine gy rfl rfl ?_;refine lo (aF (E rfl)) rfl ?_);refine Cm ?_;refine uW [(x2,.box 157 (cX (fB el0 []) (.ptr m2 0) (.ptr s2 0) (.ro 1 (J2.map eT) .any)))] call36 (nP 0) ?_;refine aMD ?_;refine sF ?_;refine B7 ?_;refine kX ?_;(refine aI ?_);(apply aD;exact aE)
 ·exact⟨rfl,rfl⟩
 ·exact aA
theorem WD{A:Md}(hv:fI A=-1)(wa:A.WO)(za:A.Z)(nm:List Nat)(f:Int)(hf:-9223372036854775808<=f/\f<=9223372036854775807):
  A.Tn/\jP A=true/\SCall prog 46 [.agg (aM A),.int .i64 f] [] (fun y Y=>y=.tup [.agg (cD (cG A f).1),.bool (cG A f).2]/\Y=[])/\
  SCall prog 21 [.agg (aM A),.agg (aM A)] [] (fun r Y=>r=.bool true/\Y=[])/\A.ex.length<=1000/\
  (!((XI A.ex nm).2==decide (0<=exR A.ex nm)))=false/\(if(XI A.ex nm).2=true then((XI A.ex nm).1 !=exR A.ex nm)else false)=false/\(fQ A).length<=100:=by
 have hm:=vM hv;have hG:=JR (oF hm).1 wa;have hx:=aPa (l:=A.ex) (nm:=nm) fun x hx=>(hG.ex.2 x hx).2.1
 refine⟨aLF hv wa,hm, ?_, ?_,by have:=hG.ex.1;omega, ?_, ?_,by have:=hG.gl.1;simp[fQ];omega⟩
 ·by_cases h0:f<0
  ·exact WB f h0
  ·exact BQ A (by have:=hG.im.1;omega) f ⟨U,hf.2⟩
 ·have:=aLg A A wa.w wa.w za za;rw[VD]at this;exact this
 ·have:=hx.1;simpa[bne]using this
 ·cases h:(XI A.ex nm).2 with
  |false=>rfl
  |true=>rw[hx.2 h];simp
def aNY (A:Md):Prop:=∃e:Int,(e !=0)=true/\SCall prog 37 [.agg (aM A)] [] (fun y Y=>y=.tup [.nilp,.int .i64 e]/\Y=[])/\SCall prog 44 [.agg (aM A),.int .i64 0,.int .i64 0] [] (fun y Y=>y=.tup [.nilp,.int .i64 e]/\Y=[])
def OkM (A:Md):Prop:=fI A=-1/\A.me.has=true/\∃(tb:List Int) (B:List Nat) (k0:Nat),tb.length<=1000/\B.length=256*k0/\k0<=16/\
 SCall prog 37 [.agg (aM A)] [] (fun y Y=>∃x mm q d s t g J,NX x mm q d s t g/\y=.tup [.ptr x 0,.int .i64 0]/\Y=RI A tb B J x mm q d s t g)/\
 SCall prog 44 [.agg (aM A),.int .i64 0,.int .i64 0] [] (fun y Y=>∃c q t g,(Nq c q/\Nq c t/\Nq c g/\Nq q t/\Nq q g/\Nq t g)/\y=.tup [.ptr c 0,.int .i64 0]/\
   Y=[(c,.box 175 (iX A (.own q 0 B.length) (.own t 0 tb.length) (.own g 0 (fQ A).length) 0 0)),(q,.arr 5 1 (B.map aG)),(t,.arr 3 1 (tb.map aK)),(g,.arr 71 2 ((fQ A).map dC))])
def OkN (A:Md):Prop:=fI A=-1/\A.me.has=false/\∃tb:List Int,tb.length<=1000/\
 SCall prog 37 [.agg (aM A)] [] (fun y Y=>∃x s t g J,(Nq x s/\Nq x t/\Nq x g/\Nq t s/\Nq g s/\Nq g t)/\y=.tup [.ptr x 0,.int .i64 0]/\Y=VW A tb J x s t g)/\
 SCall prog 44 [.agg (aM A),.int .i64 0,.int .i64 0] [] (fun y Y=>∃c t g,(Nq c t/\Nq c g/\Nq t g)/\y=.tup [.ptr c 0,.int .i64 0]/\
   Y=[(c,.box 175 (iX A (.ro 0 [] .nil) (.own t 0 tb.length) (.own g 0 (fQ A).length) 0 0)),(t,.arr 3 1 (tb.map aK)),(g,.arr 71 2 ((fQ A).map dC))])
theorem zN{Y α:Type}{f:Y->α->Option Y}{len:Y->Nat}(hf:∀s a t,f s a=some t->len t=len s):∀ {l:List α} {s t:Y},kG f s l=some t->len t=len s
 |[],s,t,h=>by cases h;rfl
 |a::l,s,t,h=>by
  unfold kG at h;cases h1:f s a with
  |none=>rw[h1]at h;cases h
  |some u=>rw[h1]at h;rw[zN hf h,hf s a u h1]
theorem aCF(A:Md)(wa:A.WO)(za:A.Z):aNY A\/OkM A\/OkN A:=by
 cases hv0:(fI A==-1)with
 |false=>exact .inl ⟨6,rfl,OE A wa za hv0,aFq A wa za (by rw[bne,hv0];rfl)⟩
 |true=>
  have hv:fI A=-1:=C8 hv0
  have hA:=(oF (vM hv)).1;have hT:=KO hA;cases hme:A.me.has with
  |true=>
   have I:=OF A wa za hv hme;have R:=aFr A wa za hv hme;obtain⟨k0,hk0,hk16⟩:=ZU hA hme;cases h1:kG FY (Ak (iQ A) (-1)) A.el with
   |none=>
    refine .inl ⟨3,rfl,I.mono fun y Y hy=> ?_,R.mono fun y Y hy=> ?_⟩
    ·rcases hy with⟨-,e⟩|⟨tb,e1,-⟩
     ·exact e
     ·rw[h1]at e1;cases e1
    ·rcases hy with⟨-,e⟩|⟨tb,e1,-⟩
     ·exact e
     ·rw[h1]at e1;cases e1
   |some tb=>
    cases h2:kG daO (DZ A) A.da with
    |none=>
     refine .inl ⟨3,rfl,I.mono fun y Y hy=> ?_,R.mono fun y Y hy=> ?_⟩
     ·rcases hy with⟨-,e⟩|⟨tb,e1,⟨-,e⟩|⟨b,e2,-⟩⟩
      ·exact e
      ·exact e
      ·rw[h2]at e2;cases e2
     ·rcases hy with⟨-,e⟩|⟨tb,e1,⟨-,e⟩|⟨b,e2,-⟩⟩
      ·exact e
      ·exact e
      ·rw[h2]at e2;cases e2
    |some B=>
     have l1:tb.length=iQ A:=(zN (len:=List.length) (fun _ _ _ h=>aBe h) h1).trans (List.length_replicate);have l2:B.length=256*k0:=(zN (len:=List.length) (fun _ _ _ h=>aIf h) h2).trans (by unfold DZ;rw[List.length_replicate,hk0];simp);refine .inr (.inl ⟨hv,hme,tb,B,k0,U,l2,hk16,I.mono fun y Y hy=> ?_,R.mono fun y Y hy=> ?_⟩)
     ·rcases hy with⟨e,-⟩|⟨tb',e,⟨e2,-⟩|⟨b',e2,hr⟩⟩
      ·rw[h1]at e;cases e
      ·rw[h2]at e2;cases e2
      ·rw[h1]at e;rw[h2]at e2;cases e;cases e2;exact hr
     ·rcases hy with⟨e,-⟩|⟨tb',e,⟨e2,-⟩|⟨b',e2,hr⟩⟩
      ·rw[h1]at e;cases e
      ·rw[h2]at e2;cases e2
      ·rw[h1]at e;rw[h2]at e2;cases e;cases e2;exact hr
  |false=>
   have I:=OG A wa za hv hme;have R:=aFs A wa za hv hme;cases h1:kG FY (Ak (iQ A) (-1)) A.el with
   |none=>
    refine .inl ⟨3,rfl,I.mono fun y Y hy=> ?_,R.mono fun y Y hy=> ?_⟩
    ·rcases hy with⟨-,e⟩|⟨tb,e1,-⟩
     ·exact e
     ·rw[h1]at e1;cases e1
    ·rcases hy with⟨-,e⟩|⟨tb,e1,-⟩
     ·exact e
     ·rw[h1]at e1;cases e1
   |some tb=>
    have l1:tb.length=iQ A:=(zN (len:=List.length) (fun _ _ _ h=>aBe h) h1).trans (List.length_replicate);refine .inr (.inr ⟨hv,hme,tb,U,I.mono fun y Y hy=> ?_,R.mono fun y Y hy=> ?_⟩)
    ·rcases hy with⟨e,-⟩|⟨tb',e,hr⟩
     ·rw[h1]at e;cases e
     ·rw[h1]at e;cases e;exact hr
    ·rcases hy with⟨e,-⟩|⟨tb',e,hr⟩
     ·rw[h1]at e;cases e
     ·rw[h1]at e;cases e;exact hr
set_option maxHeartbeats 8000000 in
set_option maxRecDepth 100000 in
theorem WE(m:Md)(s0:ByteArray)(f:Int)(hr:m.R)(hf:-9223372036854775808<=f/\f<=9223372036854775807):SCall prog 14 [.agg (aM m),.str s0,.int .i64 f] [] (fun y _=>y=.bool true):=by
 have wa:=aLO hr;have za:=aNX (m:=m);have ca:=aEG m hr.a;generalize aHH m=A at*;obtain⟨nm,rfl⟩:∃nm,s0=cB nm:=⟨_,(aBm s0).symm⟩
 refine bO 124 [0,1,2,3,6,7,8,9,10,11,12,13,14,15,16,17,20,42,44,120] func14 ?_;(refine aI ?_);refine jD ?_;refine fZ fun r3 h3=> ?_;intros;refine B7 ?_;refine kX ?_;(refine aI ?_);refine jD ?_;refine kY call32 RN rfl aO bH ?_;refine B7 ?_;refine kX ?_;(refine aI ?_);refine jD ?_;refine B4 ?_;refine Cd ?_;refine kX ?_;(refine aI ?_);refine jD ?_;refine jY ?_;refine uW [] call17 ca ?_;apply OT;rfl;rfl;rfl;rfl;exact nI;refine kX ?_;(refine aI ?_);rcases aCF A wa za with⟨e,he,wI,wR⟩|⟨hv,hme,tb,B,k0,htb,hB,hk,wI,wR⟩|⟨hv,hme,tb,htb,wI,wR⟩
 ·refine jD ?_;refine jY ?_;refine kY call37 wI rfl aO bH ?_;refine B4 ?_;refine B6 ?_;refine B6 ?_;refine B7 ?_;refine B7 ?_;refine kX ?_;(refine aI ?_);refine jD ?_;refine jY ?_;refine kY call44 wR rfl aO bH ?_;refine B4 ?_;refine B6 ?_;refine B6 ?_;refine B7 ?_;refine B7 ?_;refine kX ?_;(refine aI ?_);refine jD ?_;refine B4 ?_;refine B4 ?_;refine B9 ?_;rw[show(e !=e)=false by simp];refine B4 ?_;refine jZ ?_;(refine gy rfl rfl ?_;(refine lo (dY (E rfl) (E rfl) (.inl ⟨rfl,rfl⟩)) rfl ?_));refine jZ ?_;refine SK ?_;rw[he];(refine gy rfl rfl ?_;refine lo (rD (E rfl) (E rfl)) rfl ?_);rw[show(!(true==true))=false from rfl];refine jG ?_;refine kX ?_;(refine aI ?_);refine jD ?_;refine B4 ?_;refine B9 ?_;refine kX ?_;(refine aI ?_);rw[he];(refine aI ?_);refine jD ?_;refine B7 ?_;refine kX ?_;(refine aI ?_);(apply aD;exact aE)
  ·rfl
  ·exact aA
 ·obtain⟨hTn,hmA,hty,hEq,hxl,e1,e2,hgl⟩:=WD hv wa za nm f hf;refine jD ?_;refine jY ?_;refine cw [] call37 wI rfl aC aA ?_;rintro _ Y' ⟨x,mm,q,d,s,t,g,J,hx,rfl,rfl⟩ h25;unfold RI at h25
  replace h25:=FZ h25;replace h25:=bU h25;(repeat(rcases h25 with⟨_,h25⟩))
  unfold RI;obtain⟨y1,y2,y3,y4,y5,y6,y7,y8,y9,y10,y11,y12,y13,y14,y15,y16,y17,y18,y19,y20,y21⟩:=hx;(apply aR;exact aU);refine B4 ?_;refine B6 ?_;refine B6 ?_;refine B7 ?_;refine B7 ?_;refine kX ?_;(refine aI ?_);refine jD ?_;refine jY ?_;refine cw [] call44 wR rfl aC aA ?_;rintro _ Y' ⟨c,cq,ct,cg,hc,rfl,rfl⟩ h30
  replace h30:=FZ h30;replace h30:=bU h30;(repeat(rcases h30 with⟨_,h30⟩))
  (repeat(rcases hc with⟨_,hc⟩));(apply aR;exact aU);refine B4 ?_;refine B6 ?_;refine B6 ?_;refine B7 ?_;refine B7 ?_;refine kX ?_;(refine aI ?_);refine jD ?_;refine B4 ?_;refine B4 ?_;refine B9 ?_;rw[show((0:Int) !=0)=false from rfl];refine B4 ?_;refine jZ ?_;(refine gy rfl rfl ?_;(refine lo (dY (E rfl) (E rfl) (.inr (.inl ⟨⟨_,_,rfl⟩,rfl⟩))) rfl ?_));refine jZ ?_;refine SK ?_;rw[show((0:Int) !=0)=false from rfl];(refine gy rfl rfl ?_;refine lo (rD (E rfl) (E rfl)) rfl ?_);rw[show(!(false==false))=false from rfl];refine jG ?_;refine kX ?_;(refine aI ?_);refine jD ?_;refine B4 ?_;refine B9 ?_;refine kX ?_;(refine aI ?_);rw[show((0:Int) !=0)=false from rfl];(refine aI ?_);refine jD ?_;refine B4 ?_;refine B4 ?_;refine cw [(x,.box 157 (cX A (.ptr mm 0) (.ptr s 0) (.ro 1 (J.map eT) .any)))] call31 (sY hxl nm) rfl aC aA ?_;rintro _ Y' ⟨rfl,rfl⟩ h48;(apply aR;exact aU);refine B4 ?_;refine B6 ?_;refine B6 ?_
  refine B7 ?_;refine B7 ?_;refine kX ?_;(refine aI ?_);refine jD ?_;refine B4 ?_;refine B4 ?_;refine cw [(c,.box 175 (iX A (.own cq 0 B.length) (.own ct 0 tb.length) (.own cg 0 (fQ A).length) 0 0))] call45 (KQ hxl nm) rfl aC aA ?_;rintro _ Y' ⟨rfl,rfl⟩ h53;(apply aR;exact aU);refine B7 ?_;refine kX ?_;(refine aI ?_);refine jD ?_;refine B4 ?_;refine B4 ?_;refine cw [(x,.box 157 (cX A (.ptr mm 0) (.ptr s 0) (.ro 1 (J.map eT) .any)))] call30 (OH hTn f hf) rfl aC aA ?_;rintro _ Y' ⟨rfl,rfl⟩ h57;(apply aR;exact aU);refine B4 ?_;refine B6 ?_;refine B6 ?_;refine iD fun r15 h15=> ?_;intros;apply OT;rfl;rfl;rfl;rfl;exact nI;refine B7 ?_;refine kX ?_;(refine aI ?_);refine jD ?_;refine jY ?_;refine B4 ?_;refine cw [] call46 hty rfl aC aA ?_;rintro _ Y' ⟨rfl,rfl⟩ h63;(apply aR;exact aU);refine B4 ?_;refine B6 ?_;refine B6 ?_;refine iD fun r17 h17=> ?_;intros;apply OT;rfl;rfl;rfl;rfl;exact nI;refine B7 ?_;refine kX ?_;(refine aI ?_);refine eK (Ac [0,1,2,3,4,5,6,7,8,9,10,11,12,13,14,15,16,17,18,19,20,21] (Ad 22 (Ac [23,24,25,26,27,28,29] (Ad 30 (Ac [31,32,33,34,35,37,38] (Ad 36 (Ac [39,40,41,42,43,44,45,46,47,48,49,51] (Ad 50 (Ad 52 (Ac [53,54] [])))))))))) ?_;refine B5 ?_;refine B5 ?_;refine eS rfl (dH (E rfl) (E rfl)) rfl ?_;refine aMJ ?_;rw[e1];refine B5 ?_;refine lC ?_;(refine kP rfl rfl rfl (aF (E rfl)) rfl ?_);refine Cr ?_;refine Cr ?_;refine gI rfl rfl rfl (dM (by exact W rfl id) (by exact W rfl id)) rfl ?_;(refine kP rfl rfl rfl (fL (E rfl) (by exact W rfl X) (E rfl)) rfl ?_);rw[e2];refine nQ ?_;refine B5 ?_;refine lC ?_;refine lC ?_;refine aF7 ?_;rw[show(!((cG A f).2==(cG A f).2))=false by simp]
  refine nQ ?_;refine B5 ?_;refine rL ?_;refine jM ?_;refine rL ?_;refine jM ?_;refine FO rfl rfl rfl call47 (fT (cG A f).1.pr (cG A f).1.pr) rfl aO bH ?_;rw[show decide ((cG A f).1.pr=(cG A f).1.pr)=true by simp];refine IK ?_;rw[show(!true)=false from rfl];refine nQ ?_;refine B5 ?_;refine rL ?_;refine jM ?_;refine rL ?_;refine jM ?_;refine FO rfl rfl rfl call47 (fT (cG A f).1.rs (cG A f).1.rs) rfl aO bH ?_;rw[show decide ((cG A f).1.rs=(cG A f).1.rs)=true by simp];refine IK ?_;rw[show(!true)=false from rfl];refine nQ ?_;refine B5 ?_;refine lC ?_;refine lC ?_;refine lC ?_;(refine kP rfl rfl rfl (dH (E rfl) (E rfl)) rfl ?_);refine GE [(x,.box 157 (cX A (.ptr mm 0) (.ptr s 0) (.ro 1 (J.map eT) .any)))] rfl rfl rfl call36 (nP f) rfl aC aA eC ?_;rintro _ Y' ⟨rfl,rfl⟩ h102;(apply bC;exact aU);(refine kP rfl rfl rfl (aF (E rfl)) rfl ?_);refine Cr ?_;refine gI rfl rfl rfl (aP (E rfl) rfl V) rfl ?_;refine gI rfl rfl rfl (bE (by exact W rfl id) rfl bR (fun _=>rfl)) rfl ?_;refine gI rfl rfl rfl (cK (by exact W rfl id)) rfl ?_;refine gI rfl rfl rfl (iI (by exact W rfl id) (by exact W rfl id)) rfl ?_
  (refine kP rfl rfl rfl (fL (E rfl) (by exact W rfl X) (E rfl)) rfl ?_);refine aF7 ?_;rw[show(!(WA A f==if decide (0<=f)=true then decide (f<(A.im.length:Int))else false))=false by unfold WA;simp];refine nQ ?_;refine B5 ?_;refine lC ?_;refine aMK ?_;refine GE [(x,.box 157 (cX A (.ptr mm 0) (.ptr s 0) (.ro 1 (J.map eT) .any)))] rfl rfl rfl call33 (GA wa hmA) rfl aC aA eC ?_;rintro _ Y' ⟨rfl,rfl⟩ h116;(apply bC;exact aU);refine FO rfl rfl rfl call21 hEq rfl aO bH ?_;refine IK ?_;rw[show(!true)=false from rfl];refine nQ ?_;refine KT ?_;(refine aI ?_);have hN:Nd [x,mm,q,d,s,t,g,c,cq,ct,cg]:=by
   simp only[Nd,Av,A5,or_false,forall_eq_or_imp,forall_eq,and_true,false_implies,implies_true,and_assoc]
   (repeat' apply Bl)<;>(exact aX)
  refine jD ?_;refine B4 ?_;refine B4 ?_;refine cw [(x,.box 157 (cX A (.ptr mm 0) (.ptr s 0) (.ro 1 (J.map eT) .any))),(mm,.box 169 [.own q 0 (B).length,.int .i64 (lB A.me.mx),.own d 0 (([]:List Int)).length]),(q,.arr 5 1 ((B).map aG)),(d,.arr 3 1 ((([]:List Int)).map aK)),(s,.box 165 [.own t 0 (tb).length,.own g 0 (fQ A).length]),(t,.arr 3 1 ((tb).map aK)),(g,.arr 71 2 ((fQ A).map dC)),(c,.box 175 (iX A (.own cq 0 B.length) (.own ct 0 tb.length) (.own cg 0 (fQ A).length) 0 0)),(cq,.arr 5 1 (B.map aG)),(ct,.arr 3 1 (tb.map aK)),(cg,.arr 71 2 ((fQ A).map dC))] call48 (aCB hN hme htb hgl hB hk) rfl aC aA ?_;rintro _ Y' ⟨rfl,rfl⟩ h123;(apply aR;exact aU);refine B7 ?_;refine kX ?_;(refine aI ?_);(apply aD;exact aE)
  ·rfl
  ·exact aA
 ·obtain⟨hTn,hmA,hty,hEq,hxl,e1,e2,hgl⟩:=WD hv wa za nm f hf;refine jD ?_;refine jY ?_;refine cw [] call37 wI rfl aC aA ?_;rintro _ Y' ⟨x,s,t,g,J,hx,rfl,rfl⟩ h25;unfold VW at h25
  replace h25:=FZ h25;replace h25:=bU h25;(repeat(rcases h25 with⟨_,h25⟩))
  unfold VW;obtain⟨y1,y2,y3,y4,y5,y6⟩:=hx;(apply aR;exact aU);refine B4 ?_;refine B6 ?_;refine B6 ?_;refine B7 ?_;refine B7 ?_;refine kX ?_;(refine aI ?_);refine jD ?_;refine jY ?_;refine cw [] call44 wR rfl aC aA ?_;rintro _ Y' ⟨c,ct,cg,hc,rfl,rfl⟩ h30
  replace h30:=FZ h30;replace h30:=bU h30;(repeat(rcases h30 with⟨_,h30⟩))
  (repeat(rcases hc with⟨_,hc⟩));(apply aR;exact aU);refine B4 ?_;refine B6 ?_;refine B6 ?_;refine B7 ?_;refine B7 ?_;refine kX ?_;(refine aI ?_);refine jD ?_;refine B4 ?_;refine B4 ?_;refine B9 ?_;rw[show((0:Int) !=0)=false from rfl];refine B4 ?_;refine jZ ?_;(refine gy rfl rfl ?_;(refine lo (dY (E rfl) (E rfl) (.inr (.inl ⟨⟨_,_,rfl⟩,rfl⟩))) rfl ?_));refine jZ ?_;refine SK ?_;rw[show((0:Int) !=0)=false from rfl];(refine gy rfl rfl ?_;refine lo (rD (E rfl) (E rfl)) rfl ?_);rw[show(!(false==false))=false from rfl];refine jG ?_;refine kX ?_;(refine aI ?_);refine jD ?_;refine B4 ?_;refine B9 ?_;refine kX ?_;(refine aI ?_);rw[show((0:Int) !=0)=false from rfl];(refine aI ?_);refine jD ?_;refine B4 ?_;refine B4 ?_;refine uW [(x,.box 157 (cX A .nilp (.ptr s 0) (.ro 1 (J.map eT) .any)))] call31 (sY hxl nm) ?_;refine B4 ?_;refine B6 ?_;refine B6 ?_;refine B7 ?_;refine B7 ?_
  refine kX ?_;(refine aI ?_);refine jD ?_;refine B4 ?_;refine B4 ?_;refine uW [(c,.box 175 (iX A (.ro 0 [] .nil) (.own ct 0 tb.length) (.own cg 0 (fQ A).length) 0 0))] call45 (KQ hxl nm) ?_;refine B7 ?_;refine kX ?_;(refine aI ?_);refine jD ?_;refine B4 ?_;refine B4 ?_;refine uW [(x,.box 157 (cX A .nilp (.ptr s 0) (.ro 1 (J.map eT) .any)))] call30 (OH hTn f hf) ?_;refine B4 ?_;refine B6 ?_;refine B6 ?_;apply al;rfl;exact rK;refine bD fun r15 h15=> ?_;(repeat(rcases h15 with⟨_,h15⟩))
  apply OT;rfl;rfl;rfl;rfl;exact nI;refine B7 ?_;refine kX ?_;(refine aI ?_);refine jD ?_;refine jY ?_;refine B4 ?_;refine uW [] call46 hty ?_;refine B4 ?_;refine B6 ?_;refine B6 ?_;apply al;rfl;exact rK;refine bD fun r17 h17=> ?_;(repeat(rcases h17 with⟨_,h17⟩))
  apply OT;rfl;rfl;rfl;rfl;exact nI;refine B7 ?_;refine kX ?_;(refine aI ?_);refine eK (Ac [0,1,2,3,4,5,6,7,8,9,10,11,12,13,14,15,16,17,18,19,20,21] (Ad 22 (Ac [23,24,25,26,27,28,29] (Ad 30 (Ac [31,32,33,34,35,37,38] (Ad 36 (Ac [39,40,41,42,43,44,45,46,47,48,49,51] (Ad 50 (Ad 52 (Ac [53,54] [])))))))))) ?_;refine B5 ?_;refine B5 ?_;refine eS rfl (dH (E rfl) (E rfl)) rfl ?_;refine aMJ ?_;rw[e1];refine B5 ?_;refine lC ?_;(refine kP rfl rfl rfl (aF (E rfl)) rfl ?_);refine Cr ?_;refine Cr ?_;refine gI rfl rfl rfl (dM (by exact W rfl id) (by exact W rfl id)) rfl ?_;(refine kP rfl rfl rfl (fL (E rfl) (by exact W rfl X) (E rfl)) rfl ?_);rw[e2];refine nQ ?_;refine B5 ?_;refine lC ?_;refine lC ?_;refine aF7 ?_;rw[show(!((cG A f).2==(cG A f).2))=false by simp]
  refine nQ ?_;refine B5 ?_;refine rL ?_;refine jM ?_;refine rL ?_;refine jM ?_;refine FO rfl rfl rfl call47 (fT (cG A f).1.pr (cG A f).1.pr) rfl aO bH ?_;rw[show decide ((cG A f).1.pr=(cG A f).1.pr)=true by simp];refine IK ?_;rw[show(!true)=false from rfl];refine nQ ?_;refine B5 ?_;refine rL ?_;refine jM ?_;refine rL ?_;refine jM ?_;refine FO rfl rfl rfl call47 (fT (cG A f).1.rs (cG A f).1.rs) rfl aO bH ?_;rw[show decide ((cG A f).1.rs=(cG A f).1.rs)=true by simp];refine IK ?_;rw[show(!true)=false from rfl];refine nQ ?_;refine B5 ?_;refine lC ?_;refine lC ?_;refine lC ?_;(refine kP rfl rfl rfl (dH (E rfl) (E rfl)) rfl ?_);refine GE [(x,.box 157 (cX A .nilp (.ptr s 0) (.ro 1 (J.map eT) .any)))] rfl rfl rfl call36 (nP f) rfl aC aA eC ?_;rintro _ Y' ⟨rfl,rfl⟩ h102;(apply bC;exact aU);(refine kP rfl rfl rfl (aF (E rfl)) rfl ?_);refine Cr ?_;refine gI rfl rfl rfl (aP (E rfl) rfl V) rfl ?_;refine gI rfl rfl rfl (bE (by exact W rfl id) rfl bR (fun _=>rfl)) rfl ?_;refine gI rfl rfl rfl (cK (by exact W rfl id)) rfl ?_;refine gI rfl rfl rfl (iI (by exact W rfl id) (by exact W rfl id)) rfl ?_
  (refine kP rfl rfl rfl (fL (E rfl) (by exact W rfl X) (E rfl)) rfl ?_);refine aF7 ?_;rw[show(!(WA A f==if decide (0<=f)=true then decide (f<(A.im.length:Int))else false))=false by unfold WA;simp];refine nQ ?_;refine B5 ?_;refine lC ?_;refine aMK ?_;refine GE [(x,.box 157 (cX A .nilp (.ptr s 0) (.ro 1 (J.map eT) .any)))] rfl rfl rfl call33 (GA wa hmA) rfl aC aA eC ?_;rintro _ Y' ⟨rfl,rfl⟩ h116;(apply bC;exact aU);refine FO rfl rfl rfl call21 hEq rfl aO bH ?_;refine IK ?_;rw[show(!true)=false from rfl];refine nQ ?_;refine KT ?_;(refine aI ?_);have hN:Nd [x,s,t,g,c,ct,cg]:=by
   simp only[Nd,Av,A5,or_false,forall_eq_or_imp,forall_eq,and_true,false_implies,implies_true,and_assoc]
   (repeat' apply Bl)<;>(exact aX)
  refine jD ?_;refine B4 ?_;refine B4 ?_;refine uW [(x,.box 157 (cX A .nilp (.ptr s 0) (.ro 1 (J.map eT) .any))),(s,.box 165 [.own t 0 (tb).length,.own g 0 (fQ A).length]),(t,.arr 3 1 ((tb).map aK)),(g,.arr 71 2 ((fQ A).map dC)),(c,.box 175 (iX A (.ro 0 [] .nil) (.own ct 0 tb.length) (.own cg 0 (fQ A).length) 0 0)),(ct,.arr 3 1 (tb.map aK)),(cg,.arr 71 2 ((fQ A).map dC))] call48 (aCC hN hme htb hgl) ?_;refine B7 ?_;refine kX ?_;(refine aI ?_);(apply aD;exact aE)
  ·rfl
  ·exact aA
end Go.Proofs.YtjpdadobblffmaaGreat
