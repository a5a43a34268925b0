import Derived.Test.YtjpdadobblffmaaGreatIP5
import Derived.ChangeKeysEq
import Derived.Laws.StructEq
import Derived.Test.YtjpdadobblffmaaGreatIP3
import Derived.Test.YtjpdadobblffmaaGreatIP4
set_option linter.unusedSimpArgs false
set_option linter.unusedVariables false
set_option maxRecDepth 100000
set_option maxHeartbeats 4000000
namespace Go.Proofs.YtjpdadobblffmaaGreat
open Go.RowKit Go.ChangeShapes Go.WideShapes Go.ChangeAt Go.Deep
attribute [local irreducible] SW RS RD fF eB
def QD (s:List Nat):Prop:=s.length≤1000∧∀c∈s,c<256
def SmI (n:Int):Prop:=0≤n∧n≤100000
structure Md.G (m:Md):Prop where
 ty:m.ty.length≤100∧∀x∈m.ty,x.pr.length≤1000∧x.rs.length≤1000
 im:m.im.length≤100∧∀x∈m.im,QD x.mod∧QD x.nm∧SmI x.ty
 fn:m.fn.length≤100∧∀n∈m.fn,SmI n
 tb:m.tb.has=true→PE m.tb
 me:m.me.has=true→PE m.me
 gl:m.gl.length≤100∧∀g∈m.gl,mK g.kd g.n=true∧ -9223372036854775808≤g.n∧g.n≤9223372036854775807
 ex:m.ex.length≤100∧∀x∈m.ex,QD x.nm∧SmI x.fn
 el:m.el.length≤100∧∀x∈m.el,gI x.off=true∧x.fs.length≤1000∧∀n∈x.fs,SmI n
 co:m.co.length≤100∧∀x∈m.co,x.ls.length≤1000∧x.bd.length≤310∧∀i∈x.bd,i.Ok∧cT i=true
 da:m.da.length≤100∧∀x∈m.da,gI x.off=true∧x.bs.length≤1000
theorem sZ{n:Int}(h:SmI n):(cC n).length≤5:=bG 4 n.toNat (by have:=h.2;have:=h.1;omega)
theorem AX{s:List Nat}(h:QD s):(bI s).length≤1005:=by
 have:=bG 4 s.length (by have:=h.1;omega);have:=h.1;unfold bI;rw[List.length_append];omega
theorem kY{α:Type}(no:Nat){l:List α}(pt:α→List Nat)(c:Nat)(hl:l.length≤100)(hc:c≤100000)(h:∀x∈l,(pt x).length≤c):(bB no l pt).length≤20+100*c∧∀j,(dX pt l j).length≤100*c:=by
 have h1:=SP h;have h4:l.length*c≤100*c:=Nat.mul_le_mul_right c hl;have h2:(aY l pt).length≤5+100*c:=by
  rw[CZ,List.length_append];have:=bG 4 l.length (by omega);have:=h1 l.length;omega
 refine⟨?_,fun j=>Nat.le_trans (h1 j) h4⟩;have h3:=bG 4 (aY l pt).length (by omega);unfold bB;split
 ·simp
 ·simp only[List.length_cons,List.length_append];omega
theorem aEe{t:FT}(h:t.pr.length≤1000∧t.rs.length≤1000):(vE t).length≤2100:=by
 have h1:=jY (pt:=kB) (l:=t.pr) (c:=1) (fun x _=>Nat.le_of_eq (nX x)) h.1;have h2:=jY (pt:=kB) (l:=t.rs) (c:=1) (fun x _=>Nat.le_of_eq (nX x)) h.2;unfold vE;simp only[List.length_cons,List.length_append];omega
theorem aEf{x:Im}(h:QD x.mod∧QD x.nm∧SmI x.ty):(iQ x).length≤2100:=by
 have h1:=AX h.1;have h2:=AX h.2.1;have h3:=sZ h.2.2;unfold iQ;simp only[List.length_append,List.length_cons,List.length_nil];omega
theorem aEg{g:Gl}(h:mK g.kd g.n=true∧ -9223372036854775808≤g.n∧g.n≤9223372036854775807):(uH g).length≤300:=by
 have h1:=wC h.1 h.2;have h2:=nX g.kd;unfold uH;simp only[List.length_append,List.length_cons,List.length_nil];omega
theorem aEh{x:Ex}(h:QD x.nm∧SmI x.fn):(nC x).length≤1100:=by
 have h2:=AX h.1;have h3:=sZ h.2;unfold nC;simp only[List.length_append,List.length_cons,List.length_nil];omega
theorem VQ{x:El}(h:gI x.off=true∧x.fs.length≤1000∧∀n∈x.fs,SmI n):(sE x).length≤5300:=by
 have h1:=wD h.1;have h2:=jY (pt:=cC) (l:=x.fs) (c:=5) (fun n hn=>sZ (h.2.2 n hn)) h.2.1;unfold sE;rw[List.length_append];omega
theorem VS{l:List Int}(hl:l.length≤1000):(aY (bY l) gW).length≤3010:=by
 have h:=VP hl l.length;unfold QC at h;rw[List.take_length]at h;have:=bG 4 (bY l).length (by omega);unfold aY;rw[List.length_append];omega
theorem VT{x:Co}(h:x.ls.length≤1000∧x.bd.length≤310∧∀i∈x.bd,i.Ok∧cT i=true):(kC x).length≤70000:=by
 have h1:=VS h.1;have h2:=zG h.2.2;have h3:=bG 4 (aY (bY x.ls) gW++iK x.bd).length (by rw[List.length_append];omega);unfold kC;rw[List.length_append,List.length_append];rw[List.length_append]at h3;omega
theorem VU{x:Da}(h:gI x.off=true∧x.bs.length≤1000):(tP x).length≤1300:=by
 have h1:=wD h.1;have h2:=bG 4 x.bs.length (by omega);unfold tP;simp only[List.length_append];omega
theorem VV{s:List Nat}{mu:Bool}{k n:Int}{z:Nat}(h:(if mu=true then 1 else 0)=z):s++uH ⟨mu,k,n⟩=s++ [if(k==1)=true then 127 else 126,z]++mA k n:=by
 unfold uH;dsimp only;rw[h,aBC];simp
def vR (m:Md):List Nat:=bB 9 m.el sE++bB 10 m.co kC++bB 11 m.da tP
theorem aBE(m:Md)(h:m.G)(hlate:SCall Tryz.prog 164 [.agg (aZ m)] [] (fun y σ=>∃q,y=.own q 0 (vR m).length∧σ=[(q,.arr 5 1 ((vR m).map aG))]))(hll:(vR m).length≤10000000):SCall Tryz.prog 64 [.agg (aZ m)] [] (fun y σ=>∃q,y=.own q 0 (eL m).length∧σ=[(q,.arr 5 1 ((eL m).map aG))]):=by
 obtain⟨⟨nty,hty⟩,⟨nim,him⟩,⟨nfn,hfn⟩,htb,hme,⟨ngl,hgl⟩,⟨nex,hex⟩,-,-,-⟩:=h;obtain⟨ty,im,fn,tb,me,gl,ex,el,co,da⟩:=m;dsimp only at nty hty nim him nfn hfn htb hme ngl hgl nex hex;obtain⟨L1,Pty⟩:=kY 1 vE 2100 nty (by decide) fun x hx=>aEe (hty x hx)
 obtain⟨L2,Pim⟩:=kY 2 iQ 2100 nim (by decide) fun x hx=>aEf (him x hx)
 obtain⟨L3,Pfn⟩:=kY 3 cC 5 nfn (by decide) fun x hx=>sZ (hfn x hx)
 obtain⟨L6,Pgl⟩:=kY 6 uH 300 ngl (by decide) fun x hx=>aEg (hgl x hx)
 obtain⟨L7,Pex⟩:=kY 7 nC 1100 nex (by decide) fun x hx=>aEh (hex x hx)
 have T1:tb.has=true→bB 4 (gK tb) (fun l=>112::dW l)=bB 4 [tb] (fun l=>112::dW l):=fun h=>by unfold gK;rw[h];rfl
 have T0:tb.has=false→bB 4 (gK tb) (fun l=>112::dW l)=[]:=fun h=>by unfold gK;rw[h];rfl
 have E1:me.has=true→bB 5 (gK me) dW=bB 5 [me] dW:=fun h=>by unfold gK;rw[h];rfl
 have E0:me.has=false→bB 5 (gK me) dW=[]:=fun h=>by unfold gK;rw[h];rfl
 have L4:(bB 4 (gK tb) (fun l=>112::dW l)).length≤1020:=by
  cases hh:tb.has with
  |false=>rw[T0 hh];decide
  |true=>rw[T1 hh];exact(kY 4 (l:=[tb]) (fun l=>112::dW l) 10 (by simp) (by decide) (fun x hx=>by obtain rfl:=List.mem_singleton.1 hx;have:=wG (htb hh);simp;omega)).1
 have L5:(bB 5 (gK me) dW).length≤1020:=by
  cases hh:me.has with
  |false=>rw[E0 hh];decide
  |true=>rw[E1 hh];exact(kY 5 (l:=[me]) dW 10 (by simp) (by decide) (fun x hx=>by obtain rfl:=List.mem_singleton.1 hx;have:=wG (hme hh);omega)).1
 have hH:headB.length=8:=rfl;have hW:eL ⟨ty,im,fn,tb,me,gl,ex,el,co,da⟩=headB++bB 1 ty vE++bB 2 im iQ++bB 3 fn cC++bB 4 (gK tb) (fun l=>112::dW l)++bB 5 (gK me) dW++bB 6 gl uH++bB 7 ex nC++vR ⟨ty,im,fn,tb,me,gl,ex,el,co,da⟩:=by
  unfold eL vR;simp only[List.append_assoc]
 rw[hW];generalize vR ⟨ty,im,fn,tb,me,gl,ex,el,co,da⟩=SL at hlate hll⊢;refine bS 193 [0,1,2,3,4,5,6,7,8,9,10,11,12,18,51,85,105,116,127,136,160] Tryz.func64 ?_;unfold aZ;dsimp only;refine cZ ?_;refine gQ fun r1 h1=> ?_;intros
 refine iX ?_;refine eC fun r13 h13=> ?_;intros
 refine cM ?_;rw[show([[.int .u8 0],[.int .u8 97],[.int .u8 115],[.int .u8 109],[.int .u8 1],[.int .u8 0],[.int .u8 0],[.int .u8 0]]:List (List AV))=headB.map aG from rfl,show AV.own r13 0 8=AV.own r13 0 headB.length from rfl];refine jV ?_;refine bP 4 5 1 (by decide) rfl (by decide) (bN fun q4 hq4=> ?_);repeat rcases hq4 with⟨_,hq4⟩
 refine jV ?_;refine lp (β:=Nat×Nat) (fun b=>⟨[(1,.ptr r1 0),(3,.own r13 0 (headB).length),(4,.own b.1 0 (dX vE ty b.2).length),(5,.int .i64 b.2)],[(b.1,.arr 5 1 ((dX vE ty b.2).map aG)),(r13,.arr 5 1 ((headB).map aG)),(r1,.box 33 (aZ ⟨ty,im,fn,tb,me,gl,ex,el,co,da⟩))]⟩) (fun b=>b.2≤ty.length∧Nq b.1 r1∧Nq b.1 r13) (fun b=>ty.length-b.2) (q4,0) aJ ⟨Nat.zero_le _,by show Nq q4 r1;(exact cA),by show Nq q4 r13;(exact cA)⟩ ?_;rintro⟨q1,j⟩ ⟨hj,hqa,hqb⟩;have hpl:=Pty j;dsimp only at hj hqa hqb⊢;unfold aZ;dsimp only;refine nT ?_;refine aB rfl (fun g4=> ?_) (fun g4=> ?_)
 ·have hlt:j<ty.length:=by simp at g4;omega
  obtain⟨⟨pr,rs⟩,hx⟩:∃x,ty[j]? =some x:=⟨_,List.getElem?_eq_getElem hlt⟩
  obtain⟨hp1,hp2⟩:=hty _ (List.mem_of_getElem? hx);dsimp only at hp1 hp2;have hv1:=jY (pt:=kB) (l:=pr) (c:=1) (fun x _=>Nat.le_of_eq (nX x)) hp1;have hv2:=jY (pt:=kB) (l:=rs) (c:=1) (fun x _=>Nat.le_of_eq (nX x)) hp2;have hnx:=lR (pt:=vE) hx;refine aI ?_;refine fJ [(0,true),(3,true),(4,true),(5,true),(6,true),(7,true),(8,true),(11,true),(12,true),(13,true),(14,true),(15,true),(16,true),(1,false),(2,false),(9,false),(10,false),(17,false),(18,false),(19,true)] ?_;refine fP rfl (aF (E rfl)) rfl ?_;refine mS ?_;refine mS ?_;refine HL fun r22 h22=> ?_;intros
  refine eZ rfl ((dX vE ty j++ [96]).map aG) (dX vE ty j++ [96]).length ?_;refine bE fun r23 h23=> ?_;intros
  refine nB rfl Tryz.call157 (QB pr hp1) rfl bM kA ?_;rintro _ σ' ⟨q30,rfl,rfl⟩ h30
  replace h30:=cB h30;repeat rcases h30 with⟨_,h30⟩
  apply bQ;exact bD;refine eZ rfl ((dX vE ty j++ [96]++aY pr kB).map aG) (dX vE ty j++ [96]++aY pr kB).length ?_;refine bE fun r31 h31=> ?_;intros
  refine nB rfl Tryz.call157 (QB rs hp2) rfl bM kA ?_;rintro _ σ' ⟨q38,rfl,rfl⟩ h38
  replace h38:=cB h38;repeat rcases h38 with⟨_,h38⟩
  apply bQ;exact bD;refine eZ rfl ((dX vE ty j++ [96]++aY pr kB++aY rs kB).map aG) (dX vE ty j++ [96]++aY pr kB++aY rs kB).length ?_;refine bE fun r39 h39=> ?_;intros
  refine oX ?_;refine⟨(r39,j+1),⟨hlt,by show Nq r39 r1;(exact cA),by show Nq r39 r13;(exact cA)⟩,by show ty.length-(j+1)<ty.length-j;omega, ?_⟩;dsimp only;rw[hnx];rw[show dX vE ty j++vE ⟨pr,rs⟩=dX vE ty j++ [96]++aY pr kB++aY rs kB by unfold vE;simp];exact aJ
 obtain rfl:j=ty.length:=by simp at g4;omega
 refine oI ?_;refine oQ ?_;refine qN Tryz.call158 (iM 1 (by decide) ty vE (by omega) (by have:=Pty ty.length;omega)) rfl bM kA ?_;rintro _ σ' ⟨q45,rfl,rfl⟩ h45
 replace h45:=cB h45;repeat rcases h45 with⟨_,h45⟩
 apply aU;exact bD;refine jQ ((headB++bB 1 ty vE).map aG) (headB++bB 1 ty vE).length ?_;refine bE fun r46 h46=> ?_;intros
 refine cM ?_;generalize bB 1 ty vE=S1 at L1⊢;refine jV ?_;refine bP 4 5 1 (by decide) rfl (by decide) (bN fun q5 hq5=> ?_);repeat rcases hq5 with⟨_,hq5⟩
 refine jV ?_;refine lp (β:=Nat×Nat) (fun b=>⟨[(1,.ptr r1 0),(3,.own r46 0 (headB++S1).length),(4,.own b.1 0 (dX iQ im b.2).length),(6,.int .i64 b.2)],[(b.1,.arr 5 1 ((dX iQ im b.2).map aG)),(r46,.arr 5 1 ((headB++S1).map aG)),(r1,.box 33 (aZ ⟨ty,im,fn,tb,me,gl,ex,el,co,da⟩))]⟩) (fun b=>b.2≤im.length∧Nq b.1 r1∧Nq b.1 r46) (fun b=>im.length-b.2) (q5,0) aJ ⟨Nat.zero_le _,by show Nq q5 r1;(exact cA),by show Nq q5 r46;(exact cA)⟩ ?_;rintro⟨q1,j⟩ ⟨hj,hqa,hqb⟩;have hpl:=Pim j;dsimp only at hj hqa hqb⊢;unfold aZ;dsimp only;refine nT ?_;refine aB rfl (fun g10=> ?_) (fun g10=> ?_)
 ·have hlt:j<im.length:=by simp at g10;omega
  obtain⟨⟨md,nm,tt⟩,hx⟩:∃x,im[j]? =some x:=⟨_,List.getElem?_eq_getElem hlt⟩
  obtain⟨hm1,hm2,hm3⟩:=him _ (List.mem_of_getElem? hx);dsimp only at hm1 hm2 hm3;have ht1:=AX hm1;have ht2:=AX hm2;have ht3:=sZ hm3;have hnx:=lR (pt:=iQ) hx;refine fT ?_;refine oG ?_;refine iO fun r7 h7=> ?_;intros
  refine gT ?_;refine fJ [(0,true),(1,true),(2,true),(5,true),(6,true),(11,true),(12,true),(16,false),(16,false),(16,false),(16,false),(16,false),(16,false),(16,false),(16,false),(16,false)] ?_;refine CG ?_;refine iC ?_;refine iC ?_;refine kJ 3 9 [(16,false),(16,false),(16,false),(16,false),(16,false),(16,false),(16,false),(16,false)] [(3,false),(4,false),(7,false),(8,false),(10,false),(13,false),(14,false),(15,true)] (f1:=[]) (f2:=[]) (by kernel_rfl) rfl rfl ?_ ?_ (.inl rfl) (.inl rfl)
  ·refine mV Tryz.call159 (qR md (by have:=hm1.1;omega) hm1.2) (cI rfl) ?_;rintro _ σ' ⟨q62,rfl,rfl⟩ h62
   replace h62:=cB h62;repeat rcases h62 with⟨_,h62⟩
   apply bQ;exact bD;refine kJ 4 9 [(16,false),(16,false),(16,false),(16,false),(16,false),(16,false),(16,false)] [(4,false),(7,false),(8,false),(10,false),(13,false),(14,false),(15,true)] (f1:=[q1]) (f2:=[]) (by kernel_rfl) rfl rfl ?_ ?_ (.inr ⟨by simp,eM⟩) (.inl rfl)
   ·refine aGI ((dX iQ im j++bI md).map aG) (dX iQ im j++bI md).length ?_;refine bE fun r63 h63=> ?_;intros
    refine kJ 7 9 [(16,false),(16,false),(16,false),(16,false),(16,false),(16,false)] [(7,false),(8,false),(10,false),(13,false),(14,false),(15,true)] (f1:=[]) (f2:=[]) (by kernel_rfl) rfl rfl ?_ ?_ (.inl rfl) (.inl rfl)
    ·refine mV Tryz.call159 (qR nm (by have:=hm2.1;omega) hm2.2) (cI rfl) ?_;rintro _ σ' ⟨q66,rfl,rfl⟩ h66
     replace h66:=cB h66;repeat rcases h66 with⟨_,h66⟩
     apply bQ;exact bD;refine kJ 8 9 [(9,false),(10,false),(13,false),(14,false),(15,true)] [(8,false),(10,false),(13,false),(14,false),(15,true)] (f1:=[r63]) (f2:=[]) (by kernel_rfl) rfl rfl ?_ ?_ (.inr ⟨by simp,eM⟩) (.inl rfl)
     ·refine aGI ((dX iQ im j++bI md++bI nm).map aG) (dX iQ im j++bI md++bI nm).length ?_;refine bE fun r67 h67=> ?_;intros
      refine HL fun r68 h68=> ?_;intros
      refine eZ rfl ((dX iQ im j++bI md++bI nm++ [0]).map aG) (dX iQ im j++bI md++bI nm++ [0]).length ?_;refine bE fun r69 h69=> ?_;intros
      refine nB rfl Tryz.call160 (vP tt hm3.1 (by have:=hm3.2;omega)) rfl bM kA ?_;rintro _ σ' ⟨q72,rfl,rfl⟩ h72
      replace h72:=cB h72;repeat rcases h72 with⟨_,h72⟩
      apply bQ;exact bD;refine eZ rfl ((dX iQ im j++bI md++bI nm++ [0]++cC tt).map aG) (dX iQ im j++bI md++bI nm++ [0]++cC tt).length ?_;refine bE fun r73 h73=> ?_;intros
      refine oX ?_;refine⟨(r73,j+1),⟨hlt,by show Nq r73 r1;(exact cA),by show Nq r73 r46;(exact cA)⟩,by show im.length-(j+1)<im.length-j;omega, ?_⟩;dsimp only;rw[hnx];rw[show dX iQ im j++iQ ⟨md,nm,tt⟩=dX iQ im j++bI md++bI nm++ [0]++cC tt by unfold iQ;simp];exact aJ
     ·apply xI;infer_instance;infer_instance;exact rF;rfl;rfl;rfl;rfl;exact yR;rfl;refine bN fun r68 h68=> ?_;repeat rcases h68 with⟨_,h68⟩
      refine eZ rfl ((dX iQ im j++bI md++bI nm).map aG) (dX iQ im j++bI md++bI nm).length ?_;refine bE fun r67 h67=> ?_;intros
      refine eZ rfl ((dX iQ im j++bI md++bI nm++ [0]).map aG) (dX iQ im j++bI md++bI nm++ [0]).length ?_;refine bE fun r69 h69=> ?_;intros
      refine nB rfl Tryz.call160 (vP tt hm3.1 (by have:=hm3.2;omega)) rfl bM kA ?_;rintro _ σ' ⟨q72,rfl,rfl⟩ h72
      replace h72:=cB h72;repeat rcases h72 with⟨_,h72⟩
      apply bQ;exact bD;refine eZ rfl ((dX iQ im j++bI md++bI nm++ [0]++cC tt).map aG) (dX iQ im j++bI md++bI nm++ [0]++cC tt).length ?_;refine bE fun r73 h73=> ?_;intros
      refine oX ?_;refine⟨(r73,j+1),⟨hlt,by show Nq r73 r1;(exact cA),by show Nq r73 r46;(exact cA)⟩,by show im.length-(j+1)<im.length-j;omega, ?_⟩;dsimp only;rw[hnx];rw[show dX iQ im j++iQ ⟨md,nm,tt⟩=dX iQ im j++bI md++bI nm++ [0]++cC tt by unfold iQ;simp];exact aJ
    ·apply xI;infer_instance;infer_instance;exact rF;rfl;rfl;rfl;rfl;exact yR;rfl;refine bN fun r68 h68=> ?_;repeat rcases h68 with⟨_,h68⟩
     refine nB rfl Tryz.call159 (qR nm (by have:=hm2.1;omega) hm2.2) rfl bM kA ?_;rintro _ σ' ⟨q66,rfl,rfl⟩ h66
     replace h66:=cB h66;repeat rcases h66 with⟨_,h66⟩
     apply bQ;exact bD;refine eZ rfl ((dX iQ im j++bI md++bI nm).map aG) (dX iQ im j++bI md++bI nm).length ?_;refine bE fun r67 h67=> ?_;intros
     refine eZ rfl ((dX iQ im j++bI md++bI nm++ [0]).map aG) (dX iQ im j++bI md++bI nm++ [0]).length ?_;refine bE fun r69 h69=> ?_;intros
     refine nB rfl Tryz.call160 (vP tt hm3.1 (by have:=hm3.2;omega)) rfl bM kA ?_;rintro _ σ' ⟨q72,rfl,rfl⟩ h72
     replace h72:=cB h72;repeat rcases h72 with⟨_,h72⟩
     apply bQ;exact bD;refine eZ rfl ((dX iQ im j++bI md++bI nm++ [0]++cC tt).map aG) (dX iQ im j++bI md++bI nm++ [0]++cC tt).length ?_;refine bE fun r73 h73=> ?_;intros
     refine oX ?_;refine⟨(r73,j+1),⟨hlt,by show Nq r73 r1;(exact cA),by show Nq r73 r46;(exact cA)⟩,by show im.length-(j+1)<im.length-j;omega, ?_⟩;dsimp only;rw[hnx];rw[show dX iQ im j++iQ ⟨md,nm,tt⟩=dX iQ im j++bI md++bI nm++ [0]++cC tt by unfold iQ;simp];exact aJ
   ·apply xI;infer_instance;infer_instance;exact rF;rfl;rfl;rfl;rfl;exact yR;rfl;refine bN fun r68 h68=> ?_;repeat rcases h68 with⟨_,h68⟩
    refine eZ rfl ((dX iQ im j++bI md).map aG) (dX iQ im j++bI md).length ?_;refine bE fun r63 h63=> ?_;intros
    refine nB rfl Tryz.call159 (qR nm (by have:=hm2.1;omega) hm2.2) rfl bM kA ?_;rintro _ σ' ⟨q66,rfl,rfl⟩ h66
    replace h66:=cB h66;repeat rcases h66 with⟨_,h66⟩
    apply bQ;exact bD;refine eZ rfl ((dX iQ im j++bI md++bI nm).map aG) (dX iQ im j++bI md++bI nm).length ?_;refine bE fun r67 h67=> ?_;intros
    refine eZ rfl ((dX iQ im j++bI md++bI nm++ [0]).map aG) (dX iQ im j++bI md++bI nm++ [0]).length ?_;refine bE fun r69 h69=> ?_;intros
    refine nB rfl Tryz.call160 (vP tt hm3.1 (by have:=hm3.2;omega)) rfl bM kA ?_;rintro _ σ' ⟨q72,rfl,rfl⟩ h72
    replace h72:=cB h72;repeat rcases h72 with⟨_,h72⟩
    apply bQ;exact bD;refine eZ rfl ((dX iQ im j++bI md++bI nm++ [0]++cC tt).map aG) (dX iQ im j++bI md++bI nm++ [0]++cC tt).length ?_;refine bE fun r73 h73=> ?_;intros
    refine oX ?_;refine⟨(r73,j+1),⟨hlt,by show Nq r73 r1;(exact cA),by show Nq r73 r46;(exact cA)⟩,by show im.length-(j+1)<im.length-j;omega, ?_⟩;dsimp only;rw[hnx];rw[show dX iQ im j++iQ ⟨md,nm,tt⟩=dX iQ im j++bI md++bI nm++ [0]++cC tt by unfold iQ;simp];exact aJ
  ·apply xI;infer_instance;infer_instance;exact rF;rfl;rfl;rfl;rfl;exact yR;rfl;refine bN fun r68 h68=> ?_;repeat rcases h68 with⟨_,h68⟩
   refine nB rfl Tryz.call159 (qR md (by have:=hm1.1;omega) hm1.2) rfl bM kA ?_;rintro _ σ' ⟨q62,rfl,rfl⟩ h62
   replace h62:=cB h62;repeat rcases h62 with⟨_,h62⟩
   apply bQ;exact bD;refine eZ rfl ((dX iQ im j++bI md).map aG) (dX iQ im j++bI md).length ?_;refine bE fun r63 h63=> ?_;intros
   refine nB rfl Tryz.call159 (qR nm (by have:=hm2.1;omega) hm2.2) rfl bM kA ?_;rintro _ σ' ⟨q66,rfl,rfl⟩ h66
   replace h66:=cB h66;repeat rcases h66 with⟨_,h66⟩
   apply bQ;exact bD;refine eZ rfl ((dX iQ im j++bI md++bI nm).map aG) (dX iQ im j++bI md++bI nm).length ?_;refine bE fun r67 h67=> ?_;intros
   refine eZ rfl ((dX iQ im j++bI md++bI nm++ [0]).map aG) (dX iQ im j++bI md++bI nm++ [0]).length ?_;refine bE fun r69 h69=> ?_;intros
   refine nB rfl Tryz.call160 (vP tt hm3.1 (by have:=hm3.2;omega)) rfl bM kA ?_;rintro _ σ' ⟨q72,rfl,rfl⟩ h72
   replace h72:=cB h72;repeat rcases h72 with⟨_,h72⟩
   apply bQ;exact bD;refine eZ rfl ((dX iQ im j++bI md++bI nm++ [0]++cC tt).map aG) (dX iQ im j++bI md++bI nm++ [0]++cC tt).length ?_;refine bE fun r73 h73=> ?_;intros
   refine oX ?_;refine⟨(r73,j+1),⟨hlt,by show Nq r73 r1;(exact cA),by show Nq r73 r46;(exact cA)⟩,by show im.length-(j+1)<im.length-j;omega, ?_⟩;dsimp only;rw[hnx];rw[show dX iQ im j++iQ ⟨md,nm,tt⟩=dX iQ im j++bI md++bI nm++ [0]++cC tt by unfold iQ;simp];exact aJ
 obtain rfl:j=im.length:=by simp at g10;omega
 refine oI ?_;refine oQ ?_;refine qN Tryz.call158 (iM 2 (by decide) im iQ (by omega) (by have:=Pim im.length;omega)) rfl bM kA ?_;rintro _ σ' ⟨q79,rfl,rfl⟩ h79
 replace h79:=cB h79;repeat rcases h79 with⟨_,h79⟩
 apply aU;exact bD;refine jQ ((headB++S1++bB 2 im iQ).map aG) (headB++S1++bB 2 im iQ).length ?_;refine bE fun r80 h80=> ?_;intros
 refine cM ?_;generalize bB 2 im iQ=S2 at L2⊢;refine jV ?_;refine bP 4 5 1 (by decide) rfl (by decide) (bN fun q6 hq6=> ?_);repeat rcases hq6 with⟨_,hq6⟩
 refine jV ?_;refine lp (β:=Nat×Nat) (fun b=>⟨[(1,.ptr r1 0),(3,.own r80 0 (headB++S1++S2).length),(4,.own b.1 0 (dX cC fn b.2).length),(8,.int .i64 b.2)],[(b.1,.arr 5 1 ((dX cC fn b.2).map aG)),(r80,.arr 5 1 ((headB++S1++S2).map aG)),(r1,.box 33 (aZ ⟨ty,im,fn,tb,me,gl,ex,el,co,da⟩))]⟩) (fun b=>b.2≤fn.length∧Nq b.1 r1∧Nq b.1 r80) (fun b=>fn.length-b.2) (q6,0) aJ ⟨Nat.zero_le _,by show Nq q6 r1;(exact cA),by show Nq q6 r80;(exact cA)⟩ ?_;rintro⟨q1,j⟩ ⟨hj,hqa,hqb⟩;have hpl:=Pfn j;dsimp only at hj hqa hqb⊢;unfold aZ;dsimp only;refine nT ?_;refine aB rfl (fun g17=> ?_) (fun g17=> ?_)
 ·have hlt:j<fn.length:=by simp at g17;omega
  obtain⟨k,hx⟩:∃x,fn[j]? =some x:=⟨_,List.getElem?_eq_getElem hlt⟩
  have hk:=hfn _ (List.mem_of_getElem? hx);have ht3:=sZ hk;have hnx:=lR (pt:=cC) hx;refine oI ?_;refine pA ?_;refine qN Tryz.call160 (vP k hk.1 (by have:=hk.2;omega)) rfl bM kA ?_;rintro _ σ' ⟨q94,rfl,rfl⟩ h94
  replace h94:=cB h94;repeat rcases h94 with⟨_,h94⟩
  apply aU;exact bD;refine jQ ((dX cC fn j++cC k).map aG) (dX cC fn j++cC k).length ?_;refine bE fun r95 h95=> ?_;intros
  refine gZ ?_;refine DS ?_;refine⟨(r95,j+1),⟨hlt,by show Nq r95 r1;(exact cA),by show Nq r95 r80;(exact cA)⟩,by show fn.length-(j+1)<fn.length-j;omega, ?_⟩;dsimp only;rw[hnx];exact aJ
 obtain rfl:j=fn.length:=by simp at g17;omega
 refine oI ?_;refine oQ ?_;refine qN Tryz.call158 (iM 3 (by decide) fn cC (by omega) (by have:=Pfn fn.length;omega)) rfl bM kA ?_;rintro _ σ' ⟨q101,rfl,rfl⟩ h101
 replace h101:=cB h101;repeat rcases h101 with⟨_,h101⟩
 apply aU;exact bD;refine jQ ((headB++S1++S2++bB 3 fn cC).map aG) (headB++S1++S2++bB 3 fn cC).length ?_;refine bE fun r102 h102=> ?_;intros
 refine cM ?_;generalize bB 3 fn cC=S3 at L3⊢;obtain⟨th,tn,tx⟩:=tb;obtain⟨eh,en,ex2⟩:=me;refine mJ ?_;refine qA ?_;refine iI ?_;refine sja (β:=Nat) (fun q=>⟨[(1,.ptr r1 0),(3,.own q 0 (headB++S1++S2++S3++bB 4 (gK ⟨th,tn,tx⟩) (fun l=>112::dW l)).length)],[(q,.arr 5 1 ((headB++S1++S2++S3++bB 4 (gK ⟨th,tn,tx⟩) (fun l=>112::dW l)).map aG)),(r1,.box 33 (aZ ⟨ty,im,fn,⟨th,tn,tx⟩,⟨eh,en,ex2⟩,gl,ex,el,co,da⟩))]⟩) (fun q=>Nq q r1) ?_ ?_
 ·refine aB rfl (fun g21=> ?_) (fun g21=> ?_)
  ·have htb1:=htb g21;have hll1:=wG htb1;rw[T1 g21];have hpj:dX (fun l=>112::dW l) [(⟨th,tn,tx⟩:Li)] [(⟨th,tn,tx⟩:Li)].length=[112]++dW ⟨th,tn,tx⟩:=by simp[dX]
   have hsc:=iM 4 (by decide) [(⟨th,tn,tx⟩:Li)] (fun l=>112::dW l) (by simp) (by rw[hpj];simp;omega);rw[hpj]at hsc;rw[T1 g21]at L4;refine cX ?_;refine eC fun r107 h107=> ?_;intros
   refine yK ?_;refine kP ?_;refine qN Tryz.call161 (JQ ⟨th,tn,tx⟩ htb1) rfl bM kA ?_;rintro _ σ' ⟨q110,rfl,rfl⟩ h110
   replace h110:=cB h110;repeat rcases h110 with⟨_,h110⟩
   apply aU;exact bD;refine jQ (([112]++dW ⟨th,tn,tx⟩).map aG) ([112]++dW ⟨th,tn,tx⟩).length ?_;refine bE fun r111 h111=> ?_;intros
   refine qN Tryz.call158 hsc rfl bM kA ?_;rintro _ σ' ⟨q112,rfl,rfl⟩ h112
   replace h112:=cB h112;repeat rcases h112 with⟨_,h112⟩
   apply aU;exact bD;refine jQ ((headB++S1++S2++S3++bB 4 [⟨th,tn,tx⟩] (fun l=>112::dW l)).map aG) (headB++S1++S2++S3++bB 4 [⟨th,tn,tx⟩] (fun l=>112::dW l)).length ?_;refine bE fun r113 h113=> ?_;intros
   refine cM ?_;exact⟨r113,(by(exact cA)),aJ⟩
  rw[T0 g21,List.append_nil];refine aI ?_;exact⟨r102,(by(exact cA)),aJ⟩
 rintro q4 hq4;generalize bB 4 (gK ⟨th,tn,tx⟩) (fun l=>112::dW l)=S4 at L4⊢;unfold aZ;dsimp only;refine cZ ?_;refine qA ?_;refine iI ?_;refine sja (β:=Nat) (fun q=>⟨[(1,.ptr r1 0),(3,.own q 0 (headB++S1++S2++S3++S4++bB 5 (gK ⟨eh,en,ex2⟩) dW).length)],[(q,.arr 5 1 ((headB++S1++S2++S3++S4++bB 5 (gK ⟨eh,en,ex2⟩) dW).map aG)),(r1,.box 33 (aZ ⟨ty,im,fn,⟨th,tn,tx⟩,⟨eh,en,ex2⟩,gl,ex,el,co,da⟩))]⟩) (fun q=>Nq q r1) ?_ ?_
 ·refine aB rfl (fun g23=> ?_) (fun g23=> ?_)
  ·have hme1:=hme g23;have hll2:=wG hme1;rw[E1 g23];have hpj:dX dW [(⟨eh,en,ex2⟩:Li)] [(⟨eh,en,ex2⟩:Li)].length=dW ⟨eh,en,ex2⟩:=by simp[dX]
   have hsc:=iM 5 (by decide) [(⟨eh,en,ex2⟩:Li)] dW (by simp) (by rw[hpj];omega);rw[hpj]at hsc;rw[E1 g23]at L5;refine cX ?_;refine yK ?_;refine kP ?_;refine qN Tryz.call161 (JQ ⟨eh,en,ex2⟩ hme1) rfl bM kA ?_;rintro _ σ' ⟨q120,rfl,rfl⟩ h120
   replace h120:=cB h120;repeat rcases h120 with⟨_,h120⟩
   apply aU;exact bD;refine qN Tryz.call158 hsc rfl bM kA ?_;rintro _ σ' ⟨q121,rfl,rfl⟩ h121
   replace h121:=cB h121;repeat rcases h121 with⟨_,h121⟩
   apply aU;exact bD;refine jQ ((headB++S1++S2++S3++S4++bB 5 [⟨eh,en,ex2⟩] dW).map aG) (headB++S1++S2++S3++S4++bB 5 [⟨eh,en,ex2⟩] dW).length ?_;refine bE fun r122 h122=> ?_;intros
   refine cM ?_;exact⟨r122,(by(exact cA)),aJ⟩
  rw[E0 g23,List.append_nil];refine aI ?_;exact⟨q4,(by(exact cA)),aJ⟩
 rintro q7 hq7;generalize bB 5 (gK ⟨eh,en,ex2⟩) dW=S5 at L5⊢;unfold aZ;dsimp only;refine bF ?_;refine bP 4 5 1 (by decide) rfl (by decide) (bN fun q8 hq8=> ?_);repeat rcases hq8 with⟨_,hq8⟩
 refine jV ?_;refine lp (β:=Nat×Nat) (fun b=>⟨[(1,.ptr r1 0),(3,.own q7 0 (headB++S1++S2++S3++S4++S5).length),(4,.own b.1 0 (dX uH gl b.2).length),(9,.int .i64 b.2)],[(b.1,.arr 5 1 ((dX uH gl b.2).map aG)),(q7,.arr 5 1 ((headB++S1++S2++S3++S4++S5).map aG)),(r1,.box 33 (aZ ⟨ty,im,fn,⟨th,tn,tx⟩,⟨eh,en,ex2⟩,gl,ex,el,co,da⟩))]⟩) (fun b=>b.2≤gl.length∧Nq b.1 r1∧Nq b.1 q7) (fun b=>gl.length-b.2) (q8,0) aJ ⟨Nat.zero_le _,by show Nq q8 r1;(exact cA),by show Nq q8 q7;(exact cA)⟩ ?_;rintro⟨q1,j⟩ ⟨hj,hqa,hqb⟩;have hpl:=Pgl j;dsimp only at hj hqa hqb⊢;unfold aZ;dsimp only;refine nT ?_;refine aB rfl (fun g27=> ?_) (fun g27=> ?_)
 ·have hlt:j<gl.length:=by simp at g27;omega
  obtain⟨⟨mu,k,n⟩,hx⟩:∃x,gl[j]? =some x:=⟨_,List.getElem?_eq_getElem hlt⟩
  obtain⟨hv,hn⟩:=hgl _ (List.mem_of_getElem? hx);dsimp only at hv hn;have hcl:=wC hv hn;have hnx:=lR (pt:=uH) hx;refine fT ?_;refine oG ?_;refine iO fun r10 h10=> ?_;intros
  refine lU ?_;refine qK ?_;refine fO ?_;refine iI ?_;refine aB rfl (fun g31=> ?_) (fun g31=> ?_)
  ·obtain rfl:mu=true:=g31;obtain⟨z,hz,hzc⟩:∃z:Nat,(if true=true then 1 else 0)=z∧cV (.int .u8 1)=AV.int .u8 ((z:Nat):Int):=⟨1,rfl,rfl⟩
   refine bF ?_;rw[hzc];refine fJ [(0,true),(1,true),(2,true),(3,true),(5,true),(8,true),(9,true),(4,false),(6,false),(7,false),(10,false),(11,false),(12,true)] ?_;refine fP rfl (aF (E rfl)) rfl ?_;refine RJ ?_;refine HG ?_;refine RJ ?_;refine IQ ?_;refine aDi rfl Tryz.call162 (DA k) rfl aP aS ?_;refine HL fun r143 h143=> ?_;intros
   refine eZ rfl ((dX uH gl j++ [if(k==1)=true then 127 else 126,z]).map aG) (dX uH gl j++ [if(k==1)=true then 127 else 126,z]).length ?_;refine bE fun r144 h144=> ?_;intros
   refine nB rfl Tryz.call163 (qS k n hv hn) rfl bM kA ?_;rintro _ σ' ⟨q147,rfl,rfl⟩ h147
   replace h147:=cB h147;repeat rcases h147 with⟨_,h147⟩
   apply bQ;exact bD;refine eZ rfl ((dX uH gl j++ [if(k==1)=true then 127 else 126,z]++mA k n).map aG) (dX uH gl j++ [if(k==1)=true then 127 else 126,z]++mA k n).length ?_;refine bE fun r148 h148=> ?_;intros
   refine oX ?_;refine⟨(r148,j+1),⟨hlt,by show Nq r148 r1;(exact cA),by show Nq r148 q7;(exact cA)⟩,by show gl.length-(j+1)<gl.length-j;omega, ?_⟩;dsimp only;rw[hnx];rw[VV hz];exact aJ
  obtain rfl:mu=false:=g31;obtain⟨z,hz,hzc⟩:∃z:Nat,(if false=true then 1 else 0)=z∧cV (.int .u8 0)=AV.int .u8 ((z:Nat):Int):=⟨0,rfl,rfl⟩
  refine aI ?_;rw[hzc];refine fJ [(0,true),(1,true),(2,true),(3,true),(5,true),(8,true),(9,true),(4,false),(6,false),(7,false),(10,false),(11,false),(12,true)] ?_;refine fP rfl (aF (E rfl)) rfl ?_;refine RJ ?_;refine HG ?_;refine RJ ?_;refine IQ ?_;refine aDi rfl Tryz.call162 (DA k) rfl aP aS ?_;refine z97 ?_;refine bN fun r143 h143=> ?_;repeat rcases h143 with⟨_,h143⟩
  refine eZ rfl ((dX uH gl j++ [if(k==1)=true then 127 else 126,z]).map aG) (dX uH gl j++ [if(k==1)=true then 127 else 126,z]).length ?_;refine bE fun r144 h144=> ?_;intros
  refine nB rfl Tryz.call163 (qS k n hv hn) rfl bM kA ?_;rintro _ σ' ⟨q147,rfl,rfl⟩ h147
  replace h147:=cB h147;repeat rcases h147 with⟨_,h147⟩
  apply bQ;exact bD;refine eZ rfl ((dX uH gl j++ [if(k==1)=true then 127 else 126,z]++mA k n).map aG) (dX uH gl j++ [if(k==1)=true then 127 else 126,z]++mA k n).length ?_;refine bE fun r148 h148=> ?_;intros
  refine oX ?_;refine⟨(r148,j+1),⟨hlt,by show Nq r148 r1;(exact cA),by show Nq r148 q7;(exact cA)⟩,by show gl.length-(j+1)<gl.length-j;omega, ?_⟩;dsimp only;rw[hnx];rw[VV hz];exact aJ
 obtain rfl:j=gl.length:=by simp at g27;omega
 refine oI ?_;refine oQ ?_;refine qN Tryz.call158 (iM 6 (by decide) gl uH (by omega) (by have:=Pgl gl.length;omega)) rfl bM kA ?_;rintro _ σ' ⟨q154,rfl,rfl⟩ h154
 replace h154:=cB h154;repeat rcases h154 with⟨_,h154⟩
 apply aU;exact bD;refine jQ ((headB++S1++S2++S3++S4++S5++bB 6 gl uH).map aG) (headB++S1++S2++S3++S4++S5++bB 6 gl uH).length ?_;refine bE fun r155 h155=> ?_;intros
 refine cM ?_;generalize bB 6 gl uH=S6 at L6⊢;refine jV ?_;refine bP 4 5 1 (by decide) rfl (by decide) (bN fun q9 hq9=> ?_);repeat rcases hq9 with⟨_,hq9⟩
 refine jV ?_;refine lp (β:=Nat×Nat) (fun b=>⟨[(1,.ptr r1 0),(3,.own r155 0 (headB++S1++S2++S3++S4++S5++S6).length),(4,.own b.1 0 (dX nC ex b.2).length),(12,.int .i64 b.2)],[(b.1,.arr 5 1 ((dX nC ex b.2).map aG)),(r155,.arr 5 1 ((headB++S1++S2++S3++S4++S5++S6).map aG)),(r1,.box 33 (aZ ⟨ty,im,fn,⟨th,tn,tx⟩,⟨eh,en,ex2⟩,gl,ex,el,co,da⟩))]⟩) (fun b=>b.2≤ex.length∧Nq b.1 r1∧Nq b.1 r155) (fun b=>ex.length-b.2) (q9,0) aJ ⟨Nat.zero_le _,by show Nq q9 r1;(exact cA),by show Nq q9 r155;(exact cA)⟩ ?_;rintro⟨q1,j⟩ ⟨hj,hqa,hqb⟩;have hpl:=Pex j;dsimp only at hj hqa hqb⊢;unfold aZ;dsimp only;refine nT ?_;refine aB rfl (fun g37=> ?_) (fun g37=> ?_)
 ·have hlt:j<ex.length:=by simp at g37;omega
  obtain⟨⟨nm,ff⟩,hx⟩:∃x,ex[j]? =some x:=⟨_,List.getElem?_eq_getElem hlt⟩
  obtain⟨hm1,hm2⟩:=hex _ (List.mem_of_getElem? hx);dsimp only at hm1 hm2;have ht1:=AX hm1;have ht2:=sZ hm2;have hnx:=lR (pt:=nC) hx;refine aI ?_;refine fJ [(0,true),(1,true),(2,true),(3,true),(4,true),(5,true),(6,true),(11,true),(12,true),(13,true),(14,true),(15,true),(16,true),(20,false),(20,false),(20,false),(20,false),(20,false),(20,false),(20,false)] ?_;refine fP rfl (aF (E rfl)) rfl ?_;refine mS ?_;refine mS ?_;refine kJ 7 9 [(20,false),(20,false),(20,false),(20,false),(20,false),(20,false)] [(7,false),(8,false),(10,false),(17,false),(18,false),(19,true)] (f1:=[]) (f2:=[]) (by kernel_rfl) rfl rfl ?_ ?_ (.inl rfl) (.inl rfl)
  ·refine mV Tryz.call159 (qR nm (by have:=hm1.1;omega) hm1.2) (cI rfl) ?_;rintro _ σ' ⟨q170,rfl,rfl⟩ h170
   replace h170:=cB h170;repeat rcases h170 with⟨_,h170⟩
   apply bQ;exact bD;refine kJ 8 9 [(9,false),(10,false),(17,false),(18,false),(19,true)] [(8,false),(10,false),(17,false),(18,false),(19,true)] (f1:=[q1]) (f2:=[]) (by kernel_rfl) rfl rfl ?_ ?_ (.inr ⟨by simp,eM⟩) (.inl rfl)
   ·refine aGI ((dX nC ex j++bI nm).map aG) (dX nC ex j++bI nm).length ?_;refine bE fun r171 h171=> ?_;intros
    refine HL fun r172 h172=> ?_;intros
    refine eZ rfl ((dX nC ex j++bI nm++ [0]).map aG) (dX nC ex j++bI nm++ [0]).length ?_;refine bE fun r173 h173=> ?_;intros
    refine nB rfl Tryz.call160 (vP ff hm2.1 (by have:=hm2.2;omega)) rfl bM kA ?_;rintro _ σ' ⟨q180,rfl,rfl⟩ h180
    replace h180:=cB h180;repeat rcases h180 with⟨_,h180⟩
    apply bQ;exact bD;refine eZ rfl ((dX nC ex j++bI nm++ [0]++cC ff).map aG) (dX nC ex j++bI nm++ [0]++cC ff).length ?_;refine bE fun r181 h181=> ?_;intros
    refine oX ?_;refine⟨(r181,j+1),⟨hlt,by show Nq r181 r1;(exact cA),by show Nq r181 r155;(exact cA)⟩,by show ex.length-(j+1)<ex.length-j;omega, ?_⟩;dsimp only;rw[hnx];rw[show dX nC ex j++nC ⟨nm,ff⟩=dX nC ex j++bI nm++ [0]++cC ff by unfold nC;simp];exact aJ
   ·apply xI;infer_instance;infer_instance;exact rF;rfl;rfl;rfl;rfl;exact yR;rfl;refine bN fun r172 h172=> ?_;repeat rcases h172 with⟨_,h172⟩
    refine eZ rfl ((dX nC ex j++bI nm).map aG) (dX nC ex j++bI nm).length ?_;refine bE fun r171 h171=> ?_;intros
    refine eZ rfl ((dX nC ex j++bI nm++ [0]).map aG) (dX nC ex j++bI nm++ [0]).length ?_;refine bE fun r173 h173=> ?_;intros
    refine nB rfl Tryz.call160 (vP ff hm2.1 (by have:=hm2.2;omega)) rfl bM kA ?_;rintro _ σ' ⟨q180,rfl,rfl⟩ h180
    replace h180:=cB h180;repeat rcases h180 with⟨_,h180⟩
    apply bQ;exact bD;refine eZ rfl ((dX nC ex j++bI nm++ [0]++cC ff).map aG) (dX nC ex j++bI nm++ [0]++cC ff).length ?_;refine bE fun r181 h181=> ?_;intros
    refine oX ?_;refine⟨(r181,j+1),⟨hlt,by show Nq r181 r1;(exact cA),by show Nq r181 r155;(exact cA)⟩,by show ex.length-(j+1)<ex.length-j;omega, ?_⟩;dsimp only;rw[hnx];rw[show dX nC ex j++nC ⟨nm,ff⟩=dX nC ex j++bI nm++ [0]++cC ff by unfold nC;simp];exact aJ
  ·apply xI;infer_instance;infer_instance;exact rF;rfl;rfl;rfl;rfl;exact yR;rfl;refine bN fun r172 h172=> ?_;repeat rcases h172 with⟨_,h172⟩
   refine nB rfl Tryz.call159 (qR nm (by have:=hm1.1;omega) hm1.2) rfl bM kA ?_;rintro _ σ' ⟨q170,rfl,rfl⟩ h170
   replace h170:=cB h170;repeat rcases h170 with⟨_,h170⟩
   apply bQ;exact bD;refine eZ rfl ((dX nC ex j++bI nm).map aG) (dX nC ex j++bI nm).length ?_;refine bE fun r171 h171=> ?_;intros
   refine eZ rfl ((dX nC ex j++bI nm++ [0]).map aG) (dX nC ex j++bI nm++ [0]).length ?_;refine bE fun r173 h173=> ?_;intros
   refine nB rfl Tryz.call160 (vP ff hm2.1 (by have:=hm2.2;omega)) rfl bM kA ?_;rintro _ σ' ⟨q180,rfl,rfl⟩ h180
   replace h180:=cB h180;repeat rcases h180 with⟨_,h180⟩
   apply bQ;exact bD;refine eZ rfl ((dX nC ex j++bI nm++ [0]++cC ff).map aG) (dX nC ex j++bI nm++ [0]++cC ff).length ?_;refine bE fun r181 h181=> ?_;intros
   refine oX ?_;refine⟨(r181,j+1),⟨hlt,by show Nq r181 r1;(exact cA),by show Nq r181 r155;(exact cA)⟩,by show ex.length-(j+1)<ex.length-j;omega, ?_⟩;dsimp only;rw[hnx];rw[show dX nC ex j++nC ⟨nm,ff⟩=dX nC ex j++bI nm++ [0]++cC ff by unfold nC;simp];exact aJ
 obtain rfl:j=ex.length:=by simp at g37;omega
 refine oI ?_;refine oQ ?_;refine qN Tryz.call158 (iM 7 (by decide) ex nC (by omega) (by have:=Pex ex.length;omega)) rfl bM kA ?_;rintro _ σ' ⟨q187,rfl,rfl⟩ h187
 replace h187:=cB h187;repeat rcases h187 with⟨_,h187⟩
 apply aU;exact bD;refine jQ ((headB++S1++S2++S3++S4++S5++S6++bB 7 ex nC).map aG) (headB++S1++S2++S3++S4++S5++S6++bB 7 ex nC).length ?_;refine bE fun r188 h188=> ?_;intros
 refine cM ?_;generalize bB 7 ex nC=S7 at L7⊢;refine fV ?_;refine kP ?_;refine qN Tryz.call164 hlate rfl bM kA ?_;rintro _ σ' ⟨q191,rfl,rfl⟩ h191
 replace h191:=cB h191;repeat rcases h191 with⟨_,h191⟩
 apply aU;exact bD;refine jQ ((headB++S1++S2++S3++S4++S5++S6++S7++SL).map aG) (headB++S1++S2++S3++S4++S5++S6++S7++SL).length ?_;refine bE fun r192 h192=> ?_;intros
 refine cM ?_;exact aD aE ⟨r192,by rfl,rfl⟩ aA
theorem aBF(m:Md)(h:m.G):SCall Tryz.prog 164 [.agg (aZ m)] [] (fun y σ=>∃q,y=.own q 0 (vR m).length∧σ=[(q,.arr 5 1 ((vR m).map aG))]):=by
 obtain⟨-,-,-,-,-,-,-,⟨nel,hel⟩,⟨nco,hco⟩,⟨nda,hda⟩⟩:=h;obtain⟨ty,im,fn,tb,me,gl,ex,el,co,da⟩:=m;dsimp only at nel hel nco hco nda hda;obtain⟨L1,Pel⟩:=kY 9 sE 5300 nel (by decide) fun x hx=>VQ (hel x hx)
 obtain⟨L2,Pco⟩:=kY 10 kC 70000 nco (by decide) fun x hx=>VT (hco x hx)
 obtain⟨L3,Pda⟩:=kY 11 tP 1300 nda (by decide) fun x hx=>VU (hda x hx)
 have hW:vR ⟨ty,im,fn,tb,me,gl,ex,el,co,da⟩=bB 9 el sE++bB 10 co kC++bB 11 da tP:=rfl;rw[hW];refine bS 119 [0,1,2,3,4,5,6,7,8,13,47,82] Tryz.func164 ?_;unfold aZ;dsimp only;refine cZ ?_;refine gQ fun r1 h1=> ?_;intros
 refine iX ?_;refine jF ?_;refine bP 3 5 1 (by decide) rfl (by decide) (bN fun q3 hq3=> ?_);repeat rcases hq3 with⟨_,hq3⟩
 refine bP 4 5 1 (by decide) rfl (by decide) (bN fun q4 hq4=> ?_);repeat rcases hq4 with⟨_,hq4⟩
 refine jV ?_;refine lp (β:=Nat×Nat) (fun b=>⟨[(1,.ptr r1 0),(3,.own q3 0 (([]:List Nat)).length),(4,.own b.1 0 (dX sE el b.2).length),(5,.int .i64 b.2)],[(b.1,.arr 5 1 ((dX sE el b.2).map aG)),(q3,.arr 5 1 ((([]:List Nat)).map aG)),(r1,.box 33 (aZ ⟨ty,im,fn,tb,me,gl,ex,el,co,da⟩))]⟩) (fun b=>b.2≤el.length∧Nq b.1 r1∧Nq b.1 q3) (fun b=>el.length-b.2) (q4,0) aJ ⟨Nat.zero_le _,by show Nq q4 r1;(exact cA),by show Nq q4 q3;(exact cA)⟩ ?_;rintro⟨q1,j⟩ ⟨hj,hqa,hqb⟩;have hpl:=Pel j;dsimp only at hj hqa hqb⊢;unfold aZ;dsimp only;refine nT ?_;refine aB rfl (fun g3=> ?_) (fun g3=> ?_)
 ·have hlt:j<el.length:=by simp at g3;omega
  obtain⟨⟨oo,fs⟩,hx⟩:∃x,el[j]? =some x:=⟨_,List.getElem?_eq_getElem hlt⟩
  obtain⟨ho,hf1,hf2⟩:=hel _ (List.mem_of_getElem? hx);dsimp only at ho hf1 hf2;have hr:-2147483648≤oo∧oo≤2147483647:=by(have h:=ho;unfold gI at h;simpa using h)
  have hv:mK 1 oo=true:=by unfold mK;simp;omega
  have hcl:=wC hv (by omega);have hvl:=jY (pt:=cC) (l:=fs) (c:=5) (fun n hn=>sZ (hf2 n hn)) hf1;have hnx:=lR (pt:=sE) hx;refine aI ?_;refine fJ [(0,true),(3,true),(4,true),(5,true),(6,true),(7,true),(8,true),(9,true),(12,true),(13,true),(14,true),(15,true),(16,true),(17,true),(1,false),(2,false),(10,false),(11,false),(18,false),(19,false),(20,true)] ?_;refine fP rfl (aF (E rfl)) rfl ?_;refine mS ?_;refine z94 ?_;refine mS ?_;refine HL fun r17 h17=> ?_;intros
  refine eZ rfl ((dX sE el j++ [0]).map aG) (dX sE el j++ [0]).length ?_;refine bE fun r18 h18=> ?_;intros
  refine nB rfl Tryz.call163 (qS 1 oo hv (by omega)) rfl bM kA ?_;rintro _ σ' ⟨q26,rfl,rfl⟩ h26
  replace h26:=cB h26;repeat rcases h26 with⟨_,h26⟩
  apply bQ;exact bD;refine eZ rfl ((dX sE el j++ [0]++mA 1 oo).map aG) (dX sE el j++ [0]++mA 1 oo).length ?_;refine bE fun r27 h27=> ?_;intros
  refine nB rfl Tryz.call254 (SQ fs hf1 (fun n hn=>⟨(hf2 n hn).1,by have:=(hf2 n hn).2;omega⟩)) rfl bM kA ?_;rintro _ σ' ⟨q34,rfl,rfl⟩ h34
  replace h34:=cB h34;repeat rcases h34 with⟨_,h34⟩
  apply bQ;exact bD;refine eZ rfl ((dX sE el j++ [0]++mA 1 oo++aY fs cC).map aG) (dX sE el j++ [0]++mA 1 oo++aY fs cC).length ?_;refine bE fun r35 h35=> ?_;intros
  refine oX ?_;refine⟨(r35,j+1),⟨hlt,by show Nq r35 r1;(exact cA),by show Nq r35 q3;(exact cA)⟩,by show el.length-(j+1)<el.length-j;omega, ?_⟩;dsimp only;rw[hnx];rw[show dX sE el j++sE ⟨oo,fs⟩=dX sE el j++ [0]++mA 1 oo++aY fs cC by unfold sE qB;simp];exact aJ
 obtain rfl:j=el.length:=by simp at g3;omega
 refine oI ?_;refine oQ ?_;refine qN Tryz.call158 (iM 9 (by decide) el sE (by omega) (by have:=Pel el.length;omega)) rfl bM kA ?_;rintro _ σ' ⟨q41,rfl,rfl⟩ h41
 replace h41:=cB h41;repeat rcases h41 with⟨_,h41⟩
 apply aU;exact bD;refine jQ ((bB 9 el sE).map aG) (bB 9 el sE).length ?_;refine bE fun r42 h42=> ?_;intros
 refine cM ?_;generalize bB 9 el sE=S1 at L1⊢;refine jV ?_;refine bP 4 5 1 (by decide) rfl (by decide) (bN fun q5 hq5=> ?_);repeat rcases hq5 with⟨_,hq5⟩
 refine jV ?_;refine lp (β:=Nat×Nat) (fun b=>⟨[(1,.ptr r1 0),(3,.own r42 0 (S1).length),(4,.own b.1 0 (dX kC co b.2).length),(6,.int .i64 b.2)],[(b.1,.arr 5 1 ((dX kC co b.2).map aG)),(r42,.arr 5 1 ((S1).map aG)),(r1,.box 33 (aZ ⟨ty,im,fn,tb,me,gl,ex,el,co,da⟩))]⟩) (fun b=>b.2≤co.length∧Nq b.1 r1∧Nq b.1 r42) (fun b=>co.length-b.2) (q5,0) aJ ⟨Nat.zero_le _,by show Nq q5 r1;(exact cA),by show Nq q5 r42;(exact cA)⟩ ?_;rintro⟨q1,j⟩ ⟨hj,hqa,hqb⟩;have hpl:=Pco j;dsimp only at hj hqa hqb⊢;unfold aZ;dsimp only;refine nT ?_;refine aB rfl (fun g9=> ?_) (fun g9=> ?_)
 ·have hlt:j<co.length:=by simp at g9;omega
  obtain⟨⟨ls,bd⟩,hx⟩:∃x,co[j]? =some x:=⟨_,List.getElem?_eq_getElem hlt⟩
  obtain⟨hc1,hc2,hc3⟩:=hco _ (List.mem_of_getElem? hx);dsimp only at hc1 hc2 hc3;have hlo:=VS hc1;have hpl2:=zG hc3;have hPl:(aY (bY ls) gW++iK bd).length≤66000:=by rw[List.length_append];omega
  have hcd:kC ⟨ls,bd⟩=uB (aY (bY ls) gW++iK bd).length++(aY (bY ls) gW++iK bd):=rfl;have hub:=bG 4 (aY (bY ls) gW++iK bd).length (by omega);have hnx:=lR (pt:=kC) hx;refine aI ?_;refine fJ [(0,true),(1,true),(2,true),(3,true),(4,true),(5,true),(7,true),(8,true),(9,true),(10,true),(11,true),(12,true),(6,false),(13,false),(14,false),(15,true)] ?_;refine mS ?_;refine mS ?_;refine nB rfl Tryz.call255 (YD ls hc1) rfl bM kA ?_;rintro _ σ' ⟨q56,rfl,rfl⟩ h56
  replace h56:=cB h56;repeat rcases h56 with⟨_,h56⟩
  apply bQ;exact bD;refine nB rfl Tryz.call256 (OY bd hc2 hc3) rfl bM kA ?_;rintro _ σ' ⟨q63,rfl,rfl⟩ h63
  replace h63:=cB h63;repeat rcases h63 with⟨_,h63⟩
  apply bQ;exact bD;refine eZ rfl ((aY (bY ls) gW++iK bd).map aG) (aY (bY ls) gW++iK bd).length ?_;refine bE fun r64 h64=> ?_;intros
  refine wQ ?_;generalize aY (bY ls) gW++iK bd=P at hPl hub hcd⊢;refine kQ ?_;refine oQ ?_;refine qN Tryz.call251 (vQ (k:=.any) P.length P (by omega) (by omega)) rfl bM kA ?_;rintro _ σ' ⟨q69,rfl,rfl⟩ h69
  replace h69:=cB h69;repeat rcases h69 with⟨_,h69⟩
  apply aU;exact bD;refine jQ ((dX kC co j++(uB P.length++P)).map aG) (dX kC co j++(uB P.length++P)).length ?_;refine bE fun r70 h70=> ?_;intros
  refine gZ ?_;refine DS ?_;refine⟨(r70,j+1),⟨hlt,by show Nq r70 r1;(exact cA),by show Nq r70 r42;(exact cA)⟩,by show co.length-(j+1)<co.length-j;omega, ?_⟩;dsimp only;rw[hnx];rw[hcd];exact aJ
 obtain rfl:j=co.length:=by simp at g9;omega
 refine oI ?_;refine oQ ?_;refine qN Tryz.call158 (iM 10 (by decide) co kC (by omega) (by have:=Pco co.length;omega)) rfl bM kA ?_;rintro _ σ' ⟨q76,rfl,rfl⟩ h76
 replace h76:=cB h76;repeat rcases h76 with⟨_,h76⟩
 apply aU;exact bD;refine jQ ((S1++bB 10 co kC).map aG) (S1++bB 10 co kC).length ?_;refine bE fun r77 h77=> ?_;intros
 refine cM ?_;generalize bB 10 co kC=S2 at L2⊢;refine jV ?_;refine bP 4 5 1 (by decide) rfl (by decide) (bN fun q6 hq6=> ?_);repeat rcases hq6 with⟨_,hq6⟩
 refine jV ?_;refine lp (β:=Nat×Nat) (fun b=>⟨[(1,.ptr r1 0),(3,.own r77 0 (S1++S2).length),(4,.own b.1 0 (dX tP da b.2).length),(8,.int .i64 b.2)],[(b.1,.arr 5 1 ((dX tP da b.2).map aG)),(r77,.arr 5 1 ((S1++S2).map aG)),(r1,.box 33 (aZ ⟨ty,im,fn,tb,me,gl,ex,el,co,da⟩))]⟩) (fun b=>b.2≤da.length∧Nq b.1 r1∧Nq b.1 r77) (fun b=>da.length-b.2) (q6,0) aJ ⟨Nat.zero_le _,by show Nq q6 r1;(exact cA),by show Nq q6 r77;(exact cA)⟩ ?_;rintro⟨q1,j⟩ ⟨hj,hqa,hqb⟩;have hpl:=Pda j;dsimp only at hj hqa hqb⊢;unfold aZ;dsimp only;refine nT ?_;refine aB rfl (fun g16=> ?_) (fun g16=> ?_)
 ·have hlt:j<da.length:=by simp at g16;omega
  obtain⟨⟨oo,bs⟩,hx⟩:∃x,da[j]? =some x:=⟨_,List.getElem?_eq_getElem hlt⟩
  obtain⟨ho,hf1⟩:=hda _ (List.mem_of_getElem? hx);dsimp only at ho hf1;have hr:-2147483648≤oo∧oo≤2147483647:=by(have h:=ho;unfold gI at h;simpa using h)
  have hv:mK 1 oo=true:=by unfold mK;simp;omega
  have hcl:=wC hv (by omega);have hub:=bG 4 bs.length (by omega);have hnx:=lR (pt:=tP) hx;refine aI ?_;refine fJ [(0,true),(3,true),(4,true),(5,true),(6,true),(7,true),(8,true),(9,true),(12,true),(13,true),(14,true),(15,true),(16,true),(17,true),(18,true),(19,true),(20,true),(21,true),(22,true),(23,true),(24,true),(1,false),(2,false),(10,false),(11,false),(25,false),(26,false),(27,true)] ?_;refine fP rfl (aF (E rfl)) rfl ?_;refine mS ?_;refine z94 ?_;refine mS ?_;refine UD ?_;refine mS ?_;refine HL fun r86 h86=> ?_;intros
  refine eZ rfl ((dX tP da j++ [0]).map aG) (dX tP da j++ [0]).length ?_;refine bE fun r87 h87=> ?_;intros
  refine nB rfl Tryz.call163 (qS 1 oo hv (by omega)) rfl bM kA ?_;rintro _ σ' ⟨q95,rfl,rfl⟩ h95
  replace h95:=cB h95;repeat rcases h95 with⟨_,h95⟩
  apply bQ;exact bD;refine eZ rfl ((dX tP da j++ [0]++mA 1 oo).map aG) (dX tP da j++ [0]++mA 1 oo).length ?_;refine bE fun r96 h96=> ?_;intros
  refine nB rfl Tryz.call251 (vQ (k:=.any) bs.length bs (by omega) (by omega)) rfl bM kA ?_;rintro _ σ' ⟨q110,rfl,rfl⟩ h110
  replace h110:=cB h110;repeat rcases h110 with⟨_,h110⟩
  apply bQ;exact bD;refine eZ rfl ((dX tP da j++ [0]++mA 1 oo++(uB bs.length++bs)).map aG) (dX tP da j++ [0]++mA 1 oo++(uB bs.length++bs)).length ?_;refine bE fun r111 h111=> ?_;intros
  refine oX ?_;refine⟨(r111,j+1),⟨hlt,by show Nq r111 r1;(exact cA),by show Nq r111 r77;(exact cA)⟩,by show da.length-(j+1)<da.length-j;omega, ?_⟩;dsimp only;rw[hnx];rw[show dX tP da j++tP ⟨oo,bs⟩=dX tP da j++ [0]++mA 1 oo++(uB bs.length++bs) by unfold tP qB;simp];exact aJ
 obtain rfl:j=da.length:=by simp at g16;omega
 refine oI ?_;refine oQ ?_;refine qN Tryz.call158 (iM 11 (by decide) da tP (by omega) (by have:=Pda da.length;omega)) rfl bM kA ?_;rintro _ σ' ⟨q117,rfl,rfl⟩ h117
 replace h117:=cB h117;repeat rcases h117 with⟨_,h117⟩
 apply aU;exact bD;refine jQ ((S1++S2++bB 11 da tP).map aG) (S1++S2++bB 11 da tP).length ?_;refine bE fun r118 h118=> ?_;intros
 refine cM ?_;exact aD aE ⟨r118,by rfl,rfl⟩ aA
theorem YE{m:Md}(h:m.G):(vR m).length≤10000000:=by
 obtain⟨-,-,-,-,-,-,-,⟨nel,hel⟩,⟨nco,hco⟩,⟨nda,hda⟩⟩:=h;obtain⟨L1,-⟩:=kY 9 sE 5300 nel (by decide) fun x hx=>VQ (hel x hx)
 obtain⟨L2,-⟩:=kY 10 kC 70000 nco (by decide) fun x hx=>VT (hco x hx)
 obtain⟨L3,-⟩:=kY 11 tP 1300 nda (by decide) fun x hx=>VU (hda x hx)
 unfold vR;rw[List.length_append,List.length_append];omega
theorem YF(m:Md)(h:m.G):SCall Tryz.prog 64 [.agg (aZ m)] [] (fun y σ=>∃q,y=.own q 0 (eL m).length∧σ=[(q,.arr 5 1 ((eL m).map aG))]):=aBE m h (aBF m h) (YE h)
theorem iA{α:Type}{l:List α}{p:α→Bool}{j:Nat}{x:α}(hx:l[j]? =some x)(h:p x=false):l.all p=false:=by
 rw[List.all_eq_false];exact⟨x,List.mem_of_getElem? hx,by rw[h];simp⟩
theorem kK{α:Type}{l:List α}{p:α→Bool}{j:Nat}{x:α}(ha:(l.take j).all p=true)(hx:l[j]? =some x)(h:p x=true):(l.take (j+1)).all p=true:=by
 rw[List.take_add_one,hx,List.all_append,ha];simp[h]
theorem EW(n:Int):SCall Tryz.prog 59 [.int .i64 n] [] (fun r σ'=>r=.bool (gG n)∧σ'=[]):=by
 refine bS 9 [0,2] Tryz.func59 ?_;refine eX ?_;refine IU ?_;refine KQ ?_;refine jM ?_;exact aD aE ⟨by rfl,rfl⟩ aA
theorem aBG(n:Int):SCall Tryz.prog 154 [.int .i64 n] [] (fun r σ'=>r=.bool (gI n)∧σ'=[]):=by
 refine bS 9 [0,2] Tryz.func154 ?_;refine eX ?_;refine IU ?_;refine NZ ?_;refine jM ?_;exact aD aE ⟨by unfold gI;rw[show decide (n≤2147483647)=decide (n<2147483648)from decide_eq_decide.2 (by omega)];cases h:decide (-2147483648≤n)<;>simp_all [fG],rfl⟩ aA
theorem aHx(k n:Int):SCall Tryz.prog 60 [.agg [.int .i64 k,.int .i64 n]] [] (fun r σ'=>r=.bool (mK k n)∧σ'=[]):=by
 have hd:decide (n≤2147483647)=decide (n<2147483648):=decide_eq_decide.2 (by omega);refine bS 21 [0,1,2] Tryz.func60 ?_;refine cZ ?_;refine gQ fun r1 h1=> ?_;intros
 refine iJ ?_;refine BN ?_;refine pW ?_;refine NU ?_;refine aAl ?_;refine aAm ?_;refine aIQ ?_;refine WV ?_;refine NU ?_;refine aAl ?_;refine aAm ?_;refine aLb ?_;refine WV ?_;refine jE ?_;refine cM ?_;exact aD aE ⟨by unfold mK;rw[hd];cases h:(k==2)<;>cases h1:(k==1)<;>cases h2:decide (-2147483648≤n)<;>cases h3:decide (n<2147483648)<;>rfl,rfl⟩ aA
theorem JR(l:Li)(a c:Int):SCall Tryz.prog 62 [.agg (gO l),.int .i64 a,.int .i64 c] [] (fun r σ'=>r=.bool (kI l a c)∧σ'=[]):=by
 obtain⟨has,mn,mx⟩:=l;refine bS 38 [0,1,2,3,6,9] Tryz.func62 ?_;unfold gO;refine cZ ?_;refine gQ fun r3 h3=> ?_;intros
 refine iJ ?_;refine nQ ?_;refine aB rfl (fun g1=> ?_) (fun g1=> ?_)
 ·have hE:kI ⟨has,mn,mx⟩ a c=if(mn==0)=true then(mx==0)else false:=by obtain rfl:has=false:=(by simpa using g1);unfold kI;cases h:mn==0<;>simp_all
  refine fT ?_;refine BN ?_;refine pW ?_;refine jM ?_;exact aD aE ⟨by rw[hE];rfl,rfl⟩ aA
 have hE:kI ⟨has,mn,mx⟩ a c=if(if(if decide (0≤mn)=true then decide (mn≤a)else false)=true then decide (-1≤mx)else false)=true then decide (mx≤c)else false:=by obtain rfl:has=true:=(by simpa using g1);unfold kI;rw[if_pos rfl];cases h:decide (0≤mn)<;>cases h2:decide (mn≤a)<;>cases h3:decide (-1≤mx)<;>rfl
 refine DV ?_;refine oY ?_;refine aAk ?_;refine uF ?_;refine mR ?_;refine NT ?_;refine uF ?_;refine oY ?_;refine aAk ?_;refine jM ?_;exact aD aE ⟨by rw[hE];rfl,rfl⟩ aA
theorem EX(l:List Int)(hl:l.length≤1000000)(most:Int):SCall Tryz.prog 57 [.ro 1 (l.map aK) .any,.int .i64 most] [] (fun r σ'=>r=.bool (cF l most AG)∧σ'=[]):=by
 refine bS 28 [0,1,4,5,9,23] Tryz.func57 ?_;refine oK ?_;refine lp (β:=Nat) (fun j=>⟨[(0,.ro 1 (l.map aK) .any),(1,.int .i64 most),(5,.int .i64 j)],[]⟩) (fun j=>j≤l.length∧(l.take j).all AG=true) (fun j=>l.length-j) 0 aJ ⟨Nat.zero_le _,rfl⟩ ?_;rintro j ⟨hj,ha⟩;refine nF ?_;refine nP ?_;refine aB rfl (fun g2=> ?_) (fun g2=> ?_)
 ·have hlt:j<l.length:=by simp at g2;omega
  obtain⟨x,hx⟩:∃x,l[j]? =some x:=⟨_,List.getElem?_eq_getElem hlt⟩
  refine dG ?_;refine lM ?_;refine lo (dV (E rfl) (E rfl)) rfl ?_;refine jU ?_;refine kG ?_;refine CD ?_;refine CE ?_;refine aAj ?_;refine tH ?_;refine aB rfl (fun g4=> ?_) (fun g4=> ?_)
  ·have hE:cF l most AG=false:=by unfold cF;rw[iA hx (by unfold AG;cases h1:(x==1)<;>cases h2:(x==2)<;>simp_all),Bool.and_false]
   refine bF ?_;exact aD aE ⟨by rw[hE];rfl,rfl⟩ aA
  refine lJ ?_;refine⟨j+1,⟨hlt,kK ha hx (by unfold AG;cases h1:(x==1)<;>cases h2:(x==2)<;>simp_all)⟩,by show l.length-(j+1)<l.length-j;omega, ?_⟩;exact aJ
 obtain rfl:j=l.length:=by simp at g2;omega
 have hE:cF l most AG=decide ((l.length:Int)≤most):=by unfold cF;rw[List.take_length]at ha;rw[ha,Bool.and_true]
 refine cX ?_;refine aGn ?_;refine cM ?_;exact aD aE ⟨by rw[hE];rfl,rfl⟩ aA
theorem EY(l:List Int)(hl:l.length≤1000000)(most:Int):SCall Tryz.prog 61 [.ro 1 (l.map aK) .any,.int .i64 most] [] (fun r σ'=>r=.bool (cF l most gG)∧σ'=[]):=by
 refine bS 22 [0,1,4,5,9,17] Tryz.func61 ?_;refine oK ?_;refine lp (β:=Nat) (fun j=>⟨[(0,.ro 1 (l.map aK) .any),(1,.int .i64 most),(5,.int .i64 j)],[]⟩) (fun j=>j≤l.length∧(l.take j).all gG=true) (fun j=>l.length-j) 0 aJ ⟨Nat.zero_le _,rfl⟩ ?_;rintro j ⟨hj,ha⟩;refine nF ?_;refine nP ?_;refine aB rfl (fun g2=> ?_) (fun g2=> ?_)
 ·have hlt:j<l.length:=by simp at g2;omega
  obtain⟨x,hx⟩:∃x,l[j]? =some x:=⟨_,List.getElem?_eq_getElem hlt⟩
  refine dG ?_;refine lM ?_;refine lB Tryz.call59 (EW x) rfl aP aS ?_;refine nQ ?_;refine aB rfl (fun g4=> ?_) (fun g4=> ?_)
  ·have hE:cF l most gG=false:=by unfold cF;rw[iA hx (by simpa using g4),Bool.and_false]
   refine bF ?_;exact aD aE ⟨by rw[hE];rfl,rfl⟩ aA
  refine lJ ?_;refine⟨j+1,⟨hlt,kK ha hx (by simpa using g4)⟩,by show l.length-(j+1)<l.length-j;omega, ?_⟩;exact aJ
 obtain rfl:j=l.length:=by simp at g2;omega
 have hE:cF l most gG=decide ((l.length:Int)≤most):=by unfold cF;rw[List.take_length]at ha;rw[ha,Bool.and_true]
 refine cX ?_;refine aGn ?_;refine cM ?_;exact aD aE ⟨by rw[hE];rfl,rfl⟩ aA
theorem MD(s:List Nat)(hl:s.length≤1000000)(hs:∀c∈s,c<256):SCall Tryz.prog 58 [.str (dI s)] [] (fun r σ'=>r=.bool (tQ s)∧σ'=[]):=by
 have hch:∀x:Nat,(if decide ((x:Int)<32)=true then true else decide ((126:Int)<x))= !chN x:=fun x=>by unfold chN;rw[show decide ((x:Int)<32)= !decide (32≤x) by rw[←decide_not];exact decide_eq_decide.2 (by omega),show decide ((126:Int)<x)= !decide (x≤126) by rw[←decide_not];exact decide_eq_decide.2 (by omega)];cases decide (32≤x)<;>rfl
 have hnm:tQ s=if decide ((1:Int)≤s.length)=true then(decide ((s.length:Int)≤16)&&s.all chN)else false:=by
  rw[aBd];unfold cF;rcases s with _ |⟨x,s⟩
  ·rfl
  ·rw[if_pos (by simp),if_pos (by simp;omega)]
 refine bS 28 [0,2,3,7,19] Tryz.func58 ?_;refine oK ?_;refine lp (β:=Nat) (fun j=>⟨[(0,.str (dI s)),(3,.int .i64 j)],[]⟩) (fun j=>j≤s.length∧(s.take j).all chN=true) (fun j=>s.length-j) 0 aJ ⟨Nat.zero_le _,rfl⟩ ?_;rintro j ⟨hj,ha⟩;refine dG ?_;refine lo (gM (E rfl)) rfl ?_;rw[jR];refine nP ?_;refine aB rfl (fun g2=> ?_) (fun g2=> ?_)
 ·have hlt:j<s.length:=by simp at g2;omega
  obtain⟨x,hx⟩:∃x,s[j]? =some x:=⟨_,List.getElem?_eq_getElem hlt⟩
  have hx256:x<256:=hs x (List.mem_of_getElem? hx);refine dG ?_;refine aLc ?_;refine OJ ?_;refine kG ?_;refine aLd ?_;refine AJ ?_;refine oJ ?_;rw[hch];refine aB rfl (fun g4=> ?_) (fun g4=> ?_)
  ·have hE:tQ s=false:=by rw[hnm,iA hx (by simpa using g4),Bool.and_false];split<;>rfl
   refine bF ?_;exact aD aE ⟨by rw[hE];rfl,rfl⟩ aA
  refine lJ ?_;refine⟨j+1,⟨hlt,kK ha hx (by simpa using g4)⟩,by show s.length-(j+1)<s.length-j;omega, ?_⟩;exact aJ
 obtain rfl:j=s.length:=by simp at g2;omega
 rw[List.take_length]at ha;refine cX ?_;refine lo (gM (E rfl)) rfl ?_;rw[jR];refine IU ?_;refine aGi ?_;rw[jR];refine KQ ?_;refine jM ?_;have hE:tQ s=if decide ((1:Int)≤s.length)=true then decide ((s.length:Int)≤16)else false:=by rw[hnm,ha,Bool.and_true]
 exact aD aE ⟨by rw[hE];rfl,rfl⟩ aA
def elP (x:El):Bool:=gI x.off&&cF x.fs 50 gG
def daP (x:Da):Bool:=gI x.off&&decide (x.bs.length≤1000)
def ME (c:Co):Bool:=wT (dA c.bd)&&cF c.ls 32 AG&&c.bd.all cT
def lI (m:Md):Bool:=m.el.all elP&&m.co.all ME&&m.da.all daP
theorem aEi(c:Co):ME c=sR c:=by
 unfold ME sR;cases h:wT (dA c.bd)with
 |false=>rfl
 |true=>
  have:=LN h;simp only[dA,List.length_map]at this;unfold cF;rw[decide_eq_true (show(c.bd.length:Int)≤300 by omega)];rfl
structure Md.Z (m:Md):Prop where
 ty:m.ty.length≤1000000∧∀x∈m.ty,x.pr.length≤1000000∧x.rs.length≤1000000
 im:m.im.length≤1000000
 fn:m.fn.length≤1000000
 gl:m.gl.length≤1000000
 ex:m.ex.length≤1000000
 el:m.el.length≤1000000∧∀x∈m.el,x.fs.length≤1000000
 co:m.co.length≤1000000∧∀x∈m.co,x.ls.length≤1000000
 da:m.da.length≤1000000∧∀x∈m.da,x.bs.length≤1000000
theorem aBH(m:Md)(h:m.WO)(hz:m.Z):SCall Tryz.prog 63 [.agg (aZ m)] [] (fun r σ'=>r=.bool (lI m)∧σ'=[]):=by
 obtain⟨⟨-,-,h3,-,-⟩,h5,-⟩:=h;obtain⟨-,-,-,-,-,⟨z1,z2⟩,⟨z3,z4⟩,⟨z5,z6⟩⟩:=hz;obtain⟨ty,im,fn,tb,me,gl,ex,el,co,da⟩:=m;dsimp only at h3 h5 z1 z2 z3 z4 z5 z6;refine bS 100 [0,1,2,3,4,5,7,8,9,14,34,39,60,65,74,79,99] Tryz.func63 ?_;unfold aZ;dsimp only;refine cZ ?_;refine gQ fun r1 h1=> ?_;intros
 refine iX ?_;refine cM ?_;refine lp (β:=Nat) (fun j=>⟨[(1,.ptr r1 0),(3,.int .i64 j)],[(r1,.box 33 (aZ ⟨ty,im,fn,tb,me,gl,ex,el,co,da⟩))]⟩) (fun j=>j≤el.length∧(el.take j).all elP=true) (fun j=>el.length-j) 0 aJ ⟨Nat.zero_le _,rfl⟩ ?_;rintro j ⟨hj,ha⟩;unfold aZ;dsimp only;refine nT ?_;refine aB rfl (fun g2=> ?_) (fun g2=> ?_)
 ·have hlt:j<el.length:=by simp at g2;omega
  obtain⟨⟨oo,fs⟩,hx⟩:∃x,el[j]? =some x:=⟨_,List.getElem?_eq_getElem hlt⟩
  have hfl:=z2 _ (List.mem_of_getElem? hx);refine fT ?_;refine tK ?_;refine lB Tryz.call154 (aBG oo) rfl aP aS ?_;refine lo (eI (E rfl)) rfl ?_;refine oY ?_;refine CD ?_;refine NS ?_;refine CE ?_;refine lG rfl rfl Tryz.call61 (fun _=>(EY fs hfl 50)) rfl aP aS ?_;refine rG ?_;refine oJ ?_;refine aB rfl (fun g4=> ?_) (fun g4=> ?_)
  ·have hE:lI ⟨ty,im,fn,tb,me,gl,ex,el,co,da⟩=false:=by unfold lI;rw[iA hx (by unfold elP;cases h1:gI oo<;>cases h2:cF fs 50 gG<;>simp_all),Bool.false_and,Bool.false_and]
   refine bF ?_;exact aD aE ⟨by rw[hE];rfl,rfl⟩ aA
  refine lJ ?_;refine⟨j+1,⟨hlt,kK ha hx (by unfold elP;cases h1:gI oo<;>cases h2:cF fs 50 gG<;>simp_all)⟩,by show el.length-(j+1)<el.length-j;omega, ?_⟩;exact aJ
 obtain rfl:j=el.length:=by simp at g2;omega
 rw[List.take_length]at ha;refine bF ?_;refine lp (β:=Nat) (fun j=>⟨[(1,.ptr r1 0),(4,.int .i64 j)],[(r1,.box 33 (aZ ⟨ty,im,fn,tb,me,gl,ex,el,co,da⟩))]⟩) (fun j=>j≤co.length∧(co.take j).all ME=true) (fun j=>co.length-j) 0 aJ ⟨Nat.zero_le _,rfl⟩ ?_;rintro j ⟨hj,hc⟩;unfold aZ;dsimp only;refine nT ?_;refine aB rfl (fun g7=> ?_) (fun g7=> ?_)
 ·have hlt:j<co.length:=by simp at g7;omega
  obtain⟨⟨ls,bd⟩,hx⟩:∃x,co[j]? =some x:=⟨_,List.getElem?_eq_getElem hlt⟩
  have hll:=z4 _ (List.mem_of_getElem? hx);have hbl:=h3 _ (List.mem_of_getElem? hx);have hbo:=h5 _ (List.mem_of_getElem? hx);dsimp only at hll hbl hbo;refine fT ?_;refine oG ?_;apply al;rfl;exact yR;refine bN fun r5 h5=> ?_;repeat rcases h5 with⟨_,h5⟩
  refine lU ?_;refine fT ?_;refine qN Tryz.call155 (XL bd hbl) rfl bM kA ?_;rintro _ σ' ⟨q50,rfl,rfl⟩ h50
  replace h50:=cB h50;repeat rcases h50 with⟨_,h50⟩
  refine nE ?_;refine nS ?_;refine lo (eI (E rfl)) rfl ?_;refine mR ?_;refine lG rfl rfl Tryz.call57 (fun _=>(EX ls hll 32)) rfl aP aS ?_;refine rG ?_;refine oJ ?_;refine aB rfl (fun g11=> ?_) (fun g11=> ?_)
  ·have hE:lI ⟨ty,im,fn,tb,me,gl,ex,el,co,da⟩=false:=by unfold lI;rw[iA hx (by unfold ME;dsimp only;cases h1:wT (dA bd)<;>cases h2:cF ls 32 AG<;>simp_all),Bool.and_false,Bool.false_and]
   refine bF ?_;exact aD aE ⟨by rw[hE];rfl,rfl⟩ aA
  have hok:wT (dA bd)=true∧cF ls 32 AG=true:=by cases h1:wT (dA bd)<;>cases h2:cF ls 32 AG<;>simp_all
  refine bF ?_;refine lp (β:=Nat) (fun i=>⟨[(1,.ptr r1 0),(4,.int .i64 j),(5,.ptr r5 0),(8,.int .i64 i)],[(r5,.box 44 (dJ ⟨ls,bd⟩)),(r1,.box 33 (aZ ⟨ty,im,fn,tb,me,gl,ex,el,co,da⟩))]⟩) (fun i=>i≤bd.length∧(bd.take i).all cT=true) (fun i=>bd.length-i) 0 aJ ⟨Nat.zero_le _,rfl⟩ ?_;rintro i ⟨hi,hb⟩;unfold aZ dJ;dsimp only;refine nT ?_;refine aB rfl (fun g14=> ?_) (fun g14=> ?_)
  ·have hlt2:i<bd.length:=by simp at g14;omega
   obtain⟨x,hx2⟩:∃x,bd[i]? =some x:=⟨_,List.getElem?_eq_getElem hlt2⟩
   refine fT ?_;refine oG ?_;refine lB Tryz.call156 (KX .any x (hbo x (List.mem_of_getElem? hx2))) rfl aP aS ?_;refine nQ ?_;refine aB rfl (fun g16=> ?_) (fun g16=> ?_)
   ·have hE:lI ⟨ty,im,fn,tb,me,gl,ex,el,co,da⟩=false:=by unfold lI;rw[iA hx (by unfold ME;dsimp only;rw[iA hx2 (by simpa using g16),Bool.and_false]),Bool.and_false,Bool.false_and]
    refine bF ?_;exact aD aE ⟨by rw[hE];rfl,rfl⟩ aA
   refine lJ ?_;refine⟨i+1,⟨hlt2,kK hb hx2 (by simpa using g16)⟩,by show bd.length-(i+1)<bd.length-i;omega, ?_⟩;exact aJ
  obtain rfl:i=bd.length:=by simp at g14;omega
  rw[List.take_length]at hb;refine lJ ?_;refine⟨j+1,⟨hlt,kK hc hx (by unfold ME;dsimp only;rw[hok.1,hok.2,hb];rfl)⟩,by show co.length-(j+1)<co.length-j;omega, ?_⟩;exact aJ
 obtain rfl:j=co.length:=by simp at g7;omega
 rw[List.take_length]at hc;refine bF ?_;refine lp (β:=Nat) (fun j=>⟨[(1,.ptr r1 0),(9,.int .i64 j)],[(r1,.box 33 (aZ ⟨ty,im,fn,tb,me,gl,ex,el,co,da⟩))]⟩) (fun j=>j≤da.length∧(da.take j).all daP=true) (fun j=>da.length-j) 0 aJ ⟨Nat.zero_le _,rfl⟩ ?_;rintro j ⟨hj,hd⟩;unfold aZ;dsimp only;refine nT ?_;refine aB rfl (fun g19=> ?_) (fun g19=> ?_)
 ·have hlt:j<da.length:=by simp at g19;omega
  obtain⟨⟨oo,bs⟩,hx⟩:∃x,da[j]? =some x:=⟨_,List.getElem?_eq_getElem hlt⟩
  have hfl:=z6 _ (List.mem_of_getElem? hx);have hgt:decide ((1000:Int)<bs.length)= !decide (bs.length≤1000):=by rw[←decide_not];exact decide_eq_decide.2 (by omega)
  refine fT ?_;refine tK ?_;refine lB Tryz.call154 (aBG oo) rfl aP aS ?_;refine lo (eI (E rfl)) rfl ?_;refine oY ?_;refine CD ?_;refine NS ?_;refine CE ?_;refine qV ?_;refine AJ ?_;refine oJ ?_;rw[hgt];refine aB rfl (fun g21=> ?_) (fun g21=> ?_)
  ·have hE:lI ⟨ty,im,fn,tb,me,gl,ex,el,co,da⟩=false:=by unfold lI;rw[iA hx (by unfold daP;dsimp only;cases h1:gI oo<;>cases h2:decide (bs.length≤1000)<;>rw[h1,h2]at g21<;>first|rfl|cases g21),Bool.and_false]
   refine bF ?_;exact aD aE ⟨by rw[hE];rfl,rfl⟩ aA
  refine lJ ?_;refine⟨j+1,⟨hlt,kK hd hx (by unfold daP;dsimp only;cases h1:gI oo<;>cases h2:decide (bs.length≤1000)<;>rw[h1,h2]at g21<;>first|rfl|cases g21)⟩,by show da.length-(j+1)<da.length-j;omega, ?_⟩;exact aJ
 obtain rfl:j=da.length:=by simp at g19;omega
 rw[List.take_length]at hd;refine bF ?_;have hE:lI ⟨ty,im,fn,tb,me,gl,ex,el,co,da⟩=true:=by unfold lI;rw[ha,hc,hd];rfl
 exact aD aE ⟨by rw[hE];rfl,rfl⟩ aA
def tyP (t:FT):Bool:=cF t.pr 32 AG&&cF t.rs 1 AG
def imP (x:Im):Bool:=tQ x.mod&&tQ x.nm&&gG x.ty
def glP (g:Gl):Bool:=mK g.kd g.n
def exP (x:Ex):Bool:=tQ x.nm&&gG x.fn
def EZ (m:Md):Bool:=decide (m.ty.length≤16∧m.im.length+m.fn.length≤16∧m.gl.length≤16∧m.ex.length≤16∧m.el.length≤16∧m.da.length≤16∧m.co.length=m.fn.length)
def aHy (m:Md):Bool:=EZ m&&m.ty.all tyP&&m.im.all imP&&m.gl.all glP&&m.ex.all exP&&cF m.fn 16 gG&&kI m.tb 16 1000&&kI m.me 16 65536&&lI m
theorem aEj(m:Md):aHy m=oO m:=by
 have hc:m.co.all ME=m.co.all sR:=by rw[show ME=sR from funext aEi]
 unfold aHy oO mB EZ lI;rw[hc,Bool.eq_iff_iff];simp only[Bool.and_eq_true,decide_eq_true_eq,beq_iff_eq,cF];constructor
 ·rintro⟨⟨⟨⟨⟨⟨⟨⟨⟨l1,l2,l3,l4,l5,l6,l7⟩,a1⟩,a2⟩,a3⟩,a4⟩,-,a5⟩,a6⟩,a7⟩,⟨a8,a9⟩,a10⟩;exact⟨⟨⟨⟨l7,by omega,a9⟩,⟨⟨⟨⟨⟨⟨by omega,a1⟩,by omega,a2⟩,by omega,a5⟩,by omega,a3⟩,by omega,a4⟩,by omega,a8⟩,by omega,a10⟩,a6⟩,a7⟩
 ·rintro⟨⟨⟨⟨l7,l8,a9⟩,⟨⟨⟨⟨⟨⟨l1,a1⟩,l2,a2⟩,l3,a5⟩,l4,a3⟩,l5,a4⟩,l6,a8⟩,l9,a10⟩,a6⟩,a7⟩;exact⟨⟨⟨⟨⟨⟨⟨⟨⟨by omega,by omega,by omega,by omega,by omega,by omega,l7⟩,a1⟩,a2⟩,a3⟩,a4⟩,by omega,a5⟩,a6⟩,a7⟩,⟨a8,a9⟩,a10⟩
theorem aBI{s:List Nat}(h:tQ s=true):QD s:=⟨by have:=(kV h).1;omega,(kV h).2.1⟩
theorem aEk{n:Int}(h:gG n=true):SmI n:=⟨(LS h).1,by have:=(LS h).2;omega⟩
theorem aBJ{m:Md}(h:oO m=true)(hw:m.WO):m.G:=by
 obtain⟨-,hO1,hO2⟩:=hw;have hw2:=h;unfold oO at h;simp only[Bool.and_eq_true]at h;obtain⟨⟨⟨⟨-,hco⟩,hls⟩,htb⟩,hme⟩:=h;unfold mB at hls;simp only[Bool.and_eq_true]at hls;obtain⟨⟨⟨⟨⟨⟨hty,him⟩,hfn⟩,hgl⟩,hex⟩,hel⟩,hda⟩:=hls;obtain⟨a1,a2⟩:=cD hty;obtain⟨b1,b2⟩:=cD him;obtain⟨c1,c2⟩:=cD hfn;obtain⟨d1,d2⟩:=cD hgl;obtain⟨e1,e2⟩:=cD hex;obtain⟨f1,f2⟩:=cD hel;obtain⟨g1,g2⟩:=cD hda;obtain⟨i1,i2⟩:=cD hco;simp only[Bool.and_eq_true]at a2 b2 e2 f2 g2;refine⟨⟨by omega,fun x hx=> ?_⟩,⟨by omega,fun x hx=> ?_⟩,⟨by omega,fun x hx=>aEk (c2 x hx)⟩,fun hh=> ?_,fun hh=> ?_,⟨by omega,fun x hx=>⟨d2 x hx,hO2 x hx⟩⟩,⟨by omega,fun x hx=> ?_⟩,⟨by omega,fun x hx=> ?_⟩,⟨by omega,fun x hx=> ?_⟩,⟨by omega,fun x hx=> ?_⟩⟩
 ·have h1:=(cD (a2 x hx).1).1;have h2:=(cD (a2 x hx).2).1;omega
 ·exact⟨aBI (b2 x hx).1.1,aBI (b2 x hx).1.2,aEk (b2 x hx).2⟩
 ·exact(LU htb (by decide) (by decide)).1 m.tb (by unfold gK;rw[hh];simp)
 ·exact(LU hme (by decide) (by decide)).1 m.me (by unfold gK;rw[hh];simp)
 ·exact⟨aBI (e2 x hx).1,aEk (e2 x hx).2⟩
 ·exact⟨(f2 x hx).1,by have:=(cD (f2 x hx).2).1;omega,fun n hn=>aEk ((cD (f2 x hx).2).2 n hn)⟩
 ·have h1:=i2 x hx;unfold sR at h1;simp only[Bool.and_eq_true]at h1;exact⟨by have:=(cD h1.1.2).1;omega,by have:=(cD h1.2).1;omega,fun i hi=>⟨hO1 x hx i hi,(cD h1.2).2 i hi⟩⟩
 ·exact⟨(g2 x hx).1,by simpa using(g2 x hx).2⟩
theorem or7(a b c d e f g:Bool):(if(if(if(if(if(if a=true then true else b)=true then true else c)=true then true else d)=true then true else e)=true then true else f)=true then true else g)=(a||b||c||d||e||f||g):=by
 cases a<;>cases b<;>cases c<;>cases d<;>cases e<;>cases f<;>cases g<;>rfl
theorem QE{a b:Bool}(h:(if(!a)=true then true else !b)=true):(a&&b)=false:=by cases a<;>cases b<;>simp_all
theorem QF{a b:Bool}(h:(if(!a)=true then true else !b)=false):(a&&b)=true:=by cases a<;>cases b<;>simp_all
theorem aEl(m:Md)(h:m.WO)(hz:m.Z):SCall Tryz.prog 19 [.agg (aZ m)] [] (fun r σ'=>r=.bool (kD m)∧σ'=[]):=by
 have hM:=sX m;have hpt:=aBH m h hz;have hby:=fun ha=>YF m (aBJ ha h)
 have hrA:=aEj m;unfold aHy at hrA;obtain⟨⟨h1,h2,h3,h4,-⟩,h5,h6⟩:=h;obtain⟨⟨z1,z2⟩,z3,z4,z5,z6,⟨z7,z8⟩,⟨z9,z10⟩,⟨z11,z12⟩⟩:=hz;obtain⟨ty,im,fn,tb,me,gl,ex,el,co,da⟩:=m;dsimp only at h1 h2 h3 h4 h5 h6 z1 z2 z3 z4 z5 z6 z7 z8 z9 z10 z11 z12 hrA;have bad:oO ⟨ty,im,fn,tb,me,gl,ex,el,co,da⟩=false→kD ⟨ty,im,fn,tb,me,gl,ex,el,co,da⟩=false:=fun h=>by rw[hM,h];rfl
 refine bS 179 [0,1,2,3,4,5,6,53,58,78,83,113,118,128,133,153,174] Tryz.func19 ?_;unfold aZ;dsimp only;refine cZ ?_;apply bx;rfl;rfl;exact yR;rfl;refine bN fun r1 h1=> ?_;repeat rcases h1 with⟨_,h1⟩
 refine iX ?_;refine yT ?_;refine lo (iB (E rfl) (E rfl)) rfl ?_;refine mR ?_;refine qV ?_;refine oH ?_;refine qV ?_;refine aLe ?_;refine AJ ?_;refine jE ?_;refine mR ?_;refine qV ?_;refine AJ ?_;refine jE ?_;refine mR ?_;refine qV ?_;refine AJ ?_;refine jE ?_;refine mR ?_;refine qV ?_;refine AJ ?_;refine jE ?_;refine mR ?_;refine qV ?_;refine AJ ?_;refine jE ?_;refine mR ?_;refine qV ?_;refine oH ?_;refine qV ?_;refine aLf ?_;refine oJ ?_;refine aB rfl (fun g1=> ?_) (fun g1=> ?_)
 ·have hl0:EZ ⟨ty,im,fn,tb,me,gl,ex,el,co,da⟩=false:=by cases hh:EZ ⟨ty,im,fn,tb,me,gl,ex,el,co,da⟩with|false=>rfl|true=>(unfold EZ at hh;simp only[decide_eq_true_eq]at hh;obtain⟨l1,l2,l3,l4,l5,l6,l7⟩:=hh;rw[decide_eq_false (by omega),decide_eq_false (by omega),decide_eq_false (by omega),decide_eq_false (by omega),decide_eq_false (by omega),decide_eq_false (by omega)]at g1;simp[l7]at g1)
  have hE:=bad (by rw[←hrA,hl0];rfl);refine bF ?_;exact aD aE ⟨by rw[hE];rfl,rfl⟩ aA
 rw[or7]at g1;simp only[Bool.or_eq_false_iff,decide_eq_false_iff_not,bne_eq_false_iff_eq]at g1;have hl1:EZ ⟨ty,im,fn,tb,me,gl,ex,el,co,da⟩=true:=by unfold EZ;rw[decide_eq_true];obtain⟨⟨⟨⟨⟨⟨m1,m2⟩,m3⟩,m4⟩,m5⟩,m6⟩,m7⟩:=g1;dsimp only;omega
 refine bF ?_;refine lp (β:=Nat) (fun j=>⟨[(1,.ptr r1 0),(3,.int .i64 j)],[(r1,.box 33 (aZ ⟨ty,im,fn,tb,me,gl,ex,el,co,da⟩))]⟩) (fun j=>j≤ty.length∧(ty.take j).all tyP=true) (fun j=>ty.length-j) 0 aJ ⟨Nat.zero_le _,rfl⟩ ?_;rintro j ⟨hj,a1⟩;unfold aZ;dsimp only;refine nT ?_;refine aB rfl (fun g4=> ?_) (fun g4=> ?_)
 ·have hlt:j<ty.length:=by simp at g4;omega
  obtain⟨⟨pr,rs⟩,hx⟩:∃x,ty[j]? =some x:=⟨_,List.getElem?_eq_getElem hlt⟩
  obtain⟨hp1,hp2⟩:=z2 _ (List.mem_of_getElem? hx);dsimp only at hp1 hp2;refine fT ?_;refine tK ?_;refine lB Tryz.call57 (EX pr hp1 32) rfl aP aS ?_;refine lo (eI (E rfl)) rfl ?_;refine oY ?_;refine CD ?_;refine NS ?_;refine CE ?_;refine lG rfl rfl Tryz.call57 (fun _=>(EX rs hp2 1)) rfl aP aS ?_;refine rG ?_;refine oJ ?_;refine aB rfl (fun g6=> ?_) (fun g6=> ?_)
  ·have hE:=bad (by rw[←hrA,iA hx (QE g6)];simp);refine bF ?_;exact aD aE ⟨by rw[hE];rfl,rfl⟩ aA
  refine lJ ?_;refine⟨j+1,⟨hlt,kK a1 hx (QF g6)⟩,by show ty.length-(j+1)<ty.length-j;omega, ?_⟩;exact aJ
 obtain rfl:j=ty.length:=by simp at g4;omega
 rw[List.take_length]at a1;refine bF ?_;refine lp (β:=Nat) (fun j=>⟨[(1,.ptr r1 0),(4,.int .i64 j)],[(r1,.box 33 (aZ ⟨ty,im,fn,tb,me,gl,ex,el,co,da⟩))]⟩) (fun j=>j≤im.length∧(im.take j).all imP=true) (fun j=>im.length-j) 0 aJ ⟨Nat.zero_le _,rfl⟩ ?_;rintro j ⟨hj,a2⟩;unfold aZ;dsimp only;refine nT ?_;refine aB rfl (fun g9=> ?_) (fun g9=> ?_)
 ·have hlt:j<im.length:=by simp at g9;omega
  obtain⟨⟨md,nm,tt⟩,hx⟩:∃x,im[j]? =some x:=⟨_,List.getElem?_eq_getElem hlt⟩
  obtain⟨⟨hp1,hp2⟩,hp3,hp4⟩:=h1 _ (List.mem_of_getElem? hx);dsimp only at hp1 hp2 hp3 hp4;refine fT ?_;refine tK ?_;refine lB Tryz.call58 (MD md (by omega) hp2) rfl aP aS ?_;refine lo (eI (E rfl)) rfl ?_;refine oY ?_;refine CD ?_;refine NS ?_;refine CE ?_;refine lG rfl rfl Tryz.call58 (fun _=>(MD nm (by omega) hp4)) rfl aP aS ?_;refine rG ?_;refine jE ?_;refine oY ?_;refine CD ?_;refine NS ?_;refine CE ?_;refine lG rfl rfl Tryz.call59 (fun _=>(EW tt)) rfl aP aS ?_;refine rG ?_;refine oJ ?_;refine aB rfl (fun g11=> ?_) (fun g11=> ?_)
  ·have hE:=bad (by rw[←hrA,iA hx (show imP ⟨md,nm,tt⟩=false by unfold imP;dsimp only;cases h7:tQ md<;>cases h8:tQ nm<;>cases h9:gG tt<;>simp_all)];simp);refine bF ?_;exact aD aE ⟨by rw[hE];rfl,rfl⟩ aA
  refine lJ ?_;refine⟨j+1,⟨hlt,kK a2 hx (show imP ⟨md,nm,tt⟩=true by unfold imP;dsimp only;cases h7:tQ md<;>cases h8:tQ nm<;>cases h9:gG tt<;>simp_all)⟩,by show im.length-(j+1)<im.length-j;omega, ?_⟩;exact aJ
 obtain rfl:j=im.length:=by simp at g9;omega
 rw[List.take_length]at a2;refine bF ?_;refine lp (β:=Nat) (fun j=>⟨[(1,.ptr r1 0),(5,.int .i64 j)],[(r1,.box 33 (aZ ⟨ty,im,fn,tb,me,gl,ex,el,co,da⟩))]⟩) (fun j=>j≤gl.length∧(gl.take j).all glP=true) (fun j=>gl.length-j) 0 aJ ⟨Nat.zero_le _,rfl⟩ ?_;rintro j ⟨hj,a3⟩;unfold aZ;dsimp only;refine nT ?_;refine aB rfl (fun g14=> ?_) (fun g14=> ?_)
 ·have hlt:j<gl.length:=by simp at g14;omega
  obtain⟨⟨mu,kk,nn⟩,hx⟩:∃x,gl[j]? =some x:=⟨_,List.getElem?_eq_getElem hlt⟩
  refine fT ?_;refine IR ?_;refine aGa ?_;refine lB Tryz.call60 (aHx kk nn) rfl aP aS ?_;refine nQ ?_;refine aB rfl (fun g16=> ?_) (fun g16=> ?_)
  ·have hE:=bad (by rw[←hrA,iA hx (show glP ⟨mu,kk,nn⟩=false by unfold glP;simpa using g16)];simp);refine bF ?_;exact aD aE ⟨by rw[hE];rfl,rfl⟩ aA
  refine lJ ?_;refine⟨j+1,⟨hlt,kK a3 hx (show glP ⟨mu,kk,nn⟩=true by unfold glP;simpa using g16)⟩,by show gl.length-(j+1)<gl.length-j;omega, ?_⟩;exact aJ
 obtain rfl:j=gl.length:=by simp at g14;omega
 rw[List.take_length]at a3;refine bF ?_;refine lp (β:=Nat) (fun j=>⟨[(1,.ptr r1 0),(6,.int .i64 j)],[(r1,.box 33 (aZ ⟨ty,im,fn,tb,me,gl,ex,el,co,da⟩))]⟩) (fun j=>j≤ex.length∧(ex.take j).all exP=true) (fun j=>ex.length-j) 0 aJ ⟨Nat.zero_le _,rfl⟩ ?_;rintro j ⟨hj,a4⟩;unfold aZ;dsimp only;refine nT ?_;refine aB rfl (fun g19=> ?_) (fun g19=> ?_)
 ·have hlt:j<ex.length:=by simp at g19;omega
  obtain⟨⟨nm,ff⟩,hx⟩:∃x,ex[j]? =some x:=⟨_,List.getElem?_eq_getElem hlt⟩
  obtain⟨hp3,hp4⟩:=h2 _ (List.mem_of_getElem? hx);dsimp only at hp3 hp4;refine fT ?_;refine tK ?_;refine lB Tryz.call58 (MD nm (by omega) hp4) rfl aP aS ?_;refine lo (eI (E rfl)) rfl ?_;refine oY ?_;refine CD ?_;refine NS ?_;refine CE ?_;refine lG rfl rfl Tryz.call59 (fun _=>(EW ff)) rfl aP aS ?_;refine rG ?_;refine oJ ?_;refine aB rfl (fun g21=> ?_) (fun g21=> ?_)
  ·have hE:=bad (by rw[←hrA,iA hx (QE g21)];simp);refine bF ?_;exact aD aE ⟨by rw[hE];rfl,rfl⟩ aA
  refine lJ ?_;refine⟨j+1,⟨hlt,kK a4 hx (QF g21)⟩,by show ex.length-(j+1)<ex.length-j;omega, ?_⟩;exact aJ
 obtain rfl:j=ex.length:=by simp at g19;omega
 rw[List.take_length]at a4;refine fT ?_;refine lB Tryz.call61 (EY fn z4 16) rfl aP aS ?_;refine lo (eI (E rfl)) rfl ?_;refine wP ?_;refine HE ?_;refine lG rfl rfl Tryz.call62 (fun _=>(JR tb 16 1000)) rfl aP aS ?_;refine rG ?_;refine jE ?_;refine wP ?_;refine HE ?_;refine lG rfl rfl Tryz.call62 (fun _=>(JR me 16 65536)) rfl aP aS ?_;refine rG ?_;refine jE ?_;refine yW ?_;refine lG rfl rfl Tryz.call63 (fun _=>hpt) rfl aP aS ?_;refine rG ?_;refine oJ ?_;refine aB rfl (fun g23=> ?_) (fun g23=> ?_)
 ·have hE:=bad (by rw[←hrA];cases h7:cF fn 16 gG<;>cases h8:kI tb 16 1000<;>cases h9:kI me 16 65536<;>cases h10:lI ⟨ty,im,fn,tb,me,gl,ex,el,co,da⟩<;>simp_all);refine bF ?_;exact aD aE ⟨by rw[hE];rfl,rfl⟩ aA
 have hq:cF fn 16 gG=true∧kI tb 16 1000=true∧kI me 16 65536=true∧lI ⟨ty,im,fn,tb,me,gl,ex,el,co,da⟩=true:=by cases h7:cF fn 16 gG<;>cases h8:kI tb 16 1000<;>cases h9:kI me 16 65536<;>cases h10:lI ⟨ty,im,fn,tb,me,gl,ex,el,co,da⟩<;>simp_all
 obtain⟨q1,q2,q3,q4⟩:=hq;have hA:oO ⟨ty,im,fn,tb,me,gl,ex,el,co,da⟩=true:=by rw[←hrA,hl1,a1,a2,a3,a4,q1,q2,q3,q4];rfl
 refine nH ?_;refine qN Tryz.call64 (hby hA) rfl bM kA ?_;rintro _ σ' ⟨q176,rfl,rfl⟩ h176
 replace h176:=cB h176;repeat rcases h176 with⟨_,h176⟩
 apply aU;exact bD;refine qI ?_;refine lo (mM (E rfl) (E rfl)) rfl ?_;refine cM ?_;have hE:kD ⟨ty,im,fn,tb,me,gl,ex,el,co,da⟩=decide (((eL ⟨ty,im,fn,tb,me,gl,ex,el,co,da⟩).length:Int)≤8000):=by rw[hM,hA,Bool.true_and];exact decide_eq_decide.2 (by omega)
 exact aD aE ⟨by rw[hE];rfl,rfl⟩ aA
end Go.Proofs.YtjpdadobblffmaaGreat
namespace Go.Proofs.YtjpdadobblffmaaGreat
open Go.RowKit Go.ChangeShapes Go.WideShapes Go.ChangeAt Go.Deep
theorem aBK{M:Mp}{F:Nat→Prop}{w:World}{a b:AV}{x y u:Value}(ha:∀u,VR M F w a u→u=x)(hb:∀u,VR M F w b u→u=y)(h:VR M F w (.agg [a,b]) u):u=.agg #[x,y]:=by
 cases h with
 |@agg _ vs hl h=>
  obtain⟨l⟩:=vs
  match l,hl with
  |[p,q],_=>rw[ha p (h 0 _ p rfl rfl),hb q (h 1 _ q rfl rfl)]
theorem AY{M:Mp}{F:Nat→Prop}{w:World}{a b c:AV}{x y z u:Value}(ha:∀u,VR M F w a u→u=x)(hb:∀u,VR M F w b u→u=y)(hc:∀u,VR M F w c u→u=z)(h:VR M F w (.agg [a,b,c]) u):u=.agg #[x,y,z]:=by
 cases h with
 |@agg _ vs hl h=>
  obtain⟨l⟩:=vs
  match l,hl with
  |[p,q,r],_=>rw[ha p (h 0 _ p rfl rfl),hb q (h 1 _ q rfl rfl),hc r (h 2 _ r rfl rfl)]
theorem oU{M:Mp}{F:Nat→Prop}{w:World}{k:IntKind}{n:Int}:∀u,VR M F w (.int k n) u→u=.int k n:=fun u h=>by cases h;rfl
theorem DB{M:Mp}{F:Nat→Prop}{w:World}{b:Bool}:∀u,VR M F w (.bool b) u→u=.bool b:=fun u h=>by cases h;rfl
theorem AZ{M:Mp}{F:Nat→Prop}{w:World}{b:ByteArray}:∀u,VR M F w (.str b) u→u=.string b:=fun u h=>by cases h;rfl
theorem aJR(w:World)(a d:Bool)(b c e f:Int):(Op.equal 26 (.agg #[.bool a,.int .i64 b,.int .i64 c]) (.agg #[.bool d,.int .i64 e,.int .i64 f])).run Tryz.prog w=.ok (a==d&&b==e&&c==f) w:=by
 have hs:Tryz.prog.stoodInHeld 26=false:=by kernel_rfl
 have hf:Tryz.prog.underlying 26=some (.struct (Tryz.prog.fieldsOf 26)):=by unfold Program.fieldsOf;rw[Tryz.underlying26]
 have p1:Tryz.prog.plainKey 4=true:=by kernel_rfl
 have p2:Tryz.prog.plainKey 3=true:=by kernel_rfl
 have h:(Op.equalIn (9999+1) 26 (.agg #[.bool a,.int .i64 b,.int .i64 c]) (.agg #[.bool d,.int .i64 e,.int .i64 f])).run Tryz.prog w=.ok (a==d&&b==e&&c==f) w:=by
  rw[run_equalIn_struct w 9999 _ _ _ hf hs];unfold Program.fieldsOf;rw[Tryz.underlying26];simp only[Op.eqFields];cases h1:(a==d)<;>cases h2:(b==e)<;>cases h3:(c==f)<;>simp[run_part_plain w p1 (xs:=#[.bool a,.int .i64 b,.int .i64 c]) (off:=0) rfl,run_part_plain w p1 (xs:=#[.bool d,.int .i64 e,.int .i64 f]) (off:=0) rfl,run_part_plain w p2 (xs:=#[.bool a,.int .i64 b,.int .i64 c]) (off:=1) rfl,run_part_plain w p2 (xs:=#[.bool d,.int .i64 e,.int .i64 f]) (off:=1) rfl,run_part_plain w p2 (xs:=#[.bool a,.int .i64 b,.int .i64 c]) (off:=2) rfl,run_part_plain w p2 (xs:=#[.bool d,.int .i64 e,.int .i64 f]) (off:=2) rfl,run_equalIn_int w _ _ _ _ _ _ Tryz.underlying3,run_equalIn_bool' w _ _ _ _ Tryz.underlying4,h1,h2,h3]
 exact h
theorem aJS(w:World)(a b d e:ByteArray)(c f:Int):(Op.equal 64 (.agg #[.string a,.string b,.int .i64 c]) (.agg #[.string d,.string e,.int .i64 f])).run Tryz.prog w=.ok (a.toList==d.toList&&b.toList==e.toList&&c==f) w:=by
 have hs:Tryz.prog.stoodInHeld 64=false:=by kernel_rfl
 have hf:Tryz.prog.underlying 64=some (.struct (Tryz.prog.fieldsOf 64)):=by unfold Program.fieldsOf;rw[Tryz.underlying64]
 have p1:Tryz.prog.plainKey 9=true:=by kernel_rfl
 have p2:Tryz.prog.plainKey 3=true:=by kernel_rfl
 have h:(Op.equalIn (9999+1) 64 (.agg #[.string a,.string b,.int .i64 c]) (.agg #[.string d,.string e,.int .i64 f])).run Tryz.prog w=.ok (a.toList==d.toList&&b.toList==e.toList&&c==f) w:=by
  rw[run_equalIn_struct w 9999 _ _ _ hf hs];unfold Program.fieldsOf;rw[Tryz.underlying64];simp only[Op.eqFields];cases h1:(a.toList==d.toList)<;>cases h2:(b.toList==e.toList)<;>cases h3:(c==f)<;>simp[run_part_plain w p1 (xs:=#[.string a,.string b,.int .i64 c]) (off:=0) rfl,run_part_plain w p1 (xs:=#[.string d,.string e,.int .i64 f]) (off:=0) rfl,run_part_plain w p1 (xs:=#[.string a,.string b,.int .i64 c]) (off:=1) rfl,run_part_plain w p1 (xs:=#[.string d,.string e,.int .i64 f]) (off:=1) rfl,run_part_plain w p2 (xs:=#[.string a,.string b,.int .i64 c]) (off:=2) rfl,run_part_plain w p2 (xs:=#[.string d,.string e,.int .i64 f]) (off:=2) rfl,run_equalIn_int w _ _ _ _ _ _ Tryz.underlying3,run_equalIn_string w _ _ _ _ Tryz.underlying9,h1,h2,h3]
 exact h
theorem aJT(w:World)(a d:ByteArray)(c f:Int):(Op.equal 66 (.agg #[.string a,.int .i64 c]) (.agg #[.string d,.int .i64 f])).run Tryz.prog w=.ok (a.toList==d.toList&&c==f) w:=by
 have hs:Tryz.prog.stoodInHeld 66=false:=by kernel_rfl
 have hf:Tryz.prog.underlying 66=some (.struct (Tryz.prog.fieldsOf 66)):=by unfold Program.fieldsOf;rw[Tryz.underlying66]
 have p1:Tryz.prog.plainKey 9=true:=by kernel_rfl
 have p2:Tryz.prog.plainKey 3=true:=by kernel_rfl
 have h:(Op.equalIn (9999+1) 66 (.agg #[.string a,.int .i64 c]) (.agg #[.string d,.int .i64 f])).run Tryz.prog w=.ok (a.toList==d.toList&&c==f) w:=by
  rw[run_equalIn_struct w 9999 _ _ _ hf hs];unfold Program.fieldsOf;rw[Tryz.underlying66];simp only[Op.eqFields];cases h1:(a.toList==d.toList)<;>cases h3:(c==f)<;>simp[run_part_plain w p1 (xs:=#[.string a,.int .i64 c]) (off:=0) rfl,run_part_plain w p1 (xs:=#[.string d,.int .i64 f]) (off:=0) rfl,run_part_plain w p2 (xs:=#[.string a,.int .i64 c]) (off:=1) rfl,run_part_plain w p2 (xs:=#[.string d,.int .i64 f]) (off:=1) rfl,run_equalIn_int w _ _ _ _ _ _ Tryz.underlying3,run_equalIn_string w _ _ _ _ Tryz.underlying9,h1,h3]
 exact h
theorem aEm(n:Nat)(w:World)(a b c d:Int):(Op.equalIn (n+2) 71 (.agg #[.int .i64 a,.int .i64 b]) (.agg #[.int .i64 c,.int .i64 d])).run Tryz.prog w=.ok (a==c&&b==d) w:=by
 have hs:Tryz.prog.stoodInHeld 71=false:=by kernel_rfl
 have hf:Tryz.prog.underlying 71=some (.struct (Tryz.prog.fieldsOf 71)):=by unfold Program.fieldsOf;rw[Tryz.underlying71]
 have p1:Tryz.prog.plainKey 3=true:=by kernel_rfl
 have p2:Tryz.prog.plainKey 2=true:=by kernel_rfl
 rw[run_equalIn_struct w (n+1) _ _ _ hf hs];unfold Program.fieldsOf;rw[Tryz.underlying71];simp only[Op.eqFields];cases h1:(a==c)<;>cases h2:(b==d)<;>simp[run_part_plain w p1 (xs:=#[.int .i64 a,.int .i64 b]) (off:=0) rfl,run_part_plain w p1 (xs:=#[.int .i64 c,.int .i64 d]) (off:=0) rfl,run_part_plain w p2 (xs:=#[.int .i64 a,.int .i64 b]) (off:=1) rfl,run_part_plain w p2 (xs:=#[.int .i64 c,.int .i64 d]) (off:=1) rfl,run_equalIn_int w _ _ _ _ _ _ Tryz.underlying3,run_equalIn_int w _ _ _ _ _ _ Tryz.underlying2,h1,h2]
theorem aJU(w:World)(a d:Bool)(b c e f:Int):(Op.equal 73 (.agg #[.bool a,.int .i64 b,.int .i64 c]) (.agg #[.bool d,.int .i64 e,.int .i64 f])).run Tryz.prog w=.ok (a==d&&(b==e&&c==f)) w:=by
 have hs:Tryz.prog.stoodInHeld 73=false:=by kernel_rfl
 have hf:Tryz.prog.underlying 73=some (.struct (Tryz.prog.fieldsOf 73)):=by unfold Program.fieldsOf;rw[Tryz.underlying73]
 have p1:Tryz.prog.plainKey 4=true:=by kernel_rfl
 have q1:∀a b c,(part 71 #[.bool a,.int .i64 b,.int .i64 c] 1).run Tryz.prog w=.ok (.agg #[.int .i64 b,.int .i64 c]) w:=fun a b c=>by
  obtain⟨i,hi,hz,hs,_⟩:=Tz.parts Tryz.prog 71;simp[part,isAgg,run_underlying Tryz.underlying71,sizeOf,typeInfo,hi,hs]
 have h:(Op.equalIn (9999+1) 73 (.agg #[.bool a,.int .i64 b,.int .i64 c]) (.agg #[.bool d,.int .i64 e,.int .i64 f])).run Tryz.prog w=.ok (a==d&&(b==e&&c==f)) w:=by
  rw[run_equalIn_struct w 9999 _ _ _ hf hs];unfold Program.fieldsOf;rw[Tryz.underlying73];simp only[Op.eqFields];cases h1:(a==d)<;>cases h2:(b==e&&c==f)<;>simp[run_part_plain w p1 (xs:=#[.bool a,.int .i64 b,.int .i64 c]) (off:=0) rfl,run_part_plain w p1 (xs:=#[.bool d,.int .i64 e,.int .i64 f]) (off:=0) rfl,q1,run_equalIn_bool' w _ _ _ _ Tryz.underlying4,aEm 9997,h1,h2]
 exact h
instance : DecidableEq FT := fun a b => decidable_of_iff (a.pr = b.pr ∧ a.rs = b.rs) ⟨fun h => by cases a; cases b; simp_all, fun h => by subst h; exact ⟨rfl, rfl⟩⟩
instance : DecidableEq Im := fun a b => decidable_of_iff (a.mod = b.mod ∧ a.nm = b.nm ∧ a.ty = b.ty) ⟨fun h => by cases a; cases b; simp_all, fun h => by subst h; exact ⟨rfl, rfl, rfl⟩⟩
instance : DecidableEq Gl := fun a b => decidable_of_iff (a.mu = b.mu ∧ a.kd = b.kd ∧ a.n = b.n) ⟨fun h => by cases a; cases b; simp_all, fun h => by subst h; exact ⟨rfl, rfl, rfl⟩⟩
instance : DecidableEq Ex := fun a b => decidable_of_iff (a.nm = b.nm ∧ a.fn = b.fn) ⟨fun h => by cases a; cases b; simp_all, fun h => by subst h; exact ⟨rfl, rfl⟩⟩
instance : DecidableEq El := fun a b => decidable_of_iff (a.off = b.off ∧ a.fs = b.fs) ⟨fun h => by cases a; cases b; simp_all, fun h => by subst h; exact ⟨rfl, rfl⟩⟩
instance : DecidableEq Co := fun a b => decidable_of_iff (a.ls = b.ls ∧ a.bd = b.bd) ⟨fun h => by cases a; cases b; simp_all, fun h => by subst h; exact ⟨rfl, rfl⟩⟩
instance : DecidableEq Da := fun a b => decidable_of_iff (a.off = b.off ∧ a.bs = b.bs) ⟨fun h => by cases a; cases b; simp_all, fun h => by subst h; exact ⟨rfl, rfl⟩⟩
instance : DecidableEq Li := fun a b => decidable_of_iff (a.has = b.has ∧ a.mn = b.mn ∧ a.mx = b.mx) ⟨fun h => by cases a; cases b; simp_all, fun h => by subst h; exact ⟨rfl, rfl, rfl⟩⟩
section
variable {s : ASt} {c : Bool} {x y : Operand} {ty t t' : TypeId}
theorem QG{xs ys:Array Value}{cx cy:List AV}{b:Bool}(hg:Tryz.prog.eqGuardType Tryz.prog.depth t=false)(hx:∀(M:Mp) (F:Nat→Prop) (w:World) (u:Value),VR M F w (.agg cx) u→u=.agg xs)(hy:∀(M:Mp) (F:Nat→Prop) (w:World) (u:Value),VR M F w (.agg cy) u→u=.agg ys)
  (he:∀w:World,(Op.equal t (.agg xs) (.agg ys)).run Tryz.prog w=.ok b w) (h:Ev s c x (.agg cx)) (h':Ev s c y (.agg cy)):Lop Tryz.prog (.binOp .eql t x y t') ty s c (.bool b) []:=
 Lop.pure_ fun M F N n ac w hr hc=>⟨_,.bool _,fun w' o ho _=>by
  have e1:=hx _ _ _ _ (h.vr hr hc);have e2:=hy _ _ _ _ (h'.vr hr hc);refine nM ho ?_ ?_
  ·rw[e1,e2];exact run_eqGuard_agg w' .eql _ x y _ _ hg
  ·rw[e1,e2];simp only[binOp,Sem.run_bind,he,Result.andThen_ok,Sem.run_pure]⟩
theorem vS{xs ys:Array Value}{cx cy:List AV}{b:Bool}(hg:Tryz.prog.eqGuardType Tryz.prog.depth t=false)(hx:∀(M:Mp) (F:Nat→Prop) (w:World) (u:Value),VR M F w (.agg cx) u→u=.agg xs)(hy:∀(M:Mp) (F:Nat→Prop) (w:World) (u:Value),VR M F w (.agg cy) u→u=.agg ys)
  (he:∀w:World,(Op.equal t (.agg xs) (.agg ys)).run Tryz.prog w=.ok b w) (h:Ev s c x (.agg cx)) (h':Ev s c y (.agg cy)):Lop Tryz.prog (.binOp .neq t x y t') ty s c (.bool (!b)) []:=
 Lop.pure_ fun M F N n ac w hr hc=>⟨_,.bool _,fun w' o ho _=>by
  have e1:=hx _ _ _ _ (h.vr hr hc);have e2:=hy _ _ _ _ (h'.vr hr hc);refine nM ho ?_ ?_
  ·rw[e1,e2];exact run_eqGuard_agg w' .neq _ x y _ _ hg
  ·rw[e1,e2];simp only[binOp,Sem.run_bind,he,Result.andThen_ok,Sem.run_pure]⟩
theorem FA{a b:Li}(h:Ev s c x (.agg (gO a)))(h':Ev s c y (.agg (gO b))):Lop Tryz.prog (.binOp .eql 26 x y t') ty s c (.bool (decide (a=b))) []:=by
 have he:decide (a=b)=(a.has==b.has&&a.mn==b.mn&&a.mx==b.mx):=by rw[Bool.eq_iff_iff];cases a;cases b;simp[and_assoc]
 rw[he];exact QG (by kernel_rfl) (fun _ _ _ _=>AY DB oU oU) (fun _ _ _ _=>AY DB oU oU) (fun w=>aJR w _ _ _ _ _ _) h h'
theorem ST{a b:Im}(ha:lC a.mod∧lC a.nm)(hb:lC b.mod∧lC b.nm)(h:Ev s c x (.agg (eT a)))(h':Ev s c y (.agg (eT b))):Lop Tryz.prog (.binOp .neq 64 x y t') ty s c (.bool (!decide (a=b))) []:=by
 have he:decide (a=b)=((dI a.mod).toList==(dI b.mod).toList&&(dI a.nm).toList==(dI b.nm).toList&&a.ty==b.ty):=by rw[pV ha.1.2 hb.1.2,pV ha.2.2 hb.2.2,Bool.eq_iff_iff];cases a;cases b;simp[and_assoc]
 rw[he];exact vS (by kernel_rfl) (fun _ _ _ _=>AY AZ AZ oU) (fun _ _ _ _=>AY AZ AZ oU) (fun w=>aJS w _ _ _ _ _ _) h h'
theorem SU{a b:Ex}(ha:lC a.nm)(hb:lC b.nm)(h:Ev s c x (.agg (eA a)))(h':Ev s c y (.agg (eA b))):Lop Tryz.prog (.binOp .neq 66 x y t') ty s c (.bool (!decide (a=b))) []:=by
 have he:decide (a=b)=((dI a.nm).toList==(dI b.nm).toList&&a.fn==b.fn):=by rw[pV ha.2 hb.2,Bool.eq_iff_iff];cases a;cases b;simp
 rw[he];exact vS (by kernel_rfl) (fun _ _ _ _=>aBK AZ oU) (fun _ _ _ _=>aBK AZ oU) (fun w=>aJT w _ _ _ _) h h'
theorem SV{a b:Gl}(h:Ev s c x (.agg (eU a)))(h':Ev s c y (.agg (eU b))):Lop Tryz.prog (.binOp .neq 73 x y t') ty s c (.bool (!decide (a=b))) []:=by
 have he:decide (a=b)=(a.mu==b.mu&&(a.kd==b.kd&&a.n==b.n)):=by rw[Bool.eq_iff_iff];cases a;cases b;simp
 rw[he];exact vS (by kernel_rfl) (fun _ _ _ _=>AY DB oU oU) (fun _ _ _ _=>AY DB oU oU) (fun w=>aJU w _ _ _ _ _ _) h h'
end
theorem aHz(xs ys:List Im)(hox:∀x∈xs,(fun x:Im=>lC x.mod∧lC x.nm) x)(hoy:∀y∈ys,(fun x:Im=>lC x.mod∧lC x.nm) y):SCall Tryz.prog 126 [.ro 3 (xs.map eT) .any,.ro 3 (ys.map eT) .any] [] (fun r σ=>r=.bool (decide (xs=ys))∧σ=[]):=by
 refine bS 26 [0,1,4,5,10,12,13,14,24] Tryz.func126 ?_;refine gS (i:=0) rfl fun hm=> ?_
 rw[List.length_map]at hm;unfold maxLen at hm;refine eX ?_;refine oQ ?_;refine qI ?_;refine qH ?_;refine aB rfl (fun g1=> ?_) (fun g1=> ?_)
 ·have hE:decide (xs=ys)=false:=decide_eq_false (by rintro rfl;simp at g1);refine bF ?_;exact aD aE ⟨by rw[hE];rfl,rfl⟩ aA
 have hl:xs.length=ys.length:=by simp at g1;omega
 refine cX ?_;refine nR ?_;refine lp (β:=Nat) (fun k=>⟨[(0,.ro 3 (xs.map eT) .any),(1,.ro 3 (ys.map eT) .any),(12,.int .i64 xs.length),(13,.int .i64 k)],[]⟩) (fun k=>k≤xs.length∧xs.take k=ys.take k) (fun k=>xs.length-k) 0 aJ ⟨Nat.zero_le _,rfl⟩ ?_;rintro k ⟨hk,ht⟩;refine gA ?_;refine aB rfl (fun g4=> ?_) (fun g4=> ?_)
 ·have hlt:k<xs.length:=by simp at g4;omega
  obtain⟨x,hx⟩:∃x,xs[k]? =some x:=⟨_,List.getElem?_eq_getElem hlt⟩
  obtain⟨y,hy⟩:∃y,ys[k]? =some y:=⟨_,List.getElem?_eq_getElem (by omega)⟩
  have hox1:=hox x (List.mem_of_getElem? hx);have hoy1:=hoy y (List.mem_of_getElem? hy);refine eW ?_;refine fJ [(0,true),(1,true),(2,true),(3,true),(4,true),(5,true),(6,true),(7,true),(8,true)] ?_;refine lF ?_;refine pY ?_;refine lF ?_;refine pY ?_;refine fP rfl (ST hox1 hoy1 (E rfl) (E rfl)) rfl ?_;refine jI ?_;refine aB rfl (fun g6=> ?_) (fun g6=> ?_)
  ·have hne:x≠y:=by intro e;subst e;simp at g6
   have hE:decide (xs=ys)=false:=decide_eq_false (by rintro rfl;rw[hx]at hy;exact hne (Option.some.inj hy));refine bF ?_;exact aD aE ⟨by rw[hE];rfl,rfl⟩ aA
  refine jH ?_;have hxy:x=y:=by first|simpa using g6|(simp at g6;omega)
  refine⟨k+1,⟨hlt,by rw[List.take_add_one,List.take_add_one,ht,hx,hy,hxy]⟩,by show xs.length-(k+1)<xs.length-k;omega, ?_⟩;exact aJ
 have hE:decide (xs=ys)=true:=decide_eq_true (by simp at g4;rwa [List.take_of_length_le (by omega),List.take_of_length_le (by omega)]at ht);refine bF ?_;exact aD aE ⟨by rw[hE];rfl,rfl⟩ aA
theorem aHA(xs ys:List Ex)(hox:∀x∈xs,(fun x:Ex=>lC x.nm) x)(hoy:∀y∈ys,(fun x:Ex=>lC x.nm) y):SCall Tryz.prog 128 [.ro 2 (xs.map eA) .any,.ro 2 (ys.map eA) .any] [] (fun r σ=>r=.bool (decide (xs=ys))∧σ=[]):=by
 refine bS 26 [0,1,4,5,10,12,13,14,24] Tryz.func128 ?_;refine gS (i:=0) rfl fun hm=> ?_
 rw[List.length_map]at hm;unfold maxLen at hm;refine eX ?_;refine oQ ?_;refine qI ?_;refine qH ?_;refine aB rfl (fun g1=> ?_) (fun g1=> ?_)
 ·have hE:decide (xs=ys)=false:=decide_eq_false (by rintro rfl;simp at g1);refine bF ?_;exact aD aE ⟨by rw[hE];rfl,rfl⟩ aA
 have hl:xs.length=ys.length:=by simp at g1;omega
 refine cX ?_;refine nR ?_;refine lp (β:=Nat) (fun k=>⟨[(0,.ro 2 (xs.map eA) .any),(1,.ro 2 (ys.map eA) .any),(12,.int .i64 xs.length),(13,.int .i64 k)],[]⟩) (fun k=>k≤xs.length∧xs.take k=ys.take k) (fun k=>xs.length-k) 0 aJ ⟨Nat.zero_le _,rfl⟩ ?_;rintro k ⟨hk,ht⟩;refine gA ?_;refine aB rfl (fun g4=> ?_) (fun g4=> ?_)
 ·have hlt:k<xs.length:=by simp at g4;omega
  obtain⟨x,hx⟩:∃x,xs[k]? =some x:=⟨_,List.getElem?_eq_getElem hlt⟩
  obtain⟨y,hy⟩:∃y,ys[k]? =some y:=⟨_,List.getElem?_eq_getElem (by omega)⟩
  have hox1:=hox x (List.mem_of_getElem? hx);have hoy1:=hoy y (List.mem_of_getElem? hy);refine eW ?_;refine fJ [(0,true),(1,true),(2,true),(3,true),(4,true),(5,true),(6,true),(7,true),(8,true)] ?_;refine lF ?_;refine pY ?_;refine lF ?_;refine pY ?_;refine fP rfl (SU hox1 hoy1 (E rfl) (E rfl)) rfl ?_;refine jI ?_;refine aB rfl (fun g6=> ?_) (fun g6=> ?_)
  ·have hne:x≠y:=by intro e;subst e;simp at g6
   have hE:decide (xs=ys)=false:=decide_eq_false (by rintro rfl;rw[hx]at hy;exact hne (Option.some.inj hy));refine bF ?_;exact aD aE ⟨by rw[hE];rfl,rfl⟩ aA
  refine jH ?_;have hxy:x=y:=by first|simpa using g6|(simp at g6;omega)
  refine⟨k+1,⟨hlt,by rw[List.take_add_one,List.take_add_one,ht,hx,hy,hxy]⟩,by show xs.length-(k+1)<xs.length-k;omega, ?_⟩;exact aJ
 have hE:decide (xs=ys)=true:=decide_eq_true (by simp at g4;rwa [List.take_of_length_le (by omega),List.take_of_length_le (by omega)]at ht);refine bF ?_;exact aD aE ⟨by rw[hE];rfl,rfl⟩ aA
theorem aHB(xs ys:List Gl)(hox:∀x∈xs,(fun _:Gl=>True) x)(hoy:∀y∈ys,(fun _:Gl=>True) y):SCall Tryz.prog 127 [.ro 3 (xs.map eU) .any,.ro 3 (ys.map eU) .any] [] (fun r σ=>r=.bool (decide (xs=ys))∧σ=[]):=by
 refine bS 26 [0,1,4,5,10,12,13,14,24] Tryz.func127 ?_;refine gS (i:=0) rfl fun hm=> ?_
 rw[List.length_map]at hm;unfold maxLen at hm;refine eX ?_;refine oQ ?_;refine qI ?_;refine qH ?_;refine aB rfl (fun g1=> ?_) (fun g1=> ?_)
 ·have hE:decide (xs=ys)=false:=decide_eq_false (by rintro rfl;simp at g1);refine bF ?_;exact aD aE ⟨by rw[hE];rfl,rfl⟩ aA
 have hl:xs.length=ys.length:=by simp at g1;omega
 refine cX ?_;refine nR ?_;refine lp (β:=Nat) (fun k=>⟨[(0,.ro 3 (xs.map eU) .any),(1,.ro 3 (ys.map eU) .any),(12,.int .i64 xs.length),(13,.int .i64 k)],[]⟩) (fun k=>k≤xs.length∧xs.take k=ys.take k) (fun k=>xs.length-k) 0 aJ ⟨Nat.zero_le _,rfl⟩ ?_;rintro k ⟨hk,ht⟩;refine gA ?_;refine aB rfl (fun g4=> ?_) (fun g4=> ?_)
 ·have hlt:k<xs.length:=by simp at g4;omega
  obtain⟨x,hx⟩:∃x,xs[k]? =some x:=⟨_,List.getElem?_eq_getElem hlt⟩
  obtain⟨y,hy⟩:∃y,ys[k]? =some y:=⟨_,List.getElem?_eq_getElem (by omega)⟩
  have hox1:=hox x (List.mem_of_getElem? hx);have hoy1:=hoy y (List.mem_of_getElem? hy);refine eW ?_;refine fJ [(0,true),(1,true),(2,true),(3,true),(4,true),(5,true),(6,true),(7,true),(8,true)] ?_;refine lF ?_;refine pY ?_;refine lF ?_;refine pY ?_;refine fP rfl (SV (E rfl) (E rfl)) rfl ?_;refine jI ?_;refine aB rfl (fun g6=> ?_) (fun g6=> ?_)
  ·have hne:x≠y:=by intro e;subst e;simp at g6
   have hE:decide (xs=ys)=false:=decide_eq_false (by rintro rfl;rw[hx]at hy;exact hne (Option.some.inj hy));refine bF ?_;exact aD aE ⟨by rw[hE];rfl,rfl⟩ aA
  refine jH ?_;have hxy:x=y:=by first|simpa using g6|(simp at g6;omega)
  refine⟨k+1,⟨hlt,by rw[List.take_add_one,List.take_add_one,ht,hx,hy,hxy]⟩,by show xs.length-(k+1)<xs.length-k;omega, ?_⟩;exact aJ
 have hE:decide (xs=ys)=true:=decide_eq_true (by simp at g4;rwa [List.take_of_length_le (by omega),List.take_of_length_le (by omega)]at ht);refine bF ?_;exact aD aE ⟨by rw[hE];rfl,rfl⟩ aA
theorem aHC(xs ys:List Nat)(hox:∀x∈xs,(fun _:Nat=>True) x)(hoy:∀y∈ys,(fun _:Nat=>True) y):SCall Tryz.prog 125 [.ro 1 (xs.map aG) .any,.ro 1 (ys.map aG) .any] [] (fun r σ=>r=.bool (decide (xs=ys))∧σ=[]):=by
 refine bS 26 [0,1,4,5,10,12,13,14,24] Tryz.func125 ?_;refine gS (i:=0) rfl fun hm=> ?_
 rw[List.length_map]at hm;unfold maxLen at hm;refine eX ?_;refine oQ ?_;refine qI ?_;refine qH ?_;refine aB rfl (fun g1=> ?_) (fun g1=> ?_)
 ·have hE:decide (xs=ys)=false:=decide_eq_false (by rintro rfl;simp at g1);refine bF ?_;exact aD aE ⟨by rw[hE];rfl,rfl⟩ aA
 have hl:xs.length=ys.length:=by simp at g1;omega
 refine cX ?_;refine nR ?_;refine lp (β:=Nat) (fun k=>⟨[(0,.ro 1 (xs.map aG) .any),(1,.ro 1 (ys.map aG) .any),(12,.int .i64 xs.length),(13,.int .i64 k)],[]⟩) (fun k=>k≤xs.length∧xs.take k=ys.take k) (fun k=>xs.length-k) 0 aJ ⟨Nat.zero_le _,rfl⟩ ?_;rintro k ⟨hk,ht⟩;refine gA ?_;refine aB rfl (fun g4=> ?_) (fun g4=> ?_)
 ·have hlt:k<xs.length:=by simp at g4;omega
  obtain⟨x,hx⟩:∃x,xs[k]? =some x:=⟨_,List.getElem?_eq_getElem hlt⟩
  obtain⟨y,hy⟩:∃y,ys[k]? =some y:=⟨_,List.getElem?_eq_getElem (by omega)⟩
  have hox1:=hox x (List.mem_of_getElem? hx);have hoy1:=hoy y (List.mem_of_getElem? hy);refine eW ?_;refine fJ [(0,true),(1,true),(2,true),(3,true),(4,true),(5,true),(6,true),(7,true),(8,true)] ?_;refine lF ?_;refine nG ?_;refine lF ?_;refine nG ?_;refine z58 ?_;refine jI ?_;refine aB rfl (fun g6=> ?_) (fun g6=> ?_)
  ·have hz:True:=True.intro;have hne:x≠y:=by intro e;subst e;simp at g6
   have hE:decide (xs=ys)=false:=decide_eq_false (by rintro rfl;rw[hx]at hy;exact hne (Option.some.inj hy));refine bF ?_;exact aD aE ⟨by rw[hE];rfl,rfl⟩ aA
  refine jH ?_;have hxy:x=y:=by first|simpa using g6|(simp at g6;omega)
  refine⟨k+1,⟨hlt,by rw[List.take_add_one,List.take_add_one,ht,hx,hy,hxy]⟩,by show xs.length-(k+1)<xs.length-k;omega, ?_⟩;exact aJ
 have hE:decide (xs=ys)=true:=decide_eq_true (by simp at g4;rwa [List.take_of_length_le (by omega),List.take_of_length_le (by omega)]at ht);refine bF ?_;exact aD aE ⟨by rw[hE];rfl,rfl⟩ aA
theorem aHD{f:FuncId}{ok:FT→Prop}(hf:(∀args w,(callFunc f args).run Tryz.prog w=.ok (.enter f args) w)∧∀x y,ok x→ok y→SCall Tryz.prog f ([]++ [.agg (dF x),.agg (dF y)]++ []) [] (fun r σ=>r=.bool (decide (x=y))∧σ=[]))(xs ys:List FT)(hox:∀x∈xs,ok x)(hoy:∀y∈ys,ok y):SCall Tryz.prog 114 [.ro 2 (xs.map dF) .any,.ro 2 (ys.map dF) .any,.fn (.func f) [] []] [] (fun r σ=>r=.bool (decide (xs=ys))∧σ=[]):=by
 refine bS 32 [0,1,2,6,7,8,9,14,15,16,17,18,30] Tryz.func114 ?_;refine gS (i:=0) rfl fun hm=> ?_
 rw[List.length_map]at hm;unfold maxLen at hm;refine eX ?_;refine oQ ?_;refine qI ?_;refine qH ?_;refine aB rfl (fun g1=> ?_) (fun g1=> ?_)
 ·have hE:decide (xs=ys)=false:=decide_eq_false (by rintro rfl;simp at g1);refine bF ?_;exact aD aE ⟨by rw[hE];rfl,rfl⟩ aA
 have hl:xs.length=ys.length:=by simp at g1;omega
 refine cX ?_;refine nR ?_;refine lp (β:=Nat) (fun k=>⟨[(1,.ro 2 (ys.map dF) .any),(2,.fn (.func f) [] []),(15,.ro 2 (xs.map dF) .any),(16,.int .i64 xs.length),(17,.int .i64 k)],[]⟩) (fun k=>k≤xs.length∧xs.take k=ys.take k) (fun k=>xs.length-k) 0 aJ ⟨Nat.zero_le _,rfl⟩ ?_;rintro k ⟨hk,ht⟩;refine gA ?_;refine aB rfl (fun g4=> ?_) (fun g4=> ?_)
 ·have hlt:k<xs.length:=by simp at g4;omega
  obtain⟨x,hx⟩:∃x,xs[k]? =some x:=⟨_,List.getElem?_eq_getElem hlt⟩
  obtain⟨y,hy⟩:∃y,ys[k]? =some y:=⟨_,List.getElem?_eq_getElem (by omega)⟩
  refine cX ?_;refine yV ?_;refine iO fun r8 h8=> ?_;intros
  refine IV ?_;refine kQ ?_;refine yV ?_;refine iO fun r9 h9=> ?_;intros
  refine mT ?_;refine kP ?_;refine kP ?_;refine pP [] rfl hf.1 (hf.2 x y (hox x (List.mem_of_getElem? hx)) (hoy y (List.mem_of_getElem? hy))) rfl aC aA ?_;rintro _ σ' ⟨rfl,rfl⟩ h29;apply aU;exact bD;refine nQ ?_;refine aB rfl (fun g7=> ?_) (fun g7=> ?_)
  ·have hne:x≠y:=by simpa using g7
   have hE:decide (xs=ys)=false:=decide_eq_false (by rintro rfl;rw[hx]at hy;exact hne (Option.some.inj hy));refine bF ?_;exact aD aE ⟨by rw[hE];rfl,rfl⟩ aA
  refine jH ?_;have hxy:x=y:=by simpa using g7
  refine⟨k+1,⟨hlt,by rw[List.take_add_one,List.take_add_one,ht,hx,hy,hxy]⟩,by show xs.length-(k+1)<xs.length-k;omega, ?_⟩;exact aJ
 have hE:decide (xs=ys)=true:=decide_eq_true (by simp at g4;rwa [List.take_of_length_le (by omega),List.take_of_length_le (by omega)]at ht);refine bF ?_;exact aD aE ⟨by rw[hE];rfl,rfl⟩ aA
theorem aHE{f:FuncId}{ok:El→Prop}(hf:(∀args w,(callFunc f args).run Tryz.prog w=.ok (.enter f args) w)∧∀x y,ok x→ok y→SCall Tryz.prog f ([]++ [.agg (eQ x),.agg (eQ y)]++ []) [] (fun r σ=>r=.bool (decide (x=y))∧σ=[]))(xs ys:List El)(hox:∀x∈xs,ok x)(hoy:∀y∈ys,ok y):SCall Tryz.prog 117 [.ro 2 (xs.map eQ) .any,.ro 2 (ys.map eQ) .any,.fn (.func f) [] []] [] (fun r σ=>r=.bool (decide (xs=ys))∧σ=[]):=by
 refine bS 32 [0,1,2,6,7,8,9,14,15,16,17,18,30] Tryz.func117 ?_;refine gS (i:=0) rfl fun hm=> ?_
 rw[List.length_map]at hm;unfold maxLen at hm;refine eX ?_;refine oQ ?_;refine qI ?_;refine qH ?_;refine aB rfl (fun g1=> ?_) (fun g1=> ?_)
 ·have hE:decide (xs=ys)=false:=decide_eq_false (by rintro rfl;simp at g1);refine bF ?_;exact aD aE ⟨by rw[hE];rfl,rfl⟩ aA
 have hl:xs.length=ys.length:=by simp at g1;omega
 refine cX ?_;refine nR ?_;refine lp (β:=Nat) (fun k=>⟨[(1,.ro 2 (ys.map eQ) .any),(2,.fn (.func f) [] []),(15,.ro 2 (xs.map eQ) .any),(16,.int .i64 xs.length),(17,.int .i64 k)],[]⟩) (fun k=>k≤xs.length∧xs.take k=ys.take k) (fun k=>xs.length-k) 0 aJ ⟨Nat.zero_le _,rfl⟩ ?_;rintro k ⟨hk,ht⟩;refine gA ?_;refine aB rfl (fun g4=> ?_) (fun g4=> ?_)
 ·have hlt:k<xs.length:=by simp at g4;omega
  obtain⟨x,hx⟩:∃x,xs[k]? =some x:=⟨_,List.getElem?_eq_getElem hlt⟩
  obtain⟨y,hy⟩:∃y,ys[k]? =some y:=⟨_,List.getElem?_eq_getElem (by omega)⟩
  refine cX ?_;refine yV ?_;refine iO fun r8 h8=> ?_;intros
  refine IV ?_;refine kQ ?_;refine yV ?_;refine iO fun r9 h9=> ?_;intros
  refine mT ?_;refine kP ?_;refine kP ?_;refine pP [] rfl hf.1 (hf.2 x y (hox x (List.mem_of_getElem? hx)) (hoy y (List.mem_of_getElem? hy))) rfl aC aA ?_;rintro _ σ' ⟨rfl,rfl⟩ h29;apply aU;exact bD;refine nQ ?_;refine aB rfl (fun g7=> ?_) (fun g7=> ?_)
  ·have hne:x≠y:=by simpa using g7
   have hE:decide (xs=ys)=false:=decide_eq_false (by rintro rfl;rw[hx]at hy;exact hne (Option.some.inj hy));refine bF ?_;exact aD aE ⟨by rw[hE];rfl,rfl⟩ aA
  refine jH ?_;have hxy:x=y:=by simpa using g7
  refine⟨k+1,⟨hlt,by rw[List.take_add_one,List.take_add_one,ht,hx,hy,hxy]⟩,by show xs.length-(k+1)<xs.length-k;omega, ?_⟩;exact aJ
 have hE:decide (xs=ys)=true:=decide_eq_true (by simp at g4;rwa [List.take_of_length_le (by omega),List.take_of_length_le (by omega)]at ht);refine bF ?_;exact aD aE ⟨by rw[hE];rfl,rfl⟩ aA
theorem aHF{f:FuncId}{ok:Co→Prop}(hf:(∀args w,(callFunc f args).run Tryz.prog w=.ok (.enter f args) w)∧∀x y,ok x→ok y→SCall Tryz.prog f ([]++ [.agg (dJ x),.agg (dJ y)]++ []) [] (fun r σ=>r=.bool (decide (x=y))∧σ=[]))(xs ys:List Co)(hox:∀x∈xs,ok x)(hoy:∀y∈ys,ok y):SCall Tryz.prog 119 [.ro 2 (xs.map dJ) .any,.ro 2 (ys.map dJ) .any,.fn (.func f) [] []] [] (fun r σ=>r=.bool (decide (xs=ys))∧σ=[]):=by
 refine bS 32 [0,1,2,6,7,8,9,14,15,16,17,18,30] Tryz.func119 ?_;refine gS (i:=0) rfl fun hm=> ?_
 rw[List.length_map]at hm;unfold maxLen at hm;refine eX ?_;refine oQ ?_;refine qI ?_;refine qH ?_;refine aB rfl (fun g1=> ?_) (fun g1=> ?_)
 ·have hE:decide (xs=ys)=false:=decide_eq_false (by rintro rfl;simp at g1);refine bF ?_;exact aD aE ⟨by rw[hE];rfl,rfl⟩ aA
 have hl:xs.length=ys.length:=by simp at g1;omega
 refine cX ?_;refine nR ?_;refine lp (β:=Nat) (fun k=>⟨[(1,.ro 2 (ys.map dJ) .any),(2,.fn (.func f) [] []),(15,.ro 2 (xs.map dJ) .any),(16,.int .i64 xs.length),(17,.int .i64 k)],[]⟩) (fun k=>k≤xs.length∧xs.take k=ys.take k) (fun k=>xs.length-k) 0 aJ ⟨Nat.zero_le _,rfl⟩ ?_;rintro k ⟨hk,ht⟩;refine gA ?_;refine aB rfl (fun g4=> ?_) (fun g4=> ?_)
 ·have hlt:k<xs.length:=by simp at g4;omega
  obtain⟨x,hx⟩:∃x,xs[k]? =some x:=⟨_,List.getElem?_eq_getElem hlt⟩
  obtain⟨y,hy⟩:∃y,ys[k]? =some y:=⟨_,List.getElem?_eq_getElem (by omega)⟩
  refine cX ?_;refine yV ?_;refine iO fun r8 h8=> ?_;intros
  refine IV ?_;refine kQ ?_;refine yV ?_;refine iO fun r9 h9=> ?_;intros
  refine mT ?_;refine kP ?_;refine kP ?_;refine pP [] rfl hf.1 (hf.2 x y (hox x (List.mem_of_getElem? hx)) (hoy y (List.mem_of_getElem? hy))) rfl aC aA ?_;rintro _ σ' ⟨rfl,rfl⟩ h29;apply aU;exact bD;refine nQ ?_;refine aB rfl (fun g7=> ?_) (fun g7=> ?_)
  ·have hne:x≠y:=by simpa using g7
   have hE:decide (xs=ys)=false:=decide_eq_false (by rintro rfl;rw[hx]at hy;exact hne (Option.some.inj hy));refine bF ?_;exact aD aE ⟨by rw[hE];rfl,rfl⟩ aA
  refine jH ?_;have hxy:x=y:=by simpa using g7
  refine⟨k+1,⟨hlt,by rw[List.take_add_one,List.take_add_one,ht,hx,hy,hxy]⟩,by show xs.length-(k+1)<xs.length-k;omega, ?_⟩;exact aJ
 have hE:decide (xs=ys)=true:=decide_eq_true (by simp at g4;rwa [List.take_of_length_le (by omega),List.take_of_length_le (by omega)]at ht);refine bF ?_;exact aD aE ⟨by rw[hE];rfl,rfl⟩ aA
theorem aHG{f:FuncId}{ok:Da→Prop}(hf:(∀args w,(callFunc f args).run Tryz.prog w=.ok (.enter f args) w)∧∀x y,ok x→ok y→SCall Tryz.prog f ([]++ [.agg (eO x),.agg (eO y)]++ []) [] (fun r σ=>r=.bool (decide (x=y))∧σ=[]))(xs ys:List Da)(hox:∀x∈xs,ok x)(hoy:∀y∈ys,ok y):SCall Tryz.prog 123 [.ro 2 (xs.map eO) .any,.ro 2 (ys.map eO) .any,.fn (.func f) [] []] [] (fun r σ=>r=.bool (decide (xs=ys))∧σ=[]):=by
 refine bS 32 [0,1,2,6,7,8,9,14,15,16,17,18,30] Tryz.func123 ?_;refine gS (i:=0) rfl fun hm=> ?_
 rw[List.length_map]at hm;unfold maxLen at hm;refine eX ?_;refine oQ ?_;refine qI ?_;refine qH ?_;refine aB rfl (fun g1=> ?_) (fun g1=> ?_)
 ·have hE:decide (xs=ys)=false:=decide_eq_false (by rintro rfl;simp at g1);refine bF ?_;exact aD aE ⟨by rw[hE];rfl,rfl⟩ aA
 have hl:xs.length=ys.length:=by simp at g1;omega
 refine cX ?_;refine nR ?_;refine lp (β:=Nat) (fun k=>⟨[(1,.ro 2 (ys.map eO) .any),(2,.fn (.func f) [] []),(15,.ro 2 (xs.map eO) .any),(16,.int .i64 xs.length),(17,.int .i64 k)],[]⟩) (fun k=>k≤xs.length∧xs.take k=ys.take k) (fun k=>xs.length-k) 0 aJ ⟨Nat.zero_le _,rfl⟩ ?_;rintro k ⟨hk,ht⟩;refine gA ?_;refine aB rfl (fun g4=> ?_) (fun g4=> ?_)
 ·have hlt:k<xs.length:=by simp at g4;omega
  obtain⟨x,hx⟩:∃x,xs[k]? =some x:=⟨_,List.getElem?_eq_getElem hlt⟩
  obtain⟨y,hy⟩:∃y,ys[k]? =some y:=⟨_,List.getElem?_eq_getElem (by omega)⟩
  refine cX ?_;refine yV ?_;refine iO fun r8 h8=> ?_;intros
  refine IV ?_;refine kQ ?_;refine yV ?_;refine iO fun r9 h9=> ?_;intros
  refine mT ?_;refine kP ?_;refine kP ?_;refine pP [] rfl hf.1 (hf.2 x y (hox x (List.mem_of_getElem? hx)) (hoy y (List.mem_of_getElem? hy))) rfl aC aA ?_;rintro _ σ' ⟨rfl,rfl⟩ h29;apply aU;exact bD;refine nQ ?_;refine aB rfl (fun g7=> ?_) (fun g7=> ?_)
  ·have hne:x≠y:=by simpa using g7
   have hE:decide (xs=ys)=false:=decide_eq_false (by rintro rfl;rw[hx]at hy;exact hne (Option.some.inj hy));refine bF ?_;exact aD aE ⟨by rw[hE];rfl,rfl⟩ aA
  refine jH ?_;have hxy:x=y:=by simpa using g7
  refine⟨k+1,⟨hlt,by rw[List.take_add_one,List.take_add_one,ht,hx,hy,hxy]⟩,by show xs.length-(k+1)<xs.length-k;omega, ?_⟩;exact aJ
 have hE:decide (xs=ys)=true:=decide_eq_true (by simp at g4;rwa [List.take_of_length_le (by omega),List.take_of_length_le (by omega)]at ht);refine bF ?_;exact aD aE ⟨by rw[hE];rfl,rfl⟩ aA
theorem aEn{f:FuncId}{ok:Ins→Prop}(hf:(∀args w,(callFunc f args).run Tryz.prog w=.ok (.enter f args) w)∧∀x y,ok x→ok y→SCall Tryz.prog f ([]++ [.agg ((iv .any) x),.agg ((iv .any) y)]++ []) [] (fun r σ=>r=.bool (decide (x=y))∧σ=[]))(xs ys:List Ins)(hox:∀x∈xs,ok x)(hoy:∀y∈ys,ok y):SCall Tryz.prog 121 [.ro 4 (xs.map (iv .any)) .any,.ro 4 (ys.map (iv .any)) .any,.fn (.func f) [] []] [] (fun r σ=>r=.bool (decide (xs=ys))∧σ=[]):=by
 refine bS 32 [0,1,2,6,7,8,9,14,15,16,17,18,30] Tryz.func121 ?_;refine gS (i:=0) rfl fun hm=> ?_
 rw[List.length_map]at hm;unfold maxLen at hm;refine eX ?_;refine oQ ?_;refine qI ?_;refine qH ?_;refine aB rfl (fun g1=> ?_) (fun g1=> ?_)
 ·have hE:decide (xs=ys)=false:=decide_eq_false (by rintro rfl;simp at g1);refine bF ?_;exact aD aE ⟨by rw[hE];rfl,rfl⟩ aA
 have hl:xs.length=ys.length:=by simp at g1;omega
 refine cX ?_;refine nR ?_;refine lp (β:=Nat) (fun k=>⟨[(1,.ro 4 (ys.map (iv .any)) .any),(2,.fn (.func f) [] []),(15,.ro 4 (xs.map (iv .any)) .any),(16,.int .i64 xs.length),(17,.int .i64 k)],[]⟩) (fun k=>k≤xs.length∧xs.take k=ys.take k) (fun k=>xs.length-k) 0 aJ ⟨Nat.zero_le _,rfl⟩ ?_;rintro k ⟨hk,ht⟩;refine gA ?_;refine aB rfl (fun g4=> ?_) (fun g4=> ?_)
 ·have hlt:k<xs.length:=by simp at g4;omega
  obtain⟨x,hx⟩:∃x,xs[k]? =some x:=⟨_,List.getElem?_eq_getElem hlt⟩
  obtain⟨y,hy⟩:∃y,ys[k]? =some y:=⟨_,List.getElem?_eq_getElem (by omega)⟩
  refine cX ?_;refine yV ?_;refine iO fun r8 h8=> ?_;intros
  refine IV ?_;refine kQ ?_;refine yV ?_;refine iO fun r9 h9=> ?_;intros
  refine mT ?_;refine kP ?_;refine kP ?_;refine pP [] rfl hf.1 (hf.2 x y (hox x (List.mem_of_getElem? hx)) (hoy y (List.mem_of_getElem? hy))) rfl aC aA ?_;rintro _ σ' ⟨rfl,rfl⟩ h29;apply aU;exact bD;refine nQ ?_;refine aB rfl (fun g7=> ?_) (fun g7=> ?_)
  ·have hne:x≠y:=by simpa using g7
   have hE:decide (xs=ys)=false:=decide_eq_false (by rintro rfl;rw[hx]at hy;exact hne (Option.some.inj hy));refine bF ?_;exact aD aE ⟨by rw[hE];rfl,rfl⟩ aA
  refine jH ?_;have hxy:x=y:=by simpa using g7
  refine⟨k+1,⟨hlt,by rw[List.take_add_one,List.take_add_one,ht,hx,hy,hxy]⟩,by show xs.length-(k+1)<xs.length-k;omega, ?_⟩;exact aJ
 have hE:decide (xs=ys)=true:=decide_eq_true (by simp at g4;rwa [List.take_of_length_le (by omega),List.take_of_length_le (by omega)]at ht);refine bF ?_;exact aD aE ⟨by rw[hE];rfl,rfl⟩ aA
end Go.Proofs.YtjpdadobblffmaaGreat
namespace Go.Proofs.YtjpdadobblffmaaGreat
open Go.RowKit Go.ChangeShapes Go.WideShapes Go.ChangeAt Go.Deep
attribute [local irreducible] SW RS RD fF eB
def eqM (a b:Md):Bool:=decide (a.ty=b.ty)&&decide (a.el=b.el)&&decide (a.co=b.co)&&decide (a.da=b.da)&&decide (a.im=b.im)&&decide (a.fn=b.fn)&&decide (a.tb=b.tb)&&decide (a.me=b.me)&&decide (a.gl=b.gl)&&decide (a.ex=b.ex)
theorem aEo{a b:Md}:eqM a b=true↔a=b:=by
 unfold eqM;simp only[Bool.and_eq_true,decide_eq_true_eq];constructor
 ·rintro⟨⟨⟨⟨⟨⟨⟨⟨⟨h1,h2⟩,h3⟩,h4⟩,h5⟩,h6⟩,h7⟩,h8⟩,h9⟩,h10⟩;cases a;cases b;simp_all
 ·rintro rfl;simp
theorem aBL(a:Md):eqM a a=true:=aEo.2 rfl
theorem aEp(x y:Ins):eqN x y=decide (x=y):=by
 rw[Bool.eq_iff_iff,LI,decide_eq_true_iff]
theorem aBM:(∀args w,(callFunc 122 args).run Tryz.prog w=.ok (.enter 122 args) w)∧∀x y:Ins,True→True→SCall Tryz.prog 122 ([]++ [.agg (iv .any x),.agg (iv .any y)]++ []) [] (fun r σ=>r=.bool (decide (x=y))∧σ=[]):=
 ⟨Tryz.call122,fun x y _ _=>by rw[←aEp];exact aAF .any .any x y⟩
theorem aEq:(∀args w,(callFunc 115 args).run Tryz.prog w=.ok (.enter 115 args) w)∧∀x y:FT,True→True→SCall Tryz.prog 115 ([]++ [.agg (dF x),.agg (dF y)]++ []) [] (fun r σ=>r=.bool (decide (x=y))∧σ=[]):=by
 refine⟨Tryz.call115,fun x y _ _=> ?_⟩;obtain⟨p1,v1⟩:=x;obtain⟨p2,v2⟩:=y;have hE:decide ((⟨p1,v1⟩:FT)=⟨p2,v2⟩)=if decide (p1=p2)=true then decide (v1=v2)else false:=by rw[jK,Bool.eq_iff_iff];simp
 refine bS 17 [0,1,2,3,4] Tryz.func115 ?_;unfold dF;refine cZ ?_;refine gQ fun r2 h2=> ?_;intros
 refine gQ fun r3 h3=> ?_;intros
 refine iJ ?_;refine fO ?_;refine lB Tryz.call116 (gN p1 p2) rfl aP aS ?_;refine mR ?_;refine oH ?_;refine lG rfl rfl Tryz.call116 (fun _=>(gN v1 v2)) rfl aP aS ?_;refine jM ?_;exact aD aE ⟨by rw[hE];rfl,rfl⟩ aA
theorem aEr:(∀args w,(callFunc 118 args).run Tryz.prog w=.ok (.enter 118 args) w)∧∀x y:El,True→True→SCall Tryz.prog 118 ([]++ [.agg (eQ x),.agg (eQ y)]++ []) [] (fun r σ=>r=.bool (decide (x=y))∧σ=[]):=by
 refine⟨Tryz.call118,fun x y _ _=> ?_⟩;obtain⟨p1,v1⟩:=x;obtain⟨p2,v2⟩:=y;have hE:decide ((⟨p1,v1⟩:El)=⟨p2,v2⟩)=if(p1==p2)=true then decide (v1=v2)else false:=by rw[jK,Bool.eq_iff_iff];simp
 refine bS 17 [0,1,2,3,4] Tryz.func118 ?_;unfold eQ;refine cZ ?_;refine gQ fun r2 h2=> ?_;intros
 refine gQ fun r3 h3=> ?_;intros
 refine iJ ?_;refine fO ?_;refine BN ?_;refine oH ?_;refine lG rfl rfl Tryz.call116 (fun _=>(gN v1 v2)) rfl aP aS ?_;refine jM ?_;exact aD aE ⟨by rw[hE];rfl,rfl⟩ aA
theorem aEs:(∀args w,(callFunc 120 args).run Tryz.prog w=.ok (.enter 120 args) w)∧∀x y:Co,True→True→SCall Tryz.prog 120 ([]++ [.agg (dJ x),.agg (dJ y)]++ []) [] (fun r σ=>r=.bool (decide (x=y))∧σ=[]):=by
 refine⟨Tryz.call120,fun x y _ _=> ?_⟩;obtain⟨p1,v1⟩:=x;obtain⟨p2,v2⟩:=y;have hE:decide ((⟨p1,v1⟩:Co)=⟨p2,v2⟩)=if decide (p1=p2)=true then decide (v1=v2)else false:=by rw[jK,Bool.eq_iff_iff];simp
 refine bS 17 [0,1,2,3,4] Tryz.func120 ?_;unfold dJ;refine cZ ?_;refine gQ fun r2 h2=> ?_;intros
 refine gQ fun r3 h3=> ?_;intros
 refine iJ ?_;refine fO ?_;refine lB Tryz.call116 (gN p1 p2) rfl aP aS ?_;refine mR ?_;refine oH ?_;refine lG rfl rfl Tryz.call121 (fun _=>(aEn aBM v1 v2 (fun _ _=>True.intro) (fun _ _=>True.intro))) rfl aP aS ?_;refine jM ?_;exact aD aE ⟨by rw[hE];rfl,rfl⟩ aA
theorem aEt:(∀args w,(callFunc 124 args).run Tryz.prog w=.ok (.enter 124 args) w)∧∀x y:Da,True→True→SCall Tryz.prog 124 ([]++ [.agg (eO x),.agg (eO y)]++ []) [] (fun r σ=>r=.bool (decide (x=y))∧σ=[]):=by
 refine⟨Tryz.call124,fun x y _ _=> ?_⟩;obtain⟨p1,v1⟩:=x;obtain⟨p2,v2⟩:=y;have hE:decide ((⟨p1,v1⟩:Da)=⟨p2,v2⟩)=if(p1==p2)=true then decide (v1=v2)else false:=by rw[jK,Bool.eq_iff_iff];simp
 refine bS 17 [0,1,2,3,4] Tryz.func124 ?_;unfold eO;refine cZ ?_;refine gQ fun r2 h2=> ?_;intros
 refine gQ fun r3 h3=> ?_;intros
 refine iJ ?_;refine fO ?_;refine BN ?_;refine oH ?_;refine lG rfl rfl Tryz.call125 (fun _=>(aHC v1 v2 (fun _ _=>True.intro) (fun _ _=>True.intro))) rfl aP aS ?_;refine jM ?_;exact aD aE ⟨by rw[hE];rfl,rfl⟩ aA
theorem VW(a c:Md)(ha:a.W)(hc:c.W):SCall Tryz.prog 52 [.agg (aZ a),.agg (aZ c)] [] (fun r σ=>r=.bool (eqM a c)∧σ=[]):=by
 obtain⟨a1,a2,-,-,-⟩:=ha;obtain⟨c1,c2,-,-,-⟩:=hc;obtain⟨ty,im,fn,tb,me,gl,ex,el,co,da⟩:=a;obtain⟨ty',im',fn',tb',me',gl',ex',el',co',da'⟩:=c;dsimp only at a1 a2 c1 c2;have hE:∀(a b c d e f g h i j:Bool),(if(if(if(if(if(if(if(if(if a=true then b else false)=true then c else false)=true then d else false)=true then e else false)=true then f else false)=true then g else false)=true then h else false)=true then i else false)=true then j else false)=(a&&b&&c&&d&&e&&f&&g&&h&&i&&j):=by
  intro a b c d e f g h i j;simp only[jK]
 refine bS 81 [0,1,2,3,4,5,6,7,8] Tryz.func52 ?_;unfold aZ;dsimp only;refine cZ ?_;refine gQ fun r2 h2=> ?_;intros
 refine gQ fun r3 h3=> ?_;intros
 refine iJ ?_;refine fO ?_;refine lB Tryz.call114 (aHD aEq ty ty' (fun _ _=>True.intro) (fun _ _=>True.intro)) rfl aP aS ?_;refine iJ ?_;refine fO ?_;refine lB Tryz.call117 (aHE aEr el el' (fun _ _=>True.intro) (fun _ _=>True.intro)) rfl aP aS ?_;refine iJ ?_;refine fO ?_;refine lB Tryz.call119 (aHF aEs co co' (fun _ _=>True.intro) (fun _ _=>True.intro)) rfl aP aS ?_;refine iJ ?_;refine fO ?_;refine lB Tryz.call123 (aHG aEt da da' (fun _ _=>True.intro) (fun _ _=>True.intro)) rfl aP aS ?_;refine lO ?_;refine kG ?_;refine kH ?_;refine kH ?_;refine uF ?_;refine mR ?_;refine oH ?_;refine lG rfl rfl Tryz.call126 (fun _=>(aHz im im' a1 c1)) rfl aP aS ?_;refine uF ?_;refine mR ?_;refine oH ?_;refine lG rfl rfl Tryz.call116 (fun _=>(gN fn fn')) rfl aP aS ?_;refine uF ?_;refine wP ?_;refine HE ?_;refine RR ?_;refine HE ?_;refine lg rfl rfl (FA (a:=tb) (b:=tb') (W rfl id) (W rfl id)) rfl ?_;refine uF ?_;refine wP ?_;refine HE ?_;refine RR ?_;refine HE ?_;refine lg rfl rfl (FA (a:=me) (b:=me') (W rfl id) (W rfl id)) rfl ?_;refine uF ?_;refine mR ?_;refine oH ?_;refine lG rfl rfl Tryz.call127 (fun _=>(aHB gl gl' (fun _ _=>True.intro) (fun _ _=>True.intro))) rfl aP aS ?_;refine uF ?_;refine mR ?_;refine oH ?_;refine lG rfl rfl Tryz.call128 (fun _=>(aHA ex ex' a2 c2)) rfl aP aS ?_
 refine jM ?_;exact aD aE ⟨by simp only[fG];rw[hE];rfl,rfl⟩ aA
theorem aBN{a b:Nat}{x:Nat}(h:(if decide ((x:Int)<(a:Nat))=true then decide ((x:Int)<(b:Nat))else false)=true):x<a∧x<b:=by
 rw[jK]at h;simp only[Bool.and_eq_true,decide_eq_true_eq]at h;omega
end Go.Proofs.YtjpdadobblffmaaGreat
namespace Go.Proofs.YtjpdadobblffmaaGreat
open Go.RowKit Go.ChangeShapes Go.WideShapes Go.ChangeAt Go.Deep
def smallM:Md:=⟨[⟨[1,1],[1]⟩],[],[0],HR,HR,[],[⟨[97,100,100],0⟩],[],[⟨[],[⟨32,0,0,[]⟩,⟨32,1,0,[]⟩,⟨106,0,0,[]⟩]⟩],[]⟩
def fun0:Md:= { md0 with fn:=[0] }
theorem small_wo:smallM.WO:=by
 refine⟨⟨by simp[smallM], ?_, ?_,by simp[smallM],by simp[smallM]⟩, ?_,by simp[smallM]⟩
 ·intro x hx;obtain rfl:x=⟨[97,100,100],0⟩:=by simpa[smallM]using hx
  exact⟨by decide,by decide⟩
 ·intro x hx;obtain rfl:x=⟨[],[⟨32,0,0,[]⟩,⟨32,1,0,[]⟩,⟨106,0,0,[]⟩]⟩:=by simpa[smallM]using hx
  decide
 ·intro x hx;obtain rfl:x=⟨[],[⟨32,0,0,[]⟩,⟨32,1,0,[]⟩,⟨106,0,0,[]⟩]⟩:=by simpa[smallM]using hx
  intro i hi;simp only[List.mem_cons,List.not_mem_nil,or_false]at hi;rcases hi with rfl|rfl|rfl<;>exact⟨by decide,by decide,by decide,by decide,by decide⟩
theorem aEu:oO smallM=true:=by decide
theorem VX:(eL smallM).length≤8000∧8<(eL smallM).length:=by
 have h1:gE ⟨32,0,0,[]⟩=[32,0]:=by
  have f:bA 32=3:=by decide
  simp[gE,fU,f,tO]
 have h2:gE ⟨32,1,0,[]⟩=[32,1]:=by
  have f:bA 32=3:=by decide
  simp[gE,fU,f,tO]
 have h3:gE ⟨106,0,0,[]⟩=[106]:=by
  have f:bA 106=1:=by decide
  simp[gE,fU,f]
 have:(eL smallM).length=41:=by
  simp[eL,smallM,headB,bB,aY,tO,vE,kB,cC,nC,bI,kC,bY,iK,h1,h2,h3,gK,HR]
 omega
theorem BA:kD smallM=true:=by
 rw[sX,aEu,Bool.true_and];exact decide_eq_true VX.1
theorem JS:mW smallM=eL smallM:=if_pos BA
theorem YG:wV (mW smallM)=(smallM,0):=by rw[JS];exact PK BA small_wo.ok
theorem aBO:∀c∈mW smallM,c<256:=MB small_wo
theorem aEv:kD md0=true:=by
 have h:(eL md0).length=8:=by simp[eL,md0,headB,bB,gK,HR]
 rw[sX,show oO md0=true by decide,Bool.true_and,h];decide
theorem aEw:(mW md0).length=8:=by
 unfold mW;rw[if_pos aEv];simp[eL,md0,headB,bB,gK,HR]
theorem MF:fun0.WO:=⟨⟨by simp[fun0,md0],by simp[fun0,md0],by simp[fun0,md0],by simp[fun0,md0],by simp[fun0,md0]⟩,by simp[fun0,md0],by simp[fun0,md0]⟩
theorem aBP:kD fun0=false:=by rw[sX,show oO fun0=false by decide];rfl
theorem aJW:wV [120]=(md0,1):=by
 unfold wV;rw[if_neg (by decide),if_pos (by decide)]
theorem aBQ:eqM smallM md0=false:=by decide
end Go.Proofs.YtjpdadobblffmaaGreat
namespace Go.Proofs.YtjpdadobblffmaaGreat
open Go.RowKit Go.ChangeShapes Go.WideShapes Go.ChangeAt Go.Deep
attribute [local irreducible] SW RS RD fF eB
def aJX (x:Ins):List AV:=[.int .i64 x.op,.int .i64 x.a,.int .i64 x.b,.ro 0 [] .nil]
theorem yH{l:List Ins}(h:∀x∈l,x.l=[]){k:Rk}:VLe (.ro 4 (l.map aJX) k) (.ro 4 (l.map (iv .any)) k):=by
 refine VLe.ro (by simp) ?_ ?_
 ·intro x hx;simp only[List.mem_map]at hx;obtain⟨o,-,rfl⟩:=hx;exact⟨rfl,by simp[iv,AV.cell]⟩
 ·intro i e e' h1 h2;simp only[List.getElem?_map,Option.map_eq_some_iff]at h1 h2;obtain⟨o,ho,rfl⟩:=h1;obtain⟨o',ho',rfl⟩:=h2;obtain rfl:=Option.some.inj (ho.symm.trans ho');have hl:=h o (List.mem_of_getElem? ho);refine⟨rfl,fun j a a' ha ha'=> ?_⟩;unfold iv at ha';rw[hl]at ha'
  match j with
  |0=>cases ha;cases ha';exact VLe.refl _
  |1=>cases ha;cases ha';exact VLe.refl _
  |2=>cases ha;cases ha';exact VLe.refl _
  |3=>cases ha;cases ha';exact VLe.empty
  | _ +4=>cases ha
theorem DC{es:List (List AV)}:VLe (.agg [.ro 0 [] .nil,.ro 4 es .any]) (.agg [.ro 1 ([].map aK) .any,.ro 4 es .any]):=by
 refine VLe.agg rfl fun j a a' ha ha'=> ?_
 match j with
 |0=>cases ha;cases ha';exact VLe.empty
 |1=>cases ha;cases ha';exact VLe.refl _
 | _ +2=>cases ha
theorem VY:VLe (.agg [.ro 0 [] .nil,.ro 0 [] .nil,.ro 0 [] .nil,.bool false,.int .i64 0,.int .i64 0,.bool false,.int .i64 0,.int .i64 0,.ro 0 [] .nil,.ro 0 [] .nil,.ro 0 [] .nil,.ro 0 [] .nil,.ro 0 [] .nil]) (.agg (aZ md0)):=by
 refine VLe.agg rfl fun j a a' ha ha'=> ?_
 match j with
 |0=>cases ha;cases ha';exact VLe.empty
 |1=>cases ha;cases ha';exact VLe.empty
 |2=>cases ha;cases ha';exact VLe.empty
 |3=>cases ha;cases ha';exact VLe.refl _
 |4=>cases ha;cases ha';exact VLe.refl _
 |5=>cases ha;cases ha';exact VLe.refl _
 |6=>cases ha;cases ha';exact VLe.refl _
 |7=>cases ha;cases ha';exact VLe.refl _
 |8=>cases ha;cases ha';exact VLe.refl _
 |9=>cases ha;cases ha';exact VLe.empty
 |10=>cases ha;cases ha';exact VLe.empty
 |11=>cases ha;cases ha';exact VLe.empty
 |12=>cases ha;cases ha';exact VLe.empty
 |13=>cases ha;cases ha';exact VLe.empty
 | _ +14=>cases ha
theorem FB:VLe (.agg [.ro 0 [] .nil,.ro 0 [] .nil,.ro 1 [[.int .i64 0]] .any,.bool false,.int .i64 0,.int .i64 0,.bool false,.int .i64 0,.int .i64 0,.ro 0 [] .nil,.ro 0 [] .nil,.ro 0 [] .nil,.ro 0 [] .nil,.ro 0 [] .nil]) (.agg (aZ fun0)):=by
 refine VLe.agg rfl fun j a a' ha ha'=> ?_
 match j with
 |0=>cases ha;cases ha';exact VLe.empty
 |1=>cases ha;cases ha';exact VLe.empty
 |2=>cases ha;cases ha';exact VLe.refl _
 |3=>cases ha;cases ha';exact VLe.refl _
 |4=>cases ha;cases ha';exact VLe.refl _
 |5=>cases ha;cases ha';exact VLe.refl _
 |6=>cases ha;cases ha';exact VLe.refl _
 |7=>cases ha;cases ha';exact VLe.refl _
 |8=>cases ha;cases ha';exact VLe.refl _
 |9=>cases ha;cases ha';exact VLe.empty
 |10=>cases ha;cases ha';exact VLe.empty
 |11=>cases ha;cases ha';exact VLe.empty
 |12=>cases ha;cases ha';exact VLe.empty
 |13=>cases ha;cases ha';exact VLe.empty
 | _ +14=>cases ha
def smallIs:List Ins:=[⟨32,0,0,[]⟩,⟨32,1,0,[]⟩,⟨106,0,0,[]⟩]
theorem wH:SCall Tryz.prog 50 [] [] (fun y σ=>y=.agg (aZ smallM)∧σ=[]):=by
 refine bS 15 [0] Tryz.func50 ?_;refine cZ ?_;refine iO fun r0 h0=> ?_;intros
 refine pO ?_;refine cZ ?_;refine eC fun r1 h1=> ?_;intros
 refine iW (j:=1) rfl bK (aN bC (by simp)) ?_;refine eC fun r2 h2=> ?_;intros
 refine iW (j:=2) rfl bK (aN bC (by simp)) ?_;refine lE ?_;refine eC fun r4 h4=> ?_;intros
 refine iW (j:=4) rfl bK (aN bC (by simp)) ?_;refine eC fun r5 h5=> ?_;intros
 refine iW (j:=5) rfl bK (aN bC (by simp)) ?_;refine lE ?_;refine eC fun r7 h7=> ?_;intros
 refine iW (j:=7) rfl bK (aN bC (by simp)) ?_;refine qM ?_;refine lE ?_;refine eC fun r11 h11=> ?_;intros
 refine iW (j:=11) rfl bK (aN bC (by simp)) ?_;refine iR (eE (j:=11) rfl (yH (l:=smallIs) (by simp[smallIs]))) ?_;refine lE ?_;refine iR (eE (j:=12) rfl DC) ?_;refine eC fun r13 h13=> ?_;intros
 refine iW (j:=13) rfl bK (aN bC (by simp)) ?_;refine lE ?_;refine lU ?_;refine an ?_;refine dZ (iG (r:=r0) (cs':=aZ smallM) cE (.cons (.refl _) (.cons (.le VLe.empty) (.cons (.refl _) (.cons (.refl _) (.cons (.refl _) (.cons (.refl _) (.cons (.refl _) (.cons (.refl _) (.cons (.refl _) (.cons (.le VLe.empty) (.cons (.refl _) (.cons (.le VLe.empty) (.cons (.refl _) (.cons (.le VLe.empty) .nil))))))))))))))) ?_;refine aI ?_;exact aD aE ⟨by rfl,rfl⟩ aA
theorem JT:(mW smallM).length≤8000∧8<(mW smallM).length:=by rw[JS];exact VX
theorem SX:SCall Tryz.prog 16 [] [] (fun y σ=>y=.bool true∧σ=[]):=by
 have w1:=vO (mW smallM) (by have:=JT.1;omega) aBO;rw[YG]at w1;have w2:=vO [120] (by decide) (by decide);rw[aJW]at w2;have w3:=zR smallM small_wo;rw[BA]at w3;have w4:=VW smallM smallM small_wo.w small_wo.w;rw[aBL]at w4;have w5:=VW smallM md0 small_wo.w wo0.w;rw[aBQ]at w5;have w6:=qQ md0 wo0;have w7:=zR fun0 MF;rw[aBP]at w7;have h8:=JT.2;refine bS 59 [0,1,2,3,4,6] Tryz.func16 ?_;refine qK ?_;refine yJ [] Tryz.call50 wH ?_;refine iO fun r1 h1=> ?_;intros
 refine lU ?_;refine nH ?_;refine qN Tryz.call18 (qQ smallM small_wo) rfl bM kA ?_;rintro _ σ' ⟨q9,rfl,rfl⟩ h9
 replace h9:=cB h9;repeat rcases h9 with⟨_,h9⟩
 apply aU;exact bD;refine iW (j:=9) rfl bK (aN bC (by simp)) ?_;refine gZ ?_;refine cw [] Tryz.call20 w1 rfl aC aA ?_;rintro _ σ' ⟨rfl,rfl⟩ h12;refine nE ?_;refine iO fun r3 h3=> ?_;intros
 apply MZ;rfl;rfl;rfl;rfl;exact mP;refine iX ?_;refine eC fun r16 h16=> ?_;intros
 refine cvm (len:=1) cE (by decide) ?_;refine iW (j:=17) rfl bK (aN bC (by simp)) ?_;refine cw [] Tryz.call20 w2 rfl aC aA ?_;rintro _ σ' ⟨rfl,rfl⟩ h18;refine nE ?_;refine iO fun r5 h5=> ?_;intros
 apply MZ;rfl;rfl;rfl;rfl;exact mP;refine iX ?_;refine kP ?_;refine lB Tryz.call51 w3 rfl aP aS ?_;refine jU ?_;refine qV ?_;refine AJ ?_;rw[show decide ((8:Int)<((mW smallM).length:Int))=true from decide_eq_true (by omega)];refine kH ?_;refine pW ?_;rw[show((0:Int)==0)=true from rfl];refine uF ?_;refine yW ?_;refine aCV ?_;refine gy rfl rfl ?_;refine lB Tryz.call52 w4 rfl aP aS ?_;refine uF ?_;refine yW ?_;refine aGj ?_;refine iR (eE (j:=39) rfl VY) ?_;refine gy rfl rfl ?_;refine lB Tryz.call52 w5 rfl aP aS ?_;refine rG ?_;rw[show(!false)=true from rfl];refine kH ?_;refine pW ?_;rw[show((1:Int)==1)=true from rfl];refine uF ?_;refine lo (aF (E rfl)) rfl ?_;refine aGj ?_;refine iR (eE (j:=48) rfl VY) ?_;refine gy rfl rfl ?_;refine qN Tryz.call18 w6 rfl bM kA ?_;rintro _ σ' ⟨q49,rfl,rfl⟩ h49
 replace h49:=cB h49;repeat rcases h49 with⟨_,h49⟩
 apply aU;exact bD;refine qV ?_;refine pW ?_;rw[aEw,show(((8:Nat):Int)==8)=true from rfl];refine uF ?_;refine lo (aF (E rfl)) rfl ?_;refine fz4 fun r54 h54=> ?_;intros
 refine iW (j:=54) rfl bK (aN bC (by simp)) ?_;refine aGj ?_;refine iR (eE (j:=55) rfl FB) ?_;refine gy rfl rfl ?_;refine lB Tryz.call51 w7 rfl aP aS ?_;refine WZ ?_;exact aD aE ⟨by rfl,rfl⟩ aA
def b1 (w:Int):Int:=IntKind.wrap .i64 ((BitVec.ofInt (IntKind.bits .i64) w&&&BitVec.ofInt (IntKind.bits .i64) 1).toNat:Int)
def b3 (w:Int):Int:=IntKind.wrap .i64 ((BitVec.ofInt (IntKind.bits .i64) w&&&BitVec.ofInt (IntKind.bits .i64) 3).toNat:Int)
theorem aBR(w:Int):b1 w=0∨b1 w=1:=by
 have h:(BitVec.ofInt (IntKind.bits .i64) w&&&BitVec.ofInt (IntKind.bits .i64) 1).toNat≤1:=by
  rw[BitVec.toNat_and];exact Nat.and_le_right
 unfold b1;rw[fX (by omega) (by omega)];omega
def uD (ps:List Int):List Int:=(ps.take 5).map fun p=>1+b1 p
def uE (r:Int):List Int:=if(if decide (0<b3 r)=true then decide (b3 r<3)else false)=true then [b3 r]else []
def qF:List Ins:=[⟨32,0,0,[]⟩]
def gU (pr rs:List Int) (co:List Co):Md:=⟨[⟨pr,rs⟩,⟨[],[]⟩,⟨[1],[1]⟩,⟨[2,1],[2]⟩],[⟨[119],[102],2⟩,⟨[119],[103],1⟩],[0,3],⟨true,4,-1⟩,⟨true,1,3⟩,[⟨true,1,0⟩,⟨false,2,5⟩],[⟨[109,97,105,110],2⟩],[⟨0,[0,2,3]⟩],co,[]⟩
def aHH (pr rs:List Int) (q:Nat):List AV:=[.ro 2 ((gU pr rs []).ty.map dF) .any,.ro 3 ((gU pr rs []).im.map eT) .any,.ro 1 ([0,3].map aK) .any,.bool true,.int .i64 4,.int .i64 (-1),.bool true,.int .i64 1,.int .i64 3,
 .ro 3 ((gU pr rs []).gl.map eU) .any,.ro 2 ((gU pr rs []).ex.map eA) .any,.ro 2 ((gU pr rs []).el.map eQ) .any,.own q 0 2,.ro 2 ([].map eO) .any]
theorem VZ:VLe (.agg [.ro 0 [] .nil,.ro 0 [] .nil]) (.agg (dF ⟨[],[]⟩)):=by
 refine VLe.agg rfl fun j a a' ha ha'=> ?_
 match j with
 |0=>cases ha;cases ha';exact VLe.empty
 |1=>cases ha;cases ha';exact VLe.empty
 | _ +2=>cases ha
theorem QH{ps:List Int}{j:Nat}{w:Int}(h:ps[j]? =some w):(ps.take j).map (fun p=>1+b1 p)++ [1+b1 w]=(ps.take (j+1)).map (fun p=>1+b1 p):=by
 rw[List.take_add_one,h];simp
theorem aBS(ps:List Int)(r:Int):SCall Tryz.prog 25 [.ro 1 (ps.map aK) .any,.int .i64 r] [] (fun y σ=>∃q,y=.agg (aHH (uD ps) (uE r) q)∧σ=[(q,.arr 44 2 [[.ro 0 [] .nil,.ro 0 [] .nil],dJ ⟨[],qF⟩])]):=by
 refine bS 72 [0,1,4,5,6,15,36] Tryz.func25 ?_;refine cZ ?_;refine iO fun r4 h4=> ?_;intros
 refine pO ?_;refine cZ ?_;refine lE ?_;refine iO fun r5 h5=> ?_;intros
 refine gT ?_;refine cH (ks:=[0,1,4,5,6,15,36]) r5 0 3 1 (by decide) bC rfl (by decide) fun p0 hp0=> ?_
 simp only[aO,aT,and_true]at hp0;repeat rcases hp0 with⟨_,hp0⟩
 apply Exists.intro;apply And.intro;exact cE;refine jV ?_;refine lp (β:=Nat×Nat) (fun b=>⟨[(0,.ro 1 (ps.map aK) .any),(1,.int .i64 r),(4,.ptr r4 0),(5,.ptr r5 0),(6,.int .i64 b.1)],[(r5,.box 50 [.own b.2 0 ((ps.take b.1).map fun p=>1+b1 p).length,.ro 0 [] .nil]),(b.2,.arr 3 1 (((ps.take b.1).map fun p=>1+b1 p).map aK)),(r4,.box 33 [.ro 0 [] .nil,.ro 0 [] .nil,.ro 0 [] .nil,.bool false,.int .i64 0,.int .i64 0,.bool false,.int .i64 0,.int .i64 0,.ro 0 [] .nil,.ro 0 [] .nil,.ro 0 [] .nil,.ro 0 [] .nil,.ro 0 [] .nil])]⟩) (fun b=>b.1≤ps.length∧b.1≤5∧Nq b.2 r5∧Nq b.2 r4) (fun b=>5-b.1) (0,p0) aJ ⟨Nat.zero_le _,Nat.zero_le _,by show Nq p0 r5;(exact cA),by show Nq p0 r4;(exact cA)⟩ ?_;rintro⟨j,p⟩ ⟨hj,hj5,n1,n2⟩;dsimp only at hj hj5 n1 n2⊢;have hpl:((ps.take j).map fun p=>1+b1 p).length=j:=by simp;omega
 refine nF ?_;refine OJ ?_;refine NZ ?_;refine tH ?_;refine aB rfl (fun g3=> ?_) (fun g3=> ?_)
 ·have hlt:j<ps.length∧j<5:=aBN g3;obtain⟨w,hw⟩:∃w,ps[j]? =some w:=⟨_,List.getElem?_eq_getElem hlt.1⟩
  have hb:=aBR w;unfold b1 at hb;refine aI ?_;refine fJ [(0,true),(1,true),(2,true),(3,true),(4,true),(5,true),(6,true),(7,true),(8,false),(9,false),(10,true),(11,false)] ?_;refine iC ?_;refine lF ?_;refine nG ?_;refine fP rfl (iP (E rfl) (E rfl)) rfl ?_;refine WW ?_;refine HL fun r26 h26=> ?_;intros
  refine eZ rfl (((ps.take j).map (fun p=>1+b1 p)++ [1+b1 w]).map aK) ((ps.take j).map (fun p=>1+b1 p)++ [1+b1 w]).length ?_;refine bE fun r27 h27=> ?_;intros
  refine UG ?_;refine CC ?_;refine lJ ?_;refine⟨(j+1,r27),⟨hlt.1,hlt.2,by show Nq r27 r5;(exact cA),by show Nq r27 r4;(exact cA)⟩,by show 5-(j+1)<5-j;omega, ?_⟩;dsimp only;rw[←QH hw];exact aJ
 rw[show(ps.take j).map (fun p=>1+b1 p)=uD ps by
   unfold uD;rcases Nat.lt_or_ge j 5 with h5j|h5j
   ·have:j=ps.length:=by
     rcases Nat.lt_or_ge j ps.length with h|h
     ·rw[decide_eq_true (by omega),if_pos rfl,decide_eq_true (by omega)]at g3;cases g3
     ·omega
    subst this;rw[List.take_length,List.take_of_length_le (by omega)]
   ·obtain rfl:j=5:=by omega
    rfl]
 refine dZ (kT (r:=r5) (q:=p) cE bK (.cons (aN bC (by simp)) (.cons (.refl _) .nil))) ?_;refine cX ?_;refine lo (iP (E rfl) (E rfl)) rfl ?_;refine aFe ?_;refine NZ ?_;refine tH ?_;refine sja (β:=Unit) (fun _=>⟨[(4,.ptr r4 0),(5,.ptr r5 0)],[(r5,.box 50 [.ro 1 ((uD ps).map aK) .any,.ro 1 ((uE r).map aK) .any]),(r4,.box 33 [.ro 0 [] .nil,.ro 0 [] .nil,.ro 0 [] .nil,.bool false,.int .i64 0,.int .i64 0,.bool false,.int .i64 0,.int .i64 0,.ro 0 [] .nil,.ro 0 [] .nil,.ro 0 [] .nil,.ro 0 [] .nil,.ro 0 [] .nil])]⟩) (fun _=>True) ?_ ?_
 ·refine aB rfl (fun g6=> ?_) (fun g6=> ?_)
  ·rw[show uE r=[b3 r]from if_pos g6];refine cX ?_;refine lo (iP (E rfl) (E rfl)) rfl ?_;refine eC fun r39 h39=> ?_;intros
   refine yK ?_;refine iW (j:=39) rfl bK (aN bC (by simp)) ?_;refine gT ?_;exact⟨(),trivial,aJ⟩
  rw[show uE r=[] by unfold uE;exact if_neg (fun e=>by rw[show(if decide (0<b3 r)=true then decide (b3 r<3)else false)=false from g6]at e;cases e)];refine dZ (iG (r:=r5) (cs':=[.ro 1 ((uD ps).map aK) .any,.ro 1 (([]:List Int).map aK) .any]) cE (.cons (.refl _) (.cons (.le VLe.empty) .nil))) ?_;refine aI ?_;exact⟨(),trivial,aJ⟩
 rintro⟨⟩-;refine nH ?_;refine lE ?_;refine iR (eE (j:=42) rfl VZ) ?_;refine eC fun r43 h43=> ?_;intros
 refine eC fun r44 h44=> ?_;intros
 refine iW (j:=43) rfl bK (aN bC (by simp)) ?_;refine iW (j:=44) rfl bK (aN bC (by simp)) ?_;refine lE ?_;refine eC fun r46 h46=> ?_;intros
 refine eC fun r47 h47=> ?_;intros
 refine iW (j:=46) rfl bK (aN bC (by simp)) ?_;refine iW (j:=47) rfl bK (aN bC (by simp)) ?_;refine lE ?_;refine eC fun r49 h49=> ?_;intros
 refine iW (j:=49) rfl bK (aN bC (by simp)) ?_;refine qM ?_;refine eC fun r52 h52=> ?_;intros
 refine iW (j:=52) rfl bK (aN bC (by simp)) ?_;refine eC fun r53 h53=> ?_;intros
 refine iW (j:=53) rfl bK (aN bC (by simp)) ?_;refine qM ?_;refine qM ?_;refine qM ?_;refine eC fun r60 h60=> ?_;intros
 refine iW (j:=60) rfl bK (aN bC (by simp)) ?_;refine lE ?_;refine eC fun r62 h62=> ?_;intros
 refine iW (j:=62) rfl bK (aN bC (by simp)) ?_;refine eC fun r63 h63=> ?_;intros
 refine iW (j:=63) rfl bK (aN bC (by simp)) ?_;refine lE ?_;refine eC fun r65 h65=> ?_;intros
 refine iW (j:=65) rfl bK (aN bC (by simp)) ?_;refine qM ?_;refine eC fun r68 h68=> ?_;intros
 refine iW (j:=68) rfl bK (aN bC (by simp)) ?_;refine iR (eE (j:=68) rfl (yH (l:=qF) (by simp[qF]))) ?_;refine lE ?_;refine iR (eE (j:=69) rfl DC) ?_;refine eC fun r70 h70=> ?_;intros
 refine lE ?_;refine lU ?_;refine an ?_;refine dZ (iG (r:=r4) (cs':=aHH (uD ps) (uE r) r70) cE (.cons (.refl _) (.cons (.refl _) (.cons (.refl _) (.cons (.refl _) (.cons (.refl _) (.cons (.refl _) (.cons (.refl _) (.cons (.refl _) (.cons (.refl _) (.cons (.refl _) (.cons (.refl _) (.cons (.refl _) (.cons (.refl _) (.cons (.le VLe.empty) .nil))))))))))))))) ?_;refine aI ?_;exact aD aE ⟨r70,by rfl,rfl⟩ aA
def WA (q:Nat):List AV:=[.ro 2 (smallM.ty.map dF) .any,.ro 3 [] .any,.ro 1 (smallM.fn.map aK) .any,.bool false,.int .i64 0,.int .i64 0,.bool false,.int .i64 0,.int .i64 0,.ro 3 [] .any,.ro 2 (smallM.ex.map eA) .any,.ro 2 [] .any,.own q 0 1,.ro 2 [] .any]
theorem FC:SCall Tryz.prog 50 [] [] (fun y σ=>∃q,y=.agg (WA q)∧σ=[(q,.arr 44 2 [[.ro 0 [] .nil,.ro 4 (smallIs.map (iv .any)) .any]])]):=by
 refine bS 15 [0] Tryz.func50 ?_;refine cZ ?_;refine iO fun r0 h0=> ?_;intros
 refine pO ?_;refine cZ ?_;refine eC fun r1 h1=> ?_;intros
 refine iW (j:=1) rfl bK (aN bC (by simp)) ?_;refine eC fun r2 h2=> ?_;intros
 refine iW (j:=2) rfl bK (aN bC (by simp)) ?_;refine lE ?_;refine eC fun r4 h4=> ?_;intros
 refine iW (j:=4) rfl bK (aN bC (by simp)) ?_;refine eC fun r5 h5=> ?_;intros
 refine iW (j:=5) rfl bK (aN bC (by simp)) ?_;refine lE ?_;refine eC fun r7 h7=> ?_;intros
 refine iW (j:=7) rfl bK (aN bC (by simp)) ?_;refine qM ?_;refine lE ?_;refine eC fun r11 h11=> ?_;intros
 refine iW (j:=11) rfl bK (aN bC (by simp)) ?_;refine iR (eE (j:=11) rfl (yH (l:=smallIs) (by simp[smallIs]))) ?_;refine lE ?_;refine eC fun r13 h13=> ?_;intros
 refine lE ?_;refine lU ?_;refine an ?_;refine dZ (iG (r:=r0) (cs':=WA r13) cE (.cons (.refl _) (.cons (.le VLe.empty) (.cons (.refl _) (.cons (.refl _) (.cons (.refl _) (.cons (.refl _) (.cons (.refl _) (.cons (.refl _) (.cons (.refl _) (.cons (.le VLe.empty) (.cons (.refl _) (.cons (.le VLe.empty) (.cons (.refl _) (.cons (.le VLe.empty) .nil))))))))))))))) ?_;refine aI ?_;exact aD aE ⟨r13,by rfl,rfl⟩ aA
theorem WB{x x' y:AV}(h:VLe x x')(hx:x'.cell=true)(hy:y.cell=true){es:List (List AV)}(hes:iH 2 es):VLe (.ro 2 ([x,y]::es) .any) (.ro 2 ([x',y]::es) .any):=by
 refine VLe.ro (by simp) ?_ ?_
 ·intro e he;rcases List.mem_cons.1 he with rfl|he
  ·exact⟨rfl,fun a ha=>by
    simp only[List.mem_cons,List.not_mem_nil,or_false]at ha;rcases ha with rfl|rfl<;>assumption⟩
  ·exact hes e he
 ·intro i e e' h1 h2;cases i with
  |zero=>
   cases h1;cases h2
   refine⟨rfl,fun j a a' ha ha'=> ?_⟩
   match j with
   |0=>cases ha;cases ha';exact h
   |1=>cases ha;cases ha';exact VLe.refl _
   | _ +2=>cases ha
  |succ i=>
   obtain rfl:=Option.some.inj (h1.symm.trans h2);exact⟨rfl,fun j a a' ha ha'=>by obtain rfl:=Option.some.inj (ha.symm.trans ha');exact VLe.refl _⟩
theorem JU:iH 2 []:=fun x hx=>by simp at hx
def SY:Md:= { smallM with co:=[⟨[],[⟨32,0,0,[]⟩,⟨32,1,0,[]⟩]⟩] }
def uIs:List Ins:=[⟨0,0,0,[]⟩,⟨106,0,0,[]⟩]
def SZ:Md:= { smallM with co:=[⟨[],uIs⟩] }
def aBT (x:Ins):Bool:=decide (0≤x.a)&&decide (x.a≤9223372036854775807)&&x.l.all (fun n=>decide (0≤n))&&decide (x.l.length≤1000000)
theorem aJY{x:Ins}(h:aBT x=true):x.Ck:=by
 unfold aBT at h;simp only[Bool.and_eq_true,decide_eq_true_eq,List.all_eq_true]at h;exact⟨fun _=>h.1.1.1,fun _=>h.1.2,h.2,h.1.1.2⟩
def aJZ (m:Md):Bool:=m.ty.all (fun t=>decide (t.pr.length≤100)&&decide (t.rs.length≤100))&&decide (m.im.length≤1000000)&&m.co.all (fun c=>decide (c.bd.length≤100000)&&c.bd.all aBT&&decide (c.ls.length≤1000))
theorem WC{m:Md}(h:aJZ m=true):m.Fn:=by
 unfold aJZ at h;simp only[Bool.and_eq_true,decide_eq_true_eq,List.all_eq_true]at h;obtain⟨⟨h1,h2⟩,h3⟩:=h;exact⟨⟨fun t ht=>h1 t ht,h2⟩,fun c hc=>⟨(h3 c hc).1.1,fun x hx=>aJY ((h3 c hc).1.2 x hx)⟩,fun c hc=>(h3 c hc).2⟩
theorem aHI:zH smallM 0=true:=by decide+kernel
theorem aHJ:zH smallM 1=false:=by decide+kernel
theorem aHK:zH SY 0=false:=by decide+kernel
theorem aHL:zH SZ 0=true:=by decide+kernel
theorem TA:SCall Tryz.prog 73 [] [] (fun y σ=>y=.bool true∧σ=[]):=by
 refine bS 2 [0] Tryz.func73 ?_;refine qK ?_;refine lB Tryz.call16 SX rfl aP aS ?_;refine cM ?_;exact aD aE ⟨by rfl,rfl⟩ aA
theorem TB:SCall Tryz.prog 22 [] [] (fun y σ=>y=.bool true∧σ=[]):=by
 have hs3:smallIs.length=3:=rfl;have w1:=qE smallM (WC (by decide)) 0;have w2:=qE SY (WC (by decide)) 0;have w3:=qE SZ (WC (by decide)) 0;have w4:=qE smallM (WC (by decide)) 1;rw[aHI]at w1;rw[aHK]at w2;rw[aHL]at w3;rw[aHJ]at w4;refine bS 43 [0,1,2,3] Tryz.func22 ?_;refine qK ?_;refine yJ [] Tryz.call50 wH ?_;refine iO fun r1 h1=> ?_;intros
 refine lU ?_;refine cZ ?_;refine cw [] Tryz.call50 FC rfl aC aA ?_;rintro _ σ' ⟨q1,rfl,rfl⟩ h5
 replace h5:=fY h5;repeat rcases h5 with⟨_,h5⟩
 unfold WA;apply aU;exact bD;refine iO fun r2 h2=> ?_;intros
 refine gT ?_;refine fJ [(0,true),(1,true),(2,true),(3,true),(4,true),(5,true),(6,true),(7,true),(8,true),(9,true),(10,false)] ?_;refine iC ?_;refine iC ?_;refine aAo ?_;refine ZN ?_;refine aGs ?_;apply aCP;rfl;infer_instance;rfl;rfl;rfl;rfl;exact cE;exact atT;exact BM;rfl;exact eM;refine jI ?_;refine dZ (kT (r:=r2) (q:=q1) cE bK (.cons (.refl _) (.cons (.refl _) (.cons (.refl _) (.cons (.refl _) (.cons (.refl _) (.cons (.refl _) (.cons (.refl _) (.cons (.refl _) (.cons (.refl _) (.cons (.refl _) (.cons (.refl _) (.cons (.refl _) (.cons (aN bC (by simp)) (.cons (.refl _) .nil))))))))))))))) ?_;refine dZ (iG (r:=r2) (cs':=aZ SY) cE (.cons (.refl _) (.cons (.refl _) (.cons (.refl _) (.cons (.refl _) (.cons (.refl _) (.cons (.refl _) (.cons (.refl _) (.cons (.refl _) (.cons (.refl _) (.cons (.refl _) (.cons (.refl _) (.cons (.refl _) (.cons (.le (WB VLe.empty rfl rfl JU)) (.cons (.refl _) .nil))))))))))))))) ?_;refine mJ ?_;refine cw [] Tryz.call50 FC rfl aC aA ?_;rintro _ σ' ⟨q2,rfl,rfl⟩ h16
 replace h16:=fY h16;repeat rcases h16 with⟨_,h16⟩
 unfold WA;apply aU;exact bD;refine iO fun r3 h3=> ?_;intros
 refine lU ?_;refine fT ?_;refine qM ?_;refine eC fun r21 h21=> ?_;intros
 refine UC ?_;refine KO ?_;refine iW (j:=21) rfl bK (aN bC (by simp)) ?_;refine iR (eE (j:=21) rfl (yH (l:=uIs) (by simp[uIs]))) ?_;refine KP ?_;refine iI ?_;refine dZ (kT (r:=r3) (q:=q2) cE bK (.cons (.refl _) (.cons (.refl _) (.cons (.refl _) (.cons (.refl _) (.cons (.refl _) (.cons (.refl _) (.cons (.refl _) (.cons (.refl _) (.cons (.refl _) (.cons (.refl _) (.cons (.refl _) (.cons (.refl _) (.cons (aN bC (by simp)) (.cons (.refl _) .nil))))))))))))))) ?_;refine dZ (iG (r:=r3) (cs':=aZ SZ) cE (.cons (.refl _) (.cons (.refl _) (.cons (.refl _) (.cons (.refl _) (.cons (.refl _) (.cons (.refl _) (.cons (.refl _) (.cons (.refl _) (.cons (.refl _) (.cons (.refl _) (.cons (.refl _) (.cons (.refl _) (.cons (.le (WB VLe.empty rfl rfl JU)) (.cons (.refl _) .nil))))))))))))))) ?_;refine mJ ?_;refine lB Tryz.call73 TA rfl aP aS ?_;refine yW ?_;refine lG rfl rfl Tryz.call23 (fun _=>w1) rfl aP aS ?_;refine uF ?_;refine yW ?_;refine lG rfl rfl Tryz.call23 (fun _=>w2) rfl aP aS ?_;refine rG ?_;refine uF ?_;refine yW ?_;refine lG rfl rfl Tryz.call23 (fun _=>w3) rfl aP aS ?_;refine uF ?_;refine yW ?_;refine lG rfl rfl Tryz.call23 (fun _=>w4) rfl aP aS ?_;refine WZ ?_;exact aD aE ⟨by rfl,rfl⟩ aA
def QI:Co:=⟨[],qF⟩
end Go.Proofs.YtjpdadobblffmaaGreat
namespace Go.Proofs.YtjpdadobblffmaaGreat
open Go.RowKit Go.ChangeShapes Go.WideShapes Go.ChangeAt Go.Deep
structure RT where
 a:Nat
 lb:List (List Int)
 bad:Bool
 l:List Int
 dd:Bool
def mY (t:RT):RT:=⟨t.a,t.lb,true,t.l,t.dd⟩
def YH (x k:Int):Bool:=if(if(x !=k)=true then(x !=0)else false)=true then(k !=0)else false
def pN (t:RT) (k:Int):Int×RT:=
 if((t.l.length:Int)==0)=true then(k,if(!t.dd)=true then mY t else t)
 else(if(t.l.getLast?.getD 0==0)=true then k else t.l.getLast?.getD 0,⟨t.a,t.lb,if YH (t.l.getLast?.getD 0) k=true then true else t.bad,t.l.dropLast,t.dd⟩)
def dL (t:RT) (ks:List Int):RT:=ks.reverse.foldl (fun t k=>(pN t k).2) t
def tA (t:RT) (ks:List Int):RT:=⟨t.a,t.lb,t.bad,t.l++ks,t.dd⟩
def FD (t:RT):RT:=⟨t.a,t.lb,t.bad,[],true⟩
def kL (t:RT) (n:Int):List Int×RT:=
 if(if decide (n<0)=true then true else decide ((t.lb.length:Int)-1-n<0))=true then([],mY t)else(t.lb.getD ((t.lb.length:Int)-1-n).toNat [],t)
def kM (bd:List Ins) (t:RT) (op:Int):Bool×RT:=
 if(if decide ((t.a:Int)<bd.length)=true then((bd.getD t.a ⟨0,0,0,[]⟩).op==op)else false)=true then(true,⟨t.a+1,t.lb,t.bad,t.l,t.dd⟩)else(false,t)
def aJ0 (t:RT) (res:List Int) (l:List Int) (dd:Bool):RT:=
 let t1:=dL t res
 ⟨t1.a,t1.lb.dropLast,if decide ((0:Int)<t1.l.length)=true then true else t1.bad,l,dd⟩
def eR (lp:RT→RT) (res br:List Int) (t:RT):RT:=aJ0 (lp ⟨t.a,t.lb++ [br],t.bad,[],false⟩) res t.l t.dd
def xL (lp:RT→RT) (bd:List Ins) (x:Ins) (t:RT):RT:=
 let r:=dY x.a
 let t1:=if(x.op==4)=true then dL t [1]else t
 let t2:=if(x.op==3)=true then eR lp r [] t1 else eR lp r r t1
 let t3:=if(x.op==4)=true then(let p:=kM bd t2 5;if p.1=true then eR lp r r p.2 else if decide ((0:Int)<r.length)=true then mY p.2 else p.2)else t2
 let p:=kM bd t3 11
 tA (if(!p.1)=true then mY p.2 else p.2) r
def aHM (w:List Int) (t:RT) (n:Int):RT:=let r:=kL t n;if(!(decide (w=r.1)))=true then mY r.2 else r.2
def tB (res:List Int) (x:Ins) (t:RT):RT:=
 if(x.op==12)=true then let r:=kL t x.a;FD (dL r.2 r.1)
 else if(x.op==13)=true then let r:=kL (dL t [1]) x.a;tA (dL r.2 r.1) r.1
 else if(x.op==14)=true then let r:=kL (dL t [1]) x.a;FD (dL (x.l.foldl (aHM r.1) r.2) r.1)
 else if(x.op==15)=true then FD (dL t res)
 else FD t
def DD (m:Md) (f:Int):FT×Bool:=
 let k:=if(if decide (0≤f)=true then decide (f<m.im.length)else false)=true then(m.im.getD f.toNat ⟨[],[],0⟩).ty
  else if(if decide (0≤f)=true then decide (f-m.im.length<m.fn.length)else false)=true then m.fn.getD (f-m.im.length).toNat 0 else-1
 if(if decide (k<0)=true then true else decide ((m.ty.length:Int)≤k))=true then(AR,false)else(m.ty.getD k.toNat AR,true)
def FE (m:Md) (x:Ins) (t:RT):RT:=
 if(x.op==16)=true then let y:=DD m x.a;if(!y.2)=true then mY t else tA (dL t y.1.pr) y.1.rs
 else if(if(!m.tb.has)=true then true else decide ((m.ty.length:Int)≤x.a))=true then mY t
 else tA (dL (dL t [1]) (m.ty.getD x.a.toNat AR).pr) (m.ty.getD x.a.toNat AR).rs
def YI (x:Ins) (c k:Int) (t:RT):RT:=
 let t:=if decide (c<x.a)=true then mY t else t
 if decide (54≤x.op)=true then dL t [1,k]else tA (dL t [1]) [k]
def aEx (x:Ins) (t:RT):RT:=
 if(x.op==40||x.op==54)=true then YI x 2 1 t
 else if(x.op==41||x.op==55)=true then YI x 3 2 t
 else if(x.op==63)=true then tA t [1]
 else if(x.op==64)=true then tA (dL t [1]) [1]
 else YI x 0 1 t
def TC (m:Md) (x:Ins) (t:RT):RT:=aEx x (if(!m.me.has)=true then mY t else t)
def mZ (m:Md) (ls:List Int) (x:Ins) (t:RT):RT:=
 if(x.op==65)=true then tA t [1]
 else if(x.op==66)=true then tA t [2]
 else if(x.op==32||(x.op==33||x.op==34))=true then
  if decide ((ls.length:Int)≤x.a)=true then mY t
  else
   let k:=ls.getD x.a.toNat 0
   let t:=if(x.op !=32)=true then dL t [k]else t
   if(x.op !=33)=true then tA t [k]else t
 else if(x.op==35||x.op==36)=true then
  if(if decide ((m.gl.length:Int)≤x.a)=true then true else if(x.op==36)=true then !(m.gl.getD x.a.toNat gl0).mu else false)=true then mY t
  else if(x.op==35)=true then tA t [(m.gl.getD x.a.toNat gl0).kd]else dL t [(m.gl.getD x.a.toNat gl0).kd]
 else TC m x t
def aJ1 (t:RT) (k:Int) (n:Nat):RT:=dL t (List.replicate n k)
def isB (op:Int):Bool:=op==12||(op==13||(op==14||(op==15||op==0)))
def FF (m:Md) (ls res:List Int) (x:Ins) (t:RT):RT:=
 if isB x.op=true then tB res x t
 else if(x.op==16||x.op==17)=true then FE m x t
 else if(x.op==26)=true then(pN t 0).2
 else if(x.op==27)=true then let r:=pN (dL t [1]) 0;let r2:=pN r.2 r.1;tA r2.2 [r2.1]
 else if(x.op==1)=true then t
 else if(KW x.op).2.2.2=true then tA (aJ1 t (KW x.op).2.1 (KW x.op).1.toNat) [(KW x.op).2.2.1]
 else mZ m ls x t
def fC (m:Md) (ls res:List Int) (bd:List Ins) (lp:RT→RT) (x:Ins) (t:RT):RT:=
 if uG x.op=true then xL lp bd x ⟨t.a+1,t.lb,t.bad,t.l,t.dd⟩else FF m ls res x ⟨t.a+1,t.lb,t.bad,t.l,t.dd⟩
def mH (m:Md) (ls res:List Int) (bd:List Ins):Nat→RT→RT
 |0,t=>t
 |f+1,t=>
  if(if decide ((t.a:Int)<bd.length)=true then !t.bad else false)=true then
   let x:=bd.getD t.a ⟨0,0,0,[]⟩
   if(if(x.op==11)=true then true else(x.op==5))=true then t
   else mH m ls res bd f (fC m ls res bd (mH m ls res bd f) x t)
  else t
theorem aBU(t:RT)(k:Int):(pN t k).2.a=t.a:=by
 unfold pN;refine aL (p:=fun r:Int×RT=>r.2.a=t.a) (fun _=> ?_) (fun _=>rfl);exact aL (p:=fun r:RT=>r.a=t.a) (fun _=>rfl) (fun _=>rfl)
theorem aBV(t:RT)(k:Int):(pN t k).2.lb=t.lb:=by
 unfold pN;refine aL (p:=fun r:Int×RT=>r.2.lb=t.lb) (fun _=> ?_) (fun _=>rfl);exact aL (p:=fun r:RT=>r.lb=t.lb) (fun _=>rfl) (fun _=>rfl)
theorem WD(t:RT)(k:Int)(h:t.bad=true):(pN t k).2.bad=true:=by
 unfold pN;refine aL (p:=fun r:Int×RT=>r.2.bad=true) (fun _=> ?_) (fun _=> ?_)
 ·exact aL (p:=fun r:RT=>r.bad=true) (fun _=>rfl) (fun _=>h)
 ·dsimp only;rw[h];simp
theorem zY{p:RT→Prop}(h:∀s w,p s→p (pN s w).2):∀(ks:List Int) (s:RT),p s→p (dL s ks):=by
 have:∀(l:List Int) (s:RT),p s→p (l.foldl (fun s k=>(pN s k).2) s):=by
  intro l
  induction l with
  |nil=>intro s hs;exact hs
  |cons a l ih=>intro s hs;exact ih _ (h s a hs)
 intro ks s hs;exact this _ s hs
theorem aBW(t:RT)(ks:List Int):(dL t ks).a=t.a:=zY (p:=fun q=>q.a=t.a) (fun q w h=>(aBU q w).trans h) ks t rfl
theorem wI(t:RT)(ks:List Int):(dL t ks).lb=t.lb:=zY (p:=fun q=>q.lb=t.lb) (fun q w h=>(aBV q w).trans h) ks t rfl
theorem aBX(t:RT)(ks:List Int)(h:t.bad=true):(dL t ks).bad=true:=zY (p:=fun q=>q.bad=true) (fun q w h=>WD q w h) ks t h
theorem WE(t:RT)(n:Int):(kL t n).2.a=t.a:=by
 unfold kL;exact aL (p:=fun r:List Int×RT=>r.2.a=t.a) (fun _=>rfl) (fun _=>rfl)
theorem YJ(t:RT)(n:Int)(h:t.bad=true):(kL t n).2.bad=true:=by
 unfold kL;exact aL (p:=fun r:List Int×RT=>r.2.bad=true) (fun _=>rfl) (fun _=>h)
def Adv (t:RT) (n:Nat) (q:RT):Prop:=t.a+n≤q.a∧(t.bad=true→q.bad=true)
theorem Adv.refl (t:RT):Adv t 0 t:=⟨Nat.le_refl _,id⟩
theorem Adv.trans {t q r:RT}{n k:Nat}(h:Adv t n q)(h':Adv q k r):Adv t (n+k) r:=⟨by have:=h.1;have:=h'.1;omega,fun e=>h'.2 (h.2 e)⟩
theorem Adv.le {t q:RT}{n k:Nat}(h:Adv t n q)(hk:k≤n):Adv t k q:=⟨by have:=h.1;omega,h.2⟩
theorem Adv.take {t q:RT}{n:Nat}(h:Adv t n q)(ks:List Int):Adv t n (dL q ks):=⟨by rw[aBW];exact h.1,fun e=>aBX _ _ (h.2 e)⟩
theorem Adv.one {t q:RT}{n:Nat}(h:Adv t n q)(k:Int):Adv t n (pN q k).2:=⟨by rw[aBU];exact h.1,fun e=>WD _ _ (h.2 e)⟩
theorem Adv.put {t q:RT}{n:Nat}(h:Adv t n q)(ks:List Int):Adv t n (tA q ks):=h
theorem Adv.ends {t q:RT}{n:Nat}(h:Adv t n q):Adv t n (FD q):=h
theorem Adv.bad {t q:RT}{n:Nat}(h:Adv t n q):Adv t n (mY q):=⟨h.1,fun _=>rfl⟩
theorem Adv.label {t q:RT}{n:Nat}(h:Adv t n q)(x:Int):Adv t n (kL q x).2:=⟨by rw[WE];exact h.1,fun e=>YJ _ _ (h.2 e)⟩
theorem Adv.tabs {t q:RT}{n:Nat}(h:Adv t n q)(w l:List Int):Adv t n (l.foldl (aHM w) q):=by
 induction l generalizing q with
 |nil=>exact h
 |cons a l ih=>exact ih (aL (p:=Adv t n) (fun _=>(h.label a).bad) (fun _=>h.label a))
theorem TD(res:List Int)(x:Ins)(t:RT):Adv t 0 (tB res x t):=by
 have h:=Adv.refl t;unfold tB;refine aL (fun _=>((h.label _).take _).ends) (fun _=> ?_);refine aL (fun _=>(((h.take _).label _).take _).put _) (fun _=> ?_);refine aL (fun _=>((((h.take _).label _).tabs _ _).take _).ends) (fun _=> ?_);exact aL (fun _=>(h.take _).ends) (fun _=>h.ends)
theorem aBY(m:Md)(x:Ins)(t:RT):Adv t 0 (FE m x t):=by
 have h:=Adv.refl t;unfold FE;refine aL (fun _=>aL (p:=Adv t 0) (fun _=>h.bad) (fun _=>(h.take _).put _)) (fun _=> ?_);exact aL (fun _=>h.bad) (fun _=>((h.take _).take _).put _)
theorem MG{t q:RT}(h:Adv t 0 q)(x:Ins)(c k:Int):Adv t 0 (YI x c k q):=by
 have ha:Adv t 0 (if decide (c<x.a)=true then mY q else q):=aL (fun _=>h.bad) (fun _=>h);exact aL (fun _=>ha.take _) (fun _=>(ha.take _).put _)
theorem aEy(m:Md)(x:Ins)(t:RT):Adv t 0 (TC m x t):=by
 have h:Adv t 0 (if(!m.me.has)=true then mY t else t):=aL (fun _=>(Adv.refl t).bad) (fun _=>Adv.refl t);unfold TC;generalize(if(!m.me.has)=true then mY t else t)=q at h;unfold aEx;refine aL (fun _=>MG h x _ _) (fun _=> ?_);refine aL (fun _=>MG h x _ _) (fun _=> ?_);refine aL (fun _=>h.put _) (fun _=> ?_);exact aL (fun _=>(h.take _).put _) (fun _=>MG h x _ _)
theorem TE(m:Md)(ls:List Int)(x:Ins)(t:RT):Adv t 0 (mZ m ls x t):=by
 have h:=Adv.refl t;unfold mZ;refine aL (fun _=>h.put _) (fun _=> ?_);refine aL (fun _=>h.put _) (fun _=> ?_);refine aL (fun _=>aL (fun _=>h.bad) (fun _=> ?_)) (fun _=> ?_)
 ·have hq:Adv t 0 (if(x.op !=32)=true then dL t [ls.getD x.a.toNat 0]else t):=aL (fun _=>h.take _) (fun _=>h);exact aL (fun _=>hq.put _) (fun _=>hq)
 refine aL (fun _=>aL (fun _=>h.bad) (fun _=>aL (fun _=>h.put _) (fun _=>h.take _))) (fun _=>aEy m x t)
theorem aBZ(m:Md)(ls res:List Int)(x:Ins)(t:RT):Adv t 0 (FF m ls res x t):=by
 have h:=Adv.refl t;unfold FF;refine aL (fun _=>TD _ _ _) (fun _=> ?_);refine aL (fun _=>aBY _ _ _) (fun _=> ?_);refine aL (fun _=>h.one 0) (fun _=> ?_);refine aL (fun _=>(((h.take _).one _).one _).put _) (fun _=> ?_);refine aL (fun _=>h) (fun _=> ?_);exact aL (fun _=>(h.take _).put _) (fun _=>TE _ _ _ _)
theorem FG(bd:List Ins)(t:RT)(op:Int):Adv t 0 (kM bd t op).2:=by
 unfold kM;exact aL (p:=fun r:Bool×RT=>Adv t 0 r.2) (fun _=>⟨Nat.le_succ _,id⟩) (fun _=>Adv.refl t)
theorem rX{lp:RT→RT}(hl:∀q,Adv q 0 (lp q))(res br:List Int)(t:RT):Adv t 0 (eR lp res br t):=by
 have h:=(hl ⟨t.a,t.lb++ [br],t.bad,[],false⟩).take res;refine⟨h.1,fun e=> ?_⟩;show(if _ then true else _)=true;rw[h.2 e];simp
theorem aB0{lp:RT→RT}(hl:∀q,Adv q 0 (lp q))(bd:List Ins)(x:Ins)(t:RT):Adv t 0 (xL lp bd x t):=by
 unfold xL;dsimp only;have h1:Adv t 0 (if(x.op==4)=true then dL t [1]else t):=aL (fun _=>(Adv.refl t).take _) (fun _=>Adv.refl t);generalize(if(x.op==4)=true then dL t [1]else t)=t1 at h1;have h2:Adv t 0 (if(x.op==3)=true then eR lp (dY x.a) [] t1 else eR lp (dY x.a) (dY x.a) t1):=aL (fun _=>h1.trans (rX hl _ _ _)) (fun _=>h1.trans (rX hl _ _ _));generalize(if(x.op==3)=true then eR lp (dY x.a) [] t1 else eR lp (dY x.a) (dY x.a) t1)=t2 at h2;have hp:=h2.trans (FG bd t2 5);have h3:Adv t 0 (if(x.op==4)=true then(if(kM bd t2 5).1=true then eR lp (dY x.a) (dY x.a) (kM bd t2 5).2 else if decide ((0:Int)<(dY x.a).length)=true then mY (kM bd t2 5).2 else(kM bd t2 5).2)else t2):=
  aL (fun _=>aL (fun _=>hp.trans (rX hl _ _ _)) (fun _=>aL (fun _=>hp.bad) (fun _=>hp))) (fun _=>h2)
 generalize(if(x.op==4)=true then(if(kM bd t2 5).1=true then eR lp (dY x.a) (dY x.a) (kM bd t2 5).2 else if decide ((0:Int)<(dY x.a).length)=true then mY (kM bd t2 5).2 else(kM bd t2 5).2)else t2)=t3 at h3;have hq:=h3.trans (FG bd t3 11);exact Adv.put (aL (fun _=>hq.bad) (fun _=>hq)) _
theorem wJ(m:Md)(ls res:List Int)(bd:List Ins){lp:RT→RT}(hl:∀q,Adv q 0 (lp q))(x:Ins)(t:RT):Adv t 1 (fC m ls res bd lp x t):=by
 unfold fC;refine aL (fun _=> ?_) (fun _=> ?_)
 ·have h:=aB0 hl bd x ⟨t.a+1,t.lb,t.bad,t.l,t.dd⟩;exact⟨h.1,h.2⟩
 ·have h:=aBZ m ls res x ⟨t.a+1,t.lb,t.bad,t.l,t.dd⟩;exact⟨h.1,h.2⟩
theorem vT(m:Md)(ls res:List Int)(bd:List Ins):∀(f:Nat) (t:RT),Adv t 0 (mH m ls res bd f t)
 |0,t=>Adv.refl t
 |f+1,t=>by
  rw[mH];refine aL (fun _=> ?_) (fun _=>Adv.refl t);exact aL (p:=Adv t 0) (fun _=>Adv.refl t) (fun _=>((wJ m ls res bd (vT m ls res bd f) _ t).trans (vT m ls res bd f _)).le (Nat.zero_le _))
theorem TF{l1 l2:RT→RT}{res br:List Int}{t:RT}(h:∀q,t.a≤q.a→l1 q=l2 q):eR l1 res br t=eR l2 res br t:=by
 unfold eR;rw[h ⟨t.a,t.lb++ [br],t.bad,[],false⟩ (Nat.le_refl _)]
theorem YK{l1 l2:RT→RT}(hl:∀q,Adv q 0 (l2 q)){bd:List Ins}{x:Ins}{t:RT}(h:∀q,t.a≤q.a→l1 q=l2 q):xL l1 bd x t=xL l2 bd x t:=by
 have h1:Adv t 0 (if(x.op==4)=true then dL t [1]else t):=aL (fun _=>(Adv.refl t).take _) (fun _=>Adv.refl t);have hb:∀ {res br:List Int} {q:RT},Adv t 0 q→eR l1 res br q=eR l2 res br q:=fun hq=>TF fun q' hq'=>h q' (Nat.le_trans hq.1 hq')
 unfold xL;dsimp only;generalize(if(x.op==4)=true then dL t [1]else t)=t1 at h1;rw[hb h1,hb h1];have h2:Adv t 0 (if(x.op==3)=true then eR l2 (dY x.a) [] t1 else eR l2 (dY x.a) (dY x.a) t1):=aL (fun _=>h1.trans (rX hl _ _ _)) (fun _=>h1.trans (rX hl _ _ _));generalize(if(x.op==3)=true then eR l2 (dY x.a) [] t1 else eR l2 (dY x.a) (dY x.a) t1)=t2 at h2;rw[hb (h2.trans (FG bd t2 5))]
theorem FH{m:Md}{ls res:List Int}{l1 l2:RT→RT}(hl:∀q,Adv q 0 (l2 q)){bd:List Ins}{x:Ins}{t:RT}(h:∀q,t.a+1≤q.a→l1 q=l2 q):fC m ls res bd l1 x t=fC m ls res bd l2 x t:=by
 unfold fC;rw[YK hl h]
theorem wK(m:Md)(ls res:List Int)(bd:List Ins):∀(f g:Nat) (t:RT),bd.length+1≤f+t.a→bd.length+1≤g+t.a→mH m ls res bd f t=mH m ls res bd g t
 |0,0,_,_,_=>rfl
 |0,g+1,t,h,_=>by
  rw[mH,mH,if_neg];rw[decide_eq_false (by omega),if_neg (by simp)];simp
 |f+1,0,t,_,h=>by
  rw[mH,mH,if_neg];rw[decide_eq_false (by omega),if_neg (by simp)];simp
 |f+1,g+1,t,h,h'=>by
  rw[mH,mH];dsimp only;have e:∀x,fC m ls res bd (mH m ls res bd f) x t=fC m ls res bd (mH m ls res bd g) x t:=fun x=>FH (vT m ls res bd g) fun q hq=>wK m ls res bd f g q (by omega) (by omega)
  rw[e];have h2:=(wJ m ls res bd (vT m ls res bd g) (bd.getD t.a ⟨0,0,0,[]⟩) t).1;rw[wK m ls res bd f g _ (by omega) (by omega)]
def LR (m:Md) (ls res:List Int) (bd:List Ins) (t:RT):RT:=mH m ls res bd (bd.length+1) t
theorem TG(m:Md)(ls res:List Int)(bd:List Ins)(t:RT):Adv t 0 (LR m ls res bd t):=vT m ls res bd _ t
theorem aB1(m:Md)(ls res:List Int)(bd:List Ins)(t:RT):LR m ls res bd t=
  if(if decide ((t.a:Int)<bd.length)=true then !t.bad else false)=true then
   (if(if((bd.getD t.a ⟨0,0,0,[]⟩).op==11)=true then true else((bd.getD t.a ⟨0,0,0,[]⟩).op==5))=true then t
   else LR m ls res bd (fC m ls res bd (LR m ls res bd) (bd.getD t.a ⟨0,0,0,[]⟩) t))
  else t:=by
 have e:∀x,fC m ls res bd (mH m ls res bd bd.length) x t=fC m ls res bd (LR m ls res bd) x t:=fun x=>FH (TG m ls res bd) fun q hq=>wK m ls res bd _ _ q (by omega) (by omega)
 conv=>lhs;rw[LR,mH]
 dsimp only;rw[e];have h2:=(wJ m ls res bd (TG m ls res bd) (bd.getD t.a ⟨0,0,0,[]⟩) t).1;rw[wK m ls res bd bd.length (bd.length+1) _ (by omega) (by omega)];rfl
def QJ (m:Md) (k:Int):Bool:=
 if(if(if(if(if decide (k<0)=true then true else decide ((m.co.length:Int)≤k))=true then true else decide ((m.fn.length:Int)≤k))=true then true else decide (m.fn.getD k.toNat 0<0))=true then true else decide ((m.ty.length:Int)≤m.fn.getD k.toNat 0))=true then false
 else
  let t:=m.ty.getD (m.fn.getD k.toNat 0).toNat AR
  let c:=m.co.getD k.toNat ⟨[],[]⟩
  let ls:=t.pr++c.ls
  if decide ((32:Int)<ls.length)=true then false
  else
   let r:=eR (LR m ls t.rs c.bd) t.rs t.rs ⟨0,[],false,[],false⟩
   if(!r.bad)=true then((r.a:Int)==c.bd.length)else false
theorem oC{n a b:Int}(h:pE n a b=true):a≤n∧n≤b:=by rw[jW]at h;exact of_decide_eq_true h
theorem oV{x:Ins}(h:cT x=true)(hf:bA x.op=3∨bA x.op=4∨bA x.op=5∨bA x.op=6):0≤x.a∧(bA x.op=4→∀n∈x.l,0≤n):=by
 unfold cT at h;have h0:iV x (bA x.op)=false:=by
  cases hp:iV x (bA x.op)with
  |false=>rfl
  |true=>rw[hp]at h;simp at h
 rw[h0]at h;simp only[Bool.false_eq_true,if_false]at h;rcases hf with e|e|e|e<;>rw[e]at h⊢
 ·simp only[show((3:Int)==1||(3:Int)==7)=false from rfl,show((3:Int)==2)=false from rfl,show((3:Int)==3||(3:Int)==5)=true from rfl,Bool.false_eq_true,if_false,if_true]at h;exact⟨(oC h).1,fun e=>by simp at e⟩
 ·simp only[show((4:Int)==1||(4:Int)==7)=false from rfl,show((4:Int)==2)=false from rfl,show((4:Int)==3||(4:Int)==5)=false from rfl,show((4:Int)==4)=true from rfl,Bool.false_eq_true,if_false,if_true]at h;cases ha:pE x.a 0 1000 with
  |false=>rw[ha]at h;simp at h
  |true=>
   refine⟨(oC ha).1,fun _ n hn=> ?_⟩;rw[ha]at h;simp only[if_true]at h;split at h
   ·simp only[Bool.not_eq_true',List.any_eq_false,Bool.not_eq_true',Bool.not_eq_false]at h;have:=h n hn;have:pE n 0 1000=true:=by simpa using this
    exact(oC this).1
   ·cases h
 ·simp only[show((5:Int)==1||(5:Int)==7)=false from rfl,show((5:Int)==2)=false from rfl,show((5:Int)==3||(5:Int)==5)=true from rfl,Bool.false_eq_true,if_false,if_true]at h;exact⟨(oC h).1,fun e=>by simp at e⟩
 ·simp only[show((6:Int)==1||(6:Int)==7)=false from rfl,show((6:Int)==2)=false from rfl,show((6:Int)==3||(6:Int)==5)=false from rfl,show((6:Int)==4)=false from rfl,show((6:Int)==6)=true from rfl,Bool.false_eq_true,if_false,if_true]at h;cases ha:pE x.a 0 3 with
  |false=>rw[ha]at h;simp at h
  |true=>exact⟨(oC ha).1,fun e=>by simp at e⟩
theorem zZ{x:Ins}(h:cT x=true)(hf:bA x.op=1∨bA x.op=7):x.a=0:=by
 unfold cT at h;have h0:iV x (bA x.op)=false:=by
  cases hp:iV x (bA x.op)with
  |false=>rfl
  |true=>rw[hp]at h;simp at h
 rw[h0]at h;rcases hf with e|e<;>rw[e]at h<;>simpa using h
section
variable {o : List Ct} {op kd : Int} {base : List Int} {t : RT} {s : PS} {m : Md} {ls res : List Int}
theorem YL{m:Md}{f:Int}(hf:0≤f):DD m f=dP m (oM m f):=by
 unfold DD dP oM;rw[decide_eq_true hf];simp only[if_true]
end
def aB2 (lp:RT→RT) (bd:List Ins) (x:Ins) (t:RT):RT:=
 if(x.op==4)=true then(if(kM bd t 5).1=true then eR lp (dY x.a) (dY x.a) (kM bd t 5).2 else if decide ((0:Int)<(dY x.a).length)=true then mY (kM bd t 5).2 else(kM bd t 5).2)else t
def aJ2 (bd:List Ins) (x:Ins) (t:RT):RT:=tA (if(!(kM bd t 11).1)=true then mY (kM bd t 11).2 else(kM bd t 11).2) (dY x.a)
def brN (x:Ins):List Int:=if(x.op==3)=true then []else dY x.a
theorem WF(lp:RT→RT)(bd:List Ins)(x:Ins)(t:RT):xL lp bd x t=aJ2 bd x (aB2 lp bd x (eR lp (dY x.a) (brN x) (if(x.op==4)=true then dL t [1]else t))):=by
 unfold xL brN;cases h:x.op==3<;>simp only[if_true,if_false,Bool.false_eq_true]<;>rfl
end Go.Proofs.YtjpdadobblffmaaGreat
namespace Go.Proofs.YtjpdadobblffmaaGreat
open Go.RowKit Go.ChangeShapes Go.WideShapes Go.ChangeAt Go.Deep
attribute [local irreducible] SW RS RD fF eB
structure Env where
 m:Md
 ls:List Int
 res:List Int
 bd:List Ins
def RK (E0:Env) (p a n:Nat) (b:Bool):List AV:=[.ro 2 (E0.m.ty.map dF) .any,.ro 3 (E0.m.im.map eT) .any,.ro 1 (E0.m.fn.map aK) .any,.bool E0.m.tb.has,.int .i64 E0.m.tb.mn,.int .i64 E0.m.tb.mx,.bool E0.m.me.has,.int .i64 E0.m.me.mn,.int .i64 E0.m.me.mx,
 .ro 3 (E0.m.gl.map eU) .any,.ro 2 (E0.m.ex.map eA) .any,.ro 2 (E0.m.el.map eQ) .any,.ro 2 (E0.m.co.map dJ) .any,.ro 2 (E0.m.da.map eO) .any,.ro 4 (E0.bd.map (iv .any)) .any,.ro 1 (E0.ls.map aK) .any,.ro 1 (E0.res.map aK) .any,.int .i64 a,.own p 0 n,.bool b]
def MH (E0:Env) (r p:Nat) (t:RT):dC:=[(r,.box 142 (RK E0 p t.a t.lb.length t.bad)),(p,.arr 24 1 (t.lb.map kU))]
def JV (z q:Nat) (t:RT):dC:=[(z,.box 261 [.own q 0 t.l.length,.bool t.dd]),(q,.arr 3 1 (t.l.map aK))]
theorem aLC{e:Nat}{σ1 σ:dC}{C G:Prop}(h:(∃q∈σ1,q.1=e)∨Fresh e σ)(k:C)(g:Hold C→Fresh e (dS (σ1.map (·.1)) σ)→G:=by intro k q;unfold JV at q;simp(disch:=(first|(simp only[List.mem_cons,List.not_mem_nil,true_or,or_true,or_false];done)|(focus (simp only[List.mem_cons,List.not_mem_nil,or_false,not_or];(repeat' (first|apply And.intro|(exact cA)));done))|omega)) only[List.map_cons,List.map_nil,lT,nK,pS,nL,aO,aT,and_true]at q;revert q;(repeat refine aCS ?_);exact k.h):G:=g ⟨k⟩ (sH h)
def yL (E0:Env) (r p z q:Nat) (t:RT):dC:=MH E0 r p t++JV z q t
structure Nr (r p z q:Nat):Prop where
 pr:Nq p r
 zr:Nq z r
 zp:Nq z p
 qr:Nq q r
 qp:Nq q p
 qz:Nq q z
theorem BU{P:Prop}(h:P:=by(try unfold yL);(try unfold MH);(try unfold JV);(try unfold RK);(try dsimp only[List.cons_append,List.nil_append]);exact aA):P:=h
theorem aJ3{P:Prop}(h:P:=by(try unfold yL);(try unfold MH);(try unfold JV);(try unfold RK);(try dsimp only[List.cons_append,List.nil_append]);exact eM):P:=h
section
variable {r p z q : Nat} {E0 : Env}
theorem aEz(hN:Nr r p z q)(t:RT)(hl:t.l.length≤1000000)(k:Int):SCall Tryz.prog 274 [.ptr r 0,.ptr z 0,.int .i64 k] (yL E0 r p z q t) (fun y σ=>y=.int .i64 (pN t k).1∧σ=yL E0 r p z q (pN t k).2):=by
 obtain⟨ta,tl,tb,l,dd⟩:=t;obtain⟨n1,n2,n3,n4,n5,n6⟩:=hN;dsimp only at hl;refine bS 67 [0,1,2,6,7,13,18,59,64] Tryz.func274 ?_;unfold yL MH JV RK;dsimp only[List.cons_append,List.nil_append];refine eX ?_;refine gY ?_;refine rL ?_;refine aB rfl (fun g1=> ?_) (fun g1=> ?_)
 ·have hP:pN ⟨ta,tl,tb,l,dd⟩ k=(k,if(!dd)=true then mY ⟨ta,tl,tb,l,dd⟩else⟨ta,tl,tb,l,dd⟩):=if_pos g1;rw[hP];refine cX ?_;refine gY ?_;refine nQ ?_;refine aB rfl (fun g2=> ?_) (fun g2=> ?_)
  ·rw[if_pos g2];refine cX ?_;refine lK ?_;refine fV ?_;refine cM ?_;exact aD aE ⟨by rfl,rfl⟩ aA
  rw[if_neg (by simp[g2])];refine eW ?_;exact aD aE ⟨by rfl,rfl⟩ aA
 obtain⟨ws,g,rfl⟩:∃ws g,l=ws++ [g]:=by
  rcases List.eq_nil_or_concat l with e|⟨ws,g,e⟩
  ·subst e;simp at g1
  ·exact⟨ws,g,by rw[e,List.concat_eq_append]⟩
 have hP:pN ⟨ta,tl,tb,ws++ [g],dd⟩ k=(if(g==0)=true then k else g,⟨ta,tl,if YH g k=true then true else tb,ws,dd⟩):=by unfold pN;rw[if_neg (fun e=>by rw[g1]at e;cases e)];simp
 rw[hP];have hel2:=rT (l:=ws.map aK) (x:=aK g) (n:=ws.length) (by simp);rw[LV]at hl;rw[LV,aA9];refine aI ?_;refine fJ [(0,true),(1,true),(2,true),(3,true),(4,true),(5,true),(6,true),(7,true),(8,true),(9,true),(10,true),(11,true),(12,true)] ?_;refine mQ ?_;refine rJ ?_;refine nG ?_;refine wQ ?_;refine fJ [(0,true),(1,true),(2,true),(3,true),(4,true),(5,true),(6,true),(7,true),(8,true),(9,true),(10,true),(11,true),(12,true),(13,true),(14,false)] ?_;refine CF ?_;refine rJ ?_;refine ZN ?_;refine rI ?_;refine jI ?_;rw[qD];refine dZ (nZ (o:=q) ws.length cE) ?_;rw[show List.take ws.length (ws.map aK++ [aK g])=ws.map aK by rw[List.take_left' (by simp)]];refine kQ ?_;refine lo (dV (E rfl) (E rfl)) rfl ?_;refine jU ?_;refine aAj ?_;refine kH ?_;refine aAj ?_;refine tH ?_;refine aB rfl (fun g7=> ?_) (fun g7=> ?_)
 ·have hnf:YH g k=true:=g7;rw[show(if YH g k=true then true else tb)=true by rw[hnf];rfl];refine cX ?_;refine lK ?_;refine fV ?_;refine xR ?_;refine aB rfl (fun g9=> ?_) (fun g9=> ?_)
  ·rw[if_pos (c:=(g==0)=true) g9];refine eW ?_;exact aD aE ⟨by rfl,rfl⟩ aA
  rw[if_neg (c:=(g==0)=true) (fun e=>by rw[g9]at e;cases e)];refine eW ?_;exact aD aE ⟨by rfl,rfl⟩ aA
 have hnf:YH g k=false:=g7;rw[show(if YH g k=true then true else tb)=tb by rw[hnf];rfl];refine cX ?_;refine xR ?_;refine aB rfl (fun g9=> ?_) (fun g9=> ?_)
 ·rw[if_pos (c:=(g==0)=true) g9];refine eW ?_;exact aD aE ⟨by rfl,rfl⟩ aA
 rw[if_neg (c:=(g==0)=true) (fun e=>by rw[g9]at e;cases e)];refine eW ?_;exact aD aE ⟨by rfl,rfl⟩ aA
theorem aEA(hz:Nq q z)(t:RT)(hl:t.l.length≤1000000)(ks:List Int)(hk:ks.length≤1000):SCall Tryz.prog 275 [.ptr z 0,.ro 1 (ks.map aK) .any] (JV z q t) (fun _ σ=>∃e,Nq e z∧σ=JV z e (tA t ks)):=by
 obtain⟨ta,tl,tb,l,dd⟩:=t;dsimp only at hl;refine bS 13 [0,1] Tryz.func275 ?_;unfold JV;dsimp only;refine dG ?_;refine DU ?_;refine jQ ((l++ks).map aK) (l++ks).length ?_;refine bE fun r10 h10=> ?_;intros
 refine lK ?_;refine cL ?_;exact aD aE ⟨r10,by(exact cA),rfl⟩ aA
end
theorem YM(t:RT)(ks:List Int)(k:Int):dL t (ks++ [k])=dL (pN t k).2 ks:=by simp[dL]
theorem MI(t:RT)(k:Int):(pN t k).2.l.length≤t.l.length:=by
 unfold pN;refine aL (p:=fun r:Int×RT=>r.2.l.length≤t.l.length) (fun _=> ?_) (fun _=>by simp);exact aL (p:=fun r:RT=>r.l.length≤t.l.length) (fun _=>Nat.le_refl _) (fun _=>Nat.le_refl _)
theorem aB3(t:RT)(ks:List Int):(dL t ks).l.length≤t.l.length:=zY (p:=fun q=>q.l.length≤t.l.length) (fun q w h=>Nat.le_trans (MI q w) h) ks t (Nat.le_refl _)
section
variable {r p z q : Nat} {E0 : Env}
theorem QK(hN:Nr r p z q)(t:RT)(hl:t.l.length≤1000000)(ks:List Int)(hkl:ks.length≤100000):SCall Tryz.prog 202 [.ptr r 0,.ptr z 0,.ro 1 (ks.map aK) .any] (yL E0 r p z q t) (fun _ σ=>σ=yL E0 r p z q (dL t ks)):=by
 have hN0:=hN;obtain⟨n1,n2,n3,n4,n5,n6⟩:=hN;refine bS 21 [0,1,2,6,11] Tryz.func202 ?_;unfold yL MH JV RK
 (try dsimp only[List.cons_append,List.nil_append]);refine cX ?_;refine qI ?_;refine tF ?_;refine cM ?_;refine lp (β:=Nat×RT) (fun b=>⟨[(0,.ptr r 0),(1,.ptr z 0),(2,.ro 1 (ks.map aK) .any),(6,.int .i64 ((b.1:Int)-1))],yL E0 r p z q b.2⟩) (fun b=>b.1≤ks.length∧b.2.l.length≤1000000∧dL b.2 (ks.take b.1)=dL t ks) (fun b=>b.1) (ks.length,t) (by unfold yL MH JV RK;(try dsimp only[List.cons_append,List.nil_append]);(exact aJ)) ⟨Nat.le_refl _,hl,by rw[List.take_length]⟩ ?_;rintro⟨j,S⟩ ⟨hj,hS,hP⟩;dsimp only at hj hS hP⊢;unfold yL MH JV RK
 (try dsimp only[List.cons_append,List.nil_append]);refine cX ?_;refine BO ?_;refine aB rfl (fun g1=> ?_) (fun g1=> ?_)
 ·obtain⟨j,rfl⟩:∃j',j=j'+1:=⟨j-1,by simp at g1;omega⟩
  obtain⟨k,hk⟩:∃k,ks[j]? =some k:=⟨_,List.getElem?_eq_getElem (by omega)⟩
  have hk':ks[(((j+1:Nat):Int)-1).toNat]? =some k:=by rw[show(((j+1:Nat):Int)-1).toNat=j by omega];exact hk
  refine DY ?_;refine pA ?_;refine cw (yL E0 r p z q S) Tryz.call274 (aEz hN0 S hS k) rfl aC BU ?_;rintro _ σ' ⟨rfl,rfl⟩ h20;refine aAn ?_;refine fV ?_;refine tF ?_;refine cM ?_;refine⟨(j,(pN S k).2),⟨by show j≤ _;omega,Nat.le_trans (MI S k) hS,by rw[←hP,List.take_add_one,hk];show _=dL S (ks.take j++ [k]);rw[YM]⟩,by show j<j+1;omega, ?_⟩
  (try dsimp only);rw[show(((j+1:Nat):Int)-1-1)=(j:Int)-1 by omega];exact aJ
 obtain rfl:j=0:=by simp at g1;omega
 rw[show dL t ks=S by rw[←hP];rfl];refine aI ?_;refine cL ?_;apply aD;exact aE
 ·rfl
 ·exact aA
end
theorem TH{m:Md}(h:m.TS){f:Int}(hf:0≤f):(DD m f).1.Sm:=by rw[YL hf];exact pR h _
theorem FI(t:RT)(n:Int):(kL t n).2.l=t.l∧(kL t n).2.dd=t.dd∧(kL t n).2.lb=t.lb:=by
 unfold kL;exact aL (p:=fun r:List Int×RT=>r.2.l=t.l∧r.2.dd=t.dd∧r.2.lb=t.lb) (fun _=>⟨rfl,rfl,rfl⟩) (fun _=>⟨rfl,rfl,rfl⟩)
def Sh (t:RT):Prop:=∀l∈t.lb,l.length≤1000
theorem aB4{t:RT}(h:Sh t)(n:Int):(kL t n).1.length≤1000:=by
 unfold kL;refine aL (p:=fun r:List Int×RT=>r.1.length≤1000) (fun _=>by simp) (fun _=> ?_);show(t.lb.getD _ []).length≤1000;rw[List.getD_eq_getElem?_getD];cases hg:t.lb[((t.lb.length:Int)-1-n).toNat]? with
 |none=>simp
 |some l=>exact h l (List.mem_of_getElem? hg)
theorem aB5(t:RT)(ks:List Int):Sh t→Sh (dL t ks):=fun h=>by unfold Sh;rw[wI];exact h
end Go.Proofs.YtjpdadobblffmaaGreat
namespace Go.Proofs.YtjpdadobblffmaaGreat
open Go.RowKit Go.ChangeShapes Go.WideShapes Go.ChangeAt Go.Deep
theorem JW{P:Program}{n d:Nat}{fr:Fr}{σ:dC}{K:ASt→Prop}{op:Op}{ty:TypeId}{v:AV}{rs:List Nat}(h:Lop P op ty ⟨fr,σ⟩ true v rs)(hd:Nat.ble (d+1) n=true)(hK:K ⟨(d,v)::fr,σ⟩):Hop P n op ty (some d) ⟨fr,σ⟩ [] K:=UX h (cI hd) hK
structure Env.Ok (E0:Env):Prop where
 m:E0.m.Ck
 res:E0.res.length≤1000
 bl:E0.bd.length≤400
 bd:∀x∈E0.bd,x.Ck∧(0≤x.a∨isB x.op=false∧x.op≠16∧x.op≠17)∧(isB x.op=true→(-9000000000000000000≤x.a∧x.a≤9000000000000000000)∧∀n∈x.l,-9000000000000000000≤n∧n≤9000000000000000000)
def LE (E0:Env):RT→RT:=LR E0.m E0.ls E0.res E0.bd
structure In (E0:Env) (t:RT):Prop where
 a:t.a≤E0.bd.length
 lb:t.lb.length≤t.a
 sh:Sh t
structure Wi (E0:Env) (t:RT):Prop where
 a:t.a≤E0.bd.length
 lb:t.lb.length≤t.a+1
 sh:Sh t
 l:t.l.length≤1001*t.a
def aJ4 (E0:Env) (n:Nat):Prop:=∀(r p:Nat) (t:RT) (res br:List Int),Nq p r→In E0 t→E0.bd.length-t.a≤n→res.length≤1000→br.length≤1000→
 SCall Tryz.prog 80 [.ptr r 0,.ro 1 (res.map aK) .any,.ro 1 (br.map aK) .any] (MH E0 r p t) (fun _ σ=>∃e,Nq e r∧σ=MH E0 r e (eR (LE E0) res br t))
def aJ5 (E0:Env) (n:Nat):Prop:=∀(r p z q:Nat) (t:RT) (x:Ins),Nr r p z q→Wi E0 t→E0.bd[t.a]? =some x→E0.bd.length-t.a≤n→
 SCall Tryz.prog 201 [.ptr r 0,.agg (iv .any x),.ptr z 0] (yL E0 r p z q t) (fun _ σ=>∃e f,Nr r e z f∧σ=yL E0 r e z f (fC E0.m E0.ls E0.res E0.bd (LE E0) x t))
def Kpt (bd:List Ins) (t q:RT):Prop:=(t.a≤bd.length→q.a≤bd.length)∧q.lb=t.lb
section
variable {bd : List Ins} {t q s : RT}
theorem Kpt.refl:Kpt bd t t:=⟨id,rfl⟩
theorem Kpt.trans (h:Kpt bd t q)(h':Kpt bd q s):Kpt bd t s:=⟨fun e=>h'.1 (h.1 e),h'.2.trans h.2⟩
theorem Kpt.take (h:Kpt bd t q)(ks:List Int):Kpt bd t (dL q ks):=⟨fun e=>by rw[aBW];exact h.1 e,(wI q ks).trans h.2⟩
theorem Kpt.one (h:Kpt bd t q)(k:Int):Kpt bd t (pN q k).2:=⟨fun e=>by rw[aBU];exact h.1 e,(aBV q k).trans h.2⟩
theorem Kpt.put (h:Kpt bd t q)(ks:List Int):Kpt bd t (tA q ks):=h
theorem Kpt.ends (h:Kpt bd t q):Kpt bd t (FD q):=h
theorem Kpt.bad (h:Kpt bd t q):Kpt bd t (mY q):=h
theorem Kpt.label (h:Kpt bd t q)(n:Int):Kpt bd t (kL q n).2:=⟨fun e=>by rw[WE];exact h.1 e,(FI q n).2.2.trans h.2⟩
theorem Kpt.tabs (h:Kpt bd t q)(w l:List Int):Kpt bd t (l.foldl (aHM w) q):=by
 induction l generalizing q with
 |nil=>exact h
 |cons a l ih=>exact ih (aL (p:=Kpt bd t) (fun _=>(h.label a).bad) (fun _=>h.label a))
theorem Kpt.pass (h:Kpt bd t q)(op:Int):Kpt bd t (kM bd q op).2:=by
 unfold kM;refine aL (p:=fun r:Bool×RT=>Kpt bd t r.2) (fun e=>⟨fun _=> ?_,h.2⟩) (fun _=>h);show q.a+1≤bd.length;rcases Nat.lt_or_ge q.a bd.length with hlt|hge
 ·exact hlt
 ·rw[decide_eq_false (by omega)]at e;simp at e
theorem QL{lp:RT→RT}(hl:∀q,Kpt bd q (lp q))(res br:List Int)(t:RT):Kpt bd t (eR lp res br t):=by
 have h:=(hl ⟨t.a,t.lb++ [br],t.bad,[],false⟩).take res;refine⟨h.1, ?_⟩;show(dL _ res).lb.dropLast=t.lb;rw[h.2];simp
theorem YN(res:List Int)(x:Ins)(t:RT):Kpt bd t (tB res x t):=by
 have h:=(Kpt.refl (bd:=bd) (t:=t))
 unfold tB;refine aL (fun _=>((h.label _).take _).ends) (fun _=> ?_);refine aL (fun _=>(((h.take _).label _).take _).put _) (fun _=> ?_);refine aL (fun _=>((((h.take _).label _).tabs _ _).take _).ends) (fun _=> ?_);exact aL (fun _=>(h.take _).ends) (fun _=>h.ends)
theorem aEB(m:Md)(x:Ins)(t:RT):Kpt bd t (FE m x t):=by
 have h:=(Kpt.refl (bd:=bd) (t:=t))
 unfold FE;refine aL (fun _=>aL (p:=Kpt bd t) (fun _=>h.bad) (fun _=>(h.take _).put _)) (fun _=> ?_);exact aL (fun _=>h.bad) (fun _=>((h.take _).take _).put _)
theorem TI{t q:RT}(h:Kpt bd t q)(x:Ins)(c k:Int):Kpt bd t (YI x c k q):=by
 have ha:Kpt bd t (if decide (c<x.a)=true then mY q else q):=aL (fun _=>h.bad) (fun _=>h);exact aL (fun _=>ha.take _) (fun _=>(ha.take _).put _)
theorem aHN(m:Md)(x:Ins)(t:RT):Kpt bd t (TC m x t):=by
 have h:Kpt bd t (if(!m.me.has)=true then mY t else t):=aL (fun _=>(Kpt.refl (bd:=bd) (t:=t)).bad) (fun _=>(Kpt.refl (bd:=bd) (t:=t)));unfold TC;generalize(if(!m.me.has)=true then mY t else t)=q at h;unfold aEx;refine aL (fun _=>TI h x _ _) (fun _=> ?_);refine aL (fun _=>TI h x _ _) (fun _=> ?_);refine aL (fun _=>h.put _) (fun _=> ?_);exact aL (fun _=>(h.take _).put _) (fun _=>TI h x _ _)
theorem YO(m:Md)(ls:List Int)(x:Ins)(t:RT):Kpt bd t (mZ m ls x t):=by
 have h:=(Kpt.refl (bd:=bd) (t:=t))
 unfold mZ;refine aL (fun _=>h.put _) (fun _=> ?_);refine aL (fun _=>h.put _) (fun _=> ?_);refine aL (fun _=>aL (fun _=>h.bad) (fun _=> ?_)) (fun _=> ?_)
 ·have hq:Kpt bd t (if(x.op !=32)=true then dL t [ls.getD x.a.toNat 0]else t):=aL (fun _=>h.take _) (fun _=>h);exact aL (fun _=>hq.put _) (fun _=>hq)
 refine aL (fun _=>aL (fun _=>h.bad) (fun _=>aL (fun _=>h.put _) (fun _=>h.take _))) (fun _=>aHN m x t)
theorem aEC(m:Md)(ls res:List Int)(x:Ins)(t:RT):Kpt bd t (FF m ls res x t):=by
 have h:=(Kpt.refl (bd:=bd) (t:=t))
 unfold FF;refine aL (fun _=>YN _ _ _) (fun _=> ?_);refine aL (fun _=>aEB _ _ _) (fun _=> ?_);refine aL (fun _=>h.one 0) (fun _=> ?_);refine aL (fun _=>(((h.take _).one _).one _).put _) (fun _=> ?_);refine aL (fun _=>h) (fun _=> ?_);exact aL (fun _=>(h.take _).put _) (fun _=>YO _ _ _ _)
theorem aED{lp:RT→RT}(hl:∀q,Kpt bd q (lp q))(x:Ins)(t:RT):Kpt bd t (xL lp bd x t):=by
 rw[WF];have h1:Kpt bd t (if(x.op==4)=true then dL t [1]else t):=aL (fun _=>Kpt.refl.take _) (fun _=>Kpt.refl);have h2:=h1.trans (QL hl (dY x.a) (brN x) _);have h3:∀q,Kpt bd t q→Kpt bd t (aB2 lp bd x q):=fun q h=>aL (fun _=>aL (fun _=>(h.pass 5).trans (QL hl _ _ _)) (fun _=>aL (fun _=>(h.pass 5).bad) (fun _=>h.pass 5))) (fun _=>h)
 have h4:∀q,Kpt bd t q→Kpt bd t (aJ2 bd x q):=fun q h=>Kpt.put (aL (fun _=>(h.pass 11).bad) (fun _=>h.pass 11)) _
 exact h4 _ (h3 _ h2)
theorem QM(m:Md)(ls res:List Int){lp:RT→RT}(hl:∀q,Kpt bd q (lp q))(x:Ins)(t:RT)(ha:t.a<bd.length):(fC m ls res bd lp x t).a≤bd.length∧(fC m ls res bd lp x t).lb=t.lb:=by
 unfold fC;refine aL (p:=fun r:RT=>r.a≤bd.length∧r.lb=t.lb) (fun _=> ?_) (fun _=> ?_)
 ·obtain⟨h1,h2⟩:=aED hl x ⟨t.a+1,t.lb,t.bad,t.l,t.dd⟩;exact⟨h1 ha,h2⟩
 ·obtain⟨h1,h2⟩:=aEC (bd:=bd) m ls res x ⟨t.a+1,t.lb,t.bad,t.l,t.dd⟩;exact⟨h1 ha,h2⟩
theorem MJ(m:Md)(ls res:List Int):∀(f:Nat) (t:RT),Kpt bd t (mH m ls res bd f t)
 |0,t=>Kpt.refl
 |f+1,t=>by
  rw[mH];refine aL (fun e=> ?_) (fun _=>Kpt.refl);refine aL (p:=Kpt bd t) (fun _=>Kpt.refl) (fun _=> ?_);have ha:t.a<bd.length:=by
   rcases Nat.lt_or_ge t.a bd.length with h|h
   ·exact h
   ·rw[decide_eq_false (by omega)]at e;simp at e
  obtain⟨h1,h2⟩:=QM m ls res (MJ m ls res f) (bd.getD t.a ⟨0,0,0,[]⟩) t ha;obtain⟨k1,k2⟩:=MJ m ls res f (fC m ls res bd (mH m ls res bd f) (bd.getD t.a ⟨0,0,0,[]⟩) t);exact⟨fun _=>k1 h1,k2.trans h2⟩
end
theorem aJ6(E0:Env)(t:RT):Kpt E0.bd t (LE E0 t):=MJ _ _ _ _ t
def Ln (l n:Nat) (q:RT):Prop:=q.l.length≤l+n
theorem Ln.take {l n:Nat}{q:RT}(h:Ln l n q)(ks:List Int):Ln l n (dL q ks):=Nat.le_trans (aB3 q ks) h
theorem Ln.one {l n:Nat}{q:RT}(h:Ln l n q)(k:Int):Ln l n (pN q k).2:=Nat.le_trans (MI q k) h
theorem Ln.bad {l n:Nat}{q:RT}(h:Ln l n q):Ln l n (mY q):=h
theorem Ln.ends {l n:Nat}{q:RT}:Ln l n (FD q):=Nat.zero_le _
theorem Ln.label {l n:Nat}{q:RT}(h:Ln l n q)(k:Int):Ln l n (kL q k).2:=by unfold Ln;rw[(FI q k).1];exact h
theorem Ln.put {l n:Nat}{q:RT}(h:Ln l n q)(ks:List Int)(m:Nat)(hm:n+ks.length≤m):Ln l m (tA q ks):=by
 unfold Ln at h⊢;show(q.l++ks).length≤ _;rw[List.length_append];omega
theorem Ln.up {l n m:Nat}{q:RT}(h:Ln l n q)(hm:n≤m):Ln l m q:=by unfold Ln at h⊢;omega
theorem Ln.refl (t:RT):Ln t.l.length 0 t:=Nat.le_refl _
theorem YP{t:RT}(hsh:Sh t)(res:List Int)(x:Ins):Ln t.l.length 1000 (tB res x t):=by
 have h:=Ln.refl t;unfold tB;refine aL (fun _=>Ln.ends) (fun _=> ?_);refine aL (fun _=>(((h.take _).label _).take _).put _ 1000 (by have:=aB4 (aB5 t [1] hsh) x.a;omega)) (fun _=> ?_);refine aL (fun _=>Ln.ends) (fun _=> ?_);exact aL (fun _=>Ln.ends) (fun _=>Ln.ends)
theorem aEE{m:Md}(hT:m.TS)(x:Ins)(t:RT)(ha:0≤x.a):Ln t.l.length 1000 (FE m x t):=by
 have h:=Ln.refl t;have h1:=(TH hT ha).2;have h2:(m.ty.getD x.a.toNat AR).rs.length≤100:=by
  rw[List.getD_eq_getElem?_getD];cases hg:m.ty[x.a.toNat]? with
  |none=>simp[AR]
  |some y=>exact(hT y (List.mem_of_getElem? hg)).2
 unfold FE;refine aL (fun _=>aL (p:=Ln t.l.length 1000) (fun _=>h.bad.up (by omega)) (fun _=>(h.take _).put _ 1000 (by omega))) (fun _=> ?_);exact aL (fun _=>h.bad.up (by omega)) (fun _=>((h.take _).take _).put _ 1000 (by omega))
theorem aHO(m:Md)(x:Ins)(t:RT):Ln t.l.length 1000 (TC m x t):=by
 have h:Ln t.l.length 0 (if(!m.me.has)=true then mY t else t):=aL (fun _=>(Ln.refl t).bad) (fun _=>Ln.refl t);unfold TC;generalize(if(!m.me.has)=true then mY t else t)=q at h;have hb:∀c k:Int,Ln t.l.length 1000 (YI x c k q):=fun c k=>by
  have ha:Ln t.l.length 0 (if decide (c<x.a)=true then mY q else q):=aL (fun _=>h.bad) (fun _=>h);exact aL (fun _=>(ha.take _).up (by omega)) (fun _=>(ha.take _).put _ 1000 (by simp))
 unfold aEx;refine aL (fun _=>hb _ _) (fun _=> ?_);refine aL (fun _=>hb _ _) (fun _=> ?_);refine aL (fun _=>h.put _ 1000 (by simp)) (fun _=> ?_);exact aL (fun _=>(h.take _).put _ 1000 (by simp)) (fun _=>hb _ _)
theorem YQ(m:Md)(ls:List Int)(x:Ins)(t:RT):Ln t.l.length 1000 (mZ m ls x t):=by
 have h:=Ln.refl t;unfold mZ;refine aL (fun _=>h.put _ 1000 (by simp)) (fun _=> ?_);refine aL (fun _=>h.put _ 1000 (by simp)) (fun _=> ?_);refine aL (fun _=>aL (fun _=>h.bad.up (by omega)) (fun _=> ?_)) (fun _=> ?_)
 ·have hq:Ln t.l.length 0 (if(x.op !=32)=true then dL t [ls.getD x.a.toNat 0]else t):=aL (fun _=>h.take _) (fun _=>h);exact aL (fun _=>hq.put _ 1000 (by simp)) (fun _=>hq.up (by omega))
 refine aL (fun _=>aL (fun _=>h.bad.up (by omega)) (fun _=>aL (fun _=>h.put _ 1000 (by simp)) (fun _=>(h.take _).up (by omega)))) (fun _=>aHO m x t)
theorem aEF{m:Md}(hT:m.TS)(ls res:List Int)(x:Ins)(t:RT)(hsh:Sh t)(ha:(x.op==16||x.op==17)=true→0≤x.a):Ln t.l.length 1000 (FF m ls res x t):=by
 have h:=Ln.refl t;unfold FF;refine aL (fun _=>YP hsh _ _) (fun _=> ?_);refine aL (fun e=>aEE hT _ _ (ha e)) (fun _=> ?_);refine aL (fun _=>(h.one 0).up (by omega)) (fun _=> ?_);refine aL (fun _=>(((h.take _).one _).one _).put _ 1000 (by simp)) (fun _=> ?_);refine aL (fun _=>h.up (by omega)) (fun _=> ?_);exact aL (fun _=>(h.take _).put _ 1000 (by simp)) (fun _=>YQ _ _ _ _)
theorem aEG(lp:RT→RT)(bd:List Ins)(x:Ins)(t:RT):Ln t.l.length 1000 (xL lp bd x t):=by
 rw[WF];have h1:Ln t.l.length 0 (if(x.op==4)=true then dL t [1]else t):=aL (fun _=>(Ln.refl t).take _) (fun _=>Ln.refl t);have hb:∀(q:RT) (a b:List Int),Ln t.l.length 0 q→Ln t.l.length 0 (eR lp a b q):=fun q a b h=>h
 have hp:∀(q:RT) (o:Int),Ln t.l.length 0 q→Ln t.l.length 0 (kM bd q o).2:=fun q o h=>by
  unfold kM;exact aL (p:=fun r:Bool×RT=>Ln t.l.length 0 r.2) (fun _=>h) (fun _=>h)
 have h3:∀q,Ln t.l.length 0 q→Ln t.l.length 0 (aB2 lp bd x q):=fun q h=>aL (fun _=>aL (fun _=>hb _ _ _ (hp _ _ h)) (fun _=>aL (fun _=>(hp _ _ h).bad) (fun _=>hp _ _ h))) (fun _=>h)
 exact Ln.put (aL (p:=Ln t.l.length 0) (fun _=>(hp _ _ (h3 _ (hb _ _ _ h1))).bad) (fun _=>hp _ _ (h3 _ (hb _ _ _ h1)))) _ 1000 (by have:=rQ x.a;omega)
theorem aB6{E0:Env}(hE0:E0.Ok){t:RT}(h:Wi E0 t){x:Ins}(hx:E0.bd[t.a]? =some x):Wi E0 (fC E0.m E0.ls E0.res E0.bd (LE E0) x t)∧t.a<(fC E0.m E0.ls E0.res E0.bd (LE E0) x t).a∧(fC E0.m E0.ls E0.res E0.bd (LE E0) x t).lb=t.lb:=by
 have hlt:t.a<E0.bd.length:=(List.getElem?_eq_some_iff.1 hx).1;obtain⟨k1,k2⟩:=QM E0.m E0.ls E0.res (aJ6 E0) x t hlt;have k3:=(wJ E0.m E0.ls E0.res E0.bd (TG E0.m E0.ls E0.res E0.bd) x t).1;have k4:Ln t.l.length 1000 (fC E0.m E0.ls E0.res E0.bd (LE E0) x t):=by
  unfold fC;refine aL (fun _=>aEG (LE E0) E0.bd x ⟨t.a+1,t.lb,t.bad,t.l,t.dd⟩) (fun _=> ?_);refine aEF hE0.m.ts E0.ls E0.res x ⟨t.a+1,t.lb,t.bad,t.l,t.dd⟩ h.sh fun e=> ?_
  rcases(hE0.bd x (List.mem_of_getElem? hx)).2.1 with h0|⟨-,h1,h2⟩
  ·exact h0
  ·simp only[Bool.or_eq_true,beq_iff_eq]at e;omega
 have k3':t.a+1≤(fC E0.m E0.ls E0.res E0.bd (LE E0) x t).a:=k3;refine⟨⟨k1,by rw[k2];have:=h.lb;omega,by unfold Sh;rw[k2];exact h.sh, ?_⟩,by omega,k2⟩;have:=h.l;unfold Ln at k4;omega
end Go.Proofs.YtjpdadobblffmaaGreat
namespace Go.Proofs.YtjpdadobblffmaaGreat
open Go.RowKit Go.ChangeShapes Go.WideShapes Go.ChangeAt Go.Deep
attribute [local irreducible] SW RS RD fF eB
theorem MK(l:List (List Int))(b:List Int):(l++ [b]).length=l.length+1:=by simp
theorem ML(l:List (List Int))(b:List Int):(l++ [b]).map kU=l.map kU++ [kU b]:=by simp
theorem aEH{E0:Env}{T:RT}(h:(if decide ((T.a:Int)<E0.bd.length)=true then !T.bad else false)=false):LE E0 T=T:=by
 unfold LE;rw[aB1,if_neg (fun e=>by rw[h]at e;cases e)]
theorem aHP{E0:Env}{T:RT}{x:Ins}(hx:E0.bd[T.a]? =some x)(h:(if(x.op==11)=true then true else(x.op==5))=true):LE E0 T=T:=by
 unfold LE;rw[aB1,List.getD_eq_getElem?_getD,hx,Option.getD_some,if_pos h];exact aL (p:=fun r:RT=>r=T) (fun _=>rfl) (fun _=>rfl)
theorem aEI{E0:Env}{T:RT}{x:Ins}(hc:(if decide ((T.a:Int)<E0.bd.length)=true then !T.bad else false)=true)(hx:E0.bd[T.a]? =some x)(h:(if(x.op==11)=true then true else(x.op==5))=false):LE E0 T=LE E0 (fC E0.m E0.ls E0.res E0.bd (LE E0) x T):=by
 unfold LE
 conv=>lhs;rw[aB1]
 rw[if_pos hc,List.getD_eq_getElem?_getD,hx,Option.getD_some,if_neg (fun e=>by rw[h]at e;cases e)]
theorem YR{E0:Env}(hE0:E0.Ok)(n:Nat)(hI:aJ5 E0 n):aJ4 E0 n:=by
 intro r p t res br hpr hIn hn hres hbr;obtain⟨ha,hlb,hsh⟩:=hIn;have hbl:=hE0.bl;refine bS 94 [0,1,2,6,7,36,53,76] Tryz.func80 ?_;unfold MH RK
 (try dsimp only);refine dG ?_;refine DU ?_;refine eC fun r14 h14=> ?_;intros
 refine jQ ((t.lb++ [br]).map kU) (t.lb++ [br]).length ?_;refine bE fun r15 h15=> ?_;intros
 refine tZ ?_;refine lU ?_;refine cZ ?_;refine lE ?_;refine gQ fun r19 h19=> ?_;intros
 refine cM ?_;refine cH (ks:=[0,1,2,6,7,36,53,76]) r19 0 3 1 (by decide) bC rfl (by decide) fun q0 hq0=> ?_
 simp only[aO,aT,and_true]at hq0;repeat rcases hq0 with⟨_,hq0⟩
 apply Exists.intro;apply And.intro;exact cE;have hN0:Nr r r15 r19 q0:=⟨by(exact cA),by(exact cA),by(exact cA),by(exact cA),by(exact cA),by(exact cA)⟩
 have hW0:Wi E0 ⟨t.a,t.lb++ [br],t.bad,[],false⟩:=⟨ha,by simp;omega,fun l hl=>by rcases List.mem_append.1 hl with hl|hl;exact hsh l hl;obtain rfl:=List.mem_singleton.1 hl;exact hbr,by simp⟩
 refine lp (β:=Nat×Nat×RT) (fun b=>⟨[(0,.ptr r 0),(1,.ro 1 (res.map aK) .any),(6,.ptr r19 0)],yL E0 r b.1 r19 b.2.1 b.2.2⟩) (fun b=>Nr r b.1 r19 b.2.1∧Wi E0 b.2.2∧LE E0 b.2.2=LE E0 ⟨t.a,t.lb++ [br],t.bad,[],false⟩∧b.2.2.lb=t.lb++ [br]∧t.a≤b.2.2.a) (fun b=>E0.bd.length-b.2.2.a) (r15,q0,⟨t.a,t.lb++ [br],t.bad,[],false⟩) (by unfold yL MH JV RK;(try dsimp only[List.cons_append,List.nil_append]);(exact aJ)) ⟨hN0,hW0,rfl,rfl,Nat.le_refl _⟩ ?_;rintro⟨p',q',T⟩ ⟨hN1,hW,hLE,hTl,hTa⟩;dsimp only at hN1 hW hLE hTl hTa⊢;obtain⟨m1,m2,m3,m4,m5,m6⟩:=id hN1;have hWa:=hW.a;have hWl:=hW.l;unfold yL MH JV RK
 (try dsimp only[List.cons_append,List.nil_append]);refine aI ?_;refine fJ [(0,true),(1,true),(2,true),(3,true),(4,true),(5,true),(6,true),(7,true),(8,true),(9,true),(10,true),(11,true),(12,true),(13,true),(14,true),(15,true),(16,true)] ?_;refine mQ ?_;refine IS ?_;refine z46 ?_;refine uS ?_;refine sq4 ?_;refine yS ?_;refine aIW ?_;refine aCX ?_;refine jI ?_;refine aB rfl (fun g2=> ?_) (fun g2=> ?_)
 ·have hlt:T.a<E0.bd.length:=by
   rcases Nat.lt_or_ge T.a E0.bd.length with h|h
   ·exact h
   ·rw[decide_eq_false (by omega)]at g2;simp at g2
  obtain⟨x,hx⟩:∃x,E0.bd[T.a]? =some x:=⟨_,List.getElem?_eq_getElem hlt⟩
  refine aI ?_;refine fJ [(0,true),(1,true),(2,true),(3,true),(4,true),(5,true),(6,true),(7,true),(8,true),(9,true),(10,true),(11,true)] ?_;refine mQ ?_;refine mQ ?_;refine aAo ?_;refine WY ?_;refine cX ?_;refine lo (cN (E rfl) (E rfl)) rfl ?_;refine jU ?_;refine pW ?_;refine oJ ?_;refine aB rfl (fun g4=> ?_) (fun g4=> ?_)
  ·have hTe:=aHP hx g4;refine DY ?_;refine cw (yL E0 r p' r19 q' T) Tryz.call202 (QK hN1 T (by omega) res (by omega)) rfl aC BU ?_;rintro _ σ' rfl h70;refine aAn ?_;have hB:eR (LE E0) res br t=⟨(dL T res).a,t.lb,if decide ((0:Int)<(dL T res).l.length)=true then true else(dL T res).bad,t.l,t.dd⟩:=by
    unfold eR;rw[←hLE,hTe];show(⟨_,(dL T res).lb.dropLast,_,_,_⟩:RT)=_;rw[wI,hTl,List.dropLast_concat]
   rw[hB];have h2l:(dL T res).lb=t.lb++ [br]:=(wI T res).trans hTl;generalize dL T res=T2 at h2l⊢;rw[h2l];refine fV ?_;refine gY ?_;refine xT ?_;refine iI ?_;refine aB rfl (fun g7=> ?_) (fun g7=> ?_)
   ·rw[show(if decide ((0:Int)<T2.l.length)=true then true else T2.bad)=true from if_pos g7];refine cX ?_;refine lK ?_;rw[MK,ML];have hfin:Nq p' r:=m1;refine fJ [(0,true),(1,true),(2,true),(3,true),(4,true),(5,true),(6,true),(7,true),(8,true),(9,true),(10,true),(11,true),(12,true),(13,true),(14,false)] ?_;refine CF ?_;refine rJ ?_;refine ZN ?_;refine rI ?_;refine jI ?_;rw[qD];refine zL (nZ (o:=p') t.lb.length cE) ?_;rw[show List.take t.lb.length (t.lb.map kU++ [kU br])=t.lb.map kU by rw[List.take_left' (by simp)]];refine cL ?_;exact aD aE ⟨_,hfin,rfl⟩ aA
   rw[show(if decide ((0:Int)<T2.l.length)=true then true else T2.bad)=T2.bad from if_neg (fun e=>by rw[g7]at e;cases e)];refine aI ?_;rw[MK,ML];have hfin:Nq p' r:=m1;refine fJ [(0,true),(1,true),(2,true),(3,true),(4,true),(5,true),(6,true),(7,true),(8,true),(9,true),(10,true),(11,true),(12,true),(13,true),(14,false)] ?_;refine CF ?_;refine rJ ?_;refine ZN ?_;refine rI ?_;refine jI ?_;rw[qD];refine zL (nZ (o:=p') t.lb.length cE) ?_;rw[show List.take t.lb.length (t.lb.map kU++ [kU br])=t.lb.map kU by rw[List.take_left' (by simp)]];refine cL ?_;exact aD aE ⟨_,hfin,rfl⟩ aA
  have hnx:=aEI g2 hx g4;obtain⟨w1,w2,w3⟩:=aB6 hE0 hW hx;refine aI ?_;refine fJ [(0,true),(1,true),(2,true),(3,true),(5,true),(6,true),(7,true),(11,true),(13,false),(13,false),(13,false),(13,false),(13,false)] ?_;refine fP rfl (aF (E rfl)) rfl ?_;refine OC ?_;refine RJ ?_;refine OC ?_;refine RJ ?_;refine fP rfl (aF (E rfl)) rfl ?_;refine kJ 4 8 [(8,false),(9,true),(10,true),(12,false)] [(4,false),(9,true),(10,true),(12,false)] (f1:=[]) (f2:=[]) (by kernel_rfl) rfl rfl ?_ ?_ (.inl rfl) (.inl rfl)
  ·first|refine JW (aQ (E rfl) rfl bC (fun _=>rfl)) rfl ?_ |refine JW (aQ (E rfl) rfl bC (fun _=>by assumption)) rfl ?_ |refine JW (aR (E rfl) rfl (fun hc=>by first|rfl|exact aH (by assumption)|assumption|exact aH (aX (by omega))) (fun _=>rfl)) rfl ?_
   first|refine dhl rfl (aQ (E rfl) rfl bC (fun _=>rfl)) rfl ?_ |refine dhl rfl (aQ (E rfl) rfl bC (fun _=>by assumption)) rfl ?_ |refine dhl rfl (aR (E rfl) rfl (fun hc=>by first|rfl|exact aH (by assumption)|assumption|exact aH (aX (by omega))) (fun _=>rfl)) rfl ?_
   refine pY ?_;refine pD (yL E0 r p' r19 q' T) rfl Tryz.call201 (hI r p' r19 q' T x hN1 hW hx (by omega)) rfl aC BU aJ3 ?_;rintro _ σ' ⟨e,f,hE,rfl⟩ h66
   (try unfold yL);(try unfold MH);(try unfold JV);(try unfold RK);(try dsimp only[List.cons_append,List.nil_append]);obtain⟨e1,e2,e3,e4,e5,e6⟩:=id hE;apply bQ;exact bD;refine jI ?_;refine⟨(e,f,fC E0.m E0.ls E0.res E0.bd (LE E0) x T),⟨hE,w1,by rw[←hnx];exact hLE,w3.trans hTl,by show t.a≤(fC E0.m E0.ls E0.res E0.bd (LE E0) x T).a;omega⟩,by show E0.bd.length-(fC E0.m E0.ls E0.res E0.bd (LE E0) x T).a<E0.bd.length-T.a;omega, ?_⟩
   (try dsimp only);exact aJ
  ·first|refine JW (aQ (E rfl) rfl bC (fun _=>rfl)) rfl ?_ |refine JW (aQ (E rfl) rfl bC (fun _=>by assumption)) rfl ?_ |refine JW (aR (E rfl) rfl (fun hc=>by first|rfl|exact aH (by assumption)|assumption|exact aH (aX (by omega))) (fun _=>rfl)) rfl ?_
   first|refine dhl rfl (aQ (E rfl) rfl bC (fun _=>rfl)) rfl ?_ |refine dhl rfl (aQ (E rfl) rfl bC (fun _=>by assumption)) rfl ?_ |refine dhl rfl (aR (E rfl) rfl (fun hc=>by first|rfl|exact aH (by assumption)|assumption|exact aH (aX (by omega))) (fun _=>rfl)) rfl ?_
   refine pY ?_;refine pD (yL E0 r p' r19 q' T) rfl Tryz.call201 (hI r p' r19 q' T x hN1 hW hx (by omega)) rfl aC BU aJ3 ?_;rintro _ σ' ⟨e,f,hE,rfl⟩ h66
   (try unfold yL);(try unfold MH);(try unfold JV);(try unfold RK);(try dsimp only[List.cons_append,List.nil_append]);obtain⟨e1,e2,e3,e4,e5,e6⟩:=id hE;apply bQ;exact bD;refine jI ?_;refine⟨(e,f,fC E0.m E0.ls E0.res E0.bd (LE E0) x T),⟨hE,w1,by rw[←hnx];exact hLE,w3.trans hTl,by show t.a≤(fC E0.m E0.ls E0.res E0.bd (LE E0) x T).a;omega⟩,by show E0.bd.length-(fC E0.m E0.ls E0.res E0.bd (LE E0) x T).a<E0.bd.length-T.a;omega, ?_⟩
   (try dsimp only);exact aJ
 have hTe:=aEH (E0:=E0) g2;refine DY ?_;refine cw (yL E0 r p' r19 q' T) Tryz.call202 (QK hN1 T (by omega) res (by omega)) rfl aC BU ?_;rintro _ σ' rfl h70;refine aAn ?_;have hB:eR (LE E0) res br t=⟨(dL T res).a,t.lb,if decide ((0:Int)<(dL T res).l.length)=true then true else(dL T res).bad,t.l,t.dd⟩:=by
  unfold eR;rw[←hLE,hTe];show(⟨_,(dL T res).lb.dropLast,_,_,_⟩:RT)=_;rw[wI,hTl,List.dropLast_concat]
 rw[hB];have h2l:(dL T res).lb=t.lb++ [br]:=(wI T res).trans hTl;generalize dL T res=T2 at h2l⊢;rw[h2l];refine fV ?_;refine gY ?_;refine xT ?_;refine iI ?_;refine aB rfl (fun g7=> ?_) (fun g7=> ?_)
 ·rw[show(if decide ((0:Int)<T2.l.length)=true then true else T2.bad)=true from if_pos g7];refine cX ?_;refine lK ?_;rw[MK,ML];have hfin:Nq p' r:=m1;refine fJ [(0,true),(1,true),(2,true),(3,true),(4,true),(5,true),(6,true),(7,true),(8,true),(9,true),(10,true),(11,true),(12,true),(13,true),(14,false)] ?_;refine CF ?_;refine rJ ?_;refine ZN ?_;refine rI ?_;refine jI ?_;rw[qD];refine zL (nZ (o:=p') t.lb.length cE) ?_;rw[show List.take t.lb.length (t.lb.map kU++ [kU br])=t.lb.map kU by rw[List.take_left' (by simp)]];refine cL ?_;exact aD aE ⟨_,hfin,rfl⟩ aA
 rw[show(if decide ((0:Int)<T2.l.length)=true then true else T2.bad)=T2.bad from if_neg (fun e=>by rw[g7]at e;cases e)];refine aI ?_;rw[MK,ML];have hfin:Nq p' r:=m1;refine fJ [(0,true),(1,true),(2,true),(3,true),(4,true),(5,true),(6,true),(7,true),(8,true),(9,true),(10,true),(11,true),(12,true),(13,true),(14,false)] ?_;refine CF ?_;refine rJ ?_;refine ZN ?_;refine rI ?_;refine jI ?_;rw[qD];refine zL (nZ (o:=p') t.lb.length cE) ?_;rw[show List.take t.lb.length (t.lb.map kU++ [kU br])=t.lb.map kU by rw[List.take_left' (by simp)]];refine cL ?_;exact aD aE ⟨_,hfin,rfl⟩ aA
structure Md.RFn (m:Md):Prop extends m.Ck where
 bd:∀c∈m.co,c.bd.length≤400∧∀x∈c.bd,x.Ck∧(0≤x.a∨isB x.op=false∧x.op≠16∧x.op≠17)∧(isB x.op=true→(-9000000000000000000≤x.a∧x.a≤9000000000000000000)∧∀n∈x.l,-9000000000000000000≤n∧n≤9000000000000000000)
 lc:∀c∈m.co,c.ls.length≤1000
theorem aEJ{m:Md}{k:Int}(h:(if(if decide (k<0)=true then true else decide ((m.co.length:Int)≤k))=true then true else decide ((m.fn.length:Int)≤k))=true):QJ m k=false:=by
 unfold QJ;rw[if_pos];rw[h];simp
theorem aEK{m:Md}{k:Int}{c:Co}{f:Int}(h:(if(if decide (k<0)=true then true else decide ((m.co.length:Int)≤k))=true then true else decide ((m.fn.length:Int)≤k))=false)(hc:m.co[k.toNat]? =some c)(hf:m.fn[k.toNat]? =some f):
  QJ m k=if(if decide (f<0)=true then true else decide ((m.ty.length:Int)≤f))=true then false
   else if decide ((32:Int)<((m.ty.getD f.toNat AR).pr++c.ls).length)=true then false
   else if(!(eR (LE ⟨m,(m.ty.getD f.toNat AR).pr++c.ls,(m.ty.getD f.toNat AR).rs,c.bd⟩) (m.ty.getD f.toNat AR).rs (m.ty.getD f.toNat AR).rs ⟨0,[],false,[],false⟩).bad)=true then(((eR (LE ⟨m,(m.ty.getD f.toNat AR).pr++c.ls,(m.ty.getD f.toNat AR).rs,c.bd⟩) (m.ty.getD f.toNat AR).rs (m.ty.getD f.toNat AR).rs ⟨0,[],false,[],false⟩).a:Int)==c.bd.length)else false:=by
 have e1:m.co.getD k.toNat ⟨[],[]⟩=c:=by rw[List.getD_eq_getElem?_getD,hc];rfl
 have e2:m.fn.getD k.toNat 0=f:=by rw[List.getD_eq_getElem?_getD,hf];rfl
 unfold QJ;rw[h,e2,e1];rfl
end Go.Proofs.YtjpdadobblffmaaGreat
namespace Go.Proofs.YtjpdadobblffmaaGreat
open Go.RowKit Go.ChangeShapes Go.WideShapes Go.ChangeAt Go.Deep
theorem aHQ{x:Ins}(h:cT x=true):x.l.length≤50∧(bA x.op≠4→x.l=[]):=by
 unfold cT at h;have h0:iV x (bA x.op)=false:=by
  cases hp:iV x (bA x.op)with
  |false=>rfl
  |true=>rw[hp]at h;simp at h
 by_cases h4:bA x.op=4
 ·refine⟨?_,fun e=>absurd h4 e⟩;rw[h0,h4]at h;simp only[Bool.false_eq_true,if_false,show((4:Int)==1||(4:Int)==7)=false from rfl,show((4:Int)==2)=false from rfl,show((4:Int)==3||(4:Int)==5)=false from rfl,show((4:Int)==4)=true from rfl,if_true]at h;cases ha:pE x.a 0 1000 with
  |false=>rw[ha]at h;simp at h
  |true=>
   rw[ha]at h;simp only[if_true]at h;split at h
   ·next e=>have:=of_decide_eq_true e;omega
   ·cases h
 ·have:x.l=[]:=by
   unfold iV at h0;cases hl:x.l with
   |nil=>rfl
   |cons a l=>rw[hl]at h0;simp[h4]at h0
  exact⟨by rw[this];simp,fun _=>this⟩
theorem MM{x:Ins}(h:cT x=true)(hf:bA x.op=3∨bA x.op=4∨bA x.op=5∨bA x.op=6):x.a≤1000∧(bA x.op=4→∀n∈x.l,n≤1000):=by
 unfold cT at h;have h0:iV x (bA x.op)=false:=by
  cases hp:iV x (bA x.op)with
  |false=>rfl
  |true=>rw[hp]at h;simp at h
 rw[h0]at h;simp only[Bool.false_eq_true,if_false]at h;rcases hf with e|e|e|e<;>rw[e]at h⊢
 ·simp only[show((3:Int)==1||(3:Int)==7)=false from rfl,show((3:Int)==2)=false from rfl,show((3:Int)==3||(3:Int)==5)=true from rfl,Bool.false_eq_true,if_false,if_true]at h;exact⟨(oC h).2,fun e=>by simp at e⟩
 ·simp only[show((4:Int)==1||(4:Int)==7)=false from rfl,show((4:Int)==2)=false from rfl,show((4:Int)==3||(4:Int)==5)=false from rfl,show((4:Int)==4)=true from rfl,Bool.false_eq_true,if_false,if_true]at h;cases ha:pE x.a 0 1000 with
  |false=>rw[ha]at h;simp at h
  |true=>
   refine⟨(oC ha).2,fun _ n hn=> ?_⟩;rw[ha]at h;simp only[if_true]at h;split at h
   ·simp only[Bool.not_eq_true',List.any_eq_false,Bool.not_eq_true',Bool.not_eq_false]at h;have:=h n hn;have:pE n 0 1000=true:=by simpa using this
    exact(oC this).2
   ·cases h
 ·simp only[show((5:Int)==1||(5:Int)==7)=false from rfl,show((5:Int)==2)=false from rfl,show((5:Int)==3||(5:Int)==5)=true from rfl,Bool.false_eq_true,if_false,if_true]at h;exact⟨(oC h).2,fun e=>by simp at e⟩
 ·simp only[show((6:Int)==1||(6:Int)==7)=false from rfl,show((6:Int)==2)=false from rfl,show((6:Int)==3||(6:Int)==5)=false from rfl,show((6:Int)==4)=false from rfl,show((6:Int)==6)=true from rfl,Bool.false_eq_true,if_false,if_true]at h;cases ha:pE x.a 0 3 with
  |false=>rw[ha]at h;simp at h
  |true=>exact⟨Int.le_trans (oC ha).2 (by decide),fun e=>by simp at e⟩
theorem aB7{x:Ins}(h:cT x=true)(ho:x.Ok):x.Ck∧(0≤x.a∨isB x.op=false∧x.op≠16∧x.op≠17)∧(isB x.op=true→(-9000000000000000000≤x.a∧x.a≤9000000000000000000)∧∀n∈x.l,-9000000000000000000≤n∧n≤9000000000000000000):=by
 obtain⟨hl1,hl2⟩:=aHQ h;have f3:x.op=12∨x.op=13∨x.op=16∨x.op=32∨x.op=33∨x.op=34∨x.op=35∨x.op=36→bA x.op=3:=fun e=>by rcases e with e|e|e|e|e|e|e|e<;>rw[e]<;>decide
 have f4:x.op=14→bA x.op=4:=fun e=>by rw[e];decide
 have f5:x.op=17→bA x.op=5:=fun e=>by rw[e];decide
 have f1:x.op=15∨x.op=0→bA x.op=1:=fun e=>by rcases e with e|e<;>rw[e]<;>decide
 have hB:isB x.op=true→x.op=12∨x.op=13∨x.op=14∨x.op=15∨x.op=0:=fun e=>by unfold isB at e;simpa using e
 refine⟨⟨fun e=> ?_,fun e=>(oV h (.inr (.inl (f4 e)))).2 (f4 e),by omega,ho.2.2.2.1⟩, ?_,fun e=> ?_⟩
 ·by_cases e14:x.op=14
  ·exact(oV h (.inr (.inl (f4 e14)))).1
  ·exact(oV h (.inl (f3 (by omega)))).1
 ·by_cases hb:isB x.op=true
  ·left;rcases hB hb with e|e|e|e|e
   ·exact(oV h (.inl (f3 (by omega)))).1
   ·exact(oV h (.inl (f3 (by omega)))).1
   ·exact(oV h (.inr (.inl (f4 e)))).1
   ·rw[zZ h (.inl (f1 (by omega)))];decide
   ·rw[zZ h (.inl (f1 (by omega)))];decide
  ·by_cases e16:x.op=16
   ·exact .inl (oV h (.inl (f3 (by omega)))).1
   ·by_cases e17:x.op=17
    ·exact .inl (oV h (.inr (.inr (.inl (f5 e17))))).1
    ·exact .inr ⟨by simpa using hb,e16,e17⟩
 ·have key:(-9000000000000000000≤x.a∧x.a≤9000000000000000000):=by
   rcases hB e with e|e|e|e|e
   ·have:=(oV h (.inl (f3 (by omega)))).1;have:=(MM h (.inl (f3 (by omega)))).1;omega
   ·have:=(oV h (.inl (f3 (by omega)))).1;have:=(MM h (.inl (f3 (by omega)))).1;omega
   ·have:=(oV h (.inr (.inl (f4 e)))).1;have:=(MM h (.inr (.inl (f4 e)))).1;omega
   ·rw[zZ h (.inl (f1 (by omega)))];decide
   ·rw[zZ h (.inl (f1 (by omega)))];decide
  refine⟨key,fun n hn=> ?_⟩;by_cases h4:bA x.op=4
  ·have h1:=(oV h (.inr (.inl h4))).2 h4 n hn;have h2:=(MM h (.inr (.inl h4))).2 h4 n hn;omega
  ·rw[hl2 h4]at hn;simp at hn
theorem aB8{m:Md}(hm:oO m=true)(hw:m.WO):m.Fn∧m.RFn:=by
 have hwo:=hw.ok;unfold oO at hm;simp only[Bool.and_eq_true]at hm;obtain⟨⟨⟨⟨-,hco⟩,hls⟩,-⟩,-⟩:=hm;unfold mB at hls;simp only[Bool.and_eq_true]at hls;obtain⟨⟨⟨⟨⟨⟨hty,him⟩,-⟩,-⟩,-⟩,-⟩,-⟩:=hls;have hck:m.Ck:=⟨fun t ht=>by
  have:=(cD hty).2 t ht;simp only[Bool.and_eq_true]at this;have h1:=(cD this.1).1;have h2:=(cD this.2).1;exact⟨by omega,by omega⟩,by have:=(cD him).1;omega⟩
 have hc:∀c∈m.co,c.bd.length≤300∧c.ls.length≤32∧∀x∈c.bd,cT x=true:=fun c hcm=>by
  have:=(cD hco).2 c hcm;unfold sR at this;simp only[Bool.and_eq_true]at this;have h1:=(cD this.1.2).1;have h2:=(cD this.2).1;exact⟨by omega,by omega,(cD this.2).2⟩
 exact⟨⟨hck,fun c hcm=>⟨by have:=(hc c hcm).1;omega,fun x hx=>(aB7 ((hc c hcm).2.2 x hx) (hwo.1 c hcm x hx)).1⟩,fun c hcm=>by have:=(hc c hcm).2.1;omega⟩,
  ⟨hck,fun c hcm=>⟨by have:=(hc c hcm).1;omega,fun x hx=>aB7 ((hc c hcm).2.2 x hx) (hwo.1 c hcm x hx)⟩,fun c hcm=>by have:=(hc c hcm).2.1;omega⟩⟩
theorem aHR(ps:List Int):(uD ps).length≤5:=by unfold uD;simp;omega
theorem aHS(r:Int):(uE r).length≤1:=by unfold uE;exact aL (p:=fun l:List Int=>l.length≤1) (fun _=>by simp) (fun _=>by simp)
theorem aEL(ps:List Int)(r:Int)(lo:List Int)(l:List Ins)(hl:l.length≤100000)(hi:∀x∈l,x.Ok):(gU (uD ps) (uE r) [⟨lo,l⟩,QI]).WO:=by
 refine⟨⟨fun x hx=> ?_,fun x hx=> ?_,fun x hx=> ?_,by simp[gU],by simp[gU]⟩,fun c hc=> ?_,fun g hg=> ?_⟩
 ·simp only[gU,List.mem_cons,List.not_mem_nil,or_false]at hx;rcases hx with rfl|rfl<;>exact⟨⟨by decide,by decide⟩,by decide,by decide⟩
 ·simp only[gU,List.mem_cons,List.not_mem_nil,or_false]at hx;subst hx;exact⟨by decide,by decide⟩
 ·simp only[gU,List.mem_cons,List.not_mem_nil,or_false]at hx;rcases hx with rfl|rfl
  ·exact hl
  ·decide
 ·simp only[gU,List.mem_cons,List.not_mem_nil,or_false]at hc;rcases hc with rfl|rfl
  ·exact hi
  ·intro x hx;simp only[QI,qF,List.mem_cons,List.not_mem_nil,or_false]at hx;subst hx;exact⟨by decide,by decide,by decide,by decide,by decide⟩
 ·simp only[gU,List.mem_cons,List.not_mem_nil,or_false]at hg;rcases hg with rfl|rfl<;>exact⟨by decide,by decide⟩
theorem aHT(ps:List Int)(r:Int)(lo:List Int)(l:List Ins)(hlo:lo.length≤5):(gU (uD ps) (uE r) [⟨lo,l⟩,QI]).Z:=by
 have h1:=aHR ps;have h2:=aHS r;refine⟨⟨by simp[gU],fun x hx=> ?_⟩,by simp[gU],by simp[gU],by simp[gU],by simp[gU],⟨by simp[gU],fun x hx=> ?_⟩,⟨by simp[gU],fun x hx=> ?_⟩,⟨by simp[gU],fun x hx=> ?_⟩⟩
 ·simp only[gU,List.mem_cons,List.not_mem_nil,or_false]at hx;rcases hx with rfl|rfl|rfl|rfl<;>(constructor<;>simp<;>omega)
 ·simp only[gU,List.mem_cons,List.not_mem_nil,or_false]at hx;subst hx;simp
 ·simp only[gU,List.mem_cons,List.not_mem_nil,or_false]at hx;rcases hx with rfl|rfl
  ·show lo.length≤ _;omega
  ·decide
 ·simp[gU]at hx
def MN (m:Md) (t:Int):Bool:=decide ((m.ty.length:Int)≤t)
def QN (m:Md) (f:Int):Bool:=decide ((m.im.length:Int)+(m.fn.length:Int)≤f)
def QO (a b:List Nat):Bool:=(dI a).toList==(dI b).toList
def aEM (nf:Int→Bool) (pre:List Ex) (x:Ex):Bool:=nf x.fn||pre.any fun y=>QO x.nm y.nm
def twN (nf:Int→Bool) (l:List Ex):Nat→Bool
 |0=>false
 |j+1=>twN nf l j||aEM nf (l.take j) (l.getD j ⟨[],0⟩)
def TJ (l:Li):Bool:=l.has&&decide (0≤l.mx)&&decide (l.mx<l.mn)
def BB (m:Md) (x:El):Bool:=x.fs.any (QN m)|| !m.tb.has
def oW (m:Md):Nat→Bool
 |0=>true
 |j+1=>oW m j&&zH m j
def gB (m:Md):Int:=
 if kD m=false then 0
 else if m.im.any (fun x=>MN m x.ty)=true then 2
 else if m.fn.any (MN m)=true then 3
 else if TJ m.tb=true then 4
 else if TJ m.me=true then 5
 else if twN (QN m) m.ex m.ex.length=true then 7
 else if m.el.any (BB m)=true then 9
 else if oW m m.co.length=false then 10
 else if(!m.da.isEmpty&& !m.me.has)=true then 11
 else-1
theorem QP{nf:Int→Bool}{l:List Ex}{n j:Nat}(hj:j<n)(h:aEM nf (l.take j) (l.getD j ⟨[],0⟩)=true):twN nf l n=true:=by
 induction n with
 |zero=>omega
 |succ n ih=>
  unfold twN;rw[Bool.or_eq_true];rcases Nat.lt_or_ge j n with hlt|hge
  ·exact .inl (ih hlt)
  ·rw[show n=j by omega];exact .inr h
theorem AA{m:Md}{n j:Nat}(hj:j<n)(h:zH m j=false):oW m n=false:=by
 induction n with
 |zero=>omega
 |succ n ih=>
  unfold oW;rw[Bool.and_eq_false_iff];rcases Nat.lt_or_ge j n with hlt|hge
  ·exact .inl (ih hlt)
  ·rw[show n=j by omega];exact .inr h
theorem QQ{nf:Int→Bool}{l:List Ex}{j:Nat}{x:Ex}(hx:l[j]? =some x):twN nf l (j+1)=(twN nf l j||(nf x.fn||(l.take j).any fun y=>QO x.nm y.nm)):=by
 show(twN nf l j||aEM nf (l.take j) (l.getD j ⟨[],0⟩))=_;rw[List.getD_eq_getElem?_getD,hx];rfl
theorem aCa{m:Md}:((if decide ((0:Int)<(m.el.length:Int))=true then !m.tb.has else false)||m.el.any fun x=>x.fs.any (QN m))=m.el.any (BB m):=by
 rw[Bool.eq_iff_iff];simp only[Bool.or_eq_true,List.any_eq_true,BB];constructor
 ·rintro(h|⟨x,hx,h⟩)
  ·split at h
   ·next h1=>
    have:0<m.el.length:=by have:=of_decide_eq_true h1;omega
    exact⟨m.el[0],List.getElem_mem this,.inr h⟩
   ·cases h
  ·exact⟨x,hx,.inl h⟩
 ·rintro⟨x,hx,h|h⟩
  ·exact .inr ⟨x,hx,h⟩
  ·left;rw[if_pos (decide_eq_true (by have:=List.length_pos_of_mem hx;omega))];exact h
theorem MO{m:Md}:(if decide ((0:Int)<(m.da.length:Int))=true then !m.me.has else false)=(!m.da.isEmpty&& !m.me.has):=by
 cases m.da with
 |nil=>rfl
 |cons x l=>rw[if_pos (decide_eq_true (by simp))];rfl
theorem aLD(a b:Bool):a=true∨(a=false∧b=true)∨(a=false∧b=false):=by cases a<;>cases b<;>simp
end Go.Proofs.YtjpdadobblffmaaGreat
namespace Go.Proofs.YtjpdadobblffmaaGreat
open Go.RowKit Go.ChangeShapes Go.WideShapes Go.ChangeAt Go.Deep
attribute [local irreducible] SW RS RD fF eB
theorem rY{α:Type}{l:List α}{p:α→Bool}{j:Nat}{x:α}(hx:l[j]? =some x):(l.take (j+1)).any p=((l.take j).any p||p x):=by
 rw[List.take_add_one,hx,List.any_append];simp
theorem yI{α:Type}{l:List α}{p:α→Bool}{j:Nat}{x:α}(hx:l[j]? =some x)(h:p x=true):l.any p=true:=List.any_eq_true.2 ⟨x,List.mem_of_getElem? hx,h⟩
theorem QR(a b:List Nat):QO a b=QO b a:=by unfold QO;exact Bool.beq_comm
def tyL (m:Md) (t:Int):FT:=m.ty.getD t.toNat AR
def ZS (m:Md) (j:Nat):List FT:=(m.im.take j).map fun x=>tyL m x.ty
def YS (m:Md) (j:Nat):List FT:=ZS m m.im.length++(m.fn.take j).map (tyL m)
def RL (m:Md):Bool:= !(m.im.any fun x=>MN m x.ty)&& !(m.fn.any (MN m))
def YT (m:Md):AV:=if RL m then .ro 2 ((YS m m.fn.length).map dF) .any else .ro 0 [] .nil
def MP (m:Md):List FT:=if RL m then YS m m.fn.length else []
theorem aCb{m:Md}{j:Nat}{x:Im}(hx:m.im[j]? =some x):ZS m (j+1)=ZS m j++ [tyL m x.ty]:=by
 unfold ZS;rw[List.take_add_one,hx,List.map_append];rfl
theorem aCc{m:Md}{j:Nat}{t:Int}(hx:m.fn[j]? =some t):YS m (j+1)=YS m j++ [tyL m t]:=by
 unfold YS;rw[List.take_add_one,hx,List.map_append,List.append_assoc];rfl
theorem aEN(m:Md)(j:Nat)(h:j≤m.im.length):(ZS m j).length=j:=by simp[ZS];omega
theorem WG(m:Md)(j:Nat)(h:j≤m.fn.length):(YS m j).length=m.im.length+j:=by simp[YS,ZS];omega
theorem aCd(m:Md):YS m 0=ZS m m.im.length:=by simp[YS]
structure Md.Nn (m:Md):Prop where
 im:∀x∈m.im,0≤x.ty
 fn:∀t∈m.fn,0≤t
theorem aEO{m:Md}(h:kD m=true):m.Nn:=by
 have hm:=(vL h).1;unfold oO at hm;simp only[Bool.and_eq_true]at hm;obtain⟨⟨⟨-,hls⟩,-⟩,-⟩:=hm;unfold mB at hls;simp only[Bool.and_eq_true]at hls;obtain⟨⟨⟨⟨⟨⟨-,him⟩,hfn⟩,-⟩,-⟩,-⟩,-⟩:=hls;have h0:∀n,gG n=true→0≤n:=fun n hn=>by
  unfold gG at hn;by_cases h:0≤n
  ·exact h
  ·rw[if_neg (by simpa using h)]at hn;cases hn
 refine⟨fun x hx=> ?_,fun t ht=>h0 t ((cD hfn).2 t ht)⟩;have:=(cD him).2 x hx;simp only[Bool.and_eq_true]at this;exact h0 _ this.2
theorem aCe{m:Md}{t:Int}(h:MN m t=false)(h0:0≤t):m.ty[t.toNat]? =some (tyL m t):=by
 have:t.toNat<m.ty.length:=by unfold MN at h;simp only[decide_eq_false_iff_not]at h;omega
 unfold tyL;rw[List.getD_eq_getElem?_getD,List.getElem?_eq_getElem this];rfl
theorem YU(m:Md)(hz:m.Z)(hn:m.Nn):SCall Tryz.prog 93 [.agg (aZ m)] [] (fun y σ=>y=.tup [YT m,.bool (RL m)]∧σ=[]):=by
 have hi:=hz.im;have hf:=hz.fn;obtain⟨n1,n2⟩:=hn;refine bS 66 [0,1,2,3,4,5,6,11,23,41,52] Tryz.func93 ?_;refine cZ ?_;refine gQ fun r1 h1=> ?_;intros
 refine jF ?_;refine jV ?_;refine bP 4 50 2 (by decide) rfl (by decide) (bN fun q0 hq0=> ?_);repeat rcases hq0 with⟨_,hq0⟩
 refine jV ?_;refine lp (β:=Nat×Nat) (fun b=>⟨[(1,.ptr r1 0),(4,.own b.2 0 (ZS m b.1).length),(5,.int .i64 b.1)],[(b.2,.arr 50 2 ((ZS m b.1).map dF)),(r1,.box 33 (aZ m))]⟩) (fun b=>b.1≤m.im.length∧((m.im.take b.1).any fun x=>MN m x.ty)=false∧Nq b.2 r1) (fun b=>m.im.length-b.1) (0,q0) aJ ⟨Nat.zero_le _,rfl,by show Nq q0 r1;(exact cA)⟩ ?_;rintro⟨j,q⟩ ⟨hj,ha,hq⟩;dsimp only at hj ha hq⊢;refine nT ?_;refine aB rfl (fun g3=> ?_) (fun g3=> ?_)
 ·have hlt:j<m.im.length:=by simpa using g3
  obtain⟨x,hx⟩:∃x,m.im[j]? =some x:=⟨_,List.getElem?_eq_getElem hlt⟩
  have hx0:=n1 x (List.mem_of_getElem? hx);have hnx:=aCb hx;have hlen:=aEN m j hj;refine aI ?_;refine fJ [(0,true),(1,true),(2,true),(3,true),(4,true),(5,true),(6,true),(7,true),(8,true),(9,true)] ?_;refine mS ?_;refine iC ?_;refine UD ?_;refine fP rfl (gC (E rfl) (E rfl)) rfl ?_;refine jI ?_;refine aB rfl (fun g5=> ?_) (fun g5=> ?_)
  ·refine aI ?_;have hE:RL m=false:=by unfold RL;rw[yI (p:=fun x:Im=>MN m x.ty) hx g5];rfl
   refine oZ ?_;exact aD aE ⟨by unfold YT;rw[hE];rfl,rfl⟩ aA
  refine aI ?_;have hty:=aCe g5 hx0;have hty2:0≤x.ty∧x.ty<(m.ty.length:Int):=⟨hx0,by simpa using g5⟩
  refine fJ [(0,true),(1,true),(2,true),(3,true),(4,true),(5,true),(6,true),(7,true),(8,true),(9,true),(10,true),(11,false),(12,false),(13,true)] ?_;refine CG ?_;refine mS ?_;refine pY ?_;refine HL fun r35 h35=> ?_;intros
  refine eZ rfl ((ZS m j++ [tyL m x.ty]).map dF) (ZS m j++ [tyL m x.ty]).length ?_;refine bE fun r36 h36=> ?_;intros
  refine oX ?_;refine⟨(j+1,r36),⟨hlt,by rw[rY hx,ha];exact g5,by show Nq r36 r1;(exact cA)⟩,by show m.im.length-(j+1)<m.im.length-j;omega, ?_⟩;dsimp only;rw[hnx];exact aJ
 obtain rfl:j=m.im.length:=by simp at g3;omega
 rw[List.take_length]at ha;rw[←aCd];refine bF ?_;refine lp (β:=Nat×Nat) (fun b=>⟨[(1,.ptr r1 0),(4,.own b.2 0 (YS m b.1).length),(6,.int .i64 b.1)],[(b.2,.arr 50 2 ((YS m b.1).map dF)),(r1,.box 33 (aZ m))]⟩) (fun b=>b.1≤m.fn.length∧((m.fn.take b.1).any (MN m))=false∧Nq b.2 r1) (fun b=>m.fn.length-b.1) (0,q) aJ ⟨Nat.zero_le _,rfl,hq⟩ ?_;rintro⟨j,p⟩ ⟨hj2,hb,hp⟩;dsimp only at hj2 hb hp⊢;refine nT ?_;refine aB rfl (fun g9=> ?_) (fun g9=> ?_)
 ·have hlt:j<m.fn.length:=by simpa using g9
  obtain⟨t,ht⟩:∃t,m.fn[j]? =some t:=⟨_,List.getElem?_eq_getElem hlt⟩
  have ht0:=n2 t (List.mem_of_getElem? ht);have hnx:=aCc ht;have hlen:=WG m j hj2;refine aI ?_;refine fJ [(0,true),(1,true),(2,true),(3,true),(4,true),(5,true),(6,true),(7,true),(8,true)] ?_;refine HG ?_;refine nG ?_;refine iC ?_;refine UD ?_;refine fP rfl (gC (E rfl) (E rfl)) rfl ?_;refine jI ?_;refine aB rfl (fun g11=> ?_) (fun g11=> ?_)
  ·refine aI ?_;have hE:RL m=false:=by unfold RL;rw[yI (p:=MN m) ht g11];simp
   refine oZ ?_;exact aD aE ⟨by unfold YT;rw[hE];rfl,rfl⟩ aA
  refine aI ?_;have hty:=aCe g11 ht0;have hty2:0≤t∧t<(m.ty.length:Int):=⟨ht0,by simpa using g11⟩
  refine fJ [(0,true),(1,true),(2,true),(3,true),(4,true),(5,true),(6,true),(7,true),(8,true),(9,true),(10,false),(11,false),(12,true)] ?_;refine CG ?_;refine HG ?_;refine nG ?_;refine pY ?_;refine HL fun r63 h63=> ?_;intros
  refine eZ rfl ((YS m j++ [tyL m t]).map dF) (YS m j++ [tyL m t]).length ?_;refine bE fun r64 h64=> ?_;intros
  refine oX ?_;refine⟨(j+1,r64),⟨hlt,by rw[rY ht,hb];exact g11,by show Nq r64 r1;(exact cA)⟩,by show m.fn.length-(j+1)<m.fn.length-j;omega, ?_⟩;dsimp only;rw[hnx];exact aJ
 obtain rfl:j=m.fn.length:=by simp at g9;omega
 rw[List.take_length]at hb;have hE:RL m=true:=by unfold RL;rw[ha,hb];rfl
 refine aAO (j:=4) rfl bK (aN bC (by simp)) ?_;refine cX ?_;refine jF ?_;exact aD aE ⟨by unfold YT;rw[hE];rfl,rfl⟩ aA
theorem MQ(l:Li):(if(if l.has=true then decide (0≤l.mx)else false)=true then decide (l.mx<l.mn)else false)=TJ l:=by rw[jK,jK];rfl
theorem aEP{m:Md}(h:RL m=true):((MP m).length:Int)=(m.im.length:Int)+(m.fn.length:Int):=by
 unfold MP;rw[if_pos h,WG m _ (Nat.le_refl _)];omega
theorem aHU{m:Md}{f:Int}(h:RL m=true):decide (((MP m).length:Int)≤f)=QN m f:=by rw[aEP h];rfl
theorem YV{m:Md}(h:(m.im.any fun x=>MN m x.ty)=false)(h2:RL m=false):m.fn.any (MN m)=true:=by
 unfold RL at h2;rw[h]at h2;simpa using h2
theorem aCf{m:Md}(h2:RL m=true):m.fn.any (MN m)=false:=by
 unfold RL at h2;simp only[Bool.and_eq_true,Bool.not_eq_true']at h2;exact h2.2
structure Vp (m:Md):Prop where
 a:¬kD m=false
 b:¬(m.im.any fun x=>MN m x.ty)=true
 c:¬m.fn.any (MN m)=true
theorem Vp.to {m:Md}(h:Vp m)(h1:TJ m.tb=false)(h2:TJ m.me=false):gB m=if twN (QN m) m.ex m.ex.length=true then 7
 else if m.el.any (BB m)=true then 9 else if oW m m.co.length=false then 10 else if(!m.da.isEmpty&& !m.me.has)=true then 11 else-1:=by
 unfold gB;rw[if_neg h.a,if_neg h.b,if_neg h.c,if_neg (by simp[h1]),if_neg (by simp[h2])]
section
variable {r p z q : Nat} {E0 : Env}
theorem QS(hN:Nr r p z q)(t:RT)(hl:t.l.length≤900000)(a b:Int)(l:List Int)(ha:0≤a):SCall Tryz.prog 277 [.ptr r 0,.agg (iv .any ⟨32,a,b,l⟩),.ptr z 0] (yL E0 r p z q t) (fun _ σ=>∃e,Nr r p z e∧σ=yL E0 r p z e (mZ E0.m E0.ls ⟨32,a,b,l⟩ t)):=by
 have hN0:=hN;obtain⟨n1,n2,n3,n4,n5,n6⟩:=hN;unfold iv;refine bS 118 [0,1,2,4,6,7,9,14,19,24,35,49,57,62,91,108] Tryz.func277 ?_;unfold yL MH JV RK
 (try dsimp only[List.cons_append,List.nil_append]);refine cZ ?_;refine gQ fun r4 h4=> ?_;intros
 refine pO ?_;refine fT ?_;refine rN ?_;refine eP ?_;refine eP ?_;rw[show mZ E0.m E0.ls ⟨32,a,b,l⟩ t=if decide ((E0.ls.length:Int)≤a)=true then mY t else tA t [E0.ls.getD a.toNat 0] by unfold mZ;rfl];refine fJ [(0,true),(1,true),(2,true),(3,true),(4,true),(5,true),(6,true),(7,true)] ?_;refine iC ?_;refine IS ?_;refine fP rfl (gC (E rfl) (E rfl)) rfl ?_;refine jI ?_;refine aB rfl (fun g10=> ?_) (fun g10=> ?_)
 ·rw[if_pos (c:=decide ((E0.ls.length:Int)≤a)=true) g10];have hL:=hN0;refine cX ?_;refine lK ?_;exact aD aE ⟨_,hL,rfl⟩ aA
 rw[if_neg (c:=decide ((E0.ls.length:Int)≤a)=true) (fun e=>by rw[g10]at e;cases e)];have hlt:a<E0.ls.length:=by simpa using g10
 obtain⟨k,hk⟩:∃k,E0.ls[a.toNat]? =some k:=⟨_,List.getElem?_eq_getElem (by omega)⟩
 rw[show E0.ls.getD a.toNat 0=k by rw[List.getD_eq_getElem?_getD,hk];rfl];refine aI ?_;refine fJ [(0,true),(1,true),(2,true),(3,true),(4,true),(5,true),(6,true),(7,true),(8,true)] ?_;refine mQ ?_;refine iC ?_;refine nG ?_;refine WY ?_;refine fT ?_;refine lo (dV (E rfl) (E rfl)) rfl ?_;refine pO ?_;refine fT ?_;refine qH ?_;refine kQ ?_;refine eC fun r60 h60=> ?_;intros
 refine iW (j:=60) rfl bK (aN bC (by simp)) ?_;refine cw (JV z q t) Tryz.call275 (aEA hN0.qz t (by omega) [k] (by simp)) rfl aC BU ?_;rintro _ σ' ⟨e,he,rfl⟩ h61
 (try unfold yL);(try unfold MH);(try unfold JV);(try unfold RK);(try dsimp only[List.cons_append,List.nil_append]);refine aLC (h61 _ (List.mem_cons_of_mem _ List.mem_cons_self)) fun k61=> ?_;intros
 have hL:Nr r p z e:=⟨hN0.pr,hN0.zr,hN0.zp,by(exact cA),by(exact cA),by(exact cA)⟩
 refine jG ?_;refine cL ?_;exact aD aE ⟨_,hL,rfl⟩ aA
end
theorem QT{E0:Env}(hE0:E0.Ok)(n:Nat)(h32:∀x∈E0.bd,x.op=32):aJ5 E0 n:=by
 intro r p z q t0 x hN hW hx hn;obtain⟨ta,tl,tb,l,dd⟩:=t0;have hN0:=hN;obtain⟨n1,n2,n3,n4,n5,n6⟩:=hN;have hbl:=hE0.bl;have hlt:ta<E0.bd.length:=(List.getElem?_eq_some_iff.1 hx).1;obtain⟨hxc,hx1,hx23⟩:=hE0.bd x (List.mem_of_getElem? hx);have htl:(⟨ta+1,tl,tb,l,dd⟩:RT).l.length≤900000:=by have:=hW.l;show l.length≤ _;dsimp only at this;omega
 have h0:=h32 x (List.mem_of_getElem? hx);obtain⟨op,a,b,ll⟩:=x;dsimp only at h0;have hI:fC E0.m E0.ls E0.res E0.bd (LE E0) ⟨op,a,b,ll⟩ ⟨ta,tl,tb,l,dd⟩=mZ E0.m E0.ls ⟨32,a,b,ll⟩ ⟨ta+1,tl,tb,l,dd⟩:=by rw[h0];rfl
 rw[hI];have ha:0≤a:=hxc.nn (by simp[h0]);have hk:=vZ op;rw[show KW op=(0,0,0,false) by rw[h0];rfl]at hk;dsimp only at hk;unfold iv;refine bS 97 [0,1,2,4,6,7,8,9,10,11,12,21,22,30,40,47,52,69,79,82] Tryz.func201 ?_;unfold yL MH JV RK
 (try dsimp only[List.cons_append,List.nil_append]);refine cZ ?_;refine gQ fun r4 h4=> ?_;intros
 refine oR ?_;refine gY ?_;refine NR ?_;refine lK ?_;rw[show((ta:Int)+1)=((ta+1:Nat):Int) by omega];refine mJ ?_;refine fO ?_;refine rN ?_;apply fR rfl;exact cO
 ·intro _;(refine aI ?_);refine eP ?_;apply dR rfl;exact cO
  ·intro _;(refine aI ?_);refine eP ?_;exact aJ
  exact aJ
 refine aI ?_;refine aB rfl (fun g3=> ?_) (fun g3=> ?_)
 ·refine aI ?_;exact absurd g3 (by rw[h0];decide)
 refine dE ?_;apply fR rfl;exact cO
 ·intro _;(refine aI ?_);refine eP ?_;apply dR rfl;exact cO
  ·intro _;(refine aI ?_);refine eP ?_;apply dR rfl;exact cO
   ·intro _;(refine aI ?_);refine eP ?_;apply dR rfl;exact cO
    ·intro _;(refine aI ?_);refine eP ?_;exact aJ
    exact aJ
   exact aJ
  exact aJ
 refine aI ?_;refine aB rfl (fun g7=> ?_) (fun g7=> ?_)
 ·refine aI ?_;exact absurd g7 (by rw[h0];decide)
 refine dE ?_;apply fR rfl;exact cO
 ·intro _;(refine aI ?_);refine eP ?_;exact aJ
 refine aI ?_;refine aB rfl (fun g13=> ?_) (fun g13=> ?_)
 ·refine aI ?_;exact absurd g13 (by rw[h0];decide)
 refine dE ?_;refine aB rfl (fun g16=> ?_) (fun g16=> ?_)
 ·refine aI ?_;exact absurd g16 (by rw[h0];decide)
 refine dE ?_;refine aB rfl (fun g18=> ?_) (fun g18=> ?_)
 ·refine aI ?_;exact absurd g18 (by rw[h0];decide)
 refine dE ?_;rw[show(op==1)=false by rw[h0];rfl];refine fT ?_;refine lB Tryz.call276 hk rfl aP aS ?_;refine sK ?_;refine KR ?_;refine xB ?_;refine fV ?_;refine oR ?_;refine kP ?_;refine lo (aF (E rfl)) rfl ?_;subst h0;refine cw (yL E0 r p z q ⟨ta+1,tl,tb,l,dd⟩) Tryz.call277 (QS hN0 ⟨ta+1,tl,tb,l,dd⟩ htl a b ll ha) rfl aC BU ?_;rintro _ σ' ⟨f,hL2,rfl⟩ h96;refine aAn ?_;refine cL ?_;exact aD aE ⟨_,_,hL2,rfl⟩ aA
theorem YW{E0:Env}(hE0:E0.Ok)(h32:∀x∈E0.bd,x.op=32)(n:Nat):aJ4 E0 n:=YR hE0 n (QT hE0 n h32)
theorem TK(m:Md)(hm:m.RFn)(h32:∀c∈m.co,∀x∈c.bd,x.op=32)(k:Int):SCall Tryz.prog 24 [.agg (aZ m),.int .i64 k] [] (fun y σ=>y=.bool (QJ m k)∧σ=[]):=by
 refine bS 101 [0,1,2,4,5,6,41,77] Tryz.func24 ?_;unfold aZ;refine cZ ?_;refine gQ fun r2 h2=> ?_;intros
 refine cM ?_;rcases hC:(if(if decide (k<0)=true then true else decide ((m.co.length:Int)≤k))=true then true else decide ((m.fn.length:Int)≤k))with _ | _
 ·obtain⟨t1,t2,t3⟩:=aBB hC;simp only[decide_eq_false_iff_not]at t1 t2 t3;obtain⟨c,hc⟩:∃c,m.co[k.toNat]? =some c:=⟨_,List.getElem?_eq_getElem (by omega)⟩
  obtain⟨f,hf⟩:∃f,m.fn[k.toNat]? =some f:=⟨_,List.getElem?_eq_getElem (by omega)⟩
  have hcm:=List.mem_of_getElem? hc;obtain⟨hb1,hb2⟩:=hm.bd c hcm;have hlc:=hm.lc c hcm;rw[aEK hC hc hf];refine fJ [(0,true),(1,true),(2,true),(3,true),(4,true),(5,true),(6,true),(7,true),(8,true),(9,true),(10,true),(11,true),(12,true),(13,true),(14,true),(15,true),(16,true),(17,true),(18,true),(19,true),(20,true),(21,true),(22,true),(23,true),(24,true),(25,true),(26,true),(27,true),(28,true),(29,true),(30,true),(31,true),(32,true),(33,true),(34,true)] ?_;refine fP rfl (aF (E rfl)) rfl ?_;refine z46 ?_;refine uS ?_;refine HF ?_;refine UE ?_;refine RV ?_;refine uS ?_;refine HF ?_;refine UE ?_;refine RV ?_;rw[hC];refine DX ?_;refine yS ?_;refine sJ ?_;refine NW ?_;refine NY ?_;refine aGr ?_;refine DX ?_;refine yS ?_;refine sJ ?_;refine NW ?_;refine NY ?_;refine HF ?_;refine UE ?_;refine RV ?_;refine jI ?_;refine aB rfl (fun g1=> ?_) (fun g1=> ?_)
  ·rw[if_pos g1];refine bF ?_;exact aD aE ⟨by rfl,rfl⟩ aA
  rw[if_neg (c:=(if decide (f<0)=true then true else decide ((m.ty.length:Int)≤f))=true) (fun e=>by rw[g1]at e;cases e)];have hf2:0≤f∧f<m.ty.length:=by
   have:∀p q:Bool,(if p=true then true else q)=false→p=false∧q=false:=by intro p q;cases p<;>cases q<;>simp
   obtain⟨h1,h2⟩:=this _ _ g1;simp only[decide_eq_false_iff_not]at h1 h2;omega
  obtain⟨ty,hty⟩:∃ty,m.ty[f.toNat]? =some ty:=⟨_,List.getElem?_eq_getElem (by omega)⟩
  have hts:=hm.ts ty (List.mem_of_getElem? hty);rw[show m.ty.getD f.toNat AR=ty by rw[List.getD_eq_getElem?_getD,hty];rfl];obtain⟨pr,rs⟩:=ty;obtain⟨hp1,hp2⟩:=hts;dsimp only at hp1 hp2⊢;refine aI ?_;refine fJ [(0,true),(1,true),(2,true),(3,true),(4,true),(5,true),(6,true),(7,true),(8,true),(9,false),(10,false)] ?_;refine iC ?_;refine HG ?_;refine nG ?_;refine pY ?_;apply dal;rfl;infer_instance;rfl;exact yR;refine iT fun r5 h5=> ?_;intros
  refine z95 ?_;refine jI ?_;refine fJ [(0,true),(1,true),(2,true),(3,true),(4,true),(5,true),(6,true),(7,true),(8,true),(10,true),(11,true),(12,true),(13,true),(14,true),(15,true),(17,true),(18,true),(9,false),(16,false),(19,true),(20,false),(21,true)] ?_;refine IQ ?_;refine mS ?_;refine iC ?_;refine mS ?_;refine iC ?_;refine aJd rfl (pr.map aK) pr.length ?_ (hby:=by omega);refine iT fun r60 h60=> ?_;intros
  refine eZ rfl ((pr++c.ls).map aK) (pr++c.ls).length ?_;refine bE fun r67 h67=> ?_;intros
  refine aJg (j:=67) rfl bK (aN bC (by simp)) ?_;refine z94 ?_;refine fz5 fun r71 h71=> ?_;intros
  refine wQ ?_;have hll:(pr++c.ls).length≤2000:=by simp;omega
  generalize pr++c.ls=ls at hll⊢;refine fV ?_;refine gY ?_;refine xT ?_;refine iI ?_;refine aB rfl (fun g5=> ?_) (fun g5=> ?_)
  ·rw[if_pos g5];refine bF ?_;exact aD aE ⟨by rfl,rfl⟩ aA
  rw[if_neg (c:=decide ((32:Int)<(ls.length:Int))=true) (fun e=>by rw[g5]at e;cases e)];have hE0:Env.Ok ⟨m,ls,rs,c.bd⟩:=⟨hm.toCk,by show rs.length≤ _;omega,hb1,hb2⟩
  refine aI ?_;refine cH (ks:=[0,1,2,4,5,6,41,77]) r71 18 24 1 (by decide) bC rfl (by decide) fun p hp=> ?_
  simp only[aO,aT,and_true]at hp;repeat rcases hp with⟨_,hp⟩
  apply Exists.intro;apply And.intro;exact cE;refine lA ?_;refine fO ?_;refine cw (MH ⟨m,ls,rs,c.bd⟩ r71 p ⟨0,[],false,[],false⟩) Tryz.call80 (YW hE0 (h32 c hcm) c.bd.length r71 p ⟨0,[],false,[],false⟩ rs rs (by(exact cA)) ⟨Nat.zero_le _,Nat.le_refl _,fun l hl=>by simp at hl⟩ (Nat.sub_le _ _) (by omega) (by omega)) rfl aC BU ?_;rintro _ σ' ⟨e,he,rfl⟩ h83;refine aAn ?_;generalize eR (LE ⟨m,ls,rs,c.bd⟩) rs rs ⟨0,[],false,[],false⟩=T;refine fJ [(0,true),(1,true),(2,true),(3,true),(4,true),(5,true),(6,true),(7,true),(8,true),(9,true),(10,true),(11,true),(12,true),(13,true),(14,true),(15,true),(16,true),(17,true)] ?_;refine mQ ?_;refine fP rfl (eI (E rfl)) rfl ?_;refine uS ?_;refine sq4 ?_;refine yS ?_;refine sJ ?_;refine sq4 ?_;refine UE ?_;refine aIU ?_;refine aCX ?_;refine wQ ?_;exact aD aE ⟨by rfl,rfl⟩ aA
 ·rw[aEJ hC];refine fJ [(0,true),(1,true),(2,true),(3,true),(4,true),(5,true),(6,true),(7,true),(8,true),(9,true),(10,true),(11,true),(12,true),(13,true),(14,true),(15,true),(16,true),(17,true),(18,true),(19,true),(20,true),(21,true),(22,true),(23,true),(24,true),(25,true),(26,true),(27,true),(28,true),(29,true),(30,true),(31,true),(32,true),(33,true),(34,true)] ?_;refine fP rfl (aF (E rfl)) rfl ?_;refine z46 ?_;refine uS ?_;refine HF ?_;refine UE ?_;refine RV ?_;refine uS ?_;refine HF ?_;refine UE ?_;refine RV ?_;rw[hC];refine DX ?_;refine yS ?_;refine sJ ?_;refine NW ?_;refine NY ?_;refine aGr ?_;refine DX ?_;refine yS ?_;refine sJ ?_;refine NW ?_;refine NY ?_;refine HF ?_;refine UE ?_;refine RV ?_;refine CC ?_;refine bF ?_;exact aD aE ⟨by rfl,rfl⟩ aA
end Go.Proofs.YtjpdadobblffmaaGreat
