import Derived.Test.YtjpdadobblffmaaGreatCB5
import Derived.ChangeKeysEq
import Derived.Laws.StructEq
import Derived.Test.YtjpdadobblffmaaGreatCB4
import Derived.Test.YtjpdadobblffmaaGreatCB3
set_option linter.unusedSimpArgs false
set_option linter.unusedVariables false
set_option maxRecDepth 100000
set_option maxHeartbeats 4000000
namespace Go.Proofs.YtjpdadobblffmaaGreat
open Go.RowKit Go.ChangeShapes Go.WideShapes Go.ChangeAt Go.Deep
attribute [local irreducible] SW RS RD gJ fA
def OH (s:List Nat):Prop:=s.length≤1000∧∀c∈s,c<256
def SmI (n:Int):Prop:=0≤n∧n≤100000
structure Md.G (m:Md):Prop where
 ty:m.ty.length≤100∧∀x∈m.ty,x.pr.length≤1000∧x.rs.length≤1000
 im:m.im.length≤100∧∀x∈m.im,OH x.mod∧OH x.nm∧SmI x.ty
 fn:m.fn.length≤100∧∀n∈m.fn,SmI n
 tb:m.tb.has=true→NJ m.tb
 me:m.me.has=true→NJ m.me
 gl:m.gl.length≤100∧∀g∈m.gl,lW g.kd g.n=true∧ -9223372036854775808≤g.n∧g.n≤9223372036854775807
 ex:m.ex.length≤100∧∀x∈m.ex,OH x.nm∧SmI x.fn
 el:m.el.length≤100∧∀x∈m.el,kE x.off=true∧x.fs.length≤1000∧∀n∈x.fs,SmI n
 co:m.co.length≤100∧∀x∈m.co,x.ls.length≤1000∧x.bd.length≤310∧∀i∈x.bd,i.Ok∧dC i=true
 da:m.da.length≤100∧∀x∈m.da,kE x.off=true∧x.bs.length≤1000
theorem uU{n:Int}(h:SmI n):(cB n).length≤5:=bN 4 n.toNat (by have:=h.2;have:=h.1;omega)
theorem zS{s:List Nat}(h:OH s):(bO s).length≤1005:=by
 have:=bN 4 s.length (by have:=h.1;omega);have:=h.1;unfold bO;rw[List.length_append];omega
theorem kS{α:Type}(no:Nat){l:List α}(pt:α→List Nat)(c:Nat)(hl:l.length≤100)(hc:c≤100000)(h:∀x∈l,(pt x).length≤c):(bL no l pt).length≤20+100*c∧∀j,(eL pt l j).length≤100*c:=by
 have h1:=QH h;have h4:l.length*c≤100*c:=Nat.mul_le_mul_right c hl;have h2:(bD l pt).length≤5+100*c:=by
  rw[BQ,List.length_append];have:=bN 4 l.length (by omega);have:=h1 l.length;omega
 refine⟨?_,fun j=>Nat.le_trans (h1 j) h4⟩;have h3:=bN 4 (bD l pt).length (by omega);unfold bL;split
 ·simp
 ·simp only[List.length_cons,List.length_append];omega
theorem aCF{t:FT}(h:t.pr.length≤1000∧t.rs.length≤1000):(uJ t).length≤2100:=by
 have h1:=lF (pt:=kB) (l:=t.pr) (c:=1) (fun x _=>Nat.le_of_eq (mX x)) h.1;have h2:=lF (pt:=kB) (l:=t.rs) (c:=1) (fun x _=>Nat.le_of_eq (mX x)) h.2;unfold uJ;simp only[List.length_cons,List.length_append];omega
theorem aCG{x:Im}(h:OH x.mod∧OH x.nm∧SmI x.ty):(jC x).length≤2100:=by
 have h1:=zS h.1;have h2:=zS h.2.1;have h3:=uU h.2.2;unfold jC;simp only[List.length_append,List.length_cons,List.length_nil];omega
theorem aCH{g:Gl}(h:lW g.kd g.n=true∧ -9223372036854775808≤g.n∧g.n≤9223372036854775807):(tG g).length≤300:=by
 have h1:=vH h.1 h.2;have h2:=mX g.kd;unfold tG;simp only[List.length_append,List.length_cons,List.length_nil];omega
theorem aCI{x:Ex}(h:OH x.nm∧SmI x.fn):(mL x).length≤1100:=by
 have h2:=zS h.1;have h3:=uU h.2;unfold mL;simp only[List.length_append,List.length_cons,List.length_nil];omega
theorem SV{x:El}(h:kE x.off=true∧x.fs.length≤1000∧∀n∈x.fs,SmI n):(tH x).length≤5300:=by
 have h1:=BN h.1;have h2:=lF (pt:=cB) (l:=x.fs) (c:=5) (fun n hn=>uU (h.2.2 n hn)) h.2.1;unfold tH;rw[List.length_append];omega
theorem SX{l:List Int}(hl:l.length≤1000):(bD (bX l) iG).length≤3010:=by
 have h:=SU hl l.length;unfold OG at h;rw[List.take_length]at h;have:=bN 4 (bX l).length (by omega);unfold bD;rw[List.length_append];omega
theorem SY{x:Co}(h:x.ls.length≤1000∧x.bd.length≤310∧∀i∈x.bd,i.Ok∧dC i=true):(kA x).length≤70000:=by
 have h1:=SX h.1;have h2:=yB h.2.2;have h3:=bN 4 (bD (bX x.ls) iG++iU x.bd).length (by rw[List.length_append];omega);unfold kA;rw[List.length_append,List.length_append];rw[List.length_append]at h3;omega
theorem SZ{x:Da}(h:kE x.off=true∧x.bs.length≤1000):(vG x).length≤1300:=by
 have h1:=BN h.1;have h2:=bN 4 x.bs.length (by omega);unfold vG;simp only[List.length_append];omega
theorem TA{s:List Nat}{mu:Bool}{k n:Int}{z:Nat}(h:(if mu=true then 1 else 0)=z):s++tG ⟨mu,k,n⟩=s++ [if(k==1)=true then 127 else 126,z]++lL k n:=by
 unfold tG;dsimp only;rw[h,aAe];simp
def uV (m:Md):List Nat:=bL 9 m.el tH++bL 10 m.co kA++bL 11 m.da vG
theorem aAg(m:Md)(h:m.G)(hlate:SCall Tryz.prog 164 [.agg (cK m)] [] (fun y σ=>∃q,y=.own q 0 (uV m).length∧σ=[(q,.arr 5 1 ((uV m).map aH))]))(hll:(uV m).length≤10000000):SCall Tryz.prog 64 [.agg (cK m)] [] (fun y σ=>∃q,y=.own q 0 (fH m).length∧σ=[(q,.arr 5 1 ((fH m).map aH))]):=by
 obtain⟨⟨nty,hty⟩,⟨nim,him⟩,⟨nfn,hfn⟩,htb,hme,⟨ngl,hgl⟩,⟨nex,hex⟩,-,-,-⟩:=h;obtain⟨ty,im,fn,tb,me,gl,ex,el,co,da⟩:=m;dsimp only at nty hty nim him nfn hfn htb hme ngl hgl nex hex;obtain⟨L1,Pty⟩:=kS 1 uJ 2100 nty (by decide) fun x hx=>aCF (hty x hx)
 obtain⟨L2,Pim⟩:=kS 2 jC 2100 nim (by decide) fun x hx=>aCG (him x hx)
 obtain⟨L3,Pfn⟩:=kS 3 cB 5 nfn (by decide) fun x hx=>uU (hfn x hx)
 obtain⟨L6,Pgl⟩:=kS 6 tG 300 ngl (by decide) fun x hx=>aCH (hgl x hx)
 obtain⟨L7,Pex⟩:=kS 7 mL 1100 nex (by decide) fun x hx=>aCI (hex x hx)
 have T1:tb.has=true→bL 4 (gW tb) (fun l=>112::eK l)=bL 4 [tb] (fun l=>112::eK l):=fun h=>by unfold gW;rw[h];rfl
 have T0:tb.has=false→bL 4 (gW tb) (fun l=>112::eK l)=[]:=fun h=>by unfold gW;rw[h];rfl
 have E1:me.has=true→bL 5 (gW me) eK=bL 5 [me] eK:=fun h=>by unfold gW;rw[h];rfl
 have E0:me.has=false→bL 5 (gW me) eK=[]:=fun h=>by unfold gW;rw[h];rfl
 have L4:(bL 4 (gW tb) (fun l=>112::eK l)).length≤1020:=by
  cases hh:tb.has with
  |false=>rw[T0 hh];decide
  |true=>rw[T1 hh];exact(kS 4 (l:=[tb]) (fun l=>112::eK l) 10 (by simp) (by decide) (fun x hx=>by obtain rfl:=List.mem_singleton.1 hx;have:=vI (htb hh);simp;omega)).1
 have L5:(bL 5 (gW me) eK).length≤1020:=by
  cases hh:me.has with
  |false=>rw[E0 hh];decide
  |true=>rw[E1 hh];exact(kS 5 (l:=[me]) eK 10 (by simp) (by decide) (fun x hx=>by obtain rfl:=List.mem_singleton.1 hx;have:=vI (hme hh);omega)).1
 have hH:headB.length=8:=rfl;have hW:fH ⟨ty,im,fn,tb,me,gl,ex,el,co,da⟩=headB++bL 1 ty uJ++bL 2 im jC++bL 3 fn cB++bL 4 (gW tb) (fun l=>112::eK l)++bL 5 (gW me) eK++bL 6 gl tG++bL 7 ex mL++uV ⟨ty,im,fn,tb,me,gl,ex,el,co,da⟩:=by
  unfold fH uV;simp only[List.append_assoc]
 rw[hW];generalize uV ⟨ty,im,fn,tb,me,gl,ex,el,co,da⟩=SL at hlate hll⊢;refine cC 193 [0,1,2,3,4,5,6,7,8,9,10,11,12,18,51,85,105,116,127,136,160] Tryz.func64 ?_;unfold cK;dsimp only;refine dW ?_;apply bx;rfl;rfl;(exact dM);rfl;refine aD fun r1 h1=> ?_;repeat rcases h1 with⟨_,h1⟩
 refine kY ?_;refine z1 ?_;refine aD fun r13 h13=> ?_;repeat rcases h13 with⟨_,h13⟩
 refine dG ?_;rw[show([[.int .u8 0],[.int .u8 97],[.int .u8 115],[.int .u8 109],[.int .u8 1],[.int .u8 0],[.int .u8 0],[.int .u8 0]]:List (List AV))=headB.map aH from rfl,show AV.own r13 0 8=AV.own r13 0 headB.length from rfl];refine rT ?_;refine bU 4 5 1 (by decide) rfl (by decide) (aD fun q4 hq4=> ?_);repeat rcases hq4 with⟨_,hq4⟩
 refine rT ?_;refine lp (β:=Nat×Nat) (fun b=>⟨[(1,.ptr r1 0),(3,.own r13 0 (headB).length),(4,.own b.1 0 (eL uJ ty b.2).length),(5,.int .i64 b.2)],[(b.1,.arr 5 1 ((eL uJ ty b.2).map aH)),(r13,.arr 5 1 ((headB).map aH)),(r1,.box 33 (cK ⟨ty,im,fn,tb,me,gl,ex,el,co,da⟩))]⟩) (fun b=>b.2≤ty.length∧Nq b.1 r1∧Nq b.1 r13) (fun b=>ty.length-b.2) (q4,0) aK ⟨Nat.zero_le _,by show Nq q4 r1;(exact cF),by show Nq q4 r13;(exact cF)⟩ ?_;rintro⟨q1,j⟩ ⟨hj,hqa,hqb⟩;have hpl:=Pty j;dsimp only at hj hqa hqb⊢;unfold cK;dsimp only;refine mC ?_;refine aB rfl (fun g4=> ?_) (fun g4=> ?_)
 ·have hlt:j<ty.length:=by simp at g4;omega
  obtain⟨⟨pr,rs⟩,hx⟩:∃x,ty[j]? =some x:=⟨_,List.getElem?_eq_getElem hlt⟩
  obtain⟨hp1,hp2⟩:=hty _ (List.mem_of_getElem? hx);dsimp only at hp1 hp2;have hv1:=lF (pt:=kB) (l:=pr) (c:=1) (fun x _=>Nat.le_of_eq (mX x)) hp1;have hv2:=lF (pt:=kB) (l:=rs) (c:=1) (fun x _=>Nat.le_of_eq (mX x)) hp2;have hnx:=lD (pt:=uJ) hx;refine aP ?_;refine gI [(0,true),(3,true),(4,true),(5,true),(6,true),(7,true),(8,true),(11,true),(12,true),(13,true),(14,true),(15,true),(16,true),(1,false),(2,false),(9,false),(10,false),(17,false),(18,false),(19,true)] ?_;refine gD rfl (aI (E rfl)) rfl ?_;refine pW ?_;refine pW ?_;refine GO ?_;refine aD fun r22 h22=> ?_;repeat rcases h22 with⟨_,h22⟩
  refine fJ rfl ((eL uJ ty j++ [96]).map aH) (eL uJ ty j++ [96]).length ?_;refine bM fun r23 h23=> ?_;repeat rcases h23 with⟨_,h23⟩
  refine mU rfl Tryz.call157 (OF pr hp1) rfl bS kI ?_;rintro _ σ' ⟨q30,rfl,rfl⟩ h30
  replace h30:=cO h30;repeat rcases h30 with⟨_,h30⟩
  apply bZ;(exact bF);refine fJ rfl ((eL uJ ty j++ [96]++bD pr kB).map aH) (eL uJ ty j++ [96]++bD pr kB).length ?_;refine bM fun r31 h31=> ?_;repeat rcases h31 with⟨_,h31⟩
  refine mU rfl Tryz.call157 (OF rs hp2) rfl bS kI ?_;rintro _ σ' ⟨q38,rfl,rfl⟩ h38
  replace h38:=cO h38;repeat rcases h38 with⟨_,h38⟩
  apply bZ;(exact bF);refine fJ rfl ((eL uJ ty j++ [96]++bD pr kB++bD rs kB).map aH) (eL uJ ty j++ [96]++bD pr kB++bD rs kB).length ?_;refine bM fun r39 h39=> ?_;repeat rcases h39 with⟨_,h39⟩
  refine pV ?_;refine⟨(r39,j+1),⟨hlt,by show Nq r39 r1;(exact cF),by show Nq r39 r13;(exact cF)⟩,by show ty.length-(j+1)<ty.length-j;omega, ?_⟩;dsimp only;rw[hnx];rw[show eL uJ ty j++uJ ⟨pr,rs⟩=eL uJ ty j++ [96]++bD pr kB++bD rs kB by unfold uJ;simp];exact aK
 obtain rfl:j=ty.length:=by simp at g4;omega
 refine qW ?_;refine oA ?_;refine qQ Tryz.call158 (iW 1 (by decide) ty uJ (by omega) (by have:=Pty ty.length;omega)) rfl bS kI ?_;rintro _ σ' ⟨q45,rfl,rfl⟩ h45
 replace h45:=cO h45;repeat rcases h45 with⟨_,h45⟩
 apply aT;(exact bF);refine jY ((headB++bL 1 ty uJ).map aH) (headB++bL 1 ty uJ).length ?_;refine bM fun r46 h46=> ?_;repeat rcases h46 with⟨_,h46⟩
 refine dG ?_;generalize bL 1 ty uJ=S1 at L1⊢;refine rT ?_;refine bU 4 5 1 (by decide) rfl (by decide) (aD fun q5 hq5=> ?_);repeat rcases hq5 with⟨_,hq5⟩
 refine rT ?_;refine lp (β:=Nat×Nat) (fun b=>⟨[(1,.ptr r1 0),(3,.own r46 0 (headB++S1).length),(4,.own b.1 0 (eL jC im b.2).length),(6,.int .i64 b.2)],[(b.1,.arr 5 1 ((eL jC im b.2).map aH)),(r46,.arr 5 1 ((headB++S1).map aH)),(r1,.box 33 (cK ⟨ty,im,fn,tb,me,gl,ex,el,co,da⟩))]⟩) (fun b=>b.2≤im.length∧Nq b.1 r1∧Nq b.1 r46) (fun b=>im.length-b.2) (q5,0) aK ⟨Nat.zero_le _,by show Nq q5 r1;(exact cF),by show Nq q5 r46;(exact cF)⟩ ?_;rintro⟨q1,j⟩ ⟨hj,hqa,hqb⟩;have hpl:=Pim j;dsimp only at hj hqa hqb⊢;unfold cK;dsimp only;refine mC ?_;refine aB rfl (fun g10=> ?_) (fun g10=> ?_)
 ·have hlt:j<im.length:=by simp at g10;omega
  obtain⟨⟨md,nm,tt⟩,hx⟩:∃x,im[j]? =some x:=⟨_,List.getElem?_eq_getElem hlt⟩
  obtain⟨hm1,hm2,hm3⟩:=him _ (List.mem_of_getElem? hx);dsimp only at hm1 hm2 hm3;have ht1:=zS hm1;have ht2:=zS hm2;have ht3:=uU hm3;have hnx:=lD (pt:=jC) hx;refine fS ?_;refine mB ?_;apply al;rfl;(exact dM);refine aD fun r7 h7=> ?_;repeat rcases h7 with⟨_,h7⟩
  refine iD ?_;refine gI [(0,true),(1,true),(2,true),(5,true),(6,true),(11,true),(12,true),(16,false),(16,false),(16,false),(16,false),(16,false),(16,false),(16,false),(16,false),(16,false)] ?_;refine EZ ?_;refine jE ?_;refine jE ?_;refine jR 3 9 [(16,false),(16,false),(16,false),(16,false),(16,false),(16,false),(16,false),(16,false)] [(3,false),(4,false),(7,false),(8,false),(10,false),(13,false),(14,false),(15,true)] (f1:=[]) (f2:=[]) (by kernel_rfl) rfl rfl ?_ ?_ (.inl rfl) (.inl rfl)
  ·refine mH Tryz.call159 (qA md (by have:=hm1.1;omega) hm1.2) (dF rfl) ?_;rintro _ σ' ⟨q62,rfl,rfl⟩ h62
   replace h62:=cO h62;repeat rcases h62 with⟨_,h62⟩
   apply bZ;(exact bF);refine jR 4 9 [(16,false),(16,false),(16,false),(16,false),(16,false),(16,false),(16,false)] [(4,false),(7,false),(8,false),(10,false),(13,false),(14,false),(15,true)] (f1:=[q1]) (f2:=[]) (by kernel_rfl) rfl rfl ?_ ?_ (.inr ⟨by simp,gE⟩) (.inl rfl)
   ·refine aER ((eL jC im j++bO md).map aH) (eL jC im j++bO md).length ?_;refine bM fun r63 h63=> ?_;repeat rcases h63 with⟨_,h63⟩
    refine jR 7 9 [(16,false),(16,false),(16,false),(16,false),(16,false),(16,false)] [(7,false),(8,false),(10,false),(13,false),(14,false),(15,true)] (f1:=[]) (f2:=[]) (by kernel_rfl) rfl rfl ?_ ?_ (.inl rfl) (.inl rfl)
    ·refine mH Tryz.call159 (qA nm (by have:=hm2.1;omega) hm2.2) (dF rfl) ?_;rintro _ σ' ⟨q66,rfl,rfl⟩ h66
     replace h66:=cO h66;repeat rcases h66 with⟨_,h66⟩
     apply bZ;(exact bF);refine jR 8 9 [(9,false),(10,false),(13,false),(14,false),(15,true)] [(8,false),(10,false),(13,false),(14,false),(15,true)] (f1:=[r63]) (f2:=[]) (by kernel_rfl) rfl rfl ?_ ?_ (.inr ⟨by simp,gE⟩) (.inl rfl)
     ·refine aER ((eL jC im j++bO md++bO nm).map aH) (eL jC im j++bO md++bO nm).length ?_;refine bM fun r67 h67=> ?_;repeat rcases h67 with⟨_,h67⟩
      refine GO ?_;refine aD fun r68 h68=> ?_;repeat rcases h68 with⟨_,h68⟩
      refine fJ rfl ((eL jC im j++bO md++bO nm++ [0]).map aH) (eL jC im j++bO md++bO nm++ [0]).length ?_;refine bM fun r69 h69=> ?_;repeat rcases h69 with⟨_,h69⟩
      refine mU rfl Tryz.call160 (uS tt hm3.1 (by have:=hm3.2;omega)) rfl bS kI ?_;rintro _ σ' ⟨q72,rfl,rfl⟩ h72
      replace h72:=cO h72;repeat rcases h72 with⟨_,h72⟩
      apply bZ;(exact bF);refine fJ rfl ((eL jC im j++bO md++bO nm++ [0]++cB tt).map aH) (eL jC im j++bO md++bO nm++ [0]++cB tt).length ?_;refine bM fun r73 h73=> ?_;repeat rcases h73 with⟨_,h73⟩
      refine pV ?_;refine⟨(r73,j+1),⟨hlt,by show Nq r73 r1;(exact cF),by show Nq r73 r46;(exact cF)⟩,by show im.length-(j+1)<im.length-j;omega, ?_⟩;dsimp only;rw[hnx];rw[show eL jC im j++jC ⟨md,nm,tt⟩=eL jC im j++bO md++bO nm++ [0]++cB tt by unfold jC;simp];exact aK
     ·apply wC;infer_instance;infer_instance;(exact qU);rfl;rfl;rfl;rfl;(exact dM);rfl;refine aD fun r68 h68=> ?_;repeat rcases h68 with⟨_,h68⟩
      refine fJ rfl ((eL jC im j++bO md++bO nm).map aH) (eL jC im j++bO md++bO nm).length ?_;refine bM fun r67 h67=> ?_;repeat rcases h67 with⟨_,h67⟩
      refine fJ rfl ((eL jC im j++bO md++bO nm++ [0]).map aH) (eL jC im j++bO md++bO nm++ [0]).length ?_;refine bM fun r69 h69=> ?_;repeat rcases h69 with⟨_,h69⟩
      refine mU rfl Tryz.call160 (uS tt hm3.1 (by have:=hm3.2;omega)) rfl bS kI ?_;rintro _ σ' ⟨q72,rfl,rfl⟩ h72
      replace h72:=cO h72;repeat rcases h72 with⟨_,h72⟩
      apply bZ;(exact bF);refine fJ rfl ((eL jC im j++bO md++bO nm++ [0]++cB tt).map aH) (eL jC im j++bO md++bO nm++ [0]++cB tt).length ?_;refine bM fun r73 h73=> ?_;repeat rcases h73 with⟨_,h73⟩
      refine pV ?_;refine⟨(r73,j+1),⟨hlt,by show Nq r73 r1;(exact cF),by show Nq r73 r46;(exact cF)⟩,by show im.length-(j+1)<im.length-j;omega, ?_⟩;dsimp only;rw[hnx];rw[show eL jC im j++jC ⟨md,nm,tt⟩=eL jC im j++bO md++bO nm++ [0]++cB tt by unfold jC;simp];exact aK
    ·apply wC;infer_instance;infer_instance;(exact qU);rfl;rfl;rfl;rfl;(exact dM);rfl;refine aD fun r68 h68=> ?_;repeat rcases h68 with⟨_,h68⟩
     refine mU rfl Tryz.call159 (qA nm (by have:=hm2.1;omega) hm2.2) rfl bS kI ?_;rintro _ σ' ⟨q66,rfl,rfl⟩ h66
     replace h66:=cO h66;repeat rcases h66 with⟨_,h66⟩
     apply bZ;(exact bF);refine fJ rfl ((eL jC im j++bO md++bO nm).map aH) (eL jC im j++bO md++bO nm).length ?_;refine bM fun r67 h67=> ?_;repeat rcases h67 with⟨_,h67⟩
     refine fJ rfl ((eL jC im j++bO md++bO nm++ [0]).map aH) (eL jC im j++bO md++bO nm++ [0]).length ?_;refine bM fun r69 h69=> ?_;repeat rcases h69 with⟨_,h69⟩
     refine mU rfl Tryz.call160 (uS tt hm3.1 (by have:=hm3.2;omega)) rfl bS kI ?_;rintro _ σ' ⟨q72,rfl,rfl⟩ h72
     replace h72:=cO h72;repeat rcases h72 with⟨_,h72⟩
     apply bZ;(exact bF);refine fJ rfl ((eL jC im j++bO md++bO nm++ [0]++cB tt).map aH) (eL jC im j++bO md++bO nm++ [0]++cB tt).length ?_;refine bM fun r73 h73=> ?_;repeat rcases h73 with⟨_,h73⟩
     refine pV ?_;refine⟨(r73,j+1),⟨hlt,by show Nq r73 r1;(exact cF),by show Nq r73 r46;(exact cF)⟩,by show im.length-(j+1)<im.length-j;omega, ?_⟩;dsimp only;rw[hnx];rw[show eL jC im j++jC ⟨md,nm,tt⟩=eL jC im j++bO md++bO nm++ [0]++cB tt by unfold jC;simp];exact aK
   ·apply wC;infer_instance;infer_instance;(exact qU);rfl;rfl;rfl;rfl;(exact dM);rfl;refine aD fun r68 h68=> ?_;repeat rcases h68 with⟨_,h68⟩
    refine fJ rfl ((eL jC im j++bO md).map aH) (eL jC im j++bO md).length ?_;refine bM fun r63 h63=> ?_;repeat rcases h63 with⟨_,h63⟩
    refine mU rfl Tryz.call159 (qA nm (by have:=hm2.1;omega) hm2.2) rfl bS kI ?_;rintro _ σ' ⟨q66,rfl,rfl⟩ h66
    replace h66:=cO h66;repeat rcases h66 with⟨_,h66⟩
    apply bZ;(exact bF);refine fJ rfl ((eL jC im j++bO md++bO nm).map aH) (eL jC im j++bO md++bO nm).length ?_;refine bM fun r67 h67=> ?_;repeat rcases h67 with⟨_,h67⟩
    refine fJ rfl ((eL jC im j++bO md++bO nm++ [0]).map aH) (eL jC im j++bO md++bO nm++ [0]).length ?_;refine bM fun r69 h69=> ?_;repeat rcases h69 with⟨_,h69⟩
    refine mU rfl Tryz.call160 (uS tt hm3.1 (by have:=hm3.2;omega)) rfl bS kI ?_;rintro _ σ' ⟨q72,rfl,rfl⟩ h72
    replace h72:=cO h72;repeat rcases h72 with⟨_,h72⟩
    apply bZ;(exact bF);refine fJ rfl ((eL jC im j++bO md++bO nm++ [0]++cB tt).map aH) (eL jC im j++bO md++bO nm++ [0]++cB tt).length ?_;refine bM fun r73 h73=> ?_;repeat rcases h73 with⟨_,h73⟩
    refine pV ?_;refine⟨(r73,j+1),⟨hlt,by show Nq r73 r1;(exact cF),by show Nq r73 r46;(exact cF)⟩,by show im.length-(j+1)<im.length-j;omega, ?_⟩;dsimp only;rw[hnx];rw[show eL jC im j++jC ⟨md,nm,tt⟩=eL jC im j++bO md++bO nm++ [0]++cB tt by unfold jC;simp];exact aK
  ·apply wC;infer_instance;infer_instance;(exact qU);rfl;rfl;rfl;rfl;(exact dM);rfl;refine aD fun r68 h68=> ?_;repeat rcases h68 with⟨_,h68⟩
   refine mU rfl Tryz.call159 (qA md (by have:=hm1.1;omega) hm1.2) rfl bS kI ?_;rintro _ σ' ⟨q62,rfl,rfl⟩ h62
   replace h62:=cO h62;repeat rcases h62 with⟨_,h62⟩
   apply bZ;(exact bF);refine fJ rfl ((eL jC im j++bO md).map aH) (eL jC im j++bO md).length ?_;refine bM fun r63 h63=> ?_;repeat rcases h63 with⟨_,h63⟩
   refine mU rfl Tryz.call159 (qA nm (by have:=hm2.1;omega) hm2.2) rfl bS kI ?_;rintro _ σ' ⟨q66,rfl,rfl⟩ h66
   replace h66:=cO h66;repeat rcases h66 with⟨_,h66⟩
   apply bZ;(exact bF);refine fJ rfl ((eL jC im j++bO md++bO nm).map aH) (eL jC im j++bO md++bO nm).length ?_;refine bM fun r67 h67=> ?_;repeat rcases h67 with⟨_,h67⟩
   refine fJ rfl ((eL jC im j++bO md++bO nm++ [0]).map aH) (eL jC im j++bO md++bO nm++ [0]).length ?_;refine bM fun r69 h69=> ?_;repeat rcases h69 with⟨_,h69⟩
   refine mU rfl Tryz.call160 (uS tt hm3.1 (by have:=hm3.2;omega)) rfl bS kI ?_;rintro _ σ' ⟨q72,rfl,rfl⟩ h72
   replace h72:=cO h72;repeat rcases h72 with⟨_,h72⟩
   apply bZ;(exact bF);refine fJ rfl ((eL jC im j++bO md++bO nm++ [0]++cB tt).map aH) (eL jC im j++bO md++bO nm++ [0]++cB tt).length ?_;refine bM fun r73 h73=> ?_;repeat rcases h73 with⟨_,h73⟩
   refine pV ?_;refine⟨(r73,j+1),⟨hlt,by show Nq r73 r1;(exact cF),by show Nq r73 r46;(exact cF)⟩,by show im.length-(j+1)<im.length-j;omega, ?_⟩;dsimp only;rw[hnx];rw[show eL jC im j++jC ⟨md,nm,tt⟩=eL jC im j++bO md++bO nm++ [0]++cB tt by unfold jC;simp];exact aK
 obtain rfl:j=im.length:=by simp at g10;omega
 refine qW ?_;refine oA ?_;refine qQ Tryz.call158 (iW 2 (by decide) im jC (by omega) (by have:=Pim im.length;omega)) rfl bS kI ?_;rintro _ σ' ⟨q79,rfl,rfl⟩ h79
 replace h79:=cO h79;repeat rcases h79 with⟨_,h79⟩
 apply aT;(exact bF);refine jY ((headB++S1++bL 2 im jC).map aH) (headB++S1++bL 2 im jC).length ?_;refine bM fun r80 h80=> ?_;repeat rcases h80 with⟨_,h80⟩
 refine dG ?_;generalize bL 2 im jC=S2 at L2⊢;refine rT ?_;refine bU 4 5 1 (by decide) rfl (by decide) (aD fun q6 hq6=> ?_);repeat rcases hq6 with⟨_,hq6⟩
 refine rT ?_;refine lp (β:=Nat×Nat) (fun b=>⟨[(1,.ptr r1 0),(3,.own r80 0 (headB++S1++S2).length),(4,.own b.1 0 (eL cB fn b.2).length),(8,.int .i64 b.2)],[(b.1,.arr 5 1 ((eL cB fn b.2).map aH)),(r80,.arr 5 1 ((headB++S1++S2).map aH)),(r1,.box 33 (cK ⟨ty,im,fn,tb,me,gl,ex,el,co,da⟩))]⟩) (fun b=>b.2≤fn.length∧Nq b.1 r1∧Nq b.1 r80) (fun b=>fn.length-b.2) (q6,0) aK ⟨Nat.zero_le _,by show Nq q6 r1;(exact cF),by show Nq q6 r80;(exact cF)⟩ ?_;rintro⟨q1,j⟩ ⟨hj,hqa,hqb⟩;have hpl:=Pfn j;dsimp only at hj hqa hqb⊢;unfold cK;dsimp only;refine mC ?_;refine aB rfl (fun g17=> ?_) (fun g17=> ?_)
 ·have hlt:j<fn.length:=by simp at g17;omega
  obtain⟨k,hx⟩:∃x,fn[j]? =some x:=⟨_,List.getElem?_eq_getElem hlt⟩
  have hk:=hfn _ (List.mem_of_getElem? hx);have ht3:=uU hk;have hnx:=lD (pt:=cB) hx;refine qW ?_;refine nJ ?_;refine qQ Tryz.call160 (uS k hk.1 (by have:=hk.2;omega)) rfl bS kI ?_;rintro _ σ' ⟨q94,rfl,rfl⟩ h94
  replace h94:=cO h94;repeat rcases h94 with⟨_,h94⟩
  apply aT;(exact bF);refine jY ((eL cB fn j++cB k).map aH) (eL cB fn j++cB k).length ?_;refine bM fun r95 h95=> ?_;repeat rcases h95 with⟨_,h95⟩
  refine iE ?_;refine AS ?_;refine⟨(r95,j+1),⟨hlt,by show Nq r95 r1;(exact cF),by show Nq r95 r80;(exact cF)⟩,by show fn.length-(j+1)<fn.length-j;omega, ?_⟩;dsimp only;rw[hnx];exact aK
 obtain rfl:j=fn.length:=by simp at g17;omega
 refine qW ?_;refine oA ?_;refine qQ Tryz.call158 (iW 3 (by decide) fn cB (by omega) (by have:=Pfn fn.length;omega)) rfl bS kI ?_;rintro _ σ' ⟨q101,rfl,rfl⟩ h101
 replace h101:=cO h101;repeat rcases h101 with⟨_,h101⟩
 apply aT;(exact bF);refine jY ((headB++S1++S2++bL 3 fn cB).map aH) (headB++S1++S2++bL 3 fn cB).length ?_;refine bM fun r102 h102=> ?_;repeat rcases h102 with⟨_,h102⟩
 refine dG ?_;generalize bL 3 fn cB=S3 at L3⊢;obtain⟨th,tn,tx⟩:=tb;obtain⟨eh,en,ex2⟩:=me;refine BG ?_;refine wI ?_;refine gF ?_;refine jP ?_;refine TU (β:=Nat) (fun q=>⟨[(1,.ptr r1 0),(3,.own q 0 (headB++S1++S2++S3++bL 4 (gW ⟨th,tn,tx⟩) (fun l=>112::eK l)).length)],[(q,.arr 5 1 ((headB++S1++S2++S3++bL 4 (gW ⟨th,tn,tx⟩) (fun l=>112::eK l)).map aH)),(r1,.box 33 (cK ⟨ty,im,fn,⟨th,tn,tx⟩,⟨eh,en,ex2⟩,gl,ex,el,co,da⟩))]⟩) (fun q=>Nq q r1) ?_ ?_
 ·refine aB rfl (fun g21=> ?_) (fun g21=> ?_)
  ·have htb1:=htb g21;have hll1:=vI htb1;rw[T1 g21];have hpj:eL (fun l=>112::eK l) [(⟨th,tn,tx⟩:Li)] [(⟨th,tn,tx⟩:Li)].length=[112]++eK ⟨th,tn,tx⟩:=by simp[eL]
   have hsc:=iW 4 (by decide) [(⟨th,tn,tx⟩:Li)] (fun l=>112::eK l) (by simp) (by rw[hpj];simp;omega);rw[hpj]at hsc;rw[T1 g21]at L4;refine dX ?_;refine z1 ?_;refine aD fun r107 h107=> ?_;repeat rcases h107 with⟨_,h107⟩
   refine wI ?_;refine oV ?_;refine qQ Tryz.call161 (HS ⟨th,tn,tx⟩ htb1) rfl bS kI ?_;rintro _ σ' ⟨q110,rfl,rfl⟩ h110
   replace h110:=cO h110;repeat rcases h110 with⟨_,h110⟩
   apply aT;(exact bF);refine jY (([112]++eK ⟨th,tn,tx⟩).map aH) ([112]++eK ⟨th,tn,tx⟩).length ?_;refine bM fun r111 h111=> ?_;repeat rcases h111 with⟨_,h111⟩
   refine qQ Tryz.call158 hsc rfl bS kI ?_;rintro _ σ' ⟨q112,rfl,rfl⟩ h112
   replace h112:=cO h112;repeat rcases h112 with⟨_,h112⟩
   apply aT;(exact bF);refine jY ((headB++S1++S2++S3++bL 4 [⟨th,tn,tx⟩] (fun l=>112::eK l)).map aH) (headB++S1++S2++S3++bL 4 [⟨th,tn,tx⟩] (fun l=>112::eK l)).length ?_;refine bM fun r113 h113=> ?_;repeat rcases h113 with⟨_,h113⟩
   refine dG ?_;exact⟨r113,(by(exact cF)),aK⟩
  rw[T0 g21,List.append_nil];refine aP ?_;exact⟨r102,(by(exact cF)),aK⟩
 rintro q4 hq4;generalize bL 4 (gW ⟨th,tn,tx⟩) (fun l=>112::eK l)=S4 at L4⊢;unfold cK;dsimp only;refine dW ?_;refine wI ?_;refine gF ?_;refine jP ?_;refine TU (β:=Nat) (fun q=>⟨[(1,.ptr r1 0),(3,.own q 0 (headB++S1++S2++S3++S4++bL 5 (gW ⟨eh,en,ex2⟩) eK).length)],[(q,.arr 5 1 ((headB++S1++S2++S3++S4++bL 5 (gW ⟨eh,en,ex2⟩) eK).map aH)),(r1,.box 33 (cK ⟨ty,im,fn,⟨th,tn,tx⟩,⟨eh,en,ex2⟩,gl,ex,el,co,da⟩))]⟩) (fun q=>Nq q r1) ?_ ?_
 ·refine aB rfl (fun g23=> ?_) (fun g23=> ?_)
  ·have hme1:=hme g23;have hll2:=vI hme1;rw[E1 g23];have hpj:eL eK [(⟨eh,en,ex2⟩:Li)] [(⟨eh,en,ex2⟩:Li)].length=eK ⟨eh,en,ex2⟩:=by simp[eL]
   have hsc:=iW 5 (by decide) [(⟨eh,en,ex2⟩:Li)] eK (by simp) (by rw[hpj];omega);rw[hpj]at hsc;rw[E1 g23]at L5;refine dX ?_;refine wI ?_;refine oV ?_;refine qQ Tryz.call161 (HS ⟨eh,en,ex2⟩ hme1) rfl bS kI ?_;rintro _ σ' ⟨q120,rfl,rfl⟩ h120
   replace h120:=cO h120;repeat rcases h120 with⟨_,h120⟩
   apply aT;(exact bF);refine qQ Tryz.call158 hsc rfl bS kI ?_;rintro _ σ' ⟨q121,rfl,rfl⟩ h121
   replace h121:=cO h121;repeat rcases h121 with⟨_,h121⟩
   apply aT;(exact bF);refine jY ((headB++S1++S2++S3++S4++bL 5 [⟨eh,en,ex2⟩] eK).map aH) (headB++S1++S2++S3++S4++bL 5 [⟨eh,en,ex2⟩] eK).length ?_;refine bM fun r122 h122=> ?_;repeat rcases h122 with⟨_,h122⟩
   refine dG ?_;exact⟨r122,(by(exact cF)),aK⟩
  rw[E0 g23,List.append_nil];refine aP ?_;exact⟨q4,(by(exact cF)),aK⟩
 rintro q7 hq7;generalize bL 5 (gW ⟨eh,en,ex2⟩) eK=S5 at L5⊢;unfold cK;dsimp only;refine bQ ?_;refine bU 4 5 1 (by decide) rfl (by decide) (aD fun q8 hq8=> ?_);repeat rcases hq8 with⟨_,hq8⟩
 refine rT ?_;refine lp (β:=Nat×Nat) (fun b=>⟨[(1,.ptr r1 0),(3,.own q7 0 (headB++S1++S2++S3++S4++S5).length),(4,.own b.1 0 (eL tG gl b.2).length),(9,.int .i64 b.2)],[(b.1,.arr 5 1 ((eL tG gl b.2).map aH)),(q7,.arr 5 1 ((headB++S1++S2++S3++S4++S5).map aH)),(r1,.box 33 (cK ⟨ty,im,fn,⟨th,tn,tx⟩,⟨eh,en,ex2⟩,gl,ex,el,co,da⟩))]⟩) (fun b=>b.2≤gl.length∧Nq b.1 r1∧Nq b.1 q7) (fun b=>gl.length-b.2) (q8,0) aK ⟨Nat.zero_le _,by show Nq q8 r1;(exact cF),by show Nq q8 q7;(exact cF)⟩ ?_;rintro⟨q1,j⟩ ⟨hj,hqa,hqb⟩;have hpl:=Pgl j;dsimp only at hj hqa hqb⊢;unfold cK;dsimp only;refine mC ?_;refine aB rfl (fun g27=> ?_) (fun g27=> ?_)
 ·have hlt:j<gl.length:=by simp at g27;omega
  obtain⟨⟨mu,k,n⟩,hx⟩:∃x,gl[j]? =some x:=⟨_,List.getElem?_eq_getElem hlt⟩
  obtain⟨hv,hn⟩:=hgl _ (List.mem_of_getElem? hx);dsimp only at hv hn;have hcl:=vH hv hn;have hnx:=lD (pt:=tG) hx;refine fS ?_;refine mB ?_;apply al;rfl;(exact dM);refine aD fun r10 h10=> ?_;repeat rcases h10 with⟨_,h10⟩
  refine nS ?_;refine bQ ?_;refine kZ ?_;refine jP ?_;refine aB rfl (fun g31=> ?_) (fun g31=> ?_)
  ·obtain rfl:mu=true:=g31;obtain⟨z,hz,hzc⟩:∃z:Nat,(if true=true then 1 else 0)=z∧cW (.int .u8 1)=AV.int .u8 ((z:Nat):Int):=⟨1,rfl,rfl⟩
   refine bQ ?_;rw[hzc];refine gI [(0,true),(1,true),(2,true),(3,true),(5,true),(8,true),(9,true),(4,false),(6,false),(7,false),(10,false),(11,false),(12,true)] ?_;refine gD rfl (aI (E rfl)) rfl ?_;refine OX ?_;refine PK ?_;refine OX ?_;refine OY ?_;refine YE rfl Tryz.call162 (BR k) rfl bG bK ?_;refine GO ?_;refine aD fun r143 h143=> ?_;repeat rcases h143 with⟨_,h143⟩
   refine fJ rfl ((eL tG gl j++ [if(k==1)=true then 127 else 126,z]).map aH) (eL tG gl j++ [if(k==1)=true then 127 else 126,z]).length ?_;refine bM fun r144 h144=> ?_;repeat rcases h144 with⟨_,h144⟩
   refine mU rfl Tryz.call163 (qB k n hv hn) rfl bS kI ?_;rintro _ σ' ⟨q147,rfl,rfl⟩ h147
   replace h147:=cO h147;repeat rcases h147 with⟨_,h147⟩
   apply bZ;(exact bF);refine fJ rfl ((eL tG gl j++ [if(k==1)=true then 127 else 126,z]++lL k n).map aH) (eL tG gl j++ [if(k==1)=true then 127 else 126,z]++lL k n).length ?_;refine bM fun r148 h148=> ?_;repeat rcases h148 with⟨_,h148⟩
   refine pV ?_;refine⟨(r148,j+1),⟨hlt,by show Nq r148 r1;(exact cF),by show Nq r148 q7;(exact cF)⟩,by show gl.length-(j+1)<gl.length-j;omega, ?_⟩;dsimp only;rw[hnx];rw[TA hz];exact aK
  obtain rfl:mu=false:=g31;obtain⟨z,hz,hzc⟩:∃z:Nat,(if false=true then 1 else 0)=z∧cW (.int .u8 0)=AV.int .u8 ((z:Nat):Int):=⟨0,rfl,rfl⟩
  refine aP ?_;rw[hzc];refine gI [(0,true),(1,true),(2,true),(3,true),(5,true),(8,true),(9,true),(4,false),(6,false),(7,false),(10,false),(11,false),(12,true)] ?_;refine gD rfl (aI (E rfl)) rfl ?_;refine OX ?_;refine PK ?_;refine OX ?_;refine OY ?_;refine YE rfl Tryz.call162 (BR k) rfl bG bK ?_;refine GO ?_;refine aD fun r143 h143=> ?_;repeat rcases h143 with⟨_,h143⟩
  refine fJ rfl ((eL tG gl j++ [if(k==1)=true then 127 else 126,z]).map aH) (eL tG gl j++ [if(k==1)=true then 127 else 126,z]).length ?_;refine bM fun r144 h144=> ?_;repeat rcases h144 with⟨_,h144⟩
  refine mU rfl Tryz.call163 (qB k n hv hn) rfl bS kI ?_;rintro _ σ' ⟨q147,rfl,rfl⟩ h147
  replace h147:=cO h147;repeat rcases h147 with⟨_,h147⟩
  apply bZ;(exact bF);refine fJ rfl ((eL tG gl j++ [if(k==1)=true then 127 else 126,z]++lL k n).map aH) (eL tG gl j++ [if(k==1)=true then 127 else 126,z]++lL k n).length ?_;refine bM fun r148 h148=> ?_;repeat rcases h148 with⟨_,h148⟩
  refine pV ?_;refine⟨(r148,j+1),⟨hlt,by show Nq r148 r1;(exact cF),by show Nq r148 q7;(exact cF)⟩,by show gl.length-(j+1)<gl.length-j;omega, ?_⟩;dsimp only;rw[hnx];rw[TA hz];exact aK
 obtain rfl:j=gl.length:=by simp at g27;omega
 refine qW ?_;refine oA ?_;refine qQ Tryz.call158 (iW 6 (by decide) gl tG (by omega) (by have:=Pgl gl.length;omega)) rfl bS kI ?_;rintro _ σ' ⟨q154,rfl,rfl⟩ h154
 replace h154:=cO h154;repeat rcases h154 with⟨_,h154⟩
 apply aT;(exact bF);refine jY ((headB++S1++S2++S3++S4++S5++bL 6 gl tG).map aH) (headB++S1++S2++S3++S4++S5++bL 6 gl tG).length ?_;refine bM fun r155 h155=> ?_;repeat rcases h155 with⟨_,h155⟩
 refine dG ?_;generalize bL 6 gl tG=S6 at L6⊢;refine rT ?_;refine bU 4 5 1 (by decide) rfl (by decide) (aD fun q9 hq9=> ?_);repeat rcases hq9 with⟨_,hq9⟩
 refine rT ?_;refine lp (β:=Nat×Nat) (fun b=>⟨[(1,.ptr r1 0),(3,.own r155 0 (headB++S1++S2++S3++S4++S5++S6).length),(4,.own b.1 0 (eL mL ex b.2).length),(12,.int .i64 b.2)],[(b.1,.arr 5 1 ((eL mL ex b.2).map aH)),(r155,.arr 5 1 ((headB++S1++S2++S3++S4++S5++S6).map aH)),(r1,.box 33 (cK ⟨ty,im,fn,⟨th,tn,tx⟩,⟨eh,en,ex2⟩,gl,ex,el,co,da⟩))]⟩) (fun b=>b.2≤ex.length∧Nq b.1 r1∧Nq b.1 r155) (fun b=>ex.length-b.2) (q9,0) aK ⟨Nat.zero_le _,by show Nq q9 r1;(exact cF),by show Nq q9 r155;(exact cF)⟩ ?_;rintro⟨q1,j⟩ ⟨hj,hqa,hqb⟩;have hpl:=Pex j;dsimp only at hj hqa hqb⊢;unfold cK;dsimp only;refine mC ?_;refine aB rfl (fun g37=> ?_) (fun g37=> ?_)
 ·have hlt:j<ex.length:=by simp at g37;omega
  obtain⟨⟨nm,ff⟩,hx⟩:∃x,ex[j]? =some x:=⟨_,List.getElem?_eq_getElem hlt⟩
  obtain⟨hm1,hm2⟩:=hex _ (List.mem_of_getElem? hx);dsimp only at hm1 hm2;have ht1:=zS hm1;have ht2:=uU hm2;have hnx:=lD (pt:=mL) hx;refine aP ?_;refine gI [(0,true),(1,true),(2,true),(3,true),(4,true),(5,true),(6,true),(11,true),(12,true),(13,true),(14,true),(15,true),(16,true),(20,false),(20,false),(20,false),(20,false),(20,false),(20,false),(20,false)] ?_;refine gD rfl (aI (E rfl)) rfl ?_;refine pW ?_;refine pW ?_;refine jR 7 9 [(20,false),(20,false),(20,false),(20,false),(20,false),(20,false)] [(7,false),(8,false),(10,false),(17,false),(18,false),(19,true)] (f1:=[]) (f2:=[]) (by kernel_rfl) rfl rfl ?_ ?_ (.inl rfl) (.inl rfl)
  ·refine mH Tryz.call159 (qA nm (by have:=hm1.1;omega) hm1.2) (dF rfl) ?_;rintro _ σ' ⟨q170,rfl,rfl⟩ h170
   replace h170:=cO h170;repeat rcases h170 with⟨_,h170⟩
   apply bZ;(exact bF);refine jR 8 9 [(9,false),(10,false),(17,false),(18,false),(19,true)] [(8,false),(10,false),(17,false),(18,false),(19,true)] (f1:=[q1]) (f2:=[]) (by kernel_rfl) rfl rfl ?_ ?_ (.inr ⟨by simp,gE⟩) (.inl rfl)
   ·refine aER ((eL mL ex j++bO nm).map aH) (eL mL ex j++bO nm).length ?_;refine bM fun r171 h171=> ?_;repeat rcases h171 with⟨_,h171⟩
    refine GO ?_;refine aD fun r172 h172=> ?_;repeat rcases h172 with⟨_,h172⟩
    refine fJ rfl ((eL mL ex j++bO nm++ [0]).map aH) (eL mL ex j++bO nm++ [0]).length ?_;refine bM fun r173 h173=> ?_;repeat rcases h173 with⟨_,h173⟩
    refine mU rfl Tryz.call160 (uS ff hm2.1 (by have:=hm2.2;omega)) rfl bS kI ?_;rintro _ σ' ⟨q180,rfl,rfl⟩ h180
    replace h180:=cO h180;repeat rcases h180 with⟨_,h180⟩
    apply bZ;(exact bF);refine fJ rfl ((eL mL ex j++bO nm++ [0]++cB ff).map aH) (eL mL ex j++bO nm++ [0]++cB ff).length ?_;refine bM fun r181 h181=> ?_;repeat rcases h181 with⟨_,h181⟩
    refine pV ?_;refine⟨(r181,j+1),⟨hlt,by show Nq r181 r1;(exact cF),by show Nq r181 r155;(exact cF)⟩,by show ex.length-(j+1)<ex.length-j;omega, ?_⟩;dsimp only;rw[hnx];rw[show eL mL ex j++mL ⟨nm,ff⟩=eL mL ex j++bO nm++ [0]++cB ff by unfold mL;simp];exact aK
   ·apply wC;infer_instance;infer_instance;(exact qU);rfl;rfl;rfl;rfl;(exact dM);rfl;refine aD fun r172 h172=> ?_;repeat rcases h172 with⟨_,h172⟩
    refine fJ rfl ((eL mL ex j++bO nm).map aH) (eL mL ex j++bO nm).length ?_;refine bM fun r171 h171=> ?_;repeat rcases h171 with⟨_,h171⟩
    refine fJ rfl ((eL mL ex j++bO nm++ [0]).map aH) (eL mL ex j++bO nm++ [0]).length ?_;refine bM fun r173 h173=> ?_;repeat rcases h173 with⟨_,h173⟩
    refine mU rfl Tryz.call160 (uS ff hm2.1 (by have:=hm2.2;omega)) rfl bS kI ?_;rintro _ σ' ⟨q180,rfl,rfl⟩ h180
    replace h180:=cO h180;repeat rcases h180 with⟨_,h180⟩
    apply bZ;(exact bF);refine fJ rfl ((eL mL ex j++bO nm++ [0]++cB ff).map aH) (eL mL ex j++bO nm++ [0]++cB ff).length ?_;refine bM fun r181 h181=> ?_;repeat rcases h181 with⟨_,h181⟩
    refine pV ?_;refine⟨(r181,j+1),⟨hlt,by show Nq r181 r1;(exact cF),by show Nq r181 r155;(exact cF)⟩,by show ex.length-(j+1)<ex.length-j;omega, ?_⟩;dsimp only;rw[hnx];rw[show eL mL ex j++mL ⟨nm,ff⟩=eL mL ex j++bO nm++ [0]++cB ff by unfold mL;simp];exact aK
  ·apply wC;infer_instance;infer_instance;(exact qU);rfl;rfl;rfl;rfl;(exact dM);rfl;refine aD fun r172 h172=> ?_;repeat rcases h172 with⟨_,h172⟩
   refine mU rfl Tryz.call159 (qA nm (by have:=hm1.1;omega) hm1.2) rfl bS kI ?_;rintro _ σ' ⟨q170,rfl,rfl⟩ h170
   replace h170:=cO h170;repeat rcases h170 with⟨_,h170⟩
   apply bZ;(exact bF);refine fJ rfl ((eL mL ex j++bO nm).map aH) (eL mL ex j++bO nm).length ?_;refine bM fun r171 h171=> ?_;repeat rcases h171 with⟨_,h171⟩
   refine fJ rfl ((eL mL ex j++bO nm++ [0]).map aH) (eL mL ex j++bO nm++ [0]).length ?_;refine bM fun r173 h173=> ?_;repeat rcases h173 with⟨_,h173⟩
   refine mU rfl Tryz.call160 (uS ff hm2.1 (by have:=hm2.2;omega)) rfl bS kI ?_;rintro _ σ' ⟨q180,rfl,rfl⟩ h180
   replace h180:=cO h180;repeat rcases h180 with⟨_,h180⟩
   apply bZ;(exact bF);refine fJ rfl ((eL mL ex j++bO nm++ [0]++cB ff).map aH) (eL mL ex j++bO nm++ [0]++cB ff).length ?_;refine bM fun r181 h181=> ?_;repeat rcases h181 with⟨_,h181⟩
   refine pV ?_;refine⟨(r181,j+1),⟨hlt,by show Nq r181 r1;(exact cF),by show Nq r181 r155;(exact cF)⟩,by show ex.length-(j+1)<ex.length-j;omega, ?_⟩;dsimp only;rw[hnx];rw[show eL mL ex j++mL ⟨nm,ff⟩=eL mL ex j++bO nm++ [0]++cB ff by unfold mL;simp];exact aK
 obtain rfl:j=ex.length:=by simp at g37;omega
 refine qW ?_;refine oA ?_;refine qQ Tryz.call158 (iW 7 (by decide) ex mL (by omega) (by have:=Pex ex.length;omega)) rfl bS kI ?_;rintro _ σ' ⟨q187,rfl,rfl⟩ h187
 replace h187:=cO h187;repeat rcases h187 with⟨_,h187⟩
 apply aT;(exact bF);refine jY ((headB++S1++S2++S3++S4++S5++S6++bL 7 ex mL).map aH) (headB++S1++S2++S3++S4++S5++S6++bL 7 ex mL).length ?_;refine bM fun r188 h188=> ?_;repeat rcases h188 with⟨_,h188⟩
 refine dG ?_;generalize bL 7 ex mL=S7 at L7⊢;refine gK ?_;refine oV ?_;refine qQ Tryz.call164 hlate rfl bS kI ?_;rintro _ σ' ⟨q191,rfl,rfl⟩ h191
 replace h191:=cO h191;repeat rcases h191 with⟨_,h191⟩
 apply aT;(exact bF);refine jY ((headB++S1++S2++S3++S4++S5++S6++S7++SL).map aH) (headB++S1++S2++S3++S4++S5++S6++S7++SL).length ?_;refine bM fun r192 h192=> ?_;repeat rcases h192 with⟨_,h192⟩
 refine dG ?_;apply aF;exact aG
 ·exact⟨r192,rfl,rfl⟩
 ·exact aA
theorem aAh(m:Md)(h:m.G):SCall Tryz.prog 164 [.agg (cK m)] [] (fun y σ=>∃q,y=.own q 0 (uV m).length∧σ=[(q,.arr 5 1 ((uV m).map aH))]):=by
 obtain⟨-,-,-,-,-,-,-,⟨nel,hel⟩,⟨nco,hco⟩,⟨nda,hda⟩⟩:=h;obtain⟨ty,im,fn,tb,me,gl,ex,el,co,da⟩:=m;dsimp only at nel hel nco hco nda hda;obtain⟨L1,Pel⟩:=kS 9 tH 5300 nel (by decide) fun x hx=>SV (hel x hx)
 obtain⟨L2,Pco⟩:=kS 10 kA 70000 nco (by decide) fun x hx=>SY (hco x hx)
 obtain⟨L3,Pda⟩:=kS 11 vG 1300 nda (by decide) fun x hx=>SZ (hda x hx)
 have hW:uV ⟨ty,im,fn,tb,me,gl,ex,el,co,da⟩=bL 9 el tH++bL 10 co kA++bL 11 da vG:=rfl;rw[hW];refine cC 119 [0,1,2,3,4,5,6,7,8,13,47,82] Tryz.func164 ?_;unfold cK;dsimp only;refine dW ?_;apply bx;rfl;rfl;(exact dM);rfl;refine aD fun r1 h1=> ?_;repeat rcases h1 with⟨_,h1⟩
 refine kY ?_;refine kJ ?_;refine bU 3 5 1 (by decide) rfl (by decide) (aD fun q3 hq3=> ?_);repeat rcases hq3 with⟨_,hq3⟩
 refine bU 4 5 1 (by decide) rfl (by decide) (aD fun q4 hq4=> ?_);repeat rcases hq4 with⟨_,hq4⟩
 refine rT ?_;refine lp (β:=Nat×Nat) (fun b=>⟨[(1,.ptr r1 0),(3,.own q3 0 (([]:List Nat)).length),(4,.own b.1 0 (eL tH el b.2).length),(5,.int .i64 b.2)],[(b.1,.arr 5 1 ((eL tH el b.2).map aH)),(q3,.arr 5 1 ((([]:List Nat)).map aH)),(r1,.box 33 (cK ⟨ty,im,fn,tb,me,gl,ex,el,co,da⟩))]⟩) (fun b=>b.2≤el.length∧Nq b.1 r1∧Nq b.1 q3) (fun b=>el.length-b.2) (q4,0) aK ⟨Nat.zero_le _,by show Nq q4 r1;(exact cF),by show Nq q4 q3;(exact cF)⟩ ?_;rintro⟨q1,j⟩ ⟨hj,hqa,hqb⟩;have hpl:=Pel j;dsimp only at hj hqa hqb⊢;unfold cK;dsimp only;refine mC ?_;refine aB rfl (fun g3=> ?_) (fun g3=> ?_)
 ·have hlt:j<el.length:=by simp at g3;omega
  obtain⟨⟨oo,fs⟩,hx⟩:∃x,el[j]? =some x:=⟨_,List.getElem?_eq_getElem hlt⟩
  obtain⟨ho,hf1,hf2⟩:=hel _ (List.mem_of_getElem? hx);dsimp only at ho hf1 hf2;have hr:-2147483648≤oo∧oo≤2147483647:=by(have h:=ho;unfold kE at h;simpa using h)
  have hv:lW 1 oo=true:=by unfold lW;simp;omega
  have hcl:=vH hv (by omega);have hvl:=lF (pt:=cB) (l:=fs) (c:=5) (fun n hn=>uU (hf2 n hn)) hf1;have hnx:=lD (pt:=tH) hx;refine aP ?_;refine gI [(0,true),(3,true),(4,true),(5,true),(6,true),(7,true),(8,true),(9,true),(12,true),(13,true),(14,true),(15,true),(16,true),(17,true),(1,false),(2,false),(10,false),(11,false),(18,false),(19,false),(20,true)] ?_;refine gD rfl (aI (E rfl)) rfl ?_;refine pW ?_;refine z94 ?_;refine pW ?_;refine GO ?_;refine aD fun r17 h17=> ?_;repeat rcases h17 with⟨_,h17⟩
  refine fJ rfl ((eL tH el j++ [0]).map aH) (eL tH el j++ [0]).length ?_;refine bM fun r18 h18=> ?_;repeat rcases h18 with⟨_,h18⟩
  refine mU rfl Tryz.call163 (qB 1 oo hv (by omega)) rfl bS kI ?_;rintro _ σ' ⟨q26,rfl,rfl⟩ h26
  replace h26:=cO h26;repeat rcases h26 with⟨_,h26⟩
  apply bZ;(exact bF);refine fJ rfl ((eL tH el j++ [0]++lL 1 oo).map aH) (eL tH el j++ [0]++lL 1 oo).length ?_;refine bM fun r27 h27=> ?_;repeat rcases h27 with⟨_,h27⟩
  refine mU rfl Tryz.call254 (QI fs hf1 (fun n hn=>⟨(hf2 n hn).1,by have:=(hf2 n hn).2;omega⟩)) rfl bS kI ?_;rintro _ σ' ⟨q34,rfl,rfl⟩ h34
  replace h34:=cO h34;repeat rcases h34 with⟨_,h34⟩
  apply bZ;(exact bF);refine fJ rfl ((eL tH el j++ [0]++lL 1 oo++bD fs cB).map aH) (eL tH el j++ [0]++lL 1 oo++bD fs cB).length ?_;refine bM fun r35 h35=> ?_;repeat rcases h35 with⟨_,h35⟩
  refine pV ?_;refine⟨(r35,j+1),⟨hlt,by show Nq r35 r1;(exact cF),by show Nq r35 q3;(exact cF)⟩,by show el.length-(j+1)<el.length-j;omega, ?_⟩;dsimp only;rw[hnx];rw[show eL tH el j++tH ⟨oo,fs⟩=eL tH el j++ [0]++lL 1 oo++bD fs cB by unfold tH pD;simp];exact aK
 obtain rfl:j=el.length:=by simp at g3;omega
 refine qW ?_;refine oA ?_;refine qQ Tryz.call158 (iW 9 (by decide) el tH (by omega) (by have:=Pel el.length;omega)) rfl bS kI ?_;rintro _ σ' ⟨q41,rfl,rfl⟩ h41
 replace h41:=cO h41;repeat rcases h41 with⟨_,h41⟩
 apply aT;(exact bF);refine jY ((bL 9 el tH).map aH) (bL 9 el tH).length ?_;refine bM fun r42 h42=> ?_;repeat rcases h42 with⟨_,h42⟩
 refine dG ?_;generalize bL 9 el tH=S1 at L1⊢;refine rT ?_;refine bU 4 5 1 (by decide) rfl (by decide) (aD fun q5 hq5=> ?_);repeat rcases hq5 with⟨_,hq5⟩
 refine rT ?_;refine lp (β:=Nat×Nat) (fun b=>⟨[(1,.ptr r1 0),(3,.own r42 0 (S1).length),(4,.own b.1 0 (eL kA co b.2).length),(6,.int .i64 b.2)],[(b.1,.arr 5 1 ((eL kA co b.2).map aH)),(r42,.arr 5 1 ((S1).map aH)),(r1,.box 33 (cK ⟨ty,im,fn,tb,me,gl,ex,el,co,da⟩))]⟩) (fun b=>b.2≤co.length∧Nq b.1 r1∧Nq b.1 r42) (fun b=>co.length-b.2) (q5,0) aK ⟨Nat.zero_le _,by show Nq q5 r1;(exact cF),by show Nq q5 r42;(exact cF)⟩ ?_;rintro⟨q1,j⟩ ⟨hj,hqa,hqb⟩;have hpl:=Pco j;dsimp only at hj hqa hqb⊢;unfold cK;dsimp only;refine mC ?_;refine aB rfl (fun g9=> ?_) (fun g9=> ?_)
 ·have hlt:j<co.length:=by simp at g9;omega
  obtain⟨⟨ls,bd⟩,hx⟩:∃x,co[j]? =some x:=⟨_,List.getElem?_eq_getElem hlt⟩
  obtain⟨hc1,hc2,hc3⟩:=hco _ (List.mem_of_getElem? hx);dsimp only at hc1 hc2 hc3;have hlo:=SX hc1;have hpl2:=yB hc3;have hPl:(bD (bX ls) iG++iU bd).length≤66000:=by rw[List.length_append];omega
  have hcd:kA ⟨ls,bd⟩=uB (bD (bX ls) iG++iU bd).length++(bD (bX ls) iG++iU bd):=rfl;have hub:=bN 4 (bD (bX ls) iG++iU bd).length (by omega);have hnx:=lD (pt:=kA) hx;refine aP ?_;refine gI [(0,true),(1,true),(2,true),(3,true),(4,true),(5,true),(7,true),(8,true),(9,true),(10,true),(11,true),(12,true),(6,false),(13,false),(14,false),(15,true)] ?_;refine pW ?_;refine pW ?_;refine mU rfl Tryz.call255 (VD ls hc1) rfl bS kI ?_;rintro _ σ' ⟨q56,rfl,rfl⟩ h56
  replace h56:=cO h56;repeat rcases h56 with⟨_,h56⟩
  apply bZ;(exact bF);refine mU rfl Tryz.call256 (NB bd hc2 hc3) rfl bS kI ?_;rintro _ σ' ⟨q63,rfl,rfl⟩ h63
  replace h63:=cO h63;repeat rcases h63 with⟨_,h63⟩
  apply bZ;(exact bF);refine fJ rfl ((bD (bX ls) iG++iU bd).map aH) (bD (bX ls) iG++iU bd).length ?_;refine bM fun r64 h64=> ?_;repeat rcases h64 with⟨_,h64⟩
  refine tV ?_;generalize bD (bX ls) iG++iU bd=P at hPl hub hcd⊢;refine mK ?_;refine oA ?_;refine qQ Tryz.call251 (uT (k:=.any) P.length P (by omega) (by omega)) rfl bS kI ?_;rintro _ σ' ⟨q69,rfl,rfl⟩ h69
  replace h69:=cO h69;repeat rcases h69 with⟨_,h69⟩
  apply aT;(exact bF);refine jY ((eL kA co j++(uB P.length++P)).map aH) (eL kA co j++(uB P.length++P)).length ?_;refine bM fun r70 h70=> ?_;repeat rcases h70 with⟨_,h70⟩
  refine iE ?_;refine AS ?_;refine⟨(r70,j+1),⟨hlt,by show Nq r70 r1;(exact cF),by show Nq r70 r42;(exact cF)⟩,by show co.length-(j+1)<co.length-j;omega, ?_⟩;dsimp only;rw[hnx];rw[hcd];exact aK
 obtain rfl:j=co.length:=by simp at g9;omega
 refine qW ?_;refine oA ?_;refine qQ Tryz.call158 (iW 10 (by decide) co kA (by omega) (by have:=Pco co.length;omega)) rfl bS kI ?_;rintro _ σ' ⟨q76,rfl,rfl⟩ h76
 replace h76:=cO h76;repeat rcases h76 with⟨_,h76⟩
 apply aT;(exact bF);refine jY ((S1++bL 10 co kA).map aH) (S1++bL 10 co kA).length ?_;refine bM fun r77 h77=> ?_;repeat rcases h77 with⟨_,h77⟩
 refine dG ?_;generalize bL 10 co kA=S2 at L2⊢;refine rT ?_;refine bU 4 5 1 (by decide) rfl (by decide) (aD fun q6 hq6=> ?_);repeat rcases hq6 with⟨_,hq6⟩
 refine rT ?_;refine lp (β:=Nat×Nat) (fun b=>⟨[(1,.ptr r1 0),(3,.own r77 0 (S1++S2).length),(4,.own b.1 0 (eL vG da b.2).length),(8,.int .i64 b.2)],[(b.1,.arr 5 1 ((eL vG da b.2).map aH)),(r77,.arr 5 1 ((S1++S2).map aH)),(r1,.box 33 (cK ⟨ty,im,fn,tb,me,gl,ex,el,co,da⟩))]⟩) (fun b=>b.2≤da.length∧Nq b.1 r1∧Nq b.1 r77) (fun b=>da.length-b.2) (q6,0) aK ⟨Nat.zero_le _,by show Nq q6 r1;(exact cF),by show Nq q6 r77;(exact cF)⟩ ?_;rintro⟨q1,j⟩ ⟨hj,hqa,hqb⟩;have hpl:=Pda j;dsimp only at hj hqa hqb⊢;unfold cK;dsimp only;refine mC ?_;refine aB rfl (fun g16=> ?_) (fun g16=> ?_)
 ·have hlt:j<da.length:=by simp at g16;omega
  obtain⟨⟨oo,bs⟩,hx⟩:∃x,da[j]? =some x:=⟨_,List.getElem?_eq_getElem hlt⟩
  obtain⟨ho,hf1⟩:=hda _ (List.mem_of_getElem? hx);dsimp only at ho hf1;have hr:-2147483648≤oo∧oo≤2147483647:=by(have h:=ho;unfold kE at h;simpa using h)
  have hv:lW 1 oo=true:=by unfold lW;simp;omega
  have hcl:=vH hv (by omega);have hub:=bN 4 bs.length (by omega);have hnx:=lD (pt:=vG) hx;refine aP ?_;refine gI [(0,true),(3,true),(4,true),(5,true),(6,true),(7,true),(8,true),(9,true),(12,true),(13,true),(14,true),(15,true),(16,true),(17,true),(18,true),(19,true),(20,true),(21,true),(22,true),(23,true),(24,true),(1,false),(2,false),(10,false),(11,false),(25,false),(26,false),(27,true)] ?_;refine gD rfl (aI (E rfl)) rfl ?_;refine pW ?_;refine z94 ?_;refine pW ?_;refine IQ ?_;refine pW ?_;refine GO ?_;refine aD fun r86 h86=> ?_;repeat rcases h86 with⟨_,h86⟩
  refine fJ rfl ((eL vG da j++ [0]).map aH) (eL vG da j++ [0]).length ?_;refine bM fun r87 h87=> ?_;repeat rcases h87 with⟨_,h87⟩
  refine mU rfl Tryz.call163 (qB 1 oo hv (by omega)) rfl bS kI ?_;rintro _ σ' ⟨q95,rfl,rfl⟩ h95
  replace h95:=cO h95;repeat rcases h95 with⟨_,h95⟩
  apply bZ;(exact bF);refine fJ rfl ((eL vG da j++ [0]++lL 1 oo).map aH) (eL vG da j++ [0]++lL 1 oo).length ?_;refine bM fun r96 h96=> ?_;repeat rcases h96 with⟨_,h96⟩
  refine mU rfl Tryz.call251 (uT (k:=.any) bs.length bs (by omega) (by omega)) rfl bS kI ?_;rintro _ σ' ⟨q110,rfl,rfl⟩ h110
  replace h110:=cO h110;repeat rcases h110 with⟨_,h110⟩
  apply bZ;(exact bF);refine fJ rfl ((eL vG da j++ [0]++lL 1 oo++(uB bs.length++bs)).map aH) (eL vG da j++ [0]++lL 1 oo++(uB bs.length++bs)).length ?_;refine bM fun r111 h111=> ?_;repeat rcases h111 with⟨_,h111⟩
  refine pV ?_;refine⟨(r111,j+1),⟨hlt,by show Nq r111 r1;(exact cF),by show Nq r111 r77;(exact cF)⟩,by show da.length-(j+1)<da.length-j;omega, ?_⟩;dsimp only;rw[hnx];rw[show eL vG da j++vG ⟨oo,bs⟩=eL vG da j++ [0]++lL 1 oo++(uB bs.length++bs) by unfold vG pD;simp];exact aK
 obtain rfl:j=da.length:=by simp at g16;omega
 refine qW ?_;refine oA ?_;refine qQ Tryz.call158 (iW 11 (by decide) da vG (by omega) (by have:=Pda da.length;omega)) rfl bS kI ?_;rintro _ σ' ⟨q117,rfl,rfl⟩ h117
 replace h117:=cO h117;repeat rcases h117 with⟨_,h117⟩
 apply aT;(exact bF);refine jY ((S1++S2++bL 11 da vG).map aH) (S1++S2++bL 11 da vG).length ?_;refine bM fun r118 h118=> ?_;repeat rcases h118 with⟨_,h118⟩
 refine dG ?_;apply aF;exact aG
 ·exact⟨r118,rfl,rfl⟩
 ·exact aA
theorem VE{m:Md}(h:m.G):(uV m).length≤10000000:=by
 obtain⟨-,-,-,-,-,-,-,⟨nel,hel⟩,⟨nco,hco⟩,⟨nda,hda⟩⟩:=h;obtain⟨L1,-⟩:=kS 9 tH 5300 nel (by decide) fun x hx=>SV (hel x hx)
 obtain⟨L2,-⟩:=kS 10 kA 70000 nco (by decide) fun x hx=>SY (hco x hx)
 obtain⟨L3,-⟩:=kS 11 vG 1300 nda (by decide) fun x hx=>SZ (hda x hx)
 unfold uV;rw[List.length_append,List.length_append];omega
theorem VF(m:Md)(h:m.G):SCall Tryz.prog 64 [.agg (cK m)] [] (fun y σ=>∃q,y=.own q 0 (fH m).length∧σ=[(q,.arr 5 1 ((fH m).map aH))]):=aAg m h (aAh m h) (VE h)
theorem iM{α:Type}{l:List α}{p:α→Bool}{j:Nat}{x:α}(hx:l[j]? =some x)(h:p x=false):l.all p=false:=by
 rw[List.all_eq_false];exact⟨x,List.mem_of_getElem? hx,by rw[h];simp⟩
theorem kG{α:Type}{l:List α}{p:α→Bool}{j:Nat}{x:α}(ha:(l.take j).all p=true)(hx:l[j]? =some x)(h:p x=true):(l.take (j+1)).all p=true:=by
 rw[List.take_add_one,hx,List.all_append,ha];simp[h]
theorem DS(n:Int):SCall Tryz.prog 59 [.int .i64 n] [] (fun r σ'=>r=.bool (iK n)∧σ'=[]):=by
 refine cC 9 [0,2] Tryz.func59 ?_;refine fV ?_;refine GP ?_;refine IS ?_;refine kD ?_;apply aF;exact aG
 ·exact⟨rfl,rfl⟩
 ·exact aA
theorem aAi(n:Int):SCall Tryz.prog 154 [.int .i64 n] [] (fun r σ'=>r=.bool (kE n)∧σ'=[]):=by
 refine cC 9 [0,2] Tryz.func154 ?_;refine fV ?_;refine GP ?_;refine XE ?_;refine kD ?_;apply aF;exact aG
 ·exact⟨by unfold kE;rw[show decide (n≤2147483647)=decide (n<2147483648)from decide_eq_decide.2 (by omega)];cases h:decide (-2147483648≤n)<;>simp_all [iH],rfl⟩
 ·exact aA
theorem aFJ(k n:Int):SCall Tryz.prog 60 [.agg [.int .i64 k,.int .i64 n]] [] (fun r σ'=>r=.bool (lW k n)∧σ'=[]):=by
 have hd:decide (n≤2147483647)=decide (n<2147483648):=decide_eq_decide.2 (by omega);refine cC 21 [0,1,2] Tryz.func60 ?_;refine dW ?_;apply bx;rfl;rfl;(exact dM);rfl;refine aD fun r1 h1=> ?_;repeat rcases h1 with⟨_,h1⟩
 refine jF ?_;refine AF ?_;refine wJ ?_;refine XB ?_;refine XC ?_;refine XD ?_;refine aGO ?_;refine aBf ?_;refine XB ?_;refine XC ?_;refine XD ?_;refine aIP ?_;refine aBf ?_;refine qG ?_;refine dG ?_;apply aF;exact aG
 ·exact⟨by unfold lW;rw[hd];cases h:(k==2)<;>cases h1:(k==1)<;>cases h2:decide (-2147483648≤n)<;>cases h3:decide (n<2147483648)<;>rfl,rfl⟩
 ·exact aA
theorem HT(l:Li)(a c:Int):SCall Tryz.prog 62 [.agg (iI l),.int .i64 a,.int .i64 c] [] (fun r σ'=>r=.bool (lC l a c)∧σ'=[]):=by
 obtain⟨has,mn,mx⟩:=l;refine cC 38 [0,1,2,3,6,9] Tryz.func62 ?_;unfold iI;refine dW ?_;apply bx;rfl;rfl;(exact dM);rfl;refine aD fun r3 h3=> ?_;repeat rcases h3 with⟨_,h3⟩
 refine jF ?_;refine tU ?_;refine aB rfl (fun g1=> ?_) (fun g1=> ?_)
 ·have hE:lC ⟨has,mn,mx⟩ a c=if(mn==0)=true then(mx==0)else false:=by obtain rfl:has=false:=(by simpa using g1);unfold lC;cases h:mn==0<;>simp_all
  refine fS ?_;refine AF ?_;refine wJ ?_;refine kD ?_;apply aF;exact aG
  ·exact⟨by rw[hE];rfl,rfl⟩
  ·exact aA
 have hE:lC ⟨has,mn,mx⟩ a c=if(if(if decide (0≤mn)=true then decide (mn≤a)else false)=true then decide (-1≤mx)else false)=true then decide (mx≤c)else false:=by obtain rfl:has=true:=(by simpa using g1);unfold lC;rw[if_pos rfl];cases h:decide (0≤mn)<;>cases h2:decide (mn≤a)<;>cases h3:decide (-1≤mx)<;>rfl
 refine fS ?_;refine lo (fI (E rfl) (E rfl)) rfl ?_;refine qZ ?_;refine XA ?_;refine rS ?_;refine nH ?_;refine aBe ?_;refine rS ?_;refine qZ ?_;refine XA ?_;refine kD ?_;apply aF;exact aG
 ·exact⟨by rw[hE];rfl,rfl⟩
 ·exact aA
theorem DT(l:List Int)(hl:l.length≤1000000)(most:Int):SCall Tryz.prog 57 [.ro 1 (l.map aX) .any,.int .i64 most] [] (fun r σ'=>r=.bool (cP l most yC)∧σ'=[]):=by
 refine cC 28 [0,1,4,5,9,23] Tryz.func57 ?_;refine nX ?_;refine lp (β:=Nat) (fun j=>⟨[(0,.ro 1 (l.map aX) .any),(1,.int .i64 most),(5,.int .i64 j)],[]⟩) (fun j=>j≤l.length∧(l.take j).all yC=true) (fun j=>l.length-j) 0 aK ⟨Nat.zero_le _,rfl⟩ ?_;rintro j ⟨hj,ha⟩;refine cL ?_;refine CL ?_;refine aB rfl (fun g2=> ?_) (fun g2=> ?_)
 ·have hlt:j<l.length:=by simp at g2;omega
  obtain⟨x,hx⟩:∃x,l[j]? =some x:=⟨_,List.getElem?_eq_getElem hlt⟩
  refine cL ?_;refine qY ?_;refine lo (fE (E rfl) (E rfl)) rfl ?_;refine jK ?_;refine qV ?_;refine AP ?_;refine AQ ?_;refine aBd ?_;refine tW ?_;refine aB rfl (fun g4=> ?_) (fun g4=> ?_)
  ·have hE:cP l most yC=false:=by unfold cP;rw[iM hx (by unfold yC;cases h1:(x==1)<;>cases h2:(x==2)<;>simp_all),Bool.and_false]
   refine bQ ?_;apply aF;exact aG
   ·exact⟨by rw[hE];rfl,rfl⟩
   ·exact aA
  refine oX ?_;refine⟨j+1,⟨hlt,kG ha hx (by unfold yC;cases h1:(x==1)<;>cases h2:(x==2)<;>simp_all)⟩,by show l.length-(j+1)<l.length-j;omega, ?_⟩;exact aK
 obtain rfl:j=l.length:=by simp at g2;omega
 have hE:cP l most yC=decide ((l.length:Int)≤most):=by unfold cP;rw[List.take_length]at ha;rw[ha,Bool.and_true]
 refine dX ?_;refine aEw ?_;refine dG ?_;apply aF;exact aG
 ·exact⟨by rw[hE];rfl,rfl⟩
 ·exact aA
theorem DU(l:List Int)(hl:l.length≤1000000)(most:Int):SCall Tryz.prog 61 [.ro 1 (l.map aX) .any,.int .i64 most] [] (fun r σ'=>r=.bool (cP l most iK)∧σ'=[]):=by
 refine cC 22 [0,1,4,5,9,17] Tryz.func61 ?_;refine nX ?_;refine lp (β:=Nat) (fun j=>⟨[(0,.ro 1 (l.map aX) .any),(1,.int .i64 most),(5,.int .i64 j)],[]⟩) (fun j=>j≤l.length∧(l.take j).all iK=true) (fun j=>l.length-j) 0 aK ⟨Nat.zero_le _,rfl⟩ ?_;rintro j ⟨hj,ha⟩;refine cL ?_;refine CL ?_;refine aB rfl (fun g2=> ?_) (fun g2=> ?_)
 ·have hlt:j<l.length:=by simp at g2;omega
  obtain⟨x,hx⟩:∃x,l[j]? =some x:=⟨_,List.getElem?_eq_getElem hlt⟩
  refine cL ?_;refine qY ?_;refine oE Tryz.call59 (DS x) rfl bG bK ?_;refine tU ?_;refine aB rfl (fun g4=> ?_) (fun g4=> ?_)
  ·have hE:cP l most iK=false:=by unfold cP;rw[iM hx (by simpa using g4),Bool.and_false]
   refine bQ ?_;apply aF;exact aG
   ·exact⟨by rw[hE];rfl,rfl⟩
   ·exact aA
  refine oX ?_;refine⟨j+1,⟨hlt,kG ha hx (by simpa using g4)⟩,by show l.length-(j+1)<l.length-j;omega, ?_⟩;exact aK
 obtain rfl:j=l.length:=by simp at g2;omega
 have hE:cP l most iK=decide ((l.length:Int)≤most):=by unfold cP;rw[List.take_length]at ha;rw[ha,Bool.and_true]
 refine dX ?_;refine aEw ?_;refine dG ?_;apply aF;exact aG
 ·exact⟨by rw[hE];rfl,rfl⟩
 ·exact aA
theorem KI(s:List Nat)(hl:s.length≤1000000)(hs:∀c∈s,c<256):SCall Tryz.prog 58 [.str (dV s)] [] (fun r σ'=>r=.bool (sW s)∧σ'=[]):=by
 have hch:∀x:Nat,(if decide ((x:Int)<32)=true then true else decide ((126:Int)<x))= !chN x:=fun x=>by unfold chN;rw[show decide ((x:Int)<32)= !decide (32≤x) by rw[←decide_not];exact decide_eq_decide.2 (by omega),show decide ((126:Int)<x)= !decide (x≤126) by rw[←decide_not];exact decide_eq_decide.2 (by omega)];cases decide (32≤x)<;>rfl
 have hnm:sW s=if decide ((1:Int)≤s.length)=true then(decide ((s.length:Int)≤16)&&s.all chN)else false:=by
  rw[ZE];unfold cP;rcases s with _ |⟨x,s⟩
  ·rfl
  ·rw[if_pos (by simp),if_pos (by simp;omega)]
 refine cC 28 [0,2,3,7,19] Tryz.func58 ?_;refine nX ?_;refine lp (β:=Nat) (fun j=>⟨[(0,.str (dV s)),(3,.int .i64 j)],[]⟩) (fun j=>j≤s.length∧(s.take j).all chN=true) (fun j=>s.length-j) 0 aK ⟨Nat.zero_le _,rfl⟩ ?_;rintro j ⟨hj,ha⟩;refine cL ?_;refine lo (gZ (E rfl)) rfl ?_;rw[jU];refine xM ?_;refine aB rfl (fun g2=> ?_) (fun g2=> ?_)
 ·have hlt:j<s.length:=by simp at g2;omega
  obtain⟨x,hx⟩:∃x,s[j]? =some x:=⟨_,List.getElem?_eq_getElem hlt⟩
  have hx256:x<256:=hs x (List.mem_of_getElem? hx);refine cL ?_;refine aIQ ?_;refine EY ?_;refine qV ?_;refine aIR ?_;refine IR ?_;refine qJ ?_;rw[hch];refine aB rfl (fun g4=> ?_) (fun g4=> ?_)
  ·have hE:sW s=false:=by rw[hnm,iM hx (by simpa using g4),Bool.and_false];split<;>rfl
   refine bQ ?_;apply aF;exact aG
   ·exact⟨by rw[hE];rfl,rfl⟩
   ·exact aA
  refine oX ?_;refine⟨j+1,⟨hlt,kG ha hx (by simpa using g4)⟩,by show s.length-(j+1)<s.length-j;omega, ?_⟩;exact aK
 obtain rfl:j=s.length:=by simp at g2;omega
 rw[List.take_length]at ha;refine dX ?_;refine lo (gZ (E rfl)) rfl ?_;rw[jU];refine GP ?_;refine aEp ?_;rw[jU];refine IS ?_;refine kD ?_;have hE:sW s=if decide ((1:Int)≤s.length)=true then decide ((s.length:Int)≤16)else false:=by rw[hnm,ha,Bool.and_true]
 apply aF;exact aG
 ·exact⟨by rw[hE];rfl,rfl⟩
 ·exact aA
def elP (x:El):Bool:=kE x.off&&cP x.fs 50 iK
def daP (x:Da):Bool:=kE x.off&&decide (x.bs.length≤1000)
def KJ (c:Co):Bool:=vS (cV c.bd)&&cP c.ls 32 yC&&c.bd.all dC
def kX (m:Md):Bool:=m.el.all elP&&m.co.all KJ&&m.da.all daP
theorem aCJ(c:Co):KJ c=sA c:=by
 unfold KJ sA;cases h:vS (cV c.bd)with
 |false=>rfl
 |true=>
  have:=JU h;simp only[cV,List.length_map]at this;unfold cP;rw[decide_eq_true (show(c.bd.length:Int)≤300 by omega)];rfl
structure Md.Z (m:Md):Prop where
 ty:m.ty.length≤1000000∧∀x∈m.ty,x.pr.length≤1000000∧x.rs.length≤1000000
 im:m.im.length≤1000000
 fn:m.fn.length≤1000000
 gl:m.gl.length≤1000000
 ex:m.ex.length≤1000000
 el:m.el.length≤1000000∧∀x∈m.el,x.fs.length≤1000000
 co:m.co.length≤1000000∧∀x∈m.co,x.ls.length≤1000000
 da:m.da.length≤1000000∧∀x∈m.da,x.bs.length≤1000000
theorem aAj(m:Md)(h:m.WO)(hz:m.Z):SCall Tryz.prog 63 [.agg (cK m)] [] (fun r σ'=>r=.bool (kX m)∧σ'=[]):=by
 obtain⟨⟨-,-,h3,-,-⟩,h5,-⟩:=h;obtain⟨-,-,-,-,-,⟨z1,z2⟩,⟨z3,z4⟩,⟨z5,z6⟩⟩:=hz;obtain⟨ty,im,fn,tb,me,gl,ex,el,co,da⟩:=m;dsimp only at h3 h5 z1 z2 z3 z4 z5 z6;refine cC 100 [0,1,2,3,4,5,7,8,9,14,34,39,60,65,74,79,99] Tryz.func63 ?_;unfold cK;dsimp only;refine dW ?_;apply bx;rfl;rfl;(exact dM);rfl;refine aD fun r1 h1=> ?_;repeat rcases h1 with⟨_,h1⟩
 refine kY ?_;refine dG ?_;refine lp (β:=Nat) (fun j=>⟨[(1,.ptr r1 0),(3,.int .i64 j)],[(r1,.box 33 (cK ⟨ty,im,fn,tb,me,gl,ex,el,co,da⟩))]⟩) (fun j=>j≤el.length∧(el.take j).all elP=true) (fun j=>el.length-j) 0 aK ⟨Nat.zero_le _,rfl⟩ ?_;rintro j ⟨hj,ha⟩;unfold cK;dsimp only;refine mC ?_;refine aB rfl (fun g2=> ?_) (fun g2=> ?_)
 ·have hlt:j<el.length:=by simp at g2;omega
  obtain⟨⟨oo,fs⟩,hx⟩:∃x,el[j]? =some x:=⟨_,List.getElem?_eq_getElem hlt⟩
  have hfl:=z2 _ (List.mem_of_getElem? hx);refine fS ?_;refine oZ ?_;refine MB ?_;refine oE Tryz.call154 (aAi oo) rfl bG bK ?_;refine lo (eI (E rfl)) rfl ?_;refine qZ ?_;refine AP ?_;refine MD ?_;refine AQ ?_;refine kV rfl rfl Tryz.call61 (fun _=>(DU fs hfl 50)) rfl bG bK ?_;refine tT ?_;refine qJ ?_;refine aB rfl (fun g4=> ?_) (fun g4=> ?_)
  ·have hE:kX ⟨ty,im,fn,tb,me,gl,ex,el,co,da⟩=false:=by unfold kX;rw[iM hx (by unfold elP;cases h1:kE oo<;>cases h2:cP fs 50 iK<;>simp_all),Bool.false_and,Bool.false_and]
   refine bQ ?_;apply aF;exact aG
   ·exact⟨by rw[hE];rfl,rfl⟩
   ·exact aA
  refine oX ?_;refine⟨j+1,⟨hlt,kG ha hx (by unfold elP;cases h1:kE oo<;>cases h2:cP fs 50 iK<;>simp_all)⟩,by show el.length-(j+1)<el.length-j;omega, ?_⟩;exact aK
 obtain rfl:j=el.length:=by simp at g2;omega
 rw[List.take_length]at ha;refine bQ ?_;refine lp (β:=Nat) (fun j=>⟨[(1,.ptr r1 0),(4,.int .i64 j)],[(r1,.box 33 (cK ⟨ty,im,fn,tb,me,gl,ex,el,co,da⟩))]⟩) (fun j=>j≤co.length∧(co.take j).all KJ=true) (fun j=>co.length-j) 0 aK ⟨Nat.zero_le _,rfl⟩ ?_;rintro j ⟨hj,hc⟩;unfold cK;dsimp only;refine mC ?_;refine aB rfl (fun g7=> ?_) (fun g7=> ?_)
 ·have hlt:j<co.length:=by simp at g7;omega
  obtain⟨⟨ls,bd⟩,hx⟩:∃x,co[j]? =some x:=⟨_,List.getElem?_eq_getElem hlt⟩
  have hll:=z4 _ (List.mem_of_getElem? hx);have hbl:=h3 _ (List.mem_of_getElem? hx);have hbo:=h5 _ (List.mem_of_getElem? hx);dsimp only at hll hbl hbo;refine fS ?_;refine mB ?_;apply al;rfl;(exact dM);refine aD fun r5 h5=> ?_;repeat rcases h5 with⟨_,h5⟩
  refine nS ?_;refine fS ?_;refine qQ Tryz.call155 (UK bd hbl) rfl bS kI ?_;rintro _ σ' ⟨q50,rfl,rfl⟩ h50
  replace h50:=cO h50;repeat rcases h50 with⟨_,h50⟩
  refine pU ?_;refine mN ?_;refine lo (eI (E rfl)) rfl ?_;refine nH ?_;refine kV rfl rfl Tryz.call57 (fun _=>(DT ls hll 32)) rfl bG bK ?_;refine tT ?_;refine qJ ?_;refine aB rfl (fun g11=> ?_) (fun g11=> ?_)
  ·have hE:kX ⟨ty,im,fn,tb,me,gl,ex,el,co,da⟩=false:=by unfold kX;rw[iM hx (by unfold KJ;dsimp only;cases h1:vS (cV bd)<;>cases h2:cP ls 32 yC<;>simp_all),Bool.and_false,Bool.false_and]
   refine bQ ?_;apply aF;exact aG
   ·exact⟨by rw[hE];rfl,rfl⟩
   ·exact aA
  have hok:vS (cV bd)=true∧cP ls 32 yC=true:=by cases h1:vS (cV bd)<;>cases h2:cP ls 32 yC<;>simp_all
  refine bQ ?_;refine lp (β:=Nat) (fun i=>⟨[(1,.ptr r1 0),(4,.int .i64 j),(5,.ptr r5 0),(8,.int .i64 i)],[(r5,.box 44 (eS ⟨ls,bd⟩)),(r1,.box 33 (cK ⟨ty,im,fn,tb,me,gl,ex,el,co,da⟩))]⟩) (fun i=>i≤bd.length∧(bd.take i).all dC=true) (fun i=>bd.length-i) 0 aK ⟨Nat.zero_le _,rfl⟩ ?_;rintro i ⟨hi,hb⟩;unfold cK eS;dsimp only;refine mC ?_;refine aB rfl (fun g14=> ?_) (fun g14=> ?_)
  ·have hlt2:i<bd.length:=by simp at g14;omega
   obtain⟨x,hx2⟩:∃x,bd[i]? =some x:=⟨_,List.getElem?_eq_getElem hlt2⟩
   refine fS ?_;refine mB ?_;refine oE Tryz.call156 (IZ .any x (hbo x (List.mem_of_getElem? hx2))) rfl bG bK ?_;refine tU ?_;refine aB rfl (fun g16=> ?_) (fun g16=> ?_)
   ·have hE:kX ⟨ty,im,fn,tb,me,gl,ex,el,co,da⟩=false:=by unfold kX;rw[iM hx (by unfold KJ;dsimp only;rw[iM hx2 (by simpa using g16),Bool.and_false]),Bool.and_false,Bool.false_and]
    refine bQ ?_;apply aF;exact aG
    ·exact⟨by rw[hE];rfl,rfl⟩
    ·exact aA
   refine oX ?_;refine⟨i+1,⟨hlt2,kG hb hx2 (by simpa using g16)⟩,by show bd.length-(i+1)<bd.length-i;omega, ?_⟩;exact aK
  obtain rfl:i=bd.length:=by simp at g14;omega
  rw[List.take_length]at hb;refine oX ?_;refine⟨j+1,⟨hlt,kG hc hx (by unfold KJ;dsimp only;rw[hok.1,hok.2,hb];rfl)⟩,by show co.length-(j+1)<co.length-j;omega, ?_⟩;exact aK
 obtain rfl:j=co.length:=by simp at g7;omega
 rw[List.take_length]at hc;refine bQ ?_;refine lp (β:=Nat) (fun j=>⟨[(1,.ptr r1 0),(9,.int .i64 j)],[(r1,.box 33 (cK ⟨ty,im,fn,tb,me,gl,ex,el,co,da⟩))]⟩) (fun j=>j≤da.length∧(da.take j).all daP=true) (fun j=>da.length-j) 0 aK ⟨Nat.zero_le _,rfl⟩ ?_;rintro j ⟨hj,hd⟩;unfold cK;dsimp only;refine mC ?_;refine aB rfl (fun g19=> ?_) (fun g19=> ?_)
 ·have hlt:j<da.length:=by simp at g19;omega
  obtain⟨⟨oo,bs⟩,hx⟩:∃x,da[j]? =some x:=⟨_,List.getElem?_eq_getElem hlt⟩
  have hfl:=z6 _ (List.mem_of_getElem? hx);have hgt:decide ((1000:Int)<bs.length)= !decide (bs.length≤1000):=by rw[←decide_not];exact decide_eq_decide.2 (by omega)
  refine fS ?_;refine oZ ?_;refine MB ?_;refine oE Tryz.call154 (aAi oo) rfl bG bK ?_;refine lo (eI (E rfl)) rfl ?_;refine qZ ?_;refine AP ?_;refine MD ?_;refine AQ ?_;refine pP ?_;refine IR ?_;refine qJ ?_;rw[hgt];refine aB rfl (fun g21=> ?_) (fun g21=> ?_)
  ·have hE:kX ⟨ty,im,fn,tb,me,gl,ex,el,co,da⟩=false:=by unfold kX;rw[iM hx (by unfold daP;dsimp only;cases h1:kE oo<;>cases h2:decide (bs.length≤1000)<;>rw[h1,h2]at g21<;>first|rfl|cases g21),Bool.and_false]
   refine bQ ?_;apply aF;exact aG
   ·exact⟨by rw[hE];rfl,rfl⟩
   ·exact aA
  refine oX ?_;refine⟨j+1,⟨hlt,kG hd hx (by unfold daP;dsimp only;cases h1:kE oo<;>cases h2:decide (bs.length≤1000)<;>rw[h1,h2]at g21<;>first|rfl|cases g21)⟩,by show da.length-(j+1)<da.length-j;omega, ?_⟩;exact aK
 obtain rfl:j=da.length:=by simp at g19;omega
 rw[List.take_length]at hd;refine bQ ?_;have hE:kX ⟨ty,im,fn,tb,me,gl,ex,el,co,da⟩=true:=by unfold kX;rw[ha,hc,hd];rfl
 apply aF;exact aG
 ·exact⟨by rw[hE];rfl,rfl⟩
 ·exact aA
def tyP (t:FT):Bool:=cP t.pr 32 yC&&cP t.rs 1 yC
def imP (x:Im):Bool:=sW x.mod&&sW x.nm&&iK x.ty
def glP (g:Gl):Bool:=lW g.kd g.n
def exP (x:Ex):Bool:=sW x.nm&&iK x.fn
def DV (m:Md):Bool:=decide (m.ty.length≤16∧m.im.length+m.fn.length≤16∧m.gl.length≤16∧m.ex.length≤16∧m.el.length≤16∧m.da.length≤16∧m.co.length=m.fn.length)
def aFK (m:Md):Bool:=DV m&&m.ty.all tyP&&m.im.all imP&&m.gl.all glP&&m.ex.all exP&&cP m.fn 16 iK&&lC m.tb 16 1000&&lC m.me 16 65536&&kX m
theorem aCK(m:Md):aFK m=pT m:=by
 have hc:m.co.all KJ=m.co.all sA:=by rw[show KJ=sA from funext aCJ]
 unfold aFK pT pE DV kX;rw[hc,Bool.eq_iff_iff];simp only[Bool.and_eq_true,decide_eq_true_eq,beq_iff_eq,cP];constructor
 ·rintro⟨⟨⟨⟨⟨⟨⟨⟨⟨l1,l2,l3,l4,l5,l6,l7⟩,a1⟩,a2⟩,a3⟩,a4⟩,-,a5⟩,a6⟩,a7⟩,⟨a8,a9⟩,a10⟩;exact⟨⟨⟨⟨l7,by omega,a9⟩,⟨⟨⟨⟨⟨⟨by omega,a1⟩,by omega,a2⟩,by omega,a5⟩,by omega,a3⟩,by omega,a4⟩,by omega,a8⟩,by omega,a10⟩,a6⟩,a7⟩
 ·rintro⟨⟨⟨⟨l7,l8,a9⟩,⟨⟨⟨⟨⟨⟨l1,a1⟩,l2,a2⟩,l3,a5⟩,l4,a3⟩,l5,a4⟩,l6,a8⟩,l9,a10⟩,a6⟩,a7⟩;exact⟨⟨⟨⟨⟨⟨⟨⟨⟨by omega,by omega,by omega,by omega,by omega,by omega,l7⟩,a1⟩,a2⟩,a3⟩,a4⟩,by omega,a5⟩,a6⟩,a7⟩,⟨a8,a9⟩,a10⟩
theorem aAk{s:List Nat}(h:sW s=true):OH s:=⟨by have:=(kO h).1;omega,(kO h).2.1⟩
theorem aCL{n:Int}(h:iK n=true):SmI n:=⟨(JY h).1,by have:=(JY h).2;omega⟩
theorem aHQ{m:Md}(h:pT m=true)(hw:m.WO):m.G:=by
 obtain⟨-,hO1,hO2⟩:=hw;have hw2:=h;unfold pT at h;simp only[Bool.and_eq_true]at h;obtain⟨⟨⟨⟨-,hco⟩,hls⟩,htb⟩,hme⟩:=h;unfold pE at hls;simp only[Bool.and_eq_true]at hls;obtain⟨⟨⟨⟨⟨⟨hty,him⟩,hfn⟩,hgl⟩,hex⟩,hel⟩,hda⟩:=hls;obtain⟨a1,a2⟩:=bW hty;obtain⟨b1,b2⟩:=bW him;obtain⟨c1,c2⟩:=bW hfn;obtain⟨d1,d2⟩:=bW hgl;obtain⟨e1,e2⟩:=bW hex;obtain⟨f1,f2⟩:=bW hel;obtain⟨g1,g2⟩:=bW hda;obtain⟨i1,i2⟩:=bW hco;simp only[Bool.and_eq_true]at a2 b2 e2 f2 g2;refine⟨⟨by omega,fun x hx=> ?_⟩,⟨by omega,fun x hx=> ?_⟩,⟨by omega,fun x hx=>aCL (c2 x hx)⟩,fun hh=> ?_,fun hh=> ?_,⟨by omega,fun x hx=>⟨d2 x hx,hO2 x hx⟩⟩,⟨by omega,fun x hx=> ?_⟩,⟨by omega,fun x hx=> ?_⟩,⟨by omega,fun x hx=> ?_⟩,⟨by omega,fun x hx=> ?_⟩⟩
 ·have h1:=(bW (a2 x hx).1).1;have h2:=(bW (a2 x hx).2).1;omega
 ·exact⟨aAk (b2 x hx).1.1,aAk (b2 x hx).1.2,aCL (b2 x hx).2⟩
 ·exact(KA htb (by decide) (by decide)).1 m.tb (by unfold gW;rw[hh];simp)
 ·exact(KA hme (by decide) (by decide)).1 m.me (by unfold gW;rw[hh];simp)
 ·exact⟨aAk (e2 x hx).1,aCL (e2 x hx).2⟩
 ·exact⟨(f2 x hx).1,by have:=(bW (f2 x hx).2).1;omega,fun n hn=>aCL ((bW (f2 x hx).2).2 n hn)⟩
 ·have h1:=i2 x hx;unfold sA at h1;simp only[Bool.and_eq_true]at h1;exact⟨by have:=(bW h1.1.2).1;omega,by have:=(bW h1.2).1;omega,fun i hi=>⟨hO1 x hx i hi,(bW h1.2).2 i hi⟩⟩
 ·exact⟨(g2 x hx).1,by simpa using(g2 x hx).2⟩
theorem or7(a b c d e f g:Bool):(if(if(if(if(if(if a=true then true else b)=true then true else c)=true then true else d)=true then true else e)=true then true else f)=true then true else g)=(a||b||c||d||e||f||g):=by
 cases a<;>cases b<;>cases c<;>cases d<;>cases e<;>cases f<;>cases g<;>rfl
theorem OI{a b:Bool}(h:(if(!a)=true then true else !b)=true):(a&&b)=false:=by cases a<;>cases b<;>simp_all
theorem OJ{a b:Bool}(h:(if(!a)=true then true else !b)=false):(a&&b)=true:=by cases a<;>cases b<;>simp_all
theorem TB(m:Md)(h:m.WO)(hz:m.Z):SCall Tryz.prog 19 [.agg (cK m)] [] (fun r σ'=>r=.bool (pS m)∧σ'=[]):=by
 have hM:=vJ m;have hpt:=aAj m h hz;have hby:=fun ha=>VF m (aHQ ha h)
 have hrA:=aCK m;unfold aFK at hrA;obtain⟨⟨h1,h2,h3,h4,-⟩,h5,h6⟩:=h;obtain⟨⟨z1,z2⟩,z3,z4,z5,z6,⟨z7,z8⟩,⟨z9,z10⟩,⟨z11,z12⟩⟩:=hz;obtain⟨ty,im,fn,tb,me,gl,ex,el,co,da⟩:=m;dsimp only at h1 h2 h3 h4 h5 h6 z1 z2 z3 z4 z5 z6 z7 z8 z9 z10 z11 z12 hrA;have bad:pT ⟨ty,im,fn,tb,me,gl,ex,el,co,da⟩=false→pS ⟨ty,im,fn,tb,me,gl,ex,el,co,da⟩=false:=fun h=>by rw[hM,h];rfl
 refine cC 179 [0,1,2,3,4,5,6,53,58,78,83,113,118,128,133,153,174] Tryz.func19 ?_;unfold cK;dsimp only;refine dW ?_;apply bx;rfl;rfl;(exact dM);rfl;refine aD fun r1 h1=> ?_;repeat rcases h1 with⟨_,h1⟩
 refine jF ?_;refine lU ?_;refine lo (lE (E rfl) (E rfl)) rfl ?_;refine nH ?_;refine pP ?_;refine mD ?_;refine pP ?_;refine aIS ?_;refine IR ?_;refine qG ?_;refine nH ?_;refine pP ?_;refine IR ?_;refine qG ?_;refine nH ?_;refine pP ?_;refine IR ?_;refine qG ?_;refine nH ?_;refine pP ?_;refine IR ?_;refine qG ?_;refine nH ?_;refine pP ?_;refine IR ?_;refine qG ?_;refine nH ?_;refine pP ?_;refine mD ?_;refine pP ?_;refine aIT ?_;refine qJ ?_;refine aB rfl (fun g1=> ?_) (fun g1=> ?_)
 ·have hl0:DV ⟨ty,im,fn,tb,me,gl,ex,el,co,da⟩=false:=by cases hh:DV ⟨ty,im,fn,tb,me,gl,ex,el,co,da⟩with|false=>rfl|true=>(unfold DV at hh;simp only[decide_eq_true_eq]at hh;obtain⟨l1,l2,l3,l4,l5,l6,l7⟩:=hh;rw[decide_eq_false (by omega),decide_eq_false (by omega),decide_eq_false (by omega),decide_eq_false (by omega),decide_eq_false (by omega),decide_eq_false (by omega)]at g1;simp[l7]at g1)
  have hE:=bad (by rw[←hrA,hl0];rfl);refine bQ ?_;apply aF;exact aG
  ·exact⟨by rw[hE];rfl,rfl⟩
  ·exact aA
 rw[or7]at g1;simp only[Bool.or_eq_false_iff,decide_eq_false_iff_not,bne_eq_false_iff_eq]at g1;have hl1:DV ⟨ty,im,fn,tb,me,gl,ex,el,co,da⟩=true:=by unfold DV;rw[decide_eq_true];obtain⟨⟨⟨⟨⟨⟨m1,m2⟩,m3⟩,m4⟩,m5⟩,m6⟩,m7⟩:=g1;dsimp only;omega
 refine bQ ?_;refine lp (β:=Nat) (fun j=>⟨[(1,.ptr r1 0),(3,.int .i64 j)],[(r1,.box 33 (cK ⟨ty,im,fn,tb,me,gl,ex,el,co,da⟩))]⟩) (fun j=>j≤ty.length∧(ty.take j).all tyP=true) (fun j=>ty.length-j) 0 aK ⟨Nat.zero_le _,rfl⟩ ?_;rintro j ⟨hj,a1⟩;unfold cK;dsimp only;refine mC ?_;refine aB rfl (fun g4=> ?_) (fun g4=> ?_)
 ·have hlt:j<ty.length:=by simp at g4;omega
  obtain⟨⟨pr,rs⟩,hx⟩:∃x,ty[j]? =some x:=⟨_,List.getElem?_eq_getElem hlt⟩
  obtain⟨hp1,hp2⟩:=z2 _ (List.mem_of_getElem? hx);dsimp only at hp1 hp2;refine fS ?_;refine oZ ?_;refine MB ?_;refine oE Tryz.call57 (DT pr hp1 32) rfl bG bK ?_;refine lo (eI (E rfl)) rfl ?_;refine qZ ?_;refine AP ?_;refine MD ?_;refine AQ ?_;refine kV rfl rfl Tryz.call57 (fun _=>(DT rs hp2 1)) rfl bG bK ?_;refine tT ?_;refine qJ ?_;refine aB rfl (fun g6=> ?_) (fun g6=> ?_)
  ·have hE:=bad (by rw[←hrA,iM hx (OI g6)];simp);refine bQ ?_;apply aF;exact aG
   ·exact⟨by rw[hE];rfl,rfl⟩
   ·exact aA
  refine oX ?_;refine⟨j+1,⟨hlt,kG a1 hx (OJ g6)⟩,by show ty.length-(j+1)<ty.length-j;omega, ?_⟩;exact aK
 obtain rfl:j=ty.length:=by simp at g4;omega
 rw[List.take_length]at a1;refine bQ ?_;refine lp (β:=Nat) (fun j=>⟨[(1,.ptr r1 0),(4,.int .i64 j)],[(r1,.box 33 (cK ⟨ty,im,fn,tb,me,gl,ex,el,co,da⟩))]⟩) (fun j=>j≤im.length∧(im.take j).all imP=true) (fun j=>im.length-j) 0 aK ⟨Nat.zero_le _,rfl⟩ ?_;rintro j ⟨hj,a2⟩;unfold cK;dsimp only;refine mC ?_;refine aB rfl (fun g9=> ?_) (fun g9=> ?_)
 ·have hlt:j<im.length:=by simp at g9;omega
  obtain⟨⟨md,nm,tt⟩,hx⟩:∃x,im[j]? =some x:=⟨_,List.getElem?_eq_getElem hlt⟩
  obtain⟨⟨hp1,hp2⟩,hp3,hp4⟩:=h1 _ (List.mem_of_getElem? hx);dsimp only at hp1 hp2 hp3 hp4;refine fS ?_;refine oZ ?_;refine MB ?_;refine oE Tryz.call58 (KI md (by omega) hp2) rfl bG bK ?_;refine lo (eI (E rfl)) rfl ?_;refine qZ ?_;refine AP ?_;refine MD ?_;refine AQ ?_;refine kV rfl rfl Tryz.call58 (fun _=>(KI nm (by omega) hp4)) rfl bG bK ?_;refine tT ?_;refine qG ?_;refine qZ ?_;refine AP ?_;refine MD ?_;refine AQ ?_;refine kV rfl rfl Tryz.call59 (fun _=>(DS tt)) rfl bG bK ?_;refine tT ?_;refine qJ ?_;refine aB rfl (fun g11=> ?_) (fun g11=> ?_)
  ·have hE:=bad (by rw[←hrA,iM hx (show imP ⟨md,nm,tt⟩=false by unfold imP;dsimp only;cases h7:sW md<;>cases h8:sW nm<;>cases h9:iK tt<;>simp_all)];simp);refine bQ ?_;apply aF;exact aG
   ·exact⟨by rw[hE];rfl,rfl⟩
   ·exact aA
  refine oX ?_;refine⟨j+1,⟨hlt,kG a2 hx (show imP ⟨md,nm,tt⟩=true by unfold imP;dsimp only;cases h7:sW md<;>cases h8:sW nm<;>cases h9:iK tt<;>simp_all)⟩,by show im.length-(j+1)<im.length-j;omega, ?_⟩;exact aK
 obtain rfl:j=im.length:=by simp at g9;omega
 rw[List.take_length]at a2;refine bQ ?_;refine lp (β:=Nat) (fun j=>⟨[(1,.ptr r1 0),(5,.int .i64 j)],[(r1,.box 33 (cK ⟨ty,im,fn,tb,me,gl,ex,el,co,da⟩))]⟩) (fun j=>j≤gl.length∧(gl.take j).all glP=true) (fun j=>gl.length-j) 0 aK ⟨Nat.zero_le _,rfl⟩ ?_;rintro j ⟨hj,a3⟩;unfold cK;dsimp only;refine mC ?_;refine aB rfl (fun g14=> ?_) (fun g14=> ?_)
 ·have hlt:j<gl.length:=by simp at g14;omega
  obtain⟨⟨mu,kk,nn⟩,hx⟩:∃x,gl[j]? =some x:=⟨_,List.getElem?_eq_getElem hlt⟩
  refine fS ?_;refine oZ ?_;refine aEj ?_;refine oE Tryz.call60 (aFJ kk nn) rfl bG bK ?_;refine tU ?_;refine aB rfl (fun g16=> ?_) (fun g16=> ?_)
  ·have hE:=bad (by rw[←hrA,iM hx (show glP ⟨mu,kk,nn⟩=false by unfold glP;simpa using g16)];simp);refine bQ ?_;apply aF;exact aG
   ·exact⟨by rw[hE];rfl,rfl⟩
   ·exact aA
  refine oX ?_;refine⟨j+1,⟨hlt,kG a3 hx (show glP ⟨mu,kk,nn⟩=true by unfold glP;simpa using g16)⟩,by show gl.length-(j+1)<gl.length-j;omega, ?_⟩;exact aK
 obtain rfl:j=gl.length:=by simp at g14;omega
 rw[List.take_length]at a3;refine bQ ?_;refine lp (β:=Nat) (fun j=>⟨[(1,.ptr r1 0),(6,.int .i64 j)],[(r1,.box 33 (cK ⟨ty,im,fn,tb,me,gl,ex,el,co,da⟩))]⟩) (fun j=>j≤ex.length∧(ex.take j).all exP=true) (fun j=>ex.length-j) 0 aK ⟨Nat.zero_le _,rfl⟩ ?_;rintro j ⟨hj,a4⟩;unfold cK;dsimp only;refine mC ?_;refine aB rfl (fun g19=> ?_) (fun g19=> ?_)
 ·have hlt:j<ex.length:=by simp at g19;omega
  obtain⟨⟨nm,ff⟩,hx⟩:∃x,ex[j]? =some x:=⟨_,List.getElem?_eq_getElem hlt⟩
  obtain⟨hp3,hp4⟩:=h2 _ (List.mem_of_getElem? hx);dsimp only at hp3 hp4;refine fS ?_;refine oZ ?_;refine MB ?_;refine oE Tryz.call58 (KI nm (by omega) hp4) rfl bG bK ?_;refine lo (eI (E rfl)) rfl ?_;refine qZ ?_;refine AP ?_;refine MD ?_;refine AQ ?_;refine kV rfl rfl Tryz.call59 (fun _=>(DS ff)) rfl bG bK ?_;refine tT ?_;refine qJ ?_;refine aB rfl (fun g21=> ?_) (fun g21=> ?_)
  ·have hE:=bad (by rw[←hrA,iM hx (OI g21)];simp);refine bQ ?_;apply aF;exact aG
   ·exact⟨by rw[hE];rfl,rfl⟩
   ·exact aA
  refine oX ?_;refine⟨j+1,⟨hlt,kG a4 hx (OJ g21)⟩,by show ex.length-(j+1)<ex.length-j;omega, ?_⟩;exact aK
 obtain rfl:j=ex.length:=by simp at g19;omega
 rw[List.take_length]at a4;refine fS ?_;refine oE Tryz.call61 (DU fn z4 16) rfl bG bK ?_;refine lo (eI (E rfl)) rfl ?_;refine IU ?_;refine EW ?_;refine kV rfl rfl Tryz.call62 (fun _=>(HT tb 16 1000)) rfl bG bK ?_;refine tT ?_;refine qG ?_;refine IU ?_;refine EW ?_;refine kV rfl rfl Tryz.call62 (fun _=>(HT me 16 65536)) rfl bG bK ?_;refine tT ?_;refine qG ?_;refine xP ?_;refine kV rfl rfl Tryz.call63 (fun _=>hpt) rfl bG bK ?_;refine tT ?_;refine qJ ?_;refine aB rfl (fun g23=> ?_) (fun g23=> ?_)
 ·have hE:=bad (by rw[←hrA];cases h7:cP fn 16 iK<;>cases h8:lC tb 16 1000<;>cases h9:lC me 16 65536<;>cases h10:kX ⟨ty,im,fn,tb,me,gl,ex,el,co,da⟩<;>simp_all);refine bQ ?_;apply aF;exact aG
  ·exact⟨by rw[hE];rfl,rfl⟩
  ·exact aA
 have hq:cP fn 16 iK=true∧lC tb 16 1000=true∧lC me 16 65536=true∧kX ⟨ty,im,fn,tb,me,gl,ex,el,co,da⟩=true:=by cases h7:cP fn 16 iK<;>cases h8:lC tb 16 1000<;>cases h9:lC me 16 65536<;>cases h10:kX ⟨ty,im,fn,tb,me,gl,ex,el,co,da⟩<;>simp_all
 obtain⟨q1,q2,q3,q4⟩:=hq;have hA:pT ⟨ty,im,fn,tb,me,gl,ex,el,co,da⟩=true:=by rw[←hrA,hl1,a1,a2,a3,a4,q1,q2,q3,q4];rfl
 refine pY ?_;refine qQ Tryz.call64 (hby hA) rfl bS kI ?_;rintro _ σ' ⟨q176,rfl,rfl⟩ h176
 replace h176:=cO h176;repeat rcases h176 with⟨_,h176⟩
 apply aT;(exact bF);refine lU ?_;refine lo (jX (E rfl) (E rfl)) rfl ?_;refine dG ?_;have hE:pS ⟨ty,im,fn,tb,me,gl,ex,el,co,da⟩=decide (((fH ⟨ty,im,fn,tb,me,gl,ex,el,co,da⟩).length:Int)≤8000):=by rw[hM,hA,Bool.true_and];exact decide_eq_decide.2 (by omega)
 apply aF;exact aG
 ·exact⟨by rw[hE];rfl,rfl⟩
 ·exact aA
end Go.Proofs.YtjpdadobblffmaaGreat
namespace Go.Proofs.YtjpdadobblffmaaGreat
open Go.RowKit Go.ChangeShapes Go.WideShapes Go.ChangeAt Go.Deep
theorem aAl{M:Mp}{F:Nat→Prop}{w:World}{a b:AV}{x y u:Value}(ha:∀u,VR M F w a u→u=x)(hb:∀u,VR M F w b u→u=y)(h:VR M F w (.agg [a,b]) u):u=.agg #[x,y]:=by
 cases h with
 |@agg _ vs hl h=>
  obtain⟨l⟩:=vs
  match l,hl with
  |[p,q],_=>rw[ha p (h 0 _ p rfl rfl),hb q (h 1 _ q rfl rfl)]
theorem zT{M:Mp}{F:Nat→Prop}{w:World}{a b c:AV}{x y z u:Value}(ha:∀u,VR M F w a u→u=x)(hb:∀u,VR M F w b u→u=y)(hc:∀u,VR M F w c u→u=z)(h:VR M F w (.agg [a,b,c]) u):u=.agg #[x,y,z]:=by
 cases h with
 |@agg _ vs hl h=>
  obtain⟨l⟩:=vs
  match l,hl with
  |[p,q,r],_=>rw[ha p (h 0 _ p rfl rfl),hb q (h 1 _ q rfl rfl),hc r (h 2 _ r rfl rfl)]
theorem nW{M:Mp}{F:Nat→Prop}{w:World}{k:IntKind}{n:Int}:∀u,VR M F w (.int k n) u→u=.int k n:=fun u h=>by cases h;rfl
theorem BS{M:Mp}{F:Nat→Prop}{w:World}{b:Bool}:∀u,VR M F w (.bool b) u→u=.bool b:=fun u h=>by cases h;rfl
theorem zU{M:Mp}{F:Nat→Prop}{w:World}{b:ByteArray}:∀u,VR M F w (.str b) u→u=.string b:=fun u h=>by cases h;rfl
theorem aHR(w:World)(a d:Bool)(b c e f:Int):(Op.equal 26 (.agg #[.bool a,.int .i64 b,.int .i64 c]) (.agg #[.bool d,.int .i64 e,.int .i64 f])).run Tryz.prog w=.ok (a==d&&b==e&&c==f) w:=by
 have hs:Tryz.prog.stoodInHeld 26=false:=by kernel_rfl
 have hf:Tryz.prog.underlying 26=some (.struct (Tryz.prog.fieldsOf 26)):=by unfold Program.fieldsOf;rw[Tryz.underlying26]
 have p1:Tryz.prog.plainKey 4=true:=by kernel_rfl
 have p2:Tryz.prog.plainKey 3=true:=by kernel_rfl
 have h:(Op.equalIn (9999+1) 26 (.agg #[.bool a,.int .i64 b,.int .i64 c]) (.agg #[.bool d,.int .i64 e,.int .i64 f])).run Tryz.prog w=.ok (a==d&&b==e&&c==f) w:=by
  rw[run_equalIn_struct w 9999 _ _ _ hf hs];unfold Program.fieldsOf;rw[Tryz.underlying26];simp only[Op.eqFields];cases h1:(a==d)<;>cases h2:(b==e)<;>cases h3:(c==f)<;>simp[run_part_plain w p1 (xs:=#[.bool a,.int .i64 b,.int .i64 c]) (off:=0) rfl,run_part_plain w p1 (xs:=#[.bool d,.int .i64 e,.int .i64 f]) (off:=0) rfl,run_part_plain w p2 (xs:=#[.bool a,.int .i64 b,.int .i64 c]) (off:=1) rfl,run_part_plain w p2 (xs:=#[.bool d,.int .i64 e,.int .i64 f]) (off:=1) rfl,run_part_plain w p2 (xs:=#[.bool a,.int .i64 b,.int .i64 c]) (off:=2) rfl,run_part_plain w p2 (xs:=#[.bool d,.int .i64 e,.int .i64 f]) (off:=2) rfl,run_equalIn_int w _ _ _ _ _ _ Tryz.underlying3,run_equalIn_bool' w _ _ _ _ Tryz.underlying4,h1,h2,h3]
 exact h
theorem aHS(w:World)(a b d e:ByteArray)(c f:Int):(Op.equal 64 (.agg #[.string a,.string b,.int .i64 c]) (.agg #[.string d,.string e,.int .i64 f])).run Tryz.prog w=.ok (a.toList==d.toList&&b.toList==e.toList&&c==f) w:=by
 have hs:Tryz.prog.stoodInHeld 64=false:=by kernel_rfl
 have hf:Tryz.prog.underlying 64=some (.struct (Tryz.prog.fieldsOf 64)):=by unfold Program.fieldsOf;rw[Tryz.underlying64]
 have p1:Tryz.prog.plainKey 9=true:=by kernel_rfl
 have p2:Tryz.prog.plainKey 3=true:=by kernel_rfl
 have h:(Op.equalIn (9999+1) 64 (.agg #[.string a,.string b,.int .i64 c]) (.agg #[.string d,.string e,.int .i64 f])).run Tryz.prog w=.ok (a.toList==d.toList&&b.toList==e.toList&&c==f) w:=by
  rw[run_equalIn_struct w 9999 _ _ _ hf hs];unfold Program.fieldsOf;rw[Tryz.underlying64];simp only[Op.eqFields];cases h1:(a.toList==d.toList)<;>cases h2:(b.toList==e.toList)<;>cases h3:(c==f)<;>simp[run_part_plain w p1 (xs:=#[.string a,.string b,.int .i64 c]) (off:=0) rfl,run_part_plain w p1 (xs:=#[.string d,.string e,.int .i64 f]) (off:=0) rfl,run_part_plain w p1 (xs:=#[.string a,.string b,.int .i64 c]) (off:=1) rfl,run_part_plain w p1 (xs:=#[.string d,.string e,.int .i64 f]) (off:=1) rfl,run_part_plain w p2 (xs:=#[.string a,.string b,.int .i64 c]) (off:=2) rfl,run_part_plain w p2 (xs:=#[.string d,.string e,.int .i64 f]) (off:=2) rfl,run_equalIn_int w _ _ _ _ _ _ Tryz.underlying3,run_equalIn_string w _ _ _ _ Tryz.underlying9,h1,h2,h3]
 exact h
theorem aHT(w:World)(a d:ByteArray)(c f:Int):(Op.equal 66 (.agg #[.string a,.int .i64 c]) (.agg #[.string d,.int .i64 f])).run Tryz.prog w=.ok (a.toList==d.toList&&c==f) w:=by
 have hs:Tryz.prog.stoodInHeld 66=false:=by kernel_rfl
 have hf:Tryz.prog.underlying 66=some (.struct (Tryz.prog.fieldsOf 66)):=by unfold Program.fieldsOf;rw[Tryz.underlying66]
 have p1:Tryz.prog.plainKey 9=true:=by kernel_rfl
 have p2:Tryz.prog.plainKey 3=true:=by kernel_rfl
 have h:(Op.equalIn (9999+1) 66 (.agg #[.string a,.int .i64 c]) (.agg #[.string d,.int .i64 f])).run Tryz.prog w=.ok (a.toList==d.toList&&c==f) w:=by
  rw[run_equalIn_struct w 9999 _ _ _ hf hs];unfold Program.fieldsOf;rw[Tryz.underlying66];simp only[Op.eqFields];cases h1:(a.toList==d.toList)<;>cases h3:(c==f)<;>simp[run_part_plain w p1 (xs:=#[.string a,.int .i64 c]) (off:=0) rfl,run_part_plain w p1 (xs:=#[.string d,.int .i64 f]) (off:=0) rfl,run_part_plain w p2 (xs:=#[.string a,.int .i64 c]) (off:=1) rfl,run_part_plain w p2 (xs:=#[.string d,.int .i64 f]) (off:=1) rfl,run_equalIn_int w _ _ _ _ _ _ Tryz.underlying3,run_equalIn_string w _ _ _ _ Tryz.underlying9,h1,h3]
 exact h
theorem aCM(n:Nat)(w:World)(a b c d:Int):(Op.equalIn (n+2) 71 (.agg #[.int .i64 a,.int .i64 b]) (.agg #[.int .i64 c,.int .i64 d])).run Tryz.prog w=.ok (a==c&&b==d) w:=by
 have hs:Tryz.prog.stoodInHeld 71=false:=by kernel_rfl
 have hf:Tryz.prog.underlying 71=some (.struct (Tryz.prog.fieldsOf 71)):=by unfold Program.fieldsOf;rw[Tryz.underlying71]
 have p1:Tryz.prog.plainKey 3=true:=by kernel_rfl
 have p2:Tryz.prog.plainKey 2=true:=by kernel_rfl
 rw[run_equalIn_struct w (n+1) _ _ _ hf hs];unfold Program.fieldsOf;rw[Tryz.underlying71];simp only[Op.eqFields];cases h1:(a==c)<;>cases h2:(b==d)<;>simp[run_part_plain w p1 (xs:=#[.int .i64 a,.int .i64 b]) (off:=0) rfl,run_part_plain w p1 (xs:=#[.int .i64 c,.int .i64 d]) (off:=0) rfl,run_part_plain w p2 (xs:=#[.int .i64 a,.int .i64 b]) (off:=1) rfl,run_part_plain w p2 (xs:=#[.int .i64 c,.int .i64 d]) (off:=1) rfl,run_equalIn_int w _ _ _ _ _ _ Tryz.underlying3,run_equalIn_int w _ _ _ _ _ _ Tryz.underlying2,h1,h2]
theorem aHU(w:World)(a d:Bool)(b c e f:Int):(Op.equal 73 (.agg #[.bool a,.int .i64 b,.int .i64 c]) (.agg #[.bool d,.int .i64 e,.int .i64 f])).run Tryz.prog w=.ok (a==d&&(b==e&&c==f)) w:=by
 have hs:Tryz.prog.stoodInHeld 73=false:=by kernel_rfl
 have hf:Tryz.prog.underlying 73=some (.struct (Tryz.prog.fieldsOf 73)):=by unfold Program.fieldsOf;rw[Tryz.underlying73]
 have p1:Tryz.prog.plainKey 4=true:=by kernel_rfl
 have q1:∀a b c,(part 71 #[.bool a,.int .i64 b,.int .i64 c] 1).run Tryz.prog w=.ok (.agg #[.int .i64 b,.int .i64 c]) w:=fun a b c=>by
  obtain⟨i,hi,hz,hs,_⟩:=Tz.parts Tryz.prog 71;simp[part,isAgg,run_underlying Tryz.underlying71,sizeOf,typeInfo,hi,hs]
 have h:(Op.equalIn (9999+1) 73 (.agg #[.bool a,.int .i64 b,.int .i64 c]) (.agg #[.bool d,.int .i64 e,.int .i64 f])).run Tryz.prog w=.ok (a==d&&(b==e&&c==f)) w:=by
  rw[run_equalIn_struct w 9999 _ _ _ hf hs];unfold Program.fieldsOf;rw[Tryz.underlying73];simp only[Op.eqFields];cases h1:(a==d)<;>cases h2:(b==e&&c==f)<;>simp[run_part_plain w p1 (xs:=#[.bool a,.int .i64 b,.int .i64 c]) (off:=0) rfl,run_part_plain w p1 (xs:=#[.bool d,.int .i64 e,.int .i64 f]) (off:=0) rfl,q1,run_equalIn_bool' w _ _ _ _ Tryz.underlying4,aCM 9997,h1,h2]
 exact h
instance : DecidableEq FT := fun a b => decidable_of_iff (a.pr = b.pr ∧ a.rs = b.rs) ⟨fun h => by cases a; cases b; simp_all, fun h => by subst h; exact ⟨rfl, rfl⟩⟩
instance : DecidableEq Im := fun a b => decidable_of_iff (a.mod = b.mod ∧ a.nm = b.nm ∧ a.ty = b.ty) ⟨fun h => by cases a; cases b; simp_all, fun h => by subst h; exact ⟨rfl, rfl, rfl⟩⟩
instance : DecidableEq Gl := fun a b => decidable_of_iff (a.mu = b.mu ∧ a.kd = b.kd ∧ a.n = b.n) ⟨fun h => by cases a; cases b; simp_all, fun h => by subst h; exact ⟨rfl, rfl, rfl⟩⟩
instance : DecidableEq Ex := fun a b => decidable_of_iff (a.nm = b.nm ∧ a.fn = b.fn) ⟨fun h => by cases a; cases b; simp_all, fun h => by subst h; exact ⟨rfl, rfl⟩⟩
instance : DecidableEq El := fun a b => decidable_of_iff (a.off = b.off ∧ a.fs = b.fs) ⟨fun h => by cases a; cases b; simp_all, fun h => by subst h; exact ⟨rfl, rfl⟩⟩
instance : DecidableEq Co := fun a b => decidable_of_iff (a.ls = b.ls ∧ a.bd = b.bd) ⟨fun h => by cases a; cases b; simp_all, fun h => by subst h; exact ⟨rfl, rfl⟩⟩
instance : DecidableEq Da := fun a b => decidable_of_iff (a.off = b.off ∧ a.bs = b.bs) ⟨fun h => by cases a; cases b; simp_all, fun h => by subst h; exact ⟨rfl, rfl⟩⟩
instance : DecidableEq Li := fun a b => decidable_of_iff (a.has = b.has ∧ a.mn = b.mn ∧ a.mx = b.mx) ⟨fun h => by cases a; cases b; simp_all, fun h => by subst h; exact ⟨rfl, rfl, rfl⟩⟩
section
variable {s : ASt} {c : Bool} {x y : Operand} {ty t t' : TypeId}
theorem OK{xs ys:Array Value}{cx cy:List AV}{b:Bool}(hg:Tryz.prog.eqGuardType Tryz.prog.depth t=false)(hx:∀(M:Mp) (F:Nat→Prop) (w:World) (u:Value),VR M F w (.agg cx) u→u=.agg xs)(hy:∀(M:Mp) (F:Nat→Prop) (w:World) (u:Value),VR M F w (.agg cy) u→u=.agg ys)
  (he:∀w:World,(Op.equal t (.agg xs) (.agg ys)).run Tryz.prog w=.ok b w) (h:Ev s c x (.agg cx)) (h':Ev s c y (.agg cy)):Lop Tryz.prog (.binOp .eql t x y t') ty s c (.bool b) []:=
 Lop.pure_ fun M F N n ac w hr hc=>⟨_,.bool _,fun w' o ho _=>by
  have e1:=hx _ _ _ _ (h.vr hr hc);have e2:=hy _ _ _ _ (h'.vr hr hc);refine uZ ho ?_ ?_
  ·rw[e1,e2];exact run_eqGuard_agg w' .eql _ x y _ _ hg
  ·rw[e1,e2];simp only[binOp,Sem.run_bind,he,Result.andThen_ok,Sem.run_pure]⟩
theorem uW{xs ys:Array Value}{cx cy:List AV}{b:Bool}(hg:Tryz.prog.eqGuardType Tryz.prog.depth t=false)(hx:∀(M:Mp) (F:Nat→Prop) (w:World) (u:Value),VR M F w (.agg cx) u→u=.agg xs)(hy:∀(M:Mp) (F:Nat→Prop) (w:World) (u:Value),VR M F w (.agg cy) u→u=.agg ys)
  (he:∀w:World,(Op.equal t (.agg xs) (.agg ys)).run Tryz.prog w=.ok b w) (h:Ev s c x (.agg cx)) (h':Ev s c y (.agg cy)):Lop Tryz.prog (.binOp .neq t x y t') ty s c (.bool (!b)) []:=
 Lop.pure_ fun M F N n ac w hr hc=>⟨_,.bool _,fun w' o ho _=>by
  have e1:=hx _ _ _ _ (h.vr hr hc);have e2:=hy _ _ _ _ (h'.vr hr hc);refine uZ ho ?_ ?_
  ·rw[e1,e2];exact run_eqGuard_agg w' .neq _ x y _ _ hg
  ·rw[e1,e2];simp only[binOp,Sem.run_bind,he,Result.andThen_ok,Sem.run_pure]⟩
theorem DW{a b:Li}(h:Ev s c x (.agg (iI a)))(h':Ev s c y (.agg (iI b))):Lop Tryz.prog (.binOp .eql 26 x y t') ty s c (.bool (decide (a=b))) []:=by
 have he:decide (a=b)=(a.has==b.has&&a.mn==b.mn&&a.mx==b.mx):=by rw[Bool.eq_iff_iff];cases a;cases b;simp[and_assoc]
 rw[he];exact OK (by kernel_rfl) (fun _ _ _ _=>zT BS nW nW) (fun _ _ _ _=>zT BS nW nW) (fun w=>aHR w _ _ _ _ _ _) h h'
theorem QK{a b:Im}(ha:kU a.mod∧kU a.nm)(hb:kU b.mod∧kU b.nm)(h:Ev s c x (.agg (fT a)))(h':Ev s c y (.agg (fT b))):Lop Tryz.prog (.binOp .neq 64 x y t') ty s c (.bool (!decide (a=b))) []:=by
 have he:decide (a=b)=((dV a.mod).toList==(dV b.mod).toList&&(dV a.nm).toList==(dV b.nm).toList&&a.ty==b.ty):=by rw[oU ha.1.2 hb.1.2,oU ha.2.2 hb.2.2,Bool.eq_iff_iff];cases a;cases b;simp[and_assoc]
 rw[he];exact uW (by kernel_rfl) (fun _ _ _ _=>zT zU zU nW) (fun _ _ _ _=>zT zU zU nW) (fun w=>aHS w _ _ _ _ _ _) h h'
theorem QL{a b:Ex}(ha:kU a.nm)(hb:kU b.nm)(h:Ev s c x (.agg (fQ a)))(h':Ev s c y (.agg (fQ b))):Lop Tryz.prog (.binOp .neq 66 x y t') ty s c (.bool (!decide (a=b))) []:=by
 have he:decide (a=b)=((dV a.nm).toList==(dV b.nm).toList&&a.fn==b.fn):=by rw[oU ha.2 hb.2,Bool.eq_iff_iff];cases a;cases b;simp
 rw[he];exact uW (by kernel_rfl) (fun _ _ _ _=>aAl zU nW) (fun _ _ _ _=>aAl zU nW) (fun w=>aHT w _ _ _ _) h h'
theorem QM{a b:Gl}(h:Ev s c x (.agg (fP a)))(h':Ev s c y (.agg (fP b))):Lop Tryz.prog (.binOp .neq 73 x y t') ty s c (.bool (!decide (a=b))) []:=by
 have he:decide (a=b)=(a.mu==b.mu&&(a.kd==b.kd&&a.n==b.n)):=by rw[Bool.eq_iff_iff];cases a;cases b;simp
 rw[he];exact uW (by kernel_rfl) (fun _ _ _ _=>zT BS nW nW) (fun _ _ _ _=>zT BS nW nW) (fun w=>aHU w _ _ _ _ _ _) h h'
end
theorem aFL(xs ys:List Im)(hox:∀x∈xs,(fun x:Im=>kU x.mod∧kU x.nm) x)(hoy:∀y∈ys,(fun x:Im=>kU x.mod∧kU x.nm) y):SCall Tryz.prog 126 [.ro 3 (xs.map fT) .any,.ro 3 (ys.map fT) .any] [] (fun r σ=>r=.bool (decide (xs=ys))∧σ=[]):=by
 refine cC 26 [0,1,4,5,10,12,13,14,24] Tryz.func126 ?_;refine iB (i:=0) rfl fun hm=> ?_
 rw[List.length_map]at hm;unfold maxLen at hm;refine fV ?_;refine oA ?_;refine lU ?_;refine lH ?_;refine aB rfl (fun g1=> ?_) (fun g1=> ?_)
 ·have hE:decide (xs=ys)=false:=decide_eq_false (by rintro rfl;simp at g1);refine bQ ?_;apply aF;exact aG
  ·exact⟨by rw[hE];rfl,rfl⟩
  ·exact aA
 have hl:xs.length=ys.length:=by simp at g1;omega
 refine dX ?_;refine nI ?_;refine lp (β:=Nat) (fun k=>⟨[(0,.ro 3 (xs.map fT) .any),(1,.ro 3 (ys.map fT) .any),(12,.int .i64 xs.length),(13,.int .i64 k)],[]⟩) (fun k=>k≤xs.length∧xs.take k=ys.take k) (fun k=>xs.length-k) 0 aK ⟨Nat.zero_le _,rfl⟩ ?_;rintro k ⟨hk,ht⟩;refine jQ ?_;refine aB rfl (fun g4=> ?_) (fun g4=> ?_)
 ·have hlt:k<xs.length:=by simp at g4;omega
  obtain⟨x,hx⟩:∃x,xs[k]? =some x:=⟨_,List.getElem?_eq_getElem hlt⟩
  obtain⟨y,hy⟩:∃y,ys[k]? =some y:=⟨_,List.getElem?_eq_getElem (by omega)⟩
  have hox1:=hox x (List.mem_of_getElem? hx);have hoy1:=hoy y (List.mem_of_getElem? hy);refine fN ?_;refine gI [(0,true),(1,true),(2,true),(3,true),(4,true),(5,true),(6,true),(7,true),(8,true)] ?_;refine pA ?_;refine zH ?_;refine pA ?_;refine zH ?_;refine gD rfl (QK hox1 hoy1 (E rfl) (E rfl)) rfl ?_;refine kK ?_;refine aB rfl (fun g6=> ?_) (fun g6=> ?_)
  ·have hne:x≠y:=by intro e;subst e;simp at g6
   have hE:decide (xs=ys)=false:=decide_eq_false (by rintro rfl;rw[hx]at hy;exact hne (Option.some.inj hy));refine bQ ?_;apply aF;exact aG
   ·exact⟨by rw[hE];rfl,rfl⟩
   ·exact aA
  refine lV ?_;have hxy:x=y:=by first|simpa using g6|(simp at g6;omega)
  refine⟨k+1,⟨hlt,by rw[List.take_add_one,List.take_add_one,ht,hx,hy,hxy]⟩,by show xs.length-(k+1)<xs.length-k;omega, ?_⟩;exact aK
 have hE:decide (xs=ys)=true:=decide_eq_true (by simp at g4;rwa [List.take_of_length_le (by omega),List.take_of_length_le (by omega)]at ht);refine bQ ?_;apply aF;exact aG
 ·exact⟨by rw[hE];rfl,rfl⟩
 ·exact aA
theorem aFM(xs ys:List Ex)(hox:∀x∈xs,(fun x:Ex=>kU x.nm) x)(hoy:∀y∈ys,(fun x:Ex=>kU x.nm) y):SCall Tryz.prog 128 [.ro 2 (xs.map fQ) .any,.ro 2 (ys.map fQ) .any] [] (fun r σ=>r=.bool (decide (xs=ys))∧σ=[]):=by
 refine cC 26 [0,1,4,5,10,12,13,14,24] Tryz.func128 ?_;refine iB (i:=0) rfl fun hm=> ?_
 rw[List.length_map]at hm;unfold maxLen at hm;refine fV ?_;refine oA ?_;refine lU ?_;refine lH ?_;refine aB rfl (fun g1=> ?_) (fun g1=> ?_)
 ·have hE:decide (xs=ys)=false:=decide_eq_false (by rintro rfl;simp at g1);refine bQ ?_;apply aF;exact aG
  ·exact⟨by rw[hE];rfl,rfl⟩
  ·exact aA
 have hl:xs.length=ys.length:=by simp at g1;omega
 refine dX ?_;refine nI ?_;refine lp (β:=Nat) (fun k=>⟨[(0,.ro 2 (xs.map fQ) .any),(1,.ro 2 (ys.map fQ) .any),(12,.int .i64 xs.length),(13,.int .i64 k)],[]⟩) (fun k=>k≤xs.length∧xs.take k=ys.take k) (fun k=>xs.length-k) 0 aK ⟨Nat.zero_le _,rfl⟩ ?_;rintro k ⟨hk,ht⟩;refine jQ ?_;refine aB rfl (fun g4=> ?_) (fun g4=> ?_)
 ·have hlt:k<xs.length:=by simp at g4;omega
  obtain⟨x,hx⟩:∃x,xs[k]? =some x:=⟨_,List.getElem?_eq_getElem hlt⟩
  obtain⟨y,hy⟩:∃y,ys[k]? =some y:=⟨_,List.getElem?_eq_getElem (by omega)⟩
  have hox1:=hox x (List.mem_of_getElem? hx);have hoy1:=hoy y (List.mem_of_getElem? hy);refine fN ?_;refine gI [(0,true),(1,true),(2,true),(3,true),(4,true),(5,true),(6,true),(7,true),(8,true)] ?_;refine pA ?_;refine zH ?_;refine pA ?_;refine zH ?_;refine gD rfl (QL hox1 hoy1 (E rfl) (E rfl)) rfl ?_;refine kK ?_;refine aB rfl (fun g6=> ?_) (fun g6=> ?_)
  ·have hne:x≠y:=by intro e;subst e;simp at g6
   have hE:decide (xs=ys)=false:=decide_eq_false (by rintro rfl;rw[hx]at hy;exact hne (Option.some.inj hy));refine bQ ?_;apply aF;exact aG
   ·exact⟨by rw[hE];rfl,rfl⟩
   ·exact aA
  refine lV ?_;have hxy:x=y:=by first|simpa using g6|(simp at g6;omega)
  refine⟨k+1,⟨hlt,by rw[List.take_add_one,List.take_add_one,ht,hx,hy,hxy]⟩,by show xs.length-(k+1)<xs.length-k;omega, ?_⟩;exact aK
 have hE:decide (xs=ys)=true:=decide_eq_true (by simp at g4;rwa [List.take_of_length_le (by omega),List.take_of_length_le (by omega)]at ht);refine bQ ?_;apply aF;exact aG
 ·exact⟨by rw[hE];rfl,rfl⟩
 ·exact aA
theorem aFN(xs ys:List Gl)(hox:∀x∈xs,(fun _:Gl=>True) x)(hoy:∀y∈ys,(fun _:Gl=>True) y):SCall Tryz.prog 127 [.ro 3 (xs.map fP) .any,.ro 3 (ys.map fP) .any] [] (fun r σ=>r=.bool (decide (xs=ys))∧σ=[]):=by
 refine cC 26 [0,1,4,5,10,12,13,14,24] Tryz.func127 ?_;refine iB (i:=0) rfl fun hm=> ?_
 rw[List.length_map]at hm;unfold maxLen at hm;refine fV ?_;refine oA ?_;refine lU ?_;refine lH ?_;refine aB rfl (fun g1=> ?_) (fun g1=> ?_)
 ·have hE:decide (xs=ys)=false:=decide_eq_false (by rintro rfl;simp at g1);refine bQ ?_;apply aF;exact aG
  ·exact⟨by rw[hE];rfl,rfl⟩
  ·exact aA
 have hl:xs.length=ys.length:=by simp at g1;omega
 refine dX ?_;refine nI ?_;refine lp (β:=Nat) (fun k=>⟨[(0,.ro 3 (xs.map fP) .any),(1,.ro 3 (ys.map fP) .any),(12,.int .i64 xs.length),(13,.int .i64 k)],[]⟩) (fun k=>k≤xs.length∧xs.take k=ys.take k) (fun k=>xs.length-k) 0 aK ⟨Nat.zero_le _,rfl⟩ ?_;rintro k ⟨hk,ht⟩;refine jQ ?_;refine aB rfl (fun g4=> ?_) (fun g4=> ?_)
 ·have hlt:k<xs.length:=by simp at g4;omega
  obtain⟨x,hx⟩:∃x,xs[k]? =some x:=⟨_,List.getElem?_eq_getElem hlt⟩
  obtain⟨y,hy⟩:∃y,ys[k]? =some y:=⟨_,List.getElem?_eq_getElem (by omega)⟩
  have hox1:=hox x (List.mem_of_getElem? hx);have hoy1:=hoy y (List.mem_of_getElem? hy);refine fN ?_;refine gI [(0,true),(1,true),(2,true),(3,true),(4,true),(5,true),(6,true),(7,true),(8,true)] ?_;refine pA ?_;refine zH ?_;refine pA ?_;refine zH ?_;refine gD rfl (QM (E rfl) (E rfl)) rfl ?_;refine kK ?_;refine aB rfl (fun g6=> ?_) (fun g6=> ?_)
  ·have hne:x≠y:=by intro e;subst e;simp at g6
   have hE:decide (xs=ys)=false:=decide_eq_false (by rintro rfl;rw[hx]at hy;exact hne (Option.some.inj hy));refine bQ ?_;apply aF;exact aG
   ·exact⟨by rw[hE];rfl,rfl⟩
   ·exact aA
  refine lV ?_;have hxy:x=y:=by first|simpa using g6|(simp at g6;omega)
  refine⟨k+1,⟨hlt,by rw[List.take_add_one,List.take_add_one,ht,hx,hy,hxy]⟩,by show xs.length-(k+1)<xs.length-k;omega, ?_⟩;exact aK
 have hE:decide (xs=ys)=true:=decide_eq_true (by simp at g4;rwa [List.take_of_length_le (by omega),List.take_of_length_le (by omega)]at ht);refine bQ ?_;apply aF;exact aG
 ·exact⟨by rw[hE];rfl,rfl⟩
 ·exact aA
theorem aFO(xs ys:List Nat)(hox:∀x∈xs,(fun _:Nat=>True) x)(hoy:∀y∈ys,(fun _:Nat=>True) y):SCall Tryz.prog 125 [.ro 1 (xs.map aH) .any,.ro 1 (ys.map aH) .any] [] (fun r σ=>r=.bool (decide (xs=ys))∧σ=[]):=by
 refine cC 26 [0,1,4,5,10,12,13,14,24] Tryz.func125 ?_;refine iB (i:=0) rfl fun hm=> ?_
 rw[List.length_map]at hm;unfold maxLen at hm;refine fV ?_;refine oA ?_;refine lU ?_;refine lH ?_;refine aB rfl (fun g1=> ?_) (fun g1=> ?_)
 ·have hE:decide (xs=ys)=false:=decide_eq_false (by rintro rfl;simp at g1);refine bQ ?_;apply aF;exact aG
  ·exact⟨by rw[hE];rfl,rfl⟩
  ·exact aA
 have hl:xs.length=ys.length:=by simp at g1;omega
 refine dX ?_;refine nI ?_;refine lp (β:=Nat) (fun k=>⟨[(0,.ro 1 (xs.map aH) .any),(1,.ro 1 (ys.map aH) .any),(12,.int .i64 xs.length),(13,.int .i64 k)],[]⟩) (fun k=>k≤xs.length∧xs.take k=ys.take k) (fun k=>xs.length-k) 0 aK ⟨Nat.zero_le _,rfl⟩ ?_;rintro k ⟨hk,ht⟩;refine jQ ?_;refine aB rfl (fun g4=> ?_) (fun g4=> ?_)
 ·have hlt:k<xs.length:=by simp at g4;omega
  obtain⟨x,hx⟩:∃x,xs[k]? =some x:=⟨_,List.getElem?_eq_getElem hlt⟩
  obtain⟨y,hy⟩:∃y,ys[k]? =some y:=⟨_,List.getElem?_eq_getElem (by omega)⟩
  have hox1:=hox x (List.mem_of_getElem? hx);have hoy1:=hoy y (List.mem_of_getElem? hy);refine fN ?_;refine gI [(0,true),(1,true),(2,true),(3,true),(4,true),(5,true),(6,true),(7,true),(8,true)] ?_;refine pA ?_;refine LD ?_;refine pA ?_;refine LD ?_;refine z58 ?_;refine kK ?_;refine aB rfl (fun g6=> ?_) (fun g6=> ?_)
  ·have hz:True:=True.intro;have hne:x≠y:=by intro e;subst e;simp at g6
   have hE:decide (xs=ys)=false:=decide_eq_false (by rintro rfl;rw[hx]at hy;exact hne (Option.some.inj hy));refine bQ ?_;apply aF;exact aG
   ·exact⟨by rw[hE];rfl,rfl⟩
   ·exact aA
  refine lV ?_;have hxy:x=y:=by first|simpa using g6|(simp at g6;omega)
  refine⟨k+1,⟨hlt,by rw[List.take_add_one,List.take_add_one,ht,hx,hy,hxy]⟩,by show xs.length-(k+1)<xs.length-k;omega, ?_⟩;exact aK
 have hE:decide (xs=ys)=true:=decide_eq_true (by simp at g4;rwa [List.take_of_length_le (by omega),List.take_of_length_le (by omega)]at ht);refine bQ ?_;apply aF;exact aG
 ·exact⟨by rw[hE];rfl,rfl⟩
 ·exact aA
theorem aFP{f:FuncId}{ok:FT→Prop}(hf:(∀args w,(callFunc f args).run Tryz.prog w=.ok (.enter f args) w)∧∀x y,ok x→ok y→SCall Tryz.prog f ([]++ [.agg (eF x),.agg (eF y)]++ []) [] (fun r σ=>r=.bool (decide (x=y))∧σ=[]))(xs ys:List FT)(hox:∀x∈xs,ok x)(hoy:∀y∈ys,ok y):SCall Tryz.prog 114 [.ro 2 (xs.map eF) .any,.ro 2 (ys.map eF) .any,.fn (.func f) [] []] [] (fun r σ=>r=.bool (decide (xs=ys))∧σ=[]):=by
 refine cC 32 [0,1,2,6,7,8,9,14,15,16,17,18,30] Tryz.func114 ?_;refine iB (i:=0) rfl fun hm=> ?_
 rw[List.length_map]at hm;unfold maxLen at hm;refine fV ?_;refine oA ?_;refine lU ?_;refine lH ?_;refine aB rfl (fun g1=> ?_) (fun g1=> ?_)
 ·have hE:decide (xs=ys)=false:=decide_eq_false (by rintro rfl;simp at g1);refine bQ ?_;apply aF;exact aG
  ·exact⟨by rw[hE];rfl,rfl⟩
  ·exact aA
 have hl:xs.length=ys.length:=by simp at g1;omega
 refine dX ?_;refine nI ?_;refine lp (β:=Nat) (fun k=>⟨[(1,.ro 2 (ys.map eF) .any),(2,.fn (.func f) [] []),(15,.ro 2 (xs.map eF) .any),(16,.int .i64 xs.length),(17,.int .i64 k)],[]⟩) (fun k=>k≤xs.length∧xs.take k=ys.take k) (fun k=>xs.length-k) 0 aK ⟨Nat.zero_le _,rfl⟩ ?_;rintro k ⟨hk,ht⟩;refine jQ ?_;refine aB rfl (fun g4=> ?_) (fun g4=> ?_)
 ·have hlt:k<xs.length:=by simp at g4;omega
  obtain⟨x,hx⟩:∃x,xs[k]? =some x:=⟨_,List.getElem?_eq_getElem hlt⟩
  obtain⟨y,hy⟩:∃y,ys[k]? =some y:=⟨_,List.getElem?_eq_getElem (by omega)⟩
  refine dX ?_;refine pQ ?_;apply al;rfl;(exact dM);refine aD fun r8 h8=> ?_;repeat rcases h8 with⟨_,h8⟩
  refine GQ ?_;refine mK ?_;refine pQ ?_;apply al;rfl;(exact dM);refine aD fun r9 h9=> ?_;repeat rcases h9 with⟨_,h9⟩
  refine sR ?_;refine oV ?_;refine oV ?_;refine pR [] rfl hf.1 (hf.2 x y (hox x (List.mem_of_getElem? hx)) (hoy y (List.mem_of_getElem? hy))) rfl aC aA ?_;rintro _ σ' ⟨rfl,rfl⟩ h29;refine CQ ?_;refine aB rfl (fun g7=> ?_) (fun g7=> ?_)
  ·have hne:x≠y:=by simpa using g7
   have hE:decide (xs=ys)=false:=decide_eq_false (by rintro rfl;rw[hx]at hy;exact hne (Option.some.inj hy));refine bQ ?_;apply aF;exact aG
   ·exact⟨by rw[hE];rfl,rfl⟩
   ·exact aA
  refine lV ?_;have hxy:x=y:=by simpa using g7
  refine⟨k+1,⟨hlt,by rw[List.take_add_one,List.take_add_one,ht,hx,hy,hxy]⟩,by show xs.length-(k+1)<xs.length-k;omega, ?_⟩;exact aK
 have hE:decide (xs=ys)=true:=decide_eq_true (by simp at g4;rwa [List.take_of_length_le (by omega),List.take_of_length_le (by omega)]at ht);refine bQ ?_;apply aF;exact aG
 ·exact⟨by rw[hE];rfl,rfl⟩
 ·exact aA
theorem aFQ{f:FuncId}{ok:El→Prop}(hf:(∀args w,(callFunc f args).run Tryz.prog w=.ok (.enter f args) w)∧∀x y,ok x→ok y→SCall Tryz.prog f ([]++ [.agg (fK x),.agg (fK y)]++ []) [] (fun r σ=>r=.bool (decide (x=y))∧σ=[]))(xs ys:List El)(hox:∀x∈xs,ok x)(hoy:∀y∈ys,ok y):SCall Tryz.prog 117 [.ro 2 (xs.map fK) .any,.ro 2 (ys.map fK) .any,.fn (.func f) [] []] [] (fun r σ=>r=.bool (decide (xs=ys))∧σ=[]):=by
 refine cC 32 [0,1,2,6,7,8,9,14,15,16,17,18,30] Tryz.func117 ?_;refine iB (i:=0) rfl fun hm=> ?_
 rw[List.length_map]at hm;unfold maxLen at hm;refine fV ?_;refine oA ?_;refine lU ?_;refine lH ?_;refine aB rfl (fun g1=> ?_) (fun g1=> ?_)
 ·have hE:decide (xs=ys)=false:=decide_eq_false (by rintro rfl;simp at g1);refine bQ ?_;apply aF;exact aG
  ·exact⟨by rw[hE];rfl,rfl⟩
  ·exact aA
 have hl:xs.length=ys.length:=by simp at g1;omega
 refine dX ?_;refine nI ?_;refine lp (β:=Nat) (fun k=>⟨[(1,.ro 2 (ys.map fK) .any),(2,.fn (.func f) [] []),(15,.ro 2 (xs.map fK) .any),(16,.int .i64 xs.length),(17,.int .i64 k)],[]⟩) (fun k=>k≤xs.length∧xs.take k=ys.take k) (fun k=>xs.length-k) 0 aK ⟨Nat.zero_le _,rfl⟩ ?_;rintro k ⟨hk,ht⟩;refine jQ ?_;refine aB rfl (fun g4=> ?_) (fun g4=> ?_)
 ·have hlt:k<xs.length:=by simp at g4;omega
  obtain⟨x,hx⟩:∃x,xs[k]? =some x:=⟨_,List.getElem?_eq_getElem hlt⟩
  obtain⟨y,hy⟩:∃y,ys[k]? =some y:=⟨_,List.getElem?_eq_getElem (by omega)⟩
  refine dX ?_;refine pQ ?_;apply al;rfl;(exact dM);refine aD fun r8 h8=> ?_;repeat rcases h8 with⟨_,h8⟩
  refine GQ ?_;refine mK ?_;refine pQ ?_;apply al;rfl;(exact dM);refine aD fun r9 h9=> ?_;repeat rcases h9 with⟨_,h9⟩
  refine sR ?_;refine oV ?_;refine oV ?_;refine pR [] rfl hf.1 (hf.2 x y (hox x (List.mem_of_getElem? hx)) (hoy y (List.mem_of_getElem? hy))) rfl aC aA ?_;rintro _ σ' ⟨rfl,rfl⟩ h29;refine CQ ?_;refine aB rfl (fun g7=> ?_) (fun g7=> ?_)
  ·have hne:x≠y:=by simpa using g7
   have hE:decide (xs=ys)=false:=decide_eq_false (by rintro rfl;rw[hx]at hy;exact hne (Option.some.inj hy));refine bQ ?_;apply aF;exact aG
   ·exact⟨by rw[hE];rfl,rfl⟩
   ·exact aA
  refine lV ?_;have hxy:x=y:=by simpa using g7
  refine⟨k+1,⟨hlt,by rw[List.take_add_one,List.take_add_one,ht,hx,hy,hxy]⟩,by show xs.length-(k+1)<xs.length-k;omega, ?_⟩;exact aK
 have hE:decide (xs=ys)=true:=decide_eq_true (by simp at g4;rwa [List.take_of_length_le (by omega),List.take_of_length_le (by omega)]at ht);refine bQ ?_;apply aF;exact aG
 ·exact⟨by rw[hE];rfl,rfl⟩
 ·exact aA
theorem aFR{f:FuncId}{ok:Co→Prop}(hf:(∀args w,(callFunc f args).run Tryz.prog w=.ok (.enter f args) w)∧∀x y,ok x→ok y→SCall Tryz.prog f ([]++ [.agg (eS x),.agg (eS y)]++ []) [] (fun r σ=>r=.bool (decide (x=y))∧σ=[]))(xs ys:List Co)(hox:∀x∈xs,ok x)(hoy:∀y∈ys,ok y):SCall Tryz.prog 119 [.ro 2 (xs.map eS) .any,.ro 2 (ys.map eS) .any,.fn (.func f) [] []] [] (fun r σ=>r=.bool (decide (xs=ys))∧σ=[]):=by
 refine cC 32 [0,1,2,6,7,8,9,14,15,16,17,18,30] Tryz.func119 ?_;refine iB (i:=0) rfl fun hm=> ?_
 rw[List.length_map]at hm;unfold maxLen at hm;refine fV ?_;refine oA ?_;refine lU ?_;refine lH ?_;refine aB rfl (fun g1=> ?_) (fun g1=> ?_)
 ·have hE:decide (xs=ys)=false:=decide_eq_false (by rintro rfl;simp at g1);refine bQ ?_;apply aF;exact aG
  ·exact⟨by rw[hE];rfl,rfl⟩
  ·exact aA
 have hl:xs.length=ys.length:=by simp at g1;omega
 refine dX ?_;refine nI ?_;refine lp (β:=Nat) (fun k=>⟨[(1,.ro 2 (ys.map eS) .any),(2,.fn (.func f) [] []),(15,.ro 2 (xs.map eS) .any),(16,.int .i64 xs.length),(17,.int .i64 k)],[]⟩) (fun k=>k≤xs.length∧xs.take k=ys.take k) (fun k=>xs.length-k) 0 aK ⟨Nat.zero_le _,rfl⟩ ?_;rintro k ⟨hk,ht⟩;refine jQ ?_;refine aB rfl (fun g4=> ?_) (fun g4=> ?_)
 ·have hlt:k<xs.length:=by simp at g4;omega
  obtain⟨x,hx⟩:∃x,xs[k]? =some x:=⟨_,List.getElem?_eq_getElem hlt⟩
  obtain⟨y,hy⟩:∃y,ys[k]? =some y:=⟨_,List.getElem?_eq_getElem (by omega)⟩
  refine dX ?_;refine pQ ?_;apply al;rfl;(exact dM);refine aD fun r8 h8=> ?_;repeat rcases h8 with⟨_,h8⟩
  refine GQ ?_;refine mK ?_;refine pQ ?_;apply al;rfl;(exact dM);refine aD fun r9 h9=> ?_;repeat rcases h9 with⟨_,h9⟩
  refine sR ?_;refine oV ?_;refine oV ?_;refine pR [] rfl hf.1 (hf.2 x y (hox x (List.mem_of_getElem? hx)) (hoy y (List.mem_of_getElem? hy))) rfl aC aA ?_;rintro _ σ' ⟨rfl,rfl⟩ h29;refine CQ ?_;refine aB rfl (fun g7=> ?_) (fun g7=> ?_)
  ·have hne:x≠y:=by simpa using g7
   have hE:decide (xs=ys)=false:=decide_eq_false (by rintro rfl;rw[hx]at hy;exact hne (Option.some.inj hy));refine bQ ?_;apply aF;exact aG
   ·exact⟨by rw[hE];rfl,rfl⟩
   ·exact aA
  refine lV ?_;have hxy:x=y:=by simpa using g7
  refine⟨k+1,⟨hlt,by rw[List.take_add_one,List.take_add_one,ht,hx,hy,hxy]⟩,by show xs.length-(k+1)<xs.length-k;omega, ?_⟩;exact aK
 have hE:decide (xs=ys)=true:=decide_eq_true (by simp at g4;rwa [List.take_of_length_le (by omega),List.take_of_length_le (by omega)]at ht);refine bQ ?_;apply aF;exact aG
 ·exact⟨by rw[hE];rfl,rfl⟩
 ·exact aA
theorem aFS{f:FuncId}{ok:Da→Prop}(hf:(∀args w,(callFunc f args).run Tryz.prog w=.ok (.enter f args) w)∧∀x y,ok x→ok y→SCall Tryz.prog f ([]++ [.agg (fL x),.agg (fL y)]++ []) [] (fun r σ=>r=.bool (decide (x=y))∧σ=[]))(xs ys:List Da)(hox:∀x∈xs,ok x)(hoy:∀y∈ys,ok y):SCall Tryz.prog 123 [.ro 2 (xs.map fL) .any,.ro 2 (ys.map fL) .any,.fn (.func f) [] []] [] (fun r σ=>r=.bool (decide (xs=ys))∧σ=[]):=by
 refine cC 32 [0,1,2,6,7,8,9,14,15,16,17,18,30] Tryz.func123 ?_;refine iB (i:=0) rfl fun hm=> ?_
 rw[List.length_map]at hm;unfold maxLen at hm;refine fV ?_;refine oA ?_;refine lU ?_;refine lH ?_;refine aB rfl (fun g1=> ?_) (fun g1=> ?_)
 ·have hE:decide (xs=ys)=false:=decide_eq_false (by rintro rfl;simp at g1);refine bQ ?_;apply aF;exact aG
  ·exact⟨by rw[hE];rfl,rfl⟩
  ·exact aA
 have hl:xs.length=ys.length:=by simp at g1;omega
 refine dX ?_;refine nI ?_;refine lp (β:=Nat) (fun k=>⟨[(1,.ro 2 (ys.map fL) .any),(2,.fn (.func f) [] []),(15,.ro 2 (xs.map fL) .any),(16,.int .i64 xs.length),(17,.int .i64 k)],[]⟩) (fun k=>k≤xs.length∧xs.take k=ys.take k) (fun k=>xs.length-k) 0 aK ⟨Nat.zero_le _,rfl⟩ ?_;rintro k ⟨hk,ht⟩;refine jQ ?_;refine aB rfl (fun g4=> ?_) (fun g4=> ?_)
 ·have hlt:k<xs.length:=by simp at g4;omega
  obtain⟨x,hx⟩:∃x,xs[k]? =some x:=⟨_,List.getElem?_eq_getElem hlt⟩
  obtain⟨y,hy⟩:∃y,ys[k]? =some y:=⟨_,List.getElem?_eq_getElem (by omega)⟩
  refine dX ?_;refine pQ ?_;apply al;rfl;(exact dM);refine aD fun r8 h8=> ?_;repeat rcases h8 with⟨_,h8⟩
  refine GQ ?_;refine mK ?_;refine pQ ?_;apply al;rfl;(exact dM);refine aD fun r9 h9=> ?_;repeat rcases h9 with⟨_,h9⟩
  refine sR ?_;refine oV ?_;refine oV ?_;refine pR [] rfl hf.1 (hf.2 x y (hox x (List.mem_of_getElem? hx)) (hoy y (List.mem_of_getElem? hy))) rfl aC aA ?_;rintro _ σ' ⟨rfl,rfl⟩ h29;refine CQ ?_;refine aB rfl (fun g7=> ?_) (fun g7=> ?_)
  ·have hne:x≠y:=by simpa using g7
   have hE:decide (xs=ys)=false:=decide_eq_false (by rintro rfl;rw[hx]at hy;exact hne (Option.some.inj hy));refine bQ ?_;apply aF;exact aG
   ·exact⟨by rw[hE];rfl,rfl⟩
   ·exact aA
  refine lV ?_;have hxy:x=y:=by simpa using g7
  refine⟨k+1,⟨hlt,by rw[List.take_add_one,List.take_add_one,ht,hx,hy,hxy]⟩,by show xs.length-(k+1)<xs.length-k;omega, ?_⟩;exact aK
 have hE:decide (xs=ys)=true:=decide_eq_true (by simp at g4;rwa [List.take_of_length_le (by omega),List.take_of_length_le (by omega)]at ht);refine bQ ?_;apply aF;exact aG
 ·exact⟨by rw[hE];rfl,rfl⟩
 ·exact aA
theorem aCN{f:FuncId}{ok:Ins→Prop}(hf:(∀args w,(callFunc f args).run Tryz.prog w=.ok (.enter f args) w)∧∀x y,ok x→ok y→SCall Tryz.prog f ([]++ [.agg ((iv .any) x),.agg ((iv .any) y)]++ []) [] (fun r σ=>r=.bool (decide (x=y))∧σ=[]))(xs ys:List Ins)(hox:∀x∈xs,ok x)(hoy:∀y∈ys,ok y):SCall Tryz.prog 121 [.ro 4 (xs.map (iv .any)) .any,.ro 4 (ys.map (iv .any)) .any,.fn (.func f) [] []] [] (fun r σ=>r=.bool (decide (xs=ys))∧σ=[]):=by
 refine cC 32 [0,1,2,6,7,8,9,14,15,16,17,18,30] Tryz.func121 ?_;refine iB (i:=0) rfl fun hm=> ?_
 rw[List.length_map]at hm;unfold maxLen at hm;refine fV ?_;refine oA ?_;refine lU ?_;refine lH ?_;refine aB rfl (fun g1=> ?_) (fun g1=> ?_)
 ·have hE:decide (xs=ys)=false:=decide_eq_false (by rintro rfl;simp at g1);refine bQ ?_;apply aF;exact aG
  ·exact⟨by rw[hE];rfl,rfl⟩
  ·exact aA
 have hl:xs.length=ys.length:=by simp at g1;omega
 refine dX ?_;refine nI ?_;refine lp (β:=Nat) (fun k=>⟨[(1,.ro 4 (ys.map (iv .any)) .any),(2,.fn (.func f) [] []),(15,.ro 4 (xs.map (iv .any)) .any),(16,.int .i64 xs.length),(17,.int .i64 k)],[]⟩) (fun k=>k≤xs.length∧xs.take k=ys.take k) (fun k=>xs.length-k) 0 aK ⟨Nat.zero_le _,rfl⟩ ?_;rintro k ⟨hk,ht⟩;refine jQ ?_;refine aB rfl (fun g4=> ?_) (fun g4=> ?_)
 ·have hlt:k<xs.length:=by simp at g4;omega
  obtain⟨x,hx⟩:∃x,xs[k]? =some x:=⟨_,List.getElem?_eq_getElem hlt⟩
  obtain⟨y,hy⟩:∃y,ys[k]? =some y:=⟨_,List.getElem?_eq_getElem (by omega)⟩
  refine dX ?_;refine pQ ?_;apply al;rfl;(exact dM);refine aD fun r8 h8=> ?_;repeat rcases h8 with⟨_,h8⟩
  refine GQ ?_;refine mK ?_;refine pQ ?_;apply al;rfl;(exact dM);refine aD fun r9 h9=> ?_;repeat rcases h9 with⟨_,h9⟩
  refine sR ?_;refine oV ?_;refine oV ?_;refine pR [] rfl hf.1 (hf.2 x y (hox x (List.mem_of_getElem? hx)) (hoy y (List.mem_of_getElem? hy))) rfl aC aA ?_;rintro _ σ' ⟨rfl,rfl⟩ h29;refine CQ ?_;refine aB rfl (fun g7=> ?_) (fun g7=> ?_)
  ·have hne:x≠y:=by simpa using g7
   have hE:decide (xs=ys)=false:=decide_eq_false (by rintro rfl;rw[hx]at hy;exact hne (Option.some.inj hy));refine bQ ?_;apply aF;exact aG
   ·exact⟨by rw[hE];rfl,rfl⟩
   ·exact aA
  refine lV ?_;have hxy:x=y:=by simpa using g7
  refine⟨k+1,⟨hlt,by rw[List.take_add_one,List.take_add_one,ht,hx,hy,hxy]⟩,by show xs.length-(k+1)<xs.length-k;omega, ?_⟩;exact aK
 have hE:decide (xs=ys)=true:=decide_eq_true (by simp at g4;rwa [List.take_of_length_le (by omega),List.take_of_length_le (by omega)]at ht);refine bQ ?_;apply aF;exact aG
 ·exact⟨by rw[hE];rfl,rfl⟩
 ·exact aA
end Go.Proofs.YtjpdadobblffmaaGreat
namespace Go.Proofs.YtjpdadobblffmaaGreat
open Go.RowKit Go.ChangeShapes Go.WideShapes Go.ChangeAt Go.Deep
attribute [local irreducible] SW RS RD gJ fA
def eqM (a b:Md):Bool:=decide (a.ty=b.ty)&&decide (a.el=b.el)&&decide (a.co=b.co)&&decide (a.da=b.da)&&decide (a.im=b.im)&&decide (a.fn=b.fn)&&decide (a.tb=b.tb)&&decide (a.me=b.me)&&decide (a.gl=b.gl)&&decide (a.ex=b.ex)
theorem aCO{a b:Md}:eqM a b=true↔a=b:=by
 unfold eqM;simp only[Bool.and_eq_true,decide_eq_true_eq];constructor
 ·rintro⟨⟨⟨⟨⟨⟨⟨⟨⟨h1,h2⟩,h3⟩,h4⟩,h5⟩,h6⟩,h7⟩,h8⟩,h9⟩,h10⟩;cases a;cases b;simp_all
 ·rintro rfl;simp
theorem aAm(a:Md):eqM a a=true:=aCO.2 rfl
theorem aCP(x y:Ins):eqN x y=decide (x=y):=by
 rw[Bool.eq_iff_iff,JJ,decide_eq_true_iff]
theorem aAn:(∀args w,(callFunc 122 args).run Tryz.prog w=.ok (.enter 122 args) w)∧∀x y:Ins,True→True→SCall Tryz.prog 122 ([]++ [.agg (iv .any x),.agg (iv .any y)]++ []) [] (fun r σ=>r=.bool (decide (x=y))∧σ=[]):=
 ⟨Tryz.call122,fun x y _ _=>by rw[←aCP];exact XU .any .any x y⟩
theorem aCQ:(∀args w,(callFunc 115 args).run Tryz.prog w=.ok (.enter 115 args) w)∧∀x y:FT,True→True→SCall Tryz.prog 115 ([]++ [.agg (eF x),.agg (eF y)]++ []) [] (fun r σ=>r=.bool (decide (x=y))∧σ=[]):=by
 refine⟨Tryz.call115,fun x y _ _=> ?_⟩;obtain⟨p1,v1⟩:=x;obtain⟨p2,v2⟩:=y;have hE:decide ((⟨p1,v1⟩:FT)=⟨p2,v2⟩)=if decide (p1=p2)=true then decide (v1=v2)else false:=by rw[mI,Bool.eq_iff_iff];simp
 refine cC 17 [0,1,2,3,4] Tryz.func115 ?_;unfold eF;refine dW ?_;apply bx;rfl;rfl;(exact dM);rfl;refine aD fun r2 h2=> ?_;repeat rcases h2 with⟨_,h2⟩
 apply bx;rfl;rfl;(exact dM);rfl;refine aD fun r3 h3=> ?_;repeat rcases h3 with⟨_,h3⟩
 refine jF ?_;refine gF ?_;refine oE Tryz.call116 (hX p1 p2) rfl bG bK ?_;refine nH ?_;refine mD ?_;refine kV rfl rfl Tryz.call116 (fun _=>(hX v1 v2)) rfl bG bK ?_;refine kD ?_;apply aF;exact aG
 ·exact⟨by rw[hE];rfl,rfl⟩
 ·exact aA
theorem aCR:(∀args w,(callFunc 118 args).run Tryz.prog w=.ok (.enter 118 args) w)∧∀x y:El,True→True→SCall Tryz.prog 118 ([]++ [.agg (fK x),.agg (fK y)]++ []) [] (fun r σ=>r=.bool (decide (x=y))∧σ=[]):=by
 refine⟨Tryz.call118,fun x y _ _=> ?_⟩;obtain⟨p1,v1⟩:=x;obtain⟨p2,v2⟩:=y;have hE:decide ((⟨p1,v1⟩:El)=⟨p2,v2⟩)=if(p1==p2)=true then decide (v1=v2)else false:=by rw[mI,Bool.eq_iff_iff];simp
 refine cC 17 [0,1,2,3,4] Tryz.func118 ?_;unfold fK;refine dW ?_;apply bx;rfl;rfl;(exact dM);rfl;refine aD fun r2 h2=> ?_;repeat rcases h2 with⟨_,h2⟩
 apply bx;rfl;rfl;(exact dM);rfl;refine aD fun r3 h3=> ?_;repeat rcases h3 with⟨_,h3⟩
 refine jF ?_;refine gF ?_;refine AF ?_;refine mD ?_;refine kV rfl rfl Tryz.call116 (fun _=>(hX v1 v2)) rfl bG bK ?_;refine kD ?_;apply aF;exact aG
 ·exact⟨by rw[hE];rfl,rfl⟩
 ·exact aA
theorem aCS:(∀args w,(callFunc 120 args).run Tryz.prog w=.ok (.enter 120 args) w)∧∀x y:Co,True→True→SCall Tryz.prog 120 ([]++ [.agg (eS x),.agg (eS y)]++ []) [] (fun r σ=>r=.bool (decide (x=y))∧σ=[]):=by
 refine⟨Tryz.call120,fun x y _ _=> ?_⟩;obtain⟨p1,v1⟩:=x;obtain⟨p2,v2⟩:=y;have hE:decide ((⟨p1,v1⟩:Co)=⟨p2,v2⟩)=if decide (p1=p2)=true then decide (v1=v2)else false:=by rw[mI,Bool.eq_iff_iff];simp
 refine cC 17 [0,1,2,3,4] Tryz.func120 ?_;unfold eS;refine dW ?_;apply bx;rfl;rfl;(exact dM);rfl;refine aD fun r2 h2=> ?_;repeat rcases h2 with⟨_,h2⟩
 apply bx;rfl;rfl;(exact dM);rfl;refine aD fun r3 h3=> ?_;repeat rcases h3 with⟨_,h3⟩
 refine jF ?_;refine gF ?_;refine oE Tryz.call116 (hX p1 p2) rfl bG bK ?_;refine nH ?_;refine mD ?_;refine kV rfl rfl Tryz.call121 (fun _=>(aCN aAn v1 v2 (fun _ _=>True.intro) (fun _ _=>True.intro))) rfl bG bK ?_;refine kD ?_;apply aF;exact aG
 ·exact⟨by rw[hE];rfl,rfl⟩
 ·exact aA
theorem aCT:(∀args w,(callFunc 124 args).run Tryz.prog w=.ok (.enter 124 args) w)∧∀x y:Da,True→True→SCall Tryz.prog 124 ([]++ [.agg (fL x),.agg (fL y)]++ []) [] (fun r σ=>r=.bool (decide (x=y))∧σ=[]):=by
 refine⟨Tryz.call124,fun x y _ _=> ?_⟩;obtain⟨p1,v1⟩:=x;obtain⟨p2,v2⟩:=y;have hE:decide ((⟨p1,v1⟩:Da)=⟨p2,v2⟩)=if(p1==p2)=true then decide (v1=v2)else false:=by rw[mI,Bool.eq_iff_iff];simp
 refine cC 17 [0,1,2,3,4] Tryz.func124 ?_;unfold fL;refine dW ?_;apply bx;rfl;rfl;(exact dM);rfl;refine aD fun r2 h2=> ?_;repeat rcases h2 with⟨_,h2⟩
 apply bx;rfl;rfl;(exact dM);rfl;refine aD fun r3 h3=> ?_;repeat rcases h3 with⟨_,h3⟩
 refine jF ?_;refine gF ?_;refine AF ?_;refine mD ?_;refine kV rfl rfl Tryz.call125 (fun _=>(aFO v1 v2 (fun _ _=>True.intro) (fun _ _=>True.intro))) rfl bG bK ?_;refine kD ?_;apply aF;exact aG
 ·exact⟨by rw[hE];rfl,rfl⟩
 ·exact aA
theorem TC(a c:Md)(ha:a.W)(hc:c.W):SCall Tryz.prog 52 [.agg (cK a),.agg (cK c)] [] (fun r σ=>r=.bool (eqM a c)∧σ=[]):=by
 obtain⟨a1,a2,-,-,-⟩:=ha;obtain⟨c1,c2,-,-,-⟩:=hc;obtain⟨ty,im,fn,tb,me,gl,ex,el,co,da⟩:=a;obtain⟨ty',im',fn',tb',me',gl',ex',el',co',da'⟩:=c;dsimp only at a1 a2 c1 c2;have hE:∀(a b c d e f g h i j:Bool),(if(if(if(if(if(if(if(if(if a=true then b else false)=true then c else false)=true then d else false)=true then e else false)=true then f else false)=true then g else false)=true then h else false)=true then i else false)=true then j else false)=(a&&b&&c&&d&&e&&f&&g&&h&&i&&j):=by
  intro a b c d e f g h i j;simp only[mI]
 refine cC 81 [0,1,2,3,4,5,6,7,8] Tryz.func52 ?_;unfold cK;dsimp only;refine dW ?_;apply bx;rfl;rfl;(exact dM);rfl;refine aD fun r2 h2=> ?_;repeat rcases h2 with⟨_,h2⟩
 apply bx;rfl;rfl;(exact dM);rfl;refine aD fun r3 h3=> ?_;repeat rcases h3 with⟨_,h3⟩
 refine jF ?_;refine gF ?_;refine oE Tryz.call114 (aFP aCQ ty ty' (fun _ _=>True.intro) (fun _ _=>True.intro)) rfl bG bK ?_;refine jF ?_;refine gF ?_;refine oE Tryz.call117 (aFQ aCR el el' (fun _ _=>True.intro) (fun _ _=>True.intro)) rfl bG bK ?_;refine jF ?_;refine gF ?_;refine oE Tryz.call119 (aFR aCS co co' (fun _ _=>True.intro) (fun _ _=>True.intro)) rfl bG bK ?_;refine jF ?_;refine gF ?_;refine oE Tryz.call123 (aFS aCT da da' (fun _ _=>True.intro) (fun _ _=>True.intro)) rfl bG bK ?_;refine nK ?_;refine qV ?_;refine rS ?_;refine jK ?_;refine rS ?_;refine jK ?_;refine rS ?_;refine nH ?_;refine mD ?_;refine kV rfl rfl Tryz.call126 (fun _=>(aFL im im' a1 c1)) rfl bG bK ?_;refine rS ?_;refine nH ?_;refine mD ?_;refine kV rfl rfl Tryz.call116 (fun _=>(hX fn fn')) rfl bG bK ?_;refine rS ?_;refine IU ?_;refine EW ?_;refine aBb ?_;refine EW ?_;refine lg rfl rfl (DW (a:=tb) (b:=tb') (W rfl id) (W rfl id)) rfl ?_;refine rS ?_;refine IU ?_;refine EW ?_;refine aBb ?_;refine EW ?_;refine lg rfl rfl (DW (a:=me) (b:=me') (W rfl id) (W rfl id)) rfl ?_;refine rS ?_;refine nH ?_;refine mD ?_;refine kV rfl rfl Tryz.call127 (fun _=>(aFN gl gl' (fun _ _=>True.intro) (fun _ _=>True.intro))) rfl bG bK ?_;refine rS ?_;refine nH ?_;refine mD ?_
 refine kV rfl rfl Tryz.call128 (fun _=>(aFM ex ex' a2 c2)) rfl bG bK ?_;refine kD ?_;apply aF;exact aG
 ·exact⟨by simp only[iH];rw[hE];rfl,rfl⟩
 ·exact aA
theorem aAo{a b:Nat}{x:Nat}(h:(if decide ((x:Int)<(a:Nat))=true then decide ((x:Int)<(b:Nat))else false)=true):x<a∧x<b:=by
 rw[mI]at h;simp only[Bool.and_eq_true,decide_eq_true_eq]at h;omega
end Go.Proofs.YtjpdadobblffmaaGreat
namespace Go.Proofs.YtjpdadobblffmaaGreat
open Go.RowKit Go.ChangeShapes Go.WideShapes Go.ChangeAt Go.Deep
def smallM:Md:=⟨[⟨[1,1],[1]⟩],[],[0],HE,HE,[],[⟨[97,100,100],0⟩],[],[⟨[],[⟨32,0,0,[]⟩,⟨32,1,0,[]⟩,⟨106,0,0,[]⟩]⟩],[]⟩
def fun0:Md:= { md0 with fn:=[0] }
theorem small_wo:smallM.WO:=by
 refine⟨⟨by simp[smallM], ?_, ?_,by simp[smallM],by simp[smallM]⟩, ?_,by simp[smallM]⟩
 ·intro x hx;obtain rfl:x=⟨[97,100,100],0⟩:=by simpa[smallM]using hx
  exact⟨by decide,by decide⟩
 ·intro x hx;obtain rfl:x=⟨[],[⟨32,0,0,[]⟩,⟨32,1,0,[]⟩,⟨106,0,0,[]⟩]⟩:=by simpa[smallM]using hx
  decide
 ·intro x hx;obtain rfl:x=⟨[],[⟨32,0,0,[]⟩,⟨32,1,0,[]⟩,⟨106,0,0,[]⟩]⟩:=by simpa[smallM]using hx
  intro i hi;simp only[List.mem_cons,List.not_mem_nil,or_false]at hi;rcases hi with rfl|rfl|rfl<;>exact⟨by decide,by decide,by decide,by decide,by decide⟩
theorem aCU:pT smallM=true:=by decide
theorem TD:(fH smallM).length≤8000∧8<(fH smallM).length:=by
 have h1:gP ⟨32,0,0,[]⟩=[32,0]:=by
  have f:aZ 32=3:=by decide
  simp[gP,fX,f,sV]
 have h2:gP ⟨32,1,0,[]⟩=[32,1]:=by
  have f:aZ 32=3:=by decide
  simp[gP,fX,f,sV]
 have h3:gP ⟨106,0,0,[]⟩=[106]:=by
  have f:aZ 106=1:=by decide
  simp[gP,fX,f]
 have:(fH smallM).length=41:=by
  simp[fH,smallM,headB,bL,bD,sV,uJ,kB,cB,mL,bO,kA,bX,iU,h1,h2,h3,gW,HE]
 omega
theorem zV:pS smallM=true:=by
 rw[vJ,aCU,Bool.true_and];exact decide_eq_true TD.1
theorem HU:nO smallM=fH smallM:=if_pos zV
theorem VG:wW (nO smallM)=(smallM,0):=by rw[HU];exact ZB zV small_wo.ok
theorem aAp:∀c∈nO smallM,c<256:=SQ small_wo
theorem aCV:pS md0=true:=by
 have h:(fH md0).length=8:=by simp[fH,md0,headB,bL,gW,HE]
 rw[vJ,show pT md0=true by decide,Bool.true_and,h];decide
theorem aCW:(nO md0).length=8:=by
 unfold nO;rw[if_pos aCV];simp[fH,md0,headB,bL,gW,HE]
theorem aCX:fun0.WO:=⟨⟨by simp[fun0,md0],by simp[fun0,md0],by simp[fun0,md0],by simp[fun0,md0],by simp[fun0,md0]⟩,by simp[fun0,md0],by simp[fun0,md0]⟩
theorem aAq:pS fun0=false:=by rw[vJ,show pT fun0=false by decide];rfl
theorem aHW:wW [120]=(md0,1):=by
 unfold wW;rw[if_neg (by decide),if_pos (by decide)]
theorem aAr:eqM smallM md0=false:=by decide
end Go.Proofs.YtjpdadobblffmaaGreat
namespace Go.Proofs.YtjpdadobblffmaaGreat
open Go.RowKit Go.ChangeShapes Go.WideShapes Go.ChangeAt Go.Deep
attribute [local irreducible] SW RS RD gJ fA
def aHX (x:Ins):List AV:=[.int .i64 x.op,.int .i64 x.a,.int .i64 x.b,.ro 0 [] .nil]
theorem KK{l:List Ins}(h:∀x∈l,x.l=[]){k:Rk}:VLe (.ro 4 (l.map aHX) k) (.ro 4 (l.map (iv .any)) k):=by
 refine VLe.ro (by simp) ?_ ?_
 ·intro x hx;simp only[List.mem_map]at hx;obtain⟨o,-,rfl⟩:=hx;exact⟨rfl,by simp[iv,AV.cell]⟩
 ·intro i e e' h1 h2;simp only[List.getElem?_map,Option.map_eq_some_iff]at h1 h2;obtain⟨o,ho,rfl⟩:=h1;obtain⟨o',ho',rfl⟩:=h2;obtain rfl:=Option.some.inj (ho.symm.trans ho');have hl:=h o (List.mem_of_getElem? ho);refine⟨rfl,fun j a a' ha ha'=> ?_⟩;unfold iv at ha';rw[hl]at ha'
  match j with
  |0=>cases ha;cases ha';exact VLe.refl _
  |1=>cases ha;cases ha';exact VLe.refl _
  |2=>cases ha;cases ha';exact VLe.refl _
  |3=>cases ha;cases ha';exact VLe.empty
  | _ +4=>cases ha
theorem TE{es:List (List AV)}:VLe (.agg [.ro 0 [] .nil,.ro 4 es .any]) (.agg [.ro 1 ([].map aX) .any,.ro 4 es .any]):=by
 refine VLe.agg rfl fun j a a' ha ha'=> ?_
 match j with
 |0=>cases ha;cases ha';exact VLe.empty
 |1=>cases ha;cases ha';exact VLe.refl _
 | _ +2=>cases ha
theorem TF:VLe (.agg [.ro 0 [] .nil,.ro 0 [] .nil,.ro 0 [] .nil,.bool false,.int .i64 0,.int .i64 0,.bool false,.int .i64 0,.int .i64 0,.ro 0 [] .nil,.ro 0 [] .nil,.ro 0 [] .nil,.ro 0 [] .nil,.ro 0 [] .nil]) (.agg (cK md0)):=by
 refine VLe.agg rfl fun j a a' ha ha'=> ?_
 match j with
 |0=>cases ha;cases ha';exact VLe.empty
 |1=>cases ha;cases ha';exact VLe.empty
 |2=>cases ha;cases ha';exact VLe.empty
 |3=>cases ha;cases ha';exact VLe.refl _
 |4=>cases ha;cases ha';exact VLe.refl _
 |5=>cases ha;cases ha';exact VLe.refl _
 |6=>cases ha;cases ha';exact VLe.refl _
 |7=>cases ha;cases ha';exact VLe.refl _
 |8=>cases ha;cases ha';exact VLe.refl _
 |9=>cases ha;cases ha';exact VLe.empty
 |10=>cases ha;cases ha';exact VLe.empty
 |11=>cases ha;cases ha';exact VLe.empty
 |12=>cases ha;cases ha';exact VLe.empty
 |13=>cases ha;cases ha';exact VLe.empty
 | _ +14=>cases ha
theorem aAs:VLe (.agg [.ro 0 [] .nil,.ro 0 [] .nil,.ro 1 [[.int .i64 0]] .any,.bool false,.int .i64 0,.int .i64 0,.bool false,.int .i64 0,.int .i64 0,.ro 0 [] .nil,.ro 0 [] .nil,.ro 0 [] .nil,.ro 0 [] .nil,.ro 0 [] .nil]) (.agg (cK fun0)):=by
 refine VLe.agg rfl fun j a a' ha ha'=> ?_
 match j with
 |0=>cases ha;cases ha';exact VLe.empty
 |1=>cases ha;cases ha';exact VLe.empty
 |2=>cases ha;cases ha';exact VLe.refl _
 |3=>cases ha;cases ha';exact VLe.refl _
 |4=>cases ha;cases ha';exact VLe.refl _
 |5=>cases ha;cases ha';exact VLe.refl _
 |6=>cases ha;cases ha';exact VLe.refl _
 |7=>cases ha;cases ha';exact VLe.refl _
 |8=>cases ha;cases ha';exact VLe.refl _
 |9=>cases ha;cases ha';exact VLe.empty
 |10=>cases ha;cases ha';exact VLe.empty
 |11=>cases ha;cases ha';exact VLe.empty
 |12=>cases ha;cases ha';exact VLe.empty
 |13=>cases ha;cases ha';exact VLe.empty
 | _ +14=>cases ha
def smallIs:List Ins:=[⟨32,0,0,[]⟩,⟨32,1,0,[]⟩,⟨106,0,0,[]⟩]
theorem HV:SCall Tryz.prog 50 [] [] (fun y σ=>y=.agg (cK smallM)∧σ=[]):=by
 refine cC 15 [0] Tryz.func50 ?_;refine dW ?_;apply al;rfl;(exact dM);refine aD fun r0 h0=> ?_;repeat rcases h0 with⟨_,h0⟩
 refine EU ?_;refine dW ?_;refine z1 ?_;refine aD fun r1 h1=> ?_;repeat rcases h1 with⟨_,h1⟩
 refine jB (j:=1) rfl bP (aR bH (by simp)) ?_;refine z1 ?_;refine aD fun r2 h2=> ?_;repeat rcases h2 with⟨_,h2⟩
 refine jB (j:=2) rfl bP (aR bH (by simp)) ?_;refine nF ?_;refine z1 ?_;refine aD fun r4 h4=> ?_;repeat rcases h4 with⟨_,h4⟩
 refine jB (j:=4) rfl bP (aR bH (by simp)) ?_;refine z1 ?_;refine aD fun r5 h5=> ?_;repeat rcases h5 with⟨_,h5⟩
 refine jB (j:=5) rfl bP (aR bH (by simp)) ?_;refine nF ?_;refine z1 ?_;refine aD fun r7 h7=> ?_;repeat rcases h7 with⟨_,h7⟩
 refine jB (j:=7) rfl bP (aR bH (by simp)) ?_;refine nF ?_;refine nF ?_;refine nF ?_;refine z1 ?_;refine aD fun r11 h11=> ?_;repeat rcases h11 with⟨_,h11⟩
 refine jB (j:=11) rfl bP (aR bH (by simp)) ?_;refine mM (fY (j:=11) rfl (KK (l:=smallIs) (by simp[smallIs]))) ?_;refine nF ?_;refine mM (fY (j:=12) rfl TE) ?_;refine z1 ?_;refine aD fun r13 h13=> ?_;repeat rcases h13 with⟨_,h13⟩
 refine jB (j:=13) rfl bP (aR bH (by simp)) ?_;refine nF ?_;refine nS ?_;refine an ?_;refine eU (iQ (r:=r0) (cs':=cK smallM) cZ (.cons (.refl _) (.cons (.le VLe.empty) (.cons (.refl _) (.cons (.refl _) (.cons (.refl _) (.cons (.refl _) (.cons (.refl _) (.cons (.refl _) (.cons (.refl _) (.cons (.le VLe.empty) (.cons (.refl _) (.cons (.le VLe.empty) (.cons (.refl _) (.cons (.le VLe.empty) .nil))))))))))))))) ?_;refine aP ?_;apply aF;exact aG
 ·exact⟨rfl,rfl⟩
 ·exact aA
theorem HW:(nO smallM).length≤8000∧8<(nO smallM).length:=by rw[HU];exact TD
theorem QN:SCall Tryz.prog 16 [] [] (fun y σ=>y=.bool true∧σ=[]):=by
 have w1:=AL (nO smallM) (by have:=HW.1;omega) aAp;rw[VG]at w1;have w2:=AL [120] (by decide) (by decide);rw[aHW]at w2;have w3:=DJ smallM small_wo;rw[zV]at w3;have w4:=TC smallM smallM small_wo.w small_wo.w;rw[aAm]at w4;have w5:=TC smallM md0 small_wo.w wo0.w;rw[aAr]at w5;have w6:=uQ md0 wo0;have w7:=DJ fun0 aCX;rw[aAq]at w7;have h8:=HW.2;refine cC 59 [0,1,2,3,4,6] Tryz.func16 ?_;refine sU ?_;refine cw [] Tryz.call50 HV rfl aC aA ?_;rintro _ σ' ⟨rfl,rfl⟩ h7;apply aT;(exact bF);apply al;rfl;(exact dM);refine aD fun r1 h1=> ?_;repeat rcases h1 with⟨_,h1⟩
 refine nS ?_;refine pY ?_;refine qQ Tryz.call18 (uQ smallM small_wo) rfl bS kI ?_;rintro _ σ' ⟨q9,rfl,rfl⟩ h9
 replace h9:=cO h9;repeat rcases h9 with⟨_,h9⟩
 apply aT;(exact bF);refine jB (j:=9) rfl bP (aR bH (by simp)) ?_;refine iE ?_;refine cw [] Tryz.call20 w1 rfl aC aA ?_;rintro _ σ' ⟨rfl,rfl⟩ h12;refine pU ?_;apply al;rfl;(exact dM);refine aD fun r3 h3=> ?_;repeat rcases h3 with⟨_,h3⟩
 apply WX;rfl;rfl;rfl;rfl;(exact sK);refine kY ?_;refine z1 ?_;refine aD fun r16 h16=> ?_;repeat rcases h16 with⟨_,h16⟩
 refine cvm (len:=1) cZ (by decide) ?_;refine jB (j:=17) rfl bP (aR bH (by simp)) ?_;refine cw [] Tryz.call20 w2 rfl aC aA ?_;rintro _ σ' ⟨rfl,rfl⟩ h18;refine pU ?_;apply al;rfl;(exact dM);refine aD fun r5 h5=> ?_;repeat rcases h5 with⟨_,h5⟩
 apply WX;rfl;rfl;rfl;rfl;(exact sK);refine kY ?_;refine oV ?_;refine oE Tryz.call51 w3 rfl bG bK ?_;refine jK ?_;refine pP ?_;refine IR ?_;rw[show decide ((8:Int)<((nO smallM).length:Int))=true from decide_eq_true (by omega)];refine rS ?_;refine jK ?_;refine wJ ?_;rw[show((0:Int)==0)=true from rfl];refine rS ?_;refine xP ?_;refine aBg ?_;refine gy rfl rfl ?_;refine oE Tryz.call52 w4 rfl bG bK ?_;refine rS ?_;refine xP ?_;refine aEq ?_;refine mM (fY (j:=39) rfl TF) ?_;refine gy rfl rfl ?_;refine oE Tryz.call52 w5 rfl bG bK ?_;refine tT ?_;rw[show(!false)=true from rfl];refine rS ?_;refine jK ?_;refine wJ ?_;rw[show((1:Int)==1)=true from rfl];refine rS ?_;refine lo (aI (E rfl)) rfl ?_;refine aEq ?_;refine mM (fY (j:=48) rfl TF) ?_;refine gy rfl rfl ?_;refine qQ Tryz.call18 w6 rfl bS kI ?_;rintro _ σ' ⟨q49,rfl,rfl⟩ h49
 replace h49:=cO h49;repeat rcases h49 with⟨_,h49⟩
 apply aT;(exact bF);refine pP ?_;refine wJ ?_;rw[aCW,show(((8:Nat):Int)==8)=true from rfl];refine rS ?_;refine lo (aI (E rfl)) rfl ?_;refine aIV ?_;refine aD fun r54 h54=> ?_;repeat rcases h54 with⟨_,h54⟩
 refine jB (j:=54) rfl bP (aR bH (by simp)) ?_;refine aEq ?_;refine mM (fY (j:=55) rfl aAs) ?_;refine gy rfl rfl ?_;refine oE Tryz.call51 w7 rfl bG bK ?_;refine aBm ?_;apply aF;exact aG
 ·exact⟨rfl,rfl⟩
 ·exact aA
def b1 (w:Int):Int:=IntKind.wrap .i64 ((BitVec.ofInt (IntKind.bits .i64) w&&&BitVec.ofInt (IntKind.bits .i64) 1).toNat:Int)
def b3 (w:Int):Int:=IntKind.wrap .i64 ((BitVec.ofInt (IntKind.bits .i64) w&&&BitVec.ofInt (IntKind.bits .i64) 3).toNat:Int)
theorem aAt(w:Int):b1 w=0∨b1 w=1:=by
 have h:(BitVec.ofInt (IntKind.bits .i64) w&&&BitVec.ofInt (IntKind.bits .i64) 1).toNat≤1:=by
  rw[BitVec.toNat_and];exact Nat.and_le_right
 unfold b1;rw[lO (by omega) (by omega)];omega
def sG (ps:List Int):List Int:=(ps.take 5).map fun p=>1+b1 p
def zW (r:Int):List Int:=if(if decide (0<b3 r)=true then decide (b3 r<3)else false)=true then [b3 r]else []
def HX:List Ins:=[⟨32,0,0,[]⟩]
def iZ (pr rs:List Int) (co:List Co):Md:=⟨[⟨pr,rs⟩,⟨[],[]⟩,⟨[1],[1]⟩,⟨[2,1],[2]⟩],[⟨[119],[102],2⟩,⟨[119],[103],1⟩],[0,3],⟨true,4,-1⟩,⟨true,1,3⟩,[⟨true,1,0⟩,⟨false,2,5⟩],[⟨[109,97,105,110],2⟩],[⟨0,[0,2,3]⟩],co,[]⟩
def VH (pr rs:List Int) (q:Nat):List AV:=[.ro 2 ((iZ pr rs []).ty.map eF) .any,.ro 3 ((iZ pr rs []).im.map fT) .any,.ro 1 ([0,3].map aX) .any,.bool true,.int .i64 4,.int .i64 (-1),.bool true,.int .i64 1,.int .i64 3,
 .ro 3 ((iZ pr rs []).gl.map fP) .any,.ro 2 ((iZ pr rs []).ex.map fQ) .any,.ro 2 ((iZ pr rs []).el.map fK) .any,.own q 0 2,.ro 2 ([].map fL) .any]
theorem aCY:VLe (.agg [.ro 0 [] .nil,.ro 0 [] .nil]) (.agg (eF ⟨[],[]⟩)):=by
 refine VLe.agg rfl fun j a a' ha ha'=> ?_
 match j with
 |0=>cases ha;cases ha';exact VLe.empty
 |1=>cases ha;cases ha';exact VLe.empty
 | _ +2=>cases ha
theorem OL{ps:List Int}{j:Nat}{w:Int}(h:ps[j]? =some w):(ps.take j).map (fun p=>1+b1 p)++ [1+b1 w]=(ps.take (j+1)).map (fun p=>1+b1 p):=by
 rw[List.take_add_one,h];simp
theorem aAu(ps:List Int)(r:Int):SCall Tryz.prog 25 [.ro 1 (ps.map aX) .any,.int .i64 r] [] (fun y σ=>∃q,y=.agg (VH (sG ps) (zW r) q)∧σ=[(q,.arr 44 2 [[.ro 0 [] .nil,.ro 0 [] .nil],eS ⟨[],HX⟩])]):=by
 refine cC 72 [0,1,4,5,6,15,36] Tryz.func25 ?_;refine dW ?_;apply al;rfl;(exact dM);refine aD fun r4 h4=> ?_;repeat rcases h4 with⟨_,h4⟩
 refine EU ?_;refine sS ?_;apply al;rfl;(exact dM);refine aD fun r5 h5=> ?_;repeat rcases h5 with⟨_,h5⟩
 refine iD ?_;refine dZ (ks:=[0,1,4,5,6,15,36]) r5 0 3 1 (by decide) bH rfl (by decide) fun p0 hp0=> ?_
 simp only[aM,aQ,and_true]at hp0;repeat rcases hp0 with⟨_,hp0⟩
 apply Exists.intro;apply And.intro;(exact cZ);refine rT ?_;refine lp (β:=Nat×Nat) (fun b=>⟨[(0,.ro 1 (ps.map aX) .any),(1,.int .i64 r),(4,.ptr r4 0),(5,.ptr r5 0),(6,.int .i64 b.1)],[(r5,.box 50 [.own b.2 0 ((ps.take b.1).map fun p=>1+b1 p).length,.ro 0 [] .nil]),(b.2,.arr 3 1 (((ps.take b.1).map fun p=>1+b1 p).map aX)),(r4,.box 33 [.ro 0 [] .nil,.ro 0 [] .nil,.ro 0 [] .nil,.bool false,.int .i64 0,.int .i64 0,.bool false,.int .i64 0,.int .i64 0,.ro 0 [] .nil,.ro 0 [] .nil,.ro 0 [] .nil,.ro 0 [] .nil,.ro 0 [] .nil])]⟩) (fun b=>b.1≤ps.length∧b.1≤5∧Nq b.2 r5∧Nq b.2 r4) (fun b=>5-b.1) (0,p0) aK ⟨Nat.zero_le _,Nat.zero_le _,by show Nq p0 r5;(exact cF),by show Nq p0 r4;(exact cF)⟩ ?_;rintro⟨j,p⟩ ⟨hj,hj5,n1,n2⟩;dsimp only at hj hj5 n1 n2⊢;have hpl:((ps.take j).map fun p=>1+b1 p).length=j:=by simp;omega
 refine cL ?_;refine lU ?_;refine EY ?_;refine XE ?_;refine tW ?_;refine aB rfl (fun g3=> ?_) (fun g3=> ?_)
 ·have hlt:j<ps.length∧j<5:=aAo g3;obtain⟨w,hw⟩:∃w,ps[j]? =some w:=⟨_,List.getElem?_eq_getElem hlt.1⟩
  have hb:=aAt w;unfold b1 at hb;refine aP ?_;refine gI [(0,true),(1,true),(2,true),(3,true),(4,true),(5,true),(6,true),(7,true),(8,false),(9,false),(10,true),(11,false)] ?_;refine jE ?_;refine pA ?_;refine LD ?_;refine gD rfl (jJ (E rfl) (E rfl)) rfl ?_;refine aEn ?_;refine GO ?_;refine aD fun r26 h26=> ?_;repeat rcases h26 with⟨_,h26⟩
  refine fJ rfl (((ps.take j).map (fun p=>1+b1 p)++ [1+b1 w]).map aX) ((ps.take j).map (fun p=>1+b1 p)++ [1+b1 w]).length ?_;refine bM fun r27 h27=> ?_;repeat rcases h27 with⟨_,h27⟩
  refine rB ?_;refine MA ?_;refine oX ?_;refine⟨(j+1,r27),⟨hlt.1,hlt.2,by show Nq r27 r5;(exact cF),by show Nq r27 r4;(exact cF)⟩,by show 5-(j+1)<5-j;omega, ?_⟩;dsimp only;rw[←OL hw];exact aK
 rw[show(ps.take j).map (fun p=>1+b1 p)=sG ps by
   unfold sG;rcases Nat.lt_or_ge j 5 with h5j|h5j
   ·have:j=ps.length:=by
     rcases Nat.lt_or_ge j ps.length with h|h
     ·rw[decide_eq_true (by omega),if_pos rfl,decide_eq_true (by omega)]at g3;cases g3
     ·omega
    subst this;rw[List.take_length,List.take_of_length_le (by omega)]
   ·obtain rfl:j=5:=by omega
    rfl]
 refine eU (oF (r:=r5) (q:=p) cZ bP (.cons (aR bH (by simp)) (.cons (.refl _) .nil))) ?_;refine dX ?_;refine lo (jJ (E rfl) (E rfl)) rfl ?_;refine aEx ?_
 (first|refine ln rfl rfl rfl rfl ?_ |(refine gy rfl rfl ?_;refine lo (jJ (by first|exact W rfl id|exact E rfl) (E rfl)) rfl ?_)|refine lg rfl rfl (jJ (by first|exact W rfl id|exact E rfl) (E rfl)) rfl ?_);refine XE ?_;refine tW ?_;refine TU (β:=Unit) (fun _=>⟨[(4,.ptr r4 0),(5,.ptr r5 0)],[(r5,.box 50 [.ro 1 ((sG ps).map aX) .any,.ro 1 ((zW r).map aX) .any]),(r4,.box 33 [.ro 0 [] .nil,.ro 0 [] .nil,.ro 0 [] .nil,.bool false,.int .i64 0,.int .i64 0,.bool false,.int .i64 0,.int .i64 0,.ro 0 [] .nil,.ro 0 [] .nil,.ro 0 [] .nil,.ro 0 [] .nil,.ro 0 [] .nil])]⟩) (fun _=>True) ?_ ?_
 ·refine aB rfl (fun g6=> ?_) (fun g6=> ?_)
  ·rw[show zW r=[b3 r]from if_pos g6];refine dX ?_;refine lo (jJ (E rfl) (E rfl)) rfl ?_;refine z1 ?_;refine aD fun r39 h39=> ?_;repeat rcases h39 with⟨_,h39⟩
   refine wI ?_;refine jB (j:=39) rfl bP (aR bH (by simp)) ?_;refine iD ?_;exact⟨(),trivial,aK⟩
  rw[show zW r=[] by unfold zW;exact if_neg (fun e=>by rw[show(if decide (0<b3 r)=true then decide (b3 r<3)else false)=false from g6]at e;cases e)];refine eU (iQ (r:=r5) (cs':=[.ro 1 ((sG ps).map aX) .any,.ro 1 (([]:List Int).map aX) .any]) cZ (.cons (.refl _) (.cons (.le VLe.empty) .nil))) ?_;refine aP ?_;exact⟨(),trivial,aK⟩
 rintro⟨⟩-;refine pY ?_;refine nF ?_;refine mM (fY (j:=42) rfl aCY) ?_;refine z1 ?_;refine aD fun r43 h43=> ?_;repeat rcases h43 with⟨_,h43⟩
 refine z1 ?_;refine aD fun r44 h44=> ?_;repeat rcases h44 with⟨_,h44⟩
 refine jB (j:=43) rfl bP (aR bH (by simp)) ?_;refine jB (j:=44) rfl bP (aR bH (by simp)) ?_;refine nF ?_;refine z1 ?_;refine aD fun r46 h46=> ?_;repeat rcases h46 with⟨_,h46⟩
 refine z1 ?_;refine aD fun r47 h47=> ?_;repeat rcases h47 with⟨_,h47⟩
 refine jB (j:=46) rfl bP (aR bH (by simp)) ?_;refine jB (j:=47) rfl bP (aR bH (by simp)) ?_;refine nF ?_;refine z1 ?_;refine aD fun r49 h49=> ?_;repeat rcases h49 with⟨_,h49⟩
 refine jB (j:=49) rfl bP (aR bH (by simp)) ?_;refine nF ?_;refine nF ?_;refine z1 ?_;refine aD fun r52 h52=> ?_;repeat rcases h52 with⟨_,h52⟩
 refine jB (j:=52) rfl bP (aR bH (by simp)) ?_;refine z1 ?_;refine aD fun r53 h53=> ?_;repeat rcases h53 with⟨_,h53⟩
 refine jB (j:=53) rfl bP (aR bH (by simp)) ?_;refine nF ?_;refine nF ?_;refine nF ?_;refine nF ?_;refine nF ?_;refine nF ?_;refine z1 ?_;refine aD fun r60 h60=> ?_;repeat rcases h60 with⟨_,h60⟩
 refine jB (j:=60) rfl bP (aR bH (by simp)) ?_;refine nF ?_;refine z1 ?_;refine aD fun r62 h62=> ?_;repeat rcases h62 with⟨_,h62⟩
 refine jB (j:=62) rfl bP (aR bH (by simp)) ?_;refine z1 ?_;refine aD fun r63 h63=> ?_;repeat rcases h63 with⟨_,h63⟩
 refine jB (j:=63) rfl bP (aR bH (by simp)) ?_;refine nF ?_;refine z1 ?_;refine aD fun r65 h65=> ?_;repeat rcases h65 with⟨_,h65⟩
 refine jB (j:=65) rfl bP (aR bH (by simp)) ?_;refine nF ?_;refine nF ?_;refine z1 ?_;refine aD fun r68 h68=> ?_;repeat rcases h68 with⟨_,h68⟩
 refine jB (j:=68) rfl bP (aR bH (by simp)) ?_;refine mM (fY (j:=68) rfl (KK (l:=HX) (by simp[HX]))) ?_;refine nF ?_;refine mM (fY (j:=69) rfl TE) ?_;refine z1 ?_;refine aD fun r70 h70=> ?_;repeat rcases h70 with⟨_,h70⟩
 refine nF ?_;refine nS ?_;refine an ?_;refine eU (iQ (r:=r4) (cs':=VH (sG ps) (zW r) r70) cZ (.cons (.refl _) (.cons (.refl _) (.cons (.refl _) (.cons (.refl _) (.cons (.refl _) (.cons (.refl _) (.cons (.refl _) (.cons (.refl _) (.cons (.refl _) (.cons (.refl _) (.cons (.refl _) (.cons (.refl _) (.cons (.refl _) (.cons (.le VLe.empty) .nil))))))))))))))) ?_;refine aP ?_;apply aF;exact aG
 ·exact⟨r70,rfl,rfl⟩
 ·exact aA
def TG (q:Nat):List AV:=[.ro 2 (smallM.ty.map eF) .any,.ro 3 [] .any,.ro 1 (smallM.fn.map aX) .any,.bool false,.int .i64 0,.int .i64 0,.bool false,.int .i64 0,.int .i64 0,.ro 3 [] .any,.ro 2 (smallM.ex.map fQ) .any,.ro 2 [] .any,.own q 0 1,.ro 2 [] .any]
theorem DX:SCall Tryz.prog 50 [] [] (fun y σ=>∃q,y=.agg (TG q)∧σ=[(q,.arr 44 2 [[.ro 0 [] .nil,.ro 4 (smallIs.map (iv .any)) .any]])]):=by
 refine cC 15 [0] Tryz.func50 ?_;refine dW ?_;apply al;rfl;(exact dM);refine aD fun r0 h0=> ?_;repeat rcases h0 with⟨_,h0⟩
 refine EU ?_;refine dW ?_;refine z1 ?_;refine aD fun r1 h1=> ?_;repeat rcases h1 with⟨_,h1⟩
 refine jB (j:=1) rfl bP (aR bH (by simp)) ?_;refine z1 ?_;refine aD fun r2 h2=> ?_;repeat rcases h2 with⟨_,h2⟩
 refine jB (j:=2) rfl bP (aR bH (by simp)) ?_;refine nF ?_;refine z1 ?_;refine aD fun r4 h4=> ?_;repeat rcases h4 with⟨_,h4⟩
 refine jB (j:=4) rfl bP (aR bH (by simp)) ?_;refine z1 ?_;refine aD fun r5 h5=> ?_;repeat rcases h5 with⟨_,h5⟩
 refine jB (j:=5) rfl bP (aR bH (by simp)) ?_;refine nF ?_;refine z1 ?_;refine aD fun r7 h7=> ?_;repeat rcases h7 with⟨_,h7⟩
 refine jB (j:=7) rfl bP (aR bH (by simp)) ?_;refine nF ?_;refine nF ?_;refine nF ?_;refine z1 ?_;refine aD fun r11 h11=> ?_;repeat rcases h11 with⟨_,h11⟩
 refine jB (j:=11) rfl bP (aR bH (by simp)) ?_;refine mM (fY (j:=11) rfl (KK (l:=smallIs) (by simp[smallIs]))) ?_;refine nF ?_;refine z1 ?_;refine aD fun r13 h13=> ?_;repeat rcases h13 with⟨_,h13⟩
 refine nF ?_;refine nS ?_;refine an ?_;refine eU (iQ (r:=r0) (cs':=TG r13) cZ (.cons (.refl _) (.cons (.le VLe.empty) (.cons (.refl _) (.cons (.refl _) (.cons (.refl _) (.cons (.refl _) (.cons (.refl _) (.cons (.refl _) (.cons (.refl _) (.cons (.le VLe.empty) (.cons (.refl _) (.cons (.le VLe.empty) (.cons (.refl _) (.cons (.le VLe.empty) .nil))))))))))))))) ?_;refine aP ?_;apply aF;exact aG
 ·exact⟨r13,rfl,rfl⟩
 ·exact aA
theorem TH{x x' y:AV}(h:VLe x x')(hx:x'.cell=true)(hy:y.cell=true){es:List (List AV)}(hes:iT 2 es):VLe (.ro 2 ([x,y]::es) .any) (.ro 2 ([x',y]::es) .any):=by
 refine VLe.ro (by simp) ?_ ?_
 ·intro e he;rcases List.mem_cons.1 he with rfl|he
  ·exact⟨rfl,fun a ha=>by
    simp only[List.mem_cons,List.not_mem_nil,or_false]at ha;rcases ha with rfl|rfl<;>assumption⟩
  ·exact hes e he
 ·intro i e e' h1 h2;cases i with
  |zero=>
   cases h1;cases h2
   refine⟨rfl,fun j a a' ha ha'=> ?_⟩
   match j with
   |0=>cases ha;cases ha';exact h
   |1=>cases ha;cases ha';exact VLe.refl _
   | _ +2=>cases ha
  |succ i=>
   obtain rfl:=Option.some.inj (h1.symm.trans h2);exact⟨rfl,fun j a a' ha ha'=>by obtain rfl:=Option.some.inj (ha.symm.trans ha');exact VLe.refl _⟩
theorem HY:iT 2 []:=fun x hx=>by simp at hx
def QO:Md:= { smallM with co:=[⟨[],[⟨32,0,0,[]⟩,⟨32,1,0,[]⟩]⟩] }
def uIs:List Ins:=[⟨0,0,0,[]⟩,⟨106,0,0,[]⟩]
def QP:Md:= { smallM with co:=[⟨[],uIs⟩] }
def aAv (x:Ins):Bool:=decide (0≤x.a)&&decide (x.a≤9223372036854775807)&&x.l.all (fun n=>decide (0≤n))&&decide (x.l.length≤1000000)
theorem aHY{x:Ins}(h:aAv x=true):x.Ck:=by
 unfold aAv at h;simp only[Bool.and_eq_true,decide_eq_true_eq,List.all_eq_true]at h;exact⟨fun _=>h.1.1.1,fun _=>h.1.2,h.2,h.1.1.2⟩
def aHZ (m:Md):Bool:=m.ty.all (fun t=>decide (t.pr.length≤100)&&decide (t.rs.length≤100))&&decide (m.im.length≤1000000)&&m.co.all (fun c=>decide (c.bd.length≤100000)&&c.bd.all aAv&&decide (c.ls.length≤1000))
theorem TI{m:Md}(h:aHZ m=true):m.Fn:=by
 unfold aHZ at h;simp only[Bool.and_eq_true,decide_eq_true_eq,List.all_eq_true]at h;obtain⟨⟨h1,h2⟩,h3⟩:=h;exact⟨⟨fun t ht=>h1 t ht,h2⟩,fun c hc=>⟨(h3 c hc).1.1,fun x hx=>aHY ((h3 c hc).1.2 x hx)⟩,fun c hc=>(h3 c hc).2⟩
theorem aFT:CZ smallM 0=true:=by decide+kernel
theorem aFU:CZ smallM 1=false:=by decide+kernel
theorem aFV:CZ QO 0=false:=by decide+kernel
theorem aFW:CZ QP 0=true:=by decide+kernel
theorem QQ:SCall Tryz.prog 73 [] [] (fun y σ=>y=.bool true∧σ=[]):=by
 refine cC 2 [0] Tryz.func73 ?_;refine sU ?_;refine oE Tryz.call16 QN rfl bG bK ?_;refine dG ?_;apply aF;exact aG
 ·exact⟨rfl,rfl⟩
 ·exact aA
theorem QR:SCall Tryz.prog 22 [] [] (fun y σ=>y=.bool true∧σ=[]):=by
 have hs3:smallIs.length=3:=rfl;have w1:=pK smallM (TI (by decide)) 0;have w2:=pK QO (TI (by decide)) 0;have w3:=pK QP (TI (by decide)) 0;have w4:=pK smallM (TI (by decide)) 1;rw[aFT]at w1;rw[aFV]at w2;rw[aFW]at w3;rw[aFU]at w4;refine cC 43 [0,1,2,3] Tryz.func22 ?_;refine sU ?_;refine cw [] Tryz.call50 HV rfl aC aA ?_;rintro _ σ' ⟨rfl,rfl⟩ h4;apply aT;(exact bF);apply al;rfl;(exact dM);refine aD fun r1 h1=> ?_;repeat rcases h1 with⟨_,h1⟩
 refine nS ?_;refine dW ?_;refine cw [] Tryz.call50 DX rfl aC aA ?_;rintro _ σ' ⟨q1,rfl,rfl⟩ h5
 replace h5:=iC h5;repeat rcases h5 with⟨_,h5⟩
 unfold TG;apply aT;(exact bF);apply al;rfl;(exact dM);refine aD fun r2 h2=> ?_;repeat rcases h2 with⟨_,h2⟩
 refine iD ?_;refine gI [(0,true),(1,true),(2,true),(3,true),(4,true),(5,true),(6,true),(7,true),(8,true),(9,true),(10,false)] ?_;refine jE ?_;refine jE ?_;refine RI ?_;refine WA ?_;refine XF ?_;apply aA8;rfl;infer_instance;rfl;rfl;rfl;rfl;(exact cZ);(exact atT);(exact xK);rfl;(exact gE);refine kK ?_;refine eU (oF (r:=r2) (q:=q1) cZ bP (.cons (.refl _) (.cons (.refl _) (.cons (.refl _) (.cons (.refl _) (.cons (.refl _) (.cons (.refl _) (.cons (.refl _) (.cons (.refl _) (.cons (.refl _) (.cons (.refl _) (.cons (.refl _) (.cons (.refl _) (.cons (aR bH (by simp)) (.cons (.refl _) .nil))))))))))))))) ?_;refine eU (iQ (r:=r2) (cs':=cK QO) cZ (.cons (.refl _) (.cons (.refl _) (.cons (.refl _) (.cons (.refl _) (.cons (.refl _) (.cons (.refl _) (.cons (.refl _) (.cons (.refl _) (.cons (.refl _) (.cons (.refl _) (.cons (.refl _) (.cons (.refl _) (.cons (.le (TH VLe.empty rfl rfl HY)) (.cons (.refl _) .nil))))))))))))))) ?_;refine BG ?_;refine cw [] Tryz.call50 DX rfl aC aA ?_;rintro _ σ' ⟨q2,rfl,rfl⟩ h16
 replace h16:=iC h16;repeat rcases h16 with⟨_,h16⟩
 unfold TG;apply aT;(exact bF);apply al;rfl;(exact dM);refine aD fun r3 h3=> ?_;repeat rcases h3 with⟨_,h3⟩
 refine nS ?_;refine fS ?_;refine nF ?_;refine nF ?_;refine z1 ?_;refine aD fun r21 h21=> ?_;repeat rcases h21 with⟨_,h21⟩
 refine VZ ?_;refine PF ?_;refine jB (j:=21) rfl bP (aR bH (by simp)) ?_;refine mM (fY (j:=21) rfl (KK (l:=uIs) (by simp[uIs]))) ?_;refine PG ?_;refine jP ?_;refine eU (oF (r:=r3) (q:=q2) cZ bP (.cons (.refl _) (.cons (.refl _) (.cons (.refl _) (.cons (.refl _) (.cons (.refl _) (.cons (.refl _) (.cons (.refl _) (.cons (.refl _) (.cons (.refl _) (.cons (.refl _) (.cons (.refl _) (.cons (.refl _) (.cons (aR bH (by simp)) (.cons (.refl _) .nil))))))))))))))) ?_;refine eU (iQ (r:=r3) (cs':=cK QP) cZ (.cons (.refl _) (.cons (.refl _) (.cons (.refl _) (.cons (.refl _) (.cons (.refl _) (.cons (.refl _) (.cons (.refl _) (.cons (.refl _) (.cons (.refl _) (.cons (.refl _) (.cons (.refl _) (.cons (.refl _) (.cons (.le (TH VLe.empty rfl rfl HY)) (.cons (.refl _) .nil))))))))))))))) ?_;refine BG ?_;refine oE Tryz.call73 QQ rfl bG bK ?_;refine xP ?_;refine kV rfl rfl Tryz.call23 (fun _=>w1) rfl bG bK ?_;refine rS ?_;refine xP ?_;refine kV rfl rfl Tryz.call23 (fun _=>w2) rfl bG bK ?_;refine tT ?_;refine rS ?_;refine xP ?_;refine kV rfl rfl Tryz.call23 (fun _=>w3) rfl bG bK ?_;refine rS ?_;refine xP ?_;refine kV rfl rfl Tryz.call23 (fun _=>w4) rfl bG bK ?_;refine aBm ?_;apply aF;exact aG
 ·exact⟨rfl,rfl⟩
 ·exact aA
def aAw:Co:=⟨[],HX⟩
end Go.Proofs.YtjpdadobblffmaaGreat
namespace Go.Proofs.YtjpdadobblffmaaGreat
open Go.RowKit Go.ChangeShapes Go.WideShapes Go.ChangeAt Go.Deep
structure RT where
 a:Nat
 lb:List (List Int)
 bad:Bool
 l:List Int
 dd:Bool
def eD (t:RT):RT:=⟨t.a,t.lb,true,t.l,t.dd⟩
def KL (x k:Int):Bool:=if(if(x !=k)=true then(x !=0)else false)=true then(k !=0)else false
def jH (t:RT) (k:Int):Int×RT:=
 if((t.l.length:Int)==0)=true then(k,if(!t.dd)=true then eD t else t)
 else(if(t.l.getLast?.getD 0==0)=true then k else t.l.getLast?.getD 0,⟨t.a,t.lb,if KL (t.l.getLast?.getD 0) k=true then true else t.bad,t.l.dropLast,t.dd⟩)
def aV (t:RT) (ks:List Int):RT:=ks.reverse.foldl (fun t k=>(jH t k).2) t
def gY (t:RT) (ks:List Int):RT:=⟨t.a,t.lb,t.bad,t.l++ks,t.dd⟩
def pL (t:RT):RT:=⟨t.a,t.lb,t.bad,[],true⟩
def dA (t:RT) (n:Int):List Int×RT:=
 if(if decide (n<0)=true then true else decide ((t.lb.length:Int)-1-n<0))=true then([],eD t)else(t.lb.getD ((t.lb.length:Int)-1-n).toNat [],t)
def eO (bd:List Ins) (t:RT) (op:Int):Bool×RT:=
 if(if decide ((t.a:Int)<bd.length)=true then((bd.getD t.a ⟨0,0,0,[]⟩).op==op)else false)=true then(true,⟨t.a+1,t.lb,t.bad,t.l,t.dd⟩)else(false,t)
def pM (t:RT) (res:List Int) (l:List Int) (dd:Bool):RT:=
 let t1:=aV t res
 ⟨t1.a,t1.lb.dropLast,if decide ((0:Int)<t1.l.length)=true then true else t1.bad,l,dd⟩
def dP (lp:RT→RT) (res br:List Int) (t:RT):RT:=pM (lp ⟨t.a,t.lb++ [br],t.bad,[],false⟩) res t.l t.dd
def rL (lp:RT→RT) (bd:List Ins) (x:Ins) (t:RT):RT:=
 let r:=bB x.a
 let t1:=if(x.op==4)=true then aV t [1]else t
 let t2:=if(x.op==3)=true then dP lp r [] t1 else dP lp r r t1
 let t3:=if(x.op==4)=true then(let p:=eO bd t2 5;if p.1=true then dP lp r r p.2 else if decide ((0:Int)<r.length)=true then eD p.2 else p.2)else t2
 let p:=eO bd t3 11
 gY (if(!p.1)=true then eD p.2 else p.2) r
def nP (w:List Int) (t:RT) (n:Int):RT:=let r:=dA t n;if(!(decide (w=r.1)))=true then eD r.2 else r.2
def fZ (res:List Int) (x:Ins) (t:RT):RT:=
 if(x.op==12)=true then let r:=dA t x.a;pL (aV r.2 r.1)
 else if(x.op==13)=true then let r:=dA (aV t [1]) x.a;gY (aV r.2 r.1) r.1
 else if(x.op==14)=true then let r:=dA (aV t [1]) x.a;pL (aV (x.l.foldl (nP r.1) r.2) r.1)
 else if(x.op==15)=true then pL (aV t res)
 else pL t
def iR (m:Md) (f:Int):FT×Bool:=
 let k:=if(if decide (0≤f)=true then decide (f<m.im.length)else false)=true then(m.im.getD f.toNat ⟨[],[],0⟩).ty
  else if(if decide (0≤f)=true then decide (f-m.im.length<m.fn.length)else false)=true then m.fn.getD (f-m.im.length).toNat 0 else-1
 if(if decide (k<0)=true then true else decide ((m.ty.length:Int)≤k))=true then(rG,false)else(m.ty.getD k.toNat rG,true)
def pN (m:Md) (x:Ins) (t:RT):RT:=
 if(x.op==16)=true then let y:=iR m x.a;if(!y.2)=true then eD t else gY (aV t y.1.pr) y.1.rs
 else if(if(!m.tb.has)=true then true else decide ((m.ty.length:Int)≤x.a))=true then eD t
 else gY (aV (aV t [1]) (m.ty.getD x.a.toNat rG).pr) (m.ty.getD x.a.toNat rG).rs
def sH (x:Ins) (c k:Int) (t:RT):RT:=
 let t:=if decide (c<x.a)=true then eD t else t
 if decide (54≤x.op)=true then aV t [1,k]else gY (aV t [1]) [k]
def yT (x:Ins) (t:RT):RT:=
 if(x.op==40||x.op==54)=true then sH x 2 1 t
 else if(x.op==41||x.op==55)=true then sH x 3 2 t
 else if(x.op==63)=true then gY t [1]
 else if(x.op==64)=true then gY (aV t [1]) [1]
 else sH x 0 1 t
def AZ (m:Md) (x:Ins) (t:RT):RT:=yT x (if(!m.me.has)=true then eD t else t)
def gN (m:Md) (ls:List Int) (x:Ins) (t:RT):RT:=
 if(x.op==65)=true then gY t [1]
 else if(x.op==66)=true then gY t [2]
 else if(x.op==32||(x.op==33||x.op==34))=true then
  if decide ((ls.length:Int)≤x.a)=true then eD t
  else
   let k:=ls.getD x.a.toNat 0
   let t:=if(x.op !=32)=true then aV t [k]else t
   if(x.op !=33)=true then gY t [k]else t
 else if(x.op==35||x.op==36)=true then
  if(if decide ((m.gl.length:Int)≤x.a)=true then true else if(x.op==36)=true then !(m.gl.getD x.a.toNat HF).mu else false)=true then eD t
  else if(x.op==35)=true then gY t [(m.gl.getD x.a.toNat HF).kd]else aV t [(m.gl.getD x.a.toNat HF).kd]
 else AZ m x t
def aH0 (t:RT) (k:Int) (n:Nat):RT:=aV t (List.replicate n k)
def LI (op:Int):Bool:=op==12||(op==13||(op==14||(op==15||op==0)))
def gS (m:Md) (ls res:List Int) (x:Ins) (t:RT):RT:=
 if LI x.op=true then fZ res x t
 else if(x.op==16||x.op==17)=true then pN m x t
 else if(x.op==26)=true then(jH t 0).2
 else if(x.op==27)=true then let r:=jH (aV t [1]) 0;let r2:=jH r.2 r.1;gY r2.2 [r2.1]
 else if(x.op==1)=true then t
 else if(nQ x.op).2.2.2=true then gY (aH0 t (nQ x.op).2.1 (nQ x.op).1.toNat) [(nQ x.op).2.2.1]
 else gN m ls x t
def fB (m:Md) (ls res:List Int) (bd:List Ins) (lp:RT→RT) (x:Ins) (t:RT):RT:=
 if oN x.op=true then rL lp bd x ⟨t.a+1,t.lb,t.bad,t.l,t.dd⟩else gS m ls res x ⟨t.a+1,t.lb,t.bad,t.l,t.dd⟩
def lT (m:Md) (ls res:List Int) (bd:List Ins):Nat→RT→RT
 |0,t=>t
 |f+1,t=>
  if(if decide ((t.a:Int)<bd.length)=true then !t.bad else false)=true then
   let x:=bd.getD t.a ⟨0,0,0,[]⟩
   if(if(x.op==11)=true then true else(x.op==5))=true then t
   else lT m ls res bd f (fB m ls res bd (lT m ls res bd f) x t)
  else t
theorem TJ(t:RT)(k:Int):(jH t k).2.a=t.a:=by
 unfold jH;refine aJ (p:=fun r:Int×RT=>r.2.a=t.a) (fun _=> ?_) (fun _=>rfl);exact aJ (p:=fun r:RT=>r.a=t.a) (fun _=>rfl) (fun _=>rfl)
theorem aAx(t:RT)(k:Int):(jH t k).2.lb=t.lb:=by
 unfold jH;refine aJ (p:=fun r:Int×RT=>r.2.lb=t.lb) (fun _=> ?_) (fun _=>rfl);exact aJ (p:=fun r:RT=>r.lb=t.lb) (fun _=>rfl) (fun _=>rfl)
theorem BT(t:RT)(k:Int)(h:t.bad=true):(jH t k).2.bad=true:=by
 unfold jH;refine aJ (p:=fun r:Int×RT=>r.2.bad=true) (fun _=> ?_) (fun _=> ?_)
 ·exact aJ (p:=fun r:RT=>r.bad=true) (fun _=>rfl) (fun _=>h)
 ·dsimp only;rw[h];simp
theorem yU{p:RT→Prop}(h:∀s w,p s→p (jH s w).2):∀(ks:List Int) (s:RT),p s→p (aV s ks):=by
 have:∀(l:List Int) (s:RT),p s→p (l.foldl (fun s k=>(jH s k).2) s):=by
  intro l
  induction l with
  |nil=>intro s hs;exact hs
  |cons a l ih=>intro s hs;exact ih _ (h s a hs)
 intro ks s hs;exact this _ s hs
theorem xA(t:RT)(ks:List Int):(aV t ks).a=t.a:=yU (p:=fun q=>q.a=t.a) (fun q w h=>(TJ q w).trans h) ks t rfl
theorem qC(t:RT)(ks:List Int):(aV t ks).lb=t.lb:=yU (p:=fun q=>q.lb=t.lb) (fun q w h=>(aAx q w).trans h) ks t rfl
theorem DY(t:RT)(ks:List Int)(h:t.bad=true):(aV t ks).bad=true:=yU (p:=fun q=>q.bad=true) (fun q w h=>BT q w h) ks t h
theorem KM(t:RT)(n:Int):(dA t n).2.a=t.a:=by
 unfold dA;exact aJ (p:=fun r:List Int×RT=>r.2.a=t.a) (fun _=>rfl) (fun _=>rfl)
theorem rM(t:RT)(n:Int)(h:t.bad=true):(dA t n).2.bad=true:=by
 unfold dA;exact aJ (p:=fun r:List Int×RT=>r.2.bad=true) (fun _=>rfl) (fun _=>h)
def Adv (t:RT) (n:Nat) (q:RT):Prop:=t.a+n≤q.a∧(t.bad=true→q.bad=true)
theorem Adv.refl (t:RT):Adv t 0 t:=⟨Nat.le_refl _,id⟩
theorem Adv.trans {t q r:RT}{n k:Nat}(h:Adv t n q)(h':Adv q k r):Adv t (n+k) r:=⟨by have:=h.1;have:=h'.1;omega,fun e=>h'.2 (h.2 e)⟩
theorem Adv.le {t q:RT}{n k:Nat}(h:Adv t n q)(hk:k≤n):Adv t k q:=⟨by have:=h.1;omega,h.2⟩
theorem Adv.take {t q:RT}{n:Nat}(h:Adv t n q)(ks:List Int):Adv t n (aV q ks):=⟨by rw[xA];exact h.1,fun e=>DY _ _ (h.2 e)⟩
theorem Adv.one {t q:RT}{n:Nat}(h:Adv t n q)(k:Int):Adv t n (jH q k).2:=⟨by rw[TJ];exact h.1,fun e=>BT _ _ (h.2 e)⟩
theorem Adv.put {t q:RT}{n:Nat}(h:Adv t n q)(ks:List Int):Adv t n (gY q ks):=h
theorem Adv.ends {t q:RT}{n:Nat}(h:Adv t n q):Adv t n (pL q):=h
theorem Adv.bad {t q:RT}{n:Nat}(h:Adv t n q):Adv t n (eD q):=⟨h.1,fun _=>rfl⟩
theorem Adv.label {t q:RT}{n:Nat}(h:Adv t n q)(x:Int):Adv t n (dA q x).2:=⟨by rw[KM];exact h.1,fun e=>rM _ _ (h.2 e)⟩
theorem Adv.tabs {t q:RT}{n:Nat}(h:Adv t n q)(w l:List Int):Adv t n (l.foldl (nP w) q):=by
 induction l generalizing q with
 |nil=>exact h
 |cons a l ih=>exact ih (aJ (p:=Adv t n) (fun _=>(h.label a).bad) (fun _=>h.label a))
theorem QS(res:List Int)(x:Ins)(t:RT):Adv t 0 (fZ res x t):=by
 have h:=Adv.refl t;unfold fZ;refine aJ (fun _=>((h.label _).take _).ends) (fun _=> ?_);refine aJ (fun _=>(((h.take _).label _).take _).put _) (fun _=> ?_);refine aJ (fun _=>((((h.take _).label _).tabs _ _).take _).ends) (fun _=> ?_);exact aJ (fun _=>(h.take _).ends) (fun _=>h.ends)
theorem aAy(m:Md)(x:Ins)(t:RT):Adv t 0 (pN m x t):=by
 have h:=Adv.refl t;unfold pN;refine aJ (fun _=>aJ (p:=Adv t 0) (fun _=>h.bad) (fun _=>(h.take _).put _)) (fun _=> ?_);exact aJ (fun _=>h.bad) (fun _=>((h.take _).take _).put _)
theorem KN{t q:RT}(h:Adv t 0 q)(x:Ins)(c k:Int):Adv t 0 (sH x c k q):=by
 have ha:Adv t 0 (if decide (c<x.a)=true then eD q else q):=aJ (fun _=>h.bad) (fun _=>h);exact aJ (fun _=>ha.take _) (fun _=>(ha.take _).put _)
theorem aCZ(m:Md)(x:Ins)(t:RT):Adv t 0 (AZ m x t):=by
 have h:Adv t 0 (if(!m.me.has)=true then eD t else t):=aJ (fun _=>(Adv.refl t).bad) (fun _=>Adv.refl t);unfold AZ;generalize(if(!m.me.has)=true then eD t else t)=q at h;unfold yT;refine aJ (fun _=>KN h x _ _) (fun _=> ?_);refine aJ (fun _=>KN h x _ _) (fun _=> ?_);refine aJ (fun _=>h.put _) (fun _=> ?_);exact aJ (fun _=>(h.take _).put _) (fun _=>KN h x _ _)
theorem QT(m:Md)(ls:List Int)(x:Ins)(t:RT):Adv t 0 (gN m ls x t):=by
 have h:=Adv.refl t;unfold gN;refine aJ (fun _=>h.put _) (fun _=> ?_);refine aJ (fun _=>h.put _) (fun _=> ?_);refine aJ (fun _=>aJ (fun _=>h.bad) (fun _=> ?_)) (fun _=> ?_)
 ·have hq:Adv t 0 (if(x.op !=32)=true then aV t [ls.getD x.a.toNat 0]else t):=aJ (fun _=>h.take _) (fun _=>h);exact aJ (fun _=>hq.put _) (fun _=>hq)
 refine aJ (fun _=>aJ (fun _=>h.bad) (fun _=>aJ (fun _=>h.put _) (fun _=>h.take _))) (fun _=>aCZ m x t)
theorem aAz(m:Md)(ls res:List Int)(x:Ins)(t:RT):Adv t 0 (gS m ls res x t):=by
 have h:=Adv.refl t;unfold gS;refine aJ (fun _=>QS _ _ _) (fun _=> ?_);refine aJ (fun _=>aAy _ _ _) (fun _=> ?_);refine aJ (fun _=>h.one 0) (fun _=> ?_);refine aJ (fun _=>(((h.take _).one _).one _).put _) (fun _=> ?_);refine aJ (fun _=>h) (fun _=> ?_);exact aJ (fun _=>(h.take _).put _) (fun _=>QT _ _ _ _)
theorem rN(bd:List Ins)(t:RT)(op:Int):Adv t 0 (eO bd t op).2:=by
 unfold eO;exact aJ (p:=fun r:Bool×RT=>Adv t 0 r.2) (fun _=>⟨Nat.le_succ _,id⟩) (fun _=>Adv.refl t)
theorem kT{lp:RT→RT}(hl:∀q,Adv q 0 (lp q))(res br:List Int)(t:RT):Adv t 0 (dP lp res br t):=by
 have h:=(hl ⟨t.a,t.lb++ [br],t.bad,[],false⟩).take res;refine⟨h.1,fun e=> ?_⟩;show(if _ then true else _)=true;rw[h.2 e];simp
theorem aAA{lp:RT→RT}(hl:∀q,Adv q 0 (lp q))(bd:List Ins)(x:Ins)(t:RT):Adv t 0 (rL lp bd x t):=by
 unfold rL;dsimp only;have h1:Adv t 0 (if(x.op==4)=true then aV t [1]else t):=aJ (fun _=>(Adv.refl t).take _) (fun _=>Adv.refl t);generalize(if(x.op==4)=true then aV t [1]else t)=t1 at h1;have h2:Adv t 0 (if(x.op==3)=true then dP lp (bB x.a) [] t1 else dP lp (bB x.a) (bB x.a) t1):=aJ (fun _=>h1.trans (kT hl _ _ _)) (fun _=>h1.trans (kT hl _ _ _));generalize(if(x.op==3)=true then dP lp (bB x.a) [] t1 else dP lp (bB x.a) (bB x.a) t1)=t2 at h2;have hp:=h2.trans (rN bd t2 5);have h3:Adv t 0 (if(x.op==4)=true then(if(eO bd t2 5).1=true then dP lp (bB x.a) (bB x.a) (eO bd t2 5).2 else if decide ((0:Int)<(bB x.a).length)=true then eD (eO bd t2 5).2 else(eO bd t2 5).2)else t2):=
  aJ (fun _=>aJ (fun _=>hp.trans (kT hl _ _ _)) (fun _=>aJ (fun _=>hp.bad) (fun _=>hp))) (fun _=>h2)
 generalize(if(x.op==4)=true then(if(eO bd t2 5).1=true then dP lp (bB x.a) (bB x.a) (eO bd t2 5).2 else if decide ((0:Int)<(bB x.a).length)=true then eD (eO bd t2 5).2 else(eO bd t2 5).2)else t2)=t3 at h3;have hq:=h3.trans (rN bd t3 11);exact Adv.put (aJ (fun _=>hq.bad) (fun _=>hq)) _
theorem vK(m:Md)(ls res:List Int)(bd:List Ins){lp:RT→RT}(hl:∀q,Adv q 0 (lp q))(x:Ins)(t:RT):Adv t 1 (fB m ls res bd lp x t):=by
 unfold fB;refine aJ (fun _=> ?_) (fun _=> ?_)
 ·have h:=aAA hl bd x ⟨t.a+1,t.lb,t.bad,t.l,t.dd⟩;exact⟨h.1,h.2⟩
 ·have h:=aAz m ls res x ⟨t.a+1,t.lb,t.bad,t.l,t.dd⟩;exact⟨h.1,h.2⟩
theorem uX(m:Md)(ls res:List Int)(bd:List Ins):∀(f:Nat) (t:RT),Adv t 0 (lT m ls res bd f t)
 |0,t=>Adv.refl t
 |f+1,t=>by
  rw[lT];refine aJ (fun _=> ?_) (fun _=>Adv.refl t);exact aJ (p:=Adv t 0) (fun _=>Adv.refl t) (fun _=>((vK m ls res bd (uX m ls res bd f) _ t).trans (uX m ls res bd f _)).le (Nat.zero_le _))
theorem QU{l1 l2:RT→RT}{res br:List Int}{t:RT}(h:∀q,t.a≤q.a→l1 q=l2 q):dP l1 res br t=dP l2 res br t:=by
 unfold dP;rw[h ⟨t.a,t.lb++ [br],t.bad,[],false⟩ (Nat.le_refl _)]
theorem VI{l1 l2:RT→RT}(hl:∀q,Adv q 0 (l2 q)){bd:List Ins}{x:Ins}{t:RT}(h:∀q,t.a≤q.a→l1 q=l2 q):rL l1 bd x t=rL l2 bd x t:=by
 have h1:Adv t 0 (if(x.op==4)=true then aV t [1]else t):=aJ (fun _=>(Adv.refl t).take _) (fun _=>Adv.refl t);have hb:∀ {res br:List Int} {q:RT},Adv t 0 q→dP l1 res br q=dP l2 res br q:=fun hq=>QU fun q' hq'=>h q' (Nat.le_trans hq.1 hq')
 unfold rL;dsimp only;generalize(if(x.op==4)=true then aV t [1]else t)=t1 at h1;rw[hb h1,hb h1];have h2:Adv t 0 (if(x.op==3)=true then dP l2 (bB x.a) [] t1 else dP l2 (bB x.a) (bB x.a) t1):=aJ (fun _=>h1.trans (kT hl _ _ _)) (fun _=>h1.trans (kT hl _ _ _));generalize(if(x.op==3)=true then dP l2 (bB x.a) [] t1 else dP l2 (bB x.a) (bB x.a) t1)=t2 at h2;rw[hb (h2.trans (rN bd t2 5))]
theorem DZ{m:Md}{ls res:List Int}{l1 l2:RT→RT}(hl:∀q,Adv q 0 (l2 q)){bd:List Ins}{x:Ins}{t:RT}(h:∀q,t.a+1≤q.a→l1 q=l2 q):fB m ls res bd l1 x t=fB m ls res bd l2 x t:=by
 unfold fB;rw[VI hl h]
theorem vL(m:Md)(ls res:List Int)(bd:List Ins):∀(f g:Nat) (t:RT),bd.length+1≤f+t.a→bd.length+1≤g+t.a→lT m ls res bd f t=lT m ls res bd g t
 |0,0,_,_,_=>rfl
 |0,g+1,t,h,_=>by
  rw[lT,lT,if_neg];rw[decide_eq_false (by omega),if_neg (by simp)];simp
 |f+1,0,t,_,h=>by
  rw[lT,lT,if_neg];rw[decide_eq_false (by omega),if_neg (by simp)];simp
 |f+1,g+1,t,h,h'=>by
  rw[lT,lT];dsimp only;have e:∀x,fB m ls res bd (lT m ls res bd f) x t=fB m ls res bd (lT m ls res bd g) x t:=fun x=>DZ (uX m ls res bd g) fun q hq=>vL m ls res bd f g q (by omega) (by omega)
  rw[e];have h2:=(vK m ls res bd (uX m ls res bd g) (bd.getD t.a ⟨0,0,0,[]⟩) t).1;rw[vL m ls res bd f g _ (by omega) (by omega)]
def LR (m:Md) (ls res:List Int) (bd:List Ins) (t:RT):RT:=lT m ls res bd (bd.length+1) t
theorem EA(m:Md)(ls res:List Int)(bd:List Ins)(t:RT):Adv t 0 (LR m ls res bd t):=uX m ls res bd _ t
theorem OM(m:Md)(ls res:List Int)(bd:List Ins)(t:RT):LR m ls res bd t=
  if(if decide ((t.a:Int)<bd.length)=true then !t.bad else false)=true then
   (if(if((bd.getD t.a ⟨0,0,0,[]⟩).op==11)=true then true else((bd.getD t.a ⟨0,0,0,[]⟩).op==5))=true then t
   else LR m ls res bd (fB m ls res bd (LR m ls res bd) (bd.getD t.a ⟨0,0,0,[]⟩) t))
  else t:=by
 have e:∀x,fB m ls res bd (lT m ls res bd bd.length) x t=fB m ls res bd (LR m ls res bd) x t:=fun x=>DZ (EA m ls res bd) fun q hq=>vL m ls res bd _ _ q (by omega) (by omega)
 conv=>lhs;rw[LR,lT]
 dsimp only;rw[e];have h2:=(vK m ls res bd (EA m ls res bd) (bd.getD t.a ⟨0,0,0,[]⟩) t).1;rw[vL m ls res bd bd.length (bd.length+1) _ (by omega) (by omega)];rfl
def ON (m:Md) (k:Int):Bool:=
 if(if(if(if(if decide (k<0)=true then true else decide ((m.co.length:Int)≤k))=true then true else decide ((m.fn.length:Int)≤k))=true then true else decide (m.fn.getD k.toNat 0<0))=true then true else decide ((m.ty.length:Int)≤m.fn.getD k.toNat 0))=true then false
 else
  let t:=m.ty.getD (m.fn.getD k.toNat 0).toNat rG
  let c:=m.co.getD k.toNat ⟨[],[]⟩
  let ls:=t.pr++c.ls
  if decide ((32:Int)<ls.length)=true then false
  else
   let r:=dP (LR m ls t.rs c.bd) t.rs t.rs ⟨0,[],false,[],false⟩
   if(!r.bad)=true then((r.a:Int)==c.bd.length)else false
def lbC (c:Ct):List Int:=if(c.op==3)=true then []else bB c.kd
structure Cor (o:List Ct) (op kd:Int) (base:List Int) (t:RT) (s:PS):Prop where
 vs:s.vs=base++t.l
 cs:s.cs=o++ [⟨op,kd,base.length,t.dd⟩]
 lb:t.lb=s.cs.map lbC
def oP (o:List Ct) (op kd:Int) (base:List Int) (t:RT) (s:PS):Prop:=(t.bad=true∧s.bad=true)∨(t.bad=false∧s.bad=false∧Cor o op kd base t s)
section
variable {o : List Ct} {op kd : Int} {base : List Int} {t : RT} {s : PS}
theorem Cor.top (h:Cor o op kd base t s):s.top=⟨op,kd,base.length,t.dd⟩:=by unfold PS.top;rw[h.cs];simp
theorem mY(s:PS)(b:Bool)(h:s.bad=true):(dB s b).bad=true:=by unfold dB;rw[h];rfl
theorem yV(s:PS)(w:Int)(h:s.bad=true):(cQ s w).2.bad=true:=by
 unfold cQ;refine aJ (p:=fun r:Int×PS=>r.2.bad=true) (fun _=>mY _ _ h) (fun _=> ?_);exact aJ (p:=fun r:Int×PS=>r.2.bad=true) (fun _=>h) (fun _=>mY _ _ h)
theorem uY(s:PS)(ks:List Int)(h:s.bad=true):(dL s ks).bad=true:=yD (p:=fun q=>q.bad=true) (fun q w h=>yV q w h) ks s h
theorem QV(s:PS)(n:Int)(h:s.bad=true):(cR s n).2.bad=true:=by
 unfold cR;exact aJ (p:=fun r:List Int×PS=>r.2.bad=true) (fun _=>rfl) (fun _=>h)
theorem BU(h:oP o op kd base t s){k k':Int}(hk:t.bad=false→k=k'):oP o op kd base (jH t k).2 (cQ s k').2∧((jH t k).2.bad=false→(jH t k).1=(cQ s k').1):=by
 rcases h with⟨h1,h2⟩|⟨h1,h2,h3⟩
 ·exact⟨.inl ⟨BT t k h1,yV s k' h2⟩,fun e=>by rw[BT t k h1]at e;cases e⟩
 obtain rfl:=hk h1;have ht:=h3.top;obtain⟨ta,tl,tb,l,dd⟩:=t;obtain⟨vs,cs,sb⟩:=s;obtain⟨e1,e2,e3⟩:=h3;dsimp only at e1 e2 e3 h1 h2;subst h1 h2 e1;unfold jH cQ;rw[ht];rcases List.eq_nil_or_concat l with rfl|⟨l',x,rfl⟩
 ·dsimp only;have c1:(((base++ []).length:Int)==(base.length:Int))=true:=by simp
  rw[if_pos (show((([]:List Int).length:Int)==0)=true from rfl),if_pos c1];cases dd with
  |true=>exact⟨.inr ⟨rfl,rfl,⟨rfl,e2,e3⟩⟩,fun _=>rfl⟩
  |false=>exact⟨.inl ⟨rfl,rfl⟩,fun e=>by cases e⟩
 ·rw[List.concat_eq_append];have c2:¬(((l'++ [x]).length:Int)==0)=true:=by simp only[List.length_append,List.length_cons,List.length_nil,beq_iff_eq];omega
  have c3:¬(((base++(l'++ [x])).length:Int)==(base.length:Int))=true:=by simp only[List.length_append,List.length_cons,List.length_nil,beq_iff_eq];omega
  dsimp only;rw[if_neg c2,if_neg c3];have g1:(l'++ [x]).getLast?.getD 0=x:=by simp
  have g2:(base++(l'++ [x])).getLast?.getD 0=x:=by rw[←List.append_assoc];simp
  have g3:(base++(l'++ [x])).dropLast=base++l':=by rw[←List.append_assoc];simp
  have g4:(l'++ [x]).dropLast=l':=by simp
  rw[g1,g2,g3,g4];by_cases hx:x=0
  ·subst hx;rw[show KL 0 k=false by simp[KL]];simp only[beq_self_eq_true,if_true,Bool.false_eq_true,if_false];exact⟨.inr ⟨rfl,rfl,⟨rfl,e2,e3⟩⟩,fun _=>trivial⟩
  ·rw[show(x==0)=false by simpa using hx];simp only[Bool.false_eq_true,if_false];unfold dB KL;by_cases hk0:k=0
   ·subst hk0;exact⟨.inr ⟨by simp,by simp,⟨rfl,e2,e3⟩⟩,fun _=>trivial⟩
   ·by_cases hxk:x=k
    ·subst hxk;exact⟨.inr ⟨by simp,by simp,⟨rfl,e2,e3⟩⟩,fun _=>trivial⟩
    ·exact⟨.inl ⟨by simp[hxk,hx,hk0],by simp[hxk,hk0]⟩,fun _=>trivial⟩
theorem fM(h:oP o op kd base t s){ks ks':List Int}(hk:t.bad=false→ks=ks'):oP o op kd base (aV t ks) (dL s ks'):=by
 rcases Bool.eq_false_or_eq_true t.bad with hb|hb
 ·rcases h with⟨h1,h2⟩|⟨h1,h2,h3⟩
  ·exact .inl ⟨DY t ks h1,uY s ks' h2⟩
  ·rw[hb]at h1;cases h1
 obtain rfl:=hk hb;unfold aV dL;generalize ks.reverse=l;clear hk hb
 induction l generalizing t s with
 |nil=>exact h
 |cons a l ih=>exact ih (BU h (fun _=>rfl)).1
theorem jN(h:oP o op kd base t s){ks ks':List Int}(hk:t.bad=false→ks=ks'):oP o op kd base (gY t ks) (fU s ks'):=by
 rcases h with⟨h1,h2⟩|⟨h1,h2,h3⟩
 ·exact .inl ⟨h1,h2⟩
 ·obtain rfl:=hk h1;exact .inr ⟨h1,h2,⟨by show s.vs++ks=base++(t.l++ks);rw[h3.vs,List.append_assoc],h3.cs,h3.lb⟩⟩
theorem yW(h:oP o op kd base t s):oP o op kd base (pL t) (nM s):=by
 rcases h with⟨h1,h2⟩|⟨h1,h2,h3⟩
 ·exact .inl ⟨h1,h2⟩
 ·have ht:=h3.top;refine .inr ⟨h1,h2,⟨?_, ?_, ?_⟩⟩
  ·show s.vs.take s.top.ht=base++ [];rw[ht,h3.vs];simp
  ·show s.cs.dropLast++ [⟨s.top.op,s.top.kd,s.top.ht,true⟩]=_;rw[ht,h3.cs];simp[pL]
  ·show t.lb=(s.cs.dropLast++ [(⟨s.top.op,s.top.kd,s.top.ht,true⟩:Ct)]).map lbC;rw[ht,h3.lb,h3.cs];simp[lbC]
theorem pO(h:oP o op kd base t s){b b':Bool}(hb:t.bad=false→b=b'):oP o op kd base (if b=true then t else eD t) (dB s b'):=by
 rcases h with⟨h1,h2⟩|⟨h1,h2,h3⟩
 ·refine .inl ⟨?_,mY s b' h2⟩;exact aJ (p:=fun r:RT=>r.bad=true) (fun _=>h1) (fun _=>rfl)
 ·obtain rfl:=hb h1;cases b with
  |true=>rw[if_pos rfl];exact Or.inr ⟨h1,by simp[dB,h2],⟨h3.vs,h3.cs,h3.lb⟩⟩
  |false=>rw[if_neg (by simp)];exact .inl ⟨rfl,by simp[dB]⟩
theorem aC1(t:RT)(s:PS):oP o op kd base (eD t) ⟨s.vs,s.cs,true⟩:=.inl ⟨rfl,rfl⟩
theorem vM(h:oP o op kd base t s){n:Int}(hn:0≤n):oP o op kd base (dA t n).2 (cR s n).2∧((dA t n).2.bad=false→(dA t n).1=(cR s n).1):=by
 rcases h with⟨h1,h2⟩|⟨h1,h2,h3⟩
 ·exact⟨.inl ⟨rM t n h1,QV s n h2⟩,fun e=>by rw[rM t n h1]at e;cases e⟩
 have hl:t.lb.length=s.cs.length:=by rw[h3.lb];simp
 unfold dA cR;rw[hl];by_cases hc:(s.cs.length:Int)≤n
 ·rw[if_pos (by rw[if_neg (by simp;omega)];simp;omega),if_pos (by simpa using hc)];exact⟨aC1 t s,fun e=>by cases e⟩
 ·rw[if_neg (by rw[if_neg (by simp;omega)];simp;omega),if_neg (by simpa using hc)];refine⟨.inr ⟨h1,h2,h3⟩,fun _=> ?_⟩;dsimp only;have hi:((s.cs.length:Int)-1-n).toNat=s.cs.length-1-n.toNat:=by omega
  have hlt:s.cs.length-1-n.toNat<s.cs.length:=by omega
  rw[hi,h3.lb,List.getD_eq_getElem?_getD,List.getD_eq_getElem?_getD,List.getElem?_map,List.getElem?_eq_getElem hlt];rfl
theorem aFX{a b:List Int}(ha:a.length≤1)(hb:b.length≤1):WD a b=decide (b=a):=by
 unfold WD
 match a,b,ha,hb with
 |[],[],_,_=>rfl
 |[],[y],_,_=>simp
 |[x],[],_,_=>simp
 |[x],[y],_,_=>simp[Bool.beq_eq_decide_eq];exact eq_comm
theorem OO{w w':List Int}(hw:w'.length≤1):∀ {l:List Int} (_:∀n∈l,0≤n) {t:RT} {s:PS} (_:oP o op kd base t s) (_:t.bad=false→w=w'),oP o op kd base (l.foldl (nP w) t) (l.foldl (vT w') s)
 |[],_,_,_,h,_=>h
 |n::l,hl,t,s,h,he=>by
  have hn:=hl n List.mem_cons_self;obtain⟨h1,h2⟩:=vM h hn;have hs:oP o op kd base (nP w t n) (vT w' s n):=by
   have:=pO h1 (b:=decide (w=(dA t n).1)) (b':=WD (cR s n).1 w') fun e=>by
    rw[h2 e,aFX (mV s n) hw];have e0:t.bad=false:=by
     cases hb:t.bad with
     |false=>rfl
     |true=>rw[rM t n hb]at e;cases e
    rw[he e0]
   unfold nP vT;dsimp only;cases hd:decide (w=(dA t n).1)with
   |true=>rw[hd]at this;exact this
   |false=>rw[hd]at this;exact this
  refine OO hw (fun n hn=>hl n (List.mem_cons_of_mem _ hn)) hs fun e=>he ?_
  cases hb:t.bad with
  |false=>rfl
  |true=>
   have:(nP w t n).bad=true:=by
    unfold nP;exact aJ (p:=fun r:RT=>r.bad=true) (fun _=>rfl) (fun _=>rM t n hb)
   rw[this]at e;cases e
theorem aAB{P:Prop}{t q:RT}{n:Nat}(h:Adv t n q)(k:t.bad=false→P):q.bad=false→P:=fun e=>k (by
 cases hb:t.bad with
 |false=>rfl
 |true=>rw[h.2 hb]at e;cases e)
end
def aH1 (n:Nat):Bool:= !(MQ n)||decide ((kN n).1=List.replicate (nQ n).1.toNat (nQ n).2.1∧(kN n).2.1=(nQ n).2.2.1∧(kN n).2.2=true∧(nQ n).2.2.2=true)
theorem aC2:((List.range 174).all aH1)=true:=by decide+kernel
theorem aFY{op:Int}(h:MQ op=true):(kN op).1=List.replicate (nQ op).1.toNat (nQ op).2.1∧(kN op).2.1=(nQ op).2.2.1∧(kN op).2.2=true∧(nQ op).2.2.2=true:=by
 have h0:0≤op∧op<174:=by unfold MQ at h;have:=of_decide_eq_true h;omega
 obtain⟨n,rfl⟩:∃n:Nat,op=n:=⟨op.toNat,by omega⟩
 have h1:=List.all_eq_true.1 aC2 n (List.mem_range.2 (by omega));unfold aH1 at h1;rw[h]at h1;simpa using h1
theorem aAC{op:Int}(h:aZ op≠0):op∈([0,1,5,11,15,26,27,2,3,4,12,13,16,32,33,34,35,36,14,17,40,41,44,45,54,55,58,63,64,65,66]:List Int)∨MQ op=true:=by
 unfold aZ iX at h;cases hk:MQ op with
 |true=>exact .inr rfl
 |false=>
  left;rw[hk]at h;simp only[List.mem_cons,List.not_mem_nil,or_false];simp only[Bool.or_eq_true,beq_iff_eq,Bool.false_eq_true,if_false]at h;repeat' split at h
  all_goals first|omega|exact absurd rfl h
theorem aAD{x:Ins}(h:dC x=true):aZ x.op≠0:=by
 intro e;unfold dC at h;rw[e]at h;revert h;refine aJ (p:=fun b:Bool=>b=true→False) (fun _=>by simp) (fun _=> ?_);simp
theorem nE{n a b:Int}(h:oB n a b=true):a≤n∧n≤b:=by rw[jW]at h;exact of_decide_eq_true h
theorem kH{x:Ins}(h:dC x=true)(hf:aZ x.op=3∨aZ x.op=4∨aZ x.op=5∨aZ x.op=6):0≤x.a∧(aZ x.op=4→∀n∈x.l,0≤n):=by
 unfold dC at h;have h0:jG x (aZ x.op)=false:=by
  cases hp:jG x (aZ x.op)with
  |false=>rfl
  |true=>rw[hp]at h;simp at h
 rw[h0]at h;simp only[Bool.false_eq_true,if_false]at h;rcases hf with e|e|e|e<;>rw[e]at h⊢
 ·simp only[show((3:Int)==1||(3:Int)==7)=false from rfl,show((3:Int)==2)=false from rfl,show((3:Int)==3||(3:Int)==5)=true from rfl,Bool.false_eq_true,if_false,if_true]at h;exact⟨(nE h).1,fun e=>by simp at e⟩
 ·simp only[show((4:Int)==1||(4:Int)==7)=false from rfl,show((4:Int)==2)=false from rfl,show((4:Int)==3||(4:Int)==5)=false from rfl,show((4:Int)==4)=true from rfl,Bool.false_eq_true,if_false,if_true]at h;cases ha:oB x.a 0 1000 with
  |false=>rw[ha]at h;simp at h
  |true=>
   refine⟨(nE ha).1,fun _ n hn=> ?_⟩;rw[ha]at h;simp only[if_true]at h;split at h
   ·simp only[Bool.not_eq_true',List.any_eq_false,Bool.not_eq_true',Bool.not_eq_false]at h;have:=h n hn;have:oB n 0 1000=true:=by simpa using this
    exact(nE this).1
   ·cases h
 ·simp only[show((5:Int)==1||(5:Int)==7)=false from rfl,show((5:Int)==2)=false from rfl,show((5:Int)==3||(5:Int)==5)=true from rfl,Bool.false_eq_true,if_false,if_true]at h;exact⟨(nE h).1,fun e=>by simp at e⟩
 ·simp only[show((6:Int)==1||(6:Int)==7)=false from rfl,show((6:Int)==2)=false from rfl,show((6:Int)==3||(6:Int)==5)=false from rfl,show((6:Int)==4)=false from rfl,show((6:Int)==6)=true from rfl,Bool.false_eq_true,if_false,if_true]at h;cases ha:oB x.a 0 3 with
  |false=>rw[ha]at h;simp at h
  |true=>exact⟨(nE ha).1,fun e=>by simp at e⟩
theorem rO{x:Ins}(h:dC x=true)(hf:aZ x.op=1∨aZ x.op=7):x.a=0:=by
 unfold dC at h;have h0:jG x (aZ x.op)=false:=by
  cases hp:jG x (aZ x.op)with
  |false=>rfl
  |true=>rw[hp]at h;simp at h
 rw[h0]at h;rcases hf with e|e<;>rw[e]at h<;>simpa using h
def rkd (o:List Ct) (kd:Int):Int:=match o with|[]=>kd|c:: _=>c.kd
theorem aFZ(o:List Ct)(op kd:Int)(h:Nat)(d:Bool):((o++ [(⟨op,kd,h,d⟩:Ct)]).getD 0 ct0).kd=rkd o kd:=by cases o<;>rfl
section
variable {o : List Ct} {op kd : Int} {base : List Int} {t : RT} {s : PS} {m : Md} {ls res : List Int}
theorem QW(h:oP o op kd base t s)(hr:res=bB (rkd o kd)){x:Ins}(hx:dC x=true)(hb:LI x.op=true):oP o op kd base (fZ res x t) (gM m ls s x):=by
 obtain⟨xo,a,b,l⟩:=x;have hb':xo=12∨xo=13∨xo=14∨xo=15∨xo=0:=by unfold LI at hb;simpa[or_assoc]using hb
 rcases hb' with rfl|rfl|rfl|rfl|rfl
 ·have ha:=(kH hx (.inl (show aZ 12=3 by decide))).1;obtain⟨h1,h2⟩:=vM h ha;exact yW (fM h1 h2)
 ·have ha:=(kH hx (.inl (show aZ 13=3 by decide))).1;obtain⟨h1,h2⟩:=vM (fM (ks:=[1]) h fun _=>rfl) ha;have h3:=fM h1 h2;exact jN h3 (aAB ((Adv.refl _).take _) h2)
 ·have ha:=kH hx (.inr (.inl (show aZ 14=4 by decide)));obtain⟨h1,h2⟩:=vM (fM (ks:=[1]) h fun _=>rfl) ha.1;have h3:=OO (w:=(dA (aV t [1]) a).1) (mV _ a) (l:=l) (ha.2 (show aZ 14=4 by decide)) h1 h2;exact yW (fM h3 (aAB ((Adv.refl _).tabs _ _) h2))
 ·refine yW (fM h fun e=> ?_);rcases h with⟨h1,-⟩|⟨-,-,h3⟩
  ·rw[h1]at e;cases e
  ·rw[h3.cs,aFZ,hr]
 ·exact yW h
theorem vN{m:Md}{f:Int}(hf:0≤f):iR m f=cH m (kF m f):=by
 unfold iR cH kF;rw[decide_eq_true hf];simp only[if_true]
theorem QX{m:Md}{f:Int}(hf:0≤f):cH m f=if decide ((m.ty.length:Int)≤f)=true then(rG,false)else(m.ty.getD f.toNat rG,true):=by
 unfold cH;rw[decide_eq_false (by omega:¬f<0)];simp only[Bool.false_eq_true,if_false]
theorem HZ(h:oP o op kd base t s)(y:FT×Bool):oP o op kd base (if(!y.2)=true then eD t else gY (aV t y.1.pr) y.1.rs) (pF s y.1 y.2):=by
 obtain⟨y,b⟩:=y;cases b with
 |true=>
  have h1:=pO h (b:=true) (b':=true) fun _=>rfl
  exact jN (fM h1 fun _=>rfl) fun _=>rfl
 |false=>exact .inl ⟨rfl,by show(dL _ _).bad=true;exact uY _ _ (by simp[dB])⟩
theorem aAE(h:oP o op kd base t s){x:Ins}(hx:dC x=true)(hb:(x.op==16||x.op==17)=true):oP o op kd base (pN m x t) (gM m ls s x):=by
 obtain⟨xo,a,b,l⟩:=x;have hb':xo=16∨xo=17:=by simpa using hb
 rcases hb' with rfl|rfl
 ·have ha:0≤a:=(kH hx (.inl (show aZ 16=3 by decide))).1;have:=HZ h (iR m a);rw[vN ha]at this;show oP _ _ _ _ (if(!(iR m a).2)=true then eD t else gY (aV t (iR m a).1.pr) (iR m a).1.rs) _;rw[vN ha];exact this
 ·have ha:0≤a:=(kH hx (.inr (.inr (.inl (show aZ 17=5 by decide))))).1;have h1:=pO h (b:=m.tb.has) fun _=>rfl
  have h2:=fM (ks:=[1]) (ks':=[1]) h1 fun _=>rfl
  have h3:=HZ h2 (cH m a);show oP _ _ _ _ (if(if(!m.tb.has)=true then true else decide ((m.ty.length:Int)≤a))=true then eD t else gY (aV (aV t [1]) (m.ty.getD a.toNat rG).pr) (m.ty.getD a.toNat rG).rs) (pF (dL (dB s m.tb.has) [1]) (cH m a).1 (cH m a).2);rw[QX ha]at h3⊢;cases hh:m.tb.has with
  |false=>
   refine .inl ⟨rfl, ?_⟩;show(dL _ _).bad=true;exact uY _ _ (mY _ _ (uY _ _ (by simp[dB])))
  |true=>
   rw[hh]at h3;simp only[Bool.not_true,Bool.false_eq_true,if_false,if_true]at h3⊢;cases hl:decide ((m.ty.length:Int)≤a)with
   |true=>
    rw[hl]at h3;refine .inl ⟨rfl, ?_⟩;show(dL _ _).bad=true;exact uY _ _ (by simp[dB])
   |false=>rw[hl]at h3;exact h3
theorem VJ{n:Int}(h:¬(ls.length:Int)≤n):cT ls s n=(ls.getD n.toNat 0,s):=if_neg (by simpa using h)
theorem IA{n:Int}(h:(ls.length:Int)≤n):cT ls s n=(0,⟨s.vs,s.cs,true⟩):=if_pos (by simpa using h)
theorem KO(h:oP o op kd base t s){a b:Int}{l:List Int}(xo:Int)(ho:xo=32∨xo=33∨xo=34):oP o op kd base (gS m ls res ⟨xo,a,b,l⟩ t) (gM m ls s ⟨xo,a,b,l⟩):=by
 by_cases hl:(ls.length:Int)≤a
 ·have e:=IA (s:=s) hl;refine .inl ⟨?_, ?_⟩
  ·rcases ho with rfl|rfl|rfl<;>
   ·show(if decide ((ls.length:Int)≤a)=true then eD t else _).bad=true;rw[if_pos (by simpa using hl)];rfl
  ·rcases ho with rfl|rfl|rfl
   ·show(fU (cT ls s a).2 _).bad=true;rw[e];rfl
   ·show(cQ (cT ls s a).2 _).2.bad=true;rw[e];exact yV _ _ rfl
   ·show(fU (cT ls (cQ (cT ls s a).2 (cT ls s a).1).2 a).2 _).bad=true;rw[IA hl];rfl
 ·have e:=fun s:PS=>VJ (s:=s) hl
  rcases ho with rfl|rfl|rfl
  ·show oP _ _ _ _ (if decide ((ls.length:Int)≤a)=true then eD t else gY t [ls.getD a.toNat 0]) (fU (cT ls s a).2 [(cT ls s a).1]);rw[if_neg (by simpa using hl),e];exact jN h fun _=>rfl
  ·show oP _ _ _ _ (if decide ((ls.length:Int)≤a)=true then eD t else aV t [ls.getD a.toNat 0]) (cQ (cT ls s a).2 (cT ls s a).1).2;rw[if_neg (by simpa using hl),e];exact fM h fun _=>rfl
  ·show oP _ _ _ _ (if decide ((ls.length:Int)≤a)=true then eD t else gY (aV t [ls.getD a.toNat 0]) [ls.getD a.toNat 0]) (fU (cT ls (cQ (cT ls s a).2 (cT ls s a).1).2 a).2 [(cT ls (cQ (cT ls s a).2 (cT ls s a).1).2 a).1]);rw[if_neg (by simpa using hl),e,e];exact jN (fM (ks:=[ls.getD a.toNat 0]) (ks':=[ls.getD a.toNat 0]) h fun _=>rfl) fun _=>rfl
theorem OP(h:oP o op kd base t s){a b:Int}{l:List Int}(xo:Int)(ho:xo=35∨xo=36):oP o op kd base (gS m ls res ⟨xo,a,b,l⟩ t) (gM m ls s ⟨xo,a,b,l⟩):=by
 by_cases hl:(m.gl.length:Int)≤a
 ·have e:eA m s a=(HF,⟨s.vs,s.cs,true⟩):=if_pos (by simpa using hl);refine .inl ⟨?_, ?_⟩
  ·have:∀c,(if(if decide ((m.gl.length:Int)≤a)=true then true else c)=true then eD t else if(xo==35)=true then gY t [(m.gl.getD a.toNat HF).kd]else aV t [(m.gl.getD a.toNat HF).kd]).bad=true:=fun c=>by rw[if_pos (by rw[if_pos (by simpa using hl)])];rfl
   rcases ho with rfl|rfl<;>exact this _
  ·rcases ho with rfl|rfl
   ·show(fU (eA m s a).2 _).bad=true;rw[e];rfl
   ·show(cQ (dB (eA m s a).2 _) _).2.bad=true;rw[e];exact yV _ _ (mY _ _ rfl)
 ·have e:eA m s a=(m.gl.getD a.toNat HF,s):=if_neg (by simpa using hl);rcases ho with rfl|rfl
  ·show oP _ _ _ _ (if(if decide ((m.gl.length:Int)≤a)=true then true else false)=true then eD t else gY t [(m.gl.getD a.toNat HF).kd]) (fU (eA m s a).2 [(eA m s a).1.kd]);rw[e,if_neg (by rw[if_neg (by simpa using hl)];simp)];exact jN h fun _=>rfl
  ·show oP _ _ _ _ (if(if decide ((m.gl.length:Int)≤a)=true then true else !(m.gl.getD a.toNat HF).mu)=true then eD t else aV t [(m.gl.getD a.toNat HF).kd]) (cQ (dB (eA m s a).2 (eA m s a).1.mu) (eA m s a).1.kd).2;rw[e,if_neg (by simpa using hl:¬decide ((m.gl.length:Int)≤a)=true)];have h1:=pO h (b:=(m.gl.getD a.toNat HF).mu) fun _=>rfl
   cases hm:(m.gl.getD a.toNat HF).mu with
   |true=>rw[hm]at h1;exact fM h1 fun _=>rfl
   |false=>exact .inl ⟨rfl,by exact yV _ _ (by simp[dB,hm])⟩
theorem aAF{op c:Int}(h:MQ op=true)(hc:MQ c=false):(op==c)=false:=by
 cases he:op==c with
 |false=>rfl
 |true=>rw[eq_of_beq he,hc]at h;cases h
theorem aAG{x:Ins}(h:MQ x.op=true):gM m ls s x=fU (dL (dB s (kN x.op).2.2) (kN x.op).1) [(kN x.op).2.1]:=by
 have hc:=fun c hc=>aAF (c:=c) h hc
 unfold gM cG dS;simp only[hc 0 (by decide),hc 1 (by decide),hc 2 (by decide),hc 3 (by decide),hc 4 (by decide),hc 5 (by decide),hc 11 (by decide),hc 12 (by decide),hc 13 (by decide),hc 14 (by decide),hc 15 (by decide),hc 16 (by decide),hc 17 (by decide),hc 26 (by decide),hc 27 (by decide),hc 32 (by decide),hc 33 (by decide),hc 34 (by decide),hc 35 (by decide),hc 36 (by decide),hc 40 (by decide),hc 41 (by decide),hc 44 (by decide),hc 45 (by decide),hc 54 (by decide),hc 55 (by decide),hc 58 (by decide),hc 63 (by decide),hc 64 (by decide),hc 65 (by decide),hc 66 (by decide),Bool.or_self,Bool.false_eq_true,if_false]
theorem aAH{x:Ins}{t:RT}(h:MQ x.op=true)(h':(nQ x.op).2.2.2=true):gS m ls res x t=gY (aV t (List.replicate (nQ x.op).1.toNat (nQ x.op).2.1)) [(nQ x.op).2.2.1]:=by
 have hc:=fun c hc=>aAF (c:=c) h hc
 unfold gS LI;simp only[hc 0 (by decide),hc 1 (by decide),hc 12 (by decide),hc 13 (by decide),hc 14 (by decide),hc 15 (by decide),hc 16 (by decide),hc 17 (by decide),hc 26 (by decide),hc 27 (by decide),h',Bool.or_false,Bool.false_eq_true,if_false,if_true];rfl
theorem IB(s:PS):dB s true=s:=by obtain⟨vs,cs,b⟩:=s;cases b<;>rfl
theorem sI(h:oP o op kd base t s){x:Ins}(al k:Int)(st:Bool):
  oP o op kd base (let t:=if(!m.me.has)=true then eD t else t;let t:=if decide (al<x.a)=true then eD t else t;if st=true then aV t [1,k]else gY (aV t [1]) [k])
   (gL m s x al (if st=true then [1,k]else [1]) (if st=true then []else [k])):=by
 have hn:oP o op kd base (let t:=if(!m.me.has)=true then eD t else t;if decide (al<x.a)=true then eD t else t) (dB s (if m.me.has=true then decide (x.a≤al)else false)):=by
  have h1:=pO h (b:=if m.me.has=true then decide (x.a≤al)else false) fun _=>rfl
  cases hh:m.me.has with
  |false=>
   refine .inl ⟨?_,by simp[dB]⟩;dsimp only;exact aJ (p:=fun r:RT=>r.bad=true) (fun _=>rfl) (fun _=>rfl)
  |true=>
   rw[hh]at h1;by_cases hl:x.a≤al
   ·simpa[hl,show¬al<x.a by omega]using h1
   ·simpa[hl,show al<x.a by omega]using h1
 dsimp only at hn⊢;cases st with
 |true=>
  have:=jN (fM (ks:=[1,k]) hn fun _=>rfl) (ks:=[]) (ks':=[]) fun _=>rfl
  unfold gL;simp only[if_true];have e:∀q:RT,gY q []=q:=fun q=>by unfold gY;rw[List.append_nil]
  rw[e]at this;exact this
 |false=>exact jN (fM (ks:=[1]) hn fun _=>rfl) fun _=>rfl
theorem OQ(h:oP o op kd base t s){a:Int}(ha:a=0):oP o op kd base (if(!m.me.has)=true then eD t else t) (dB s (if m.me.has=true then decide (a≤0)else false)):=by
 subst ha;have h1:=pO h (b:=m.me.has) fun _=>rfl
 cases hh:m.me.has with
 |false=>rw[hh]at h1;exact h1
 |true=>rw[hh]at h1;exact h1
theorem VK(h:oP o op kd base t s){x:Ins}(hx:dC x=true)(hb:LI x.op=false)(hc:(x.op==16||x.op==17)=false)(hO:oN x.op=false)(h5:x.op≠5)(h11:x.op≠11):oP o op kd base (gS m ls res x t) (gM m ls s x):=by
 rcases aAC (aAD hx)with hm|hk
 ·obtain⟨xo,a,b,l⟩:=x;dsimp only at hm hb hc hO h5 h11;simp only[List.mem_cons,List.not_mem_nil,or_false]at hm;rcases hm with rfl|rfl|rfl|rfl|rfl|rfl|rfl|rfl|rfl|rfl|rfl|rfl|rfl|rfl|rfl|rfl|rfl|rfl|rfl|rfl|rfl|rfl|rfl|rfl|rfl|rfl|rfl|rfl|rfl|rfl|rfl
  ·cases hb
  ·exact h
  ·exact absurd rfl h5
  ·exact absurd rfl h11
  ·cases hb
  ·exact(BU h (k:=0) fun _=>rfl).1
  ·obtain⟨h1,h2⟩:=BU (fM (ks:=[1]) (ks':=[1]) h fun _=>rfl) (k:=0) (k':=0) fun _=>rfl
   obtain⟨h3,h4⟩:=BU h1 h2;exact jN h3 fun e=>by rw[h4 e];rfl
  ·cases hO
  ·cases hO
  ·cases hO
  ·cases hb
  ·cases hb
  ·cases hc
  ·exact KO h 32 (.inl rfl)
  ·exact KO h 33 (.inr (.inl rfl))
  ·exact KO h 34 (.inr (.inr rfl))
  ·exact OP h 35 (.inl rfl)
  ·exact OP h 36 (.inr rfl)
  ·cases hb
  ·cases hc
  ·exact sI h 2 1 false
  ·exact sI h 3 2 false
  ·exact sI h 0 1 false
  ·exact sI h 0 1 false
  ·exact sI h 2 1 true
  ·exact sI h 3 2 true
  ·exact sI h 0 1 true
  ·exact jN (OQ h (rO hx (.inr (show aZ 63=7 by decide)))) fun _=>rfl
  ·exact jN (fM (ks:=[1]) (OQ h (rO hx (.inr (show aZ 64=7 by decide)))) fun _=>rfl) fun _=>rfl
  ·exact jN h fun _=>rfl
  ·exact jN h fun _=>rfl
 ·obtain⟨k1,k2,k3,k4⟩:=aFY hk;rw[aAG hk,aAH hk k4,k1,k2,k3,IB];exact jN (fM h fun _=>rfl) fun _=>rfl
theorem aAI(h:oP o op kd base t s)(hr:res=bB (rkd o kd)){x:Ins}(hx:dC x=true)(hO:oN x.op=false)(h5:x.op≠5)(h11:x.op≠11):oP o op kd base (gS m ls res x t) (gM m ls s x):=by
 cases hb:LI x.op with
 |true=>
  have:=QW (m:=m) (ls:=ls) h hr hx hb;unfold gS;rw[if_pos hb];exact this
 |false=>
  cases hc:(x.op==16||x.op==17)with
  |true=>
   have:=aAE (m:=m) (ls:=ls) h hx hc;unfold gS;rw[if_neg (by simp[hb]),if_pos hc];exact this
  |false=>exact VK h hx hb hc hO h5 h11
end
def Sta (t q:RT):Prop:=q.a=t.a
theorem Sta.refl (t:RT):Sta t t:=rfl
theorem Sta.take {t q:RT}(h:Sta t q)(ks:List Int):Sta t (aV q ks):=(xA q ks).trans h
theorem Sta.one {t q:RT}(h:Sta t q)(k:Int):Sta t (jH q k).2:=(TJ q k).trans h
theorem Sta.put {t q:RT}(h:Sta t q)(ks:List Int):Sta t (gY q ks):=h
theorem Sta.ends {t q:RT}(h:Sta t q):Sta t (pL q):=h
theorem Sta.bad {t q:RT}(h:Sta t q):Sta t (eD q):=h
theorem Sta.label {t q:RT}(h:Sta t q)(x:Int):Sta t (dA q x).2:=(KM q x).trans h
theorem Sta.tabs {t q:RT}(h:Sta t q)(w l:List Int):Sta t (l.foldl (nP w) q):=by
 induction l generalizing q with
 |nil=>exact h
 |cons a l ih=>exact ih (aJ (p:=Sta t) (fun _=>(h.label a).bad) (fun _=>h.label a))
theorem VL(res:List Int)(x:Ins)(t:RT):Sta t (fZ res x t):=by
 have h:=Sta.refl t;unfold fZ;refine aJ (fun _=>((h.label _).take _).ends) (fun _=> ?_);refine aJ (fun _=>(((h.take _).label _).take _).put _) (fun _=> ?_);refine aJ (fun _=>((((h.take _).label _).tabs _ _).take _).ends) (fun _=> ?_);exact aJ (fun _=>(h.take _).ends) (fun _=>h.ends)
theorem aC3(m:Md)(x:Ins)(t:RT):Sta t (pN m x t):=by
 have h:=Sta.refl t;unfold pN;refine aJ (fun _=>aJ (p:=Sta t) (fun _=>h.bad) (fun _=>(h.take _).put _)) (fun _=> ?_);exact aJ (fun _=>h.bad) (fun _=>((h.take _).take _).put _)
theorem QY{t q:RT}(h:Sta t q)(x:Ins)(c k:Int):Sta t (sH x c k q):=by
 have ha:Sta t (if decide (c<x.a)=true then eD q else q):=aJ (fun _=>h.bad) (fun _=>h);exact aJ (fun _=>ha.take _) (fun _=>(ha.take _).put _)
theorem aF0(m:Md)(x:Ins)(t:RT):Sta t (AZ m x t):=by
 have h:Sta t (if(!m.me.has)=true then eD t else t):=aJ (fun _=>(Sta.refl t).bad) (fun _=>Sta.refl t);unfold AZ;generalize(if(!m.me.has)=true then eD t else t)=q at h;unfold yT;refine aJ (fun _=>QY h x _ _) (fun _=> ?_);refine aJ (fun _=>QY h x _ _) (fun _=> ?_);refine aJ (fun _=>h.put _) (fun _=> ?_);exact aJ (fun _=>(h.take _).put _) (fun _=>QY h x _ _)
theorem VM(m:Md)(ls:List Int)(x:Ins)(t:RT):Sta t (gN m ls x t):=by
 have h:=Sta.refl t;unfold gN;refine aJ (fun _=>h.put _) (fun _=> ?_);refine aJ (fun _=>h.put _) (fun _=> ?_);refine aJ (fun _=>aJ (fun _=>h.bad) (fun _=> ?_)) (fun _=> ?_)
 ·have hq:Sta t (if(x.op !=32)=true then aV t [ls.getD x.a.toNat 0]else t):=aJ (fun _=>h.take _) (fun _=>h);exact aJ (fun _=>hq.put _) (fun _=>hq)
 refine aJ (fun _=>aJ (fun _=>h.bad) (fun _=>aJ (fun _=>h.put _) (fun _=>h.take _))) (fun _=>aF0 m x t)
theorem aC4(m:Md)(ls res:List Int)(x:Ins)(t:RT):Sta t (gS m ls res x t):=by
 have h:=Sta.refl t;unfold gS;refine aJ (fun _=>VL _ _ _) (fun _=> ?_);refine aJ (fun _=>aC3 _ _ _) (fun _=> ?_);refine aJ (fun _=>h.one 0) (fun _=> ?_);refine aJ (fun _=>(((h.take _).one _).one _).put _) (fun _=> ?_);refine aJ (fun _=>h) (fun _=> ?_);exact aJ (fun _=>(h.take _).put _) (fun _=>VM _ _ _ _)
def mQ (lp:RT→RT) (bd:List Ins) (x:Ins) (t:RT):RT:=
 if(x.op==4)=true then(if(eO bd t 5).1=true then dP lp (bB x.a) (bB x.a) (eO bd t 5).2 else if decide ((0:Int)<(bB x.a).length)=true then eD (eO bd t 5).2 else(eO bd t 5).2)else t
def BA (bd:List Ins) (x:Ins) (t:RT):RT:=gY (if(!(eO bd t 11).1)=true then eD (eO bd t 11).2 else(eO bd t 11).2) (bB x.a)
def TK (x:Ins):List Int:=if(x.op==3)=true then []else bB x.a
theorem BV(lp:RT→RT)(bd:List Ins)(x:Ins)(t:RT):rL lp bd x t=BA bd x (mQ lp bd x (dP lp (bB x.a) (TK x) (if(x.op==4)=true then aV t [1]else t))):=by
 unfold rL TK;cases h:x.op==3<;>simp only[if_true,if_false,Bool.false_eq_true]<;>rfl
theorem EB{bd:List Ins}{t:RT}{y:Ins}(hy:bd[t.a]? =some y):eO bd t y.op=(true,⟨t.a+1,t.lb,t.bad,t.l,t.dd⟩):=by
 have:=(List.getElem?_eq_some_iff.1 hy).1;unfold eO;rw[List.getD_eq_getElem?_getD,hy,decide_eq_true (by omega),if_pos rfl,if_pos (by simp)]
theorem aC5{bd:List Ins}{t:RT}{y:Ins}{op:Int}(hy:bd[t.a]? =some y)(ho:y.op≠op):eO bd t op=(false,t):=by
 unfold eO;rw[List.getD_eq_getElem?_getD,hy,if_neg];split
 ·simpa using ho
 ·simp
theorem yX{bd:List Ins}{x:Ins}{t:RT}(h:t.bad=true):(BA bd x t).bad=true:=by
 have:=(rN bd t 11).2 h;exact aJ (p:=fun r:RT=>(gY r (bB x.a)).bad=true) (fun _=>rfl) (fun _=>this)
theorem IC{lp:RT→RT}(hl:∀q,Adv q 0 (lp q)){bd:List Ins}{x:Ins}{t:RT}(h:t.bad=true):(mQ lp bd x t).bad=true:=by
 have h1:=(rN bd t 5).2 h;refine aJ (p:=fun r:RT=>r.bad=true) (fun _=> ?_) (fun _=>h);refine aJ (p:=fun r:RT=>r.bad=true) (fun _=>(kT hl _ _ _).2 h1) (fun _=> ?_);exact aJ (p:=fun r:RT=>r.bad=true) (fun _=>rfl) (fun _=>h1)
theorem EC{m:Md}{ls res:List Int}{bd:List Ins}{t:RT}(h:t.bad=true):LR m ls res bd t=t:=by
 rw[OM,if_neg];rw[h];split<;>simp
theorem ED{t:RT}(res l:List Int)(dd:Bool)(h:t.bad=true):(pM t res l dd).bad=true:=by
 show(if _ then true else(aV t res).bad)=true;rw[DY _ _ h];simp
theorem OR{o:List Ct}{op kd op' kd':Int}{base l:List Int}{dd:Bool}{t:RT}{s:PS}(hb:t.bad=false)(hb':s.bad=false)(h:Cor (o++ [⟨op,kd,base.length,dd⟩]) op' kd' (base++l) t s):oP o op kd base (pM t (bB kd') l dd) (gG s):=by
 have h1:=fM (ks:=bB kd') (ks':=bB kd') (.inr ⟨hb,hb',h⟩) fun _=>rfl
 have ht:=h.top;have hs:gG s=⟨(dL s (bB kd')).vs,(dL s (bB kd')).cs.dropLast,(dB (dL s (bB kd')) (((dL s (bB kd')).vs.length:Int)==(base++l).length)).bad⟩:=by
  unfold gG;rw[ht];rfl
 rw[hs];unfold pM;dsimp only;rcases h1 with⟨e1,e2⟩|⟨e1,e2,e3⟩
 ·refine .inl ⟨?_, ?_⟩
  ·show(if _ then true else(aV t (bB kd')).bad)=true;rw[e1];simp
  ·exact mY _ _ e2
 ·have hl:((dL s (bB kd')).vs.length:Int)=(base++l).length+(aV t (bB kd')).l.length:=by rw[e3.vs];simp;omega
  cases hz:(aV t (bB kd')).l with
  |nil=>
   rw[hz]at hl;refine .inr ⟨?_, ?_,⟨?_, ?_, ?_⟩⟩
   ·show(if decide ((0:Int)<(([]:List Int).length:Int))=true then true else(aV t (bB kd')).bad)=false;rw[e1];rfl
   ·unfold dB;dsimp only;rw[e2,hl];simp
   ·show(dL s (bB kd')).vs=base++l;rw[e3.vs,hz];simp
   ·show(dL s (bB kd')).cs.dropLast=_;rw[e3.cs];simp
   ·show(aV t (bB kd')).lb.dropLast=((dL s (bB kd')).cs.dropLast).map lbC;rw[e3.lb,List.map_dropLast]
  |cons y ys=>
   rw[hz]at hl;refine .inl ⟨?_, ?_⟩
   ·show(if decide ((0:Int)<((y::ys).length:Int))=true then true else(aV t (bB kd')).bad)=true;rw[if_pos (by simp only[List.length_cons,decide_eq_true_eq];omega)]
   ·unfold dB;dsimp only;rw[e2,hl];simp;omega
theorem QZ(t:RT)(res l:List Int)(dd:Bool):(pM t res l dd).a=t.a:=xA t res
section
variable {m : Md} {ls res : List Int} {bd : List Ins}
theorem BW{a:Nat}{x:Ins}(h:bd[a]? =some x):bd.drop a=x::bd.drop (a+1):=by
 obtain⟨h1,rfl⟩:=List.getElem?_eq_some_iff.1 h;exact List.drop_eq_getElem_cons h1
theorem KP{a:Nat}{x:Ins}(h:bd[a]? =some x):(cV bd).drop a=x.op::(cV bd).drop (a+1):=by
 unfold cV;rw[←List.map_drop,BW h,List.map_cons,List.map_drop]
def aH2 (m:Md) (ls:List Int) (bd:List Ins) (o:List Ct) (op kd:Int) (base:List Int) (S:List Bool) (a:Nat) (s:PS) (r:RT):Prop:=
 (r.bad=true∧(xB m ls (bd.drop a) s).bad=true)∨
 (r.bad=false∧a≤r.a∧r.a≤bd.length∧∃s',xB m ls (bd.drop a) s=xB m ls (bd.drop r.a) s'∧s'.bad=false∧Cor o op kd base r s'∧kR 40 ((cV bd).drop r.a) S=some []∧(r.a=bd.length∨∃x,bd[r.a]? =some x∧(x.op=11∨x.op=5)))
theorem aAJ(o:List Ct)(op kd kd':Int)(h:Nat)(d:Bool):rkd (o++ [⟨op,kd,h,d⟩]) kd'=rkd o kd:=by cases o<;>rfl
theorem aAK{x:Ins}(h:oN x.op=true)(s:PS):gM m ls s x=openP (if(x.op==4)=true then(cQ s 1).2 else s) x.op x.a:=by
 obtain⟨xo,a,b,l⟩:=x;have h':xo=2∨xo=3∨xo=4:=by unfold oN at h;simpa[or_assoc]using h
 rcases h' with rfl|rfl|rfl<;>rfl
theorem VN{y:Ins}(h:y.op=5)(s:PS):gM m ls s y=openP (gG s) 5 s.top.kd:=by
 obtain⟨yo,a,b,l⟩:=y;dsimp only at h;subst h;rfl
theorem OS{y:Ins}(h:y.op=11)(s:PS):gM m ls s y=fU (dB (gG s) (if(s.top.op !=4)=true then true else(s.top.kd==0))) (bB s.top.kd):=by
 obtain⟨yo,a,b,l⟩:=y;dsimp only at h;subst h;rfl
theorem OT{o:List Ct}{op kd:Int}{base:List Int}{t:RT}{s:PS}(h:Cor o op kd base t s)(op' kd':Int)(a:Nat):Cor (o++ [⟨op,kd,base.length,t.dd⟩]) op' kd' (base++t.l) ⟨a,t.lb++ [lbC ⟨op',kd',0,false⟩],false,[],false⟩ (openP s op' kd'):=by
 refine⟨?_, ?_, ?_⟩
 ·show s.vs=base++t.l++ [];rw[h.vs,List.append_nil]
 ·show s.cs++ [⟨op',kd',s.vs.length,false⟩]=_;rw[h.cs,h.vs]
 ·show t.lb++ [lbC ⟨op',kd',0,false⟩]=(s.cs++ [(⟨op',kd',s.vs.length,false⟩:Ct)]).map lbC;rw[h.lb,List.map_append];rfl
theorem yY(hm:∀x∈bd,dC x=true):∀(n:Nat) (o:List Ct) (op kd:Int) (base:List Int) (S:List Bool) (t:RT) (s:PS),bd.length-t.a<n→t.a≤bd.length→t.bad=false→s.bad=false→Cor o op kd base t s→res=bB (rkd o kd)→kR 40 ((cV bd).drop t.a) S=some []→aH2 m ls bd o op kd base S t.a s (LR m ls res bd t)
 |0,_,_,_,_,_,t,_,h,_,_,_,_,_,_=>absurd h (Nat.not_lt_zero _)
 |n+1,o,op,kd,base,S,t,s,hn,ha,hb,hb',hC,hr,hS=>by
  rw[OM];by_cases hlt:t.a<bd.length
  case neg=>
   rw[if_neg (by rw[decide_eq_false (by omega)];simp)];exact .inr ⟨hb,Nat.le_refl _,ha,s,rfl,hb',hC,hS,.inl (by omega)⟩
  obtain⟨x,hx⟩:∃x,bd[t.a]? =some x:=⟨_,List.getElem?_eq_getElem hlt⟩
  have hxm:=hm x (List.mem_of_getElem? hx);rw[if_pos (by rw[decide_eq_true (by omega),hb];rfl),List.getD_eq_getElem?_getD,hx,Option.getD_some];by_cases hend:x.op=11∨x.op=5
  ·rw[if_pos (by rcases hend with e|e<;>rw[e]<;>rfl)];exact .inr ⟨hb,Nat.le_refl _,ha,s,rfl,hb',hC,hS,.inr ⟨x,hx,hend⟩⟩
  have h11:x.op≠11:=fun e=>hend (.inl e)
  have h5:x.op≠5:=fun e=>hend (.inr e)
  rw[if_neg (by simp[h11,h5])];rw[KP hx,kR]at hS;have mF:∀(q:RT) (r:PS),oP o op kd base q r→t.a<q.a→q.a≤bd.length→kR 40 ((cV bd).drop q.a) S=some []→(xB m ls (bd.drop t.a) s=if r.bad=true then r else xB m ls (bd.drop q.a) r)→aH2 m ls bd o op kd base S t.a s (LR m ls res bd q):=by
   intro q r hs hqa hql hqS hgo;rcases hs with⟨e1,e2⟩|⟨e1,e2,e3⟩
   ·rw[EC e1];exact .inl ⟨e1,by rw[hgo,if_pos e2];exact e2⟩
   ·have hg:xB m ls (bd.drop t.a) s=xB m ls (bd.drop q.a) r:=by rw[hgo,if_neg (by simp[e2])]
    rcases yY hm n o op kd base S q r (by omega) hql e1 e2 e3 hr hqS with⟨f1,f2⟩|⟨f1,f2,f3,s',f4,f5⟩
    ·exact .inl ⟨f1,by rw[hg];exact f2⟩
    ·exact .inr ⟨f1,by omega,f3,s',hg.trans f4,f5⟩
  have hgo1:xB m ls (bd.drop t.a) s=if(gM m ls s x).bad=true then gM m ls s x else xB m ls (bd.drop (t.a+1)) (gM m ls s x):=by rw[BW hx];rfl
  have hC1:oP o op kd base ⟨t.a+1,t.lb,t.bad,t.l,t.dd⟩ s:=.inr ⟨hb,hb',⟨hC.vs,hC.cs,hC.lb⟩⟩;cases hO:oN x.op with
  |false=>
   have hst:iY 40 S x.op=some S:=by unfold iY;rw[if_neg (by simp[hO]),if_pos ⟨h5,h11⟩]
   rw[hst]at hS;have hq:=aAI (m:=m) (ls:=ls) (res:=res) hC1 hr hxm hO h5 h11;have hqa:(gS m ls res x ⟨t.a+1,t.lb,t.bad,t.l,t.dd⟩).a=t.a+1:=aC4 m ls res x _;have hi:fB m ls res bd (LR m ls res bd) x t=gS m ls res x ⟨t.a+1,t.lb,t.bad,t.l,t.dd⟩:=if_neg (by simp[hO]);rw[hi];exact mF _ _ hq (by omega) (by omega) (by rw[hqa];exact hS) (by rw[hqa];exact hgo1)
  |true=>
   have hi:fB m ls res bd (LR m ls res bd) x t=rL (LR m ls res bd) bd x ⟨t.a+1,t.lb,t.bad,t.l,t.dd⟩:=if_pos hO;rw[hi,BV];have hst:∃S',iY 40 S x.op=some S'∧S'=S++ [x.op==4]:=by
    have:iY 40 S x.op=if 40≤S.length then none else some (S++ [x.op==4]):=by unfold iY;rw[if_pos hO]
    rw[this]at hS⊢;split
    ·next h40=>rw[if_pos h40]at hS;cases hS
    ·exact⟨_,rfl,rfl⟩
   obtain⟨S',hst,rfl⟩:=hst;rw[hst]at hS;rw[aAK hO]at hgo1;have h2:oP o op kd base (if(x.op==4)=true then aV ⟨t.a+1,t.lb,t.bad,t.l,t.dd⟩ [1]else⟨t.a+1,t.lb,t.bad,t.l,t.dd⟩) (if(x.op==4)=true then(cQ s 1).2 else s):=by
    split
    ·exact fM (ks:=[1]) (ks':=[1]) hC1 fun _=>rfl
    ·exact hC1
   have h2a:(if(x.op==4)=true then aV ⟨t.a+1,t.lb,t.bad,t.l,t.dd⟩ [1]else⟨t.a+1,t.lb,t.bad,t.l,t.dd⟩).a=t.a+1:=aJ (p:=fun r:RT=>r.a=t.a+1) (fun _=>xA _ _) (fun _=>rfl);generalize(if(x.op==4)=true then aV ⟨t.a+1,t.lb,t.bad,t.l,t.dd⟩ [1]else⟨t.a+1,t.lb,t.bad,t.l,t.dd⟩)=t2 at h2 h2a⊢;generalize(if(x.op==4)=true then(cQ s 1).2 else s)=s2 at h2 hgo1;have hAd:=EA m ls res bd;rcases h2 with⟨e1,e2⟩|⟨e1,e2,e3⟩
   ·have hbad:(BA bd x (mQ (LR m ls res bd) bd x (dP (LR m ls res bd) (bB x.a) (TK x) t2))).bad=true:=yX (IC hAd ((kT hAd _ _ _).2 e1));rw[EC hbad];have:(openP s2 x.op x.a).bad=true:=e2;exact .inl ⟨hbad,by rw[hgo1,if_pos this];exact this⟩
   have hgo2:xB m ls (bd.drop t.a) s=xB m ls (bd.drop (t.a+1)) (openP s2 x.op x.a):=by rw[hgo1,if_neg (by show¬s2.bad=true;simp[e2])]
   have hC3:=OT e3 x.op x.a t2.a;rw[show lbC ⟨x.op,x.a,0,false⟩=TK x from rfl]at hC3;have hbl:dP (LR m ls res bd) (bB x.a) (TK x) t2=pM (LR m ls res bd ⟨t2.a,t2.lb++ [TK x],false,[],false⟩) (bB x.a) t2.l t2.dd:=by unfold dP;rw[e1]
   rw[hbl];have hI:=yY hm n (o++ [⟨op,kd,base.length,t2.dd⟩]) x.op x.a (base++t2.l) (S++ [x.op==4]) ⟨t2.a,t2.lb++ [TK x],false,[],false⟩ (openP s2 x.op x.a) (by show bd.length-t2.a<n;omega) (by show t2.a≤ _;omega) rfl e2 hC3 (hr.trans (by rw[aAJ])) (by show kR 40 ((cV bd).drop t2.a) _=_;rw[h2a];exact hS);generalize LR m ls res bd ⟨t2.a,t2.lb++ [TK x],false,[],false⟩=r3 at hI⊢;rcases hI with⟨f1,f2⟩|⟨f1,f2,f3,s4,f4,f5,f6,f7,f8⟩
   ·have hbad:(BA bd x (mQ (LR m ls res bd) bd x (pM r3 (bB x.a) t2.l t2.dd))).bad=true:=yX (IC hAd (ED _ _ _ f1));rw[EC hbad];exact .inl ⟨hbad,by rw[hgo2];dsimp only at f2;rw[h2a]at f2;exact f2⟩
   dsimp only at f2 f4;rw[h2a]at f2 f4;obtain⟨y,hy,hyo⟩:∃y,bd[r3.a]? =some y∧(y.op=11∨y.op=5):=by
    rcases f8 with e|h
    ·rw[List.drop_of_length_le (by unfold cV;rw[List.length_map];omega),kR]at f7;simp at f7
    ·exact h
   have hya:=(List.getElem?_eq_some_iff.1 hy).1;rw[KP hy,kR]at f7;have hgl:(S++ [x.op==4]).getLast? =some (x.op==4):=by simp
   have hsh:=OR f1 f5 f6;have hsa:=QZ r3 (bB x.a) t2.l t2.dd;have htop:=f6.top;have hgo3:xB m ls (bd.drop t.a) s=if(gM m ls s4 y).bad=true then gM m ls s4 y else xB m ls (bd.drop (r3.a+1)) (gM m ls s4 y):=by rw[hgo2,f4,BW hy];rfl
   generalize pM r3 (bB x.a) t2.l t2.dd=t5 at hsh hsa⊢;rw[←hsa]at hy;rcases hyo with hyo|hyo
   ·--the end
    have hst:iY 40 (S++ [x.op==4]) y.op=some S:=by
     rw[hyo];unfold iY;rw[if_neg (by decide),if_neg (by decide),hgl];simp
    rw[hst]at f7;rw[OS hyo,htop]at hgo3;dsimp only at hgo3;have hE:mQ (LR m ls res bd) bd x t5=if(if(x.op !=4)=true then true else(x.a==0))=true then t5 else eD t5:=by
     unfold mQ;rw[aC5 hy (by rw[hyo];decide)];cases h4:x.op==4 with
     |false=>simp[bne,h4]
     |true=>
      simp only[bne,h4,Bool.not_true,Bool.false_eq_true,if_true,if_false];by_cases hz:x.a=0
      ·simp[bB,hz]
      ·simp[bB,hz]
    have h6:=pO hsh (b:=(if(x.op !=4)=true then true else(x.a==0))) fun _=>rfl
    rw[hE];have h6a:(if(if(x.op !=4)=true then true else(x.a==0))=true then t5 else eD t5).a=r3.a:=aJ (p:=fun r:RT=>r.a=r3.a) (fun _=>hsa) (fun _=>hsa);generalize(if(if(x.op !=4)=true then true else(x.a==0))=true then t5 else eD t5)=t6 at h6 h6a⊢;generalize dB (gG s4) (if(x.op !=4)=true then true else(x.a==0))=s6 at h6 hgo3;have hN:BA bd x t6=gY ⟨t6.a+1,t6.lb,t6.bad,t6.l,t6.dd⟩ (bB x.a):=by
     unfold BA;have:=EB (bd:=bd) (t:=t6) (y:=y) (by rw[h6a,←hsa];exact hy);rw[hyo]at this;rw[this];rfl
    rw[hN];have h7:oP o op kd base (⟨t6.a+1,t6.lb,t6.bad,t6.l,t6.dd⟩:RT) s6:=by
     rcases h6 with⟨g1,g2⟩|⟨g1,g2,g3⟩
     ·exact .inl ⟨g1,g2⟩
     ·exact .inr ⟨g1,g2,⟨g3.vs,g3.cs,g3.lb⟩⟩
    refine mF _ _ (jN h7 fun _=>rfl) (by show t.a<t6.a+1;omega) (by show t6.a+1≤ _;omega) (by show kR 40 ((cV bd).drop (t6.a+1)) S=_;rw[h6a];exact f7) ?_;show _=if _ then _ else xB m ls (bd.drop (t6.a+1)) _
    rw[h6a];exact hgo3
   ·--the else
    have hst:iY 40 (S++ [x.op==4]) y.op=if(x.op==4)=true then some (S++ [false])else none:=by
     rw[hyo];unfold iY;rw[if_neg (by decide),if_neg (by decide),hgl];simp
    rw[hst]at f7;have h4:(x.op==4)=true:=by
     cases h4:x.op==4 with
     |true=>rfl
     |false=>rw[h4]at f7;simp at f7
    rw[if_pos h4]at f7;dsimp only at f7;rw[VN hyo,htop]at hgo3;dsimp only at hgo3;have hE:mQ (LR m ls res bd) bd x t5=dP (LR m ls res bd) (bB x.a) (bB x.a) ⟨t5.a+1,t5.lb,t5.bad,t5.l,t5.dd⟩:=by
     unfold mQ;have:=EB (bd:=bd) (t:=t5) (y:=y) hy;rw[hyo]at this;rw[this,if_pos h4,if_pos rfl]
    rw[hE];rcases hsh with⟨g1,g2⟩|⟨g1,g2,g3⟩
    ·have hbad:(BA bd x (dP (LR m ls res bd) (bB x.a) (bB x.a) ⟨t5.a+1,t5.lb,t5.bad,t5.l,t5.dd⟩)).bad=true:=yX ((kT hAd _ _ _).2 g1);rw[EC hbad];have:(openP (gG s4) 5 x.a).bad=true:=g2;exact .inl ⟨hbad,by rw[hgo3,if_pos this];exact this⟩
    have hgo4:xB m ls (bd.drop t.a) s=xB m ls (bd.drop (r3.a+1)) (openP (gG s4) 5 x.a):=by rw[hgo3,if_neg (by show¬(gG s4).bad=true;simp[g2])]
    have hC6:=OT g3 5 x.a (t5.a+1);rw[show lbC ⟨5,x.a,0,false⟩=bB x.a from rfl]at hC6;have hbl2:dP (LR m ls res bd) (bB x.a) (bB x.a) ⟨t5.a+1,t5.lb,t5.bad,t5.l,t5.dd⟩=pM (LR m ls res bd ⟨t5.a+1,t5.lb++ [bB x.a],false,[],false⟩) (bB x.a) t5.l t5.dd:=by unfold dP;rw[g1]
    rw[hbl2];have hI:=yY hm n (o++ [⟨op,kd,base.length,t5.dd⟩]) 5 x.a (base++t5.l) (S++ [false]) ⟨t5.a+1,t5.lb++ [bB x.a],false,[],false⟩ (openP (gG s4) 5 x.a) (by show bd.length-(t5.a+1)<n;omega) (by show t5.a+1≤ _;omega) rfl g2 hC6 (hr.trans (by rw[aAJ])) (by show kR 40 ((cV bd).drop (t5.a+1)) _=_;rw[hsa];exact f7);generalize LR m ls res bd ⟨t5.a+1,t5.lb++ [bB x.a],false,[],false⟩=r6 at hI⊢;rcases hI with⟨k1,k2⟩|⟨k1,k2,k3,s7,k4,k5,k6,k7,k8⟩
    ·have hbad:(BA bd x (pM r6 (bB x.a) t5.l t5.dd)).bad=true:=yX (ED _ _ _ k1);rw[EC hbad];exact .inl ⟨hbad,by rw[hgo4];dsimp only at k2;rw[hsa]at k2;exact k2⟩
    dsimp only at k2 k4;rw[hsa]at k2 k4;obtain⟨z,hz,hzo⟩:∃z,bd[r6.a]? =some z∧(z.op=11∨z.op=5):=by
     rcases k8 with e|h
     ·rw[List.drop_of_length_le (by unfold cV;rw[List.length_map];omega),kR]at k7;simp at k7
     ·exact h
    have hza:=(List.getElem?_eq_some_iff.1 hz).1;rw[KP hz,kR]at k7;have hgl2:(S++ [false]).getLast? =some false:=by simp
    have hz11:z.op=11:=by
     rcases hzo with e|e
     ·exact e
     ·have:iY 40 (S++ [false]) z.op=none:=by
       rw[e];unfold iY;rw[if_neg (by decide),if_neg (by decide),hgl2];simp
      rw[this]at k7;cases k7
    have hst2:iY 40 (S++ [false]) z.op=some S:=by
     rw[hz11];unfold iY;rw[if_neg (by decide),if_neg (by decide),hgl2];simp
    rw[hst2]at k7;have hsh2:=OR k1 k5 k6;have hsa2:=QZ r6 (bB x.a) t5.l t5.dd;have htop2:=k6.top;have hgo5:xB m ls (bd.drop t.a) s=if(gM m ls s7 z).bad=true then gM m ls s7 z else xB m ls (bd.drop (r6.a+1)) (gM m ls s7 z):=by rw[hgo4,k4,BW hz];rfl
    generalize pM r6 (bB x.a) t5.l t5.dd=t8 at hsh2 hsa2⊢;rw[OS hz11,htop2]at hgo5;dsimp only at hgo5;rw[show(if((5:Int) !=4)=true then true else(x.a==0))=true from rfl,IB]at hgo5;have hN:BA bd x t8=gY ⟨t8.a+1,t8.lb,t8.bad,t8.l,t8.dd⟩ (bB x.a):=by
     unfold BA;have:=EB (bd:=bd) (t:=t8) (y:=z) (by rw[hsa2];exact hz);rw[hz11]at this;rw[this];rfl
    rw[hN];have h7:oP o op kd base (⟨t8.a+1,t8.lb,t8.bad,t8.l,t8.dd⟩:RT) (gG s7):=by
     rcases hsh2 with⟨g1,g2⟩|⟨g1,g2,g3⟩
     ·exact .inl ⟨g1,g2⟩
     ·exact .inr ⟨g1,g2,⟨g3.vs,g3.cs,g3.lb⟩⟩
    refine mF _ _ (jN h7 fun _=>rfl) (by show t.a<t8.a+1;omega) (by show t8.a+1≤ _;omega) (by show kR 40 ((cV bd).drop (t8.a+1)) S=_;rw[hsa2];exact k7) ?_;show _=if _ then _ else xB m ls (bd.drop (t8.a+1)) _
    rw[hsa2];exact hgo5
end
theorem aC6{o:List Ct}{op kd:Int}{base:List Int}{t:RT}{s:PS}(hb:t.bad=false)(hb':s.bad=false)(h:Cor o op kd base t s)(l:List Int)(dd:Bool):(pM t (bB kd) l dd).bad=(gG s).bad:=by
 have h1:=fM (ks:=bB kd) (ks':=bB kd) (.inr ⟨hb,hb',h⟩) fun _=>rfl
 have ht:=h.top;have hs:(gG s).bad=(dB (dL s (bB kd)) (((dL s (bB kd)).vs.length:Int)==base.length)).bad:=by
  unfold gG;rw[ht]
 rw[hs];show(if decide ((0:Int)<(aV t (bB kd)).l.length)=true then true else(aV t (bB kd)).bad)=_;rcases h1 with⟨e1,e2⟩|⟨e1,e2,e3⟩
 ·rw[e1,mY _ _ e2];simp
 ·have hl:((dL s (bB kd)).vs.length:Int)=base.length+(aV t (bB kd)).l.length:=by rw[e3.vs];simp
  unfold dB;dsimp only;rw[e1,e2,hl];cases hz:(aV t (bB kd)).l with
  |nil=>simp
  |cons y ys=>
   have h0:((base.length:Int)+((y::ys).length:Int)==base.length)=false:=by simp only[List.length_cons,beq_eq_false_iff_ne];omega
   have h1:decide ((0:Int)<((y::ys).length:Int))=true:=by simp only[List.length_cons,decide_eq_true_eq];omega
   rw[h0,h1];rfl
theorem aF1{m:Md}(hm:pT m=true)(k:Int):CZ m k=ON m k:=by
 unfold pT at hm;simp only[Bool.and_eq_true]at hm;obtain⟨⟨⟨⟨-,hco⟩,hls⟩,-⟩,-⟩:=hm;unfold pE at hls;simp only[Bool.and_eq_true]at hls;obtain⟨⟨⟨⟨⟨⟨hty,-⟩,-⟩,-⟩,-⟩,-⟩,-⟩:=hls;unfold CZ ON;by_cases h1:(if(if decide (k<0)=true then true else decide ((m.co.length:Int)≤k))=true then true else decide ((m.fn.length:Int)≤k))=true
 ·rw[if_pos h1,if_pos];rw[if_pos h1];simp
 rw[if_neg h1];have h1':0≤k∧k<m.co.length∧k<m.fn.length:=by
  refine⟨?_, ?_, ?_⟩
  ·rcases Int.lt_or_le k 0 with h|h
   ·exact absurd (by simp[h]) h1
   ·exact h
  ·rcases Int.lt_or_le k m.co.length with h|h
   ·exact h
   ·exact absurd (by simp[h]) h1
  ·rcases Int.lt_or_le k m.fn.length with h|h
   ·exact h
   ·exact absurd (by simp[h]) h1
 rw[if_neg h1];generalize hf:m.fn.getD k.toNat 0=f;by_cases h2:f<0∨(m.ty.length:Int)≤f
 ·have hc2:(if decide (f<0)=true then true else decide ((m.ty.length:Int)≤f))=true:=by rcases h2 with h|h<;>simp[h]
  have:cH m f=(rG,false):=if_pos hc2;rw[if_pos hc2,this];rfl
 have hf0:¬f<0:=fun h=>h2 (.inl h)
 have hfl:¬(m.ty.length:Int)≤f:=fun h=>h2 (.inr h)
 have hc2:¬(if decide (f<0)=true then true else decide ((m.ty.length:Int)≤f))=true:=by rw[decide_eq_false hf0,if_neg (by simp),decide_eq_false hfl];simp
 have:cH m f=(m.ty.getD f.toNat rG,true):=if_neg hc2;rw[if_neg hc2,this];dsimp only;obtain⟨c,hc⟩:∃c,m.co[k.toNat]? =some c:=⟨_,List.getElem?_eq_getElem (by omega)⟩
 obtain⟨t,ht⟩:∃t,m.ty[f.toNat]? =some t:=⟨_,List.getElem?_eq_getElem (by omega)⟩
 rw[List.getD_eq_getElem?_getD,List.getD_eq_getElem?_getD,hc,ht,Option.getD_some,Option.getD_some];have hcn:=(bW hco).2 c (List.mem_of_getElem? hc);unfold sA at hcn;simp only[Bool.and_eq_true]at hcn;obtain⟨⟨hok,-⟩,hbd⟩:=hcn;have hmay:=(bW hbd).2;have htn:=(bW hty).2 t (List.mem_of_getElem? ht);simp only[Bool.and_eq_true]at htn;have hr1:=(bW htn.2).1;have hr2:=(bW htn.2).2;rw[hok];rw[if_neg (c:=(if(!true)=true then true else !true)=true) (by simp)];have hkd:t.rs=bB (if decide ((0:Int)<t.rs.length)=true then t.rs.headD 0 else 0):=by
  match hrs:t.rs with
  |[]=>rfl
  |[r]=>
   have:yC r=true:=hr2 r (by rw[hrs];exact List.mem_singleton.2 rfl);have hr0:r≠0:=by rintro rfl;exact absurd this (by decide)
   simp[bB,hr0]
  | _:: _:: _=>rw[hrs]at hr1;simp at hr1;omega
 generalize(if decide ((0:Int)<t.rs.length)=true then t.rs.headD 0 else 0)=kd at hkd;have hS:=(KH.1 hok).2;have hG:=yY (m:=m) (ls:=t.pr++c.ls) (res:=t.rs) (bd:=c.bd) hmay (c.bd.length+1) [] 2 kd [] [] ⟨0,[]++ [t.rs],false,[],false⟩ (openP ⟨[],[],false⟩ 2 kd) (Nat.lt_succ_self _) (Nat.zero_le _) rfl rfl ⟨rfl,rfl,by rw[hkd];rfl⟩ hkd hS;show(if(xB m (t.pr++c.ls) c.bd (openP ⟨[],[],false⟩ 2 kd)).bad=true then false else if(!(gG (xB m (t.pr++c.ls) c.bd (openP ⟨[],[],false⟩ 2 kd))).bad)=true then decide (((t.pr++c.ls).length:Int)≤32)else false)=
  if decide ((32:Int)<(t.pr++c.ls).length)=true then false else if(!(pM (LR m (t.pr++c.ls) t.rs c.bd ⟨0,[]++ [t.rs],false,[],false⟩) t.rs [] false).bad)=true then(((pM (LR m (t.pr++c.ls) t.rs c.bd ⟨0,[]++ [t.rs],false,[],false⟩) t.rs [] false).a:Int)==c.bd.length)else false
 generalize LR m (t.pr++c.ls) t.rs c.bd ⟨0,[]++ [t.rs],false,[],false⟩=r at hG⊢;rcases hG with⟨e1,e2⟩|⟨e1,-,e3,s',e4,e5,e6,e7,e8⟩
 ·rw[if_pos (by simpa using e2)];have:=ED t.rs [] false e1;rw[this];split<;>simp
 ·have hl:r.a=c.bd.length:=by
   rcases e8 with e|⟨y,hy,hyo⟩
   ·exact e
   ·rw[KP hy,kR]at e7;have:iY 40 [] y.op=none:=by
     unfold iY;rcases hyo with e|e<;>rw[e]<;>simp[oN]
    rw[this]at e7;cases e7
  have hg:xB m (t.pr++c.ls) c.bd (openP ⟨[],[],false⟩ 2 kd)=s':=by
   have:=e4;rw[List.drop_zero,hl,List.drop_length]at this;exact this
  have hsb:=aC6 e1 e5 e6 [] false;rw[←hkd]at hsb;have hsa:(pM r t.rs [] false).a=c.bd.length:=(QZ r t.rs [] false).trans hl;rw[hg,hsb,hsa,if_neg (by simp[e5])];by_cases h32:((t.pr++c.ls).length:Int)≤32
  ·rw[decide_eq_true h32,decide_eq_false (by omega)];cases(gG s').bad<;>simp
  ·rw[decide_eq_false h32,decide_eq_true (by omega)];cases(gG s').bad<;>simp
end Go.Proofs.YtjpdadobblffmaaGreat
namespace Go.Proofs.YtjpdadobblffmaaGreat
open Go.RowKit Go.ChangeShapes Go.WideShapes Go.ChangeAt Go.Deep
attribute [local irreducible] SW RS RD gJ fA
structure Env where
 m:Md
 ls:List Int
 res:List Int
 bd:List Ins
def iF (E0:Env) (p a n:Nat) (b:Bool):List AV:=[.ro 2 (E0.m.ty.map eF) .any,.ro 3 (E0.m.im.map fT) .any,.ro 1 (E0.m.fn.map aX) .any,.bool E0.m.tb.has,.int .i64 E0.m.tb.mn,.int .i64 E0.m.tb.mx,.bool E0.m.me.has,.int .i64 E0.m.me.mn,.int .i64 E0.m.me.mx,
 .ro 3 (E0.m.gl.map fP) .any,.ro 2 (E0.m.ex.map fQ) .any,.ro 2 (E0.m.el.map fK) .any,.ro 2 (E0.m.co.map eS) .any,.ro 2 (E0.m.da.map fL) .any,.ro 4 (E0.bd.map (iv .any)) .any,.ro 1 (E0.ls.map aX) .any,.ro 1 (E0.res.map aX) .any,.int .i64 a,.own p 0 n,.bool b]
def fR (E0:Env) (r p:Nat) (t:RT):dY:=[(r,.box 142 (iF E0 p t.a t.lb.length t.bad)),(p,.arr 24 1 (t.lb.map kM))]
def eX (z q:Nat) (t:RT):dY:=[(z,.box 261 [.own q 0 t.l.length,.bool t.dd]),(q,.arr 3 1 (t.l.map aX))]
def eJ (E0:Env) (r p z q:Nat) (t:RT):dY:=fR E0 r p t++eX z q t
structure Nr (r p z q:Nat):Prop where
 pr:Nq p r
 zr:Nq z r
 zp:Nq z p
 qr:Nq q r
 qp:Nq q p
 qz:Nq q z
theorem dH{P:Prop}(h:P:=by(try unfold eJ);(try unfold fR);(try unfold eX);(try unfold iF);(try dsimp only[List.cons_append,List.nil_append]);exact aA):P:=h
theorem aH3{P:Prop}(h:P:=by(try unfold eJ);(try unfold fR);(try unfold eX);(try unfold iF);(try dsimp only[List.cons_append,List.nil_append]);exact gE):P:=h
section
variable {r p z q : Nat} {E0 : Env}
theorem yZ(hN:Nr r p z q)(t:RT)(hl:t.l.length≤1000000)(k:Int):SCall Tryz.prog 274 [.ptr r 0,.ptr z 0,.int .i64 k] (eJ E0 r p z q t) (fun y σ=>y=.int .i64 (jH t k).1∧σ=eJ E0 r p z q (jH t k).2):=by
 obtain⟨ta,tl,tb,l,dd⟩:=t;obtain⟨n1,n2,n3,n4,n5,n6⟩:=hN;dsimp only at hl;refine cC 67 [0,1,2,6,7,13,18,59,64] Tryz.func274 ?_;unfold eJ fR eX iF;dsimp only[List.cons_append,List.nil_append];refine fV ?_;refine nT ?_;refine rC ?_;refine aB rfl (fun g1=> ?_) (fun g1=> ?_)
 ·have hP:jH ⟨ta,tl,tb,l,dd⟩ k=(k,if(!dd)=true then eD ⟨ta,tl,tb,l,dd⟩else⟨ta,tl,tb,l,dd⟩):=if_pos g1;rw[hP];refine dX ?_;refine nT ?_;refine tU ?_;refine aB rfl (fun g2=> ?_) (fun g2=> ?_)
  ·rw[if_pos g2];refine tE ?_;refine gK ?_;refine dG ?_;apply aF;exact aG
   ·exact⟨rfl,rfl⟩
   ·exact aA
  rw[if_neg (by simp[g2])];refine fN ?_;apply aF;exact aG
  ·exact⟨rfl,rfl⟩
  ·exact aA
 obtain⟨ws,g,rfl⟩:∃ws g,l=ws++ [g]:=by
  rcases List.eq_nil_or_concat l with e|⟨ws,g,e⟩
  ·subst e;simp at g1
  ·exact⟨ws,g,by rw[e,List.concat_eq_append]⟩
 have hP:jH ⟨ta,tl,tb,ws++ [g],dd⟩ k=(if(g==0)=true then k else g,⟨ta,tl,if KL g k=true then true else tb,ws,dd⟩):=by unfold jH;rw[if_neg (fun e=>by rw[g1]at e;cases e)];simp
 rw[hP];have hel2:=rI (l:=ws.map aX) (x:=aX g) (n:=ws.length) (by simp);rw[KB]at hl;rw[KB,ZD];refine aP ?_;refine gI [(0,true),(1,true),(2,true),(3,true),(4,true),(5,true),(6,true),(7,true),(8,true),(9,true),(10,true),(11,true),(12,true)] ?_;refine wL ?_;refine rD ?_;refine MC ?_;refine LD ?_;refine tV ?_;refine gI [(0,true),(1,true),(2,true),(3,true),(4,true),(5,true),(6,true),(7,true),(8,true),(9,true),(10,true),(11,true),(12,true),(13,true),(14,false)] ?_;refine CO ?_;refine rD ?_;refine WA ?_;refine WB ?_;refine rB ?_;refine kK ?_;rw[pI];refine eU (nB (o:=q) ws.length cZ) ?_;rw[show List.take ws.length (ws.map aX++ [aX g])=ws.map aX by rw[List.take_left' (by simp)]];refine mK ?_;refine lo (fE (E rfl) (E rfl)) rfl ?_;refine jK ?_;refine aBd ?_;refine rS ?_;refine jK ?_;refine aBd ?_;refine tW ?_;refine aB rfl (fun g7=> ?_) (fun g7=> ?_)
 ·have hnf:KL g k=true:=g7;rw[show(if KL g k=true then true else tb)=true by rw[hnf];rfl];refine tE ?_;refine gK ?_;refine qI ?_;refine aB rfl (fun g9=> ?_) (fun g9=> ?_)
  ·rw[if_pos (c:=(g==0)=true) g9];refine fN ?_;apply aF;exact aG
   ·exact⟨rfl,rfl⟩
   ·exact aA
  rw[if_neg (c:=(g==0)=true) (fun e=>by rw[g9]at e;cases e)];refine fN ?_;apply aF;exact aG
  ·exact⟨rfl,rfl⟩
  ·exact aA
 have hnf:KL g k=false:=g7;rw[show(if KL g k=true then true else tb)=tb by rw[hnf];rfl];refine dX ?_;refine qI ?_;refine aB rfl (fun g9=> ?_) (fun g9=> ?_)
 ·rw[if_pos (c:=(g==0)=true) g9];refine fN ?_;apply aF;exact aG
  ·exact⟨rfl,rfl⟩
  ·exact aA
 rw[if_neg (c:=(g==0)=true) (fun e=>by rw[g9]at e;cases e)];refine fN ?_;apply aF;exact aG
 ·exact⟨rfl,rfl⟩
 ·exact aA
theorem jD(hz:Nq q z)(t:RT)(hl:t.l.length≤1000000)(ks:List Int)(hk:ks.length≤1000):SCall Tryz.prog 275 [.ptr z 0,.ro 1 (ks.map aX) .any] (eX z q t) (fun _ σ=>∃e,Nq e z∧σ=eX z e (gY t ks)):=by
 obtain⟨ta,tl,tb,l,dd⟩:=t;dsimp only at hl;refine cC 13 [0,1] Tryz.func275 ?_;unfold eX;dsimp only;refine cL ?_;refine GS ?_;refine jY ((l++ks).map aX) (l++ks).length ?_;refine bM fun r10 h10=> ?_;repeat rcases h10 with⟨_,h10⟩
 refine oW ?_;refine bR ?_;apply aF;exact aG
 ·exact⟨r10,by(exact cF),rfl⟩
 ·exact aA
theorem aF2(k:Int):SCall Tryz.prog 299 [.int .i64 k] [] (fun y σ=>y=.ro 1 ((bB k).map aX) .any∧σ=[]):=by
 refine cC 7 [0,2,4] Tryz.func299 ?_;refine fV ?_;refine qI ?_;refine aB rfl (fun g1=> ?_) (fun g1=> ?_)
 ·rw[show bB k=[]from if_pos g1];refine dW ?_;refine vQ ?_;refine eU (fY (j:=2) (y:=.ro 1 (([]:List Int).map aX) .any) rfl VLe.empty) ?_;refine aP ?_;apply aF;exact aG
  ·exact⟨rfl,rfl⟩
  ·exact aA
 rw[show bB k=[k]from if_neg (by simp[g1])];refine dX ?_;refine z1 ?_;refine aD fun r6 h6=> ?_;repeat rcases h6 with⟨_,h6⟩
 refine vQ ?_;refine YD (j:=2) rfl bP (aR bH (by simp)) ?_;refine aP ?_;apply aF;exact aG
 ·exact⟨rfl,rfl⟩
 ·exact aA
theorem zA(hz:Nq q z)(t:RT):SCall Tryz.prog 302 [.ptr z 0] (eX z q t) (fun _ σ=>∃e,Nq e z∧σ=eX z e (pL t)):=by
 obtain⟨ta,tl,tb,l,dd⟩:=t;refine cC 8 [0] Tryz.func302 ?_;unfold eX;dsimp only;refine cL ?_;refine xO ?_;apply WX;rfl;rfl;rfl;rfl;(exact sK);refine LW z 0 3 1 (by decide) bH rfl (by decide) fun e he=> ?_
 simp only[aM,aQ,and_true]at he;repeat rcases he with⟨_,he⟩
 apply Exists.intro;apply And.intro;(exact cZ);refine oW ?_;refine bR ?_;apply aF;exact aG
 ·exact⟨e,by(exact cF),rfl⟩
 ·exact aA
theorem vO(hp:Nq p r)(t:RT)(hl:t.lb.length≤1000000)(n:Int)(hn:-9000000000000000000≤n∧n≤9000000000000000000):SCall Tryz.prog 301 [.ptr r 0,.int .i64 n] (fR E0 r p t) (fun y σ=>∃b,y=.tup [.ro 1 ((dA t n).1.map aX) .any,.bool b]∧σ=fR E0 r p (dA t n).2):=by
 obtain⟨ta,tl,tb,l,dd⟩:=t;dsimp only at hl;refine cC 31 [0,1,4,5,6,20] Tryz.func301 ?_;unfold fR iF;dsimp only;refine dW ?_;refine kJ ?_;refine oY ?_;refine lU ?_;refine rP ?_;refine lo (aI (E rfl)) rfl ?_;refine rP ?_;refine iE ?_;refine EY ?_;refine XE ?_;refine qJ ?_;refine aB rfl (fun g2=> ?_) (fun g2=> ?_)
 ·have hP:dA ⟨ta,tl,tb,l,dd⟩ n=([],eD ⟨ta,tl,tb,l,dd⟩):=if_pos g2;rw[hP];refine sO ?_;refine nS ?_;refine tX ?_;refine eU (fY (j:=4) (y:=.ro 1 (([]:List Int).map aX) .any) rfl VLe.empty) ?_;refine aP ?_;apply aF;exact aG
  ·exact⟨_,rfl,rfl⟩
  ·exact aA
 have h2:0≤n∧0≤(tl.length:Int)-1-n:=by
  have:∀p q:Bool,(if p=true then true else q)=false→p=false∧q=false:=by intro p q;cases p<;>cases q<;>simp
  obtain⟨h1,h2⟩:=this _ _ g2;simp only[decide_eq_false_iff_not]at h1 h2;exact⟨by omega,by omega⟩
 obtain⟨w,hw⟩:∃w,tl[((tl.length:Int)-1-n).toNat]? =some w:=⟨_,List.getElem?_eq_getElem (by omega)⟩
 have hP:dA ⟨ta,tl,tb,l,dd⟩ n=(w,⟨ta,tl,tb,l,dd⟩):=by unfold dA;rw[if_neg (fun e=>by rw[g2]at e;cases e)];rw[List.getD_eq_getElem?_getD,hw];rfl
 rw[hP];refine dX ?_;refine nT ?_;refine nJ ?_;refine kJ ?_;apply aF;exact aG
 ·exact⟨_,rfl,rfl⟩
 ·exact aA
theorem OU(hp:Nq p r)(t:RT)(ha:t.a≤1000000)(op:Int):SCall Tryz.prog 300 [.ptr r 0,.int .i64 op] (fR E0 r p t) (fun y σ=>y=.bool (eO E0.bd t op).1∧σ=fR E0 r p (eO E0.bd t op).2):=by
 obtain⟨ta,tl,tb,l,dd⟩:=t;dsimp only at ha;have hu:∀b:Bool,(if decide ((ta:Int)<E0.bd.length)=true then((E0.bd.getD ta ⟨0,0,0,[]⟩).op==op)else false)=b→eO E0.bd ⟨ta,tl,tb,l,dd⟩ op=if b=true then(true,⟨ta+1,tl,tb,l,dd⟩)else(false,⟨ta,tl,tb,l,dd⟩):=fun b e=>by unfold eO;rw[e]
 refine cC 37 [0,1,4,29] Tryz.func300 ?_;unfold fR iF;dsimp only;refine bQ ?_;by_cases hlt:ta<E0.bd.length
 ·obtain⟨x,hx⟩:∃x,E0.bd[ta]? =some x:=⟨_,List.getElem?_eq_getElem hlt⟩
  rw[List.getD_eq_getElem?_getD,hx,decide_eq_true (by omega)]at hu;refine gI [(0,true),(1,true),(2,true),(3,true),(4,true),(5,true),(6,true),(7,true),(8,true),(9,true),(10,true),(11,true),(12,true),(13,true),(14,true),(15,true),(16,true),(17,true),(18,true),(19,true),(20,true),(21,true),(22,true),(23,true),(24,true)] ?_;refine wL ?_;refine IQ ?_;refine z46 ?_;rw[show decide ((ta:Int)<(E0.bd.length:Int))=true from decide_eq_true (by omega)];refine zI ?_;refine sq7 ?_;refine qH ?_;refine xL ?_;refine sq7 ?_;refine qH ?_;refine MF ?_;refine aGU ?_;refine PH ?_;refine xL ?_;refine aBi ?_;refine TW ?_;refine kK ?_;refine aB rfl (fun g1=> ?_) (fun g1=> ?_)
  ·rw[hu true g1];refine dX ?_;refine nT ?_;refine RH ?_;refine xO ?_;refine nS ?_;refine bQ ?_;apply aF;exact aG
   ·exact⟨rfl,rfl⟩
   ·exact aA
  rw[hu false g1];refine bQ ?_;apply aF;exact aG
  ·exact⟨rfl,rfl⟩
  ·exact aA
 ·rw[decide_eq_false (by omega)]at hu;rw[hu false rfl];refine gI [(0,true),(1,true),(2,true),(3,true),(4,true),(5,true),(6,true),(7,true),(8,true),(9,true),(10,true),(11,true),(12,true),(13,true),(14,true),(15,true),(16,true),(17,true),(18,true),(19,true),(20,true),(21,true),(22,true),(23,true),(24,true)] ?_;refine wL ?_;refine IQ ?_;refine z46 ?_;rw[show decide ((ta:Int)<(E0.bd.length:Int))=false from decide_eq_false (by omega)];refine zI ?_;refine sq7 ?_;refine qH ?_;refine xL ?_;refine sq7 ?_;refine qH ?_;refine MF ?_;refine aGU ?_;refine PH ?_;refine xL ?_;refine aBi ?_;refine TW ?_;refine MA ?_;refine bQ ?_;apply aF;exact aG
  ·exact⟨rfl,rfl⟩
  ·exact aA
end
theorem VO(t:RT)(ks:List Int)(k:Int):aV t (ks++ [k])=aV (jH t k).2 ks:=by simp[aV]
theorem zB(t:RT)(k:Int):(jH t k).2.l.length≤t.l.length:=by
 unfold jH;refine aJ (p:=fun r:Int×RT=>r.2.l.length≤t.l.length) (fun _=> ?_) (fun _=>by simp);exact aJ (p:=fun r:RT=>r.l.length≤t.l.length) (fun _=>Nat.le_refl _) (fun _=>Nat.le_refl _)
theorem iS(t:RT)(ks:List Int):(aV t ks).l.length≤t.l.length:=yU (p:=fun q=>q.l.length≤t.l.length) (fun q w h=>Nat.le_trans (zB q w) h) ks t (Nat.le_refl _)
section
variable {r p z q : Nat} {E0 : Env}
theorem eY(hN:Nr r p z q)(t:RT)(hl:t.l.length≤1000000)(ks:List Int)(hkl:ks.length≤100000):SCall Tryz.prog 202 [.ptr r 0,.ptr z 0,.ro 1 (ks.map aX) .any] (eJ E0 r p z q t) (fun _ σ=>σ=eJ E0 r p z q (aV t ks)):=by
 have hN0:=hN;obtain⟨n1,n2,n3,n4,n5,n6⟩:=hN;refine cC 21 [0,1,2,6,11] Tryz.func202 ?_;unfold eJ fR eX iF
 (try dsimp only[List.cons_append,List.nil_append]);refine dX ?_;refine lU ?_;refine rP ?_;refine dG ?_;refine lp (β:=Nat×RT) (fun b=>⟨[(0,.ptr r 0),(1,.ptr z 0),(2,.ro 1 (ks.map aX) .any),(6,.int .i64 ((b.1:Int)-1))],eJ E0 r p z q b.2⟩) (fun b=>b.1≤ks.length∧b.2.l.length≤1000000∧aV b.2 (ks.take b.1)=aV t ks) (fun b=>b.1) (ks.length,t) (by unfold eJ fR eX iF;(try dsimp only[List.cons_append,List.nil_append]);(exact aK)) ⟨Nat.le_refl _,hl,by rw[List.take_length]⟩ ?_;rintro⟨j,S⟩ ⟨hj,hS,hP⟩;dsimp only at hj hS hP⊢;unfold eJ fR eX iF
 (try dsimp only[List.cons_append,List.nil_append]);refine dX ?_;refine IV ?_;refine aB rfl (fun g1=> ?_) (fun g1=> ?_)
 ·obtain⟨j,rfl⟩:∃j',j=j'+1:=⟨j-1,by simp at g1;omega⟩
  obtain⟨k,hk⟩:∃k,ks[j]? =some k:=⟨_,List.getElem?_eq_getElem (by omega)⟩
  have hk':ks[(((j+1:Nat):Int)-1).toNat]? =some k:=by rw[show(((j+1:Nat):Int)-1).toNat=j by omega];exact hk
  refine tD ?_;refine nJ ?_;refine cw (eJ E0 r p z q S) Tryz.call274 (yZ hN0 S hS k) rfl aC dH ?_;rintro _ σ' ⟨rfl,rfl⟩ h20
  (try unfold eJ);(try unfold fR);(try unfold eX);(try unfold iF);(try dsimp only[List.cons_append,List.nil_append]);refine mO ?_;refine rP ?_;refine dG ?_;refine⟨(j,(jH S k).2),⟨by show j≤ _;omega,Nat.le_trans (zB S k) hS,by rw[←hP,List.take_add_one,hk];show _=aV S (ks.take j++ [k]);rw[VO]⟩,by show j<j+1;omega, ?_⟩
  (try dsimp only);rw[show(((j+1:Nat):Int)-1-1)=(j:Int)-1 by omega];exact aK
 obtain rfl:j=0:=by simp at g1;omega
 rw[show aV t ks=S by rw[←hP];rfl];refine aP ?_;refine bR ?_;apply aF;exact aG
 ·rfl
 ·exact aA
theorem EE(m:Md)(hi:m.im.length≤1000000)(f:Int)(hf:0≤f∧f≤9223372036854775807):SCall Tryz.prog 46 [.agg (cK m),.int .i64 f] [] (fun y σ=>y=.tup [.agg (eF (iR m f).1),.bool (iR m f).2]∧σ=[]):=by
 rw[vN hf.1];obtain⟨hf1,hf2⟩:=hf;refine cC 59 [0,1,2,4,5,6,15,34,52] Tryz.func46 ?_;unfold cK;refine dW ?_;apply bx;rfl;rfl;(exact dM);rfl;refine aD fun r2 h2=> ?_;repeat rcases h2 with⟨_,h2⟩
 apply al;rfl;(exact dM);refine aD fun r4 h4=> ?_;repeat rcases h4 with⟨_,h4⟩
 refine kY ?_;refine iE ?_;refine lo (fI (E rfl) (E rfl)) rfl ?_;rw[show decide ((0:Int)≤f)=true from decide_eq_true hf1];refine jK ?_;refine mD ?_;refine pP ?_;refine aEi ?_;refine tW ?_;refine aB rfl (fun g2=> ?_) (fun g2=> ?_)
 ·have g2':decide (f<m.im.length)=true:=by simpa using g2
  obtain⟨x,hx⟩:∃x,m.im[f.toNat]? =some x:=⟨_,List.getElem?_eq_getElem (by simp at g2';omega)⟩
  have hlt:f<m.im.length:=by simpa using g2'
  rw[show kF m f=x.ty by unfold kF;rw[if_pos g2',List.getD_eq_getElem?_getD,hx];rfl];refine fS ?_;refine oZ ?_;refine MB ?_;refine dG ?_;generalize x.ty=kk;refine gK ?_;refine EY ?_;refine mD ?_;refine TX ?_;refine qJ ?_;refine aB rfl (fun g6=> ?_) (fun g6=> ?_)
  ·rw[show cH m kk=(rG,false)from if_pos g6];refine sS ?_;refine CM ?_;refine eU (iQ (r:=r4) (cs':=eF rG) cZ (.cons (.le VLe.empty) (.cons (.le VLe.empty) .nil))) ?_;refine aP ?_;apply aF;exact aG
   ·exact⟨rfl,rfl⟩
   ·exact aA
  have h2:0≤kk∧kk<m.ty.length:=by constructor<;>(apply Int.not_lt.1;intro hc;apply Bool.false_ne_true;rw[←g6];simp;omega)
  obtain⟨t,ht⟩:∃t,m.ty[kk.toNat]? =some t:=⟨_,List.getElem?_eq_getElem (by omega)⟩
  rw[show cH m kk=(t,true) by unfold cH;rw[if_neg (by simpa using g6)];rw[List.getD_eq_getElem?_getD,ht];rfl];refine fS ?_;refine mB ?_;refine AE ?_;apply aF;exact aG
  ·exact⟨rfl,rfl⟩
  ·exact aA
 have g2':decide (f<m.im.length)=false:=by simpa using g2
 have hge:¬f<m.im.length:=by simpa using g2'
 refine dX ?_;refine lo (fI (E rfl) (E rfl)) rfl ?_;rw[show decide ((0:Int)≤f)=true from decide_eq_true hf1];refine jK ?_;refine mD ?_;refine pP ?_;first|refine ln rfl rfl rfl rfl ?_ |(refine gy rfl rfl ?_;(first|refine lo (oL (by first|exact W rfl id|exact E rfl) (by first|exact W rfl id|exact E rfl) (by omega) (by omega)) rfl ?_ |refine lo (rQ (by first|exact W rfl id|exact E rfl) (by first|exact W rfl id|exact E rfl)) rfl ?_))|refine lg rfl rfl (oL (by first|exact W rfl id|exact E rfl) (by first|exact W rfl id|exact E rfl) (by omega) (by omega)) rfl ?_ |refine lg rfl rfl (lop_sub64c (by first|exact W rfl id|exact E rfl) (by first|exact W rfl id|exact E rfl) (fun hc=>by simp at hc<;>first|omega|(have hov:=hov hc;omega))) rfl ?_ |refine lg rfl rfl (rQ (by first|exact W rfl id|exact E rfl) (by first|exact W rfl id|exact E rfl)) rfl ?_
 refine mD ?_;refine pP ?_;refine aEi ?_;refine tW ?_;refine aB rfl (fun g4=> ?_) (fun g4=> ?_)
 ·have g4':decide (f-m.im.length<m.fn.length)=true:=by simpa using g4
  obtain⟨kk,hx⟩:∃x,m.fn[(f-m.im.length).toNat]? =some x:=⟨_,List.getElem?_eq_getElem (by simp at g4';omega)⟩
  have hlt:f-m.im.length<m.fn.length:=by simpa using g4'
  rw[show kF m f=kk by unfold kF;rw[if_neg (by simpa using g2'),if_pos g4',List.getD_eq_getElem?_getD,hx];rfl];refine fS ?_;refine lo (aI (E rfl)) rfl ?_;refine gF ?_;refine lU ?_;refine rP ?_;refine qY ?_;refine iE ?_;refine EY ?_;refine mD ?_;refine TX ?_;refine qJ ?_;refine aB rfl (fun g6=> ?_) (fun g6=> ?_)
  ·rw[show cH m kk=(rG,false)from if_pos g6];refine sS ?_;refine CM ?_;refine eU (iQ (r:=r4) (cs':=eF rG) cZ (.cons (.le VLe.empty) (.cons (.le VLe.empty) .nil))) ?_;refine aP ?_;apply aF;exact aG
   ·exact⟨rfl,rfl⟩
   ·exact aA
  have h2:0≤kk∧kk<m.ty.length:=by constructor<;>(apply Int.not_lt.1;intro hc;apply Bool.false_ne_true;rw[←g6];simp;omega)
  obtain⟨t,ht⟩:∃t,m.ty[kk.toNat]? =some t:=⟨_,List.getElem?_eq_getElem (by omega)⟩
  rw[show cH m kk=(t,true) by unfold cH;rw[if_neg (by simpa using g6)];rw[List.getD_eq_getElem?_getD,ht];rfl];refine fS ?_;refine mB ?_;refine AE ?_;apply aF;exact aG
  ·exact⟨rfl,rfl⟩
  ·exact aA
 have g4':decide (f-m.im.length<m.fn.length)=false:=by simpa using g4
 obtain⟨kk,hkk⟩:∃kk:Int,kk=-1:=⟨_,rfl⟩
 rw[show kF m f=kk by rw[hkk];unfold kF;rw[if_neg (by simpa using g2'),if_neg (by simpa using g4')],show cW (Value.int .i64 (-1))=AV.int .i64 kk by rw[hkk];rfl];refine dX ?_;refine EY ?_;refine mD ?_;refine TX ?_;refine qJ ?_;refine aB rfl (fun g6=> ?_) (fun g6=> ?_)
 ·rw[show cH m kk=(rG,false)from if_pos g6];refine sS ?_;refine CM ?_;refine eU (iQ (r:=r4) (cs':=eF rG) cZ (.cons (.le VLe.empty) (.cons (.le VLe.empty) .nil))) ?_;refine aP ?_;apply aF;exact aG
  ·exact⟨rfl,rfl⟩
  ·exact aA
 have h2:0≤kk∧kk<m.ty.length:=by constructor<;>(apply Int.not_lt.1;intro hc;apply Bool.false_ne_true;rw[←g6];simp;omega)
 obtain⟨t,ht⟩:∃t,m.ty[kk.toNat]? =some t:=⟨_,List.getElem?_eq_getElem (by omega)⟩
 rw[show cH m kk=(t,true) by unfold cH;rw[if_neg (by simpa using g6)];rw[List.getD_eq_getElem?_getD,ht];rfl];refine fS ?_;refine mB ?_;refine AE ?_;apply aF;exact aG
 ·exact⟨rfl,rfl⟩
 ·exact aA
end
end Go.Proofs.YtjpdadobblffmaaGreat
