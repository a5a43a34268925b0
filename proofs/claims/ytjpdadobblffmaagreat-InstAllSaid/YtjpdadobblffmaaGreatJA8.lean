import Derived.Test.YtjpdadobblffmaaGreatJA7
import Derived.Test.YtjpdadobblffmaaGreatJA6
set_option linter.unusedSimpArgs false
set_option linter.unusedVariables false
set_option maxRecDepth 100000
set_option maxHeartbeats 4000000
open And renaming intro->Bl
open Bool renaming and_eq_true->Ap
open List renaming all_eq_true->Bw,append_assoc->Aq,cons_append->As,drop_zero->Bu,getD_eq_getElem?_getD->Ax,getElem?_eq_getElem->Ar,getElem?_eq_some_iff->Ai,getElem?_map->Bg,getElem?_take_of_lt->A2,length_append->Ao,length_cons->Bj,length_map->Az,map_append->Bx,map_cons->Bn,map_nil->B3,mem_cons->Av,mem_cons_self->Au,mem_map->Bm,mem_of_getElem?->Ah,mem_of_mem_take->Bf,mem_singleton->A1,nil_append->Ay,not_mem_nil->A5,replicate->Ak,take_add_one->Al,take_length->Aw,take_of_length_le->Aj
open Nat renaming le_refl->A3,le_trans->A4,mul_le_mul_right->Bq,zero_add->B2,zero_le->Am
open Go.Proofs.Tryz
namespace Go.Proofs.YtjpdadobblffmaaGreat
open Go.RowKit Go.ChangeShapes Go.WideShapes Go.ChangeAt Go.Deep
attribute [local irreducible] SW RS RD fE eA
theorem uR{α:Type}{l:List α}{p:α->Bool}{j:Nat}{x:α}(hx:l[j]? =some x):(l.take (j+1)).any p=((l.take j).any p||p x):=by
 rw[Al,hx,List.any_append];simp
theorem BR{α:Type}{l:List α}{p:α->Bool}{j:Nat}{x:α}(hx:l[j]? =some x)(h:p x=true):l.any p=true:=List.any_eq_true.2 ⟨x,Ah hx,h⟩
theorem VX(a b:List Nat):FV a b=FV b a:=by unfold FV;exact Bool.beq_comm
def tyL (m:Md) (t:Int):FT:=m.ty.getD t.toNat qM
def imL (m:Md) (j:Nat):List FT:=(m.im.take j).map fun x=>tyL m x.ty
def fnL (m:Md) (j:Nat):List FT:=imL m m.im.length++(m.fn.take j).map (tyL m)
def XH (m:Md):Bool:= !(m.im.any fun x=>LS m x.ty)&& !(m.fn.any (LS m))
def aCw (m:Md):AV:=if XH m then .ro 2 ((fnL m m.fn.length).map cD) .any else .ro 0 [] .nil
def RJ (m:Md):List FT:=if XH m then fnL m m.fn.length else []
theorem aFl{m:Md}{j:Nat}{x:Im}(hx:m.im[j]? =some x):imL m (j+1)=imL m j++ [tyL m x.ty]:=by
 unfold imL;rw[Al,hx,Bx];rfl
theorem aFm{m:Md}{j:Nat}{t:Int}(hx:m.fn[j]? =some t):fnL m (j+1)=fnL m j++ [tyL m t]:=by
 unfold fnL;rw[Al,hx,Bx,Aq];rfl
theorem aIi(m:Md)(j:Nat)(h:j<=m.im.length):(imL m j).length=j:=by simp[imL];omega
theorem aBi(m:Md)(j:Nat)(h:j<=m.fn.length):(fnL m j).length=m.im.length+j:=by simp[fnL,imL];omega
theorem aFn(m:Md):fnL m 0=imL m m.im.length:=by simp[fnL]
structure Md.Nn (m:Md):Prop where
 im:∀x∈m.im,0<=x.ty
 fn:∀t∈m.fn,0<=t
theorem aIj{m:Md}(h:jP m=true):m.Nn:=by
 have hm:=(oF h).1;unfold nC at hm;simp only[Ap]at hm;obtain⟨⟨⟨-,hls⟩,-⟩,-⟩:=hm;unfold mK at hls;simp only[Ap]at hls;obtain⟨⟨⟨⟨⟨⟨-,him⟩,hfn⟩,-⟩,-⟩,-⟩,-⟩:=hls;have h0:∀n,gU n=true->0<=n:=fun n hn=>by
  unfold gU at hn;by_cases h:0<=n
  ·exact h
  ·rw[Db (C8 h)]at hn;cases hn
 refine⟨fun x hx=> ?_,fun t ht=>h0 t ((bW hfn).2 t ht)⟩;have:=(bW him).2 x hx;simp only[Ap]at this;exact h0 _ this.2
theorem aFo{m:Md}{t:Int}(h:LS m t=false)(h0:0<=t):m.ty[t.toNat]? =some (tyL m t):=by
 have:t.toNat<m.ty.length:=by unfold LS at h;simp only[decide_eq_false_iff_not]at h;omega
 unfold tyL;rw[Ax,Ar this];rfl
theorem aCx(m:Md)(hz:m.Z)(hn:m.Nn):SCall prog 93 [.agg (aM m)] [] (fun y Y=>y=.tup [aCw m,.bool (XH m)]/\Y=[]):=by
 have hi:=hz.im;have hf:=hz.fn;obtain⟨n1,n2⟩:=hn;refine bO 66 [0,1,2,3,4,5,6,11,23,41,52] func93 ?_;refine dB ?_;refine fZ fun r1 h1=> ?_;intros;refine fS ?_;refine kI ?_;refine bQ 4 50 2 V rfl V (bD fun q0 hq0=> ?_);repeat rcases hq0 with⟨_,hq0⟩
 refine kI ?_;refine lp (β:=Nat×Nat) (fun b=>⟨[(1,.ptr r1 0),(4,.own b.2 0 (imL m b.1).length),(5,.int .i64 b.1)],[(b.2,.arr 50 2 ((imL m b.1).map cD)),(r1,.box 33 (aM m))]⟩) (fun b=>b.1<=m.im.length/\((m.im.take b.1).any fun x=>LS m x.ty)=false/\Nq b.2 r1) (fun b=>m.im.length-b.1) (0,q0) aH ⟨Am _,rfl,Ae q0 r1⟩ ?_;rintro⟨j,q⟩ ⟨hj,ha,hq⟩;dsimp only at hj ha hq⊢;refine kJ ?_;refine aB rfl ?_ ?_<;>intro g3
 ·have hlt:j<m.im.length:=C8 g3
  obtain⟨x,hx⟩:=Aa m.im j hlt
  have hx0:=n1 x (Ah hx);have hnx:=aFl hx;have hlen:=aIi m j hj;refine aI ?_;refine eK (Ac [0,1,2,3,4,5,6,7,8,9] []) ?_;refine BA ?_;refine eQ ?_;refine TA ?_;refine oI ?_;refine aB rfl ?_ ?_<;>intro g5
  ·refine aI ?_;have hE:XH m=false:=by unfold XH;rw[BR (p:=fun x:Im=>LS m x.ty) hx g5];rfl
   refine oM ?_;exact aD aE ⟨by unfold aCw;rw[hE];rfl,rfl⟩ aA
  refine aI ?_;have hty:=aFo g5 hx0;have hty2:0<=x.ty/\x.ty<(m.ty.length:Int):=⟨hx0,C8 g5⟩
  refine eK (Ac [0,1,2,3,4,5,6,7,8,9,10] (Ad 11 (Ad 12 (Ac [13] [])))) ?_;refine GL ?_;refine BA ?_;refine vU ?_;refine CH fun r35 h35=> ?_;intros;refine eW rfl ((imL m j++ [tyL m x.ty]).map cD) (imL m j++ [tyL m x.ty]).length ?_;refine bG fun r36 h36=> ?_;intros;refine qH ?_;refine⟨(j+1,r36),⟨hlt,by rw[uR hx,ha];exact g5,Ae r36 r1⟩,Ab U, ?_⟩;dsimp only;rw[hnx];exact aH
 obtain rfl:j=m.im.length:=by simp at g3;omega
 rw[Aw]at ha;rw[<-aFn];refine cV ?_;refine lp (β:=Nat×Nat) (fun b=>⟨[(1,.ptr r1 0),(4,.own b.2 0 (fnL m b.1).length),(6,.int .i64 b.1)],[(b.2,.arr 50 2 ((fnL m b.1).map cD)),(r1,.box 33 (aM m))]⟩) (fun b=>b.1<=m.fn.length/\((m.fn.take b.1).any (LS m))=false/\Nq b.2 r1) (fun b=>m.fn.length-b.1) (0,q) aH ⟨Am _,rfl,hq⟩ ?_;rintro⟨j,p⟩ ⟨hj2,hb,hp⟩;dsimp only at hj2 hb hp⊢;refine kJ ?_;refine aB rfl ?_ ?_<;>intro g9
 ·have hlt:j<m.fn.length:=C8 g9
  obtain⟨t,ht⟩:=Aa m.fn j hlt
  have ht0:=n2 t (Ah ht);have hnx:=aFm ht;have hlen:=aBi m j hj2;refine aI ?_;refine Cj ?_;refine CC ?_;refine MF ?_;refine eQ ?_;refine TA ?_;refine oI ?_;refine aB rfl ?_ ?_<;>intro g11
  ·refine aI ?_;have hE:XH m=false:=by unfold XH;rw[BR (p:=LS m) ht g11];simp
   refine oM ?_;exact aD aE ⟨by unfold aCw;rw[hE];rfl,rfl⟩ aA
  refine aI ?_;have hty:=aFo g11 ht0;have hty2:0<=t/\t<(m.ty.length:Int):=⟨ht0,C8 g11⟩
  refine eK (Ac [0,1,2,3,4,5,6,7,8,9] (Ad 10 (Ad 11 (Ac [12] [])))) ?_;refine GL ?_;refine CC ?_;refine MF ?_;refine vU ?_;refine CH fun r63 h63=> ?_;intros;refine eW rfl ((fnL m j++ [tyL m t]).map cD) (fnL m j++ [tyL m t]).length ?_;refine bG fun r64 h64=> ?_;intros;refine qH ?_;refine⟨(j+1,r64),⟨hlt,by rw[uR ht,hb];exact g11,Ae r64 r1⟩,Ab U, ?_⟩;dsimp only;rw[hnx];exact aH
 obtain rfl:j=m.fn.length:=by simp at g9;omega
 rw[Aw]at hb;have hE:XH m=true:=by unfold XH;rw[ha,hb];rfl
 refine TO (j:=4) rfl aY (aL bR X) ?_;refine dG ?_;refine fS ?_;exact aD aE ⟨by unfold aCw;rw[hE];rfl,rfl⟩ aA
theorem RK(l:Li):(if(if l.has=true then decide (0<=l.mx)else false)=true then decide (l.mx<l.mn)else false)=ZM l:=by rw[iU,iU];rfl
theorem aIk{m:Md}(h:XH m=true):((RJ m).length:Int)=(m.im.length:Int)+(m.fn.length:Int):=by
 unfold RJ;rw[Dc h,aBi m _ (A3 _)];omega
theorem aLD{m:Md}{f:Int}(h:XH m=true):decide (((RJ m).length:Int)<=f)=VP m f:=by rw[aIk h];rfl
theorem aCy{m:Md}(h:(m.im.any fun x=>LS m x.ty)=false)(h2:XH m=false):m.fn.any (LS m)=true:=by
 unfold XH at h2;rw[h]at h2;simpa using h2
theorem aFp{m:Md}(h2:XH m=true):m.fn.any (LS m)=false:=by
 unfold XH at h2;simp only[Ap,Bool.not_eq_true']at h2;exact h2.2
structure Vp (m:Md):Prop where
 a:¬jP m=false
 b:¬(m.im.any fun x=>LS m x.ty)=true
 c:¬m.fn.any (LS m)=true
theorem Vp.to {m:Md}(h:Vp m)(h1:ZM m.tb=false)(h2:ZM m.me=false):fI m=if twN (VP m) m.ex m.ex.length=true then 7
 else if m.el.any (FB m)=true then 9 else if qG m m.co.length=false then 10 else if(!m.da.isEmpty&& !m.me.has)=true then 11 else-1:=by
 unfold fI;rw[Db h.a,Db h.b,Db h.c,Db (by simp[h1]),Db (by simp[h2])]
theorem BS(m:Md)(hw:m.WO)(hz:m.Z):SCall prog 29 [.agg (aM m)] [] (fun y Y=>y=.int .i64 (fI m)/\Y=[]):=by
 have hzi:=hz.im;have hzx:=hz.ex;have hzc:=hz.co.1;have hze:=hz.el.1;have hF:=fun(h:jP m=true) k=>aE6 m (aE8 (oF h).1 hw).2 k
 have hT:=fun(h:jP m=true)=>aCx m hz (aIj h)
 have hC:=fun(h:jP m=true)=>aLr (oF h).1
 refine bO 163 [0,1,2,3,4,5,6,7,8,9,10,13,18,30,37,55,73,78,89,92,107,112,123,137,141,146,152,162] func29 ?_;refine dB ?_;refine fZ fun r1 h1=> ?_;intros;refine iT ?_;refine jY ?_;refine kY call19 (aHy m hw hz) rfl aO bH ?_;refine mX ?_;refine aB rfl ?_ ?_<;>intro g1
 ·refine aI ?_;have hE:fI m=0:=by unfold fI;rw[Dc (C8 g1)]
  refine kI ?_;exact aD aE ⟨by rw[hE];rfl,rfl⟩ aA
 refine aI ?_;have h0:¬jP m=false:=C8 g1
 have hm:jP m=true:=C8 h0
 clear g1;refine kI ?_;refine lp (β:=Nat) (fun j=>⟨[(1,.ptr r1 0),(3,.int .i64 j)],[(r1,.box 33 (aM m))]⟩) (fun j=>j<=m.im.length/\((m.im.take j).any fun x=>LS m x.ty)=false) (fun j=>m.im.length-j) 0 aH ⟨Am _,rfl⟩ ?_;rintro j ⟨hj,ha⟩;refine kJ ?_;refine aB rfl ?_ ?_<;>intro g4
 ·have hlt:j<m.im.length:=C8 g4
  obtain⟨x,hx⟩:=Aa m.im j hlt
  refine aI ?_;refine eK (Ac [0,1,2,3,4,5,6,7,8,9] []) ?_;refine BA ?_;refine eQ ?_;refine TA ?_;refine oI ?_;refine aB rfl ?_ ?_<;>intro g6
  ·refine aI ?_;have hE:fI m=2:=by unfold fI;rw[Db h0,Dc (BR (p:=fun x:Im=>LS m x.ty) hx g6)]
   refine kI ?_;exact aD aE ⟨by rw[hE];rfl,rfl⟩ aA
  refine iN ?_;refine⟨j+1,⟨hlt,by rw[uR hx,ha];exact g6⟩,Ab U, ?_⟩;exact aH
 obtain rfl:j=m.im.length:=by simp at g4;omega
 rw[Aw]at ha;refine mE ?_;refine cw [] call93 (hT hm) rfl aC aA ?_;rintro _ Y' ⟨rfl,rfl⟩ h33;refine sJ ?_;refine pN ?_;refine mX ?_;refine aB rfl ?_ ?_<;>intro g9
 ·refine aI ?_;have hE:fI m=3:=by unfold fI;rw[Db h0,Db (by simp[ha]),Dc (aCy ha (C8 g9))]
  refine kI ?_;exact aD aE ⟨by rw[hE];rfl,rfl⟩ aA
 refine aI ?_;have hok:XH m=true:=C8 g9
 have htv:aCw m=.ro 2 ((RJ m).map cD) .any:=by unfold aCw RJ;rw[Dc hok,Dc hok]
 rw[htv];have hV:Vp m:=⟨h0,by simp[ha],by simp[aFp hok]⟩
 have hnF:=fun f=>aLD (f:=f) hok
 clear g9;refine jD ?_;refine oN ?_;refine xT ?_;refine SP ?_;refine sF ?_;refine xT ?_;refine AU ?_;refine GK ?_;refine GF ?_;refine qO ?_;refine aB rfl ?_ ?_<;>intro g11
 ·refine aI ?_;rw[RK]at g11;have hE:fI m=4:=by unfold fI;rw[Db hV.a,Db hV.b,Db hV.c,Dc g11]
  refine kI ?_;exact aD aE ⟨by rw[hE];rfl,rfl⟩ aA
 refine aI ?_;rw[RK]at g11;refine jD ?_;refine oN ?_;refine xT ?_;refine SP ?_;refine sF ?_;refine xT ?_;refine AU ?_;refine GK ?_;refine GF ?_;refine qO ?_;refine aB rfl ?_ ?_<;>intro g13
 ·refine aI ?_;rw[RK]at g13;have hE:fI m=5:=by unfold fI;rw[Db hV.a,Db hV.b,Db hV.c,Db (by simp[g11]),Dc g13]
  refine kI ?_;exact aD aE ⟨by rw[hE];rfl,rfl⟩ aA
 refine aI ?_;rw[RK]at g13;have hV2:=hV.to g11 g13;refine kI ?_;refine lp (β:=Nat) (fun j=>⟨[(1,.ptr r1 0),(4,.ro 2 ((RJ m).map cD) .any),(6,.int .i64 j)],[(r1,.box 33 (aM m))]⟩) (fun j=>j<=m.ex.length/\twN (VP m) m.ex j=false) (fun j=>m.ex.length-j) 0 aH ⟨Am _,rfl⟩ ?_;rintro j ⟨hj,hb⟩;refine kJ ?_;refine aB rfl ?_ ?_<;>intro g16
 ·have hlt:j<m.ex.length:=C8 g16
  obtain⟨x,hx⟩:=Aa m.ex j hlt
  have hnx:=VS (nf:=VP m) hx;have hup:∀b,(VP m x.fn||(m.ex.take j).any fun y=>FV x.nm y.nm)=b->aH6 (VP m) (m.ex.take j) (m.ex.getD j ⟨[],0⟩)=b:=by intro b h;rw[Ax,hx];exact h
  refine eY ?_;refine rN ?_;refine xO ?_;refine IL ?_;refine aB rfl ?_ ?_<;>intro g18
  ·refine aI ?_;rw[hnF]at g18;have hE:fI m=7:=by rw[hV2,Dc (VQ hlt (hup true (by rw[g18];rfl)))]
   refine kI ?_;exact aD aE ⟨by rw[hE];rfl,rfl⟩ aA
  refine aI ?_;rw[hnF]at g18;refine kI ?_;refine lp (β:=Nat) (fun k=>⟨[(1,.ptr r1 0),(4,.ro 2 ((RJ m).map cD) .any),(6,.int .i64 j),(7,.int .i64 k)],[(r1,.box 33 (aM m))]⟩) (fun k=>k<=j/\((m.ex.take k).any fun y=>FV x.nm y.nm)=false) (fun k=>j-k) 0 aH ⟨Am _,rfl⟩ ?_;rintro k ⟨hk,hc⟩;refine cJ ?_;refine sG ?_;refine aB rfl ?_ ?_<;>intro g21
  ·have hklt:k<j:=C8 g21
   obtain⟨y,hy⟩:=Aa m.ex k U
   refine aI ?_;refine C5 ?_;refine sK ?_;refine eS rfl (rE (E rfl) (E rfl)) rfl ?_;refine oI ?_;refine aB rfl ?_ ?_<;>intro g23
   ·refine aI ?_;have hE:fI m=7:=by rw[hV2,Dc (VQ hlt (hup true (by rw[BR (j:=k) (x:=y) (p:=fun y=>FV x.nm y.nm) (by rw[A2 hklt];exact hy) (by rw[VX];exact g23)];simp)))]
    refine kI ?_;exact aD aE ⟨by rw[hE];rfl,rfl⟩ aA
   refine iN ?_;refine⟨k+1,⟨hklt,by rw[uR hy,hc,VX];exact g23⟩,Ab U, ?_⟩;exact aH
  obtain rfl:k=j:=by simp at g21;omega
  refine iN ?_;refine⟨k+1,⟨hlt,by rw[hnx,hb,g18,hc];rfl⟩,Ab U, ?_⟩;exact aH
 obtain rfl:j=m.ex.length:=by simp at g16;omega
 rw[Db (by simp[hb])]at hV2;refine cV ?_;refine lp (β:=Nat) (fun j=>⟨[(1,.ptr r1 0),(4,.ro 2 ((RJ m).map cD) .any),(8,.int .i64 j)],[(r1,.box 33 (aM m))]⟩) (fun j=>j<=m.el.length/\(m.el.take j).any (FB m)=false) (fun j=>m.el.length-j) 0 aH ⟨Am _,rfl⟩ ?_;rintro j ⟨hj,hd⟩;refine kJ ?_;refine aB rfl ?_ ?_<;>intro g26
 ·have hlt:j<m.el.length:=C8 g26
  obtain⟨x,hx⟩:=Aa m.el j hlt
  have hzf:=hz.el.2 x (Ah hx);refine cV ?_;refine lp (β:=Nat) (fun k=>⟨[(1,.ptr r1 0),(4,.ro 2 ((RJ m).map cD) .any),(8,.int .i64 j),(9,.int .i64 k)],[(r1,.box 33 (aM m))]⟩) (fun k=>k<=x.fs.length/\(x.fs.take k).any (VP m)=false) (fun k=>x.fs.length-k) 0 aH ⟨Am _,rfl⟩ ?_;rintro k ⟨hk,he⟩;refine oA ?_;refine rN ?_;refine vP ?_;refine sG ?_;refine aB rfl ?_ ?_<;>intro g29
  ·have hklt:k<x.fs.length:=C8 g29
   obtain⟨t,ht⟩:=Aa x.fs k hklt
   refine eY ?_;refine rN ?_;refine nX ?_;refine xO ?_;refine IL ?_;refine aB rfl ?_ ?_<;>intro g31
   ·refine aI ?_;rw[hnF]at g31;have hE:fI m=9:=by rw[hV2,Dc (BR hx (by unfold FB;rw[BR ht g31];rfl))]
    refine kI ?_;exact aD aE ⟨by rw[hE];rfl,rfl⟩ aA
   refine aI ?_;rw[hnF]at g31;refine fO ?_;refine xK ?_;refine⟨k+1,⟨hklt,by rw[uR ht,he,g31];rfl⟩,Ab U, ?_⟩;exact aH
  obtain rfl:k=x.fs.length:=by simp at g29;omega
  rw[Aw]at he;refine dB ?_;refine oN ?_;refine mX ?_;refine aB rfl ?_ ?_<;>intro g33
  ·refine aI ?_;have hE:fI m=9:=by rw[hV2,Dc (BR hx (by unfold FB;rw[g33];simp))]
   refine kI ?_;exact aD aE ⟨by rw[hE];rfl,rfl⟩ aA
  refine iN ?_;refine⟨j+1,⟨hlt,by rw[uR hx,hd];unfold FB;rw[he,g33];rfl⟩,Ab U, ?_⟩;exact aH
 obtain rfl:j=m.el.length:=by simp at g26;omega
 rw[Aw]at hd;rw[Db (by simp[hd])]at hV2;refine cV ?_;refine lp (β:=Nat) (fun j=>⟨[(1,.ptr r1 0),(10,.int .i64 j)],[(r1,.box 33 (aM m))]⟩) (fun j=>j<=m.co.length/\qG m j=true) (fun j=>m.co.length-j) 0 aH ⟨Am _,rfl⟩ ?_;rintro j ⟨hj,hc⟩;refine kJ ?_;refine aB rfl ?_ ?_<;>intro g36
 ·have hlt:j<m.co.length:=C8 g36
  refine mE ?_;refine B4 ?_;refine kY call24 (hF hm j) rfl aO bH ?_;rw[<-hC hm j];refine mX ?_;refine aB rfl ?_ ?_<;>intro g38
  ·refine aI ?_;have hE:fI m=10:=by rw[hV2,Dc (DX hlt (C8 g38))]
   refine kI ?_;exact aD aE ⟨by rw[hE];rfl,rfl⟩ aA
  refine iN ?_;refine⟨j+1,⟨hlt,by unfold qG;rw[hc];simpa using g38⟩,Ab U, ?_⟩;exact aH
 obtain rfl:j=m.co.length:=by simp at g36;omega
 rw[Db (by simp[hc])]at hV2;refine dB ?_;refine qA ?_;refine Cx ?_;refine xT ?_;refine aDd ?_;refine aB rfl ?_ ?_<;>intro g40
 ·refine aI ?_;have hE:fI m=11:=by rw[hV2,Dc (by rw[<-QZ];exact g40)]
  refine kI ?_;exact aD aE ⟨by rw[hE];rfl,rfl⟩ aA
 refine aI ?_;have hE:fI m=-1:=by rw[hV2,Db (by rw[<-QZ,g40];simp)]
 refine kI ?_;exact aD aE ⟨by rw[hE];rfl,rfl⟩ aA
theorem VY:∀ {l B:List Nat} {o:Nat},o+l.length<=B.length->lN B o l=B.take o++l++B.drop (o+l.length)
 |[],B,o,h=>by simp[lN]
 |c::l,B,o,h=>by
  have ho:o<B.length:=by simp at h;omega
  rw[lN,VY (by rw[List.length_set];simp at h;omega)];have e1:(B.set o c).take (o+1)=B.take o++ [c]:=by
   rw[Al,List.getElem?_set_self ho,List.take_set_of_le (A3 _)];rfl
  have e2:(B.set o c).drop (o+1+l.length)=B.drop (o+(c::l).length):=by
   rw[List.drop_set_of_lt U,Bj,show o+1+l.length=o+(l.length+1) by omega]
  rw[e1,e2];simp
theorem VZ{m:Md}{k:Nat}{x:Gl}(h:m.gl[k]? =some x):(fQ m).take k++ [(x.kd,x.n)]=(fQ m).take (k+1):=by
 rw[Al,fQ,Bg,h];rfl
def iX (m:Md) (a b c:AV) (w s:Int):List AV:=aM m++ [a,b,c,.int .i64 0,.int .i64 0,.int .i64 w,.int .i64 s,.ro 0 [] .nil,.int .i64 0,.int .i64 0,.int .i64 0,.ro 0 [] .nil,.int .i64 0,.int .i64 0,.bool false]
theorem EA{m:Md}(h:nC m=true)(k:Nat):(if m.tb.has=true then decide ((k:Int)<m.tb.mn)else false)=decide (k<iQ m):=by
 have h1:=RH h;unfold iQ;cases hh:m.tb.has with
 |false=>simp
 |true=>
  have:=h1 hh;simp only[Dd];rw[decide_eq_decide];omega
def aIl (m:Md) (y:AV) (Y:dI):Prop:=
 (kG FY (Ak (iQ m) (-1)) m.el=none/\y=.tup [.nilp,.int .i64 3]/\Y=[])\/
 ∃tb,kG FY (Ak (iQ m) (-1)) m.el=some tb/\
  ((kG daO (DZ m) m.da=none/\y=.tup [.nilp,.int .i64 3]/\Y=[])\/
  ∃b,kG daO (DZ m) m.da=some b/\∃c q t g,(Nq c q/\Nq c t/\Nq c g/\Nq q t/\Nq q g/\Nq t g)/\y=.tup [.ptr c 0,.int .i64 0]/\
   Y=[(c,.box 175 (iX m (.own q 0 b.length) (.own t 0 tb.length) (.own g 0 (fQ m).length) 0 0)),(q,.arr 5 1 (b.map aG)),(t,.arr 3 1 (tb.map aK)),(g,.arr 71 2 ((fQ m).map dC))])
def aLE (m:Md) (y:AV) (Y:dI):Prop:=
 (kG FY (Ak (iQ m) (-1)) m.el=none/\y=.tup [.nilp,.int .i64 3]/\Y=[])\/
 ∃tb,kG FY (Ak (iQ m) (-1)) m.el=some tb/\∃c t g,(Nq c t/\Nq c g/\Nq t g)/\y=.tup [.ptr c 0,.int .i64 0]/\
   Y=[(c,.box 175 (iX m (.ro 0 [] .nil) (.own t 0 tb.length) (.own g 0 (fQ m).length) 0 0)),(t,.arr 3 1 (tb.map aK)),(g,.arr 71 2 ((fQ m).map dC))]
theorem aFq(m:Md)(wa:m.WO)(hz:m.Z)(hv:(fI m !=-1)=true):SCall prog 44 [.agg (aM m),.int .i64 0,.int .i64 0] [] (fun y Y=>y=.tup [.nilp,.int .i64 6]/\Y=[]):=by
 have hM:=BS m wa hz;refine bO 156 [0,1,2,3,6,7,8,9,10,11,12,13,14,17,25,43,59,81,105,120,144] func44 ?_;refine dB ?_;refine fZ fun r3 h3=> ?_;intros;refine fS ?_;refine jD ?_;refine jY ?_;refine kY call29 hM rfl aO bH ?_;refine wU ?_;rw[hv];refine dB ?_;refine fS ?_;exact aD aE ⟨by rfl,rfl⟩ aA
theorem aFr(m:Md)(wa:m.WO)(hz:m.Z)(hv:fI m=-1)(hme:m.me.has=true):SCall prog 44 [.agg (aM m),.int .i64 0,.int .i64 0] [] (aIl m):=by
 have hm:jP m=true:=vM hv;have hA:=(oF hm).1;have hGG:=JR hA wa;have hM:=BS m wa hz;rw[hv]at hM;have hgl:=hGG.gl.1;have he1:=hGG.el.1;have he2:∀x∈m.el,gV x.off=true/\x.fs.length<=1000:=fun x hx=>⟨(hGG.el.2 x hx).1,(hGG.el.2 x hx).2.1⟩
 have hd1:=hGG.da.1;have hd2:∀x∈m.da,gV x.off=true/\x.bs.length<=1000:=fun x hx=>hGG.da.2 x hx
 have hT4:=KO hA;obtain⟨k0,hk0,hk16⟩:=ZU hA hme;have hmul:IntKind.i64.wrap (m.me.mn*256)=((256*k0:Nat):Int):=by rw[hk0,fD U U];omega
 replace hk0:m.me.mn.toNat=k0:=by omega
 refine bO 156 [0,1,2,3,6,7,8,9,10,11,12,13,14,17,25,43,59,81,105,120,144] func44 ?_;refine dB ?_;refine fZ fun r3 h3=> ?_;intros;refine fS ?_;refine jD ?_;refine jY ?_;refine kY call29 hM rfl aO bH ?_;refine wU ?_;rw[show((-1:Int) !=-1)=false from rfl];refine mE ?_;refine LG ?_;refine mM ?_;refine fZ fun r22 h22=> ?_;intros;refine cN ?_;have hgL:(fQ m).length=m.gl.length:=by simp[fQ]
 refine jD ?_;refine oN ?_;refine iM ?_;refine aB rfl (fun _=> ?_) (fun e=>absurd (e.symm.trans hme) V);refine dG ?_;refine oN ?_;refine Ci ?_;apply mk (l:=256*k0) (z:=aG 0);rfl;rfl;exact hmul;rfl
 ·omega
 ·simp[maxLen];omega
 ·rfl
 ·rfl
 refine gD fun r31 h31=> ?_;intros;refine oJ ?_;refine bN (ks:=[0,1,2,3,6,7,8,9,10,11,12,13,14,17,25,43,59,81,105,120,144]) r22 15 3 1 V bR rfl V fun t0 ht0=> ?_
 simp only[aN,aQ,and_true]at ht0;repeat rcases ht0 with⟨_,ht0⟩
 apply Exists.intro;apply Bl;exact bK;refine bN (ks:=[0,1,2,3,6,7,8,9,10,11,12,13,14,17,25,43,59,81,105,120,144]) r22 16 71 2 V bR rfl V fun g0 hg0=> ?_
 simp only[aN,aQ,and_true]at hg0;repeat rcases hg0 with⟨_,hg0⟩
 apply Exists.intro;apply Bl;exact bK;refine kI ?_;refine lp (β:=Nat×Nat) (fun b=>⟨[(3,.ptr r3 0),(8,.ptr r22 0),(9,.int .i64 b.1)],[(r22,.box 175 (iX m (.own r31 0 (256*k0)) (.own b.2 0 (Ak b.1 (-1:Int)).length) (.own g0 0 0) 0 0)),(b.2,.arr 3 1 ((Ak b.1 (-1:Int)).map aK)),(r31,.arr 5 1 (Ak (256*k0) (aG 0))),(g0,.arr 71 2 []),(r3,.box 33 (aM m))]⟩) (fun b=>b.1<=iQ m/\Nq b.2 r3/\Nq b.2 r22/\Nq b.2 r31/\Nq b.2 g0) (fun b=>iQ m-b.1) (0,t0) aH ⟨Am _,Ae t0 r3,Ae t0 r22,Ae t0 r31,Ae t0 g0⟩ ?_;rintro⟨k,t⟩ ⟨hk,n1,n2,n3,n4⟩;dsimp only at hk n1 n2 n3 n4⊢;refine dB ?_;refine oN ?_;refine kH ?_;refine AU ?_;refine GK ?_;refine GF ?_;refine qO ?_;refine aB rfl ?_ ?_<;>intro g7
 ·have hlt:k<iQ m:=of_decide_eq_true ((EA hA k).symm.trans g7);refine cJ ?_;refine AY ?_;refine eN fun r51 h51=> ?_;intros;refine kD ((Ak k (-1:Int)++ [-1]).map aK) (Ak k (-1:Int)++ [-1]).length ?_;refine bG fun r52 h52=> ?_;intros;refine oJ ?_;refine fO ?_;refine xK ?_;refine⟨(k+1,r52),⟨hlt,Ae r52 r3,Ae r52 r22,Ae r52 r31,Ae r52 g0⟩,by show iQ m-(k+1)<iQ m-k;omega, ?_⟩;dsimp only;rw[<-List.replicate_succ'];exact aH
 obtain rfl:k=iQ m:=by have:=of_decide_eq_false ((EA hA k).symm.trans g7);omega
 obtain⟨T0,hT0,hT1⟩:∃T:List Int,Ak (iQ m) (-1:Int)=T/\T.length=iQ m:=⟨_,rfl,X⟩
 rw[hT0];refine cV ?_;refine lp (β:=Nat×Nat) (fun b=>⟨[(3,.ptr r3 0),(8,.ptr r22 0),(10,.int .i64 b.1)],[(r22,.box 175 (iX m (.own r31 0 (256*k0)) (.own t 0 T0.length) (.own b.2 0 ((fQ m).take b.1).length) 0 0)),(t,.arr 3 1 (T0.map aK)),(r31,.arr 5 1 (Ak (256*k0) (aG 0))),(b.2,.arr 71 2 (((fQ m).take b.1).map dC)),(r3,.box 33 (aM m))]⟩) (fun b=>b.1<=m.gl.length/\Nq b.2 r3/\Nq b.2 r22/\Nq b.2 r31/\Nq b.2 t) (fun b=>m.gl.length-b.1) (0,g0) aH ⟨Am _,Ae g0 r3,Ae g0 r22,Ae g0 r31,Ae g0 t⟩ ?_;clear n4;rintro⟨k,g⟩ ⟨hk,p1,p2,p3,p4⟩;dsimp only at hk p1 p2 p3 p4⊢;refine kJ ?_;refine aB rfl ?_ ?_<;>intro g11
 ·have hlt:k<m.gl.length:=C8 g11
  obtain⟨x,hx⟩:=Aa m.gl k hlt
  refine aI ?_;refine eK (Ac [0,1,2,3,4,5,6,7,8,9,10] (Ad 11 (Ad 12 (Ac [13,14] (Ad 15 []))))) ?_;refine EG ?_;refine CC ?_;refine aDa ?_;refine wT ?_;refine CH fun r73 h73=> ?_;intros;refine eW rfl (((fQ m).take k++ [(x.kd,x.n)]).map dC) ((fQ m).take k++ [(x.kd,x.n)]).length ?_;refine bG fun r74 h74=> ?_;intros;refine XF ?_;refine xQ ?_;refine⟨(k+1,r74),⟨hlt,Ae r74 r3,Ae r74 r22,Ae r74 r31,Ae r74 t⟩,Ab U, ?_⟩;dsimp only;rw[VZ hx];exact aH
 obtain rfl:k=m.gl.length:=by simp at g11;omega
 rw[Aj U];refine cV ?_;refine lp (β:=Nat×List Int) (fun b=>⟨[(3,.ptr r3 0),(8,.ptr r22 0),(11,.int .i64 b.1)],[(r22,.box 175 (iX m (.own r31 0 (256*k0)) (.own t 0 T0.length) (.own g 0 (fQ m).length) 0 0)),(t,.arr 3 1 (b.2.map aK)),(r31,.arr 5 1 (Ak (256*k0) (aG 0))),(g,.arr 71 2 ((fQ m).map dC)),(r3,.box 33 (aM m))]⟩) (fun b=>b.1<=m.el.length/\kG FY T0 (m.el.take b.1)=some b.2/\b.2.length=T0.length) (fun b=>m.el.length-b.1) (0,T0) aH ⟨Am _,rfl,rfl⟩ ?_;rintro⟨j,tb⟩ ⟨hj,hr,hl⟩;dsimp only at hj hr hl⊢;refine kJ ?_;refine aB rfl ?_ ?_<;>intro g15
 ·have hlt:j<m.el.length:=C8 g15
  obtain⟨⟨off,fs⟩,hx⟩:=Aa m.el j hlt
  have hfo:=he2 _ (Ah hx);simp only[gV,Ap,decide_eq_true_eq]at hfo;refine eY ?_;refine sI ?_;refine iD fun r12 h12=> ?_;intros;refine fR ?_;dsimp only;refine Cy ?_;refine eQ ?_;refine z46 ?_;refine BB ?_;refine jM ?_;refine rL ?_;refine jM ?_;refine Cc ?_;refine Cz ?_;refine lC ?_;refine Cb ?_;refine Ca ?_;refine jM ?_;refine gI rfl rfl rfl (jT (W rfl id)) rfl ?_;refine C3 ?_;refine sL ?_;refine aB rfl ?_ ?_<;>intro g18
  ·have hf:¬wZ tb off fs.length=true:=by
    by_cases h:off<0
    ·simp[wZ,hl];omega
    ·simp[h]at g18;simp[wZ,hl];omega
   refine aI ?_;have hN:∀y Y,y=AV.tup [.nilp,.int .i64 3]->Y=[]->aIl m y Y:=fun _ _ h1 h2=>.inl ⟨by rw[hT0];exact rC hr hx (by unfold FY;exact Db hf),h1,h2⟩
   refine oM ?_;apply aD;exact aE
   ·exact hN _ _ rfl rfl
   ·exact aA
  have hf:0<=off/\off+fs.length<=T0.length:=by
   by_cases h:off<0
   ·simp[h]at g18
   ·simp[h]at g18;omega
  have hsb:wZ tb off fs.length=true:=by simp[wZ,hl];omega
  refine aI ?_;refine C6 ?_;refine lS ?_;refine eQ ?_;refine z84 ?_;refine eQ ?_;apply dcp (m:=fs.length) (es':=(zW tb off fs).map aK);rfl;infer_instance;infer_instance;rfl;exact bK
  ·simp;omega
  ·exact .inl ⟨_,rfl⟩
  ·simp;omega
  ·simp[zW,hsb,List.map_take,List.map_drop,jX]
  ·rfl
  ·exact eC
  refine KT ?_;refine iN ?_;refine⟨(j+1,zW tb off fs),⟨hlt,rB hr hx (by unfold FY;exact Dc hsb),by rw[uO];exact hl⟩,Ab U, ?_⟩;dsimp only;exact aH
 obtain rfl:j=m.el.length:=by simp at g15;omega
 rw[Aw,<-hT0]at hr;refine cV ?_;refine lp (β:=Nat×List Nat) (fun b=>⟨[(3,.ptr r3 0),(8,.ptr r22 0),(13,.int .i64 b.1)],[(r22,.box 175 (iX m (.own r31 0 (256*k0)) (.own t 0 T0.length) (.own g 0 (fQ m).length) 0 0)),(t,.arr 3 1 (tb.map aK)),(r31,.arr 5 1 (b.2.map aG)),(g,.arr 71 2 ((fQ m).map dC)),(r3,.box 33 (aM m))]⟩) (fun b=>b.1<=m.da.length/\kG daO (DZ m) (m.da.take b.1)=some b.2/\b.2.length=256*k0) (fun b=>m.da.length-b.1) (0,DZ m) ?_ ⟨Am _,rfl,by unfold DZ;rw[hk0];simp⟩ ?_
 ·rw[show List.map aG (0,DZ m).2=Ak (256*k0) (aG 0) by unfold DZ;rw[hk0];simp];exact aH
 rintro⟨j,B⟩ ⟨hj,hd,hb⟩;dsimp only at hj hd hb⊢;refine kJ ?_;refine aB rfl ?_ ?_<;>intro g22
 ·have hlt:j<m.da.length:=C8 g22
  obtain⟨⟨off,us⟩,hx⟩:=Aa m.da j hlt
  have hfo:=hd2 _ (Ah hx);simp only[gV,Ap,decide_eq_true_eq]at hfo;refine eY ?_;refine sI ?_;refine iD fun r14 h14=> ?_;intros;refine fR ?_;dsimp only;refine Cy ?_;refine eQ ?_;refine z46 ?_;refine BB ?_;refine jM ?_;refine rL ?_;refine jM ?_;refine Cc ?_;refine Cz ?_;refine lC ?_;refine Cb ?_;refine Ca ?_;refine jM ?_;refine gI rfl rfl rfl (jT (W rfl id)) rfl ?_;refine C3 ?_;refine sL ?_;refine aB rfl ?_ ?_<;>intro g25
  ·have hf:off<0\/((256*k0:Nat):Int)-us.length<off:=by
    by_cases h:off<0
    ·exact .inl h
    ·simp[h]at g25;exact .inr U
   refine aI ?_;have hN:∀y Y,y=AV.tup [.nilp,.int .i64 3]->Y=[]->aIl m y Y:=fun _ _ h1 h2=>.inr ⟨tb,hr,.inl ⟨rC hd hx (by unfold daO;exact Dc (by rw[hb];exact hf)),h1,h2⟩⟩
   refine oM ?_;apply aD;exact aE
   ·exact hN _ _ rfl rfl
   ·exact aA
  have hf:0<=off/\off+us.length<=256*k0:=by
   by_cases h:off<0
   ·simp[h]at g25
   ·simp[h]at g25;omega
  have hby:=VY (B:=B) (o:=off.toNat) (l:=us) U;refine aI ?_;refine C6 ?_;refine lS ?_;refine eQ ?_;refine z84 ?_;refine eQ ?_;apply dcp (m:=us.length) (es':=(lN B off.toNat us).map aG);rfl;infer_instance;infer_instance;rfl;exact bK
  ·simp;omega
  ·exact .inl ⟨_,rfl⟩
  ·simp;omega
  ·simp[hby,List.map_take,List.map_drop,jX]
  ·rfl
  ·exact eC
  refine KT ?_;refine iN ?_;refine⟨(j+1,lN B off.toNat us),⟨hlt,rB hd hx (by unfold daO;exact Db (by rw[hb];show¬(off<0\/((256*k0:Nat):Int)-us.length<off);omega)),by rw[uQ];exact hb⟩,Ab U, ?_⟩;dsimp only;exact aH
 obtain rfl:j=m.da.length:=by simp at g22;omega
 rw[Aw]at hd;refine aI ?_;have hN:∀y Y,y=AV.tup [.ptr r22 0,.int .i64 0]->Y=[(r22,.box 175 (iX m (.own r31 0 B.length) (.own t 0 tb.length) (.own g 0 (fQ m).length) 0 0)),(r31,.arr 5 1 (B.map aG)),(t,.arr 3 1 (tb.map aK)),(g,.arr 71 2 ((fQ m).map dC))]->aIl m y Y:=fun _ _ h1 h2=>.inr ⟨tb,hr,.inr ⟨B,hd,r22,r31,t,g,⟨by(exact aX),by(exact aX),by(exact aX),by(exact aX),by(exact aX),by(exact aX)⟩,h1,h2⟩⟩
 rw[hl,hb]at hN;refine fO ?_;refine fS ?_;apply aD;exact aE
 ·exact hN _ _ rfl rfl
 ·exact aA
theorem aFs(m:Md)(wa:m.WO)(hz:m.Z)(hv:fI m=-1)(hme:m.me.has=false):SCall prog 44 [.agg (aM m),.int .i64 0,.int .i64 0] [] (aLE m):=by
 have hm:jP m=true:=vM hv;have hA:=(oF hm).1;have hGG:=JR hA wa;have hM:=BS m wa hz;rw[hv]at hM;have hgl:=hGG.gl.1;have he1:=hGG.el.1;have he2:∀x∈m.el,gV x.off=true/\x.fs.length<=1000:=fun x hx=>⟨(hGG.el.2 x hx).1,(hGG.el.2 x hx).2.1⟩
 have hd1:=hGG.da.1;have hd2:∀x∈m.da,gV x.off=true/\x.bs.length<=1000:=fun x hx=>hGG.da.2 x hx
 have hT4:=KO hA;have hda:=aFk hv hme;refine bO 156 [0,1,2,3,6,7,8,9,10,11,12,13,14,17,25,43,59,81,105,120,144] func44 ?_;refine dB ?_;refine fZ fun r3 h3=> ?_;intros;refine fS ?_;refine jD ?_;refine jY ?_;refine kY call29 hM rfl aO bH ?_;refine wU ?_;rw[show((-1:Int) !=-1)=false from rfl];refine mE ?_;refine LG ?_;refine mM ?_;refine fZ fun r22 h22=> ?_;intros;refine cN ?_;have hgL:(fQ m).length=m.gl.length:=by simp[fQ]
 refine jD ?_;refine oN ?_;refine iM ?_;refine aB rfl (fun e=>absurd (e.symm.trans hme) V) (fun _=> ?_);refine cV ?_;refine bN (ks:=[0,1,2,3,6,7,8,9,10,11,12,13,14,17,25,43,59,81,105,120,144]) r22 15 3 1 V bR rfl V fun t0 ht0=> ?_
 simp only[aN,aQ,and_true]at ht0;repeat rcases ht0 with⟨_,ht0⟩
 apply Exists.intro;apply Bl;exact bK;refine bN (ks:=[0,1,2,3,6,7,8,9,10,11,12,13,14,17,25,43,59,81,105,120,144]) r22 16 71 2 V bR rfl V fun g0 hg0=> ?_
 simp only[aN,aQ,and_true]at hg0;repeat rcases hg0 with⟨_,hg0⟩
 apply Exists.intro;apply Bl;exact bK;refine lp (β:=Nat×Nat) (fun b=>⟨[(3,.ptr r3 0),(8,.ptr r22 0),(9,.int .i64 b.1)],[(r22,.box 175 (iX m (.ro 0 [] .nil) (.own b.2 0 (Ak b.1 (-1:Int)).length) (.own g0 0 0) 0 0)),(b.2,.arr 3 1 ((Ak b.1 (-1:Int)).map aK)),(g0,.arr 71 2 []),(r3,.box 33 (aM m))]⟩) (fun b=>b.1<=iQ m/\Nq b.2 r3/\Nq b.2 r22/\Nq b.2 g0) (fun b=>iQ m-b.1) (0,t0) aH ⟨Am _,Ae t0 r3,Ae t0 r22,Ae t0 g0⟩ ?_;rintro⟨k,t⟩ ⟨hk,n1,n2,n4⟩;dsimp only at hk n1 n2 n4⊢;refine dB ?_;refine oN ?_;refine kH ?_;refine AU ?_;refine GK ?_;refine GF ?_;refine qO ?_;refine aB rfl ?_ ?_<;>intro g7
 ·have hlt:k<iQ m:=of_decide_eq_true ((EA hA k).symm.trans g7);refine cJ ?_;refine AY ?_;refine eN fun r51 h51=> ?_;intros;refine kD ((Ak k (-1:Int)++ [-1]).map aK) (Ak k (-1:Int)++ [-1]).length ?_;refine bG fun r52 h52=> ?_;intros;refine oJ ?_;refine fO ?_;refine xK ?_;refine⟨(k+1,r52),⟨hlt,Ae r52 r3,Ae r52 r22,Ae r52 g0⟩,by show iQ m-(k+1)<iQ m-k;omega, ?_⟩;dsimp only;rw[<-List.replicate_succ'];exact aH
 obtain rfl:k=iQ m:=by have:=of_decide_eq_false ((EA hA k).symm.trans g7);omega
 obtain⟨T0,hT0,hT1⟩:∃T:List Int,Ak (iQ m) (-1:Int)=T/\T.length=iQ m:=⟨_,rfl,X⟩
 rw[hT0];refine cV ?_;refine lp (β:=Nat×Nat) (fun b=>⟨[(3,.ptr r3 0),(8,.ptr r22 0),(10,.int .i64 b.1)],[(r22,.box 175 (iX m (.ro 0 [] .nil) (.own t 0 T0.length) (.own b.2 0 ((fQ m).take b.1).length) 0 0)),(t,.arr 3 1 (T0.map aK)),(b.2,.arr 71 2 (((fQ m).take b.1).map dC)),(r3,.box 33 (aM m))]⟩) (fun b=>b.1<=m.gl.length/\Nq b.2 r3/\Nq b.2 r22/\Nq b.2 t) (fun b=>m.gl.length-b.1) (0,g0) aH ⟨Am _,Ae g0 r3,Ae g0 r22,Ae g0 t⟩ ?_;clear n4;rintro⟨k,g⟩ ⟨hk,p1,p2,p4⟩;dsimp only at hk p1 p2 p4⊢;refine kJ ?_;refine aB rfl ?_ ?_<;>intro g11
 ·have hlt:k<m.gl.length:=C8 g11
  obtain⟨x,hx⟩:=Aa m.gl k hlt
  refine aI ?_;refine eK (Ac [0,1,2,3,4,5,6,7,8,9,10] (Ad 11 (Ad 12 (Ac [13,14] (Ad 15 []))))) ?_;refine EG ?_;refine CC ?_;refine aDa ?_;refine wT ?_;refine CH fun r73 h73=> ?_;intros;refine eW rfl (((fQ m).take k++ [(x.kd,x.n)]).map dC) ((fQ m).take k++ [(x.kd,x.n)]).length ?_;refine bG fun r74 h74=> ?_;intros;refine XF ?_;refine xQ ?_;refine⟨(k+1,r74),⟨hlt,Ae r74 r3,Ae r74 r22,Ae r74 t⟩,Ab U, ?_⟩;dsimp only;rw[VZ hx];exact aH
 obtain rfl:k=m.gl.length:=by simp at g11;omega
 rw[Aj U];refine cV ?_;refine lp (β:=Nat×List Int) (fun b=>⟨[(3,.ptr r3 0),(8,.ptr r22 0),(11,.int .i64 b.1)],[(r22,.box 175 (iX m (.ro 0 [] .nil) (.own t 0 T0.length) (.own g 0 (fQ m).length) 0 0)),(t,.arr 3 1 (b.2.map aK)),(g,.arr 71 2 ((fQ m).map dC)),(r3,.box 33 (aM m))]⟩) (fun b=>b.1<=m.el.length/\kG FY T0 (m.el.take b.1)=some b.2/\b.2.length=T0.length) (fun b=>m.el.length-b.1) (0,T0) aH ⟨Am _,rfl,rfl⟩ ?_;rintro⟨j,tb⟩ ⟨hj,hr,hl⟩;dsimp only at hj hr hl⊢;refine kJ ?_;refine aB rfl ?_ ?_<;>intro g15
 ·have hlt:j<m.el.length:=C8 g15
  obtain⟨⟨off,fs⟩,hx⟩:=Aa m.el j hlt
  have hfo:=he2 _ (Ah hx);simp only[gV,Ap,decide_eq_true_eq]at hfo;refine eY ?_;refine sI ?_;refine iD fun r12 h12=> ?_;intros;refine fR ?_;dsimp only;refine Cy ?_;refine eQ ?_;refine z46 ?_;refine BB ?_;refine jM ?_;refine rL ?_;refine jM ?_;refine Cc ?_;refine Cz ?_;refine lC ?_;refine Cb ?_;refine Ca ?_;refine jM ?_;refine gI rfl rfl rfl (jT (W rfl id)) rfl ?_;refine C3 ?_;refine sL ?_;refine aB rfl ?_ ?_<;>intro g18
  ·have hf:¬wZ tb off fs.length=true:=by
    by_cases h:off<0
    ·simp[wZ,hl];omega
    ·simp[h]at g18;simp[wZ,hl];omega
   refine aI ?_;have hN:∀y Y,y=AV.tup [.nilp,.int .i64 3]->Y=[]->aLE m y Y:=fun _ _ h1 h2=>.inl ⟨by rw[hT0];exact rC hr hx (by unfold FY;exact Db hf),h1,h2⟩
   refine oM ?_;apply aD;exact aE
   ·exact hN _ _ rfl rfl
   ·exact aA
  have hf:0<=off/\off+fs.length<=T0.length:=by
   by_cases h:off<0
   ·simp[h]at g18
   ·simp[h]at g18;omega
  have hsb:wZ tb off fs.length=true:=by simp[wZ,hl];omega
  refine aI ?_;refine C6 ?_;refine lS ?_;refine eQ ?_;refine z84 ?_;refine eQ ?_;apply dcp (m:=fs.length) (es':=(zW tb off fs).map aK);rfl;infer_instance;infer_instance;rfl;exact bK
  ·simp;omega
  ·exact .inl ⟨_,rfl⟩
  ·simp;omega
  ·simp[zW,hsb,List.map_take,List.map_drop,jX]
  ·rfl
  ·exact eC
  refine KT ?_;refine iN ?_;refine⟨(j+1,zW tb off fs),⟨hlt,rB hr hx (by unfold FY;exact Dc hsb),by rw[uO];exact hl⟩,Ab U, ?_⟩;dsimp only;exact aH
 obtain rfl:j=m.el.length:=by simp at g15;omega
 rw[Aw,<-hT0]at hr;refine cV ?_;refine lp (β:=Unit) (fun _=>⟨[(3,.ptr r3 0),(8,.ptr r22 0),(13,.int .i64 0)],[(r22,.box 175 (iX m (.ro 0 [] .nil) (.own t 0 T0.length) (.own g 0 (fQ m).length) 0 0)),(t,.arr 3 1 (tb.map aK)),(g,.arr 71 2 ((fQ m).map dC)),(r3,.box 33 (aM m))]⟩) (fun _=>True) (fun _=>0) () aH True.intro ?_;rintro⟨⟩-;refine kJ ?_;refine aB rfl ?_ ?_<;>intro g22
 ·refine aI ?_;exact absurd g22 (by rw[hda];decide)
 refine aI ?_;have hN:∀y Y,y=AV.tup [.ptr r22 0,.int .i64 0]->Y=[(r22,.box 175 (iX m (.ro 0 [] .nil) (.own t 0 tb.length) (.own g 0 (fQ m).length) 0 0)),(t,.arr 3 1 (tb.map aK)),(g,.arr 71 2 ((fQ m).map dC))]->aLE m y Y:=fun _ _ h1 h2=>.inr ⟨tb,hr,r22,t,g,⟨by(exact aX),by(exact aX),by(exact aX)⟩,h1,h2⟩
 rw[hl]at hN;refine fO ?_;refine fS ?_;apply aD;exact aE
 ·exact hN _ _ rfl rfl
 ·exact aA
section
variable {x mm s : Nat} {m : Md}
set_option maxRecDepth 100000
theorem KP{j:AV}:SCall prog 34 [.ptr x 0] [(x,.box 157 (cX m (.ptr mm 0) (.ptr s 0) j))] (fun y Y=>y=.ptr mm 0/\Y=[(x,.box 157 (cX m (.ptr mm 0) (.ptr s 0) j))]):=by
 refine bO 9 [0,2,4] func34 ?_;refine fK ?_;refine Ce ?_;refine iM ?_;refine rM ?_;refine cN ?_;exact aD aE ⟨by rfl,rfl⟩ aA
theorem FD{j:AV}:SCall prog 34 [.ptr x 0] [(x,.box 157 (cX m .nilp (.ptr s 0) j))] (fun y Y=>y=.nilp/\Y=[(x,.box 157 (cX m .nilp (.ptr s 0) j))]):=by
 refine bO 9 [0,2,4] func34 ?_;refine fK ?_;refine Ce ?_;refine iM ?_;refine rM ?_;refine cN ?_;exact aD aE ⟨by rfl,rfl⟩ aA
theorem nF{p j:AV}:SCall prog 35 [.ptr x 0] [(x,.box 157 (cX m p (.ptr s 0) j))] (fun y Y=>y=.ptr s 0/\Y=[(x,.box 157 (cX m p (.ptr s 0) j))]):=by
 refine bO 9 [0,2,4] func35 ?_;refine fK ?_;refine Ce ?_;refine iM ?_;refine rM ?_;refine cN ?_;exact aD aE ⟨by rfl,rfl⟩ aA
def WA (m:Md) (f:Int):Bool:=if decide (0<=f)=true then decide (f<(m.im.length:Int))else false
theorem nP{p j:AV}(f:Int):SCall prog 36 [.ptr x 0,.int .i64 f] [(x,.box 157 (cX m p (.ptr s 0) j))] (fun y Y=>y=.bool (WA m f)/\Y=[(x,.box 157 (cX m p (.ptr s 0) j))]):=by
 refine bO 21 [0,1,4] func36 ?_;refine fK ?_;refine lo (rG (E rfl) (E rfl) (.inr (.inl ⟨⟨_,_,rfl⟩,rfl⟩))) rfl ?_;refine kH ?_;refine SP ?_;refine qK ?_;refine jZ ?_;refine aJP ?_;refine aJQ ?_;refine GK ?_;refine CA ?_;refine GF ?_;refine kA ?_;exact aD aE ⟨by rfl,rfl⟩ aA
def XI (l:List Ex) (nm:List Nat):Int×Bool:=match l.find? (fun x=>FV x.nm nm)with|some x=>(x.fn,true)|none=>(0,false)
theorem aIm{l:List Ex}{nm:List Nat}{k:Nat}{x:Ex}(h:(l.take k).all (fun x=> !FV x.nm nm)=true)(hx:l[k]? =some x)(hq:FV x.nm nm=true):XI l nm=(x.fn,true):=by
 obtain⟨hlt,he⟩:=Ai.1 hx;have hl:l=l.take k++x::l.drop (k+1):=by rw[<-he,<-List.drop_eq_getElem_cons hlt,List.take_append_drop]
 have h0:(l.take k).find? (fun x=>FV x.nm nm)=none:=by
  rw[List.find?_eq_none];intro y hy;have:=Bw.1 h y hy;simpa using this
 unfold XI;rw[hl,List.find?_append,h0,Option.none_or,List.find?_cons_of_pos (p:=fun x:Ex=>FV x.nm nm) hq]
theorem aFt{l:List Ex}{nm:List Nat}(h:l.all (fun x=> !FV x.nm nm)=true):XI l nm=(0,false):=by
 unfold XI;rw[List.find?_eq_none.2 (fun y hy=>by have:=Bw.1 h y hy;simpa using this)]
theorem sY{p j:AV}(hl:m.ex.length<=1000)(nm:List Nat):SCall prog 31 [.ptr x 0,.str (cB nm)] [(x,.box 157 (cX m p (.ptr s 0) j))] (fun y Y=>y=.tup [.int .i64 (XI m.ex nm).1,.bool (XI m.ex nm).2]/\Y=[(x,.box 157 (cX m p (.ptr s 0) j))]):=by
 refine bO 27 [0,1,4,5,7,9,14,15,16,17,23] func31 ?_;refine dB ?_;refine pN ?_;refine Ce ?_;refine sQ ?_;refine qB ?_;refine sM ?_;refine lp (β:=Nat) (fun k=>⟨[(1,.str (cB nm)),(14,.ro 2 (m.ex.map dD) .any),(15,.int .i64 m.ex.length),(16,.int .i64 k)],[(x,.box 157 (cX m p (.ptr s 0) j))]⟩) (fun k=>k<=m.ex.length/\(m.ex.take k).all (fun x=> !FV x.nm nm)=true) (fun k=>m.ex.length-k) 0 aH ⟨Am _,rfl⟩ ?_;rintro k ⟨hk,ha⟩;refine gN ?_;refine aB rfl ?_ ?_<;>intro g4
 ·have hlt:k<m.ex.length:=C8 g4
  obtain⟨⟨en,ef⟩,hx⟩:=Aa m.ex k hlt
  refine nY ?_;refine iD fun r7 h7=> ?_;intros;refine mG ?_;refine eY ?_;refine B4 ?_;refine C7 ?_;refine iM ?_;refine aB rfl ?_ ?_<;>intro g6
  ·refine aI ?_;have hE:=aIm ha hx g6;refine mP ?_;refine fS ?_;exact aD aE ⟨by rw[hE];rfl,rfl⟩ aA
  refine jH ?_;have h6:FV en nm=false:=g6;refine⟨k+1,⟨hlt,by rw[Al,hx,List.all_append,ha];simp[h6]⟩,Ab U, ?_⟩;exact aH
 obtain rfl:k=m.ex.length:=by simp at g4;omega
 rw[Aw]at ha;have hE:=aFt ha;refine dB ?_;refine fS ?_;exact aD aE ⟨by rw[hE];rfl,rfl⟩ aA
end
section
variable {x s : Nat}
set_option maxRecDepth 100000
theorem ZV{p j:AV}:SCall prog 30 [.ptr x 0,.int .i64 0] [(x,.box 157 (cX smallM p (.ptr s 0) j))] (fun y Y=>y=.tup [.agg (cD ⟨[1,1],[1]⟩),.bool true]/\Y=[(x,.box 157 (cX smallM p (.ptr s 0) j))]):=by
 have e1:smallM.fn[(0:Int).toNat]? =some 0:=rfl;have e2:smallM.ty[(0:Int).toNat]? =some ⟨[1,1],[1]⟩:=rfl;have e3:smallM.fn.length=1:=rfl;have e4:smallM.ty.length=1:=rfl;refine bO 71 [0,1,4,5,28,32] func30 ?_;refine dB ?_;refine iD fun r4 h4=> ?_;intros;refine cN ?_;refine eK (Ac [0,1,2,3,4,5,6,7,8,9,10,11,12,13,14,15,16,17,18,19,20,21,22] []) ?_;refine B5 ?_;refine Cs ?_;refine qC ?_;(refine kP rfl rfl rfl (iI (E rfl) (E rfl)) rfl ?_);refine nQ ?_;rw[show decide ((0:Int)<0)=false from rfl];refine qC ?_;refine lC ?_;(refine kP rfl rfl rfl (bI (E rfl) (.inl ⟨_,_,rfl⟩)) rfl ?_);(refine kP rfl rfl rfl (aP (E rfl) rfl V) rfl ?_);(refine kP rfl rfl rfl (aP (E rfl) rfl V) rfl ?_);refine jM ?_;(refine kP rfl rfl rfl (cK (E rfl)) rfl ?_);refine lC ?_;(refine kP rfl rfl rfl (bI (E rfl) (.inl ⟨_,_,rfl⟩)) rfl ?_);(refine kP rfl rfl rfl (aP (E rfl) rfl V) rfl ?_);(refine kP rfl rfl rfl (aP (E rfl) rfl V) rfl ?_);refine jM ?_;(refine kP rfl rfl rfl (cK (E rfl)) rfl ?_);(refine kP rfl rfl rfl (pA (E rfl) (E rfl)) rfl ?_);(refine kP rfl rfl rfl (dH (E rfl) (E rfl)) rfl ?_);refine nQ ?_;refine KT ?_;refine cJ ?_;refine uW [(x,.box 157 (cX smallM p (.ptr s 0) j))] call36 (nP 0) ?_
 rw[show WA smallM 0=false from rfl];refine iM ?_;refine eK (Ac [0,1,2,3,4,5,6,7,8,9,10,11,12,13,14,15,16,17,18,19,20,21] (Ad 22 (Ac [23] []))) ?_;refine pO ?_;refine eQ ?_;refine pO ?_;refine MI ?_;refine pO ?_;refine eQ ?_;refine SI ?_;refine z82 ?_;rw[show IntKind.i64.wrap (0-(smallM.im.length:Int))=0 from rfl];refine z56 ?_;refine MF ?_;refine vU ?_;refine XQ ?_;refine tQ ?_;exact aD aE ⟨by rfl,rfl⟩ aA
end
section
variable {x s : Nat} {m : Md} {p j : AV}
set_option maxRecDepth 100000
theorem GA(wa:m.WO)(hm:jP m=true):SCall prog 33 [.ptr x 0] [(x,.box 157 (cX m p (.ptr s 0) j))] (fun y Y=>y=.agg (aM m)/\Y=[(x,.box 157 (cX m p (.ptr s 0) j))]):=by
 have hcp:=yV m wa hm;refine bO 11 [0,2,4] func33 ?_;refine dB ?_;refine iD fun r2 h2=> ?_;intros;refine sQ ?_;refine Ce ?_;refine sQ ?_;refine qB ?_;refine jY ?_;refine uW [] call95 hcp ?_;refine fR ?_;exact aD aE ⟨by rfl,rfl⟩ aA
theorem aFu{m:Md}{f k:Int}(h:(if(if decide (0<=f)=true then decide (f<m.im.length)else false)=true then(m.im.getD f.toNat ⟨[],[],0⟩).ty else if(if decide (0<=f)=true then decide (f-m.im.length<m.fn.length)else false)=true then m.fn.getD (f-m.im.length).toNat 0 else-1)=k):
  cG m f=(if(if decide (k<0)=true then true else decide ((m.ty.length:Int)<=k))=true then(qM,false)else(m.ty.getD k.toNat qM,true)):=by
 subst h;rfl
theorem aJu{m:Md}{f:Int}(h:(if decide (f<0)=true then true else decide ((m.im.length:Int)+m.fn.length<=f))=true):cG m f=(qM,false):=by
 have h1:f<0\/(m.im.length:Int)+m.fn.length<=f:=by
  by_cases h0:f<0
  ·exact .inl h0
  ·simp[h0]at h;exact .inr h
 rw[aFu (k:=-1) (by rw[Db Af,Db Af])];rfl
theorem aJv{m:Md}{k:Int}{t:FT}(h:0<=k)(ht:m.ty[k.toNat]? =some t):(if(if decide (k<0)=true then true else decide ((m.ty.length:Int)<=k))=true then(qM,false)else(m.ty.getD k.toNat qM,true))=(t,true):=by
 have hlt:=(Ai.1 ht).1;rw[Db Af,Ax,ht];rfl
theorem aNV{m:Md}{f:Int}{y:Im}{t:FT}(h0:0<=f)(hx:m.im[f.toNat]? =some y)(h:0<=y.ty)(ht:m.ty[y.ty.toNat]? =some t):cG m f=(t,true):=by
 have hlt:=(Ai.1 hx).1;rw[aFu (k:=y.ty) (by rw[Dc Af,Ax,hx];rfl)];exact aJv h ht
theorem aNW{m:Md}{f:Int}{k:Int}{t:FT}(h0:(m.im.length:Int)<=f)(hx:m.fn[(f-m.im.length).toNat]? =some k)(h:0<=k)(ht:m.ty[k.toNat]? =some t):cG m f=(t,true):=by
 have hlt:=(Ai.1 hx).1;rw[aFu (k:=k) (by rw[Db Af,Dc Af,Ax,hx];rfl)];exact aJv h ht
structure Md.Tn (m:Md):Prop where
 im:m.im.length<=100/\∀y∈m.im,0<=y.ty/\y.ty<m.ty.length
 fn:m.fn.length<=100/\∀k∈m.fn,0<=k/\k<m.ty.length
theorem aLF{m:Md}(hv:fI m=-1)(wa:m.WO):m.Tn:=by
 have hm:=vM hv;have hG:=JR (oF hm).1 wa;unfold fI at hv;rw[Db (by rw[hm];simp)]at hv;split at hv
 ·cases hv
 next h1=>
 split at hv
 ·cases hv
 next h2=>
 refine⟨⟨hG.im.1,fun y hy=>⟨(hG.im.2 y hy).2.2.1, ?_⟩⟩,hG.fn.1,fun k hk=>⟨(hG.fn.2 k hk).1, ?_⟩⟩
 ·have:=h1;simp only[Bool.not_eq_true,List.any_eq_false]at this;have:=this y hy;simpa[LS]using this
 ·have:=h2;simp only[Bool.not_eq_true,List.any_eq_false]at this;have:=this k hk;simpa[LS]using this
set_option maxHeartbeats 1000000
theorem OH(hT:m.Tn)(f:Int)(hf:-9223372036854775808<=f/\f<=9223372036854775807):SCall prog 30 [.ptr x 0,.int .i64 f] [(x,.box 157 (cX m p (.ptr s 0) j))] (fun y Y=>y=.tup [.agg (cD (cG m f).1),.bool (cG m f).2]/\Y=[(x,.box 157 (cX m p (.ptr s 0) j))]):=by
 obtain⟨⟨i1,i2⟩,i3,i4⟩:=hT;refine bO 71 [0,1,4,5,28,32] func30 ?_;refine dB ?_;refine iD fun r4 h4=> ?_;intros;refine cN ?_;refine eK (Ac [0,1,2,3,4,5,6,7,8,9,10,11,12,13,14,15,16,17,18,19,20,21,22] []) ?_;refine B5 ?_;refine Cs ?_;refine qC ?_;(refine kP rfl rfl rfl (iI (E rfl) (E rfl)) rfl ?_);refine nQ ?_;refine qC ?_;refine lC ?_;refine Cb ?_;refine Ca ?_;refine Ca ?_;refine jM ?_;refine Cc ?_;refine lC ?_;refine Cb ?_;refine Ca ?_;refine Ca ?_;refine jM ?_;refine Cc ?_;refine Cz ?_;refine Cg ?_;refine sL ?_;refine aB rfl ?_ ?_<;>intro g1
 ·have hE:=aJu g1;refine sN ?_;refine PB ?_;refine dO (gR (r:=r4) (cs':=cD qM) bK (.cons (.le VLe.empty) (.cons (.le VLe.empty) .nil))) ?_;refine aI ?_;exact aD aE ⟨by rw[hE];rfl,rfl⟩ aA
 have hr:0<=f/\f<(m.im.length:Int)+m.fn.length:=by
  by_cases h0:f<0
  ·simp[h0]at g1
  ·simp[h0]at g1;omega
 refine cJ ?_;refine cw [(x,.box 157 (cX m p (.ptr s 0) j))] call36 (nP f) rfl aC aA ?_;rintro _ Y' ⟨rfl,rfl⟩ h32;refine fN ?_;refine aB rfl ?_ ?_<;>intro g3
 ·have hlt:f<(m.im.length:Int):=by
   have h:=g3;unfold WA at h;rw[Dc (C8 hr.1)]at h;simpa using h
  obtain⟨y,hy⟩:=Aa m.im f.toNat U
  have hyt:=i2 y (Ah hy);obtain⟨t,ht⟩:=Aa m.ty y.ty.toNat U
  have hE:=aNV hr.1 hy hyt.1 ht;refine aI ?_;refine eK (Ac [0,1,2,3,4,5,6,7,8,9,10,11,12,13,14,15] (Ad 16 (Ac [17] []))) ?_;refine pO ?_;refine eQ ?_;refine pO ?_;refine BA ?_;refine vU ?_;refine XQ ?_;refine tQ ?_;exact aD aE ⟨by rw[hE];rfl,rfl⟩ aA
 have hge:(m.im.length:Int)<=f:=by
  have h:=g3;unfold WA at h;rw[Dc (C8 hr.1)]at h;simpa using h
 obtain⟨k,hk⟩:=Aa m.fn ((f-m.im.length).toNat) U
 have hkt:=i4 k (Ah hk);obtain⟨t,ht⟩:=Aa m.ty k.toNat U
 have hE:=aNW hge hk hkt.1 ht;refine aI ?_;refine eK (Ac [0,1,2,3,4,5,6,7,8,9,10,11,12,13,14,15,16,17,18,19,20,21] (Ad 22 (Ac [23] []))) ?_;refine pO ?_;refine eQ ?_;refine pO ?_;refine MI ?_;refine pO ?_;refine eQ ?_;refine SI ?_;refine z82 ?_;refine z56 ?_;refine MF ?_;refine vU ?_;refine XQ ?_;refine tQ ?_;exact aD aE ⟨by rw[hE];rfl,rfl⟩ aA
end
section
variable {m : Md}
set_option maxRecDepth 100000
theorem WB(f:Int)(hf:f<0):SCall prog 46 [.agg (aM m),.int .i64 f] [] (fun y Y=>y=.tup [.agg (cD (cG m f).1),.bool (cG m f).2]/\Y=[]):=by
 have hE:cG m f=(qM,false):=aJu (by rw[decide_eq_true hf];rfl);rw[hE];refine bO 59 [0,1,2,4,5,6,15,34,52] func46 ?_;unfold aM;refine dB ?_;refine fZ fun r2 h2=> ?_;intros;refine iD fun r4 h4=> ?_;intros;refine iT ?_;refine gX ?_;refine C2 ?_;rw[show decide ((0:Int)<=f)=false from decide_eq_false U];refine kH ?_;refine nZ ?_;refine GF ?_;refine qO ?_;refine fO ?_;refine C2 ?_;rw[show decide ((0:Int)<=f)=false from decide_eq_false U];refine kH ?_;refine nZ ?_;refine Cu ?_;refine nZ ?_;refine GF ?_;refine qO ?_;refine fO ?_;refine lo (iI (E rfl) (E rfl)) rfl ?_;rw[show decide ((-1:Int)<0)=true from rfl];refine kH ?_;refine nZ ?_;refine Cu ?_;refine jG ?_;refine kX ?_;refine sN ?_;refine PB ?_;refine dO (gR (r:=r4) (cs':=cD qM) bK (.cons (.le VLe.empty) (.cons (.le VLe.empty) .nil))) ?_;refine aI ?_;exact aD aE ⟨by rfl,rfl⟩ aA
def exR (l:List Ex) (nm:List Nat):Int:=match l.find? (fun x=>FV x.nm nm)with|some x=>x.fn|none=> -1
theorem aIn{l:List Ex}{nm:List Nat}{k:Nat}{x:Ex}(h:(l.take k).all (fun x=> !FV x.nm nm)=true)(hx:l[k]? =some x)(hq:FV x.nm nm=true):exR l nm=x.fn:=by
 obtain⟨hlt,he⟩:=Ai.1 hx;have hl:l=l.take k++x::l.drop (k+1):=by rw[<-he,<-List.drop_eq_getElem_cons hlt,List.take_append_drop]
 have h0:(l.take k).find? (fun x=>FV x.nm nm)=none:=by
  rw[List.find?_eq_none];intro y hy;have:=Bw.1 h y hy;simpa using this
 unfold exR;rw[hl,List.find?_append,h0,Option.none_or,List.find?_cons_of_pos (p:=fun x:Ex=>FV x.nm nm) hq]
theorem aFv{l:List Ex}{nm:List Nat}(h:l.all (fun x=> !FV x.nm nm)=true):exR l nm=-1:=by
 unfold exR;rw[List.find?_eq_none.2 (fun y hy=>by have:=Bw.1 h y hy;simpa using this)]
theorem aPa{l:List Ex}{nm:List Nat}(h:∀x∈l,0<=x.fn):((XI l nm).2 !=decide (0<=exR l nm))=false/\((XI l nm).2=true->(XI l nm).1=exR l nm):=by
 unfold XI exR;cases hf:l.find? (fun x=>FV x.nm nm)with
 |none=>exact⟨rfl,fun e=>by cases e⟩
 |some x=>
  have:=h x (List.mem_of_find?_eq_some hf);exact⟨by simp[this],fun _=>rfl⟩
theorem KQ{c:Nat}{a b d:AV}(hl:m.ex.length<=1000)(nm:List Nat):SCall prog 45 [.ptr c 0,.str (cB nm)] [(c,.box 175 (iX m a b d 0 0))] (fun y Y=>y=.int .i64 (exR m.ex nm)/\Y=[(c,.box 175 (iX m a b d 0 0))]):=by
 refine bO 36 [0,1,4,5,13,26] func45 ?_;refine oB ?_;refine lp (β:=Nat) (fun k=>⟨[(0,.ptr c 0),(1,.str (cB nm)),(5,.int .i64 k)],[(c,.box 175 (iX m a b d 0 0))]⟩) (fun k=>k<=m.ex.length/\(m.ex.take k).all (fun x=> !FV x.nm nm)=true) (fun k=>m.ex.length-k) 0 aH ⟨Am _,rfl⟩ ?_;rintro k ⟨hk,ha⟩;refine cJ ?_;refine qB ?_;refine qA ?_;refine sG ?_;refine aB rfl ?_ ?_<;>intro g2
 ·have hlt:k<m.ex.length:=C8 g2
  obtain⟨⟨en,ef⟩,hx⟩:=Aa m.ex k hlt
  refine rO ?_;refine pD ?_;refine rN ?_;refine B4 ?_;refine C7 ?_;refine iM ?_;dsimp only;refine aB rfl ?_ ?_<;>intro g4
  ·refine aI ?_;have hE:=aIn ha hx g4;refine fO ?_;refine qB ?_;refine pD ?_;refine rN ?_;refine cN ?_;exact aD aE ⟨by rw[hE];rfl,rfl⟩ aA
  refine iN ?_;have h6:FV en nm=false:=g4;refine⟨k+1,⟨hlt,by rw[Al,hx,List.all_append,ha];simp[h6]⟩,Ab U, ?_⟩;exact aH
 obtain rfl:k=m.ex.length:=by simp at g2;omega
 rw[Aw]at ha;have hE:=aFv ha;refine cV ?_;exact aD aE ⟨by rw[hE];rfl,rfl⟩ aA
end
def aFw (q:Nat):List AV:=[.ro 2 (smallM.ty.map cD) .any,.ro 3 [] .any,.ro 1 (smallM.fn.map aK) .any,.bool false,.int .i64 0,.int .i64 0,.bool false,.int .i64 0,.int .i64 0,.ro 3 [] .any,.own q 0 1,.ro 2 [] .any,.ro 2 (smallM.co.map cQ) .any,.ro 2 [] .any]
theorem ZW:SCall prog 50 [] [] (fun y Y=>∃q,y=.agg (aFw q)/\Y=[(q,.arr 66 2 (smallM.ex.map dD))]):=by
 refine bO 15 [0] func50 ?_;refine dB ?_;refine iD fun r0 h0=> ?_;intros;refine kX ?_;refine dB ?_;refine eN fun r1 h1=> ?_;intros;refine iE (j:=1) rfl aY (aL bR X) ?_;refine eN fun r2 h2=> ?_;intros;refine iE (j:=2) rfl aY (aL bR X) ?_;refine mM ?_;refine eN fun r4 h4=> ?_;intros;refine iE (j:=4) rfl aY (aL bR X) ?_;refine eN fun r5 h5=> ?_;intros;refine iE (j:=5) rfl aY (aL bR X) ?_;refine mM ?_;refine eN fun r7 h7=> ?_;intros;refine mM ?_;refine mM ?_;refine mM ?_;refine eN fun r11 h11=> ?_;intros;refine iE (j:=11) rfl aY (aL bR X) ?_;refine mC (fH (j:=11) rfl (JV (l:=smallIs) (by simp[smallIs]))) ?_;refine mM ?_;refine mC (fH (j:=12) rfl QP) ?_;refine eN fun r13 h13=> ?_;intros;refine iE (j:=13) rfl aY (aL bR X) ?_;refine mM ?_;refine mG ?_;refine an ?_;refine dO (gR (r:=r0) (cs':=aFw r7) bK (.cons (.refl _) (.cons (.le VLe.empty) (Df (.cons (.refl _) (.cons (.refl _) (.cons (.refl _) (.cons (.le VLe.empty) (.cons (.refl _) (.cons (.le VLe.empty) (.cons (.refl _) (.cons (.le VLe.empty) .nil)))))))))))) ?_;refine aI ?_;exact aD aE ⟨r7,by rfl,rfl⟩ aA
def smallX:Md:= { smallM with ex:=[⟨(smallM.ex.headD ⟨[],0⟩).nm,1⟩] }
theorem aCz:smallX.WO:=⟨⟨small_wo.w.im,fun x hx=>by
  obtain rfl:=A1.1 hx;exact small_wo.w.ex ⟨[97,100,100],0⟩ (by simp[smallM]),small_wo.w.co,small_wo.w.il,small_wo.w.da⟩,⟨small_wo.ok.1,small_wo.ok.2⟩⟩
theorem aBj:smallM.Z:=by constructor<;>decide
theorem aFx:smallX.Z:=by constructor<;>decide
theorem aFy:fun0.Z:=by constructor<;>decide
theorem WC:fI smallM=-1:=by decide+kernel
theorem aCA:fI smallX=7:=by decide+kernel
theorem aBk:fI fun0=0:=by decide+kernel
theorem ZX:SCall prog 82 [] [] (fun y Y=>y=.bool true/\Y=[]):=by
 refine bO 2 [0] func82 ?_;refine sP ?_;refine kY call22 YZ rfl aO bH ?_;refine cN ?_;exact aD aE ⟨by rfl,rfl⟩ aA
theorem ZY:SCall prog 27 [] [] (fun y Y=>y=.bool true/\Y=[]):=by
 have w1:=mB smallM small_wo aBj;have w2:=mB smallX aCz aFx;have w3:=mB fun0 QO aFy;rw[WC,show((-1:Int)==-1)=true from rfl]at w1;rw[aCA,show((7:Int)==-1)=false from rfl]at w2;rw[aBk,show((0:Int)==-1)=false from rfl]at w3;refine bO 53 [0,1,2,3,4,5,6,7] func27 ?_;refine sP ?_;refine uW [] call50 zG ?_;refine kY call28 w1 rfl aO bH ?_;refine tC ?_;refine fS ?_;refine jD ?_;refine cw [] call50 ZW rfl aC aA ?_;rintro _ Y' ⟨q1,rfl,rfl⟩ h13
 replace h13:=gE h13;repeat rcases h13 with⟨_,h13⟩
 unfold aFw;apply aR;exact aU;refine iD fun r3 h3=> ?_;intros;refine mG ?_;refine eY ?_;refine z15 ?_;refine SM ?_;refine SN ?_;refine iM ?_;refine dO (gO (r:=r3) (q:=q1) bK aY (Df (Df (.cons (.refl _) (.cons (.refl _) (.cons (aL bR (by simp[smallM])) (.cons (.refl _) (.cons (.refl _) (.cons (.refl _) .nil))))))))) ?_;refine dO (gR (r:=r3) (cs':=aM smallX) bK (Df (Df (Df (.cons (.refl _) (.cons (.refl _) .nil)))))) ?_;refine jD ?_;refine jY ?_;refine kY call28 w2 rfl aO bH ?_;refine tC ?_;refine fS ?_;refine jD ?_;refine eN fun r24 h24=> ?_;intros;refine iE (j:=24) rfl aY (aL bR X) ?_;refine mM ?_;refine mC (fH (j:=25) rfl JW) ?_;refine kY call28 w3 rfl aO bH ?_;refine tC ?_;refine fS ?_;refine jD ?_;refine kY call82 ZX rfl aO bH ?_;refine kH ?_;refine tB ?_;rw[show((-1:Int)==-1)=true from rfl];refine qK ?_;refine qK ?_;refine tB ?_;rw[show((7:Int)==7)=true from rfl];refine qK ?_;refine AW ?_;refine qK ?_;refine tB ?_;rw[show((0:Int)==0)=true from rfl];refine qK ?_;refine aBw ?_;exact aD aE ⟨by rfl,rfl⟩ aA
def Nd:List Nat->Prop
 |[]=>True
 |a::l=>(∀b∈l,Nq a b)/\Nd l
section
variable {s t g : Nat}
theorem GB(h1:Nq t s)(tb:List Int)(gv:List (Int×Int))(htb:tb.length<=1000):SCall prog 102 [.ptr s 0] [(s,.box 165 [.own t 0 tb.length,.own g 0 gv.length]),(t,.arr 3 1 (tb.map aK)),(g,.arr 71 2 (gv.map dC))]
  (fun x Y=>∃q,(Nq q s/\Nq q t/\Nq q g)/\x=.own q 0 tb.length/\Y=(q,.arr 3 1 (tb.map aK))::[(s,.box 165 [.own t 0 tb.length,.own g 0 gv.length]),(t,.arr 3 1 (tb.map aK)),(g,.arr 71 2 (gv.map dC))]):=by
 refine bO 10 [0,2,4] func102 ?_;refine fK ?_;refine Ce ?_;refine iM ?_;refine rM ?_;refine cl [t] call105 (LU (es:=tb.map aK) Af) rfl ?_ ?_ ?_
 ·apply ArgsBor.cons;rfl
  ·apply XN
   ·exact Au
   ·exact bR
   ·simp
   ·rw[Bu];exact jX
  exact .nil
 ·rintro x Y' ⟨r,rfl,rfl⟩;refine⟨NoF.own, ?_⟩;simp only[A1,forall_eq];intro e he x hx;obtain⟨n,_,rfl⟩:=Bm.1 he;obtain rfl:=A1.1 hx;exact .int
 rintro x Y' ⟨q,rfl,rfl⟩ hq
 replace hq:=bU hq;repeat rcases hq with⟨_,hq⟩
 simp only[As,Ay];refine cN ?_;exact aD aE ⟨q,by exact⟨by(exact aX),by(exact aX),by(exact aX)⟩,by simp[fM],rfl⟩ aA
theorem AO(h2:Nq g s)(h3:Nq g t)(tb:List Int)(gv:List (Int×Int))(hgv:gv.length<=1000):SCall prog 104 [.ptr s 0] [(s,.box 165 [.own t 0 tb.length,.own g 0 gv.length]),(t,.arr 3 1 (tb.map aK)),(g,.arr 71 2 (gv.map dC))]
  (fun x Y=>∃q,(Nq q s/\Nq q t/\Nq q g)/\x=.own q 0 gv.length/\Y=(q,.arr 71 2 (gv.map dC))::[(s,.box 165 [.own t 0 tb.length,.own g 0 gv.length]),(t,.arr 3 1 (tb.map aK)),(g,.arr 71 2 (gv.map dC))]):=by
 refine bO 10 [0,2,4] func104 ?_;refine fK ?_;refine Ce ?_;refine iM ?_;refine rM ?_;refine cl [g] call211 (LV (es:=gv.map dC) Af) rfl ?_ ?_ ?_
 ·apply ArgsBor.cons;rfl
  ·apply XN
   ·exact Au
   ·exact bR
   ·simp
   ·rw[Bu];exact jX
  exact .nil
 ·rintro x Y' ⟨r,rfl,rfl⟩;refine⟨NoF.own, ?_⟩;simp only[A1,forall_eq];intro e he x hx;obtain⟨n,_,rfl⟩:=Bm.1 he;simp only[dC,Av,A5,or_false]at hx;rcases hx with rfl|rfl<;>exact .int
 rintro x Y' ⟨q,rfl,rfl⟩ hq
 replace hq:=bU hq;repeat rcases hq with⟨_,hq⟩
 simp only[As,Ay];refine cN ?_;exact aD aE ⟨q,by exact⟨by(exact aX),by(exact aX),by(exact aX)⟩,by simp[fM],rfl⟩ aA
end
theorem aCB{x mm q d s t g c cq ct cg:Nat}(hN:Nd [x,mm,q,d,s,t,g,c,cq,ct,cg]){m:Md}{tb:List Int}{B:List Nat}{J:List (List Int×List AV)}(hme:m.me.has=true)(htb:tb.length<=1000)(hgl:(fQ m).length<=100){k0:Nat}(hB:B.length=256*k0)(hk:k0<=16):
  SCall prog 48 [.ptr x 0,.ptr c 0] [(x,.box 157 (cX m (.ptr mm 0) (.ptr s 0) (.ro 1 (J.map eT) .any))),(mm,.box 169 [.own q 0 (B).length,.int .i64 (lB m.me.mx),.own d 0 (([]:List Int)).length]),(q,.arr 5 1 ((B).map aG)),(d,.arr 3 1 ((([]:List Int)).map aK)),(s,.box 165 [.own t 0 (tb).length,.own g 0 (fQ m).length]),(t,.arr 3 1 ((tb).map aK)),(g,.arr 71 2 ((fQ m).map dC)),(c,.box 175 (iX m (.own cq 0 B.length) (.own ct 0 tb.length) (.own cg 0 (fQ m).length) 0 0)),(cq,.arr 5 1 (B.map aG)),(ct,.arr 3 1 (tb.map aK)),(cg,.arr 71 2 ((fQ m).map dC))] (fun y Y=>y=.bool true/\Y=[(x,.box 157 (cX m (.ptr mm 0) (.ptr s 0) (.ro 1 (J.map eT) .any))),(mm,.box 169 [.own q 0 (B).length,.int .i64 (lB m.me.mx),.own d 0 (([]:List Int)).length]),(q,.arr 5 1 ((B).map aG)),(d,.arr 3 1 ((([]:List Int)).map aK)),(s,.box 165 [.own t 0 (tb).length,.own g 0 (fQ m).length]),(t,.arr 3 1 ((tb).map aK)),(g,.arr 71 2 ((fQ m).map dC)),(c,.box 175 (iX m (.own cq 0 B.length) (.own ct 0 tb.length) (.own cg 0 (fQ m).length) 0 0)),(cq,.arr 5 1 (B.map aG)),(ct,.arr 3 1 (tb.map aK)),(cg,.arr 71 2 ((fQ m).map dC))]):=by
 simp only[Nd,Av,A5,or_false,forall_eq_or_imp,forall_eq,and_true,false_implies,implies_true,and_assoc]at hN;repeat rcases hN with⟨_,hN⟩
 have hP:B.length / 256=k0:=by rw[hB,Nat.mul_div_cancel_left _ V]
 refine bO 119 [0,1,4,5,6,7,8,27,49,52,71,82,86,118] func48 ?_;refine cV ?_;refine eK (Ac [0,1,2,3,6,7,8,9,10,11] (Ad 4 (Ac [5,12,13,14,15] (Ad 16 (Ac [17,18] []))))) ?_;refine B5 ?_;refine Cs ?_;refine qC ?_;refine lC ?_;(refine kP rfl rfl rfl (bI (E rfl) (.inl ⟨_,_,rfl⟩)) rfl ?_);(refine kP rfl rfl rfl (aP (E rfl) rfl V) rfl ?_);(refine kP rfl rfl rfl (aP (E rfl) rfl V) rfl ?_);(refine kP rfl rfl rfl (aP (E rfl) rfl V) rfl ?_);refine jM ?_;refine GE [(x,.box 157 (cX m (.ptr mm 0) (.ptr s 0) (.ro 1 (J.map eT) .any)))] rfl rfl rfl call34 KP rfl aC aA eC ?_;rintro _ Y' ⟨rfl,rfl⟩ h13;apply bC;exact aU;(refine kP rfl rfl rfl (dY (E rfl) (E rfl) (.inr (.inl ⟨⟨_,_,rfl⟩,rfl⟩))) rfl ?_);refine aMM ?_;rw[show(false==m.me.has)=false by rw[hme];rfl];refine nQ ?_;refine qC ?_;refine GE [(x,.box 157 (cX m (.ptr mm 0) (.ptr s 0) (.ro 1 (J.map eT) .any)))] rfl rfl rfl call35 nF rfl aC aA eC ?_;rintro _ Y' ⟨rfl,rfl⟩ h25;apply bC;exact aU;(refine kP rfl rfl rfl (dY (E rfl) (E rfl) (.inr (.inl ⟨⟨_,_,rfl⟩,rfl⟩))) rfl ?_)
 refine nQ ?_;refine KT ?_;refine dG ?_;refine tV ?_;refine z20 ?_;rw[RC U];refine cN ?_;refine eK (Ac [0,3] (Ad 1 (Ad 2 (Ac [4,5,6,9,10,11,12] (Ad 7 (Ad 8 (Ad 13 (Ac [14,15] [])))))))) ?_;refine wV ?_;refine pB [(x,.box 157 (cX m (.ptr mm 0) (.ptr s 0) (.ro 1 (J.map eT) .any)))] rfl call34 KP rfl aC aA eC ?_;rintro _ Y' ⟨rfl,rfl⟩ h35;apply bC;exact aU;refine LM rfl call98 (FC B (lB m.me.mx) [] U) rfl aO bH ?_;refine z58 ?_;rw[show(((B.length / 256:Nat):Int) !=((B.length / 256:Nat):Int))=false by simp];refine qC ?_;refine lC ?_;(refine kP rfl rfl rfl (bI (E rfl) (.inl ⟨_,_,rfl⟩)) rfl ?_);(refine kP rfl rfl rfl (aP (E rfl) rfl V) rfl ?_);refine jM ?_;refine GE [(x,.box 157 (cX m (.ptr mm 0) (.ptr s 0) (.ro 1 (J.map eT) .any)))] rfl rfl rfl call35 nF rfl aC aA eC ?_;rintro _ Y' ⟨rfl,rfl⟩ h41;apply bC;exact aU;refine GE [(s,.box 165 [.own t 0 (tb).length,.own g 0 (fQ m).length]),(t,.arr 3 1 ((tb).map aK)),(g,.arr 71 2 ((fQ m).map dC))] rfl rfl rfl call102 (GB (by(exact aX)) tb (fQ m) U) rfl aC aA eC ?_;rintro _ Y' ⟨e1,⟨j1,j2,j3⟩,rfl,rfl⟩ h42;have k42:=aV h42;repeat rcases k42 with⟨_,k42⟩
 apply bC;exact aU;refine FO rfl rfl rfl call47 (fT tb tb) rfl aO bH ?_;rw[show decide (tb=tb)=true by simp];refine IK ?_;refine nQ ?_;refine KT ?_;refine cV ?_;refine lp (β:=Nat) (fun i=>⟨[(0,.ptr x 0),(1,.ptr c 0),(5,.int .i64 ((B.length / 256:Nat):Int)),(6,.int .i64 i)],[(x,.box 157 (cX m (.ptr mm 0) (.ptr s 0) (.ro 1 (J.map eT) .any))),(mm,.box 169 [.own q 0 (B).length,.int .i64 (lB m.me.mx),.own d 0 (([]:List Int)).length]),(q,.arr 5 1 ((B).map aG)),(d,.arr 3 1 ((([]:List Int)).map aK)),(s,.box 165 [.own t 0 (tb).length,.own g 0 (fQ m).length]),(t,.arr 3 1 ((tb).map aK)),(g,.arr 71 2 ((fQ m).map dC)),(c,.box 175 (iX m (.own cq 0 B.length) (.own ct 0 tb.length) (.own cg 0 (fQ m).length) 0 0)),(cq,.arr 5 1 (B.map aG)),(ct,.arr 3 1 (tb.map aK)),(cg,.arr 71 2 ((fQ m).map dC))]⟩) (fun i=>i<=k0) (fun i=>k0-i) 0 aH (Am _) ?_;rintro i hi;refine cJ ?_;refine sG ?_;refine aB rfl ?_ ?_<;>intro g7
 ·have hlt:i<k0:=by rw[hP]at g7;have:=of_decide_eq_true g7;omega
  have hil:i<B.length / 256:=by omega
  have hpg:=aFi B (lB m.me.mx) [] U i hil;have hpl:=OD (b:=B) (i:=i) hil;have hw:IntKind.i64.wrap (256*(i:Int))=((256*i:Nat):Int):=by rw[fD U U];omega
  refine aI ?_;refine eK (Ac [0,2,5,6,7,8,9,10,11,12,13,14,15] (Ad 1 (Ad 3 (Ac [4,16] [])))) ?_;refine wV ?_;refine lS ?_;refine B5 ?_;refine eS rfl (lP (E rfl) (E rfl)) rfl ?_;refine B5 ?_;refine eS rfl (lP (E rfl) (E rfl)) rfl ?_;rw[hw];refine aC9 ?_;(refine eS rfl (mN (E rfl) bR (OB.some (E rfl) (fun _=>by rfl)) (OB.some (E rfl) (fun _=>by rfl)) (fun _=>by(simp only[Az];omega))) rfl ?_);refine aML ?_;refine pB [(x,.box 157 (cX m (.ptr mm 0) (.ptr s 0) (.ro 1 (J.map eT) .any)))] rfl call34 KP rfl aC aA eC ?_;rintro _ Y' ⟨rfl,rfl⟩ h56;apply bC;exact aU;refine mI rfl call103 hpg rfl bL kK ?_;rintro _ Y' ⟨p1,rfl,rfl⟩ h58
  replace h58:=bU h58;repeat rcases h58 with⟨_,h58⟩
  apply bC;exact aU;refine aML ?_;refine aMI ?_;refine oI ?_;refine aB rfl ?_ ?_<;>intro g9
  ·refine aI ?_;exact absurd g9 (by rw[show List.take (256*i+256-256*i) (List.drop (0+256*i) B)=KL B i by unfold KL;rw[B2,show 256*i+256-256*i=256 by omega]];simp)
  refine iN ?_;refine⟨i+1,hlt,Ab U, ?_⟩;exact aH
 refine dG ?_;refine uW [(x,.box 157 (cX m (.ptr mm 0) (.ptr s 0) (.ro 1 (J.map eT) .any)))] call35 nF ?_;refine cw [(s,.box 165 [.own t 0 (tb).length,.own g 0 (fQ m).length]),(t,.arr 3 1 ((tb).map aK)),(g,.arr 71 2 ((fQ m).map dC))] call104 (AO (by(exact aX)) (by(exact aX)) tb (fQ m) U) rfl aC aA ?_;rintro _ Y' ⟨e2,⟨j1,j2,j3⟩,rfl,rfl⟩ h74;have k74:=aV h74;repeat rcases k74 with⟨_,k74⟩
 refine sO ?_;refine zP ?_;refine tV ?_;refine wU ?_;rw[show(((fQ m).length:Int) !=((fQ m).length:Int))=false by simp];refine cV ?_;refine lp (β:=Nat) (fun i=>⟨[(0,.ptr x 0),(1,.ptr c 0),(7,.own e2 0 (fQ m).length),(8,.int .i64 i)],[(e2,.arr 71 2 ((fQ m).map dC)),(x,.box 157 (cX m (.ptr mm 0) (.ptr s 0) (.ro 1 (J.map eT) .any))),(mm,.box 169 [.own q 0 (B).length,.int .i64 (lB m.me.mx),.own d 0 (([]:List Int)).length]),(q,.arr 5 1 ((B).map aG)),(d,.arr 3 1 ((([]:List Int)).map aK)),(s,.box 165 [.own t 0 (tb).length,.own g 0 (fQ m).length]),(t,.arr 3 1 ((tb).map aK)),(g,.arr 71 2 ((fQ m).map dC)),(c,.box 175 (iX m (.own cq 0 B.length) (.own ct 0 tb.length) (.own cg 0 (fQ m).length) 0 0)),(cq,.arr 5 1 (B.map aG)),(ct,.arr 3 1 (tb.map aK)),(cg,.arr 71 2 ((fQ m).map dC))]⟩) (fun i=>i<=(fQ m).length) (fun i=>(fQ m).length-i) 0 aH (Am _) ?_;rintro i hi;refine vT ?_;refine aB rfl ?_ ?_<;>intro g15
 ·have hlt:i<(fQ m).length:=C8 g15
  obtain⟨⟨kd,n⟩,hx⟩:=Aa ((fQ m)) i hlt
  refine aI ?_;refine eK (Ac [0,1,2,3,4,5,6,7,8,9,10,11,12,13,14,15,16,17,18,19,20,21,22,23,24,25,26,27,28,29] []) ?_;refine wW ?_;refine SU ?_;refine lS ?_;refine aDb ?_;refine SU ?_;refine z58 ?_;refine qC ?_;refine lC ?_;refine XR ?_;refine SZ ?_;refine lC ?_;refine Cb ?_;refine Ca ?_;refine AE ?_;refine aJT ?_;refine sL ?_;refine aB rfl ?_ ?_<;>intro g17
  ·refine aI ?_;exact absurd g17 X
  refine iN ?_;refine⟨i+1,hlt,by show(fQ m).length-(i+1)<(fQ m).length-i;omega, ?_⟩;exact aH
 refine cV ?_;exact aD aE ⟨by rfl,rfl⟩ aA
theorem aCC{x s t g c ct cg:Nat}(hN:Nd [x,s,t,g,c,ct,cg]){m:Md}{tb:List Int}{J:List (List Int×List AV)}(hme:m.me.has=false)(htb:tb.length<=1000)(hgl:(fQ m).length<=100):
  SCall prog 48 [.ptr x 0,.ptr c 0] [(x,.box 157 (cX m .nilp (.ptr s 0) (.ro 1 (J.map eT) .any))),(s,.box 165 [.own t 0 (tb).length,.own g 0 (fQ m).length]),(t,.arr 3 1 ((tb).map aK)),(g,.arr 71 2 ((fQ m).map dC)),(c,.box 175 (iX m (.ro 0 [] .nil) (.own ct 0 tb.length) (.own cg 0 (fQ m).length) 0 0)),(ct,.arr 3 1 (tb.map aK)),(cg,.arr 71 2 ((fQ m).map dC))] (fun y Y=>y=.bool true/\Y=[(x,.box 157 (cX m .nilp (.ptr s 0) (.ro 1 (J.map eT) .any))),(s,.box 165 [.own t 0 (tb).length,.own g 0 (fQ m).length]),(t,.arr 3 1 ((tb).map aK)),(g,.arr 71 2 ((fQ m).map dC)),(c,.box 175 (iX m (.ro 0 [] .nil) (.own ct 0 tb.length) (.own cg 0 (fQ m).length) 0 0)),(ct,.arr 3 1 (tb.map aK)),(cg,.arr 71 2 ((fQ m).map dC))]):=by
 simp only[Nd,Av,A5,or_false,forall_eq_or_imp,forall_eq,and_true,false_implies,implies_true,and_assoc]at hN;repeat rcases hN with⟨_,hN⟩
 refine bO 119 [0,1,4,5,6,7,8,27,49,52,71,82,86,118] func48 ?_;refine cV ?_;refine eK (Ac [0,1,2,3,6,7,8,9,10,11] (Ad 4 (Ac [5,12,13,14,15] (Ad 16 (Ac [17,18] []))))) ?_;refine B5 ?_;refine Cs ?_;refine qC ?_;refine lC ?_;(refine kP rfl rfl rfl (bI (E rfl) (.inl ⟨_,_,rfl⟩)) rfl ?_);(refine kP rfl rfl rfl (aP (E rfl) rfl V) rfl ?_);(refine kP rfl rfl rfl (aP (E rfl) rfl V) rfl ?_);(refine kP rfl rfl rfl (aP (E rfl) rfl V) rfl ?_);refine jM ?_;refine GE [(x,.box 157 (cX m .nilp (.ptr s 0) (.ro 1 (J.map eT) .any)))] rfl rfl rfl call34 FD rfl aC aA eC ?_;rintro _ Y' ⟨rfl,rfl⟩ h13;apply bC;exact aU;(refine kP rfl rfl rfl (dY (E rfl) (E rfl) (.inl ⟨rfl,rfl⟩)) rfl ?_);refine aMM ?_;rw[show(true==m.me.has)=false by rw[hme];rfl];refine nQ ?_;refine qC ?_;refine GE [(x,.box 157 (cX m .nilp (.ptr s 0) (.ro 1 (J.map eT) .any)))] rfl rfl rfl call35 nF rfl aC aA eC ?_;rintro _ Y' ⟨rfl,rfl⟩ h25;apply bC;exact aU;(refine kP rfl rfl rfl (dY (E rfl) (E rfl) (.inr (.inl ⟨⟨_,_,rfl⟩,rfl⟩))) rfl ?_)
 refine nQ ?_;refine KT ?_;refine dG ?_;refine tV ?_;refine z20 ?_;refine cN ?_;refine eK (Ac [0,3] (Ad 1 (Ad 2 (Ac [4,5,6,9,10,11,12] (Ad 7 (Ad 8 (Ad 13 (Ac [14,15] [])))))))) ?_;refine wV ?_;refine pB [(x,.box 157 (cX m .nilp (.ptr s 0) (.ro 1 (J.map eT) .any)))] rfl call34 FD rfl aC aA eC ?_;rintro _ Y' ⟨rfl,rfl⟩ h35;apply bC;exact aU;refine LM rfl call98 aCq rfl aO bH ?_;refine z58 ?_;refine qC ?_;refine lC ?_;(refine kP rfl rfl rfl (bI (E rfl) (.inl ⟨_,_,rfl⟩)) rfl ?_);(refine kP rfl rfl rfl (aP (E rfl) rfl V) rfl ?_);refine jM ?_;refine GE [(x,.box 157 (cX m .nilp (.ptr s 0) (.ro 1 (J.map eT) .any)))] rfl rfl rfl call35 nF rfl aC aA eC ?_;rintro _ Y' ⟨rfl,rfl⟩ h41;apply bC;exact aU;refine GE [(s,.box 165 [.own t 0 (tb).length,.own g 0 (fQ m).length]),(t,.arr 3 1 ((tb).map aK)),(g,.arr 71 2 ((fQ m).map dC))] rfl rfl rfl call102 (GB (by(exact aX)) tb (fQ m) U) rfl aC aA eC ?_;rintro _ Y' ⟨e1,⟨j1,j2,j3⟩,rfl,rfl⟩ h42;have k42:=aV h42;repeat rcases k42 with⟨_,k42⟩
 apply bC;exact aU;refine FO rfl rfl rfl call47 (fT tb tb) rfl aO bH ?_;rw[show decide (tb=tb)=true by simp];refine IK ?_;refine nQ ?_;refine KT ?_;refine cV ?_;refine lp (β:=Unit) (fun _=>⟨[(0,.ptr x 0),(1,.ptr c 0),(5,.int .i64 0),(6,.int .i64 0)],[(x,.box 157 (cX m .nilp (.ptr s 0) (.ro 1 (J.map eT) .any))),(s,.box 165 [.own t 0 (tb).length,.own g 0 (fQ m).length]),(t,.arr 3 1 ((tb).map aK)),(g,.arr 71 2 ((fQ m).map dC)),(c,.box 175 (iX m (.ro 0 [] .nil) (.own ct 0 tb.length) (.own cg 0 (fQ m).length) 0 0)),(ct,.arr 3 1 (tb.map aK)),(cg,.arr 71 2 ((fQ m).map dC))]⟩) (fun _=>True) (fun _=>0) () aH True.intro ?_;rintro⟨⟩-;refine cJ ?_;refine sG ?_;refine fO ?_;refine uW [(x,.box 157 (cX m .nilp (.ptr s 0) (.ro 1 (J.map eT) .any)))] call35 nF ?_;refine cw [(s,.box 165 [.own t 0 (tb).length,.own g 0 (fQ m).length]),(t,.arr 3 1 ((tb).map aK)),(g,.arr 71 2 ((fQ m).map dC))] call104 (AO (by(exact aX)) (by(exact aX)) tb (fQ m) U) rfl aC aA ?_;rintro _ Y' ⟨e2,⟨j1,j2,j3⟩,rfl,rfl⟩ h74;have k74:=aV h74;repeat rcases k74 with⟨_,k74⟩
 refine sO ?_;refine zP ?_;refine tV ?_;refine wU ?_;rw[show(((fQ m).length:Int) !=((fQ m).length:Int))=false by simp];refine cV ?_;refine lp (β:=Nat) (fun i=>⟨[(0,.ptr x 0),(1,.ptr c 0),(7,.own e2 0 (fQ m).length),(8,.int .i64 i)],[(e2,.arr 71 2 ((fQ m).map dC)),(x,.box 157 (cX m .nilp (.ptr s 0) (.ro 1 (J.map eT) .any))),(s,.box 165 [.own t 0 (tb).length,.own g 0 (fQ m).length]),(t,.arr 3 1 ((tb).map aK)),(g,.arr 71 2 ((fQ m).map dC)),(c,.box 175 (iX m (.ro 0 [] .nil) (.own ct 0 tb.length) (.own cg 0 (fQ m).length) 0 0)),(ct,.arr 3 1 (tb.map aK)),(cg,.arr 71 2 ((fQ m).map dC))]⟩) (fun i=>i<=(fQ m).length) (fun i=>(fQ m).length-i) 0 aH (Am _) ?_;rintro i hi;refine vT ?_;refine aB rfl ?_ ?_<;>intro g15
 ·have hlt:i<(fQ m).length:=C8 g15
  obtain⟨⟨kd,n⟩,hx⟩:=Aa ((fQ m)) i hlt
  refine aI ?_;refine eK (Ac [0,1,2,3,4,5,6,7,8,9,10,11,12,13,14,15,16,17,18,19,20,21,22,23,24,25,26,27,28,29] []) ?_;refine wW ?_;refine SU ?_;refine lS ?_;refine aDb ?_;refine SU ?_;refine z58 ?_;refine qC ?_;refine lC ?_;refine XR ?_;refine SZ ?_;refine lC ?_;refine Cb ?_;refine Ca ?_;refine AE ?_;refine aJT ?_;refine sL ?_;refine aB rfl ?_ ?_<;>intro g17
  ·refine aI ?_;exact absurd g17 X
  refine iN ?_;refine⟨i+1,hlt,by show(fQ m).length-(i+1)<(fQ m).length-i;omega, ?_⟩;exact aH
 refine cV ?_;exact aD aE ⟨by rfl,rfl⟩ aA
def aIo (ps:List Int):Md:=iL (GR ps) (GS 0) [⟨[],[]⟩,aEN]
end Go.Proofs.YtjpdadobblffmaaGreat
namespace Go.Proofs.YtjpdadobblffmaaGreat
open Go.RowKit Go.ChangeShapes Go.WideShapes Go.ChangeAt Go.Deep
def fB (el:List El) (da:List Da):Md:= { aIo []with el:=el,da:=da }
theorem aBl{α:Type}{no:Nat}{l:List α}{pt:α->List Nat}{c:Nat}(hl:l.length<=2)(hc:c<=1000)(h:∀x∈l,(pt x).length<=c):(bF no l pt).length<=20+2*c:=by
 have h1:=kZ h U;have h2:l.length*c<=2*c:=Bq c hl;have h3:=bJ 4 (bB l pt).length U;unfold bF;split
 ·simp
 ·simp only[Bj,Ao];omega
structure XOk (el:List El) (da:List Da):Prop where
 el:el.length<=2/\∀x∈el,gV x.off=true/\x.fs.length<=5/\∀f∈x.fs,0<=f/\f<=3
 da:da.length<=2/\∀x∈da,gV x.off=true/\x.bs.length<=300/\∀c∈x.bs,c<256
section
variable {el : List El} {da : List Da}
theorem XOk.wo (h:XOk el da):(fB el da).WO:=by
 have h0:=aH5 [] 0 [] [] X X;exact⟨⟨h0.w.im,h0.w.ex,h0.w.co,h0.w.il,fun x hx=>(h.da.2 x hx).2.2⟩,⟨h0.ok.1,h0.ok.2⟩⟩
theorem XOk.z (h:XOk el da):(fB el da).Z:=by
 have h0:=aLA [] 0 [] [] X;exact⟨h0.ty,h0.im,h0.fn,h0.gl,h0.ex,⟨by have:=h.el.1;show el.length<= _;omega,fun x hx=>by have:=(h.el.2 x hx).2.1;omega⟩,h0.co,⟨by have:=h.da.1;show da.length<= _;omega,fun x hx=>by have:=(h.da.2 x hx).2.1;omega⟩⟩
theorem XOk.may (h:XOk el da):jP (fB el da)=true:=by
 obtain⟨⟨l1,e1⟩,l2,d1⟩:=h;have hE:cI el 16 (fun x=>gV x.off&&cI x.fs 50 gU)=true:=by
  unfold cI;simp only[Ap,decide_eq_true_eq,Bw];refine⟨U,fun x hx=> ?_⟩;obtain⟨h1,h2,h3⟩:=e1 x hx;refine⟨h1,U,fun f hf=> ?_⟩;have:=h3 f hf;unfold gU;rw[Dc (C8 this.1)];exact decide_eq_true U
 have hD:cI da 16 (fun x=>gV x.off&&decide (x.bs.length<=1000))=true:=by
  unfold cI;simp only[Ap,decide_eq_true_eq,Bw];refine⟨U,fun x hx=> ?_⟩;obtain⟨h1,h2,-⟩:=d1 x hx;exact⟨h1,U⟩
 have hA:nC (fB el da)=true:=by
  have hL:mK (fB el da)=(mK (fB [] [])&&cI el 16 (fun x=>gV x.off&&cI x.fs 50 gU)&&cI da 16 (fun x=>gV x.off&&decide (x.bs.length<=1000))):=by
   unfold mK;rw[show cI (fB [] []).el 16 (fun x=>gV x.off&&cI x.fs 50 gU)=true from rfl,show cI (fB [] []).da 16 (fun x=>gV x.off&&decide (x.bs.length<=1000))=true from rfl,Bool.and_true,Bool.and_true];rfl
  have h0:(((fB [] []).co.length==(fB [] []).fn.length&&cI (fB [] []).co 16 uA)&&mK (fB [] [])&&lE (fB [] []).tb 16 1000&&lE (fB [] []).me 16 65536)=true:=by decide+kernel
  simp only[Ap]at h0;obtain⟨⟨⟨a1,a2⟩,a3⟩,a4⟩:=h0;unfold nC;rw[hL,a2,hE,hD];simp only[Bool.and_true];simp only[Ap];exact⟨⟨a1,a3⟩,a4⟩
 have hw1:(bF 9 el uS).length<=20+2*300:=aBl l1 U fun x hx=>by
  obtain⟨h1,h2,h3⟩:=e1 x hx;have p1:=zE h1;have p2:=kZ (pt:=cC) (l:=x.fs) (c:=5) (fun f hf=>vH ⟨(h3 f hf).1,by have:=(h3 f hf).2;omega⟩) U;unfold uS;rw[Ao];omega
 have hw2:(bF 11 da wD).length<=20+2*600:=aBl l2 U fun x hx=>by
  obtain⟨h1,h2,-⟩:=d1 x hx;have p1:=zE h1;have p2:=bJ 4 x.bs.length U;unfold wD;rw[Ao,Ao];omega
 have hw:(eZ (fB el da)).length=(eZ (fB [] [])).length+(bF 9 el uS).length+(bF 11 da wD).length:=by
  unfold eZ;dsimp only[fB];simp only[Ao,show bF 9 ([]:List El) uS=[]from rfl,show bF 11 ([]:List Da) wD=[]from rfl,List.length_nil];omega
 have h0:(eZ (fB [] [])).length<=1000:=by decide+kernel
 rw[vF,hA,Bool.true_and,decide_eq_true_eq];omega
theorem XOk.vl (h:XOk el da):fI (fB el da)=-1:=by
 have v0:fI (fB [] [])=-1:=by decide+kernel
 have c0:qG (fB el da) (fB el da).co.length=qG (fB [] []) (fB [] []).co.length:=by kernel_rfl
 have e0:(fB el da).el.any (FB (fB el da))=false:=by
  rw[List.any_eq_false];intro x hx;have h3:=(h.el.2 x hx).2.2;unfold FB;simp only[Bool.or_eq_true,Bool.not_eq_true',not_or,List.any_eq_true,not_exists,not_and];refine⟨fun f hf=> ?_,by simp[fB,aIo,iL]⟩;have:=(h3 f hf).2;simp[VP,fB,aIo,iL];omega
 have d0:(!(fB el da).da.isEmpty&& !(fB el da).me.has)=false:=by simp[fB,aIo,iL]
 unfold fI at v0⊢;rw[c0,e0,d0,h.may];rw[show jP (fB [] [])=true from XOk.may ⟨⟨X,X⟩,X,X⟩,show(fB [] []).el.any (FB (fB [] []))=false from rfl,show(!(fB [] []).da.isEmpty&& !(fB [] []).me.has)=false from rfl]at v0;exact v0
end
attribute [local irreducible] SW RS RD fE eA
def el0:List El:=[⟨0,[0,2,3]⟩]
theorem el0_ok:XOk el0 []:=⟨⟨V,V⟩,V,V⟩
theorem aCD{Y:dI}{q:Nat}{et:TypeId}(hg:gM Y q=some (.arr et 2 [[.ro 0 [] .nil,.ro 0 [] .nil],cQ ⟨[],DL⟩])):BorL Y [q] (aLi (GR []) (GS 0) q) (aM (fB el0 [])):=by
 have h1:Bor Y [q] (.own q 0 2) (.ro 2 ([(⟨[],[]⟩:Co),aEN].map cQ) .any):=by
  refine .ownR (fun i j=>if i=0 then .ro 0 [] .nil else((cQ ⟨[],DL⟩)[j]?).getD .nilp) (A1.2 rfl) hg X rfl (fun z hz=> ?_) (fun i e j a h1 h2=> ?_) (fun i e j a h1 h2=> ?_)
  ·simp only[Bn,B3,Av,A5,or_false]at hz;rcases hz with rfl|rfl<;>exact⟨rfl,fun a ha=>by
    simp only[cQ,Av,A5,or_false]at ha;rcases ha with rfl|rfl<;>rfl⟩
  ·match i with
   |0=>
    cases h1
    match j with
    |0=>cases h2;rfl
    |1=>cases h2;rfl
    | _ +2=>cases h2
   |1=>
    cases h1
    rw[Db V,h2];rfl
   | _ +2=>cases h1
  ·match i with
   |0=>
    cases h1
    match j with
    |0=>cases h2;exact .le VLe.empty
    |1=>cases h2;exact .le VLe.empty
    | _ +2=>cases h2
   |1=>
    cases h1
    have h3:(cQ ⟨[],DL⟩)[j]? =some a:=h2;show Bor Y [q] (((cQ ⟨[],DL⟩)[j]?).getD .nilp) a;rw[h3];exact .refl _
   | _ +2=>cases h1
 exact Df (Df (Df (.cons h1 (.cons (.refl _) .nil))))
theorem ZZ:SCall prog 94 [] [] (fun y Y=>y=.bool true/\Y=[]):=by
 refine bO 2 [0] func94 ?_;refine sP ?_;refine kY call27 ZY rfl aO bH ?_;refine cN ?_;exact aD aE ⟨by rfl,rfl⟩ aA
end Go.Proofs.YtjpdadobblffmaaGreat
namespace Go.Proofs.YtjpdadobblffmaaGreat
open Go.RowKit Go.ChangeShapes Go.WideShapes Go.ChangeAt Go.Deep
theorem lO{P:Program}{t:TypeId}{α β:Type}{sz:Nat}{en:α->List AV}{ok:α->Prop}(h:RdA P t α sz en ok)(f:α->β)(en2:β->List AV)(ok2:β->Prop)(hsh:∀b,(en2 b).length=sz/\∀x∈en2 b,x.cell=true)(he:∀a,ok a->en2 (f a)=en a)(hk:∀a,ok a->ok2 (f a)):RdA P t β sz en2 ok2:=
 ⟨h.cells,hsh,fun H enc W fuel cs x hx=>by
  obtain⟨a,h1,h2,h3⟩:=h.read H enc W fuel cs x hx;exact⟨f a,hk a h1,h2,by rw[he a h1];exact h3⟩⟩
def BT (s:List Nat):Prop:=s.length<=maxLen/\∀c∈s,c<256
theorem aBm(b:ByteArray):cB (b.data.toList.map UInt8.toNat)=b:=by
 cases b with
 |mk d=>
  unfold cB
  congr 1
  rw[List.map_map,show UInt8.ofNat ∘ UInt8.toNat=id from funext fun u=>UInt8.ofNat_toNat,List.map_id]
theorem RL:RdA prog 9 (List Nat) 1 (fun s=>[.str (cB s)]) BT:=
 lO (aGv (t:=9) rfl) (fun b:ByteArray=>b.data.toList.map UInt8.toNat) _ _ (fun b=>⟨rfl,by simp[AV.cell]⟩) (fun b _=>by rw[aBm]) (fun b hb=>⟨by rw[Az,Array.length_toList];exact hb,fun c hc=>by
  obtain⟨u,-,rfl⟩:=Bm.1 hc;exact u.toNat_lt⟩)
theorem aIp:RdA prog 36 (List Nat) 1 (fun l=>[.ro 1 (l.map aG) .any]) BT:=
 lO aGy (fun l:List Int=>l.map Int.toNat) _ _ (fun b=>⟨rfl,by simp[AV.cell]⟩) (fun l hl=>by rw[MX fun a ha=>aI0 (hl.2 a ha)]) (fun l hl=>⟨C8 hl.1,fun c hc=>by
  obtain⟨a,ha,rfl⟩:=Bm.1 hc;have:=aI0 (hl.2 a ha);omega⟩)
theorem aJw:RdA prog 4 Bool 1 (fun b=>[.bool b]) (fun _=>True):=aDF (t:=4) rfl
abbrev pW (l:List Int):Prop:=l.length<=maxLen/\∀a∈l,pY a
abbrev aFz (l:List Ins):Prop:=l.length<=maxLen/\∀x∈l,x.Wf
theorem aCE:RdA prog 71 (Int×Int) 2 (fun p:Int×Int=>(fun n:Int=>[.int .i64 n]) p.1++(fun n:Int=>[.int .i64 n]) p.2) (fun p:Int×Int=>pY p.1/\pY p.2):=by
 refine iH ?_;refine eR (f:=⟨_,_,_,_,_,_,_⟩) (sz':=1) (en:=(fun n:Int=>[.int .i64 n])) (ok:=pY) (en':=(fun n:Int=>[.int .i64 n])) (ok':=pY) FP rfl ?_;exact oD PQ rfl
theorem aIq:RdA prog 71 (Int×Int) 2 (fun p:Int×Int=>[.int .i64 p.1,.int .i64 p.2]) (fun p:Int×Int=>pY p.1/\pY p.2):=aCE
def FT.R (x:FT):Prop:=pW x.pr/\pW x.rs
def Im.R (x:Im):Prop:=BT x.mod/\BT x.nm/\pY x.ty
def Gl.R (x:Gl):Prop:=pY x.kd/\pY x.n
def Ex.R (x:Ex):Prop:=BT x.nm/\pY x.fn
def El.R (x:El):Prop:=pY x.off/\pW x.fs
def Co.R (x:Co):Prop:=pW x.ls/\aFz x.bd
def Da.R (x:Da):Prop:=pY x.off/\BT x.bs
def Li.R (x:Li):Prop:=pY x.mn/\pY x.mx
theorem aIr:RdA prog 50 ((List Int)×(List Int)) 2 (fun p:(List Int)×(List Int)=>(fun l:List Int=>[.ro 1 (l.map aK) .any]) p.1++(fun l:List Int=>[.ro 1 (l.map aK) .any]) p.2) (fun p:(List Int)×(List Int)=>pW p.1/\pW p.2):=by
 refine iH ?_;refine eR (f:=⟨_,_,_,_,_,_,_⟩) (sz':=1) (en:=(fun l:List Int=>[.ro 1 (l.map aK) .any])) (ok:=pW) (en':=(fun l:List Int=>[.ro 1 (l.map aK) .any])) (ok':=pW) tZ rfl ?_;exact oD tZ rfl
theorem aLG:RdA prog 50 FT 2 cD FT.R:=by
 refine lO aIr (fun p:(List Int)×(List Int)=>⟨p.1,p.2⟩) _ _ (fun b=>⟨rfl,by simp[cD,AV.cell]⟩) (fun a _=>rfl) (fun p hp=> ?_);exact⟨hp.1,hp.2⟩
theorem aIs:RdA prog 64 ((List Nat)×(List Nat)×Int) 3 (fun p:(List Nat)×(List Nat)×Int=>(fun s:List Nat=>[.str (cB s)]) p.1++(fun p:(List Nat)×Int=>(fun s:List Nat=>[.str (cB s)]) p.1++(fun n:Int=>[.int .i64 n]) p.2) p.2) (fun p:(List Nat)×(List Nat)×Int=>BT p.1/\(fun p:(List Nat)×Int=>BT p.1/\pY p.2) p.2):=by
 refine iH ?_;refine eR (f:=⟨_,_,_,_,_,_,_⟩) (sz':=2) (en:=(fun s:List Nat=>[.str (cB s)])) (ok:=BT) (en':=(fun p:(List Nat)×Int=>(fun s:List Nat=>[.str (cB s)]) p.1++(fun n:Int=>[.int .i64 n]) p.2)) (ok':=(fun p:(List Nat)×Int=>BT p.1/\pY p.2)) RL rfl ?_;refine eR (f:=⟨_,_,_,_,_,_,_⟩) (sz':=1) (en:=(fun s:List Nat=>[.str (cB s)])) (ok:=BT) (en':=(fun n:Int=>[.int .i64 n])) (ok':=pY) RL rfl ?_;exact oD FP rfl
theorem aLH:RdA prog 64 Im 3 eE Im.R:=by
 refine lO aIs (fun p:(List Nat)×(List Nat)×Int=>⟨p.1,p.2.1,p.2.2⟩) _ _ (fun b=>⟨rfl,by simp[eE,AV.cell]⟩) (fun a _=>rfl) (fun p hp=> ?_);exact⟨hp.1,hp.2.1,hp.2.2⟩
theorem aIt:RdA prog 73 (Bool×(Int×Int)) 3 (fun p:Bool×(Int×Int)=>(fun b:Bool=>[.bool b]) p.1++(fun p:Int×Int=>[.int .i64 p.1,.int .i64 p.2]) p.2) (fun p:Bool×(Int×Int)=>(fun _=>True) p.1/\(fun p:Int×Int=>pY p.1/\pY p.2) p.2):=by
 refine iH ?_;refine eR (f:=⟨_,_,_,_,_,_,_⟩) (sz':=2) (en:=(fun b:Bool=>[.bool b])) (ok:=(fun _=>True)) (en':=(fun p:Int×Int=>[.int .i64 p.1,.int .i64 p.2])) (ok':=(fun p:Int×Int=>pY p.1/\pY p.2)) aJw rfl ?_;exact oD aIq rfl
theorem aLI:RdA prog 73 Gl 3 dX Gl.R:=by
 refine lO aIt (fun p:Bool×(Int×Int)=>⟨p.1,(p.2).1,(p.2).2⟩) _ _ (fun b=>⟨rfl,by simp[dX,AV.cell]⟩) (fun a _=>rfl) (fun p hp=> ?_);exact⟨hp.2.1,hp.2.2⟩
theorem aIu:RdA prog 66 ((List Nat)×Int) 2 (fun p:(List Nat)×Int=>(fun s:List Nat=>[.str (cB s)]) p.1++(fun n:Int=>[.int .i64 n]) p.2) (fun p:(List Nat)×Int=>BT p.1/\pY p.2):=by
 refine iH ?_;refine eR (f:=⟨_,_,_,_,_,_,_⟩) (sz':=1) (en:=(fun s:List Nat=>[.str (cB s)])) (ok:=BT) (en':=(fun n:Int=>[.int .i64 n])) (ok':=pY) RL rfl ?_;exact oD FP rfl
theorem aLJ:RdA prog 66 Ex 2 dD Ex.R:=by
 refine lO aIu (fun p:(List Nat)×Int=>⟨p.1,p.2⟩) _ _ (fun b=>⟨rfl,by simp[dD,AV.cell]⟩) (fun a _=>rfl) (fun p hp=> ?_);exact⟨hp.1,hp.2⟩
theorem aIv:RdA prog 69 (Int×(List Int)) 2 (fun p:Int×(List Int)=>(fun n:Int=>[.int .i64 n]) p.1++(fun l:List Int=>[.ro 1 (l.map aK) .any]) p.2) (fun p:Int×(List Int)=>pY p.1/\pW p.2):=by
 refine iH ?_;refine eR (f:=⟨_,_,_,_,_,_,_⟩) (sz':=1) (en:=(fun n:Int=>[.int .i64 n])) (ok:=pY) (en':=(fun l:List Int=>[.ro 1 (l.map aK) .any])) (ok':=pW) FP rfl ?_;exact oD tZ rfl
theorem aLK:RdA prog 69 El 2 dP El.R:=by
 refine lO aIv (fun p:Int×(List Int)=>⟨p.1,p.2⟩) _ _ (fun b=>⟨rfl,by simp[dP,AV.cell]⟩) (fun a _=>rfl) (fun p hp=> ?_);exact⟨hp.1,hp.2⟩
theorem aIw:RdA prog 44 ((List Int)×(List Ins)) 2 (fun p:(List Int)×(List Ins)=>(fun l:List Int=>[.ro 1 (l.map aK) .any]) p.1++(fun l:List Ins=>[.ro 4 (l.map (iv .any)) .any]) p.2) (fun p:(List Int)×(List Ins)=>pW p.1/\aFz p.2):=by
 refine iH ?_;refine eR (f:=⟨_,_,_,_,_,_,_⟩) (sz':=1) (en:=(fun l:List Int=>[.ro 1 (l.map aK) .any])) (ok:=pW) (en':=(fun l:List Ins=>[.ro 4 (l.map (iv .any)) .any])) (ok':=aFz) tZ rfl ?_;exact oD aDH rfl
theorem aLL:RdA prog 44 Co 2 cQ Co.R:=by
 refine lO aIw (fun p:(List Int)×(List Ins)=>⟨p.1,p.2⟩) _ _ (fun b=>⟨rfl,by simp[cQ,AV.cell]⟩) (fun a _=>rfl) (fun p hp=> ?_);exact⟨hp.1,hp.2⟩
theorem aIx:RdA prog 48 (Int×(List Nat)) 2 (fun p:Int×(List Nat)=>(fun n:Int=>[.int .i64 n]) p.1++(fun l:List Nat=>[.ro 1 (l.map aG) .any]) p.2) (fun p:Int×(List Nat)=>pY p.1/\BT p.2):=by
 refine iH ?_;refine eR (f:=⟨_,_,_,_,_,_,_⟩) (sz':=1) (en:=(fun n:Int=>[.int .i64 n])) (ok:=pY) (en':=(fun l:List Nat=>[.ro 1 (l.map aG) .any])) (ok':=BT) FP rfl ?_;exact oD aIp rfl
theorem aLM:RdA prog 48 Da 2 dV Da.R:=by
 refine lO aIx (fun p:Int×(List Nat)=>⟨p.1,p.2⟩) _ _ (fun b=>⟨rfl,by simp[dV,AV.cell]⟩) (fun a _=>rfl) (fun p hp=> ?_);exact⟨hp.1,hp.2⟩
theorem aIy:RdA prog 26 (Bool×Int×Int) 3 (fun p:Bool×Int×Int=>(fun b:Bool=>[.bool b]) p.1++(fun p:Int×Int=>(fun n:Int=>[.int .i64 n]) p.1++(fun n:Int=>[.int .i64 n]) p.2) p.2) (fun p:Bool×Int×Int=>(fun _=>True) p.1/\(fun p:Int×Int=>pY p.1/\pY p.2) p.2):=by
 refine iH ?_;refine eR (f:=⟨_,_,_,_,_,_,_⟩) (sz':=2) (en:=(fun b:Bool=>[.bool b])) (ok:=(fun _=>True)) (en':=(fun p:Int×Int=>(fun n:Int=>[.int .i64 n]) p.1++(fun n:Int=>[.int .i64 n]) p.2)) (ok':=(fun p:Int×Int=>pY p.1/\pY p.2)) aJw rfl ?_;refine eR (f:=⟨_,_,_,_,_,_,_⟩) (sz':=1) (en:=(fun n:Int=>[.int .i64 n])) (ok:=pY) (en':=(fun n:Int=>[.int .i64 n])) (ok':=pY) FP rfl ?_;exact oD FP rfl
theorem aFA:RdA prog 26 Li 3 eO Li.R:=by
 refine lO aIy (fun p:Bool×Int×Int=>⟨p.1,p.2.1,p.2.2⟩) _ _ (fun b=>⟨rfl,by simp[eO,AV.cell]⟩) (fun a _=>rfl) (fun p hp=> ?_);exact⟨hp.2.1,hp.2.2⟩
abbrev aIz (l:List FT):Prop:=l.length<=maxLen/\∀x∈l,x.R
theorem aIA:RdA prog 22 (List FT) 1 (fun l=>[.ro 2 (l.map cD) .any]) aIz:=kR rfl V aLG
abbrev aFB (l:List Im):Prop:=l.length<=maxLen/\∀x∈l,x.R
theorem aIB:RdA prog 23 (List Im) 1 (fun l=>[.ro 3 (l.map eE) .any]) aFB:=kR rfl V aLH
abbrev RM (l:List Gl):Prop:=l.length<=maxLen/\∀x∈l,x.R
theorem aIC:RdA prog 27 (List Gl) 1 (fun l=>[.ro 3 (l.map dX) .any]) RM:=kR rfl V aLI
abbrev LW (l:List Ex):Prop:=l.length<=maxLen/\∀x∈l,x.R
theorem aID:RdA prog 28 (List Ex) 1 (fun l=>[.ro 2 (l.map dD) .any]) LW:=kR rfl V aLJ
abbrev KR (l:List El):Prop:=l.length<=maxLen/\∀x∈l,x.R
theorem aIE:RdA prog 29 (List El) 1 (fun l=>[.ro 2 (l.map dP) .any]) KR:=kR rfl V aLK
abbrev GV (l:List Co):Prop:=l.length<=maxLen/\∀x∈l,x.R
theorem aIF:RdA prog 30 (List Co) 1 (fun l=>[.ro 2 (l.map cQ) .any]) GV:=kR rfl V aLL
abbrev GW (l:List Da):Prop:=l.length<=maxLen/\∀x∈l,x.R
theorem aIG:RdA prog 31 (List Da) 1 (fun l=>[.ro 2 (l.map dV) .any]) GW:=kR rfl V aLM
def Md.R (m:Md):Prop:=aIz m.ty/\aFB m.im/\pW m.fn/\m.tb.R/\m.me.R/\RM m.gl/\LW m.ex/\KR m.el/\GV m.co/\GW m.da
theorem aIH:RdA prog 33 ((List FT)×(List Im)×(List Int)×Li×Li×(List Gl)×(List Ex)×(List El)×(List Co)×(List Da)) 14 (fun p:(List FT)×(List Im)×(List Int)×Li×Li×(List Gl)×(List Ex)×(List El)×(List Co)×(List Da)=>(fun l:List FT=>[.ro 2 (l.map cD) .any]) p.1++(fun p:(List Im)×(List Int)×Li×Li×(List Gl)×(List Ex)×(List El)×(List Co)×(List Da)=>(fun l:List Im=>[.ro 3 (l.map eE) .any]) p.1++(fun p:(List Int)×Li×Li×(List Gl)×(List Ex)×(List El)×(List Co)×(List Da)=>(fun l:List Int=>[.ro 1 (l.map aK) .any]) p.1++(fun p:Li×Li×(List Gl)×(List Ex)×(List El)×(List Co)×(List Da)=>eO p.1++(fun p:Li×(List Gl)×(List Ex)×(List El)×(List Co)×(List Da)=>eO p.1++(fun p:(List Gl)×(List Ex)×(List El)×(List Co)×(List Da)=>(fun l:List Gl=>[.ro 3 (l.map dX) .any]) p.1++(fun p:(List Ex)×(List El)×(List Co)×(List Da)=>(fun l:List Ex=>[.ro 2 (l.map dD) .any]) p.1++(fun p:(List El)×(List Co)×(List Da)=>(fun l:List El=>[.ro 2 (l.map dP) .any]) p.1++(fun p:(List Co)×(List Da)=>(fun l:List Co=>[.ro 2 (l.map cQ) .any]) p.1++(fun l:List Da=>[.ro 2 (l.map dV) .any]) p.2) p.2) p.2) p.2) p.2) p.2) p.2) p.2) p.2) (fun p:(List FT)×(List Im)×(List Int)×Li×Li×(List Gl)×(List Ex)×(List El)×(List Co)×(List Da)=>aIz p.1/\(fun p:(List Im)×(List Int)×Li×Li×(List Gl)×(List Ex)×(List El)×(List Co)×(List Da)=>aFB p.1/\(fun p:(List Int)×Li×Li×(List Gl)×(List Ex)×(List El)×(List Co)×(List Da)=>pW p.1/\(fun p:Li×Li×(List Gl)×(List Ex)×(List El)×(List Co)×(List Da)=>Li.R p.1/\(fun p:Li×(List Gl)×(List Ex)×(List El)×(List Co)×(List Da)=>Li.R p.1/\(fun p:(List Gl)×(List Ex)×(List El)×(List Co)×(List Da)=>RM p.1/\(fun p:(List Ex)×(List El)×(List Co)×(List Da)=>LW p.1/\(fun p:(List El)×(List Co)×(List Da)=>KR p.1/\(fun p:(List Co)×(List Da)=>GV p.1/\GW p.2) p.2) p.2) p.2) p.2) p.2) p.2) p.2) p.2):=by
 refine iH ?_;refine eR (f:=⟨_,_,_,_,_,_,_⟩) (sz':=13) (en:=(fun l:List FT=>[.ro 2 (l.map cD) .any])) (ok:=aIz) (en':=(fun p:(List Im)×(List Int)×Li×Li×(List Gl)×(List Ex)×(List El)×(List Co)×(List Da)=>(fun l:List Im=>[.ro 3 (l.map eE) .any]) p.1++(fun p:(List Int)×Li×Li×(List Gl)×(List Ex)×(List El)×(List Co)×(List Da)=>(fun l:List Int=>[.ro 1 (l.map aK) .any]) p.1++(fun p:Li×Li×(List Gl)×(List Ex)×(List El)×(List Co)×(List Da)=>eO p.1++(fun p:Li×(List Gl)×(List Ex)×(List El)×(List Co)×(List Da)=>eO p.1++(fun p:(List Gl)×(List Ex)×(List El)×(List Co)×(List Da)=>(fun l:List Gl=>[.ro 3 (l.map dX) .any]) p.1++(fun p:(List Ex)×(List El)×(List Co)×(List Da)=>(fun l:List Ex=>[.ro 2 (l.map dD) .any]) p.1++(fun p:(List El)×(List Co)×(List Da)=>(fun l:List El=>[.ro 2 (l.map dP) .any]) p.1++(fun p:(List Co)×(List Da)=>(fun l:List Co=>[.ro 2 (l.map cQ) .any]) p.1++(fun l:List Da=>[.ro 2 (l.map dV) .any]) p.2) p.2) p.2) p.2) p.2) p.2) p.2) p.2)) (ok':=(fun p:(List Im)×(List Int)×Li×Li×(List Gl)×(List Ex)×(List El)×(List Co)×(List Da)=>aFB p.1/\(fun p:(List Int)×Li×Li×(List Gl)×(List Ex)×(List El)×(List Co)×(List Da)=>pW p.1/\(fun p:Li×Li×(List Gl)×(List Ex)×(List El)×(List Co)×(List Da)=>Li.R p.1/\(fun p:Li×(List Gl)×(List Ex)×(List El)×(List Co)×(List Da)=>Li.R p.1/\(fun p:(List Gl)×(List Ex)×(List El)×(List Co)×(List Da)=>RM p.1/\(fun p:(List Ex)×(List El)×(List Co)×(List Da)=>LW p.1/\(fun p:(List El)×(List Co)×(List Da)=>KR p.1/\(fun p:(List Co)×(List Da)=>GV p.1/\GW p.2) p.2) p.2) p.2) p.2) p.2) p.2) p.2)) aIA rfl ?_
 refine eR (f:=⟨_,_,_,_,_,_,_⟩) (sz':=12) (en:=(fun l:List Im=>[.ro 3 (l.map eE) .any])) (ok:=aFB) (en':=(fun p:(List Int)×Li×Li×(List Gl)×(List Ex)×(List El)×(List Co)×(List Da)=>(fun l:List Int=>[.ro 1 (l.map aK) .any]) p.1++(fun p:Li×Li×(List Gl)×(List Ex)×(List El)×(List Co)×(List Da)=>eO p.1++(fun p:Li×(List Gl)×(List Ex)×(List El)×(List Co)×(List Da)=>eO p.1++(fun p:(List Gl)×(List Ex)×(List El)×(List Co)×(List Da)=>(fun l:List Gl=>[.ro 3 (l.map dX) .any]) p.1++(fun p:(List Ex)×(List El)×(List Co)×(List Da)=>(fun l:List Ex=>[.ro 2 (l.map dD) .any]) p.1++(fun p:(List El)×(List Co)×(List Da)=>(fun l:List El=>[.ro 2 (l.map dP) .any]) p.1++(fun p:(List Co)×(List Da)=>(fun l:List Co=>[.ro 2 (l.map cQ) .any]) p.1++(fun l:List Da=>[.ro 2 (l.map dV) .any]) p.2) p.2) p.2) p.2) p.2) p.2) p.2)) (ok':=(fun p:(List Int)×Li×Li×(List Gl)×(List Ex)×(List El)×(List Co)×(List Da)=>pW p.1/\(fun p:Li×Li×(List Gl)×(List Ex)×(List El)×(List Co)×(List Da)=>Li.R p.1/\(fun p:Li×(List Gl)×(List Ex)×(List El)×(List Co)×(List Da)=>Li.R p.1/\(fun p:(List Gl)×(List Ex)×(List El)×(List Co)×(List Da)=>RM p.1/\(fun p:(List Ex)×(List El)×(List Co)×(List Da)=>LW p.1/\(fun p:(List El)×(List Co)×(List Da)=>KR p.1/\(fun p:(List Co)×(List Da)=>GV p.1/\GW p.2) p.2) p.2) p.2) p.2) p.2) p.2)) aIB rfl ?_
 refine eR (f:=⟨_,_,_,_,_,_,_⟩) (sz':=11) (en:=(fun l:List Int=>[.ro 1 (l.map aK) .any])) (ok:=pW) (en':=(fun p:Li×Li×(List Gl)×(List Ex)×(List El)×(List Co)×(List Da)=>eO p.1++(fun p:Li×(List Gl)×(List Ex)×(List El)×(List Co)×(List Da)=>eO p.1++(fun p:(List Gl)×(List Ex)×(List El)×(List Co)×(List Da)=>(fun l:List Gl=>[.ro 3 (l.map dX) .any]) p.1++(fun p:(List Ex)×(List El)×(List Co)×(List Da)=>(fun l:List Ex=>[.ro 2 (l.map dD) .any]) p.1++(fun p:(List El)×(List Co)×(List Da)=>(fun l:List El=>[.ro 2 (l.map dP) .any]) p.1++(fun p:(List Co)×(List Da)=>(fun l:List Co=>[.ro 2 (l.map cQ) .any]) p.1++(fun l:List Da=>[.ro 2 (l.map dV) .any]) p.2) p.2) p.2) p.2) p.2) p.2)) (ok':=(fun p:Li×Li×(List Gl)×(List Ex)×(List El)×(List Co)×(List Da)=>Li.R p.1/\(fun p:Li×(List Gl)×(List Ex)×(List El)×(List Co)×(List Da)=>Li.R p.1/\(fun p:(List Gl)×(List Ex)×(List El)×(List Co)×(List Da)=>RM p.1/\(fun p:(List Ex)×(List El)×(List Co)×(List Da)=>LW p.1/\(fun p:(List El)×(List Co)×(List Da)=>KR p.1/\(fun p:(List Co)×(List Da)=>GV p.1/\GW p.2) p.2) p.2) p.2) p.2) p.2)) tZ rfl ?_;refine eR (f:=⟨_,_,_,_,_,_,_⟩) (sz':=8) (en:=eO) (ok:=Li.R) (en':=(fun p:Li×(List Gl)×(List Ex)×(List El)×(List Co)×(List Da)=>eO p.1++(fun p:(List Gl)×(List Ex)×(List El)×(List Co)×(List Da)=>(fun l:List Gl=>[.ro 3 (l.map dX) .any]) p.1++(fun p:(List Ex)×(List El)×(List Co)×(List Da)=>(fun l:List Ex=>[.ro 2 (l.map dD) .any]) p.1++(fun p:(List El)×(List Co)×(List Da)=>(fun l:List El=>[.ro 2 (l.map dP) .any]) p.1++(fun p:(List Co)×(List Da)=>(fun l:List Co=>[.ro 2 (l.map cQ) .any]) p.1++(fun l:List Da=>[.ro 2 (l.map dV) .any]) p.2) p.2) p.2) p.2) p.2)) (ok':=(fun p:Li×(List Gl)×(List Ex)×(List El)×(List Co)×(List Da)=>Li.R p.1/\(fun p:(List Gl)×(List Ex)×(List El)×(List Co)×(List Da)=>RM p.1/\(fun p:(List Ex)×(List El)×(List Co)×(List Da)=>LW p.1/\(fun p:(List El)×(List Co)×(List Da)=>KR p.1/\(fun p:(List Co)×(List Da)=>GV p.1/\GW p.2) p.2) p.2) p.2) p.2)) aFA rfl ?_
 refine eR (f:=⟨_,_,_,_,_,_,_⟩) (sz':=5) (en:=eO) (ok:=Li.R) (en':=(fun p:(List Gl)×(List Ex)×(List El)×(List Co)×(List Da)=>(fun l:List Gl=>[.ro 3 (l.map dX) .any]) p.1++(fun p:(List Ex)×(List El)×(List Co)×(List Da)=>(fun l:List Ex=>[.ro 2 (l.map dD) .any]) p.1++(fun p:(List El)×(List Co)×(List Da)=>(fun l:List El=>[.ro 2 (l.map dP) .any]) p.1++(fun p:(List Co)×(List Da)=>(fun l:List Co=>[.ro 2 (l.map cQ) .any]) p.1++(fun l:List Da=>[.ro 2 (l.map dV) .any]) p.2) p.2) p.2) p.2)) (ok':=(fun p:(List Gl)×(List Ex)×(List El)×(List Co)×(List Da)=>RM p.1/\(fun p:(List Ex)×(List El)×(List Co)×(List Da)=>LW p.1/\(fun p:(List El)×(List Co)×(List Da)=>KR p.1/\(fun p:(List Co)×(List Da)=>GV p.1/\GW p.2) p.2) p.2) p.2)) aFA rfl ?_;refine eR (f:=⟨_,_,_,_,_,_,_⟩) (sz':=4) (en:=(fun l:List Gl=>[.ro 3 (l.map dX) .any])) (ok:=RM) (en':=(fun p:(List Ex)×(List El)×(List Co)×(List Da)=>(fun l:List Ex=>[.ro 2 (l.map dD) .any]) p.1++(fun p:(List El)×(List Co)×(List Da)=>(fun l:List El=>[.ro 2 (l.map dP) .any]) p.1++(fun p:(List Co)×(List Da)=>(fun l:List Co=>[.ro 2 (l.map cQ) .any]) p.1++(fun l:List Da=>[.ro 2 (l.map dV) .any]) p.2) p.2) p.2)) (ok':=(fun p:(List Ex)×(List El)×(List Co)×(List Da)=>LW p.1/\(fun p:(List El)×(List Co)×(List Da)=>KR p.1/\(fun p:(List Co)×(List Da)=>GV p.1/\GW p.2) p.2) p.2)) aIC rfl ?_
 refine eR (f:=⟨_,_,_,_,_,_,_⟩) (sz':=3) (en:=(fun l:List Ex=>[.ro 2 (l.map dD) .any])) (ok:=LW) (en':=(fun p:(List El)×(List Co)×(List Da)=>(fun l:List El=>[.ro 2 (l.map dP) .any]) p.1++(fun p:(List Co)×(List Da)=>(fun l:List Co=>[.ro 2 (l.map cQ) .any]) p.1++(fun l:List Da=>[.ro 2 (l.map dV) .any]) p.2) p.2)) (ok':=(fun p:(List El)×(List Co)×(List Da)=>KR p.1/\(fun p:(List Co)×(List Da)=>GV p.1/\GW p.2) p.2)) aID rfl ?_;refine eR (f:=⟨_,_,_,_,_,_,_⟩) (sz':=2) (en:=(fun l:List El=>[.ro 2 (l.map dP) .any])) (ok:=KR) (en':=(fun p:(List Co)×(List Da)=>(fun l:List Co=>[.ro 2 (l.map cQ) .any]) p.1++(fun l:List Da=>[.ro 2 (l.map dV) .any]) p.2)) (ok':=(fun p:(List Co)×(List Da)=>GV p.1/\GW p.2)) aIE rfl ?_;refine eR (f:=⟨_,_,_,_,_,_,_⟩) (sz':=1) (en:=(fun l:List Co=>[.ro 2 (l.map cQ) .any])) (ok:=GV) (en':=(fun l:List Da=>[.ro 2 (l.map dV) .any])) (ok':=GW) aIF rfl ?_;exact oD aIG rfl
theorem aLN:RdA prog 33 Md 14 aM Md.R:=by
 refine lO aIH (fun p:(List FT)×(List Im)×(List Int)×Li×Li×(List Gl)×(List Ex)×(List El)×(List Co)×(List Da)=>⟨p.1,p.2.1,p.2.2.1,p.2.2.2.1,p.2.2.2.2.1,p.2.2.2.2.2.1,p.2.2.2.2.2.2.1,p.2.2.2.2.2.2.2.1,p.2.2.2.2.2.2.2.2.1,p.2.2.2.2.2.2.2.2.2⟩) _ _ (fun b=>⟨rfl,by simp[aM,AV.cell]⟩) (fun a _=>rfl) (fun p hp=> ?_);exact⟨hp.1,hp.2.1,hp.2.2.1,hp.2.2.2.1,hp.2.2.2.2.1,hp.2.2.2.2.2.1,hp.2.2.2.2.2.2.1,hp.2.2.2.2.2.2.2.1,hp.2.2.2.2.2.2.2.2.1,hp.2.2.2.2.2.2.2.2.2⟩
theorem Md.R.a {m:Md}(h:m.R):m.A:=by
 obtain⟨h1,h2,h3,-,-,h4,h5,h6,h7,h8⟩:=h;exact⟨⟨h1.1,fun x hx=>⟨(h1.2 x hx).1.1,(h1.2 x hx).2.1⟩⟩,⟨h2.1,fun x hx=>⟨(h2.2 x hx).1.1,(h2.2 x hx).2.1.1⟩⟩,h3.1,h4.1,⟨h5.1,fun x hx=>(h5.2 x hx).1.1⟩,⟨h6.1,fun x hx=>(h6.2 x hx).2.1⟩,
  ⟨h7.1,fun x hx=>⟨(h7.2 x hx).1.1,(h7.2 x hx).2.1,fun i hi=>((h7.2 x hx).2.2 i hi).2.2.2.1⟩⟩,⟨h8.1,fun x hx=>(h8.2 x hx).2.1⟩⟩
theorem pI{α:Type}{f:α->α}{l:List α}{n:Nat}{x:α}(h:x∈eX f l n):∃y∈l,x=f y:=by
 obtain⟨y,hy,rfl⟩:=Bm.1 h;exact⟨y,Bf hy,rfl⟩
theorem aFC{α:Type}(f:α->α)(l:List α)(n:Nat):(eX f l n).length<=n:=by unfold eX;simp;omega
theorem aLO{m:Md}(h:m.R):(aHH m).WO:=by
 obtain⟨h1,h2,h3,-,-,h4,h5,h6,h7,h8⟩:=h;refine⟨⟨fun x hx=> ?_,fun x hx=> ?_,fun x hx=> ?_, ?_,fun x hx=> ?_⟩,fun x hx=> ?_,fun x hx=> ?_⟩
 ·obtain⟨y,hy,rfl⟩:=pI hx;have:=h2.2 y hy;exact⟨⟨by simp[vI];omega,fun c hc=>this.1.2 c (Bf hc)⟩,by simp[vI];omega,fun c hc=>this.2.1.2 c (Bf hc)⟩
 ·obtain⟨y,hy,rfl⟩:=pI hx;have:=h5.2 y hy;exact⟨by simp[DJ];omega,fun c hc=>this.1.2 c (Bf hc)⟩
 ·obtain⟨y,hy,rfl⟩:=pI hx;simp[EY,qL];omega
 ·have:=aFC vI m.im 18;show(eX vI m.im 18).length<= _;omega
 ·obtain⟨y,hy,rfl⟩:=pI hx;exact fun c hc=>(h8.2 y hy).2.2 c (Bf hc)
 ·obtain⟨y,hy,rfl⟩:=pI hx;intro i hi;obtain⟨z,hz,rfl⟩:=Bm.1 hi;obtain⟨p1,p2,p3,p4,p5⟩:=(h7.2 y hy).2.2 z (Bf hz);exact⟨p1.1,p1.2,p2.1,p2.2,by simp[XZ];omega⟩
 ·obtain⟨y,hy,he⟩:=pI hx;rw[he];exact EL (h4.2 y hy).2
theorem aNX{m:Md}:(aHH m).Z:=by
 have hl:∀ {α:Type} (f:α->α) (l:List α),(eX f l 18).length<=1000000:=fun f l=>A4 (aFC f l 18) V
 refine⟨⟨hl _ _,fun x hx=> ?_⟩,hl _ _,by show(m.fn.take 18).length<= _;simp;omega,hl _ _,hl _ _,⟨hl _ _,fun x hx=> ?_⟩,⟨hl _ _,fun x hx=> ?_⟩,⟨hl _ _,fun x hx=> ?_⟩⟩
 ·obtain⟨y,hy,rfl⟩:=pI hx;simp[yR];omega
 ·obtain⟨y,hy,rfl⟩:=pI hx;simp[EX];omega
 ·obtain⟨y,hy,rfl⟩:=pI hx;simp[EY];omega
 ·obtain⟨y,hy,rfl⟩:=pI hx;simp[JT];omega
end Go.Proofs.YtjpdadobblffmaaGreat
