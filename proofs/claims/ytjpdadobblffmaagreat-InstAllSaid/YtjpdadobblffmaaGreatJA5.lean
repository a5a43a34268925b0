import Derived.Test.YtjpdadobblffmaaGreatJA4
import Derived.Test.YtjpdadobblffmaaGreatJA3
set_option linter.unusedSimpArgs false
set_option linter.unusedVariables false
set_option maxRecDepth 100000
set_option maxHeartbeats 4000000
open And renaming intro->Bl
open Bool renaming and_eq_true->Ap,eq_iff_iff->B1,false_eq_true->Ag
open Int renaming toNat_natCast->Bc
open List renaming append_assoc->Aq,append_nil->Be,cons_append->As,drop_zero->Bu,flatMap_append->Bo,getD_eq_getElem?_getD->Ax,getElem?_append_left->Ba,getElem?_eq_getElem->Ar,getElem?_eq_some_iff->Ai,getElem?_map->Bg,length_append->Ao,length_cons->Bj,length_map->Az,length_take->Bi,map_append->Bx,map_cons->Bn,mem_append->A8,mem_cons->Av,mem_cons_of_mem->An,mem_cons_self->Au,mem_of_getElem?->Ah,mem_of_mem_take->Bf,mem_singleton->A1,replicate->Ak,take_add_one->Al,take_length->Aw
open Nat renaming le_of_ble_eq_true->Bt,le_refl->A3,le_trans->A4,lt_or_ge->Br,mul_le_mul_right->Bq,zero_le->Am
open Go.Proofs.Tryz
namespace Go.Proofs.YtjpdadobblffmaaGreat
open Go.RowKit Go.ChangeShapes Go.WideShapes Go.ChangeAt Go.Deep
attribute [local irreducible] SW RS RD fE eA
theorem yL(s:St):(gW s).1<4294967296:=by
 have:=(CJ s.1).1;unfold gW;dsimp only;split<;>omega
structure Gets (P:Program) (f:FuncId) (us vs:List AV) (Y:St->dI) {α:Type} (ar:α->AV) (get:St->α×St):Prop where
 call:∀args w,(callFunc f args).run P w=.ok (.enter f args) w
 st:Kp get
 run:∀s,SOk s->SCall P f (us++ []++vs) (Y s) (fun y Y'=>y=ar (get s).1/\Y'=Y (get s).2)
theorem DE{f:FuncId}{us vs:List AV}{r:Nat}{get:St->Int×St}(hg:Gets prog f us vs (fun s=>[(r,.box 117 (dF s))]) (fun n=>.int .i64 n) get)(s:St)(hs:SOk s):SCall prog 171 [.ptr r 0,.fn (.func f) us vs] [(r,.box 117 (dF s))]
  (fun x Y=>∃q,Fresh q [(r,.box 117 (dF s))]/\x=.own q 0 (gF get s).1.length/\Y=[(q,.arr 3 1 ((gF get s).1.map aK)),(r,.box 117 (dF (gF get s).2))]):=by
 have h1:=kE r s hs;have k1:=iV s hs;have kb:=yL s;have hR:gF get s=kS get (gW s).1 (gW s).2:=rfl;generalize gW s=p at h1 k1 kb hR;obtain⟨n,s1⟩:=p;dsimp only at h1 k1 kb hR;refine bO 26 [0,1,4,5,6,17] func171 ?_;refine oB ?_;refine bQ 5 3 1 V rfl V (bD fun q0 hq0=> ?_);repeat rcases hq0 with⟨_,hq0⟩
 refine fO ?_;refine cw [(r,.box 117 (dF s))] call68 h1 rfl aC aA ?_;rintro _ Y' ⟨rfl,rfl⟩ h8;refine fF ?_;refine lp (β:=Nat×Nat×St×List Int) (fun b=>⟨[(0,.ptr r 0),(1,.fn (.func f) us vs),(5,.own b.1 0 b.2.2.2.length),(6,.int .i64 (b.2.1:Nat))],[(b.1,.arr 3 1 (b.2.2.2.map aK)),(r,.box 117 (dF b.2.2.1))]⟩) (fun b=>Fresh b.1 [(r,.box 117 (dF s))]/\SOk b.2.2.1/\b.2.1+b.2.2.2.length<=4294967296/\gF get s=(b.2.2.2++(kS get b.2.1 b.2.2.1).1,(kS get b.2.1 b.2.2.1).2)) (fun b=>b.2.1) (q0,n,s1,[]) aH ⟨wP,k1,by show n+0<=4294967296;omega,by rw[hR];rfl⟩ ?_;rintro⟨q1,m,⟨l2,b2⟩,acc⟩ ⟨hq1,hs2,hmb,hL⟩;dsimp only at hq1 hs2 hmb hL⊢;have hq2:=hq1;simp only[aN,aQ,and_true]at hq2;repeat rcases hq2 with⟨_,hq2⟩
 unfold dF;dsimp only;refine dG ?_;refine xU ?_;refine aB rfl ?_ ?_<;>intro g3
 ·obtain rfl:b2=false:=by cases b2 with|false=>rfl|true=>simp at g3
  obtain⟨m,rfl⟩:∃k,m=k+1:=⟨m-1,by simp at g3;omega⟩
  have hrun:=hg.run (l2,false) hs2;have hk:=hg.st (l2,false) hs2;have hl:kS get (m+1) (l2,false)=((get (l2,false)).1::(kS get m (get (l2,false)).2).1,(kS get m (get (l2,false)).2).2):=rfl;rw[hl]at hL;generalize get (l2,false)=p at hrun hk hL;obtain⟨x,s3⟩:=p;dsimp only at hrun hk hL;refine cJ ?_;refine qY [(r,.box 117 (dF (l2,false)))] rfl hg.call hrun rfl aC aA ?_;rintro _ Y' ⟨rfl,rfl⟩ h22;apply aR;exact aU;refine eN fun r23 h23=> ?_;intros;refine kD ((acc++ [x]).map aK) (acc++ [x]).length ?_;refine bG fun r24 h24=> ?_;intros;refine gX ?_;refine tN ?_;rw[show((m+1:Nat):Int)-1=(m:Nat) by omega];refine cN ?_;refine⟨(r24,m,s3,acc++ [x]),⟨wP,hk,by show m+(acc++ [x]).length<=4294967296;simp;omega,by rw[hL];simp⟩,Nat.lt_succ_self _, ?_⟩;dsimp only;exact aH
 have hz:kS get m (l2,b2)=([],(l2,b2)):=by cases m with|zero=>rfl|succ m=>(cases b2 with|true=>rfl|false=>(simp at g3<;>omega))
 have hE:gF get s=(acc,(l2,b2)):=by rw[hL,hz];simp
 refine fC ?_;exact aD aE ⟨q1,hq1,by rw[hE];rfl,by rw[hE]⟩ aA
theorem aGV{f:FuncId}{us vs:List AV}{r:Nat}{get:St->FT×St}(hg:Gets prog f us vs (fun s=>[(r,.box 117 (dF s))]) (fun x=>.agg (cD x)) get)(s:St)(hs:SOk s):SCall prog 167 [.ptr r 0,.fn (.func f) us vs] [(r,.box 117 (dF s))]
  (fun x Y=>∃q,Fresh q [(r,.box 117 (dF s))]/\x=.own q 0 (gF get s).1.length/\Y=[(q,.arr 50 2 ((gF get s).1.map cD)),(r,.box 117 (dF (gF get s).2))]):=by
 have h1:=kE r s hs;have k1:=iV s hs;have kb:=yL s;have hR:gF get s=kS get (gW s).1 (gW s).2:=rfl;generalize gW s=p at h1 k1 kb hR;obtain⟨n,s1⟩:=p;dsimp only at h1 k1 kb hR;refine bO 26 [0,1,4,5,6,17] func167 ?_;refine oB ?_;refine bQ 5 50 2 V rfl V (bD fun q0 hq0=> ?_);repeat rcases hq0 with⟨_,hq0⟩
 refine fO ?_;refine cw [(r,.box 117 (dF s))] call68 h1 rfl aC aA ?_;rintro _ Y' ⟨rfl,rfl⟩ h8;refine fF ?_;refine lp (β:=Nat×Nat×St×List FT) (fun b=>⟨[(0,.ptr r 0),(1,.fn (.func f) us vs),(5,.own b.1 0 b.2.2.2.length),(6,.int .i64 (b.2.1:Nat))],[(b.1,.arr 50 2 (b.2.2.2.map cD)),(r,.box 117 (dF b.2.2.1))]⟩) (fun b=>Fresh b.1 [(r,.box 117 (dF s))]/\SOk b.2.2.1/\b.2.1+b.2.2.2.length<=4294967296/\gF get s=(b.2.2.2++(kS get b.2.1 b.2.2.1).1,(kS get b.2.1 b.2.2.1).2)) (fun b=>b.2.1) (q0,n,s1,[]) aH ⟨wP,k1,by show n+0<=4294967296;omega,by rw[hR];rfl⟩ ?_;rintro⟨q1,m,⟨l2,b2⟩,acc⟩ ⟨hq1,hs2,hmb,hL⟩;dsimp only at hq1 hs2 hmb hL⊢;have hq2:=hq1;simp only[aN,aQ,and_true]at hq2;repeat rcases hq2 with⟨_,hq2⟩
 unfold dF;dsimp only;refine dG ?_;refine xU ?_;refine aB rfl ?_ ?_<;>intro g3
 ·obtain rfl:b2=false:=by cases b2 with|false=>rfl|true=>simp at g3
  obtain⟨m,rfl⟩:∃k,m=k+1:=⟨m-1,by simp at g3;omega⟩
  have hrun:=hg.run (l2,false) hs2;have hk:=hg.st (l2,false) hs2;have hl:kS get (m+1) (l2,false)=((get (l2,false)).1::(kS get m (get (l2,false)).2).1,(kS get m (get (l2,false)).2).2):=rfl;rw[hl]at hL;generalize get (l2,false)=p at hrun hk hL;obtain⟨x,s3⟩:=p;dsimp only at hrun hk hL;refine cJ ?_;refine qY [(r,.box 117 (dF (l2,false)))] rfl hg.call hrun rfl aC aA ?_;rintro _ Y' ⟨rfl,rfl⟩ h22;apply aR;exact aU;refine eN fun r23 h23=> ?_;intros;refine kD ((acc++ [x]).map cD) (acc++ [x]).length ?_;refine bG fun r24 h24=> ?_;intros;refine gX ?_;refine tN ?_;rw[show((m+1:Nat):Int)-1=(m:Nat) by omega];refine cN ?_;refine⟨(r24,m,s3,acc++ [x]),⟨wP,hk,by show m+(acc++ [x]).length<=4294967296;simp;omega,by rw[hL];simp⟩,Nat.lt_succ_self _, ?_⟩;dsimp only;exact aH
 have hz:kS get m (l2,b2)=([],(l2,b2)):=by cases m with|zero=>rfl|succ m=>(cases b2 with|true=>rfl|false=>(simp at g3<;>omega))
 have hE:gF get s=(acc,(l2,b2)):=by rw[hL,hz];simp
 refine fC ?_;exact aD aE ⟨q1,hq1,by rw[hE];rfl,by rw[hE]⟩ aA
theorem aGW{f:FuncId}{us vs:List AV}{r:Nat}{get:St->Im×St}(hg:Gets prog f us vs (fun s=>[(r,.box 117 (dF s))]) (fun x=>.agg (eE x)) get)(s:St)(hs:SOk s):SCall prog 169 [.ptr r 0,.fn (.func f) us vs] [(r,.box 117 (dF s))]
  (fun x Y=>∃q,Fresh q [(r,.box 117 (dF s))]/\x=.own q 0 (gF get s).1.length/\Y=[(q,.arr 64 3 ((gF get s).1.map eE)),(r,.box 117 (dF (gF get s).2))]):=by
 have h1:=kE r s hs;have k1:=iV s hs;have kb:=yL s;have hR:gF get s=kS get (gW s).1 (gW s).2:=rfl;generalize gW s=p at h1 k1 kb hR;obtain⟨n,s1⟩:=p;dsimp only at h1 k1 kb hR;refine bO 26 [0,1,4,5,6,17] func169 ?_;refine oB ?_;refine bQ 5 64 3 V rfl V (bD fun q0 hq0=> ?_);repeat rcases hq0 with⟨_,hq0⟩
 refine fO ?_;refine cw [(r,.box 117 (dF s))] call68 h1 rfl aC aA ?_;rintro _ Y' ⟨rfl,rfl⟩ h8;refine fF ?_;refine lp (β:=Nat×Nat×St×List Im) (fun b=>⟨[(0,.ptr r 0),(1,.fn (.func f) us vs),(5,.own b.1 0 b.2.2.2.length),(6,.int .i64 (b.2.1:Nat))],[(b.1,.arr 64 3 (b.2.2.2.map eE)),(r,.box 117 (dF b.2.2.1))]⟩) (fun b=>Fresh b.1 [(r,.box 117 (dF s))]/\SOk b.2.2.1/\b.2.1+b.2.2.2.length<=4294967296/\gF get s=(b.2.2.2++(kS get b.2.1 b.2.2.1).1,(kS get b.2.1 b.2.2.1).2)) (fun b=>b.2.1) (q0,n,s1,[]) aH ⟨wP,k1,by show n+0<=4294967296;omega,by rw[hR];rfl⟩ ?_;rintro⟨q1,m,⟨l2,b2⟩,acc⟩ ⟨hq1,hs2,hmb,hL⟩;dsimp only at hq1 hs2 hmb hL⊢;have hq2:=hq1;simp only[aN,aQ,and_true]at hq2;repeat rcases hq2 with⟨_,hq2⟩
 unfold dF;dsimp only;refine dG ?_;refine xU ?_;refine aB rfl ?_ ?_<;>intro g3
 ·obtain rfl:b2=false:=by cases b2 with|false=>rfl|true=>simp at g3
  obtain⟨m,rfl⟩:∃k,m=k+1:=⟨m-1,by simp at g3;omega⟩
  have hrun:=hg.run (l2,false) hs2;have hk:=hg.st (l2,false) hs2;have hl:kS get (m+1) (l2,false)=((get (l2,false)).1::(kS get m (get (l2,false)).2).1,(kS get m (get (l2,false)).2).2):=rfl;rw[hl]at hL;generalize get (l2,false)=p at hrun hk hL;obtain⟨x,s3⟩:=p;dsimp only at hrun hk hL;refine cJ ?_;refine qY [(r,.box 117 (dF (l2,false)))] rfl hg.call hrun rfl aC aA ?_;rintro _ Y' ⟨rfl,rfl⟩ h22;apply aR;exact aU;refine eN fun r23 h23=> ?_;intros;refine kD ((acc++ [x]).map eE) (acc++ [x]).length ?_;refine bG fun r24 h24=> ?_;intros;refine gX ?_;refine tN ?_;rw[show((m+1:Nat):Int)-1=(m:Nat) by omega];refine cN ?_;refine⟨(r24,m,s3,acc++ [x]),⟨wP,hk,by show m+(acc++ [x]).length<=4294967296;simp;omega,by rw[hL];simp⟩,Nat.lt_succ_self _, ?_⟩;dsimp only;exact aH
 have hz:kS get m (l2,b2)=([],(l2,b2)):=by cases m with|zero=>rfl|succ m=>(cases b2 with|true=>rfl|false=>(simp at g3<;>omega))
 have hE:gF get s=(acc,(l2,b2)):=by rw[hL,hz];simp
 refine fC ?_;exact aD aE ⟨q1,hq1,by rw[hE];rfl,by rw[hE]⟩ aA
theorem aGX{f:FuncId}{us vs:List AV}{r:Nat}{get:St->Gl×St}(hg:Gets prog f us vs (fun s=>[(r,.box 117 (dF s))]) (fun x=>.agg (dX x)) get)(s:St)(hs:SOk s):SCall prog 173 [.ptr r 0,.fn (.func f) us vs] [(r,.box 117 (dF s))]
  (fun x Y=>∃q,Fresh q [(r,.box 117 (dF s))]/\x=.own q 0 (gF get s).1.length/\Y=[(q,.arr 73 3 ((gF get s).1.map dX)),(r,.box 117 (dF (gF get s).2))]):=by
 have h1:=kE r s hs;have k1:=iV s hs;have kb:=yL s;have hR:gF get s=kS get (gW s).1 (gW s).2:=rfl;generalize gW s=p at h1 k1 kb hR;obtain⟨n,s1⟩:=p;dsimp only at h1 k1 kb hR;refine bO 26 [0,1,4,5,6,17] func173 ?_;refine oB ?_;refine bQ 5 73 3 V rfl V (bD fun q0 hq0=> ?_);repeat rcases hq0 with⟨_,hq0⟩
 refine fO ?_;refine cw [(r,.box 117 (dF s))] call68 h1 rfl aC aA ?_;rintro _ Y' ⟨rfl,rfl⟩ h8;refine fF ?_;refine lp (β:=Nat×Nat×St×List Gl) (fun b=>⟨[(0,.ptr r 0),(1,.fn (.func f) us vs),(5,.own b.1 0 b.2.2.2.length),(6,.int .i64 (b.2.1:Nat))],[(b.1,.arr 73 3 (b.2.2.2.map dX)),(r,.box 117 (dF b.2.2.1))]⟩) (fun b=>Fresh b.1 [(r,.box 117 (dF s))]/\SOk b.2.2.1/\b.2.1+b.2.2.2.length<=4294967296/\gF get s=(b.2.2.2++(kS get b.2.1 b.2.2.1).1,(kS get b.2.1 b.2.2.1).2)) (fun b=>b.2.1) (q0,n,s1,[]) aH ⟨wP,k1,by show n+0<=4294967296;omega,by rw[hR];rfl⟩ ?_;rintro⟨q1,m,⟨l2,b2⟩,acc⟩ ⟨hq1,hs2,hmb,hL⟩;dsimp only at hq1 hs2 hmb hL⊢;have hq2:=hq1;simp only[aN,aQ,and_true]at hq2;repeat rcases hq2 with⟨_,hq2⟩
 unfold dF;dsimp only;refine dG ?_;refine xU ?_;refine aB rfl ?_ ?_<;>intro g3
 ·obtain rfl:b2=false:=by cases b2 with|false=>rfl|true=>simp at g3
  obtain⟨m,rfl⟩:∃k,m=k+1:=⟨m-1,by simp at g3;omega⟩
  have hrun:=hg.run (l2,false) hs2;have hk:=hg.st (l2,false) hs2;have hl:kS get (m+1) (l2,false)=((get (l2,false)).1::(kS get m (get (l2,false)).2).1,(kS get m (get (l2,false)).2).2):=rfl;rw[hl]at hL;generalize get (l2,false)=p at hrun hk hL;obtain⟨x,s3⟩:=p;dsimp only at hrun hk hL;refine cJ ?_;refine qY [(r,.box 117 (dF (l2,false)))] rfl hg.call hrun rfl aC aA ?_;rintro _ Y' ⟨rfl,rfl⟩ h22;apply aR;exact aU;refine eN fun r23 h23=> ?_;intros;refine kD ((acc++ [x]).map dX) (acc++ [x]).length ?_;refine bG fun r24 h24=> ?_;intros;refine gX ?_;refine tN ?_;rw[show((m+1:Nat):Int)-1=(m:Nat) by omega];refine cN ?_;refine⟨(r24,m,s3,acc++ [x]),⟨wP,hk,by show m+(acc++ [x]).length<=4294967296;simp;omega,by rw[hL];simp⟩,Nat.lt_succ_self _, ?_⟩;dsimp only;exact aH
 have hz:kS get m (l2,b2)=([],(l2,b2)):=by cases m with|zero=>rfl|succ m=>(cases b2 with|true=>rfl|false=>(simp at g3<;>omega))
 have hE:gF get s=(acc,(l2,b2)):=by rw[hL,hz];simp
 refine fC ?_;exact aD aE ⟨q1,hq1,by rw[hE];rfl,by rw[hE]⟩ aA
theorem aGY{f:FuncId}{us vs:List AV}{r:Nat}{get:St->Ex×St}(hg:Gets prog f us vs (fun s=>[(r,.box 117 (dF s))]) (fun x=>.agg (dD x)) get)(s:St)(hs:SOk s):SCall prog 175 [.ptr r 0,.fn (.func f) us vs] [(r,.box 117 (dF s))]
  (fun x Y=>∃q,Fresh q [(r,.box 117 (dF s))]/\x=.own q 0 (gF get s).1.length/\Y=[(q,.arr 66 2 ((gF get s).1.map dD)),(r,.box 117 (dF (gF get s).2))]):=by
 have h1:=kE r s hs;have k1:=iV s hs;have kb:=yL s;have hR:gF get s=kS get (gW s).1 (gW s).2:=rfl;generalize gW s=p at h1 k1 kb hR;obtain⟨n,s1⟩:=p;dsimp only at h1 k1 kb hR;refine bO 26 [0,1,4,5,6,17] func175 ?_;refine oB ?_;refine bQ 5 66 2 V rfl V (bD fun q0 hq0=> ?_);repeat rcases hq0 with⟨_,hq0⟩
 refine fO ?_;refine cw [(r,.box 117 (dF s))] call68 h1 rfl aC aA ?_;rintro _ Y' ⟨rfl,rfl⟩ h8;refine fF ?_;refine lp (β:=Nat×Nat×St×List Ex) (fun b=>⟨[(0,.ptr r 0),(1,.fn (.func f) us vs),(5,.own b.1 0 b.2.2.2.length),(6,.int .i64 (b.2.1:Nat))],[(b.1,.arr 66 2 (b.2.2.2.map dD)),(r,.box 117 (dF b.2.2.1))]⟩) (fun b=>Fresh b.1 [(r,.box 117 (dF s))]/\SOk b.2.2.1/\b.2.1+b.2.2.2.length<=4294967296/\gF get s=(b.2.2.2++(kS get b.2.1 b.2.2.1).1,(kS get b.2.1 b.2.2.1).2)) (fun b=>b.2.1) (q0,n,s1,[]) aH ⟨wP,k1,by show n+0<=4294967296;omega,by rw[hR];rfl⟩ ?_;rintro⟨q1,m,⟨l2,b2⟩,acc⟩ ⟨hq1,hs2,hmb,hL⟩;dsimp only at hq1 hs2 hmb hL⊢;have hq2:=hq1;simp only[aN,aQ,and_true]at hq2;repeat rcases hq2 with⟨_,hq2⟩
 unfold dF;dsimp only;refine dG ?_;refine xU ?_;refine aB rfl ?_ ?_<;>intro g3
 ·obtain rfl:b2=false:=by cases b2 with|false=>rfl|true=>simp at g3
  obtain⟨m,rfl⟩:∃k,m=k+1:=⟨m-1,by simp at g3;omega⟩
  have hrun:=hg.run (l2,false) hs2;have hk:=hg.st (l2,false) hs2;have hl:kS get (m+1) (l2,false)=((get (l2,false)).1::(kS get m (get (l2,false)).2).1,(kS get m (get (l2,false)).2).2):=rfl;rw[hl]at hL;generalize get (l2,false)=p at hrun hk hL;obtain⟨x,s3⟩:=p;dsimp only at hrun hk hL;refine cJ ?_;refine qY [(r,.box 117 (dF (l2,false)))] rfl hg.call hrun rfl aC aA ?_;rintro _ Y' ⟨rfl,rfl⟩ h22;apply aR;exact aU;refine eN fun r23 h23=> ?_;intros;refine kD ((acc++ [x]).map dD) (acc++ [x]).length ?_;refine bG fun r24 h24=> ?_;intros;refine gX ?_;refine tN ?_;rw[show((m+1:Nat):Int)-1=(m:Nat) by omega];refine cN ?_;refine⟨(r24,m,s3,acc++ [x]),⟨wP,hk,by show m+(acc++ [x]).length<=4294967296;simp;omega,by rw[hL];simp⟩,Nat.lt_succ_self _, ?_⟩;dsimp only;exact aH
 have hz:kS get m (l2,b2)=([],(l2,b2)):=by cases m with|zero=>rfl|succ m=>(cases b2 with|true=>rfl|false=>(simp at g3<;>omega))
 have hE:gF get s=(acc,(l2,b2)):=by rw[hL,hz];simp
 refine fC ?_;exact aD aE ⟨q1,hq1,by rw[hE];rfl,by rw[hE]⟩ aA
theorem aGZ{f:FuncId}{us vs:List AV}{r:Nat}{get:St->Co×St}(hg:Gets prog f us vs (fun s=>[(r,.box 117 (dF s))]) (fun x=>.agg (cQ x)) get)(s:St)(hs:SOk s):SCall prog 180 [.ptr r 0,.fn (.func f) us vs] [(r,.box 117 (dF s))]
  (fun x Y=>∃q,Fresh q [(r,.box 117 (dF s))]/\x=.own q 0 (gF get s).1.length/\Y=[(q,.arr 44 2 ((gF get s).1.map cQ)),(r,.box 117 (dF (gF get s).2))]):=by
 have h1:=kE r s hs;have k1:=iV s hs;have kb:=yL s;have hR:gF get s=kS get (gW s).1 (gW s).2:=rfl;generalize gW s=p at h1 k1 kb hR;obtain⟨n,s1⟩:=p;dsimp only at h1 k1 kb hR;refine bO 26 [0,1,4,5,6,17] func180 ?_;refine oB ?_;refine bQ 5 44 2 V rfl V (bD fun q0 hq0=> ?_);repeat rcases hq0 with⟨_,hq0⟩
 refine fO ?_;refine cw [(r,.box 117 (dF s))] call68 h1 rfl aC aA ?_;rintro _ Y' ⟨rfl,rfl⟩ h8;refine fF ?_;refine lp (β:=Nat×Nat×St×List Co) (fun b=>⟨[(0,.ptr r 0),(1,.fn (.func f) us vs),(5,.own b.1 0 b.2.2.2.length),(6,.int .i64 (b.2.1:Nat))],[(b.1,.arr 44 2 (b.2.2.2.map cQ)),(r,.box 117 (dF b.2.2.1))]⟩) (fun b=>Fresh b.1 [(r,.box 117 (dF s))]/\SOk b.2.2.1/\b.2.1+b.2.2.2.length<=4294967296/\gF get s=(b.2.2.2++(kS get b.2.1 b.2.2.1).1,(kS get b.2.1 b.2.2.1).2)) (fun b=>b.2.1) (q0,n,s1,[]) aH ⟨wP,k1,by show n+0<=4294967296;omega,by rw[hR];rfl⟩ ?_;rintro⟨q1,m,⟨l2,b2⟩,acc⟩ ⟨hq1,hs2,hmb,hL⟩;dsimp only at hq1 hs2 hmb hL⊢;have hq2:=hq1;simp only[aN,aQ,and_true]at hq2;repeat rcases hq2 with⟨_,hq2⟩
 unfold dF;dsimp only;refine dG ?_;refine xU ?_;refine aB rfl ?_ ?_<;>intro g3
 ·obtain rfl:b2=false:=by cases b2 with|false=>rfl|true=>simp at g3
  obtain⟨m,rfl⟩:∃k,m=k+1:=⟨m-1,by simp at g3;omega⟩
  have hrun:=hg.run (l2,false) hs2;have hk:=hg.st (l2,false) hs2;have hl:kS get (m+1) (l2,false)=((get (l2,false)).1::(kS get m (get (l2,false)).2).1,(kS get m (get (l2,false)).2).2):=rfl;rw[hl]at hL;generalize get (l2,false)=p at hrun hk hL;obtain⟨x,s3⟩:=p;dsimp only at hrun hk hL;refine cJ ?_;refine qY [(r,.box 117 (dF (l2,false)))] rfl hg.call hrun rfl aC aA ?_;rintro _ Y' ⟨rfl,rfl⟩ h22;apply aR;exact aU;refine eN fun r23 h23=> ?_;intros;refine kD ((acc++ [x]).map cQ) (acc++ [x]).length ?_;refine bG fun r24 h24=> ?_;intros;refine gX ?_;refine tN ?_;rw[show((m+1:Nat):Int)-1=(m:Nat) by omega];refine cN ?_;refine⟨(r24,m,s3,acc++ [x]),⟨wP,hk,by show m+(acc++ [x]).length<=4294967296;simp;omega,by rw[hL];simp⟩,Nat.lt_succ_self _, ?_⟩;dsimp only;exact aH
 have hz:kS get m (l2,b2)=([],(l2,b2)):=by cases m with|zero=>rfl|succ m=>(cases b2 with|true=>rfl|false=>(simp at g3<;>omega))
 have hE:gF get s=(acc,(l2,b2)):=by rw[hL,hz];simp
 refine fC ?_;exact aD aE ⟨q1,hq1,by rw[hE];rfl,by rw[hE]⟩ aA
theorem aG0{f:FuncId}{us vs:List AV}{r:Nat}{c:Nat}(hc:Nq r c){get:St->El×St}(hg:Gets prog f us vs (fun s=>[(r,.box 117 (dF s)),(c,.box 114 [.ptr r 0])]) (fun x=>.agg (dP x)) get)(s:St)(hs:SOk s):SCall prog 177 [.ptr r 0,.fn (.func f) us vs] [(r,.box 117 (dF s)),(c,.box 114 [.ptr r 0])]
  (fun x Y=>∃q,Fresh q [(r,.box 117 (dF s)),(c,.box 114 [.ptr r 0])]/\x=.own q 0 (gF get s).1.length/\Y=[(q,.arr 69 2 ((gF get s).1.map dP)),(r,.box 117 (dF (gF get s).2)),(c,.box 114 [.ptr r 0])]):=by
 have h1:=kE r s hs;have k1:=iV s hs;have kb:=yL s;have hR:gF get s=kS get (gW s).1 (gW s).2:=rfl;generalize gW s=p at h1 k1 kb hR;obtain⟨n,s1⟩:=p;dsimp only at h1 k1 kb hR;refine bO 26 [0,1,4,5,6,17] func177 ?_;refine oB ?_;refine bQ 5 69 2 V rfl V (bD fun q0 hq0=> ?_);repeat rcases hq0 with⟨_,hq0⟩
 refine fO ?_;refine cw [(r,.box 117 (dF s))] call68 h1 rfl aC aA ?_;rintro _ Y' ⟨rfl,rfl⟩ h8;refine fF ?_;refine lp (β:=Nat×Nat×St×List El) (fun b=>⟨[(0,.ptr r 0),(1,.fn (.func f) us vs),(5,.own b.1 0 b.2.2.2.length),(6,.int .i64 (b.2.1:Nat))],[(b.1,.arr 69 2 (b.2.2.2.map dP)),(r,.box 117 (dF b.2.2.1)),(c,.box 114 [.ptr r 0])]⟩) (fun b=>Fresh b.1 [(r,.box 117 (dF s)),(c,.box 114 [.ptr r 0])]/\SOk b.2.2.1/\b.2.1+b.2.2.2.length<=4294967296/\gF get s=(b.2.2.2++(kS get b.2.1 b.2.2.1).1,(kS get b.2.1 b.2.2.1).2)) (fun b=>b.2.1) (q0,n,s1,[]) aH ⟨wP,k1,by show n+0<=4294967296;omega,by rw[hR];rfl⟩ ?_;rintro⟨q1,m,⟨l2,b2⟩,acc⟩ ⟨hq1,hs2,hmb,hL⟩;dsimp only at hq1 hs2 hmb hL⊢;have hq2:=hq1;simp only[aN,aQ,and_true]at hq2;repeat rcases hq2 with⟨_,hq2⟩
 unfold dF;dsimp only;refine dG ?_;refine xU ?_;refine aB rfl ?_ ?_<;>intro g3
 ·obtain rfl:b2=false:=by cases b2 with|false=>rfl|true=>simp at g3
  obtain⟨m,rfl⟩:∃k,m=k+1:=⟨m-1,by simp at g3;omega⟩
  have hrun:=hg.run (l2,false) hs2;have hk:=hg.st (l2,false) hs2;have hl:kS get (m+1) (l2,false)=((get (l2,false)).1::(kS get m (get (l2,false)).2).1,(kS get m (get (l2,false)).2).2):=rfl;rw[hl]at hL;generalize get (l2,false)=p at hrun hk hL;obtain⟨x,s3⟩:=p;dsimp only at hrun hk hL;refine cJ ?_;refine qY [(r,.box 117 (dF (l2,false))),(c,.box 114 [.ptr r 0])] rfl hg.call hrun rfl aC aA ?_;rintro _ Y' ⟨rfl,rfl⟩ h22;apply aR;exact aU;refine eN fun r23 h23=> ?_;intros;refine kD ((acc++ [x]).map dP) (acc++ [x]).length ?_;refine bG fun r24 h24=> ?_;intros;refine gX ?_;refine tN ?_;rw[show((m+1:Nat):Int)-1=(m:Nat) by omega];refine cN ?_;refine⟨(r24,m,s3,acc++ [x]),⟨wP,hk,by show m+(acc++ [x]).length<=4294967296;simp;omega,by rw[hL];simp⟩,Nat.lt_succ_self _, ?_⟩;dsimp only;exact aH
 have hz:kS get m (l2,b2)=([],(l2,b2)):=by cases m with|zero=>rfl|succ m=>(cases b2 with|true=>rfl|false=>(simp at g3<;>omega))
 have hE:gF get s=(acc,(l2,b2)):=by rw[hL,hz];simp
 refine fC ?_;exact aD aE ⟨q1,hq1,by rw[hE];rfl,by rw[hE]⟩ aA
theorem aG1{f:FuncId}{us vs:List AV}{r:Nat}{c:Nat}(hc:Nq r c){get:St->Da×St}(hg:Gets prog f us vs (fun s=>[(r,.box 117 (dF s)),(c,.box 114 [.ptr r 0])]) (fun x=>.agg (dV x)) get)(s:St)(hs:SOk s):SCall prog 182 [.ptr r 0,.fn (.func f) us vs] [(r,.box 117 (dF s)),(c,.box 114 [.ptr r 0])]
  (fun x Y=>∃q,Fresh q [(r,.box 117 (dF s)),(c,.box 114 [.ptr r 0])]/\x=.own q 0 (gF get s).1.length/\Y=[(q,.arr 48 2 ((gF get s).1.map dV)),(r,.box 117 (dF (gF get s).2)),(c,.box 114 [.ptr r 0])]):=by
 have h1:=kE r s hs;have k1:=iV s hs;have kb:=yL s;have hR:gF get s=kS get (gW s).1 (gW s).2:=rfl;generalize gW s=p at h1 k1 kb hR;obtain⟨n,s1⟩:=p;dsimp only at h1 k1 kb hR;refine bO 26 [0,1,4,5,6,17] func182 ?_;refine oB ?_;refine bQ 5 48 2 V rfl V (bD fun q0 hq0=> ?_);repeat rcases hq0 with⟨_,hq0⟩
 refine fO ?_;refine cw [(r,.box 117 (dF s))] call68 h1 rfl aC aA ?_;rintro _ Y' ⟨rfl,rfl⟩ h8;refine fF ?_;refine lp (β:=Nat×Nat×St×List Da) (fun b=>⟨[(0,.ptr r 0),(1,.fn (.func f) us vs),(5,.own b.1 0 b.2.2.2.length),(6,.int .i64 (b.2.1:Nat))],[(b.1,.arr 48 2 (b.2.2.2.map dV)),(r,.box 117 (dF b.2.2.1)),(c,.box 114 [.ptr r 0])]⟩) (fun b=>Fresh b.1 [(r,.box 117 (dF s)),(c,.box 114 [.ptr r 0])]/\SOk b.2.2.1/\b.2.1+b.2.2.2.length<=4294967296/\gF get s=(b.2.2.2++(kS get b.2.1 b.2.2.1).1,(kS get b.2.1 b.2.2.1).2)) (fun b=>b.2.1) (q0,n,s1,[]) aH ⟨wP,k1,by show n+0<=4294967296;omega,by rw[hR];rfl⟩ ?_;rintro⟨q1,m,⟨l2,b2⟩,acc⟩ ⟨hq1,hs2,hmb,hL⟩;dsimp only at hq1 hs2 hmb hL⊢;have hq2:=hq1;simp only[aN,aQ,and_true]at hq2;repeat rcases hq2 with⟨_,hq2⟩
 unfold dF;dsimp only;refine dG ?_;refine xU ?_;refine aB rfl ?_ ?_<;>intro g3
 ·obtain rfl:b2=false:=by cases b2 with|false=>rfl|true=>simp at g3
  obtain⟨m,rfl⟩:∃k,m=k+1:=⟨m-1,by simp at g3;omega⟩
  have hrun:=hg.run (l2,false) hs2;have hk:=hg.st (l2,false) hs2;have hl:kS get (m+1) (l2,false)=((get (l2,false)).1::(kS get m (get (l2,false)).2).1,(kS get m (get (l2,false)).2).2):=rfl;rw[hl]at hL;generalize get (l2,false)=p at hrun hk hL;obtain⟨x,s3⟩:=p;dsimp only at hrun hk hL;refine cJ ?_;refine qY [(r,.box 117 (dF (l2,false))),(c,.box 114 [.ptr r 0])] rfl hg.call hrun rfl aC aA ?_;rintro _ Y' ⟨rfl,rfl⟩ h22;apply aR;exact aU;refine eN fun r23 h23=> ?_;intros;refine kD ((acc++ [x]).map dV) (acc++ [x]).length ?_;refine bG fun r24 h24=> ?_;intros;refine gX ?_;refine tN ?_;rw[show((m+1:Nat):Int)-1=(m:Nat) by omega];refine cN ?_;refine⟨(r24,m,s3,acc++ [x]),⟨wP,hk,by show m+(acc++ [x]).length<=4294967296;simp;omega,by rw[hL];simp⟩,Nat.lt_succ_self _, ?_⟩;dsimp only;exact aH
 have hz:kS get m (l2,b2)=([],(l2,b2)):=by cases m with|zero=>rfl|succ m=>(cases b2 with|true=>rfl|false=>(simp at g3<;>omega))
 have hE:gF get s=(acc,(l2,b2)):=by rw[hL,hz];simp
 refine fC ?_;exact aD aE ⟨q1,hq1,by rw[hE];rfl,by rw[hE]⟩ aA
theorem aG2{f:FuncId}{us vs:List AV}{r:Nat}{c d:Nat}{before:Bool}(hc:Nq r c)(hd:Nq r d)(hcd:Nq c d){get:St->Li×St}(hg:Gets prog f us vs (fun s=>[(r,.box 117 (dF s)),(c,.box 4 [.bool before]),(d,.box 114 [.ptr r 0])]) (fun x=>.agg (eO x)) get)(s:St)(hs:SOk s):SCall prog 261 [.ptr r 0,.fn (.func f) us vs] [(r,.box 117 (dF s)),(c,.box 4 [.bool before]),(d,.box 114 [.ptr r 0])]
  (fun x Y=>∃q,Fresh q [(r,.box 117 (dF s)),(c,.box 4 [.bool before]),(d,.box 114 [.ptr r 0])]/\x=.own q 0 (gF get s).1.length/\Y=[(q,.arr 26 3 ((gF get s).1.map eO)),(r,.box 117 (dF (gF get s).2)),(c,.box 4 [.bool before]),(d,.box 114 [.ptr r 0])]):=by
 have h1:=kE r s hs;have k1:=iV s hs;have kb:=yL s;have hR:gF get s=kS get (gW s).1 (gW s).2:=rfl;generalize gW s=p at h1 k1 kb hR;obtain⟨n,s1⟩:=p;dsimp only at h1 k1 kb hR;refine bO 26 [0,1,4,5,6,17] func261 ?_;refine oB ?_;refine bQ 5 26 3 V rfl V (bD fun q0 hq0=> ?_);repeat rcases hq0 with⟨_,hq0⟩
 refine fO ?_;refine cw [(r,.box 117 (dF s))] call68 h1 rfl aC aA ?_;rintro _ Y' ⟨rfl,rfl⟩ h8;refine fF ?_;refine lp (β:=Nat×Nat×St×List Li) (fun b=>⟨[(0,.ptr r 0),(1,.fn (.func f) us vs),(5,.own b.1 0 b.2.2.2.length),(6,.int .i64 (b.2.1:Nat))],[(b.1,.arr 26 3 (b.2.2.2.map eO)),(r,.box 117 (dF b.2.2.1)),(c,.box 4 [.bool before]),(d,.box 114 [.ptr r 0])]⟩) (fun b=>Fresh b.1 [(r,.box 117 (dF s)),(c,.box 4 [.bool before]),(d,.box 114 [.ptr r 0])]/\SOk b.2.2.1/\b.2.1+b.2.2.2.length<=4294967296/\gF get s=(b.2.2.2++(kS get b.2.1 b.2.2.1).1,(kS get b.2.1 b.2.2.1).2)) (fun b=>b.2.1) (q0,n,s1,[]) aH ⟨wP,k1,by show n+0<=4294967296;omega,by rw[hR];rfl⟩ ?_;rintro⟨q1,m,⟨l2,b2⟩,acc⟩ ⟨hq1,hs2,hmb,hL⟩;dsimp only at hq1 hs2 hmb hL⊢;have hq2:=hq1;simp only[aN,aQ,and_true]at hq2;repeat rcases hq2 with⟨_,hq2⟩
 unfold dF;dsimp only;refine dG ?_;refine xU ?_;refine aB rfl ?_ ?_<;>intro g3
 ·obtain rfl:b2=false:=by cases b2 with|false=>rfl|true=>simp at g3
  obtain⟨m,rfl⟩:∃k,m=k+1:=⟨m-1,by simp at g3;omega⟩
  have hrun:=hg.run (l2,false) hs2;have hk:=hg.st (l2,false) hs2;have hl:kS get (m+1) (l2,false)=((get (l2,false)).1::(kS get m (get (l2,false)).2).1,(kS get m (get (l2,false)).2).2):=rfl;rw[hl]at hL;generalize get (l2,false)=p at hrun hk hL;obtain⟨x,s3⟩:=p;dsimp only at hrun hk hL;refine cJ ?_;refine qY [(r,.box 117 (dF (l2,false))),(c,.box 4 [.bool before]),(d,.box 114 [.ptr r 0])] rfl hg.call hrun rfl aC aA ?_;rintro _ Y' ⟨rfl,rfl⟩ h22;apply aR;exact aU;refine eN fun r23 h23=> ?_;intros;refine kD ((acc++ [x]).map eO) (acc++ [x]).length ?_;refine bG fun r24 h24=> ?_;intros;refine gX ?_;refine tN ?_;rw[show((m+1:Nat):Int)-1=(m:Nat) by omega];refine cN ?_;refine⟨(r24,m,s3,acc++ [x]),⟨wP,hk,by show m+(acc++ [x]).length<=4294967296;simp;omega,by rw[hL];simp⟩,Nat.lt_succ_self _, ?_⟩;dsimp only;exact aH
 have hz:kS get m (l2,b2)=([],(l2,b2)):=by cases m with|zero=>rfl|succ m=>(cases b2 with|true=>rfl|false=>(simp at g3<;>omega))
 have hE:gF get s=(acc,(l2,b2)):=by rw[hL,hz];simp
 refine fC ?_;exact aD aE ⟨q1,hq1,by rw[hE];rfl,by rw[hE]⟩ aA
theorem QG(r:Nat)(s:St)(hs:SOk s):SCall prog 259 [.ptr r 0] [(r,.box 117 (dF s))]
  (fun x Y=>x=.int .i64 (yI s).1/\Y=[(r,.box 117 (dF (yI s).2))]):=by
 have h1:=pG r s hs;have hK:yI s=if((lX s).1==127)=true then(1,(lX s).2)else if((lX s).1==126)=true then(2,(lX s).2)else(0,((lX s).2.1,true)):=rfl
 generalize lX s=p at h1 hK;obtain⟨c,l2,b2⟩:=p;dsimp only at h1 hK;have ht:∀k:Nat,((c:Int)==(k:Int))=(c==k):=fun k=>by rw[B1];simp only[beq_iff_eq];omega
 refine bO 12 [0,2,4,5,7] func259 ?_;refine fK ?_;refine cw [(r,.box 117 (dF s))] call67 h1 rfl aC aA ?_;rintro _ Y' ⟨rfl,rfl⟩ h4;refine fN ?_;unfold dF;dsimp only;refine eU ?_;refine aB rfl ?_ ?_<;>intro g2
 ·have hE:yI s=(1,(l2,b2)):=by rw[hK,Dc ((ht 127).symm.trans g2)]
  refine cV ?_;exact aD aE ⟨by rw[hE];rfl,by rw[hE]⟩ aA
 refine cZ ?_;refine aB rfl ?_ ?_<;>intro g4
 ·have hE:yI s=(2,(l2,b2)):=by rw[hK,Db (by rw[<-ht 127];exact fun h=>by rw[show((c:Int)==((127:Nat):Int))=false from g2]at h;cases h),Dc ((ht 126).symm.trans g4)]
  refine cV ?_;exact aD aE ⟨by rw[hE];rfl,by rw[hE]⟩ aA
 have hE:yI s=(0,(l2,true)):=by rw[hK,Db (by rw[<-ht 127];exact fun h=>by rw[show((c:Int)==((127:Nat):Int))=false from g2]at h;cases h),Db (by rw[<-ht 126];exact fun h=>by rw[show((c:Int)==((126:Nat):Int))=false from g4]at h;cases h)]
 refine rO ?_;refine mG ?_;refine cV ?_;exact aD aE ⟨by rw[hE];rfl,by rw[hE]⟩ aA
theorem QH(r:Nat)(s:St)(hs:SOk s):SCall prog 260 [.ptr r 0] [(r,.box 117 (dF s))]
  (fun x Y=>x=.str (cB (CX s).1)/\Y=[(r,.box 117 (dF (CX s).2))]):=by
 have w1:=aEi r s hs;generalize CX s=p at w1;obtain⟨l,s2⟩:=p;dsimp only at w1;refine bO 6 [0,2] func260 ?_;refine fK ?_;refine cw [(r,.box 117 (dF s))] call184 w1 rfl aC aA ?_;rintro _ Y' ⟨q,hq,rfl,rfl⟩ h4;apply aR;exact aU;refine aF5 ?_;refine cN ?_;exact aD aE ⟨by rfl,rfl⟩ aA
theorem FU(r:Nat)(s:St)(hs:SOk s):SCall prog 264 [.ptr r 0] [(r,.box 117 (dF s))]
  (fun x Y=>x=.agg [.int .i64 (RQ s).1.1,.int .i64 (RQ s).1.2]/\Y=[(r,.box 117 (dF (RQ s).2))]):=by
 have hk:=fun n ok=>DD r s hs n ok
 have hk2:=fun n ok=>pG r _ (NH hs n ok)
 have hC:RQ s=(if((fP s.1).1.op==66)=true then(2,(fP s.1).1.a)else(1,(fP s.1).1.a),(lX (xB s (fP s.1).2.1 (((fP s.1).2.2==0)&&((fP s.1).1.op==65||(fP s.1).1.op==66)))).2):=rfl;have hget:=MW s.1 (by have:=hs.1;omega) hs.2;obtain⟨l,bad⟩:=s;dsimp only at hC hget;generalize fP l=p at hC hget;obtain⟨x,n,e⟩:=p;dsimp only at hC hget;have hB:(if(e==0)=true then(if(x.op==65)=true then true else x.op==66)else false)=((e==0)&&(x.op==65||x.op==66)):=by cases(e==0)<;>cases(x.op==65)<;>rfl
 have w1:=hk n ((e==0)&&(x.op==65||x.op==66));have w2:=hk2 n ((e==0)&&(x.op==65||x.op==66));generalize((e==0)&&(x.op==65||x.op==66))=B at hB w1 w2 hC;generalize xB (l,bad) n B=s2 at w1 w2 hC;generalize lX s2=p3 at w2 hC;obtain⟨c,s3⟩:=p3;dsimp only at w2 hC;refine bO 41 [0,2,3,4,5,34] func264 ?_;unfold dF;dsimp only;refine dB ?_;refine iD fun r2 h2=> ?_;intros;refine iM ?_;refine rM ?_;refine cw [] call298 hget rfl aC aA ?_;rintro _ Y' ⟨q,rfl,rfl⟩ h11
 replace h11:=gE h11;repeat rcases h11 with⟨_,h11⟩
 refine TC ?_;refine iD fun r3 h3=> ?_;intros;unfold io;apply OT;rfl;rfl;rfl;rfl;exact nI;refine fS ?_;refine xN ?_;refine FK ?_;refine tB ?_;refine aBu ?_;refine aC7 ?_;refine aC8 ?_;refine aOJ ?_;refine aMD ?_;refine sF ?_;rw[hB];refine cw [(r,.box 117 (dF (l,bad)))] call66 w1 rfl aC aA ?_;rintro _ Y' ⟨rfl,rfl⟩ h29;refine fN ?_;refine fO ?_;refine cw [(r,.box 117 (dF s2))] call67 w2 rfl aC aA ?_;rintro _ Y' ⟨rfl,rfl⟩ h31;refine AD ?_;refine eY ?_;refine sH ?_;refine aB rfl ?_ ?_<;>intro g4
 ·have hE:RQ (l,bad)=((2,x.a),s3):=by rw[hC,Dc g4]
  refine eY ?_;refine mM ?_;refine fR ?_;exact aD aE ⟨by rw[hE];rfl,by rw[hE]⟩ aA
 have hE:RQ (l,bad)=((1,x.a),s3):=by rw[hC,Db (by rw[g4];simp)]
 refine eY ?_;refine mM ?_;refine fR ?_;exact aD aE ⟨by rw[hE];rfl,by rw[hE]⟩ aA
theorem UR(r:Nat)(s:St)(hs:SOk s):SCall prog 179 [.ptr r 0] [(r,.box 117 (dF s))]
  (fun x Y=>x=.int .i64 (RR s).1/\Y=[(r,.box 117 (dF (RR s).2))]):=by
 have w1:=pG r s hs;have w2:=FU r _ (oG s hs);refine bO 8 [0,2] func179 ?_;refine fK ?_;refine cw [(r,.box 117 (dF s))] call67 w1 rfl aC aA ?_;rintro _ Y' ⟨rfl,rfl⟩ h4;refine fN ?_;refine fO ?_;refine uW [(r,.box 117 (dF (lX s).2))] call264 w2 ?_;refine aJR ?_;refine cN ?_;exact aD aE ⟨by rfl,rfl⟩ aA
theorem NJ(r:Nat)(s:St)(hs:SOk s):SCall prog 263 [.ptr r 0] [(r,.box 117 (dF s))]
  (fun x Y=>x=.agg (eO (lmN s).1)/\Y=[(r,.box 117 (dF (lmN s).2))]):=by
 have w1:=pG r s hs;have w2:=kE r _ (oG s hs);have w3:=kE r _ (iV _ (oG s hs));have hL:lmN s=if((lX s).1 !=0)=true then(⟨true,(gW (lX s).2).1,(gW (gW (lX s).2).2).1⟩,(gW (gW (lX s).2).2).2)else(⟨true,(gW (lX s).2).1,-1⟩,(gW (lX s).2).2):=rfl
 generalize lX s=p1 at w1 w2 w3 hL;obtain⟨c,s1⟩:=p1;dsimp only at w1 w2 w3 hL;generalize gW s1=p2 at w2 w3 hL;obtain⟨a,s2⟩:=p2;dsimp only at w2 w3 hL;generalize gW s2=p3 at w3 hL;obtain⟨d,s3⟩:=p3;dsimp only at w3 hL;have ht:((c:Int) !=0)=(c !=0):=by rw[B1];simp only[bne_iff_ne,ne_eq];omega
 refine bO 17 [0,2,3,4,12] func263 ?_;refine dB ?_;refine iD fun r2 h2=> ?_;intros;refine kX ?_;refine sN ?_;refine iD fun r3 h3=> ?_;intros;refine vV ?_;refine uW [(r,.box 117 (dF s))] call67 w1 ?_;refine B9 ?_;refine gX ?_;refine uW [(r,.box 117 (dF s1))] call68 w2 ?_;refine EF ?_;refine vV ?_;refine iM ?_;refine aB rfl ?_ ?_<;>intro g4
 ·have hE:lmN s=(⟨true,a,d⟩,s3):=by rw[hL,Dc (ht.symm.trans g4)]
  refine dG ?_;refine uW [(r,.box 117 (dF s2))] call68 w3 ?_;refine EF ?_;refine mG ?_;refine mE ?_;refine fR ?_;exact aD aE ⟨by rw[hE];rfl,by rw[hE]⟩ aA
 have hE:lmN s=(⟨true,a,-1⟩,s2):=by rw[hL,Db (by rw[<-ht];exact fun h=>by rw[show((c:Int) !=0)=false from g4]at h;cases h)]
 refine mE ?_;refine fR ?_;exact aD aE ⟨by rw[hE];rfl,by rw[hE]⟩ aA
theorem aG3(d:Int)(c:Nat)(hc:c<=100000):SCall prog 207 [.ro 1 [[.int .i64 d]] .any,.int .i64 c] [] (fun x Y=>∃r,x=.own r 0 (Ak c d).length/\Y=[(r,.arr 3 1 ((Ak c d).map aK))]):=by
 refine(yK (v:=.int .i64 d) rfl c hc).mono fun x Y h=> ?_
 rw[List.length_replicate,List.map_replicate];exact h
theorem aBW(r:Nat)(s:St)(hs:SOk s):SCall prog 265 [.ptr r 0] [(r,.box 117 (dF s))]
  (fun x Y=>∃q,Nq q r/\x=.own q 0 (BL s).1.length/\Y=[(q,.arr 3 1 ((BL s).1.map aK)),(r,.box 117 (dF (BL s).2))]):=by
 have w1:=kE r s hs;have k1:=iV s hs;have kb:=yL s;have hR:BL s=YJ (gW s).1 (gW s).2 []:=rfl;generalize gW s=p at w1 k1 kb hR;obtain⟨n,s1⟩:=p;dsimp only at w1 k1 kb hR;refine bO 36 [0,2,3,4,5,6,17,25] func265 ?_;refine oB ?_;refine bQ 3 3 1 V rfl V (bD fun q0 hq0=> ?_);repeat rcases hq0 with⟨_,hq0⟩
 refine fO ?_;refine cw [(r,.box 117 (dF s))] call68 w1 rfl aC aA ?_;rintro _ Y' ⟨rfl,rfl⟩ h8;refine fF ?_;refine lp (β:=Nat×Nat×St×List Int) (fun b=>⟨[(0,.ptr r 0),(2,.ro 0 [] .nil),(3,.own b.1 0 b.2.2.2.length),(4,.int .i64 (b.2.1:Nat))],[(b.1,.arr 3 1 (b.2.2.2.map aK)),(r,.box 117 (dF b.2.2.1))]⟩) (fun b=>Nq b.1 r/\SOk b.2.2.1/\32*b.2.1+b.2.2.2.length<=137438953472/\BL s=YJ b.2.1 b.2.2.1 b.2.2.2) (fun b=>b.2.1) (q0,n,s1,[]) aH ⟨Ae q0 r,k1,by show 32*n+0<=137438953472;omega,by rw[hR]⟩ ?_;rintro⟨q1,m,⟨l2,b2⟩,acc⟩ ⟨hq1,hs2,hmb,hL⟩;dsimp only at hq1 hs2 hmb hL⊢;unfold dF;dsimp only;refine dG ?_;refine xU ?_;refine aB rfl ?_ ?_<;>intro g3
 ·obtain rfl:b2=false:=by cases b2 with|false=>rfl|true=>simp at g3
  obtain⟨m,rfl⟩:∃k,m=k+1:=⟨m-1,by simp at g3;omega⟩
  have wn:=kE r (l2,false) hs2;have kn:=iV (l2,false) hs2;have wk:=QG r _ kn;have kk:=AM _ kn;have hl:YJ (m+1) (l2,false) acc=if 32<(gW (l2,false)).1 then([],((yI (gW (l2,false)).2).2.1,true))else YJ m (yI (gW (l2,false)).2).2 (acc++Ak (gW (l2,false)).1 (yI (gW (l2,false)).2).1):=by rw[YJ];rfl
  rw[hl]at hL;generalize gW (l2,false)=p2 at wn kn wk kk hL;obtain⟨c,s3⟩:=p2;dsimp only at wn kn wk kk hL;generalize yI s3=p3 at wk kk hL;obtain⟨d,l4,b4⟩:=p3;dsimp only at wk kk hL;refine dG ?_;refine cw [(r,.box 117 (dF (l2,false)))] call68 wn rfl aC aA ?_;rintro _ Y' ⟨rfl,rfl⟩ h21;refine sO ?_;refine cw [(r,.box 117 (dF s3))] call259 wk rfl aC aA ?_;rintro _ Y' ⟨rfl,rfl⟩ h23;refine fF ?_;unfold dF;dsimp only;refine fO ?_;refine tP ?_;refine aB rfl ?_ ?_<;>intro g7
  ·have hE:BL s=([],(l4,true)):=by rw[hL,Dc (by simp at g7;omega)]
   refine rO ?_;refine mG ?_;refine tR ?_;refine bQ 2 3 1 V rfl V (bD fun q2 hq2=> ?_);repeat rcases hq2 with⟨_,hq2⟩
   refine aI ?_;exact aD aE ⟨q2,by(exact aX),by rw[hE];rfl,by rw[hE]⟩ aA
  have hc:c<=32:=by simp at g7;omega
  rw[Db U]at hL;refine cJ ?_;refine eN fun r31 h31=> ?_;intros;refine B4 ?_;refine tE call207 (aG3 d c U) rfl bL kK ?_;rintro _ Y' ⟨r33,rfl,rfl⟩ h33
  replace h33:=bU h33;repeat rcases h33 with⟨_,h33⟩
  apply aR;exact aU;refine kD ((acc++Ak c d).map aK) (acc++Ak c d).length ?_;refine bG fun r34 h34=> ?_;intros;refine gX ?_;refine tN ?_;rw[show((m+1:Nat):Int)-1=(m:Nat) by omega];refine cN ?_;refine⟨(r34,m,(l4,b4),acc++Ak c d),⟨Ae r34 r,kk,by show 32*m+(acc++Ak c d).length<=137438953472;simp;omega,hL⟩,Nat.lt_succ_self _, ?_⟩;dsimp only;exact aH
 have hz:YJ m (l2,b2) acc=(acc,(l2,b2)):=by cases m with|zero=>rfl|succ m=>(cases b2 with|true=>rfl|false=>(simp at g3<;>omega))
 have hE:BL s=(acc,(l2,b2)):=by rw[hL,hz]
 refine fC ?_;exact aD aE ⟨q1,by(exact aX),by rw[hE];rfl,by rw[hE]⟩ aA
theorem NK(r:Nat):Gets prog 259 [.ptr r 0] [] (fun s=>[(r,.box 117 (dF s))]) (fun n=>.int .i64 n) yI:=⟨call259,AM,fun s hs=>QG r s hs⟩
theorem US(r:Nat):Gets prog 68 [.ptr r 0] [] (fun s=>[(r,.box 117 (dF s))]) (fun n=>.int .i64 n) inN:=⟨call68,aEd,fun s hs=>kE r s hs⟩
theorem aG4(r:Nat)(s:St)(hs:SOk s):SCall prog 168 [.ptr r 0] [(r,.box 117 (dF s))]
  (fun x Y=>x=.agg (cD (tyN s).1)/\Y=[(r,.box 117 (dF (tyN s).2))]):=by
 have w1:=pG r s hs;have k1:=oG s hs;have w2:=DE (NK r) _ k1;have k2:=uE AM _ k1;have w3:=DE (NK r) _ k2;have hT:tyN s=(⟨(gF yI (lX s).2).1,(gF yI (gF yI (lX s).2).2).1⟩,(gF yI (gF yI (lX s).2).2).2):=rfl;rw[hT];generalize(lX s).2=s1 at w1 w2 w3;generalize gF yI s1=p2 at w2 w3;obtain⟨a,s2⟩:=p2;dsimp only at w2 w3;generalize gF yI s2=p3 at w3;obtain⟨c,s3⟩:=p3;dsimp only at w3;refine bO 14 [0,2] func168 ?_;refine dB ?_;refine iD fun r2 h2=> ?_;intros;refine sQ ?_;refine cw [(r,.box 117 (dF s))] call67 w1 rfl aC aA ?_;rintro _ Y' ⟨rfl,rfl⟩ h4;refine fN ?_;refine kV ?_;refine SQ ?_;refine cw [(r,.box 117 (dF s1))] call171 w2 rfl aC aA ?_;rintro _ Y' ⟨q8,hq8,rfl,rfl⟩ h8;simp only[aN,aQ,and_true]at hq8;have k8:=aV h8;repeat rcases k8 with⟨_,k8⟩
 apply aR;exact aU;refine iE (j:=8) rfl aY (aL bR X) ?_;refine LG ?_;refine SQ ?_;refine cw [(r,.box 117 (dF s2))] call171 w3 rfl aC aA ?_;rintro _ Y' ⟨q12,hq12,rfl,rfl⟩ h12;simp only[aN,aQ,and_true]at hq12;have k12:=aV h12;repeat rcases k12 with⟨_,k12⟩
 apply aR;exact aU;refine iE (j:=12) rfl aY (aL bR X) ?_;refine mM ?_;refine fR ?_;exact aD aE ⟨by rfl,rfl⟩ aA
theorem aBX(r:Nat)(s:St)(hs:SOk s):SCall prog 170 [.ptr r 0] [(r,.box 117 (dF s))]
  (fun x Y=>x=.agg (eE (imN s).1)/\Y=[(r,.box 117 (dF (imN s).2))]):=by
 have w1:=QH r s hs;have k1:=FS s hs;have w2:=QH r _ k1;have k2:=FS _ k1;have w3:=pG r _ k2;have w4:=kE r _ (oG _ k2);refine bO 15 [0,2,3] func170 ?_;refine dB ?_;refine iD fun r2 h2=> ?_;intros;refine sQ ?_;refine cw [(r,.box 117 (dF s))] call260 w1 rfl aC aA ?_;rintro _ Y' ⟨rfl,rfl⟩ h5;refine AX ?_;refine uW [(r,.box 117 (dF (CX s).2))] call260 w2 ?_;refine mM ?_;refine iD fun r3 h3=> ?_;intros;refine vV ?_;refine cw [(r,.box 117 (dF (CX (CX s).2).2))] call67 w3 rfl aC aA ?_;rintro _ Y' ⟨rfl,rfl⟩ h10;refine fN ?_;refine fO ?_;refine uW [(r,.box 117 (dF (lX (CX (CX s).2).2).2))] call68 w4 ?_;refine EF ?_;refine mG ?_;refine mE ?_;refine fR ?_;exact aD aE ⟨by rfl,rfl⟩ aA
theorem aBY(r:Nat)(s:St)(hs:SOk s):SCall prog 174 [.ptr r 0] [(r,.box 117 (dF s))]
  (fun x Y=>x=.agg (dX (glN s).1)/\Y=[(r,.box 117 (dF (glN s).2))]):=by
 have w1:=QG r s hs;have k1:=AM s hs;have w2:=pG r _ k1;have k2:=oG _ k1;have w3:=FU r _ k2;have ht:(((lX (yI s).2).1:Int) !=0)=((lX (yI s).2).1 !=0):=by rw[B1];simp only[bne_iff_ne,ne_eq];omega
 refine bO 11 [0,2] func174 ?_;refine dB ?_;refine iD fun r2 h2=> ?_;intros;refine sQ ?_;refine cw [(r,.box 117 (dF s))] call259 w1 rfl aC aA ?_;rintro _ Y' ⟨rfl,rfl⟩ h4;refine fN ?_;refine fO ?_;refine uW [(r,.box 117 (dF (yI s).2))] call67 w2 ?_;refine B9 ?_;rw[ht];refine B4 ?_;refine uW [(r,.box 117 (dF (lX (yI s).2).2))] call264 w3 ?_;refine mM ?_;refine fR ?_;exact aD aE ⟨by rfl,rfl⟩ aA
theorem aBZ(r:Nat)(s:St)(hs:SOk s):SCall prog 176 [.ptr r 0] [(r,.box 117 (dF s))]
  (fun x Y=>x=.agg (dD (exN s).1)/\Y=[(r,.box 117 (dF (exN s).2))]):=by
 have w1:=QH r s hs;have k1:=FS s hs;have w3:=pG r _ k1;have w4:=kE r _ (oG _ k1);refine bO 13 [0,2,3] func176 ?_;refine dB ?_;refine iD fun r2 h2=> ?_;intros;refine sQ ?_;refine uW [(r,.box 117 (dF s))] call260 w1 ?_;refine mM ?_;refine iD fun r3 h3=> ?_;intros;refine vV ?_;refine cw [(r,.box 117 (dF (CX s).2))] call67 w3 rfl aC aA ?_;rintro _ Y' ⟨rfl,rfl⟩ h8;refine fN ?_;refine fO ?_;refine uW [(r,.box 117 (dF (lX (CX s).2).2))] call68 w4 ?_;refine EF ?_;refine mG ?_;refine mE ?_;refine fR ?_;exact aD aE ⟨by rfl,rfl⟩ aA
theorem aKZ(ls:List Int):VLe (.agg [.ro 1 (ls.map aK) .any,.ro 0 [] .nil]) (.agg (cQ ⟨ls,[]⟩)):=by
 refine VLe.agg rfl fun j a a' ha ha'=> ?_
 match j with
 |0=>cases ha;cases ha';exact VLe.refl _
 |1=>cases ha;cases ha';exact VLe.empty
 | _ +2=>cases ha
theorem aG5(r:Nat)(s:St)(hs:SOk s):SCall prog 181 [.ptr r 0] [(r,.box 117 (dF s))]
  (fun x Y=>x=.agg (cQ (PZ s).1)/\Y=[(r,.box 117 (dF (PZ s).2))]):=by
 have w1:=kE r s hs;have k1:=iV s hs;have w2:=aBW r _ k1;have k2:=aEb _ k1;have hC:PZ s=if(BL (gW s).2).2.2=true then(⟨(BL (gW s).2).1,[]⟩,(BL (gW s).2).2)else(⟨(BL (gW s).2).1,(mJ (BL (gW s).2).2.1).1⟩,xB (BL (gW s).2).2 (mJ (BL (gW s).2).2.1).2.1 ((mJ (BL (gW s).2).2.1).2.2==0)):=rfl
 generalize BL (gW s).2=p at w2 k2 hC;obtain⟨ls,l2,b2⟩:=p;dsimp only at w2 k2 hC;have w3:=aDQ l2 (by have:=k2.1;dsimp only at this;omega) k2.2;have w4:=fun n ok=>DD r (l2,b2) k2 n ok
 generalize mJ l2=g at w3 hC;obtain⟨l,n,e⟩:=g;dsimp only at w3 hC;have w5:=w4 n (e==0);refine bO 34 [0,2,3,4,5,6,15] func181 ?_;refine dB ?_;refine iD fun r2 h2=> ?_;intros;refine sQ ?_;refine cw [(r,.box 117 (dF s))] call68 w1 rfl aC aA ?_;rintro _ Y' ⟨rfl,rfl⟩ h8;refine fN ?_;refine fO ?_;refine cw [(r,.box 117 (dF (gW s).2))] call265 w2 rfl aC aA ?_;rintro _ Y' ⟨q,hq,rfl,rfl⟩ h10;have k10:=aV h10;repeat rcases k10 with⟨_,k10⟩
 apply aR;exact aU;refine iE (j:=10) rfl aY (aL bR X) ?_;refine mM ?_;refine iD fun r3 h3=> ?_;intros;refine fR ?_;unfold dF;dsimp only;refine rM ?_;refine iM ?_;refine aB rfl ?_ ?_<;>intro g3
 ·have hE:PZ s=(⟨ls,[]⟩,(l2,true)):=by rw[hC,g3];rfl
  rw[g3];refine mE ?_;refine mC (fH (j:=16) rfl (aKZ ls)) ?_;refine fR ?_;exact aD aE ⟨by rw[hE];rfl,by rw[hE]⟩ aA
 have hE:PZ s=(⟨ls,l⟩,xB (l2,false) n (e==0)):=by rw[hC,g3];rfl
 rw[g3]at w5⊢;refine vZ ?_;refine cw [] call266 w3 rfl aC aA ?_;rintro _ Y' ⟨q22,rfl,rfl⟩ h22
 replace h22:=gE h22;repeat rcases h22 with⟨_,h22⟩
 refine TC ?_;refine pM ?_;refine xN ?_;refine Ch ?_;refine cw [(r,.box 117 (dF (l2,false)))] call66 w5 rfl aC aA ?_;rintro _ Y' ⟨rfl,rfl⟩ h30;refine fN ?_;refine fO ?_;refine iE (j:=31) rfl aY (aL bR X) ?_;refine EF ?_;refine mG ?_;refine mE ?_;refine fR ?_;exact aD aE ⟨by rw[hE];rfl,by rw[hE]⟩ aA
theorem aG6{r c d:Nat}{before:Bool}(hc:Nq r c)(hd:Nq r d)(hcd:Nq c d):Gets prog 262 [] [.ptr c 0,.ptr d 0] (fun s=>[(r,.box 117 (dF s)),(c,.box 4 [.bool before]),(d,.box 114 [.ptr r 0])]) (fun x=>.agg (eO x)) (tbN before):=by
 refine⟨call262,aJp before,fun s hs=> ?_⟩;have w1:=pG r s hs;have w2:=NJ r _ (oG s hs);have w3:=NJ r s hs;refine bO 8 [0,1,2,3] func262 ?_;refine dB ?_;refine iD fun r2 h2=> ?_;intros;refine iM ?_;rcases before with _ | _
 ·refine jD ?_;refine wQ ?_;refine kX ?_;refine dB ?_;refine wQ ?_;refine cw [(r,.box 117 (dF s))] call263 w3 rfl aC aA ?_;rintro _ Y' ⟨rfl,rfl⟩ h7;apply aR;exact aU;refine fR ?_;exact aD aE ⟨by rfl,rfl⟩ aA
 ·refine jD ?_;refine wQ ?_;refine kX ?_;refine dB ?_;refine wQ ?_;refine cw [(r,.box 117 (dF s))] call67 w1 rfl aC aA ?_;rintro _ Y' ⟨rfl,rfl⟩ h5;refine AD ?_;refine dB ?_;refine wQ ?_;refine uW [(r,.box 117 (dF (lX s).2))] call263 w2 ?_;refine fR ?_;exact aD aE ⟨by rfl,rfl⟩ aA
theorem JI(r:Nat)(s:St)(hs:SOk s)(before:Bool):SCall prog 172 [.ptr r 0,.bool before] [(r,.box 117 (dF s))]
  (fun x Y=>x=.agg (eO (UD before s).1)/\Y=[(r,.box 117 (dF (UD before s).2))]):=by
 have w1:=fun(c d:Nat) hc hd hcd=>aG2 (r:=r) (c:=c) (d:=d) (before:=before) hc hd hcd (aG6 hc hd hcd) s hs
 have hL:UD before s=((gF (tbN before) s).1.headD MZ,(gF (tbN before) s).2):=rfl;generalize gF (tbN before) s=p at w1 hL;obtain⟨l,s2⟩:=p;dsimp only at w1 hL;refine bO 16 [0,1,2,3,4,5,11] func172 ?_;refine dB ?_;refine fZ fun r2 h2=> ?_;intros;refine fZ fun r3 h3=> ?_;intros;refine iD fun r4 h4=> ?_;intros;refine kX ?_;refine dB ?_;refine wQ ?_;refine aOK ?_;refine cw [(r,.box 117 (dF s)),(r3,.box 4 [.bool before]),(r2,.box 114 [.ptr r 0])] call261 (w1 r3 r2 (by(exact aX)) (by(exact aX)) (by(exact aX))) rfl aC aA ?_;rintro _ Y' ⟨q8,hq8,rfl,rfl⟩ h8;simp only[aN,aQ,and_true]at hq8;repeat rcases hq8 with⟨_,hq8⟩
 have k8:=aV h8;repeat rcases k8 with⟨_,k8⟩
 refine sO ?_;refine wA ?_;refine aB rfl ?_ ?_<;>intro g2
 ·obtain rfl:l=[]:=by cases l with|nil=>rfl|cons x t=>(simp at g2<;>omega)
  have hE:UD before s=(MZ,s2):=hL;refine sN ?_;refine fR ?_;exact aD aE ⟨by rw[hE];rfl,by rw[hE]⟩ aA
 obtain⟨x,t,rfl⟩:∃x t,l=x::t:=by cases l with|nil=>simp at g2|cons x t=>exact⟨x,t,rfl⟩
 have hE:UD before s=(x,s2):=hL;have hx:(x::t)[(0:Int).toNat]? =some x:=rfl;have hpos:0<(x::t).length:=Nat.succ_pos _;refine dG ?_;refine CE ?_;refine fR ?_;exact aD aE ⟨by rw[hE];rfl,by rw[hE]⟩ aA
theorem aG7{r c:Nat}(hc:Nq r c):Gets prog 178 [] [.ptr c 0] (fun s=>[(r,.box 117 (dF s)),(c,.box 114 [.ptr r 0])]) (fun x=>.agg (dP x)) eeN:=by
 refine⟨call178,aJr,fun s hs=> ?_⟩;have w1:=UR r s hs;have w2:=DE (US r) _ (UQ s hs);have hE:eeN s=(⟨(RR s).1,(gF inN (RR s).2).1⟩,(gF inN (RR s).2).2):=rfl;rw[hE];generalize RR s=p at w1 w2;obtain⟨o,s2⟩:=p;dsimp only at w1 w2;generalize gF inN s2=p at w2;obtain⟨l,s3⟩:=p;dsimp only at w2;refine bO 9 [0,1] func178 ?_;refine dB ?_;refine iD fun r1 h1=> ?_;intros;refine iM ?_;refine eK (Ac [0,2,3,4] (Ad 1 (Ad 5 (Ac [6] (Ad 7 []))))) ?_;refine z74 ?_;refine z74 ?_;refine z74 ?_;refine aOL ?_;refine pB [(r,.box 117 (dF s))] rfl call179 w1 rfl aC aA eC ?_;rintro _ Y' ⟨rfl,rfl⟩ h3;apply bC;exact aU;refine pB [(r,.box 117 (dF s2))] rfl call171 w2 rfl aC aA eC ?_;rintro _ Y' ⟨q7,hq7,rfl,rfl⟩ h7;simp only[aN,aQ,and_true]at hq7;have k7:=aV h7;repeat rcases k7 with⟨_,k7⟩
 apply bC;exact aU;refine SJ ?_;refine EH ?_;refine an ?_;refine dO (gO (r:=r1) (q:=q7) bK aY (.cons (.refl _) (.cons (aL bR X) .nil))) ?_;refine aI ?_;exact aD aE ⟨by rfl,rfl⟩ aA
theorem aG8{r c:Nat}(hc:Nq r c):Gets prog 183 [] [.ptr c 0] (fun s=>[(r,.box 117 (dF s)),(c,.box 114 [.ptr r 0])]) (fun x=>.agg (dV x)) ddN:=by
 refine⟨call183,aEh,fun s hs=> ?_⟩;have w1:=UR r s hs;have w2:=aEi r _ (UQ s hs);have hE:ddN s=(⟨(RR s).1,(CX (RR s).2).1⟩,(CX (RR s).2).2):=rfl;rw[hE];generalize RR s=p at w1 w2;obtain⟨o,s2⟩:=p;dsimp only at w1 w2;generalize CX s2=p at w2;obtain⟨l,s3⟩:=p;dsimp only at w2;refine bO 7 [0,1] func183 ?_;refine dB ?_;refine iD fun r1 h1=> ?_;intros;refine iM ?_;refine eK (Ac [0,2] (Ad 1 (Ad 3 (Ac [4] (Ad 5 []))))) ?_;refine z74 ?_;refine z74 ?_;refine pB [(r,.box 117 (dF s))] rfl call179 w1 rfl aC aA eC ?_;rintro _ Y' ⟨rfl,rfl⟩ h3;apply bC;exact aU;refine pB [(r,.box 117 (dF s2))] rfl call184 w2 rfl aC aA eC ?_;rintro _ Y' ⟨q5,hq5,rfl,rfl⟩ h5;have k5:=aV h5;repeat rcases k5 with⟨_,k5⟩
 apply bC;exact aU;refine SJ ?_;refine EH ?_;refine an ?_;refine dO (gO (r:=r1) (q:=q5) bK aY (.cons (.refl _) (.cons (aL bR X) .nil))) ?_;refine aI ?_;exact aD aE ⟨by rfl,rfl⟩ aA
theorem aG9(r:Nat):Gets prog 168 [.ptr r 0] [] (fun s=>[(r,.box 117 (dF s))]) (fun x=>.agg (cD x)) tyN:=⟨call168,aJo,fun s hs=>aG4 r s hs⟩
theorem aHa(r:Nat):Gets prog 170 [.ptr r 0] [] (fun s=>[(r,.box 117 (dF s))]) (fun x=>.agg (eE x)) imN:=⟨call170,aEe,fun s hs=>aBX r s hs⟩
theorem aHb(r:Nat):Gets prog 174 [.ptr r 0] [] (fun s=>[(r,.box 117 (dF s))]) (fun x=>.agg (dX x)) glN:=⟨call174,aEf,fun s hs=>aBY r s hs⟩
theorem aHc(r:Nat):Gets prog 176 [.ptr r 0] [] (fun s=>[(r,.box 117 (dF s))]) (fun x=>.agg (dD x)) exN:=⟨call176,aEg,fun s hs=>aBZ r s hs⟩
theorem aHd(r:Nat):Gets prog 181 [.ptr r 0] [] (fun s=>[(r,.box 117 (dF s))]) (fun x=>.agg (cQ x)) PZ:=⟨call181,aEc,fun s hs=>aG5 r s hs⟩
theorem YM(r m:Nat)(hrm:Nq r m)(s:St)(hs:SOk s)(M:Md)(no:Nat):SCall prog 69 [.ptr r 0,.ptr m 0,.int .i64 no] [(r,.box 117 (dF s)),(m,.box 33 (aM M))]
  (fun x Y=>x=.tup []/\Y=[(r,.box 117 (dF (wY no M s).2)),(m,.box 33 (aM (wY no M s).1))]):=by
 obtain⟨ty,im,fn,tb,me,gl,ex,el,co,da⟩:=M;refine bO 94 [0,1,2,3,6,10,19,28,37,44,51,60,69,77,86] func69 ?_;unfold aM;dsimp only;refine dB ?_;refine fZ fun r3 h3=> ?_;intros;refine sQ ?_;refine rP ?_;refine aB rfl ?_ ?_<;>intro g3
 ·obtain rfl:no=1:=by simp at g3;omega
  have hE:wY 1 ⟨ty,im,fn,tb,me,gl,ex,el,co,da⟩ s=(⟨(gF tyN s).1,im,fn,tb,me,gl,ex,el,co,da⟩,(gF tyN s).2):=rfl;refine dG ?_;refine wQ ?_;refine wQ ?_;refine SQ ?_;refine cw [(r,.box 117 (dF s))] call167 (aGV (aG9 r) s hs) rfl aC aA ?_;rintro _ Y' ⟨q16,hq16,rfl,rfl⟩ h16;simp only[aN,aQ,and_true]at hq16;have k16:=aV h16;repeat rcases k16 with⟨_,k16⟩
  apply aR;exact aU;refine iE (j:=16) rfl aY (aL bR X) ?_;refine oJ ?_;refine bS ?_;exact aD aE ⟨by rfl,by rw[hE]⟩ aA
 refine cZ ?_;refine aB rfl ?_ ?_<;>intro g5
 ·obtain rfl:no=2:=by simp at g5;omega
  have hE:wY 2 ⟨ty,im,fn,tb,me,gl,ex,el,co,da⟩ s=(⟨ty,(gF imN s).1,fn,tb,me,gl,ex,el,co,da⟩,(gF imN s).2):=rfl;refine dG ?_;refine wQ ?_;refine wQ ?_;refine SQ ?_;refine cw [(r,.box 117 (dF s))] call169 (aGW (aHa r) s hs) rfl aC aA ?_;rintro _ Y' ⟨q25,hq25,rfl,rfl⟩ h25;simp only[aN,aQ,and_true]at hq25;have k25:=aV h25;repeat rcases k25 with⟨_,k25⟩
  apply aR;exact aU;refine iE (j:=25) rfl aY (aL bR X) ?_;refine oJ ?_;refine bS ?_;exact aD aE ⟨by rfl,by rw[hE]⟩ aA
 refine cZ ?_;refine aB rfl ?_ ?_<;>intro g7
 ·obtain rfl:no=3:=by simp at g7;omega
  have hE:wY 3 ⟨ty,im,fn,tb,me,gl,ex,el,co,da⟩ s=(⟨ty,im,(gF inN s).1,tb,me,gl,ex,el,co,da⟩,(gF inN s).2):=rfl;refine dG ?_;refine wQ ?_;refine wQ ?_;refine SQ ?_;refine cw [(r,.box 117 (dF s))] call171 (DE (US r) s hs) rfl aC aA ?_;rintro _ Y' ⟨q34,hq34,rfl,rfl⟩ h34;simp only[aN,aQ,and_true]at hq34;have k34:=aV h34;repeat rcases k34 with⟨_,k34⟩
  apply aR;exact aU;refine iE (j:=34) rfl aY (aL bR X) ?_;refine oJ ?_;refine bS ?_;exact aD aE ⟨by rfl,by rw[hE]⟩ aA
 refine cZ ?_;refine aB rfl ?_ ?_<;>intro g9
 ·obtain rfl:no=4:=by simp at g9;omega
  have hE:wY 4 ⟨ty,im,fn,tb,me,gl,ex,el,co,da⟩ s=(⟨ty,im,fn,(UD true s).1,me,gl,ex,el,co,da⟩,(UD true s).2):=rfl;refine dG ?_;refine wQ ?_;refine uW [(r,.box 117 (dF s))] call172 (JI r s hs true) ?_;refine oJ ?_;refine bS ?_;exact aD aE ⟨by rfl,by rw[hE]⟩ aA
 refine cZ ?_;refine aB rfl ?_ ?_<;>intro g11
 ·obtain rfl:no=5:=by simp at g11;omega
  have hE:wY 5 ⟨ty,im,fn,tb,me,gl,ex,el,co,da⟩ s=(⟨ty,im,fn,tb,(UD false s).1,gl,ex,el,co,da⟩,(UD false s).2):=rfl;refine dG ?_;refine wQ ?_;refine uW [(r,.box 117 (dF s))] call172 (JI r s hs false) ?_;refine oJ ?_;refine bS ?_;exact aD aE ⟨by rfl,by rw[hE]⟩ aA
 refine cZ ?_;refine aB rfl ?_ ?_<;>intro g13
 ·obtain rfl:no=6:=by simp at g13;omega
  have hE:wY 6 ⟨ty,im,fn,tb,me,gl,ex,el,co,da⟩ s=(⟨ty,im,fn,tb,me,(gF glN s).1,ex,el,co,da⟩,(gF glN s).2):=rfl;refine dG ?_;refine wQ ?_;refine wQ ?_;refine SQ ?_;refine cw [(r,.box 117 (dF s))] call173 (aGX (aHb r) s hs) rfl aC aA ?_;rintro _ Y' ⟨q57,hq57,rfl,rfl⟩ h57;simp only[aN,aQ,and_true]at hq57;have k57:=aV h57;repeat rcases k57 with⟨_,k57⟩
  apply aR;exact aU;refine iE (j:=57) rfl aY (aL bR X) ?_;refine oJ ?_;refine bS ?_;exact aD aE ⟨by rfl,by rw[hE]⟩ aA
 refine cZ ?_;refine aB rfl ?_ ?_<;>intro g15
 ·obtain rfl:no=7:=by simp at g15;omega
  have hE:wY 7 ⟨ty,im,fn,tb,me,gl,ex,el,co,da⟩ s=(⟨ty,im,fn,tb,me,gl,(gF exN s).1,el,co,da⟩,(gF exN s).2):=rfl;refine dG ?_;refine wQ ?_;refine wQ ?_;refine SQ ?_;refine cw [(r,.box 117 (dF s))] call175 (aGY (aHc r) s hs) rfl aC aA ?_;rintro _ Y' ⟨q66,hq66,rfl,rfl⟩ h66;simp only[aN,aQ,and_true]at hq66;have k66:=aV h66;repeat rcases k66 with⟨_,k66⟩
  apply aR;exact aU;refine iE (j:=66) rfl aY (aL bR X) ?_;refine oJ ?_;refine bS ?_;exact aD aE ⟨by rfl,by rw[hE]⟩ aA
 refine cZ ?_;refine aB rfl ?_ ?_<;>intro g17
 ·obtain rfl:no=9:=by simp at g17;omega
  have hE:wY 9 ⟨ty,im,fn,tb,me,gl,ex,el,co,da⟩ s=(⟨ty,im,fn,tb,me,gl,ex,(gF eeN s).1,co,da⟩,(gF eeN s).2):=rfl;refine dG ?_;refine wQ ?_;refine aBv ?_;refine cw [(r,.box 117 (dF s)),(r3,.box 114 [.ptr r 0])] call177 (aG0 (r:=r) (c:=r3) (by(exact aX)) (aG7 (by(exact aX))) s hs) rfl aC aA ?_;rintro _ Y' ⟨q74,hq74,rfl,rfl⟩ h74;simp only[aN,aQ,and_true]at hq74;repeat rcases hq74 with⟨_,hq74⟩
  have k74:=aV h74;repeat rcases k74 with⟨_,k74⟩
  apply aR;exact aU;refine iE (j:=74) rfl aY (aL bR X) ?_;refine oJ ?_;refine bS ?_;exact aD aE ⟨by rfl,by rw[hE]⟩ aA
 refine cZ ?_;refine aB rfl ?_ ?_<;>intro g19
 ·obtain rfl:no=10:=by simp at g19;omega
  have hE:wY 10 ⟨ty,im,fn,tb,me,gl,ex,el,co,da⟩ s=(⟨ty,im,fn,tb,me,gl,ex,el,(gF PZ s).1,da⟩,(gF PZ s).2):=rfl;refine dG ?_;refine wQ ?_;refine wQ ?_;refine SQ ?_;refine cw [(r,.box 117 (dF s))] call180 (aGZ (aHd r) s hs) rfl aC aA ?_;rintro _ Y' ⟨q83,hq83,rfl,rfl⟩ h83;simp only[aN,aQ,and_true]at hq83;have k83:=aV h83;repeat rcases k83 with⟨_,k83⟩
  apply aR;exact aU;refine iE (j:=83) rfl aY (aL bR X) ?_;refine oJ ?_;refine bS ?_;exact aD aE ⟨by rfl,by rw[hE]⟩ aA
 refine cZ ?_;refine aB rfl ?_ ?_<;>intro g21
 ·obtain rfl:no=11:=by simp at g21;omega
  have hE:wY 11 ⟨ty,im,fn,tb,me,gl,ex,el,co,da⟩ s=(⟨ty,im,fn,tb,me,gl,ex,el,co,(gF ddN s).1⟩,(gF ddN s).2):=rfl;refine dG ?_;refine wQ ?_;refine aBv ?_;refine cw [(r,.box 117 (dF s)),(r3,.box 114 [.ptr r 0])] call182 (aG1 (r:=r) (c:=r3) (by(exact aX)) (aG8 (by(exact aX))) s hs) rfl aC aA ?_;rintro _ Y' ⟨q91,hq91,rfl,rfl⟩ h91;simp only[aN,aQ,and_true]at hq91;repeat rcases hq91 with⟨_,hq91⟩
  have k91:=aV h91;repeat rcases k91 with⟨_,k91⟩
  apply aR;exact aU;refine iE (j:=91) rfl aY (aL bR X) ?_;refine oJ ?_;refine bS ?_;exact aD aE ⟨by rfl,by rw[hE]⟩ aA
 have e1:no≠1:=by(simp at g3;omega)
 have e2:no≠2:=by(simp at g5;omega)
 have e3:no≠3:=by(simp at g7;omega)
 have e4:no≠4:=by(simp at g9;omega)
 have e5:no≠5:=by(simp at g11;omega)
 have e6:no≠6:=by(simp at g13;omega)
 have e7:no≠7:=by(simp at g15;omega)
 have e9:no≠9:=by(simp at g17;omega)
 have e10:no≠10:=by(simp at g19;omega)
 have e11:no≠11:=by(simp at g21;omega)
 have hE:wY no ⟨ty,im,fn,tb,me,gl,ex,el,co,da⟩ s=(⟨ty,im,fn,tb,me,gl,ex,el,co,da⟩,(s.1,true)):=by unfold wY;rw[Db e1];rw[Db e2];rw[Db e3];rw[Db e4];rw[Db e5];rw[Db e6];rw[Db e7];rw[Db e9];rw[Db e10];rw[Db e11]
 refine dB ?_;refine wQ ?_;refine oJ ?_;refine bS ?_;exact aD aE ⟨by rfl,by rw[hE]⟩ aA
theorem QI{s:St}(h:SOk s):mF (CX s).1:=by
 have h1:=iV s h;unfold CX;dsimp only;split
 ·exact⟨X,X⟩
 ·exact⟨by have:=h1.1;simp;omega,fun c hc=>h1.2 c (Bf hc)⟩
theorem aEj{α:Type}{get:St->α×St}{p:α->Prop}(hk:Kp get)(hp:∀s,SOk s->p (get s).1):∀n s,SOk s->(∀x∈(kS get n s).1,p x)/\(kS get n s).1.length<=n
 |0,s,h=>⟨by simp[kS],by simp[kS]⟩
 |n+1,s,h=>by
  rw[kS];split
  ·exact⟨X,X⟩
  ·obtain⟨h1,h2⟩:=aEj hk hp n _ (hk s h);refine⟨fun x hx=> ?_,C8 h2⟩;rcases Av.1 hx with rfl|hx
   ·exact hp s h
   ·exact h1 x hx
theorem JJ{α:Type}{get:St->α×St}{p:α->Prop}(hk:Kp get)(hp:∀s,SOk s->p (get s).1){s:St}(h:SOk s):(∀x∈(gF get s).1,p x)/\(gF get s).1.length<=4294967296:=by
 obtain⟨h1,h2⟩:=aEj hk hp (gW s).1 _ (iV s h);exact⟨h1,A4 h2 (Nat.le_of_lt (yL s))⟩
theorem aHe:ins0.Ok:=⟨V,V,V,V,V⟩
theorem aEk{l:List Nat}(hlt:∀x∈l,x<256):(fP l).1.Ok:=by
 by_cases h:(fP l).2.2=0
 ·exact(BI hlt h).1
 ·have hf:∀x n e,(mH x n e).2.2≠0->(mH x n e).1=ins0:=fun x n e h=>by
   unfold mH at h⊢;split
   ·rfl
   ·next hh=>rw[Db hh]at h;exact absurd rfl h
  have:(fP l).1=ins0:=by
   unfold fP at h⊢;split
   ·rfl
   ·next h1=>
    rw[Db h1]at h;split
    ·rfl
    ·next h2=>
     rw[Db h2]at h;unfold vA at h⊢;dsimp only at h⊢;repeat' split
     all_goals (first|rfl|skip)
     all_goals apply hf
     all_goals simp_all
  rw[this];exact aHe
theorem aHf{s:St}(h:SOk s):-9223372036854775808<=(RQ s).1.2/\(RQ s).1.2<=9223372036854775807:=by
 have h1:=aEk h.2;unfold RQ;dsimp only;split
 ·exact⟨h1.2.2.1,h1.2.2.2.1⟩
 ·exact⟨h1.2.2.1,h1.2.2.2.1⟩
theorem aHg{s:St}(h:SOk s):(PZ s).1.bd.length<=100000/\∀x∈(PZ s).1.bd,x.Ok:=by
 have k1:=aEb _ (iV s h);have hC:PZ s=if(BL (gW s).2).2.2=true then(⟨(BL (gW s).2).1,[]⟩,(BL (gW s).2).2)else(⟨(BL (gW s).2).1,(mJ (BL (gW s).2).2.1).1⟩,xB (BL (gW s).2).2 (mJ (BL (gW s).2).2.1).2.1 ((mJ (BL (gW s).2).2.1).2.2==0)):=rfl
 rw[hC];split
 ·exact⟨X,X⟩
 ·have k2:=k1.2;generalize(BL (gW s).2).2.1=l at k2⊢;by_cases he:(mJ l).2.2=0
  ·obtain⟨h1,h2,h3⟩:=YE k2 he;refine⟨?_,fun x hx=>(h3 x hx).1⟩;have:=PW h1;simp only[cH,Az]at this;dsimp only;omega
  ·rw[(aDO l he).1];exact⟨X,X⟩
theorem aNz(no:Nat){m:Md}(h:m.WO){s:St}(hs:SOk s):(wY no m s).1.WO:=by
 obtain⟨⟨h1,h2,h3,h4,h7⟩,h5,h6⟩:=h;unfold wY;split
 ·exact⟨⟨h1,h2,h3,h4,h7⟩,h5,h6⟩
 split
 ·have:=JJ (p:=fun x:Im=>mF x.mod/\mF x.nm) aEe (fun s hs=>⟨QI hs,QI (FS s hs)⟩) hs;exact⟨⟨this.1,h2,h3,this.2,h7⟩,h5,h6⟩
 split
 ·exact⟨⟨h1,h2,h3,h4,h7⟩,h5,h6⟩
 split
 ·exact⟨⟨h1,h2,h3,h4,h7⟩,h5,h6⟩
 split
 ·exact⟨⟨h1,h2,h3,h4,h7⟩,h5,h6⟩
 split
 ·have:=JJ (p:=fun g:Gl=> -9223372036854775808<=g.n/\g.n<=9223372036854775807) aEf (fun s hs=>aHf (oG _ (AM s hs))) hs;exact⟨⟨h1,h2,h3,h4,h7⟩,h5,this.1⟩
 split
 ·have:=JJ (p:=fun x:Ex=>mF x.nm) aEg (fun s hs=>QI hs) hs;exact⟨⟨h1,this.1,h3,h4,h7⟩,h5,h6⟩
 split
 ·exact⟨⟨h1,h2,h3,h4,h7⟩,h5,h6⟩
 split
 ·have:=JJ (p:=fun c:Co=>c.bd.length<=100000/\∀x∈c.bd,x.Ok) aEc (fun s hs=>aHg hs) hs;exact⟨⟨h1,h2,fun c hc=>(this.1 c hc).1,h4,h7⟩,fun c hc=>(this.1 c hc).2,h6⟩
 split
 ·have:=JJ (p:=fun x:Da=>∀c∈x.bs,c<256) aEh (fun s hs=>(QI (UQ s hs)).2) hs;exact⟨⟨h1,h2,h3,h4,this.1⟩,h5,h6⟩
 ·exact⟨⟨h1,h2,h3,h4,h7⟩,h5,h6⟩
theorem aNA(no:Nat)(m:Md){s:St}(hs:SOk s):SOk (wY no m s).2:=by
 unfold wY;split
 ·exact uE aJo s hs
 split
 ·exact uE aEe s hs
 split
 ·exact uE aEd s hs
 split
 ·exact aJq true s hs
 split
 ·exact aJq false s hs
 split
 ·exact uE aEf s hs
 split
 ·exact uE aEg s hs
 split
 ·exact uE aJr s hs
 split
 ·exact uE aEc s hs
 split
 ·exact uE aEh s hs
 ·exact hs
theorem wo0:md0.WO:=⟨⟨by simp[md0],by simp[md0],by simp[md0],by simp[md0],by simp[md0]⟩,by simp[md0],by simp[md0]⟩
theorem aHh{m:Md}{s:St}(h:(s.1.isEmpty||s.2)=true):DN m s=(m,s):=by
 unfold DN;rw[dlN,Dc h]
theorem aHi{m:Md}{s:St}(h:s.1≠ [])(hb:s.2=false):DN m s=DN (wY (lX s).1 m (gW (lX s).2).2).1 (wY (lX s).1 m (gW (lX s).2).2).2/\(wY (lX s).1 m (gW (lX s).2).2).2.1.length<s.1.length:=by
 have h1:(wY (lX s).1 m (gW (lX s).2).2).2.1.length<s.1.length:=Nat.lt_of_le_of_lt (aJh _ _ _) (Nat.lt_of_le_of_lt (rU _) (aI8 s h hb));refine⟨?_,h1⟩;unfold DN;rw[dlN,Db (by rw[hb];simp[h])];exact CZ _ _ _ _ h1 (Nat.lt_succ_self _)
theorem aK0(b:List Nat):zU b=DN md0 (xB (b, !decide (b.take 8=headB)) 8 true):=by
 unfold zU DN;refine CZ _ _ _ _ ?_ (Nat.lt_succ_self _);exact Nat.lt_succ_of_le (UF _ _ _)
theorem JK(bs ps:List Nat)(h1:bs.length<=1000000)(h2:ps.length<=1000000)(l1:∀c∈bs,c<256)(l2:∀c∈ps,c<256):SCall prog 165 [.str (cB bs),.str (cB ps)] [] (fun x Y=>x=.bool (decide (bs.take ps.length=ps))/\Y=[]):=by
 have hq:((cB ((bs.drop 0).take (ps.length-0))).toList==(cB ps).toList)=decide (bs.take ps.length=ps):=by
  rw[Bu,Nat.sub_zero];exact jL (fun c hc=>l1 c (Bf hc)) l2
 refine bO 18 [0,1,4] func165 ?_;refine cV ?_;by_cases hl:ps.length<=bs.length
 ·have hE:AV.bool (decide (bs.take ps.length=ps))=AV.bool (decide (bs.take ps.length=ps)):=rfl;refine fO ?_;refine Cw ?_;refine B4 ?_;refine Cw ?_;rw[jO,jO];refine C2 ?_;rw[decide_eq_true (show(ps.length:Int)<=bs.length by omega)];refine kH ?_;refine jZ ?_;refine aJS ?_;rw[jO];refine aME ?_;refine jZ ?_;refine aMF ?_;rw[hq];refine kA ?_;exact aD aE ⟨by rw[hE];rfl,rfl⟩ aA
 ·have hE:decide (bs.take ps.length=ps)=false:=decide_eq_false fun e=>by have:=congrArg List.length e;simp at this;omega
  refine fO ?_;refine Cw ?_;refine B4 ?_;refine Cw ?_;rw[jO,jO];refine C2 ?_;rw[decide_eq_false (show¬(ps.length:Int)<=bs.length by omega)];refine kH ?_;refine jZ ?_;refine aJS ?_;refine aME ?_;refine jZ ?_;refine aMF ?_;refine kA ?_;exact aD aE ⟨by rw[hE];rfl,rfl⟩ aA
theorem LQ(bs ps:List Nat)(h1:bs.length<=1000000)(h2:ps.length<=1000000)(l1:∀c∈bs,c<256)(l2:∀c∈ps,c<256):SCall prog 65 [.str (cB bs),.str (cB ps)] [] (fun x Y=>x=.bool (decide (bs.take ps.length=ps))/\Y=[]):=by
 refine bO 8 [0,1,4] func65 ?_;refine mO ?_;refine kY call165 (JK bs ps h1 h2 l1 l2) rfl aO bH ?_;refine cN ?_;exact aD aE ⟨by rfl,rfl⟩ aA
theorem JL{k k2:Rk}(a c:List Nat)(l1:∀x∈a,x<256)(l2:∀x∈c,x<256):SCall prog 70 [.ro 1 (a.map aG) k,.ro 1 (c.map aG) k2] [] (fun x Y=>x=.bool (decide (a=c))/\Y=[]):=by
 refine bO 10 [0,1,4] func70 ?_;refine fK ?_;refine aF5 ?_;refine B4 ?_;refine aF5 ?_;refine C7 ?_;refine cN ?_;exact aD aE ⟨by rw[<-jL l1 l2];rfl,rfl⟩ aA
theorem gR{fr:Fr}{Y Y':dI}{r:Nat}{bt:TypeId}{cs cs':List AV}(hs:SSet Y r (.box bt cs) r (.box bt cs') Y')(hb:BorL Y [] cs cs'):SGo ⟨fr,Y⟩ ⟨fr,Y'⟩:=by
 refine uV [] (fun i x' hi=>⟨x',hi,.refl _⟩) (fun p hp=> ?_);refine⟨X, ?_⟩;rcases Av.1 (hs.sub p hp)with rfl|h
 ·exact⟨_,bV hs.get,.box (aC1 hb)⟩
 ·exact⟨p.2,(fV h).1,.refl _⟩
theorem DF{Y:dI}{ts:List Nat}:BorL Y ts [.ro 0 [] .nil,.ro 0 [] .nil,.ro 0 [] .nil,.bool false,.int .i64 0,.int .i64 0,.bool false,.int .i64 0,.int .i64 0,.ro 0 [] .nil,.ro 0 [] .nil,.ro 0 [] .nil,.ro 0 [] .nil,.ro 0 [] .nil] (aM md0):=
 .cons (.le VLe.empty) (.cons (.le VLe.empty) (.cons (.le VLe.empty) (Df (.cons (.refl _) (.cons (.refl _) (.cons (.le VLe.empty) (.cons (.le VLe.empty) (.cons (.le VLe.empty) (.cons (.le VLe.empty) (.cons (.le VLe.empty) .nil))))))))))
theorem aHj:(zU []).2.2=true:=by decide
theorem aHk{b:List Nat}{m:Md}{z:Bool}(h80:¬8000<b.length)(hB:(zU b).2.2=false)(hM:(zU b).1=m)(hz:z=true->(oE m).map aG=[])(hbn:b≠ [])(g:(if z=true then true else !decide (oE m=b))=true):zV b=(md0,1):=by
 unfold zV;rw[Db h80,Db (by rw[hB];simp),hM,Db];rintro⟨e1,e2⟩;have e3:oE m=b:=by unfold oE;rw[Dc e1,e2]
 rw[e3]at g hz;cases z with
 |true=>exact hbn (by simpa using hz rfl)
 |false=>simp at g
theorem aEl{b:List Nat}{m:Md}{z:Bool}(h80:¬8000<b.length)(hB:(zU b).2.2=false)(hM:(zU b).1=m)(hbn:b≠ [])(g:(if z=true then true else !decide (oE m=b))=false):zV b=(m,0):=by
 have hb:oE m=b:=by cases z with
  |true=>simp at g
  |false=>simpa using g
 have hy:jP m=true:=by
  cases hh:jP m with
  |true=>rfl
  |false=>unfold oE at hb;rw[hh]at hb;exact absurd hb.symm hbn
 unfold oE at hb;rw[Dc hy]at hb;unfold zV;rw[Db h80,Db (by rw[hB];simp),hM,Dc ⟨hy,hb⟩]
theorem DG{a c:List Nat}(h1:∀x∈a,x<256)(h2:∀x∈c,x<256):∀x∈a++c,x<256:=fun x hx=>(A8.1 hx).elim (h1 x) (h2 x)
theorem JM{α:Type}{l:List α}{pt:α->List Nat}(h:∀x∈l,∀c∈pt x,c<256):∀c∈bB l pt,c<256:=DG (mQ _) fun c hc=>by
 obtain⟨x,hx,hc⟩:=List.mem_flatMap.1 hc;exact h x hx c hc
theorem tJ{α:Type}{no:Nat}{l:List α}{pt:α->List Nat}(hno:no<256)(h:∀x∈l,∀c∈pt x,c<256):∀c∈bF no l pt,c<256:=by
 unfold bF;split
 ·simp
 ·intro c hc;rcases Av.1 hc with rfl|hc
  ·exact hno
  ·exact DG (mQ _) (JM h) c hc
theorem aAV(k:Int):∀c∈kB k,c<256:=by unfold kB;split<;>simp
theorem aEm{k n:Int}(hv:nT k n=true)(hn:-9223372036854775808<=n/\n<=9223372036854775807):∀c∈nB k n,c<256:=by
 obtain⟨ho,hm,-⟩:=IX hv hn;exact DG (aAA hm) X
theorem aEn{n:Int}(h:gV n=true):∀c∈rR n,c<256:=by
 have hr:-2147483648<=n/\n<=2147483647:=by unfold gV at h;simpa using h
 intro c hc;rcases Av.1 hc with rfl|hc
 ·decide
 ·exact aEm (k:=1) (n:=n) (by unfold nT;simp;omega) U c hc
theorem aEo(l:Li):∀c∈eL l,c<256:=by
 unfold eL cC;split
 ·intro c hc;rcases Av.1 hc with rfl|hc
  ·decide
  ·exact mQ _ c hc
 ·intro c hc;rcases Av.1 hc with rfl|hc
  ·decide
  ·exact DG (mQ _) (mQ _) c hc
theorem YN{s:List Nat}(h:wG s=true):∀c∈bM s,c<256:=DG (mQ _) (lW h).2.1
theorem aK1{x:Co}(h:uA x=true)(hO:∀i∈x.bd,i.Ok):∀c∈lD x,c<256:=by
 unfold uA at h;simp only[Ap]at h;refine DG (mQ _) (DG (JM fun r _=>DG (mQ _) (aAV _)) (aGC fun i hi=>⟨hO i hi,(bW h.2).2 i hi⟩))
theorem aHl{m:Md}(h:nC m=true)(hw:m.WO):∀c∈eZ m,c<256:=by
 obtain⟨hw,hO1,hO2⟩:=hw;unfold nC at h;simp only[Ap]at h;obtain⟨⟨⟨⟨-,hco⟩,hls⟩,htb⟩,hme⟩:=h;unfold mK at hls;simp only[Ap]at hls;obtain⟨⟨⟨⟨⟨⟨hty,him⟩,hfn⟩,hgl⟩,hex⟩,hel⟩,hda⟩:=hls;unfold eZ;refine DG (DG (DG (DG (DG (DG (DG (DG (DG (DG ?_ ?_) ?_) ?_) ?_) ?_) ?_) ?_) ?_) ?_) ?_
 ·decide
 ·refine tJ V fun x _ c hc=> ?_
  rcases Av.1 hc with rfl|hc
  ·decide
  ·exact DG (JM fun k _=>aAV k) (JM fun k _=>aAV k) c hc
 ·refine tJ V fun x hx=> ?_
  have:=(bW him).2 x hx;simp only[Ap]at this;exact DG (DG (DG (YN this.1.1) (YN this.1.2)) X) (mQ _)
 ·exact tJ V fun x _=>mQ _
 ·refine tJ V fun x _ c hc=> ?_
  rcases Av.1 hc with rfl|hc
  ·decide
  ·exact aEo x c hc
 ·exact tJ V fun x _=>aEo x
 ·refine tJ V fun x hx=> ?_
  exact DG (DG (aAV _) (by intro c hc;rw[A1.1 hc];split<;>decide)) (aEm ((bW hgl).2 x hx) (hO2 x hx))
 ·refine tJ V fun x hx=> ?_
  have:=(bW hex).2 x hx;simp only[Ap]at this;exact DG (DG (YN this.1) X) (mQ _)
 ·refine tJ V fun x hx=> ?_
  have:=(bW hel).2 x hx;simp only[Ap]at this;exact DG (aEn this.1) (JM fun n _=>mQ _)
 ·exact tJ V fun x hx=>aK1 ((bW hco).2 x hx) (hO1 x hx)
 ·refine tJ V fun x hx=> ?_
  have:=(bW hda).2 x hx;simp only[Ap]at this;exact DG (DG (aEn this.1) (mQ _)) (hw.da x hx)
theorem QJ{m:Md}(h:m.WO):∀c∈oE m,c<256:=by
 unfold oE;split
 ·next hy=>exact aHl (oF hy).1 h
 ·simp
theorem yM(b:List Nat)(hb:b.length<=100000)(hlt:∀c∈b,c<256):SCall prog 20 [.ro 1 (b.map aG) .any] []
  (fun y Y=>y=.tup [.agg (aM (zV b).1),.int .i64 (zV b).2]/\Y=[]):=by
 have hs0:SOk (b, !decide (b.take headB.length=headB)):=⟨hb,hlt⟩
 have k0:=NH hs0 8 true;have hP:=aK0 b;have wsk:=fun r=>DD r (b, !decide (b.take headB.length=headB)) hs0 8 true
 refine bO 59 [0,2,3,4,5,6,7,10,33,45,56] func20 ?_;refine dB ?_;refine iD fun r2 h2=> ?_;intros;refine cN ?_;refine dO (gR (r:=r2) bK DF) ?_;refine fO ?_;refine vP ?_;refine tP ?_;refine aB rfl ?_ ?_<;>intro g1
 ·have hE:zV b=(md0,4):=by unfold zV;rw[Dc (by simp at g1;omega)]
  refine sN ?_;refine PB ?_;refine dO (gR (r:=r2) bK DF) ?_;refine aI ?_;exact aD aE ⟨by rw[hE];rfl,rfl⟩ aA
 have h80:¬8000<b.length:=by simp at g1;omega
 refine dB ?_;refine iD fun r4 h4=> ?_;intros;refine iM ?_;refine dO (gR (r:=r4) bK DF) ?_;refine kV ?_;refine aF5 ?_;refine kY call65 (LQ b headB U V hlt V) rfl aO bH ?_;refine Cd ?_;refine mM ?_;refine fZ fun r18 h18=> ?_;intros;refine gX ?_;refine cw [(r18,.box 117 (dF (b, !decide (b.take headB.length=headB))))] call66 (wsk r18) rfl aC aA ?_;rintro _ Y' ⟨rfl,rfl⟩ h20;refine fN ?_;rw[show xB (b, !decide (b.take headB.length=headB)) ((8:Nat):Int) true=xB (b, !decide (b.take 8=headB)) 8 true from rfl];rw[show xB (b, !decide (b.take headB.length=headB)) 8 true=xB (b, !decide (b.take 8=headB)) 8 true from rfl]at k0;generalize xB (b, !decide (b.take 8=headB)) 8 true=s0 at k0 hP⊢;refine lp (β:=Md×St) (fun x=>⟨[(0,.ro 1 (b.map aG) .any),(2,.ptr r2 0),(4,.ptr r4 0),(5,.ptr r18 0)],[(r18,.box 117 (dF x.2)),(r4,.box 33 (aM x.1)),(r2,.box 33 (aM md0))]⟩) (fun x=>x.1.WO/\SOk x.2/\DN x.1 x.2=zU b) (fun x=>x.2.1.length) (md0,s0) aH ⟨wo0,k0,hP.symm⟩ ?_;rintro⟨m,⟨l,bad⟩⟩ ⟨hwo,hs,hD⟩;dsimp only at hwo hs hD⊢;unfold dF;dsimp only;refine dG ?_;refine tV ?_;refine xU ?_;refine aB rfl ?_ ?_<;>intro g6
 ·obtain rfl:bad=false:=by cases bad with|false=>rfl|true=>simp at g6
  have hne:l≠ []:=by intro e;subst e;simp at g6
  have wb:=pG r18 (l,false) hs;have kb:=oG (l,false) hs;have wn:=kE r18 _ kb;have kn:=iV _ kb;have hbl:(lX (l,false)).1<256:=by cases l with|nil=>exact absurd rfl hne|cons x t=>exact hs.2 x Au
  have ws:=YM r18 r4 (by(exact aX)) _ kn m (lX (l,false)).1;have hst:=aHi (m:=m) (s:=(l,false)) hne rfl;have kw:=aNz (lX (l,false)).1 hwo kn;have ks:=aNA (lX (l,false)).1 m kn;refine dG ?_;refine uW [(r18,.box 117 (dF (l,false)))] call67 wb ?_;refine z44 ?_;refine gX ?_;refine cw [(r18,.box 117 (dF (lX (l,false)).2))] call68 wn rfl aC aA ?_;rintro _ Y' ⟨rfl,rfl⟩ h38;refine fN ?_;refine kV ?_;refine cw [(r18,.box 117 (dF (gW (lX (l,false)).2).2)),(r4,.box 33 (aM m))] call69 ws rfl aC aA ?_;rintro _ Y' ⟨rfl,rfl⟩ h41;refine fN ?_;refine⟨wY (lX (l,false)).1 m (gW (lX (l,false)).2).2,⟨kw,ks,hst.1.symm.trans hD⟩,hst.2, ?_⟩;exact aH
 have hz:DN m (l,bad)=(m,(l,bad)):=aHh (by cases bad with|true=>simp|false=>(cases l with|nil=>rfl|cons x t=>(simp at g6<;>omega)));rw[hz]at hD;refine vZ ?_;refine iM ?_;refine aB rfl ?_ ?_<;>intro g10
 ·have hE:zV b=(md0,1):=by unfold zV;rw[Db h80,Dc (by rw[<-hD];exact g10)]
  refine sN ?_;refine PB ?_;refine dO (gR (r:=r2) bK DF) ?_;refine aI ?_;exact aD aE ⟨by rw[hE];rfl,rfl⟩ aA
 refine aI ?_;obtain⟨ty,im,fn,tb,me,gl,ex,el,co,da⟩:=m;refine jD ?_;refine jY ?_;refine tE call18 (sS ⟨ty,im,fn,tb,me,gl,ex,el,co,da⟩ hwo) rfl bL kK ?_;rintro _ Y' ⟨q48,rfl,rfl⟩ h48
 replace h48:=bU h48;repeat rcases h48 with⟨_,h48⟩
 apply aR;exact aU;refine iE (j:=48) rfl aY (aL bR X) ?_;refine cN ?_;have hB:(zU b).2.2=false:=by rw[<-hD];exact g10
 have hM:(zU b).1=⟨ty,im,fn,tb,me,gl,ex,el,co,da⟩:=by rw[<-hD]
 have hbn:b≠ []:=by intro e;rw[e,aHj]at hB;cases hB
 refine fO ?_;refine ne rfl rfl rfl fun z hz _=> ?_
 refine kH ?_;refine jZ ?_;refine kL rfl rfl call70 (fun _=>(JL (oE ⟨ty,im,fn,tb,me,gl,ex,el,co,da⟩) b (QJ hwo) hlt)) rfl aO bH ?_;refine xS ?_;refine aB rfl ?_ ?_<;>intro g13
 ·have hE:=aHk h80 hB hM hz hbn g13;refine sN ?_;refine PB ?_;refine dO (gR (r:=r2) bK DF) ?_;refine aI ?_;exact aD aE ⟨by rw[hE];rfl,rfl⟩ aA
 have hE:=aEl h80 hB hM hbn g13;refine mE ?_;refine FJ ?_;exact aD aE ⟨by rw[hE];rfl,rfl⟩ aA
section
variable {r p q : Nat} {m : Md} {lv : AV}
theorem HJ(hN:Nm r p q)(s:PS)(hs:s.cs.length<=1000000)(op kd:Int):SCall prog 76 [.ptr r 0,.int .i64 op,.int .i64 kd] (dL r p q m lv s) (fun _ Y=>∃e,Nm r p e/\Y=dL r p e m lv (openP s op kd)):=by
 obtain⟨vs,zs,b⟩:=s;obtain⟨n1,n2,n3⟩:=hN;dsimp only at hs;refine bO 23 [0,1,2] func76 ?_;unfold dL mT;dsimp only;refine aI ?_;refine eK (Ac [0,1,2,3,4,5,6,7,8,9,10,11,12] (Ad 13 (Ad 14 (Ac [15,16] (Ad 17 []))))) ?_;refine EG ?_;refine wV ?_;refine FL ?_;refine SJ ?_;refine CH fun r19 h19=> ?_;intros;refine eW rfl ((zs++ [(⟨op,kd,vs.length,false⟩:Ct)]).map nL) (zs++ [(⟨op,kd,vs.length,false⟩:Ct)]).length ?_;refine bG fun r20 h20=> ?_;intros;refine XF ?_;refine IH ?_;refine vW ?_;refine bS ?_;exact aD aE ⟨r20,by exact⟨by(exact aX),by(exact aX),by(exact aX)⟩,rfl⟩ aA
theorem QK(hN:Nm r p q)(s:PS)(h:s.Gd):SCall prog 79 [.ptr r 0] (dL r p q m lv s) (fun y Y=>y=.agg (nL s.top)/\Y=dL r p q m lv (gL s)):=by
 have hd:gL s=⟨(dQ s (aZ s.top.kd)).vs,(dQ s (aZ s.top.kd)).cs.dropLast,(dA (dQ s (aZ s.top.kd)) (((dQ s (aZ s.top.kd)).vs.length:Int)==s.top.ht)).bad⟩:=rfl;have hp:=h.pops (aZ s.top.kd);have hcs:=qU s (aZ s.top.kd);rw[hd];obtain⟨i,hi⟩:=h.cut;generalize s.top=t at hi hcs hp⊢;have hpa:=fun(hN:Nm r p q)=>lY (m:=m) (lv:=lv) hN s h (aZ t.kd) (by have:=rT t.kd;omega)
 generalize dQ s (aZ t.kd)=s1 at hcs hp hpa⊢;have hbc:=h.bc;have hbv:=h.bv;have hbv1:=hp.bv;obtain⟨vs,zs,b⟩:=s;obtain⟨vs1,zs1,b1⟩:=s1;dsimp only at hi hcs hbc hbv hbv1;subst hi hcs;rw[yJ]at hbc;obtain⟨n1,n2,n3⟩:=hN;have hel:=uD (l:=i.map nL) (x:=nL t) (n:=i.length) X;refine bO 46 [0,2,3] func79 ?_;unfold dL mT;dsimp only;rw[yJ,JG];refine dB ?_;refine iD fun r2 h2=> ?_;intros;refine iM ?_;refine eK (Ac [0,1,2,3,4,5,6,7,8,9,10,11] (Ad 12 (Ad 13 []))) ?_;refine lS ?_;refine tT ?_;refine vU ?_;apply dal;rfl;infer_instance;rfl;exact rK;refine gD fun r3 h3=> ?_;intros;refine EH ?_;refine oA ?_;refine uW [] call191 (vG t.kd) ?_;refine cw (dL r p q m lv ⟨vs,i++ [t],b⟩) call192 (hpa ⟨n1,n2,n3⟩) rfl aC cA ?_;rintro _ Y' rfl h20;refine nR ?_;refine eK (Ac [0,1,2,3,6,7] (Ad 4 (Ac [5,8] (Ad 9 [])))) ?_;refine B5 ?_;refine pO ?_;refine eQ ?_;first|refine dhl rfl (bE (E rfl) rfl bR (fun _=>rfl)) rfl ?_ |refine dhl rfl (bE (E rfl) rfl bR (fun _=>by assumption)) rfl ?_ |refine dhl rfl (dJ (E rfl) rfl (fun hc=>by first|rfl|exact cU (by assumption)|assumption|exact cU (hY U)) (fun _=>rfl)) rfl ?_
 refine SI ?_;refine z79 ?_;refine pB (dL r p q m lv ⟨vs1,i++ [t],b1⟩) rfl call189 (lA ⟨n1,n2,n3⟩ _ ((vs1.length:Int)==t.ht)) rfl aC cA aD2 ?_;rintro _ Y' rfl h30;refine TB ?_;refine oI ?_;dsimp only[dA];rw[yJ,JG];refine Cf ?_;refine EG ?_;refine tT ?_;refine z25 ?_;refine XF ?_;refine IH ?_;refine vW ?_;rw[rV];refine dO (pE (o:=q) i.length bK) ?_;rw[show List.take i.length (i.map nL++ [nL t])=i.map nL by rw[List.take_left' X]];rw[List.dropLast_concat];refine jD ?_;refine jY ?_;refine fR ?_;exact aD aE ⟨by rfl,rfl⟩ aA
theorem HK(hN:Nm r p q)(s:PS)(h:s.Gd):SCall prog 187 [.ptr r 0] (dL r p q m lv s) (fun _ Y=>Y=dL r p q m lv (pR s)):=by
 have hd:pR s=⟨s.vs.take s.top.ht,s.cs.dropLast++ [⟨s.top.op,s.top.kd,s.top.ht,true⟩],s.bad⟩:=rfl;rw[hd];obtain⟨i,hi⟩:=h.cut;have h0:=h.toOk0;generalize s.top=t at hi⊢;have hbc:=h.bc;have hbv:=h.bv;obtain⟨vs,zs,b⟩:=s;dsimp only at hi hbc hbv;subst hi;rw[yJ]at hbc;obtain⟨-,hh,-⟩:=h0.split;obtain⟨n1,n2,n3⟩:=hN;have hel:=uD (l:=i.map nL) (x:=nL t) (n:=i.length) X;refine bO 29 [0,2] func187 ?_;unfold dL mT;dsimp only;rw[yJ,JG];refine aI ?_;refine eK (Ac [0,1,2,3,4,5,6,7,8,9,10,11] []) ?_;refine lS ?_;refine tT ?_;refine z56 ?_;refine tQ ?_;refine eK (Ac [0,1,2,3,4,5,6,7,8,9,10,11,12] (Ad 13 (Ac [14,15] (Ad 16 [])))) ?_;refine wV ?_;refine lS ?_;refine aJV ?_;refine eS rfl (jW (E rfl) rfl V) rfl ?_;refine eS rfl (jS (E rfl) rfl bR (fun _=>hel) (fun _=>rfl)) rfl ?_;refine z25 ?_;refine XF ?_;refine IH ?_;refine XQ ?_;refine XF ?_;refine eS rfl (jW (E rfl) rfl V) rfl ?_;apply aJG;rfl;infer_instance;rfl;rfl;rfl;rfl;exact bK;exact atT;exact IG;rfl;exact eC;refine oI ?_;rw[NE X];refine CW (pE (o:=p) t.ht bK) ?_
 rw[<-List.map_take,List.dropLast_concat,yJ,JG,show t.ht-0=(vs.take t.ht).length by rw[Bi];omega];refine bS ?_;apply aD;exact aE
 ·rfl
 ·exact aA
theorem DH(hN:Nm r p q)(s:PS)(hs:s.cs.length<=1000000)(n:Int)(hn:0<=n):SCall prog 193 [.ptr r 0,.int .i64 n] (dL r p q m lv s) (fun y Y=>y=.ro 1 ((cR s n).1.map aK) .any/\Y=dL r p q m lv (cR s n).2):=by
 obtain⟨vs,zs,b⟩:=s;obtain⟨n1,n2,n3⟩:=hN;dsimp only at hs;refine bO 36 [0,1,4,5,12,32] func193 ?_;unfold dL mT;dsimp only;refine mO ?_;refine tV ?_;refine IL ?_;refine aB rfl ?_ ?_<;>intro g1
 ·have hP:cR ⟨vs,zs,b⟩ n=([],⟨vs,zs,true⟩):=Dc g1;rw[hP];refine rO ?_;refine mG ?_;refine tR ?_;refine dO (fH (j:=4) (y:=.ro 1 (([]:List Int).map aK) .any) rfl VLe.empty) ?_;refine aI ?_;exact aD aE ⟨by rfl,rfl⟩ aA
 have hlt:n<zs.length:=by simp at g1;omega
 obtain⟨t,ht⟩:=Aa zs (zs.length-1-n.toNat) U
 have hP:cR ⟨vs,zs,b⟩ n=(if(t.op==3)=true then []else aZ t.kd,⟨vs,zs,b⟩):=by unfold cR;rw[Db (C8 g1)];dsimp only;rw[Ax,ht];rfl
 rw[hP];have hel:(zs.map nL)[(((zs.length:Nat):Int)-1-n).toNat]? =some (nL t):=by rw[show(((zs.length:Nat):Int)-1-n).toNat=zs.length-1-n.toNat by omega,Bg,ht];rfl
 refine aI ?_;refine eK (Ac [0,1,2,3,4,5,6,7,8,9,10,11,12,13] (Ad 14 (Ad 15 []))) ?_;refine lS ?_;refine tT ?_;refine B5 ?_;refine z82 ?_;refine vU ?_;apply dal;rfl;infer_instance;rfl;exact rK;refine gD fun r5 h5=> ?_;intros;refine EH ?_;refine eY ?_;refine sH ?_;refine aB rfl ?_ ?_<;>intro g5
 ·rw[Dc g5];refine tR ?_;refine dO (fH (j:=4) (y:=.ro 1 (([]:List Int).map aK) .any) rfl VLe.empty) ?_;refine aI ?_;exact aD aE ⟨by rfl,rfl⟩ aA
 rw[Db (by simp[g5])];refine eY ?_;refine cw [] call191 (vG t.kd) rfl aC aA ?_;rintro _ Y' ⟨rfl,rfl⟩ h35;refine fF ?_;exact aD aE ⟨by rfl,rfl⟩ aA
theorem uF(hN:Nm r p q)(s:PS)(n:Int):SCall prog 74 [.ptr r 0,.int .i64 n] (dL r p q m lv s) (fun y Y=>y=.tup [.agg (cD (cF m n).1),.bool (cF m n).2]/\Y=dL r p q m lv s):=by
 obtain⟨vs,zs,b⟩:=s;obtain⟨n1,n2,n3⟩:=hN;refine bO 27 [0,1,4,5,17] func74 ?_;unfold dL mT;dsimp only;refine dB ?_;refine iD fun r4 h4=> ?_;intros;refine gX ?_;refine xL ?_;refine jZ ?_;refine aJP ?_;refine aJQ ?_;refine GK ?_;refine CA ?_
 (first|refine ln rfl rfl rfl rfl ?_ |(refine gy rfl rfl ?_;refine lo (dH aa aa) rfl ?_)|refine lg rfl rfl (dH aa aa) rfl ?_);refine uY ?_;refine aB rfl ?_ ?_<;>intro g1
 ·have hP:cF m n=(qM,false):=Dc g1;rw[hP];refine sN ?_;refine PB ?_;refine dO (gR (r:=r4) (cs':=cD qM) bK (.cons (.le VLe.empty) (.cons (.le VLe.empty) .nil))) ?_;refine aI ?_;exact aD aE ⟨by rfl,rfl⟩ aA
 have hlt:0<=n/\n<m.ty.length:=by constructor<;>(apply Int.not_lt.1;intro hc;apply Bool.false_ne_true;rw[<-g1];simp;omega)
 obtain⟨t,ht⟩:=Aa m.ty n.toNat U
 have hP:cF m n=(t,true):=by unfold cF;rw[Db (C8 g1)];rw[Ax,ht];rfl
 rw[hP];refine rO ?_;refine pD ?_;refine sI ?_;refine FJ ?_;exact aD aE ⟨by rfl,rfl⟩ aA
theorem DI{ls:List Int}(hN:Nm r p q)(s:PS)(n:Int)(hn:0<=n):SCall prog 197 [.ptr r 0,.int .i64 n] (dL r p q m (.ro 1 (ls.map aK) .any) s) (fun y Y=>y=.int .i64 (cT ls s n).1/\Y=dL r p q m (.ro 1 (ls.map aK) .any) (cT ls s n).2):=by
 obtain⟨vs,zs,b⟩:=s;obtain⟨n1,n2,n3⟩:=hN;refine bO 22 [0,1,4,11] func197 ?_;unfold dL mT;dsimp only;refine mO ?_;refine tV ?_;refine IL ?_;refine aB rfl ?_ ?_<;>intro g1
 ·have hP:cT ls ⟨vs,zs,b⟩ n=(0,⟨vs,zs,true⟩):=Dc g1;rw[hP];refine rO ?_;refine mG ?_;refine cV ?_;exact aD aE ⟨by rfl,rfl⟩ aA
 obtain⟨t,ht⟩:∃t,ls[n.toNat]? =some t:=⟨_,Ar (by simp at g1;omega)⟩
 have hlt:n<ls.length:=by simp at g1;omega
 have hP:cT ls ⟨vs,zs,b⟩ n=(t,⟨vs,zs,b⟩):=by unfold cT;rw[Db (C8 g1)];rw[Ax,ht];rfl
 rw[hP];refine vZ ?_;refine nX ?_;refine cN ?_;exact aD aE ⟨by rfl,rfl⟩ aA
theorem NL(hN:Nm r p q)(s:PS)(n:Int)(hn:0<=n):SCall prog 198 [.ptr r 0,.int .i64 n] (dL r p q m lv s) (fun y Y=>y=.agg (dX (dZ m s n).1)/\Y=dL r p q m lv (dZ m s n).2):=by
 obtain⟨vs,zs,b⟩:=s;obtain⟨n1,n2,n3⟩:=hN;refine bO 25 [0,1,4,12] func198 ?_;unfold dL mT;dsimp only;refine dB ?_;refine iD fun r4 h4=> ?_;intros;refine iM ?_;refine kV ?_;refine qB ?_;refine qA ?_;refine IL ?_;refine aB rfl ?_ ?_<;>intro g1
 ·have hP:dZ m ⟨vs,zs,b⟩ n=(NA,⟨vs,zs,true⟩):=Dc g1;rw[hP];refine rO ?_;refine mG ?_;refine sN ?_;refine fR ?_;exact aD aE ⟨by rfl,rfl⟩ aA
 obtain⟨t,ht⟩:∃t,m.gl[n.toNat]? =some t:=⟨_,Ar (by simp at g1;omega)⟩
 have hlt:n<m.gl.length:=by simp at g1;omega
 have hP:dZ m ⟨vs,zs,b⟩ n=(t,⟨vs,zs,b⟩):=by unfold dZ;rw[Db (C8 g1)];rw[Ax,ht];rfl
 rw[hP];refine rO ?_;refine pD ?_;refine sI ?_;refine fR ?_;exact aD aE ⟨by rfl,rfl⟩ aA
end
section
variable {r p q : Nat} {m : Md} {lv : AV}
theorem UT(hN:Nm r p q)(s:PS)(hi:m.im.length<=1000000)(f:Int)(hf:0<=f)(hf2:f<=9223372036854775807):SCall prog 196 [.ptr r 0,.int .i64 f] (dL r p q m lv s) (fun y Y=>y=.tup [.agg (cD (cF m (lI m f)).1),.bool (cF m (lI m f)).2]/\Y=dL r p q m lv s):=by
 obtain⟨vs,zs,b⟩:=s;have hN0:=hN;obtain⟨n1,n2,n3⟩:=hN;refine bO 51 [0,1,4,5,6,7,16,35] func196 ?_;unfold dL mT;dsimp only;refine dB ?_;refine iD fun r4 h4=> ?_;intros;refine iT ?_;refine gX ?_;refine qB ?_;refine qA ?_;refine pP ?_;refine sG ?_;refine aB rfl ?_ ?_<;>intro g3
 ·have hlt:f<m.im.length:=C8 g3
  obtain⟨x,hx⟩:=Aa m.im f.toNat U
  have hP:lI m f=x.ty:=by unfold lI;rw[Dc g3,Ax,hx];rfl
  rw[hP];refine rO ?_;refine pD ?_;refine rN ?_;refine pP ?_;refine cw (dL r p q m lv ⟨vs,zs,b⟩) call74 (uF hN0 _ _) rfl aC cA ?_;rintro _ Y' ⟨rfl,rfl⟩ h48;refine tO ?_;refine OX ?_;refine FJ ?_;exact aD aE ⟨by rfl,rfl⟩ aA
 have hge:¬f<m.im.length:=C8 g3
 refine cJ ?_;refine tN ?_;refine B4 ?_;refine qB ?_;refine qA ?_;refine sG ?_;refine aB rfl ?_ ?_<;>intro g5
 ·have hlt:f-m.im.length<m.fn.length:=C8 g5
  obtain⟨x,hx⟩:=Aa m.fn ((f-m.im.length).toNat) U
  have hP:lI m f=x:=by unfold lI;rw[Db (C8 g3),Dc g5,Ax,hx];rfl
  rw[hP];refine rO ?_;refine pD ?_;refine LG ?_;refine tN ?_;refine mD ?_;refine pP ?_;refine cw (dL r p q m lv ⟨vs,zs,b⟩) call74 (uF hN0 _ _) rfl aC cA ?_;rintro _ Y' ⟨rfl,rfl⟩ h48;refine tO ?_;refine OX ?_;refine FJ ?_;exact aD aE ⟨by rfl,rfl⟩ aA
 have hP:lI m f=-1:=by unfold lI;rw[Db (C8 g3),Db (C8 g5)]
 rw[hP];refine cJ ?_;refine cw (dL r p q m lv ⟨vs,zs,b⟩) call74 (uF hN0 _ _) rfl aC cA ?_;rintro _ Y' ⟨rfl,rfl⟩ h48;refine tO ?_;refine OX ?_;refine FJ ?_;exact aD aE ⟨by rfl,rfl⟩ aA
theorem UU(hN:Nm r p q)(s:PS)(h:s.Gd)(t:FT)(ht:t.Sm)(ok:Bool):SCall prog 195 [.ptr r 0,.agg (cD t),.bool ok] (dL r p q m lv s) (fun _ Y=>∃e,Nm r e q/\Y=dL r e q m lv (rS s t ok)):=by
 obtain⟨pr,rs⟩:=t;obtain⟨ht1,ht2⟩:=ht;dsimp only at ht1 ht2;have hN0:=hN;obtain⟨n1,n2,n3⟩:=hN;have h1:=h.need ok;have h2:=h1.pops pr;refine bO 17 [0,1,2,4] func195 ?_;unfold dL mT
 (try dsimp only);refine dB ?_;refine fZ fun r4 h4=> ?_;intros;refine iM ?_;refine kV ?_;refine cw (dL r p q m lv s) call189 (lA hN0 s ok) rfl aC cA ?_;rintro _ Y' rfl h8;refine nR ?_;refine lT ?_;refine cw (dL r p q m lv (dA s ok)) call192 (lY hN0 _ h1 pr U) rfl aC cA ?_;rintro _ Y' rfl h12;refine nR ?_;refine lT ?_;refine cw (dL r p q m lv (dQ (dA s ok) pr)) call190 (mV hN0 _ h2.bv rs U) rfl aC cA ?_;rintro _ Y' ⟨e,hE,rfl⟩ h16;unfold dL mT;(try dsimp only);obtain⟨e1,e2,e3⟩:=id hE;refine fN ?_;refine bS ?_;exact aD aE ⟨e,hE,rfl⟩ aA
theorem nM(hN:Nm r p q)(s:PS)(h:s.Gd)(x:Ins)(al:Int)(tk mk:List Int)(ht:tk.length<=1000)(hm:mk.length<=1000):SCall prog 199 [.ptr r 0,.agg (iv .any x),.int .i64 al,.ro 1 (tk.map aK) .any,.ro 1 (mk.map aK) .any] (dL r p q m lv s) (fun _ Y=>∃e,Nm r e q/\Y=dL r e q m lv (gP m s x al tk mk)):=by
 have hN0:=hN;obtain⟨n1,n2,n3⟩:=hN;have h1:=h.need (if m.me.has=true then decide (x.a<=al)else false);have h2:=h1.pops tk;unfold iv;refine bO 30 [0,1,2,3,4,6] func199 ?_;unfold dL mT
 (try dsimp only);refine dB ?_;refine fZ fun r6 h6=> ?_;intros;refine iM ?_;refine kV ?_;refine qB ?_;refine oN ?_;refine qI ?_;refine aC6 ?_;refine sF ?_;refine cw (dL r p q m lv s) call189 (lA hN0 s (if m.me.has=true then decide (x.a<=al)else false)) rfl aC cA ?_;rintro _ Y' rfl h23;refine nR ?_;refine kV ?_;refine cw (dL r p q m lv (dA s (if m.me.has=true then decide (x.a<=al)else false))) call192 (lY hN0 _ h1 tk U) rfl aC cA ?_;rintro _ Y' rfl h26;refine nR ?_;refine kV ?_;refine cw (dL r p q m lv (dQ (dA s (if m.me.has=true then decide (x.a<=al)else false)) tk)) call190 (mV hN0 _ h2.bv mk hm) rfl aC cA ?_;rintro _ Y' ⟨e,hE,rfl⟩ h29;unfold dL mT;(try dsimp only);obtain⟨e1,e2,e3⟩:=id hE;refine fN ?_;refine bS ?_;exact aD aE ⟨e,hE,rfl⟩ aA
theorem PS.Gd.label {s:PS}(h:s.Gd)(n:Int):(cR s n).2.Gd:=⟨h.toOk.label n,by rw[yF];exact h.bv,by rw[yE];exact h.bc⟩
theorem PS.Gd.tabs {s:PS}(h:s.Gd)(w l:List Int):(l.foldl (zT w) s).Gd:=by
 obtain⟨h1,h2,h3⟩:=CU w l s;exact⟨h3 h.toOk,by rw[h2];exact h.bv,by rw[h1];exact h.bc⟩
theorem aK2{a b:List Int}(ha:a.length<=1)(hb:b.length<=1):(a=[]/\b=[])\/(a=[]/\∃v,b=[v])\/((∃g,a=[g])/\b=[])\/∃g v,a=[g]/\b=[v]:=by
 match a,b,ha,hb with
 |[],[],_,_=>exact .inl ⟨rfl,rfl⟩
 |[],[v],_,_=>exact .inr (.inl ⟨rfl,v,rfl⟩)
 |[g],[],_,_=>exact .inr (.inr (.inl ⟨⟨g,rfl⟩,rfl⟩))
 |[g],[v],_,_=>exact .inr (.inr (.inr ⟨g,v,rfl,rfl⟩))
theorem aEp{w l:List Int}{s:PS}{j:Nat}{n:Int}(h:l[j]? =some n):(l.take (j+1)).foldl (zT w) s=dA (cR ((l.take j).foldl (zT w) s) n).2 (eq1 (cR ((l.take j).foldl (zT w) s) n).1 w):=by
 rw[Al,h,List.foldl_append];rfl
theorem aEq(hN:Nm r p q)(s:PS)(h:s.Gd)(x:Ins)(ha:0<=x.a)(hl:∀n∈x.l,0<=n)(hll:x.l.length<=1000000):SCall prog 194 [.ptr r 0,.agg (iv .any x)] (dL r p q m lv s) (fun _ Y=>Y=dL r p q m lv (vC s x)):=by
 have hN0:=hN;obtain⟨n1,n2,n3⟩:=hN;have h1:=h.pop 1;have h2:=h1.label x.a;have hw:=oV (cO s 1).2 x.a;have hT:vC s x=pR (dQ (x.l.foldl (zT (cR (cO s 1).2 x.a).1) (cR (cO s 1).2 x.a).2) (cR (cO s 1).2 x.a).1):=rfl;rw[hT];have cl:=DH (m:=m) (lv:=lv) hN0 (cO s 1).2 h1.bc x.a ha;generalize(cR (cO s 1).2 x.a).2=s2 at h2 cl⊢;generalize(cR (cO s 1).2 x.a).1=w at hw cl⊢;obtain⟨xo,xa,xb,xl⟩:=x;dsimp only at ha hl hll cl⊢;unfold iv;refine bO 51 [0,1,3,4,6,7,15,16,17,18] func194 ?_;unfold dL mT
 (try dsimp only);refine dB ?_;refine fZ fun r3 h3=> ?_;intros;refine sQ ?_;refine cw (dL r p q m lv s) call188 (qE hN0 s h 1) rfl aC cA ?_;rintro _ Y' ⟨rfl,rfl⟩ h9;refine nR ?_;refine lT ?_;refine cw (dL r p q m lv (cO s 1).2) call193 cl rfl aC cA ?_;rintro _ Y' ⟨rfl,rfl⟩ h13;unfold dL mT;(try dsimp only);refine fF ?_;refine jD ?_;refine sM ?_;refine lp (β:=Nat) (fun j=>⟨[(0,.ptr r 0),(3,.ptr r3 0),(4,.ro 1 (w.map aK) .any),(15,.ro 1 (xl.map aK) .any),(16,.int .i64 xl.length),(17,.int .i64 j)],(r3,.box 46 [.int .i64 xo,.int .i64 xa,.int .i64 xb,.ro 1 (xl.map aK) .any])::dL r p q m lv ((xl.take j).foldl (zT w) s2)⟩) (fun j=>j<=xl.length) (fun j=>xl.length-j) 0 (by unfold dL mT;(try dsimp only);exact aH) (Am _) ?_;intro j hj
 (try dsimp only);have hS:=h2.tabs w (xl.take j);refine gN ?_;refine aB rfl ?_ ?_<;>intro g4
 ·obtain⟨n,hn⟩:∃n,xl[j]? =some n:=⟨_,Ar (by simp at g4;omega)⟩
  have hlt:j<xl.length:=(Ai.1 hn).1;have hn0:=hl n (Ah hn);have hnx:=aEp (w:=w) (s:=s2) hn;generalize(xl.take j).foldl (zT w) s2=S at hS hnx⊢;unfold dL mT
  (try dsimp only);refine dB ?_;refine mD ?_;refine pP ?_;refine cw (dL r p q m lv S) call193 (DH hN0 S hS.bc n hn0) rfl aC cA ?_;rintro _ Y' ⟨rfl,rfl⟩ h23;unfold dL mT;(try dsimp only);refine fF ?_;obtain⟨ea,eb⟩|⟨ea,v,eb⟩|⟨⟨g,ea⟩,eb⟩|⟨g,v,ea,eb⟩:=aK2 (oV S n) hw
  ·rw[ea];subst eb;rw[ea,show eq1 [] []=true from rfl]at hnx;refine Cn ?_;refine wV ?_;refine SI ?_;refine B5 ?_;refine SI ?_;refine z79 ?_;rw[show((([]:List Int).length:Int)==(([]:List Int).length:Int))=true from rfl];refine qC ?_;(refine kP rfl rfl rfl (cK (E rfl)) rfl ?_);(refine kP rfl rfl rfl (eJ (E rfl) (E rfl)) rfl ?_);rw[show((([]:List Int).length:Int)==0)=true from rfl];(refine kP rfl rfl rfl (aF (E rfl)) rfl ?_);refine OZ ?_;refine OZ ?_;refine OZ ?_;refine C0 ?_;(refine kP rfl rfl rfl (mW (E rfl) (E rfl)) rfl ?_);refine OW ?_;refine pB (dL r p q m lv (cR S n).2) rfl call189 (lA hN0 _ true) rfl aC cA aD2 ?_;rintro _ Y' rfl h44;refine TB ?_;refine KT ?_;refine jH ?_;refine⟨j+1,hlt,Ab U, ?_⟩
   (try dsimp only);rw[hnx];exact aH
  ·rw[ea];subst eb;rw[ea,show eq1 [] [v]=false by simp[eq1]]at hnx;refine Cn ?_;refine wV ?_;refine SI ?_;refine B5 ?_;refine SI ?_;refine z79 ?_;rw[show((([]:List Int).length:Int)==(([v]:List Int).length:Int))=false from rfl];refine qC ?_;refine OZ ?_;refine C0 ?_;refine C4 ?_;(refine EB rfl rfl rfl (eG (by exact W rfl id) (E rfl) (fun hc=>by(try simp at hc)<;>(simp only[Az];omega))) rfl ?_);(refine EB rfl rfl rfl (dJ (by exact W rfl id) rfl (fun hc=>by(exact cU (hY (by(try simp at hc)<;>omega)))) (fun _=>rfl)) rfl ?_);refine C4 ?_;(refine EB rfl rfl rfl (eG (by exact W rfl id) (E rfl) (fun hc=>by(try simp at hc)<;>(simp only[Az];omega))) rfl ?_);refine EB rfl rfl rfl (dJ (by exact W rfl id) rfl (fun hc=>by rfl) (fun _=>rfl)) rfl ?_;refine EB rfl rfl rfl (eJ (by exact W rfl id) (by exact W rfl id)) rfl ?_;refine C0 ?_;refine OW ?_;refine pB (dL r p q m lv (cR S n).2) rfl call189 (lA hN0 _ false) rfl aC cA aD2 ?_
   rintro _ Y' rfl h44;refine TB ?_;refine KT ?_;refine jH ?_;refine⟨j+1,hlt,Ab U, ?_⟩
   (try dsimp only);rw[hnx];exact aH
  ·rw[ea];subst eb;rw[ea,show eq1 [g] []=false by simp[eq1]]at hnx;refine Cn ?_;refine wV ?_;refine SI ?_;refine B5 ?_;refine SI ?_;refine z79 ?_;rw[show((([g]:List Int).length:Int)==(([]:List Int).length:Int))=false from rfl];refine qC ?_;refine OZ ?_;refine C0 ?_;refine C4 ?_;(refine EB rfl rfl rfl (eG (by exact W rfl id) (E rfl) (fun hc=>by(try simp at hc)<;>(simp only[Az];omega))) rfl ?_);refine EB rfl rfl rfl (dJ (by exact W rfl id) rfl (fun hc=>by rfl) (fun _=>rfl)) rfl ?_;refine C4 ?_;(refine EB rfl rfl rfl (eG (by exact W rfl id) (E rfl) (fun hc=>by(try simp at hc)<;>(simp only[Az];omega))) rfl ?_);(refine EB rfl rfl rfl (dJ (by exact W rfl id) rfl (fun hc=>by(exact cU (hY (by(try simp at hc)<;>omega)))) (fun _=>rfl)) rfl ?_);refine EB rfl rfl rfl (eJ (by exact W rfl id) (by exact W rfl id)) rfl ?_;refine C0 ?_;refine OW ?_;refine pB (dL r p q m lv (cR S n).2) rfl call189 (lA hN0 _ false) rfl aC cA aD2 ?_
   rintro _ Y' rfl h44;refine TB ?_;refine KT ?_;refine jH ?_;refine⟨j+1,hlt,Ab U, ?_⟩
   (try dsimp only);rw[hnx];exact aH
  ·rw[ea];subst eb;rw[ea,show eq1 [g] [v]=(g==v) by simp[eq1]]at hnx;have hg1:[g].length=1:=rfl;have hv1:[v].length=1:=rfl;refine Cn ?_;refine wV ?_;refine SI ?_;refine B5 ?_;refine SI ?_;refine z79 ?_;rw[show((([g]:List Int).length:Int)==(([v]:List Int).length:Int))=true from rfl];refine qC ?_;(refine kP rfl rfl rfl (cK (E rfl)) rfl ?_);(refine kP rfl rfl rfl (eJ (E rfl) (E rfl)) rfl ?_);rw[show((([g]:List Int).length:Int)==0)=false from rfl];(refine kP rfl rfl rfl (aF (E rfl)) rfl ?_);(refine kP rfl rfl rfl (aF (E rfl)) rfl ?_)
   ((refine kP rfl rfl rfl (eG (E rfl) (E rfl) (fun hc=>by(simp only[Az];omega))) rfl ?_))
   (refine kP rfl rfl rfl (dJ (E rfl) rfl (fun hc=>by rfl) (fun _=>rfl)) rfl ?_)
   (refine kP rfl rfl rfl (aF (E rfl)) rfl ?_)
   ((refine kP rfl rfl rfl (eG (E rfl) (E rfl) (fun hc=>by(simp only[Az];omega))) rfl ?_))
   (refine kP rfl rfl rfl (dJ (E rfl) rfl (fun hc=>by rfl) (fun _=>rfl)) rfl ?_)
   (refine kP rfl rfl rfl (eJ (E rfl) (E rfl)) rfl ?_);(refine kP rfl rfl rfl (iZ (E rfl) (E rfl)) rfl ?_);refine OW ?_;refine pB (dL r p q m lv (cR S n).2) rfl call189 (lA hN0 _ (g==v)) rfl aC cA aD2 ?_;rintro _ Y' rfl h44;refine TB ?_;refine KT ?_;refine jH ?_;refine⟨j+1,hlt,Ab U, ?_⟩
   (try dsimp only);rw[hnx];exact aH
 obtain rfl:j=xl.length:=by simp at g4;omega
 rw[Aw]at hS⊢;generalize xl.foldl (zT w) s2=S at hS⊢;have h5:=hS.pops w;unfold dL mT
 (try dsimp only);refine cJ ?_;refine cw (dL r p q m lv S) call192 (lY hN0 S hS w U) rfl aC cA ?_;rintro _ Y' rfl h48;refine nR ?_;refine fO ?_;refine cw (dL r p q m lv (dQ S w)) call187 (HK hN0 _ h5) rfl aC cA ?_;rintro _ Y' rfl h50;refine nR ?_;refine bS ?_;apply aD;exact aE
 ·rfl
 ·exact aA
end
structure Ins.Ck (x:Ins):Prop where
 nn:x.op=12\/x.op=13\/x.op=14\/x.op=16\/x.op=32\/x.op=33\/x.op=34\/x.op=35\/x.op=36->0<=x.a
 ln:x.op=14->∀n∈x.l,0<=n
 ll:x.l.length<=1000000
 hi:x.a<=9223372036854775807
structure Md.Ck (m:Md):Prop where
 ts:m.TS
 im:m.im.length<=1000000
section
variable {r p q : Nat} {m : Md} {lv : AV}
theorem YO(hN:Nm r p q)(hm:m.Ck)(s:PS)(h:s.Gd)(hv:s.vs.length<=900000)(hc:s.cs.length<=900000)(x:Ins)(hx:x.Ck)(h11:x.op=11->2<=s.cs.length):SCall prog 77 [.ptr r 0,.agg (iv .any x)] (dL r p q m lv s)
  (fun y Y=>∃e f,Nm r e f/\y=.bool (cE m s x).1/\Y=dL r e f m lv (cE m s x).2):=by
 have hN0:=hN;obtain⟨n1,n2,n3⟩:=hN;unfold iv;refine bO 133 [0,1,3,4,5,6,8,9,13,15,24,34,41,60,70,84,89,103,113] func77 ?_;unfold dL mT
 (try dsimp only);refine dB ?_;refine fZ fun r3 h3=> ?_;intros;refine iO ?_;refine rP ?_;refine aB rfl ?_ ?_<;>intro g3
 ·rw[show cE m s x=(true,pR s) by unfold cE;simp only[g3,Dd]];have hL:=hN0;refine dG ?_;refine cw (dL r p q m lv s) call187 (HK hN0 s h) rfl aC cA ?_;rintro _ Y' rfl h12;refine tO ?_;refine kX ?_;refine cV ?_;exact aD aE ⟨_,_,hL,by rfl,rfl⟩ aA
 refine cZ ?_;refine aB rfl ?_ ?_<;>intro g5
 ·rw[show cE m s x=(true,s) by unfold cE;simp only[g3,g5,Dd,De,Ag]];have hL:=hN0;refine cV ?_;exact aD aE ⟨_,_,hL,by rfl,rfl⟩ aA
 refine cZ ?_;apply fJ rfl;exact cP
 ·intro _;(refine aI ?_);refine eU ?_;exact aH
 refine aI ?_;refine aB rfl ?_ ?_<;>intro g6
 ·refine aI ?_;rw[show cE m s x=(true,openP s x.op x.a) by unfold cE;simp only[g3,g5,g6,Dd,De,Ag]];refine lT ?_;refine pD ?_;refine cw (dL r p q m lv s) call76 (HJ hN0 s h.bc x.op x.a) rfl aC cA ?_;rintro _ Y' ⟨f,hL,rfl⟩ h23;unfold dL mT;(try dsimp only);obtain⟨e1,e2,e3⟩:=id hL;refine AD ?_;refine cV ?_;exact aD aE ⟨_,_,hL,by rfl,rfl⟩ aA
 refine cZ ?_;refine aB rfl ?_ ?_<;>intro g9
 ·have h1:=h.pop 1;rw[show cE m s x=(true,openP (cO s 1).2 x.op x.a) by unfold cE;simp only[g3,g5,g6,g9,Dd,De,Ag]];refine dG ?_;refine cw (dL r p q m lv s) call188 (qE hN0 s h 1) rfl aC cA ?_;rintro _ Y' ⟨rfl,rfl⟩ h27;refine nR ?_;refine lT ?_;refine pD ?_;refine cw (dL r p q m lv (cO s 1).2) call76 (HJ hN0 _ h1.bc x.op x.a) rfl aC cA ?_;rintro _ Y' ⟨f,hL,rfl⟩ h33;unfold dL mT;(try dsimp only);obtain⟨e1,e2,e3⟩:=id hL;refine AD ?_;refine cV ?_;exact aD aE ⟨_,_,hL,by rfl,rfl⟩ aA
 refine cZ ?_;refine aB rfl ?_ ?_<;>intro g12
 ·rw[show cE m s x=(true,openP (gL s) 5 s.top.kd) by unfold cE;simp only[g3,g5,g6,g9,g12,Dd,De,Ag]];refine cJ ?_;refine cw (dL r p q m lv s) call79 (QK hN0 s h) rfl aC cA ?_;rintro _ Y' ⟨rfl,rfl⟩ h38;refine tO ?_;refine aJR ?_;refine cw (dL r p q m lv (gL s)) call76 (HJ hN0 (gL s) (by rw[HE,qV];omega) 5 s.top.kd) rfl aC cA ?_;rintro _ Y' ⟨f,hL,rfl⟩ h40;unfold dL mT;(try dsimp only);obtain⟨e1,e2,e3⟩:=id hL;refine AD ?_;refine cV ?_;exact aD aE ⟨_,_,hL,by rfl,rfl⟩ aA
 refine cZ ?_;refine aB rfl ?_ ?_<;>intro g14
 ·have h2:=h11 (C8 g14);have hsl:=IZ s;have hll:=rT s.top.kd;rw[show cE m s x=(true,gB (dA (gL s) (if(s.top.op !=4)=true then true else(s.top.kd==0))) (aZ s.top.kd)) by unfold cE;simp only[g3,g5,g6,g9,g12,g14,Dd,De,Ag]];refine dG ?_;refine cw (dL r p q m lv s) call79 (QK hN0 s h) rfl aC cA ?_;rintro _ Y' ⟨rfl,rfl⟩ h44;refine tO ?_;refine iD fun r5 h5=> ?_;intros;refine fR ?_;refine lT ?_;refine B9 ?_;refine zQ ?_;refine tB ?_;refine jG ?_;refine cw (dL r p q m lv (gL s)) call189 (lA hN0 (gL s) (if(s.top.op !=4)=true then true else(s.top.kd==0))) rfl aC cA ?_;rintro _ Y' rfl h54;refine nR ?_;refine lT ?_;refine uW [] call191 (vG s.top.kd) ?_;refine cw (dL r p q m lv (dA (gL s) (if(s.top.op !=4)=true then true else(s.top.kd==0)))) call190 (mV hN0 _ (by rw[HD];omega) (aZ s.top.kd) U) rfl aC cA ?_;rintro _ Y' ⟨e,hL,rfl⟩ h59;unfold dL mT;(try dsimp only);obtain⟨e1,e2,e3⟩:=id hL;refine AD ?_;refine cV ?_;exact aD aE ⟨_,_,hL,by rfl,rfl⟩ aA
 refine cZ ?_;refine aB rfl ?_ ?_<;>intro g18
 ·have ha:=hx.nn (.inl (C8 g18));have h1:=h.label x.a;have hll:=oV s x.a;rw[show cE m s x=(true,pR (dQ (cR s x.a).2 (cR s x.a).1)) by unfold cE;simp only[g3,g5,g6,g9,g12,g14,g18,Dd,De,Ag]];have hL:=hN0;refine cJ ?_;refine pD ?_;refine cw (dL r p q m lv s) call193 (DH hN0 s h.bc x.a ha) rfl aC cA ?_;rintro _ Y' ⟨rfl,rfl⟩ h66;refine tO ?_;refine cw (dL r p q m lv (cR s x.a).2) call192 (lY hN0 _ h1 (cR s x.a).1 U) rfl aC cA ?_;rintro _ Y' rfl h67;refine nR ?_;refine fO ?_;refine cw (dL r p q m lv (dQ (cR s x.a).2 (cR s x.a).1)) call187 (HK hN0 _ (h1.pops _)) rfl aC cA ?_;rintro _ Y' rfl h69;refine tO ?_;refine kX ?_;refine cV ?_;exact aD aE ⟨_,_,hL,by rfl,rfl⟩ aA
 refine cZ ?_;refine aB rfl ?_ ?_<;>intro g21
 ·have ha:=hx.nn (.inr (.inl (C8 g21)));have h1:=h.pop 1;have h2:=h1.label x.a;have hll:=oV (cO s 1).2 x.a;rw[show cE m s x=(true,gB (dQ (cR (cO s 1).2 x.a).2 (cR (cO s 1).2 x.a).1) (cR (cO s 1).2 x.a).1) by unfold cE;simp only[g3,g5,g6,g9,g12,g14,g18,g21,Dd,De,Ag]];refine dG ?_;refine cw (dL r p q m lv s) call188 (qE hN0 s h 1) rfl aC cA ?_;rintro _ Y' ⟨rfl,rfl⟩ h73;refine nR ?_;refine lT ?_;refine cw (dL r p q m lv (cO s 1).2) call193 (DH hN0 _ h1.bc x.a ha) rfl aC cA ?_;rintro _ Y' ⟨rfl,rfl⟩ h77;unfold dL mT;(try dsimp only);refine fF ?_;refine kV ?_;refine cw (dL r p q m lv (cR (cO s 1).2 x.a).2) call192 (lY hN0 _ h2 (cR (cO s 1).2 x.a).1 U) rfl aC cA ?_;rintro _ Y' rfl h80;refine nR ?_;refine kV ?_;refine cw (dL r p q m lv (dQ (cR (cO s 1).2 x.a).2 (cR (cO s 1).2 x.a).1)) call190 (mV hN0 _ (h2.pops _).bv (cR (cO s 1).2 x.a).1 U) rfl aC cA ?_;rintro _ Y' ⟨e,hL,rfl⟩ h83;unfold dL mT;(try dsimp only);obtain⟨e1,e2,e3⟩:=id hL;refine AD ?_;refine cV ?_;exact aD aE ⟨_,_,hL,by rfl,rfl⟩ aA
 refine cZ ?_;refine aB rfl ?_ ?_<;>intro g26
 ·have h14:x.op=14:=C8 g26
  have ha:=hx.nn (.inr (.inr (.inl h14)));rw[show cE m s x=(true,vC s x) by unfold cE;simp only[g3,g5,g6,g9,g12,g14,g18,g21,g26,Dd,De,Ag]];have hL:=hN0;refine dG ?_;refine jY ?_;refine cw (dL r p q m lv s) call194 (aEq hN0 s h x ha (hx.ln h14) hx.ll) rfl aC cA ?_;rintro _ Y' rfl h88;refine tO ?_;refine kX ?_;refine cV ?_;exact aD aE ⟨_,_,hL,by rfl,rfl⟩ aA
 refine cZ ?_;refine aB rfl ?_ ?_<;>intro g28
 ·obtain⟨c0,hc0⟩:∃c0,s.cs[0]? =some c0:=⟨_,Ar (List.length_pos_iff.2 h.ne)⟩
  have hlp:0<s.cs.length:=List.length_pos_iff.2 h.ne;have hel:(s.cs.map nL)[(0:Int).toNat]? =some (nL c0):=by rw[Bg];show(s.cs[0]?).map nL=_;rw[hc0];rfl
  have hll:=rT c0.kd;have h1:=h.pops (aZ c0.kd);rw[show cE m s x=(true,pR (dQ s (aZ c0.kd))) by unfold cE;simp only[g3,g5,g6,g9,g12,g14,g18,g21,g26,g28,Dd,De,Ag];rw[Ax,hc0];rfl];have hL:=hN0;refine cJ ?_;refine AY ?_;refine z15 ?_;refine SM ?_;refine z16 ?_;refine uW [] call191 (vG c0.kd) ?_;refine cw (dL r p q m lv s) call192 (lY hN0 s h (aZ c0.kd) U) rfl aC cA ?_;rintro _ Y' rfl h100;refine nR ?_;refine fO ?_;refine cw (dL r p q m lv (dQ s (aZ c0.kd))) call187 (HK hN0 _ h1) rfl aC cA ?_;rintro _ Y' rfl h102;refine tO ?_;refine kX ?_;refine cV ?_;exact aD aE ⟨_,_,hL,by rfl,rfl⟩ aA
 refine cZ ?_;refine aB rfl ?_ ?_<;>intro g31
 ·have ha:=hx.nn (.inr (.inr (.inr (.inl (C8 g31)))));have hts:=qZ hm.ts (lI m x.a);rw[show cE m s x=(true,rS s (cF m (lI m x.a)).1 (cF m (lI m x.a)).2) by unfold cE;simp only[g3,g5,g6,g9,g12,g14,g18,g21,g26,g28,g31,Dd,De,Ag]];refine cJ ?_;refine pD ?_;refine cw (dL r p q m lv s) call196 (UT hN0 s hm.im x.a ha hx.hi) rfl aC cA ?_;rintro _ Y' ⟨rfl,rfl⟩ h109;refine tO ?_;refine OX ?_;refine cw (dL r p q m lv s) call195 (UU hN0 s h _ hts _) rfl aC cA ?_;rintro _ Y' ⟨e,hL,rfl⟩ h112;unfold dL mT;(try dsimp only);obtain⟨e1,e2,e3⟩:=id hL;refine AD ?_;refine cV ?_;exact aD aE ⟨_,_,hL,by rfl,rfl⟩ aA
 refine cZ ?_;refine aB rfl ?_ ?_<;>intro g33
 ·have hts:=qZ hm.ts x.a;have h1:=h.need m.tb.has;have h2:=h1.pop 1;rw[show cE m s x=(true,rS (cO (dA s m.tb.has) 1).2 (cF m x.a).1 (cF m x.a).2) by unfold cE;simp only[g3,g5,g6,g9,g12,g14,g18,g21,g26,g28,g31,g33,Dd,De,Ag]];refine cJ ?_;refine qB ?_;refine oN ?_;refine cw (dL r p q m lv s) call189 (lA hN0 s m.tb.has) rfl aC cA ?_;rintro _ Y' rfl h122;refine nR ?_;refine fO ?_;refine cw (dL r p q m lv (dA s m.tb.has)) call188 (qE hN0 _ h1 1) rfl aC cA ?_;rintro _ Y' ⟨rfl,rfl⟩ h124;refine nR ?_;refine kV ?_;refine pD ?_;refine cw (dL r p q m lv (cO (dA s m.tb.has) 1).2) call74 (uF hN0 _ x.a) rfl aC cA ?_;rintro _ Y' ⟨rfl,rfl⟩ h129;refine tO ?_;refine OX ?_;refine cw (dL r p q m lv (cO (dA s m.tb.has) 1).2) call195 (UU hN0 _ h2 _ hts _) rfl aC cA ?_;rintro _ Y' ⟨e,hL,rfl⟩ h132;unfold dL mT;(try dsimp only);obtain⟨e1,e2,e3⟩:=id hL;refine AD ?_;refine cV ?_;exact aD aE ⟨_,_,hL,by rfl,rfl⟩ aA
 rw[show cE m s x=(false,s) by unfold cE;simp only[g3,g5,g6,g9,g12,g14,g18,g21,g26,g28,g31,g33,Dd,De,Ag]];have hL:=hN0;refine cV ?_;exact aD aE ⟨_,_,hL,by rfl,rfl⟩ aA
end
theorem aNB{op:Int}(h:(kN op).2.2=false):kN op=([],0,false):=by
 revert h;unfold kN;refine aJ (p:=fun r:List Int×Int×Bool=>r.2.2=false->r=([],0,false)) (fun _ h=>by cases h) (fun _=> ?_);refine aJ (p:=fun r:List Int×Int×Bool=>r.2.2=false->r=([],0,false)) (fun _ h=>by cases h) (fun _=> ?_);refine aJ (p:=fun r:List Int×Int×Bool=>r.2.2=false->r=([],0,false)) (fun _ _=>rfl) (fun _=> ?_);refine aJ (p:=fun r:List Int×Int×Bool=>r.2.2=false->r=([],0,false)) (fun _ h=>by cases h) (fun _=> ?_);refine aJ (p:=fun r:List Int×Int×Bool=>r.2.2=false->r=([],0,false)) (fun _ h=>by cases h) (fun _=> ?_);exact aJ (p:=fun r:List Int×Int×Bool=>r.2.2=false->r=([],0,false)) (fun _ h=>by cases h) (fun _ h=>by cases h)
theorem aK3(op:Int):(kN op).1.length<=2:=by
 unfold kN;refine aJ (p:=fun r:List Int×Int×Bool=>r.1.length<=2) (fun _=>by simp) (fun _=> ?_);refine aJ (p:=fun r:List Int×Int×Bool=>r.1.length<=2) (fun _=>by simp) (fun _=> ?_);refine aJ (p:=fun r:List Int×Int×Bool=>r.1.length<=2) (fun _=>by simp) (fun _=> ?_);refine aJ (p:=fun r:List Int×Int×Bool=>r.1.length<=2) (fun _=>by simp) (fun _=> ?_);refine aJ (p:=fun r:List Int×Int×Bool=>r.1.length<=2) (fun _=>by simp) (fun _=> ?_);exact aJ (p:=fun r:List Int×Int×Bool=>r.1.length<=2) (fun _=>by simp) (fun _=>by simp)
theorem aB0{op:Int}(h:(kN op).2.2=true):SCall prog 200 [.int .i64 op] [] (fun y Y=>∃q,y=.tup [.own q 0 (kN op).1.length,.int .i64 (kN op).2.1,.bool true]/\Y=[(q,.arr 3 1 ((kN op).1.map aK))]):=
 (BF op).mono fun x Y hk=>by unfold xV at hk;rw[Dc h]at hk;exact hk
theorem aEr{op:Int}(h:(kN op).2.2=false):SCall prog 200 [.int .i64 op] [] (fun y Y=>y=.tup [.ro 0 [] .nil,.int .i64 0,.bool false]/\Y=[]):=
 (BF op).mono fun x Y hk=>by unfold xV at hk;rw[Db (by simp[h])]at hk;exact hk
theorem PS.Gd.loc {s:PS}(h:s.Gd)(ls:List Int)(n:Int):(cT ls s n).2.Gd:=by
 unfold cT;exact aJ (p:=fun r:Int×PS=>r.2.Gd) (fun _=>⟨⟨⟨h.le,h.up⟩,h.ne⟩,h.bv,h.bc⟩) (fun _=>h)
theorem PS.Gd.glob {s:PS}(h:s.Gd)(m:Md)(n:Int):(dZ m s n).2.Gd:=by
 unfold dZ;exact aJ (p:=fun r:Gl×PS=>r.2.Gd) (fun _=>⟨⟨⟨h.le,h.up⟩,h.ne⟩,h.bv,h.bc⟩) (fun _=>h)
section
variable {r p q : Nat} {m : Md} {ls : List Int}
theorem aEs(hN:Nm r p q)(s:PS)(h:s.Gd)(x:Ins)(hx:x.Ck):SCall prog 78 [.ptr r 0,.agg (iv .any x)] (dL r p q m (.ro 1 (ls.map aK) .any) s) (fun _ Y=>∃e,Nm r e q/\Y=dL r e q m (.ro 1 (ls.map aK) .any) (dW m ls s x)):=by
 have hN0:=hN;obtain⟨n1,n2,n3⟩:=hN;unfold iv;refine bO 167 [0,1,3,4,5,6,7,8,9,13,31,35,46,55,63,78,89,104,111,118,126,132,138,144,150,157,162] func78 ?_;unfold dL mT
 (try dsimp only);refine dB ?_;refine fZ fun r3 h3=> ?_;intros;refine kX ?_;refine dB ?_;refine eN fun r10 h10=> ?_;intros;refine eN fun r11 h11=> ?_;intros;refine iE (j:=10) rfl aY (aL bR X) ?_;refine iE (j:=11) rfl aY (aL bR X) ?_;refine fS ?_;refine mP ?_;refine rP ?_;refine aB rfl ?_ ?_<;>intro g7
 ·rw[show dW m ls s x=(cO s 0).2 by unfold dW;simp only[g7,Dd,De,Ag]];have hL:=hN0;refine dG ?_;refine cw (dL r p q m (.ro 1 (ls.map aK) .any) s) call188 (qE hN0 s h 0) rfl aC cA ?_;rintro _ Y' ⟨rfl,rfl⟩ h34;refine nR ?_;refine bS ?_;exact aD aE ⟨_,hL,rfl⟩ aA
 refine cZ ?_;refine aB rfl ?_ ?_<;>intro g9
 ·have h1:=h.pop 1;have h2:=h1.pop 0;have h3:=h2.pop (cO (cO s 1).2 0).1;rw[show dW m ls s x=gB (cO (cO (cO s 1).2 0).2 (cO (cO s 1).2 0).1).2 [(cO (cO (cO s 1).2 0).2 (cO (cO s 1).2 0).1).1] by unfold dW;simp only[g7,g9,Dd,De,Ag]];refine dG ?_;refine cw (dL r p q m (.ro 1 (ls.map aK) .any) s) call188 (qE hN0 s h 1) rfl aC cA ?_;rintro _ Y' ⟨rfl,rfl⟩ h38;refine nR ?_;refine xN ?_;refine cw (dL r p q m (.ro 1 (ls.map aK) .any) (cO s 1).2) call188 (qE hN0 _ h1 0) rfl aC cA ?_;rintro _ Y' ⟨rfl,rfl⟩ h42;refine tO ?_;refine cw (dL r p q m (.ro 1 (ls.map aK) .any) (cO (cO s 1).2 0).2) call188 (qE hN0 _ h2 _) rfl aC cA ?_;rintro _ Y' ⟨rfl,rfl⟩ h43;refine tO ?_;refine eN fun r44 h44=> ?_;intros;refine iE (j:=44) rfl aY (aL bR X) ?_;refine cw (dL r p q m (.ro 1 (ls.map aK) .any) (cO (cO (cO s 1).2 0).2 (cO (cO s 1).2 0).1).2) call190 (mV hN0 _ h3.bv [(cO (cO (cO s 1).2 0).2 (cO (cO s 1).2 0).1).1] X) rfl aC cA ?_;rintro _ Y' ⟨e,hL,rfl⟩ h45;unfold dL mT;(try dsimp only);obtain⟨e1,e2,e3⟩:=id hL;refine fN ?_;refine bS ?_;exact aD aE ⟨_,hL,rfl⟩ aA
 refine cZ ?_;refine aB rfl ?_ ?_<;>intro g12
 ·have ha:=hx.nn (.inr (.inr (.inr (.inr (.inl (C8 g12))))));have h1:=h.loc ls x.a;rw[show dW m ls s x=gB (cT ls s x.a).2 [(cT ls s x.a).1] by unfold dW;simp only[g7,g9,g12,Dd,De,Ag]];refine cJ ?_;refine pD ?_;refine cw (dL r p q m (.ro 1 (ls.map aK) .any) s) call197 (DI hN0 s x.a ha) rfl aC cA ?_;rintro _ Y' ⟨rfl,rfl⟩ h52;refine tO ?_;refine eN fun r53 h53=> ?_;intros;refine iE (j:=53) rfl aY (aL bR X) ?_;refine cw (dL r p q m (.ro 1 (ls.map aK) .any) (cT ls s x.a).2) call190 (mV hN0 _ h1.bv [(cT ls s x.a).1] X) rfl aC cA ?_;rintro _ Y' ⟨e,hL,rfl⟩ h54;unfold dL mT;(try dsimp only);obtain⟨e1,e2,e3⟩:=id hL;refine fN ?_;refine bS ?_;exact aD aE ⟨_,hL,rfl⟩ aA
 refine cZ ?_;refine aB rfl ?_ ?_<;>intro g14
 ·have ha:=hx.nn (.inr (.inr (.inr (.inr (.inr (.inl (C8 g14)))))));have h1:=h.loc ls x.a;have hL:=hN0;rw[show dW m ls s x=(cO (cT ls s x.a).2 (cT ls s x.a).1).2 by unfold dW;simp only[g7,g9,g12,g14,Dd,De,Ag]];refine cJ ?_;refine pD ?_;refine cw (dL r p q m (.ro 1 (ls.map aK) .any) s) call197 (DI hN0 s x.a ha) rfl aC cA ?_;rintro _ Y' ⟨rfl,rfl⟩ h61;refine tO ?_;refine cw (dL r p q m (.ro 1 (ls.map aK) .any) (cT ls s x.a).2) call188 (qE hN0 _ h1 _) rfl aC cA ?_;rintro _ Y' ⟨rfl,rfl⟩ h62;refine nR ?_;refine bS ?_;exact aD aE ⟨_,hL,rfl⟩ aA
 refine cZ ?_;refine aB rfl ?_ ?_<;>intro g16
 ·have ha:=hx.nn (.inr (.inr (.inr (.inr (.inr (.inr (.inl (C8 g16))))))));have h1:=h.loc ls x.a;have h2:=h1.pop (cT ls s x.a).1;have h3:=h2.loc ls x.a;rw[show dW m ls s x=gB (cT ls (cO (cT ls s x.a).2 (cT ls s x.a).1).2 x.a).2 [(cT ls (cO (cT ls s x.a).2 (cT ls s x.a).1).2 x.a).1] by unfold dW;simp only[g7,g9,g12,g14,g16,Dd,De,Ag]];refine cJ ?_;refine pD ?_;refine cw (dL r p q m (.ro 1 (ls.map aK) .any) s) call197 (DI hN0 s x.a ha) rfl aC cA ?_;rintro _ Y' ⟨rfl,rfl⟩ h69;refine tO ?_;refine cw (dL r p q m (.ro 1 (ls.map aK) .any) (cT ls s x.a).2) call188 (qE hN0 _ h1 _) rfl aC cA ?_;rintro _ Y' ⟨rfl,rfl⟩ h70;refine nR ?_;refine kV ?_;refine pD ?_;refine cw (dL r p q m (.ro 1 (ls.map aK) .any) (cO (cT ls s x.a).2 (cT ls s x.a).1).2) call197 (DI hN0 _ x.a ha) rfl aC cA ?_;rintro _ Y' ⟨rfl,rfl⟩ h75;refine tO ?_;refine eN fun r76 h76=> ?_;intros;refine iE (j:=76) rfl aY (aL bR X) ?_;refine cw (dL r p q m (.ro 1 (ls.map aK) .any) (cT ls (cO (cT ls s x.a).2 (cT ls s x.a).1).2 x.a).2) call190 (mV hN0 _ h3.bv [(cT ls (cO (cT ls s x.a).2 (cT ls s x.a).1).2 x.a).1] X) rfl aC cA ?_;rintro _ Y' ⟨e,hL,rfl⟩ h77;unfold dL mT;(try dsimp only);obtain⟨e1,e2,e3⟩:=id hL;refine fN ?_;refine bS ?_;exact aD aE ⟨_,hL,rfl⟩ aA
 refine cZ ?_;refine aB rfl ?_ ?_<;>intro g19
 ·have ha:=hx.nn (.inr (.inr (.inr (.inr (.inr (.inr (.inr (.inl (C8 g19)))))))));have h1:=h.glob m x.a;rw[show dW m ls s x=gB (dZ m s x.a).2 [(dZ m s x.a).1.kd] by unfold dW;simp only[g7,g9,g12,g14,g16,g19,Dd,De,Ag]];refine cJ ?_;refine pD ?_;refine cw (dL r p q m (.ro 1 (ls.map aK) .any) s) call198 (NL hN0 s x.a ha) rfl aC cA ?_;rintro _ Y' ⟨rfl,rfl⟩ h84;refine tO ?_;refine lo (SC (E rfl) rfl rfl (fun _=>Bt rfl)) rfl ?_;refine aJR ?_;refine eN fun r87 h87=> ?_;intros;refine iE (j:=87) rfl aY (aL bR X) ?_;refine cw (dL r p q m (.ro 1 (ls.map aK) .any) (dZ m s x.a).2) call190 (mV hN0 _ h1.bv [(dZ m s x.a).1.kd] X) rfl aC cA ?_;rintro _ Y' ⟨e,hL,rfl⟩ h88;unfold dL mT;(try dsimp only);obtain⟨e1,e2,e3⟩:=id hL;refine fN ?_;refine bS ?_;exact aD aE ⟨_,hL,rfl⟩ aA
 refine cZ ?_;refine aB rfl ?_ ?_<;>intro g21
 ·have ha:=hx.nn (.inr (.inr (.inr (.inr (.inr (.inr (.inr (.inr (C8 g21)))))))));have h1:=h.glob m x.a;have h2:=h1.need (dZ m s x.a).1.mu;have hL:=hN0;rw[show dW m ls s x=(cO (dA (dZ m s x.a).2 (dZ m s x.a).1.mu) (dZ m s x.a).1.kd).2 by unfold dW;simp only[g7,g9,g12,g14,g16,g19,g21,Dd,De,Ag]];refine oA ?_;refine cw (dL r p q m (.ro 1 (ls.map aK) .any) s) call198 (NL hN0 s x.a ha) rfl aC cA ?_;rintro _ Y' ⟨rfl,rfl⟩ h94;refine tO ?_;refine iD fun r6 h6=> ?_;intros;refine fR ?_;refine lT ?_;refine cw (dL r p q m (.ro 1 (ls.map aK) .any) (dZ m s x.a).2) call189 (lA hN0 _ (dZ m s x.a).1.mu) rfl aC cA ?_;rintro _ Y' rfl h98;refine nR ?_;refine fO ?_;refine oN ?_;refine cw (dL r p q m (.ro 1 (ls.map aK) .any) (dA (dZ m s x.a).2 (dZ m s x.a).1.mu)) call188 (qE hN0 _ h2 _) rfl aC cA ?_;rintro _ Y' ⟨rfl,rfl⟩ h103;refine nR ?_;refine bS ?_;exact aD aE ⟨_,hL,rfl⟩ aA
 refine cZ ?_;refine aB rfl ?_ ?_<;>intro g25
 ·rw[show dW m ls s x=gP m s x 2 [1] [1] by unfold dW;simp only[g7,g9,g12,g14,g16,g19,g21,g25,Dd,De,Ag]];refine dG ?_;refine jY ?_;refine LG ?_;refine cw (dL r p q m (.ro 1 (ls.map aK) .any) s) call199 (nM hN0 s h x 2 [1] [1] X X) rfl aC cA ?_;rintro _ Y' ⟨e,hL,rfl⟩ h110;unfold dL mT;(try dsimp only);obtain⟨e1,e2,e3⟩:=id hL;refine fN ?_;refine bS ?_;exact aD aE ⟨_,hL,rfl⟩ aA
 refine cZ ?_;refine aB rfl ?_ ?_<;>intro g27
 ·rw[show dW m ls s x=gP m s x 3 [1] [2] by unfold dW;simp only[g7,g9,g12,g14,g16,g19,g21,g25,g27,Dd,De,Ag]];refine dG ?_;refine jY ?_;refine LG ?_;refine cw (dL r p q m (.ro 1 (ls.map aK) .any) s) call199 (nM hN0 s h x 3 [1] [2] X X) rfl aC cA ?_;rintro _ Y' ⟨e,hL,rfl⟩ h117;unfold dL mT;(try dsimp only);obtain⟨e1,e2,e3⟩:=id hL;refine fN ?_;refine bS ?_;exact aD aE ⟨_,hL,rfl⟩ aA
 refine cZ ?_;apply fJ rfl;exact cP
 ·intro _;(refine aI ?_);refine eU ?_;exact aH
 refine aI ?_;refine aB rfl ?_ ?_<;>intro g29
 ·refine aI ?_;rw[show dW m ls s x=gP m s x 0 [1] [1] by unfold dW;simp only[g7,g9,g12,g14,g16,g19,g21,g25,g27,g29,Dd,De,Ag]];refine fO ?_;refine jY ?_;refine LG ?_;refine cw (dL r p q m (.ro 1 (ls.map aK) .any) s) call199 (nM hN0 s h x 0 [1] [1] X X) rfl aC cA ?_;rintro _ Y' ⟨e,hL,rfl⟩ h125;unfold dL mT;(try dsimp only);obtain⟨e1,e2,e3⟩:=id hL;refine fN ?_;refine bS ?_;exact aD aE ⟨_,hL,rfl⟩ aA
 refine cZ ?_;refine aB rfl ?_ ?_<;>intro g32
 ·rw[show dW m ls s x=gP m s x 2 [1,1] [] by unfold dW;simp only[g7,g9,g12,g14,g16,g19,g21,g25,g27,g29,g32,Dd,De,Ag]];refine dG ?_;refine jY ?_;refine eN fun r130 h130=> ?_;intros;refine iE (j:=130) rfl aY (aL bR X) ?_;refine cw (dL r p q m (.ro 1 (ls.map aK) .any) s) call199 (nM hN0 s h x 2 [1,1] [] X X) rfl aC cA ?_;rintro _ Y' ⟨e,hL,rfl⟩ h131;unfold dL mT;(try dsimp only);obtain⟨e1,e2,e3⟩:=id hL;refine fN ?_;refine bS ?_;exact aD aE ⟨_,hL,rfl⟩ aA
 refine cZ ?_;refine aB rfl ?_ ?_<;>intro g34
 ·rw[show dW m ls s x=gP m s x 3 [1,2] [] by unfold dW;simp only[g7,g9,g12,g14,g16,g19,g21,g25,g27,g29,g32,g34,Dd,De,Ag]];refine dG ?_;refine jY ?_;refine eN fun r136 h136=> ?_;intros;refine iE (j:=136) rfl aY (aL bR X) ?_;refine cw (dL r p q m (.ro 1 (ls.map aK) .any) s) call199 (nM hN0 s h x 3 [1,2] [] X X) rfl aC cA ?_;rintro _ Y' ⟨e,hL,rfl⟩ h137;unfold dL mT;(try dsimp only);obtain⟨e1,e2,e3⟩:=id hL;refine fN ?_;refine bS ?_;exact aD aE ⟨_,hL,rfl⟩ aA
 refine cZ ?_;refine aB rfl ?_ ?_<;>intro g36
 ·rw[show dW m ls s x=gP m s x 0 [1,1] [] by unfold dW;simp only[g7,g9,g12,g14,g16,g19,g21,g25,g27,g29,g32,g34,g36,Dd,De,Ag]];refine dG ?_;refine jY ?_;refine eN fun r142 h142=> ?_;intros;refine iE (j:=142) rfl aY (aL bR X) ?_;refine cw (dL r p q m (.ro 1 (ls.map aK) .any) s) call199 (nM hN0 s h x 0 [1,1] [] X X) rfl aC cA ?_;rintro _ Y' ⟨e,hL,rfl⟩ h143;unfold dL mT;(try dsimp only);obtain⟨e1,e2,e3⟩:=id hL;refine fN ?_;refine bS ?_;exact aD aE ⟨_,hL,rfl⟩ aA
 refine cZ ?_;refine aB rfl ?_ ?_<;>intro g38
 ·rw[show dW m ls s x=gP m s x 0 [] [1] by unfold dW;simp only[g7,g9,g12,g14,g16,g19,g21,g25,g27,g29,g32,g34,g36,g38,Dd,De,Ag]];refine dG ?_;refine IP ?_;refine cw (dL r p q m (.ro 1 (ls.map aK) .any) s) call199 (nM hN0 s h x 0 [] [1] X X) rfl aC cA ?_;rintro _ Y' ⟨e,hL,rfl⟩ h149;unfold dL mT;(try dsimp only);obtain⟨e1,e2,e3⟩:=id hL;refine fN ?_;refine bS ?_;exact aD aE ⟨_,hL,rfl⟩ aA
 refine cZ ?_;refine aB rfl ?_ ?_<;>intro g40
 ·rw[show dW m ls s x=gP m s x 0 [1] [1] by unfold dW;simp only[g7,g9,g12,g14,g16,g19,g21,g25,g27,g29,g32,g34,g36,g38,g40,Dd,De,Ag]];refine dG ?_;refine jY ?_;refine LG ?_;refine cw (dL r p q m (.ro 1 (ls.map aK) .any) s) call199 (nM hN0 s h x 0 [1] [1] X X) rfl aC cA ?_;rintro _ Y' ⟨e,hL,rfl⟩ h156;unfold dL mT;(try dsimp only);obtain⟨e1,e2,e3⟩:=id hL;refine fN ?_;refine bS ?_;exact aD aE ⟨_,hL,rfl⟩ aA
 refine cZ ?_;refine aB rfl ?_ ?_<;>intro g42
 ·rw[show dW m ls s x=gB s [1] by unfold dW;simp only[g7,g9,g12,g14,g16,g19,g21,g25,g27,g29,g32,g34,g36,g38,g40,g42,Dd,De,Ag]];refine dG ?_;refine eN fun r160 h160=> ?_;intros;refine iE (j:=160) rfl aY (aL bR X) ?_;refine cw (dL r p q m (.ro 1 (ls.map aK) .any) s) call190 (mV hN0 s h.bv [1] X) rfl aC cA ?_;rintro _ Y' ⟨e,hL,rfl⟩ h161;unfold dL mT;(try dsimp only);obtain⟨e1,e2,e3⟩:=id hL;refine fN ?_;refine bS ?_;exact aD aE ⟨_,hL,rfl⟩ aA
 refine cZ ?_;refine aB rfl ?_ ?_<;>intro g44
 ·rw[show dW m ls s x=gB s [2] by unfold dW;simp only[g7,g9,g12,g14,g16,g19,g21,g25,g27,g29,g32,g34,g36,g38,g40,g42,g44,Dd,De,Ag]];refine dG ?_;refine eN fun r165 h165=> ?_;intros;refine iE (j:=165) rfl aY (aL bR X) ?_;refine cw (dL r p q m (.ro 1 (ls.map aK) .any) s) call190 (mV hN0 s h.bv [2] X) rfl aC cA ?_;rintro _ Y' ⟨e,hL,rfl⟩ h166;unfold dL mT;(try dsimp only);obtain⟨e1,e2,e3⟩:=id hL;refine fN ?_;refine bS ?_;exact aD aE ⟨_,hL,rfl⟩ aA
 have hkl:=aK3 x.op;have h1:=h.need (kN x.op).2.2;have h2:=h1.pops (kN x.op).1;rw[show dW m ls s x=gB (dQ (dA s (kN x.op).2.2) (kN x.op).1) [(kN x.op).2.1] by unfold dW;simp only[g7,g9,g12,g14,g16,g19,g21,g25,g27,g29,g32,g34,g36,g38,g40,g42,g44,Dd,De,Ag]];refine aI ?_;cases hk:(kN x.op).2.2
 ·rw[aNB hk]at h1 h2⊢;refine mP ?_;refine cw [] call200 (aEr hk) rfl aC aA ?_;rintro _ Y' ⟨rfl,rfl⟩ h17;refine TC ?_;refine pM ?_;refine dO (fH (j:=7) (y:=.ro 1 (([]:List Int).map aK) .any) rfl VLe.empty) ?_;refine kV ?_;refine cw (dL r p q m (.ro 1 (ls.map aK) .any) s) call189 (lA hN0 s false) rfl aC cA ?_;rintro _ Y' rfl h23;refine nR ?_;refine kV ?_;refine cw (dL r p q m (.ro 1 (ls.map aK) .any) (dA s false)) call192 (lY hN0 _ h1 [] X) rfl aC cA ?_;rintro _ Y' rfl h26;refine nR ?_;refine kV ?_;refine eN fun r29 h29=> ?_;intros;refine iE (j:=29) rfl aY (aL bR X) ?_;refine cw (dL r p q m (.ro 1 (ls.map aK) .any) (dQ (dA s false) [])) call190 (mV hN0 _ h2.bv [0] X) rfl aC cA ?_;rintro _ Y' ⟨e,hL,rfl⟩ h30;unfold dL mT;(try dsimp only);obtain⟨e1,e2,e3⟩:=id hL;refine fN ?_;refine bS ?_;exact aD aE ⟨_,hL,rfl⟩ aA
 ·rw[hk]at h1 h2;refine mP ?_;refine cw [] call200 (aB0 hk) rfl aC aA ?_;rintro _ Y' ⟨q1,rfl,rfl⟩ h17
  replace h17:=gE h17;repeat rcases h17 with⟨_,h17⟩
  refine TC ?_;refine pM ?_;refine TO (j:=7) rfl aY (aL bR X) ?_;refine kV ?_;refine cw (dL r p q m (.ro 1 (ls.map aK) .any) s) call189 (lA hN0 s true) rfl aC cA ?_;rintro _ Y' rfl h23;refine nR ?_;refine kV ?_;refine cw (dL r p q m (.ro 1 (ls.map aK) .any) (dA s true)) call192 (lY hN0 _ h1 (kN x.op).1 U) rfl aC cA ?_;rintro _ Y' rfl h26;refine nR ?_;refine kV ?_;refine z1 ?_;refine bD fun r29 h29=> ?_;repeat rcases h29 with⟨_,h29⟩
  refine iE (j:=29) rfl aY (aL bR X) ?_;refine cw (dL r p q m (.ro 1 (ls.map aK) .any) (dQ (dA s true) (kN x.op).1)) call190 (mV hN0 _ h2.bv [(kN x.op).2.1] X) rfl aC cA ?_;rintro _ Y' ⟨e,hL,rfl⟩ h30;unfold dL mT;(try dsimp only);obtain⟨e1,e2,e3⟩:=id hL;refine fN ?_;refine bS ?_;exact aD aE ⟨_,hL,rfl⟩ aA
end
end Go.Proofs.YtjpdadobblffmaaGreat
namespace Go.Proofs.YtjpdadobblffmaaGreat
open Go.RowKit Go.ChangeShapes Go.WideShapes Go.ChangeAt Go.Deep
def jF (L:Nat) (S:List Bool) (op:Int):Option (List Bool):=
 if rQ op=true then(if L<=S.length then none else some (S++ [op==4]))
 else if op≠5/\op≠11 then some S
 else match S.getLast? with
  |none=>none
  |some c=>if op=11 then some S.dropLast else if c=true then some (S.dropLast++ [false])else none
def nD (L:Nat):List Int->List Bool->Option (List Bool)
 |[],S=>some S
 |op::w,S=>match jF L S op with
  |none=>none
  |some S'=>nD L w S'
theorem UV{L:Nat}:∀ {u v:List Int} {S T:List Bool},nD L u S=some T->nD L (u++v) S=nD L v T
 |[],_,_,_,h=>by cases h;rfl
 |op::u,v,S,T,h=>by
  rw[As,nD];rw[nD]at h;cases hs:jF L S op with
  |none=>rw[hs]at h;cases h
  |some S'=>rw[hs]at h;exact UV h
theorem NM{L:Nat}:∀ {u v:List Int} {S:List Bool},nD L u S=none->nD L (u++v) S=none
 |[],_,_,h=>by cases h
 |op::u,v,S,h=>by
  rw[As,nD];rw[nD]at h;cases hs:jF L S op with
  |none=>rfl
  |some S'=>rw[hs]at h;exact NM h
theorem aEt{L:Nat}{S:List Bool}{op:Int}:nD L [op] S=jF L S op:=by
 rw[nD];cases jF L S op<;>rfl
def flg (ops:List Int) (all:List Bk) (k:Nat):Bool:=
 match all[k]? with
 |some b=>(ops[b.at_]? ==some 4)&&decide (b.els<0)
 |none=>false
def GQ (ops:List Int) (s:MS):List Bool:=s.opn.map (flg ops s.all)
theorem aHm{ops:List Int}{all:List Bk}{k:Nat}(h:k<all.length)(x:Bk):flg ops (all++ [x]) k=flg ops all k:=by
 unfold flg;rw[Ba h]
theorem aAW{ops:List Int}{all:List Bk}{k n:Nat}(h:k≠n)(x:Bk):flg ops (all.set n x) k=flg ops all k:=by
 unfold flg;rw[List.getElem?_set_ne (Ne.symm h)]
structure MOk2 (s:MS):Prop where
 inc:s.opn.Pairwise (· < ·)
theorem aB2{ops:List Int}{j:Nat}{s s':MS}{op:Int}(h1:MOk j s)(h:MOk2 s)(hs:pQ ops s j op=some s'):MOk2 s':=by
 unfold pQ at hs;split at hs
 ·split at hs
  ·cases hs
  ·obtain rfl:=Option.some.inj hs;refine⟨List.pairwise_append.2 ⟨h.inc,X,fun a ha b hb=> ?_⟩⟩;rw[A1.1 hb];exact h1.opn a ha
 split at hs
 ·obtain rfl:=Option.some.inj hs;exact h
 unfold GN at hs;split at hs
 ·cases hs
 split at hs
 ·cases hs
 split at hs
 ·obtain rfl:=Option.some.inj hs;exact⟨h.inc.sublist (List.dropLast_sublist _)⟩
 split at hs
 ·cases hs
 ·obtain rfl:=Option.some.inj hs;exact⟨h.inc⟩
theorem UW{ops:List Int}:∀ {j:Nat} {s:MS},qT ops j=some s->MOk2 s
 |0,s,h=>by obtain rfl:=Option.some.inj h;exact⟨List.Pairwise.nil⟩
 |j+1,s,h=>by
  rw[qT]at h;split at h
  ·next s0 op h1 h2=>exact aB2 (zC h1) (UW h1) h
  ·cases h
theorem aEu{ops:List Int}{j:Nat}{s:MS}{op:Int}(h1:MOk j s)(h2:MOk2 s)(ho:ops[j]? =some op):(pQ ops s j op).map (GQ ops)=jF 40 (GQ ops s) op:=by
 obtain⟨all,opn⟩:=s;have hk:=h1.opn;have hlen:=h1.len;have hinc:=h2.inc;dsimp only at hk hlen hinc;by_cases hO:rQ op=true
 ·by_cases h40:opn.length=40
  ·rw[EO hO h40];unfold jF GQ;rw[Dc hO,Dc Af];rfl
  ·rw[EN hO h40];unfold jF GQ;rw[Dc hO,Db Af];dsimp only[Option.map];rw[Bx,List.map_congr_left fun k hkk=>aHm (hk k hkk) _];simp[flg,ho]
 have hO:rQ op=false:=C8 hO
 by_cases h5:op≠5/\op≠11
 ·rw[EP hO h5.1 h5.2];unfold jF;rw[Db (by simp[hO]),Dc h5];rfl
 rw[CP hO U];unfold jF;rw[Db (by simp[hO]),Db h5];rcases List.eq_nil_or_concat opn with rfl|⟨pre,k,rfl⟩
 ·rfl
 have hkl:=hk k X;obtain⟨b,hb⟩:=Aa all k hkl
 have hpre:∀x∈pre,x≠k:=fun x hx=>by
  have:=(List.pairwise_append.1 (C8 hinc)).2.2 x hx k X;omega
 have hab:GQ ops ⟨all,pre.concat k⟩=pre.map (flg ops all)++ [flg ops all k]:=by unfold GQ;simp
 have hfk:flg ops all k=((ops[b.at_]? ==some 4)&&decide (b.els<0)):=by unfold flg;rw[hb]
 rw[hab,List.getLast?_append];dsimp only[List.getLast?_singleton,Option.some_or];rw[List.concat_eq_append];rcases(show op=11\/op=5 by omega)with rfl|rfl
 ·rw[PT hb,Dc rfl];unfold GQ;dsimp only[Option.map];rw[List.map_congr_left fun x hx=>aAW (hpre x hx) _];simp
 ·rw[Db V,hfk];by_cases hc:ops[b.at_]? =some 4/\¬0<=b.els
  ·rw[IU hb hc.1 hc.2,Dc (by simp[hc.1];omega)];unfold GQ;dsimp only[Option.map];rw[Bx,List.map_congr_left fun x hx=>aAW (hpre x hx) _];simp[flg,hkl]
  ·have hc':ops[b.at_]? ≠some 4\/0<=b.els:=by
    by_cases h4:ops[b.at_]? =some 4
    ·exact .inr (by by_cases h0:0<=b.els;exact h0;exact absurd ⟨h4,h0⟩ hc)
    ·exact .inl h4
   rw[PU hb hc',Db (by rcases hc' with h|h;simp[h];simp;intro _;exact h)];rfl
theorem aAX{ops:List Int}:∀ {j:Nat},j<=ops.length->nD 40 (ops.take j) []=(qT ops j).map (GQ ops)
 |0,_=>by simp[nD,qT,GQ]
 |j+1,hj=>by
  have ih:=aAX (ops:=ops) (j:=j) U;obtain⟨op,ho⟩:=Aa ops j hj
  rw[Al,ho];dsimp only[Option.toList];cases hm:qT ops j with
  |none=>
   rw[hm]at ih;rw[NM ih,qT,hm];rfl
  |some s=>
   rw[hm]at ih;rw[UV ih,aEt,zB hm ho];exact(aEu (zC hm) (UW hm) ho).symm
theorem QL{ops:List Int}:zS ops=true↔ops.length<=300/\nD 40 ops []=some []:=by
 have h:=aAX (ops:=ops) (A3 _);rw[Aw]at h;rw[h];unfold zS gK;by_cases hl:300<ops.length
 ·rw[Dc hl];simp;omega
 rw[Db hl];cases hm:qT ops ops.length with
 |none=>simp
 |some s=>
  obtain⟨all,opn⟩:=s;cases opn with
  |nil=>simp[GQ];omega
  |cons k r=>simp[GQ]
structure Md.Fn (m:Md):Prop extends m.Ck where
 bd:∀c∈m.co,c.bd.length<=100000/\∀x∈c.bd,x.Ck
 lc:∀c∈m.co,c.ls.length<=1000
theorem BO{m:Md}{s:PS}{x:Ins}(h:(cE m s x).1=false):(cE m s x).2=s/\rQ x.op=false/\x.op≠5/\x.op≠11:=by
 have key:∀r:Bool×PS,r.1=true->r.1=false->r.2=s/\rQ x.op=false/\x.op≠5/\x.op≠11:=fun r h1 h2=>by rw[h1]at h2;cases h2
 revert h;unfold cE;refine aJ (p:=fun r:Bool×PS=>r.1=false->r.2=s/\rQ x.op=false/\x.op≠5/\x.op≠11) (fun _=>key _ rfl) (fun _=> ?_);refine aJ (p:=fun r:Bool×PS=>r.1=false->r.2=s/\rQ x.op=false/\x.op≠5/\x.op≠11) (fun _=>key _ rfl) (fun _=> ?_);refine aJ (p:=fun r:Bool×PS=>r.1=false->r.2=s/\rQ x.op=false/\x.op≠5/\x.op≠11) (fun _=>key _ rfl) (fun a1=> ?_);refine aJ (p:=fun r:Bool×PS=>r.1=false->r.2=s/\rQ x.op=false/\x.op≠5/\x.op≠11) (fun _=>key _ rfl) (fun a2=> ?_);refine aJ (p:=fun r:Bool×PS=>r.1=false->r.2=s/\rQ x.op=false/\x.op≠5/\x.op≠11) (fun _=>key _ rfl) (fun a3=> ?_);refine aJ (p:=fun r:Bool×PS=>r.1=false->r.2=s/\rQ x.op=false/\x.op≠5/\x.op≠11) (fun _=>key _ rfl) (fun a4=> ?_);refine aJ (p:=fun r:Bool×PS=>r.1=false->r.2=s/\rQ x.op=false/\x.op≠5/\x.op≠11) (fun _=>key _ rfl) (fun _=> ?_);refine aJ (p:=fun r:Bool×PS=>r.1=false->r.2=s/\rQ x.op=false/\x.op≠5/\x.op≠11) (fun _=>key _ rfl) (fun _=> ?_);refine aJ (p:=fun r:Bool×PS=>r.1=false->r.2=s/\rQ x.op=false/\x.op≠5/\x.op≠11) (fun _=>key _ rfl) (fun _=> ?_);refine aJ (p:=fun r:Bool×PS=>r.1=false->r.2=s/\rQ x.op=false/\x.op≠5/\x.op≠11) (fun _=>key _ rfl) (fun _=> ?_)
 refine aJ (p:=fun r:Bool×PS=>r.1=false->r.2=s/\rQ x.op=false/\x.op≠5/\x.op≠11) (fun _=>key _ rfl) (fun _=> ?_);refine aJ (p:=fun r:Bool×PS=>r.1=false->r.2=s/\rQ x.op=false/\x.op≠5/\x.op≠11) (fun _=>key _ rfl) (fun _=> ?_);intro _;refine⟨rfl, ?_,C8 a3,C8 a4⟩;unfold rQ;rw[Bool.not_eq_true]at a1 a2;rw[a1,a2];rfl
structure LOk (m:Md) (ls:List Int) (bd:List Ins) (s0:PS) (j:Nat) (s:PS) (F:List Bool):Prop where
 gd:s.Ok
 vl:s.vs.length<=101*j
 fl:F.length+1=s.cs.length
 f40:F.length<=40
 rn:nD 40 ((cH bd).drop j) F=some []
 go:BU m ls bd s0=BU m ls (bd.drop j) s
 nb:s.bad=false
theorem LOk.ge {m:Md}{ls:List Int}{bd:List Ins}{s0 s:PS}{j:Nat}{F:List Bool}(h:LOk m ls bd s0 j s F)(hj:j<=300):s.Gd:=⟨h.gd,by have:=h.vl;omega,by have:=h.fl;have:=h.f40;omega⟩
theorem UX{bd:List Ins}{a:Nat}{x:Ins}(h:bd[a]? =some x):(cH bd).drop a=x.op::(cH bd).drop (a+1)/\bd.drop a=x::bd.drop (a+1):=by
 obtain⟨h1,rfl⟩:=Ai.1 h;refine⟨?_,List.drop_eq_getElem_cons h1⟩;unfold cH;rw[<-List.map_drop,List.drop_eq_getElem_cons h1,Bn,List.map_drop]
theorem LOk.two {m:Md}{ls:List Int}{bd:List Ins}{s0 s:PS}{j:Nat}{F:List Bool}(h:LOk m ls bd s0 j s F){x:Ins}(hx:bd[j]? =some x)(h11:x.op=11):2<=s.cs.length:=by
 have hr:=h.rn;rw[(UX hx).1,h11,nD]at hr;have:=h.fl;cases F with
 |nil=>unfold jF at hr;simp[rQ]at hr
 |cons a F=>simp at this;omega
theorem LOk.step {m:Md}{ls:List Int}{bd:List Ins}{s0 s:PS}{j:Nat}{F:List Bool}(hT:m.TS)(h:LOk m ls bd s0 j s F){x:Ins}(hx:bd[j]? =some x):
  (gQ m ls s x).Ok/\(gQ m ls s x).vs.length<=101*(j+1)/\((gQ m ls s x).bad=true->(BU m ls bd s0).bad=true)/\((gQ m ls s x).bad=false->∃F',LOk m ls bd s0 (j+1) (gQ m ls s x) F'):=by
 obtain⟨hc1,hc2,hc3⟩:=TY (m:=m) h.gd (fun e=>h.two hx e) hT;have hvl:=h.vl;have key:(gQ m ls s x).Ok/\(gQ m ls s x).vs.length<=101*(j+1)/\((gQ m ls s x).cs.length:Int)=s.cs.length+dK x.op:=by
  unfold gQ;dsimp only;cases hc:(cE m s x).1 with
  |true=>
   rw[Dc rfl];rw[hc,Dc rfl]at hc3;exact⟨hc1,U,hc3⟩
  |false=>
   obtain⟨e1,e2,e3,e4⟩:=BO hc;rw[Db X,e1];obtain⟨p1,p2,p3⟩:=aBQ (m:=m) (ls:=ls) (x:=x) h.gd;refine⟨p1,U, ?_⟩;rw[p3];have:dK x.op=0:=by
    unfold dK;unfold rQ at e2;rw[e2,Db X,Db (C8 e4)]
   omega
 obtain⟨k1,k2,k3⟩:=key;obtain⟨o1,o2⟩:=UX hx;refine⟨k1,k2,fun hb=> ?_,fun hb=> ?_⟩
 ·rw[h.go,o2];show(if _ then _ else _:PS).bad=true;rw[Dc hb];exact hb
 ·have hr:=h.rn;rw[o1,nD]at hr;cases hs:jF 40 F x.op with
  |none=>rw[hs]at hr;cases hr
  |some F'=>
   rw[hs]at hr;have hF:(F'.length:Int)=F.length+dK x.op/\F'.length<=40:=by
    have h40:=h.f40;unfold jF at hs;split at hs
    ·next hO=>
     split at hs
     ·cases hs
     ·obtain rfl:=Option.some.inj hs;unfold rQ at hO;unfold dK;rw[Dc hO];simp;omega
    ·next hO=>
     have hd0:∀n:Int,(x.op==11)=false->dK x.op=0:=fun _ e=>by
      unfold dK;unfold rQ at hO;rw[Db (C8 hO),Db (by simp[e])]
     split at hs
     ·next h2=>
      obtain rfl:=Option.some.inj hs;rw[hd0 0 (C8 h2.2)];omega
     ·split at hs
      ·cases hs
      ·next c hl=>
       have hp:0<F.length:=List.length_pos_iff.2 (by rintro rfl;cases hl);split at hs
       ·next h11=>
        obtain rfl:=Option.some.inj hs;rw[h11];simp[dK];omega
       ·next h11=>
        split at hs
        ·obtain rfl:=Option.some.inj hs;rw[hd0 0 (C8 h11)];simp;omega
        ·cases hs
   have hfl:=h.fl;refine⟨F',k1,k2,U,hF.2,hr, ?_,hb⟩;rw[h.go,o2];show(if _ then _ else _:PS)=_;rw[Db (by simp[hb])]
theorem LOk.init {m:Md}{ls:List Int}{bd:List Ins}{kd:Int}(h:zS (cH bd)=true):LOk m ls bd (openP ⟨[],[],false⟩ 2 kd) 0 (openP ⟨[],[],false⟩ 2 kd) []:=
 ⟨PS.Ok0.openP ⟨X,X⟩ 2 kd,by simp[openP],by simp[openP],X,(QL.1 h).2,rfl,rfl⟩
attribute [local irreducible] SW RS RD fE eA
theorem aEv{a b c:Bool}(h:(if(if a=true then true else b)=true then true else c)=false):a=false/\b=false/\c=false:=by cases a<;>cases b<;>cases c<;>simp at h⊢
theorem aK4{a b:Bool}(h:(if(!a)=true then true else !b)=false):a=true/\b=true:=by cases a<;>cases b<;>simp at h⊢
theorem aK5{m:Md}{k:Int}{c:Co}{f:Int}(h:(if(if decide (k<0)=true then true else decide ((m.co.length:Int)<=k))=true then true else decide ((m.fn.length:Int)<=k))=false)(hc:m.co[k.toNat]? =some c)(hf:m.fn[k.toNat]? =some f):
  GO m k=if(if(!(cF m f).2)=true then true else !(zS (cH c.bd)))=true then false
   else if(BU m ((cF m f).1.pr++c.ls) c.bd (openP ⟨[],[],false⟩ 2 (if decide ((0:Int)<(cF m f).1.rs.length)=true then(cF m f).1.rs.headD 0 else 0))).bad=true then false
   else if(!(gL (BU m ((cF m f).1.pr++c.ls) c.bd (openP ⟨[],[],false⟩ 2 (if decide ((0:Int)<(cF m f).1.rs.length)=true then(cF m f).1.rs.headD 0 else 0)))).bad)=true then decide ((((cF m f).1.pr++c.ls).length:Int)<=32)else false:=by
 unfold GO;rw[Db (fun e=>by rw[h]at e;cases e)];dsimp only;rw[Ax,Ax,hc,hf];rfl
theorem rW(m:Md)(hm:m.Fn)(k:Int):SCall prog 23 [.agg (aM m),.int .i64 k] [] (fun y Y=>y=.bool (GO m k)/\Y=[]):=by
 refine bO 124 [0,1,2,4,5,6,7,9,10,12,31,57,78,91,92,93,94,100,107] func23 ?_;unfold aM;refine dB ?_;refine fZ fun r2 h2=> ?_;intros;refine iT ?_;refine jY ?_;refine mM ?_;refine fZ fun r15 h15=> ?_;intros;refine cN ?_;refine bN (ks:=[0,1,2,4,5,6,7,9,10,12,31,57,78,91,92,93,94,100,107]) r15 15 3 1 V bR rfl V fun p hp=> ?_
 simp only[aN,aQ,and_true]at hp;repeat rcases hp with⟨_,hp⟩
 apply Exists.intro;apply Bl;exact bK;refine bN (ks:=[0,1,2,4,5,6,7,9,10,12,31,57,78,91,92,93,94,100,107]) r15 16 137 4 V bR rfl V fun q hq=> ?_
 simp only[aN,aQ,and_true]at hq;repeat rcases hq with⟨_,hq⟩
 apply Exists.intro;apply Bl;exact bK;refine dO (gR (r:=r15) (cs':=mT m (.ro 0 [] .nil) p q [] [] false) bK (Df (Df (Df (Df (.cons (.refl _) (.cons (.refl _) .nil))))))) ?_;have hN0:Nm r15 p q:=⟨by(exact aX),by(exact aX),by(exact aX)⟩
 unfold mT
 (try dsimp only);refine fO ?_;refine xL ?_;refine nZ ?_;refine Cp ?_;refine jG ?_;refine kH ?_;refine nZ ?_;refine Cp ?_;refine uY ?_;refine aB rfl ?_ ?_<;>intro g2
 ·rw[show GO m k=false from Dc g2];refine cV ?_;exact aD aE ⟨by rfl,rfl⟩ aA
 obtain⟨t1,t2,t3⟩:=aEv g2;simp only[decide_eq_false_iff_not]at t1 t2 t3;obtain⟨c,hc⟩:=Aa m.co k.toNat U
 obtain⟨f,hf⟩:=Aa m.fn k.toNat U
 rw[aK5 g2 hc hf];have hcm:=Ah hc;obtain⟨hb1,hb2⟩:=hm.bd c hcm;have hlc:=hm.lc c hcm;refine oA ?_;refine nX ?_;refine cw (dL r15 p q m (.ro 0 [] .nil) ⟨[],[],false⟩) call74 (uF hN0 ⟨[],[],false⟩ f) rfl aC cA ?_;rintro _ Y' ⟨rfl,rfl⟩ h39;unfold dL mT;(try dsimp only);refine sJ ?_;refine iD fun r6 h6=> ?_;intros;apply OT;rfl;rfl;rfl;rfl;exact nI;refine iO ?_;refine rN ?_;refine tE call75 (nA c.bd hb1) rfl bL kK ?_;rintro _ Y' ⟨q1,rfl,rfl⟩ h49
 replace h49:=bU h49;repeat rcases h49 with⟨_,h49⟩
 refine sJ ?_;refine pN ?_;refine Cd ?_;refine kH ?_;refine xS ?_;refine aB rfl ?_ ?_<;>intro g6
 ·rw[Dc g6];refine cV ?_;exact aD aE ⟨by rfl,rfl⟩ aA
 obtain⟨hty,hok⟩:=aK4 g6;rw[Db (c:=(if(!(cF m f).2)=true then true else !(zS (cH c.bd)))=true) (fun e=>by rw[g6]at e;cases e)];have hts:=qZ hm.ts f;generalize(cF m f).1=t at hts⊢;obtain⟨pr,rs⟩:=t;obtain⟨hp1,hp2⟩:=hts;unfold cD;dsimp only at hp1 hp2⊢;have h300:=(QL.1 hok).1;have h300:c.bd.length<=300:=by simpa[cH]using h300
 refine aI ?_;refine eK (Ac [0,1,2,3,4,5,6,8,9,10,11,12,13] (Ad 7 (Ad 14 (Ac [15,16] (Ad 17 []))))) ?_;refine EG ?_;refine eQ ?_;refine BA ?_;refine aKd rfl (pr.map aK) pr.length ?_ (hby:=by omega);refine gD fun r65 h65=> ?_;intros;refine eW rfl ((pr++c.ls).map aK) (pr++c.ls).length ?_;refine bG fun r72 h72=> ?_;intros;refine XF ?_;refine IH ?_;refine vW ?_;refine dO (gO (r:=r15) (q:=r72) bK aY (Df (Df (Df (.cons (.refl _) (.cons (.refl _) (.cons (aL bR X) (.cons (.refl _) (.cons (.refl _) (.cons (.refl _) .nil)))))))))) ?_;have hll:(pr++c.ls).length<=2000:=by simp;omega
 generalize pr++c.ls=ls at hll⊢;obtain⟨kd,hkd⟩:∃kd,kd=(if decide ((0:Int)<(rs.length:Int))=true then rs.headD 0 else 0):=⟨_,rfl⟩
 rw[<-hkd];refine jD ?_;refine iT ?_;refine qA ?_;refine tP ?_;refine sja (β:=Unit) (fun _=>⟨[(0,.agg (aM m)),(1,.int .i64 k),(2,.ptr r2 0),(4,.bool false),(5,.ptr r15 0),(10,.int .i64 kd)],(r2,.box 33 (aM m))::dL r15 p q m (.ro 1 (ls.map aK) .any) ⟨[],[],false⟩⟩) (fun _=>True) ?_ ?_
 ·refine aB rfl ?_ ?_<;>intro g10
  ·obtain⟨v,rs',rfl⟩:∃v rs',rs=v::rs':=by cases rs with|nil=>simp at g10|cons v rs'=>exact⟨v,rs',rfl⟩
   obtain rfl:kd=v:=by rw[hkd,Dc g10];rfl
   have hv0:0<(kd::rs').length:=by simp
   refine eY ?_;refine mD ?_;refine cN ?_;exact⟨(),trivial,aH⟩
  obtain rfl:kd=0:=by rw[hkd,g10];rfl
  refine aI ?_;exact⟨(),trivial,aH⟩
 rintro⟨⟩-;unfold aM dL mT
 (try dsimp only);refine cJ ?_;refine cw (dL r15 p q m (.ro 1 (ls.map aK) .any) ⟨[],[],false⟩) call76 (HJ hN0 ⟨[],[],false⟩ X 2 kd) rfl aC cA ?_;rintro _ Y' ⟨q2,hE,rfl⟩ h85;unfold dL mT;(try dsimp only);obtain⟨e1,e2,e3⟩:=id hE;refine aKz (h85 _ (An _ (An _ Au))) fun k85=> ?_;intros;refine fN ?_;have hI:=LOk.init (m:=m) (ls:=ls) (kd:=kd) hok;generalize openP ⟨[],[],false⟩ 2 kd=s0 at hI⊢;refine mP ?_;refine rN ?_;refine qD ?_;refine lp (β:=Nat×Nat×Nat×PS) (fun b=>⟨[(4,.bool false),(5,.ptr r15 0),(91,.ro 4 (c.bd.map (iv .any)) .any),(92,.int .i64 c.bd.length),(93,.int .i64 b.1)],dL r15 b.2.1 b.2.2.1 m (.ro 1 (ls.map aK) .any) b.2.2.2⟩) (fun b=>b.1<=c.bd.length/\Nm r15 b.2.1 b.2.2.1/\∃F,LOk m ls c.bd s0 b.1 b.2.2.2 F) (fun b=>c.bd.length-b.1) (0,p,q2,s0) (by unfold dL mT;(try dsimp only);exact aH) ⟨Am _,hE,[],hI⟩ ?_;rintro⟨j,e,f',S⟩ ⟨hj,hN1,F,hL⟩;dsimp only at hj hN1 hL⊢;obtain⟨m1,m2,m3⟩:=id hN1;have hG:=hL.ge U;have hbv:=hL.vl;have hbc:S.cs.length<=41:=by have:=hL.fl;have:=hL.f40;omega
 unfold dL mT
 (try dsimp only);refine gN ?_;refine aB rfl ?_ ?_<;>intro g14
 ·obtain⟨x,hx⟩:∃x,c.bd[j]? =some x:=⟨_,Ar (by simp at g14;omega)⟩
  have hlt:j<c.bd.length:=(Ai.1 hx).1;have hxk:=hb2 x (Ah hx);have hst:=hL.step hm.ts hx;refine nY ?_;refine iD fun r12 h12=> ?_;intros;refine vV ?_;refine jY ?_;refine cw (dL r15 e f' m (.ro 1 (ls.map aK) .any) S) call77 (YO hN1 hm.toCk S hG U U x hxk (fun h=>hL.two hx h)) rfl aC cA ?_;rintro _ Y' ⟨e1,f1,hE1,rfl,rfl⟩ h99;unfold dL mT;(try dsimp only);obtain⟨m4,m5,m6⟩:=id hE1;refine aKz (h99 _ (An _ Au)) fun k99=> ?_;intros;refine aKz (h99 _ (An _ (An _ Au))) fun l99=> ?_;intros;apply aR;exact aU;refine mX ?_;refine aB rfl ?_ ?_<;>intro g16
  ·have hc0:(cE m S x).1=false:=C8 g16
   rw[(BO hc0).1];rw[show gQ m ls S x=dW m ls S x by unfold gQ;dsimp only;rw[hc0,(BO hc0).1];rfl]at hst;refine dG ?_;refine jY ?_;refine cw (dL r15 e1 f1 m (.ro 1 (ls.map aK) .any) S) call78 (aEs hE1 S hG x hxk) rfl aC cA ?_;rintro _ Y' ⟨e2,hE2,rfl⟩ h103;unfold dL mT;(try dsimp only);obtain⟨m7,m8,m9⟩:=id hE2;refine fN ?_;obtain⟨A,O,hAO,rfl,rfl⟩:∃A O,Nm r15 A O/\A=e2/\O=f1:=⟨_,_,hE2,rfl,rfl⟩
   generalize dW m ls S x=S' at hst⊢;refine rM ?_;refine iM ?_;refine aB rfl ?_ ?_<;>intro g18
   ·rw[Dc (hst.2.2.1 g18)];refine cV ?_;exact aD aE ⟨by rfl,rfl⟩ aA
   obtain⟨F',hL'⟩:=hst.2.2.2 g18;refine jH ?_;refine⟨(j+1,A,O,S'),⟨hlt,hAO,F',hL'⟩,Ab U, ?_⟩
   (try dsimp only);exact aH
  have hc1:(cE m S x).1=true:=C8 g16
  rw[show gQ m ls S x=(cE m S x).2 by unfold gQ;dsimp only;rw[Dc hc1]]at hst;obtain⟨A,O,hAO,rfl,rfl⟩:∃A O,Nm r15 A O/\A=e1/\O=f1:=⟨_,_,hE1,rfl,rfl⟩
  generalize(cE m S x).2=S' at hst⊢;refine vZ ?_;refine iM ?_;refine aB rfl ?_ ?_<;>intro g18
  ·rw[Dc (hst.2.2.1 g18)];refine cV ?_;exact aD aE ⟨by rfl,rfl⟩ aA
  obtain⟨F',hL'⟩:=hst.2.2.2 g18;refine jH ?_;refine⟨(j+1,A,O,S'),⟨hlt,hAO,F',hL'⟩,Ab U, ?_⟩
  (try dsimp only);exact aH
 obtain rfl:j=c.bd.length:=by simp at g14;omega
 rw[show BU m ls c.bd s0=S by rw[hL.go,List.drop_length];rfl,Db (by simp[hL.nb])];refine dG ?_;refine cw (dL r15 e f' m (.ro 1 (ls.map aK) .any) S) call79 (QK hN1 S hG) rfl aC cA ?_;rintro _ Y' ⟨rfl,rfl⟩ h110;refine nR ?_;refine rM ?_;refine Cd ?_;refine kH ?_;refine aAs ?_;refine CA ?_;refine OV ?_;refine kA ?_;exact aD aE ⟨by rfl,rfl⟩ aA
def eM {α:Type} (pt:α->List Nat) (l:List α) (j:Nat):List Nat:=(l.take j).flatMap pt
theorem mU{α:Type}{pt:α->List Nat}{l:List α}{j:Nat}{x:α}(h:l[j]? =some x):eM pt l (j+1)=eM pt l j++pt x:=by
 unfold eM;rw[Al,h,Bo];simp
theorem aHn{α:Type}{pt:α->List Nat}{l:List α}:eM pt l l.length=l.flatMap pt:=by unfold eM;rw[Aw]
theorem YP{α:Type}{pt:α->List Nat}{l:List α}{c:Nat}(h:∀x∈l,(pt x).length<=c)(j:Nat):(eM pt l j).length<=l.length*c:=by
 have h1:∀(l:List α),(∀x∈l,(pt x).length<=c)->(l.flatMap pt).length<=l.length*c:=by
  intro l
  induction l with
  |nil=>simp
  |cons x l ih=>
   intro h;have:=ih fun y hy=>h y (An _ hy)
   have hx:=h x Au;rw[List.flatMap_cons,Ao,Bj,Nat.add_mul];omega
 refine A4 (h1 (l.take j) fun x hx=>h x (Bf hx)) (Bq c ?_);simp;omega
theorem HL{α:Type}{pt:α->List Nat}{l:List α}:bB l pt=uB l.length++eM pt l l.length:=by rw[aHn];rfl
theorem yN(n:Int)(h0:0<=n)(h1:n<=100000000):SCall prog 160 [.int .i64 n] [] (fun y Y=>∃q,y=.own q 0 (cC n).length/\Y=[(q,.arr 5 1 ((cC n).map aG))]):=by
 obtain⟨k,rfl⟩:∃k:Nat,n=k:=⟨n.toNat,U⟩
 have hU:=FM k U;have hn:cC (k:Int)=uB k:=rfl;rw[hn];refine bO 6 [0,2] func160 ?_;refine fK ?_;refine XE ?_;refine tE call252 hU rfl bL kK ?_;rintro _ Y' ⟨q,rfl,rfl⟩ h5
 replace h5:=bU h5;repeat rcases h5 with⟨_,h5⟩
 refine fF ?_;exact aD aE ⟨q,by rfl,rfl⟩ aA
theorem yO{k:Rk}(n:Nat)(vs:List Nat)(h1:n<=100000000)(h2:vs.length<=50000000):SCall prog 251 [.int .i64 n,.ro 1 (vs.map aG) k] [] (fun y Y=>∃q,y=.own q 0 (uB n++vs).length/\Y=[(q,.arr 5 1 ((uB n++vs).map aG))]):=by
 have hu:=yN n U U;have hn:cC (n:Int)=uB n:=rfl;rw[hn]at hu;have hl:=bJ 4 n U;refine bO 9 [0,1,4] func251 ?_;refine fK ?_;refine tE call160 hu rfl bL kK ?_;rintro _ Y' ⟨q,rfl,rfl⟩ h6
 replace h6:=bU h6;repeat rcases h6 with⟨_,h6⟩
 refine AX ?_;refine kD ((uB n++vs).map aG) (uB n++vs).length ?_;refine bG fun r8 h8=> ?_;intros;refine cN ?_;exact aD aE ⟨r8,by rfl,rfl⟩ aA
theorem sU(s:List Nat)(h1:s.length<=100000)(h2:∀c∈s,c<256):SCall prog 159 [.str (cB s)] [] (fun y Y=>∃q,y=.own q 0 (bM s).length/\Y=[(q,.arr 5 1 ((bM s).map aG))]):=by
 have hv:=yO (k:=.any) s.length s U U;refine bO 8 [0,2] func159 ?_;refine fK ?_;refine Cw ?_;refine B4 ?_;refine cvb h2 ?_ (by simp[maxLen];omega);rw[jO];refine tE call251 hv rfl bL kK ?_;rintro _ Y' ⟨q,rfl,rfl⟩ h7
 replace h7:=bU h7;repeat rcases h7 with⟨_,h7⟩
 refine fF ?_;exact aD aE ⟨q,by rfl,rfl⟩ aA
theorem HM(k:Int):SCall prog 162 [.int .i64 k] [] (fun y Y=>y=.int .u8 ((if(k==1)=true then 127 else 126:Nat):Nat)/\Y=[]):=by
 refine bO 5 [0,2,4] func162 ?_;refine fK ?_;refine sH ?_;refine aB rfl ?_ ?_<;>intro g1
 ·have hE:(if(k==1)=true then 127 else 126:Nat)=127:=Dc g1;refine cV ?_;exact aD aE ⟨by rw[hE];rfl,rfl⟩ aA
 have hE:(if(k==1)=true then 127 else 126:Nat)=126:=Db (by rw[g1];simp);refine cV ?_;exact aD aE ⟨by rw[hE];rfl,rfl⟩ aA
theorem aEw(k:Int):kB k=[if(k==1)=true then 127 else 126]:=by unfold kB;split<;>rfl
theorem UY{k:Rk}(l:List Int)(hl:l.length<=1000):SCall prog 157 [.ro 1 (l.map aK) k] [] (fun y Y=>∃q,y=.own q 0 (bB l kB).length/\Y=[(q,.arr 5 1 ((bB l kB).map aG))]):=by
 have hfl:=YP (l:=l) (fun x _=>Nat.le_of_eq (oX x));rw[HL];refine bO 23 [0,2,3,4,8] func157 ?_;refine oB ?_;refine bQ 3 5 1 V rfl V (bD fun q0 hq0=> ?_);repeat rcases hq0 with⟨_,hq0⟩
 refine kI ?_;refine lp (β:=Nat×Nat) (fun b=>⟨[(0,.ro 1 (l.map aK) k),(3,.own b.1 0 (eM kB l b.2).length),(4,.int .i64 b.2)],[(b.1,.arr 5 1 ((eM kB l b.2).map aG))]⟩) (fun b=>b.2<=l.length) (fun b=>l.length-b.2) (q0,0) aH (Am _) ?_;rintro⟨q1,j⟩ hj;have hpl:=hfl j;dsimp only at hj⊢;refine vT ?_;refine aB rfl ?_ ?_<;>intro g3
 ·have hlt:j<l.length:=by simp at g3;omega
  obtain⟨x,hx⟩:=Aa l j hlt
  have hnx:eM kB l (j+1)=eM kB l j++ [if(x==1)=true then 127 else 126]:=by rw[mU hx,aEw]
  refine cJ ?_;refine nX ?_;refine kY call162 (HM x) rfl aO bH ?_;refine eN fun r17 h17=> ?_;intros;refine kD ((eM kB l j++ [if(x==1)=true then 127 else 126]).map aG) (eM kB l j++ [if(x==1)=true then 127 else 126]).length ?_;refine bG fun r18 h18=> ?_;intros;refine gX ?_;refine xK ?_;refine⟨(r18,j+1),hlt,Ab U, ?_⟩;dsimp only;rw[hnx];exact aH
 obtain rfl:j=l.length:=by simp at g3;omega
 refine dG ?_;refine zP ?_;refine tE call251 (yO l.length (eM kB l l.length) U U) rfl bL kK ?_;rintro _ Y' ⟨q4,rfl,rfl⟩ h22
 replace h22:=bU h22;repeat rcases h22 with⟨_,h22⟩
 refine fF ?_;exact aD aE ⟨q4,by rfl,rfl⟩ aA
theorem YQ{k:Rk}(l:List Int)(hl:l.length<=1000)(h0:∀x∈l,0<=x/\x<=100000000):SCall prog 254 [.ro 1 (l.map aK) k] [] (fun y Y=>∃q,y=.own q 0 (bB l cC).length/\Y=[(q,.arr 5 1 ((bB l cC).map aG))]):=by
 have hfl:=YP (pt:=cC) (l:=l) (c:=5) fun x hx=>by have:=h0 x hx;exact bJ 4 x.toNat U
 rw[HL];refine bO 22 [0,2,3,4,8] func254 ?_;refine oB ?_;refine bQ 3 5 1 V rfl V (bD fun q0 hq0=> ?_);repeat rcases hq0 with⟨_,hq0⟩
 refine kI ?_;refine lp (β:=Nat×Nat) (fun b=>⟨[(0,.ro 1 (l.map aK) k),(3,.own b.1 0 (eM cC l b.2).length),(4,.int .i64 b.2)],[(b.1,.arr 5 1 ((eM cC l b.2).map aG))]⟩) (fun b=>b.2<=l.length) (fun b=>l.length-b.2) (q0,0) aH (Am _) ?_;rintro⟨q1,j⟩ hj;have hpl:=hfl j;dsimp only at hj⊢;refine vT ?_;refine aB rfl ?_ ?_<;>intro g3
 ·have hlt:j<l.length:=by simp at g3;omega
  obtain⟨x,hx⟩:=Aa l j hlt
  have hx0:=h0 x (Ah hx);have hxl:=bJ 4 x.toNat U;have hxl2:(cC x).length<=5:=hxl;have hnx:eM cC l (j+1)=eM cC l j++cC x:=mU hx;refine cJ ?_;refine nX ?_;refine tE call160 (yN x hx0.1 hx0.2) rfl bL kK ?_;rintro _ Y' ⟨q16,rfl,rfl⟩ h16
  replace h16:=bU h16;repeat rcases h16 with⟨_,h16⟩
  apply aR;exact aU;refine kD ((eM cC l j++cC x).map aG) (eM cC l j++cC x).length ?_;refine bG fun r17 h17=> ?_;intros;refine gX ?_;refine xK ?_;refine⟨(r17,j+1),hlt,Ab U, ?_⟩;dsimp only;rw[hnx];exact aH
 obtain rfl:j=l.length:=by simp at g3;omega
 refine dG ?_;refine zP ?_;refine tE call251 (yO l.length (eM cC l l.length) U U) rfl bL kK ?_;rintro _ Y' ⟨q4,rfl,rfl⟩ h21
 replace h21:=bU h21;repeat rcases h21 with⟨_,h21⟩
 refine fF ?_;exact aD aE ⟨q4,by rfl,rfl⟩ aA
theorem NN(l:Li)(h:UC l):SCall prog 161 [.agg (eO l)] [] (fun y Y=>∃q,y=.own q 0 (eL l).length/\Y=[(q,.arr 5 1 ((eL l).map aG))]):=by
 obtain⟨has,mn,mx⟩:=l;obtain⟨h0,h1,h2⟩:=h;dsimp only at h0 h1 h2;have hu:=bJ 2 mn.toNat U;have hu2:=bJ 2 mx.toNat U;have hul:(cC mn).length<=3:=hu;have hul2:(cC mx).length<=3:=hu2;refine bO 20 [0,1,2,5] func161 ?_;unfold eO;refine dB ?_;apply bx;rfl;rfl;exact rK;rfl;refine bD fun r1 h1=> ?_;repeat rcases h1 with⟨_,h1⟩
 refine iO ?_;refine sG ?_;refine aB rfl ?_ ?_<;>intro g1
 ·have hE:eL ⟨has,mn,mx⟩=[0]++cC mn:=by unfold eL;rw[Dc g1];rfl
  refine dB ?_;refine eN fun r6 h6=> ?_;intros;refine pD ?_;refine tE call160 (yN mn h0 U) rfl bL kK ?_;rintro _ Y' ⟨q9,rfl,rfl⟩ h9
  replace h9:=bU h9;repeat rcases h9 with⟨_,h9⟩
  apply aR;exact aU;refine kD (([0]++cC mn).map aG) ([0]++cC mn).length ?_;refine bG fun r10 h10=> ?_;intros;refine cN ?_;exact aD aE ⟨r10,by rw[hE];rfl,by rw[hE]⟩ aA
 have hE:eL ⟨has,mn,mx⟩=[1]++cC mn++cC mx:=by unfold eL;rw[Db (by rw[g1];simp)];rfl
 have hx:0<=mx:=by simp at g1;omega
 refine aI ?_;refine eK (Ac [1,2,5,6] (Ad 10 (Ad 10 (Ad 10 (Ad 10 (Ad 10 (Ad 10 []))))))) ?_;refine eQ ?_;refine eQ ?_;refine gY 0 3 [(3,false),(4,false),(7,false),(8,false),(9,true)] [(0,false),(4,false),(7,false),(8,false),(9,true)] (f1:=[]) (f2:=[]) (by kernel_rfl) rfl rfl ?_ ?_ (.inl rfl) (.inl rfl)
 ·apply AJ;infer_instance;infer_instance;exact tM;rfl;rfl;rfl;rfl;exact rK;rfl;refine gD fun r11 h11=> ?_;intros;refine mI rfl call160 (yN mn h0 U) rfl bL kK ?_;rintro _ Y' ⟨q14,rfl,rfl⟩ h14
  replace h14:=bU h14;repeat rcases h14 with⟨_,h14⟩
  apply bC;exact aU;refine eW rfl (([1]++cC mn).map aG) ([1]++cC mn).length ?_;refine bG fun r15 h15=> ?_;intros;refine mI rfl call160 (yN mx hx U) rfl bL kK ?_;rintro _ Y' ⟨q18,rfl,rfl⟩ h18
  replace h18:=bU h18;repeat rcases h18 with⟨_,h18⟩
  apply bC;exact aU;refine eW rfl (([1]++cC mn++cC mx).map aG) ([1]++cC mn++cC mx).length ?_;refine bG fun r19 h19=> ?_;intros;refine tQ ?_;exact aD aE ⟨r19,by rw[hE];rfl,by rw[hE]⟩ aA
 ·refine lJ call160 (yN mn h0 U) (cL rfl) ?_;rintro _ Y' ⟨q14,rfl,rfl⟩ h14
  replace h14:=bU h14;repeat rcases h14 with⟨_,h14⟩
  apply bC;exact aU;refine z97 ?_;refine bD fun r11 h11=> ?_;repeat rcases h11 with⟨_,h11⟩
  refine eW rfl (([1]++cC mn).map aG) ([1]++cC mn).length ?_;refine bG fun r15 h15=> ?_;intros;refine mI rfl call160 (yN mx hx U) rfl bL kK ?_;rintro _ Y' ⟨q18,rfl,rfl⟩ h18
  replace h18:=bU h18;repeat rcases h18 with⟨_,h18⟩
  apply bC;exact aU;refine eW rfl (([1]++cC mn++cC mx).map aG) ([1]++cC mn++cC mx).length ?_;refine bG fun r19 h19=> ?_;intros;refine tQ ?_;exact aD aE ⟨r19,by rw[hE];rfl,by rw[hE]⟩ aA
theorem sV(k n:Int)(hv:nT k n=true)(hn:-9223372036854775808<=n/\n<=9223372036854775807):SCall prog 163 [.agg [.int .i64 k,.int .i64 n]] []
  (fun y Y=>∃q,y=.own q 0 (nB k n).length/\Y=[(q,.arr 5 1 ((nB k n).map aG))]):=by
 obtain⟨ho,hm,-⟩:=IX hv hn;have hpl:=yB ho hm;have hcB:nB k n=gT ⟨if(k==2)=true then 66 else 65,n,0,[]⟩++ [11]:=rfl;rw[hcB];generalize hop:(if(k==2)=true then(66:Int)else 65)=op at ho hm hpl hcB⊢;have hop:=hop.symm;refine bO 14 [0,1,2,3,6] func163 ?_;refine dB ?_;refine fZ fun r1 h1=> ?_;intros;refine iT ?_;refine iO ?_;refine sH ?_;refine aB rfl ?_ ?_<;>intro g2
 ·have hco:cM (.int .i64 66)=AV.int .i64 op:=by rw[hop,Dc g2];rfl
  refine cV ?_;rw[hco];refine lT ?_;refine mM ?_;refine mC (fH (j:=10) rfl HG) ?_;refine tE call253 (uZ .any ⟨op,n,0,[]⟩ ho hm) rfl bL kK ?_;rintro _ Y' ⟨q11,rfl,rfl⟩ h11
  replace h11:=bU h11;repeat rcases h11 with⟨_,h11⟩
  apply aR;exact aU;refine eN fun r12 h12=> ?_;intros;refine kD ((gT ⟨op,n,0,[]⟩++ [11]).map aG) (gT ⟨op,n,0,[]⟩++ [11]).length ?_;refine bG fun r13 h13=> ?_;intros;refine cN ?_;exact aD aE ⟨r13,by rfl,rfl⟩ aA
 have hco:cM (.int .i64 65)=AV.int .i64 op:=by rw[hop,Db (by simp[g2])];rfl
 refine aI ?_;rw[hco];refine lT ?_;refine mM ?_;refine mC (fH (j:=10) rfl HG) ?_;refine tE call253 (uZ .any ⟨op,n,0,[]⟩ ho hm) rfl bL kK ?_;rintro _ Y' ⟨q11,rfl,rfl⟩ h11
 replace h11:=bU h11;repeat rcases h11 with⟨_,h11⟩
 apply aR;exact aU;refine z1 ?_;refine bD fun r12 h12=> ?_;repeat rcases h12 with⟨_,h12⟩
 refine kD ((gT ⟨op,n,0,[]⟩++ [11]).map aG) (gT ⟨op,n,0,[]⟩++ [11]).length ?_;refine bG fun r13 h13=> ?_;intros;refine cN ?_;exact aD aE ⟨r13,by rfl,rfl⟩ aA
theorem jC{α:Type}(no:Nat)(hno:no<256)(l:List α)(pt:α->List Nat)(hl:l.length<=1000)(hp:(eM pt l l.length).length<=30000000):SCall prog 158 [.int .i64 no,.int .i64 l.length,.ro 1 ((eM pt l l.length).map aG) .any] []
  (fun y Y=>∃q,y=.own q 0 (bF no l pt).length/\Y=[(q,.arr 5 1 ((bF no l pt).map aG))]):=by
 have hu:=bJ 1 l.length U;have hV:bB l pt=uB l.length++eM pt l l.length:=HL;have hvl:(uB l.length++eM pt l l.length).length<=40000000:=by simp;omega
 have hw:=yO (k:=.any) l.length (eM pt l l.length) U U;rw[<-hV]at hvl hw;have hS:bF no l pt=if l.isEmpty then []else [no]++(uB (bB l pt).length++bB l pt):=rfl
 have hub:=bJ 4 (bB l pt).length U;refine bO 21 [0,1,2,6,7,9] func158 ?_;refine fK ?_;refine sH ?_;refine aB rfl ?_ ?_<;>intro g1
 ·obtain rfl:l=[]:=by cases l with|nil=>rfl|cons x t=>(simp at g1<;>omega)
  refine tR ?_;refine bQ 6 5 1 V rfl V (bD fun q2 hq2=> ?_);repeat rcases hq2 with⟨_,hq2⟩
  refine aI ?_;exact aD aE ⟨q2,by rw[hS];rfl,by rw[hS]⟩ aA
 have hE:bF no l pt=[no]++(uB (bB l pt).length++bB l pt):=by rw[hS,Db];intro e;rw[List.isEmpty_iff.1 e]at g1;simp at g1
 refine cJ ?_;refine tE call251 hw rfl bL kK ?_;rintro _ Y' ⟨q12,rfl,rfl⟩ h12
 replace h12:=bU h12;repeat rcases h12 with⟨_,h12⟩
 refine fF ?_;generalize bB l pt=P at hvl hub hE⊢;refine fO ?_;refine z0 ?_;refine eN fun r15 h15=> ?_;intros;refine B4 ?_;refine zP ?_;refine tE call251 (yO (k:=.any) P.length P U U) rfl bL kK ?_;rintro _ Y' ⟨q19,rfl,rfl⟩ h19
 replace h19:=bU h19;repeat rcases h19 with⟨_,h19⟩
 apply aR;exact aU;refine kD (([no]++(uB P.length++P)).map aG) ([no]++(uB P.length++P)).length ?_;refine bG fun r20 h20=> ?_;intros;refine cN ?_;exact aD aE ⟨r20,by rw[hE];rfl,by rw[hE]⟩ aA
def Bd (l:List Int) (i:Nat):Prop:=∀(init:List (List Int)) (y:Int) (m:Nat),bZ (l.take i)=init++ [Ak (m+1) y]->l[i]? ≠some y
theorem YR{l:List Int}{i:Nat}{x:Int}(hb:Bd l i)(hx:l[i]? =some x):bZ (l.take (i+1))=bZ (l.take i)++ [[x]]:=by
 cases i with
 |zero=>rw[show l.take 0=[]from rfl,UK hx];rfl
 |succ i=>
  have hi:i<l.length:=by have:=(Ai.1 hx).1;omega
  obtain⟨init,m,e,-,-⟩:=aBV (Ar hi);have hk:l[i]≠x:=fun h=>hb init l[i] m e (by rw[h];exact hx)
  rw[e];exact UJ e hx hk
theorem aB3{l:List Int}{i k:Nat}{x:Int}{R:List (List Int)}(hk:i<k)(h:bZ (l.take k)=R++ [Ak (k-i) x])(hx:l[k]? =some x):bZ (l.take (k+1))=R++ [Ak (k+1-i) x]:=by
 obtain⟨m,hm⟩:∃m,k-i=m+1:=⟨k-i-1,U⟩
 rw[hm]at h;have:=ND h hx;rw[this,show k+1-i=m+1+1 by omega,List.replicate_succ' (n:=m+1)]
theorem aHo{l:List Int}{i k:Nat}{x:Int}{R:List (List Int)}(hk:i<k)(h:bZ (l.take k)=R++ [Ak (k-i) x])(hx:l[k]? ≠some x):Bd l k:=by
 intro init y m e;rw[h]at e;have:=(List.append_inj' e rfl).2;simp only[List.cons.injEq,and_true]at this;obtain⟨m2,hm⟩:∃m,k-i=m+1:=⟨k-i-1,U⟩
 rw[hm,List.replicate_succ,List.replicate_succ]at this;rw[<-(List.cons.inj this).1];exact hx
theorem aHp(l:List Int):Bd l 0:=fun init y m e=>by
 rw[show bZ (l.take 0)=[]from rfl]at e;simp at e
def UZ (l:List Int) (i:Nat):List Nat:=(bZ (l.take i)).flatMap iK
theorem aEx{l:List Int}{i k:Nat}{x:Int}(h:bZ (l.take k)=bZ (l.take i)++ [Ak (k-i) x])(hk:i<k):UZ l k=UZ l i++cC ((k:Int)-i)++ [if(x==1)=true then 127 else 126]:=by
 unfold UZ;rw[h,Bo];simp only[List.flatMap_cons,List.flatMap_nil,Be,Aq]
 congr 1
 unfold iK;rw[List.length_replicate,aEw,show((k-i:Nat):Int)=(k:Int)-i by omega];obtain⟨m,hm⟩:∃m,k-i=m+1:=⟨k-i-1,U⟩
 rw[hm,List.replicate_succ,List.headD_cons]
theorem aAY{l:List Int}(hl:l.length<=1000)(i:Nat):(UZ l i).length<=3000/\(bZ (l.take i)).length<=1000:=by
 obtain⟨h1,h2⟩:=CY _ (l.take i) rfl;have h3:∀r∈bZ (l.take i),0<r.length/\r.length<=1000:=fun r hr=>by
  obtain⟨k,m,rfl,-,hm⟩:=h2 r hr;simp at hm⊢;omega
 have hn:∀(rs:List (List Int)),(∀r∈rs,0<r.length/\r.length<=1000)->rs.length<=rs.flatten.length/\(rs.flatMap iK).length<=3*rs.length:=by
  intro rs
  induction rs with
  |nil=>simp
  |cons r rs ih=>
   intro h;have h4:=h r Au;have:=ih fun r hr=>h r (An _ hr)
   have h5:=JF h4.2;rw[List.flatten_cons,List.flatMap_cons,Ao,Ao,Bj];omega
 have:=hn _ h3;have h6:(bZ (l.take i)).flatten.length<=1000:=by rw[h1];simp;omega
 unfold UZ;omega
theorem aB4(l:List Int)(hl:l.length<=1000):SCall prog 255 [.ro 1 (l.map aK) .any] [] (fun y Y=>∃q,y=.own q 0 (bB (bZ l) iK).length/\Y=[(q,.arr 5 1 ((bB (bZ l) iK).map aG))]):=by
 have hJ:=aAY hl;refine bO 48 [0,2,3,4,5,6,10,26] func255 ?_;refine oB ?_;refine bQ 3 5 1 V rfl V (bD fun q0 hq0=> ?_);repeat rcases hq0 with⟨_,hq0⟩
 refine jD ?_;refine iT ?_;refine cN ?_;refine lp (β:=Nat×Nat) (fun b=>⟨[(0,.ro 1 (l.map aK) .any),(3,.own b.1 0 (UZ l b.2).length),(4,.int .i64 ((bZ (l.take b.2)).length:Nat)),(5,.int .i64 b.2)],[(b.1,.arr 5 1 ((UZ l b.2).map aG))]⟩) (fun b=>b.2<=l.length/\Bd l b.2) (fun b=>l.length-b.2) (q0,0) aH ⟨Am _,aHp l⟩ ?_;rintro⟨q1,i⟩ ⟨hi,hbd⟩;obtain⟨hJ1,hJ2⟩:=hJ i;dsimp only at hi hbd⊢;refine vT ?_;refine aB rfl ?_ ?_<;>intro g4
 ·have hlt:i<l.length:=by simp at g4;omega
  obtain⟨x,hx⟩:=Aa l i hlt
  have hxi:l[i]! =x:=by rw[List.getElem!_eq_getElem?_getD,hx];rfl
  refine fC ?_;refine lp (β:=Nat) (fun k=>⟨[(0,.ro 1 (l.map aK) .any),(3,.own q1 0 (UZ l i).length),(4,.int .i64 ((bZ (l.take i)).length:Nat)),(5,.int .i64 i),(6,.int .i64 k)],[(q1,.arr 5 1 ((UZ l i).map aG))]⟩) (fun k=>i<=k/\k<=l.length/\(i<k->bZ (l.take k)=bZ (l.take i)++ [Ak (k-i) x])) (fun k=>l.length-k) i aH ⟨A3 _,hi,fun h=>absurd h (Nat.lt_irrefl _)⟩ ?_;rintro k ⟨hk1,hk2,hk3⟩;refine aI ?_;refine eK (Ac [0,1,2,3,4,5,6,7,8,9,10,11,12,13,14] []) ?_;refine wV ?_;refine SI ?_;refine z46 ?_;refine qC ?_;refine lC ?_;refine XR ?_;refine XS ?_;refine lC ?_;refine lC ?_;refine XR ?_;refine XS ?_;refine aF6 ?_;refine OW ?_;refine oI ?_;refine aB rfl ?_ ?_<;>intro g6
  ·have hkl:k<l.length:=by cases h:decide ((k:Int)<(l.length:Int))with|true=>(simp at h<;>omega)|false=>(rw[h]at g6;cases g6)
   obtain⟨y,hy⟩:=Aa l k hkl
   have hyi:l[k]! =y:=by rw[List.getElem!_eq_getElem?_getD,hy];rfl
   have hyx:y=x:=by rw[decide_eq_true U,Dc rfl,Bc,hyi]at g6;simpa using g6
   refine iN ?_;refine⟨k+1,⟨U,hkl,fun _=> ?_⟩,Ab U, ?_⟩
   ·rw[hyx]at hy;rcases Br i k with h|h
    ·exact aB3 h (hk3 h) hy
    ·obtain rfl:k=i:=by omega
     rw[YR hbd hy,show k+1-k=1 by omega];rfl
   exact aH
  have hxk:l[k]? ≠some x:=by intro h;have hkl:=(Ai.1 h).1;rw[decide_eq_true U,Dc rfl,Bc,List.getElem!_eq_getElem?_getD,h]at g6;simp at g6
  have hik:i<k:=by rcases Br i k with h|h;exact h;exact absurd (by rw[show k=i by omega];exact hx) hxk
  have hrun:=hk3 hik;have hnx:=aEx hrun hik;have hbk:=aHo hik hrun hxk;obtain⟨hJ3,hJ4⟩:=hJ k;have hcnt:((bZ (l.take k)).length:Int)=(bZ (l.take i)).length+1:=by rw[hrun];simp
  have hnl:(cC ((k:Int)-i)).length<=5:=bJ 4 ((k:Int)-i).toNat U;refine aI ?_;refine eK (Ac [0,1,2,3,6,7,8,9] (Ad 4 (Ad 5 (Ad 10 (Ad 11 (Ad 12 (Ac [13] []))))))) ?_;refine wV ?_;refine B5 ?_;refine z82 ?_;refine wW ?_;refine MF ?_;refine mI rfl call160 (yN ((k:Int)-i) U U) rfl bL kK ?_;rintro _ Y' ⟨q33,rfl,rfl⟩ h33
  replace h33:=bU h33;repeat rcases h33 with⟨_,h33⟩
  apply bC;exact aU;refine eW rfl ((UZ l i++cC ((k:Int)-i)).map aG) (UZ l i++cC ((k:Int)-i)).length ?_;refine bG fun r34 h34=> ?_;intros;refine LM rfl call162 (HM x) rfl aO bH ?_;refine CH fun r40 h40=> ?_;intros;refine eW rfl ((UZ l i++cC ((k:Int)-i)++ [if(x==1)=true then 127 else 126]).map aG) (UZ l i++cC ((k:Int)-i)++ [if(x==1)=true then 127 else 126]).length ?_;refine bG fun r41 h41=> ?_;intros;refine qH ?_;refine fO ?_;refine cN ?_;refine⟨(r41,k),⟨hk2,hbk⟩,by show l.length-k<l.length-i;omega, ?_⟩;dsimp only;rw[hnx,hcnt];exact aH
 obtain rfl:i=l.length:=by simp at g4;omega
 have hv:=yO (k:=.any) (bZ (l.take l.length)).length (UZ l l.length) U U;rw[show uB (bZ (l.take l.length)).length++UZ l l.length=bB (bZ l) iK by unfold UZ;rw[Aw];rfl]at hv;refine cJ ?_;refine tE call251 hv rfl bL kK ?_;rintro _ Y' ⟨q2,rfl,rfl⟩ h47
 replace h47:=bU h47;repeat rcases h47 with⟨_,h47⟩
 refine fF ?_;exact aD aE ⟨q2,by rfl,rfl⟩ aA
def VA (s:List Nat):Prop:=s.length<=1000/\∀c∈s,c<256
def SmI (n:Int):Prop:=0<=n/\n<=100000
structure Md.G (m:Md):Prop where
 ty:m.ty.length<=100/\∀x∈m.ty,x.pr.length<=1000/\x.rs.length<=1000
 im:m.im.length<=100/\∀x∈m.im,VA x.mod/\VA x.nm/\SmI x.ty
 fn:m.fn.length<=100/\∀n∈m.fn,SmI n
 tb:m.tb.has=true->UC m.tb
 me:m.me.has=true->UC m.me
 gl:m.gl.length<=100/\∀g∈m.gl,nT g.kd g.n=true/\ -9223372036854775808<=g.n/\g.n<=9223372036854775807
 ex:m.ex.length<=100/\∀x∈m.ex,VA x.nm/\SmI x.fn
 el:m.el.length<=100/\∀x∈m.el,gV x.off=true/\x.fs.length<=1000/\∀n∈x.fs,SmI n
 co:m.co.length<=100/\∀x∈m.co,x.ls.length<=1000/\x.bd.length<=310/\∀i∈x.bd,i.Ok/\cY i=true
 da:m.da.length<=100/\∀x∈m.da,gV x.off=true/\x.bs.length<=1000
theorem vH{n:Int}(h:SmI n):(cC n).length<=5:=bJ 4 n.toNat (by have:=h.2;have:=h.1;omega)
theorem EU{s:List Nat}(h:VA s):(bM s).length<=1005:=by
 have:=bJ 4 s.length (by have:=h.1;omega);have:=h.1;unfold bM;rw[Ao];omega
theorem lZ{α:Type}(no:Nat){l:List α}(pt:α->List Nat)(c:Nat)(hl:l.length<=100)(hc:c<=100000)(h:∀x∈l,(pt x).length<=c):(bF no l pt).length<=20+100*c/\∀j,(eM pt l j).length<=100*c:=by
 have h1:=YP h;have h4:l.length*c<=100*c:=Bq c hl;have h2:(bB l pt).length<=5+100*c:=by
  rw[HL,Ao];have:=bJ 4 l.length U;have:=h1 l.length;omega
 refine⟨?_,fun j=>A4 (h1 j) h4⟩;have h3:=bJ 4 (bB l pt).length U;unfold bF;split
 ·simp
 ·simp only[Bj,Ao];omega
theorem aHr{t:FT}(h:t.pr.length<=1000/\t.rs.length<=1000):(yD t).length<=2100:=by
 have h1:=kZ (pt:=kB) (l:=t.pr) (c:=1) (fun x _=>Nat.le_of_eq (oX x)) h.1;have h2:=kZ (pt:=kB) (l:=t.rs) (c:=1) (fun x _=>Nat.le_of_eq (oX x)) h.2;unfold yD;simp only[Bj,Ao];omega
theorem aHs{x:Im}(h:VA x.mod/\VA x.nm/\SmI x.ty):(jI x).length<=2100:=by
 have h1:=EU h.1;have h2:=EU h.2.1;have h3:=vH h.2.2;unfold jI;simp only[Ao,Bj,List.length_nil];omega
theorem aHt{g:Gl}(h:nT g.kd g.n=true/\ -9223372036854775808<=g.n/\g.n<=9223372036854775807):(xA g).length<=300:=by
 have h1:=zD h.1 h.2;have h2:=oX g.kd;unfold xA;simp only[Ao,Bj,List.length_nil];omega
theorem aHu{x:Ex}(h:VA x.nm/\SmI x.fn):(oK x).length<=1100:=by
 have h2:=EU h.1;have h3:=vH h.2;unfold oK;simp only[Ao,Bj,List.length_nil];omega
theorem aAZ{x:El}(h:gV x.off=true/\x.fs.length<=1000/\∀n∈x.fs,SmI n):(uS x).length<=5300:=by
 have h1:=zE h.1;have h2:=kZ (pt:=cC) (l:=x.fs) (c:=5) (fun n hn=>vH (h.2.2 n hn)) h.2.1;unfold uS;rw[Ao];omega
theorem aA0{l:List Int}(hl:l.length<=1000):(bB (bZ l) iK).length<=3010:=by
 have h:=aAY hl l.length;unfold UZ at h;rw[Aw]at h;have:=bJ 4 (bZ l).length U;unfold bB;rw[Ao];omega
theorem aA1{x:Co}(h:x.ls.length<=1000/\x.bd.length<=310/\∀i∈x.bd,i.Ok/\cY i=true):(lD x).length<=70000:=by
 have h1:=aA0 h.1;have h2:=CQ h.2.2;have h3:=bJ 4 (bB (bZ x.ls) iK++jA x.bd).length (by rw[Ao];omega);unfold lD;rw[Ao,Ao];rw[Ao]at h3;omega
theorem aA2{x:Da}(h:gV x.off=true/\x.bs.length<=1000):(wD x).length<=1300:=by
 have h1:=zE h.1;have h2:=bJ 4 x.bs.length U;unfold wD;simp only[Ao];omega
theorem aA3{s:List Nat}{mu:Bool}{k n:Int}{z:Nat}(h:(if mu=true then 1 else 0)=z):s++xA ⟨mu,k,n⟩=s++ [if(k==1)=true then 127 else 126,z]++nB k n:=by
 unfold xA;dsimp only;rw[h,aEw];simp
def yP (m:Md):List Nat:=bF 9 m.el uS++bF 10 m.co lD++bF 11 m.da wD
theorem aEy(m:Md)(h:m.G)(hlate:SCall prog 164 [.agg (aM m)] [] (fun y Y=>∃q,y=.own q 0 (yP m).length/\Y=[(q,.arr 5 1 ((yP m).map aG))]))(hll:(yP m).length<=10000000):SCall prog 64 [.agg (aM m)] [] (fun y Y=>∃q,y=.own q 0 (eZ m).length/\Y=[(q,.arr 5 1 ((eZ m).map aG))]):=by
 obtain⟨⟨nty,hty⟩,⟨nim,him⟩,⟨nfn,hfn⟩,htb,hme,⟨ngl,hgl⟩,⟨nex,hex⟩,-,-,-⟩:=h;obtain⟨ty,im,fn,tb,me,gl,ex,el,co,da⟩:=m;dsimp only at nty hty nim him nfn hfn htb hme ngl hgl nex hex;obtain⟨L1,Pty⟩:=lZ 1 yD 2100 nty V fun x hx=>aHr (hty x hx)
 obtain⟨L2,Pim⟩:=lZ 2 jI 2100 nim V fun x hx=>aHs (him x hx)
 obtain⟨L3,Pfn⟩:=lZ 3 cC 5 nfn V fun x hx=>vH (hfn x hx)
 obtain⟨L6,Pgl⟩:=lZ 6 xA 300 ngl V fun x hx=>aHt (hgl x hx)
 obtain⟨L7,Pex⟩:=lZ 7 oK 1100 nex V fun x hx=>aHu (hex x hx)
 have T1:tb.has=true->bF 4 (iA tb) (fun l=>112::eL l)=bF 4 [tb] (fun l=>112::eL l):=fun h=>by unfold iA;rw[h];rfl
 have T0:tb.has=false->bF 4 (iA tb) (fun l=>112::eL l)=[]:=fun h=>by unfold iA;rw[h];rfl
 have E1:me.has=true->bF 5 (iA me) eL=bF 5 [me] eL:=fun h=>by unfold iA;rw[h];rfl
 have E0:me.has=false->bF 5 (iA me) eL=[]:=fun h=>by unfold iA;rw[h];rfl
 have L4:(bF 4 (iA tb) (fun l=>112::eL l)).length<=1020:=by
  cases hh:tb.has with
  |false=>rw[T0 hh];decide
  |true=>rw[T1 hh];exact(lZ 4 (l:=[tb]) (fun l=>112::eL l) 10 X V (fun x hx=>by obtain rfl:=A1.1 hx;have:=zF (htb hh);simp;omega)).1
 have L5:(bF 5 (iA me) eL).length<=1020:=by
  cases hh:me.has with
  |false=>rw[E0 hh];decide
  |true=>rw[E1 hh];exact(lZ 5 (l:=[me]) eL 10 X V (fun x hx=>by obtain rfl:=A1.1 hx;have:=zF (hme hh);omega)).1
 have hH:headB.length=8:=rfl;have hW:eZ ⟨ty,im,fn,tb,me,gl,ex,el,co,da⟩=headB++bF 1 ty yD++bF 2 im jI++bF 3 fn cC++bF 4 (iA tb) (fun l=>112::eL l)++bF 5 (iA me) eL++bF 6 gl xA++bF 7 ex oK++yP ⟨ty,im,fn,tb,me,gl,ex,el,co,da⟩:=by
  unfold eZ yP;simp only[Aq]
 rw[hW];generalize yP ⟨ty,im,fn,tb,me,gl,ex,el,co,da⟩=SL at hlate hll⊢;refine bO 193 [0,1,2,3,4,5,6,7,8,9,10,11,12,18,51,85,105,116,127,136,160] func64 ?_;unfold aM;dsimp only;refine dB ?_;refine fZ fun r1 h1=> ?_;intros;refine iT ?_;refine eN fun r13 h13=> ?_;intros;refine cN ?_;rw[show([[.int .u8 0],[.int .u8 97],[.int .u8 115],[.int .u8 109],[.int .u8 1],[.int .u8 0],[.int .u8 0],[.int .u8 0]]:List (List AV))=headB.map aG from rfl,show AV.own r13 0 8=AV.own r13 0 headB.length from rfl];refine kI ?_;refine bQ 4 5 1 V rfl V (bD fun q4 hq4=> ?_);repeat rcases hq4 with⟨_,hq4⟩
 refine kI ?_;refine lp (β:=Nat×Nat) (fun b=>⟨[(1,.ptr r1 0),(3,.own r13 0 (headB).length),(4,.own b.1 0 (eM yD ty b.2).length),(5,.int .i64 b.2)],[(b.1,.arr 5 1 ((eM yD ty b.2).map aG)),(r13,.arr 5 1 ((headB).map aG)),(r1,.box 33 (aM ⟨ty,im,fn,tb,me,gl,ex,el,co,da⟩))]⟩) (fun b=>b.2<=ty.length/\Nq b.1 r1/\Nq b.1 r13) (fun b=>ty.length-b.2) (q4,0) aH ⟨Am _,Ae q4 r1,Ae q4 r13⟩ ?_;rintro⟨q1,j⟩ ⟨hj,hqa,hqb⟩;have hpl:=Pty j;dsimp only at hj hqa hqb⊢;unfold aM;dsimp only;refine kJ ?_;refine aB rfl ?_ ?_<;>intro g4
 ·have hlt:j<ty.length:=by simp at g4;omega
  obtain⟨⟨pr,rs⟩,hx⟩:=Aa ty j hlt
  obtain⟨hp1,hp2⟩:=hty _ (Ah hx);dsimp only at hp1 hp2;have hv1:=kZ (pt:=kB) (l:=pr) (c:=1) (fun x _=>Nat.le_of_eq (oX x)) hp1;have hv2:=kZ (pt:=kB) (l:=rs) (c:=1) (fun x _=>Nat.le_of_eq (oX x)) hp2;have hnx:=mU (pt:=yD) hx;refine aI ?_;refine eK (Ac [0,3,4,5,6,7,8,11,12,13,14,15,16] (Ad 1 (Ad 2 (Ad 9 (Ad 10 (Ad 17 (Ad 18 (Ac [19] [])))))))) ?_;refine B5 ?_;refine sK ?_;refine CH fun r22 h22=> ?_;intros;refine eW rfl ((eM yD ty j++ [96]).map aG) (eM yD ty j++ [96]).length ?_;refine bG fun r23 h23=> ?_;intros;refine mI rfl call157 (UY pr hp1) rfl bL kK ?_;rintro _ Y' ⟨q30,rfl,rfl⟩ h30
  replace h30:=bU h30;repeat rcases h30 with⟨_,h30⟩
  apply bC;exact aU;refine eW rfl ((eM yD ty j++ [96]++bB pr kB).map aG) (eM yD ty j++ [96]++bB pr kB).length ?_;refine bG fun r31 h31=> ?_;intros;refine mI rfl call157 (UY rs hp2) rfl bL kK ?_;rintro _ Y' ⟨q38,rfl,rfl⟩ h38
  replace h38:=bU h38;repeat rcases h38 with⟨_,h38⟩
  apply bC;exact aU;refine eW rfl ((eM yD ty j++ [96]++bB pr kB++bB rs kB).map aG) (eM yD ty j++ [96]++bB pr kB++bB rs kB).length ?_;refine bG fun r39 h39=> ?_;intros;refine qH ?_;refine⟨(r39,j+1),⟨hlt,Ae r39 r1,Ae r39 r13⟩,Ab U, ?_⟩;dsimp only;rw[hnx];rw[show eM yD ty j++yD ⟨pr,rs⟩=eM yD ty j++ [96]++bB pr kB++bB rs kB by unfold yD;simp];exact aH
 obtain rfl:j=ty.length:=by simp at g4;omega
 refine oA ?_;refine zP ?_;refine tE call158 (jC 1 V ty yD U (by have:=Pty ty.length;omega)) rfl bL kK ?_;rintro _ Y' ⟨q45,rfl,rfl⟩ h45
 replace h45:=bU h45;repeat rcases h45 with⟨_,h45⟩
 apply aR;exact aU;refine kD ((headB++bF 1 ty yD).map aG) (headB++bF 1 ty yD).length ?_;refine bG fun r46 h46=> ?_;intros;refine cN ?_;generalize bF 1 ty yD=S1 at L1⊢;refine kI ?_;refine bQ 4 5 1 V rfl V (bD fun q5 hq5=> ?_);repeat rcases hq5 with⟨_,hq5⟩
 refine kI ?_;refine lp (β:=Nat×Nat) (fun b=>⟨[(1,.ptr r1 0),(3,.own r46 0 (headB++S1).length),(4,.own b.1 0 (eM jI im b.2).length),(6,.int .i64 b.2)],[(b.1,.arr 5 1 ((eM jI im b.2).map aG)),(r46,.arr 5 1 ((headB++S1).map aG)),(r1,.box 33 (aM ⟨ty,im,fn,tb,me,gl,ex,el,co,da⟩))]⟩) (fun b=>b.2<=im.length/\Nq b.1 r1/\Nq b.1 r46) (fun b=>im.length-b.2) (q5,0) aH ⟨Am _,Ae q5 r1,Ae q5 r46⟩ ?_;rintro⟨q1,j⟩ ⟨hj,hqa,hqb⟩;have hpl:=Pim j;dsimp only at hj hqa hqb⊢;unfold aM;dsimp only;refine kJ ?_;refine aB rfl ?_ ?_<;>intro g10
 ·have hlt:j<im.length:=by simp at g10;omega
  obtain⟨⟨md,nm,tt⟩,hx⟩:=Aa im j hlt
  obtain⟨hm1,hm2,hm3⟩:=him _ (Ah hx);dsimp only at hm1 hm2 hm3;have ht1:=EU hm1;have ht2:=EU hm2;have ht3:=vH hm3;have hnx:=mU (pt:=jI) hx;refine eY ?_;refine sI ?_;refine iD fun r7 h7=> ?_;intros;refine fR ?_;refine eK (Ac [0,1,2,5,6,11,12] (Ad 16 (Ad 16 (Ad 16 (Ad 16 (Ad 16 (Ad 16 (Ad 16 (Ad 16 (Ad 16 [])))))))))) ?_;refine GL ?_;refine eQ ?_;refine eQ ?_;refine gY 3 9 [(16,false),(16,false),(16,false),(16,false),(16,false),(16,false),(16,false),(16,false)] [(3,false),(4,false),(7,false),(8,false),(10,false),(13,false),(14,false),(15,true)] (f1:=[]) (f2:=[]) (by kernel_rfl) rfl rfl ?_ ?_ (.inl rfl) (.inl rfl)
  ·refine lJ call159 (sU md (by have:=hm1.1;omega) hm1.2) (cL rfl) ?_;rintro _ Y' ⟨q62,rfl,rfl⟩ h62
   replace h62:=bU h62;repeat rcases h62 with⟨_,h62⟩
   apply bC;exact aU;refine gY 4 9 [(16,false),(16,false),(16,false),(16,false),(16,false),(16,false),(16,false)] [(4,false),(7,false),(8,false),(10,false),(13,false),(14,false),(15,true)] (f1:=[q1]) (f2:=[]) (by kernel_rfl) rfl rfl ?_ ?_ (.inr ⟨X,eC⟩) (.inl rfl)
   ·refine aKh ((eM jI im j++bM md).map aG) (eM jI im j++bM md).length ?_;refine bG fun r63 h63=> ?_;intros;refine gY 7 9 [(16,false),(16,false),(16,false),(16,false),(16,false),(16,false)] [(7,false),(8,false),(10,false),(13,false),(14,false),(15,true)] (f1:=[]) (f2:=[]) (by kernel_rfl) rfl rfl ?_ ?_ (.inl rfl) (.inl rfl)
    ·refine lJ call159 (sU nm (by have:=hm2.1;omega) hm2.2) (cL rfl) ?_;rintro _ Y' ⟨q66,rfl,rfl⟩ h66
     replace h66:=bU h66;repeat rcases h66 with⟨_,h66⟩
     apply bC;exact aU;refine gY 8 9 [(9,false),(10,false),(13,false),(14,false),(15,true)] [(8,false),(10,false),(13,false),(14,false),(15,true)] (f1:=[r63]) (f2:=[]) (by kernel_rfl) rfl rfl ?_ ?_ (.inr ⟨X,eC⟩) (.inl rfl)
     ·refine aKh ((eM jI im j++bM md++bM nm).map aG) (eM jI im j++bM md++bM nm).length ?_;refine bG fun r67 h67=> ?_;intros;refine CH fun r68 h68=> ?_;intros;refine eW rfl ((eM jI im j++bM md++bM nm++ [0]).map aG) (eM jI im j++bM md++bM nm++ [0]).length ?_;refine bG fun r69 h69=> ?_;intros;refine mI rfl call160 (yN tt hm3.1 (by have:=hm3.2;omega)) rfl bL kK ?_;rintro _ Y' ⟨q72,rfl,rfl⟩ h72
      replace h72:=bU h72;repeat rcases h72 with⟨_,h72⟩
      apply bC;exact aU;refine eW rfl ((eM jI im j++bM md++bM nm++ [0]++cC tt).map aG) (eM jI im j++bM md++bM nm++ [0]++cC tt).length ?_;refine bG fun r73 h73=> ?_;intros;refine qH ?_;refine⟨(r73,j+1),⟨hlt,Ae r73 r1,Ae r73 r46⟩,Ab U, ?_⟩;dsimp only;rw[hnx];rw[show eM jI im j++jI ⟨md,nm,tt⟩=eM jI im j++bM md++bM nm++ [0]++cC tt by unfold jI;simp];exact aH
     ·apply AJ;infer_instance;infer_instance;exact tM;rfl;rfl;rfl;rfl;exact rK;rfl;refine bD fun r68 h68=> ?_;repeat rcases h68 with⟨_,h68⟩
      refine eW rfl ((eM jI im j++bM md++bM nm).map aG) (eM jI im j++bM md++bM nm).length ?_;refine bG fun r67 h67=> ?_;intros;refine eW rfl ((eM jI im j++bM md++bM nm++ [0]).map aG) (eM jI im j++bM md++bM nm++ [0]).length ?_;refine bG fun r69 h69=> ?_;intros;refine mI rfl call160 (yN tt hm3.1 (by have:=hm3.2;omega)) rfl bL kK ?_;rintro _ Y' ⟨q72,rfl,rfl⟩ h72
      replace h72:=bU h72;repeat rcases h72 with⟨_,h72⟩
      apply bC;exact aU;refine eW rfl ((eM jI im j++bM md++bM nm++ [0]++cC tt).map aG) (eM jI im j++bM md++bM nm++ [0]++cC tt).length ?_;refine bG fun r73 h73=> ?_;intros;refine qH ?_;refine⟨(r73,j+1),⟨hlt,Ae r73 r1,Ae r73 r46⟩,Ab U, ?_⟩;dsimp only;rw[hnx];rw[show eM jI im j++jI ⟨md,nm,tt⟩=eM jI im j++bM md++bM nm++ [0]++cC tt by unfold jI;simp];exact aH
    ·apply AJ;infer_instance;infer_instance;exact tM;rfl;rfl;rfl;rfl;exact rK;rfl;refine bD fun r68 h68=> ?_;repeat rcases h68 with⟨_,h68⟩
     refine mI rfl call159 (sU nm (by have:=hm2.1;omega) hm2.2) rfl bL kK ?_;rintro _ Y' ⟨q66,rfl,rfl⟩ h66
     replace h66:=bU h66;repeat rcases h66 with⟨_,h66⟩
     apply bC;exact aU;refine eW rfl ((eM jI im j++bM md++bM nm).map aG) (eM jI im j++bM md++bM nm).length ?_;refine bG fun r67 h67=> ?_;intros;refine eW rfl ((eM jI im j++bM md++bM nm++ [0]).map aG) (eM jI im j++bM md++bM nm++ [0]).length ?_;refine bG fun r69 h69=> ?_;intros;refine mI rfl call160 (yN tt hm3.1 (by have:=hm3.2;omega)) rfl bL kK ?_;rintro _ Y' ⟨q72,rfl,rfl⟩ h72
     replace h72:=bU h72;repeat rcases h72 with⟨_,h72⟩
     apply bC;exact aU;refine eW rfl ((eM jI im j++bM md++bM nm++ [0]++cC tt).map aG) (eM jI im j++bM md++bM nm++ [0]++cC tt).length ?_;refine bG fun r73 h73=> ?_;intros;refine qH ?_;refine⟨(r73,j+1),⟨hlt,Ae r73 r1,Ae r73 r46⟩,Ab U, ?_⟩;dsimp only;rw[hnx];rw[show eM jI im j++jI ⟨md,nm,tt⟩=eM jI im j++bM md++bM nm++ [0]++cC tt by unfold jI;simp];exact aH
   ·apply AJ;infer_instance;infer_instance;exact tM;rfl;rfl;rfl;rfl;exact rK;rfl;refine bD fun r68 h68=> ?_;repeat rcases h68 with⟨_,h68⟩
    refine eW rfl ((eM jI im j++bM md).map aG) (eM jI im j++bM md).length ?_;refine bG fun r63 h63=> ?_;intros;refine mI rfl call159 (sU nm (by have:=hm2.1;omega) hm2.2) rfl bL kK ?_;rintro _ Y' ⟨q66,rfl,rfl⟩ h66
    replace h66:=bU h66;repeat rcases h66 with⟨_,h66⟩
    apply bC;exact aU;refine eW rfl ((eM jI im j++bM md++bM nm).map aG) (eM jI im j++bM md++bM nm).length ?_;refine bG fun r67 h67=> ?_;intros;refine eW rfl ((eM jI im j++bM md++bM nm++ [0]).map aG) (eM jI im j++bM md++bM nm++ [0]).length ?_;refine bG fun r69 h69=> ?_;intros;refine mI rfl call160 (yN tt hm3.1 (by have:=hm3.2;omega)) rfl bL kK ?_;rintro _ Y' ⟨q72,rfl,rfl⟩ h72
    replace h72:=bU h72;repeat rcases h72 with⟨_,h72⟩
    apply bC;exact aU;refine eW rfl ((eM jI im j++bM md++bM nm++ [0]++cC tt).map aG) (eM jI im j++bM md++bM nm++ [0]++cC tt).length ?_;refine bG fun r73 h73=> ?_;intros;refine qH ?_;refine⟨(r73,j+1),⟨hlt,Ae r73 r1,Ae r73 r46⟩,Ab U, ?_⟩;dsimp only;rw[hnx];rw[show eM jI im j++jI ⟨md,nm,tt⟩=eM jI im j++bM md++bM nm++ [0]++cC tt by unfold jI;simp];exact aH
  ·apply AJ;infer_instance;infer_instance;exact tM;rfl;rfl;rfl;rfl;exact rK;rfl;refine bD fun r68 h68=> ?_;repeat rcases h68 with⟨_,h68⟩
   refine mI rfl call159 (sU md (by have:=hm1.1;omega) hm1.2) rfl bL kK ?_;rintro _ Y' ⟨q62,rfl,rfl⟩ h62
   replace h62:=bU h62;repeat rcases h62 with⟨_,h62⟩
   apply bC;exact aU;refine eW rfl ((eM jI im j++bM md).map aG) (eM jI im j++bM md).length ?_;refine bG fun r63 h63=> ?_;intros;refine mI rfl call159 (sU nm (by have:=hm2.1;omega) hm2.2) rfl bL kK ?_;rintro _ Y' ⟨q66,rfl,rfl⟩ h66
   replace h66:=bU h66;repeat rcases h66 with⟨_,h66⟩
   apply bC;exact aU;refine eW rfl ((eM jI im j++bM md++bM nm).map aG) (eM jI im j++bM md++bM nm).length ?_;refine bG fun r67 h67=> ?_;intros;refine eW rfl ((eM jI im j++bM md++bM nm++ [0]).map aG) (eM jI im j++bM md++bM nm++ [0]).length ?_;refine bG fun r69 h69=> ?_;intros;refine mI rfl call160 (yN tt hm3.1 (by have:=hm3.2;omega)) rfl bL kK ?_;rintro _ Y' ⟨q72,rfl,rfl⟩ h72
   replace h72:=bU h72;repeat rcases h72 with⟨_,h72⟩
   apply bC;exact aU;refine eW rfl ((eM jI im j++bM md++bM nm++ [0]++cC tt).map aG) (eM jI im j++bM md++bM nm++ [0]++cC tt).length ?_;refine bG fun r73 h73=> ?_;intros;refine qH ?_;refine⟨(r73,j+1),⟨hlt,Ae r73 r1,Ae r73 r46⟩,Ab U, ?_⟩;dsimp only;rw[hnx];rw[show eM jI im j++jI ⟨md,nm,tt⟩=eM jI im j++bM md++bM nm++ [0]++cC tt by unfold jI;simp];exact aH
 obtain rfl:j=im.length:=by simp at g10;omega
 refine oA ?_;refine zP ?_;refine tE call158 (jC 2 V im jI U (by have:=Pim im.length;omega)) rfl bL kK ?_;rintro _ Y' ⟨q79,rfl,rfl⟩ h79
 replace h79:=bU h79;repeat rcases h79 with⟨_,h79⟩
 apply aR;exact aU;refine kD ((headB++S1++bF 2 im jI).map aG) (headB++S1++bF 2 im jI).length ?_;refine bG fun r80 h80=> ?_;intros;refine cN ?_;generalize bF 2 im jI=S2 at L2⊢;refine kI ?_;refine bQ 4 5 1 V rfl V (bD fun q6 hq6=> ?_);repeat rcases hq6 with⟨_,hq6⟩
 refine kI ?_;refine lp (β:=Nat×Nat) (fun b=>⟨[(1,.ptr r1 0),(3,.own r80 0 (headB++S1++S2).length),(4,.own b.1 0 (eM cC fn b.2).length),(8,.int .i64 b.2)],[(b.1,.arr 5 1 ((eM cC fn b.2).map aG)),(r80,.arr 5 1 ((headB++S1++S2).map aG)),(r1,.box 33 (aM ⟨ty,im,fn,tb,me,gl,ex,el,co,da⟩))]⟩) (fun b=>b.2<=fn.length/\Nq b.1 r1/\Nq b.1 r80) (fun b=>fn.length-b.2) (q6,0) aH ⟨Am _,Ae q6 r1,Ae q6 r80⟩ ?_;rintro⟨q1,j⟩ ⟨hj,hqa,hqb⟩;have hpl:=Pfn j;dsimp only at hj hqa hqb⊢;unfold aM;dsimp only;refine kJ ?_;refine aB rfl ?_ ?_<;>intro g17
 ·have hlt:j<fn.length:=by simp at g17;omega
  obtain⟨k,hx⟩:=Aa fn j hlt
  have hk:=hfn _ (Ah hx);have ht3:=vH hk;have hnx:=mU (pt:=cC) hx;refine oA ?_;refine nX ?_;refine tE call160 (yN k hk.1 (by have:=hk.2;omega)) rfl bL kK ?_;rintro _ Y' ⟨q94,rfl,rfl⟩ h94
  replace h94:=bU h94;repeat rcases h94 with⟨_,h94⟩
  apply aR;exact aU;refine kD ((eM cC fn j++cC k).map aG) (eM cC fn j++cC k).length ?_;refine bG fun r95 h95=> ?_;intros;refine gX ?_;refine xK ?_;refine⟨(r95,j+1),⟨hlt,Ae r95 r1,Ae r95 r80⟩,Ab U, ?_⟩;dsimp only;rw[hnx];exact aH
 obtain rfl:j=fn.length:=by simp at g17;omega
 refine oA ?_;refine zP ?_;refine tE call158 (jC 3 V fn cC U (by have:=Pfn fn.length;omega)) rfl bL kK ?_;rintro _ Y' ⟨q101,rfl,rfl⟩ h101
 replace h101:=bU h101;repeat rcases h101 with⟨_,h101⟩
 apply aR;exact aU;refine kD ((headB++S1++S2++bF 3 fn cC).map aG) (headB++S1++S2++bF 3 fn cC).length ?_;refine bG fun r102 h102=> ?_;intros;refine cN ?_;generalize bF 3 fn cC=S3 at L3⊢;obtain⟨th,tn,tx⟩:=tb;obtain⟨eh,en,ex2⟩:=me;refine jD ?_;refine oN ?_;refine iM ?_;refine sja (β:=Nat) (fun q=>⟨[(1,.ptr r1 0),(3,.own q 0 (headB++S1++S2++S3++bF 4 (iA ⟨th,tn,tx⟩) (fun l=>112::eL l)).length)],[(q,.arr 5 1 ((headB++S1++S2++S3++bF 4 (iA ⟨th,tn,tx⟩) (fun l=>112::eL l)).map aG)),(r1,.box 33 (aM ⟨ty,im,fn,⟨th,tn,tx⟩,⟨eh,en,ex2⟩,gl,ex,el,co,da⟩))]⟩) (fun q=>Nq q r1) ?_ ?_
 ·refine aB rfl ?_ ?_<;>intro g21
  ·have htb1:=htb g21;have hll1:=zF htb1;rw[T1 g21];have hpj:eM (fun l=>112::eL l) [(⟨th,tn,tx⟩:Li)] [(⟨th,tn,tx⟩:Li)].length=[112]++eL ⟨th,tn,tx⟩:=by simp[eM]
   have hsc:=jC 4 V [(⟨th,tn,tx⟩:Li)] (fun l=>112::eL l) X (by rw[hpj];simp;omega);rw[hpj]at hsc;rw[T1 g21]at L4;refine dG ?_;refine eN fun r107 h107=> ?_;intros;refine EF ?_;refine jY ?_;refine tE call161 (NN ⟨th,tn,tx⟩ htb1) rfl bL kK ?_;rintro _ Y' ⟨q110,rfl,rfl⟩ h110
   replace h110:=bU h110;repeat rcases h110 with⟨_,h110⟩
   apply aR;exact aU;refine kD (([112]++eL ⟨th,tn,tx⟩).map aG) ([112]++eL ⟨th,tn,tx⟩).length ?_;refine bG fun r111 h111=> ?_;intros;refine tE call158 hsc rfl bL kK ?_;rintro _ Y' ⟨q112,rfl,rfl⟩ h112
   replace h112:=bU h112;repeat rcases h112 with⟨_,h112⟩
   apply aR;exact aU;refine kD ((headB++S1++S2++S3++bF 4 [⟨th,tn,tx⟩] (fun l=>112::eL l)).map aG) (headB++S1++S2++S3++bF 4 [⟨th,tn,tx⟩] (fun l=>112::eL l)).length ?_;refine bG fun r113 h113=> ?_;intros;refine cN ?_;exact⟨r113,(by(exact aX)),aH⟩
  rw[T0 g21,Be];refine aI ?_;exact⟨r102,(by(exact aX)),aH⟩
 rintro q4 hq4;generalize bF 4 (iA ⟨th,tn,tx⟩) (fun l=>112::eL l)=S4 at L4⊢;unfold aM;dsimp only;refine dB ?_;refine oN ?_;refine iM ?_;refine sja (β:=Nat) (fun q=>⟨[(1,.ptr r1 0),(3,.own q 0 (headB++S1++S2++S3++S4++bF 5 (iA ⟨eh,en,ex2⟩) eL).length)],[(q,.arr 5 1 ((headB++S1++S2++S3++S4++bF 5 (iA ⟨eh,en,ex2⟩) eL).map aG)),(r1,.box 33 (aM ⟨ty,im,fn,⟨th,tn,tx⟩,⟨eh,en,ex2⟩,gl,ex,el,co,da⟩))]⟩) (fun q=>Nq q r1) ?_ ?_
 ·refine aB rfl ?_ ?_<;>intro g23
  ·have hme1:=hme g23;have hll2:=zF hme1;rw[E1 g23];have hpj:eM eL [(⟨eh,en,ex2⟩:Li)] [(⟨eh,en,ex2⟩:Li)].length=eL ⟨eh,en,ex2⟩:=by simp[eM]
   have hsc:=jC 5 V [(⟨eh,en,ex2⟩:Li)] eL X (by rw[hpj];omega);rw[hpj]at hsc;rw[E1 g23]at L5;refine dG ?_;refine EF ?_;refine jY ?_;refine tE call161 (NN ⟨eh,en,ex2⟩ hme1) rfl bL kK ?_;rintro _ Y' ⟨q120,rfl,rfl⟩ h120
   replace h120:=bU h120;repeat rcases h120 with⟨_,h120⟩
   apply aR;exact aU;refine tE call158 hsc rfl bL kK ?_;rintro _ Y' ⟨q121,rfl,rfl⟩ h121
   replace h121:=bU h121;repeat rcases h121 with⟨_,h121⟩
   apply aR;exact aU;refine kD ((headB++S1++S2++S3++S4++bF 5 [⟨eh,en,ex2⟩] eL).map aG) (headB++S1++S2++S3++S4++bF 5 [⟨eh,en,ex2⟩] eL).length ?_;refine bG fun r122 h122=> ?_;intros;refine cN ?_;exact⟨r122,(by(exact aX)),aH⟩
  rw[E0 g23,Be];refine aI ?_;exact⟨q4,(by(exact aX)),aH⟩
 rintro q7 hq7;generalize bF 5 (iA ⟨eh,en,ex2⟩) eL=S5 at L5⊢;unfold aM;dsimp only;refine cV ?_;refine bQ 4 5 1 V rfl V (bD fun q8 hq8=> ?_);repeat rcases hq8 with⟨_,hq8⟩
 refine kI ?_;refine lp (β:=Nat×Nat) (fun b=>⟨[(1,.ptr r1 0),(3,.own q7 0 (headB++S1++S2++S3++S4++S5).length),(4,.own b.1 0 (eM xA gl b.2).length),(9,.int .i64 b.2)],[(b.1,.arr 5 1 ((eM xA gl b.2).map aG)),(q7,.arr 5 1 ((headB++S1++S2++S3++S4++S5).map aG)),(r1,.box 33 (aM ⟨ty,im,fn,⟨th,tn,tx⟩,⟨eh,en,ex2⟩,gl,ex,el,co,da⟩))]⟩) (fun b=>b.2<=gl.length/\Nq b.1 r1/\Nq b.1 q7) (fun b=>gl.length-b.2) (q8,0) aH ⟨Am _,Ae q8 r1,Ae q8 q7⟩ ?_;rintro⟨q1,j⟩ ⟨hj,hqa,hqb⟩;have hpl:=Pgl j;dsimp only at hj hqa hqb⊢;unfold aM;dsimp only;refine kJ ?_;refine aB rfl ?_ ?_<;>intro g27
 ·have hlt:j<gl.length:=by simp at g27;omega
  obtain⟨⟨mu,k,n⟩,hx⟩:=Aa gl j hlt
  obtain⟨hv,hn⟩:=hgl _ (Ah hx);dsimp only at hv hn;have hcl:=zD hv hn;have hnx:=mU (pt:=xA) hx;refine eY ?_;refine sI ?_;refine iD fun r10 h10=> ?_;intros;refine mG ?_;refine cV ?_;refine mP ?_;refine iM ?_;refine aB rfl ?_ ?_<;>intro g31
  ·obtain rfl:mu=true:=g31;obtain⟨z,hz,hzc⟩:∃z:Nat,(if true=true then 1 else 0)=z/\cM (.int .u8 1)=AV.int .u8 ((z:Nat):Int):=⟨1,rfl,rfl⟩
   refine cV ?_;rw[hzc];refine eK (Ac [0,1,2,3,5,8,9] (Ad 4 (Ad 6 (Ad 7 (Ad 10 (Ad 11 (Ac [12] []))))))) ?_;refine B5 ?_;refine IH ?_;refine MI ?_;refine IH ?_;refine II ?_;refine LM rfl call162 (HM k) rfl aO bH ?_;refine CH fun r143 h143=> ?_;intros;refine eW rfl ((eM xA gl j++ [if(k==1)=true then 127 else 126,z]).map aG) (eM xA gl j++ [if(k==1)=true then 127 else 126,z]).length ?_;refine bG fun r144 h144=> ?_;intros;refine mI rfl call163 (sV k n hv hn) rfl bL kK ?_;rintro _ Y' ⟨q147,rfl,rfl⟩ h147
   replace h147:=bU h147;repeat rcases h147 with⟨_,h147⟩
   apply bC;exact aU;refine eW rfl ((eM xA gl j++ [if(k==1)=true then 127 else 126,z]++nB k n).map aG) (eM xA gl j++ [if(k==1)=true then 127 else 126,z]++nB k n).length ?_;refine bG fun r148 h148=> ?_;intros;refine qH ?_;refine⟨(r148,j+1),⟨hlt,Ae r148 r1,Ae r148 q7⟩,Ab U, ?_⟩;dsimp only;rw[hnx];rw[aA3 hz];exact aH
  obtain rfl:mu=false:=g31;obtain⟨z,hz,hzc⟩:∃z:Nat,(if false=true then 1 else 0)=z/\cM (.int .u8 0)=AV.int .u8 ((z:Nat):Int):=⟨0,rfl,rfl⟩
  refine aI ?_;rw[hzc];refine eK (Ac [0,1,2,3,5,8,9] (Ad 4 (Ad 6 (Ad 7 (Ad 10 (Ad 11 (Ac [12] []))))))) ?_;refine B5 ?_;refine IH ?_;refine MI ?_;refine IH ?_;refine II ?_;refine LM rfl call162 (HM k) rfl aO bH ?_;refine z97 ?_;refine bD fun r143 h143=> ?_;repeat rcases h143 with⟨_,h143⟩
  refine eW rfl ((eM xA gl j++ [if(k==1)=true then 127 else 126,z]).map aG) (eM xA gl j++ [if(k==1)=true then 127 else 126,z]).length ?_;refine bG fun r144 h144=> ?_;intros;refine mI rfl call163 (sV k n hv hn) rfl bL kK ?_;rintro _ Y' ⟨q147,rfl,rfl⟩ h147
  replace h147:=bU h147;repeat rcases h147 with⟨_,h147⟩
  apply bC;exact aU;refine eW rfl ((eM xA gl j++ [if(k==1)=true then 127 else 126,z]++nB k n).map aG) (eM xA gl j++ [if(k==1)=true then 127 else 126,z]++nB k n).length ?_;refine bG fun r148 h148=> ?_;intros;refine qH ?_;refine⟨(r148,j+1),⟨hlt,Ae r148 r1,Ae r148 q7⟩,Ab U, ?_⟩;dsimp only;rw[hnx];rw[aA3 hz];exact aH
 obtain rfl:j=gl.length:=by simp at g27;omega
 refine oA ?_;refine zP ?_;refine tE call158 (jC 6 V gl xA U (by have:=Pgl gl.length;omega)) rfl bL kK ?_;rintro _ Y' ⟨q154,rfl,rfl⟩ h154
 replace h154:=bU h154;repeat rcases h154 with⟨_,h154⟩
 apply aR;exact aU;refine kD ((headB++S1++S2++S3++S4++S5++bF 6 gl xA).map aG) (headB++S1++S2++S3++S4++S5++bF 6 gl xA).length ?_;refine bG fun r155 h155=> ?_;intros;refine cN ?_;generalize bF 6 gl xA=S6 at L6⊢;refine kI ?_;refine bQ 4 5 1 V rfl V (bD fun q9 hq9=> ?_);repeat rcases hq9 with⟨_,hq9⟩
 refine kI ?_;refine lp (β:=Nat×Nat) (fun b=>⟨[(1,.ptr r1 0),(3,.own r155 0 (headB++S1++S2++S3++S4++S5++S6).length),(4,.own b.1 0 (eM oK ex b.2).length),(12,.int .i64 b.2)],[(b.1,.arr 5 1 ((eM oK ex b.2).map aG)),(r155,.arr 5 1 ((headB++S1++S2++S3++S4++S5++S6).map aG)),(r1,.box 33 (aM ⟨ty,im,fn,⟨th,tn,tx⟩,⟨eh,en,ex2⟩,gl,ex,el,co,da⟩))]⟩) (fun b=>b.2<=ex.length/\Nq b.1 r1/\Nq b.1 r155) (fun b=>ex.length-b.2) (q9,0) aH ⟨Am _,Ae q9 r1,Ae q9 r155⟩ ?_;rintro⟨q1,j⟩ ⟨hj,hqa,hqb⟩;have hpl:=Pex j;dsimp only at hj hqa hqb⊢;unfold aM;dsimp only;refine kJ ?_;refine aB rfl ?_ ?_<;>intro g37
 ·have hlt:j<ex.length:=by simp at g37;omega
  obtain⟨⟨nm,ff⟩,hx⟩:=Aa ex j hlt
  obtain⟨hm1,hm2⟩:=hex _ (Ah hx);dsimp only at hm1 hm2;have ht1:=EU hm1;have ht2:=vH hm2;have hnx:=mU (pt:=oK) hx;refine aI ?_;refine eK (Ac [0,1,2,3,4,5,6,11,12,13,14,15,16] (Ad 20 (Ad 20 (Ad 20 (Ad 20 (Ad 20 (Ad 20 (Ad 20 [])))))))) ?_;refine B5 ?_;refine sK ?_;refine gY 7 9 [(20,false),(20,false),(20,false),(20,false),(20,false),(20,false)] [(7,false),(8,false),(10,false),(17,false),(18,false),(19,true)] (f1:=[]) (f2:=[]) (by kernel_rfl) rfl rfl ?_ ?_ (.inl rfl) (.inl rfl)
  ·refine lJ call159 (sU nm (by have:=hm1.1;omega) hm1.2) (cL rfl) ?_;rintro _ Y' ⟨q170,rfl,rfl⟩ h170
   replace h170:=bU h170;repeat rcases h170 with⟨_,h170⟩
   apply bC;exact aU;refine gY 8 9 [(9,false),(10,false),(17,false),(18,false),(19,true)] [(8,false),(10,false),(17,false),(18,false),(19,true)] (f1:=[q1]) (f2:=[]) (by kernel_rfl) rfl rfl ?_ ?_ (.inr ⟨X,eC⟩) (.inl rfl)
   ·refine aKh ((eM oK ex j++bM nm).map aG) (eM oK ex j++bM nm).length ?_;refine bG fun r171 h171=> ?_;intros;refine CH fun r172 h172=> ?_;intros;refine eW rfl ((eM oK ex j++bM nm++ [0]).map aG) (eM oK ex j++bM nm++ [0]).length ?_;refine bG fun r173 h173=> ?_;intros;refine mI rfl call160 (yN ff hm2.1 (by have:=hm2.2;omega)) rfl bL kK ?_;rintro _ Y' ⟨q180,rfl,rfl⟩ h180
    replace h180:=bU h180;repeat rcases h180 with⟨_,h180⟩
    apply bC;exact aU;refine eW rfl ((eM oK ex j++bM nm++ [0]++cC ff).map aG) (eM oK ex j++bM nm++ [0]++cC ff).length ?_;refine bG fun r181 h181=> ?_;intros;refine qH ?_;refine⟨(r181,j+1),⟨hlt,Ae r181 r1,Ae r181 r155⟩,Ab U, ?_⟩;dsimp only;rw[hnx];rw[show eM oK ex j++oK ⟨nm,ff⟩=eM oK ex j++bM nm++ [0]++cC ff by unfold oK;simp];exact aH
   ·apply AJ;infer_instance;infer_instance;exact tM;rfl;rfl;rfl;rfl;exact rK;rfl;refine bD fun r172 h172=> ?_;repeat rcases h172 with⟨_,h172⟩
    refine eW rfl ((eM oK ex j++bM nm).map aG) (eM oK ex j++bM nm).length ?_;refine bG fun r171 h171=> ?_;intros;refine eW rfl ((eM oK ex j++bM nm++ [0]).map aG) (eM oK ex j++bM nm++ [0]).length ?_;refine bG fun r173 h173=> ?_;intros;refine mI rfl call160 (yN ff hm2.1 (by have:=hm2.2;omega)) rfl bL kK ?_;rintro _ Y' ⟨q180,rfl,rfl⟩ h180
    replace h180:=bU h180;repeat rcases h180 with⟨_,h180⟩
    apply bC;exact aU;refine eW rfl ((eM oK ex j++bM nm++ [0]++cC ff).map aG) (eM oK ex j++bM nm++ [0]++cC ff).length ?_;refine bG fun r181 h181=> ?_;intros;refine qH ?_;refine⟨(r181,j+1),⟨hlt,Ae r181 r1,Ae r181 r155⟩,Ab U, ?_⟩;dsimp only;rw[hnx];rw[show eM oK ex j++oK ⟨nm,ff⟩=eM oK ex j++bM nm++ [0]++cC ff by unfold oK;simp];exact aH
  ·apply AJ;infer_instance;infer_instance;exact tM;rfl;rfl;rfl;rfl;exact rK;rfl;refine bD fun r172 h172=> ?_;repeat rcases h172 with⟨_,h172⟩
   refine mI rfl call159 (sU nm (by have:=hm1.1;omega) hm1.2) rfl bL kK ?_;rintro _ Y' ⟨q170,rfl,rfl⟩ h170
   replace h170:=bU h170;repeat rcases h170 with⟨_,h170⟩
   apply bC;exact aU;refine eW rfl ((eM oK ex j++bM nm).map aG) (eM oK ex j++bM nm).length ?_;refine bG fun r171 h171=> ?_;intros;refine eW rfl ((eM oK ex j++bM nm++ [0]).map aG) (eM oK ex j++bM nm++ [0]).length ?_;refine bG fun r173 h173=> ?_;intros;refine mI rfl call160 (yN ff hm2.1 (by have:=hm2.2;omega)) rfl bL kK ?_;rintro _ Y' ⟨q180,rfl,rfl⟩ h180
   replace h180:=bU h180;repeat rcases h180 with⟨_,h180⟩
   apply bC;exact aU;refine eW rfl ((eM oK ex j++bM nm++ [0]++cC ff).map aG) (eM oK ex j++bM nm++ [0]++cC ff).length ?_;refine bG fun r181 h181=> ?_;intros;refine qH ?_;refine⟨(r181,j+1),⟨hlt,Ae r181 r1,Ae r181 r155⟩,Ab U, ?_⟩;dsimp only;rw[hnx];rw[show eM oK ex j++oK ⟨nm,ff⟩=eM oK ex j++bM nm++ [0]++cC ff by unfold oK;simp];exact aH
 obtain rfl:j=ex.length:=by simp at g37;omega
 refine oA ?_;refine zP ?_;refine tE call158 (jC 7 V ex oK U (by have:=Pex ex.length;omega)) rfl bL kK ?_;rintro _ Y' ⟨q187,rfl,rfl⟩ h187
 replace h187:=bU h187;repeat rcases h187 with⟨_,h187⟩
 apply aR;exact aU;refine kD ((headB++S1++S2++S3++S4++S5++S6++bF 7 ex oK).map aG) (headB++S1++S2++S3++S4++S5++S6++bF 7 ex oK).length ?_;refine bG fun r188 h188=> ?_;intros;refine cN ?_;generalize bF 7 ex oK=S7 at L7⊢;refine fO ?_;refine jY ?_;refine tE call164 hlate rfl bL kK ?_;rintro _ Y' ⟨q191,rfl,rfl⟩ h191
 replace h191:=bU h191;repeat rcases h191 with⟨_,h191⟩
 apply aR;exact aU;refine kD ((headB++S1++S2++S3++S4++S5++S6++S7++SL).map aG) (headB++S1++S2++S3++S4++S5++S6++S7++SL).length ?_;refine bG fun r192 h192=> ?_;intros;refine cN ?_;exact aD aE ⟨r192,by rfl,rfl⟩ aA
theorem aEz(m:Md)(h:m.G):SCall prog 164 [.agg (aM m)] [] (fun y Y=>∃q,y=.own q 0 (yP m).length/\Y=[(q,.arr 5 1 ((yP m).map aG))]):=by
 obtain⟨-,-,-,-,-,-,-,⟨nel,hel⟩,⟨nco,hco⟩,⟨nda,hda⟩⟩:=h;obtain⟨ty,im,fn,tb,me,gl,ex,el,co,da⟩:=m;dsimp only at nel hel nco hco nda hda;obtain⟨L1,Pel⟩:=lZ 9 uS 5300 nel V fun x hx=>aAZ (hel x hx)
 obtain⟨L2,Pco⟩:=lZ 10 lD 70000 nco V fun x hx=>aA1 (hco x hx)
 obtain⟨L3,Pda⟩:=lZ 11 wD 1300 nda V fun x hx=>aA2 (hda x hx)
 have hW:yP ⟨ty,im,fn,tb,me,gl,ex,el,co,da⟩=bF 9 el uS++bF 10 co lD++bF 11 da wD:=rfl;rw[hW];refine bO 119 [0,1,2,3,4,5,6,7,8,13,47,82] func164 ?_;unfold aM;dsimp only;refine dB ?_;refine fZ fun r1 h1=> ?_;intros;refine iT ?_;refine fS ?_;refine bQ 3 5 1 V rfl V (bD fun q3 hq3=> ?_);repeat rcases hq3 with⟨_,hq3⟩
 refine bQ 4 5 1 V rfl V (bD fun q4 hq4=> ?_);repeat rcases hq4 with⟨_,hq4⟩
 refine kI ?_;refine lp (β:=Nat×Nat) (fun b=>⟨[(1,.ptr r1 0),(3,.own q3 0 (([]:List Nat)).length),(4,.own b.1 0 (eM uS el b.2).length),(5,.int .i64 b.2)],[(b.1,.arr 5 1 ((eM uS el b.2).map aG)),(q3,.arr 5 1 ((([]:List Nat)).map aG)),(r1,.box 33 (aM ⟨ty,im,fn,tb,me,gl,ex,el,co,da⟩))]⟩) (fun b=>b.2<=el.length/\Nq b.1 r1/\Nq b.1 q3) (fun b=>el.length-b.2) (q4,0) aH ⟨Am _,Ae q4 r1,Ae q4 q3⟩ ?_;rintro⟨q1,j⟩ ⟨hj,hqa,hqb⟩;have hpl:=Pel j;dsimp only at hj hqa hqb⊢;unfold aM;dsimp only;refine kJ ?_;refine aB rfl ?_ ?_<;>intro g3
 ·have hlt:j<el.length:=by simp at g3;omega
  obtain⟨⟨oo,fs⟩,hx⟩:=Aa el j hlt
  obtain⟨ho,hf1,hf2⟩:=hel _ (Ah hx);dsimp only at ho hf1 hf2;have hr:-2147483648<=oo/\oo<=2147483647:=by(have h:=ho;unfold gV at h;simpa using h)
  have hv:nT 1 oo=true:=by unfold nT;simp;omega
  have hcl:=zD hv U;have hvl:=kZ (pt:=cC) (l:=fs) (c:=5) (fun n hn=>vH (hf2 n hn)) hf1;have hnx:=mU (pt:=uS) hx;refine aI ?_;refine eK (Ac [0,3,4,5,6,7,8,9,12,13,14,15,16,17] (Ad 1 (Ad 2 (Ad 10 (Ad 11 (Ad 18 (Ad 19 (Ac [20] [])))))))) ?_;refine B5 ?_;refine BA ?_;refine SJ ?_;refine BA ?_;refine CH fun r17 h17=> ?_;intros;refine eW rfl ((eM uS el j++ [0]).map aG) (eM uS el j++ [0]).length ?_;refine bG fun r18 h18=> ?_;intros;refine mI rfl call163 (sV 1 oo hv U) rfl bL kK ?_;rintro _ Y' ⟨q26,rfl,rfl⟩ h26
  replace h26:=bU h26;repeat rcases h26 with⟨_,h26⟩
  apply bC;exact aU;refine eW rfl ((eM uS el j++ [0]++nB 1 oo).map aG) (eM uS el j++ [0]++nB 1 oo).length ?_;refine bG fun r27 h27=> ?_;intros;refine mI rfl call254 (YQ fs hf1 (fun n hn=>⟨(hf2 n hn).1,by have:=(hf2 n hn).2;omega⟩)) rfl bL kK ?_;rintro _ Y' ⟨q34,rfl,rfl⟩ h34
  replace h34:=bU h34;repeat rcases h34 with⟨_,h34⟩
  apply bC;exact aU;refine eW rfl ((eM uS el j++ [0]++nB 1 oo++bB fs cC).map aG) (eM uS el j++ [0]++nB 1 oo++bB fs cC).length ?_;refine bG fun r35 h35=> ?_;intros;refine qH ?_;refine⟨(r35,j+1),⟨hlt,Ae r35 r1,Ae r35 q3⟩,Ab U, ?_⟩;dsimp only;rw[hnx];rw[show eM uS el j++uS ⟨oo,fs⟩=eM uS el j++ [0]++nB 1 oo++bB fs cC by unfold uS rR;simp];exact aH
 obtain rfl:j=el.length:=by simp at g3;omega
 refine oA ?_;refine zP ?_;refine tE call158 (jC 9 V el uS U (by have:=Pel el.length;omega)) rfl bL kK ?_;rintro _ Y' ⟨q41,rfl,rfl⟩ h41
 replace h41:=bU h41;repeat rcases h41 with⟨_,h41⟩
 apply aR;exact aU;refine kD ((bF 9 el uS).map aG) (bF 9 el uS).length ?_;refine bG fun r42 h42=> ?_;intros;refine cN ?_;generalize bF 9 el uS=S1 at L1⊢;refine kI ?_;refine bQ 4 5 1 V rfl V (bD fun q5 hq5=> ?_);repeat rcases hq5 with⟨_,hq5⟩
 refine kI ?_;refine lp (β:=Nat×Nat) (fun b=>⟨[(1,.ptr r1 0),(3,.own r42 0 (S1).length),(4,.own b.1 0 (eM lD co b.2).length),(6,.int .i64 b.2)],[(b.1,.arr 5 1 ((eM lD co b.2).map aG)),(r42,.arr 5 1 ((S1).map aG)),(r1,.box 33 (aM ⟨ty,im,fn,tb,me,gl,ex,el,co,da⟩))]⟩) (fun b=>b.2<=co.length/\Nq b.1 r1/\Nq b.1 r42) (fun b=>co.length-b.2) (q5,0) aH ⟨Am _,Ae q5 r1,Ae q5 r42⟩ ?_;rintro⟨q1,j⟩ ⟨hj,hqa,hqb⟩;have hpl:=Pco j;dsimp only at hj hqa hqb⊢;unfold aM;dsimp only;refine kJ ?_;refine aB rfl ?_ ?_<;>intro g9
 ·have hlt:j<co.length:=by simp at g9;omega
  obtain⟨⟨ls,bd⟩,hx⟩:=Aa co j hlt
  obtain⟨hc1,hc2,hc3⟩:=hco _ (Ah hx);dsimp only at hc1 hc2 hc3;have hlo:=aA0 hc1;have hpl2:=CQ hc3;have hPl:(bB (bZ ls) iK++jA bd).length<=66000:=by rw[Ao];omega
  have hcd:lD ⟨ls,bd⟩=uB (bB (bZ ls) iK++jA bd).length++(bB (bZ ls) iK++jA bd):=rfl;have hub:=bJ 4 (bB (bZ ls) iK++jA bd).length U;have hnx:=mU (pt:=lD) hx;refine aI ?_;refine eK (Ac [0,1,2,3,4,5,7,8,9,10,11,12] (Ad 6 (Ad 13 (Ad 14 (Ac [15] []))))) ?_;refine sK ?_;refine mI rfl call255 (aB4 ls hc1) rfl bL kK ?_;rintro _ Y' ⟨q56,rfl,rfl⟩ h56
  replace h56:=bU h56;repeat rcases h56 with⟨_,h56⟩
  apply bC;exact aU;refine mI rfl call256 (TW bd hc2 hc3) rfl bL kK ?_;rintro _ Y' ⟨q63,rfl,rfl⟩ h63
  replace h63:=bU h63;repeat rcases h63 with⟨_,h63⟩
  apply bC;exact aU;refine eW rfl ((bB (bZ ls) iK++jA bd).map aG) (bB (bZ ls) iK++jA bd).length ?_;refine bG fun r64 h64=> ?_;intros;refine tQ ?_;generalize bB (bZ ls) iK++jA bd=P at hPl hub hcd⊢;refine kV ?_;refine zP ?_;refine tE call251 (yO (k:=.any) P.length P U U) rfl bL kK ?_;rintro _ Y' ⟨q69,rfl,rfl⟩ h69
  replace h69:=bU h69;repeat rcases h69 with⟨_,h69⟩
  apply aR;exact aU;refine kD ((eM lD co j++(uB P.length++P)).map aG) (eM lD co j++(uB P.length++P)).length ?_;refine bG fun r70 h70=> ?_;intros;refine gX ?_;refine xK ?_;refine⟨(r70,j+1),⟨hlt,Ae r70 r1,Ae r70 r42⟩,Ab U, ?_⟩;dsimp only;rw[hnx];rw[hcd];exact aH
 obtain rfl:j=co.length:=by simp at g9;omega
 refine oA ?_;refine zP ?_;refine tE call158 (jC 10 V co lD U (by have:=Pco co.length;omega)) rfl bL kK ?_;rintro _ Y' ⟨q76,rfl,rfl⟩ h76
 replace h76:=bU h76;repeat rcases h76 with⟨_,h76⟩
 apply aR;exact aU;refine kD ((S1++bF 10 co lD).map aG) (S1++bF 10 co lD).length ?_;refine bG fun r77 h77=> ?_;intros;refine cN ?_;generalize bF 10 co lD=S2 at L2⊢;refine kI ?_;refine bQ 4 5 1 V rfl V (bD fun q6 hq6=> ?_);repeat rcases hq6 with⟨_,hq6⟩
 refine kI ?_;refine lp (β:=Nat×Nat) (fun b=>⟨[(1,.ptr r1 0),(3,.own r77 0 (S1++S2).length),(4,.own b.1 0 (eM wD da b.2).length),(8,.int .i64 b.2)],[(b.1,.arr 5 1 ((eM wD da b.2).map aG)),(r77,.arr 5 1 ((S1++S2).map aG)),(r1,.box 33 (aM ⟨ty,im,fn,tb,me,gl,ex,el,co,da⟩))]⟩) (fun b=>b.2<=da.length/\Nq b.1 r1/\Nq b.1 r77) (fun b=>da.length-b.2) (q6,0) aH ⟨Am _,Ae q6 r1,Ae q6 r77⟩ ?_;rintro⟨q1,j⟩ ⟨hj,hqa,hqb⟩;have hpl:=Pda j;dsimp only at hj hqa hqb⊢;unfold aM;dsimp only;refine kJ ?_;refine aB rfl ?_ ?_<;>intro g16
 ·have hlt:j<da.length:=by simp at g16;omega
  obtain⟨⟨oo,bs⟩,hx⟩:=Aa da j hlt
  obtain⟨ho,hf1⟩:=hda _ (Ah hx);dsimp only at ho hf1;have hr:-2147483648<=oo/\oo<=2147483647:=by(have h:=ho;unfold gV at h;simpa using h)
  have hv:nT 1 oo=true:=by unfold nT;simp;omega
  have hcl:=zD hv U;have hub:=bJ 4 bs.length U;have hnx:=mU (pt:=wD) hx;refine aI ?_;refine eK (Ac [0,3,4,5,6,7,8,9,12,13,14,15,16,17,18,19,20,21,22,23,24] (Ad 1 (Ad 2 (Ad 10 (Ad 11 (Ad 25 (Ad 26 (Ac [27] [])))))))) ?_;refine B5 ?_;refine BA ?_;refine SJ ?_;refine BA ?_;refine SI ?_;refine BA ?_;refine CH fun r86 h86=> ?_;intros;refine eW rfl ((eM wD da j++ [0]).map aG) (eM wD da j++ [0]).length ?_;refine bG fun r87 h87=> ?_;intros;refine mI rfl call163 (sV 1 oo hv U) rfl bL kK ?_;rintro _ Y' ⟨q95,rfl,rfl⟩ h95
  replace h95:=bU h95;repeat rcases h95 with⟨_,h95⟩
  apply bC;exact aU;refine eW rfl ((eM wD da j++ [0]++nB 1 oo).map aG) (eM wD da j++ [0]++nB 1 oo).length ?_;refine bG fun r96 h96=> ?_;intros;refine mI rfl call251 (yO (k:=.any) bs.length bs U U) rfl bL kK ?_;rintro _ Y' ⟨q110,rfl,rfl⟩ h110
  replace h110:=bU h110;repeat rcases h110 with⟨_,h110⟩
  apply bC;exact aU;refine eW rfl ((eM wD da j++ [0]++nB 1 oo++(uB bs.length++bs)).map aG) (eM wD da j++ [0]++nB 1 oo++(uB bs.length++bs)).length ?_;refine bG fun r111 h111=> ?_;intros;refine qH ?_;refine⟨(r111,j+1),⟨hlt,Ae r111 r1,Ae r111 r77⟩,Ab U, ?_⟩;dsimp only;rw[hnx];rw[show eM wD da j++wD ⟨oo,bs⟩=eM wD da j++ [0]++nB 1 oo++(uB bs.length++bs) by unfold wD rR;simp];exact aH
 obtain rfl:j=da.length:=by simp at g16;omega
 refine oA ?_;refine zP ?_;refine tE call158 (jC 11 V da wD U (by have:=Pda da.length;omega)) rfl bL kK ?_;rintro _ Y' ⟨q117,rfl,rfl⟩ h117
 replace h117:=bU h117;repeat rcases h117 with⟨_,h117⟩
 apply aR;exact aU;refine kD ((S1++S2++bF 11 da wD).map aG) (S1++S2++bF 11 da wD).length ?_;refine bG fun r118 h118=> ?_;intros;refine cN ?_;exact aD aE ⟨r118,by rfl,rfl⟩ aA
theorem aB5{m:Md}(h:m.G):(yP m).length<=10000000:=by
 obtain⟨-,-,-,-,-,-,-,⟨nel,hel⟩,⟨nco,hco⟩,⟨nda,hda⟩⟩:=h;obtain⟨L1,-⟩:=lZ 9 uS 5300 nel V fun x hx=>aAZ (hel x hx)
 obtain⟨L2,-⟩:=lZ 10 lD 70000 nco V fun x hx=>aA1 (hco x hx)
 obtain⟨L3,-⟩:=lZ 11 wD 1300 nda V fun x hx=>aA2 (hda x hx)
 unfold yP;rw[Ao,Ao];omega
theorem aB6(m:Md)(h:m.G):SCall prog 64 [.agg (aM m)] [] (fun y Y=>∃q,y=.own q 0 (eZ m).length/\Y=[(q,.arr 5 1 ((eZ m).map aG))]):=aEy m h (aEz m h) (aB5 h)
end Go.Proofs.YtjpdadobblffmaaGreat
