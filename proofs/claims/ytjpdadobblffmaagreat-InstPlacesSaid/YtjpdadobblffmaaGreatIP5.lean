import Derived.Test.YtjpdadobblffmaaGreatIP4
import Derived.Test.YtjpdadobblffmaaGreatIP3
set_option linter.unusedSimpArgs false
set_option linter.unusedVariables false
set_option maxRecDepth 100000
set_option maxHeartbeats 4000000
namespace Go.Proofs.YtjpdadobblffmaaGreat
open Go.RowKit Go.ChangeShapes Go.WideShapes Go.ChangeAt Go.Deep
attribute [local irreducible] SW RS RD fF eB
theorem vN(s:St):(gH s).1<4294967296:=by
 have:=(yY s.1).1;unfold gH;dsimp only;split<;>omega
structure Gets (P:Program) (f:FuncId) (us vs:List AV) (σ:St→dC) {α:Type} (ar:α→AV) (get:St→α×St):Prop where
 call:∀args w,(callFunc f args).run P w=.ok (.enter f args) w
 st:Kp get
 run:∀s,SOk s→SCall P f (us++ []++vs) (σ s) (fun y σ'=>y=ar (get s).1∧σ'=σ (get s).2)
theorem zT{f:FuncId}{us vs:List AV}{r:Nat}{get:St→Int×St}(hg:Gets Tryz.prog f us vs (fun s=>[(r,.box 117 (cR s))]) (fun n=>.int .i64 n) get)(s:St)(hs:SOk s):SCall Tryz.prog 171 [.ptr r 0,.fn (.func f) us vs] [(r,.box 117 (cR s))]
  (fun x σ=>∃q,Fresh q [(r,.box 117 (cR s))]∧x=.own q 0 (fS get s).1.length∧σ=[(q,.arr 3 1 ((fS get s).1.map aK)),(r,.box 117 (cR (fS get s).2))]):=by
 have h1:=jL r s hs;have k1:=iF s hs;have kb:=vN s;have hR:fS get s=jS get (gH s).1 (gH s).2:=rfl;generalize gH s=p at h1 k1 kb hR;obtain⟨n,s1⟩:=p;dsimp only at h1 k1 kb hR;refine bS 26 [0,1,4,5,6,17] Tryz.func171 ?_;refine oK ?_;refine bP 5 3 1 (by decide) rfl (by decide) (bN fun q0 hq0=> ?_);repeat rcases hq0 with⟨_,hq0⟩
 refine fV ?_;refine cw [(r,.box 117 (cR s))] Tryz.call68 h1 rfl aC aA ?_;rintro _ σ' ⟨rfl,rfl⟩ h8;refine eY ?_;refine lp (β:=Nat×Nat×St×List Int) (fun b=>⟨[(0,.ptr r 0),(1,.fn (.func f) us vs),(5,.own b.1 0 b.2.2.2.length),(6,.int .i64 (b.2.1:Nat))],[(b.1,.arr 3 1 (b.2.2.2.map aK)),(r,.box 117 (cR b.2.2.1))]⟩) (fun b=>Fresh b.1 [(r,.box 117 (cR s))]∧SOk b.2.2.1∧b.2.1+b.2.2.2.length≤4294967296∧fS get s=(b.2.2.2++(jS get b.2.1 b.2.2.1).1,(jS get b.2.1 b.2.2.1).2)) (fun b=>b.2.1) (q0,n,s1,[]) aJ ⟨tY,k1,by show n+0≤4294967296;omega,by rw[hR];rfl⟩ ?_;rintro⟨q1,m,⟨l2,b2⟩,acc⟩ ⟨hq1,hs2,hmb,hL⟩;dsimp only at hq1 hs2 hmb hL⊢;have hq2:=hq1;simp only[aO,aT,and_true]at hq2;repeat rcases hq2 with⟨_,hq2⟩
 unfold cR;dsimp only;refine cX ?_;refine DT ?_;refine uV ?_;refine aB rfl (fun g3=> ?_) (fun g3=> ?_)
 ·obtain rfl:b2=false:=by cases b2 with|false=>rfl|true=>simp at g3
  obtain⟨m,rfl⟩:∃k,m=k+1:=⟨m-1,by simp at g3;omega⟩
  have hrun:=hg.run (l2,false) hs2;have hk:=hg.st (l2,false) hs2;have hl:jS get (m+1) (l2,false)=((get (l2,false)).1::(jS get m (get (l2,false)).2).1,(jS get m (get (l2,false)).2).2):=rfl;rw[hl]at hL;generalize get (l2,false)=p at hrun hk hL;obtain⟨x,s3⟩:=p;dsimp only at hrun hk hL;refine dG ?_;refine pP [(r,.box 117 (cR (l2,false)))] rfl hg.call hrun rfl aC aA ?_;rintro _ σ' ⟨rfl,rfl⟩ h22;apply aU;exact bD;refine eC fun r23 h23=> ?_;intros
  refine jQ ((acc++ [x]).map aK) (acc++ [x]).length ?_;refine bE fun r24 h24=> ?_;intros
  refine gZ ?_;refine tF ?_;rw[show((m+1:Nat):Int)-1=(m:Nat) by omega];refine cM ?_;refine⟨(r24,m,s3,acc++ [x]),⟨tY,hk,by show m+(acc++ [x]).length≤4294967296;simp;omega,by rw[hL];simp⟩,Nat.lt_succ_self _, ?_⟩;dsimp only;exact aJ
 have hz:jS get m (l2,b2)=([],(l2,b2)):=by cases m with|zero=>rfl|succ m=>(cases b2 with|true=>rfl|false=>(simp at g3<;>omega))
 have hE:fS get s=(acc,(l2,b2)):=by rw[hL,hz];simp
 refine eW ?_;exact aD aE ⟨q1,hq1,by rw[hE];rfl,by rw[hE]⟩ aA
theorem aDI{f:FuncId}{us vs:List AV}{r:Nat}{get:St→FT×St}(hg:Gets Tryz.prog f us vs (fun s=>[(r,.box 117 (cR s))]) (fun x=>.agg (dF x)) get)(s:St)(hs:SOk s):SCall Tryz.prog 167 [.ptr r 0,.fn (.func f) us vs] [(r,.box 117 (cR s))]
  (fun x σ=>∃q,Fresh q [(r,.box 117 (cR s))]∧x=.own q 0 (fS get s).1.length∧σ=[(q,.arr 50 2 ((fS get s).1.map dF)),(r,.box 117 (cR (fS get s).2))]):=by
 have h1:=jL r s hs;have k1:=iF s hs;have kb:=vN s;have hR:fS get s=jS get (gH s).1 (gH s).2:=rfl;generalize gH s=p at h1 k1 kb hR;obtain⟨n,s1⟩:=p;dsimp only at h1 k1 kb hR;refine bS 26 [0,1,4,5,6,17] Tryz.func167 ?_;refine oK ?_;refine bP 5 50 2 (by decide) rfl (by decide) (bN fun q0 hq0=> ?_);repeat rcases hq0 with⟨_,hq0⟩
 refine fV ?_;refine cw [(r,.box 117 (cR s))] Tryz.call68 h1 rfl aC aA ?_;rintro _ σ' ⟨rfl,rfl⟩ h8;refine eY ?_;refine lp (β:=Nat×Nat×St×List FT) (fun b=>⟨[(0,.ptr r 0),(1,.fn (.func f) us vs),(5,.own b.1 0 b.2.2.2.length),(6,.int .i64 (b.2.1:Nat))],[(b.1,.arr 50 2 (b.2.2.2.map dF)),(r,.box 117 (cR b.2.2.1))]⟩) (fun b=>Fresh b.1 [(r,.box 117 (cR s))]∧SOk b.2.2.1∧b.2.1+b.2.2.2.length≤4294967296∧fS get s=(b.2.2.2++(jS get b.2.1 b.2.2.1).1,(jS get b.2.1 b.2.2.1).2)) (fun b=>b.2.1) (q0,n,s1,[]) aJ ⟨tY,k1,by show n+0≤4294967296;omega,by rw[hR];rfl⟩ ?_;rintro⟨q1,m,⟨l2,b2⟩,acc⟩ ⟨hq1,hs2,hmb,hL⟩;dsimp only at hq1 hs2 hmb hL⊢;have hq2:=hq1;simp only[aO,aT,and_true]at hq2;repeat rcases hq2 with⟨_,hq2⟩
 unfold cR;dsimp only;refine cX ?_;refine DT ?_;refine uV ?_;refine aB rfl (fun g3=> ?_) (fun g3=> ?_)
 ·obtain rfl:b2=false:=by cases b2 with|false=>rfl|true=>simp at g3
  obtain⟨m,rfl⟩:∃k,m=k+1:=⟨m-1,by simp at g3;omega⟩
  have hrun:=hg.run (l2,false) hs2;have hk:=hg.st (l2,false) hs2;have hl:jS get (m+1) (l2,false)=((get (l2,false)).1::(jS get m (get (l2,false)).2).1,(jS get m (get (l2,false)).2).2):=rfl;rw[hl]at hL;generalize get (l2,false)=p at hrun hk hL;obtain⟨x,s3⟩:=p;dsimp only at hrun hk hL;refine dG ?_;refine pP [(r,.box 117 (cR (l2,false)))] rfl hg.call hrun rfl aC aA ?_;rintro _ σ' ⟨rfl,rfl⟩ h22;apply aU;exact bD;refine eC fun r23 h23=> ?_;intros
  refine jQ ((acc++ [x]).map dF) (acc++ [x]).length ?_;refine bE fun r24 h24=> ?_;intros
  refine gZ ?_;refine tF ?_;rw[show((m+1:Nat):Int)-1=(m:Nat) by omega];refine cM ?_;refine⟨(r24,m,s3,acc++ [x]),⟨tY,hk,by show m+(acc++ [x]).length≤4294967296;simp;omega,by rw[hL];simp⟩,Nat.lt_succ_self _, ?_⟩;dsimp only;exact aJ
 have hz:jS get m (l2,b2)=([],(l2,b2)):=by cases m with|zero=>rfl|succ m=>(cases b2 with|true=>rfl|false=>(simp at g3<;>omega))
 have hE:fS get s=(acc,(l2,b2)):=by rw[hL,hz];simp
 refine eW ?_;exact aD aE ⟨q1,hq1,by rw[hE];rfl,by rw[hE]⟩ aA
theorem aDJ{f:FuncId}{us vs:List AV}{r:Nat}{get:St→Im×St}(hg:Gets Tryz.prog f us vs (fun s=>[(r,.box 117 (cR s))]) (fun x=>.agg (eT x)) get)(s:St)(hs:SOk s):SCall Tryz.prog 169 [.ptr r 0,.fn (.func f) us vs] [(r,.box 117 (cR s))]
  (fun x σ=>∃q,Fresh q [(r,.box 117 (cR s))]∧x=.own q 0 (fS get s).1.length∧σ=[(q,.arr 64 3 ((fS get s).1.map eT)),(r,.box 117 (cR (fS get s).2))]):=by
 have h1:=jL r s hs;have k1:=iF s hs;have kb:=vN s;have hR:fS get s=jS get (gH s).1 (gH s).2:=rfl;generalize gH s=p at h1 k1 kb hR;obtain⟨n,s1⟩:=p;dsimp only at h1 k1 kb hR;refine bS 26 [0,1,4,5,6,17] Tryz.func169 ?_;refine oK ?_;refine bP 5 64 3 (by decide) rfl (by decide) (bN fun q0 hq0=> ?_);repeat rcases hq0 with⟨_,hq0⟩
 refine fV ?_;refine cw [(r,.box 117 (cR s))] Tryz.call68 h1 rfl aC aA ?_;rintro _ σ' ⟨rfl,rfl⟩ h8;refine eY ?_;refine lp (β:=Nat×Nat×St×List Im) (fun b=>⟨[(0,.ptr r 0),(1,.fn (.func f) us vs),(5,.own b.1 0 b.2.2.2.length),(6,.int .i64 (b.2.1:Nat))],[(b.1,.arr 64 3 (b.2.2.2.map eT)),(r,.box 117 (cR b.2.2.1))]⟩) (fun b=>Fresh b.1 [(r,.box 117 (cR s))]∧SOk b.2.2.1∧b.2.1+b.2.2.2.length≤4294967296∧fS get s=(b.2.2.2++(jS get b.2.1 b.2.2.1).1,(jS get b.2.1 b.2.2.1).2)) (fun b=>b.2.1) (q0,n,s1,[]) aJ ⟨tY,k1,by show n+0≤4294967296;omega,by rw[hR];rfl⟩ ?_;rintro⟨q1,m,⟨l2,b2⟩,acc⟩ ⟨hq1,hs2,hmb,hL⟩;dsimp only at hq1 hs2 hmb hL⊢;have hq2:=hq1;simp only[aO,aT,and_true]at hq2;repeat rcases hq2 with⟨_,hq2⟩
 unfold cR;dsimp only;refine cX ?_;refine DT ?_;refine uV ?_;refine aB rfl (fun g3=> ?_) (fun g3=> ?_)
 ·obtain rfl:b2=false:=by cases b2 with|false=>rfl|true=>simp at g3
  obtain⟨m,rfl⟩:∃k,m=k+1:=⟨m-1,by simp at g3;omega⟩
  have hrun:=hg.run (l2,false) hs2;have hk:=hg.st (l2,false) hs2;have hl:jS get (m+1) (l2,false)=((get (l2,false)).1::(jS get m (get (l2,false)).2).1,(jS get m (get (l2,false)).2).2):=rfl;rw[hl]at hL;generalize get (l2,false)=p at hrun hk hL;obtain⟨x,s3⟩:=p;dsimp only at hrun hk hL;refine dG ?_;refine pP [(r,.box 117 (cR (l2,false)))] rfl hg.call hrun rfl aC aA ?_;rintro _ σ' ⟨rfl,rfl⟩ h22;apply aU;exact bD;refine eC fun r23 h23=> ?_;intros
  refine jQ ((acc++ [x]).map eT) (acc++ [x]).length ?_;refine bE fun r24 h24=> ?_;intros
  refine gZ ?_;refine tF ?_;rw[show((m+1:Nat):Int)-1=(m:Nat) by omega];refine cM ?_;refine⟨(r24,m,s3,acc++ [x]),⟨tY,hk,by show m+(acc++ [x]).length≤4294967296;simp;omega,by rw[hL];simp⟩,Nat.lt_succ_self _, ?_⟩;dsimp only;exact aJ
 have hz:jS get m (l2,b2)=([],(l2,b2)):=by cases m with|zero=>rfl|succ m=>(cases b2 with|true=>rfl|false=>(simp at g3<;>omega))
 have hE:fS get s=(acc,(l2,b2)):=by rw[hL,hz];simp
 refine eW ?_;exact aD aE ⟨q1,hq1,by rw[hE];rfl,by rw[hE]⟩ aA
theorem aDK{f:FuncId}{us vs:List AV}{r:Nat}{get:St→Gl×St}(hg:Gets Tryz.prog f us vs (fun s=>[(r,.box 117 (cR s))]) (fun x=>.agg (eU x)) get)(s:St)(hs:SOk s):SCall Tryz.prog 173 [.ptr r 0,.fn (.func f) us vs] [(r,.box 117 (cR s))]
  (fun x σ=>∃q,Fresh q [(r,.box 117 (cR s))]∧x=.own q 0 (fS get s).1.length∧σ=[(q,.arr 73 3 ((fS get s).1.map eU)),(r,.box 117 (cR (fS get s).2))]):=by
 have h1:=jL r s hs;have k1:=iF s hs;have kb:=vN s;have hR:fS get s=jS get (gH s).1 (gH s).2:=rfl;generalize gH s=p at h1 k1 kb hR;obtain⟨n,s1⟩:=p;dsimp only at h1 k1 kb hR;refine bS 26 [0,1,4,5,6,17] Tryz.func173 ?_;refine oK ?_;refine bP 5 73 3 (by decide) rfl (by decide) (bN fun q0 hq0=> ?_);repeat rcases hq0 with⟨_,hq0⟩
 refine fV ?_;refine cw [(r,.box 117 (cR s))] Tryz.call68 h1 rfl aC aA ?_;rintro _ σ' ⟨rfl,rfl⟩ h8;refine eY ?_;refine lp (β:=Nat×Nat×St×List Gl) (fun b=>⟨[(0,.ptr r 0),(1,.fn (.func f) us vs),(5,.own b.1 0 b.2.2.2.length),(6,.int .i64 (b.2.1:Nat))],[(b.1,.arr 73 3 (b.2.2.2.map eU)),(r,.box 117 (cR b.2.2.1))]⟩) (fun b=>Fresh b.1 [(r,.box 117 (cR s))]∧SOk b.2.2.1∧b.2.1+b.2.2.2.length≤4294967296∧fS get s=(b.2.2.2++(jS get b.2.1 b.2.2.1).1,(jS get b.2.1 b.2.2.1).2)) (fun b=>b.2.1) (q0,n,s1,[]) aJ ⟨tY,k1,by show n+0≤4294967296;omega,by rw[hR];rfl⟩ ?_;rintro⟨q1,m,⟨l2,b2⟩,acc⟩ ⟨hq1,hs2,hmb,hL⟩;dsimp only at hq1 hs2 hmb hL⊢;have hq2:=hq1;simp only[aO,aT,and_true]at hq2;repeat rcases hq2 with⟨_,hq2⟩
 unfold cR;dsimp only;refine cX ?_;refine DT ?_;refine uV ?_;refine aB rfl (fun g3=> ?_) (fun g3=> ?_)
 ·obtain rfl:b2=false:=by cases b2 with|false=>rfl|true=>simp at g3
  obtain⟨m,rfl⟩:∃k,m=k+1:=⟨m-1,by simp at g3;omega⟩
  have hrun:=hg.run (l2,false) hs2;have hk:=hg.st (l2,false) hs2;have hl:jS get (m+1) (l2,false)=((get (l2,false)).1::(jS get m (get (l2,false)).2).1,(jS get m (get (l2,false)).2).2):=rfl;rw[hl]at hL;generalize get (l2,false)=p at hrun hk hL;obtain⟨x,s3⟩:=p;dsimp only at hrun hk hL;refine dG ?_;refine pP [(r,.box 117 (cR (l2,false)))] rfl hg.call hrun rfl aC aA ?_;rintro _ σ' ⟨rfl,rfl⟩ h22;apply aU;exact bD;refine eC fun r23 h23=> ?_;intros
  refine jQ ((acc++ [x]).map eU) (acc++ [x]).length ?_;refine bE fun r24 h24=> ?_;intros
  refine gZ ?_;refine tF ?_;rw[show((m+1:Nat):Int)-1=(m:Nat) by omega];refine cM ?_;refine⟨(r24,m,s3,acc++ [x]),⟨tY,hk,by show m+(acc++ [x]).length≤4294967296;simp;omega,by rw[hL];simp⟩,Nat.lt_succ_self _, ?_⟩;dsimp only;exact aJ
 have hz:jS get m (l2,b2)=([],(l2,b2)):=by cases m with|zero=>rfl|succ m=>(cases b2 with|true=>rfl|false=>(simp at g3<;>omega))
 have hE:fS get s=(acc,(l2,b2)):=by rw[hL,hz];simp
 refine eW ?_;exact aD aE ⟨q1,hq1,by rw[hE];rfl,by rw[hE]⟩ aA
theorem aDL{f:FuncId}{us vs:List AV}{r:Nat}{get:St→Ex×St}(hg:Gets Tryz.prog f us vs (fun s=>[(r,.box 117 (cR s))]) (fun x=>.agg (eA x)) get)(s:St)(hs:SOk s):SCall Tryz.prog 175 [.ptr r 0,.fn (.func f) us vs] [(r,.box 117 (cR s))]
  (fun x σ=>∃q,Fresh q [(r,.box 117 (cR s))]∧x=.own q 0 (fS get s).1.length∧σ=[(q,.arr 66 2 ((fS get s).1.map eA)),(r,.box 117 (cR (fS get s).2))]):=by
 have h1:=jL r s hs;have k1:=iF s hs;have kb:=vN s;have hR:fS get s=jS get (gH s).1 (gH s).2:=rfl;generalize gH s=p at h1 k1 kb hR;obtain⟨n,s1⟩:=p;dsimp only at h1 k1 kb hR;refine bS 26 [0,1,4,5,6,17] Tryz.func175 ?_;refine oK ?_;refine bP 5 66 2 (by decide) rfl (by decide) (bN fun q0 hq0=> ?_);repeat rcases hq0 with⟨_,hq0⟩
 refine fV ?_;refine cw [(r,.box 117 (cR s))] Tryz.call68 h1 rfl aC aA ?_;rintro _ σ' ⟨rfl,rfl⟩ h8;refine eY ?_;refine lp (β:=Nat×Nat×St×List Ex) (fun b=>⟨[(0,.ptr r 0),(1,.fn (.func f) us vs),(5,.own b.1 0 b.2.2.2.length),(6,.int .i64 (b.2.1:Nat))],[(b.1,.arr 66 2 (b.2.2.2.map eA)),(r,.box 117 (cR b.2.2.1))]⟩) (fun b=>Fresh b.1 [(r,.box 117 (cR s))]∧SOk b.2.2.1∧b.2.1+b.2.2.2.length≤4294967296∧fS get s=(b.2.2.2++(jS get b.2.1 b.2.2.1).1,(jS get b.2.1 b.2.2.1).2)) (fun b=>b.2.1) (q0,n,s1,[]) aJ ⟨tY,k1,by show n+0≤4294967296;omega,by rw[hR];rfl⟩ ?_;rintro⟨q1,m,⟨l2,b2⟩,acc⟩ ⟨hq1,hs2,hmb,hL⟩;dsimp only at hq1 hs2 hmb hL⊢;have hq2:=hq1;simp only[aO,aT,and_true]at hq2;repeat rcases hq2 with⟨_,hq2⟩
 unfold cR;dsimp only;refine cX ?_;refine DT ?_;refine uV ?_;refine aB rfl (fun g3=> ?_) (fun g3=> ?_)
 ·obtain rfl:b2=false:=by cases b2 with|false=>rfl|true=>simp at g3
  obtain⟨m,rfl⟩:∃k,m=k+1:=⟨m-1,by simp at g3;omega⟩
  have hrun:=hg.run (l2,false) hs2;have hk:=hg.st (l2,false) hs2;have hl:jS get (m+1) (l2,false)=((get (l2,false)).1::(jS get m (get (l2,false)).2).1,(jS get m (get (l2,false)).2).2):=rfl;rw[hl]at hL;generalize get (l2,false)=p at hrun hk hL;obtain⟨x,s3⟩:=p;dsimp only at hrun hk hL;refine dG ?_;refine pP [(r,.box 117 (cR (l2,false)))] rfl hg.call hrun rfl aC aA ?_;rintro _ σ' ⟨rfl,rfl⟩ h22;apply aU;exact bD;refine eC fun r23 h23=> ?_;intros
  refine jQ ((acc++ [x]).map eA) (acc++ [x]).length ?_;refine bE fun r24 h24=> ?_;intros
  refine gZ ?_;refine tF ?_;rw[show((m+1:Nat):Int)-1=(m:Nat) by omega];refine cM ?_;refine⟨(r24,m,s3,acc++ [x]),⟨tY,hk,by show m+(acc++ [x]).length≤4294967296;simp;omega,by rw[hL];simp⟩,Nat.lt_succ_self _, ?_⟩;dsimp only;exact aJ
 have hz:jS get m (l2,b2)=([],(l2,b2)):=by cases m with|zero=>rfl|succ m=>(cases b2 with|true=>rfl|false=>(simp at g3<;>omega))
 have hE:fS get s=(acc,(l2,b2)):=by rw[hL,hz];simp
 refine eW ?_;exact aD aE ⟨q1,hq1,by rw[hE];rfl,by rw[hE]⟩ aA
theorem aDM{f:FuncId}{us vs:List AV}{r:Nat}{get:St→Co×St}(hg:Gets Tryz.prog f us vs (fun s=>[(r,.box 117 (cR s))]) (fun x=>.agg (dJ x)) get)(s:St)(hs:SOk s):SCall Tryz.prog 180 [.ptr r 0,.fn (.func f) us vs] [(r,.box 117 (cR s))]
  (fun x σ=>∃q,Fresh q [(r,.box 117 (cR s))]∧x=.own q 0 (fS get s).1.length∧σ=[(q,.arr 44 2 ((fS get s).1.map dJ)),(r,.box 117 (cR (fS get s).2))]):=by
 have h1:=jL r s hs;have k1:=iF s hs;have kb:=vN s;have hR:fS get s=jS get (gH s).1 (gH s).2:=rfl;generalize gH s=p at h1 k1 kb hR;obtain⟨n,s1⟩:=p;dsimp only at h1 k1 kb hR;refine bS 26 [0,1,4,5,6,17] Tryz.func180 ?_;refine oK ?_;refine bP 5 44 2 (by decide) rfl (by decide) (bN fun q0 hq0=> ?_);repeat rcases hq0 with⟨_,hq0⟩
 refine fV ?_;refine cw [(r,.box 117 (cR s))] Tryz.call68 h1 rfl aC aA ?_;rintro _ σ' ⟨rfl,rfl⟩ h8;refine eY ?_;refine lp (β:=Nat×Nat×St×List Co) (fun b=>⟨[(0,.ptr r 0),(1,.fn (.func f) us vs),(5,.own b.1 0 b.2.2.2.length),(6,.int .i64 (b.2.1:Nat))],[(b.1,.arr 44 2 (b.2.2.2.map dJ)),(r,.box 117 (cR b.2.2.1))]⟩) (fun b=>Fresh b.1 [(r,.box 117 (cR s))]∧SOk b.2.2.1∧b.2.1+b.2.2.2.length≤4294967296∧fS get s=(b.2.2.2++(jS get b.2.1 b.2.2.1).1,(jS get b.2.1 b.2.2.1).2)) (fun b=>b.2.1) (q0,n,s1,[]) aJ ⟨tY,k1,by show n+0≤4294967296;omega,by rw[hR];rfl⟩ ?_;rintro⟨q1,m,⟨l2,b2⟩,acc⟩ ⟨hq1,hs2,hmb,hL⟩;dsimp only at hq1 hs2 hmb hL⊢;have hq2:=hq1;simp only[aO,aT,and_true]at hq2;repeat rcases hq2 with⟨_,hq2⟩
 unfold cR;dsimp only;refine cX ?_;refine DT ?_;refine uV ?_;refine aB rfl (fun g3=> ?_) (fun g3=> ?_)
 ·obtain rfl:b2=false:=by cases b2 with|false=>rfl|true=>simp at g3
  obtain⟨m,rfl⟩:∃k,m=k+1:=⟨m-1,by simp at g3;omega⟩
  have hrun:=hg.run (l2,false) hs2;have hk:=hg.st (l2,false) hs2;have hl:jS get (m+1) (l2,false)=((get (l2,false)).1::(jS get m (get (l2,false)).2).1,(jS get m (get (l2,false)).2).2):=rfl;rw[hl]at hL;generalize get (l2,false)=p at hrun hk hL;obtain⟨x,s3⟩:=p;dsimp only at hrun hk hL;refine dG ?_;refine pP [(r,.box 117 (cR (l2,false)))] rfl hg.call hrun rfl aC aA ?_;rintro _ σ' ⟨rfl,rfl⟩ h22;apply aU;exact bD;refine eC fun r23 h23=> ?_;intros
  refine jQ ((acc++ [x]).map dJ) (acc++ [x]).length ?_;refine bE fun r24 h24=> ?_;intros
  refine gZ ?_;refine tF ?_;rw[show((m+1:Nat):Int)-1=(m:Nat) by omega];refine cM ?_;refine⟨(r24,m,s3,acc++ [x]),⟨tY,hk,by show m+(acc++ [x]).length≤4294967296;simp;omega,by rw[hL];simp⟩,Nat.lt_succ_self _, ?_⟩;dsimp only;exact aJ
 have hz:jS get m (l2,b2)=([],(l2,b2)):=by cases m with|zero=>rfl|succ m=>(cases b2 with|true=>rfl|false=>(simp at g3<;>omega))
 have hE:fS get s=(acc,(l2,b2)):=by rw[hL,hz];simp
 refine eW ?_;exact aD aE ⟨q1,hq1,by rw[hE];rfl,by rw[hE]⟩ aA
theorem aDN{f:FuncId}{us vs:List AV}{r:Nat}{c:Nat}(hc:Nq r c){get:St→El×St}(hg:Gets Tryz.prog f us vs (fun s=>[(r,.box 117 (cR s)),(c,.box 114 [.ptr r 0])]) (fun x=>.agg (eQ x)) get)(s:St)(hs:SOk s):SCall Tryz.prog 177 [.ptr r 0,.fn (.func f) us vs] [(r,.box 117 (cR s)),(c,.box 114 [.ptr r 0])]
  (fun x σ=>∃q,Fresh q [(r,.box 117 (cR s)),(c,.box 114 [.ptr r 0])]∧x=.own q 0 (fS get s).1.length∧σ=[(q,.arr 69 2 ((fS get s).1.map eQ)),(r,.box 117 (cR (fS get s).2)),(c,.box 114 [.ptr r 0])]):=by
 have h1:=jL r s hs;have k1:=iF s hs;have kb:=vN s;have hR:fS get s=jS get (gH s).1 (gH s).2:=rfl;generalize gH s=p at h1 k1 kb hR;obtain⟨n,s1⟩:=p;dsimp only at h1 k1 kb hR;refine bS 26 [0,1,4,5,6,17] Tryz.func177 ?_;refine oK ?_;refine bP 5 69 2 (by decide) rfl (by decide) (bN fun q0 hq0=> ?_);repeat rcases hq0 with⟨_,hq0⟩
 refine fV ?_;refine cw [(r,.box 117 (cR s))] Tryz.call68 h1 rfl aC aA ?_;rintro _ σ' ⟨rfl,rfl⟩ h8;refine eY ?_;refine lp (β:=Nat×Nat×St×List El) (fun b=>⟨[(0,.ptr r 0),(1,.fn (.func f) us vs),(5,.own b.1 0 b.2.2.2.length),(6,.int .i64 (b.2.1:Nat))],[(b.1,.arr 69 2 (b.2.2.2.map eQ)),(r,.box 117 (cR b.2.2.1)),(c,.box 114 [.ptr r 0])]⟩) (fun b=>Fresh b.1 [(r,.box 117 (cR s)),(c,.box 114 [.ptr r 0])]∧SOk b.2.2.1∧b.2.1+b.2.2.2.length≤4294967296∧fS get s=(b.2.2.2++(jS get b.2.1 b.2.2.1).1,(jS get b.2.1 b.2.2.1).2)) (fun b=>b.2.1) (q0,n,s1,[]) aJ ⟨tY,k1,by show n+0≤4294967296;omega,by rw[hR];rfl⟩ ?_;rintro⟨q1,m,⟨l2,b2⟩,acc⟩ ⟨hq1,hs2,hmb,hL⟩;dsimp only at hq1 hs2 hmb hL⊢;have hq2:=hq1;simp only[aO,aT,and_true]at hq2;repeat rcases hq2 with⟨_,hq2⟩
 unfold cR;dsimp only;refine cX ?_;refine DT ?_;refine uV ?_;refine aB rfl (fun g3=> ?_) (fun g3=> ?_)
 ·obtain rfl:b2=false:=by cases b2 with|false=>rfl|true=>simp at g3
  obtain⟨m,rfl⟩:∃k,m=k+1:=⟨m-1,by simp at g3;omega⟩
  have hrun:=hg.run (l2,false) hs2;have hk:=hg.st (l2,false) hs2;have hl:jS get (m+1) (l2,false)=((get (l2,false)).1::(jS get m (get (l2,false)).2).1,(jS get m (get (l2,false)).2).2):=rfl;rw[hl]at hL;generalize get (l2,false)=p at hrun hk hL;obtain⟨x,s3⟩:=p;dsimp only at hrun hk hL;refine dG ?_;refine pP [(r,.box 117 (cR (l2,false))),(c,.box 114 [.ptr r 0])] rfl hg.call hrun rfl aC aA ?_;rintro _ σ' ⟨rfl,rfl⟩ h22;apply aU;exact bD;refine eC fun r23 h23=> ?_;intros
  refine jQ ((acc++ [x]).map eQ) (acc++ [x]).length ?_;refine bE fun r24 h24=> ?_;intros
  refine gZ ?_;refine tF ?_;rw[show((m+1:Nat):Int)-1=(m:Nat) by omega];refine cM ?_;refine⟨(r24,m,s3,acc++ [x]),⟨tY,hk,by show m+(acc++ [x]).length≤4294967296;simp;omega,by rw[hL];simp⟩,Nat.lt_succ_self _, ?_⟩;dsimp only;exact aJ
 have hz:jS get m (l2,b2)=([],(l2,b2)):=by cases m with|zero=>rfl|succ m=>(cases b2 with|true=>rfl|false=>(simp at g3<;>omega))
 have hE:fS get s=(acc,(l2,b2)):=by rw[hL,hz];simp
 refine eW ?_;exact aD aE ⟨q1,hq1,by rw[hE];rfl,by rw[hE]⟩ aA
theorem aDO{f:FuncId}{us vs:List AV}{r:Nat}{c:Nat}(hc:Nq r c){get:St→Da×St}(hg:Gets Tryz.prog f us vs (fun s=>[(r,.box 117 (cR s)),(c,.box 114 [.ptr r 0])]) (fun x=>.agg (eO x)) get)(s:St)(hs:SOk s):SCall Tryz.prog 182 [.ptr r 0,.fn (.func f) us vs] [(r,.box 117 (cR s)),(c,.box 114 [.ptr r 0])]
  (fun x σ=>∃q,Fresh q [(r,.box 117 (cR s)),(c,.box 114 [.ptr r 0])]∧x=.own q 0 (fS get s).1.length∧σ=[(q,.arr 48 2 ((fS get s).1.map eO)),(r,.box 117 (cR (fS get s).2)),(c,.box 114 [.ptr r 0])]):=by
 have h1:=jL r s hs;have k1:=iF s hs;have kb:=vN s;have hR:fS get s=jS get (gH s).1 (gH s).2:=rfl;generalize gH s=p at h1 k1 kb hR;obtain⟨n,s1⟩:=p;dsimp only at h1 k1 kb hR;refine bS 26 [0,1,4,5,6,17] Tryz.func182 ?_;refine oK ?_;refine bP 5 48 2 (by decide) rfl (by decide) (bN fun q0 hq0=> ?_);repeat rcases hq0 with⟨_,hq0⟩
 refine fV ?_;refine cw [(r,.box 117 (cR s))] Tryz.call68 h1 rfl aC aA ?_;rintro _ σ' ⟨rfl,rfl⟩ h8;refine eY ?_;refine lp (β:=Nat×Nat×St×List Da) (fun b=>⟨[(0,.ptr r 0),(1,.fn (.func f) us vs),(5,.own b.1 0 b.2.2.2.length),(6,.int .i64 (b.2.1:Nat))],[(b.1,.arr 48 2 (b.2.2.2.map eO)),(r,.box 117 (cR b.2.2.1)),(c,.box 114 [.ptr r 0])]⟩) (fun b=>Fresh b.1 [(r,.box 117 (cR s)),(c,.box 114 [.ptr r 0])]∧SOk b.2.2.1∧b.2.1+b.2.2.2.length≤4294967296∧fS get s=(b.2.2.2++(jS get b.2.1 b.2.2.1).1,(jS get b.2.1 b.2.2.1).2)) (fun b=>b.2.1) (q0,n,s1,[]) aJ ⟨tY,k1,by show n+0≤4294967296;omega,by rw[hR];rfl⟩ ?_;rintro⟨q1,m,⟨l2,b2⟩,acc⟩ ⟨hq1,hs2,hmb,hL⟩;dsimp only at hq1 hs2 hmb hL⊢;have hq2:=hq1;simp only[aO,aT,and_true]at hq2;repeat rcases hq2 with⟨_,hq2⟩
 unfold cR;dsimp only;refine cX ?_;refine DT ?_;refine uV ?_;refine aB rfl (fun g3=> ?_) (fun g3=> ?_)
 ·obtain rfl:b2=false:=by cases b2 with|false=>rfl|true=>simp at g3
  obtain⟨m,rfl⟩:∃k,m=k+1:=⟨m-1,by simp at g3;omega⟩
  have hrun:=hg.run (l2,false) hs2;have hk:=hg.st (l2,false) hs2;have hl:jS get (m+1) (l2,false)=((get (l2,false)).1::(jS get m (get (l2,false)).2).1,(jS get m (get (l2,false)).2).2):=rfl;rw[hl]at hL;generalize get (l2,false)=p at hrun hk hL;obtain⟨x,s3⟩:=p;dsimp only at hrun hk hL;refine dG ?_;refine pP [(r,.box 117 (cR (l2,false))),(c,.box 114 [.ptr r 0])] rfl hg.call hrun rfl aC aA ?_;rintro _ σ' ⟨rfl,rfl⟩ h22;apply aU;exact bD;refine eC fun r23 h23=> ?_;intros
  refine jQ ((acc++ [x]).map eO) (acc++ [x]).length ?_;refine bE fun r24 h24=> ?_;intros
  refine gZ ?_;refine tF ?_;rw[show((m+1:Nat):Int)-1=(m:Nat) by omega];refine cM ?_;refine⟨(r24,m,s3,acc++ [x]),⟨tY,hk,by show m+(acc++ [x]).length≤4294967296;simp;omega,by rw[hL];simp⟩,Nat.lt_succ_self _, ?_⟩;dsimp only;exact aJ
 have hz:jS get m (l2,b2)=([],(l2,b2)):=by cases m with|zero=>rfl|succ m=>(cases b2 with|true=>rfl|false=>(simp at g3<;>omega))
 have hE:fS get s=(acc,(l2,b2)):=by rw[hL,hz];simp
 refine eW ?_;exact aD aE ⟨q1,hq1,by rw[hE];rfl,by rw[hE]⟩ aA
theorem aDP{f:FuncId}{us vs:List AV}{r:Nat}{c d:Nat}{before:Bool}(hc:Nq r c)(hd:Nq r d)(hcd:Nq c d){get:St→Li×St}(hg:Gets Tryz.prog f us vs (fun s=>[(r,.box 117 (cR s)),(c,.box 4 [.bool before]),(d,.box 114 [.ptr r 0])]) (fun x=>.agg (gO x)) get)(s:St)(hs:SOk s):SCall Tryz.prog 261 [.ptr r 0,.fn (.func f) us vs] [(r,.box 117 (cR s)),(c,.box 4 [.bool before]),(d,.box 114 [.ptr r 0])]
  (fun x σ=>∃q,Fresh q [(r,.box 117 (cR s)),(c,.box 4 [.bool before]),(d,.box 114 [.ptr r 0])]∧x=.own q 0 (fS get s).1.length∧σ=[(q,.arr 26 3 ((fS get s).1.map gO)),(r,.box 117 (cR (fS get s).2)),(c,.box 4 [.bool before]),(d,.box 114 [.ptr r 0])]):=by
 have h1:=jL r s hs;have k1:=iF s hs;have kb:=vN s;have hR:fS get s=jS get (gH s).1 (gH s).2:=rfl;generalize gH s=p at h1 k1 kb hR;obtain⟨n,s1⟩:=p;dsimp only at h1 k1 kb hR;refine bS 26 [0,1,4,5,6,17] Tryz.func261 ?_;refine oK ?_;refine bP 5 26 3 (by decide) rfl (by decide) (bN fun q0 hq0=> ?_);repeat rcases hq0 with⟨_,hq0⟩
 refine fV ?_;refine cw [(r,.box 117 (cR s))] Tryz.call68 h1 rfl aC aA ?_;rintro _ σ' ⟨rfl,rfl⟩ h8;refine eY ?_;refine lp (β:=Nat×Nat×St×List Li) (fun b=>⟨[(0,.ptr r 0),(1,.fn (.func f) us vs),(5,.own b.1 0 b.2.2.2.length),(6,.int .i64 (b.2.1:Nat))],[(b.1,.arr 26 3 (b.2.2.2.map gO)),(r,.box 117 (cR b.2.2.1)),(c,.box 4 [.bool before]),(d,.box 114 [.ptr r 0])]⟩) (fun b=>Fresh b.1 [(r,.box 117 (cR s)),(c,.box 4 [.bool before]),(d,.box 114 [.ptr r 0])]∧SOk b.2.2.1∧b.2.1+b.2.2.2.length≤4294967296∧fS get s=(b.2.2.2++(jS get b.2.1 b.2.2.1).1,(jS get b.2.1 b.2.2.1).2)) (fun b=>b.2.1) (q0,n,s1,[]) aJ ⟨tY,k1,by show n+0≤4294967296;omega,by rw[hR];rfl⟩ ?_;rintro⟨q1,m,⟨l2,b2⟩,acc⟩ ⟨hq1,hs2,hmb,hL⟩;dsimp only at hq1 hs2 hmb hL⊢;have hq2:=hq1;simp only[aO,aT,and_true]at hq2;repeat rcases hq2 with⟨_,hq2⟩
 unfold cR;dsimp only;refine cX ?_;refine DT ?_;refine uV ?_;refine aB rfl (fun g3=> ?_) (fun g3=> ?_)
 ·obtain rfl:b2=false:=by cases b2 with|false=>rfl|true=>simp at g3
  obtain⟨m,rfl⟩:∃k,m=k+1:=⟨m-1,by simp at g3;omega⟩
  have hrun:=hg.run (l2,false) hs2;have hk:=hg.st (l2,false) hs2;have hl:jS get (m+1) (l2,false)=((get (l2,false)).1::(jS get m (get (l2,false)).2).1,(jS get m (get (l2,false)).2).2):=rfl;rw[hl]at hL;generalize get (l2,false)=p at hrun hk hL;obtain⟨x,s3⟩:=p;dsimp only at hrun hk hL;refine dG ?_;refine pP [(r,.box 117 (cR (l2,false))),(c,.box 4 [.bool before]),(d,.box 114 [.ptr r 0])] rfl hg.call hrun rfl aC aA ?_;rintro _ σ' ⟨rfl,rfl⟩ h22;apply aU;exact bD;refine eC fun r23 h23=> ?_;intros
  refine jQ ((acc++ [x]).map gO) (acc++ [x]).length ?_;refine bE fun r24 h24=> ?_;intros
  refine gZ ?_;refine tF ?_;rw[show((m+1:Nat):Int)-1=(m:Nat) by omega];refine cM ?_;refine⟨(r24,m,s3,acc++ [x]),⟨tY,hk,by show m+(acc++ [x]).length≤4294967296;simp;omega,by rw[hL];simp⟩,Nat.lt_succ_self _, ?_⟩;dsimp only;exact aJ
 have hz:jS get m (l2,b2)=([],(l2,b2)):=by cases m with|zero=>rfl|succ m=>(cases b2 with|true=>rfl|false=>(simp at g3<;>omega))
 have hE:fS get s=(acc,(l2,b2)):=by rw[hL,hz];simp
 refine eW ?_;exact aD aE ⟨q1,hq1,by rw[hE];rfl,by rw[hE]⟩ aA
theorem LY(r:Nat)(s:St)(hs:SOk s):SCall Tryz.prog 259 [.ptr r 0] [(r,.box 117 (cR s))]
  (fun x σ=>x=.int .i64 (vJ s).1∧σ=[(r,.box 117 (cR (vJ s).2))]):=by
 have h1:=oB r s hs;have hK:vJ s=if((kW s).1==127)=true then(1,(kW s).2)else if((kW s).1==126)=true then(2,(kW s).2)else(0,((kW s).2.1,true)):=rfl
 generalize kW s=p at h1 hK;obtain⟨c,l2,b2⟩:=p;dsimp only at h1 hK;have ht:∀k:Nat,((c:Int)==(k:Int))=(c==k):=fun k=>by rw[Bool.eq_iff_iff];simp only[beq_iff_eq];omega
 refine bS 12 [0,2,4,5,7] Tryz.func259 ?_;refine eX ?_;refine cw [(r,.box 117 (cR s))] Tryz.call67 h1 rfl aC aA ?_;rintro _ σ' ⟨rfl,rfl⟩ h4;refine jG ?_;unfold cR;dsimp only;refine eP ?_;refine aB rfl (fun g2=> ?_) (fun g2=> ?_)
 ·have hE:vJ s=(1,(l2,b2)):=by rw[hK,if_pos ((ht 127).symm.trans g2)]
  refine bF ?_;exact aD aE ⟨by rw[hE];rfl,by rw[hE]⟩ aA
 refine dE ?_;refine aB rfl (fun g4=> ?_) (fun g4=> ?_)
 ·have hE:vJ s=(2,(l2,b2)):=by rw[hK,if_neg (by rw[←ht 127];exact fun h=>by rw[show((c:Int)==((127:Nat):Int))=false from g2]at h;cases h),if_pos ((ht 126).symm.trans g4)]
  refine bF ?_;exact aD aE ⟨by rw[hE];rfl,by rw[hE]⟩ aA
 have hE:vJ s=(0,(l2,true)):=by rw[hK,if_neg (by rw[←ht 127];exact fun h=>by rw[show((c:Int)==((127:Nat):Int))=false from g2]at h;cases h),if_neg (by rw[←ht 126];exact fun h=>by rw[show((c:Int)==((126:Nat):Int))=false from g4]at h;cases h)]
 refine qJ ?_;refine lU ?_;refine bF ?_;exact aD aE ⟨by rw[hE];rfl,by rw[hE]⟩ aA
theorem LZ(r:Nat)(s:St)(hs:SOk s):SCall Tryz.prog 260 [.ptr r 0] [(r,.box 117 (cR s))]
  (fun x σ=>x=.str (dI (zM s).1)∧σ=[(r,.box 117 (cR (zM s).2))]):=by
 have w1:=aBo r s hs;generalize zM s=p at w1;obtain⟨l,s2⟩:=p;dsimp only at w1;refine bS 6 [0,2] Tryz.func260 ?_;refine eX ?_;refine cw [(r,.box 117 (cR s))] Tryz.call184 w1 rfl aC aA ?_;rintro _ σ' ⟨q,hq,rfl,rfl⟩ h4;apply aU;exact bD;refine aCW ?_;refine cM ?_;exact aD aE ⟨by rfl,rfl⟩ aA
theorem BT(r:Nat)(s:St)(hs:SOk s):SCall Tryz.prog 264 [.ptr r 0] [(r,.box 117 (cR s))]
  (fun x σ=>x=.agg [.int .i64 (NA s).1.1,.int .i64 (NA s).1.2]∧σ=[(r,.box 117 (cR (NA s).2))]):=by
 have hk:=fun n ok=>zS r s hs n ok
 have hk2:=fun n ok=>oB r _ (JL hs n ok)
 have hC:NA s=(if((fB s.1).1.op==66)=true then(2,(fB s.1).1.a)else(1,(fB s.1).1.a),(kW (uI s (fB s.1).2.1 (((fB s.1).2.2==0)&&((fB s.1).1.op==65||(fB s.1).1.op==66)))).2):=rfl;have hget:=JD s.1 (by have:=hs.1;omega) hs.2;obtain⟨l,bad⟩:=s;dsimp only at hC hget;generalize fB l=p at hC hget;obtain⟨x,n,e⟩:=p;dsimp only at hC hget;have hB:(if(e==0)=true then(if(x.op==65)=true then true else x.op==66)else false)=((e==0)&&(x.op==65||x.op==66)):=by cases(e==0)<;>cases(x.op==65)<;>rfl
 have w1:=hk n ((e==0)&&(x.op==65||x.op==66));have w2:=hk2 n ((e==0)&&(x.op==65||x.op==66));generalize((e==0)&&(x.op==65||x.op==66))=B at hB w1 w2 hC;generalize uI (l,bad) n B=s2 at w1 w2 hC;generalize kW s2=p3 at w2 hC;obtain⟨c,s3⟩:=p3;dsimp only at w2 hC;refine bS 41 [0,2,3,4,5,34] Tryz.func264 ?_;unfold cR;dsimp only;refine cZ ?_;refine iO fun r2 h2=> ?_;intros
 refine oR ?_;refine gY ?_;refine cw [] Tryz.call298 hget rfl aC aA ?_;rintro _ σ' ⟨q,rfl,rfl⟩ h11
 replace h11:=fY h11;repeat rcases h11 with⟨_,h11⟩
 refine OF ?_;refine iO fun r3 h3=> ?_;intros
 unfold io;apply MZ;rfl;rfl;rfl;rfl;exact mP;refine jF ?_;refine kQ ?_;refine lo (aF (E rfl)) rfl ?_;refine BN ?_;refine pW ?_;refine NU ?_;refine aAl ?_;refine aAm ?_;refine aGg ?_;refine aIR ?_;refine uF ?_;rw[hB];refine cw [(r,.box 117 (cR (l,bad)))] Tryz.call66 w1 rfl aC aA ?_;rintro _ σ' ⟨rfl,rfl⟩ h29;refine jG ?_;refine fV ?_;refine cw [(r,.box 117 (cR s2))] Tryz.call67 w2 rfl aC aA ?_;rintro _ σ' ⟨rfl,rfl⟩ h31;refine xD ?_;refine fT ?_;refine xR ?_;refine aB rfl (fun g4=> ?_) (fun g4=> ?_)
 ·have hE:NA (l,bad)=((2,x.a),s3):=by rw[hC,if_pos g4]
  refine fT ?_;refine lE ?_;refine gT ?_;exact aD aE ⟨by rw[hE];rfl,by rw[hE]⟩ aA
 have hE:NA (l,bad)=((1,x.a),s3):=by rw[hC,if_neg (by rw[g4];simp)]
 refine fT ?_;refine lE ?_;refine gT ?_;exact aD aE ⟨by rw[hE];rfl,by rw[hE]⟩ aA
theorem PU(r:Nat)(s:St)(hs:SOk s):SCall Tryz.prog 179 [.ptr r 0] [(r,.box 117 (cR s))]
  (fun x σ=>x=.int .i64 (NB s).1∧σ=[(r,.box 117 (cR (NB s).2))]):=by
 have w1:=oB r s hs;have w2:=BT r _ (mX s hs);refine bS 8 [0,2] Tryz.func179 ?_;refine eX ?_;refine cw [(r,.box 117 (cR s))] Tryz.call67 w1 rfl aC aA ?_;rintro _ σ' ⟨rfl,rfl⟩ h4;refine jG ?_;refine fV ?_;refine yJ [(r,.box 117 (cR (kW s).2))] Tryz.call264 w2 ?_;refine aGh ?_;refine cM ?_;exact aD aE ⟨by rfl,rfl⟩ aA
theorem JM(r:Nat)(s:St)(hs:SOk s):SCall Tryz.prog 263 [.ptr r 0] [(r,.box 117 (cR s))]
  (fun x σ=>x=.agg (gO (VG s).1)∧σ=[(r,.box 117 (cR (VG s).2))]):=by
 have w1:=oB r s hs;have w2:=jL r _ (mX s hs);have w3:=jL r _ (iF _ (mX s hs));have hL:VG s=if((kW s).1 !=0)=true then(⟨true,(gH (kW s).2).1,(gH (gH (kW s).2).2).1⟩,(gH (gH (kW s).2).2).2)else(⟨true,(gH (kW s).2).1,-1⟩,(gH (kW s).2).2):=rfl
 generalize kW s=p1 at w1 w2 w3 hL;obtain⟨c,s1⟩:=p1;dsimp only at w1 w2 w3 hL;generalize gH s1=p2 at w2 w3 hL;obtain⟨a,s2⟩:=p2;dsimp only at w2 w3 hL;generalize gH s2=p3 at w3 hL;obtain⟨d,s3⟩:=p3;dsimp only at w3 hL;have ht:((c:Int) !=0)=(c !=0):=by rw[Bool.eq_iff_iff];simp only[bne_iff_ne,ne_eq];omega
 refine bS 17 [0,2,3,4,12] Tryz.func263 ?_;refine cZ ?_;refine iO fun r2 h2=> ?_;intros
 refine pO ?_;refine cZ ?_;refine lE ?_;refine iO fun r3 h3=> ?_;intros
 refine mT ?_;refine yJ [(r,.box 117 (cR s))] Tryz.call67 w1 ?_;refine lo (dV (E rfl) (E rfl)) rfl ?_;refine gZ ?_;refine yJ [(r,.box 117 (cR s1))] Tryz.call68 w2 ?_;refine yK ?_;refine mT ?_;refine iI ?_;refine aB rfl (fun g4=> ?_) (fun g4=> ?_)
 ·have hE:VG s=(⟨true,a,d⟩,s3):=by rw[hL,if_pos (ht.symm.trans g4)]
  refine cX ?_;refine yJ [(r,.box 117 (cR s2))] Tryz.call68 w3 ?_;refine yK ?_;refine lU ?_;refine nH ?_;refine gT ?_;exact aD aE ⟨by rw[hE];rfl,by rw[hE]⟩ aA
 have hE:VG s=(⟨true,a,-1⟩,s2):=by rw[hL,if_neg (by rw[←ht];exact fun h=>by rw[show((c:Int) !=0)=false from g4]at h;cases h)]
 refine nH ?_;refine gT ?_;exact aD aE ⟨by rw[hE];rfl,by rw[hE]⟩ aA
theorem aDQ(d:Int)(c:Nat)(hc:c≤100000):SCall Tryz.prog 207 [.ro 1 [[.int .i64 d]] .any,.int .i64 c] [] (fun x σ=>∃r,x=.own r 0 (List.replicate c d).length∧σ=[(r,.arr 3 1 ((List.replicate c d).map aK))]):=by
 refine(vM (v:=.int .i64 d) rfl c hc).mono fun x σ h=> ?_
 rw[List.length_replicate,List.map_replicate];exact h
theorem XV(r:Nat)(s:St)(hs:SOk s):SCall Tryz.prog 265 [.ptr r 0] [(r,.box 117 (cR s))]
  (fun x σ=>∃q,Nq q r∧x=.own q 0 (yD s).1.length∧σ=[(q,.arr 3 1 ((yD s).1.map aK)),(r,.box 117 (cR (yD s).2))]):=by
 have w1:=jL r s hs;have k1:=iF s hs;have kb:=vN s;have hR:yD s=SI (gH s).1 (gH s).2 []:=rfl;generalize gH s=p at w1 k1 kb hR;obtain⟨n,s1⟩:=p;dsimp only at w1 k1 kb hR;refine bS 36 [0,2,3,4,5,6,17,25] Tryz.func265 ?_;refine oK ?_;refine bP 3 3 1 (by decide) rfl (by decide) (bN fun q0 hq0=> ?_);repeat rcases hq0 with⟨_,hq0⟩
 refine fV ?_;refine cw [(r,.box 117 (cR s))] Tryz.call68 w1 rfl aC aA ?_;rintro _ σ' ⟨rfl,rfl⟩ h8;refine eY ?_;refine lp (β:=Nat×Nat×St×List Int) (fun b=>⟨[(0,.ptr r 0),(2,.ro 0 [] .nil),(3,.own b.1 0 b.2.2.2.length),(4,.int .i64 (b.2.1:Nat))],[(b.1,.arr 3 1 (b.2.2.2.map aK)),(r,.box 117 (cR b.2.2.1))]⟩) (fun b=>Nq b.1 r∧SOk b.2.2.1∧32*b.2.1+b.2.2.2.length≤137438953472∧yD s=SI b.2.1 b.2.2.1 b.2.2.2) (fun b=>b.2.1) (q0,n,s1,[]) aJ ⟨by show Nq q0 r;(exact cA),k1,by show 32*n+0≤137438953472;omega,by rw[hR]⟩ ?_;rintro⟨q1,m,⟨l2,b2⟩,acc⟩ ⟨hq1,hs2,hmb,hL⟩;dsimp only at hq1 hs2 hmb hL⊢;unfold cR;dsimp only;refine cX ?_;refine DT ?_;refine uV ?_;refine aB rfl (fun g3=> ?_) (fun g3=> ?_)
 ·obtain rfl:b2=false:=by cases b2 with|false=>rfl|true=>simp at g3
  obtain⟨m,rfl⟩:∃k,m=k+1:=⟨m-1,by simp at g3;omega⟩
  have wn:=jL r (l2,false) hs2;have kn:=iF (l2,false) hs2;have wk:=LY r _ kn;have kk:=xK _ kn;have hl:SI (m+1) (l2,false) acc=if 32<(gH (l2,false)).1 then([],((vJ (gH (l2,false)).2).2.1,true))else SI m (vJ (gH (l2,false)).2).2 (acc++List.replicate (gH (l2,false)).1 (vJ (gH (l2,false)).2).1):=by rw[SI];rfl
  rw[hl]at hL;generalize gH (l2,false)=p2 at wn kn wk kk hL;obtain⟨c,s3⟩:=p2;dsimp only at wn kn wk kk hL;generalize vJ s3=p3 at wk kk hL;obtain⟨d,l4,b4⟩:=p3;dsimp only at wk kk hL;refine cX ?_;refine cw [(r,.box 117 (cR (l2,false)))] Tryz.call68 wn rfl aC aA ?_;rintro _ σ' ⟨rfl,rfl⟩ h21;refine rM ?_;refine cw [(r,.box 117 (cR s3))] Tryz.call259 wk rfl aC aA ?_;rintro _ σ' ⟨rfl,rfl⟩ h23;refine eY ?_;unfold cR;dsimp only;refine fV ?_;refine lo (iB (E rfl) (E rfl)) rfl ?_;refine iI ?_;refine aB rfl (fun g7=> ?_) (fun g7=> ?_)
  ·have hE:yD s=([],(l4,true)):=by rw[hL,if_pos (by simp at g7;omega)]
   refine qJ ?_;refine lU ?_;refine rH ?_;refine bP 2 3 1 (by decide) rfl (by decide) (bN fun q2 hq2=> ?_);repeat rcases hq2 with⟨_,hq2⟩
   refine aI ?_;exact aD aE ⟨q2,by(exact cA),by rw[hE];rfl,by rw[hE]⟩ aA
  have hc:c≤32:=by simp at g7;omega
  rw[if_neg (by omega)]at hL;refine dG ?_;refine eC fun r31 h31=> ?_;intros
  refine lo (aF (E rfl)) rfl ?_;refine qN Tryz.call207 (aDQ d c (by omega)) rfl bM kA ?_;rintro _ σ' ⟨r33,rfl,rfl⟩ h33
  replace h33:=cB h33;repeat rcases h33 with⟨_,h33⟩
  apply aU;exact bD;refine jQ ((acc++List.replicate c d).map aK) (acc++List.replicate c d).length ?_;refine bE fun r34 h34=> ?_;intros
  refine gZ ?_;refine tF ?_;rw[show((m+1:Nat):Int)-1=(m:Nat) by omega];refine cM ?_;refine⟨(r34,m,(l4,b4),acc++List.replicate c d),⟨by show Nq r34 r;(exact cA),kk,by show 32*m+(acc++List.replicate c d).length≤137438953472;simp;omega,hL⟩,Nat.lt_succ_self _, ?_⟩;dsimp only;exact aJ
 have hz:SI m (l2,b2) acc=(acc,(l2,b2)):=by cases m with|zero=>rfl|succ m=>(cases b2 with|true=>rfl|false=>(simp at g3<;>omega))
 have hE:yD s=(acc,(l2,b2)):=by rw[hL,hz]
 refine eW ?_;exact aD aE ⟨q1,by(exact cA),by rw[hE];rfl,by rw[hE]⟩ aA
theorem JN(r:Nat):Gets Tryz.prog 259 [.ptr r 0] [] (fun s=>[(r,.box 117 (cR s))]) (fun n=>.int .i64 n) vJ:=⟨Tryz.call259,xK,fun s hs=>LY r s hs⟩
theorem PV(r:Nat):Gets Tryz.prog 68 [.ptr r 0] [] (fun s=>[(r,.box 117 (cR s))]) (fun n=>.int .i64 n) XS:=⟨Tryz.call68,aBj,fun s hs=>jL r s hs⟩
theorem aDR(r:Nat)(s:St)(hs:SOk s):SCall Tryz.prog 168 [.ptr r 0] [(r,.box 117 (cR s))]
  (fun x σ=>x=.agg (dF (XR s).1)∧σ=[(r,.box 117 (cR (XR s).2))]):=by
 have w1:=oB r s hs;have k1:=mX s hs;have w2:=zT (JN r) _ k1;have k2:=rU xK _ k1;have w3:=zT (JN r) _ k2;have hT:XR s=(⟨(fS vJ (kW s).2).1,(fS vJ (fS vJ (kW s).2).2).1⟩,(fS vJ (fS vJ (kW s).2).2).2):=rfl;rw[hT];generalize(kW s).2=s1 at w1 w2 w3;generalize fS vJ s1=p2 at w2 w3;obtain⟨a,s2⟩:=p2;dsimp only at w2 w3;generalize fS vJ s2=p3 at w3;obtain⟨c,s3⟩:=p3;dsimp only at w3;refine bS 14 [0,2] Tryz.func168 ?_;refine cZ ?_;refine iO fun r2 h2=> ?_;intros
 refine oR ?_;refine cw [(r,.box 117 (cR s))] Tryz.call67 w1 rfl aC aA ?_;rintro _ σ' ⟨rfl,rfl⟩ h4;refine jG ?_;refine kQ ?_;refine NV ?_;refine cw [(r,.box 117 (cR s1))] Tryz.call171 w2 rfl aC aA ?_;rintro _ σ' ⟨q8,hq8,rfl,rfl⟩ h8;simp only[aO,aT,and_true]at hq8;have k8:=aV h8;repeat rcases k8 with⟨_,k8⟩
 apply aU;exact bD;refine iW (j:=8) rfl bK (aN bC (by simp)) ?_;refine HI ?_;refine NV ?_;refine cw [(r,.box 117 (cR s2))] Tryz.call171 w3 rfl aC aA ?_;rintro _ σ' ⟨q12,hq12,rfl,rfl⟩ h12;simp only[aO,aT,and_true]at hq12;have k12:=aV h12;repeat rcases k12 with⟨_,k12⟩
 apply aU;exact bD;refine iW (j:=12) rfl bK (aN bC (by simp)) ?_;refine lE ?_;refine gT ?_;exact aD aE ⟨by rfl,rfl⟩ aA
theorem XW(r:Nat)(s:St)(hs:SOk s):SCall Tryz.prog 170 [.ptr r 0] [(r,.box 117 (cR s))]
  (fun x σ=>x=.agg (eT (ZO s).1)∧σ=[(r,.box 117 (cR (ZO s).2))]):=by
 have w1:=LZ r s hs;have k1:=BS s hs;have w2:=LZ r _ k1;have k2:=BS _ k1;have w3:=oB r _ k2;have w4:=jL r _ (mX _ k2);refine bS 15 [0,2,3] Tryz.func170 ?_;refine cZ ?_;refine iO fun r2 h2=> ?_;intros
 refine oR ?_;refine cw [(r,.box 117 (cR s))] Tryz.call260 w1 rfl aC aA ?_;rintro _ σ' ⟨rfl,rfl⟩ h5;refine xQ ?_;refine yJ [(r,.box 117 (cR (zM s).2))] Tryz.call260 w2 ?_;refine lE ?_;refine iO fun r3 h3=> ?_;intros
 refine mT ?_;refine cw [(r,.box 117 (cR (zM (zM s).2).2))] Tryz.call67 w3 rfl aC aA ?_;rintro _ σ' ⟨rfl,rfl⟩ h10;refine jG ?_;refine fV ?_;refine yJ [(r,.box 117 (cR (kW (zM (zM s).2).2).2))] Tryz.call68 w4 ?_;refine yK ?_;refine lU ?_;refine nH ?_;refine gT ?_;exact aD aE ⟨by rfl,rfl⟩ aA
theorem XX(r:Nat)(s:St)(hs:SOk s):SCall Tryz.prog 174 [.ptr r 0] [(r,.box 117 (cR s))]
  (fun x σ=>x=.agg (eU (ZP s).1)∧σ=[(r,.box 117 (cR (ZP s).2))]):=by
 have w1:=LY r s hs;have k1:=xK s hs;have w2:=oB r _ k1;have k2:=mX _ k1;have w3:=BT r _ k2;have ht:(((kW (vJ s).2).1:Int) !=0)=((kW (vJ s).2).1 !=0):=by rw[Bool.eq_iff_iff];simp only[bne_iff_ne,ne_eq];omega
 refine bS 11 [0,2] Tryz.func174 ?_;refine cZ ?_;refine iO fun r2 h2=> ?_;intros
 refine oR ?_;refine cw [(r,.box 117 (cR s))] Tryz.call259 w1 rfl aC aA ?_;rintro _ σ' ⟨rfl,rfl⟩ h4;refine jG ?_;refine fV ?_;refine yJ [(r,.box 117 (cR (vJ s).2))] Tryz.call67 w2 ?_;refine lo (dV (E rfl) (E rfl)) rfl ?_;rw[ht];refine lo (aF (E rfl)) rfl ?_;refine yJ [(r,.box 117 (cR (kW (vJ s).2).2))] Tryz.call264 w3 ?_;refine lE ?_;refine gT ?_;exact aD aE ⟨by rfl,rfl⟩ aA
theorem XY(r:Nat)(s:St)(hs:SOk s):SCall Tryz.prog 176 [.ptr r 0] [(r,.box 117 (cR s))]
  (fun x σ=>x=.agg (eA (ZQ s).1)∧σ=[(r,.box 117 (cR (ZQ s).2))]):=by
 have w1:=LZ r s hs;have k1:=BS s hs;have w3:=oB r _ k1;have w4:=jL r _ (mX _ k1);refine bS 13 [0,2,3] Tryz.func176 ?_;refine cZ ?_;refine iO fun r2 h2=> ?_;intros
 refine oR ?_;refine yJ [(r,.box 117 (cR s))] Tryz.call260 w1 ?_;refine lE ?_;refine iO fun r3 h3=> ?_;intros
 refine mT ?_;refine cw [(r,.box 117 (cR (zM s).2))] Tryz.call67 w3 rfl aC aA ?_;rintro _ σ' ⟨rfl,rfl⟩ h8;refine jG ?_;refine fV ?_;refine yJ [(r,.box 117 (cR (kW (zM s).2).2))] Tryz.call68 w4 ?_;refine yK ?_;refine lU ?_;refine nH ?_;refine gT ?_;exact aD aE ⟨by rfl,rfl⟩ aA
theorem aHq(ls:List Int):VLe (.agg [.ro 1 (ls.map aK) .any,.ro 0 [] .nil]) (.agg (dJ ⟨ls,[]⟩)):=by
 refine VLe.agg rfl fun j a a' ha ha'=> ?_
 match j with
 |0=>cases ha;cases ha';exact VLe.refl _
 |1=>cases ha;cases ha';exact VLe.empty
 | _ +2=>cases ha
theorem aDS(r:Nat)(s:St)(hs:SOk s):SCall Tryz.prog 181 [.ptr r 0] [(r,.box 117 (cR s))]
  (fun x σ=>x=.agg (dJ (LQ s).1)∧σ=[(r,.box 117 (cR (LQ s).2))]):=by
 have w1:=jL r s hs;have k1:=iF s hs;have w2:=XV r _ k1;have k2:=aBh _ k1;have hC:LQ s=if(yD (gH s).2).2.2=true then(⟨(yD (gH s).2).1,[]⟩,(yD (gH s).2).2)else(⟨(yD (gH s).2).1,(lH (yD (gH s).2).2.1).1⟩,uI (yD (gH s).2).2 (lH (yD (gH s).2).2.1).2.1 ((lH (yD (gH s).2).2.1).2.2==0)):=rfl
 generalize yD (gH s).2=p at w2 k2 hC;obtain⟨ls,l2,b2⟩:=p;dsimp only at w2 k2 hC;have w3:=aAW l2 (by have:=k2.1;dsimp only at this;omega) k2.2;have w4:=fun n ok=>zS r (l2,b2) k2 n ok
 generalize lH l2=g at w3 hC;obtain⟨l,n,e⟩:=g;dsimp only at w3 hC;have w5:=w4 n (e==0);refine bS 34 [0,2,3,4,5,6,15] Tryz.func181 ?_;refine cZ ?_;refine iO fun r2 h2=> ?_;intros
 refine oR ?_;refine cw [(r,.box 117 (cR s))] Tryz.call68 w1 rfl aC aA ?_;rintro _ σ' ⟨rfl,rfl⟩ h8;refine jG ?_;refine fV ?_;refine cw [(r,.box 117 (cR (gH s).2))] Tryz.call265 w2 rfl aC aA ?_;rintro _ σ' ⟨q,hq,rfl,rfl⟩ h10;have k10:=aV h10;repeat rcases k10 with⟨_,k10⟩
 apply aU;exact bD;refine iW (j:=10) rfl bK (aN bC (by simp)) ?_;refine lE ?_;refine iO fun r3 h3=> ?_;intros
 refine gT ?_;unfold cR;dsimp only;refine fV ?_;refine gY ?_;refine iI ?_;refine aB rfl (fun g3=> ?_) (fun g3=> ?_)
 ·have hE:LQ s=(⟨ls,[]⟩,(l2,true)):=by rw[hC,g3];rfl
  rw[g3];refine nH ?_;refine iR (eE (j:=16) rfl (aHq ls)) ?_;refine gT ?_;exact aD aE ⟨by rw[hE];rfl,by rw[hE]⟩ aA
 have hE:LQ s=(⟨ls,l⟩,uI (l2,false) n (e==0)):=by rw[hC,g3];rfl
 rw[g3]at w5⊢;refine cX ?_;refine gY ?_;refine cw [] Tryz.call266 w3 rfl aC aA ?_;rintro _ σ' ⟨q22,rfl,rfl⟩ h22
 replace h22:=fY h22;repeat rcases h22 with⟨_,h22⟩
 refine OF ?_;refine oF ?_;refine kQ ?_;refine lo (aF (E rfl)) rfl ?_;refine lo (cN (E rfl) (E rfl)) rfl ?_;refine cw [(r,.box 117 (cR (l2,false)))] Tryz.call66 w5 rfl aC aA ?_;rintro _ σ' ⟨rfl,rfl⟩ h30;refine jG ?_;refine fV ?_;refine iW (j:=31) rfl bK (aN bC (by simp)) ?_;refine yK ?_;refine lU ?_;refine nH ?_;refine gT ?_;exact aD aE ⟨by rw[hE];rfl,by rw[hE]⟩ aA
theorem aDT{r c d:Nat}{before:Bool}(hc:Nq r c)(hd:Nq r d)(hcd:Nq c d):Gets Tryz.prog 262 [] [.ptr c 0,.ptr d 0] (fun s=>[(r,.box 117 (cR s)),(c,.box 4 [.bool before]),(d,.box 114 [.ptr r 0])]) (fun x=>.agg (gO x)) (tbN before):=by
 refine⟨Tryz.call262,aFP before,fun s hs=> ?_⟩;have w1:=oB r s hs;have w2:=JM r _ (mX s hs);have w3:=JM r s hs;refine bS 8 [0,1,2,3] Tryz.func262 ?_;refine cZ ?_;refine iO fun r2 h2=> ?_;intros
 refine iI ?_;rcases before with _ | _
 ·refine mJ ?_;refine tG ?_;refine pO ?_;refine cZ ?_;refine tG ?_;refine cw [(r,.box 117 (cR s))] Tryz.call263 w3 rfl aC aA ?_;rintro _ σ' ⟨rfl,rfl⟩ h7;apply aU;exact bD;refine gT ?_;exact aD aE ⟨by rfl,rfl⟩ aA
 ·refine mJ ?_;refine tG ?_;refine pO ?_;refine cZ ?_;refine tG ?_;refine cw [(r,.box 117 (cR s))] Tryz.call67 w1 rfl aC aA ?_;rintro _ σ' ⟨rfl,rfl⟩ h5;refine xD ?_;refine cZ ?_;refine tG ?_;refine yJ [(r,.box 117 (cR (kW s).2))] Tryz.call263 w2 ?_;refine gT ?_;exact aD aE ⟨by rfl,rfl⟩ aA
theorem EQ(r:Nat)(s:St)(hs:SOk s)(before:Bool):SCall Tryz.prog 172 [.ptr r 0,.bool before] [(r,.box 117 (cR s))]
  (fun x σ=>x=.agg (gO (PF before s).1)∧σ=[(r,.box 117 (cR (PF before s).2))]):=by
 have w1:=fun(c d:Nat) hc hd hcd=>aDP (r:=r) (c:=c) (d:=d) (before:=before) hc hd hcd (aDT hc hd hcd) s hs
 have hL:PF before s=((fS (tbN before) s).1.headD HR,(fS (tbN before) s).2):=rfl;generalize fS (tbN before) s=p at w1 hL;obtain⟨l,s2⟩:=p;dsimp only at w1 hL;refine bS 16 [0,1,2,3,4,5,11] Tryz.func172 ?_;refine cZ ?_;refine gQ fun r2 h2=> ?_;intros
 refine gQ fun r3 h3=> ?_;intros
 refine iO fun r4 h4=> ?_;intros
 refine pO ?_;refine cZ ?_;refine tG ?_;refine aK8 ?_;refine cw [(r,.box 117 (cR s)),(r3,.box 4 [.bool before]),(r2,.box 114 [.ptr r 0])] Tryz.call261 (w1 r3 r2 (by(exact cA)) (by(exact cA)) (by(exact cA))) rfl aC aA ?_;rintro _ σ' ⟨q8,hq8,rfl,rfl⟩ h8;simp only[aO,aT,and_true]at hq8;repeat rcases hq8 with⟨_,hq8⟩
 have k8:=aV h8;repeat rcases k8 with⟨_,k8⟩
 refine rM ?_;refine rL ?_;refine aB rfl (fun g2=> ?_) (fun g2=> ?_)
 ·obtain rfl:l=[]:=by cases l with|nil=>rfl|cons x t=>(simp at g2<;>omega)
  have hE:PF before s=(HR,s2):=hL;refine cZ ?_;refine lE ?_;refine gT ?_;exact aD aE ⟨by rw[hE];rfl,by rw[hE]⟩ aA
 obtain⟨x,t,rfl⟩:∃x t,l=x::t:=by cases l with|nil=>simp at g2|cons x t=>exact⟨x,t,rfl⟩
 have hE:PF before s=(x,s2):=hL;have hx:(x::t)[(0:Int).toNat]? =some x:=rfl;have hpos:0<(x::t).length:=Nat.succ_pos _;refine cX ?_;refine yV ?_;refine gT ?_;exact aD aE ⟨by rw[hE];rfl,by rw[hE]⟩ aA
theorem aDU{r c:Nat}(hc:Nq r c):Gets Tryz.prog 178 [] [.ptr c 0] (fun s=>[(r,.box 117 (cR s)),(c,.box 114 [.ptr r 0])]) (fun x=>.agg (eQ x)) eeN:=by
 refine⟨Tryz.call178,aFR,fun s hs=> ?_⟩;have w1:=PU r s hs;have w2:=zT (PV r) _ (PT s hs);have hE:eeN s=(⟨(NB s).1,(fS XS (NB s).2).1⟩,(fS XS (NB s).2).2):=rfl;rw[hE];generalize NB s=p at w1 w2;obtain⟨o,s2⟩:=p;dsimp only at w1 w2;generalize fS XS s2=p at w2;obtain⟨l,s3⟩:=p;dsimp only at w2;refine bS 9 [0,1] Tryz.func178 ?_;refine cZ ?_;refine iO fun r1 h1=> ?_;intros
 refine iI ?_;refine fJ [(0,true),(2,true),(3,true),(4,true),(1,false),(5,false),(6,true),(7,false)] ?_;refine z74 ?_;refine z74 ?_;refine z74 ?_;refine aK9 ?_;refine pD [(r,.box 117 (cR s))] rfl Tryz.call179 w1 rfl aC aA eM ?_;rintro _ σ' ⟨rfl,rfl⟩ h3;apply bQ;exact bD;refine pD [(r,.box 117 (cR s2))] rfl Tryz.call171 w2 rfl aC aA eM ?_;rintro _ σ' ⟨q7,hq7,rfl,rfl⟩ h7;simp only[aO,aT,and_true]at hq7;have k7:=aV h7;repeat rcases k7 with⟨_,k7⟩
 apply bQ;exact bD;refine z94 ?_;refine z95 ?_;refine CC ?_;refine an ?_;refine dZ (kT (r:=r1) (q:=q7) cE bK (.cons (.refl _) (.cons (aN bC (by simp)) .nil))) ?_;refine aI ?_;exact aD aE ⟨by rfl,rfl⟩ aA
theorem aDV{r c:Nat}(hc:Nq r c):Gets Tryz.prog 183 [] [.ptr c 0] (fun s=>[(r,.box 117 (cR s)),(c,.box 114 [.ptr r 0])]) (fun x=>.agg (eO x)) ddN:=by
 refine⟨Tryz.call183,aBn,fun s hs=> ?_⟩;have w1:=PU r s hs;have w2:=aBo r _ (PT s hs);have hE:ddN s=(⟨(NB s).1,(zM (NB s).2).1⟩,(zM (NB s).2).2):=rfl;rw[hE];generalize NB s=p at w1 w2;obtain⟨o,s2⟩:=p;dsimp only at w1 w2;generalize zM s2=p at w2;obtain⟨l,s3⟩:=p;dsimp only at w2;refine bS 7 [0,1] Tryz.func183 ?_;refine cZ ?_;refine iO fun r1 h1=> ?_;intros
 refine iI ?_;refine fJ [(0,true),(2,true),(1,false),(3,false),(4,true),(5,false)] ?_;refine z74 ?_;refine z74 ?_;refine pD [(r,.box 117 (cR s))] rfl Tryz.call179 w1 rfl aC aA eM ?_;rintro _ σ' ⟨rfl,rfl⟩ h3;apply bQ;exact bD;refine pD [(r,.box 117 (cR s2))] rfl Tryz.call184 w2 rfl aC aA eM ?_;rintro _ σ' ⟨q5,hq5,rfl,rfl⟩ h5;have k5:=aV h5;repeat rcases k5 with⟨_,k5⟩
 apply bQ;exact bD;refine z94 ?_;refine z95 ?_;refine CC ?_;refine an ?_;refine dZ (kT (r:=r1) (q:=q5) cE bK (.cons (.refl _) (.cons (aN bC (by simp)) .nil))) ?_;refine aI ?_;exact aD aE ⟨by rfl,rfl⟩ aA
theorem aDW(r:Nat):Gets Tryz.prog 168 [.ptr r 0] [] (fun s=>[(r,.box 117 (cR s))]) (fun x=>.agg (dF x)) XR:=⟨Tryz.call168,aFO,fun s hs=>aDR r s hs⟩
theorem aDX(r:Nat):Gets Tryz.prog 170 [.ptr r 0] [] (fun s=>[(r,.box 117 (cR s))]) (fun x=>.agg (eT x)) ZO:=⟨Tryz.call170,aBk,fun s hs=>XW r s hs⟩
theorem aDY(r:Nat):Gets Tryz.prog 174 [.ptr r 0] [] (fun s=>[(r,.box 117 (cR s))]) (fun x=>.agg (eU x)) ZP:=⟨Tryz.call174,aBl,fun s hs=>XX r s hs⟩
theorem aDZ(r:Nat):Gets Tryz.prog 176 [.ptr r 0] [] (fun s=>[(r,.box 117 (cR s))]) (fun x=>.agg (eA x)) ZQ:=⟨Tryz.call176,aBm,fun s hs=>XY r s hs⟩
theorem aD0(r:Nat):Gets Tryz.prog 181 [.ptr r 0] [] (fun s=>[(r,.box 117 (cR s))]) (fun x=>.agg (dJ x)) LQ:=⟨Tryz.call181,aBi,fun s hs=>aDS r s hs⟩
theorem SM(r m:Nat)(hrm:Nq r m)(s:St)(hs:SOk s)(M:Md)(no:Nat):SCall Tryz.prog 69 [.ptr r 0,.ptr m 0,.int .i64 no] [(r,.box 117 (cR s)),(m,.box 33 (aZ M))]
  (fun x σ=>x=.tup []∧σ=[(r,.box 117 (cR (uA no M s).2)),(m,.box 33 (aZ (uA no M s).1))]):=by
 obtain⟨ty,im,fn,tb,me,gl,ex,el,co,da⟩:=M;refine bS 94 [0,1,2,3,6,10,19,28,37,44,51,60,69,77,86] Tryz.func69 ?_;unfold aZ;dsimp only;refine cZ ?_;refine gQ fun r3 h3=> ?_;intros
 refine oR ?_;refine rN ?_;refine aB rfl (fun g3=> ?_) (fun g3=> ?_)
 ·obtain rfl:no=1:=by simp at g3;omega
  have hE:uA 1 ⟨ty,im,fn,tb,me,gl,ex,el,co,da⟩ s=(⟨(fS XR s).1,im,fn,tb,me,gl,ex,el,co,da⟩,(fS XR s).2):=rfl;refine cX ?_;refine tG ?_;refine tG ?_;refine NV ?_;refine cw [(r,.box 117 (cR s))] Tryz.call167 (aDI (aDW r) s hs) rfl aC aA ?_;rintro _ σ' ⟨q16,hq16,rfl,rfl⟩ h16;simp only[aO,aT,and_true]at hq16;have k16:=aV h16;repeat rcases k16 with⟨_,k16⟩
  apply aU;exact bD;refine iW (j:=16) rfl bK (aN bC (by simp)) ?_;refine lK ?_;refine cL ?_;exact aD aE ⟨by rfl,by rw[hE]⟩ aA
 refine dE ?_;refine aB rfl (fun g5=> ?_) (fun g5=> ?_)
 ·obtain rfl:no=2:=by simp at g5;omega
  have hE:uA 2 ⟨ty,im,fn,tb,me,gl,ex,el,co,da⟩ s=(⟨ty,(fS ZO s).1,fn,tb,me,gl,ex,el,co,da⟩,(fS ZO s).2):=rfl;refine cX ?_;refine tG ?_;refine tG ?_;refine NV ?_;refine cw [(r,.box 117 (cR s))] Tryz.call169 (aDJ (aDX r) s hs) rfl aC aA ?_;rintro _ σ' ⟨q25,hq25,rfl,rfl⟩ h25;simp only[aO,aT,and_true]at hq25;have k25:=aV h25;repeat rcases k25 with⟨_,k25⟩
  apply aU;exact bD;refine iW (j:=25) rfl bK (aN bC (by simp)) ?_;refine lK ?_;refine cL ?_;exact aD aE ⟨by rfl,by rw[hE]⟩ aA
 refine dE ?_;refine aB rfl (fun g7=> ?_) (fun g7=> ?_)
 ·obtain rfl:no=3:=by simp at g7;omega
  have hE:uA 3 ⟨ty,im,fn,tb,me,gl,ex,el,co,da⟩ s=(⟨ty,im,(fS XS s).1,tb,me,gl,ex,el,co,da⟩,(fS XS s).2):=rfl;refine cX ?_;refine tG ?_;refine tG ?_;refine NV ?_;refine cw [(r,.box 117 (cR s))] Tryz.call171 (zT (PV r) s hs) rfl aC aA ?_;rintro _ σ' ⟨q34,hq34,rfl,rfl⟩ h34;simp only[aO,aT,and_true]at hq34;have k34:=aV h34;repeat rcases k34 with⟨_,k34⟩
  apply aU;exact bD;refine iW (j:=34) rfl bK (aN bC (by simp)) ?_;refine lK ?_;refine cL ?_;exact aD aE ⟨by rfl,by rw[hE]⟩ aA
 refine dE ?_;refine aB rfl (fun g9=> ?_) (fun g9=> ?_)
 ·obtain rfl:no=4:=by simp at g9;omega
  have hE:uA 4 ⟨ty,im,fn,tb,me,gl,ex,el,co,da⟩ s=(⟨ty,im,fn,(PF true s).1,me,gl,ex,el,co,da⟩,(PF true s).2):=rfl;refine cX ?_;refine tG ?_;refine yJ [(r,.box 117 (cR s))] Tryz.call172 (EQ r s hs true) ?_;refine lK ?_;refine cL ?_;exact aD aE ⟨by rfl,by rw[hE]⟩ aA
 refine dE ?_;refine aB rfl (fun g11=> ?_) (fun g11=> ?_)
 ·obtain rfl:no=5:=by simp at g11;omega
  have hE:uA 5 ⟨ty,im,fn,tb,me,gl,ex,el,co,da⟩ s=(⟨ty,im,fn,tb,(PF false s).1,gl,ex,el,co,da⟩,(PF false s).2):=rfl;refine cX ?_;refine tG ?_;refine yJ [(r,.box 117 (cR s))] Tryz.call172 (EQ r s hs false) ?_;refine lK ?_;refine cL ?_;exact aD aE ⟨by rfl,by rw[hE]⟩ aA
 refine dE ?_;refine aB rfl (fun g13=> ?_) (fun g13=> ?_)
 ·obtain rfl:no=6:=by simp at g13;omega
  have hE:uA 6 ⟨ty,im,fn,tb,me,gl,ex,el,co,da⟩ s=(⟨ty,im,fn,tb,me,(fS ZP s).1,ex,el,co,da⟩,(fS ZP s).2):=rfl;refine cX ?_;refine tG ?_;refine tG ?_;refine NV ?_;refine cw [(r,.box 117 (cR s))] Tryz.call173 (aDK (aDY r) s hs) rfl aC aA ?_;rintro _ σ' ⟨q57,hq57,rfl,rfl⟩ h57;simp only[aO,aT,and_true]at hq57;have k57:=aV h57;repeat rcases k57 with⟨_,k57⟩
  apply aU;exact bD;refine iW (j:=57) rfl bK (aN bC (by simp)) ?_;refine lK ?_;refine cL ?_;exact aD aE ⟨by rfl,by rw[hE]⟩ aA
 refine dE ?_;refine aB rfl (fun g15=> ?_) (fun g15=> ?_)
 ·obtain rfl:no=7:=by simp at g15;omega
  have hE:uA 7 ⟨ty,im,fn,tb,me,gl,ex,el,co,da⟩ s=(⟨ty,im,fn,tb,me,gl,(fS ZQ s).1,el,co,da⟩,(fS ZQ s).2):=rfl;refine cX ?_;refine tG ?_;refine tG ?_;refine NV ?_;refine cw [(r,.box 117 (cR s))] Tryz.call175 (aDL (aDZ r) s hs) rfl aC aA ?_;rintro _ σ' ⟨q66,hq66,rfl,rfl⟩ h66;simp only[aO,aT,and_true]at hq66;have k66:=aV h66;repeat rcases k66 with⟨_,k66⟩
  apply aU;exact bD;refine iW (j:=66) rfl bK (aN bC (by simp)) ?_;refine lK ?_;refine cL ?_;exact aD aE ⟨by rfl,by rw[hE]⟩ aA
 refine dE ?_;refine aB rfl (fun g17=> ?_) (fun g17=> ?_)
 ·obtain rfl:no=9:=by simp at g17;omega
  have hE:uA 9 ⟨ty,im,fn,tb,me,gl,ex,el,co,da⟩ s=(⟨ty,im,fn,tb,me,gl,ex,(fS eeN s).1,co,da⟩,(fS eeN s).2):=rfl;refine cX ?_;refine tG ?_;refine WX ?_;refine cw [(r,.box 117 (cR s)),(r3,.box 114 [.ptr r 0])] Tryz.call177 (aDN (r:=r) (c:=r3) (by(exact cA)) (aDU (by(exact cA))) s hs) rfl aC aA ?_;rintro _ σ' ⟨q74,hq74,rfl,rfl⟩ h74;simp only[aO,aT,and_true]at hq74;repeat rcases hq74 with⟨_,hq74⟩
  have k74:=aV h74;repeat rcases k74 with⟨_,k74⟩
  apply aU;exact bD;refine iW (j:=74) rfl bK (aN bC (by simp)) ?_;refine lK ?_;refine cL ?_;exact aD aE ⟨by rfl,by rw[hE]⟩ aA
 refine dE ?_;refine aB rfl (fun g19=> ?_) (fun g19=> ?_)
 ·obtain rfl:no=10:=by simp at g19;omega
  have hE:uA 10 ⟨ty,im,fn,tb,me,gl,ex,el,co,da⟩ s=(⟨ty,im,fn,tb,me,gl,ex,el,(fS LQ s).1,da⟩,(fS LQ s).2):=rfl;refine cX ?_;refine tG ?_;refine tG ?_;refine NV ?_;refine cw [(r,.box 117 (cR s))] Tryz.call180 (aDM (aD0 r) s hs) rfl aC aA ?_;rintro _ σ' ⟨q83,hq83,rfl,rfl⟩ h83;simp only[aO,aT,and_true]at hq83;have k83:=aV h83;repeat rcases k83 with⟨_,k83⟩
  apply aU;exact bD;refine iW (j:=83) rfl bK (aN bC (by simp)) ?_;refine lK ?_;refine cL ?_;exact aD aE ⟨by rfl,by rw[hE]⟩ aA
 refine dE ?_;refine aB rfl (fun g21=> ?_) (fun g21=> ?_)
 ·obtain rfl:no=11:=by simp at g21;omega
  have hE:uA 11 ⟨ty,im,fn,tb,me,gl,ex,el,co,da⟩ s=(⟨ty,im,fn,tb,me,gl,ex,el,co,(fS ddN s).1⟩,(fS ddN s).2):=rfl;refine cX ?_;refine tG ?_;refine WX ?_;refine cw [(r,.box 117 (cR s)),(r3,.box 114 [.ptr r 0])] Tryz.call182 (aDO (r:=r) (c:=r3) (by(exact cA)) (aDV (by(exact cA))) s hs) rfl aC aA ?_;rintro _ σ' ⟨q91,hq91,rfl,rfl⟩ h91;simp only[aO,aT,and_true]at hq91;repeat rcases hq91 with⟨_,hq91⟩
  have k91:=aV h91;repeat rcases k91 with⟨_,k91⟩
  apply aU;exact bD;refine iW (j:=91) rfl bK (aN bC (by simp)) ?_;refine lK ?_;refine cL ?_;exact aD aE ⟨by rfl,by rw[hE]⟩ aA
 have e1:no≠1:=by(simp at g3;omega)
 have e2:no≠2:=by(simp at g5;omega)
 have e3:no≠3:=by(simp at g7;omega)
 have e4:no≠4:=by(simp at g9;omega)
 have e5:no≠5:=by(simp at g11;omega)
 have e6:no≠6:=by(simp at g13;omega)
 have e7:no≠7:=by(simp at g15;omega)
 have e9:no≠9:=by(simp at g17;omega)
 have e10:no≠10:=by(simp at g19;omega)
 have e11:no≠11:=by(simp at g21;omega)
 have hE:uA no ⟨ty,im,fn,tb,me,gl,ex,el,co,da⟩ s=(⟨ty,im,fn,tb,me,gl,ex,el,co,da⟩,(s.1,true)):=by unfold uA;rw[if_neg e1];rw[if_neg e2];rw[if_neg e3];rw[if_neg e4];rw[if_neg e5];rw[if_neg e6];rw[if_neg e7];rw[if_neg e9];rw[if_neg e10];rw[if_neg e11]
 refine cZ ?_;refine tG ?_;refine lK ?_;refine cL ?_;exact aD aE ⟨by rfl,by rw[hE]⟩ aA
theorem MA{s:St}(h:SOk s):lC (zM s).1:=by
 have h1:=iF s h;unfold zM;dsimp only;split
 ·exact⟨by simp,by simp⟩
 ·exact⟨by have:=h1.1;simp;omega,fun c hc=>h1.2 c (List.mem_of_mem_take hc)⟩
theorem aBp{α:Type}{get:St→α×St}{p:α→Prop}(hk:Kp get)(hp:∀s,SOk s→p (get s).1):∀n s,SOk s→(∀x∈(jS get n s).1,p x)∧(jS get n s).1.length≤n
 |0,s,h=>⟨by simp[jS],by simp[jS]⟩
 |n+1,s,h=>by
  rw[jS];split
  ·exact⟨by simp,by simp⟩
  ·obtain⟨h1,h2⟩:=aBp hk hp n _ (hk s h);refine⟨fun x hx=> ?_,by simpa using h2⟩;rcases List.mem_cons.1 hx with rfl|hx
   ·exact hp s h
   ·exact h1 x hx
theorem ES{α:Type}{get:St→α×St}{p:α→Prop}(hk:Kp get)(hp:∀s,SOk s→p (get s).1){s:St}(h:SOk s):(∀x∈(fS get s).1,p x)∧(fS get s).1.length≤4294967296:=by
 obtain⟨h1,h2⟩:=aBp hk hp (gH s).1 _ (iF s h);exact⟨h1,Nat.le_trans h2 (Nat.le_of_lt (vN s))⟩
theorem aD1:ins0.Ok:=⟨by decide,by decide,by decide,by decide,by decide⟩
theorem aBq{l:List Nat}(hlt:∀x∈l,x<256):(fB l).1.Ok:=by
 by_cases h:(fB l).2.2=0
 ·exact(yA hlt h).1
 ·have hf:∀x n e,(lX x n e).2.2≠0→(lX x n e).1=ins0:=fun x n e h=>by
   unfold lX at h⊢;split
   ·rfl
   ·next hh=>rw[if_neg hh]at h;exact absurd rfl h
  have:(fB l).1=ins0:=by
   unfold fB at h⊢;split
   ·rfl
   ·next h1=>
    rw[if_neg h1]at h;split
    ·rfl
    ·next h2=>
     rw[if_neg h2]at h;unfold sP at h⊢;dsimp only at h⊢;repeat' split
     all_goals (first|rfl|skip)
     all_goals apply hf
     all_goals simp_all
  rw[this];exact aD1
theorem aD2{s:St}(h:SOk s):-9223372036854775808≤(NA s).1.2∧(NA s).1.2≤9223372036854775807:=by
 have h1:=aBq h.2;unfold NA;dsimp only;split
 ·exact⟨h1.2.2.1,h1.2.2.2.1⟩
 ·exact⟨h1.2.2.1,h1.2.2.2.1⟩
theorem aD3{s:St}(h:SOk s):(LQ s).1.bd.length≤100000∧∀x∈(LQ s).1.bd,x.Ok:=by
 have k1:=aBh _ (iF s h);have hC:LQ s=if(yD (gH s).2).2.2=true then(⟨(yD (gH s).2).1,[]⟩,(yD (gH s).2).2)else(⟨(yD (gH s).2).1,(lH (yD (gH s).2).2.1).1⟩,uI (yD (gH s).2).2 (lH (yD (gH s).2).2.1).2.1 ((lH (yD (gH s).2).2.1).2.2==0)):=rfl
 rw[hC];split
 ·exact⟨by simp,by simp⟩
 ·have k2:=k1.2;generalize(yD (gH s).2).2.1=l at k2⊢;by_cases he:(lH l).2.2=0
  ·obtain⟨h1,h2,h3⟩:=SF k2 he;refine⟨?_,fun x hx=>(h3 x hx).1⟩;have:=LN h1;simp only[dA,List.length_map]at this;dsimp only;omega
  ·rw[(aAU l he).1];exact⟨by simp,by simp⟩
theorem aJO(no:Nat){m:Md}(h:m.WO){s:St}(hs:SOk s):(uA no m s).1.WO:=by
 obtain⟨⟨h1,h2,h3,h4,h7⟩,h5,h6⟩:=h;unfold uA;split
 ·exact⟨⟨h1,h2,h3,h4,h7⟩,h5,h6⟩
 split
 ·have:=ES (p:=fun x:Im=>lC x.mod∧lC x.nm) aBk (fun s hs=>⟨MA hs,MA (BS s hs)⟩) hs;exact⟨⟨this.1,h2,h3,this.2,h7⟩,h5,h6⟩
 split
 ·exact⟨⟨h1,h2,h3,h4,h7⟩,h5,h6⟩
 split
 ·exact⟨⟨h1,h2,h3,h4,h7⟩,h5,h6⟩
 split
 ·exact⟨⟨h1,h2,h3,h4,h7⟩,h5,h6⟩
 split
 ·have:=ES (p:=fun g:Gl=> -9223372036854775808≤g.n∧g.n≤9223372036854775807) aBl (fun s hs=>aD2 (mX _ (xK s hs))) hs;exact⟨⟨h1,h2,h3,h4,h7⟩,h5,this.1⟩
 split
 ·have:=ES (p:=fun x:Ex=>lC x.nm) aBm (fun s hs=>MA hs) hs;exact⟨⟨h1,this.1,h3,h4,h7⟩,h5,h6⟩
 split
 ·exact⟨⟨h1,h2,h3,h4,h7⟩,h5,h6⟩
 split
 ·have:=ES (p:=fun c:Co=>c.bd.length≤100000∧∀x∈c.bd,x.Ok) aBi (fun s hs=>aD3 hs) hs;exact⟨⟨h1,h2,fun c hc=>(this.1 c hc).1,h4,h7⟩,fun c hc=>(this.1 c hc).2,h6⟩
 split
 ·have:=ES (p:=fun x:Da=>∀c∈x.bs,c<256) aBn (fun s hs=>(MA (PT s hs)).2) hs;exact⟨⟨h1,h2,h3,h4,this.1⟩,h5,h6⟩
 ·exact⟨⟨h1,h2,h3,h4,h7⟩,h5,h6⟩
theorem aJP(no:Nat)(m:Md){s:St}(hs:SOk s):SOk (uA no m s).2:=by
 unfold uA;split
 ·exact rU aFO s hs
 split
 ·exact rU aBk s hs
 split
 ·exact rU aBj s hs
 split
 ·exact aFQ true s hs
 split
 ·exact aFQ false s hs
 split
 ·exact rU aBl s hs
 split
 ·exact rU aBm s hs
 split
 ·exact rU aFR s hs
 split
 ·exact rU aBi s hs
 split
 ·exact rU aBn s hs
 ·exact hs
theorem wo0:md0.WO:=⟨⟨by simp[md0],by simp[md0],by simp[md0],by simp[md0],by simp[md0]⟩,by simp[md0],by simp[md0]⟩
theorem aD4{m:Md}{s:St}(h:(s.1.isEmpty||s.2)=true):DN m s=(m,s):=by
 unfold DN;rw[dlN,if_pos h]
theorem aD5{m:Md}{s:St}(h:s.1≠ [])(hb:s.2=false):DN m s=DN (uA (kW s).1 m (gH (kW s).2).2).1 (uA (kW s).1 m (gH (kW s).2).2).2∧(uA (kW s).1 m (gH (kW s).2).2).2.1.length<s.1.length:=by
 have h1:(uA (kW s).1 m (gH (kW s).2).2).2.1.length<s.1.length:=Nat.lt_of_le_of_lt (aFH _ _ _) (Nat.lt_of_le_of_lt (qC _) (aFy s h hb));refine⟨?_,h1⟩;unfold DN;rw[dlN,if_neg (by rw[hb];simp[h])];exact zO _ _ _ _ h1 (Nat.lt_succ_self _)
theorem aHr(b:List Nat):wU b=DN md0 (uI (b, !decide (b.take 8=headB)) 8 true):=by
 unfold wU DN;refine zO _ _ _ _ ?_ (Nat.lt_succ_self _);exact Nat.lt_succ_of_le (PH _ _ _)
theorem ET(bs ps:List Nat)(h1:bs.length≤1000000)(h2:ps.length≤1000000)(l1:∀c∈bs,c<256)(l2:∀c∈ps,c<256):SCall Tryz.prog 165 [.str (dI bs),.str (dI ps)] [] (fun x σ=>x=.bool (decide (bs.take ps.length=ps))∧σ=[]):=by
 have hq:((dI ((bs.drop 0).take (ps.length-0))).toList==(dI ps).toList)=decide (bs.take ps.length=ps):=by
  rw[List.drop_zero,Nat.sub_zero];exact pV (fun c hc=>l1 c (List.mem_of_mem_take hc)) l2
 refine bS 18 [0,1,4] Tryz.func165 ?_;refine bF ?_;by_cases hl:ps.length≤bs.length
 ·have hE:AV.bool (decide (bs.take ps.length=ps))=AV.bool (decide (bs.take ps.length=ps)):=rfl;refine fV ?_;refine lo (gM (E rfl)) rfl ?_;refine lo (aF (E rfl)) rfl ?_;refine lo (gM (E rfl)) rfl ?_;rw[jR,jR];refine lo (gC (E rfl) (E rfl)) rfl ?_;rw[decide_eq_true (show(ps.length:Int)≤bs.length by omega)];refine jU ?_;refine kG ?_;refine aGi ?_;rw[jR];refine aIS ?_;refine kG ?_;refine aIT ?_;rw[hq];refine jM ?_;exact aD aE ⟨by rw[hE];rfl,rfl⟩ aA
 ·have hE:decide (bs.take ps.length=ps)=false:=decide_eq_false fun e=>by have:=congrArg List.length e;simp at this;omega
  refine fV ?_;refine lo (gM (E rfl)) rfl ?_;refine lo (aF (E rfl)) rfl ?_;refine lo (gM (E rfl)) rfl ?_;rw[jR,jR];refine lo (gC (E rfl) (E rfl)) rfl ?_;rw[decide_eq_false (show¬(ps.length:Int)≤bs.length by omega)];refine jU ?_;refine kG ?_;refine aGi ?_;refine aIS ?_;refine kG ?_;refine aIT ?_;refine jM ?_;exact aD aE ⟨by rw[hE];rfl,rfl⟩ aA
theorem HV(bs ps:List Nat)(h1:bs.length≤1000000)(h2:ps.length≤1000000)(l1:∀c∈bs,c<256)(l2:∀c∈ps,c<256):SCall Tryz.prog 65 [.str (dI bs),.str (dI ps)] [] (fun x σ=>x=.bool (decide (bs.take ps.length=ps))∧σ=[]):=by
 refine bS 8 [0,1,4] Tryz.func65 ?_;refine lL ?_;refine lB Tryz.call165 (ET bs ps h1 h2 l1 l2) rfl aP aS ?_;refine cM ?_;exact aD aE ⟨by rfl,rfl⟩ aA
theorem EU{k k2:Rk}(a c:List Nat)(l1:∀x∈a,x<256)(l2:∀x∈c,x<256):SCall Tryz.prog 70 [.ro 1 (a.map aG) k,.ro 1 (c.map aG) k2] [] (fun x σ=>x=.bool (decide (a=c))∧σ=[]):=by
 refine bS 10 [0,1,4] Tryz.func70 ?_;refine eX ?_;refine aCW ?_;refine lo (aF (E rfl)) rfl ?_;refine aCW ?_;refine lo (rB (E rfl) (E rfl)) rfl ?_;refine cM ?_;exact aD aE ⟨by rw[←pV l1 l2];rfl,rfl⟩ aA
theorem iG{fr:Fr}{σ σ':dC}{r:Nat}{bt:TypeId}{cs cs':List AV}(hs:SSet σ r (.box bt cs) r (.box bt cs') σ')(hb:BorL σ [] cs cs'):SGo ⟨fr,σ⟩ ⟨fr,σ'⟩:=by
 refine pU [] (fun i x' hi=>⟨x',hi,.refl _⟩) (fun p hp=> ?_);refine⟨by simp, ?_⟩;rcases List.mem_cons.1 (hs.sub p hp)with rfl|h
 ·exact⟨_,bV hs.get,.box (aAf hb)⟩
 ·exact⟨p.2,(fM h).1,.refl _⟩
theorem zU{σ:dC}{ts:List Nat}:BorL σ ts [.ro 0 [] .nil,.ro 0 [] .nil,.ro 0 [] .nil,.bool false,.int .i64 0,.int .i64 0,.bool false,.int .i64 0,.int .i64 0,.ro 0 [] .nil,.ro 0 [] .nil,.ro 0 [] .nil,.ro 0 [] .nil,.ro 0 [] .nil] (aZ md0):=
 .cons (.le VLe.empty) (.cons (.le VLe.empty) (.cons (.le VLe.empty) (.cons (.refl _) (.cons (.refl _) (.cons (.refl _) (.cons (.refl _) (.cons (.refl _) (.cons (.refl _) (.cons (.le VLe.empty) (.cons (.le VLe.empty) (.cons (.le VLe.empty) (.cons (.le VLe.empty) (.cons (.le VLe.empty) .nil)))))))))))))
theorem aD6:(wU []).2.2=true:=by decide
theorem aD7{b:List Nat}{m:Md}{z:Bool}(h80:¬8000<b.length)(hB:(wU b).2.2=false)(hM:(wU b).1=m)(hz:z=true→(mW m).map aG=[])(hbn:b≠ [])(g:(if z=true then true else !decide (mW m=b))=true):wV b=(md0,1):=by
 unfold wV;rw[if_neg h80,if_neg (by rw[hB];simp),hM,if_neg];rintro⟨e1,e2⟩;have e3:mW m=b:=by unfold mW;rw[if_pos e1,e2]
 rw[e3]at g hz;cases z with
 |true=>exact hbn (by simpa using hz rfl)
 |false=>simp at g
theorem aBr{b:List Nat}{m:Md}{z:Bool}(h80:¬8000<b.length)(hB:(wU b).2.2=false)(hM:(wU b).1=m)(hbn:b≠ [])(g:(if z=true then true else !decide (mW m=b))=false):wV b=(m,0):=by
 have hb:mW m=b:=by cases z with
  |true=>simp at g
  |false=>simpa using g
 have hy:kD m=true:=by
  cases hh:kD m with
  |true=>rfl
  |false=>unfold mW at hb;rw[hh]at hb;exact absurd hb.symm hbn
 unfold mW at hb;rw[if_pos hy]at hb;unfold wV;rw[if_neg h80,if_neg (by rw[hB];simp),hM,if_pos ⟨hy,hb⟩]
theorem zV{a c:List Nat}(h1:∀x∈a,x<256)(h2:∀x∈c,x<256):∀x∈a++c,x<256:=fun x hx=>(List.mem_append.1 hx).elim (h1 x) (h2 x)
theorem EV{α:Type}{l:List α}{pt:α→List Nat}(h:∀x∈l,∀c∈pt x,c<256):∀c∈aY l pt,c<256:=zV (lP _) fun c hc=>by
 obtain⟨x,hx,hc⟩:=List.mem_flatMap.1 hc;exact h x hx c hc
theorem rA{α:Type}{no:Nat}{l:List α}{pt:α→List Nat}(hno:no<256)(h:∀x∈l,∀c∈pt x,c<256):∀c∈bB no l pt,c<256:=by
 unfold bB;split
 ·simp
 ·intro c hc;rcases List.mem_cons.1 hc with rfl|hc
  ·exact hno
  ·exact zV (lP _) (EV h) c hc
theorem VL(k:Int):∀c∈kB k,c<256:=by unfold kB;split<;>simp
theorem aBs{k n:Int}(hv:mK k n=true)(hn:-9223372036854775808≤n∧n≤9223372036854775807):∀c∈mA k n,c<256:=by
 obtain⟨ho,hm,-⟩:=EE hv hn;exact zV (UO hm) (by simp)
theorem aBt{n:Int}(h:gI n=true):∀c∈qB n,c<256:=by
 have hr:-2147483648≤n∧n≤2147483647:=by unfold gI at h;simpa using h
 intro c hc;rcases List.mem_cons.1 hc with rfl|hc
 ·decide
 ·exact aBs (k:=1) (n:=n) (by unfold mK;simp;omega) (by omega) c hc
theorem aBu(l:Li):∀c∈dW l,c<256:=by
 unfold dW cC;split
 ·intro c hc;rcases List.mem_cons.1 hc with rfl|hc
  ·decide
  ·exact lP _ c hc
 ·intro c hc;rcases List.mem_cons.1 hc with rfl|hc
  ·decide
  ·exact zV (lP _) (lP _) c hc
theorem SN{s:List Nat}(h:tQ s=true):∀c∈bI s,c<256:=zV (lP _) (kV h).2.1
theorem aHs{x:Co}(h:sR x=true)(hO:∀i∈x.bd,i.Ok):∀c∈kC x,c<256:=by
 unfold sR at h;simp only[Bool.and_eq_true]at h;refine zV (lP _) (zV (EV fun r _=>zV (lP _) (VL _)) (aDn fun i hi=>⟨hO i hi,(cD h.2).2 i hi⟩))
theorem aD8{m:Md}(h:oO m=true)(hw:m.WO):∀c∈eL m,c<256:=by
 obtain⟨hw,hO1,hO2⟩:=hw;unfold oO at h;simp only[Bool.and_eq_true]at h;obtain⟨⟨⟨⟨-,hco⟩,hls⟩,htb⟩,hme⟩:=h;unfold mB at hls;simp only[Bool.and_eq_true]at hls;obtain⟨⟨⟨⟨⟨⟨hty,him⟩,hfn⟩,hgl⟩,hex⟩,hel⟩,hda⟩:=hls;unfold eL;refine zV (zV (zV (zV (zV (zV (zV (zV (zV (zV ?_ ?_) ?_) ?_) ?_) ?_) ?_) ?_) ?_) ?_) ?_
 ·decide
 ·refine rA (by decide) fun x _ c hc=> ?_
  rcases List.mem_cons.1 hc with rfl|hc
  ·decide
  ·exact zV (EV fun k _=>VL k) (EV fun k _=>VL k) c hc
 ·refine rA (by decide) fun x hx=> ?_
  have:=(cD him).2 x hx;simp only[Bool.and_eq_true]at this;exact zV (zV (zV (SN this.1.1) (SN this.1.2)) (by simp)) (lP _)
 ·exact rA (by decide) fun x _=>lP _
 ·refine rA (by decide) fun x _ c hc=> ?_
  rcases List.mem_cons.1 hc with rfl|hc
  ·decide
  ·exact aBu x c hc
 ·exact rA (by decide) fun x _=>aBu x
 ·refine rA (by decide) fun x hx=> ?_
  exact zV (zV (VL _) (by intro c hc;rw[List.mem_singleton.1 hc];split<;>decide)) (aBs ((cD hgl).2 x hx) (hO2 x hx))
 ·refine rA (by decide) fun x hx=> ?_
  have:=(cD hex).2 x hx;simp only[Bool.and_eq_true]at this;exact zV (zV (SN this.1) (by simp)) (lP _)
 ·refine rA (by decide) fun x hx=> ?_
  have:=(cD hel).2 x hx;simp only[Bool.and_eq_true]at this;exact zV (aBt this.1) (EV fun n _=>lP _)
 ·exact rA (by decide) fun x hx=>aHs ((cD hco).2 x hx) (hO1 x hx)
 ·refine rA (by decide) fun x hx=> ?_
  have:=(cD hda).2 x hx;simp only[Bool.and_eq_true]at this;exact zV (zV (aBt this.1) (lP _)) (hw.da x hx)
theorem MB{m:Md}(h:m.WO):∀c∈mW m,c<256:=by
 unfold mW;split
 ·next hy=>exact aD8 (vL hy).1 h
 ·simp
theorem vO(b:List Nat)(hb:b.length≤100000)(hlt:∀c∈b,c<256):SCall Tryz.prog 20 [.ro 1 (b.map aG) .any] []
  (fun y σ=>y=.tup [.agg (aZ (wV b).1),.int .i64 (wV b).2]∧σ=[]):=by
 have hs0:SOk (b, !decide (b.take headB.length=headB)):=⟨hb,hlt⟩
 have k0:=JL hs0 8 true;have hP:=aHr b;have wsk:=fun r=>zS r (b, !decide (b.take headB.length=headB)) hs0 8 true
 refine bS 59 [0,2,3,4,5,6,7,10,33,45,56] Tryz.func20 ?_;refine cZ ?_;refine iO fun r2 h2=> ?_;intros
 refine cM ?_;refine dZ (iG (r:=r2) cE zU) ?_;refine fV ?_;refine xT ?_;refine iI ?_;refine aB rfl (fun g1=> ?_) (fun g1=> ?_)
 ·have hE:wV b=(md0,4):=by unfold wV;rw[if_pos (by simp at g1;omega)]
  refine cZ ?_;refine lE ?_;apply MZ;rfl;rfl;rfl;rfl;exact mP;refine uT ?_;refine dZ (iG (r:=r2) cE zU) ?_;refine aI ?_;exact aD aE ⟨by rw[hE];rfl,rfl⟩ aA
 have h80:¬8000<b.length:=by simp at g1;omega
 refine cZ ?_;refine iO fun r4 h4=> ?_;intros
 refine iI ?_;refine dZ (iG (r:=r4) cE zU) ?_;refine kQ ?_;refine aCW ?_;refine lB Tryz.call65 (HV b headB (by omega) (by decide) hlt (by decide)) rfl aP aS ?_;refine lo (eI (E rfl)) rfl ?_;refine lE ?_;refine gQ fun r18 h18=> ?_;intros
 refine gZ ?_;refine cw [(r18,.box 117 (cR (b, !decide (b.take headB.length=headB))))] Tryz.call66 (wsk r18) rfl aC aA ?_;rintro _ σ' ⟨rfl,rfl⟩ h20;refine jG ?_;rw[show uI (b, !decide (b.take headB.length=headB)) ((8:Nat):Int) true=uI (b, !decide (b.take 8=headB)) 8 true from rfl];rw[show uI (b, !decide (b.take headB.length=headB)) 8 true=uI (b, !decide (b.take 8=headB)) 8 true from rfl]at k0;generalize uI (b, !decide (b.take 8=headB)) 8 true=s0 at k0 hP⊢;refine lp (β:=Md×St) (fun x=>⟨[(0,.ro 1 (b.map aG) .any),(2,.ptr r2 0),(4,.ptr r4 0),(5,.ptr r18 0)],[(r18,.box 117 (cR x.2)),(r4,.box 33 (aZ x.1)),(r2,.box 33 (aZ md0))]⟩) (fun x=>x.1.WO∧SOk x.2∧DN x.1 x.2=wU b) (fun x=>x.2.1.length) (md0,s0) aJ ⟨wo0,k0,hP.symm⟩ ?_;rintro⟨m,⟨l,bad⟩⟩ ⟨hwo,hs,hD⟩;dsimp only at hwo hs hD⊢;unfold cR;dsimp only;refine cX ?_;refine gY ?_;refine xT ?_;refine jU ?_;refine uV ?_;refine aB rfl (fun g6=> ?_) (fun g6=> ?_)
 ·obtain rfl:bad=false:=by cases bad with|false=>rfl|true=>simp at g6
  have hne:l≠ []:=by intro e;subst e;simp at g6
  have wb:=oB r18 (l,false) hs;have kb:=mX (l,false) hs;have wn:=jL r18 _ kb;have kn:=iF _ kb;have hbl:(kW (l,false)).1<256:=by cases l with|nil=>exact absurd rfl hne|cons x t=>exact hs.2 x List.mem_cons_self
  have ws:=SM r18 r4 (by(exact cA)) _ kn m (kW (l,false)).1;have hst:=aD5 (m:=m) (s:=(l,false)) hne rfl;have kw:=aJO (kW (l,false)).1 hwo kn;have ks:=aJP (kW (l,false)).1 m kn;refine cX ?_;refine yJ [(r18,.box 117 (cR (l,false)))] Tryz.call67 wb ?_;refine z44 ?_;refine gZ ?_;refine cw [(r18,.box 117 (cR (kW (l,false)).2))] Tryz.call68 wn rfl aC aA ?_;rintro _ σ' ⟨rfl,rfl⟩ h38;refine jG ?_;refine kQ ?_;refine cw [(r18,.box 117 (cR (gH (kW (l,false)).2).2)),(r4,.box 33 (aZ m))] Tryz.call69 ws rfl aC aA ?_;rintro _ σ' ⟨rfl,rfl⟩ h41;refine jG ?_;refine⟨uA (kW (l,false)).1 m (gH (kW (l,false)).2).2,⟨kw,ks,hst.1.symm.trans hD⟩,hst.2, ?_⟩;exact aJ
 have hz:DN m (l,bad)=(m,(l,bad)):=aD4 (by cases bad with|true=>simp|false=>(cases l with|nil=>rfl|cons x t=>(simp at g6<;>omega)));rw[hz]at hD;refine cX ?_;refine gY ?_;refine iI ?_;refine aB rfl (fun g10=> ?_) (fun g10=> ?_)
 ·have hE:wV b=(md0,1):=by unfold wV;rw[if_neg h80,if_pos (by rw[←hD];exact g10)]
  refine cZ ?_;refine lE ?_;apply MZ;rfl;rfl;rfl;rfl;exact mP;refine uT ?_;refine dZ (iG (r:=r2) cE zU) ?_;refine aI ?_;exact aD aE ⟨by rw[hE];rfl,rfl⟩ aA
 refine aI ?_;obtain⟨ty,im,fn,tb,me,gl,ex,el,co,da⟩:=m;refine mJ ?_;refine kP ?_;refine qN Tryz.call18 (qQ ⟨ty,im,fn,tb,me,gl,ex,el,co,da⟩ hwo) rfl bM kA ?_;rintro _ σ' ⟨q48,rfl,rfl⟩ h48
 replace h48:=cB h48;repeat rcases h48 with⟨_,h48⟩
 apply aU;exact bD;refine iW (j:=48) rfl bK (aN bC (by simp)) ?_;refine cM ?_;have hB:(wU b).2.2=false:=by rw[←hD];exact g10
 have hM:(wU b).1=⟨ty,im,fn,tb,me,gl,ex,el,co,da⟩:=by rw[←hD]
 have hbn:b≠ []:=by intro e;rw[e,aD6]at hB;cases hB
 refine fV ?_;refine ne rfl rfl rfl fun z hz _=> ?_
 refine jU ?_;refine kG ?_;refine lG rfl rfl Tryz.call70 (fun _=>(EU (mW ⟨ty,im,fn,tb,me,gl,ex,el,co,da⟩) b (MB hwo) hlt)) rfl aP aS ?_;refine rG ?_;refine oJ ?_;refine aB rfl (fun g13=> ?_) (fun g13=> ?_)
 ·have hE:=aD7 h80 hB hM hz hbn g13;refine cZ ?_;refine lE ?_;apply MZ;rfl;rfl;rfl;rfl;exact mP;refine uT ?_;refine dZ (iG (r:=r2) cE zU) ?_;refine aI ?_;exact aD aE ⟨by rw[hE];rfl,rfl⟩ aA
 have hE:=aBr h80 hB hM hbn g13;refine nH ?_;refine OG ?_;exact aD aE ⟨by rw[hE];rfl,rfl⟩ aA
section
variable {r p q : Nat} {m : Md} {lv : AV}
theorem CX(hN:Nm r p q)(s:PS)(hs:s.cs.length≤1000000)(op kd:Int):SCall Tryz.prog 76 [.ptr r 0,.int .i64 op,.int .i64 kd] (dH r p q m lv s) (fun _ σ=>∃e,Nm r p e∧σ=dH r p e m lv (openP s op kd)):=by
 obtain⟨vs,zs,b⟩:=s;obtain⟨n1,n2,n3⟩:=hN;dsimp only at hs;refine bS 23 [0,1,2] Tryz.func76 ?_;unfold dH mL;dsimp only;refine aI ?_;refine fJ [(0,true),(1,true),(2,true),(3,true),(4,true),(5,true),(6,true),(7,true),(8,true),(9,true),(10,true),(11,true),(12,true),(13,false),(14,false),(15,true),(16,true),(17,false)] ?_;refine CF ?_;refine lF ?_;refine IS ?_;refine z94 ?_;refine HL fun r19 h19=> ?_;intros
 refine eZ rfl ((zs++ [(⟨op,kd,vs.length,false⟩:Ct)]).map mF) (zs++ [(⟨op,kd,vs.length,false⟩:Ct)]).length ?_;refine bE fun r20 h20=> ?_;intros
 refine rI ?_;refine jI ?_;refine cL ?_;exact aD aE ⟨r20,by exact⟨by(exact cA),by(exact cA),by(exact cA)⟩,rfl⟩ aA
theorem MC(hN:Nm r p q)(s:PS)(h:s.Gd):SCall Tryz.prog 79 [.ptr r 0] (dH r p q m lv s) (fun y σ=>y=.agg (mF s.top)∧σ=dH r p q m lv (nJ s)):=by
 have hd:nJ s=⟨(fA s (dY s.top.kd)).vs,(fA s (dY s.top.kd)).cs.dropLast,(eV (fA s (dY s.top.kd)) (((fA s (dY s.top.kd)).vs.length:Int)==s.top.ht)).bad⟩:=rfl;have hp:=h.pops (dY s.top.kd);have hcs:=pI s (dY s.top.kd);rw[hd];obtain⟨i,hi⟩:=h.cut;generalize s.top=t at hi hcs hp⊢;have hpa:=fun(hN:Nm r p q)=>kX (m:=m) (lv:=lv) hN s h (dY t.kd) (by have:=rQ t.kd;omega)
 generalize fA s (dY t.kd)=s1 at hcs hp hpa⊢;have hbc:=h.bc;have hbv:=h.bv;have hbv1:=hp.bv;obtain⟨vs,zs,b⟩:=s;obtain⟨vs1,zs1,b1⟩:=s1;dsimp only at hi hcs hbc hbv hbv1;subst hi hcs;rw[vK]at hbc;obtain⟨n1,n2,n3⟩:=hN;have hel:=rT (l:=i.map mF) (x:=mF t) (n:=i.length) (by simp);refine bS 46 [0,2,3] Tryz.func79 ?_;unfold dH mL;dsimp only;rw[vK,EO];refine cZ ?_;refine iO fun r2 h2=> ?_;intros
 refine iI ?_;refine fJ [(0,true),(1,true),(2,true),(3,true),(4,true),(5,true),(6,true),(7,true),(8,true),(9,true),(10,true),(11,true),(12,false),(13,false)] ?_;refine mQ ?_;refine rJ ?_;refine pY ?_;apply dal;rfl;infer_instance;rfl;exact yR;refine iT fun r3 h3=> ?_;intros
 refine z95 ?_;refine CC ?_;refine oI ?_;refine yJ [] Tryz.call191 (sY t.kd) ?_;refine cw (dH r p q m lv ⟨vs,i++ [t],b⟩) Tryz.call192 (hpa ⟨n1,n2,n3⟩) rfl aC bZ ?_;rintro _ σ' rfl h20;refine pZ ?_;refine fJ [(0,true),(1,true),(2,true),(3,true),(6,true),(7,true),(4,false),(5,true),(8,true),(9,false)] ?_;refine fP rfl (aF (E rfl)) rfl ?_;refine OC ?_;refine RJ ?_;refine iC ?_;first|refine dhl rfl (aQ (E rfl) rfl bC (fun _=>rfl)) rfl ?_ |refine dhl rfl (aQ (E rfl) rfl bC (fun _=>by assumption)) rfl ?_ |refine dhl rfl (aR (E rfl) rfl (fun hc=>by first|rfl|exact aH (by assumption)|assumption|exact aH (aX (by omega))) (fun _=>rfl)) rfl ?_
 refine UD ?_;refine z79 ?_;refine pD (dH r p q m lv ⟨vs1,i++ [t],b1⟩) rfl Tryz.call189 (jZ ⟨n1,n2,n3⟩ _ ((vs1.length:Int)==t.ht)) rfl aC bZ aA8 ?_;rintro _ σ' rfl h30;refine OE ?_;refine jI ?_;dsimp only[eV];rw[vK,EO];refine fJ [(0,true),(1,true),(2,true),(3,true),(4,true),(5,true),(6,true),(7,true),(8,true),(9,true),(10,true),(11,true),(12,true),(13,true),(14,false)] ?_;refine CF ?_;refine rJ ?_;refine ZN ?_;refine rI ?_;refine jI ?_;rw[qD];refine dZ (nZ (o:=q) i.length cE) ?_;rw[show List.take i.length (i.map mF++ [mF t])=i.map mF by rw[List.take_left' (by simp)]];rw[List.dropLast_concat];refine mJ ?_;refine kP ?_;refine gT ?_;exact aD aE ⟨by rfl,rfl⟩ aA
theorem CY(hN:Nm r p q)(s:PS)(h:s.Gd):SCall Tryz.prog 187 [.ptr r 0] (dH r p q m lv s) (fun _ σ=>σ=dH r p q m lv (pC s)):=by
 have hd:pC s=⟨s.vs.take s.top.ht,s.cs.dropLast++ [⟨s.top.op,s.top.kd,s.top.ht,true⟩],s.bad⟩:=rfl;rw[hd];obtain⟨i,hi⟩:=h.cut;have h0:=h.toOk0;generalize s.top=t at hi⊢;have hbc:=h.bc;have hbv:=h.bv;obtain⟨vs,zs,b⟩:=s;dsimp only at hi hbc hbv;subst hi;rw[vK]at hbc;obtain⟨-,hh,-⟩:=h0.split;obtain⟨n1,n2,n3⟩:=hN;have hel:=rT (l:=i.map mF) (x:=mF t) (n:=i.length) (by simp);refine bS 29 [0,2] Tryz.func187 ?_;unfold dH mL;dsimp only;rw[vK,EO];refine aI ?_;refine fJ [(0,true),(1,true),(2,true),(3,true),(4,true),(5,true),(6,true),(7,true),(8,true),(9,true),(10,true),(11,true)] ?_;refine mQ ?_;refine rJ ?_;refine z56 ?_;refine wQ ?_;refine fJ [(0,true),(1,true),(2,true),(3,true),(4,true),(5,true),(6,true),(7,true),(8,true),(9,true),(10,true),(11,true),(12,true),(13,false),(14,true),(15,true),(16,false)] ?_;refine lF ?_;refine mQ ?_;refine OC ?_;refine fP rfl (jD (E rfl) rfl (by decide)) rfl ?_;refine fP rfl (bJ (E rfl) rfl bC (fun _=>hel) (fun _=>rfl)) rfl ?_;refine ZN ?_;refine rI ?_;refine z77 ?_;refine fP rfl (jD (E rfl) rfl (by decide)) rfl ?_;apply aCP;rfl;infer_instance;rfl;rfl;rfl;rfl;exact cE;exact atT;exact BM;rfl;exact eM;refine jI ?_;rw[JI (by simp)];refine zL (nZ (o:=p) t.ht cE) ?_
 rw[←List.map_take,List.dropLast_concat,vK,EO,show t.ht-0=(vs.take t.ht).length by rw[List.length_take];omega];refine cL ?_;apply aD;exact aE
 ·rfl
 ·exact aA
theorem zW(hN:Nm r p q)(s:PS)(hs:s.cs.length≤1000000)(n:Int)(hn:0≤n):SCall Tryz.prog 193 [.ptr r 0,.int .i64 n] (dH r p q m lv s) (fun y σ=>y=.ro 1 ((cU s n).1.map aK) .any∧σ=dH r p q m lv (cU s n).2):=by
 obtain⟨vs,zs,b⟩:=s;obtain⟨n1,n2,n3⟩:=hN;dsimp only at hs;refine bS 36 [0,1,4,5,12,32] Tryz.func193 ?_;unfold dH mL;dsimp only;refine lL ?_;refine gY ?_;refine qI ?_;refine BO ?_;refine aB rfl (fun g1=> ?_) (fun g1=> ?_)
 ·have hP:cU ⟨vs,zs,b⟩ n=([],⟨vs,zs,true⟩):=if_pos g1;rw[hP];refine qJ ?_;refine lU ?_;refine rH ?_;refine dZ (eE (j:=4) (y:=.ro 1 (([]:List Int).map aK) .any) rfl VLe.empty) ?_;refine aI ?_;exact aD aE ⟨by rfl,rfl⟩ aA
 have hlt:n<zs.length:=by simp at g1;omega
 obtain⟨t,ht⟩:∃t,zs[zs.length-1-n.toNat]? =some t:=⟨_,List.getElem?_eq_getElem (by omega)⟩
 have hP:cU ⟨vs,zs,b⟩ n=(if(t.op==3)=true then []else dY t.kd,⟨vs,zs,b⟩):=by unfold cU;rw[if_neg (by simpa using g1)];dsimp only;rw[List.getD_eq_getElem?_getD,ht];rfl
 rw[hP];have hel:(zs.map mF)[(((zs.length:Nat):Int)-1-n).toNat]? =some (mF t):=by rw[show(((zs.length:Nat):Int)-1-n).toNat=zs.length-1-n.toNat by omega,List.getElem?_map,ht];rfl
 refine aI ?_;refine fJ [(0,true),(1,true),(2,true),(3,true),(4,true),(5,true),(6,true),(7,true),(8,true),(9,true),(10,true),(11,true),(12,true),(13,true),(14,false),(15,false)] ?_;refine mQ ?_;refine rJ ?_;refine fP rfl (aF (E rfl)) rfl ?_;refine z82 ?_;refine pY ?_;apply dal;rfl;infer_instance;rfl;exact yR;refine iT fun r5 h5=> ?_;intros
 refine z95 ?_;refine CC ?_;refine fT ?_;refine xR ?_;refine aB rfl (fun g5=> ?_) (fun g5=> ?_)
 ·rw[if_pos g5];refine rH ?_;refine dZ (eE (j:=4) (y:=.ro 1 (([]:List Int).map aK) .any) rfl VLe.empty) ?_;refine aI ?_;exact aD aE ⟨by rfl,rfl⟩ aA
 rw[if_neg (by simp[g5])];refine fT ?_;refine cw [] Tryz.call191 (sY t.kd) rfl aC aA ?_;rintro _ σ' ⟨rfl,rfl⟩ h35;refine eY ?_;exact aD aE ⟨by rfl,rfl⟩ aA
theorem rV(hN:Nm r p q)(s:PS)(n:Int):SCall Tryz.prog 74 [.ptr r 0,.int .i64 n] (dH r p q m lv s) (fun y σ=>y=.tup [.agg (dF (dP m n).1),.bool (dP m n).2]∧σ=dH r p q m lv s):=by
 obtain⟨vs,zs,b⟩:=s;obtain⟨n1,n2,n3⟩:=hN;refine bS 27 [0,1,4,5,17] Tryz.func74 ?_;unfold dH mL;dsimp only;refine cZ ?_;refine iO fun r4 h4=> ?_;intros
 refine gZ ?_;refine OJ ?_;refine kG ?_;refine aGe ?_;refine aGf ?_;refine AK ?_;refine aGq ?_;refine oJ ?_;refine aB rfl (fun g1=> ?_) (fun g1=> ?_)
 ·have hP:dP m n=(AR,false):=if_pos g1;rw[hP];refine cZ ?_;refine lE ?_;apply MZ;rfl;rfl;rfl;rfl;exact mP;refine uT ?_;refine dZ (iG (r:=r4) (cs':=dF AR) cE (.cons (.le VLe.empty) (.cons (.le VLe.empty) .nil))) ?_;refine aI ?_;exact aD aE ⟨by rfl,rfl⟩ aA
 have hlt:0≤n∧n<m.ty.length:=by constructor<;>(apply Int.not_lt.1;intro hc;apply Bool.false_ne_true;rw[←g1];simp;omega)
 obtain⟨t,ht⟩:∃t,m.ty[n.toNat]? =some t:=⟨_,List.getElem?_eq_getElem (by omega)⟩
 have hP:dP m n=(t,true):=by unfold dP;rw[if_neg (by simpa using g1)];rw[List.getD_eq_getElem?_getD,ht];rfl
 rw[hP];refine qJ ?_;refine fO ?_;refine oG ?_;refine OG ?_;exact aD aE ⟨by rfl,rfl⟩ aA
theorem zX{ls:List Int}(hN:Nm r p q)(s:PS)(n:Int)(hn:0≤n):SCall Tryz.prog 197 [.ptr r 0,.int .i64 n] (dH r p q m (.ro 1 (ls.map aK) .any) s) (fun y σ=>y=.int .i64 (eD ls s n).1∧σ=dH r p q m (.ro 1 (ls.map aK) .any) (eD ls s n).2):=by
 obtain⟨vs,zs,b⟩:=s;obtain⟨n1,n2,n3⟩:=hN;refine bS 22 [0,1,4,11] Tryz.func197 ?_;unfold dH mL;dsimp only;refine lL ?_;refine gY ?_;refine qI ?_;refine BO ?_;refine aB rfl (fun g1=> ?_) (fun g1=> ?_)
 ·have hP:eD ls ⟨vs,zs,b⟩ n=(0,⟨vs,zs,true⟩):=if_pos g1;rw[hP];refine qJ ?_;refine lU ?_;refine bF ?_;exact aD aE ⟨by rfl,rfl⟩ aA
 obtain⟨t,ht⟩:∃t,ls[n.toNat]? =some t:=⟨_,List.getElem?_eq_getElem (by simp at g1;omega)⟩
 have hlt:n<ls.length:=by simp at g1;omega
 have hP:eD ls ⟨vs,zs,b⟩ n=(t,⟨vs,zs,b⟩):=by unfold eD;rw[if_neg (by simpa using g1)];rw[List.getD_eq_getElem?_getD,ht];rfl
 rw[hP];refine cX ?_;refine gY ?_;refine pA ?_;refine cM ?_;exact aD aE ⟨by rfl,rfl⟩ aA
theorem JO(hN:Nm r p q)(s:PS)(n:Int)(hn:0≤n):SCall Tryz.prog 198 [.ptr r 0,.int .i64 n] (dH r p q m lv s) (fun y σ=>y=.agg (eU (fK m s n).1)∧σ=dH r p q m lv (fK m s n).2):=by
 obtain⟨vs,zs,b⟩:=s;obtain⟨n1,n2,n3⟩:=hN;refine bS 25 [0,1,4,12] Tryz.func198 ?_;unfold dH mL;dsimp only;refine cZ ?_;refine iO fun r4 h4=> ?_;intros
 refine iI ?_;refine kQ ?_;refine tZ ?_;refine yT ?_;refine BO ?_;refine aB rfl (fun g1=> ?_) (fun g1=> ?_)
 ·have hP:fK m ⟨vs,zs,b⟩ n=(gl0,⟨vs,zs,true⟩):=if_pos g1;rw[hP];refine qJ ?_;refine lU ?_;refine cZ ?_;refine lE ?_;refine gT ?_;exact aD aE ⟨by rfl,rfl⟩ aA
 obtain⟨t,ht⟩:∃t,m.gl[n.toNat]? =some t:=⟨_,List.getElem?_eq_getElem (by simp at g1;omega)⟩
 have hlt:n<m.gl.length:=by simp at g1;omega
 have hP:fK m ⟨vs,zs,b⟩ n=(t,⟨vs,zs,b⟩):=by unfold fK;rw[if_neg (by simpa using g1)];rw[List.getD_eq_getElem?_getD,ht];rfl
 rw[hP];refine qJ ?_;refine fO ?_;refine oG ?_;refine gT ?_;exact aD aE ⟨by rfl,rfl⟩ aA
end
section
variable {r p q : Nat} {m : Md} {lv : AV}
theorem PW(hN:Nm r p q)(s:PS)(hi:m.im.length≤1000000)(f:Int)(hf:0≤f)(hf2:f≤9223372036854775807):SCall Tryz.prog 196 [.ptr r 0,.int .i64 f] (dH r p q m lv s) (fun y σ=>y=.tup [.agg (dF (dP m (oM m f)).1),.bool (dP m (oM m f)).2]∧σ=dH r p q m lv s):=by
 obtain⟨vs,zs,b⟩:=s;have hN0:=hN;obtain⟨n1,n2,n3⟩:=hN;refine bS 51 [0,1,4,5,6,7,16,35] Tryz.func196 ?_;unfold dH mL;dsimp only;refine cZ ?_;refine iO fun r4 h4=> ?_;intros
 refine iX ?_;refine gZ ?_;refine tZ ?_;refine yT ?_;refine lO ?_;refine nP ?_;refine aB rfl (fun g3=> ?_) (fun g3=> ?_)
 ·have hlt:f<m.im.length:=by simpa using g3
  obtain⟨x,hx⟩:∃x,m.im[f.toNat]? =some x:=⟨_,List.getElem?_eq_getElem (by omega)⟩
  have hP:oM m f=x.ty:=by unfold oM;rw[if_pos g3,List.getD_eq_getElem?_getD,hx];rfl
  rw[hP];refine qJ ?_;refine fO ?_;refine tK ?_;refine lO ?_;refine cw (dH r p q m lv ⟨vs,zs,b⟩) Tryz.call74 (rV hN0 _ _) rfl aC bZ ?_;rintro _ σ' ⟨rfl,rfl⟩ h48;refine oE ?_;refine KR ?_;refine OG ?_;exact aD aE ⟨by rfl,rfl⟩ aA
 have hge:¬f<m.im.length:=by simpa using g3
 refine dG ?_;refine tF ?_;refine lo (aF (E rfl)) rfl ?_;refine tZ ?_;refine aI0 ?_;refine aB rfl (fun g5=> ?_) (fun g5=> ?_)
 ·have hlt:f-m.im.length<m.fn.length:=by simpa using g5
  obtain⟨x,hx⟩:∃x,m.fn[(f-m.im.length).toNat]? =some x:=⟨_,List.getElem?_eq_getElem (by omega)⟩
  have hP:oM m f=x:=by unfold oM;rw[if_neg (by simpa using g3),if_pos g5,List.getD_eq_getElem?_getD,hx];rfl
  rw[hP];refine qJ ?_;refine fO ?_;refine HI ?_;refine tF ?_;refine lM ?_;refine lO ?_;refine cw (dH r p q m lv ⟨vs,zs,b⟩) Tryz.call74 (rV hN0 _ _) rfl aC bZ ?_;rintro _ σ' ⟨rfl,rfl⟩ h48;refine oE ?_;refine KR ?_;refine OG ?_;exact aD aE ⟨by rfl,rfl⟩ aA
 have hP:oM m f=-1:=by unfold oM;rw[if_neg (by simpa using g3),if_neg (by simpa using g5)]
 rw[hP];refine dG ?_;refine cw (dH r p q m lv ⟨vs,zs,b⟩) Tryz.call74 (rV hN0 _ _) rfl aC bZ ?_;rintro _ σ' ⟨rfl,rfl⟩ h48;refine oE ?_;refine KR ?_;refine OG ?_;exact aD aE ⟨by rfl,rfl⟩ aA
theorem PX(hN:Nm r p q)(s:PS)(h:s.Gd)(t:FT)(ht:t.Sm)(ok:Bool):SCall Tryz.prog 195 [.ptr r 0,.agg (dF t),.bool ok] (dH r p q m lv s) (fun _ σ=>∃e,Nm r e q∧σ=dH r e q m lv (sS s t ok)):=by
 obtain⟨pr,rs⟩:=t;obtain⟨ht1,ht2⟩:=ht;dsimp only at ht1 ht2;have hN0:=hN;obtain⟨n1,n2,n3⟩:=hN;have h1:=h.need ok;have h2:=h1.pops pr;refine bS 17 [0,1,2,4] Tryz.func195 ?_;unfold dH mL
 (try dsimp only);refine cZ ?_;refine gQ fun r4 h4=> ?_;intros
 refine iI ?_;refine kQ ?_;refine cw (dH r p q m lv s) Tryz.call189 (jZ hN0 s ok) rfl aC bZ ?_;rintro _ σ' rfl h8;refine pX ?_;refine fO ?_;refine cw (dH r p q m lv (eV s ok)) Tryz.call192 (kX hN0 _ h1 pr (by omega)) rfl aC bZ ?_;rintro _ σ' rfl h12;refine pX ?_;refine fO ?_;refine cw (dH r p q m lv (fA (eV s ok) pr)) Tryz.call190 (lS hN0 _ h2.bv rs (by omega)) rfl aC bZ ?_;rintro _ σ' ⟨e,hE,rfl⟩ h16;unfold dH mL;(try dsimp only);obtain⟨e1,e2,e3⟩:=id hE;refine jG ?_;refine cL ?_;exact aD aE ⟨e,hE,rfl⟩ aA
theorem mG(hN:Nm r p q)(s:PS)(h:s.Gd)(x:Ins)(al:Int)(tk mk:List Int)(ht:tk.length≤1000)(hm:mk.length≤1000):SCall Tryz.prog 199 [.ptr r 0,.agg (iv .any x),.int .i64 al,.ro 1 (tk.map aK) .any,.ro 1 (mk.map aK) .any] (dH r p q m lv s) (fun _ σ=>∃e,Nm r e q∧σ=dH r e q m lv (gV m s x al tk mk)):=by
 have hN0:=hN;obtain⟨n1,n2,n3⟩:=hN;have h1:=h.need (if m.me.has=true then decide (x.a≤al)else false);have h2:=h1.pops tk;unfold iv;refine bS 30 [0,1,2,3,4,6] Tryz.func199 ?_;unfold dH mL
 (try dsimp only);refine cZ ?_;refine gQ fun r6 h6=> ?_;intros
 refine iI ?_;refine kQ ?_;refine tZ ?_;refine qA ?_;refine oY ?_;refine aAk ?_;refine uF ?_;refine cw (dH r p q m lv s) Tryz.call189 (jZ hN0 s (if m.me.has=true then decide (x.a≤al)else false)) rfl aC bZ ?_;rintro _ σ' rfl h23;refine pZ ?_;refine kQ ?_;refine cw (dH r p q m lv (eV s (if m.me.has=true then decide (x.a≤al)else false))) Tryz.call192 (kX hN0 _ h1 tk (by omega)) rfl aC bZ ?_;rintro _ σ' rfl h26;refine pZ ?_;refine kQ ?_;refine cw (dH r p q m lv (fA (eV s (if m.me.has=true then decide (x.a≤al)else false)) tk)) Tryz.call190 (lS hN0 _ h2.bv mk hm) rfl aC bZ ?_;rintro _ σ' ⟨e,hE,rfl⟩ h29;unfold dH mL;(try dsimp only);obtain⟨e1,e2,e3⟩:=id hE;refine jG ?_;refine cL ?_;exact aD aE ⟨e,hE,rfl⟩ aA
theorem PS.Gd.label {s:PS}(h:s.Gd)(n:Int):(cU s n).2.Gd:=⟨h.toOk.label n,by rw[vG];exact h.bv,by rw[vF];exact h.bc⟩
theorem PS.Gd.tabs {s:PS}(h:s.Gd)(w l:List Int):(l.foldl (AS w) s).Gd:=by
 obtain⟨h1,h2,h3⟩:=zJ w l s;exact⟨h3 h.toOk,by rw[h2];exact h.bv,by rw[h1];exact h.bc⟩
theorem aHt{a b:List Int}(ha:a.length≤1)(hb:b.length≤1):(a=[]∧b=[])∨(a=[]∧∃v,b=[v])∨((∃g,a=[g])∧b=[])∨∃g v,a=[g]∧b=[v]:=by
 match a,b,ha,hb with
 |[],[],_,_=>exact .inl ⟨rfl,rfl⟩
 |[],[v],_,_=>exact .inr (.inl ⟨rfl,v,rfl⟩)
 |[g],[],_,_=>exact .inr (.inr (.inl ⟨⟨g,rfl⟩,rfl⟩))
 |[g],[v],_,_=>exact .inr (.inr (.inr ⟨g,v,rfl,rfl⟩))
theorem aBv{w l:List Int}{s:PS}{j:Nat}{n:Int}(h:l[j]? =some n):(l.take (j+1)).foldl (AS w) s=eV (cU ((l.take j).foldl (AS w) s) n).2 (eq1 (cU ((l.take j).foldl (AS w) s) n).1 w):=by
 rw[List.take_add_one,h,List.foldl_append];rfl
theorem aBw(hN:Nm r p q)(s:PS)(h:s.Gd)(x:Ins)(ha:0≤x.a)(hl:∀n∈x.l,0≤n)(hll:x.l.length≤1000000):SCall Tryz.prog 194 [.ptr r 0,.agg (iv .any x)] (dH r p q m lv s) (fun _ σ=>σ=dH r p q m lv (sU s x)):=by
  have hN0:=hN;obtain⟨n1,n2,n3⟩:=hN;have h1:=h.pop 1;have h2:=h1.label x.a;have hw:=rR (dB s 1).2 x.a;have hT:sU s x=pC (fA (x.l.foldl (AS (cU (dB s 1).2 x.a).1) (cU (dB s 1).2 x.a).2) (cU (dB s 1).2 x.a).1):=rfl;rw[hT];have cl:=zW (m:=m) (lv:=lv) hN0 (dB s 1).2 h1.bc x.a ha;generalize(cU (dB s 1).2 x.a).2=s2 at h2 cl⊢;generalize(cU (dB s 1).2 x.a).1=w at hw cl⊢;obtain⟨xo,xa,xb,xl⟩:=x;dsimp only at ha hl hll cl⊢;unfold iv;refine bS 51 [0,1,3,4,6,7,15,16,17,18] Tryz.func194 ?_;unfold dH mL
  (try dsimp only);refine cZ ?_;refine gQ fun r3 h3=> ?_;intros
  refine oR ?_;refine cw (dH r p q m lv s) Tryz.call188 (oT hN0 s h 1) rfl aC bZ ?_;rintro _ σ' ⟨rfl,rfl⟩ h9;refine pX ?_;refine fO ?_;refine cw (dH r p q m lv (dB s 1).2) Tryz.call193 cl rfl aC bZ ?_;rintro _ σ' ⟨rfl,rfl⟩ h13;refine oE ?_;refine iX ?_;refine tN ?_;refine lp (β:=Nat) (fun j=>⟨[(0,.ptr r 0),(3,.ptr r3 0),(4,.ro 1 (w.map aK) .any),(15,.ro 1 (xl.map aK) .any),(16,.int .i64 xl.length),(17,.int .i64 j)],(r3,.box 46 [.int .i64 xo,.int .i64 xa,.int .i64 xb,.ro 1 (xl.map aK) .any])::dH r p q m lv ((xl.take j).foldl (AS w) s2)⟩) (fun j=>j≤xl.length) (fun j=>xl.length-j) 0 (by unfold dH mL;(try dsimp only);(exact aJ)) (Nat.zero_le _) ?_;intro j hj
  (try dsimp only);have hS:=h2.tabs w (xl.take j);refine gA ?_;refine aB rfl (fun g4=> ?_) (fun g4=> ?_)
  · obtain⟨n,hn⟩:∃n,xl[j]? =some n:=⟨_,List.getElem?_eq_getElem (by simp at g4;omega)⟩
    have hlt:j<xl.length:=(List.getElem?_eq_some_iff.1 hn).1;have hn0:=hl n (List.mem_of_getElem? hn);have hnx:=aBv (w:=w) (s:=s2) hn;generalize(xl.take j).foldl (AS w) s2=S at hS hnx⊢;unfold dH mL
    (try dsimp only);refine cZ ?_;refine lM ?_;refine lO ?_;refine cw (dH r p q m lv S) Tryz.call193 (zW hN0 S hS.bc n hn0) rfl aC bZ ?_;rintro _ σ' ⟨rfl,rfl⟩ h23;refine oE ?_;refine cM ?_;obtain⟨ea,eb⟩|⟨ea,v,eb⟩|⟨⟨g,ea⟩,eb⟩|⟨g,v,ea,eb⟩:=aHt (rR S n) hw
    · rw[ea];subst eb;rw[ea,show eq1 [] []=true from rfl]at hnx;refine fJ [(0,true),(1,true),(2,true),(3,true),(4,true),(5,true),(6,true),(7,true),(8,true),(9,true),(10,true),(11,true),(12,true),(13,true),(14,true),(15,true),(16,true),(17,true),(18,true),(19,true),(20,false)] ?_;refine lF ?_;refine OH ?_;refine UD ?_;refine z79 ?_;rw[show((([]:List Int).length:Int)==(([]:List Int).length:Int))=true from rfl];refine uS ?_;refine aGk ?_;rw[show((([]:List Int).length:Int)==0)=true from rfl]
      (first|refine nO rfl rfl rfl rfl rfl ?_ |(refine gD rfl rfl rfl (aF (by first|exact W rfl id|exact E rfl)) rfl ?_)|refine fQ rfl rfl rfl (aF (by first|exact W rfl id|exact E rfl)) rfl ?_);first|refine nO rfl rfl rfl rfl rfl ?_ |(refine gD rfl rfl rfl (aF (E rfl)) rfl ?_)|refine fQ rfl rfl rfl (aF (E rfl)) rfl ?_ |refine iS rfl rfl rfl (aF (E rfl)) rfl ?_ |refine iS rfl rfl rfl (bR (v:=.bool false)) rfl ?_
      first
        |refine nO rfl rfl rfl rfl rfl ?_
        |(
          first
           |refine gD rfl rfl rfl (bH (by
            first
             |exact W rfl id
             |exact E rfl) (E rfl) (fun hc=>by(simp only[List.length_map];omega))) rfl ?_
           |refine gD rfl rfl rfl (aW (by
            first
             |exact W rfl id
             |exact E rfl) bC (E rfl) (fun hc=>by omega)) rfl ?_
           |refine gD rfl rfl rfl (bL (by
            first
             |exact W rfl id
             |exact E rfl) bC (E rfl) (fun hc=>by omega)) rfl ?_)
        |refine fQ rfl rfl rfl (bH (by
           first
            |exact W rfl (by
            first
             |exact id
             |simp)
            |exact E rfl) (E rfl) (fun hc=>by(try simp at hc)<;>(simp only[List.length_map];omega))) rfl ?_
        |refine fQ rfl rfl rfl (aW (by
           first
            |exact W rfl (by
            first
             |exact id
             |simp)
            |exact E rfl) bC (E rfl) (fun hc=>by(try simp at hc)<;>omega)) rfl ?_
        |refine fQ rfl rfl rfl (bL (by
           first
            |exact W rfl (by
            first
             |exact id
             |simp)
            |exact E rfl) bC (E rfl) (fun hc=>by(try simp at hc)<;>omega)) rfl ?_
        |refine iS rfl rfl rfl (bH (by
           first
            |exact W rfl (by
            first
             |exact id
             |simp)
            |exact E rfl) (E rfl) (fun hc=>by(try simp at hc)<;>(simp only[List.length_map];omega))) rfl ?_
        |refine iS rfl rfl rfl (aW (by
           first
            |exact W rfl (by
            first
             |exact id
             |simp)
            |exact E rfl) bC (E rfl) (fun hc=>by(try simp at hc)<;>omega)) rfl ?_
        |refine iS rfl rfl rfl (bL (by
           first
            |exact W rfl (by
            first
             |exact id
             |simp)
            |exact E rfl) bC (E rfl) (fun hc=>by(try simp at hc)<;>omega)) rfl ?_
        |refine iS rfl rfl rfl (bR (v:=.bool false)) rfl ?_
      first
        |refine nO rfl rfl rfl rfl rfl ?_
        |(
          first
           |refine gD rfl rfl rfl (aR (by
            first
             |exact W rfl id
             |exact E rfl) rfl (fun hc=>by
            first
             |rfl
             |exact aH (by assumption)
             |assumption
             |exact aH (aX (by omega))) (fun _=>rfl)) rfl ?_
           |refine gD rfl rfl rfl (bJ (by
            first
             |exact W rfl id
             |exact E rfl) rfl bC (fun hc=>by
            first
             |rfl
             |exact aH (by assumption)
             |assumption
             |exact aH (aX (by omega))) (fun _=>rfl)) rfl ?_)
        |refine fQ rfl rfl rfl (aR (by
           first
            |exact W rfl (by
            first
             |exact id
             |simp)
            |exact E rfl) rfl (fun hc=>by
           first
            |rfl
            |exact aH (by assumption)
            |assumption
            |exact aH (aX (by(try simp at hc)<;>omega))) (fun _=>rfl)) rfl ?_
        |refine fQ rfl rfl rfl (bJ (by
           first
            |exact W rfl (by
            first
             |exact id
             |simp)
            |exact E rfl) rfl bC (fun hc=>by
           first
            |rfl
            |exact aH (by assumption)
            |assumption
            |exact aH (aX (by(try simp at hc)<;>omega))) (fun _=>rfl)) rfl ?_
        |refine iS rfl rfl rfl (aR (by
           first
            |exact W rfl (by
            first
             |exact id
             |simp)
            |exact E rfl) rfl (fun hc=>by
           first
            |rfl
            |exact aH (by assumption)
            |assumption
            |exact aH (aX (by(try simp at hc)<;>omega))) (fun _=>rfl)) rfl ?_
        |refine iS rfl rfl rfl (bJ (by
           first
            |exact W rfl (by
            first
             |exact id
             |simp)
            |exact E rfl) rfl bC (fun hc=>by
           first
            |rfl
            |exact aH (by assumption)
            |assumption
            |exact aH (aX (by(try simp at hc)<;>omega))) (fun _=>rfl)) rfl ?_
        |refine iS rfl rfl rfl (bR (v:=.bool false)) rfl ?_
      first|refine nO rfl rfl rfl rfl rfl ?_ |(refine gD rfl rfl rfl (aF (E rfl)) rfl ?_)|refine fQ rfl rfl rfl (aF (E rfl)) rfl ?_ |refine iS rfl rfl rfl (aF (E rfl)) rfl ?_ |refine iS rfl rfl rfl (bR (v:=.bool false)) rfl ?_
      first
        |refine nO rfl rfl rfl rfl rfl ?_
        |(
          first
           |refine gD rfl rfl rfl (bH (by
            first
             |exact W rfl id
             |exact E rfl) (E rfl) (fun hc=>by(simp only[List.length_map];omega))) rfl ?_
           |refine gD rfl rfl rfl (aW (by
            first
             |exact W rfl id
             |exact E rfl) bC (E rfl) (fun hc=>by omega)) rfl ?_
           |refine gD rfl rfl rfl (bL (by
            first
             |exact W rfl id
             |exact E rfl) bC (E rfl) (fun hc=>by omega)) rfl ?_)
        |refine fQ rfl rfl rfl (bH (by
           first
            |exact W rfl (by
            first
             |exact id
             |simp)
            |exact E rfl) (E rfl) (fun hc=>by(try simp at hc)<;>(simp only[List.length_map];omega))) rfl ?_
        |refine fQ rfl rfl rfl (aW (by
           first
            |exact W rfl (by
            first
             |exact id
             |simp)
            |exact E rfl) bC (E rfl) (fun hc=>by(try simp at hc)<;>omega)) rfl ?_
        |refine fQ rfl rfl rfl (bL (by
           first
            |exact W rfl (by
            first
             |exact id
             |simp)
            |exact E rfl) bC (E rfl) (fun hc=>by(try simp at hc)<;>omega)) rfl ?_
        |refine iS rfl rfl rfl (bH (by
           first
            |exact W rfl (by
            first
             |exact id
             |simp)
            |exact E rfl) (E rfl) (fun hc=>by(try simp at hc)<;>(simp only[List.length_map];omega))) rfl ?_
        |refine iS rfl rfl rfl (aW (by
           first
            |exact W rfl (by
            first
             |exact id
             |simp)
            |exact E rfl) bC (E rfl) (fun hc=>by(try simp at hc)<;>omega)) rfl ?_
        |refine iS rfl rfl rfl (bL (by
           first
            |exact W rfl (by
            first
             |exact id
             |simp)
            |exact E rfl) bC (E rfl) (fun hc=>by(try simp at hc)<;>omega)) rfl ?_
        |refine iS rfl rfl rfl (bR (v:=.bool false)) rfl ?_
      first
        |refine nO rfl rfl rfl rfl rfl ?_
        |(
          first
           |refine gD rfl rfl rfl (aR (by
            first
             |exact W rfl id
             |exact E rfl) rfl (fun hc=>by
            first
             |rfl
             |exact aH (by assumption)
             |assumption
             |exact aH (aX (by omega))) (fun _=>rfl)) rfl ?_
           |refine gD rfl rfl rfl (bJ (by
            first
             |exact W rfl id
             |exact E rfl) rfl bC (fun hc=>by
            first
             |rfl
             |exact aH (by assumption)
             |assumption
             |exact aH (aX (by omega))) (fun _=>rfl)) rfl ?_)
        |refine fQ rfl rfl rfl (aR (by
           first
            |exact W rfl (by
            first
             |exact id
             |simp)
            |exact E rfl) rfl (fun hc=>by
           first
            |rfl
            |exact aH (by assumption)
            |assumption
            |exact aH (aX (by(try simp at hc)<;>omega))) (fun _=>rfl)) rfl ?_
        |refine fQ rfl rfl rfl (bJ (by
           first
            |exact W rfl (by
            first
             |exact id
             |simp)
            |exact E rfl) rfl bC (fun hc=>by
           first
            |rfl
            |exact aH (by assumption)
            |assumption
            |exact aH (aX (by(try simp at hc)<;>omega))) (fun _=>rfl)) rfl ?_
        |refine iS rfl rfl rfl (aR (by
           first
            |exact W rfl (by
            first
             |exact id
             |simp)
            |exact E rfl) rfl (fun hc=>by
           first
            |rfl
            |exact aH (by assumption)
            |assumption
            |exact aH (aX (by(try simp at hc)<;>omega))) (fun _=>rfl)) rfl ?_
        |refine iS rfl rfl rfl (bJ (by
           first
            |exact W rfl (by
            first
             |exact id
             |simp)
            |exact E rfl) rfl bC (fun hc=>by
           first
            |rfl
            |exact aH (by assumption)
            |assumption
            |exact aH (aX (by(try simp at hc)<;>omega))) (fun _=>rfl)) rfl ?_
        |refine iS rfl rfl rfl (bR (v:=.bool false)) rfl ?_
      first|refine nO rfl rfl rfl rfl rfl ?_ |(refine gD rfl rfl rfl (cN (by first|exact W rfl id|exact E rfl) (by first|exact W rfl id|exact E rfl)) rfl ?_)|refine fQ rfl rfl rfl (cN (by first|exact W rfl (by first|exact id|simp)|exact E rfl) (by first|exact W rfl (by first|exact id|simp)|exact E rfl)) rfl ?_ |refine iS rfl rfl rfl (cN (by first|exact W rfl (by first|exact id|simp)|exact E rfl) (by first|exact W rfl (by first|exact id|simp)|exact E rfl)) rfl ?_ |refine iS rfl rfl rfl (bR (v:=.bool false)) rfl ?_
      refine aC0 ?_;refine pD (dH r p q m lv (cU S n).2) rfl Tryz.call189 (jZ hN0 _ true) rfl aC bZ aA8 ?_;rintro _ σ' rfl h44;refine OE ?_;refine CC ?_;refine jH ?_;refine⟨j+1,hlt,by show xl.length-(j+1)<xl.length-j;omega, ?_⟩
      (try dsimp only);rw[hnx];exact aJ
    · rw[ea];subst eb;rw[ea,show eq1 [] [v]=false by simp[eq1]]at hnx;refine fJ [(0,true),(1,true),(2,true),(3,true),(4,true),(5,true),(6,true),(7,true),(8,true),(9,true),(10,true),(11,true),(12,true),(13,true),(14,true),(15,true),(16,true),(17,true),(18,true),(19,true),(20,false)] ?_;refine lF ?_;refine OH ?_;refine UD ?_;refine z79 ?_;rw[show((([]:List Int).length:Int)==(([v]:List Int).length:Int))=false from rfl];refine uS ?_;refine aFf ?_;first|refine nO rfl rfl rfl rfl rfl ?_ |(refine gD rfl rfl rfl (aF (E rfl)) rfl ?_)|refine fQ rfl rfl rfl (aF (E rfl)) rfl ?_ |refine iS rfl rfl rfl (aF (E rfl)) rfl ?_ |refine iS rfl rfl rfl (bR (v:=.bool false)) rfl ?_
      first
        |refine nO rfl rfl rfl rfl rfl ?_
        |(
          first
           |refine gD rfl rfl rfl (bH (by
            first
             |exact W rfl id
             |exact E rfl) (E rfl) (fun hc=>by(simp only[List.length_map];omega))) rfl ?_
           |refine gD rfl rfl rfl (aW (by
            first
             |exact W rfl id
             |exact E rfl) bC (E rfl) (fun hc=>by omega)) rfl ?_
           |refine gD rfl rfl rfl (bL (by
            first
             |exact W rfl id
             |exact E rfl) bC (E rfl) (fun hc=>by omega)) rfl ?_)
        |refine fQ rfl rfl rfl (bH (by
           first
            |exact W rfl (by
            first
             |exact id
             |simp)
            |exact E rfl) (E rfl) (fun hc=>by(try simp at hc)<;>(simp only[List.length_map];omega))) rfl ?_
        |refine fQ rfl rfl rfl (aW (by
           first
            |exact W rfl (by
            first
             |exact id
             |simp)
            |exact E rfl) bC (E rfl) (fun hc=>by(try simp at hc)<;>omega)) rfl ?_
        |refine fQ rfl rfl rfl (bL (by
           first
            |exact W rfl (by
            first
             |exact id
             |simp)
            |exact E rfl) bC (E rfl) (fun hc=>by(try simp at hc)<;>omega)) rfl ?_
        |refine iS rfl rfl rfl (bH (by
           first
            |exact W rfl (by
            first
             |exact id
             |simp)
            |exact E rfl) (E rfl) (fun hc=>by(try simp at hc)<;>(simp only[List.length_map];omega))) rfl ?_
        |refine iS rfl rfl rfl (aW (by
           first
            |exact W rfl (by
            first
             |exact id
             |simp)
            |exact E rfl) bC (E rfl) (fun hc=>by(try simp at hc)<;>omega)) rfl ?_
        |refine iS rfl rfl rfl (bL (by
           first
            |exact W rfl (by
            first
             |exact id
             |simp)
            |exact E rfl) bC (E rfl) (fun hc=>by(try simp at hc)<;>omega)) rfl ?_
        |refine iS rfl rfl rfl (bR (v:=.bool false)) rfl ?_
      first
        |refine nO rfl rfl rfl rfl rfl ?_
        |(
          first
           |refine gD rfl rfl rfl (aR (by
            first
             |exact W rfl id
             |exact E rfl) rfl (fun hc=>by
            first
             |rfl
             |exact aH (by assumption)
             |assumption
             |exact aH (aX (by omega))) (fun _=>rfl)) rfl ?_
           |refine gD rfl rfl rfl (bJ (by
            first
             |exact W rfl id
             |exact E rfl) rfl bC (fun hc=>by
            first
             |rfl
             |exact aH (by assumption)
             |assumption
             |exact aH (aX (by omega))) (fun _=>rfl)) rfl ?_)
        |refine fQ rfl rfl rfl (aR (by
           first
            |exact W rfl (by
            first
             |exact id
             |simp)
            |exact E rfl) rfl (fun hc=>by
           first
            |rfl
            |exact aH (by assumption)
            |assumption
            |exact aH (aX (by(try simp at hc)<;>omega))) (fun _=>rfl)) rfl ?_
        |refine fQ rfl rfl rfl (bJ (by
           first
            |exact W rfl (by
            first
             |exact id
             |simp)
            |exact E rfl) rfl bC (fun hc=>by
           first
            |rfl
            |exact aH (by assumption)
            |assumption
            |exact aH (aX (by(try simp at hc)<;>omega))) (fun _=>rfl)) rfl ?_
        |refine iS rfl rfl rfl (aR (by
           first
            |exact W rfl (by
            first
             |exact id
             |simp)
            |exact E rfl) rfl (fun hc=>by
           first
            |rfl
            |exact aH (by assumption)
            |assumption
            |exact aH (aX (by(try simp at hc)<;>omega))) (fun _=>rfl)) rfl ?_
        |refine iS rfl rfl rfl (bJ (by
           first
            |exact W rfl (by
            first
             |exact id
             |simp)
            |exact E rfl) rfl bC (fun hc=>by
           first
            |rfl
            |exact aH (by assumption)
            |assumption
            |exact aH (aX (by(try simp at hc)<;>omega))) (fun _=>rfl)) rfl ?_
        |refine iS rfl rfl rfl (bR (v:=.bool false)) rfl ?_
      first|refine nO rfl rfl rfl rfl rfl ?_ |(refine gD rfl rfl rfl (aF (E rfl)) rfl ?_)|refine fQ rfl rfl rfl (aF (E rfl)) rfl ?_ |refine iS rfl rfl rfl (aF (E rfl)) rfl ?_ |refine iS rfl rfl rfl (bR (v:=.bool false)) rfl ?_
      first
        |refine nO rfl rfl rfl rfl rfl ?_
        |(
          first
           |refine gD rfl rfl rfl (bH (by
            first
             |exact W rfl id
             |exact E rfl) (E rfl) (fun hc=>by(simp only[List.length_map];omega))) rfl ?_
           |refine gD rfl rfl rfl (aW (by
            first
             |exact W rfl id
             |exact E rfl) bC (E rfl) (fun hc=>by omega)) rfl ?_
           |refine gD rfl rfl rfl (bL (by
            first
             |exact W rfl id
             |exact E rfl) bC (E rfl) (fun hc=>by omega)) rfl ?_)
        |refine fQ rfl rfl rfl (bH (by
           first
            |exact W rfl (by
            first
             |exact id
             |simp)
            |exact E rfl) (E rfl) (fun hc=>by(try simp at hc)<;>(simp only[List.length_map];omega))) rfl ?_
        |refine fQ rfl rfl rfl (aW (by
           first
            |exact W rfl (by
            first
             |exact id
             |simp)
            |exact E rfl) bC (E rfl) (fun hc=>by(try simp at hc)<;>omega)) rfl ?_
        |refine fQ rfl rfl rfl (bL (by
           first
            |exact W rfl (by
            first
             |exact id
             |simp)
            |exact E rfl) bC (E rfl) (fun hc=>by(try simp at hc)<;>omega)) rfl ?_
        |refine iS rfl rfl rfl (bH (by
           first
            |exact W rfl (by
            first
             |exact id
             |simp)
            |exact E rfl) (E rfl) (fun hc=>by(try simp at hc)<;>(simp only[List.length_map];omega))) rfl ?_
        |refine iS rfl rfl rfl (aW (by
           first
            |exact W rfl (by
            first
             |exact id
             |simp)
            |exact E rfl) bC (E rfl) (fun hc=>by(try simp at hc)<;>omega)) rfl ?_
        |refine iS rfl rfl rfl (bL (by
           first
            |exact W rfl (by
            first
             |exact id
             |simp)
            |exact E rfl) bC (E rfl) (fun hc=>by(try simp at hc)<;>omega)) rfl ?_
        |refine iS rfl rfl rfl (bR (v:=.bool false)) rfl ?_
      first
        |refine nO rfl rfl rfl rfl rfl ?_
        |(
          first
           |refine gD rfl rfl rfl (aR (by
            first
             |exact W rfl id
             |exact E rfl) rfl (fun hc=>by
            first
             |rfl
             |exact aH (by assumption)
             |assumption
             |exact aH (aX (by omega))) (fun _=>rfl)) rfl ?_
           |refine gD rfl rfl rfl (bJ (by
            first
             |exact W rfl id
             |exact E rfl) rfl bC (fun hc=>by
            first
             |rfl
             |exact aH (by assumption)
             |assumption
             |exact aH (aX (by omega))) (fun _=>rfl)) rfl ?_)
        |refine fQ rfl rfl rfl (aR (by
           first
            |exact W rfl (by
            first
             |exact id
             |simp)
            |exact E rfl) rfl (fun hc=>by
           first
            |rfl
            |exact aH (by assumption)
            |assumption
            |exact aH (aX (by(try simp at hc)<;>omega))) (fun _=>rfl)) rfl ?_
        |refine fQ rfl rfl rfl (bJ (by
           first
            |exact W rfl (by
            first
             |exact id
             |simp)
            |exact E rfl) rfl bC (fun hc=>by
           first
            |rfl
            |exact aH (by assumption)
            |assumption
            |exact aH (aX (by(try simp at hc)<;>omega))) (fun _=>rfl)) rfl ?_
        |refine iS rfl rfl rfl (aR (by
           first
            |exact W rfl (by
            first
             |exact id
             |simp)
            |exact E rfl) rfl (fun hc=>by
           first
            |rfl
            |exact aH (by assumption)
            |assumption
            |exact aH (aX (by(try simp at hc)<;>omega))) (fun _=>rfl)) rfl ?_
        |refine iS rfl rfl rfl (bJ (by
           first
            |exact W rfl (by
            first
             |exact id
             |simp)
            |exact E rfl) rfl bC (fun hc=>by
           first
            |rfl
            |exact aH (by assumption)
            |assumption
            |exact aH (aX (by(try simp at hc)<;>omega))) (fun _=>rfl)) rfl ?_
        |refine iS rfl rfl rfl (bR (v:=.bool false)) rfl ?_
      first|refine nO rfl rfl rfl rfl rfl ?_ |(refine gD rfl rfl rfl (cN (by first|exact W rfl id|exact E rfl) (by first|exact W rfl id|exact E rfl)) rfl ?_)|refine fQ rfl rfl rfl (cN (by first|exact W rfl (by first|exact id|simp)|exact E rfl) (by first|exact W rfl (by first|exact id|simp)|exact E rfl)) rfl ?_ |refine iS rfl rfl rfl (cN (by first|exact W rfl (by first|exact id|simp)|exact E rfl) (by first|exact W rfl (by first|exact id|simp)|exact E rfl)) rfl ?_ |refine iS rfl rfl rfl (bR (v:=.bool false)) rfl ?_
      refine aC0 ?_;refine pD (dH r p q m lv (cU S n).2) rfl Tryz.call189 (jZ hN0 _ false) rfl aC bZ aA8 ?_;rintro _ σ' rfl h44;refine OE ?_;refine CC ?_;refine jH ?_;refine⟨j+1,hlt,by show xl.length-(j+1)<xl.length-j;omega, ?_⟩
      (try dsimp only);rw[hnx];exact aJ
    · rw[ea];subst eb;rw[ea,show eq1 [g] []=false by simp[eq1]]at hnx;refine fJ [(0,true),(1,true),(2,true),(3,true),(4,true),(5,true),(6,true),(7,true),(8,true),(9,true),(10,true),(11,true),(12,true),(13,true),(14,true),(15,true),(16,true),(17,true),(18,true),(19,true),(20,false)] ?_;refine lF ?_;refine OH ?_;refine UD ?_;refine z79 ?_;rw[show((([g]:List Int).length:Int)==(([]:List Int).length:Int))=false from rfl];refine uS ?_;refine aFf ?_;first|refine nO rfl rfl rfl rfl rfl ?_ |(refine gD rfl rfl rfl (aF (E rfl)) rfl ?_)|refine fQ rfl rfl rfl (aF (E rfl)) rfl ?_ |refine iS rfl rfl rfl (aF (E rfl)) rfl ?_ |refine iS rfl rfl rfl (bR (v:=.bool false)) rfl ?_
      first
        |refine nO rfl rfl rfl rfl rfl ?_
        |(
          first
           |refine gD rfl rfl rfl (bH (by
            first
             |exact W rfl id
             |exact E rfl) (E rfl) (fun hc=>by(simp only[List.length_map];omega))) rfl ?_
           |refine gD rfl rfl rfl (aW (by
            first
             |exact W rfl id
             |exact E rfl) bC (E rfl) (fun hc=>by omega)) rfl ?_
           |refine gD rfl rfl rfl (bL (by
            first
             |exact W rfl id
             |exact E rfl) bC (E rfl) (fun hc=>by omega)) rfl ?_)
        |refine fQ rfl rfl rfl (bH (by
           first
            |exact W rfl (by
            first
             |exact id
             |simp)
            |exact E rfl) (E rfl) (fun hc=>by(try simp at hc)<;>(simp only[List.length_map];omega))) rfl ?_
        |refine fQ rfl rfl rfl (aW (by
           first
            |exact W rfl (by
            first
             |exact id
             |simp)
            |exact E rfl) bC (E rfl) (fun hc=>by(try simp at hc)<;>omega)) rfl ?_
        |refine fQ rfl rfl rfl (bL (by
           first
            |exact W rfl (by
            first
             |exact id
             |simp)
            |exact E rfl) bC (E rfl) (fun hc=>by(try simp at hc)<;>omega)) rfl ?_
        |refine iS rfl rfl rfl (bH (by
           first
            |exact W rfl (by
            first
             |exact id
             |simp)
            |exact E rfl) (E rfl) (fun hc=>by(try simp at hc)<;>(simp only[List.length_map];omega))) rfl ?_
        |refine iS rfl rfl rfl (aW (by
           first
            |exact W rfl (by
            first
             |exact id
             |simp)
            |exact E rfl) bC (E rfl) (fun hc=>by(try simp at hc)<;>omega)) rfl ?_
        |refine iS rfl rfl rfl (bL (by
           first
            |exact W rfl (by
            first
             |exact id
             |simp)
            |exact E rfl) bC (E rfl) (fun hc=>by(try simp at hc)<;>omega)) rfl ?_
        |refine iS rfl rfl rfl (bR (v:=.bool false)) rfl ?_
      first
        |refine nO rfl rfl rfl rfl rfl ?_
        |(
          first
           |refine gD rfl rfl rfl (aR (by
            first
             |exact W rfl id
             |exact E rfl) rfl (fun hc=>by
            first
             |rfl
             |exact aH (by assumption)
             |assumption
             |exact aH (aX (by omega))) (fun _=>rfl)) rfl ?_
           |refine gD rfl rfl rfl (bJ (by
            first
             |exact W rfl id
             |exact E rfl) rfl bC (fun hc=>by
            first
             |rfl
             |exact aH (by assumption)
             |assumption
             |exact aH (aX (by omega))) (fun _=>rfl)) rfl ?_)
        |refine fQ rfl rfl rfl (aR (by
           first
            |exact W rfl (by
            first
             |exact id
             |simp)
            |exact E rfl) rfl (fun hc=>by
           first
            |rfl
            |exact aH (by assumption)
            |assumption
            |exact aH (aX (by(try simp at hc)<;>omega))) (fun _=>rfl)) rfl ?_
        |refine fQ rfl rfl rfl (bJ (by
           first
            |exact W rfl (by
            first
             |exact id
             |simp)
            |exact E rfl) rfl bC (fun hc=>by
           first
            |rfl
            |exact aH (by assumption)
            |assumption
            |exact aH (aX (by(try simp at hc)<;>omega))) (fun _=>rfl)) rfl ?_
        |refine iS rfl rfl rfl (aR (by
           first
            |exact W rfl (by
            first
             |exact id
             |simp)
            |exact E rfl) rfl (fun hc=>by
           first
            |rfl
            |exact aH (by assumption)
            |assumption
            |exact aH (aX (by(try simp at hc)<;>omega))) (fun _=>rfl)) rfl ?_
        |refine iS rfl rfl rfl (bJ (by
           first
            |exact W rfl (by
            first
             |exact id
             |simp)
            |exact E rfl) rfl bC (fun hc=>by
           first
            |rfl
            |exact aH (by assumption)
            |assumption
            |exact aH (aX (by(try simp at hc)<;>omega))) (fun _=>rfl)) rfl ?_
        |refine iS rfl rfl rfl (bR (v:=.bool false)) rfl ?_
      first|refine nO rfl rfl rfl rfl rfl ?_ |(refine gD rfl rfl rfl (aF (E rfl)) rfl ?_)|refine fQ rfl rfl rfl (aF (E rfl)) rfl ?_ |refine iS rfl rfl rfl (aF (E rfl)) rfl ?_ |refine iS rfl rfl rfl (bR (v:=.bool false)) rfl ?_
      first
        |refine nO rfl rfl rfl rfl rfl ?_
        |(
          first
           |refine gD rfl rfl rfl (bH (by
            first
             |exact W rfl id
             |exact E rfl) (E rfl) (fun hc=>by(simp only[List.length_map];omega))) rfl ?_
           |refine gD rfl rfl rfl (aW (by
            first
             |exact W rfl id
             |exact E rfl) bC (E rfl) (fun hc=>by omega)) rfl ?_
           |refine gD rfl rfl rfl (bL (by
            first
             |exact W rfl id
             |exact E rfl) bC (E rfl) (fun hc=>by omega)) rfl ?_)
        |refine fQ rfl rfl rfl (bH (by
           first
            |exact W rfl (by
            first
             |exact id
             |simp)
            |exact E rfl) (E rfl) (fun hc=>by(try simp at hc)<;>(simp only[List.length_map];omega))) rfl ?_
        |refine fQ rfl rfl rfl (aW (by
           first
            |exact W rfl (by
            first
             |exact id
             |simp)
            |exact E rfl) bC (E rfl) (fun hc=>by(try simp at hc)<;>omega)) rfl ?_
        |refine fQ rfl rfl rfl (bL (by
           first
            |exact W rfl (by
            first
             |exact id
             |simp)
            |exact E rfl) bC (E rfl) (fun hc=>by(try simp at hc)<;>omega)) rfl ?_
        |refine iS rfl rfl rfl (bH (by
           first
            |exact W rfl (by
            first
             |exact id
             |simp)
            |exact E rfl) (E rfl) (fun hc=>by(try simp at hc)<;>(simp only[List.length_map];omega))) rfl ?_
        |refine iS rfl rfl rfl (aW (by
           first
            |exact W rfl (by
            first
             |exact id
             |simp)
            |exact E rfl) bC (E rfl) (fun hc=>by(try simp at hc)<;>omega)) rfl ?_
        |refine iS rfl rfl rfl (bL (by
           first
            |exact W rfl (by
            first
             |exact id
             |simp)
            |exact E rfl) bC (E rfl) (fun hc=>by(try simp at hc)<;>omega)) rfl ?_
        |refine iS rfl rfl rfl (bR (v:=.bool false)) rfl ?_
      first
        |refine nO rfl rfl rfl rfl rfl ?_
        |(
          first
           |refine gD rfl rfl rfl (aR (by
            first
             |exact W rfl id
             |exact E rfl) rfl (fun hc=>by
            first
             |rfl
             |exact aH (by assumption)
             |assumption
             |exact aH (aX (by omega))) (fun _=>rfl)) rfl ?_
           |refine gD rfl rfl rfl (bJ (by
            first
             |exact W rfl id
             |exact E rfl) rfl bC (fun hc=>by
            first
             |rfl
             |exact aH (by assumption)
             |assumption
             |exact aH (aX (by omega))) (fun _=>rfl)) rfl ?_)
        |refine fQ rfl rfl rfl (aR (by
           first
            |exact W rfl (by
            first
             |exact id
             |simp)
            |exact E rfl) rfl (fun hc=>by
           first
            |rfl
            |exact aH (by assumption)
            |assumption
            |exact aH (aX (by(try simp at hc)<;>omega))) (fun _=>rfl)) rfl ?_
        |refine fQ rfl rfl rfl (bJ (by
           first
            |exact W rfl (by
            first
             |exact id
             |simp)
            |exact E rfl) rfl bC (fun hc=>by
           first
            |rfl
            |exact aH (by assumption)
            |assumption
            |exact aH (aX (by(try simp at hc)<;>omega))) (fun _=>rfl)) rfl ?_
        |refine iS rfl rfl rfl (aR (by
           first
            |exact W rfl (by
            first
             |exact id
             |simp)
            |exact E rfl) rfl (fun hc=>by
           first
            |rfl
            |exact aH (by assumption)
            |assumption
            |exact aH (aX (by(try simp at hc)<;>omega))) (fun _=>rfl)) rfl ?_
        |refine iS rfl rfl rfl (bJ (by
           first
            |exact W rfl (by
            first
             |exact id
             |simp)
            |exact E rfl) rfl bC (fun hc=>by
           first
            |rfl
            |exact aH (by assumption)
            |assumption
            |exact aH (aX (by(try simp at hc)<;>omega))) (fun _=>rfl)) rfl ?_
        |refine iS rfl rfl rfl (bR (v:=.bool false)) rfl ?_
      first|refine nO rfl rfl rfl rfl rfl ?_ |(refine gD rfl rfl rfl (cN (by first|exact W rfl id|exact E rfl) (by first|exact W rfl id|exact E rfl)) rfl ?_)|refine fQ rfl rfl rfl (cN (by first|exact W rfl (by first|exact id|simp)|exact E rfl) (by first|exact W rfl (by first|exact id|simp)|exact E rfl)) rfl ?_ |refine iS rfl rfl rfl (cN (by first|exact W rfl (by first|exact id|simp)|exact E rfl) (by first|exact W rfl (by first|exact id|simp)|exact E rfl)) rfl ?_ |refine iS rfl rfl rfl (bR (v:=.bool false)) rfl ?_
      refine aC0 ?_;refine pD (dH r p q m lv (cU S n).2) rfl Tryz.call189 (jZ hN0 _ false) rfl aC bZ aA8 ?_;rintro _ σ' rfl h44;refine OE ?_;refine CC ?_;refine jH ?_;refine⟨j+1,hlt,by show xl.length-(j+1)<xl.length-j;omega, ?_⟩
      (try dsimp only);rw[hnx];exact aJ
    · rw[ea];subst eb;rw[ea,show eq1 [g] [v]=(g==v) by simp[eq1]]at hnx;have hg1:[g].length=1:=rfl;have hv1:[v].length=1:=rfl;refine fJ [(0,true),(1,true),(2,true),(3,true),(4,true),(5,true),(6,true),(7,true),(8,true),(9,true),(10,true),(11,true),(12,true),(13,true),(14,true),(15,true),(16,true),(17,true),(18,true),(19,true),(20,false)] ?_;refine lF ?_;refine OH ?_;refine UD ?_;refine z79 ?_;rw[show((([g]:List Int).length:Int)==(([v]:List Int).length:Int))=true from rfl];refine uS ?_;refine aGk ?_;rw[show((([g]:List Int).length:Int)==0)=false from rfl]
      (first|refine nO rfl rfl rfl rfl rfl ?_ |(refine gD rfl rfl rfl (aF (by first|exact W rfl id|exact E rfl)) rfl ?_)|refine fQ rfl rfl rfl (aF (by first|exact W rfl id|exact E rfl)) rfl ?_);first|refine nO rfl rfl rfl rfl rfl ?_ |(refine gD rfl rfl rfl (aF (E rfl)) rfl ?_)|refine fQ rfl rfl rfl (aF (E rfl)) rfl ?_ |refine iS rfl rfl rfl (aF (E rfl)) rfl ?_ |refine iS rfl rfl rfl (bR (v:=.bool false)) rfl ?_
      first
        |refine nO rfl rfl rfl rfl rfl ?_
        |(
          first
           |refine gD rfl rfl rfl (bH (by
            first
             |exact W rfl id
             |exact E rfl) (E rfl) (fun hc=>by(simp only[List.length_map];omega))) rfl ?_
           |refine gD rfl rfl rfl (aW (by
            first
             |exact W rfl id
             |exact E rfl) bC (E rfl) (fun hc=>by omega)) rfl ?_
           |refine gD rfl rfl rfl (bL (by
            first
             |exact W rfl id
             |exact E rfl) bC (E rfl) (fun hc=>by omega)) rfl ?_)
        |refine fQ rfl rfl rfl (bH (by
           first
            |exact W rfl (by
            first
             |exact id
             |simp)
            |exact E rfl) (E rfl) (fun hc=>by(try simp at hc)<;>(simp only[List.length_map];omega))) rfl ?_
        |refine fQ rfl rfl rfl (aW (by
           first
            |exact W rfl (by
            first
             |exact id
             |simp)
            |exact E rfl) bC (E rfl) (fun hc=>by(try simp at hc)<;>omega)) rfl ?_
        |refine fQ rfl rfl rfl (bL (by
           first
            |exact W rfl (by
            first
             |exact id
             |simp)
            |exact E rfl) bC (E rfl) (fun hc=>by(try simp at hc)<;>omega)) rfl ?_
        |refine iS rfl rfl rfl (bH (by
           first
            |exact W rfl (by
            first
             |exact id
             |simp)
            |exact E rfl) (E rfl) (fun hc=>by(try simp at hc)<;>(simp only[List.length_map];omega))) rfl ?_
        |refine iS rfl rfl rfl (aW (by
           first
            |exact W rfl (by
            first
             |exact id
             |simp)
            |exact E rfl) bC (E rfl) (fun hc=>by(try simp at hc)<;>omega)) rfl ?_
        |refine iS rfl rfl rfl (bL (by
           first
            |exact W rfl (by
            first
             |exact id
             |simp)
            |exact E rfl) bC (E rfl) (fun hc=>by(try simp at hc)<;>omega)) rfl ?_
        |refine iS rfl rfl rfl (bR (v:=.bool false)) rfl ?_
      first
        |refine nO rfl rfl rfl rfl rfl ?_
        |(
          first
           |refine gD rfl rfl rfl (aR (by
            first
             |exact W rfl id
             |exact E rfl) rfl (fun hc=>by
            first
             |rfl
             |exact aH (by assumption)
             |assumption
             |exact aH (aX (by omega))) (fun _=>rfl)) rfl ?_
           |refine gD rfl rfl rfl (bJ (by
            first
             |exact W rfl id
             |exact E rfl) rfl bC (fun hc=>by
            first
             |rfl
             |exact aH (by assumption)
             |assumption
             |exact aH (aX (by omega))) (fun _=>rfl)) rfl ?_)
        |refine fQ rfl rfl rfl (aR (by
           first
            |exact W rfl (by
            first
             |exact id
             |simp)
            |exact E rfl) rfl (fun hc=>by
           first
            |rfl
            |exact aH (by assumption)
            |assumption
            |exact aH (aX (by(try simp at hc)<;>omega))) (fun _=>rfl)) rfl ?_
        |refine fQ rfl rfl rfl (bJ (by
           first
            |exact W rfl (by
            first
             |exact id
             |simp)
            |exact E rfl) rfl bC (fun hc=>by
           first
            |rfl
            |exact aH (by assumption)
            |assumption
            |exact aH (aX (by(try simp at hc)<;>omega))) (fun _=>rfl)) rfl ?_
        |refine iS rfl rfl rfl (aR (by
           first
            |exact W rfl (by
            first
             |exact id
             |simp)
            |exact E rfl) rfl (fun hc=>by
           first
            |rfl
            |exact aH (by assumption)
            |assumption
            |exact aH (aX (by(try simp at hc)<;>omega))) (fun _=>rfl)) rfl ?_
        |refine iS rfl rfl rfl (bJ (by
           first
            |exact W rfl (by
            first
             |exact id
             |simp)
            |exact E rfl) rfl bC (fun hc=>by
           first
            |rfl
            |exact aH (by assumption)
            |assumption
            |exact aH (aX (by(try simp at hc)<;>omega))) (fun _=>rfl)) rfl ?_
        |refine iS rfl rfl rfl (bR (v:=.bool false)) rfl ?_
      first|refine nO rfl rfl rfl rfl rfl ?_ |(refine gD rfl rfl rfl (aF (E rfl)) rfl ?_)|refine fQ rfl rfl rfl (aF (E rfl)) rfl ?_ |refine iS rfl rfl rfl (aF (E rfl)) rfl ?_ |refine iS rfl rfl rfl (bR (v:=.bool false)) rfl ?_
      first
        |refine nO rfl rfl rfl rfl rfl ?_
        |(
          first
           |refine gD rfl rfl rfl (bH (by
            first
             |exact W rfl id
             |exact E rfl) (E rfl) (fun hc=>by(simp only[List.length_map];omega))) rfl ?_
           |refine gD rfl rfl rfl (aW (by
            first
             |exact W rfl id
             |exact E rfl) bC (E rfl) (fun hc=>by omega)) rfl ?_
           |refine gD rfl rfl rfl (bL (by
            first
             |exact W rfl id
             |exact E rfl) bC (E rfl) (fun hc=>by omega)) rfl ?_)
        |refine fQ rfl rfl rfl (bH (by
           first
            |exact W rfl (by
            first
             |exact id
             |simp)
            |exact E rfl) (E rfl) (fun hc=>by(try simp at hc)<;>(simp only[List.length_map];omega))) rfl ?_
        |refine fQ rfl rfl rfl (aW (by
           first
            |exact W rfl (by
            first
             |exact id
             |simp)
            |exact E rfl) bC (E rfl) (fun hc=>by(try simp at hc)<;>omega)) rfl ?_
        |refine fQ rfl rfl rfl (bL (by
           first
            |exact W rfl (by
            first
             |exact id
             |simp)
            |exact E rfl) bC (E rfl) (fun hc=>by(try simp at hc)<;>omega)) rfl ?_
        |refine iS rfl rfl rfl (bH (by
           first
            |exact W rfl (by
            first
             |exact id
             |simp)
            |exact E rfl) (E rfl) (fun hc=>by(try simp at hc)<;>(simp only[List.length_map];omega))) rfl ?_
        |refine iS rfl rfl rfl (aW (by
           first
            |exact W rfl (by
            first
             |exact id
             |simp)
            |exact E rfl) bC (E rfl) (fun hc=>by(try simp at hc)<;>omega)) rfl ?_
        |refine iS rfl rfl rfl (bL (by
           first
            |exact W rfl (by
            first
             |exact id
             |simp)
            |exact E rfl) bC (E rfl) (fun hc=>by(try simp at hc)<;>omega)) rfl ?_
        |refine iS rfl rfl rfl (bR (v:=.bool false)) rfl ?_
      first
        |refine nO rfl rfl rfl rfl rfl ?_
        |(
          first
           |refine gD rfl rfl rfl (aR (by
            first
             |exact W rfl id
             |exact E rfl) rfl (fun hc=>by
            first
             |rfl
             |exact aH (by assumption)
             |assumption
             |exact aH (aX (by omega))) (fun _=>rfl)) rfl ?_
           |refine gD rfl rfl rfl (bJ (by
            first
             |exact W rfl id
             |exact E rfl) rfl bC (fun hc=>by
            first
             |rfl
             |exact aH (by assumption)
             |assumption
             |exact aH (aX (by omega))) (fun _=>rfl)) rfl ?_)
        |refine fQ rfl rfl rfl (aR (by
           first
            |exact W rfl (by
            first
             |exact id
             |simp)
            |exact E rfl) rfl (fun hc=>by
           first
            |rfl
            |exact aH (by assumption)
            |assumption
            |exact aH (aX (by(try simp at hc)<;>omega))) (fun _=>rfl)) rfl ?_
        |refine fQ rfl rfl rfl (bJ (by
           first
            |exact W rfl (by
            first
             |exact id
             |simp)
            |exact E rfl) rfl bC (fun hc=>by
           first
            |rfl
            |exact aH (by assumption)
            |assumption
            |exact aH (aX (by(try simp at hc)<;>omega))) (fun _=>rfl)) rfl ?_
        |refine iS rfl rfl rfl (aR (by
           first
            |exact W rfl (by
            first
             |exact id
             |simp)
            |exact E rfl) rfl (fun hc=>by
           first
            |rfl
            |exact aH (by assumption)
            |assumption
            |exact aH (aX (by(try simp at hc)<;>omega))) (fun _=>rfl)) rfl ?_
        |refine iS rfl rfl rfl (bJ (by
           first
            |exact W rfl (by
            first
             |exact id
             |simp)
            |exact E rfl) rfl bC (fun hc=>by
           first
            |rfl
            |exact aH (by assumption)
            |assumption
            |exact aH (aX (by(try simp at hc)<;>omega))) (fun _=>rfl)) rfl ?_
        |refine iS rfl rfl rfl (bR (v:=.bool false)) rfl ?_
      first|refine nO rfl rfl rfl rfl rfl ?_ |(refine gD rfl rfl rfl (cN (by first|exact W rfl id|exact E rfl) (by first|exact W rfl id|exact E rfl)) rfl ?_)|refine fQ rfl rfl rfl (cN (by first|exact W rfl (by first|exact id|simp)|exact E rfl) (by first|exact W rfl (by first|exact id|simp)|exact E rfl)) rfl ?_ |refine iS rfl rfl rfl (cN (by first|exact W rfl (by first|exact id|simp)|exact E rfl) (by first|exact W rfl (by first|exact id|simp)|exact E rfl)) rfl ?_ |refine iS rfl rfl rfl (bR (v:=.bool false)) rfl ?_
      refine aC0 ?_;refine pD (dH r p q m lv (cU S n).2) rfl Tryz.call189 (jZ hN0 _ (g==v)) rfl aC bZ aA8 ?_;rintro _ σ' rfl h44;refine OE ?_;refine CC ?_;refine jH ?_;refine⟨j+1,hlt,by show xl.length-(j+1)<xl.length-j;omega, ?_⟩
      (try dsimp only);rw[hnx];exact aJ
  obtain rfl:j=xl.length:=by simp at g4;omega
  rw[List.take_length]at hS⊢;generalize xl.foldl (AS w) s2=S at hS⊢;have h5:=hS.pops w;unfold dH mL
  (try dsimp only);refine dG ?_;refine cw (dH r p q m lv S) Tryz.call192 (kX hN0 S hS w (by omega)) rfl aC bZ ?_;rintro _ σ' rfl h48;refine pX ?_;refine cw (dH r p q m lv (fA S w)) Tryz.call187 (CY hN0 _ h5) rfl aC bZ ?_;rintro _ σ' rfl h50;refine pZ ?_;refine cL ?_;apply aD;exact aE
  · rfl
  · exact aA
end
structure Ins.Ck (x:Ins):Prop where
 nn:x.op=12∨x.op=13∨x.op=14∨x.op=16∨x.op=32∨x.op=33∨x.op=34∨x.op=35∨x.op=36→0≤x.a
 ln:x.op=14→∀n∈x.l,0≤n
 ll:x.l.length≤1000000
 hi:x.a≤9223372036854775807
structure Md.Ck (m:Md):Prop where
 ts:m.TS
 im:m.im.length≤1000000
section
variable {r p q : Nat} {m : Md} {lv : AV}
theorem SO(hN:Nm r p q)(hm:m.Ck)(s:PS)(h:s.Gd)(hv:s.vs.length≤900000)(hc:s.cs.length≤900000)(x:Ins)(hx:x.Ck)(h11:x.op=11→2≤s.cs.length):SCall Tryz.prog 77 [.ptr r 0,.agg (iv .any x)] (dH r p q m lv s)
  (fun y σ=>∃e f,Nm r e f∧y=.bool (cG m s x).1∧σ=dH r e f m lv (cG m s x).2):=by
 have hN0:=hN;obtain⟨n1,n2,n3⟩:=hN;unfold iv;refine bS 133 [0,1,3,4,5,6,8,9,13,15,24,34,41,60,70,84,89,103,113] Tryz.func77 ?_;unfold dH mL
 (try dsimp only);refine cZ ?_;refine gQ fun r3 h3=> ?_;intros
 refine iJ ?_;refine rN ?_;refine aB rfl (fun g3=> ?_) (fun g3=> ?_)
 ·rw[show cG m s x=(true,pC s) by unfold cG;simp only[g3,if_true]];have hL:=hN0;refine cX ?_;refine cw (dH r p q m lv s) Tryz.call187 (CY hN0 s h) rfl aC bZ ?_;rintro _ σ' rfl h12;refine oE ?_;refine pO ?_;refine bF ?_;exact aD aE ⟨_,_,hL,by rfl,rfl⟩ aA
 refine dE ?_;refine aB rfl (fun g5=> ?_) (fun g5=> ?_)
 ·rw[show cG m s x=(true,s) by unfold cG;simp only[g3,g5,if_true,if_false,Bool.false_eq_true]];have hL:=hN0;refine bF ?_;exact aD aE ⟨_,_,hL,by rfl,rfl⟩ aA
 refine dE ?_;apply fR rfl;exact cO
 ·intro _;(refine aI ?_);refine eP ?_;exact aJ
 refine aI ?_;refine aB rfl (fun g6=> ?_) (fun g6=> ?_)
 ·refine aI ?_;rw[show cG m s x=(true,openP s x.op x.a) by unfold cG;simp only[g3,g5,g6,if_true,if_false,Bool.false_eq_true]];refine lA ?_;refine fO ?_;refine cw (dH r p q m lv s) Tryz.call76 (CX hN0 s h.bc x.op x.a) rfl aC bZ ?_;rintro _ σ' ⟨f,hL,rfl⟩ h23;unfold dH mL;(try dsimp only);obtain⟨e1,e2,e3⟩:=id hL;refine xD ?_;refine bF ?_;exact aD aE ⟨_,_,hL,by rfl,rfl⟩ aA
 refine dE ?_;refine aB rfl (fun g9=> ?_) (fun g9=> ?_)
 ·have h1:=h.pop 1;rw[show cG m s x=(true,openP (dB s 1).2 x.op x.a) by unfold cG;simp only[g3,g5,g6,g9,if_true,if_false,Bool.false_eq_true]];refine cX ?_;refine cw (dH r p q m lv s) Tryz.call188 (oT hN0 s h 1) rfl aC bZ ?_;rintro _ σ' ⟨rfl,rfl⟩ h27;refine pX ?_;refine fO ?_;refine fO ?_;refine cw (dH r p q m lv (dB s 1).2) Tryz.call76 (CX hN0 _ h1.bc x.op x.a) rfl aC bZ ?_;rintro _ σ' ⟨f,hL,rfl⟩ h33;unfold dH mL;(try dsimp only);obtain⟨e1,e2,e3⟩:=id hL;refine xD ?_;refine bF ?_;exact aD aE ⟨_,_,hL,by rfl,rfl⟩ aA
 refine dE ?_;refine aB rfl (fun g12=> ?_) (fun g12=> ?_)
 ·rw[show cG m s x=(true,openP (nJ s) 5 s.top.kd) by unfold cG;simp only[g3,g5,g6,g9,g12,if_true,if_false,Bool.false_eq_true]];refine dG ?_;refine cw (dH r p q m lv s) Tryz.call79 (MC hN0 s h) rfl aC bZ ?_;rintro _ σ' ⟨rfl,rfl⟩ h38;refine oE ?_;refine aGh ?_;refine cw (dH r p q m lv (nJ s)) Tryz.call76 (CX hN0 (nJ s) (by rw[CT,pK];omega) 5 s.top.kd) rfl aC bZ ?_;rintro _ σ' ⟨f,hL,rfl⟩ h40;unfold dH mL;(try dsimp only);obtain⟨e1,e2,e3⟩:=id hL;refine xD ?_;refine bF ?_;exact aD aE ⟨_,_,hL,by rfl,rfl⟩ aA
 refine dE ?_;refine aB rfl (fun g14=> ?_) (fun g14=> ?_)
 ·have h2:=h11 (by simpa using g14);have hsl:=EH s;have hll:=rQ s.top.kd;rw[show cG m s x=(true,iN (eV (nJ s) (if(s.top.op !=4)=true then true else(s.top.kd==0))) (dY s.top.kd)) by unfold cG;simp only[g3,g5,g6,g9,g12,g14,if_true,if_false,Bool.false_eq_true]];refine cX ?_;refine cw (dH r p q m lv s) Tryz.call79 (MC hN0 s h) rfl aC bZ ?_;rintro _ σ' ⟨rfl,rfl⟩ h44;refine oE ?_;refine iO fun r5 h5=> ?_;intros
  refine gT ?_;refine lA ?_;refine lo (dV (E rfl) (E rfl)) rfl ?_;refine mR ?_;refine pW ?_;refine jE ?_;refine cw (dH r p q m lv (nJ s)) Tryz.call189 (jZ hN0 (nJ s) (if(s.top.op !=4)=true then true else(s.top.kd==0))) rfl aC bZ ?_;rintro _ σ' rfl h54;refine pX ?_;refine fO ?_;refine yJ [] Tryz.call191 (sY s.top.kd) ?_;refine cw (dH r p q m lv (eV (nJ s) (if(s.top.op !=4)=true then true else(s.top.kd==0)))) Tryz.call190 (lS hN0 _ (by rw[CS];omega) (dY s.top.kd) (by omega)) rfl aC bZ ?_;rintro _ σ' ⟨e,hL,rfl⟩ h59;unfold dH mL;(try dsimp only);obtain⟨e1,e2,e3⟩:=id hL;refine xD ?_;refine bF ?_;exact aD aE ⟨_,_,hL,by rfl,rfl⟩ aA
 refine dE ?_;refine aB rfl (fun g18=> ?_) (fun g18=> ?_)
 ·have ha:=hx.nn (.inl (by simpa using g18));have h1:=h.label x.a;have hll:=rR s x.a;rw[show cG m s x=(true,pC (fA (cU s x.a).2 (cU s x.a).1)) by unfold cG;simp only[g3,g5,g6,g9,g12,g14,g18,if_true,if_false,Bool.false_eq_true]];have hL:=hN0;refine dG ?_;refine fO ?_;refine cw (dH r p q m lv s) Tryz.call193 (zW hN0 s h.bc x.a ha) rfl aC bZ ?_;rintro _ σ' ⟨rfl,rfl⟩ h66;refine oE ?_;refine cw (dH r p q m lv (cU s x.a).2) Tryz.call192 (kX hN0 _ h1 (cU s x.a).1 (by omega)) rfl aC bZ ?_;rintro _ σ' rfl h67;refine pX ?_;refine cw (dH r p q m lv (fA (cU s x.a).2 (cU s x.a).1)) Tryz.call187 (CY hN0 _ (h1.pops _)) rfl aC bZ ?_;rintro _ σ' rfl h69;refine oE ?_;refine pO ?_;refine bF ?_;exact aD aE ⟨_,_,hL,by rfl,rfl⟩ aA
 refine dE ?_;refine aB rfl (fun g21=> ?_) (fun g21=> ?_)
 ·have ha:=hx.nn (.inr (.inl (by simpa using g21)));have h1:=h.pop 1;have h2:=h1.label x.a;have hll:=rR (dB s 1).2 x.a;rw[show cG m s x=(true,iN (fA (cU (dB s 1).2 x.a).2 (cU (dB s 1).2 x.a).1) (cU (dB s 1).2 x.a).1) by unfold cG;simp only[g3,g5,g6,g9,g12,g14,g18,g21,if_true,if_false,Bool.false_eq_true]];refine cX ?_;refine cw (dH r p q m lv s) Tryz.call188 (oT hN0 s h 1) rfl aC bZ ?_;rintro _ σ' ⟨rfl,rfl⟩ h73;refine pX ?_;refine fO ?_;refine cw (dH r p q m lv (dB s 1).2) Tryz.call193 (zW hN0 _ h1.bc x.a ha) rfl aC bZ ?_;rintro _ σ' ⟨rfl,rfl⟩ h77;refine oE ?_;refine lO ?_;refine cw (dH r p q m lv (cU (dB s 1).2 x.a).2) Tryz.call192 (kX hN0 _ h2 (cU (dB s 1).2 x.a).1 (by omega)) rfl aC bZ ?_;rintro _ σ' rfl h80;refine pZ ?_;refine kQ ?_;refine cw (dH r p q m lv (fA (cU (dB s 1).2 x.a).2 (cU (dB s 1).2 x.a).1)) Tryz.call190 (lS hN0 _ (h2.pops _).bv (cU (dB s 1).2 x.a).1 (by omega)) rfl aC bZ ?_;rintro _ σ' ⟨e,hL,rfl⟩ h83;unfold dH mL;(try dsimp only);obtain⟨e1,e2,e3⟩:=id hL;refine xD ?_;refine bF ?_;exact aD aE ⟨_,_,hL,by rfl,rfl⟩ aA
 refine dE ?_;refine aB rfl (fun g26=> ?_) (fun g26=> ?_)
 ·have h14:x.op=14:=by simpa using g26
  have ha:=hx.nn (.inr (.inr (.inl h14)));rw[show cG m s x=(true,sU s x) by unfold cG;simp only[g3,g5,g6,g9,g12,g14,g18,g21,g26,if_true,if_false,Bool.false_eq_true]];have hL:=hN0;refine cX ?_;refine kP ?_;refine cw (dH r p q m lv s) Tryz.call194 (aBw hN0 s h x ha (hx.ln h14) hx.ll) rfl aC bZ ?_;rintro _ σ' rfl h88;refine oE ?_;refine pO ?_;refine bF ?_;exact aD aE ⟨_,_,hL,by rfl,rfl⟩ aA
 refine dE ?_;refine aB rfl (fun g28=> ?_) (fun g28=> ?_)
 ·obtain⟨c0,hc0⟩:∃c0,s.cs[0]? =some c0:=⟨_,List.getElem?_eq_getElem (List.length_pos_iff.2 h.ne)⟩
  have hlp:0<s.cs.length:=List.length_pos_iff.2 h.ne;have hel:(s.cs.map mF)[(0:Int).toNat]? =some (mF c0):=by rw[List.getElem?_map];show(s.cs[0]?).map mF=_;rw[hc0];rfl
  have hll:=rQ c0.kd;have h1:=h.pops (dY c0.kd);rw[show cG m s x=(true,pC (fA s (dY c0.kd))) by unfold cG;simp only[g3,g5,g6,g9,g12,g14,g18,g21,g26,g28,if_true,if_false,Bool.false_eq_true];rw[List.getD_eq_getElem?_getD,hc0];rfl];have hL:=hN0;refine dG ?_;refine gY ?_;refine UC ?_;refine KO ?_;refine z16 ?_;refine yJ [] Tryz.call191 (sY c0.kd) ?_;refine cw (dH r p q m lv s) Tryz.call192 (kX hN0 s h (dY c0.kd) (by omega)) rfl aC bZ ?_;rintro _ σ' rfl h100;refine pX ?_;refine cw (dH r p q m lv (fA s (dY c0.kd))) Tryz.call187 (CY hN0 _ h1) rfl aC bZ ?_;rintro _ σ' rfl h102;refine oE ?_;refine pO ?_;refine bF ?_;exact aD aE ⟨_,_,hL,by rfl,rfl⟩ aA
 refine dE ?_;refine aB rfl (fun g31=> ?_) (fun g31=> ?_)
 ·have ha:=hx.nn (.inr (.inr (.inr (.inl (by simpa using g31)))));have hts:=pR hm.ts (oM m x.a);rw[show cG m s x=(true,sS s (dP m (oM m x.a)).1 (dP m (oM m x.a)).2) by unfold cG;simp only[g3,g5,g6,g9,g12,g14,g18,g21,g26,g28,g31,if_true,if_false,Bool.false_eq_true]];refine dG ?_;refine fO ?_;refine cw (dH r p q m lv s) Tryz.call196 (PW hN0 s hm.im x.a ha hx.hi) rfl aC bZ ?_;rintro _ σ' ⟨rfl,rfl⟩ h109;refine oE ?_;refine KR ?_;refine cw (dH r p q m lv s) Tryz.call195 (PX hN0 s h _ hts _) rfl aC bZ ?_;rintro _ σ' ⟨e,hL,rfl⟩ h112;unfold dH mL;(try dsimp only);obtain⟨e1,e2,e3⟩:=id hL;refine xD ?_;refine bF ?_;exact aD aE ⟨_,_,hL,by rfl,rfl⟩ aA
 refine dE ?_;refine aB rfl (fun g33=> ?_) (fun g33=> ?_)
 ·have hts:=pR hm.ts x.a;have h1:=h.need m.tb.has;have h2:=h1.pop 1;rw[show cG m s x=(true,sS (dB (eV s m.tb.has) 1).2 (dP m x.a).1 (dP m x.a).2) by unfold cG;simp only[g3,g5,g6,g9,g12,g14,g18,g21,g26,g28,g31,g33,if_true,if_false,Bool.false_eq_true]];refine dG ?_;refine tZ ?_;refine qA ?_;refine cw (dH r p q m lv s) Tryz.call189 (jZ hN0 s m.tb.has) rfl aC bZ ?_;rintro _ σ' rfl h122;refine pX ?_;refine cw (dH r p q m lv (eV s m.tb.has)) Tryz.call188 (oT hN0 _ h1 1) rfl aC bZ ?_;rintro _ σ' ⟨rfl,rfl⟩ h124;refine pZ ?_;refine kQ ?_;refine fO ?_;refine cw (dH r p q m lv (dB (eV s m.tb.has) 1).2) Tryz.call74 (rV hN0 _ x.a) rfl aC bZ ?_;rintro _ σ' ⟨rfl,rfl⟩ h129;refine oE ?_;refine KR ?_;refine cw (dH r p q m lv (dB (eV s m.tb.has) 1).2) Tryz.call195 (PX hN0 _ h2 _ hts _) rfl aC bZ ?_;rintro _ σ' ⟨e,hL,rfl⟩ h132;unfold dH mL;(try dsimp only);obtain⟨e1,e2,e3⟩:=id hL;refine xD ?_;refine bF ?_;exact aD aE ⟨_,_,hL,by rfl,rfl⟩ aA
 rw[show cG m s x=(false,s) by unfold cG;simp only[g3,g5,g6,g9,g12,g14,g18,g21,g26,g28,g31,g33,if_true,if_false,Bool.false_eq_true]];have hL:=hN0;refine bF ?_;exact aD aE ⟨_,_,hL,by rfl,rfl⟩ aA
end
theorem aJQ{op:Int}(h:(kN op).2.2=false):kN op=([],0,false):=by
 revert h;unfold kN;refine aL (p:=fun r:List Int×Int×Bool=>r.2.2=false→r=([],0,false)) (fun _ h=>by cases h) (fun _=> ?_);refine aL (p:=fun r:List Int×Int×Bool=>r.2.2=false→r=([],0,false)) (fun _ h=>by cases h) (fun _=> ?_);refine aL (p:=fun r:List Int×Int×Bool=>r.2.2=false→r=([],0,false)) (fun _ _=>rfl) (fun _=> ?_);refine aL (p:=fun r:List Int×Int×Bool=>r.2.2=false→r=([],0,false)) (fun _ h=>by cases h) (fun _=> ?_);refine aL (p:=fun r:List Int×Int×Bool=>r.2.2=false→r=([],0,false)) (fun _ h=>by cases h) (fun _=> ?_);exact aL (p:=fun r:List Int×Int×Bool=>r.2.2=false→r=([],0,false)) (fun _ h=>by cases h) (fun _ h=>by cases h)
theorem aHu(op:Int):(kN op).1.length≤2:=by
 unfold kN;refine aL (p:=fun r:List Int×Int×Bool=>r.1.length≤2) (fun _=>by simp) (fun _=> ?_);refine aL (p:=fun r:List Int×Int×Bool=>r.1.length≤2) (fun _=>by simp) (fun _=> ?_);refine aL (p:=fun r:List Int×Int×Bool=>r.1.length≤2) (fun _=>by simp) (fun _=> ?_);refine aL (p:=fun r:List Int×Int×Bool=>r.1.length≤2) (fun _=>by simp) (fun _=> ?_);refine aL (p:=fun r:List Int×Int×Bool=>r.1.length≤2) (fun _=>by simp) (fun _=> ?_);exact aL (p:=fun r:List Int×Int×Bool=>r.1.length≤2) (fun _=>by simp) (fun _=>by simp)
theorem XZ{op:Int}(h:(kN op).2.2=true):SCall Tryz.prog 200 [.int .i64 op] [] (fun y σ=>∃q,y=.tup [.own q 0 (kN op).1.length,.int .i64 (kN op).2.1,.bool true]∧σ=[(q,.arr 3 1 ((kN op).1.map aK))]):=
 (xX op).mono fun x σ hk=>by unfold uW at hk;rw[if_pos h]at hk;exact hk
theorem aBx{op:Int}(h:(kN op).2.2=false):SCall Tryz.prog 200 [.int .i64 op] [] (fun y σ=>y=.tup [.ro 0 [] .nil,.int .i64 0,.bool false]∧σ=[]):=
 (xX op).mono fun x σ hk=>by unfold uW at hk;rw[if_neg (by simp[h])]at hk;exact hk
theorem PS.Gd.loc {s:PS}(h:s.Gd)(ls:List Int)(n:Int):(eD ls s n).2.Gd:=by
 unfold eD;exact aL (p:=fun r:Int×PS=>r.2.Gd) (fun _=>⟨⟨⟨h.le,h.up⟩,h.ne⟩,h.bv,h.bc⟩) (fun _=>h)
theorem PS.Gd.glob {s:PS}(h:s.Gd)(m:Md)(n:Int):(fK m s n).2.Gd:=by
 unfold fK;exact aL (p:=fun r:Gl×PS=>r.2.Gd) (fun _=>⟨⟨⟨h.le,h.up⟩,h.ne⟩,h.bv,h.bc⟩) (fun _=>h)
section
variable {r p q : Nat} {m : Md} {ls : List Int}
theorem aBy(hN:Nm r p q)(s:PS)(h:s.Gd)(x:Ins)(hx:x.Ck):SCall Tryz.prog 78 [.ptr r 0,.agg (iv .any x)] (dH r p q m (.ro 1 (ls.map aK) .any) s) (fun _ σ=>∃e,Nm r e q∧σ=dH r e q m (.ro 1 (ls.map aK) .any) (dO m ls s x)):=by
 have hN0:=hN;obtain⟨n1,n2,n3⟩:=hN;unfold iv;refine bS 167 [0,1,3,4,5,6,7,8,9,13,31,35,46,55,63,78,89,104,111,118,126,132,138,144,150,157,162] Tryz.func78 ?_;unfold dH mL
 (try dsimp only);refine cZ ?_;refine gQ fun r3 h3=> ?_;intros
 refine pO ?_;refine cZ ?_;refine eC fun r10 h10=> ?_;intros
 refine eC fun r11 h11=> ?_;intros
 refine iW (j:=10) rfl bK (aN bC (by simp)) ?_;refine iW (j:=11) rfl bK (aN bC (by simp)) ?_;refine qL ?_;refine fO ?_;refine rN ?_;refine aB rfl (fun g7=> ?_) (fun g7=> ?_)
 ·rw[show dO m ls s x=(dB s 0).2 by unfold dO;simp only[g7,if_true,if_false,Bool.false_eq_true]];have hL:=hN0;refine cX ?_;refine cw (dH r p q m (.ro 1 (ls.map aK) .any) s) Tryz.call188 (oT hN0 s h 0) rfl aC bZ ?_;rintro _ σ' ⟨rfl,rfl⟩ h34;refine pZ ?_;refine cL ?_;exact aD aE ⟨_,hL,rfl⟩ aA
 refine dE ?_;refine aB rfl (fun g9=> ?_) (fun g9=> ?_)
 ·have h1:=h.pop 1;have h2:=h1.pop 0;have h3:=h2.pop (dB (dB s 1).2 0).1;rw[show dO m ls s x=iN (dB (dB (dB s 1).2 0).2 (dB (dB s 1).2 0).1).2 [(dB (dB (dB s 1).2 0).2 (dB (dB s 1).2 0).1).1] by unfold dO;simp only[g7,g9,if_true,if_false,Bool.false_eq_true]];refine cX ?_;refine cw (dH r p q m (.ro 1 (ls.map aK) .any) s) Tryz.call188 (oT hN0 s h 1) rfl aC bZ ?_;rintro _ σ' ⟨rfl,rfl⟩ h38;refine pZ ?_;refine kQ ?_;refine lo (aF (E rfl)) rfl ?_;refine cw (dH r p q m (.ro 1 (ls.map aK) .any) (dB s 1).2) Tryz.call188 (oT hN0 _ h1 0) rfl aC bZ ?_;rintro _ σ' ⟨rfl,rfl⟩ h42;refine oE ?_;refine cw (dH r p q m (.ro 1 (ls.map aK) .any) (dB (dB s 1).2 0).2) Tryz.call188 (oT hN0 _ h2 _) rfl aC bZ ?_;rintro _ σ' ⟨rfl,rfl⟩ h43;refine oE ?_;refine eC fun r44 h44=> ?_;intros
  refine iW (j:=44) rfl bK (aN bC (by simp)) ?_;refine cw (dH r p q m (.ro 1 (ls.map aK) .any) (dB (dB (dB s 1).2 0).2 (dB (dB s 1).2 0).1).2) Tryz.call190 (lS hN0 _ h3.bv [(dB (dB (dB s 1).2 0).2 (dB (dB s 1).2 0).1).1] (by simp)) rfl aC bZ ?_;rintro _ σ' ⟨e,hL,rfl⟩ h45;unfold dH mL;(try dsimp only);obtain⟨e1,e2,e3⟩:=id hL;refine jG ?_;refine cL ?_;exact aD aE ⟨_,hL,rfl⟩ aA
 refine dE ?_;refine aB rfl (fun g12=> ?_) (fun g12=> ?_)
 ·have ha:=hx.nn (.inr (.inr (.inr (.inr (.inl (by simpa using g12))))));have h1:=h.loc ls x.a;rw[show dO m ls s x=iN (eD ls s x.a).2 [(eD ls s x.a).1] by unfold dO;simp only[g7,g9,g12,if_true,if_false,Bool.false_eq_true]];refine dG ?_;refine fO ?_;refine cw (dH r p q m (.ro 1 (ls.map aK) .any) s) Tryz.call197 (zX hN0 s x.a ha) rfl aC bZ ?_;rintro _ σ' ⟨rfl,rfl⟩ h52;refine oE ?_;refine eC fun r53 h53=> ?_;intros
  refine iW (j:=53) rfl bK (aN bC (by simp)) ?_;refine cw (dH r p q m (.ro 1 (ls.map aK) .any) (eD ls s x.a).2) Tryz.call190 (lS hN0 _ h1.bv [(eD ls s x.a).1] (by simp)) rfl aC bZ ?_;rintro _ σ' ⟨e,hL,rfl⟩ h54;unfold dH mL;(try dsimp only);obtain⟨e1,e2,e3⟩:=id hL;refine jG ?_;refine cL ?_;exact aD aE ⟨_,hL,rfl⟩ aA
 refine dE ?_;refine aB rfl (fun g14=> ?_) (fun g14=> ?_)
 ·have ha:=hx.nn (.inr (.inr (.inr (.inr (.inr (.inl (by simpa using g14)))))));have h1:=h.loc ls x.a;have hL:=hN0;rw[show dO m ls s x=(dB (eD ls s x.a).2 (eD ls s x.a).1).2 by unfold dO;simp only[g7,g9,g12,g14,if_true,if_false,Bool.false_eq_true]];refine dG ?_;refine fO ?_;refine cw (dH r p q m (.ro 1 (ls.map aK) .any) s) Tryz.call197 (zX hN0 s x.a ha) rfl aC bZ ?_;rintro _ σ' ⟨rfl,rfl⟩ h61;refine oE ?_;refine cw (dH r p q m (.ro 1 (ls.map aK) .any) (eD ls s x.a).2) Tryz.call188 (oT hN0 _ h1 _) rfl aC bZ ?_;rintro _ σ' ⟨rfl,rfl⟩ h62;refine pZ ?_;refine cL ?_;exact aD aE ⟨_,hL,rfl⟩ aA
 refine dE ?_;refine aB rfl (fun g16=> ?_) (fun g16=> ?_)
 ·have ha:=hx.nn (.inr (.inr (.inr (.inr (.inr (.inr (.inl (by simpa using g16))))))));have h1:=h.loc ls x.a;have h2:=h1.pop (eD ls s x.a).1;have h3:=h2.loc ls x.a;rw[show dO m ls s x=iN (eD ls (dB (eD ls s x.a).2 (eD ls s x.a).1).2 x.a).2 [(eD ls (dB (eD ls s x.a).2 (eD ls s x.a).1).2 x.a).1] by unfold dO;simp only[g7,g9,g12,g14,g16,if_true,if_false,Bool.false_eq_true]];refine dG ?_;refine fO ?_;refine cw (dH r p q m (.ro 1 (ls.map aK) .any) s) Tryz.call197 (zX hN0 s x.a ha) rfl aC bZ ?_;rintro _ σ' ⟨rfl,rfl⟩ h69;refine oE ?_;refine cw (dH r p q m (.ro 1 (ls.map aK) .any) (eD ls s x.a).2) Tryz.call188 (oT hN0 _ h1 _) rfl aC bZ ?_;rintro _ σ' ⟨rfl,rfl⟩ h70;refine pZ ?_;refine kQ ?_;refine fO ?_;refine cw (dH r p q m (.ro 1 (ls.map aK) .any) (dB (eD ls s x.a).2 (eD ls s x.a).1).2) Tryz.call197 (zX hN0 _ x.a ha) rfl aC bZ ?_;rintro _ σ' ⟨rfl,rfl⟩ h75;refine oE ?_;refine eC fun r76 h76=> ?_;intros
  refine iW (j:=76) rfl bK (aN bC (by simp)) ?_;refine cw (dH r p q m (.ro 1 (ls.map aK) .any) (eD ls (dB (eD ls s x.a).2 (eD ls s x.a).1).2 x.a).2) Tryz.call190 (lS hN0 _ h3.bv [(eD ls (dB (eD ls s x.a).2 (eD ls s x.a).1).2 x.a).1] (by simp)) rfl aC bZ ?_;rintro _ σ' ⟨e,hL,rfl⟩ h77;unfold dH mL;(try dsimp only);obtain⟨e1,e2,e3⟩:=id hL;refine jG ?_;refine cL ?_;exact aD aE ⟨_,hL,rfl⟩ aA
 refine dE ?_;refine aB rfl (fun g19=> ?_) (fun g19=> ?_)
 ·have ha:=hx.nn (.inr (.inr (.inr (.inr (.inr (.inr (.inr (.inl (by simpa using g19)))))))));have h1:=h.glob m x.a;rw[show dO m ls s x=iN (fK m s x.a).2 [(fK m s x.a).1.kd] by unfold dO;simp only[g7,g9,g12,g14,g16,g19,if_true,if_false,Bool.false_eq_true]];refine dG ?_;refine fO ?_;refine cw (dH r p q m (.ro 1 (ls.map aK) .any) s) Tryz.call198 (JO hN0 s x.a ha) rfl aC bZ ?_;rintro _ σ' ⟨rfl,rfl⟩ h84;refine oE ?_;refine lo (NK (E rfl) rfl rfl (fun _=>Nat.le_of_ble_eq_true rfl)) rfl ?_;refine aGh ?_;refine eC fun r87 h87=> ?_;intros
  refine iW (j:=87) rfl bK (aN bC (by simp)) ?_;refine cw (dH r p q m (.ro 1 (ls.map aK) .any) (fK m s x.a).2) Tryz.call190 (lS hN0 _ h1.bv [(fK m s x.a).1.kd] (by simp)) rfl aC bZ ?_;rintro _ σ' ⟨e,hL,rfl⟩ h88;unfold dH mL;(try dsimp only);obtain⟨e1,e2,e3⟩:=id hL;refine jG ?_;refine cL ?_;exact aD aE ⟨_,hL,rfl⟩ aA
 refine dE ?_;refine aB rfl (fun g21=> ?_) (fun g21=> ?_)
 ·have ha:=hx.nn (.inr (.inr (.inr (.inr (.inr (.inr (.inr (.inr (by simpa using g21)))))))));have h1:=h.glob m x.a;have h2:=h1.need (fK m s x.a).1.mu;have hL:=hN0;rw[show dO m ls s x=(dB (eV (fK m s x.a).2 (fK m s x.a).1.mu) (fK m s x.a).1.kd).2 by unfold dO;simp only[g7,g9,g12,g14,g16,g19,g21,if_true,if_false,Bool.false_eq_true]];refine oI ?_;refine cw (dH r p q m (.ro 1 (ls.map aK) .any) s) Tryz.call198 (JO hN0 s x.a ha) rfl aC bZ ?_;rintro _ σ' ⟨rfl,rfl⟩ h94;refine oE ?_;refine iO fun r6 h6=> ?_;intros
  refine gT ?_;refine lA ?_;refine cw (dH r p q m (.ro 1 (ls.map aK) .any) (fK m s x.a).2) Tryz.call189 (jZ hN0 _ (fK m s x.a).1.mu) rfl aC bZ ?_;rintro _ σ' rfl h98;refine pX ?_;refine qA ?_;refine cw (dH r p q m (.ro 1 (ls.map aK) .any) (eV (fK m s x.a).2 (fK m s x.a).1.mu)) Tryz.call188 (oT hN0 _ h2 _) rfl aC bZ ?_;rintro _ σ' ⟨rfl,rfl⟩ h103;refine pZ ?_;refine cL ?_;exact aD aE ⟨_,hL,rfl⟩ aA
 refine dE ?_;refine aB rfl (fun g25=> ?_) (fun g25=> ?_)
 ·rw[show dO m ls s x=gV m s x 2 [1] [1] by unfold dO;simp only[g7,g9,g12,g14,g16,g19,g21,g25,if_true,if_false,Bool.false_eq_true]];refine cX ?_;refine kP ?_;refine HI ?_;refine cw (dH r p q m (.ro 1 (ls.map aK) .any) s) Tryz.call199 (mG hN0 s h x 2 [1] [1] (by simp) (by simp)) rfl aC bZ ?_;rintro _ σ' ⟨e,hL,rfl⟩ h110;unfold dH mL;(try dsimp only);obtain⟨e1,e2,e3⟩:=id hL;refine jG ?_;refine cL ?_;exact aD aE ⟨_,hL,rfl⟩ aA
 refine dE ?_;refine aB rfl (fun g27=> ?_) (fun g27=> ?_)
 ·rw[show dO m ls s x=gV m s x 3 [1] [2] by unfold dO;simp only[g7,g9,g12,g14,g16,g19,g21,g25,g27,if_true,if_false,Bool.false_eq_true]];refine cX ?_;refine kP ?_;refine HI ?_;refine cw (dH r p q m (.ro 1 (ls.map aK) .any) s) Tryz.call199 (mG hN0 s h x 3 [1] [2] (by simp) (by simp)) rfl aC bZ ?_;rintro _ σ' ⟨e,hL,rfl⟩ h117;unfold dH mL;(try dsimp only);obtain⟨e1,e2,e3⟩:=id hL;refine jG ?_;refine cL ?_;exact aD aE ⟨_,hL,rfl⟩ aA
 refine dE ?_;apply fR rfl;exact cO
 ·intro _;(refine aI ?_);refine eP ?_;exact aJ
 refine aI ?_;refine aB rfl (fun g29=> ?_) (fun g29=> ?_)
 ·refine aI ?_;rw[show dO m ls s x=gV m s x 0 [1] [1] by unfold dO;simp only[g7,g9,g12,g14,g16,g19,g21,g25,g27,g29,if_true,if_false,Bool.false_eq_true]];refine fV ?_;refine kP ?_;refine HI ?_;refine cw (dH r p q m (.ro 1 (ls.map aK) .any) s) Tryz.call199 (mG hN0 s h x 0 [1] [1] (by simp) (by simp)) rfl aC bZ ?_;rintro _ σ' ⟨e,hL,rfl⟩ h125;unfold dH mL;(try dsimp only);obtain⟨e1,e2,e3⟩:=id hL;refine jG ?_;refine cL ?_;exact aD aE ⟨_,hL,rfl⟩ aA
 refine dE ?_;refine aB rfl (fun g32=> ?_) (fun g32=> ?_)
 ·rw[show dO m ls s x=gV m s x 2 [1,1] [] by unfold dO;simp only[g7,g9,g12,g14,g16,g19,g21,g25,g27,g29,g32,if_true,if_false,Bool.false_eq_true]];refine cX ?_;refine kP ?_;refine eC fun r130 h130=> ?_;intros
  refine iW (j:=130) rfl bK (aN bC (by simp)) ?_;refine cw (dH r p q m (.ro 1 (ls.map aK) .any) s) Tryz.call199 (mG hN0 s h x 2 [1,1] [] (by simp) (by simp)) rfl aC bZ ?_;rintro _ σ' ⟨e,hL,rfl⟩ h131;unfold dH mL;(try dsimp only);obtain⟨e1,e2,e3⟩:=id hL;refine jG ?_;refine cL ?_;exact aD aE ⟨_,hL,rfl⟩ aA
 refine dE ?_;refine aB rfl (fun g34=> ?_) (fun g34=> ?_)
 ·rw[show dO m ls s x=gV m s x 3 [1,2] [] by unfold dO;simp only[g7,g9,g12,g14,g16,g19,g21,g25,g27,g29,g32,g34,if_true,if_false,Bool.false_eq_true]];refine cX ?_;refine kP ?_;refine eC fun r136 h136=> ?_;intros
  refine iW (j:=136) rfl bK (aN bC (by simp)) ?_;refine cw (dH r p q m (.ro 1 (ls.map aK) .any) s) Tryz.call199 (mG hN0 s h x 3 [1,2] [] (by simp) (by simp)) rfl aC bZ ?_;rintro _ σ' ⟨e,hL,rfl⟩ h137;unfold dH mL;(try dsimp only);obtain⟨e1,e2,e3⟩:=id hL;refine jG ?_;refine cL ?_;exact aD aE ⟨_,hL,rfl⟩ aA
 refine dE ?_;refine aB rfl (fun g36=> ?_) (fun g36=> ?_)
 ·rw[show dO m ls s x=gV m s x 0 [1,1] [] by unfold dO;simp only[g7,g9,g12,g14,g16,g19,g21,g25,g27,g29,g32,g34,g36,if_true,if_false,Bool.false_eq_true]];refine cX ?_;refine kP ?_;refine eC fun r142 h142=> ?_;intros
  refine iW (j:=142) rfl bK (aN bC (by simp)) ?_;refine cw (dH r p q m (.ro 1 (ls.map aK) .any) s) Tryz.call199 (mG hN0 s h x 0 [1,1] [] (by simp) (by simp)) rfl aC bZ ?_;rintro _ σ' ⟨e,hL,rfl⟩ h143;unfold dH mL;(try dsimp only);obtain⟨e1,e2,e3⟩:=id hL;refine jG ?_;refine cL ?_;exact aD aE ⟨_,hL,rfl⟩ aA
 refine dE ?_;refine aB rfl (fun g38=> ?_) (fun g38=> ?_)
 ·rw[show dO m ls s x=gV m s x 0 [] [1] by unfold dO;simp only[g7,g9,g12,g14,g16,g19,g21,g25,g27,g29,g32,g34,g36,g38,if_true,if_false,Bool.false_eq_true]];refine cX ?_;refine kP ?_;refine lo (aF (E rfl)) rfl ?_;refine cw (dH r p q m (.ro 1 (ls.map aK) .any) s) Tryz.call199 (mG hN0 s h x 0 [] [1] (by simp) (by simp)) rfl aC bZ ?_;rintro _ σ' ⟨e,hL,rfl⟩ h149;unfold dH mL;(try dsimp only);obtain⟨e1,e2,e3⟩:=id hL;refine jG ?_;refine cL ?_;exact aD aE ⟨_,hL,rfl⟩ aA
 refine dE ?_;refine aB rfl (fun g40=> ?_) (fun g40=> ?_)
 ·rw[show dO m ls s x=gV m s x 0 [1] [1] by unfold dO;simp only[g7,g9,g12,g14,g16,g19,g21,g25,g27,g29,g32,g34,g36,g38,g40,if_true,if_false,Bool.false_eq_true]];refine cX ?_;refine kP ?_;refine HI ?_;refine cw (dH r p q m (.ro 1 (ls.map aK) .any) s) Tryz.call199 (mG hN0 s h x 0 [1] [1] (by simp) (by simp)) rfl aC bZ ?_;rintro _ σ' ⟨e,hL,rfl⟩ h156;unfold dH mL;(try dsimp only);obtain⟨e1,e2,e3⟩:=id hL;refine jG ?_;refine cL ?_;exact aD aE ⟨_,hL,rfl⟩ aA
 refine dE ?_;refine aB rfl (fun g42=> ?_) (fun g42=> ?_)
 ·rw[show dO m ls s x=iN s [1] by unfold dO;simp only[g7,g9,g12,g14,g16,g19,g21,g25,g27,g29,g32,g34,g36,g38,g40,g42,if_true,if_false,Bool.false_eq_true]];refine cX ?_;refine eC fun r160 h160=> ?_;intros
  refine iW (j:=160) rfl bK (aN bC (by simp)) ?_;refine cw (dH r p q m (.ro 1 (ls.map aK) .any) s) Tryz.call190 (lS hN0 s h.bv [1] (by simp)) rfl aC bZ ?_;rintro _ σ' ⟨e,hL,rfl⟩ h161;unfold dH mL;(try dsimp only);obtain⟨e1,e2,e3⟩:=id hL;refine jG ?_;refine cL ?_;exact aD aE ⟨_,hL,rfl⟩ aA
 refine dE ?_;refine aB rfl (fun g44=> ?_) (fun g44=> ?_)
 ·rw[show dO m ls s x=iN s [2] by unfold dO;simp only[g7,g9,g12,g14,g16,g19,g21,g25,g27,g29,g32,g34,g36,g38,g40,g42,g44,if_true,if_false,Bool.false_eq_true]];refine cX ?_;refine eC fun r165 h165=> ?_;intros
  refine iW (j:=165) rfl bK (aN bC (by simp)) ?_;refine cw (dH r p q m (.ro 1 (ls.map aK) .any) s) Tryz.call190 (lS hN0 s h.bv [2] (by simp)) rfl aC bZ ?_;rintro _ σ' ⟨e,hL,rfl⟩ h166;unfold dH mL;(try dsimp only);obtain⟨e1,e2,e3⟩:=id hL;refine jG ?_;refine cL ?_;exact aD aE ⟨_,hL,rfl⟩ aA
 have hkl:=aHu x.op;have h1:=h.need (kN x.op).2.2;have h2:=h1.pops (kN x.op).1;rw[show dO m ls s x=iN (fA (eV s (kN x.op).2.2) (kN x.op).1) [(kN x.op).2.1] by unfold dO;simp only[g7,g9,g12,g14,g16,g19,g21,g25,g27,g29,g32,g34,g36,g38,g40,g42,g44,if_true,if_false,Bool.false_eq_true]];refine aI ?_;cases hk:(kN x.op).2.2
 ·rw[aJQ hk]at h1 h2⊢;refine mJ ?_;refine fO ?_;refine cw [] Tryz.call200 (aBx hk) rfl aC aA ?_;rintro _ σ' ⟨rfl,rfl⟩ h17;refine OF ?_;refine oF ?_;refine dZ (eE (j:=7) (y:=.ro 1 (([]:List Int).map aK) .any) rfl VLe.empty) ?_;refine kQ ?_;refine cw (dH r p q m (.ro 1 (ls.map aK) .any) s) Tryz.call189 (jZ hN0 s false) rfl aC bZ ?_;rintro _ σ' rfl h23;refine pZ ?_;refine kQ ?_;refine cw (dH r p q m (.ro 1 (ls.map aK) .any) (eV s false)) Tryz.call192 (kX hN0 _ h1 [] (by simp)) rfl aC bZ ?_;rintro _ σ' rfl h26;refine pZ ?_;refine kQ ?_;refine eC fun r29 h29=> ?_;intros
  refine iW (j:=29) rfl bK (aN bC (by simp)) ?_;refine cw (dH r p q m (.ro 1 (ls.map aK) .any) (fA (eV s false) [])) Tryz.call190 (lS hN0 _ h2.bv [0] (by simp)) rfl aC bZ ?_;rintro _ σ' ⟨e,hL,rfl⟩ h30;unfold dH mL;(try dsimp only);obtain⟨e1,e2,e3⟩:=id hL;refine jG ?_;refine cL ?_;exact aD aE ⟨_,hL,rfl⟩ aA
 ·rw[hk]at h1 h2;refine mJ ?_;refine fO ?_;refine cw [] Tryz.call200 (XZ hk) rfl aC aA ?_;rintro _ σ' ⟨q1,rfl,rfl⟩ h17
  replace h17:=fY h17;repeat rcases h17 with⟨_,h17⟩
  refine OF ?_;refine oF ?_;refine aAO (j:=7) rfl bK (aN bC (by simp)) ?_;refine kQ ?_;refine cw (dH r p q m (.ro 1 (ls.map aK) .any) s) Tryz.call189 (jZ hN0 s true) rfl aC bZ ?_;rintro _ σ' rfl h23;refine pZ ?_;refine kQ ?_;refine cw (dH r p q m (.ro 1 (ls.map aK) .any) (eV s true)) Tryz.call192 (kX hN0 _ h1 (kN x.op).1 (by omega)) rfl aC bZ ?_;rintro _ σ' rfl h26;refine pZ ?_;refine kQ ?_;refine z1 ?_;refine bN fun r29 h29=> ?_;repeat rcases h29 with⟨_,h29⟩
  refine iW (j:=29) rfl bK (aN bC (by simp)) ?_;refine cw (dH r p q m (.ro 1 (ls.map aK) .any) (fA (eV s true) (kN x.op).1)) Tryz.call190 (lS hN0 _ h2.bv [(kN x.op).2.1] (by simp)) rfl aC bZ ?_;rintro _ σ' ⟨e,hL,rfl⟩ h30;unfold dH mL;(try dsimp only);obtain⟨e1,e2,e3⟩:=id hL;refine jG ?_;refine cL ?_;exact aD aE ⟨_,hL,rfl⟩ aA
end
end Go.Proofs.YtjpdadobblffmaaGreat
namespace Go.Proofs.YtjpdadobblffmaaGreat
open Go.RowKit Go.ChangeShapes Go.WideShapes Go.ChangeAt Go.Deep
def rW (L:Nat) (S:List Bool) (op:Int):Option (List Bool):=
 if uG op=true then(if L≤S.length then none else some (S++ [op==4]))
 else if op≠5∧op≠11 then some S
 else match S.getLast? with
  |none=>none
  |some c=>if op=11 then some S.dropLast else if c=true then some (S.dropLast++ [false])else none
def uC (L:Nat):List Int→List Bool→Option (List Bool)
 |[],S=>some S
 |op::w,S=>match rW L S op with
  |none=>none
  |some S'=>uC L w S'
theorem PY{L:Nat}:∀ {u v:List Int} {S T:List Bool},uC L u S=some T→uC L (u++v) S=uC L v T
 |[],_,_,_,h=>by cases h;rfl
 |op::u,v,S,T,h=>by
  rw[List.cons_append,uC];rw[uC]at h;cases hs:rW L S op with
  |none=>rw[hs]at h;cases h
  |some S'=>rw[hs]at h;exact PY h
theorem JP{L:Nat}:∀ {u v:List Int} {S:List Bool},uC L u S=none→uC L (u++v) S=none
 |[],_,_,h=>by cases h
 |op::u,v,S,h=>by
  rw[List.cons_append,uC];rw[uC]at h;cases hs:rW L S op with
  |none=>rfl
  |some S'=>rw[hs]at h;exact JP h
theorem aBz{L:Nat}{S:List Bool}{op:Int}:uC L [op] S=rW L S op:=by
 rw[uC];cases rW L S op<;>rfl
def YA (ops:List Int) (all:List Bk) (k:Nat):Bool:=
 match all[k]? with
 |some b=>(ops[b.at_]? ==some 4)&&decide (b.els<0)
 |none=>false
def CK (ops:List Int) (s:MS):List Bool:=s.opn.map (YA ops s.all)
theorem aD9{ops:List Int}{all:List Bk}{k:Nat}(h:k<all.length)(x:Bk):YA ops (all++ [x]) k=YA ops all k:=by
 unfold YA;rw[List.getElem?_append_left h]
theorem VM{ops:List Int}{all:List Bk}{k n:Nat}(h:k≠n)(x:Bk):YA ops (all.set n x) k=YA ops all k:=by
 unfold YA;rw[List.getElem?_set_ne (Ne.symm h)]
structure MOk2 (s:MS):Prop where
 inc:s.opn.Pairwise (· < ·)
theorem YB{ops:List Int}{j:Nat}{s s':MS}{op:Int}(h1:MOk j s)(h:MOk2 s)(hs:oL ops s j op=some s'):MOk2 s':=by
 unfold oL at hs;split at hs
 ·split at hs
  ·cases hs
  ·obtain rfl:=Option.some.inj hs;refine⟨List.pairwise_append.2 ⟨h.inc,by simp,fun a ha b hb=> ?_⟩⟩;rw[List.mem_singleton.1 hb];exact h1.opn a ha
 split at hs
 ·obtain rfl:=Option.some.inj hs;exact h
 unfold CI at hs;split at hs
 ·cases hs
 split at hs
 ·cases hs
 split at hs
 ·obtain rfl:=Option.some.inj hs;exact⟨h.inc.sublist (List.dropLast_sublist _)⟩
 split at hs
 ·cases hs
 ·obtain rfl:=Option.some.inj hs;exact⟨h.inc⟩
theorem PZ{ops:List Int}:∀ {j:Nat} {s:MS},pH ops j=some s→MOk2 s
 |0,s,h=>by obtain rfl:=Option.some.inj h;exact⟨List.Pairwise.nil⟩
 |j+1,s,h=>by
  rw[pH]at h;split at h
  ·next s0 op h1 h2=>exact YB (zE h1) (PZ h1) h
  ·cases h
theorem aBA{ops:List Int}{j:Nat}{s:MS}{op:Int}(h1:MOk j s)(h2:MOk2 s)(ho:ops[j]? =some op):(oL ops s j op).map (CK ops)=rW 40 (CK ops s) op:=by
 obtain⟨all,opn⟩:=s;have hk:=h1.opn;have hlen:=h1.len;have hinc:=h2.inc;dsimp only at hk hlen hinc;by_cases hO:uG op=true
 ·by_cases h40:opn.length=40
  ·rw[AP hO h40];unfold rW CK;rw[if_pos hO,if_pos (by simp;omega)];rfl
  ·rw[AO hO h40];unfold rW CK;rw[if_pos hO,if_neg (by simp;omega)];dsimp only[Option.map];rw[List.map_append,List.map_congr_left fun k hkk=>aD9 (hk k hkk) _];simp[YA,ho]
 have hO:uG op=false:=by simpa using hO
 by_cases h5:op≠5∧op≠11
 ·rw[AQ hO h5.1 h5.2];unfold rW;rw[if_neg (by simp[hO]),if_pos h5];rfl
 rw[zF hO (by omega)];unfold rW;rw[if_neg (by simp[hO]),if_neg h5];rcases List.eq_nil_or_concat opn with rfl|⟨pre,k,rfl⟩
 ·rfl
 have hkl:=hk k (by simp);obtain⟨b,hb⟩:∃b,all[k]? =some b:=⟨_,List.getElem?_eq_getElem hkl⟩
 have hpre:∀x∈pre,x≠k:=fun x hx=>by
  have:=(List.pairwise_append.1 (by simpa using hinc)).2.2 x hx k (by simp);omega
 have hab:CK ops ⟨all,pre.concat k⟩=pre.map (YA ops all)++ [YA ops all k]:=by unfold CK;simp
 have hfk:YA ops all k=((ops[b.at_]? ==some 4)&&decide (b.els<0)):=by unfold YA;rw[hb]
 rw[hab,List.getLast?_append];dsimp only[List.getLast?_singleton,Option.some_or];rw[List.concat_eq_append];rcases(show op=11∨op=5 by omega)with rfl|rfl
 ·rw[LK hb,if_pos rfl];unfold CK;dsimp only[Option.map];rw[List.map_congr_left fun x hx=>VM (hpre x hx) _];simp
 ·rw[if_neg (by decide),hfk];by_cases hc:ops[b.at_]? =some 4∧¬0≤b.els
  ·rw[EC hb hc.1 hc.2,if_pos (by simp[hc.1];omega)];unfold CK;dsimp only[Option.map];rw[List.map_append,List.map_congr_left fun x hx=>VM (hpre x hx) _];simp[YA,hkl]
  ·have hc':ops[b.at_]? ≠some 4∨0≤b.els:=by
    by_cases h4:ops[b.at_]? =some 4
    ·exact .inr (by by_cases h0:0≤b.els;exact h0;exact absurd ⟨h4,h0⟩ hc)
    ·exact .inl h4
   rw[LL hb hc',if_neg (by rcases hc' with h|h;simp[h];simp;intro _;exact h)];rfl
theorem VN{ops:List Int}:∀ {j:Nat},j≤ops.length→uC 40 (ops.take j) []=(pH ops j).map (CK ops)
 |0,_=>by simp[uC,pH,CK]
 |j+1,hj=>by
  have ih:=VN (ops:=ops) (j:=j) (by omega);obtain⟨op,ho⟩:∃op,ops[j]? =some op:=⟨_,List.getElem?_eq_getElem hj⟩
  rw[List.take_add_one,ho];dsimp only[Option.toList];cases hm:pH ops j with
  |none=>
   rw[hm]at ih;rw[JP ih,pH,hm];rfl
  |some s=>
   rw[hm]at ih;rw[PY ih,aBz,wA hm ho];exact(aBA (zE hm) (PZ hm) ho).symm
theorem VO{ops:List Int}:wT ops=true↔ops.length≤300∧uC 40 ops []=some []:=by
 have h:=VN (ops:=ops) (Nat.le_refl _);rw[List.take_length]at h;rw[h];unfold wT gF;by_cases hl:300<ops.length
 ·rw[if_pos hl];simp;omega
 rw[if_neg hl];cases hm:pH ops ops.length with
 |none=>simp
 |some s=>
  obtain⟨all,opn⟩:=s;cases opn with
  |nil=>simp[CK];omega
  |cons k r=>simp[CK]
structure Md.Fn (m:Md):Prop extends m.Ck where
 bd:∀c∈m.co,c.bd.length≤100000∧∀x∈c.bd,x.Ck
 lc:∀c∈m.co,c.ls.length≤1000
theorem yG{m:Md}{s:PS}{x:Ins}(h:(cG m s x).1=false):(cG m s x).2=s∧uG x.op=false∧x.op≠5∧x.op≠11:=by
 have key:∀r:Bool×PS,r.1=true→r.1=false→r.2=s∧uG x.op=false∧x.op≠5∧x.op≠11:=fun r h1 h2=>by rw[h1]at h2;cases h2
 revert h;unfold cG;refine aL (p:=fun r:Bool×PS=>r.1=false→r.2=s∧uG x.op=false∧x.op≠5∧x.op≠11) (fun _=>key _ rfl) (fun _=> ?_);refine aL (p:=fun r:Bool×PS=>r.1=false→r.2=s∧uG x.op=false∧x.op≠5∧x.op≠11) (fun _=>key _ rfl) (fun _=> ?_);refine aL (p:=fun r:Bool×PS=>r.1=false→r.2=s∧uG x.op=false∧x.op≠5∧x.op≠11) (fun _=>key _ rfl) (fun a1=> ?_);refine aL (p:=fun r:Bool×PS=>r.1=false→r.2=s∧uG x.op=false∧x.op≠5∧x.op≠11) (fun _=>key _ rfl) (fun a2=> ?_);refine aL (p:=fun r:Bool×PS=>r.1=false→r.2=s∧uG x.op=false∧x.op≠5∧x.op≠11) (fun _=>key _ rfl) (fun a3=> ?_);refine aL (p:=fun r:Bool×PS=>r.1=false→r.2=s∧uG x.op=false∧x.op≠5∧x.op≠11) (fun _=>key _ rfl) (fun a4=> ?_);refine aL (p:=fun r:Bool×PS=>r.1=false→r.2=s∧uG x.op=false∧x.op≠5∧x.op≠11) (fun _=>key _ rfl) (fun _=> ?_);refine aL (p:=fun r:Bool×PS=>r.1=false→r.2=s∧uG x.op=false∧x.op≠5∧x.op≠11) (fun _=>key _ rfl) (fun _=> ?_);refine aL (p:=fun r:Bool×PS=>r.1=false→r.2=s∧uG x.op=false∧x.op≠5∧x.op≠11) (fun _=>key _ rfl) (fun _=> ?_);refine aL (p:=fun r:Bool×PS=>r.1=false→r.2=s∧uG x.op=false∧x.op≠5∧x.op≠11) (fun _=>key _ rfl) (fun _=> ?_)
 refine aL (p:=fun r:Bool×PS=>r.1=false→r.2=s∧uG x.op=false∧x.op≠5∧x.op≠11) (fun _=>key _ rfl) (fun _=> ?_);refine aL (p:=fun r:Bool×PS=>r.1=false→r.2=s∧uG x.op=false∧x.op≠5∧x.op≠11) (fun _=>key _ rfl) (fun _=> ?_);intro _;refine⟨rfl, ?_,by simpa using a3,by simpa using a4⟩;unfold uG;rw[Bool.not_eq_true]at a1 a2;rw[a1,a2];rfl
structure LOk (m:Md) (ls:List Int) (bd:List Ins) (s0:PS) (j:Nat) (s:PS) (F:List Bool):Prop where
 gd:s.Ok
 vl:s.vs.length≤101*j
 fl:F.length+1=s.cs.length
 f40:F.length≤40
 rn:uC 40 ((dA bd).drop j) F=some []
 go:goP m ls bd s0=goP m ls (bd.drop j) s
 nb:s.bad=false
theorem LOk.ge {m:Md}{ls:List Int}{bd:List Ins}{s0 s:PS}{j:Nat}{F:List Bool}(h:LOk m ls bd s0 j s F)(hj:j≤300):s.Gd:=⟨h.gd,by have:=h.vl;omega,by have:=h.fl;have:=h.f40;omega⟩
theorem QA{bd:List Ins}{a:Nat}{x:Ins}(h:bd[a]? =some x):(dA bd).drop a=x.op::(dA bd).drop (a+1)∧bd.drop a=x::bd.drop (a+1):=by
 obtain⟨h1,rfl⟩:=List.getElem?_eq_some_iff.1 h;refine⟨?_,List.drop_eq_getElem_cons h1⟩;unfold dA;rw[←List.map_drop,List.drop_eq_getElem_cons h1,List.map_cons,List.map_drop]
theorem LOk.two {m:Md}{ls:List Int}{bd:List Ins}{s0 s:PS}{j:Nat}{F:List Bool}(h:LOk m ls bd s0 j s F){x:Ins}(hx:bd[j]? =some x)(h11:x.op=11):2≤s.cs.length:=by
 have hr:=h.rn;rw[(QA hx).1,h11,uC]at hr;have:=h.fl;cases F with
 |nil=>unfold rW at hr;simp[uG]at hr
 |cons a F=>simp at this;omega
theorem LOk.step {m:Md}{ls:List Int}{bd:List Ins}{s0 s:PS}{j:Nat}{F:List Bool}(hT:m.TS)(h:LOk m ls bd s0 j s F){x:Ins}(hx:bd[j]? =some x):
  (qO m ls s x).Ok∧(qO m ls s x).vs.length≤101*(j+1)∧((qO m ls s x).bad=true→(goP m ls bd s0).bad=true)∧((qO m ls s x).bad=false→∃F',LOk m ls bd s0 (j+1) (qO m ls s x) F'):=by
 obtain⟨hc1,hc2,hc3⟩:=PA (m:=m) h.gd (fun e=>h.two hx e) hT;have hvl:=h.vl;have key:(qO m ls s x).Ok∧(qO m ls s x).vs.length≤101*(j+1)∧((qO m ls s x).cs.length:Int)=s.cs.length+dK x.op:=by
  unfold qO;dsimp only;cases hc:(cG m s x).1 with
  |true=>
   rw[if_pos rfl];rw[hc,if_pos rfl]at hc3;exact⟨hc1,by omega,hc3⟩
  |false=>
   obtain⟨e1,e2,e3,e4⟩:=yG hc;rw[if_neg (by simp),e1];obtain⟨p1,p2,p3⟩:=XP (m:=m) (ls:=ls) (x:=x) h.gd;refine⟨p1,by omega, ?_⟩;rw[p3];have:dK x.op=0:=by
    unfold dK;unfold uG at e2;rw[e2,if_neg (by simp),if_neg (by simpa using e4)]
   omega
 obtain⟨k1,k2,k3⟩:=key;obtain⟨o1,o2⟩:=QA hx;refine⟨k1,k2,fun hb=> ?_,fun hb=> ?_⟩
 ·rw[h.go,o2];show(if _ then _ else _:PS).bad=true;rw[if_pos hb];exact hb
 ·have hr:=h.rn;rw[o1,uC]at hr;cases hs:rW 40 F x.op with
  |none=>rw[hs]at hr;cases hr
  |some F'=>
   rw[hs]at hr;have hF:(F'.length:Int)=F.length+dK x.op∧F'.length≤40:=by
    have h40:=h.f40;unfold rW at hs;split at hs
    ·next hO=>
     split at hs
     ·cases hs
     ·obtain rfl:=Option.some.inj hs;unfold uG at hO;unfold dK;rw[if_pos hO];simp;omega
    ·next hO=>
     have hd0:∀n:Int,(x.op==11)=false→dK x.op=0:=fun _ e=>by
      unfold dK;unfold uG at hO;rw[if_neg (by simpa using hO),if_neg (by simp[e])]
     split at hs
     ·next h2=>
      obtain rfl:=Option.some.inj hs;rw[hd0 0 (by simpa using h2.2)];omega
     ·split at hs
      ·cases hs
      ·next c hl=>
       have hp:0<F.length:=List.length_pos_iff.2 (by rintro rfl;cases hl);split at hs
       ·next h11=>
        obtain rfl:=Option.some.inj hs;rw[h11];simp[dK];omega
       ·next h11=>
        split at hs
        ·obtain rfl:=Option.some.inj hs;rw[hd0 0 (by simpa using h11)];simp;omega
        ·cases hs
   have hfl:=h.fl;refine⟨F',k1,k2,by omega,hF.2,hr, ?_,hb⟩;rw[h.go,o2];show(if _ then _ else _:PS)=_;rw[if_neg (by simp[hb])]
theorem LOk.init {m:Md}{ls:List Int}{bd:List Ins}{kd:Int}(h:wT (dA bd)=true):LOk m ls bd (openP ⟨[],[],false⟩ 2 kd) 0 (openP ⟨[],[],false⟩ 2 kd) []:=
 ⟨PS.Ok0.openP ⟨by simp,by simp⟩ 2 kd,by simp[openP],by simp[openP],by simp,(VO.1 h).2,rfl,rfl⟩
end Go.Proofs.YtjpdadobblffmaaGreat
namespace Go.Proofs.YtjpdadobblffmaaGreat
open Go.RowKit Go.ChangeShapes Go.WideShapes Go.ChangeAt Go.Deep
attribute [local irreducible] SW RS RD fF eB
theorem aBB{a b c:Bool}(h:(if(if a=true then true else b)=true then true else c)=false):a=false∧b=false∧c=false:=by cases a<;>cases b<;>cases c<;>simp at h⊢
theorem aHv{a b:Bool}(h:(if(!a)=true then true else !b)=false):a=true∧b=true:=by cases a<;>cases b<;>simp at h⊢
theorem aHw{m:Md}{k:Int}{c:Co}{f:Int}(h:(if(if decide (k<0)=true then true else decide ((m.co.length:Int)≤k))=true then true else decide ((m.fn.length:Int)≤k))=false)(hc:m.co[k.toNat]? =some c)(hf:m.fn[k.toNat]? =some f):
  zH m k=if(if(!(dP m f).2)=true then true else !(wT (dA c.bd)))=true then false
   else if(goP m ((dP m f).1.pr++c.ls) c.bd (openP ⟨[],[],false⟩ 2 (if decide ((0:Int)<(dP m f).1.rs.length)=true then(dP m f).1.rs.headD 0 else 0))).bad=true then false
   else if(!(nJ (goP m ((dP m f).1.pr++c.ls) c.bd (openP ⟨[],[],false⟩ 2 (if decide ((0:Int)<(dP m f).1.rs.length)=true then(dP m f).1.rs.headD 0 else 0)))).bad)=true then decide ((((dP m f).1.pr++c.ls).length:Int)≤32)else false:=by
 unfold zH;rw[if_neg (fun e=>by rw[h]at e;cases e)];dsimp only;rw[List.getD_eq_getElem?_getD,List.getD_eq_getElem?_getD,hc,hf];rfl
theorem qE(m:Md)(hm:m.Fn)(k:Int):SCall Tryz.prog 23 [.agg (aZ m),.int .i64 k] [] (fun y σ=>y=.bool (zH m k)∧σ=[]):=by
 refine bS 124 [0,1,2,4,5,6,7,9,10,12,31,57,78,91,92,93,94,100,107] Tryz.func23 ?_;unfold aZ;refine cZ ?_;refine gQ fun r2 h2=> ?_;intros
 refine iX ?_;refine kP ?_;refine lE ?_;refine gQ fun r15 h15=> ?_;intros
 refine cM ?_;refine cH (ks:=[0,1,2,4,5,6,7,9,10,12,31,57,78,91,92,93,94,100,107]) r15 15 3 1 (by decide) bC rfl (by decide) fun p hp=> ?_
 simp only[aO,aT,and_true]at hp;repeat rcases hp with⟨_,hp⟩
 apply Exists.intro;apply And.intro;exact cE;refine cH (ks:=[0,1,2,4,5,6,7,9,10,12,31,57,78,91,92,93,94,100,107]) r15 16 137 4 (by decide) bC rfl (by decide) fun q hq=> ?_
 simp only[aO,aT,and_true]at hq;repeat rcases hq with⟨_,hq⟩
 apply Exists.intro;apply And.intro;exact cE;refine dZ (iG (r:=r15) (cs':=mL m (.ro 0 [] .nil) p q [] [] false) cE (.cons (.refl _) (.cons (.refl _) (.cons (.refl _) (.cons (.refl _) (.cons (.refl _) (.cons (.refl _) (.cons (.refl _) (.cons (.refl _) (.cons (.refl _) (.cons (.refl _) (.cons (.refl _) (.cons (.refl _) (.cons (.refl _) (.cons (.refl _) (.cons (.refl _) (.cons (.refl _) (.cons (.refl _) (.cons (.refl _) .nil))))))))))))))))))) ?_;have hN0:Nm r15 p q:=⟨by(exact cA),by(exact cA),by(exact cA)⟩
 unfold mL
 (try dsimp only);refine fV ?_;refine OJ ?_;refine oH ?_;refine aGq ?_;refine jE ?_;refine jU ?_;refine oH ?_;refine aGq ?_;refine oJ ?_;refine aB rfl (fun g2=> ?_) (fun g2=> ?_)
 ·rw[show zH m k=false from if_pos g2];refine bF ?_;exact aD aE ⟨by rfl,rfl⟩ aA
 obtain⟨t1,t2,t3⟩:=aBB g2;simp only[decide_eq_false_iff_not]at t1 t2 t3;obtain⟨c,hc⟩:∃c,m.co[k.toNat]? =some c:=⟨_,List.getElem?_eq_getElem (by omega)⟩
 obtain⟨f,hf⟩:∃f,m.fn[k.toNat]? =some f:=⟨_,List.getElem?_eq_getElem (by omega)⟩
 rw[aHw g2 hc hf];have hcm:=List.mem_of_getElem? hc;obtain⟨hb1,hb2⟩:=hm.bd c hcm;have hlc:=hm.lc c hcm;refine oI ?_;refine pA ?_;refine cw (dH r15 p q m (.ro 0 [] .nil) ⟨[],[],false⟩) Tryz.call74 (rV hN0 ⟨[],[],false⟩ f) rfl aC bZ ?_;rintro _ σ' ⟨rfl,rfl⟩ h39;refine oE ?_;refine sK ?_;refine iO fun r6 h6=> ?_;intros
 apply MZ;rfl;rfl;rfl;rfl;exact mP;refine iJ ?_;refine tK ?_;refine qN Tryz.call75 (lZ c.bd hb1) rfl bM kA ?_;rintro _ σ' ⟨q1,rfl,rfl⟩ h49
 replace h49:=cB h49;repeat rcases h49 with⟨_,h49⟩
 refine nE ?_;refine nS ?_;refine lo (eI (E rfl)) rfl ?_;refine jU ?_;refine rG ?_;refine oJ ?_;refine aB rfl (fun g6=> ?_) (fun g6=> ?_)
 ·rw[if_pos g6];refine bF ?_;exact aD aE ⟨by rfl,rfl⟩ aA
 obtain⟨hty,hok⟩:=aHv g6;rw[if_neg (c:=(if(!(dP m f).2)=true then true else !(wT (dA c.bd)))=true) (fun e=>by rw[g6]at e;cases e)];have hts:=pR hm.ts f;generalize(dP m f).1=t at hts⊢;obtain⟨pr,rs⟩:=t;obtain⟨hp1,hp2⟩:=hts;unfold dF;dsimp only at hp1 hp2⊢;have h300:=(VO.1 hok).1;have h300:c.bd.length≤300:=by simpa[dA]using h300
 refine aI ?_;refine fJ [(0,true),(1,true),(2,true),(3,true),(4,true),(5,true),(6,true),(8,true),(9,true),(10,true),(11,true),(12,true),(13,true),(7,false),(14,false),(15,true),(16,true),(17,false)] ?_;refine CF ?_;refine iC ?_;refine mS ?_;refine aJd rfl (pr.map aK) pr.length ?_ (hby:=by omega);refine iT fun r65 h65=> ?_;intros
 refine eZ rfl ((pr++c.ls).map aK) (pr++c.ls).length ?_;refine bE fun r72 h72=> ?_;intros
 refine rI ?_;refine jI ?_;refine dZ (kT (r:=r15) (q:=r72) cE bK (.cons (.refl _) (.cons (.refl _) (.cons (.refl _) (.cons (.refl _) (.cons (.refl _) (.cons (.refl _) (.cons (.refl _) (.cons (.refl _) (.cons (.refl _) (.cons (.refl _) (.cons (.refl _) (.cons (.refl _) (.cons (.refl _) (.cons (.refl _) (.cons (aN bC (by simp)) (.cons (.refl _) (.cons (.refl _) (.cons (.refl _) .nil))))))))))))))))))) ?_;have hll:(pr++c.ls).length≤2000:=by simp;omega
 generalize pr++c.ls=ls at hll⊢;obtain⟨kd,hkd⟩:∃kd,kd=(if decide ((0:Int)<(rs.length:Int))=true then rs.headD 0 else 0):=⟨_,rfl⟩
 rw[←hkd];refine mJ ?_;refine iX ?_;refine yT ?_;refine lo (iB (E rfl) (E rfl)) rfl ?_;refine iI ?_;refine sja (β:=Unit) (fun _=>⟨[(0,.agg (aZ m)),(1,.int .i64 k),(2,.ptr r2 0),(4,.bool false),(5,.ptr r15 0),(10,.int .i64 kd)],(r2,.box 33 (aZ m))::dH r15 p q m (.ro 1 (ls.map aK) .any) ⟨[],[],false⟩⟩) (fun _=>True) ?_ ?_
 ·refine aB rfl (fun g10=> ?_) (fun g10=> ?_)
  ·obtain⟨v,rs',rfl⟩:∃v rs',rs=v::rs':=by cases rs with|nil=>simp at g10|cons v rs'=>exact⟨v,rs',rfl⟩
   obtain rfl:kd=v:=by rw[hkd,if_pos g10];rfl
   have hv0:0<(kd::rs').length:=by simp
   refine fT ?_;refine lM ?_;refine cM ?_;exact⟨(),trivial,aJ⟩
  obtain rfl:kd=0:=by rw[hkd,g10];rfl
  refine aI ?_;exact⟨(),trivial,aJ⟩
 rintro⟨⟩-;unfold aZ dH mL
 (try dsimp only);refine dG ?_;refine cw (dH r15 p q m (.ro 1 (ls.map aK) .any) ⟨[],[],false⟩) Tryz.call76 (CX hN0 ⟨[],[],false⟩ (by simp) 2 kd) rfl aC bZ ?_;rintro _ σ' ⟨q2,hE,rfl⟩ h85;unfold dH mL;(try dsimp only);obtain⟨e1,e2,e3⟩:=id hE;refine aG0 (h85 _ (List.mem_cons_of_mem _ (List.mem_cons_of_mem _ List.mem_cons_self))) fun k85=> ?_;intros
 refine jG ?_;have hI:=LOk.init (m:=m) (ls:=ls) (kd:=kd) hok;generalize openP ⟨[],[],false⟩ 2 kd=s0 at hI⊢;refine mJ ?_;refine fO ?_;refine tK ?_;refine nR ?_;refine lp (β:=Nat×Nat×Nat×PS) (fun b=>⟨[(4,.bool false),(5,.ptr r15 0),(91,.ro 4 (c.bd.map (iv .any)) .any),(92,.int .i64 c.bd.length),(93,.int .i64 b.1)],dH r15 b.2.1 b.2.2.1 m (.ro 1 (ls.map aK) .any) b.2.2.2⟩) (fun b=>b.1≤c.bd.length∧Nm r15 b.2.1 b.2.2.1∧∃F,LOk m ls c.bd s0 b.1 b.2.2.2 F) (fun b=>c.bd.length-b.1) (0,p,q2,s0) (by unfold dH mL;(try dsimp only);(exact aJ)) ⟨Nat.zero_le _,hE,[],hI⟩ ?_;rintro⟨j,e,f',S⟩ ⟨hj,hN1,F,hL⟩;dsimp only at hj hN1 hL⊢;obtain⟨m1,m2,m3⟩:=id hN1;have hG:=hL.ge (by omega);have hbv:=hL.vl;have hbc:S.cs.length≤41:=by have:=hL.fl;have:=hL.f40;omega
 unfold dH mL
 (try dsimp only);refine gA ?_;refine aB rfl (fun g14=> ?_) (fun g14=> ?_)
 ·obtain⟨x,hx⟩:∃x,c.bd[j]? =some x:=⟨_,List.getElem?_eq_getElem (by simp at g14;omega)⟩
  have hlt:j<c.bd.length:=(List.getElem?_eq_some_iff.1 hx).1;have hxk:=hb2 x (List.mem_of_getElem? hx);have hst:=hL.step hm.ts hx;refine pB ?_;refine iO fun r12 h12=> ?_;intros
  refine mT ?_;refine kP ?_;refine cw (dH r15 e f' m (.ro 1 (ls.map aK) .any) S) Tryz.call77 (SO hN1 hm.toCk S hG (by omega) (by omega) x hxk (fun h=>hL.two hx h)) rfl aC bZ ?_;rintro _ σ' ⟨e1,f1,hE1,rfl,rfl⟩ h99;unfold dH mL;(try dsimp only);obtain⟨m4,m5,m6⟩:=id hE1;refine aG0 (h99 _ (List.mem_cons_of_mem _ List.mem_cons_self)) fun k99=> ?_;intros
  refine aG0 (h99 _ (List.mem_cons_of_mem _ (List.mem_cons_of_mem _ List.mem_cons_self))) fun l99=> ?_;intros
  apply aU;exact bD;refine nQ ?_;refine aB rfl (fun g16=> ?_) (fun g16=> ?_)
  ·have hc0:(cG m S x).1=false:=by simpa using g16
   rw[(yG hc0).1];rw[show qO m ls S x=dO m ls S x by unfold qO;dsimp only;rw[hc0,(yG hc0).1];rfl]at hst;refine cX ?_;refine kP ?_;refine cw (dH r15 e1 f1 m (.ro 1 (ls.map aK) .any) S) Tryz.call78 (aBy hE1 S hG x hxk) rfl aC bZ ?_;rintro _ σ' ⟨e2,hE2,rfl⟩ h103;unfold dH mL;(try dsimp only);obtain⟨m7,m8,m9⟩:=id hE2;refine jG ?_;obtain⟨A,O,hAO,rfl,rfl⟩:∃A O,Nm r15 A O∧A=e2∧O=f1:=⟨_,_,hE2,rfl,rfl⟩
   generalize dO m ls S x=S' at hst⊢;refine fV ?_;refine gY ?_;refine iI ?_;refine aB rfl (fun g18=> ?_) (fun g18=> ?_)
   ·rw[if_pos (hst.2.2.1 g18)];refine bF ?_;exact aD aE ⟨by rfl,rfl⟩ aA
   obtain⟨F',hL'⟩:=hst.2.2.2 g18;refine jH ?_;refine⟨(j+1,A,O,S'),⟨hlt,hAO,F',hL'⟩,by show c.bd.length-(j+1)<c.bd.length-j;omega, ?_⟩
   (try dsimp only);exact aJ
  have hc1:(cG m S x).1=true:=by simpa using g16
  rw[show qO m ls S x=(cG m S x).2 by unfold qO;dsimp only;rw[if_pos hc1]]at hst;obtain⟨A,O,hAO,rfl,rfl⟩:∃A O,Nm r15 A O∧A=e1∧O=f1:=⟨_,_,hE1,rfl,rfl⟩
  generalize(cG m S x).2=S' at hst⊢;refine cX ?_;refine gY ?_;refine iI ?_;refine aB rfl (fun g18=> ?_) (fun g18=> ?_)
  ·rw[if_pos (hst.2.2.1 g18)];refine bF ?_;exact aD aE ⟨by rfl,rfl⟩ aA
  obtain⟨F',hL'⟩:=hst.2.2.2 g18;refine jH ?_;refine⟨(j+1,A,O,S'),⟨hlt,hAO,F',hL'⟩,by show c.bd.length-(j+1)<c.bd.length-j;omega, ?_⟩
  (try dsimp only);exact aJ
 obtain rfl:j=c.bd.length:=by simp at g14;omega
 rw[show goP m ls c.bd s0=S by rw[hL.go,List.drop_length];rfl,if_neg (by simp[hL.nb])];refine cX ?_;refine cw (dH r15 e f' m (.ro 1 (ls.map aK) .any) S) Tryz.call79 (MC hN1 S hG) rfl aC bZ ?_;rintro _ σ' ⟨rfl,rfl⟩ h110;refine pX ?_;refine gY ?_;refine lo (eI (E rfl)) rfl ?_;refine jU ?_;refine UH ?_;refine qV ?_;refine KQ ?_;refine jM ?_;exact aD aE ⟨by rfl,rfl⟩ aA
def dX {α:Type} (pt:α→List Nat) (l:List α) (j:Nat):List Nat:=(l.take j).flatMap pt
theorem lR{α:Type}{pt:α→List Nat}{l:List α}{j:Nat}{x:α}(h:l[j]? =some x):dX pt l (j+1)=dX pt l j++pt x:=by
 unfold dX;rw[List.take_add_one,h,List.flatMap_append];simp
theorem aEa{α:Type}{pt:α→List Nat}{l:List α}:dX pt l l.length=l.flatMap pt:=by unfold dX;rw[List.take_length]
theorem SP{α:Type}{pt:α→List Nat}{l:List α}{c:Nat}(h:∀x∈l,(pt x).length≤c)(j:Nat):(dX pt l j).length≤l.length*c:=by
 have h1:∀(l:List α),(∀x∈l,(pt x).length≤c)→(l.flatMap pt).length≤l.length*c:=by
  intro l
  induction l with
  |nil=>simp
  |cons x l ih=>
   intro h;have:=ih fun y hy=>h y (List.mem_cons_of_mem _ hy)
   have hx:=h x List.mem_cons_self;rw[List.flatMap_cons,List.length_append,List.length_cons,Nat.add_mul];omega
 refine Nat.le_trans (h1 (l.take j) fun x hx=>h x (List.mem_of_mem_take hx)) (Nat.mul_le_mul_right c ?_);simp;omega
theorem CZ{α:Type}{pt:α→List Nat}{l:List α}:aY l pt=uB l.length++dX pt l l.length:=by rw[aEa];rfl
theorem vP(n:Int)(h0:0≤n)(h1:n≤100000000):SCall Tryz.prog 160 [.int .i64 n] [] (fun y σ=>∃q,y=.own q 0 (cC n).length∧σ=[(q,.arr 5 1 ((cC n).map aG))]):=by
 obtain⟨k,rfl⟩:∃k:Nat,n=k:=⟨n.toNat,by omega⟩
 have hU:=BP k (by omega);have hn:cC (k:Int)=uB k:=rfl;rw[hn];refine bS 6 [0,2] Tryz.func160 ?_;refine eX ?_;refine RI ?_;refine qN Tryz.call252 hU rfl bM kA ?_;rintro _ σ' ⟨q,rfl,rfl⟩ h5
 replace h5:=cB h5;repeat rcases h5 with⟨_,h5⟩
 refine eY ?_;exact aD aE ⟨q,by rfl,rfl⟩ aA
theorem vQ{k:Rk}(n:Nat)(vs:List Nat)(h1:n≤100000000)(h2:vs.length≤50000000):SCall Tryz.prog 251 [.int .i64 n,.ro 1 (vs.map aG) k] [] (fun y σ=>∃q,y=.own q 0 (uB n++vs).length∧σ=[(q,.arr 5 1 ((uB n++vs).map aG))]):=by
 have hu:=vP n (by omega) (by omega);have hn:cC (n:Int)=uB n:=rfl;rw[hn]at hu;have hl:=bG 4 n (by omega);refine bS 9 [0,1,4] Tryz.func251 ?_;refine eX ?_;refine qN Tryz.call160 hu rfl bM kA ?_;rintro _ σ' ⟨q,rfl,rfl⟩ h6
 replace h6:=cB h6;repeat rcases h6 with⟨_,h6⟩
 refine xQ ?_;refine jQ ((uB n++vs).map aG) (uB n++vs).length ?_;refine bE fun r8 h8=> ?_;intros
 refine cM ?_;exact aD aE ⟨r8,by rfl,rfl⟩ aA
theorem qR(s:List Nat)(h1:s.length≤100000)(h2:∀c∈s,c<256):SCall Tryz.prog 159 [.str (dI s)] [] (fun y σ=>∃q,y=.own q 0 (bI s).length∧σ=[(q,.arr 5 1 ((bI s).map aG))]):=by
 have hv:=vQ (k:=.any) s.length s (by omega) (by omega);refine bS 8 [0,2] Tryz.func159 ?_;refine eX ?_;refine lo (gM (E rfl)) rfl ?_;refine lo (aF (E rfl)) rfl ?_;refine cvb h2 ?_ (by simp[maxLen];omega);rw[jR];refine qN Tryz.call251 hv rfl bM kA ?_;rintro _ σ' ⟨q,rfl,rfl⟩ h7
 replace h7:=cB h7;repeat rcases h7 with⟨_,h7⟩
 refine eY ?_;exact aD aE ⟨q,by rfl,rfl⟩ aA
theorem DA(k:Int):SCall Tryz.prog 162 [.int .i64 k] [] (fun y σ=>y=.int .u8 ((if(k==1)=true then 127 else 126:Nat):Nat)∧σ=[]):=by
 refine bS 5 [0,2,4] Tryz.func162 ?_;refine eX ?_;refine xR ?_;refine aB rfl (fun g1=> ?_) (fun g1=> ?_)
 ·have hE:(if(k==1)=true then 127 else 126:Nat)=127:=if_pos g1;refine bF ?_;exact aD aE ⟨by rw[hE];rfl,rfl⟩ aA
 have hE:(if(k==1)=true then 127 else 126:Nat)=126:=if_neg (by rw[g1];simp);refine bF ?_;exact aD aE ⟨by rw[hE];rfl,rfl⟩ aA
theorem aBC(k:Int):kB k=[if(k==1)=true then 127 else 126]:=by unfold kB;split<;>rfl
theorem QB{k:Rk}(l:List Int)(hl:l.length≤1000):SCall Tryz.prog 157 [.ro 1 (l.map aK) k] [] (fun y σ=>∃q,y=.own q 0 (aY l kB).length∧σ=[(q,.arr 5 1 ((aY l kB).map aG))]):=by
 have hfl:=SP (l:=l) (fun x _=>Nat.le_of_eq (nX x));rw[CZ];refine bS 23 [0,2,3,4,8] Tryz.func157 ?_;refine oK ?_;refine bP 3 5 1 (by decide) rfl (by decide) (bN fun q0 hq0=> ?_);repeat rcases hq0 with⟨_,hq0⟩
 refine jV ?_;refine lp (β:=Nat×Nat) (fun b=>⟨[(0,.ro 1 (l.map aK) k),(3,.own b.1 0 (dX kB l b.2).length),(4,.int .i64 b.2)],[(b.1,.arr 5 1 ((dX kB l b.2).map aG))]⟩) (fun b=>b.2≤l.length) (fun b=>l.length-b.2) (q0,0) aJ (Nat.zero_le _) ?_;rintro⟨q1,j⟩ hj;have hpl:=hfl j;dsimp only at hj⊢;refine nF ?_;refine nP ?_;refine aB rfl (fun g3=> ?_) (fun g3=> ?_)
 ·have hlt:j<l.length:=by simp at g3;omega
  obtain⟨x,hx⟩:∃x,l[j]? =some x:=⟨_,List.getElem?_eq_getElem hlt⟩
  have hnx:dX kB l (j+1)=dX kB l j++ [if(x==1)=true then 127 else 126]:=by rw[lR hx,aBC]
  refine dG ?_;refine pA ?_;refine lB Tryz.call162 (DA x) rfl aP aS ?_;refine eC fun r17 h17=> ?_;intros
  refine jQ ((dX kB l j++ [if(x==1)=true then 127 else 126]).map aG) (dX kB l j++ [if(x==1)=true then 127 else 126]).length ?_;refine bE fun r18 h18=> ?_;intros
  refine gZ ?_;refine DS ?_;refine⟨(r18,j+1),hlt,by show l.length-(j+1)<l.length-j;omega, ?_⟩;dsimp only;rw[hnx];exact aJ
 obtain rfl:j=l.length:=by simp at g3;omega
 refine cX ?_;refine oQ ?_;refine qN Tryz.call251 (vQ l.length (dX kB l l.length) (by omega) (by omega)) rfl bM kA ?_;rintro _ σ' ⟨q4,rfl,rfl⟩ h22
 replace h22:=cB h22;repeat rcases h22 with⟨_,h22⟩
 refine eY ?_;exact aD aE ⟨q4,by rfl,rfl⟩ aA
theorem SQ{k:Rk}(l:List Int)(hl:l.length≤1000)(h0:∀x∈l,0≤x∧x≤100000000):SCall Tryz.prog 254 [.ro 1 (l.map aK) k] [] (fun y σ=>∃q,y=.own q 0 (aY l cC).length∧σ=[(q,.arr 5 1 ((aY l cC).map aG))]):=by
 have hfl:=SP (pt:=cC) (l:=l) (c:=5) fun x hx=>by have:=h0 x hx;exact bG 4 x.toNat (by omega)
 rw[CZ];refine bS 22 [0,2,3,4,8] Tryz.func254 ?_;refine oK ?_;refine bP 3 5 1 (by decide) rfl (by decide) (bN fun q0 hq0=> ?_);repeat rcases hq0 with⟨_,hq0⟩
 refine jV ?_;refine lp (β:=Nat×Nat) (fun b=>⟨[(0,.ro 1 (l.map aK) k),(3,.own b.1 0 (dX cC l b.2).length),(4,.int .i64 b.2)],[(b.1,.arr 5 1 ((dX cC l b.2).map aG))]⟩) (fun b=>b.2≤l.length) (fun b=>l.length-b.2) (q0,0) aJ (Nat.zero_le _) ?_;rintro⟨q1,j⟩ hj;have hpl:=hfl j;dsimp only at hj⊢;refine nF ?_;refine nP ?_;refine aB rfl (fun g3=> ?_) (fun g3=> ?_)
 ·have hlt:j<l.length:=by simp at g3;omega
  obtain⟨x,hx⟩:∃x,l[j]? =some x:=⟨_,List.getElem?_eq_getElem hlt⟩
  have hx0:=h0 x (List.mem_of_getElem? hx);have hxl:=bG 4 x.toNat (by omega);have hxl2:(cC x).length≤5:=hxl;have hnx:dX cC l (j+1)=dX cC l j++cC x:=lR hx;refine dG ?_;refine pA ?_;refine qN Tryz.call160 (vP x hx0.1 hx0.2) rfl bM kA ?_;rintro _ σ' ⟨q16,rfl,rfl⟩ h16
  replace h16:=cB h16;repeat rcases h16 with⟨_,h16⟩
  apply aU;exact bD;refine jQ ((dX cC l j++cC x).map aG) (dX cC l j++cC x).length ?_;refine bE fun r17 h17=> ?_;intros
  refine gZ ?_;refine DS ?_;refine⟨(r17,j+1),hlt,by show l.length-(j+1)<l.length-j;omega, ?_⟩;dsimp only;rw[hnx];exact aJ
 obtain rfl:j=l.length:=by simp at g3;omega
 refine cX ?_;refine oQ ?_;refine qN Tryz.call251 (vQ l.length (dX cC l l.length) (by omega) (by omega)) rfl bM kA ?_;rintro _ σ' ⟨q4,rfl,rfl⟩ h21
 replace h21:=cB h21;repeat rcases h21 with⟨_,h21⟩
 refine eY ?_;exact aD aE ⟨q4,by rfl,rfl⟩ aA
theorem JQ(l:Li)(h:PE l):SCall Tryz.prog 161 [.agg (gO l)] [] (fun y σ=>∃q,y=.own q 0 (dW l).length∧σ=[(q,.arr 5 1 ((dW l).map aG))]):=by
 obtain⟨has,mn,mx⟩:=l;obtain⟨h0,h1,h2⟩:=h;dsimp only at h0 h1 h2;have hu:=bG 2 mn.toNat (by omega);have hu2:=bG 2 mx.toNat (by omega);have hul:(cC mn).length≤3:=hu;have hul2:(cC mx).length≤3:=hu2;refine bS 20 [0,1,2,5] Tryz.func161 ?_;unfold gO;refine cZ ?_;apply bx;rfl;rfl;exact yR;rfl;refine bN fun r1 h1=> ?_;repeat rcases h1 with⟨_,h1⟩
 refine iJ ?_;refine nP ?_;refine aB rfl (fun g1=> ?_) (fun g1=> ?_)
 ·have hE:dW ⟨has,mn,mx⟩=[0]++cC mn:=by unfold dW;rw[if_pos g1];rfl
  refine cZ ?_;refine eC fun r6 h6=> ?_;intros
  refine fO ?_;refine qN Tryz.call160 (vP mn h0 (by omega)) rfl bM kA ?_;rintro _ σ' ⟨q9,rfl,rfl⟩ h9
  replace h9:=cB h9;repeat rcases h9 with⟨_,h9⟩
  apply aU;exact bD;refine jQ (([0]++cC mn).map aG) ([0]++cC mn).length ?_;refine bE fun r10 h10=> ?_;intros
  refine cM ?_;exact aD aE ⟨r10,by rw[hE];rfl,by rw[hE]⟩ aA
 have hE:dW ⟨has,mn,mx⟩=[1]++cC mn++cC mx:=by unfold dW;rw[if_neg (by rw[g1];simp)];rfl
 have hx:0≤mx:=by simp at g1;omega
 refine aI ?_;refine fJ [(1,true),(2,true),(5,true),(6,true),(10,false),(10,false),(10,false),(10,false),(10,false),(10,false)] ?_;refine iC ?_;refine iC ?_;refine kJ 0 3 [(3,false),(4,false),(7,false),(8,false),(9,true)] [(0,false),(4,false),(7,false),(8,false),(9,true)] (f1:=[]) (f2:=[]) (by kernel_rfl) rfl rfl ?_ ?_ (.inl rfl) (.inl rfl)
 ·apply xI;infer_instance;infer_instance;exact rF;rfl;rfl;rfl;rfl;exact yR;rfl;refine iT fun r11 h11=> ?_;intros
  refine nB rfl Tryz.call160 (vP mn h0 (by omega)) rfl bM kA ?_;rintro _ σ' ⟨q14,rfl,rfl⟩ h14
  replace h14:=cB h14;repeat rcases h14 with⟨_,h14⟩
  apply bQ;exact bD;refine eZ rfl (([1]++cC mn).map aG) ([1]++cC mn).length ?_;refine bE fun r15 h15=> ?_;intros
  refine nB rfl Tryz.call160 (vP mx hx (by omega)) rfl bM kA ?_;rintro _ σ' ⟨q18,rfl,rfl⟩ h18
  replace h18:=cB h18;repeat rcases h18 with⟨_,h18⟩
  apply bQ;exact bD;refine eZ rfl (([1]++cC mn++cC mx).map aG) ([1]++cC mn++cC mx).length ?_;refine bE fun r19 h19=> ?_;intros
  refine wQ ?_;exact aD aE ⟨r19,by rw[hE];rfl,by rw[hE]⟩ aA
 ·refine mV Tryz.call160 (vP mn h0 (by omega)) (cI rfl) ?_;rintro _ σ' ⟨q14,rfl,rfl⟩ h14
  replace h14:=cB h14;repeat rcases h14 with⟨_,h14⟩
  apply bQ;exact bD;refine z97 ?_;refine bN fun r11 h11=> ?_;repeat rcases h11 with⟨_,h11⟩
  refine eZ rfl (([1]++cC mn).map aG) ([1]++cC mn).length ?_;refine bE fun r15 h15=> ?_;intros
  refine nB rfl Tryz.call160 (vP mx hx (by omega)) rfl bM kA ?_;rintro _ σ' ⟨q18,rfl,rfl⟩ h18
  replace h18:=cB h18;repeat rcases h18 with⟨_,h18⟩
  apply bQ;exact bD;refine eZ rfl (([1]++cC mn++cC mx).map aG) ([1]++cC mn++cC mx).length ?_;refine bE fun r19 h19=> ?_;intros
  refine wQ ?_;exact aD aE ⟨r19,by rw[hE];rfl,by rw[hE]⟩ aA
theorem qS(k n:Int)(hv:mK k n=true)(hn:-9223372036854775808≤n∧n≤9223372036854775807):SCall Tryz.prog 163 [.agg [.int .i64 k,.int .i64 n]] []
  (fun y σ=>∃q,y=.own q 0 (mA k n).length∧σ=[(q,.arr 5 1 ((mA k n).map aG))]):=by
 obtain⟨ho,hm,-⟩:=EE hv hn;have hpl:=vB ho hm;have hcB:mA k n=gE ⟨if(k==2)=true then 66 else 65,n,0,[]⟩++ [11]:=rfl;rw[hcB];generalize hop:(if(k==2)=true then(66:Int)else 65)=op at ho hm hpl hcB⊢;have hop:=hop.symm;refine bS 14 [0,1,2,3,6] Tryz.func163 ?_;refine cZ ?_;refine gQ fun r1 h1=> ?_;intros
 refine iX ?_;refine iJ ?_;refine xR ?_;refine aB rfl (fun g2=> ?_) (fun g2=> ?_)
 ·have hco:cV (.int .i64 66)=AV.int .i64 op:=by rw[hop,if_pos g2];rfl
  refine bF ?_;rw[hco];refine lA ?_;refine lE ?_;refine iR (eE (j:=10) rfl CV) ?_;refine qN Tryz.call253 (sO .any ⟨op,n,0,[]⟩ ho hm) rfl bM kA ?_;rintro _ σ' ⟨q11,rfl,rfl⟩ h11
  replace h11:=cB h11;repeat rcases h11 with⟨_,h11⟩
  apply aU;exact bD;refine eC fun r12 h12=> ?_;intros
  refine jQ ((gE ⟨op,n,0,[]⟩++ [11]).map aG) (gE ⟨op,n,0,[]⟩++ [11]).length ?_;refine bE fun r13 h13=> ?_;intros
  refine cM ?_;exact aD aE ⟨r13,by rfl,rfl⟩ aA
 have hco:cV (.int .i64 65)=AV.int .i64 op:=by rw[hop,if_neg (by simp[g2])];rfl
 refine aI ?_;rw[hco];refine lA ?_;refine lE ?_;refine iR (eE (j:=10) rfl CV) ?_;refine qN Tryz.call253 (sO .any ⟨op,n,0,[]⟩ ho hm) rfl bM kA ?_;rintro _ σ' ⟨q11,rfl,rfl⟩ h11
 replace h11:=cB h11;repeat rcases h11 with⟨_,h11⟩
 apply aU;exact bD;refine z1 ?_;refine bN fun r12 h12=> ?_;repeat rcases h12 with⟨_,h12⟩
 refine jQ ((gE ⟨op,n,0,[]⟩++ [11]).map aG) (gE ⟨op,n,0,[]⟩++ [11]).length ?_;refine bE fun r13 h13=> ?_;intros
 refine cM ?_;exact aD aE ⟨r13,by rfl,rfl⟩ aA
theorem iM{α:Type}(no:Nat)(hno:no<256)(l:List α)(pt:α→List Nat)(hl:l.length≤1000)(hp:(dX pt l l.length).length≤30000000):SCall Tryz.prog 158 [.int .i64 no,.int .i64 l.length,.ro 1 ((dX pt l l.length).map aG) .any] []
  (fun y σ=>∃q,y=.own q 0 (bB no l pt).length∧σ=[(q,.arr 5 1 ((bB no l pt).map aG))]):=by
 have hu:=bG 1 l.length (by omega);have hV:aY l pt=uB l.length++dX pt l l.length:=CZ;have hvl:(uB l.length++dX pt l l.length).length≤40000000:=by simp;omega
 have hw:=vQ (k:=.any) l.length (dX pt l l.length) (by omega) (by omega);rw[←hV]at hvl hw;have hS:bB no l pt=if l.isEmpty then []else [no]++(uB (aY l pt).length++aY l pt):=rfl
 have hub:=bG 4 (aY l pt).length (by omega);refine bS 21 [0,1,2,6,7,9] Tryz.func158 ?_;refine eX ?_;refine xR ?_;refine aB rfl (fun g1=> ?_) (fun g1=> ?_)
 ·obtain rfl:l=[]:=by cases l with|nil=>rfl|cons x t=>(simp at g1<;>omega)
  refine rH ?_;refine bP 6 5 1 (by decide) rfl (by decide) (bN fun q2 hq2=> ?_);repeat rcases hq2 with⟨_,hq2⟩
  refine aI ?_;exact aD aE ⟨q2,by rw[hS];rfl,by rw[hS]⟩ aA
 have hE:bB no l pt=[no]++(uB (aY l pt).length++aY l pt):=by rw[hS,if_neg];intro e;rw[List.isEmpty_iff.1 e]at g1;simp at g1
 refine dG ?_;refine qN Tryz.call251 hw rfl bM kA ?_;rintro _ σ' ⟨q12,rfl,rfl⟩ h12
 replace h12:=cB h12;repeat rcases h12 with⟨_,h12⟩
 refine eY ?_;generalize aY l pt=P at hvl hub hE⊢;refine fV ?_;refine z0 ?_;refine eC fun r15 h15=> ?_;intros
 refine lo (aF (E rfl)) rfl ?_;refine oQ ?_;refine qN Tryz.call251 (vQ (k:=.any) P.length P (by omega) (by omega)) rfl bM kA ?_;rintro _ σ' ⟨q19,rfl,rfl⟩ h19
 replace h19:=cB h19;repeat rcases h19 with⟨_,h19⟩
 apply aU;exact bD;refine jQ (([no]++(uB P.length++P)).map aG) ([no]++(uB P.length++P)).length ?_;refine bE fun r20 h20=> ?_;intros
 refine cM ?_;exact aD aE ⟨r20,by rw[hE];rfl,by rw[hE]⟩ aA
def Bd (l:List Int) (i:Nat):Prop:=∀(init:List (List Int)) (y:Int) (m:Nat),bY (l.take i)=init++ [List.replicate (m+1) y]→l[i]? ≠some y
theorem SS{l:List Int}{i:Nat}{x:Int}(hb:Bd l i)(hx:l[i]? =some x):bY (l.take (i+1))=bY (l.take i)++ [[x]]:=by
 cases i with
 |zero=>rw[show l.take 0=[]from rfl,PM hx];rfl
 |succ i=>
  have hi:i<l.length:=by have:=(List.getElem?_eq_some_iff.1 hx).1;omega
  obtain⟨init,m,e,-,-⟩:=XU (List.getElem?_eq_getElem hi);have hk:l[i]≠x:=fun h=>hb init l[i] m e (by rw[h];exact hx)
  rw[e];exact PL e hx hk
theorem YC{l:List Int}{i k:Nat}{x:Int}{R:List (List Int)}(hk:i<k)(h:bY (l.take k)=R++ [List.replicate (k-i) x])(hx:l[k]? =some x):bY (l.take (k+1))=R++ [List.replicate (k+1-i) x]:=by
 obtain⟨m,hm⟩:∃m,k-i=m+1:=⟨k-i-1,by omega⟩
 rw[hm]at h;have:=JH h hx;rw[this,show k+1-i=m+1+1 by omega,List.replicate_succ' (n:=m+1)]
theorem aEb{l:List Int}{i k:Nat}{x:Int}{R:List (List Int)}(hk:i<k)(h:bY (l.take k)=R++ [List.replicate (k-i) x])(hx:l[k]? ≠some x):Bd l k:=by
 intro init y m e;rw[h]at e;have:=(List.append_inj' e rfl).2;simp only[List.cons.injEq,and_true]at this;obtain⟨m2,hm⟩:∃m,k-i=m+1:=⟨k-i-1,by omega⟩
 rw[hm,List.replicate_succ,List.replicate_succ]at this;rw[←(List.cons.inj this).1];exact hx
theorem aEc(l:List Int):Bd l 0:=fun init y m e=>by
 rw[show bY (l.take 0)=[]from rfl]at e;simp at e
def QC (l:List Int) (i:Nat):List Nat:=(bY (l.take i)).flatMap gW
theorem aBD{l:List Int}{i k:Nat}{x:Int}(h:bY (l.take k)=bY (l.take i)++ [List.replicate (k-i) x])(hk:i<k):QC l k=QC l i++cC ((k:Int)-i)++ [if(x==1)=true then 127 else 126]:=by
 unfold QC;rw[h,List.flatMap_append];simp only[List.flatMap_cons,List.flatMap_nil,List.append_nil,List.append_assoc]
 congr 1
 unfold gW;rw[List.length_replicate,aBC,show((k-i:Nat):Int)=(k:Int)-i by omega];obtain⟨m,hm⟩:∃m,k-i=m+1:=⟨k-i-1,by omega⟩
 rw[hm,List.replicate_succ,List.headD_cons]
theorem VP{l:List Int}(hl:l.length≤1000)(i:Nat):(QC l i).length≤3000∧(bY (l.take i)).length≤1000:=by
 obtain⟨h1,h2⟩:=zN _ (l.take i) rfl;have h3:∀r∈bY (l.take i),0<r.length∧r.length≤1000:=fun r hr=>by
  obtain⟨k,m,rfl,-,hm⟩:=h2 r hr;simp at hm⊢;omega
 have hn:∀(rs:List (List Int)),(∀r∈rs,0<r.length∧r.length≤1000)→rs.length≤rs.flatten.length∧(rs.flatMap gW).length≤3*rs.length:=by
  intro rs
  induction rs with
  |nil=>simp
  |cons r rs ih=>
   intro h;have h4:=h r List.mem_cons_self;have:=ih fun r hr=>h r (List.mem_cons_of_mem _ hr)
   have h5:=EN h4.2;rw[List.flatten_cons,List.flatMap_cons,List.length_append,List.length_append,List.length_cons];omega
 have:=hn _ h3;have h6:(bY (l.take i)).flatten.length≤1000:=by rw[h1];simp;omega
 unfold QC;omega
theorem YD(l:List Int)(hl:l.length≤1000):SCall Tryz.prog 255 [.ro 1 (l.map aK) .any] [] (fun y σ=>∃q,y=.own q 0 (aY (bY l) gW).length∧σ=[(q,.arr 5 1 ((aY (bY l) gW).map aG))]):=by
 have hJ:=VP hl;refine bS 48 [0,2,3,4,5,6,10,26] Tryz.func255 ?_;refine oK ?_;refine bP 3 5 1 (by decide) rfl (by decide) (bN fun q0 hq0=> ?_);repeat rcases hq0 with⟨_,hq0⟩
 refine mJ ?_;refine iX ?_;refine cM ?_;refine lp (β:=Nat×Nat) (fun b=>⟨[(0,.ro 1 (l.map aK) .any),(3,.own b.1 0 (QC l b.2).length),(4,.int .i64 ((bY (l.take b.2)).length:Nat)),(5,.int .i64 b.2)],[(b.1,.arr 5 1 ((QC l b.2).map aG))]⟩) (fun b=>b.2≤l.length∧Bd l b.2) (fun b=>l.length-b.2) (q0,0) aJ ⟨Nat.zero_le _,aEc l⟩ ?_;rintro⟨q1,i⟩ ⟨hi,hbd⟩;obtain⟨hJ1,hJ2⟩:=hJ i;dsimp only at hi hbd⊢;refine nF ?_;refine nP ?_;refine aB rfl (fun g4=> ?_) (fun g4=> ?_)
 ·have hlt:i<l.length:=by simp at g4;omega
  obtain⟨x,hx⟩:∃x,l[i]? =some x:=⟨_,List.getElem?_eq_getElem hlt⟩
  have hxi:l[i]! =x:=by rw[List.getElem!_eq_getElem?_getD,hx];rfl
  refine eW ?_;refine lp (β:=Nat) (fun k=>⟨[(0,.ro 1 (l.map aK) .any),(3,.own q1 0 (QC l i).length),(4,.int .i64 ((bY (l.take i)).length:Nat)),(5,.int .i64 i),(6,.int .i64 k)],[(q1,.arr 5 1 ((QC l i).map aG))]⟩) (fun k=>i≤k∧k≤l.length∧(i<k→bY (l.take k)=bY (l.take i)++ [List.replicate (k-i) x])) (fun k=>l.length-k) i aJ ⟨Nat.le_refl _,hi,fun h=>absurd h (Nat.lt_irrefl _)⟩ ?_;rintro k ⟨hk1,hk2,hk3⟩;refine aI ?_;refine fJ [(0,true),(1,true),(2,true),(3,true),(4,true),(5,true),(6,true),(7,true),(8,true),(9,true),(10,true),(11,true),(12,true),(13,true),(14,true)] ?_;refine lF ?_;refine UD ?_;refine z46 ?_;refine uS ?_;refine sJ ?_;refine NW ?_;refine NY ?_;refine sJ ?_;refine sJ ?_;refine NW ?_;refine NY ?_;refine aIU ?_;refine aCX ?_;refine jI ?_;refine aB rfl (fun g6=> ?_) (fun g6=> ?_)
  ·have hkl:k<l.length:=by cases h:decide ((k:Int)<(l.length:Int))with|true=>(simp at h<;>omega)|false=>(rw[h]at g6;cases g6)
   obtain⟨y,hy⟩:∃y,l[k]? =some y:=⟨_,List.getElem?_eq_getElem hkl⟩
   have hyi:l[k]! =y:=by rw[List.getElem!_eq_getElem?_getD,hy];rfl
   have hyx:y=x:=by rw[decide_eq_true (by omega),if_pos rfl,Int.toNat_natCast,hyi]at g6;simpa using g6
   refine lJ ?_;refine⟨k+1,⟨by omega,hkl,fun _=> ?_⟩,by show l.length-(k+1)<l.length-k;omega, ?_⟩
   ·rw[hyx]at hy;rcases Nat.lt_or_ge i k with h|h
    ·exact YC h (hk3 h) hy
    ·obtain rfl:k=i:=by omega
     rw[SS hbd hy,show k+1-k=1 by omega];rfl
   exact aJ
  have hxk:l[k]? ≠some x:=by intro h;have hkl:=(List.getElem?_eq_some_iff.1 h).1;rw[decide_eq_true (by omega),if_pos rfl,Int.toNat_natCast,List.getElem!_eq_getElem?_getD,h]at g6;simp at g6
  have hik:i<k:=by rcases Nat.lt_or_ge i k with h|h;exact h;exact absurd (by rw[show k=i by omega];exact hx) hxk
  have hrun:=hk3 hik;have hnx:=aBD hrun hik;have hbk:=aEb hik hrun hxk;obtain⟨hJ3,hJ4⟩:=hJ k;have hcnt:((bY (l.take k)).length:Int)=(bY (l.take i)).length+1:=by rw[hrun];simp
  have hnl:(cC ((k:Int)-i)).length≤5:=bG 4 ((k:Int)-i).toNat (by omega);refine aI ?_;refine fJ [(0,true),(1,true),(2,true),(3,true),(6,true),(7,true),(8,true),(9,true),(4,false),(5,false),(10,false),(11,false),(12,false),(13,true)] ?_;refine lF ?_;refine fP rfl (aF (E rfl)) rfl ?_;refine z82 ?_;refine lF ?_;refine nG ?_;refine nB rfl Tryz.call160 (vP ((k:Int)-i) (by omega) (by omega)) rfl bM kA ?_;rintro _ σ' ⟨q33,rfl,rfl⟩ h33
  replace h33:=cB h33;repeat rcases h33 with⟨_,h33⟩
  apply bQ;exact bD;refine eZ rfl ((QC l i++cC ((k:Int)-i)).map aG) (QC l i++cC ((k:Int)-i)).length ?_;refine bE fun r34 h34=> ?_;intros
  refine aDi rfl Tryz.call162 (DA x) rfl aP aS ?_;refine HL fun r40 h40=> ?_;intros
  refine eZ rfl ((QC l i++cC ((k:Int)-i)++ [if(x==1)=true then 127 else 126]).map aG) (QC l i++cC ((k:Int)-i)++ [if(x==1)=true then 127 else 126]).length ?_;refine bE fun r41 h41=> ?_;intros
  refine oX ?_;refine fV ?_;refine cM ?_;refine⟨(r41,k),⟨hk2,hbk⟩,by show l.length-k<l.length-i;omega, ?_⟩;dsimp only;rw[hnx,hcnt];exact aJ
 obtain rfl:i=l.length:=by simp at g4;omega
 have hv:=vQ (k:=.any) (bY (l.take l.length)).length (QC l l.length) (by omega) (by omega);rw[show uB (bY (l.take l.length)).length++QC l l.length=aY (bY l) gW by unfold QC;rw[List.take_length];rfl]at hv;refine dG ?_;refine qN Tryz.call251 hv rfl bM kA ?_;rintro _ σ' ⟨q2,rfl,rfl⟩ h47
 replace h47:=cB h47;repeat rcases h47 with⟨_,h47⟩
 refine eY ?_;exact aD aE ⟨q2,by rfl,rfl⟩ aA
end Go.Proofs.YtjpdadobblffmaaGreat
