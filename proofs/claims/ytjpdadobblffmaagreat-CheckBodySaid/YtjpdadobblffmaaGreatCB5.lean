import Derived.Test.YtjpdadobblffmaaGreatCB4
import Derived.Test.YtjpdadobblffmaaGreatCB3
set_option linter.unusedSimpArgs false
set_option linter.unusedVariables false
set_option maxRecDepth 100000
set_option maxHeartbeats 4000000
namespace Go.Proofs.YtjpdadobblffmaaGreat
open Go.RowKit Go.ChangeShapes Go.WideShapes Go.ChangeAt Go.Deep
attribute [local irreducible] SW RS RD gJ fA
theorem uR(s:St):(gR s).1<4294967296:=by
 have:=(xT s.1).1;unfold gR;dsimp only;split<;>omega
structure Gets (P:Program) (f:FuncId) (us vs:List AV) (σ:St→dY) {α:Type} (ar:α→AV) (get:St→α×St):Prop where
 call:∀args w,(callFunc f args).run P w=.ok (.enter f args) w
 st:Kp get
 run:∀s,SOk s→SCall P f (us++ []++vs) (σ s) (fun y σ'=>y=ar (get s).1∧σ'=σ (get s).2)
theorem yO{f:FuncId}{us vs:List AV}{r:Nat}{get:St→Int×St}(hg:Gets Tryz.prog f us vs (fun s=>[(r,.box 117 (dI s))]) (fun n=>.int .i64 n) get)(s:St)(hs:SOk s):SCall Tryz.prog 171 [.ptr r 0,.fn (.func f) us vs] [(r,.box 117 (dI s))]
  (fun x σ=>∃q,Fresh q [(r,.box 117 (dI s))]∧x=.own q 0 (fW get s).1.length∧σ=[(q,.arr 3 1 ((fW get s).1.map aX)),(r,.box 117 (dI (fW get s).2))]):=by
 have h1:=jM r s hs;have k1:=iP s hs;have kb:=uR s;have hR:fW get s=jV get (gR s).1 (gR s).2:=rfl;generalize gR s=p at h1 k1 kb hR;obtain⟨n,s1⟩:=p;dsimp only at h1 k1 kb hR;refine cC 26 [0,1,4,5,6,17] Tryz.func171 ?_;refine nX ?_;refine bU 5 3 1 (by decide) rfl (by decide) (aD fun q0 hq0=> ?_);repeat rcases hq0 with⟨_,hq0⟩
 refine gK ?_;refine cw [(r,.box 117 (dI s))] Tryz.call68 h1 rfl aC aA ?_;rintro _ σ' ⟨rfl,rfl⟩ h8;refine eP ?_;refine lp (β:=Nat×Nat×St×List Int) (fun b=>⟨[(0,.ptr r 0),(1,.fn (.func f) us vs),(5,.own b.1 0 b.2.2.2.length),(6,.int .i64 (b.2.1:Nat))],[(b.1,.arr 3 1 (b.2.2.2.map aX)),(r,.box 117 (dI b.2.2.1))]⟩) (fun b=>Fresh b.1 [(r,.box 117 (dI s))]∧SOk b.2.2.1∧b.2.1+b.2.2.2.length≤4294967296∧fW get s=(b.2.2.2++(jV get b.2.1 b.2.2.1).1,(jV get b.2.1 b.2.2.1).2)) (fun b=>b.2.1) (q0,n,s1,[]) aK ⟨tC,k1,by show n+0≤4294967296;omega,by rw[hR];rfl⟩ ?_;rintro⟨q1,m,⟨l2,b2⟩,acc⟩ ⟨hq1,hs2,hmb,hL⟩;dsimp only at hq1 hs2 hmb hL⊢;have hq2:=hq1;simp only[aM,aQ,and_true]at hq2;repeat rcases hq2 with⟨_,hq2⟩
 unfold dI;dsimp only;refine dX ?_;refine uA ?_;refine aB rfl (fun g3=> ?_) (fun g3=> ?_)
 ·obtain rfl:b2=false:=by cases b2 with|false=>rfl|true=>simp at g3
  obtain⟨m,rfl⟩:∃k,m=k+1:=⟨m-1,by simp at g3;omega⟩
  have hrun:=hg.run (l2,false) hs2;have hk:=hg.st (l2,false) hs2;have hl:jV get (m+1) (l2,false)=((get (l2,false)).1::(jV get m (get (l2,false)).2).1,(jV get m (get (l2,false)).2).2):=rfl;rw[hl]at hL;generalize get (l2,false)=p at hrun hk hL;obtain⟨x,s3⟩:=p;dsimp only at hrun hk hL;refine cL ?_;refine pR [(r,.box 117 (dI (l2,false)))] rfl hg.call hrun rfl aC aA ?_;rintro _ σ' ⟨rfl,rfl⟩ h22;apply aT;(exact bF);refine z1 ?_;refine aD fun r23 h23=> ?_;repeat rcases h23 with⟨_,h23⟩
  refine jY ((acc++ [x]).map aX) (acc++ [x]).length ?_;refine bM fun r24 h24=> ?_;repeat rcases h24 with⟨_,h24⟩
  refine iE ?_;refine rP ?_;rw[show((m+1:Nat):Int)-1=(m:Nat) by omega];refine dG ?_;refine⟨(r24,m,s3,acc++ [x]),⟨tC,hk,by show m+(acc++ [x]).length≤4294967296;simp;omega,by rw[hL];simp⟩,Nat.lt_succ_self _, ?_⟩;dsimp only;exact aK
 have hz:jV get m (l2,b2)=([],(l2,b2)):=by cases m with|zero=>rfl|succ m=>(cases b2 with|true=>rfl|false=>(simp at g3<;>omega))
 have hE:fW get s=(acc,(l2,b2)):=by rw[hL,hz];simp
 refine fN ?_;apply aF;exact aG
 ·exact⟨q1,hq1,by rw[hE];rfl,by rw[hE]⟩
 ·exact aA
theorem aB9{f:FuncId}{us vs:List AV}{r:Nat}{get:St→FT×St}(hg:Gets Tryz.prog f us vs (fun s=>[(r,.box 117 (dI s))]) (fun x=>.agg (eF x)) get)(s:St)(hs:SOk s):SCall Tryz.prog 167 [.ptr r 0,.fn (.func f) us vs] [(r,.box 117 (dI s))]
  (fun x σ=>∃q,Fresh q [(r,.box 117 (dI s))]∧x=.own q 0 (fW get s).1.length∧σ=[(q,.arr 50 2 ((fW get s).1.map eF)),(r,.box 117 (dI (fW get s).2))]):=by
 have h1:=jM r s hs;have k1:=iP s hs;have kb:=uR s;have hR:fW get s=jV get (gR s).1 (gR s).2:=rfl;generalize gR s=p at h1 k1 kb hR;obtain⟨n,s1⟩:=p;dsimp only at h1 k1 kb hR;refine cC 26 [0,1,4,5,6,17] Tryz.func167 ?_;refine nX ?_;refine bU 5 50 2 (by decide) rfl (by decide) (aD fun q0 hq0=> ?_);repeat rcases hq0 with⟨_,hq0⟩
 refine gK ?_;refine cw [(r,.box 117 (dI s))] Tryz.call68 h1 rfl aC aA ?_;rintro _ σ' ⟨rfl,rfl⟩ h8;refine eP ?_;refine lp (β:=Nat×Nat×St×List FT) (fun b=>⟨[(0,.ptr r 0),(1,.fn (.func f) us vs),(5,.own b.1 0 b.2.2.2.length),(6,.int .i64 (b.2.1:Nat))],[(b.1,.arr 50 2 (b.2.2.2.map eF)),(r,.box 117 (dI b.2.2.1))]⟩) (fun b=>Fresh b.1 [(r,.box 117 (dI s))]∧SOk b.2.2.1∧b.2.1+b.2.2.2.length≤4294967296∧fW get s=(b.2.2.2++(jV get b.2.1 b.2.2.1).1,(jV get b.2.1 b.2.2.1).2)) (fun b=>b.2.1) (q0,n,s1,[]) aK ⟨tC,k1,by show n+0≤4294967296;omega,by rw[hR];rfl⟩ ?_;rintro⟨q1,m,⟨l2,b2⟩,acc⟩ ⟨hq1,hs2,hmb,hL⟩;dsimp only at hq1 hs2 hmb hL⊢;have hq2:=hq1;simp only[aM,aQ,and_true]at hq2;repeat rcases hq2 with⟨_,hq2⟩
 unfold dI;dsimp only;refine dX ?_;refine uA ?_;refine aB rfl (fun g3=> ?_) (fun g3=> ?_)
 ·obtain rfl:b2=false:=by cases b2 with|false=>rfl|true=>simp at g3
  obtain⟨m,rfl⟩:∃k,m=k+1:=⟨m-1,by simp at g3;omega⟩
  have hrun:=hg.run (l2,false) hs2;have hk:=hg.st (l2,false) hs2;have hl:jV get (m+1) (l2,false)=((get (l2,false)).1::(jV get m (get (l2,false)).2).1,(jV get m (get (l2,false)).2).2):=rfl;rw[hl]at hL;generalize get (l2,false)=p at hrun hk hL;obtain⟨x,s3⟩:=p;dsimp only at hrun hk hL;refine cL ?_;refine pR [(r,.box 117 (dI (l2,false)))] rfl hg.call hrun rfl aC aA ?_;rintro _ σ' ⟨rfl,rfl⟩ h22;apply aT;(exact bF);refine z1 ?_;refine aD fun r23 h23=> ?_;repeat rcases h23 with⟨_,h23⟩
  refine jY ((acc++ [x]).map eF) (acc++ [x]).length ?_;refine bM fun r24 h24=> ?_;repeat rcases h24 with⟨_,h24⟩
  refine iE ?_;refine rP ?_;rw[show((m+1:Nat):Int)-1=(m:Nat) by omega];refine dG ?_;refine⟨(r24,m,s3,acc++ [x]),⟨tC,hk,by show m+(acc++ [x]).length≤4294967296;simp;omega,by rw[hL];simp⟩,Nat.lt_succ_self _, ?_⟩;dsimp only;exact aK
 have hz:jV get m (l2,b2)=([],(l2,b2)):=by cases m with|zero=>rfl|succ m=>(cases b2 with|true=>rfl|false=>(simp at g3<;>omega))
 have hE:fW get s=(acc,(l2,b2)):=by rw[hL,hz];simp
 refine fN ?_;apply aF;exact aG
 ·exact⟨q1,hq1,by rw[hE];rfl,by rw[hE]⟩
 ·exact aA
theorem aCa{f:FuncId}{us vs:List AV}{r:Nat}{get:St→Im×St}(hg:Gets Tryz.prog f us vs (fun s=>[(r,.box 117 (dI s))]) (fun x=>.agg (fT x)) get)(s:St)(hs:SOk s):SCall Tryz.prog 169 [.ptr r 0,.fn (.func f) us vs] [(r,.box 117 (dI s))]
  (fun x σ=>∃q,Fresh q [(r,.box 117 (dI s))]∧x=.own q 0 (fW get s).1.length∧σ=[(q,.arr 64 3 ((fW get s).1.map fT)),(r,.box 117 (dI (fW get s).2))]):=by
 have h1:=jM r s hs;have k1:=iP s hs;have kb:=uR s;have hR:fW get s=jV get (gR s).1 (gR s).2:=rfl;generalize gR s=p at h1 k1 kb hR;obtain⟨n,s1⟩:=p;dsimp only at h1 k1 kb hR;refine cC 26 [0,1,4,5,6,17] Tryz.func169 ?_;refine nX ?_;refine bU 5 64 3 (by decide) rfl (by decide) (aD fun q0 hq0=> ?_);repeat rcases hq0 with⟨_,hq0⟩
 refine gK ?_;refine cw [(r,.box 117 (dI s))] Tryz.call68 h1 rfl aC aA ?_;rintro _ σ' ⟨rfl,rfl⟩ h8;refine eP ?_;refine lp (β:=Nat×Nat×St×List Im) (fun b=>⟨[(0,.ptr r 0),(1,.fn (.func f) us vs),(5,.own b.1 0 b.2.2.2.length),(6,.int .i64 (b.2.1:Nat))],[(b.1,.arr 64 3 (b.2.2.2.map fT)),(r,.box 117 (dI b.2.2.1))]⟩) (fun b=>Fresh b.1 [(r,.box 117 (dI s))]∧SOk b.2.2.1∧b.2.1+b.2.2.2.length≤4294967296∧fW get s=(b.2.2.2++(jV get b.2.1 b.2.2.1).1,(jV get b.2.1 b.2.2.1).2)) (fun b=>b.2.1) (q0,n,s1,[]) aK ⟨tC,k1,by show n+0≤4294967296;omega,by rw[hR];rfl⟩ ?_;rintro⟨q1,m,⟨l2,b2⟩,acc⟩ ⟨hq1,hs2,hmb,hL⟩;dsimp only at hq1 hs2 hmb hL⊢;have hq2:=hq1;simp only[aM,aQ,and_true]at hq2;repeat rcases hq2 with⟨_,hq2⟩
 unfold dI;dsimp only;refine dX ?_;refine uA ?_;refine aB rfl (fun g3=> ?_) (fun g3=> ?_)
 ·obtain rfl:b2=false:=by cases b2 with|false=>rfl|true=>simp at g3
  obtain⟨m,rfl⟩:∃k,m=k+1:=⟨m-1,by simp at g3;omega⟩
  have hrun:=hg.run (l2,false) hs2;have hk:=hg.st (l2,false) hs2;have hl:jV get (m+1) (l2,false)=((get (l2,false)).1::(jV get m (get (l2,false)).2).1,(jV get m (get (l2,false)).2).2):=rfl;rw[hl]at hL;generalize get (l2,false)=p at hrun hk hL;obtain⟨x,s3⟩:=p;dsimp only at hrun hk hL;refine cL ?_;refine pR [(r,.box 117 (dI (l2,false)))] rfl hg.call hrun rfl aC aA ?_;rintro _ σ' ⟨rfl,rfl⟩ h22;apply aT;(exact bF);refine z1 ?_;refine aD fun r23 h23=> ?_;repeat rcases h23 with⟨_,h23⟩
  refine jY ((acc++ [x]).map fT) (acc++ [x]).length ?_;refine bM fun r24 h24=> ?_;repeat rcases h24 with⟨_,h24⟩
  refine iE ?_;refine rP ?_;rw[show((m+1:Nat):Int)-1=(m:Nat) by omega];refine dG ?_;refine⟨(r24,m,s3,acc++ [x]),⟨tC,hk,by show m+(acc++ [x]).length≤4294967296;simp;omega,by rw[hL];simp⟩,Nat.lt_succ_self _, ?_⟩;dsimp only;exact aK
 have hz:jV get m (l2,b2)=([],(l2,b2)):=by cases m with|zero=>rfl|succ m=>(cases b2 with|true=>rfl|false=>(simp at g3<;>omega))
 have hE:fW get s=(acc,(l2,b2)):=by rw[hL,hz];simp
 refine fN ?_;apply aF;exact aG
 ·exact⟨q1,hq1,by rw[hE];rfl,by rw[hE]⟩
 ·exact aA
theorem aCb{f:FuncId}{us vs:List AV}{r:Nat}{get:St→Gl×St}(hg:Gets Tryz.prog f us vs (fun s=>[(r,.box 117 (dI s))]) (fun x=>.agg (fP x)) get)(s:St)(hs:SOk s):SCall Tryz.prog 173 [.ptr r 0,.fn (.func f) us vs] [(r,.box 117 (dI s))]
  (fun x σ=>∃q,Fresh q [(r,.box 117 (dI s))]∧x=.own q 0 (fW get s).1.length∧σ=[(q,.arr 73 3 ((fW get s).1.map fP)),(r,.box 117 (dI (fW get s).2))]):=by
 have h1:=jM r s hs;have k1:=iP s hs;have kb:=uR s;have hR:fW get s=jV get (gR s).1 (gR s).2:=rfl;generalize gR s=p at h1 k1 kb hR;obtain⟨n,s1⟩:=p;dsimp only at h1 k1 kb hR;refine cC 26 [0,1,4,5,6,17] Tryz.func173 ?_;refine nX ?_;refine bU 5 73 3 (by decide) rfl (by decide) (aD fun q0 hq0=> ?_);repeat rcases hq0 with⟨_,hq0⟩
 refine gK ?_;refine cw [(r,.box 117 (dI s))] Tryz.call68 h1 rfl aC aA ?_;rintro _ σ' ⟨rfl,rfl⟩ h8;refine eP ?_;refine lp (β:=Nat×Nat×St×List Gl) (fun b=>⟨[(0,.ptr r 0),(1,.fn (.func f) us vs),(5,.own b.1 0 b.2.2.2.length),(6,.int .i64 (b.2.1:Nat))],[(b.1,.arr 73 3 (b.2.2.2.map fP)),(r,.box 117 (dI b.2.2.1))]⟩) (fun b=>Fresh b.1 [(r,.box 117 (dI s))]∧SOk b.2.2.1∧b.2.1+b.2.2.2.length≤4294967296∧fW get s=(b.2.2.2++(jV get b.2.1 b.2.2.1).1,(jV get b.2.1 b.2.2.1).2)) (fun b=>b.2.1) (q0,n,s1,[]) aK ⟨tC,k1,by show n+0≤4294967296;omega,by rw[hR];rfl⟩ ?_;rintro⟨q1,m,⟨l2,b2⟩,acc⟩ ⟨hq1,hs2,hmb,hL⟩;dsimp only at hq1 hs2 hmb hL⊢;have hq2:=hq1;simp only[aM,aQ,and_true]at hq2;repeat rcases hq2 with⟨_,hq2⟩
 unfold dI;dsimp only;refine dX ?_;refine uA ?_;refine aB rfl (fun g3=> ?_) (fun g3=> ?_)
 ·obtain rfl:b2=false:=by cases b2 with|false=>rfl|true=>simp at g3
  obtain⟨m,rfl⟩:∃k,m=k+1:=⟨m-1,by simp at g3;omega⟩
  have hrun:=hg.run (l2,false) hs2;have hk:=hg.st (l2,false) hs2;have hl:jV get (m+1) (l2,false)=((get (l2,false)).1::(jV get m (get (l2,false)).2).1,(jV get m (get (l2,false)).2).2):=rfl;rw[hl]at hL;generalize get (l2,false)=p at hrun hk hL;obtain⟨x,s3⟩:=p;dsimp only at hrun hk hL;refine cL ?_;refine pR [(r,.box 117 (dI (l2,false)))] rfl hg.call hrun rfl aC aA ?_;rintro _ σ' ⟨rfl,rfl⟩ h22;apply aT;(exact bF);refine z1 ?_;refine aD fun r23 h23=> ?_;repeat rcases h23 with⟨_,h23⟩
  refine jY ((acc++ [x]).map fP) (acc++ [x]).length ?_;refine bM fun r24 h24=> ?_;repeat rcases h24 with⟨_,h24⟩
  refine iE ?_;refine rP ?_;rw[show((m+1:Nat):Int)-1=(m:Nat) by omega];refine dG ?_;refine⟨(r24,m,s3,acc++ [x]),⟨tC,hk,by show m+(acc++ [x]).length≤4294967296;simp;omega,by rw[hL];simp⟩,Nat.lt_succ_self _, ?_⟩;dsimp only;exact aK
 have hz:jV get m (l2,b2)=([],(l2,b2)):=by cases m with|zero=>rfl|succ m=>(cases b2 with|true=>rfl|false=>(simp at g3<;>omega))
 have hE:fW get s=(acc,(l2,b2)):=by rw[hL,hz];simp
 refine fN ?_;apply aF;exact aG
 ·exact⟨q1,hq1,by rw[hE];rfl,by rw[hE]⟩
 ·exact aA
theorem aCc{f:FuncId}{us vs:List AV}{r:Nat}{get:St→Ex×St}(hg:Gets Tryz.prog f us vs (fun s=>[(r,.box 117 (dI s))]) (fun x=>.agg (fQ x)) get)(s:St)(hs:SOk s):SCall Tryz.prog 175 [.ptr r 0,.fn (.func f) us vs] [(r,.box 117 (dI s))]
  (fun x σ=>∃q,Fresh q [(r,.box 117 (dI s))]∧x=.own q 0 (fW get s).1.length∧σ=[(q,.arr 66 2 ((fW get s).1.map fQ)),(r,.box 117 (dI (fW get s).2))]):=by
 have h1:=jM r s hs;have k1:=iP s hs;have kb:=uR s;have hR:fW get s=jV get (gR s).1 (gR s).2:=rfl;generalize gR s=p at h1 k1 kb hR;obtain⟨n,s1⟩:=p;dsimp only at h1 k1 kb hR;refine cC 26 [0,1,4,5,6,17] Tryz.func175 ?_;refine nX ?_;refine bU 5 66 2 (by decide) rfl (by decide) (aD fun q0 hq0=> ?_);repeat rcases hq0 with⟨_,hq0⟩
 refine gK ?_;refine cw [(r,.box 117 (dI s))] Tryz.call68 h1 rfl aC aA ?_;rintro _ σ' ⟨rfl,rfl⟩ h8;refine eP ?_;refine lp (β:=Nat×Nat×St×List Ex) (fun b=>⟨[(0,.ptr r 0),(1,.fn (.func f) us vs),(5,.own b.1 0 b.2.2.2.length),(6,.int .i64 (b.2.1:Nat))],[(b.1,.arr 66 2 (b.2.2.2.map fQ)),(r,.box 117 (dI b.2.2.1))]⟩) (fun b=>Fresh b.1 [(r,.box 117 (dI s))]∧SOk b.2.2.1∧b.2.1+b.2.2.2.length≤4294967296∧fW get s=(b.2.2.2++(jV get b.2.1 b.2.2.1).1,(jV get b.2.1 b.2.2.1).2)) (fun b=>b.2.1) (q0,n,s1,[]) aK ⟨tC,k1,by show n+0≤4294967296;omega,by rw[hR];rfl⟩ ?_;rintro⟨q1,m,⟨l2,b2⟩,acc⟩ ⟨hq1,hs2,hmb,hL⟩;dsimp only at hq1 hs2 hmb hL⊢;have hq2:=hq1;simp only[aM,aQ,and_true]at hq2;repeat rcases hq2 with⟨_,hq2⟩
 unfold dI;dsimp only;refine dX ?_;refine uA ?_;refine aB rfl (fun g3=> ?_) (fun g3=> ?_)
 ·obtain rfl:b2=false:=by cases b2 with|false=>rfl|true=>simp at g3
  obtain⟨m,rfl⟩:∃k,m=k+1:=⟨m-1,by simp at g3;omega⟩
  have hrun:=hg.run (l2,false) hs2;have hk:=hg.st (l2,false) hs2;have hl:jV get (m+1) (l2,false)=((get (l2,false)).1::(jV get m (get (l2,false)).2).1,(jV get m (get (l2,false)).2).2):=rfl;rw[hl]at hL;generalize get (l2,false)=p at hrun hk hL;obtain⟨x,s3⟩:=p;dsimp only at hrun hk hL;refine cL ?_;refine pR [(r,.box 117 (dI (l2,false)))] rfl hg.call hrun rfl aC aA ?_;rintro _ σ' ⟨rfl,rfl⟩ h22;apply aT;(exact bF);refine z1 ?_;refine aD fun r23 h23=> ?_;repeat rcases h23 with⟨_,h23⟩
  refine jY ((acc++ [x]).map fQ) (acc++ [x]).length ?_;refine bM fun r24 h24=> ?_;repeat rcases h24 with⟨_,h24⟩
  refine iE ?_;refine rP ?_;rw[show((m+1:Nat):Int)-1=(m:Nat) by omega];refine dG ?_;refine⟨(r24,m,s3,acc++ [x]),⟨tC,hk,by show m+(acc++ [x]).length≤4294967296;simp;omega,by rw[hL];simp⟩,Nat.lt_succ_self _, ?_⟩;dsimp only;exact aK
 have hz:jV get m (l2,b2)=([],(l2,b2)):=by cases m with|zero=>rfl|succ m=>(cases b2 with|true=>rfl|false=>(simp at g3<;>omega))
 have hE:fW get s=(acc,(l2,b2)):=by rw[hL,hz];simp
 refine fN ?_;apply aF;exact aG
 ·exact⟨q1,hq1,by rw[hE];rfl,by rw[hE]⟩
 ·exact aA
theorem aCd{f:FuncId}{us vs:List AV}{r:Nat}{get:St→Co×St}(hg:Gets Tryz.prog f us vs (fun s=>[(r,.box 117 (dI s))]) (fun x=>.agg (eS x)) get)(s:St)(hs:SOk s):SCall Tryz.prog 180 [.ptr r 0,.fn (.func f) us vs] [(r,.box 117 (dI s))]
  (fun x σ=>∃q,Fresh q [(r,.box 117 (dI s))]∧x=.own q 0 (fW get s).1.length∧σ=[(q,.arr 44 2 ((fW get s).1.map eS)),(r,.box 117 (dI (fW get s).2))]):=by
 have h1:=jM r s hs;have k1:=iP s hs;have kb:=uR s;have hR:fW get s=jV get (gR s).1 (gR s).2:=rfl;generalize gR s=p at h1 k1 kb hR;obtain⟨n,s1⟩:=p;dsimp only at h1 k1 kb hR;refine cC 26 [0,1,4,5,6,17] Tryz.func180 ?_;refine nX ?_;refine bU 5 44 2 (by decide) rfl (by decide) (aD fun q0 hq0=> ?_);repeat rcases hq0 with⟨_,hq0⟩
 refine gK ?_;refine cw [(r,.box 117 (dI s))] Tryz.call68 h1 rfl aC aA ?_;rintro _ σ' ⟨rfl,rfl⟩ h8;refine eP ?_;refine lp (β:=Nat×Nat×St×List Co) (fun b=>⟨[(0,.ptr r 0),(1,.fn (.func f) us vs),(5,.own b.1 0 b.2.2.2.length),(6,.int .i64 (b.2.1:Nat))],[(b.1,.arr 44 2 (b.2.2.2.map eS)),(r,.box 117 (dI b.2.2.1))]⟩) (fun b=>Fresh b.1 [(r,.box 117 (dI s))]∧SOk b.2.2.1∧b.2.1+b.2.2.2.length≤4294967296∧fW get s=(b.2.2.2++(jV get b.2.1 b.2.2.1).1,(jV get b.2.1 b.2.2.1).2)) (fun b=>b.2.1) (q0,n,s1,[]) aK ⟨tC,k1,by show n+0≤4294967296;omega,by rw[hR];rfl⟩ ?_;rintro⟨q1,m,⟨l2,b2⟩,acc⟩ ⟨hq1,hs2,hmb,hL⟩;dsimp only at hq1 hs2 hmb hL⊢;have hq2:=hq1;simp only[aM,aQ,and_true]at hq2;repeat rcases hq2 with⟨_,hq2⟩
 unfold dI;dsimp only;refine dX ?_;refine uA ?_;refine aB rfl (fun g3=> ?_) (fun g3=> ?_)
 ·obtain rfl:b2=false:=by cases b2 with|false=>rfl|true=>simp at g3
  obtain⟨m,rfl⟩:∃k,m=k+1:=⟨m-1,by simp at g3;omega⟩
  have hrun:=hg.run (l2,false) hs2;have hk:=hg.st (l2,false) hs2;have hl:jV get (m+1) (l2,false)=((get (l2,false)).1::(jV get m (get (l2,false)).2).1,(jV get m (get (l2,false)).2).2):=rfl;rw[hl]at hL;generalize get (l2,false)=p at hrun hk hL;obtain⟨x,s3⟩:=p;dsimp only at hrun hk hL;refine cL ?_;refine pR [(r,.box 117 (dI (l2,false)))] rfl hg.call hrun rfl aC aA ?_;rintro _ σ' ⟨rfl,rfl⟩ h22;apply aT;(exact bF);refine z1 ?_;refine aD fun r23 h23=> ?_;repeat rcases h23 with⟨_,h23⟩
  refine jY ((acc++ [x]).map eS) (acc++ [x]).length ?_;refine bM fun r24 h24=> ?_;repeat rcases h24 with⟨_,h24⟩
  refine iE ?_;refine rP ?_;rw[show((m+1:Nat):Int)-1=(m:Nat) by omega];refine dG ?_;refine⟨(r24,m,s3,acc++ [x]),⟨tC,hk,by show m+(acc++ [x]).length≤4294967296;simp;omega,by rw[hL];simp⟩,Nat.lt_succ_self _, ?_⟩;dsimp only;exact aK
 have hz:jV get m (l2,b2)=([],(l2,b2)):=by cases m with|zero=>rfl|succ m=>(cases b2 with|true=>rfl|false=>(simp at g3<;>omega))
 have hE:fW get s=(acc,(l2,b2)):=by rw[hL,hz];simp
 refine fN ?_;apply aF;exact aG
 ·exact⟨q1,hq1,by rw[hE];rfl,by rw[hE]⟩
 ·exact aA
theorem aCe{f:FuncId}{us vs:List AV}{r:Nat}{c:Nat}(hc:Nq r c){get:St→El×St}(hg:Gets Tryz.prog f us vs (fun s=>[(r,.box 117 (dI s)),(c,.box 114 [.ptr r 0])]) (fun x=>.agg (fK x)) get)(s:St)(hs:SOk s):SCall Tryz.prog 177 [.ptr r 0,.fn (.func f) us vs] [(r,.box 117 (dI s)),(c,.box 114 [.ptr r 0])]
  (fun x σ=>∃q,Fresh q [(r,.box 117 (dI s)),(c,.box 114 [.ptr r 0])]∧x=.own q 0 (fW get s).1.length∧σ=[(q,.arr 69 2 ((fW get s).1.map fK)),(r,.box 117 (dI (fW get s).2)),(c,.box 114 [.ptr r 0])]):=by
 have h1:=jM r s hs;have k1:=iP s hs;have kb:=uR s;have hR:fW get s=jV get (gR s).1 (gR s).2:=rfl;generalize gR s=p at h1 k1 kb hR;obtain⟨n,s1⟩:=p;dsimp only at h1 k1 kb hR;refine cC 26 [0,1,4,5,6,17] Tryz.func177 ?_;refine nX ?_;refine bU 5 69 2 (by decide) rfl (by decide) (aD fun q0 hq0=> ?_);repeat rcases hq0 with⟨_,hq0⟩
 refine gK ?_;refine cw [(r,.box 117 (dI s))] Tryz.call68 h1 rfl aC aA ?_;rintro _ σ' ⟨rfl,rfl⟩ h8;refine eP ?_;refine lp (β:=Nat×Nat×St×List El) (fun b=>⟨[(0,.ptr r 0),(1,.fn (.func f) us vs),(5,.own b.1 0 b.2.2.2.length),(6,.int .i64 (b.2.1:Nat))],[(b.1,.arr 69 2 (b.2.2.2.map fK)),(r,.box 117 (dI b.2.2.1)),(c,.box 114 [.ptr r 0])]⟩) (fun b=>Fresh b.1 [(r,.box 117 (dI s)),(c,.box 114 [.ptr r 0])]∧SOk b.2.2.1∧b.2.1+b.2.2.2.length≤4294967296∧fW get s=(b.2.2.2++(jV get b.2.1 b.2.2.1).1,(jV get b.2.1 b.2.2.1).2)) (fun b=>b.2.1) (q0,n,s1,[]) aK ⟨tC,k1,by show n+0≤4294967296;omega,by rw[hR];rfl⟩ ?_;rintro⟨q1,m,⟨l2,b2⟩,acc⟩ ⟨hq1,hs2,hmb,hL⟩;dsimp only at hq1 hs2 hmb hL⊢;have hq2:=hq1;simp only[aM,aQ,and_true]at hq2;repeat rcases hq2 with⟨_,hq2⟩
 unfold dI;dsimp only;refine dX ?_;refine uA ?_;refine aB rfl (fun g3=> ?_) (fun g3=> ?_)
 ·obtain rfl:b2=false:=by cases b2 with|false=>rfl|true=>simp at g3
  obtain⟨m,rfl⟩:∃k,m=k+1:=⟨m-1,by simp at g3;omega⟩
  have hrun:=hg.run (l2,false) hs2;have hk:=hg.st (l2,false) hs2;have hl:jV get (m+1) (l2,false)=((get (l2,false)).1::(jV get m (get (l2,false)).2).1,(jV get m (get (l2,false)).2).2):=rfl;rw[hl]at hL;generalize get (l2,false)=p at hrun hk hL;obtain⟨x,s3⟩:=p;dsimp only at hrun hk hL;refine cL ?_;refine pR [(r,.box 117 (dI (l2,false))),(c,.box 114 [.ptr r 0])] rfl hg.call hrun rfl aC aA ?_;rintro _ σ' ⟨rfl,rfl⟩ h22;apply aT;(exact bF);refine z1 ?_;refine aD fun r23 h23=> ?_;repeat rcases h23 with⟨_,h23⟩
  refine jY ((acc++ [x]).map fK) (acc++ [x]).length ?_;refine bM fun r24 h24=> ?_;repeat rcases h24 with⟨_,h24⟩
  refine iE ?_;refine rP ?_;rw[show((m+1:Nat):Int)-1=(m:Nat) by omega];refine dG ?_;refine⟨(r24,m,s3,acc++ [x]),⟨tC,hk,by show m+(acc++ [x]).length≤4294967296;simp;omega,by rw[hL];simp⟩,Nat.lt_succ_self _, ?_⟩;dsimp only;exact aK
 have hz:jV get m (l2,b2)=([],(l2,b2)):=by cases m with|zero=>rfl|succ m=>(cases b2 with|true=>rfl|false=>(simp at g3<;>omega))
 have hE:fW get s=(acc,(l2,b2)):=by rw[hL,hz];simp
 refine fN ?_;apply aF;exact aG
 ·exact⟨q1,hq1,by rw[hE];rfl,by rw[hE]⟩
 ·exact aA
theorem aCf{f:FuncId}{us vs:List AV}{r:Nat}{c:Nat}(hc:Nq r c){get:St→Da×St}(hg:Gets Tryz.prog f us vs (fun s=>[(r,.box 117 (dI s)),(c,.box 114 [.ptr r 0])]) (fun x=>.agg (fL x)) get)(s:St)(hs:SOk s):SCall Tryz.prog 182 [.ptr r 0,.fn (.func f) us vs] [(r,.box 117 (dI s)),(c,.box 114 [.ptr r 0])]
  (fun x σ=>∃q,Fresh q [(r,.box 117 (dI s)),(c,.box 114 [.ptr r 0])]∧x=.own q 0 (fW get s).1.length∧σ=[(q,.arr 48 2 ((fW get s).1.map fL)),(r,.box 117 (dI (fW get s).2)),(c,.box 114 [.ptr r 0])]):=by
 have h1:=jM r s hs;have k1:=iP s hs;have kb:=uR s;have hR:fW get s=jV get (gR s).1 (gR s).2:=rfl;generalize gR s=p at h1 k1 kb hR;obtain⟨n,s1⟩:=p;dsimp only at h1 k1 kb hR;refine cC 26 [0,1,4,5,6,17] Tryz.func182 ?_;refine nX ?_;refine bU 5 48 2 (by decide) rfl (by decide) (aD fun q0 hq0=> ?_);repeat rcases hq0 with⟨_,hq0⟩
 refine gK ?_;refine cw [(r,.box 117 (dI s))] Tryz.call68 h1 rfl aC aA ?_;rintro _ σ' ⟨rfl,rfl⟩ h8;refine eP ?_;refine lp (β:=Nat×Nat×St×List Da) (fun b=>⟨[(0,.ptr r 0),(1,.fn (.func f) us vs),(5,.own b.1 0 b.2.2.2.length),(6,.int .i64 (b.2.1:Nat))],[(b.1,.arr 48 2 (b.2.2.2.map fL)),(r,.box 117 (dI b.2.2.1)),(c,.box 114 [.ptr r 0])]⟩) (fun b=>Fresh b.1 [(r,.box 117 (dI s)),(c,.box 114 [.ptr r 0])]∧SOk b.2.2.1∧b.2.1+b.2.2.2.length≤4294967296∧fW get s=(b.2.2.2++(jV get b.2.1 b.2.2.1).1,(jV get b.2.1 b.2.2.1).2)) (fun b=>b.2.1) (q0,n,s1,[]) aK ⟨tC,k1,by show n+0≤4294967296;omega,by rw[hR];rfl⟩ ?_;rintro⟨q1,m,⟨l2,b2⟩,acc⟩ ⟨hq1,hs2,hmb,hL⟩;dsimp only at hq1 hs2 hmb hL⊢;have hq2:=hq1;simp only[aM,aQ,and_true]at hq2;repeat rcases hq2 with⟨_,hq2⟩
 unfold dI;dsimp only;refine dX ?_;refine uA ?_;refine aB rfl (fun g3=> ?_) (fun g3=> ?_)
 ·obtain rfl:b2=false:=by cases b2 with|false=>rfl|true=>simp at g3
  obtain⟨m,rfl⟩:∃k,m=k+1:=⟨m-1,by simp at g3;omega⟩
  have hrun:=hg.run (l2,false) hs2;have hk:=hg.st (l2,false) hs2;have hl:jV get (m+1) (l2,false)=((get (l2,false)).1::(jV get m (get (l2,false)).2).1,(jV get m (get (l2,false)).2).2):=rfl;rw[hl]at hL;generalize get (l2,false)=p at hrun hk hL;obtain⟨x,s3⟩:=p;dsimp only at hrun hk hL;refine cL ?_;refine pR [(r,.box 117 (dI (l2,false))),(c,.box 114 [.ptr r 0])] rfl hg.call hrun rfl aC aA ?_;rintro _ σ' ⟨rfl,rfl⟩ h22;apply aT;(exact bF);refine z1 ?_;refine aD fun r23 h23=> ?_;repeat rcases h23 with⟨_,h23⟩
  refine jY ((acc++ [x]).map fL) (acc++ [x]).length ?_;refine bM fun r24 h24=> ?_;repeat rcases h24 with⟨_,h24⟩
  refine iE ?_;refine rP ?_;rw[show((m+1:Nat):Int)-1=(m:Nat) by omega];refine dG ?_;refine⟨(r24,m,s3,acc++ [x]),⟨tC,hk,by show m+(acc++ [x]).length≤4294967296;simp;omega,by rw[hL];simp⟩,Nat.lt_succ_self _, ?_⟩;dsimp only;exact aK
 have hz:jV get m (l2,b2)=([],(l2,b2)):=by cases m with|zero=>rfl|succ m=>(cases b2 with|true=>rfl|false=>(simp at g3<;>omega))
 have hE:fW get s=(acc,(l2,b2)):=by rw[hL,hz];simp
 refine fN ?_;apply aF;exact aG
 ·exact⟨q1,hq1,by rw[hE];rfl,by rw[hE]⟩
 ·exact aA
theorem aCg{f:FuncId}{us vs:List AV}{r:Nat}{c d:Nat}{before:Bool}(hc:Nq r c)(hd:Nq r d)(hcd:Nq c d){get:St→Li×St}(hg:Gets Tryz.prog f us vs (fun s=>[(r,.box 117 (dI s)),(c,.box 4 [.bool before]),(d,.box 114 [.ptr r 0])]) (fun x=>.agg (iI x)) get)(s:St)(hs:SOk s):SCall Tryz.prog 261 [.ptr r 0,.fn (.func f) us vs] [(r,.box 117 (dI s)),(c,.box 4 [.bool before]),(d,.box 114 [.ptr r 0])]
  (fun x σ=>∃q,Fresh q [(r,.box 117 (dI s)),(c,.box 4 [.bool before]),(d,.box 114 [.ptr r 0])]∧x=.own q 0 (fW get s).1.length∧σ=[(q,.arr 26 3 ((fW get s).1.map iI)),(r,.box 117 (dI (fW get s).2)),(c,.box 4 [.bool before]),(d,.box 114 [.ptr r 0])]):=by
 have h1:=jM r s hs;have k1:=iP s hs;have kb:=uR s;have hR:fW get s=jV get (gR s).1 (gR s).2:=rfl;generalize gR s=p at h1 k1 kb hR;obtain⟨n,s1⟩:=p;dsimp only at h1 k1 kb hR;refine cC 26 [0,1,4,5,6,17] Tryz.func261 ?_;refine nX ?_;refine bU 5 26 3 (by decide) rfl (by decide) (aD fun q0 hq0=> ?_);repeat rcases hq0 with⟨_,hq0⟩
 refine gK ?_;refine cw [(r,.box 117 (dI s))] Tryz.call68 h1 rfl aC aA ?_;rintro _ σ' ⟨rfl,rfl⟩ h8;refine eP ?_;refine lp (β:=Nat×Nat×St×List Li) (fun b=>⟨[(0,.ptr r 0),(1,.fn (.func f) us vs),(5,.own b.1 0 b.2.2.2.length),(6,.int .i64 (b.2.1:Nat))],[(b.1,.arr 26 3 (b.2.2.2.map iI)),(r,.box 117 (dI b.2.2.1)),(c,.box 4 [.bool before]),(d,.box 114 [.ptr r 0])]⟩) (fun b=>Fresh b.1 [(r,.box 117 (dI s)),(c,.box 4 [.bool before]),(d,.box 114 [.ptr r 0])]∧SOk b.2.2.1∧b.2.1+b.2.2.2.length≤4294967296∧fW get s=(b.2.2.2++(jV get b.2.1 b.2.2.1).1,(jV get b.2.1 b.2.2.1).2)) (fun b=>b.2.1) (q0,n,s1,[]) aK ⟨tC,k1,by show n+0≤4294967296;omega,by rw[hR];rfl⟩ ?_;rintro⟨q1,m,⟨l2,b2⟩,acc⟩ ⟨hq1,hs2,hmb,hL⟩;dsimp only at hq1 hs2 hmb hL⊢;have hq2:=hq1;simp only[aM,aQ,and_true]at hq2;repeat rcases hq2 with⟨_,hq2⟩
 unfold dI;dsimp only;refine dX ?_;refine uA ?_;refine aB rfl (fun g3=> ?_) (fun g3=> ?_)
 ·obtain rfl:b2=false:=by cases b2 with|false=>rfl|true=>simp at g3
  obtain⟨m,rfl⟩:∃k,m=k+1:=⟨m-1,by simp at g3;omega⟩
  have hrun:=hg.run (l2,false) hs2;have hk:=hg.st (l2,false) hs2;have hl:jV get (m+1) (l2,false)=((get (l2,false)).1::(jV get m (get (l2,false)).2).1,(jV get m (get (l2,false)).2).2):=rfl;rw[hl]at hL;generalize get (l2,false)=p at hrun hk hL;obtain⟨x,s3⟩:=p;dsimp only at hrun hk hL;refine cL ?_;refine pR [(r,.box 117 (dI (l2,false))),(c,.box 4 [.bool before]),(d,.box 114 [.ptr r 0])] rfl hg.call hrun rfl aC aA ?_;rintro _ σ' ⟨rfl,rfl⟩ h22;apply aT;(exact bF);refine z1 ?_;refine aD fun r23 h23=> ?_;repeat rcases h23 with⟨_,h23⟩
  refine jY ((acc++ [x]).map iI) (acc++ [x]).length ?_;refine bM fun r24 h24=> ?_;repeat rcases h24 with⟨_,h24⟩
  refine iE ?_;refine rP ?_;rw[show((m+1:Nat):Int)-1=(m:Nat) by omega];refine dG ?_;refine⟨(r24,m,s3,acc++ [x]),⟨tC,hk,by show m+(acc++ [x]).length≤4294967296;simp;omega,by rw[hL];simp⟩,Nat.lt_succ_self _, ?_⟩;dsimp only;exact aK
 have hz:jV get m (l2,b2)=([],(l2,b2)):=by cases m with|zero=>rfl|succ m=>(cases b2 with|true=>rfl|false=>(simp at g3<;>omega))
 have hE:fW get s=(acc,(l2,b2)):=by rw[hL,hz];simp
 refine fN ?_;apply aF;exact aG
 ·exact⟨q1,hq1,by rw[hE];rfl,by rw[hE]⟩
 ·exact aA
theorem KD(r:Nat)(s:St)(hs:SOk s):SCall Tryz.prog 259 [.ptr r 0] [(r,.box 117 (dI s))]
  (fun x σ=>x=.int .i64 (uO s).1∧σ=[(r,.box 117 (dI (uO s).2))]):=by
 have h1:=nD r s hs;have hK:uO s=if((kP s).1==127)=true then(1,(kP s).2)else if((kP s).1==126)=true then(2,(kP s).2)else(0,((kP s).2.1,true)):=rfl
 generalize kP s=p at h1 hK;obtain⟨c,l2,b2⟩:=p;dsimp only at h1 hK;have ht:∀k:Nat,((c:Int)==(k:Int))=(c==k):=fun k=>by rw[Bool.eq_iff_iff];simp only[beq_iff_eq];omega
 refine cC 12 [0,2,4,5,7] Tryz.func259 ?_;refine fV ?_;refine cw [(r,.box 117 (dI s))] Tryz.call67 h1 rfl aC aA ?_;rintro _ σ' ⟨rfl,rfl⟩ h4;refine dQ ?_;unfold dI;dsimp only;refine eV ?_;refine aB rfl (fun g2=> ?_) (fun g2=> ?_)
 ·have hE:uO s=(1,(l2,b2)):=by rw[hK,if_pos ((ht 127).symm.trans g2)]
  refine bQ ?_;apply aF;exact aG
  ·exact⟨by rw[hE];rfl,by rw[hE]⟩
  ·exact aA
 refine dE ?_;refine aB rfl (fun g4=> ?_) (fun g4=> ?_)
 ·have hE:uO s=(2,(l2,b2)):=by rw[hK,if_neg (by rw[←ht 127];exact fun h=>by rw[show((c:Int)==((127:Nat):Int))=false from g2]at h;cases h),if_pos ((ht 126).symm.trans g4)]
  refine bQ ?_;apply aF;exact aG
  ·exact⟨by rw[hE];rfl,by rw[hE]⟩
  ·exact aA
 have hE:uO s=(0,(l2,true)):=by rw[hK,if_neg (by rw[←ht 127];exact fun h=>by rw[show((c:Int)==((127:Nat):Int))=false from g2]at h;cases h),if_neg (by rw[←ht 126];exact fun h=>by rw[show((c:Int)==((126:Nat):Int))=false from g4]at h;cases h)]
 refine sO ?_;refine nS ?_;refine bQ ?_;apply aF;exact aG
 ·exact⟨by rw[hE];rfl,by rw[hE]⟩
 ·exact aA
theorem KE(r:Nat)(s:St)(hs:SOk s):SCall Tryz.prog 260 [.ptr r 0] [(r,.box 117 (dI s))]
  (fun x σ=>x=.str (dV (yI s).1)∧σ=[(r,.box 117 (dI (yI s).2))]):=by
 have w1:=ZQ r s hs;generalize yI s=p at w1;obtain⟨l,s2⟩:=p;dsimp only at w1;refine cC 6 [0,2] Tryz.func260 ?_;refine fV ?_;refine cw [(r,.box 117 (dI s))] Tryz.call184 w1 rfl aC aA ?_;rintro _ σ' ⟨q,hq,rfl,rfl⟩ h4;apply aT;(exact bF);refine aBh ?_;refine dG ?_;apply aF;exact aG
 ·exact⟨rfl,rfl⟩
 ·exact aA
theorem AK(r:Nat)(s:St)(hs:SOk s):SCall Tryz.prog 264 [.ptr r 0] [(r,.box 117 (dI s))]
  (fun x σ=>x=.agg [.int .i64 (LG s).1.1,.int .i64 (LG s).1.2]∧σ=[(r,.box 117 (dI (LG s).2))]):=by
 have hk:=fun n ok=>yN r s hs n ok
 have hk2:=fun n ok=>nD r _ (HN hs n ok)
 have hC:LG s=(if((fG s.1).1.op==66)=true then(2,(fG s.1).1.a)else(1,(fG s.1).1.a),(kP (tI s (fG s.1).2.1 (((fG s.1).2.2==0)&&((fG s.1).1.op==65||(fG s.1).1.op==66)))).2):=rfl;have hget:=HA s.1 (by have:=hs.1;omega) hs.2;obtain⟨l,bad⟩:=s;dsimp only at hC hget;generalize fG l=p at hC hget;obtain⟨x,n,e⟩:=p;dsimp only at hC hget;have hB:(if(e==0)=true then(if(x.op==65)=true then true else x.op==66)else false)=((e==0)&&(x.op==65||x.op==66)):=by cases(e==0)<;>cases(x.op==65)<;>rfl
 have w1:=hk n ((e==0)&&(x.op==65||x.op==66));have w2:=hk2 n ((e==0)&&(x.op==65||x.op==66));generalize((e==0)&&(x.op==65||x.op==66))=B at hB w1 w2 hC;generalize tI (l,bad) n B=s2 at w1 w2 hC;generalize kP s2=p3 at w2 hC;obtain⟨c,s3⟩:=p3;dsimp only at w2 hC;refine cC 41 [0,2,3,4,5,34] Tryz.func264 ?_;unfold dI;dsimp only;refine dW ?_;apply al;rfl;(exact dM);refine aD fun r2 h2=> ?_;repeat rcases h2 with⟨_,h2⟩
 refine jP ?_;refine oY ?_;refine cw [] Tryz.call298 hget rfl aC aA ?_;rintro _ σ' ⟨q,rfl,rfl⟩ h11
 replace h11:=iC h11;repeat rcases h11 with⟨_,h11⟩
 refine MI ?_;apply al;rfl;(exact dM);refine aD fun r3 h3=> ?_;repeat rcases h3 with⟨_,h3⟩
 unfold io;apply WX;rfl;rfl;rfl;rfl;(exact sK);refine kJ ?_;refine FD ?_;refine AF ?_;refine wJ ?_;refine XB ?_;refine XC ?_;refine XD ?_;refine aIL ?_;refine aIM ?_;refine rS ?_;rw[hB];refine cw [(r,.box 117 (dI (l,bad)))] Tryz.call66 w1 rfl aC aA ?_;rintro _ σ' ⟨rfl,rfl⟩ h29;refine mO ?_;refine cw [(r,.box 117 (dI s2))] Tryz.call67 w2 rfl aC aA ?_;rintro _ σ' ⟨rfl,rfl⟩ h31;refine aEy ?_;refine fS ?_;refine qI ?_;refine aB rfl (fun g4=> ?_) (fun g4=> ?_)
 ·have hE:LG (l,bad)=((2,x.a),s3):=by rw[hC,if_pos g4]
  refine fS ?_;refine nF ?_;refine iD ?_;apply aF;exact aG
  ·exact⟨by rw[hE];rfl,by rw[hE]⟩
  ·exact aA
 have hE:LG (l,bad)=((1,x.a),s3):=by rw[hC,if_neg (by rw[g4];simp)]
 refine fS ?_;refine nF ?_;refine iD ?_;apply aF;exact aG
 ·exact⟨by rw[hE];rfl,by rw[hE]⟩
 ·exact aA
theorem NX(r:Nat)(s:St)(hs:SOk s):SCall Tryz.prog 179 [.ptr r 0] [(r,.box 117 (dI s))]
  (fun x σ=>x=.int .i64 (LH s).1∧σ=[(r,.box 117 (dI (LH s).2))]):=by
 have w1:=nD r s hs;have w2:=AK r _ (mJ s hs);refine cC 8 [0,2] Tryz.func179 ?_;refine fV ?_;refine cw [(r,.box 117 (dI s))] Tryz.call67 w1 rfl aC aA ?_;rintro _ σ' ⟨rfl,rfl⟩ h4;refine mO ?_;refine cw [(r,.box 117 (dI (kP s).2))] Tryz.call264 w2 rfl aC aA ?_;rintro _ σ' ⟨rfl,rfl⟩ h6;apply aT;(exact bF);refine aEo ?_;refine dG ?_;apply aF;exact aG
 ·exact⟨rfl,rfl⟩
 ·exact aA
theorem HO(r:Nat)(s:St)(hs:SOk s):SCall Tryz.prog 263 [.ptr r 0] [(r,.box 117 (dI s))]
  (fun x σ=>x=.agg (iI (SJ s).1)∧σ=[(r,.box 117 (dI (SJ s).2))]):=by
 have w1:=nD r s hs;have w2:=jM r _ (mJ s hs);have w3:=jM r _ (iP _ (mJ s hs));have hL:SJ s=if((kP s).1 !=0)=true then(⟨true,(gR (kP s).2).1,(gR (gR (kP s).2).2).1⟩,(gR (gR (kP s).2).2).2)else(⟨true,(gR (kP s).2).1,-1⟩,(gR (kP s).2).2):=rfl
 generalize kP s=p1 at w1 w2 w3 hL;obtain⟨c,s1⟩:=p1;dsimp only at w1 w2 w3 hL;generalize gR s1=p2 at w2 w3 hL;obtain⟨a,s2⟩:=p2;dsimp only at w2 w3 hL;generalize gR s2=p3 at w3 hL;obtain⟨d,s3⟩:=p3;dsimp only at w3 hL;have ht:((c:Int) !=0)=(c !=0):=by rw[Bool.eq_iff_iff];simp only[bne_iff_ne,ne_eq];omega
 refine cC 17 [0,2,3,4,12] Tryz.func263 ?_;refine dW ?_;apply al;rfl;(exact dM);refine aD fun r2 h2=> ?_;repeat rcases h2 with⟨_,h2⟩
 refine EU ?_;refine sS ?_;apply al;rfl;(exact dM);refine aD fun r3 h3=> ?_;repeat rcases h3 with⟨_,h3⟩
 refine sR ?_;refine cw [(r,.box 117 (dI s))] Tryz.call67 w1 rfl aC aA ?_;rintro _ σ' ⟨rfl,rfl⟩ h7;apply aT;(exact bF);refine lo (fE (E rfl) (E rfl)) rfl ?_;refine iE ?_;refine cw [(r,.box 117 (dI s1))] Tryz.call68 w2 rfl aC aA ?_;rintro _ σ' ⟨rfl,rfl⟩ h10;apply aT;(exact bF);refine wI ?_;refine sR ?_;refine jP ?_;refine aB rfl (fun g4=> ?_) (fun g4=> ?_)
 ·have hE:SJ s=(⟨true,a,d⟩,s3):=by rw[hL,if_pos (ht.symm.trans g4)]
  refine dX ?_;refine cw [(r,.box 117 (dI s2))] Tryz.call68 w3 rfl aC aA ?_;rintro _ σ' ⟨rfl,rfl⟩ h14;apply aT;(exact bF);refine wI ?_;refine nS ?_;refine pY ?_;refine iD ?_;apply aF;exact aG
  ·exact⟨by rw[hE];rfl,by rw[hE]⟩
  ·exact aA
 have hE:SJ s=(⟨true,a,-1⟩,s2):=by rw[hL,if_neg (by rw[←ht];exact fun h=>by rw[show((c:Int) !=0)=false from g4]at h;cases h)]
 refine pY ?_;refine iD ?_;apply aF;exact aG
 ·exact⟨by rw[hE];rfl,by rw[hE]⟩
 ·exact aA
theorem aCh(d:Int)(c:Nat)(hc:c≤100000):SCall Tryz.prog 207 [.ro 1 [[.int .i64 d]] .any,.int .i64 c] [] (fun x σ=>∃r,x=.own r 0 (List.replicate c d).length∧σ=[(r,.arr 3 1 ((List.replicate c d).map aX))]):=by
 refine(DK (v:=.int .i64 d) rfl c hc).mono fun x σ h=> ?_
 rw[List.length_replicate,List.map_replicate];exact h
theorem UU(r:Nat)(s:St)(hs:SOk s):SCall Tryz.prog 265 [.ptr r 0] [(r,.box 117 (dI s))]
  (fun x σ=>∃q,Nq q r∧x=.own q 0 (wV s).1.length∧σ=[(q,.arr 3 1 ((wV s).1.map aX)),(r,.box 117 (dI (wV s).2))]):=by
 have w1:=jM r s hs;have k1:=iP s hs;have kb:=uR s;have hR:wV s=QB (gR s).1 (gR s).2 []:=rfl;generalize gR s=p at w1 k1 kb hR;obtain⟨n,s1⟩:=p;dsimp only at w1 k1 kb hR;refine cC 36 [0,2,3,4,5,6,17,25] Tryz.func265 ?_;refine nX ?_;refine bU 3 3 1 (by decide) rfl (by decide) (aD fun q0 hq0=> ?_);repeat rcases hq0 with⟨_,hq0⟩
 refine gK ?_;refine cw [(r,.box 117 (dI s))] Tryz.call68 w1 rfl aC aA ?_;rintro _ σ' ⟨rfl,rfl⟩ h8;refine eP ?_;refine lp (β:=Nat×Nat×St×List Int) (fun b=>⟨[(0,.ptr r 0),(2,.ro 0 [] .nil),(3,.own b.1 0 b.2.2.2.length),(4,.int .i64 (b.2.1:Nat))],[(b.1,.arr 3 1 (b.2.2.2.map aX)),(r,.box 117 (dI b.2.2.1))]⟩) (fun b=>Nq b.1 r∧SOk b.2.2.1∧32*b.2.1+b.2.2.2.length≤137438953472∧wV s=QB b.2.1 b.2.2.1 b.2.2.2) (fun b=>b.2.1) (q0,n,s1,[]) aK ⟨by show Nq q0 r;(exact cF),k1,by show 32*n+0≤137438953472;omega,by rw[hR]⟩ ?_;rintro⟨q1,m,⟨l2,b2⟩,acc⟩ ⟨hq1,hs2,hmb,hL⟩;dsimp only at hq1 hs2 hmb hL⊢;unfold dI;dsimp only;refine dX ?_;refine uA ?_;refine aB rfl (fun g3=> ?_) (fun g3=> ?_)
 ·obtain rfl:b2=false:=by cases b2 with|false=>rfl|true=>simp at g3
  obtain⟨m,rfl⟩:∃k,m=k+1:=⟨m-1,by simp at g3;omega⟩
  have wn:=jM r (l2,false) hs2;have kn:=iP (l2,false) hs2;have wk:=KD r _ kn;have kk:=wE _ kn;have hl:QB (m+1) (l2,false) acc=if 32<(gR (l2,false)).1 then([],((uO (gR (l2,false)).2).2.1,true))else QB m (uO (gR (l2,false)).2).2 (acc++List.replicate (gR (l2,false)).1 (uO (gR (l2,false)).2).1):=by rw[QB];rfl
  rw[hl]at hL;generalize gR (l2,false)=p2 at wn kn wk kk hL;obtain⟨c,s3⟩:=p2;dsimp only at wn kn wk kk hL;generalize uO s3=p3 at wk kk hL;obtain⟨d,l4,b4⟩:=p3;dsimp only at wk kk hL;refine dX ?_;refine cw [(r,.box 117 (dI (l2,false)))] Tryz.call68 wn rfl aC aA ?_;rintro _ σ' ⟨rfl,rfl⟩ h21;refine eP ?_;refine gK ?_;refine cw [(r,.box 117 (dI s3))] Tryz.call259 wk rfl aC aA ?_;rintro _ σ' ⟨rfl,rfl⟩ h23;refine eP ?_;unfold dI;dsimp only;refine gK ?_;refine PL ?_;refine aB rfl (fun g7=> ?_) (fun g7=> ?_)
  ·have hE:wV s=([],(l4,true)):=by rw[hL,if_pos (by simp at g7;omega)]
   refine sO ?_;refine nS ?_;refine dW ?_;refine vQ ?_;refine bU 2 3 1 (by decide) rfl (by decide) (aD fun q2 hq2=> ?_);repeat rcases hq2 with⟨_,hq2⟩
   refine aP ?_;apply aF;exact aG
   ·exact⟨q2,by(exact cF),by rw[hE];rfl,by rw[hE]⟩
   ·exact aA
  have hc:c≤32:=by simp at g7;omega
  rw[if_neg (by omega)]at hL;refine cL ?_;refine z1 ?_;refine aD fun r31 h31=> ?_;repeat rcases h31 with⟨_,h31⟩
  refine lo (aI (E rfl)) rfl ?_;refine qQ Tryz.call207 (aCh d c (by omega)) rfl bS kI ?_;rintro _ σ' ⟨r33,rfl,rfl⟩ h33
  replace h33:=cO h33;repeat rcases h33 with⟨_,h33⟩
  apply aT;(exact bF);refine jY ((acc++List.replicate c d).map aX) (acc++List.replicate c d).length ?_;refine bM fun r34 h34=> ?_;repeat rcases h34 with⟨_,h34⟩
  refine iE ?_;refine rP ?_;rw[show((m+1:Nat):Int)-1=(m:Nat) by omega];refine dG ?_;refine⟨(r34,m,(l4,b4),acc++List.replicate c d),⟨by show Nq r34 r;(exact cF),kk,by show 32*m+(acc++List.replicate c d).length≤137438953472;simp;omega,hL⟩,Nat.lt_succ_self _, ?_⟩;dsimp only;exact aK
 have hz:QB m (l2,b2) acc=(acc,(l2,b2)):=by cases m with|zero=>rfl|succ m=>(cases b2 with|true=>rfl|false=>(simp at g3<;>omega))
 have hE:wV s=(acc,(l2,b2)):=by rw[hL,hz]
 refine fN ?_;apply aF;exact aG
 ·exact⟨q1,by(exact cF),by rw[hE];rfl,by rw[hE]⟩
 ·exact aA
theorem HP(r:Nat):Gets Tryz.prog 259 [.ptr r 0] [] (fun s=>[(r,.box 117 (dI s))]) (fun n=>.int .i64 n) uO:=⟨Tryz.call259,wE,fun s hs=>KD r s hs⟩
theorem NY(r:Nat):Gets Tryz.prog 68 [.ptr r 0] [] (fun s=>[(r,.box 117 (dI s))]) (fun n=>.int .i64 n) UR:=⟨Tryz.call68,ZL,fun s hs=>jM r s hs⟩
theorem aCi(r:Nat)(s:St)(hs:SOk s):SCall Tryz.prog 168 [.ptr r 0] [(r,.box 117 (dI s))]
  (fun x σ=>x=.agg (eF (UQ s).1)∧σ=[(r,.box 117 (dI (UQ s).2))]):=by
 have w1:=nD r s hs;have k1:=mJ s hs;have w2:=yO (HP r) _ k1;have k2:=rJ wE _ k1;have w3:=yO (HP r) _ k2;have hT:UQ s=(⟨(fW uO (kP s).2).1,(fW uO (fW uO (kP s).2).2).1⟩,(fW uO (fW uO (kP s).2).2).2):=rfl;rw[hT];generalize(kP s).2=s1 at w1 w2 w3;generalize fW uO s1=p2 at w2 w3;obtain⟨a,s2⟩:=p2;dsimp only at w2 w3;generalize fW uO s2=p3 at w3;obtain⟨c,s3⟩:=p3;dsimp only at w3;refine cC 14 [0,2] Tryz.func168 ?_;refine dW ?_;apply al;rfl;(exact dM);refine aD fun r2 h2=> ?_;repeat rcases h2 with⟨_,h2⟩
 refine jP ?_;refine gK ?_;refine cw [(r,.box 117 (dI s))] Tryz.call67 w1 rfl aC aA ?_;rintro _ σ' ⟨rfl,rfl⟩ h4;refine pX ?_;refine ME ?_;refine cw [(r,.box 117 (dI s1))] Tryz.call171 w2 rfl aC aA ?_;rintro _ σ' ⟨q8,hq8,rfl,rfl⟩ h8;simp only[aM,aQ,and_true]at hq8;have k8:=bC h8;repeat rcases k8 with⟨_,k8⟩
 apply aT;(exact bF);refine jB (j:=8) rfl bP (aR bH (by simp)) ?_;refine PM ?_;refine ME ?_;refine cw [(r,.box 117 (dI s2))] Tryz.call171 w3 rfl aC aA ?_;rintro _ σ' ⟨q12,hq12,rfl,rfl⟩ h12;simp only[aM,aQ,and_true]at hq12;have k12:=bC h12;repeat rcases k12 with⟨_,k12⟩
 apply aT;(exact bF);refine jB (j:=12) rfl bP (aR bH (by simp)) ?_;refine nF ?_;refine iD ?_;apply aF;exact aG
 ·exact⟨rfl,rfl⟩
 ·exact aA
theorem UV(r:Nat)(s:St)(hs:SOk s):SCall Tryz.prog 170 [.ptr r 0] [(r,.box 117 (dI s))]
  (fun x σ=>x=.agg (fT (WE s).1)∧σ=[(r,.box 117 (dI (WE s).2))]):=by
 have w1:=KE r s hs;have k1:=AJ s hs;have w2:=KE r _ k1;have k2:=AJ _ k1;have w3:=nD r _ k2;have w4:=jM r _ (mJ _ k2);refine cC 15 [0,2,3] Tryz.func170 ?_;refine dW ?_;apply al;rfl;(exact dM);refine aD fun r2 h2=> ?_;repeat rcases h2 with⟨_,h2⟩
 refine jP ?_;refine gK ?_;refine cw [(r,.box 117 (dI s))] Tryz.call260 w1 rfl aC aA ?_;rintro _ σ' ⟨rfl,rfl⟩ h5;refine wK ?_;refine cw [(r,.box 117 (dI (yI s).2))] Tryz.call260 w2 rfl aC aA ?_;rintro _ σ' ⟨rfl,rfl⟩ h7;apply aT;(exact bF);refine nF ?_;apply al;rfl;(exact dM);refine aD fun r3 h3=> ?_;repeat rcases h3 with⟨_,h3⟩
 refine sR ?_;refine cw [(r,.box 117 (dI (yI (yI s).2).2))] Tryz.call67 w3 rfl aC aA ?_;rintro _ σ' ⟨rfl,rfl⟩ h10;refine mO ?_;refine cw [(r,.box 117 (dI (kP (yI (yI s).2).2).2))] Tryz.call68 w4 rfl aC aA ?_;rintro _ σ' ⟨rfl,rfl⟩ h12;apply aT;(exact bF);refine wI ?_;refine nS ?_;refine pY ?_;refine iD ?_;apply aF;exact aG
 ·exact⟨rfl,rfl⟩
 ·exact aA
theorem UW(r:Nat)(s:St)(hs:SOk s):SCall Tryz.prog 174 [.ptr r 0] [(r,.box 117 (dI s))]
  (fun x σ=>x=.agg (fP (WF s).1)∧σ=[(r,.box 117 (dI (WF s).2))]):=by
 have w1:=KD r s hs;have k1:=wE s hs;have w2:=nD r _ k1;have k2:=mJ _ k1;have w3:=AK r _ k2;have ht:(((kP (uO s).2).1:Int) !=0)=((kP (uO s).2).1 !=0):=by rw[Bool.eq_iff_iff];simp only[bne_iff_ne,ne_eq];omega
 refine cC 11 [0,2] Tryz.func174 ?_;refine dW ?_;apply al;rfl;(exact dM);refine aD fun r2 h2=> ?_;repeat rcases h2 with⟨_,h2⟩
 refine jP ?_;refine gK ?_;refine cw [(r,.box 117 (dI s))] Tryz.call259 w1 rfl aC aA ?_;rintro _ σ' ⟨rfl,rfl⟩ h4;refine mO ?_;refine cw [(r,.box 117 (dI (uO s).2))] Tryz.call67 w2 rfl aC aA ?_;rintro _ σ' ⟨rfl,rfl⟩ h6;apply aT;(exact bF);refine lo (fE (E rfl) (E rfl)) rfl ?_;rw[ht];refine lo (aI (E rfl)) rfl ?_;refine cw [(r,.box 117 (dI (kP (uO s).2).2))] Tryz.call264 w3 rfl aC aA ?_;rintro _ σ' ⟨rfl,rfl⟩ h9;apply aT;(exact bF);refine nF ?_;refine iD ?_;apply aF;exact aG
 ·exact⟨rfl,rfl⟩
 ·exact aA
theorem UX(r:Nat)(s:St)(hs:SOk s):SCall Tryz.prog 176 [.ptr r 0] [(r,.box 117 (dI s))]
  (fun x σ=>x=.agg (fQ (WG s).1)∧σ=[(r,.box 117 (dI (WG s).2))]):=by
 have w1:=KE r s hs;have k1:=AJ s hs;have w3:=nD r _ k1;have w4:=jM r _ (mJ _ k1);refine cC 13 [0,2,3] Tryz.func176 ?_;refine dW ?_;apply al;rfl;(exact dM);refine aD fun r2 h2=> ?_;repeat rcases h2 with⟨_,h2⟩
 refine jP ?_;refine gK ?_;refine cw [(r,.box 117 (dI s))] Tryz.call260 w1 rfl aC aA ?_;rintro _ σ' ⟨rfl,rfl⟩ h5;apply aT;(exact bF);refine nF ?_;apply al;rfl;(exact dM);refine aD fun r3 h3=> ?_;repeat rcases h3 with⟨_,h3⟩
 refine sR ?_;refine cw [(r,.box 117 (dI (yI s).2))] Tryz.call67 w3 rfl aC aA ?_;rintro _ σ' ⟨rfl,rfl⟩ h8;refine mO ?_;refine cw [(r,.box 117 (dI (kP (yI s).2).2))] Tryz.call68 w4 rfl aC aA ?_;rintro _ σ' ⟨rfl,rfl⟩ h10;apply aT;(exact bF);refine wI ?_;refine nS ?_;refine pY ?_;refine iD ?_;apply aF;exact aG
 ·exact⟨rfl,rfl⟩
 ·exact aA
theorem aFB(ls:List Int):VLe (.agg [.ro 1 (ls.map aX) .any,.ro 0 [] .nil]) (.agg (eS ⟨ls,[]⟩)):=by
 refine VLe.agg rfl fun j a a' ha ha'=> ?_
 match j with
 |0=>cases ha;cases ha';exact VLe.refl _
 |1=>cases ha;cases ha';exact VLe.empty
 | _ +2=>cases ha
theorem aCj(r:Nat)(s:St)(hs:SOk s):SCall Tryz.prog 181 [.ptr r 0] [(r,.box 117 (dI s))]
  (fun x σ=>x=.agg (eS (JX s).1)∧σ=[(r,.box 117 (dI (JX s).2))]):=by
 have w1:=jM r s hs;have k1:=iP s hs;have w2:=UU r _ k1;have k2:=ZJ _ k1;have hC:JX s=if(wV (gR s).2).2.2=true then(⟨(wV (gR s).2).1,[]⟩,(wV (gR s).2).2)else(⟨(wV (gR s).2).1,(kW (wV (gR s).2).2.1).1⟩,tI (wV (gR s).2).2 (kW (wV (gR s).2).2.1).2.1 ((kW (wV (gR s).2).2.1).2.2==0)):=rfl
 generalize wV (gR s).2=p at w2 k2 hC;obtain⟨ls,l2,b2⟩:=p;dsimp only at w2 k2 hC;have w3:=YO l2 (by have:=k2.1;dsimp only at this;omega) k2.2;have w4:=fun n ok=>yN r (l2,b2) k2 n ok
 generalize kW l2=g at w3 hC;obtain⟨l,n,e⟩:=g;dsimp only at w3 hC;have w5:=w4 n (e==0);refine cC 34 [0,2,3,4,5,6,15] Tryz.func181 ?_;refine dW ?_;apply al;rfl;(exact dM);refine aD fun r2 h2=> ?_;repeat rcases h2 with⟨_,h2⟩
 refine jP ?_;refine gK ?_;refine cw [(r,.box 117 (dI s))] Tryz.call68 w1 rfl aC aA ?_;rintro _ σ' ⟨rfl,rfl⟩ h8;refine mO ?_;refine cw [(r,.box 117 (dI (gR s).2))] Tryz.call265 w2 rfl aC aA ?_;rintro _ σ' ⟨q,hq,rfl,rfl⟩ h10;have k10:=bC h10;repeat rcases k10 with⟨_,k10⟩
 apply aT;(exact bF);refine jB (j:=10) rfl bP (aR bH (by simp)) ?_;refine nF ?_;apply al;rfl;(exact dM);refine aD fun r3 h3=> ?_;repeat rcases h3 with⟨_,h3⟩
 refine iD ?_;unfold dI;dsimp only;refine oY ?_;refine jP ?_;refine aB rfl (fun g3=> ?_) (fun g3=> ?_)
 ·have hE:JX s=(⟨ls,[]⟩,(l2,true)):=by rw[hC,g3];rfl
  rw[g3];refine pY ?_;refine mM (fY (j:=16) rfl (aFB ls)) ?_;refine iD ?_;apply aF;exact aG
  ·exact⟨by rw[hE];rfl,by rw[hE]⟩
  ·exact aA
 have hE:JX s=(⟨ls,l⟩,tI (l2,false) n (e==0)):=by rw[hC,g3];rfl
 rw[g3]at w5⊢;refine dX ?_;refine nT ?_;refine cw [] Tryz.call266 w3 rfl aC aA ?_;rintro _ σ' ⟨q22,rfl,rfl⟩ h22
 replace h22:=iC h22;repeat rcases h22 with⟨_,h22⟩
 refine MI ?_;refine nG ?_;refine FD ?_;refine lo (dD (E rfl) (E rfl)) rfl ?_;refine cw [(r,.box 117 (dI (l2,false)))] Tryz.call66 w5 rfl aC aA ?_;rintro _ σ' ⟨rfl,rfl⟩ h30;refine mO ?_;refine jB (j:=31) rfl bP (aR bH (by simp)) ?_;refine wI ?_;refine nS ?_;refine pY ?_;refine iD ?_;apply aF;exact aG
 ·exact⟨by rw[hE];rfl,by rw[hE]⟩
 ·exact aA
theorem aCk{r c d:Nat}{before:Bool}(hc:Nq r c)(hd:Nq r d)(hcd:Nq c d):Gets Tryz.prog 262 [] [.ptr c 0,.ptr d 0] (fun s=>[(r,.box 117 (dI s)),(c,.box 4 [.bool before]),(d,.box 114 [.ptr r 0])]) (fun x=>.agg (iI x)) (YU before):=by
 refine⟨Tryz.call262,aDZ before,fun s hs=> ?_⟩;have w1:=nD r s hs;have w2:=HO r _ (mJ s hs);have w3:=HO r s hs;refine cC 8 [0,1,2,3] Tryz.func262 ?_;refine dW ?_;apply al;rfl;(exact dM);refine aD fun r2 h2=> ?_;repeat rcases h2 with⟨_,h2⟩
 refine jP ?_;rcases before with _ | _
 ·refine BG ?_;refine vC ?_;refine EU ?_;refine dW ?_;refine vC ?_;refine cw [(r,.box 117 (dI s))] Tryz.call263 w3 rfl aC aA ?_;rintro _ σ' ⟨rfl,rfl⟩ h7;apply aT;(exact bF);refine iD ?_;apply aF;exact aG
  ·exact⟨rfl,rfl⟩
  ·exact aA
 ·refine BG ?_;refine vC ?_;refine EU ?_;refine dW ?_;refine vC ?_;refine cw [(r,.box 117 (dI s))] Tryz.call67 w1 rfl aC aA ?_;rintro _ σ' ⟨rfl,rfl⟩ h5;refine aEy ?_;refine dW ?_;refine vC ?_;refine cw [(r,.box 117 (dI (kP s).2))] Tryz.call263 w2 rfl aC aA ?_;rintro _ σ' ⟨rfl,rfl⟩ h7;apply aT;(exact bF);refine iD ?_;apply aF;exact aG
  ·exact⟨rfl,rfl⟩
  ·exact aA
theorem DM(r:Nat)(s:St)(hs:SOk s)(before:Bool):SCall Tryz.prog 172 [.ptr r 0,.bool before] [(r,.box 117 (dI s))]
  (fun x σ=>x=.agg (iI (NK before s).1)∧σ=[(r,.box 117 (dI (NK before s).2))]):=by
 have w1:=fun(c d:Nat) hc hd hcd=>aCg (r:=r) (c:=c) (d:=d) (before:=before) hc hd hcd (aCk hc hd hcd) s hs
 have hL:NK before s=((fW (YU before) s).1.headD HE,(fW (YU before) s).2):=rfl;generalize fW (YU before) s=p at w1 hL;obtain⟨l,s2⟩:=p;dsimp only at w1 hL;refine cC 16 [0,1,2,3,4,5,11] Tryz.func172 ?_;refine dW ?_;apply bx;rfl;rfl;(exact dM);rfl;refine aD fun r2 h2=> ?_;repeat rcases h2 with⟨_,h2⟩
 apply bx;rfl;rfl;(exact dM);rfl;refine aD fun r3 h3=> ?_;repeat rcases h3 with⟨_,h3⟩
 apply al;rfl;(exact dM);refine aD fun r4 h4=> ?_;repeat rcases h4 with⟨_,h4⟩
 refine EU ?_;refine dW ?_;refine vC ?_;refine aIN ?_;refine cw [(r,.box 117 (dI s)),(r3,.box 4 [.bool before]),(r2,.box 114 [.ptr r 0])] Tryz.call261 (w1 r3 r2 (by(exact cF)) (by(exact cF)) (by(exact cF))) rfl aC aA ?_;rintro _ σ' ⟨q8,hq8,rfl,rfl⟩ h8;simp only[aM,aQ,and_true]at hq8;repeat rcases hq8 with⟨_,hq8⟩
 have k8:=bC h8;repeat rcases k8 with⟨_,k8⟩
 refine eP ?_;refine gK ?_;refine rC ?_;refine aB rfl (fun g2=> ?_) (fun g2=> ?_)
 ·obtain rfl:l=[]:=by cases l with|nil=>rfl|cons x t=>(simp at g2<;>omega)
  have hE:NK before s=(HE,s2):=hL;refine sS ?_;refine iD ?_;apply aF;exact aG
  ·exact⟨by rw[hE];rfl,by rw[hE]⟩
  ·exact aA
 obtain⟨x,t,rfl⟩:∃x t,l=x::t:=by cases l with|nil=>simp at g2|cons x t=>exact⟨x,t,rfl⟩
 have hE:NK before s=(x,s2):=hL;have hx:(x::t)[(0:Int).toNat]? =some x:=rfl;have hpos:0<(x::t).length:=Nat.succ_pos _;refine dX ?_;refine pQ ?_;refine iD ?_;apply aF;exact aG
 ·exact⟨by rw[hE];rfl,by rw[hE]⟩
 ·exact aA
theorem aCl{r c:Nat}(hc:Nq r c):Gets Tryz.prog 178 [] [.ptr c 0] (fun s=>[(r,.box 117 (dI s)),(c,.box 114 [.ptr r 0])]) (fun x=>.agg (fK x)) YV:=by
 refine⟨Tryz.call178,aD1,fun s hs=> ?_⟩;have w1:=NX r s hs;have w2:=yO (NY r) _ (NW s hs);have hE:YV s=(⟨(LH s).1,(fW UR (LH s).2).1⟩,(fW UR (LH s).2).2):=rfl;rw[hE];generalize LH s=p at w1 w2;obtain⟨o,s2⟩:=p;dsimp only at w1 w2;generalize fW UR s2=p at w2;obtain⟨l,s3⟩:=p;dsimp only at w2;refine cC 9 [0,1] Tryz.func178 ?_;refine dW ?_;apply al;rfl;(exact dM);refine aD fun r1 h1=> ?_;repeat rcases h1 with⟨_,h1⟩
 refine jP ?_;refine gI [(0,true),(2,true),(3,true),(4,true),(1,false),(5,false),(6,true),(7,false)] ?_;refine z74 ?_;refine z74 ?_;refine z74 ?_;refine aIO ?_;refine qT [(r,.box 117 (dI s))] rfl Tryz.call179 w1 rfl aC aA gE ?_;rintro _ σ' ⟨rfl,rfl⟩ h3;apply bZ;(exact bF);refine qT [(r,.box 117 (dI s2))] rfl Tryz.call171 w2 rfl aC aA gE ?_;rintro _ σ' ⟨q7,hq7,rfl,rfl⟩ h7;simp only[aM,aQ,and_true]at hq7;have k7:=bC h7;repeat rcases k7 with⟨_,k7⟩
 apply bZ;(exact bF);refine z94 ?_;refine WZ ?_;refine MA ?_;refine an ?_;refine eU (oF (r:=r1) (q:=q7) cZ bP (.cons (.refl _) (.cons (aR bH (by simp)) .nil))) ?_;refine aP ?_;apply aF;exact aG
 ·exact⟨rfl,rfl⟩
 ·exact aA
theorem aCm{r c:Nat}(hc:Nq r c):Gets Tryz.prog 183 [] [.ptr c 0] (fun s=>[(r,.box 117 (dI s)),(c,.box 114 [.ptr r 0])]) (fun x=>.agg (fL x)) YW:=by
 refine⟨Tryz.call183,ZP,fun s hs=> ?_⟩;have w1:=NX r s hs;have w2:=ZQ r _ (NW s hs);have hE:YW s=(⟨(LH s).1,(yI (LH s).2).1⟩,(yI (LH s).2).2):=rfl;rw[hE];generalize LH s=p at w1 w2;obtain⟨o,s2⟩:=p;dsimp only at w1 w2;generalize yI s2=p at w2;obtain⟨l,s3⟩:=p;dsimp only at w2;refine cC 7 [0,1] Tryz.func183 ?_;refine dW ?_;apply al;rfl;(exact dM);refine aD fun r1 h1=> ?_;repeat rcases h1 with⟨_,h1⟩
 refine jP ?_;refine gI [(0,true),(2,true),(1,false),(3,false),(4,true),(5,false)] ?_;refine z74 ?_;refine z74 ?_;refine qT [(r,.box 117 (dI s))] rfl Tryz.call179 w1 rfl aC aA gE ?_;rintro _ σ' ⟨rfl,rfl⟩ h3;apply bZ;(exact bF);refine qT [(r,.box 117 (dI s2))] rfl Tryz.call184 w2 rfl aC aA gE ?_;rintro _ σ' ⟨q5,hq5,rfl,rfl⟩ h5;have k5:=bC h5;repeat rcases k5 with⟨_,k5⟩
 apply bZ;(exact bF);refine z94 ?_;refine WZ ?_;refine MA ?_;refine an ?_;refine eU (oF (r:=r1) (q:=q5) cZ bP (.cons (.refl _) (.cons (aR bH (by simp)) .nil))) ?_;refine aP ?_;apply aF;exact aG
 ·exact⟨rfl,rfl⟩
 ·exact aA
theorem aCn(r:Nat):Gets Tryz.prog 168 [.ptr r 0] [] (fun s=>[(r,.box 117 (dI s))]) (fun x=>.agg (eF x)) UQ:=⟨Tryz.call168,aDY,fun s hs=>aCi r s hs⟩
theorem aCo(r:Nat):Gets Tryz.prog 170 [.ptr r 0] [] (fun s=>[(r,.box 117 (dI s))]) (fun x=>.agg (fT x)) WE:=⟨Tryz.call170,ZM,fun s hs=>UV r s hs⟩
theorem aCp(r:Nat):Gets Tryz.prog 174 [.ptr r 0] [] (fun s=>[(r,.box 117 (dI s))]) (fun x=>.agg (fP x)) WF:=⟨Tryz.call174,ZN,fun s hs=>UW r s hs⟩
theorem aCq(r:Nat):Gets Tryz.prog 176 [.ptr r 0] [] (fun s=>[(r,.box 117 (dI s))]) (fun x=>.agg (fQ x)) WG:=⟨Tryz.call176,ZO,fun s hs=>UX r s hs⟩
theorem aCr(r:Nat):Gets Tryz.prog 181 [.ptr r 0] [] (fun s=>[(r,.box 117 (dI s))]) (fun x=>.agg (eS x)) JX:=⟨Tryz.call181,ZK,fun s hs=>aCj r s hs⟩
theorem QE(r m:Nat)(hrm:Nq r m)(s:St)(hs:SOk s)(M:Md)(no:Nat):SCall Tryz.prog 69 [.ptr r 0,.ptr m 0,.int .i64 no] [(r,.box 117 (dI s)),(m,.box 33 (cK M))]
  (fun x σ=>x=.tup []∧σ=[(r,.box 117 (dI (tF no M s).2)),(m,.box 33 (cK (tF no M s).1))]):=by
 obtain⟨ty,im,fn,tb,me,gl,ex,el,co,da⟩:=M;refine cC 94 [0,1,2,3,6,10,19,28,37,44,51,60,69,77,86] Tryz.func69 ?_;unfold cK;dsimp only;refine dW ?_;apply bx;rfl;rfl;(exact dM);rfl;refine aD fun r3 h3=> ?_;repeat rcases h3 with⟨_,h3⟩
 refine jP ?_;refine gK ?_;refine pB ?_;refine aB rfl (fun g3=> ?_) (fun g3=> ?_)
 ·obtain rfl:no=1:=by simp at g3;omega
  have hE:tF 1 ⟨ty,im,fn,tb,me,gl,ex,el,co,da⟩ s=(⟨(fW UQ s).1,im,fn,tb,me,gl,ex,el,co,da⟩,(fW UQ s).2):=rfl;refine dX ?_;refine vC ?_;refine vC ?_;refine ME ?_;refine cw [(r,.box 117 (dI s))] Tryz.call167 (aB9 (aCn r) s hs) rfl aC aA ?_;rintro _ σ' ⟨q16,hq16,rfl,rfl⟩ h16;simp only[aM,aQ,and_true]at hq16;have k16:=bC h16;repeat rcases k16 with⟨_,k16⟩
  apply aT;(exact bF);refine jB (j:=16) rfl bP (aR bH (by simp)) ?_;refine oW ?_;refine bR ?_;apply aF;exact aG
  ·exact⟨rfl,by rw[hE]⟩
  ·exact aA
 refine dE ?_;refine aB rfl (fun g5=> ?_) (fun g5=> ?_)
 ·obtain rfl:no=2:=by simp at g5;omega
  have hE:tF 2 ⟨ty,im,fn,tb,me,gl,ex,el,co,da⟩ s=(⟨ty,(fW WE s).1,fn,tb,me,gl,ex,el,co,da⟩,(fW WE s).2):=rfl;refine dX ?_;refine vC ?_;refine vC ?_;refine ME ?_;refine cw [(r,.box 117 (dI s))] Tryz.call169 (aCa (aCo r) s hs) rfl aC aA ?_;rintro _ σ' ⟨q25,hq25,rfl,rfl⟩ h25;simp only[aM,aQ,and_true]at hq25;have k25:=bC h25;repeat rcases k25 with⟨_,k25⟩
  apply aT;(exact bF);refine jB (j:=25) rfl bP (aR bH (by simp)) ?_;refine oW ?_;refine bR ?_;apply aF;exact aG
  ·exact⟨rfl,by rw[hE]⟩
  ·exact aA
 refine dE ?_;refine aB rfl (fun g7=> ?_) (fun g7=> ?_)
 ·obtain rfl:no=3:=by simp at g7;omega
  have hE:tF 3 ⟨ty,im,fn,tb,me,gl,ex,el,co,da⟩ s=(⟨ty,im,(fW UR s).1,tb,me,gl,ex,el,co,da⟩,(fW UR s).2):=rfl;refine dX ?_;refine vC ?_;refine vC ?_;refine ME ?_;refine cw [(r,.box 117 (dI s))] Tryz.call171 (yO (NY r) s hs) rfl aC aA ?_;rintro _ σ' ⟨q34,hq34,rfl,rfl⟩ h34;simp only[aM,aQ,and_true]at hq34;have k34:=bC h34;repeat rcases k34 with⟨_,k34⟩
  apply aT;(exact bF);refine jB (j:=34) rfl bP (aR bH (by simp)) ?_;refine oW ?_;refine bR ?_;apply aF;exact aG
  ·exact⟨rfl,by rw[hE]⟩
  ·exact aA
 refine dE ?_;refine aB rfl (fun g9=> ?_) (fun g9=> ?_)
 ·obtain rfl:no=4:=by simp at g9;omega
  have hE:tF 4 ⟨ty,im,fn,tb,me,gl,ex,el,co,da⟩ s=(⟨ty,im,fn,(NK true s).1,me,gl,ex,el,co,da⟩,(NK true s).2):=rfl;refine dX ?_;refine vC ?_;refine cw [(r,.box 117 (dI s))] Tryz.call172 (DM r s hs true) rfl aC aA ?_;rintro _ σ' ⟨rfl,rfl⟩ h41;apply aT;(exact bF);refine oW ?_;refine bR ?_;apply aF;exact aG
  ·exact⟨rfl,by rw[hE]⟩
  ·exact aA
 refine dE ?_;refine aB rfl (fun g11=> ?_) (fun g11=> ?_)
 ·obtain rfl:no=5:=by simp at g11;omega
  have hE:tF 5 ⟨ty,im,fn,tb,me,gl,ex,el,co,da⟩ s=(⟨ty,im,fn,tb,(NK false s).1,gl,ex,el,co,da⟩,(NK false s).2):=rfl;refine dX ?_;refine vC ?_;refine cw [(r,.box 117 (dI s))] Tryz.call172 (DM r s hs false) rfl aC aA ?_;rintro _ σ' ⟨rfl,rfl⟩ h48;apply aT;(exact bF);refine oW ?_;refine bR ?_;apply aF;exact aG
  ·exact⟨rfl,by rw[hE]⟩
  ·exact aA
 refine dE ?_;refine aB rfl (fun g13=> ?_) (fun g13=> ?_)
 ·obtain rfl:no=6:=by simp at g13;omega
  have hE:tF 6 ⟨ty,im,fn,tb,me,gl,ex,el,co,da⟩ s=(⟨ty,im,fn,tb,me,(fW WF s).1,ex,el,co,da⟩,(fW WF s).2):=rfl;refine dX ?_;refine vC ?_;refine vC ?_;refine ME ?_;refine cw [(r,.box 117 (dI s))] Tryz.call173 (aCb (aCp r) s hs) rfl aC aA ?_;rintro _ σ' ⟨q57,hq57,rfl,rfl⟩ h57;simp only[aM,aQ,and_true]at hq57;have k57:=bC h57;repeat rcases k57 with⟨_,k57⟩
  apply aT;(exact bF);refine jB (j:=57) rfl bP (aR bH (by simp)) ?_;refine oW ?_;refine bR ?_;apply aF;exact aG
  ·exact⟨rfl,by rw[hE]⟩
  ·exact aA
 refine dE ?_;refine aB rfl (fun g15=> ?_) (fun g15=> ?_)
 ·obtain rfl:no=7:=by simp at g15;omega
  have hE:tF 7 ⟨ty,im,fn,tb,me,gl,ex,el,co,da⟩ s=(⟨ty,im,fn,tb,me,gl,(fW WG s).1,el,co,da⟩,(fW WG s).2):=rfl;refine dX ?_;refine vC ?_;refine vC ?_;refine ME ?_;refine cw [(r,.box 117 (dI s))] Tryz.call175 (aCc (aCq r) s hs) rfl aC aA ?_;rintro _ σ' ⟨q66,hq66,rfl,rfl⟩ h66;simp only[aM,aQ,and_true]at hq66;have k66:=bC h66;repeat rcases k66 with⟨_,k66⟩
  apply aT;(exact bF);refine jB (j:=66) rfl bP (aR bH (by simp)) ?_;refine oW ?_;refine bR ?_;apply aF;exact aG
  ·exact⟨rfl,by rw[hE]⟩
  ·exact aA
 refine dE ?_;refine aB rfl (fun g17=> ?_) (fun g17=> ?_)
 ·obtain rfl:no=9:=by simp at g17;omega
  have hE:tF 9 ⟨ty,im,fn,tb,me,gl,ex,el,co,da⟩ s=(⟨ty,im,fn,tb,me,gl,ex,(fW YV s).1,co,da⟩,(fW YV s).2):=rfl;refine dX ?_;refine vC ?_;refine aGQ ?_;refine cw [(r,.box 117 (dI s)),(r3,.box 114 [.ptr r 0])] Tryz.call177 (aCe (r:=r) (c:=r3) (by(exact cF)) (aCl (by(exact cF))) s hs) rfl aC aA ?_;rintro _ σ' ⟨q74,hq74,rfl,rfl⟩ h74;simp only[aM,aQ,and_true]at hq74;repeat rcases hq74 with⟨_,hq74⟩
  have k74:=bC h74;repeat rcases k74 with⟨_,k74⟩
  apply aT;(exact bF);refine jB (j:=74) rfl bP (aR bH (by simp)) ?_;refine oW ?_;refine bR ?_;apply aF;exact aG
  ·exact⟨rfl,by rw[hE]⟩
  ·exact aA
 refine dE ?_;refine aB rfl (fun g19=> ?_) (fun g19=> ?_)
 ·obtain rfl:no=10:=by simp at g19;omega
  have hE:tF 10 ⟨ty,im,fn,tb,me,gl,ex,el,co,da⟩ s=(⟨ty,im,fn,tb,me,gl,ex,el,(fW JX s).1,da⟩,(fW JX s).2):=rfl;refine dX ?_;refine vC ?_;refine vC ?_;refine ME ?_;refine cw [(r,.box 117 (dI s))] Tryz.call180 (aCd (aCr r) s hs) rfl aC aA ?_;rintro _ σ' ⟨q83,hq83,rfl,rfl⟩ h83;simp only[aM,aQ,and_true]at hq83;have k83:=bC h83;repeat rcases k83 with⟨_,k83⟩
  apply aT;(exact bF);refine jB (j:=83) rfl bP (aR bH (by simp)) ?_;refine oW ?_;refine bR ?_;apply aF;exact aG
  ·exact⟨rfl,by rw[hE]⟩
  ·exact aA
 refine dE ?_;refine aB rfl (fun g21=> ?_) (fun g21=> ?_)
 ·obtain rfl:no=11:=by simp at g21;omega
  have hE:tF 11 ⟨ty,im,fn,tb,me,gl,ex,el,co,da⟩ s=(⟨ty,im,fn,tb,me,gl,ex,el,co,(fW YW s).1⟩,(fW YW s).2):=rfl;refine dX ?_;refine vC ?_;refine aGQ ?_;refine cw [(r,.box 117 (dI s)),(r3,.box 114 [.ptr r 0])] Tryz.call182 (aCf (r:=r) (c:=r3) (by(exact cF)) (aCm (by(exact cF))) s hs) rfl aC aA ?_;rintro _ σ' ⟨q91,hq91,rfl,rfl⟩ h91;simp only[aM,aQ,and_true]at hq91;repeat rcases hq91 with⟨_,hq91⟩
  have k91:=bC h91;repeat rcases k91 with⟨_,k91⟩
  apply aT;(exact bF);refine jB (j:=91) rfl bP (aR bH (by simp)) ?_;refine oW ?_;refine bR ?_;apply aF;exact aG
  ·exact⟨rfl,by rw[hE]⟩
  ·exact aA
 have e1:no≠1:=by(simp at g3;omega)
 have e2:no≠2:=by(simp at g5;omega)
 have e3:no≠3:=by(simp at g7;omega)
 have e4:no≠4:=by(simp at g9;omega)
 have e5:no≠5:=by(simp at g11;omega)
 have e6:no≠6:=by(simp at g13;omega)
 have e7:no≠7:=by(simp at g15;omega)
 have e9:no≠9:=by(simp at g17;omega)
 have e10:no≠10:=by(simp at g19;omega)
 have e11:no≠11:=by(simp at g21;omega)
 have hE:tF no ⟨ty,im,fn,tb,me,gl,ex,el,co,da⟩ s=(⟨ty,im,fn,tb,me,gl,ex,el,co,da⟩,(s.1,true)):=by unfold tF;rw[if_neg e1];rw[if_neg e2];rw[if_neg e3];rw[if_neg e4];rw[if_neg e5];rw[if_neg e6];rw[if_neg e7];rw[if_neg e9];rw[if_neg e10];rw[if_neg e11]
 refine dW ?_;refine vC ?_;refine oW ?_;refine bR ?_;apply aF;exact aG
 ·exact⟨rfl,by rw[hE]⟩
 ·exact aA
theorem KF{s:St}(h:SOk s):kU (yI s).1:=by
 have h1:=iP s h;unfold yI;dsimp only;split
 ·exact⟨by simp,by simp⟩
 ·exact⟨by have:=h1.1;simp;omega,fun c hc=>h1.2 c (List.mem_of_mem_take hc)⟩
theorem ZR{α:Type}{get:St→α×St}{p:α→Prop}(hk:Kp get)(hp:∀s,SOk s→p (get s).1):∀n s,SOk s→(∀x∈(jV get n s).1,p x)∧(jV get n s).1.length≤n
 |0,s,h=>⟨by simp[jV],by simp[jV]⟩
 |n+1,s,h=>by
  rw[jV];split
  ·exact⟨by simp,by simp⟩
  ·obtain⟨h1,h2⟩:=ZR hk hp n _ (hk s h);refine⟨fun x hx=> ?_,by simpa using h2⟩;rcases List.mem_cons.1 hx with rfl|hx
   ·exact hp s h
   ·exact h1 x hx
theorem DO{α:Type}{get:St→α×St}{p:α→Prop}(hk:Kp get)(hp:∀s,SOk s→p (get s).1){s:St}(h:SOk s):(∀x∈(fW get s).1,p x)∧(fW get s).1.length≤4294967296:=by
 obtain⟨h1,h2⟩:=ZR hk hp (gR s).1 _ (iP s h);exact⟨h1,Nat.le_trans h2 (Nat.le_of_lt (uR s))⟩
theorem aCs:ins0.Ok:=⟨by decide,by decide,by decide,by decide,by decide⟩
theorem ZS{l:List Nat}(hlt:∀x∈l,x<256):(fG l).1.Ok:=by
 by_cases h:(fG l).2.2=0
 ·exact(wS hlt h).1
 ·have hf:∀x n e,(mF x n e).2.2≠0→(mF x n e).1=ins0:=fun x n e h=>by
   unfold mF at h⊢;split
   ·rfl
   ·next hh=>rw[if_neg hh]at h;exact absurd rfl h
  have:(fG l).1=ins0:=by
   unfold fG at h⊢;split
   ·rfl
   ·next h1=>
    rw[if_neg h1]at h;split
    ·rfl
    ·next h2=>
     rw[if_neg h2]at h;unfold rY at h⊢;dsimp only at h⊢;repeat' split
     all_goals (first|rfl|skip)
     all_goals apply hf
     all_goals simp_all
  rw[this];exact aCs
theorem aCt{s:St}(h:SOk s):-9223372036854775808≤(LG s).1.2∧(LG s).1.2≤9223372036854775807:=by
 have h1:=ZS h.2;unfold LG;dsimp only;split
 ·exact⟨h1.2.2.1,h1.2.2.2.1⟩
 ·exact⟨h1.2.2.1,h1.2.2.2.1⟩
theorem aCu{s:St}(h:SOk s):(JX s).1.bd.length≤100000∧∀x∈(JX s).1.bd,x.Ok:=by
 have k1:=ZJ _ (iP s h);have hC:JX s=if(wV (gR s).2).2.2=true then(⟨(wV (gR s).2).1,[]⟩,(wV (gR s).2).2)else(⟨(wV (gR s).2).1,(kW (wV (gR s).2).2.1).1⟩,tI (wV (gR s).2).2 (kW (wV (gR s).2).2.1).2.1 ((kW (wV (gR s).2).2.1).2.2==0)):=rfl
 rw[hC];split
 ·exact⟨by simp,by simp⟩
 ·have k2:=k1.2;generalize(wV (gR s).2).2.1=l at k2⊢;by_cases he:(kW l).2.2=0
  ·obtain⟨h1,h2,h3⟩:=PY k2 he;refine⟨?_,fun x hx=>(h3 x hx).1⟩;have:=JU h1;simp only[cV,List.length_map]at this;dsimp only;omega
  ·rw[(YM l he).1];exact⟨by simp,by simp⟩
theorem aHN(no:Nat){m:Md}(h:m.WO){s:St}(hs:SOk s):(tF no m s).1.WO:=by
 obtain⟨⟨h1,h2,h3,h4,h7⟩,h5,h6⟩:=h;unfold tF;split
 ·exact⟨⟨h1,h2,h3,h4,h7⟩,h5,h6⟩
 split
 ·have:=DO (p:=fun x:Im=>kU x.mod∧kU x.nm) ZM (fun s hs=>⟨KF hs,KF (AJ s hs)⟩) hs;exact⟨⟨this.1,h2,h3,this.2,h7⟩,h5,h6⟩
 split
 ·exact⟨⟨h1,h2,h3,h4,h7⟩,h5,h6⟩
 split
 ·exact⟨⟨h1,h2,h3,h4,h7⟩,h5,h6⟩
 split
 ·exact⟨⟨h1,h2,h3,h4,h7⟩,h5,h6⟩
 split
 ·have:=DO (p:=fun g:Gl=> -9223372036854775808≤g.n∧g.n≤9223372036854775807) ZN (fun s hs=>aCt (mJ _ (wE s hs))) hs;exact⟨⟨h1,h2,h3,h4,h7⟩,h5,this.1⟩
 split
 ·have:=DO (p:=fun x:Ex=>kU x.nm) ZO (fun s hs=>KF hs) hs;exact⟨⟨h1,this.1,h3,h4,h7⟩,h5,h6⟩
 split
 ·exact⟨⟨h1,h2,h3,h4,h7⟩,h5,h6⟩
 split
 ·have:=DO (p:=fun c:Co=>c.bd.length≤100000∧∀x∈c.bd,x.Ok) ZK (fun s hs=>aCu hs) hs;exact⟨⟨h1,h2,fun c hc=>(this.1 c hc).1,h4,h7⟩,fun c hc=>(this.1 c hc).2,h6⟩
 split
 ·have:=DO (p:=fun x:Da=>∀c∈x.bs,c<256) ZP (fun s hs=>(KF (NW s hs)).2) hs;exact⟨⟨h1,h2,h3,h4,this.1⟩,h5,h6⟩
 ·exact⟨⟨h1,h2,h3,h4,h7⟩,h5,h6⟩
theorem aHO(no:Nat)(m:Md){s:St}(hs:SOk s):SOk (tF no m s).2:=by
 unfold tF;split
 ·exact rJ aDY s hs
 split
 ·exact rJ ZM s hs
 split
 ·exact rJ ZL s hs
 split
 ·exact aD0 true s hs
 split
 ·exact aD0 false s hs
 split
 ·exact rJ ZN s hs
 split
 ·exact rJ ZO s hs
 split
 ·exact rJ aD1 s hs
 split
 ·exact rJ ZK s hs
 split
 ·exact rJ ZP s hs
 ·exact hs
theorem wo0:md0.WO:=⟨⟨by simp[md0],by simp[md0],by simp[md0],by simp[md0],by simp[md0]⟩,by simp[md0],by simp[md0]⟩
theorem aCv{m:Md}{s:St}(h:(s.1.isEmpty||s.2)=true):DN m s=(m,s):=by
 unfold DN;rw[YX,if_pos h]
theorem aCw{m:Md}{s:St}(h:s.1≠ [])(hb:s.2=false):DN m s=DN (tF (kP s).1 m (gR (kP s).2).2).1 (tF (kP s).1 m (gR (kP s).2).2).2∧(tF (kP s).1 m (gR (kP s).2).2).2.1.length<s.1.length:=by
 have h1:(tF (kP s).1 m (gR (kP s).2).2).2.1.length<s.1.length:=Nat.lt_of_le_of_lt (aDR _ _ _) (Nat.lt_of_le_of_lt (pH _) (aDI s h hb));refine⟨?_,h1⟩;unfold DN;rw[YX,if_neg (by rw[hb];simp[h])];exact yK _ _ _ _ h1 (Nat.lt_succ_self _)
theorem aFC(b:List Nat):vU b=DN md0 (tI (b, !decide (b.take 8=headB)) 8 true):=by
 unfold vU DN;refine yK _ _ _ _ ?_ (Nat.lt_succ_self _);exact Nat.lt_succ_of_le (NM _ _ _)
theorem DP(bs ps:List Nat)(h1:bs.length≤1000000)(h2:ps.length≤1000000)(l1:∀c∈bs,c<256)(l2:∀c∈ps,c<256):SCall Tryz.prog 165 [.str (dV bs),.str (dV ps)] [] (fun x σ=>x=.bool (decide (bs.take ps.length=ps))∧σ=[]):=by
 have hq:((dV ((bs.drop 0).take (ps.length-0))).toList==(dV ps).toList)=decide (bs.take ps.length=ps):=by
  rw[List.drop_zero,Nat.sub_zero];exact oU (fun c hc=>l1 c (List.mem_of_mem_take hc)) l2
 refine cC 18 [0,1,4] Tryz.func165 ?_;refine bQ ?_;by_cases hl:ps.length≤bs.length
 ·have hE:AV.bool (decide (bs.take ps.length=ps))=AV.bool (decide (bs.take ps.length=ps)):=rfl;refine gK ?_;refine lo (gZ (E rfl)) rfl ?_;refine lo (aI (E rfl)) rfl ?_;refine lo (gZ (E rfl)) rfl ?_;rw[jU,jU];refine lo (fI (E rfl) (E rfl)) rfl ?_;rw[decide_eq_true (show(ps.length:Int)≤bs.length by omega)];refine jK ?_;refine qV ?_;refine aEp ?_;rw[jU];refine aGR ?_;refine qV ?_;refine aGS ?_;rw[hq];refine kD ?_;apply aF;exact aG
  ·exact⟨by rw[hE];rfl,rfl⟩
  ·exact aA
 ·have hE:decide (bs.take ps.length=ps)=false:=decide_eq_false fun e=>by have:=congrArg List.length e;simp at this;omega
  refine gK ?_;refine lo (gZ (E rfl)) rfl ?_;refine lo (aI (E rfl)) rfl ?_;refine lo (gZ (E rfl)) rfl ?_;rw[jU,jU];refine lo (fI (E rfl) (E rfl)) rfl ?_;rw[decide_eq_false (show¬(ps.length:Int)≤bs.length by omega)];refine jK ?_;refine qV ?_;refine aEp ?_;refine aGR ?_;refine qV ?_;refine aGS ?_;refine kD ?_;apply aF;exact aG
  ·exact⟨by rw[hE];rfl,rfl⟩
  ·exact aA
theorem FL(bs ps:List Nat)(h1:bs.length≤1000000)(h2:ps.length≤1000000)(l1:∀c∈bs,c<256)(l2:∀c∈ps,c<256):SCall Tryz.prog 65 [.str (dV bs),.str (dV ps)] [] (fun x σ=>x=.bool (decide (bs.take ps.length=ps))∧σ=[]):=by
 refine cC 8 [0,1,4] Tryz.func65 ?_;refine mA ?_;refine oE Tryz.call165 (DP bs ps h1 h2 l1 l2) rfl bG bK ?_;refine dG ?_;apply aF;exact aG
 ·exact⟨rfl,rfl⟩
 ·exact aA
theorem DQ{k k2:Rk}(a c:List Nat)(l1:∀x∈a,x<256)(l2:∀x∈c,x<256):SCall Tryz.prog 70 [.ro 1 (a.map aH) k,.ro 1 (c.map aH) k2] [] (fun x σ=>x=.bool (decide (a=c))∧σ=[]):=by
 refine cC 10 [0,1,4] Tryz.func70 ?_;refine fV ?_;refine aBh ?_;refine lo (aI (E rfl)) rfl ?_;refine aBh ?_;refine lo (xE (E rfl) (E rfl)) rfl ?_;refine dG ?_;apply aF;exact aG
 ·exact⟨by rw[←oU l1 l2];rfl,rfl⟩
 ·exact aA
theorem iQ{fr:Fr}{σ σ':dY}{r:Nat}{bt:TypeId}{cs cs':List AV}(hs:SSet σ r (.box bt cs) r (.box bt cs') σ')(hb:BorL σ [] cs cs'):SGo ⟨fr,σ⟩ ⟨fr,σ'⟩:=by
 refine oT [] (fun i x' hi=>⟨x',hi,.refl _⟩) (fun p hp=> ?_);refine⟨by simp, ?_⟩;rcases List.mem_cons.1 (hs.sub p hp)with rfl|h
 ·exact⟨_,bV hs.get,.box (WW hb)⟩
 ·exact⟨p.2,(fC h).1,.refl _⟩
theorem yP{σ:dY}{ts:List Nat}:BorL σ ts [.ro 0 [] .nil,.ro 0 [] .nil,.ro 0 [] .nil,.bool false,.int .i64 0,.int .i64 0,.bool false,.int .i64 0,.int .i64 0,.ro 0 [] .nil,.ro 0 [] .nil,.ro 0 [] .nil,.ro 0 [] .nil,.ro 0 [] .nil] (cK md0):=
 .cons (.le VLe.empty) (.cons (.le VLe.empty) (.cons (.le VLe.empty) (.cons (.refl _) (.cons (.refl _) (.cons (.refl _) (.cons (.refl _) (.cons (.refl _) (.cons (.refl _) (.cons (.le VLe.empty) (.cons (.le VLe.empty) (.cons (.le VLe.empty) (.cons (.le VLe.empty) (.cons (.le VLe.empty) .nil)))))))))))))
theorem aCx:(vU []).2.2=true:=by decide
theorem aCy{b:List Nat}{m:Md}{z:Bool}(h80:¬8000<b.length)(hB:(vU b).2.2=false)(hM:(vU b).1=m)(hz:z=true→(nO m).map aH=[])(hbn:b≠ [])(g:(if z=true then true else !decide (nO m=b))=true):wW b=(md0,1):=by
 unfold wW;rw[if_neg h80,if_neg (by rw[hB];simp),hM,if_neg];rintro⟨e1,e2⟩;have e3:nO m=b:=by unfold nO;rw[if_pos e1,e2]
 rw[e3]at g hz;cases z with
 |true=>exact hbn (by simpa using hz rfl)
 |false=>simp at g
theorem ZT{b:List Nat}{m:Md}{z:Bool}(h80:¬8000<b.length)(hB:(vU b).2.2=false)(hM:(vU b).1=m)(hbn:b≠ [])(g:(if z=true then true else !decide (nO m=b))=false):wW b=(m,0):=by
 have hb:nO m=b:=by cases z with
  |true=>simp at g
  |false=>simpa using g
 have hy:pS m=true:=by
  cases hh:pS m with
  |true=>rfl
  |false=>unfold nO at hb;rw[hh]at hb;exact absurd hb.symm hbn
 unfold nO at hb;rw[if_pos hy]at hb;unfold wW;rw[if_neg h80,if_neg (by rw[hB];simp),hM,if_pos ⟨hy,hb⟩]
theorem yQ{a c:List Nat}(h1:∀x∈a,x<256)(h2:∀x∈c,x<256):∀x∈a++c,x<256:=fun x hx=>(List.mem_append.1 hx).elim (h1 x) (h2 x)
theorem DR{α:Type}{l:List α}{pt:α→List Nat}(h:∀x∈l,∀c∈pt x,c<256):∀c∈bD l pt,c<256:=yQ (lA _) fun c hc=>by
 obtain⟨x,hx,hc⟩:=List.mem_flatMap.1 hc;exact h x hx c hc
theorem qP{α:Type}{no:Nat}{l:List α}{pt:α→List Nat}(hno:no<256)(h:∀x∈l,∀c∈pt x,c<256):∀c∈bL no l pt,c<256:=by
 unfold bL;split
 ·simp
 ·intro c hc;rcases List.mem_cons.1 hc with rfl|hc
  ·exact hno
  ·exact yQ (lA _) (DR h) c hc
theorem SP(k:Int):∀c∈kB k,c<256:=by unfold kB;split<;>simp
theorem ZU{k n:Int}(hv:lW k n=true)(hn:-9223372036854775808≤n∧n≤9223372036854775807):∀c∈lL k n,c<256:=by
 obtain⟨ho,hm,-⟩:=CY hv hn;exact yQ (RQ hm) (by simp)
theorem ZV{n:Int}(h:kE n=true):∀c∈pD n,c<256:=by
 have hr:-2147483648≤n∧n≤2147483647:=by unfold kE at h;simpa using h
 intro c hc;rcases List.mem_cons.1 hc with rfl|hc
 ·decide
 ·exact ZU (k:=1) (n:=n) (by unfold lW;simp;omega) (by omega) c hc
theorem ZW(l:Li):∀c∈eK l,c<256:=by
 unfold eK cB;split
 ·intro c hc;rcases List.mem_cons.1 hc with rfl|hc
  ·decide
  ·exact lA _ c hc
 ·intro c hc;rcases List.mem_cons.1 hc with rfl|hc
  ·decide
  ·exact yQ (lA _) (lA _) c hc
theorem QF{s:List Nat}(h:sW s=true):∀c∈bO s,c<256:=yQ (lA _) (kO h).2.1
theorem aFD{x:Co}(h:sA x=true)(hO:∀i∈x.bd,i.Ok):∀c∈kA x,c<256:=by
 unfold sA at h;simp only[Bool.and_eq_true]at h;refine yQ (lA _) (yQ (DR fun r _=>yQ (lA _) (SP _)) (aBO fun i hi=>⟨hO i hi,(bW h.2).2 i hi⟩))
theorem aCz{m:Md}(h:pT m=true)(hw:m.WO):∀c∈fH m,c<256:=by
 obtain⟨hw,hO1,hO2⟩:=hw;unfold pT at h;simp only[Bool.and_eq_true]at h;obtain⟨⟨⟨⟨-,hco⟩,hls⟩,htb⟩,hme⟩:=h;unfold pE at hls;simp only[Bool.and_eq_true]at hls;obtain⟨⟨⟨⟨⟨⟨hty,him⟩,hfn⟩,hgl⟩,hex⟩,hel⟩,hda⟩:=hls;unfold fH;refine yQ (yQ (yQ (yQ (yQ (yQ (yQ (yQ (yQ (yQ ?_ ?_) ?_) ?_) ?_) ?_) ?_) ?_) ?_) ?_) ?_
 ·decide
 ·refine qP (by decide) fun x _ c hc=> ?_
  rcases List.mem_cons.1 hc with rfl|hc
  ·decide
  ·exact yQ (DR fun k _=>SP k) (DR fun k _=>SP k) c hc
 ·refine qP (by decide) fun x hx=> ?_
  have:=(bW him).2 x hx;simp only[Bool.and_eq_true]at this;exact yQ (yQ (yQ (QF this.1.1) (QF this.1.2)) (by simp)) (lA _)
 ·exact qP (by decide) fun x _=>lA _
 ·refine qP (by decide) fun x _ c hc=> ?_
  rcases List.mem_cons.1 hc with rfl|hc
  ·decide
  ·exact ZW x c hc
 ·exact qP (by decide) fun x _=>ZW x
 ·refine qP (by decide) fun x hx=> ?_
  exact yQ (yQ (SP _) (by intro c hc;rw[List.mem_singleton.1 hc];split<;>decide)) (ZU ((bW hgl).2 x hx) (hO2 x hx))
 ·refine qP (by decide) fun x hx=> ?_
  have:=(bW hex).2 x hx;simp only[Bool.and_eq_true]at this;exact yQ (yQ (QF this.1) (by simp)) (lA _)
 ·refine qP (by decide) fun x hx=> ?_
  have:=(bW hel).2 x hx;simp only[Bool.and_eq_true]at this;exact yQ (ZV this.1) (DR fun n _=>lA _)
 ·exact qP (by decide) fun x hx=>aFD ((bW hco).2 x hx) (hO1 x hx)
 ·refine qP (by decide) fun x hx=> ?_
  have:=(bW hda).2 x hx;simp only[Bool.and_eq_true]at this;exact yQ (yQ (ZV this.1) (lA _)) (hw.da x hx)
theorem SQ{m:Md}(h:m.WO):∀c∈nO m,c<256:=by
 unfold nO;split
 ·next hy=>exact aCz (ZG hy).1 h
 ·simp
theorem AL(b:List Nat)(hb:b.length≤100000)(hlt:∀c∈b,c<256):SCall Tryz.prog 20 [.ro 1 (b.map aH) .any] []
  (fun y σ=>y=.tup [.agg (cK (wW b).1),.int .i64 (wW b).2]∧σ=[]):=by
 have hs0:SOk (b, !decide (b.take headB.length=headB)):=⟨hb,hlt⟩
 have k0:=HN hs0 8 true;have hP:=aFC b;have wsk:=fun r=>yN r (b, !decide (b.take headB.length=headB)) hs0 8 true
 refine cC 59 [0,2,3,4,5,6,7,10,33,45,56] Tryz.func20 ?_;refine dW ?_;apply al;rfl;(exact dM);refine aD fun r2 h2=> ?_;repeat rcases h2 with⟨_,h2⟩
 refine dG ?_;refine eU (iQ (r:=r2) cZ yP) ?_;refine gK ?_;refine sQ ?_;refine aB rfl (fun g1=> ?_) (fun g1=> ?_)
 ·have hE:wW b=(md0,4):=by unfold wW;rw[if_pos (by simp at g1;omega)]
  refine sS ?_;refine CM ?_;refine eU (iQ (r:=r2) cZ yP) ?_;refine aP ?_;apply aF;exact aG
  ·exact⟨by rw[hE];rfl,rfl⟩
  ·exact aA
 have h80:¬8000<b.length:=by simp at g1;omega
 refine dW ?_;apply al;rfl;(exact dM);refine aD fun r4 h4=> ?_;repeat rcases h4 with⟨_,h4⟩
 refine jP ?_;refine eU (iQ (r:=r4) cZ yP) ?_;refine mK ?_;refine aBh ?_;refine oE Tryz.call65 (FL b headB (by omega) (by decide) hlt (by decide)) rfl bG bK ?_;refine lo (eI (E rfl)) rfl ?_;refine nF ?_;apply bx;rfl;rfl;(exact dM);rfl;refine aD fun r18 h18=> ?_;repeat rcases h18 with⟨_,h18⟩
 refine iE ?_;refine cw [(r18,.box 117 (dI (b, !decide (b.take headB.length=headB))))] Tryz.call66 (wsk r18) rfl aC aA ?_;rintro _ σ' ⟨rfl,rfl⟩ h20;refine dQ ?_;rw[show tI (b, !decide (b.take headB.length=headB)) ((8:Nat):Int) true=tI (b, !decide (b.take 8=headB)) 8 true from rfl];rw[show tI (b, !decide (b.take headB.length=headB)) 8 true=tI (b, !decide (b.take 8=headB)) 8 true from rfl]at k0;generalize tI (b, !decide (b.take 8=headB)) 8 true=s0 at k0 hP⊢;refine lp (β:=Md×St) (fun x=>⟨[(0,.ro 1 (b.map aH) .any),(2,.ptr r2 0),(4,.ptr r4 0),(5,.ptr r18 0)],[(r18,.box 117 (dI x.2)),(r4,.box 33 (cK x.1)),(r2,.box 33 (cK md0))]⟩) (fun x=>x.1.WO∧SOk x.2∧DN x.1 x.2=vU b) (fun x=>x.2.1.length) (md0,s0) aK ⟨wo0,k0,hP.symm⟩ ?_;rintro⟨m,⟨l,bad⟩⟩ ⟨hwo,hs,hD⟩;dsimp only at hwo hs hD⊢;unfold dI;dsimp only;refine dX ?_;refine nT ?_;refine lU ?_;refine uA ?_;refine aB rfl (fun g6=> ?_) (fun g6=> ?_)
 ·obtain rfl:bad=false:=by cases bad with|false=>rfl|true=>simp at g6
  have hne:l≠ []:=by intro e;subst e;simp at g6
  have wb:=nD r18 (l,false) hs;have kb:=mJ (l,false) hs;have wn:=jM r18 _ kb;have kn:=iP _ kb;have hbl:(kP (l,false)).1<256:=by cases l with|nil=>exact absurd rfl hne|cons x t=>exact hs.2 x List.mem_cons_self
  have ws:=QE r18 r4 (by(exact cF)) _ kn m (kP (l,false)).1;have hst:=aCw (m:=m) (s:=(l,false)) hne rfl;have kw:=aHN (kP (l,false)).1 hwo kn;have ks:=aHO (kP (l,false)).1 m kn;refine dX ?_;refine cw [(r18,.box 117 (dI (l,false)))] Tryz.call67 wb rfl aC aA ?_;rintro _ σ' ⟨rfl,rfl⟩ h35;apply aT;(exact bF);refine z44 ?_;refine iE ?_;refine cw [(r18,.box 117 (dI (kP (l,false)).2))] Tryz.call68 wn rfl aC aA ?_;rintro _ σ' ⟨rfl,rfl⟩ h38;refine pX ?_;refine cw [(r18,.box 117 (dI (gR (kP (l,false)).2).2)),(r4,.box 33 (cK m))] Tryz.call69 ws rfl aC aA ?_;rintro _ σ' ⟨rfl,rfl⟩ h41;refine dQ ?_;refine⟨tF (kP (l,false)).1 m (gR (kP (l,false)).2).2,⟨kw,ks,hst.1.symm.trans hD⟩,hst.2, ?_⟩;exact aK
 have hz:DN m (l,bad)=(m,(l,bad)):=aCv (by cases bad with|true=>simp|false=>(cases l with|nil=>rfl|cons x t=>(simp at g6<;>omega)));rw[hz]at hD;refine dX ?_;refine nT ?_;refine jP ?_;refine aB rfl (fun g10=> ?_) (fun g10=> ?_)
 ·have hE:wW b=(md0,1):=by unfold wW;rw[if_neg h80,if_pos (by rw[←hD];exact g10)]
  refine sS ?_;refine CM ?_;refine eU (iQ (r:=r2) cZ yP) ?_;refine aP ?_;apply aF;exact aG
  ·exact⟨by rw[hE];rfl,rfl⟩
  ·exact aA
 refine aP ?_;obtain⟨ty,im,fn,tb,me,gl,ex,el,co,da⟩:=m;refine BG ?_;refine oV ?_;refine qQ Tryz.call18 (uQ ⟨ty,im,fn,tb,me,gl,ex,el,co,da⟩ hwo) rfl bS kI ?_;rintro _ σ' ⟨q48,rfl,rfl⟩ h48
 replace h48:=cO h48;repeat rcases h48 with⟨_,h48⟩
 apply aT;(exact bF);refine jB (j:=48) rfl bP (aR bH (by simp)) ?_;refine dG ?_;have hB:(vU b).2.2=false:=by rw[←hD];exact g10
 have hM:(vU b).1=⟨ty,im,fn,tb,me,gl,ex,el,co,da⟩:=by rw[←hD]
 have hbn:b≠ []:=by intro e;rw[e,aCx]at hB;cases hB
 refine gK ?_;refine ne rfl rfl rfl fun z hz _=> ?_
 refine jK ?_;refine qV ?_;refine kV rfl rfl Tryz.call70 (fun _=>(DQ (nO ⟨ty,im,fn,tb,me,gl,ex,el,co,da⟩) b (SQ hwo) hlt)) rfl bG bK ?_;refine tT ?_;refine qJ ?_;refine aB rfl (fun g13=> ?_) (fun g13=> ?_)
 ·have hE:=aCy h80 hB hM hz hbn g13;refine sS ?_;refine CM ?_;refine eU (iQ (r:=r2) cZ yP) ?_;refine aP ?_;apply aF;exact aG
  ·exact⟨by rw[hE];rfl,rfl⟩
  ·exact aA
 have hE:=ZT h80 hB hM hbn g13;refine pY ?_;refine AE ?_;apply aF;exact aG
 ·exact⟨by rw[hE];rfl,rfl⟩
 ·exact aA
section
variable {r p q : Nat} {m : Md} {lv : AV}
theorem BO(hN:Nm r p q)(s:PS)(hs:s.cs.length≤1000000)(op kd:Int):SCall Tryz.prog 76 [.ptr r 0,.int .i64 op,.int .i64 kd] (cI r p q m lv s) (fun _ σ=>∃e,Nm r p e∧σ=cI r p e m lv (openP s op kd)):=by
 obtain⟨vs,zs,b⟩:=s;obtain⟨n1,n2,n3⟩:=hN;dsimp only at hs;refine cC 23 [0,1,2] Tryz.func76 ?_;unfold cI fO;dsimp only;refine aP ?_;refine gI [(0,true),(1,true),(2,true),(3,true),(4,true),(5,true),(6,true),(7,true),(8,true),(9,true),(10,true),(11,true),(12,true),(13,false),(14,false),(15,true),(16,true),(17,false)] ?_;refine gD rfl (aI (E rfl)) rfl ?_;refine CJ ?_;refine xN ?_;refine CJ ?_;refine IQ ?_;refine z94 ?_;refine GO ?_;refine aD fun r19 h19=> ?_;repeat rcases h19 with⟨_,h19⟩
 refine fJ rfl ((zs++ [(⟨op,kd,vs.length,false⟩:Ct)]).map lR) (zs++ [(⟨op,kd,vs.length,false⟩:Ct)]).length ?_;refine bM fun r20 h20=> ?_;repeat rcases h20 with⟨_,h20⟩
 refine WB ?_;refine rB ?_;refine kK ?_;refine bR ?_;apply aF;exact aG
 ·exact⟨r20,⟨by(exact cF),by(exact cF),by(exact cF)⟩,rfl⟩
 ·exact aA
theorem KG(hN:Nm r p q)(s:PS)(h:s.Gd):SCall Tryz.prog 79 [.ptr r 0] (cI r p q m lv s) (fun y σ=>y=.agg (lR s.top)∧σ=cI r p q m lv (gG s)):=by
 have hd:gG s=⟨(dL s (bB s.top.kd)).vs,(dL s (bB s.top.kd)).cs.dropLast,(dB (dL s (bB s.top.kd)) (((dL s (bB s.top.kd)).vs.length:Int)==s.top.ht)).bad⟩:=rfl;have hp:=h.pops (bB s.top.kd);have hcs:=oH s (bB s.top.kd);rw[hd];obtain⟨i,hi⟩:=h.cut;generalize s.top=t at hi hcs hp⊢;have hpa:=fun(hN:Nm r p q)=>kQ (m:=m) (lv:=lv) hN s h (bB t.kd) (by have:=pG t.kd;omega)
 generalize dL s (bB t.kd)=s1 at hcs hp hpa⊢;have hbc:=h.bc;have hbv:=h.bv;have hbv1:=hp.bv;obtain⟨vs,zs,b⟩:=s;obtain⟨vs1,zs1,b1⟩:=s1;dsimp only at hi hcs hbc hbv hbv1;subst hi hcs;rw[uP]at hbc;obtain⟨n1,n2,n3⟩:=hN;have hel:=rI (l:=i.map lR) (x:=lR t) (n:=i.length) (by simp);refine cC 46 [0,2,3] Tryz.func79 ?_;unfold cI fO;dsimp only;rw[uP,DI];refine dW ?_;apply al;rfl;(exact dM);refine aD fun r2 h2=> ?_;repeat rcases h2 with⟨_,h2⟩
 refine jP ?_;refine gI [(0,true),(1,true),(2,true),(3,true),(4,true),(5,true),(6,true),(7,true),(8,true),(9,true),(10,true),(11,true),(12,false),(13,false)] ?_;refine wL ?_;refine rD ?_;refine MC ?_;refine zH ?_;apply dal;rfl;infer_instance;rfl;(exact dM);refine aD fun r3 h3=> ?_;repeat rcases h3 with⟨_,h3⟩
 refine WZ ?_;refine MA ?_;refine qW ?_;refine cw [] Tryz.call191 (sF t.kd) rfl aC aA ?_;rintro _ σ' ⟨rfl,rfl⟩ h19;apply aT;(exact bF);refine cw (cI r p q m lv ⟨vs,i++ [t],b⟩) Tryz.call192 (hpa ⟨n1,n2,n3⟩) rfl aC cA ?_;rintro _ σ' rfl h20;unfold cI fO;(try dsimp only);refine dQ ?_;refine gI [(0,true),(1,true),(2,true),(3,true),(6,true),(7,true),(4,false),(5,true),(8,true),(9,false)] ?_;refine gD rfl (aI (E rfl)) rfl ?_;refine CI ?_;refine OX ?_;refine jE ?_;first|refine dhl rfl (aN (E rfl) rfl bH (fun _=>rfl)) rfl ?_ |refine dhl rfl (aN (E rfl) rfl bH (fun _=>by assumption)) rfl ?_ |refine dhl rfl (aL (E rfl) rfl (fun hc=>by first|rfl|exact aE (by assumption)|assumption|exact aE (aO (by omega))) (fun _=>rfl)) rfl ?_
 refine IQ ?_;refine z79 ?_;refine qT (cI r p q m lv ⟨vs1,i++ [t],b1⟩) rfl Tryz.call189 (jZ ⟨n1,n2,n3⟩ _ ((vs1.length:Int)==t.ht)) rfl aC cA ZC ?_;rintro _ σ' rfl h30;unfold cI fO;(try dsimp only);apply bZ;(exact bF);refine kK ?_;dsimp only[dB];rw[uP,DI];refine gI [(0,true),(1,true),(2,true),(3,true),(4,true),(5,true),(6,true),(7,true),(8,true),(9,true),(10,true),(11,true),(12,true),(13,true),(14,false)] ?_;refine CO ?_;refine rD ?_;refine WA ?_;refine WB ?_;refine rB ?_;refine kK ?_;rw[pI];refine eU (nB (o:=q) i.length cZ) ?_;rw[show List.take i.length (i.map lR++ [lR t])=i.map lR by rw[List.take_left' (by simp)]];rw[List.dropLast_concat];refine BG ?_;refine oV ?_;refine iD ?_;apply aF;exact aG
 ·exact⟨rfl,rfl⟩
 ·exact aA
theorem BP(hN:Nm r p q)(s:PS)(h:s.Gd):SCall Tryz.prog 187 [.ptr r 0] (cI r p q m lv s) (fun _ σ=>σ=cI r p q m lv (nM s)):=by
 have hd:nM s=⟨s.vs.take s.top.ht,s.cs.dropLast++ [⟨s.top.op,s.top.kd,s.top.ht,true⟩],s.bad⟩:=rfl;rw[hd];obtain⟨i,hi⟩:=h.cut;have h0:=h.toOk0;generalize s.top=t at hi⊢;have hbc:=h.bc;have hbv:=h.bv;obtain⟨vs,zs,b⟩:=s;dsimp only at hi hbc hbv;subst hi;rw[uP]at hbc;obtain⟨-,hh,-⟩:=h0.split;obtain⟨n1,n2,n3⟩:=hN;have hel:=rI (l:=i.map lR) (x:=lR t) (n:=i.length) (by simp);refine cC 29 [0,2] Tryz.func187 ?_;unfold cI fO;dsimp only;rw[uP,DI];refine aP ?_;refine gI [(0,true),(1,true),(2,true),(3,true),(4,true),(5,true),(6,true),(7,true),(8,true),(9,true),(10,true),(11,true)] ?_;refine wL ?_;refine rD ?_;refine MC ?_;refine tV ?_;refine gI [(0,true),(1,true),(2,true),(3,true),(4,true),(5,true),(6,true),(7,true),(8,true),(9,true),(10,true),(11,true),(12,true),(13,false),(14,true),(15,true),(16,false)] ?_;refine xN ?_;refine CJ ?_;refine CI ?_;refine gD rfl (eM (E rfl) rfl (by decide)) rfl ?_;refine gD rfl (bJ (E rfl) rfl bH (fun _=>hel) (fun _=>rfl)) rfl ?_;refine WA ?_;refine WB ?_;refine rB ?_;refine WB ?_;refine gD rfl (eM (E rfl) rfl (by decide)) rfl ?_;apply aA8;rfl;infer_instance;rfl;rfl;rfl;rfl;(exact cZ);(exact atT);(exact xK);rfl;(exact gE);refine kK ?_;rw[HK (by simp)];refine yH (nB (o:=p) t.ht cZ) ?_
 rw[←List.map_take,List.dropLast_concat,uP,DI,show t.ht-0=(vs.take t.ht).length by rw[List.length_take];omega];refine bR ?_;apply aF;exact aG
 ·rfl
 ·exact aA
theorem yR(hN:Nm r p q)(s:PS)(hs:s.cs.length≤1000000)(n:Int)(hn:0≤n):SCall Tryz.prog 193 [.ptr r 0,.int .i64 n] (cI r p q m lv s) (fun y σ=>y=.ro 1 ((cR s n).1.map aX) .any∧σ=cI r p q m lv (cR s n).2):=by
 obtain⟨vs,zs,b⟩:=s;obtain⟨n1,n2,n3⟩:=hN;dsimp only at hs;refine cC 36 [0,1,4,5,12,32] Tryz.func193 ?_;unfold cI fO;dsimp only;refine mA ?_;refine nT ?_;refine lU ?_;refine IV ?_;refine aB rfl (fun g1=> ?_) (fun g1=> ?_)
 ·have hP:cR ⟨vs,zs,b⟩ n=([],⟨vs,zs,true⟩):=if_pos g1;rw[hP];refine sO ?_;refine nS ?_;refine dW ?_;refine vQ ?_;refine eU (fY (j:=4) (y:=.ro 1 (([]:List Int).map aX) .any) rfl VLe.empty) ?_;refine aP ?_;apply aF;exact aG
  ·exact⟨rfl,rfl⟩
  ·exact aA
 have hlt:n<zs.length:=by simp at g1;omega
 obtain⟨t,ht⟩:∃t,zs[zs.length-1-n.toNat]? =some t:=⟨_,List.getElem?_eq_getElem (by omega)⟩
 have hP:cR ⟨vs,zs,b⟩ n=(if(t.op==3)=true then []else bB t.kd,⟨vs,zs,b⟩):=by unfold cR;rw[if_neg (by simpa using g1)];dsimp only;rw[List.getD_eq_getElem?_getD,ht];rfl
 rw[hP];have hel:(zs.map lR)[(((zs.length:Nat):Int)-1-n).toNat]? =some (lR t):=by rw[show(((zs.length:Nat):Int)-1-n).toNat=zs.length-1-n.toNat by omega,List.getElem?_map,ht];rfl
 refine aP ?_;refine gI [(0,true),(1,true),(2,true),(3,true),(4,true),(5,true),(6,true),(7,true),(8,true),(9,true),(10,true),(11,true),(12,true),(13,true),(14,false),(15,false)] ?_;refine wL ?_;refine rD ?_;refine gD rfl (aI (E rfl)) rfl ?_;refine z82 ?_;refine MC ?_;refine zH ?_;apply dal;rfl;infer_instance;rfl;(exact dM);refine aD fun r5 h5=> ?_;repeat rcases h5 with⟨_,h5⟩
 refine WZ ?_;refine MA ?_;refine fS ?_;refine qI ?_;refine aB rfl (fun g5=> ?_) (fun g5=> ?_)
 ·rw[if_pos g5];refine dW ?_;refine vQ ?_;refine eU (fY (j:=4) (y:=.ro 1 (([]:List Int).map aX) .any) rfl VLe.empty) ?_;refine aP ?_;apply aF;exact aG
  ·exact⟨rfl,rfl⟩
  ·exact aA
 rw[if_neg (by simp[g5])];refine fS ?_;refine cw [] Tryz.call191 (sF t.kd) rfl aC aA ?_;rintro _ σ' ⟨rfl,rfl⟩ h35;refine eP ?_;apply aF;exact aG
 ·exact⟨rfl,rfl⟩
 ·exact aA
theorem rK(hN:Nm r p q)(s:PS)(n:Int):SCall Tryz.prog 74 [.ptr r 0,.int .i64 n] (cI r p q m lv s) (fun y σ=>y=.tup [.agg (eF (cH m n).1),.bool (cH m n).2]∧σ=cI r p q m lv s):=by
 obtain⟨vs,zs,b⟩:=s;obtain⟨n1,n2,n3⟩:=hN;refine cC 27 [0,1,4,5,17] Tryz.func74 ?_;unfold cI fO;dsimp only;refine dW ?_;apply al;rfl;(exact dM);refine aD fun r4 h4=> ?_;repeat rcases h4 with⟨_,h4⟩
 refine iE ?_;refine EY ?_;refine qV ?_;refine aDq ?_;refine aGP ?_;refine aBc ?_;refine TX ?_;refine qJ ?_;refine aB rfl (fun g1=> ?_) (fun g1=> ?_)
 ·have hP:cH m n=(rG,false):=if_pos g1;rw[hP];refine sS ?_;refine CM ?_;refine eU (iQ (r:=r4) (cs':=eF rG) cZ (.cons (.le VLe.empty) (.cons (.le VLe.empty) .nil))) ?_;refine aP ?_;apply aF;exact aG
  ·exact⟨rfl,rfl⟩
  ·exact aA
 have hlt:0≤n∧n<m.ty.length:=by constructor<;>(apply Int.not_lt.1;intro hc;apply Bool.false_ne_true;rw[←g1];simp;omega)
 obtain⟨t,ht⟩:∃t,m.ty[n.toNat]? =some t:=⟨_,List.getElem?_eq_getElem (by omega)⟩
 have hP:cH m n=(t,true):=by unfold cH;rw[if_neg (by simpa using g1)];rw[List.getD_eq_getElem?_getD,ht];rfl
 rw[hP];refine sO ?_;refine gF ?_;refine mB ?_;refine AE ?_;apply aF;exact aG
 ·exact⟨rfl,rfl⟩
 ·exact aA
theorem yS{ls:List Int}(hN:Nm r p q)(s:PS)(n:Int)(hn:0≤n):SCall Tryz.prog 197 [.ptr r 0,.int .i64 n] (cI r p q m (.ro 1 (ls.map aX) .any) s) (fun y σ=>y=.int .i64 (cT ls s n).1∧σ=cI r p q m (.ro 1 (ls.map aX) .any) (cT ls s n).2):=by
 obtain⟨vs,zs,b⟩:=s;obtain⟨n1,n2,n3⟩:=hN;refine cC 22 [0,1,4,11] Tryz.func197 ?_;unfold cI fO;dsimp only;refine mA ?_;refine nT ?_;refine lU ?_;refine IV ?_;refine aB rfl (fun g1=> ?_) (fun g1=> ?_)
 ·have hP:cT ls ⟨vs,zs,b⟩ n=(0,⟨vs,zs,true⟩):=if_pos g1;rw[hP];refine sO ?_;refine nS ?_;refine bQ ?_;apply aF;exact aG
  ·exact⟨rfl,rfl⟩
  ·exact aA
 obtain⟨t,ht⟩:∃t,ls[n.toNat]? =some t:=⟨_,List.getElem?_eq_getElem (by simp at g1;omega)⟩
 have hlt:n<ls.length:=by simp at g1;omega
 have hP:cT ls ⟨vs,zs,b⟩ n=(t,⟨vs,zs,b⟩):=by unfold cT;rw[if_neg (by simpa using g1)];rw[List.getD_eq_getElem?_getD,ht];rfl
 rw[hP];refine dX ?_;refine nT ?_;refine nJ ?_;refine dG ?_;apply aF;exact aG
 ·exact⟨rfl,rfl⟩
 ·exact aA
theorem HQ(hN:Nm r p q)(s:PS)(n:Int)(hn:0≤n):SCall Tryz.prog 198 [.ptr r 0,.int .i64 n] (cI r p q m lv s) (fun y σ=>y=.agg (fP (eA m s n).1)∧σ=cI r p q m lv (eA m s n).2):=by
 obtain⟨vs,zs,b⟩:=s;obtain⟨n1,n2,n3⟩:=hN;refine cC 25 [0,1,4,12] Tryz.func198 ?_;unfold cI fO;dsimp only;refine dW ?_;apply al;rfl;(exact dM);refine aD fun r4 h4=> ?_;repeat rcases h4 with⟨_,h4⟩
 refine jP ?_;refine mK ?_;refine xO ?_;refine gF ?_;refine lU ?_;refine IV ?_;refine aB rfl (fun g1=> ?_) (fun g1=> ?_)
 ·have hP:eA m ⟨vs,zs,b⟩ n=(HF,⟨vs,zs,true⟩):=if_pos g1;rw[hP];refine sO ?_;refine nS ?_;refine sS ?_;refine iD ?_;apply aF;exact aG
  ·exact⟨rfl,rfl⟩
  ·exact aA
 obtain⟨t,ht⟩:∃t,m.gl[n.toNat]? =some t:=⟨_,List.getElem?_eq_getElem (by simp at g1;omega)⟩
 have hlt:n<m.gl.length:=by simp at g1;omega
 have hP:eA m ⟨vs,zs,b⟩ n=(t,⟨vs,zs,b⟩):=by unfold eA;rw[if_neg (by simpa using g1)];rw[List.getD_eq_getElem?_getD,ht];rfl
 rw[hP];refine sO ?_;refine gF ?_;refine mB ?_;refine iD ?_;apply aF;exact aG
 ·exact⟨rfl,rfl⟩
 ·exact aA
end
section
variable {r p q : Nat} {m : Md} {lv : AV}
theorem NZ(hN:Nm r p q)(s:PS)(hi:m.im.length≤1000000)(f:Int)(hf:0≤f)(hf2:f≤9223372036854775807):SCall Tryz.prog 196 [.ptr r 0,.int .i64 f] (cI r p q m lv s) (fun y σ=>y=.tup [.agg (eF (cH m (kF m f)).1),.bool (cH m (kF m f)).2]∧σ=cI r p q m lv s):=by
 obtain⟨vs,zs,b⟩:=s;have hN0:=hN;obtain⟨n1,n2,n3⟩:=hN;refine cC 51 [0,1,4,5,6,7,16,35] Tryz.func196 ?_;unfold cI fO;dsimp only;refine dW ?_;apply al;rfl;(exact dM);refine aD fun r4 h4=> ?_;repeat rcases h4 with⟨_,h4⟩
 refine kY ?_;refine iE ?_;refine xO ?_;refine gF ?_;refine lU ?_;refine nK ?_;refine xM ?_;refine aB rfl (fun g3=> ?_) (fun g3=> ?_)
 ·have hlt:f<m.im.length:=by simpa using g3
  obtain⟨x,hx⟩:∃x,m.im[f.toNat]? =some x:=⟨_,List.getElem?_eq_getElem (by omega)⟩
  have hP:kF m f=x.ty:=by unfold kF;rw[if_pos g3,List.getD_eq_getElem?_getD,hx];rfl
  rw[hP];refine sO ?_;refine gF ?_;refine oZ ?_;refine MB ?_;refine nK ?_;refine cw (cI r p q m lv ⟨vs,zs,b⟩) Tryz.call74 (rK hN0 _ _) rfl aC cA ?_;rintro _ σ' ⟨rfl,rfl⟩ h48;unfold cI fO;(try dsimp only);apply aT;(exact bF);refine IT ?_;refine AE ?_;apply aF;exact aG
  ·exact⟨rfl,rfl⟩
  ·exact aA
 have hge:¬f<m.im.length:=by simpa using g3
 refine cL ?_;refine rP ?_;refine lo (aI (E rfl)) rfl ?_;refine xO ?_;refine gF ?_;refine CL ?_;refine aB rfl (fun g5=> ?_) (fun g5=> ?_)
 ·have hlt:f-m.im.length<m.fn.length:=by simpa using g5
  obtain⟨x,hx⟩:∃x,m.fn[(f-m.im.length).toNat]? =some x:=⟨_,List.getElem?_eq_getElem (by omega)⟩
  have hP:kF m f=x:=by unfold kF;rw[if_neg (by simpa using g3),if_pos g5,List.getD_eq_getElem?_getD,hx];rfl
  rw[hP];refine sO ?_;refine gF ?_;refine PM ?_;refine rP ?_;refine qY ?_;refine nK ?_;refine cw (cI r p q m lv ⟨vs,zs,b⟩) Tryz.call74 (rK hN0 _ _) rfl aC cA ?_;rintro _ σ' ⟨rfl,rfl⟩ h48;unfold cI fO;(try dsimp only);apply aT;(exact bF);refine IT ?_;refine AE ?_;apply aF;exact aG
  ·exact⟨rfl,rfl⟩
  ·exact aA
 have hP:kF m f=-1:=by unfold kF;rw[if_neg (by simpa using g3),if_neg (by simpa using g5)]
 rw[hP];refine cL ?_;refine cw (cI r p q m lv ⟨vs,zs,b⟩) Tryz.call74 (rK hN0 _ _) rfl aC cA ?_;rintro _ σ' ⟨rfl,rfl⟩ h48;unfold cI fO;(try dsimp only);apply aT;(exact bF);refine IT ?_;refine AE ?_;apply aF;exact aG
 ·exact⟨rfl,rfl⟩
 ·exact aA
theorem OA(hN:Nm r p q)(s:PS)(h:s.Gd)(t:FT)(ht:t.Sm)(ok:Bool):SCall Tryz.prog 195 [.ptr r 0,.agg (eF t),.bool ok] (cI r p q m lv s) (fun _ σ=>∃e,Nm r e q∧σ=cI r e q m lv (pF s t ok)):=by
 obtain⟨pr,rs⟩:=t;obtain⟨ht1,ht2⟩:=ht;dsimp only at ht1 ht2;have hN0:=hN;obtain⟨n1,n2,n3⟩:=hN;have h1:=h.need ok;have h2:=h1.pops pr;refine cC 17 [0,1,2,4] Tryz.func195 ?_;unfold cI fO
 (try dsimp only);refine dW ?_;apply bx;rfl;rfl;(exact dM);rfl;refine aD fun r4 h4=> ?_;repeat rcases h4 with⟨_,h4⟩
 refine jP ?_;refine mK ?_;refine cw (cI r p q m lv s) Tryz.call189 (jZ hN0 s ok) rfl aC cA ?_;rintro _ σ' rfl h8;unfold cI fO;(try dsimp only);refine dQ ?_;refine kL ?_;refine cw (cI r p q m lv (dB s ok)) Tryz.call192 (kQ hN0 _ h1 pr (by omega)) rfl aC cA ?_;rintro _ σ' rfl h12;unfold cI fO;(try dsimp only);refine dQ ?_;refine kL ?_;refine cw (cI r p q m lv (dL (dB s ok) pr)) Tryz.call190 (lG hN0 _ h2.bv rs (by omega)) rfl aC cA ?_;rintro _ σ' ⟨e,hE,rfl⟩ h16;unfold cI fO;(try dsimp only);obtain⟨e1,e2,e3⟩:=id hE;refine dQ ?_;refine bR ?_;apply aF;exact aG
 ·exact⟨e,hE,rfl⟩
 ·exact aA
theorem lS(hN:Nm r p q)(s:PS)(h:s.Gd)(x:Ins)(al:Int)(tk mk:List Int)(ht:tk.length≤1000)(hm:mk.length≤1000):SCall Tryz.prog 199 [.ptr r 0,.agg (iv .any x),.int .i64 al,.ro 1 (tk.map aX) .any,.ro 1 (mk.map aX) .any] (cI r p q m lv s) (fun _ σ=>∃e,Nm r e q∧σ=cI r e q m lv (gL m s x al tk mk)):=by
 have hN0:=hN;obtain⟨n1,n2,n3⟩:=hN;have h1:=h.need (if m.me.has=true then decide (x.a≤al)else false);have h2:=h1.pops tk;unfold iv;refine cC 30 [0,1,2,3,4,6] Tryz.func199 ?_;unfold cI fO
 (try dsimp only);refine dW ?_;apply bx;rfl;rfl;(exact dM);rfl;refine aD fun r6 h6=> ?_;repeat rcases h6 with⟨_,h6⟩
 refine jP ?_;refine mK ?_;refine xO ?_;refine wI ?_;refine gF ?_;refine qZ ?_;refine XA ?_;refine rS ?_;refine cw (cI r p q m lv s) Tryz.call189 (jZ hN0 s (if m.me.has=true then decide (x.a≤al)else false)) rfl aC cA ?_;rintro _ σ' rfl h23;unfold cI fO;(try dsimp only);refine pX ?_;refine cw (cI r p q m lv (dB s (if m.me.has=true then decide (x.a≤al)else false))) Tryz.call192 (kQ hN0 _ h1 tk (by omega)) rfl aC cA ?_;rintro _ σ' rfl h26;unfold cI fO;(try dsimp only);refine pX ?_;refine cw (cI r p q m lv (dL (dB s (if m.me.has=true then decide (x.a≤al)else false)) tk)) Tryz.call190 (lG hN0 _ h2.bv mk hm) rfl aC cA ?_;rintro _ σ' ⟨e,hE,rfl⟩ h29;unfold cI fO;(try dsimp only);obtain⟨e1,e2,e3⟩:=id hE;refine dQ ?_;refine bR ?_;apply aF;exact aG
 ·exact⟨e,hE,rfl⟩
 ·exact aA
theorem PS.Gd.label {s:PS}(h:s.Gd)(n:Int):(cR s n).2.Gd:=⟨h.toOk.label n,by rw[uL];exact h.bv,by rw[uK];exact h.bc⟩
theorem PS.Gd.tabs {s:PS}(h:s.Gd)(w l:List Int):(l.foldl (vT w) s).Gd:=by
 obtain⟨h1,h2,h3⟩:=yF w l s;exact⟨h3 h.toOk,by rw[h2];exact h.bv,by rw[h1];exact h.bc⟩
theorem aFE{a b:List Int}(ha:a.length≤1)(hb:b.length≤1):(a=[]∧b=[])∨(a=[]∧∃v,b=[v])∨((∃g,a=[g])∧b=[])∨∃g v,a=[g]∧b=[v]:=by
 match a,b,ha,hb with
 |[],[],_,_=>exact .inl ⟨rfl,rfl⟩
 |[],[v],_,_=>exact .inr (.inl ⟨rfl,v,rfl⟩)
 |[g],[],_,_=>exact .inr (.inr (.inl ⟨⟨g,rfl⟩,rfl⟩))
 |[g],[v],_,_=>exact .inr (.inr (.inr ⟨g,v,rfl,rfl⟩))
theorem ZX{w l:List Int}{s:PS}{j:Nat}{n:Int}(h:l[j]? =some n):(l.take (j+1)).foldl (vT w) s=dB (cR ((l.take j).foldl (vT w) s) n).2 (WD (cR ((l.take j).foldl (vT w) s) n).1 w):=by
 rw[List.take_add_one,h,List.foldl_append];rfl
theorem ZY(hN:Nm r p q)(s:PS)(h:s.Gd)(x:Ins)(ha:0≤x.a)(hl:∀n∈x.l,0≤n)(hll:x.l.length≤1000000):SCall Tryz.prog 194 [.ptr r 0,.agg (iv .any x)] (cI r p q m lv s) (fun _ σ=>σ=cI r p q m lv (sC s x)):=by
  have hN0:=hN;obtain⟨n1,n2,n3⟩:=hN;have h1:=h.pop 1;have h2:=h1.label x.a;have hw:=mV (cQ s 1).2 x.a;have hT:sC s x=nM (dL (x.l.foldl (vT (cR (cQ s 1).2 x.a).1) (cR (cQ s 1).2 x.a).2) (cR (cQ s 1).2 x.a).1):=rfl;rw[hT];have cl:=yR (m:=m) (lv:=lv) hN0 (cQ s 1).2 h1.bc x.a ha;generalize(cR (cQ s 1).2 x.a).2=s2 at h2 cl⊢;generalize(cR (cQ s 1).2 x.a).1=w at hw cl⊢;obtain⟨xo,xa,xb,xl⟩:=x;dsimp only at ha hl hll cl⊢;unfold iv;refine cC 51 [0,1,3,4,6,7,15,16,17,18] Tryz.func194 ?_;unfold cI fO
  (try dsimp only);refine dW ?_;apply bx;rfl;rfl;(exact dM);rfl;refine aD fun r3 h3=> ?_;repeat rcases h3 with⟨_,h3⟩
  refine jP ?_;refine gK ?_;refine cw (cI r p q m lv s) Tryz.call188 (nV hN0 s h 1) rfl aC cA ?_;rintro _ σ' ⟨rfl,rfl⟩ h9;unfold cI fO;(try dsimp only);refine dQ ?_;refine kL ?_;refine cw (cI r p q m lv (cQ s 1).2) Tryz.call193 cl rfl aC cA ?_;rintro _ σ' ⟨rfl,rfl⟩ h13;unfold cI fO;(try dsimp only);refine eP ?_;refine kZ ?_;refine nI ?_;refine lp (β:=Nat) (fun j=>⟨[(0,.ptr r 0),(3,.ptr r3 0),(4,.ro 1 (w.map aX) .any),(15,.ro 1 (xl.map aX) .any),(16,.int .i64 xl.length),(17,.int .i64 j)],(r3,.box 46 [.int .i64 xo,.int .i64 xa,.int .i64 xb,.ro 1 (xl.map aX) .any])::cI r p q m lv ((xl.take j).foldl (vT w) s2)⟩) (fun j=>j≤xl.length) (fun j=>xl.length-j) 0 (by unfold cI fO;(try dsimp only);(exact aK)) (Nat.zero_le _) ?_;intro j hj
  (try dsimp only);have hS:=h2.tabs w (xl.take j);refine jQ ?_;refine aB rfl (fun g4=> ?_) (fun g4=> ?_)
  · obtain⟨n,hn⟩:∃n,xl[j]? =some n:=⟨_,List.getElem?_eq_getElem (by simp at g4;omega)⟩
    have hlt:j<xl.length:=(List.getElem?_eq_some_iff.1 hn).1;have hn0:=hl n (List.mem_of_getElem? hn);have hnx:=ZX (w:=w) (s:=s2) hn;generalize(xl.take j).foldl (vT w) s2=S at hS hnx⊢;unfold cI fO
    (try dsimp only);refine dW ?_;refine qY ?_;refine nK ?_;refine cw (cI r p q m lv S) Tryz.call193 (yR hN0 S hS.bc n hn0) rfl aC cA ?_;rintro _ σ' ⟨rfl,rfl⟩ h23;unfold cI fO;(try dsimp only);refine eP ?_;obtain⟨ea,eb⟩|⟨ea,v,eb⟩|⟨⟨g,ea⟩,eb⟩|⟨g,v,ea,eb⟩:=aFE (mV S n) hw
    · rw[ea];subst eb;rw[ea,show WD [] []=true from rfl]at hnx;refine gI [(0,true),(1,true),(2,true),(3,true),(4,true),(5,true),(6,true),(7,true),(8,true),(9,true),(10,true),(11,true),(12,true),(13,true),(14,true),(15,true),(16,true),(17,true),(18,true),(19,true),(20,false)] ?_;refine xN ?_;refine MJ ?_;refine IQ ?_;refine z79 ?_;rw[show((([]:List Int).length:Int)==(([]:List Int).length:Int))=true from rfl];refine zI ?_;refine aEt ?_;rw[show((([]:List Int).length:Int)==0)=true from rfl]
      (first|refine jA rfl rfl rfl rfl rfl ?_ |(refine eN rfl rfl rfl (aI (by first|exact W rfl id|exact E rfl)) rfl ?_)|refine eE rfl rfl rfl (aI (by first|exact W rfl id|exact E rfl)) rfl ?_);first|refine jA rfl rfl rfl rfl rfl ?_ |(refine eN rfl rfl rfl (aI (E rfl)) rfl ?_)|refine eE rfl rfl rfl (aI (E rfl)) rfl ?_ |refine eG rfl rfl rfl (aI (E rfl)) rfl ?_ |refine eG rfl rfl rfl (bI (v:=.bool false)) rfl ?_
      first
        |refine jA rfl rfl rfl rfl rfl ?_
        |(
          first
           |refine eN rfl rfl rfl (bE (by
            first
             |exact W rfl id
             |exact E rfl) (E rfl) (fun hc=>by(simp only[List.length_map];omega))) rfl ?_
           |refine eN rfl rfl rfl (aU (by
            first
             |exact W rfl id
             |exact E rfl) bH (E rfl) (fun hc=>by omega)) rfl ?_
           |refine eN rfl rfl rfl (aW (by
            first
             |exact W rfl id
             |exact E rfl) bH (E rfl) (fun hc=>by omega)) rfl ?_)
        |refine eE rfl rfl rfl (bE (by
           first
            |exact W rfl (by
            first
             |exact id
             |simp)
            |exact E rfl) (E rfl) (fun hc=>by(try simp at hc)<;>(simp only[List.length_map];omega))) rfl ?_
        |refine eE rfl rfl rfl (aU (by
           first
            |exact W rfl (by
            first
             |exact id
             |simp)
            |exact E rfl) bH (E rfl) (fun hc=>by(try simp at hc)<;>omega)) rfl ?_
        |refine eE rfl rfl rfl (aW (by
           first
            |exact W rfl (by
            first
             |exact id
             |simp)
            |exact E rfl) bH (E rfl) (fun hc=>by(try simp at hc)<;>omega)) rfl ?_
        |refine eG rfl rfl rfl (bE (by
           first
            |exact W rfl (by
            first
             |exact id
             |simp)
            |exact E rfl) (E rfl) (fun hc=>by(try simp at hc)<;>(simp only[List.length_map];omega))) rfl ?_
        |refine eG rfl rfl rfl (aU (by
           first
            |exact W rfl (by
            first
             |exact id
             |simp)
            |exact E rfl) bH (E rfl) (fun hc=>by(try simp at hc)<;>omega)) rfl ?_
        |refine eG rfl rfl rfl (aW (by
           first
            |exact W rfl (by
            first
             |exact id
             |simp)
            |exact E rfl) bH (E rfl) (fun hc=>by(try simp at hc)<;>omega)) rfl ?_
        |refine eG rfl rfl rfl (bI (v:=.bool false)) rfl ?_
      first
        |refine jA rfl rfl rfl rfl rfl ?_
        |(
          first
           |refine eN rfl rfl rfl (aL (by
            first
             |exact W rfl id
             |exact E rfl) rfl (fun hc=>by
            first
             |rfl
             |exact aE (by assumption)
             |assumption
             |exact aE (aO (by omega))) (fun _=>rfl)) rfl ?_
           |refine eN rfl rfl rfl (bJ (by
            first
             |exact W rfl id
             |exact E rfl) rfl bH (fun hc=>by
            first
             |rfl
             |exact aE (by assumption)
             |assumption
             |exact aE (aO (by omega))) (fun _=>rfl)) rfl ?_)
        |refine eE rfl rfl rfl (aL (by
           first
            |exact W rfl (by
            first
             |exact id
             |simp)
            |exact E rfl) rfl (fun hc=>by
           first
            |rfl
            |exact aE (by assumption)
            |assumption
            |exact aE (aO (by(try simp at hc)<;>omega))) (fun _=>rfl)) rfl ?_
        |refine eE rfl rfl rfl (bJ (by
           first
            |exact W rfl (by
            first
             |exact id
             |simp)
            |exact E rfl) rfl bH (fun hc=>by
           first
            |rfl
            |exact aE (by assumption)
            |assumption
            |exact aE (aO (by(try simp at hc)<;>omega))) (fun _=>rfl)) rfl ?_
        |refine eG rfl rfl rfl (aL (by
           first
            |exact W rfl (by
            first
             |exact id
             |simp)
            |exact E rfl) rfl (fun hc=>by
           first
            |rfl
            |exact aE (by assumption)
            |assumption
            |exact aE (aO (by(try simp at hc)<;>omega))) (fun _=>rfl)) rfl ?_
        |refine eG rfl rfl rfl (bJ (by
           first
            |exact W rfl (by
            first
             |exact id
             |simp)
            |exact E rfl) rfl bH (fun hc=>by
           first
            |rfl
            |exact aE (by assumption)
            |assumption
            |exact aE (aO (by(try simp at hc)<;>omega))) (fun _=>rfl)) rfl ?_
        |refine eG rfl rfl rfl (bI (v:=.bool false)) rfl ?_
      first|refine jA rfl rfl rfl rfl rfl ?_ |(refine eN rfl rfl rfl (aI (E rfl)) rfl ?_)|refine eE rfl rfl rfl (aI (E rfl)) rfl ?_ |refine eG rfl rfl rfl (aI (E rfl)) rfl ?_ |refine eG rfl rfl rfl (bI (v:=.bool false)) rfl ?_
      first
        |refine jA rfl rfl rfl rfl rfl ?_
        |(
          first
           |refine eN rfl rfl rfl (bE (by
            first
             |exact W rfl id
             |exact E rfl) (E rfl) (fun hc=>by(simp only[List.length_map];omega))) rfl ?_
           |refine eN rfl rfl rfl (aU (by
            first
             |exact W rfl id
             |exact E rfl) bH (E rfl) (fun hc=>by omega)) rfl ?_
           |refine eN rfl rfl rfl (aW (by
            first
             |exact W rfl id
             |exact E rfl) bH (E rfl) (fun hc=>by omega)) rfl ?_)
        |refine eE rfl rfl rfl (bE (by
           first
            |exact W rfl (by
            first
             |exact id
             |simp)
            |exact E rfl) (E rfl) (fun hc=>by(try simp at hc)<;>(simp only[List.length_map];omega))) rfl ?_
        |refine eE rfl rfl rfl (aU (by
           first
            |exact W rfl (by
            first
             |exact id
             |simp)
            |exact E rfl) bH (E rfl) (fun hc=>by(try simp at hc)<;>omega)) rfl ?_
        |refine eE rfl rfl rfl (aW (by
           first
            |exact W rfl (by
            first
             |exact id
             |simp)
            |exact E rfl) bH (E rfl) (fun hc=>by(try simp at hc)<;>omega)) rfl ?_
        |refine eG rfl rfl rfl (bE (by
           first
            |exact W rfl (by
            first
             |exact id
             |simp)
            |exact E rfl) (E rfl) (fun hc=>by(try simp at hc)<;>(simp only[List.length_map];omega))) rfl ?_
        |refine eG rfl rfl rfl (aU (by
           first
            |exact W rfl (by
            first
             |exact id
             |simp)
            |exact E rfl) bH (E rfl) (fun hc=>by(try simp at hc)<;>omega)) rfl ?_
        |refine eG rfl rfl rfl (aW (by
           first
            |exact W rfl (by
            first
             |exact id
             |simp)
            |exact E rfl) bH (E rfl) (fun hc=>by(try simp at hc)<;>omega)) rfl ?_
        |refine eG rfl rfl rfl (bI (v:=.bool false)) rfl ?_
      first
        |refine jA rfl rfl rfl rfl rfl ?_
        |(
          first
           |refine eN rfl rfl rfl (aL (by
            first
             |exact W rfl id
             |exact E rfl) rfl (fun hc=>by
            first
             |rfl
             |exact aE (by assumption)
             |assumption
             |exact aE (aO (by omega))) (fun _=>rfl)) rfl ?_
           |refine eN rfl rfl rfl (bJ (by
            first
             |exact W rfl id
             |exact E rfl) rfl bH (fun hc=>by
            first
             |rfl
             |exact aE (by assumption)
             |assumption
             |exact aE (aO (by omega))) (fun _=>rfl)) rfl ?_)
        |refine eE rfl rfl rfl (aL (by
           first
            |exact W rfl (by
            first
             |exact id
             |simp)
            |exact E rfl) rfl (fun hc=>by
           first
            |rfl
            |exact aE (by assumption)
            |assumption
            |exact aE (aO (by(try simp at hc)<;>omega))) (fun _=>rfl)) rfl ?_
        |refine eE rfl rfl rfl (bJ (by
           first
            |exact W rfl (by
            first
             |exact id
             |simp)
            |exact E rfl) rfl bH (fun hc=>by
           first
            |rfl
            |exact aE (by assumption)
            |assumption
            |exact aE (aO (by(try simp at hc)<;>omega))) (fun _=>rfl)) rfl ?_
        |refine eG rfl rfl rfl (aL (by
           first
            |exact W rfl (by
            first
             |exact id
             |simp)
            |exact E rfl) rfl (fun hc=>by
           first
            |rfl
            |exact aE (by assumption)
            |assumption
            |exact aE (aO (by(try simp at hc)<;>omega))) (fun _=>rfl)) rfl ?_
        |refine eG rfl rfl rfl (bJ (by
           first
            |exact W rfl (by
            first
             |exact id
             |simp)
            |exact E rfl) rfl bH (fun hc=>by
           first
            |rfl
            |exact aE (by assumption)
            |assumption
            |exact aE (aO (by(try simp at hc)<;>omega))) (fun _=>rfl)) rfl ?_
        |refine eG rfl rfl rfl (bI (v:=.bool false)) rfl ?_
      first|refine jA rfl rfl rfl rfl rfl ?_ |(refine eN rfl rfl rfl (dD (by first|exact W rfl id|exact E rfl) (by first|exact W rfl id|exact E rfl)) rfl ?_)|refine eE rfl rfl rfl (dD (by first|exact W rfl (by first|exact id|simp)|exact E rfl) (by first|exact W rfl (by first|exact id|simp)|exact E rfl)) rfl ?_ |refine eG rfl rfl rfl (dD (by first|exact W rfl (by first|exact id|simp)|exact E rfl) (by first|exact W rfl (by first|exact id|simp)|exact E rfl)) rfl ?_ |refine eG rfl rfl rfl (bI (v:=.bool false)) rfl ?_
      refine aBk ?_;refine qT (cI r p q m lv (cR S n).2) rfl Tryz.call189 (jZ hN0 _ true) rfl aC cA ZC ?_;rintro _ σ' rfl h44;unfold cI fO;(try dsimp only);apply bZ;(exact bF);refine MA ?_;refine lV ?_;refine⟨j+1,hlt,by show xl.length-(j+1)<xl.length-j;omega, ?_⟩
      (try dsimp only);rw[hnx];exact aK
    · rw[ea];subst eb;rw[ea,show WD [] [v]=false by simp[WD]]at hnx;refine gI [(0,true),(1,true),(2,true),(3,true),(4,true),(5,true),(6,true),(7,true),(8,true),(9,true),(10,true),(11,true),(12,true),(13,true),(14,true),(15,true),(16,true),(17,true),(18,true),(19,true),(20,false)] ?_;refine xN ?_;refine MJ ?_;refine IQ ?_;refine z79 ?_;rw[show((([]:List Int).length:Int)==(([v]:List Int).length:Int))=false from rfl];refine zI ?_;refine aDp ?_;first|refine jA rfl rfl rfl rfl rfl ?_ |(refine eN rfl rfl rfl (aI (E rfl)) rfl ?_)|refine eE rfl rfl rfl (aI (E rfl)) rfl ?_ |refine eG rfl rfl rfl (aI (E rfl)) rfl ?_ |refine eG rfl rfl rfl (bI (v:=.bool false)) rfl ?_
      first
        |refine jA rfl rfl rfl rfl rfl ?_
        |(
          first
           |refine eN rfl rfl rfl (bE (by
            first
             |exact W rfl id
             |exact E rfl) (E rfl) (fun hc=>by(simp only[List.length_map];omega))) rfl ?_
           |refine eN rfl rfl rfl (aU (by
            first
             |exact W rfl id
             |exact E rfl) bH (E rfl) (fun hc=>by omega)) rfl ?_
           |refine eN rfl rfl rfl (aW (by
            first
             |exact W rfl id
             |exact E rfl) bH (E rfl) (fun hc=>by omega)) rfl ?_)
        |refine eE rfl rfl rfl (bE (by
           first
            |exact W rfl (by
            first
             |exact id
             |simp)
            |exact E rfl) (E rfl) (fun hc=>by(try simp at hc)<;>(simp only[List.length_map];omega))) rfl ?_
        |refine eE rfl rfl rfl (aU (by
           first
            |exact W rfl (by
            first
             |exact id
             |simp)
            |exact E rfl) bH (E rfl) (fun hc=>by(try simp at hc)<;>omega)) rfl ?_
        |refine eE rfl rfl rfl (aW (by
           first
            |exact W rfl (by
            first
             |exact id
             |simp)
            |exact E rfl) bH (E rfl) (fun hc=>by(try simp at hc)<;>omega)) rfl ?_
        |refine eG rfl rfl rfl (bE (by
           first
            |exact W rfl (by
            first
             |exact id
             |simp)
            |exact E rfl) (E rfl) (fun hc=>by(try simp at hc)<;>(simp only[List.length_map];omega))) rfl ?_
        |refine eG rfl rfl rfl (aU (by
           first
            |exact W rfl (by
            first
             |exact id
             |simp)
            |exact E rfl) bH (E rfl) (fun hc=>by(try simp at hc)<;>omega)) rfl ?_
        |refine eG rfl rfl rfl (aW (by
           first
            |exact W rfl (by
            first
             |exact id
             |simp)
            |exact E rfl) bH (E rfl) (fun hc=>by(try simp at hc)<;>omega)) rfl ?_
        |refine eG rfl rfl rfl (bI (v:=.bool false)) rfl ?_
      first
        |refine jA rfl rfl rfl rfl rfl ?_
        |(
          first
           |refine eN rfl rfl rfl (aL (by
            first
             |exact W rfl id
             |exact E rfl) rfl (fun hc=>by
            first
             |rfl
             |exact aE (by assumption)
             |assumption
             |exact aE (aO (by omega))) (fun _=>rfl)) rfl ?_
           |refine eN rfl rfl rfl (bJ (by
            first
             |exact W rfl id
             |exact E rfl) rfl bH (fun hc=>by
            first
             |rfl
             |exact aE (by assumption)
             |assumption
             |exact aE (aO (by omega))) (fun _=>rfl)) rfl ?_)
        |refine eE rfl rfl rfl (aL (by
           first
            |exact W rfl (by
            first
             |exact id
             |simp)
            |exact E rfl) rfl (fun hc=>by
           first
            |rfl
            |exact aE (by assumption)
            |assumption
            |exact aE (aO (by(try simp at hc)<;>omega))) (fun _=>rfl)) rfl ?_
        |refine eE rfl rfl rfl (bJ (by
           first
            |exact W rfl (by
            first
             |exact id
             |simp)
            |exact E rfl) rfl bH (fun hc=>by
           first
            |rfl
            |exact aE (by assumption)
            |assumption
            |exact aE (aO (by(try simp at hc)<;>omega))) (fun _=>rfl)) rfl ?_
        |refine eG rfl rfl rfl (aL (by
           first
            |exact W rfl (by
            first
             |exact id
             |simp)
            |exact E rfl) rfl (fun hc=>by
           first
            |rfl
            |exact aE (by assumption)
            |assumption
            |exact aE (aO (by(try simp at hc)<;>omega))) (fun _=>rfl)) rfl ?_
        |refine eG rfl rfl rfl (bJ (by
           first
            |exact W rfl (by
            first
             |exact id
             |simp)
            |exact E rfl) rfl bH (fun hc=>by
           first
            |rfl
            |exact aE (by assumption)
            |assumption
            |exact aE (aO (by(try simp at hc)<;>omega))) (fun _=>rfl)) rfl ?_
        |refine eG rfl rfl rfl (bI (v:=.bool false)) rfl ?_
      first|refine jA rfl rfl rfl rfl rfl ?_ |(refine eN rfl rfl rfl (aI (E rfl)) rfl ?_)|refine eE rfl rfl rfl (aI (E rfl)) rfl ?_ |refine eG rfl rfl rfl (aI (E rfl)) rfl ?_ |refine eG rfl rfl rfl (bI (v:=.bool false)) rfl ?_
      first
        |refine jA rfl rfl rfl rfl rfl ?_
        |(
          first
           |refine eN rfl rfl rfl (bE (by
            first
             |exact W rfl id
             |exact E rfl) (E rfl) (fun hc=>by(simp only[List.length_map];omega))) rfl ?_
           |refine eN rfl rfl rfl (aU (by
            first
             |exact W rfl id
             |exact E rfl) bH (E rfl) (fun hc=>by omega)) rfl ?_
           |refine eN rfl rfl rfl (aW (by
            first
             |exact W rfl id
             |exact E rfl) bH (E rfl) (fun hc=>by omega)) rfl ?_)
        |refine eE rfl rfl rfl (bE (by
           first
            |exact W rfl (by
            first
             |exact id
             |simp)
            |exact E rfl) (E rfl) (fun hc=>by(try simp at hc)<;>(simp only[List.length_map];omega))) rfl ?_
        |refine eE rfl rfl rfl (aU (by
           first
            |exact W rfl (by
            first
             |exact id
             |simp)
            |exact E rfl) bH (E rfl) (fun hc=>by(try simp at hc)<;>omega)) rfl ?_
        |refine eE rfl rfl rfl (aW (by
           first
            |exact W rfl (by
            first
             |exact id
             |simp)
            |exact E rfl) bH (E rfl) (fun hc=>by(try simp at hc)<;>omega)) rfl ?_
        |refine eG rfl rfl rfl (bE (by
           first
            |exact W rfl (by
            first
             |exact id
             |simp)
            |exact E rfl) (E rfl) (fun hc=>by(try simp at hc)<;>(simp only[List.length_map];omega))) rfl ?_
        |refine eG rfl rfl rfl (aU (by
           first
            |exact W rfl (by
            first
             |exact id
             |simp)
            |exact E rfl) bH (E rfl) (fun hc=>by(try simp at hc)<;>omega)) rfl ?_
        |refine eG rfl rfl rfl (aW (by
           first
            |exact W rfl (by
            first
             |exact id
             |simp)
            |exact E rfl) bH (E rfl) (fun hc=>by(try simp at hc)<;>omega)) rfl ?_
        |refine eG rfl rfl rfl (bI (v:=.bool false)) rfl ?_
      first
        |refine jA rfl rfl rfl rfl rfl ?_
        |(
          first
           |refine eN rfl rfl rfl (aL (by
            first
             |exact W rfl id
             |exact E rfl) rfl (fun hc=>by
            first
             |rfl
             |exact aE (by assumption)
             |assumption
             |exact aE (aO (by omega))) (fun _=>rfl)) rfl ?_
           |refine eN rfl rfl rfl (bJ (by
            first
             |exact W rfl id
             |exact E rfl) rfl bH (fun hc=>by
            first
             |rfl
             |exact aE (by assumption)
             |assumption
             |exact aE (aO (by omega))) (fun _=>rfl)) rfl ?_)
        |refine eE rfl rfl rfl (aL (by
           first
            |exact W rfl (by
            first
             |exact id
             |simp)
            |exact E rfl) rfl (fun hc=>by
           first
            |rfl
            |exact aE (by assumption)
            |assumption
            |exact aE (aO (by(try simp at hc)<;>omega))) (fun _=>rfl)) rfl ?_
        |refine eE rfl rfl rfl (bJ (by
           first
            |exact W rfl (by
            first
             |exact id
             |simp)
            |exact E rfl) rfl bH (fun hc=>by
           first
            |rfl
            |exact aE (by assumption)
            |assumption
            |exact aE (aO (by(try simp at hc)<;>omega))) (fun _=>rfl)) rfl ?_
        |refine eG rfl rfl rfl (aL (by
           first
            |exact W rfl (by
            first
             |exact id
             |simp)
            |exact E rfl) rfl (fun hc=>by
           first
            |rfl
            |exact aE (by assumption)
            |assumption
            |exact aE (aO (by(try simp at hc)<;>omega))) (fun _=>rfl)) rfl ?_
        |refine eG rfl rfl rfl (bJ (by
           first
            |exact W rfl (by
            first
             |exact id
             |simp)
            |exact E rfl) rfl bH (fun hc=>by
           first
            |rfl
            |exact aE (by assumption)
            |assumption
            |exact aE (aO (by(try simp at hc)<;>omega))) (fun _=>rfl)) rfl ?_
        |refine eG rfl rfl rfl (bI (v:=.bool false)) rfl ?_
      first|refine jA rfl rfl rfl rfl rfl ?_ |(refine eN rfl rfl rfl (dD (by first|exact W rfl id|exact E rfl) (by first|exact W rfl id|exact E rfl)) rfl ?_)|refine eE rfl rfl rfl (dD (by first|exact W rfl (by first|exact id|simp)|exact E rfl) (by first|exact W rfl (by first|exact id|simp)|exact E rfl)) rfl ?_ |refine eG rfl rfl rfl (dD (by first|exact W rfl (by first|exact id|simp)|exact E rfl) (by first|exact W rfl (by first|exact id|simp)|exact E rfl)) rfl ?_ |refine eG rfl rfl rfl (bI (v:=.bool false)) rfl ?_
      refine aBk ?_;refine qT (cI r p q m lv (cR S n).2) rfl Tryz.call189 (jZ hN0 _ false) rfl aC cA ZC ?_;rintro _ σ' rfl h44;unfold cI fO;(try dsimp only);apply bZ;(exact bF);refine MA ?_;refine lV ?_;refine⟨j+1,hlt,by show xl.length-(j+1)<xl.length-j;omega, ?_⟩
      (try dsimp only);rw[hnx];exact aK
    · rw[ea];subst eb;rw[ea,show WD [g] []=false by simp[WD]]at hnx;refine gI [(0,true),(1,true),(2,true),(3,true),(4,true),(5,true),(6,true),(7,true),(8,true),(9,true),(10,true),(11,true),(12,true),(13,true),(14,true),(15,true),(16,true),(17,true),(18,true),(19,true),(20,false)] ?_;refine xN ?_;refine MJ ?_;refine IQ ?_;refine z79 ?_;rw[show((([g]:List Int).length:Int)==(([]:List Int).length:Int))=false from rfl];refine zI ?_;refine aDp ?_;first|refine jA rfl rfl rfl rfl rfl ?_ |(refine eN rfl rfl rfl (aI (E rfl)) rfl ?_)|refine eE rfl rfl rfl (aI (E rfl)) rfl ?_ |refine eG rfl rfl rfl (aI (E rfl)) rfl ?_ |refine eG rfl rfl rfl (bI (v:=.bool false)) rfl ?_
      first
        |refine jA rfl rfl rfl rfl rfl ?_
        |(
          first
           |refine eN rfl rfl rfl (bE (by
            first
             |exact W rfl id
             |exact E rfl) (E rfl) (fun hc=>by(simp only[List.length_map];omega))) rfl ?_
           |refine eN rfl rfl rfl (aU (by
            first
             |exact W rfl id
             |exact E rfl) bH (E rfl) (fun hc=>by omega)) rfl ?_
           |refine eN rfl rfl rfl (aW (by
            first
             |exact W rfl id
             |exact E rfl) bH (E rfl) (fun hc=>by omega)) rfl ?_)
        |refine eE rfl rfl rfl (bE (by
           first
            |exact W rfl (by
            first
             |exact id
             |simp)
            |exact E rfl) (E rfl) (fun hc=>by(try simp at hc)<;>(simp only[List.length_map];omega))) rfl ?_
        |refine eE rfl rfl rfl (aU (by
           first
            |exact W rfl (by
            first
             |exact id
             |simp)
            |exact E rfl) bH (E rfl) (fun hc=>by(try simp at hc)<;>omega)) rfl ?_
        |refine eE rfl rfl rfl (aW (by
           first
            |exact W rfl (by
            first
             |exact id
             |simp)
            |exact E rfl) bH (E rfl) (fun hc=>by(try simp at hc)<;>omega)) rfl ?_
        |refine eG rfl rfl rfl (bE (by
           first
            |exact W rfl (by
            first
             |exact id
             |simp)
            |exact E rfl) (E rfl) (fun hc=>by(try simp at hc)<;>(simp only[List.length_map];omega))) rfl ?_
        |refine eG rfl rfl rfl (aU (by
           first
            |exact W rfl (by
            first
             |exact id
             |simp)
            |exact E rfl) bH (E rfl) (fun hc=>by(try simp at hc)<;>omega)) rfl ?_
        |refine eG rfl rfl rfl (aW (by
           first
            |exact W rfl (by
            first
             |exact id
             |simp)
            |exact E rfl) bH (E rfl) (fun hc=>by(try simp at hc)<;>omega)) rfl ?_
        |refine eG rfl rfl rfl (bI (v:=.bool false)) rfl ?_
      first
        |refine jA rfl rfl rfl rfl rfl ?_
        |(
          first
           |refine eN rfl rfl rfl (aL (by
            first
             |exact W rfl id
             |exact E rfl) rfl (fun hc=>by
            first
             |rfl
             |exact aE (by assumption)
             |assumption
             |exact aE (aO (by omega))) (fun _=>rfl)) rfl ?_
           |refine eN rfl rfl rfl (bJ (by
            first
             |exact W rfl id
             |exact E rfl) rfl bH (fun hc=>by
            first
             |rfl
             |exact aE (by assumption)
             |assumption
             |exact aE (aO (by omega))) (fun _=>rfl)) rfl ?_)
        |refine eE rfl rfl rfl (aL (by
           first
            |exact W rfl (by
            first
             |exact id
             |simp)
            |exact E rfl) rfl (fun hc=>by
           first
            |rfl
            |exact aE (by assumption)
            |assumption
            |exact aE (aO (by(try simp at hc)<;>omega))) (fun _=>rfl)) rfl ?_
        |refine eE rfl rfl rfl (bJ (by
           first
            |exact W rfl (by
            first
             |exact id
             |simp)
            |exact E rfl) rfl bH (fun hc=>by
           first
            |rfl
            |exact aE (by assumption)
            |assumption
            |exact aE (aO (by(try simp at hc)<;>omega))) (fun _=>rfl)) rfl ?_
        |refine eG rfl rfl rfl (aL (by
           first
            |exact W rfl (by
            first
             |exact id
             |simp)
            |exact E rfl) rfl (fun hc=>by
           first
            |rfl
            |exact aE (by assumption)
            |assumption
            |exact aE (aO (by(try simp at hc)<;>omega))) (fun _=>rfl)) rfl ?_
        |refine eG rfl rfl rfl (bJ (by
           first
            |exact W rfl (by
            first
             |exact id
             |simp)
            |exact E rfl) rfl bH (fun hc=>by
           first
            |rfl
            |exact aE (by assumption)
            |assumption
            |exact aE (aO (by(try simp at hc)<;>omega))) (fun _=>rfl)) rfl ?_
        |refine eG rfl rfl rfl (bI (v:=.bool false)) rfl ?_
      first|refine jA rfl rfl rfl rfl rfl ?_ |(refine eN rfl rfl rfl (aI (E rfl)) rfl ?_)|refine eE rfl rfl rfl (aI (E rfl)) rfl ?_ |refine eG rfl rfl rfl (aI (E rfl)) rfl ?_ |refine eG rfl rfl rfl (bI (v:=.bool false)) rfl ?_
      first
        |refine jA rfl rfl rfl rfl rfl ?_
        |(
          first
           |refine eN rfl rfl rfl (bE (by
            first
             |exact W rfl id
             |exact E rfl) (E rfl) (fun hc=>by(simp only[List.length_map];omega))) rfl ?_
           |refine eN rfl rfl rfl (aU (by
            first
             |exact W rfl id
             |exact E rfl) bH (E rfl) (fun hc=>by omega)) rfl ?_
           |refine eN rfl rfl rfl (aW (by
            first
             |exact W rfl id
             |exact E rfl) bH (E rfl) (fun hc=>by omega)) rfl ?_)
        |refine eE rfl rfl rfl (bE (by
           first
            |exact W rfl (by
            first
             |exact id
             |simp)
            |exact E rfl) (E rfl) (fun hc=>by(try simp at hc)<;>(simp only[List.length_map];omega))) rfl ?_
        |refine eE rfl rfl rfl (aU (by
           first
            |exact W rfl (by
            first
             |exact id
             |simp)
            |exact E rfl) bH (E rfl) (fun hc=>by(try simp at hc)<;>omega)) rfl ?_
        |refine eE rfl rfl rfl (aW (by
           first
            |exact W rfl (by
            first
             |exact id
             |simp)
            |exact E rfl) bH (E rfl) (fun hc=>by(try simp at hc)<;>omega)) rfl ?_
        |refine eG rfl rfl rfl (bE (by
           first
            |exact W rfl (by
            first
             |exact id
             |simp)
            |exact E rfl) (E rfl) (fun hc=>by(try simp at hc)<;>(simp only[List.length_map];omega))) rfl ?_
        |refine eG rfl rfl rfl (aU (by
           first
            |exact W rfl (by
            first
             |exact id
             |simp)
            |exact E rfl) bH (E rfl) (fun hc=>by(try simp at hc)<;>omega)) rfl ?_
        |refine eG rfl rfl rfl (aW (by
           first
            |exact W rfl (by
            first
             |exact id
             |simp)
            |exact E rfl) bH (E rfl) (fun hc=>by(try simp at hc)<;>omega)) rfl ?_
        |refine eG rfl rfl rfl (bI (v:=.bool false)) rfl ?_
      first
        |refine jA rfl rfl rfl rfl rfl ?_
        |(
          first
           |refine eN rfl rfl rfl (aL (by
            first
             |exact W rfl id
             |exact E rfl) rfl (fun hc=>by
            first
             |rfl
             |exact aE (by assumption)
             |assumption
             |exact aE (aO (by omega))) (fun _=>rfl)) rfl ?_
           |refine eN rfl rfl rfl (bJ (by
            first
             |exact W rfl id
             |exact E rfl) rfl bH (fun hc=>by
            first
             |rfl
             |exact aE (by assumption)
             |assumption
             |exact aE (aO (by omega))) (fun _=>rfl)) rfl ?_)
        |refine eE rfl rfl rfl (aL (by
           first
            |exact W rfl (by
            first
             |exact id
             |simp)
            |exact E rfl) rfl (fun hc=>by
           first
            |rfl
            |exact aE (by assumption)
            |assumption
            |exact aE (aO (by(try simp at hc)<;>omega))) (fun _=>rfl)) rfl ?_
        |refine eE rfl rfl rfl (bJ (by
           first
            |exact W rfl (by
            first
             |exact id
             |simp)
            |exact E rfl) rfl bH (fun hc=>by
           first
            |rfl
            |exact aE (by assumption)
            |assumption
            |exact aE (aO (by(try simp at hc)<;>omega))) (fun _=>rfl)) rfl ?_
        |refine eG rfl rfl rfl (aL (by
           first
            |exact W rfl (by
            first
             |exact id
             |simp)
            |exact E rfl) rfl (fun hc=>by
           first
            |rfl
            |exact aE (by assumption)
            |assumption
            |exact aE (aO (by(try simp at hc)<;>omega))) (fun _=>rfl)) rfl ?_
        |refine eG rfl rfl rfl (bJ (by
           first
            |exact W rfl (by
            first
             |exact id
             |simp)
            |exact E rfl) rfl bH (fun hc=>by
           first
            |rfl
            |exact aE (by assumption)
            |assumption
            |exact aE (aO (by(try simp at hc)<;>omega))) (fun _=>rfl)) rfl ?_
        |refine eG rfl rfl rfl (bI (v:=.bool false)) rfl ?_
      first|refine jA rfl rfl rfl rfl rfl ?_ |(refine eN rfl rfl rfl (dD (by first|exact W rfl id|exact E rfl) (by first|exact W rfl id|exact E rfl)) rfl ?_)|refine eE rfl rfl rfl (dD (by first|exact W rfl (by first|exact id|simp)|exact E rfl) (by first|exact W rfl (by first|exact id|simp)|exact E rfl)) rfl ?_ |refine eG rfl rfl rfl (dD (by first|exact W rfl (by first|exact id|simp)|exact E rfl) (by first|exact W rfl (by first|exact id|simp)|exact E rfl)) rfl ?_ |refine eG rfl rfl rfl (bI (v:=.bool false)) rfl ?_
      refine aBk ?_;refine qT (cI r p q m lv (cR S n).2) rfl Tryz.call189 (jZ hN0 _ false) rfl aC cA ZC ?_;rintro _ σ' rfl h44;unfold cI fO;(try dsimp only);apply bZ;(exact bF);refine MA ?_;refine lV ?_;refine⟨j+1,hlt,by show xl.length-(j+1)<xl.length-j;omega, ?_⟩
      (try dsimp only);rw[hnx];exact aK
    · rw[ea];subst eb;rw[ea,show WD [g] [v]=(g==v) by simp[WD]]at hnx;have hg1:[g].length=1:=rfl;have hv1:[v].length=1:=rfl;refine gI [(0,true),(1,true),(2,true),(3,true),(4,true),(5,true),(6,true),(7,true),(8,true),(9,true),(10,true),(11,true),(12,true),(13,true),(14,true),(15,true),(16,true),(17,true),(18,true),(19,true),(20,false)] ?_;refine xN ?_;refine MJ ?_;refine IQ ?_;refine z79 ?_;rw[show((([g]:List Int).length:Int)==(([v]:List Int).length:Int))=true from rfl];refine zI ?_;refine aEt ?_;rw[show((([g]:List Int).length:Int)==0)=false from rfl]
      (first|refine jA rfl rfl rfl rfl rfl ?_ |(refine eN rfl rfl rfl (aI (by first|exact W rfl id|exact E rfl)) rfl ?_)|refine eE rfl rfl rfl (aI (by first|exact W rfl id|exact E rfl)) rfl ?_);first|refine jA rfl rfl rfl rfl rfl ?_ |(refine eN rfl rfl rfl (aI (E rfl)) rfl ?_)|refine eE rfl rfl rfl (aI (E rfl)) rfl ?_ |refine eG rfl rfl rfl (aI (E rfl)) rfl ?_ |refine eG rfl rfl rfl (bI (v:=.bool false)) rfl ?_
      first
        |refine jA rfl rfl rfl rfl rfl ?_
        |(
          first
           |refine eN rfl rfl rfl (bE (by
            first
             |exact W rfl id
             |exact E rfl) (E rfl) (fun hc=>by(simp only[List.length_map];omega))) rfl ?_
           |refine eN rfl rfl rfl (aU (by
            first
             |exact W rfl id
             |exact E rfl) bH (E rfl) (fun hc=>by omega)) rfl ?_
           |refine eN rfl rfl rfl (aW (by
            first
             |exact W rfl id
             |exact E rfl) bH (E rfl) (fun hc=>by omega)) rfl ?_)
        |refine eE rfl rfl rfl (bE (by
           first
            |exact W rfl (by
            first
             |exact id
             |simp)
            |exact E rfl) (E rfl) (fun hc=>by(try simp at hc)<;>(simp only[List.length_map];omega))) rfl ?_
        |refine eE rfl rfl rfl (aU (by
           first
            |exact W rfl (by
            first
             |exact id
             |simp)
            |exact E rfl) bH (E rfl) (fun hc=>by(try simp at hc)<;>omega)) rfl ?_
        |refine eE rfl rfl rfl (aW (by
           first
            |exact W rfl (by
            first
             |exact id
             |simp)
            |exact E rfl) bH (E rfl) (fun hc=>by(try simp at hc)<;>omega)) rfl ?_
        |refine eG rfl rfl rfl (bE (by
           first
            |exact W rfl (by
            first
             |exact id
             |simp)
            |exact E rfl) (E rfl) (fun hc=>by(try simp at hc)<;>(simp only[List.length_map];omega))) rfl ?_
        |refine eG rfl rfl rfl (aU (by
           first
            |exact W rfl (by
            first
             |exact id
             |simp)
            |exact E rfl) bH (E rfl) (fun hc=>by(try simp at hc)<;>omega)) rfl ?_
        |refine eG rfl rfl rfl (aW (by
           first
            |exact W rfl (by
            first
             |exact id
             |simp)
            |exact E rfl) bH (E rfl) (fun hc=>by(try simp at hc)<;>omega)) rfl ?_
        |refine eG rfl rfl rfl (bI (v:=.bool false)) rfl ?_
      first
        |refine jA rfl rfl rfl rfl rfl ?_
        |(
          first
           |refine eN rfl rfl rfl (aL (by
            first
             |exact W rfl id
             |exact E rfl) rfl (fun hc=>by
            first
             |rfl
             |exact aE (by assumption)
             |assumption
             |exact aE (aO (by omega))) (fun _=>rfl)) rfl ?_
           |refine eN rfl rfl rfl (bJ (by
            first
             |exact W rfl id
             |exact E rfl) rfl bH (fun hc=>by
            first
             |rfl
             |exact aE (by assumption)
             |assumption
             |exact aE (aO (by omega))) (fun _=>rfl)) rfl ?_)
        |refine eE rfl rfl rfl (aL (by
           first
            |exact W rfl (by
            first
             |exact id
             |simp)
            |exact E rfl) rfl (fun hc=>by
           first
            |rfl
            |exact aE (by assumption)
            |assumption
            |exact aE (aO (by(try simp at hc)<;>omega))) (fun _=>rfl)) rfl ?_
        |refine eE rfl rfl rfl (bJ (by
           first
            |exact W rfl (by
            first
             |exact id
             |simp)
            |exact E rfl) rfl bH (fun hc=>by
           first
            |rfl
            |exact aE (by assumption)
            |assumption
            |exact aE (aO (by(try simp at hc)<;>omega))) (fun _=>rfl)) rfl ?_
        |refine eG rfl rfl rfl (aL (by
           first
            |exact W rfl (by
            first
             |exact id
             |simp)
            |exact E rfl) rfl (fun hc=>by
           first
            |rfl
            |exact aE (by assumption)
            |assumption
            |exact aE (aO (by(try simp at hc)<;>omega))) (fun _=>rfl)) rfl ?_
        |refine eG rfl rfl rfl (bJ (by
           first
            |exact W rfl (by
            first
             |exact id
             |simp)
            |exact E rfl) rfl bH (fun hc=>by
           first
            |rfl
            |exact aE (by assumption)
            |assumption
            |exact aE (aO (by(try simp at hc)<;>omega))) (fun _=>rfl)) rfl ?_
        |refine eG rfl rfl rfl (bI (v:=.bool false)) rfl ?_
      first|refine jA rfl rfl rfl rfl rfl ?_ |(refine eN rfl rfl rfl (aI (E rfl)) rfl ?_)|refine eE rfl rfl rfl (aI (E rfl)) rfl ?_ |refine eG rfl rfl rfl (aI (E rfl)) rfl ?_ |refine eG rfl rfl rfl (bI (v:=.bool false)) rfl ?_
      first
        |refine jA rfl rfl rfl rfl rfl ?_
        |(
          first
           |refine eN rfl rfl rfl (bE (by
            first
             |exact W rfl id
             |exact E rfl) (E rfl) (fun hc=>by(simp only[List.length_map];omega))) rfl ?_
           |refine eN rfl rfl rfl (aU (by
            first
             |exact W rfl id
             |exact E rfl) bH (E rfl) (fun hc=>by omega)) rfl ?_
           |refine eN rfl rfl rfl (aW (by
            first
             |exact W rfl id
             |exact E rfl) bH (E rfl) (fun hc=>by omega)) rfl ?_)
        |refine eE rfl rfl rfl (bE (by
           first
            |exact W rfl (by
            first
             |exact id
             |simp)
            |exact E rfl) (E rfl) (fun hc=>by(try simp at hc)<;>(simp only[List.length_map];omega))) rfl ?_
        |refine eE rfl rfl rfl (aU (by
           first
            |exact W rfl (by
            first
             |exact id
             |simp)
            |exact E rfl) bH (E rfl) (fun hc=>by(try simp at hc)<;>omega)) rfl ?_
        |refine eE rfl rfl rfl (aW (by
           first
            |exact W rfl (by
            first
             |exact id
             |simp)
            |exact E rfl) bH (E rfl) (fun hc=>by(try simp at hc)<;>omega)) rfl ?_
        |refine eG rfl rfl rfl (bE (by
           first
            |exact W rfl (by
            first
             |exact id
             |simp)
            |exact E rfl) (E rfl) (fun hc=>by(try simp at hc)<;>(simp only[List.length_map];omega))) rfl ?_
        |refine eG rfl rfl rfl (aU (by
           first
            |exact W rfl (by
            first
             |exact id
             |simp)
            |exact E rfl) bH (E rfl) (fun hc=>by(try simp at hc)<;>omega)) rfl ?_
        |refine eG rfl rfl rfl (aW (by
           first
            |exact W rfl (by
            first
             |exact id
             |simp)
            |exact E rfl) bH (E rfl) (fun hc=>by(try simp at hc)<;>omega)) rfl ?_
        |refine eG rfl rfl rfl (bI (v:=.bool false)) rfl ?_
      first
        |refine jA rfl rfl rfl rfl rfl ?_
        |(
          first
           |refine eN rfl rfl rfl (aL (by
            first
             |exact W rfl id
             |exact E rfl) rfl (fun hc=>by
            first
             |rfl
             |exact aE (by assumption)
             |assumption
             |exact aE (aO (by omega))) (fun _=>rfl)) rfl ?_
           |refine eN rfl rfl rfl (bJ (by
            first
             |exact W rfl id
             |exact E rfl) rfl bH (fun hc=>by
            first
             |rfl
             |exact aE (by assumption)
             |assumption
             |exact aE (aO (by omega))) (fun _=>rfl)) rfl ?_)
        |refine eE rfl rfl rfl (aL (by
           first
            |exact W rfl (by
            first
             |exact id
             |simp)
            |exact E rfl) rfl (fun hc=>by
           first
            |rfl
            |exact aE (by assumption)
            |assumption
            |exact aE (aO (by(try simp at hc)<;>omega))) (fun _=>rfl)) rfl ?_
        |refine eE rfl rfl rfl (bJ (by
           first
            |exact W rfl (by
            first
             |exact id
             |simp)
            |exact E rfl) rfl bH (fun hc=>by
           first
            |rfl
            |exact aE (by assumption)
            |assumption
            |exact aE (aO (by(try simp at hc)<;>omega))) (fun _=>rfl)) rfl ?_
        |refine eG rfl rfl rfl (aL (by
           first
            |exact W rfl (by
            first
             |exact id
             |simp)
            |exact E rfl) rfl (fun hc=>by
           first
            |rfl
            |exact aE (by assumption)
            |assumption
            |exact aE (aO (by(try simp at hc)<;>omega))) (fun _=>rfl)) rfl ?_
        |refine eG rfl rfl rfl (bJ (by
           first
            |exact W rfl (by
            first
             |exact id
             |simp)
            |exact E rfl) rfl bH (fun hc=>by
           first
            |rfl
            |exact aE (by assumption)
            |assumption
            |exact aE (aO (by(try simp at hc)<;>omega))) (fun _=>rfl)) rfl ?_
        |refine eG rfl rfl rfl (bI (v:=.bool false)) rfl ?_
      first|refine jA rfl rfl rfl rfl rfl ?_ |(refine eN rfl rfl rfl (dD (by first|exact W rfl id|exact E rfl) (by first|exact W rfl id|exact E rfl)) rfl ?_)|refine eE rfl rfl rfl (dD (by first|exact W rfl (by first|exact id|simp)|exact E rfl) (by first|exact W rfl (by first|exact id|simp)|exact E rfl)) rfl ?_ |refine eG rfl rfl rfl (dD (by first|exact W rfl (by first|exact id|simp)|exact E rfl) (by first|exact W rfl (by first|exact id|simp)|exact E rfl)) rfl ?_ |refine eG rfl rfl rfl (bI (v:=.bool false)) rfl ?_
      refine aBk ?_;refine qT (cI r p q m lv (cR S n).2) rfl Tryz.call189 (jZ hN0 _ (g==v)) rfl aC cA ZC ?_;rintro _ σ' rfl h44;unfold cI fO;(try dsimp only);apply bZ;(exact bF);refine MA ?_;refine lV ?_;refine⟨j+1,hlt,by show xl.length-(j+1)<xl.length-j;omega, ?_⟩
      (try dsimp only);rw[hnx];exact aK
  obtain rfl:j=xl.length:=by simp at g4;omega
  rw[List.take_length]at hS⊢;generalize xl.foldl (vT w) s2=S at hS⊢;have h5:=hS.pops w;unfold cI fO
  (try dsimp only);refine cL ?_;refine cw (cI r p q m lv S) Tryz.call192 (kQ hN0 S hS w (by omega)) rfl aC cA ?_;rintro _ σ' rfl h48;unfold cI fO;(try dsimp only);refine mO ?_;refine cw (cI r p q m lv (dL S w)) Tryz.call187 (BP hN0 _ h5) rfl aC cA ?_;rintro _ σ' rfl h50;unfold cI fO;(try dsimp only);refine dQ ?_;refine bR ?_;apply aF;exact aG
  · rfl
  · exact aA
end
structure Ins.Ck (x:Ins):Prop where
 nn:x.op=12∨x.op=13∨x.op=14∨x.op=16∨x.op=32∨x.op=33∨x.op=34∨x.op=35∨x.op=36→0≤x.a
 ln:x.op=14→∀n∈x.l,0≤n
 ll:x.l.length≤1000000
 hi:x.a≤9223372036854775807
structure Md.Ck (m:Md):Prop where
 ts:m.TS
 im:m.im.length≤1000000
section
variable {r p q : Nat} {m : Md} {lv : AV}
theorem QG(hN:Nm r p q)(hm:m.Ck)(s:PS)(h:s.Gd)(hv:s.vs.length≤900000)(hc:s.cs.length≤900000)(x:Ins)(hx:x.Ck)(h11:x.op=11→2≤s.cs.length):SCall Tryz.prog 77 [.ptr r 0,.agg (iv .any x)] (cI r p q m lv s)
  (fun y σ=>∃e f,Nm r e f∧y=.bool (cG m s x).1∧σ=cI r e f m lv (cG m s x).2):=by
 have hN0:=hN;obtain⟨n1,n2,n3⟩:=hN;unfold iv;refine cC 133 [0,1,3,4,5,6,8,9,13,15,24,34,41,60,70,84,89,103,113] Tryz.func77 ?_;unfold cI fO
 (try dsimp only);refine dW ?_;apply bx;rfl;rfl;(exact dM);rfl;refine aD fun r3 h3=> ?_;repeat rcases h3 with⟨_,h3⟩
 refine jF ?_;refine pB ?_;refine aB rfl (fun g3=> ?_) (fun g3=> ?_)
 ·rw[show cG m s x=(true,nM s) by unfold cG;simp only[g3,if_true]];have hL:=hN0;refine dX ?_;refine cw (cI r p q m lv s) Tryz.call187 (BP hN0 s h) rfl aC cA ?_;rintro _ σ' rfl h12;unfold cI fO;(try dsimp only);refine tZ ?_;apply aF;exact aG
  ·exact⟨_,_,hL,rfl,rfl⟩
  ·exact aA
 refine dE ?_;refine aB rfl (fun g5=> ?_) (fun g5=> ?_)
 ·rw[show cG m s x=(true,s) by unfold cG;simp only[g3,g5,if_true,if_false,Bool.false_eq_true]];have hL:=hN0;refine bQ ?_;apply aF;exact aG
  ·exact⟨_,_,hL,rfl,rfl⟩
  ·exact aA
 refine dE ?_;apply fF rfl;exact cU
 ·intro _;(refine aP ?_);refine eV ?_;exact aK
 refine aP ?_;refine aB rfl (fun g6=> ?_) (fun g6=> ?_)
 ·refine aP ?_;rw[show cG m s x=(true,openP s x.op x.a) by unfold cG;simp only[g3,g5,g6,if_true,if_false,Bool.false_eq_true]];refine kL ?_;refine gF ?_;refine cw (cI r p q m lv s) Tryz.call76 (BO hN0 s h.bc x.op x.a) rfl aC cA ?_;rintro _ σ' ⟨f,hL,rfl⟩ h23;unfold cI fO;(try dsimp only);obtain⟨e1,e2,e3⟩:=id hL;refine tZ ?_;apply aF;exact aG
  ·exact⟨_,_,hL,rfl,rfl⟩
  ·exact aA
 refine dE ?_;refine aB rfl (fun g9=> ?_) (fun g9=> ?_)
 ·have h1:=h.pop 1;rw[show cG m s x=(true,openP (cQ s 1).2 x.op x.a) by unfold cG;simp only[g3,g5,g6,g9,if_true,if_false,Bool.false_eq_true]];refine dX ?_;refine cw (cI r p q m lv s) Tryz.call188 (nV hN0 s h 1) rfl aC cA ?_;rintro _ σ' ⟨rfl,rfl⟩ h27;unfold cI fO;(try dsimp only);refine dQ ?_;refine kL ?_;refine gF ?_;refine cw (cI r p q m lv (cQ s 1).2) Tryz.call76 (BO hN0 _ h1.bc x.op x.a) rfl aC cA ?_;rintro _ σ' ⟨f,hL,rfl⟩ h33;unfold cI fO;(try dsimp only);obtain⟨e1,e2,e3⟩:=id hL;refine tZ ?_;apply aF;exact aG
  ·exact⟨_,_,hL,rfl,rfl⟩
  ·exact aA
 refine dE ?_;refine aB rfl (fun g12=> ?_) (fun g12=> ?_)
 ·rw[show cG m s x=(true,openP (gG s) 5 s.top.kd) by unfold cG;simp only[g3,g5,g6,g9,g12,if_true,if_false,Bool.false_eq_true]];refine cL ?_;refine cw (cI r p q m lv s) Tryz.call79 (KG hN0 s h) rfl aC cA ?_;rintro _ σ' ⟨rfl,rfl⟩ h38;unfold cI fO;(try dsimp only);apply aT;(exact bF);refine aEo ?_;refine cw (cI r p q m lv (gG s)) Tryz.call76 (BO hN0 (gG s) (by rw[BJ,oI];omega) 5 s.top.kd) rfl aC cA ?_;rintro _ σ' ⟨f,hL,rfl⟩ h40;unfold cI fO;(try dsimp only);obtain⟨e1,e2,e3⟩:=id hL;refine tZ ?_;apply aF;exact aG
  ·exact⟨_,_,hL,rfl,rfl⟩
  ·exact aA
 refine dE ?_;refine aB rfl (fun g14=> ?_) (fun g14=> ?_)
 ·have h2:=h11 (by simpa using g14);have hsl:=DB s;have hll:=pG s.top.kd;rw[show cG m s x=(true,fU (dB (gG s) (if(s.top.op !=4)=true then true else(s.top.kd==0))) (bB s.top.kd)) by unfold cG;simp only[g3,g5,g6,g9,g12,g14,if_true,if_false,Bool.false_eq_true]];refine dX ?_;refine cw (cI r p q m lv s) Tryz.call79 (KG hN0 s h) rfl aC cA ?_;rintro _ σ' ⟨rfl,rfl⟩ h44;unfold cI fO;(try dsimp only);apply aT;(exact bF);apply al;rfl;(exact dM);refine aD fun r5 h5=> ?_;repeat rcases h5 with⟨_,h5⟩
  refine iD ?_;refine kL ?_;refine lo (fE (E rfl) (E rfl)) rfl ?_;refine nH ?_;refine wJ ?_;refine qG ?_;refine cw (cI r p q m lv (gG s)) Tryz.call189 (jZ hN0 (gG s) (if(s.top.op !=4)=true then true else(s.top.kd==0))) rfl aC cA ?_;rintro _ σ' rfl h54;unfold cI fO;(try dsimp only);refine dQ ?_;refine kL ?_;refine cw [] Tryz.call191 (sF s.top.kd) rfl aC aA ?_;rintro _ σ' ⟨rfl,rfl⟩ h58;apply aT;(exact bF);refine cw (cI r p q m lv (dB (gG s) (if(s.top.op !=4)=true then true else(s.top.kd==0)))) Tryz.call190 (lG hN0 _ (by rw[BI];omega) (bB s.top.kd) (by omega)) rfl aC cA ?_;rintro _ σ' ⟨e,hL,rfl⟩ h59;unfold cI fO;(try dsimp only);obtain⟨e1,e2,e3⟩:=id hL;refine tZ ?_;apply aF;exact aG
  ·exact⟨_,_,hL,rfl,rfl⟩
  ·exact aA
 refine dE ?_;refine aB rfl (fun g18=> ?_) (fun g18=> ?_)
 ·have ha:=hx.nn (.inl (by simpa using g18));have h1:=h.label x.a;have hll:=mV s x.a;rw[show cG m s x=(true,nM (dL (cR s x.a).2 (cR s x.a).1)) by unfold cG;simp only[g3,g5,g6,g9,g12,g14,g18,if_true,if_false,Bool.false_eq_true]];have hL:=hN0;refine cL ?_;refine gF ?_;refine cw (cI r p q m lv s) Tryz.call193 (yR hN0 s h.bc x.a ha) rfl aC cA ?_;rintro _ σ' ⟨rfl,rfl⟩ h66;unfold cI fO;(try dsimp only);apply aT;(exact bF);refine cw (cI r p q m lv (cR s x.a).2) Tryz.call192 (kQ hN0 _ h1 (cR s x.a).1 (by omega)) rfl aC cA ?_;rintro _ σ' rfl h67;unfold cI fO;(try dsimp only);refine mO ?_;refine cw (cI r p q m lv (dL (cR s x.a).2 (cR s x.a).1)) Tryz.call187 (BP hN0 _ (h1.pops _)) rfl aC cA ?_;rintro _ σ' rfl h69;unfold cI fO;(try dsimp only);refine tZ ?_;apply aF;exact aG
  ·exact⟨_,_,hL,rfl,rfl⟩
  ·exact aA
 refine dE ?_;refine aB rfl (fun g21=> ?_) (fun g21=> ?_)
 ·have ha:=hx.nn (.inr (.inl (by simpa using g21)));have h1:=h.pop 1;have h2:=h1.label x.a;have hll:=mV (cQ s 1).2 x.a;rw[show cG m s x=(true,fU (dL (cR (cQ s 1).2 x.a).2 (cR (cQ s 1).2 x.a).1) (cR (cQ s 1).2 x.a).1) by unfold cG;simp only[g3,g5,g6,g9,g12,g14,g18,g21,if_true,if_false,Bool.false_eq_true]];refine dX ?_;refine cw (cI r p q m lv s) Tryz.call188 (nV hN0 s h 1) rfl aC cA ?_;rintro _ σ' ⟨rfl,rfl⟩ h73;unfold cI fO;(try dsimp only);refine dQ ?_;refine kL ?_;refine cw (cI r p q m lv (cQ s 1).2) Tryz.call193 (yR hN0 _ h1.bc x.a ha) rfl aC cA ?_;rintro _ σ' ⟨rfl,rfl⟩ h77;unfold cI fO;(try dsimp only);refine eP ?_;refine mK ?_;refine cw (cI r p q m lv (cR (cQ s 1).2 x.a).2) Tryz.call192 (kQ hN0 _ h2 (cR (cQ s 1).2 x.a).1 (by omega)) rfl aC cA ?_;rintro _ σ' rfl h80;unfold cI fO;(try dsimp only);refine pX ?_;refine cw (cI r p q m lv (dL (cR (cQ s 1).2 x.a).2 (cR (cQ s 1).2 x.a).1)) Tryz.call190 (lG hN0 _ (h2.pops _).bv (cR (cQ s 1).2 x.a).1 (by omega)) rfl aC cA ?_;rintro _ σ' ⟨e,hL,rfl⟩ h83;unfold cI fO;(try dsimp only);obtain⟨e1,e2,e3⟩:=id hL;refine tZ ?_;apply aF;exact aG
  ·exact⟨_,_,hL,rfl,rfl⟩
  ·exact aA
 refine dE ?_;refine aB rfl (fun g26=> ?_) (fun g26=> ?_)
 ·have h14:x.op=14:=by simpa using g26
  have ha:=hx.nn (.inr (.inr (.inl h14)));rw[show cG m s x=(true,sC s x) by unfold cG;simp only[g3,g5,g6,g9,g12,g14,g18,g21,g26,if_true,if_false,Bool.false_eq_true]];have hL:=hN0;refine xR ?_;refine cw (cI r p q m lv s) Tryz.call194 (ZY hN0 s h x ha (hx.ln h14) hx.ll) rfl aC cA ?_;rintro _ σ' rfl h88;unfold cI fO;(try dsimp only);refine tZ ?_;apply aF;exact aG
  ·exact⟨_,_,hL,rfl,rfl⟩
  ·exact aA
 refine dE ?_;refine aB rfl (fun g28=> ?_) (fun g28=> ?_)
 ·obtain⟨c0,hc0⟩:∃c0,s.cs[0]? =some c0:=⟨_,List.getElem?_eq_getElem (List.length_pos_iff.2 h.ne)⟩
  have hlp:0<s.cs.length:=List.length_pos_iff.2 h.ne;have hel:(s.cs.map lR)[(0:Int).toNat]? =some (lR c0):=by rw[List.getElem?_map];show(s.cs[0]?).map lR=_;rw[hc0];rfl
  have hll:=pG c0.kd;have h1:=h.pops (bB c0.kd);rw[show cG m s x=(true,nM (dL s (bB c0.kd))) by unfold cG;simp only[g3,g5,g6,g9,g12,g14,g18,g21,g26,g28,if_true,if_false,Bool.false_eq_true];rw[List.getD_eq_getElem?_getD,hc0];rfl];have hL:=hN0;refine cL ?_;refine nT ?_;refine VZ ?_;refine PF ?_;refine MB ?_;refine cw [] Tryz.call191 (sF c0.kd) rfl aC aA ?_;rintro _ σ' ⟨rfl,rfl⟩ h99;apply aT;(exact bF);refine cw (cI r p q m lv s) Tryz.call192 (kQ hN0 s h (bB c0.kd) (by omega)) rfl aC cA ?_;rintro _ σ' rfl h100;unfold cI fO;(try dsimp only);refine mO ?_;refine cw (cI r p q m lv (dL s (bB c0.kd))) Tryz.call187 (BP hN0 _ h1) rfl aC cA ?_;rintro _ σ' rfl h102;unfold cI fO;(try dsimp only);refine tZ ?_;apply aF;exact aG
  ·exact⟨_,_,hL,rfl,rfl⟩
  ·exact aA
 refine dE ?_;refine aB rfl (fun g31=> ?_) (fun g31=> ?_)
 ·have ha:=hx.nn (.inr (.inr (.inr (.inl (by simpa using g31)))));have hts:=oO hm.ts (kF m x.a);rw[show cG m s x=(true,pF s (cH m (kF m x.a)).1 (cH m (kF m x.a)).2) by unfold cG;simp only[g3,g5,g6,g9,g12,g14,g18,g21,g26,g28,g31,if_true,if_false,Bool.false_eq_true]];refine cL ?_;refine gF ?_;refine cw (cI r p q m lv s) Tryz.call196 (NZ hN0 s hm.im x.a ha hx.hi) rfl aC cA ?_;rintro _ σ' ⟨rfl,rfl⟩ h109;unfold cI fO;(try dsimp only);apply aT;(exact bF);refine IT ?_;refine cw (cI r p q m lv s) Tryz.call195 (OA hN0 s h _ hts _) rfl aC cA ?_;rintro _ σ' ⟨e,hL,rfl⟩ h112;unfold cI fO;(try dsimp only);obtain⟨e1,e2,e3⟩:=id hL;refine tZ ?_;apply aF;exact aG
  ·exact⟨_,_,hL,rfl,rfl⟩
  ·exact aA
 refine dE ?_;refine aB rfl (fun g33=> ?_) (fun g33=> ?_)
 ·have hts:=oO hm.ts x.a;have h1:=h.need m.tb.has;have h2:=h1.pop 1;rw[show cG m s x=(true,pF (cQ (dB s m.tb.has) 1).2 (cH m x.a).1 (cH m x.a).2) by unfold cG;simp only[g3,g5,g6,g9,g12,g14,g18,g21,g26,g28,g31,g33,if_true,if_false,Bool.false_eq_true]];refine cL ?_;refine xO ?_;refine wI ?_;refine gF ?_;refine cw (cI r p q m lv s) Tryz.call189 (jZ hN0 s m.tb.has) rfl aC cA ?_;rintro _ σ' rfl h122;unfold cI fO;(try dsimp only);refine mO ?_;refine cw (cI r p q m lv (dB s m.tb.has)) Tryz.call188 (nV hN0 _ h1 1) rfl aC cA ?_;rintro _ σ' ⟨rfl,rfl⟩ h124;unfold cI fO;(try dsimp only);refine pX ?_;refine gF ?_;refine cw (cI r p q m lv (cQ (dB s m.tb.has) 1).2) Tryz.call74 (rK hN0 _ x.a) rfl aC cA ?_;rintro _ σ' ⟨rfl,rfl⟩ h129;unfold cI fO;(try dsimp only);apply aT;(exact bF);refine IT ?_;refine cw (cI r p q m lv (cQ (dB s m.tb.has) 1).2) Tryz.call195 (OA hN0 _ h2 _ hts _) rfl aC cA ?_;rintro _ σ' ⟨e,hL,rfl⟩ h132;unfold cI fO;(try dsimp only);obtain⟨e1,e2,e3⟩:=id hL;refine tZ ?_;apply aF;exact aG
  ·exact⟨_,_,hL,rfl,rfl⟩
  ·exact aA
 rw[show cG m s x=(false,s) by unfold cG;simp only[g3,g5,g6,g9,g12,g14,g18,g21,g26,g28,g31,g33,if_true,if_false,Bool.false_eq_true]];have hL:=hN0;refine bQ ?_;apply aF;exact aG
 ·exact⟨_,_,hL,rfl,rfl⟩
 ·exact aA
end
theorem aHP{op:Int}(h:(kN op).2.2=false):kN op=([],0,false):=by
 revert h;unfold kN;refine aJ (p:=fun r:List Int×Int×Bool=>r.2.2=false→r=([],0,false)) (fun _ h=>by cases h) (fun _=> ?_);refine aJ (p:=fun r:List Int×Int×Bool=>r.2.2=false→r=([],0,false)) (fun _ h=>by cases h) (fun _=> ?_);refine aJ (p:=fun r:List Int×Int×Bool=>r.2.2=false→r=([],0,false)) (fun _ _=>rfl) (fun _=> ?_);refine aJ (p:=fun r:List Int×Int×Bool=>r.2.2=false→r=([],0,false)) (fun _ h=>by cases h) (fun _=> ?_);refine aJ (p:=fun r:List Int×Int×Bool=>r.2.2=false→r=([],0,false)) (fun _ h=>by cases h) (fun _=> ?_);exact aJ (p:=fun r:List Int×Int×Bool=>r.2.2=false→r=([],0,false)) (fun _ h=>by cases h) (fun _ h=>by cases h)
theorem aFF(op:Int):(kN op).1.length≤2:=by
 unfold kN;refine aJ (p:=fun r:List Int×Int×Bool=>r.1.length≤2) (fun _=>by simp) (fun _=> ?_);refine aJ (p:=fun r:List Int×Int×Bool=>r.1.length≤2) (fun _=>by simp) (fun _=> ?_);refine aJ (p:=fun r:List Int×Int×Bool=>r.1.length≤2) (fun _=>by simp) (fun _=> ?_);refine aJ (p:=fun r:List Int×Int×Bool=>r.1.length≤2) (fun _=>by simp) (fun _=> ?_);refine aJ (p:=fun r:List Int×Int×Bool=>r.1.length≤2) (fun _=>by simp) (fun _=> ?_);exact aJ (p:=fun r:List Int×Int×Bool=>r.1.length≤2) (fun _=>by simp) (fun _=>by simp)
theorem UY{op:Int}(h:(kN op).2.2=true):SCall Tryz.prog 200 [.int .i64 op] [] (fun y σ=>∃q,y=.tup [.own q 0 (kN op).1.length,.int .i64 (kN op).2.1,.bool true]∧σ=[(q,.arr 3 1 ((kN op).1.map aX))]):=
 (wP op).mono fun x σ hk=>by unfold uC at hk;rw[if_pos h]at hk;exact hk
theorem ZZ{op:Int}(h:(kN op).2.2=false):SCall Tryz.prog 200 [.int .i64 op] [] (fun y σ=>y=.tup [.ro 0 [] .nil,.int .i64 0,.bool false]∧σ=[]):=
 (wP op).mono fun x σ hk=>by unfold uC at hk;rw[if_neg (by simp[h])]at hk;exact hk
theorem PS.Gd.loc {s:PS}(h:s.Gd)(ls:List Int)(n:Int):(cT ls s n).2.Gd:=by
 unfold cT;exact aJ (p:=fun r:Int×PS=>r.2.Gd) (fun _=>⟨⟨⟨h.le,h.up⟩,h.ne⟩,h.bv,h.bc⟩) (fun _=>h)
theorem PS.Gd.glob {s:PS}(h:s.Gd)(m:Md)(n:Int):(eA m s n).2.Gd:=by
 unfold eA;exact aJ (p:=fun r:Gl×PS=>r.2.Gd) (fun _=>⟨⟨⟨h.le,h.up⟩,h.ne⟩,h.bv,h.bc⟩) (fun _=>h)
section
variable {r p q : Nat} {m : Md} {ls : List Int}
theorem aAa(hN:Nm r p q)(s:PS)(h:s.Gd)(x:Ins)(hx:x.Ck):SCall Tryz.prog 78 [.ptr r 0,.agg (iv .any x)] (cI r p q m (.ro 1 (ls.map aX) .any) s) (fun _ σ=>∃e,Nm r e q∧σ=cI r e q m (.ro 1 (ls.map aX) .any) (dS m ls s x)):=by
 have hN0:=hN;obtain⟨n1,n2,n3⟩:=hN;unfold iv;refine cC 167 [0,1,3,4,5,6,7,8,9,13,31,35,46,55,63,78,89,104,111,118,126,132,138,144,150,157,162] Tryz.func78 ?_;unfold cI fO
 (try dsimp only);refine dW ?_;apply bx;rfl;rfl;(exact dM);rfl;refine aD fun r3 h3=> ?_;repeat rcases h3 with⟨_,h3⟩
 refine EU ?_;refine dW ?_;refine z1 ?_;refine aD fun r10 h10=> ?_;repeat rcases h10 with⟨_,h10⟩
 refine z1 ?_;refine aD fun r11 h11=> ?_;repeat rcases h11 with⟨_,h11⟩
 refine jB (j:=10) rfl bP (aR bH (by simp)) ?_;refine jB (j:=11) rfl bP (aR bH (by simp)) ?_;refine kJ ?_;refine kZ ?_;refine pB ?_;refine aB rfl (fun g7=> ?_) (fun g7=> ?_)
 ·rw[show dS m ls s x=(cQ s 0).2 by unfold dS;simp only[g7,if_true,if_false,Bool.false_eq_true]];have hL:=hN0;refine dX ?_;refine cw (cI r p q m (.ro 1 (ls.map aX) .any) s) Tryz.call188 (nV hN0 s h 0) rfl aC cA ?_;rintro _ σ' ⟨rfl,rfl⟩ h34;unfold cI fO;(try dsimp only);refine dQ ?_;refine bR ?_;apply aF;exact aG
  ·exact⟨_,hL,rfl⟩
  ·exact aA
 refine dE ?_;refine aB rfl (fun g9=> ?_) (fun g9=> ?_)
 ·have h1:=h.pop 1;have h2:=h1.pop 0;have h3:=h2.pop (cQ (cQ s 1).2 0).1;rw[show dS m ls s x=fU (cQ (cQ (cQ s 1).2 0).2 (cQ (cQ s 1).2 0).1).2 [(cQ (cQ (cQ s 1).2 0).2 (cQ (cQ s 1).2 0).1).1] by unfold dS;simp only[g7,g9,if_true,if_false,Bool.false_eq_true]];refine dX ?_;refine cw (cI r p q m (.ro 1 (ls.map aX) .any) s) Tryz.call188 (nV hN0 s h 1) rfl aC cA ?_;rintro _ σ' ⟨rfl,rfl⟩ h38;unfold cI fO;(try dsimp only);refine dQ ?_;refine FD ?_;refine cw (cI r p q m (.ro 1 (ls.map aX) .any) (cQ s 1).2) Tryz.call188 (nV hN0 _ h1 0) rfl aC cA ?_;rintro _ σ' ⟨rfl,rfl⟩ h42;unfold cI fO;(try dsimp only);apply aT;(exact bF);refine cw (cI r p q m (.ro 1 (ls.map aX) .any) (cQ (cQ s 1).2 0).2) Tryz.call188 (nV hN0 _ h2 _) rfl aC cA ?_;rintro _ σ' ⟨rfl,rfl⟩ h43;unfold cI fO;(try dsimp only);apply aT;(exact bF);refine z1 ?_;refine aD fun r44 h44=> ?_;repeat rcases h44 with⟨_,h44⟩
  refine jB (j:=44) rfl bP (aR bH (by simp)) ?_;refine cw (cI r p q m (.ro 1 (ls.map aX) .any) (cQ (cQ (cQ s 1).2 0).2 (cQ (cQ s 1).2 0).1).2) Tryz.call190 (lG hN0 _ h3.bv [(cQ (cQ (cQ s 1).2 0).2 (cQ (cQ s 1).2 0).1).1] (by simp)) rfl aC cA ?_;rintro _ σ' ⟨e,hL,rfl⟩ h45;unfold cI fO;(try dsimp only);obtain⟨e1,e2,e3⟩:=id hL;refine dQ ?_;refine bR ?_;apply aF;exact aG
  ·exact⟨_,hL,rfl⟩
  ·exact aA
 refine dE ?_;refine aB rfl (fun g12=> ?_) (fun g12=> ?_)
 ·have ha:=hx.nn (.inr (.inr (.inr (.inr (.inl (by simpa using g12))))));have h1:=h.loc ls x.a;rw[show dS m ls s x=fU (cT ls s x.a).2 [(cT ls s x.a).1] by unfold dS;simp only[g7,g9,g12,if_true,if_false,Bool.false_eq_true]];refine cL ?_;refine gF ?_;refine cw (cI r p q m (.ro 1 (ls.map aX) .any) s) Tryz.call197 (yS hN0 s x.a ha) rfl aC cA ?_;rintro _ σ' ⟨rfl,rfl⟩ h52;unfold cI fO;(try dsimp only);apply aT;(exact bF);refine z1 ?_;refine aD fun r53 h53=> ?_;repeat rcases h53 with⟨_,h53⟩
  refine jB (j:=53) rfl bP (aR bH (by simp)) ?_;refine cw (cI r p q m (.ro 1 (ls.map aX) .any) (cT ls s x.a).2) Tryz.call190 (lG hN0 _ h1.bv [(cT ls s x.a).1] (by simp)) rfl aC cA ?_;rintro _ σ' ⟨e,hL,rfl⟩ h54;unfold cI fO;(try dsimp only);obtain⟨e1,e2,e3⟩:=id hL;refine dQ ?_;refine bR ?_;apply aF;exact aG
  ·exact⟨_,hL,rfl⟩
  ·exact aA
 refine dE ?_;refine aB rfl (fun g14=> ?_) (fun g14=> ?_)
 ·have ha:=hx.nn (.inr (.inr (.inr (.inr (.inr (.inl (by simpa using g14)))))));have h1:=h.loc ls x.a;have hL:=hN0;rw[show dS m ls s x=(cQ (cT ls s x.a).2 (cT ls s x.a).1).2 by unfold dS;simp only[g7,g9,g12,g14,if_true,if_false,Bool.false_eq_true]];refine cL ?_;refine gF ?_;refine cw (cI r p q m (.ro 1 (ls.map aX) .any) s) Tryz.call197 (yS hN0 s x.a ha) rfl aC cA ?_;rintro _ σ' ⟨rfl,rfl⟩ h61;unfold cI fO;(try dsimp only);apply aT;(exact bF);refine cw (cI r p q m (.ro 1 (ls.map aX) .any) (cT ls s x.a).2) Tryz.call188 (nV hN0 _ h1 _) rfl aC cA ?_;rintro _ σ' ⟨rfl,rfl⟩ h62;unfold cI fO;(try dsimp only);refine dQ ?_;refine bR ?_;apply aF;exact aG
  ·exact⟨_,hL,rfl⟩
  ·exact aA
 refine dE ?_;refine aB rfl (fun g16=> ?_) (fun g16=> ?_)
 ·have ha:=hx.nn (.inr (.inr (.inr (.inr (.inr (.inr (.inl (by simpa using g16))))))));have h1:=h.loc ls x.a;have h2:=h1.pop (cT ls s x.a).1;have h3:=h2.loc ls x.a;rw[show dS m ls s x=fU (cT ls (cQ (cT ls s x.a).2 (cT ls s x.a).1).2 x.a).2 [(cT ls (cQ (cT ls s x.a).2 (cT ls s x.a).1).2 x.a).1] by unfold dS;simp only[g7,g9,g12,g14,g16,if_true,if_false,Bool.false_eq_true]];refine cL ?_;refine gF ?_;refine cw (cI r p q m (.ro 1 (ls.map aX) .any) s) Tryz.call197 (yS hN0 s x.a ha) rfl aC cA ?_;rintro _ σ' ⟨rfl,rfl⟩ h69;unfold cI fO;(try dsimp only);apply aT;(exact bF);refine cw (cI r p q m (.ro 1 (ls.map aX) .any) (cT ls s x.a).2) Tryz.call188 (nV hN0 _ h1 _) rfl aC cA ?_;rintro _ σ' ⟨rfl,rfl⟩ h70;unfold cI fO;(try dsimp only);refine pX ?_;refine gF ?_;refine cw (cI r p q m (.ro 1 (ls.map aX) .any) (cQ (cT ls s x.a).2 (cT ls s x.a).1).2) Tryz.call197 (yS hN0 _ x.a ha) rfl aC cA ?_;rintro _ σ' ⟨rfl,rfl⟩ h75;unfold cI fO;(try dsimp only);apply aT;(exact bF);refine z1 ?_;refine aD fun r76 h76=> ?_;repeat rcases h76 with⟨_,h76⟩
  refine jB (j:=76) rfl bP (aR bH (by simp)) ?_;refine cw (cI r p q m (.ro 1 (ls.map aX) .any) (cT ls (cQ (cT ls s x.a).2 (cT ls s x.a).1).2 x.a).2) Tryz.call190 (lG hN0 _ h3.bv [(cT ls (cQ (cT ls s x.a).2 (cT ls s x.a).1).2 x.a).1] (by simp)) rfl aC cA ?_;rintro _ σ' ⟨e,hL,rfl⟩ h77;unfold cI fO;(try dsimp only);obtain⟨e1,e2,e3⟩:=id hL;refine dQ ?_;refine bR ?_;apply aF;exact aG
  ·exact⟨_,hL,rfl⟩
  ·exact aA
 refine dE ?_;refine aB rfl (fun g19=> ?_) (fun g19=> ?_)
 ·have ha:=hx.nn (.inr (.inr (.inr (.inr (.inr (.inr (.inr (.inl (by simpa using g19)))))))));have h1:=h.glob m x.a;rw[show dS m ls s x=fU (eA m s x.a).2 [(eA m s x.a).1.kd] by unfold dS;simp only[g7,g9,g12,g14,g16,g19,if_true,if_false,Bool.false_eq_true]];refine cL ?_;refine gF ?_;refine cw (cI r p q m (.ro 1 (ls.map aX) .any) s) Tryz.call198 (HQ hN0 s x.a ha) rfl aC cA ?_;rintro _ σ' ⟨rfl,rfl⟩ h84;unfold cI fO;(try dsimp only);apply aT;(exact bF);refine lo (LT (E rfl) rfl rfl (fun _=>Nat.le_of_ble_eq_true rfl)) rfl ?_;refine aEo ?_;refine z1 ?_;refine aD fun r87 h87=> ?_;repeat rcases h87 with⟨_,h87⟩
  refine jB (j:=87) rfl bP (aR bH (by simp)) ?_;refine cw (cI r p q m (.ro 1 (ls.map aX) .any) (eA m s x.a).2) Tryz.call190 (lG hN0 _ h1.bv [(eA m s x.a).1.kd] (by simp)) rfl aC cA ?_;rintro _ σ' ⟨e,hL,rfl⟩ h88;unfold cI fO;(try dsimp only);obtain⟨e1,e2,e3⟩:=id hL;refine dQ ?_;refine bR ?_;apply aF;exact aG
  ·exact⟨_,hL,rfl⟩
  ·exact aA
 refine dE ?_;refine aB rfl (fun g21=> ?_) (fun g21=> ?_)
 ·have ha:=hx.nn (.inr (.inr (.inr (.inr (.inr (.inr (.inr (.inr (by simpa using g21)))))))));have h1:=h.glob m x.a;have h2:=h1.need (eA m s x.a).1.mu;have hL:=hN0;rw[show dS m ls s x=(cQ (dB (eA m s x.a).2 (eA m s x.a).1.mu) (eA m s x.a).1.kd).2 by unfold dS;simp only[g7,g9,g12,g14,g16,g19,g21,if_true,if_false,Bool.false_eq_true]];refine qW ?_;refine cw (cI r p q m (.ro 1 (ls.map aX) .any) s) Tryz.call198 (HQ hN0 s x.a ha) rfl aC cA ?_;rintro _ σ' ⟨rfl,rfl⟩ h94;unfold cI fO;(try dsimp only);apply aT;(exact bF);apply al;rfl;(exact dM);refine aD fun r6 h6=> ?_;repeat rcases h6 with⟨_,h6⟩
  refine iD ?_;refine kL ?_;refine cw (cI r p q m (.ro 1 (ls.map aX) .any) (eA m s x.a).2) Tryz.call189 (jZ hN0 _ (eA m s x.a).1.mu) rfl aC cA ?_;rintro _ σ' rfl h98;unfold cI fO;(try dsimp only);refine mO ?_;refine wI ?_;refine gF ?_;refine cw (cI r p q m (.ro 1 (ls.map aX) .any) (dB (eA m s x.a).2 (eA m s x.a).1.mu)) Tryz.call188 (nV hN0 _ h2 _) rfl aC cA ?_;rintro _ σ' ⟨rfl,rfl⟩ h103;unfold cI fO;(try dsimp only);refine dQ ?_;refine bR ?_;apply aF;exact aG
  ·exact⟨_,hL,rfl⟩
  ·exact aA
 refine dE ?_;refine aB rfl (fun g25=> ?_) (fun g25=> ?_)
 ·rw[show dS m ls s x=gL m s x 2 [1] [1] by unfold dS;simp only[g7,g9,g12,g14,g16,g19,g21,g25,if_true,if_false,Bool.false_eq_true]];refine xR ?_;refine PM ?_;refine cw (cI r p q m (.ro 1 (ls.map aX) .any) s) Tryz.call199 (lS hN0 s h x 2 [1] [1] (by simp) (by simp)) rfl aC cA ?_;rintro _ σ' ⟨e,hL,rfl⟩ h110;unfold cI fO;(try dsimp only);obtain⟨e1,e2,e3⟩:=id hL;refine dQ ?_;refine bR ?_;apply aF;exact aG
  ·exact⟨_,hL,rfl⟩
  ·exact aA
 refine dE ?_;refine aB rfl (fun g27=> ?_) (fun g27=> ?_)
 ·rw[show dS m ls s x=gL m s x 3 [1] [2] by unfold dS;simp only[g7,g9,g12,g14,g16,g19,g21,g25,g27,if_true,if_false,Bool.false_eq_true]];refine xR ?_;refine PM ?_;refine cw (cI r p q m (.ro 1 (ls.map aX) .any) s) Tryz.call199 (lS hN0 s h x 3 [1] [2] (by simp) (by simp)) rfl aC cA ?_;rintro _ σ' ⟨e,hL,rfl⟩ h117;unfold cI fO;(try dsimp only);obtain⟨e1,e2,e3⟩:=id hL;refine dQ ?_;refine bR ?_;apply aF;exact aG
  ·exact⟨_,hL,rfl⟩
  ·exact aA
 refine dE ?_;apply fF rfl;exact cU
 ·intro _;(refine aP ?_);refine eV ?_;exact aK
 refine aP ?_;refine aB rfl (fun g29=> ?_) (fun g29=> ?_)
 ·refine aP ?_;rw[show dS m ls s x=gL m s x 0 [1] [1] by unfold dS;simp only[g7,g9,g12,g14,g16,g19,g21,g25,g27,g29,if_true,if_false,Bool.false_eq_true]];refine gK ?_;refine oV ?_;refine PM ?_;refine cw (cI r p q m (.ro 1 (ls.map aX) .any) s) Tryz.call199 (lS hN0 s h x 0 [1] [1] (by simp) (by simp)) rfl aC cA ?_;rintro _ σ' ⟨e,hL,rfl⟩ h125;unfold cI fO;(try dsimp only);obtain⟨e1,e2,e3⟩:=id hL;refine dQ ?_;refine bR ?_;apply aF;exact aG
  ·exact⟨_,hL,rfl⟩
  ·exact aA
 refine dE ?_;refine aB rfl (fun g32=> ?_) (fun g32=> ?_)
 ·rw[show dS m ls s x=gL m s x 2 [1,1] [] by unfold dS;simp only[g7,g9,g12,g14,g16,g19,g21,g25,g27,g29,g32,if_true,if_false,Bool.false_eq_true]];refine xR ?_;refine z1 ?_;refine aD fun r130 h130=> ?_;repeat rcases h130 with⟨_,h130⟩
  refine jB (j:=130) rfl bP (aR bH (by simp)) ?_;refine cw (cI r p q m (.ro 1 (ls.map aX) .any) s) Tryz.call199 (lS hN0 s h x 2 [1,1] [] (by simp) (by simp)) rfl aC cA ?_;rintro _ σ' ⟨e,hL,rfl⟩ h131;unfold cI fO;(try dsimp only);obtain⟨e1,e2,e3⟩:=id hL;refine dQ ?_;refine bR ?_;apply aF;exact aG
  ·exact⟨_,hL,rfl⟩
  ·exact aA
 refine dE ?_;refine aB rfl (fun g34=> ?_) (fun g34=> ?_)
 ·rw[show dS m ls s x=gL m s x 3 [1,2] [] by unfold dS;simp only[g7,g9,g12,g14,g16,g19,g21,g25,g27,g29,g32,g34,if_true,if_false,Bool.false_eq_true]];refine xR ?_;refine z1 ?_;refine aD fun r136 h136=> ?_;repeat rcases h136 with⟨_,h136⟩
  refine jB (j:=136) rfl bP (aR bH (by simp)) ?_;refine cw (cI r p q m (.ro 1 (ls.map aX) .any) s) Tryz.call199 (lS hN0 s h x 3 [1,2] [] (by simp) (by simp)) rfl aC cA ?_;rintro _ σ' ⟨e,hL,rfl⟩ h137;unfold cI fO;(try dsimp only);obtain⟨e1,e2,e3⟩:=id hL;refine dQ ?_;refine bR ?_;apply aF;exact aG
  ·exact⟨_,hL,rfl⟩
  ·exact aA
 refine dE ?_;refine aB rfl (fun g36=> ?_) (fun g36=> ?_)
 ·rw[show dS m ls s x=gL m s x 0 [1,1] [] by unfold dS;simp only[g7,g9,g12,g14,g16,g19,g21,g25,g27,g29,g32,g34,g36,if_true,if_false,Bool.false_eq_true]];refine xR ?_;refine z1 ?_;refine aD fun r142 h142=> ?_;repeat rcases h142 with⟨_,h142⟩
  refine jB (j:=142) rfl bP (aR bH (by simp)) ?_;refine cw (cI r p q m (.ro 1 (ls.map aX) .any) s) Tryz.call199 (lS hN0 s h x 0 [1,1] [] (by simp) (by simp)) rfl aC cA ?_;rintro _ σ' ⟨e,hL,rfl⟩ h143;unfold cI fO;(try dsimp only);obtain⟨e1,e2,e3⟩:=id hL;refine dQ ?_;refine bR ?_;apply aF;exact aG
  ·exact⟨_,hL,rfl⟩
  ·exact aA
 refine dE ?_;refine aB rfl (fun g38=> ?_) (fun g38=> ?_)
 ·rw[show dS m ls s x=gL m s x 0 [] [1] by unfold dS;simp only[g7,g9,g12,g14,g16,g19,g21,g25,g27,g29,g32,g34,g36,g38,if_true,if_false,Bool.false_eq_true]];refine GR ?_;refine cw (cI r p q m (.ro 1 (ls.map aX) .any) s) Tryz.call199 (lS hN0 s h x 0 [] [1] (by simp) (by simp)) rfl aC cA ?_;rintro _ σ' ⟨e,hL,rfl⟩ h149;unfold cI fO;(try dsimp only);obtain⟨e1,e2,e3⟩:=id hL;refine dQ ?_;refine bR ?_;apply aF;exact aG
  ·exact⟨_,hL,rfl⟩
  ·exact aA
 refine dE ?_;refine aB rfl (fun g40=> ?_) (fun g40=> ?_)
 ·rw[show dS m ls s x=gL m s x 0 [1] [1] by unfold dS;simp only[g7,g9,g12,g14,g16,g19,g21,g25,g27,g29,g32,g34,g36,g38,g40,if_true,if_false,Bool.false_eq_true]];refine xR ?_;refine PM ?_;refine cw (cI r p q m (.ro 1 (ls.map aX) .any) s) Tryz.call199 (lS hN0 s h x 0 [1] [1] (by simp) (by simp)) rfl aC cA ?_;rintro _ σ' ⟨e,hL,rfl⟩ h156;unfold cI fO;(try dsimp only);obtain⟨e1,e2,e3⟩:=id hL;refine dQ ?_;refine bR ?_;apply aF;exact aG
  ·exact⟨_,hL,rfl⟩
  ·exact aA
 refine dE ?_;refine aB rfl (fun g42=> ?_) (fun g42=> ?_)
 ·rw[show dS m ls s x=fU s [1] by unfold dS;simp only[g7,g9,g12,g14,g16,g19,g21,g25,g27,g29,g32,g34,g36,g38,g40,g42,if_true,if_false,Bool.false_eq_true]];refine dX ?_;refine z1 ?_;refine aD fun r160 h160=> ?_;repeat rcases h160 with⟨_,h160⟩
  refine jB (j:=160) rfl bP (aR bH (by simp)) ?_;refine cw (cI r p q m (.ro 1 (ls.map aX) .any) s) Tryz.call190 (lG hN0 s h.bv [1] (by simp)) rfl aC cA ?_;rintro _ σ' ⟨e,hL,rfl⟩ h161;unfold cI fO;(try dsimp only);obtain⟨e1,e2,e3⟩:=id hL;refine dQ ?_;refine bR ?_;apply aF;exact aG
  ·exact⟨_,hL,rfl⟩
  ·exact aA
 refine dE ?_;refine aB rfl (fun g44=> ?_) (fun g44=> ?_)
 ·rw[show dS m ls s x=fU s [2] by unfold dS;simp only[g7,g9,g12,g14,g16,g19,g21,g25,g27,g29,g32,g34,g36,g38,g40,g42,g44,if_true,if_false,Bool.false_eq_true]];refine dX ?_;refine z1 ?_;refine aD fun r165 h165=> ?_;repeat rcases h165 with⟨_,h165⟩
  refine jB (j:=165) rfl bP (aR bH (by simp)) ?_;refine cw (cI r p q m (.ro 1 (ls.map aX) .any) s) Tryz.call190 (lG hN0 s h.bv [2] (by simp)) rfl aC cA ?_;rintro _ σ' ⟨e,hL,rfl⟩ h166;unfold cI fO;(try dsimp only);obtain⟨e1,e2,e3⟩:=id hL;refine dQ ?_;refine bR ?_;apply aF;exact aG
  ·exact⟨_,hL,rfl⟩
  ·exact aA
 have hkl:=aFF x.op;have h1:=h.need (kN x.op).2.2;have h2:=h1.pops (kN x.op).1;rw[show dS m ls s x=fU (dL (dB s (kN x.op).2.2) (kN x.op).1) [(kN x.op).2.1] by unfold dS;simp only[g7,g9,g12,g14,g16,g19,g21,g25,g27,g29,g32,g34,g36,g38,g40,g42,g44,if_true,if_false,Bool.false_eq_true]];refine aP ?_;cases hk:(kN x.op).2.2
 ·rw[aHP hk]at h1 h2⊢;refine kZ ?_;refine cw [] Tryz.call200 (ZZ hk) rfl aC aA ?_;rintro _ σ' ⟨rfl,rfl⟩ h17;refine MI ?_;refine nG ?_;refine eU (fY (j:=7) (y:=.ro 1 (([]:List Int).map aX) .any) rfl VLe.empty) ?_;refine mK ?_;refine cw (cI r p q m (.ro 1 (ls.map aX) .any) s) Tryz.call189 (jZ hN0 s false) rfl aC cA ?_;rintro _ σ' rfl h23;unfold cI fO;(try dsimp only);refine pX ?_;refine cw (cI r p q m (.ro 1 (ls.map aX) .any) (dB s false)) Tryz.call192 (kQ hN0 _ h1 [] (by simp)) rfl aC cA ?_;rintro _ σ' rfl h26;unfold cI fO;(try dsimp only);refine pX ?_;refine z1 ?_;refine aD fun r29 h29=> ?_;repeat rcases h29 with⟨_,h29⟩
  refine jB (j:=29) rfl bP (aR bH (by simp)) ?_;refine cw (cI r p q m (.ro 1 (ls.map aX) .any) (dL (dB s false) [])) Tryz.call190 (lG hN0 _ h2.bv [0] (by simp)) rfl aC cA ?_;rintro _ σ' ⟨e,hL,rfl⟩ h30;unfold cI fO;(try dsimp only);obtain⟨e1,e2,e3⟩:=id hL;refine dQ ?_;refine bR ?_;apply aF;exact aG
  ·exact⟨_,hL,rfl⟩
  ·exact aA
 ·rw[hk]at h1 h2;refine kZ ?_;refine cw [] Tryz.call200 (UY hk) rfl aC aA ?_;rintro _ σ' ⟨q1,rfl,rfl⟩ h17
  replace h17:=iC h17;repeat rcases h17 with⟨_,h17⟩
  refine MI ?_;refine nG ?_;refine YD (j:=7) rfl bP (aR bH (by simp)) ?_;refine mK ?_;refine cw (cI r p q m (.ro 1 (ls.map aX) .any) s) Tryz.call189 (jZ hN0 s true) rfl aC cA ?_;rintro _ σ' rfl h23;unfold cI fO;(try dsimp only);refine pX ?_;refine cw (cI r p q m (.ro 1 (ls.map aX) .any) (dB s true)) Tryz.call192 (kQ hN0 _ h1 (kN x.op).1 (by omega)) rfl aC cA ?_;rintro _ σ' rfl h26;unfold cI fO;(try dsimp only);refine pX ?_;refine z1 ?_;refine aD fun r29 h29=> ?_;repeat rcases h29 with⟨_,h29⟩
  refine jB (j:=29) rfl bP (aR bH (by simp)) ?_;refine cw (cI r p q m (.ro 1 (ls.map aX) .any) (dL (dB s true) (kN x.op).1)) Tryz.call190 (lG hN0 _ h2.bv [(kN x.op).2.1] (by simp)) rfl aC cA ?_;rintro _ σ' ⟨e,hL,rfl⟩ h30;unfold cI fO;(try dsimp only);obtain⟨e1,e2,e3⟩:=id hL;refine dQ ?_;refine bR ?_;apply aF;exact aG
  ·exact⟨_,hL,rfl⟩
  ·exact aA
end
end Go.Proofs.YtjpdadobblffmaaGreat
namespace Go.Proofs.YtjpdadobblffmaaGreat
open Go.RowKit Go.ChangeShapes Go.WideShapes Go.ChangeAt Go.Deep
def iY (L:Nat) (S:List Bool) (op:Int):Option (List Bool):=
 if oN op=true then(if L≤S.length then none else some (S++ [op==4]))
 else if op≠5∧op≠11 then some S
 else match S.getLast? with
  |none=>none
  |some c=>if op=11 then some S.dropLast else if c=true then some (S.dropLast++ [false])else none
def kR (L:Nat):List Int→List Bool→Option (List Bool)
 |[],S=>some S
 |op::w,S=>match iY L S op with
  |none=>none
  |some S'=>kR L w S'
theorem OC{L:Nat}:∀ {u v:List Int} {S T:List Bool},kR L u S=some T→kR L (u++v) S=kR L v T
 |[],_,_,_,h=>by cases h;rfl
 |op::u,v,S,T,h=>by
  rw[List.cons_append,kR];rw[kR]at h;cases hs:iY L S op with
  |none=>rw[hs]at h;cases h
  |some S'=>rw[hs]at h;exact OC h
theorem HR{L:Nat}:∀ {u v:List Int} {S:List Bool},kR L u S=none→kR L (u++v) S=none
 |[],_,_,h=>by cases h
 |op::u,v,S,h=>by
  rw[List.cons_append,kR];rw[kR]at h;cases hs:iY L S op with
  |none=>rfl
  |some S'=>rw[hs]at h;exact HR h
theorem aAb{L:Nat}{S:List Bool}{op:Int}:kR L [op] S=iY L S op:=by
 rw[kR];cases iY L S op<;>rfl
def UZ (ops:List Int) (all:List Bk) (k:Nat):Bool:=
 match all[k]? with
 |some b=>(ops[b.at_]? ==some 4)&&decide (b.els<0)
 |none=>false
def AY (ops:List Int) (s:MS):List Bool:=s.opn.map (UZ ops s.all)
theorem aCA{ops:List Int}{all:List Bk}{k:Nat}(h:k<all.length)(x:Bk):UZ ops (all++ [x]) k=UZ ops all k:=by
 unfold UZ;rw[List.getElem?_append_left h]
theorem SS{ops:List Int}{all:List Bk}{k n:Nat}(h:k≠n)(x:Bk):UZ ops (all.set n x) k=UZ ops all k:=by
 unfold UZ;rw[List.getElem?_set_ne (Ne.symm h)]
structure MOk2 (s:MS):Prop where
 inc:s.opn.Pairwise (· < ·)
theorem VA{ops:List Int}{j:Nat}{s s':MS}{op:Int}(h1:MOk j s)(h:MOk2 s)(hs:nL ops s j op=some s'):MOk2 s':=by
 unfold nL at hs;split at hs
 ·split at hs
  ·cases hs
  ·obtain rfl:=Option.some.inj hs;refine⟨List.pairwise_append.2 ⟨h.inc,by simp,fun a ha b hb=> ?_⟩⟩;rw[List.mem_singleton.1 hb];exact h1.opn a ha
 split at hs
 ·obtain rfl:=Option.some.inj hs;exact h
 unfold AW at hs;split at hs
 ·cases hs
 split at hs
 ·cases hs
 split at hs
 ·obtain rfl:=Option.some.inj hs;exact⟨h.inc.sublist (List.dropLast_sublist _)⟩
 split at hs
 ·cases hs
 ·obtain rfl:=Option.some.inj hs;exact⟨h.inc⟩
theorem OD{ops:List Int}:∀ {j:Nat} {s:MS},oG ops j=some s→MOk2 s
 |0,s,h=>by obtain rfl:=Option.some.inj h;exact⟨List.Pairwise.nil⟩
 |j+1,s,h=>by
  rw[oG]at h;split at h
  ·next s0 op h1 h2=>exact VA (xZ h1) (OD h1) h
  ·cases h
theorem aAc{ops:List Int}{j:Nat}{s:MS}{op:Int}(h1:MOk j s)(h2:MOk2 s)(ho:ops[j]? =some op):(nL ops s j op).map (AY ops)=iY 40 (AY ops s) op:=by
 obtain⟨all,opn⟩:=s;have hk:=h1.opn;have hlen:=h1.len;have hinc:=h2.inc;dsimp only at hk hlen hinc;by_cases hO:oN op=true
 ·by_cases h40:opn.length=40
  ·rw[zN hO h40];unfold iY AY;rw[if_pos hO,if_pos (by simp;omega)];rfl
  ·rw[zM hO h40];unfold iY AY;rw[if_pos hO,if_neg (by simp;omega)];dsimp only[Option.map];rw[List.map_append,List.map_congr_left fun k hkk=>aCA (hk k hkk) _];simp[UZ,ho]
 have hO:oN op=false:=by simpa using hO
 by_cases h5:op≠5∧op≠11
 ·rw[zO hO h5.1 h5.2];unfold iY;rw[if_neg (by simp[hO]),if_pos h5];rfl
 rw[yA hO (by omega)];unfold iY;rw[if_neg (by simp[hO]),if_neg h5];rcases List.eq_nil_or_concat opn with rfl|⟨pre,k,rfl⟩
 ·rfl
 have hkl:=hk k (by simp);obtain⟨b,hb⟩:∃b,all[k]? =some b:=⟨_,List.getElem?_eq_getElem hkl⟩
 have hpre:∀x∈pre,x≠k:=fun x hx=>by
  have:=(List.pairwise_append.1 (by simpa using hinc)).2.2 x hx k (by simp);omega
 have hab:AY ops ⟨all,pre.concat k⟩=pre.map (UZ ops all)++ [UZ ops all k]:=by unfold AY;simp
 have hfk:UZ ops all k=((ops[b.at_]? ==some 4)&&decide (b.els<0)):=by unfold UZ;rw[hb]
 rw[hab,List.getLast?_append];dsimp only[List.getLast?_singleton,Option.some_or];rw[List.concat_eq_append];rcases(show op=11∨op=5 by omega)with rfl|rfl
 ·rw[JR hb,if_pos rfl];unfold AY;dsimp only[Option.map];rw[List.map_congr_left fun x hx=>SS (hpre x hx) _];simp
 ·rw[if_neg (by decide),hfk];by_cases hc:ops[b.at_]? =some 4∧¬0≤b.els
  ·rw[CW hb hc.1 hc.2,if_pos (by simp[hc.1];omega)];unfold AY;dsimp only[Option.map];rw[List.map_append,List.map_congr_left fun x hx=>SS (hpre x hx) _];simp[UZ,hkl]
  ·have hc':ops[b.at_]? ≠some 4∨0≤b.els:=by
    by_cases h4:ops[b.at_]? =some 4
    ·exact .inr (by by_cases h0:0≤b.els;exact h0;exact absurd ⟨h4,h0⟩ hc)
    ·exact .inl h4
   rw[JS hb hc',if_neg (by rcases hc' with h|h;simp[h];simp;intro _;exact h)];rfl
theorem ST{ops:List Int}:∀ {j:Nat},j≤ops.length→kR 40 (ops.take j) []=(oG ops j).map (AY ops)
 |0,_=>by simp[kR,oG,AY]
 |j+1,hj=>by
  have ih:=ST (ops:=ops) (j:=j) (by omega);obtain⟨op,ho⟩:∃op,ops[j]? =some op:=⟨_,List.getElem?_eq_getElem hj⟩
  rw[List.take_add_one,ho];dsimp only[Option.toList];cases hm:oG ops j with
  |none=>
   rw[hm]at ih;rw[HR ih,oG,hm];rfl
  |some s=>
   rw[hm]at ih;rw[OC ih,aAb,vF hm ho];exact(aAc (xZ hm) (OD hm) ho).symm
theorem KH{ops:List Int}:vS ops=true↔ops.length≤300∧kR 40 ops []=some []:=by
 have h:=ST (ops:=ops) (Nat.le_refl _);rw[List.take_length]at h;rw[h];unfold vS gQ;by_cases hl:300<ops.length
 ·rw[if_pos hl];simp;omega
 rw[if_neg hl];cases hm:oG ops ops.length with
 |none=>simp
 |some s=>
  obtain⟨all,opn⟩:=s;cases opn with
  |nil=>simp[AY];omega
  |cons k r=>simp[AY]
def Bal (h:Nat) (w:List Int):Prop:=kR h w []=some []
def sl (ops:List Int) (i k:Nat):List Int:=(ops.take k).drop i
def Arm (ops:List Int) (h:Nat) (b:Bk) (j:Nat):Prop:=
 (b.els=-1∧Bal h (sl ops (b.at_+1) j))∨∃e:Nat,b.els=(e:Int)∧b.at_<e∧e<j∧ops[b.at_]? =some 4∧ops[e]? =some 5∧Bal h (sl ops (b.at_+1) e)∧Bal h (sl ops (e+1) j)
inductive Stk (ops:List Int) (all:List Bk):Nat→List Nat→Prop
 |nil {j:Nat} :Bal 40 (ops.take j)→Stk ops all j []
 |top {j k:Nat} {r:List Nat} {b:Bk} {op:Int} :all[k]? =some b→Stk ops all b.at_ r→(∀x∈r,x<k)→r.length<40→b.at_<j→ops[b.at_]? =some op→oN op=true→Arm ops (39-r.length) b j→Stk ops all j (k::r)
def Clo (ops:List Int) (j:Nat) (b:Bk):Prop:=
 ∃n:Nat,b.en=(n:Int)∧b.at_<n∧n<j∧(∃S,kR 40 (ops.take b.at_) []=some S∧kR 40 (ops.take (n+1)) []=some S)∧
  ((b.els=-1∧Bal 40 (sl ops (b.at_+1) n))∨∃e:Nat,b.els=(e:Int)∧b.at_<e∧e<n∧Bal 40 (sl ops (b.at_+1) e)∧Bal 40 (sl ops (e+1) n))
theorem Clo.mono {ops:List Int}{i j:Nat}{b:Bk}(h:Clo ops i b)(hij:i≤j):Clo ops j b:=by
 obtain⟨n,h1,h2,h3,h4⟩:=h;exact⟨n,h1,h2,by omega,h4⟩
def J (ops:List Int) (j:Nat) (s:MS):Prop:=Stk ops s.all j s.opn.reverse∧∀k b,s.all[k]? =some b→k∉s.opn→Clo ops j b
structure Md.Fn (m:Md):Prop extends m.Ck where
 bd:∀c∈m.co,c.bd.length≤100000∧∀x∈c.bd,x.Ck
 lc:∀c∈m.co,c.ls.length≤1000
theorem wZ{m:Md}{s:PS}{x:Ins}(h:(cG m s x).1=false):(cG m s x).2=s∧oN x.op=false∧x.op≠5∧x.op≠11:=by
 have key:∀r:Bool×PS,r.1=true→r.1=false→r.2=s∧oN x.op=false∧x.op≠5∧x.op≠11:=fun r h1 h2=>by rw[h1]at h2;cases h2
 revert h;unfold cG;refine aJ (p:=fun r:Bool×PS=>r.1=false→r.2=s∧oN x.op=false∧x.op≠5∧x.op≠11) (fun _=>key _ rfl) (fun _=> ?_);refine aJ (p:=fun r:Bool×PS=>r.1=false→r.2=s∧oN x.op=false∧x.op≠5∧x.op≠11) (fun _=>key _ rfl) (fun _=> ?_);refine aJ (p:=fun r:Bool×PS=>r.1=false→r.2=s∧oN x.op=false∧x.op≠5∧x.op≠11) (fun _=>key _ rfl) (fun a1=> ?_);refine aJ (p:=fun r:Bool×PS=>r.1=false→r.2=s∧oN x.op=false∧x.op≠5∧x.op≠11) (fun _=>key _ rfl) (fun a2=> ?_);refine aJ (p:=fun r:Bool×PS=>r.1=false→r.2=s∧oN x.op=false∧x.op≠5∧x.op≠11) (fun _=>key _ rfl) (fun a3=> ?_);refine aJ (p:=fun r:Bool×PS=>r.1=false→r.2=s∧oN x.op=false∧x.op≠5∧x.op≠11) (fun _=>key _ rfl) (fun a4=> ?_);refine aJ (p:=fun r:Bool×PS=>r.1=false→r.2=s∧oN x.op=false∧x.op≠5∧x.op≠11) (fun _=>key _ rfl) (fun _=> ?_);refine aJ (p:=fun r:Bool×PS=>r.1=false→r.2=s∧oN x.op=false∧x.op≠5∧x.op≠11) (fun _=>key _ rfl) (fun _=> ?_);refine aJ (p:=fun r:Bool×PS=>r.1=false→r.2=s∧oN x.op=false∧x.op≠5∧x.op≠11) (fun _=>key _ rfl) (fun _=> ?_);refine aJ (p:=fun r:Bool×PS=>r.1=false→r.2=s∧oN x.op=false∧x.op≠5∧x.op≠11) (fun _=>key _ rfl) (fun _=> ?_)
 refine aJ (p:=fun r:Bool×PS=>r.1=false→r.2=s∧oN x.op=false∧x.op≠5∧x.op≠11) (fun _=>key _ rfl) (fun _=> ?_);refine aJ (p:=fun r:Bool×PS=>r.1=false→r.2=s∧oN x.op=false∧x.op≠5∧x.op≠11) (fun _=>key _ rfl) (fun _=> ?_);intro _;refine⟨rfl, ?_,by simpa using a3,by simpa using a4⟩;unfold oN;rw[Bool.not_eq_true]at a1 a2;rw[a1,a2];rfl
structure LOk (m:Md) (ls:List Int) (bd:List Ins) (s0:PS) (j:Nat) (s:PS) (F:List Bool):Prop where
 gd:s.Ok
 vl:s.vs.length≤101*j
 fl:F.length+1=s.cs.length
 f40:F.length≤40
 rn:kR 40 ((cV bd).drop j) F=some []
 go:xB m ls bd s0=xB m ls (bd.drop j) s
 nb:s.bad=false
theorem LOk.ge {m:Md}{ls:List Int}{bd:List Ins}{s0 s:PS}{j:Nat}{F:List Bool}(h:LOk m ls bd s0 j s F)(hj:j≤300):s.Gd:=⟨h.gd,by have:=h.vl;omega,by have:=h.fl;have:=h.f40;omega⟩
theorem OE{bd:List Ins}{a:Nat}{x:Ins}(h:bd[a]? =some x):(cV bd).drop a=x.op::(cV bd).drop (a+1)∧bd.drop a=x::bd.drop (a+1):=by
 obtain⟨h1,rfl⟩:=List.getElem?_eq_some_iff.1 h;refine⟨?_,List.drop_eq_getElem_cons h1⟩;unfold cV;rw[←List.map_drop,List.drop_eq_getElem_cons h1,List.map_cons,List.map_drop]
theorem LOk.two {m:Md}{ls:List Int}{bd:List Ins}{s0 s:PS}{j:Nat}{F:List Bool}(h:LOk m ls bd s0 j s F){x:Ins}(hx:bd[j]? =some x)(h11:x.op=11):2≤s.cs.length:=by
 have hr:=h.rn;rw[(OE hx).1,h11,kR]at hr;have:=h.fl;cases F with
 |nil=>unfold iY at hr;simp[oN]at hr
 |cons a F=>simp at this;omega
theorem LOk.step {m:Md}{ls:List Int}{bd:List Ins}{s0 s:PS}{j:Nat}{F:List Bool}(hT:m.TS)(h:LOk m ls bd s0 j s F){x:Ins}(hx:bd[j]? =some x):
  (gM m ls s x).Ok∧(gM m ls s x).vs.length≤101*(j+1)∧((gM m ls s x).bad=true→(xB m ls bd s0).bad=true)∧((gM m ls s x).bad=false→∃F',LOk m ls bd s0 (j+1) (gM m ls s x) F'):=by
 obtain⟨hc1,hc2,hc3⟩:=ND (m:=m) h.gd (fun e=>h.two hx e) hT;have hvl:=h.vl;have key:(gM m ls s x).Ok∧(gM m ls s x).vs.length≤101*(j+1)∧((gM m ls s x).cs.length:Int)=s.cs.length+dK x.op:=by
  unfold gM;dsimp only;cases hc:(cG m s x).1 with
  |true=>
   rw[if_pos rfl];rw[hc,if_pos rfl]at hc3;exact⟨hc1,by omega,hc3⟩
  |false=>
   obtain⟨e1,e2,e3,e4⟩:=wZ hc;rw[if_neg (by simp),e1];obtain⟨p1,p2,p3⟩:=UO (m:=m) (ls:=ls) (x:=x) h.gd;refine⟨p1,by omega, ?_⟩;rw[p3];have:dK x.op=0:=by
    unfold dK;unfold oN at e2;rw[e2,if_neg (by simp),if_neg (by simpa using e4)]
   omega
 obtain⟨k1,k2,k3⟩:=key;obtain⟨o1,o2⟩:=OE hx;refine⟨k1,k2,fun hb=> ?_,fun hb=> ?_⟩
 ·rw[h.go,o2];show(if _ then _ else _:PS).bad=true;rw[if_pos hb];exact hb
 ·have hr:=h.rn;rw[o1,kR]at hr;cases hs:iY 40 F x.op with
  |none=>rw[hs]at hr;cases hr
  |some F'=>
   rw[hs]at hr;have hF:(F'.length:Int)=F.length+dK x.op∧F'.length≤40:=by
    have h40:=h.f40;unfold iY at hs;split at hs
    ·next hO=>
     split at hs
     ·cases hs
     ·obtain rfl:=Option.some.inj hs;unfold oN at hO;unfold dK;rw[if_pos hO];simp;omega
    ·next hO=>
     have hd0:∀n:Int,(x.op==11)=false→dK x.op=0:=fun _ e=>by
      unfold dK;unfold oN at hO;rw[if_neg (by simpa using hO),if_neg (by simp[e])]
     split at hs
     ·next h2=>
      obtain rfl:=Option.some.inj hs;rw[hd0 0 (by simpa using h2.2)];omega
     ·split at hs
      ·cases hs
      ·next c hl=>
       have hp:0<F.length:=List.length_pos_iff.2 (by rintro rfl;cases hl);split at hs
       ·next h11=>
        obtain rfl:=Option.some.inj hs;rw[h11];simp[dK];omega
       ·next h11=>
        split at hs
        ·obtain rfl:=Option.some.inj hs;rw[hd0 0 (by simpa using h11)];simp;omega
        ·cases hs
   have hfl:=h.fl;refine⟨F',k1,k2,by omega,hF.2,hr, ?_,hb⟩;rw[h.go,o2];show(if _ then _ else _:PS)=_;rw[if_neg (by simp[hb])]
theorem LOk.init {m:Md}{ls:List Int}{bd:List Ins}{kd:Int}(h:vS (cV bd)=true):LOk m ls bd (openP ⟨[],[],false⟩ 2 kd) 0 (openP ⟨[],[],false⟩ 2 kd) []:=
 ⟨PS.Ok0.openP ⟨by simp,by simp⟩ 2 kd,by simp[openP],by simp[openP],by simp,(KH.1 h).2,rfl,rfl⟩
end Go.Proofs.YtjpdadobblffmaaGreat
namespace Go.Proofs.YtjpdadobblffmaaGreat
open Go.RowKit Go.ChangeShapes Go.WideShapes Go.ChangeAt Go.Deep
attribute [local irreducible] SW RS RD gJ fA
theorem aAd{a b c:Bool}(h:(if(if a=true then true else b)=true then true else c)=false):a=false∧b=false∧c=false:=by cases a<;>cases b<;>cases c<;>simp at h⊢
theorem aFH{a b:Bool}(h:(if(!a)=true then true else !b)=false):a=true∧b=true:=by cases a<;>cases b<;>simp at h⊢
theorem aFI{m:Md}{k:Int}{c:Co}{f:Int}(h:(if(if decide (k<0)=true then true else decide ((m.co.length:Int)≤k))=true then true else decide ((m.fn.length:Int)≤k))=false)(hc:m.co[k.toNat]? =some c)(hf:m.fn[k.toNat]? =some f):
  CZ m k=if(if(!(cH m f).2)=true then true else !(vS (cV c.bd)))=true then false
   else if(xB m ((cH m f).1.pr++c.ls) c.bd (openP ⟨[],[],false⟩ 2 (if decide ((0:Int)<(cH m f).1.rs.length)=true then(cH m f).1.rs.headD 0 else 0))).bad=true then false
   else if(!(gG (xB m ((cH m f).1.pr++c.ls) c.bd (openP ⟨[],[],false⟩ 2 (if decide ((0:Int)<(cH m f).1.rs.length)=true then(cH m f).1.rs.headD 0 else 0)))).bad)=true then decide ((((cH m f).1.pr++c.ls).length:Int)≤32)else false:=by
 unfold CZ;rw[if_neg (fun e=>by rw[h]at e;cases e)];dsimp only;rw[List.getD_eq_getElem?_getD,List.getD_eq_getElem?_getD,hc,hf];rfl
theorem pK(m:Md)(hm:m.Fn)(k:Int):SCall Tryz.prog 23 [.agg (cK m),.int .i64 k] [] (fun y σ=>y=.bool (CZ m k)∧σ=[]):=by
 refine cC 124 [0,1,2,4,5,6,7,9,10,12,31,57,78,91,92,93,94,100,107] Tryz.func23 ?_;unfold cK;refine dW ?_;apply bx;rfl;rfl;(exact dM);rfl;refine aD fun r2 h2=> ?_;repeat rcases h2 with⟨_,h2⟩
 refine kY ?_;refine oV ?_;refine nF ?_;apply bx;rfl;rfl;(exact dM);rfl;refine aD fun r15 h15=> ?_;repeat rcases h15 with⟨_,h15⟩
 refine dG ?_;refine dZ (ks:=[0,1,2,4,5,6,7,9,10,12,31,57,78,91,92,93,94,100,107]) r15 15 3 1 (by decide) bH rfl (by decide) fun p hp=> ?_
 simp only[aM,aQ,and_true]at hp;repeat rcases hp with⟨_,hp⟩
 apply Exists.intro;apply And.intro;(exact cZ);refine dZ (ks:=[0,1,2,4,5,6,7,9,10,12,31,57,78,91,92,93,94,100,107]) r15 16 137 4 (by decide) bH rfl (by decide) fun q hq=> ?_
 simp only[aM,aQ,and_true]at hq;repeat rcases hq with⟨_,hq⟩
 apply Exists.intro;apply And.intro;(exact cZ);refine eU (iQ (r:=r15) (cs':=fO m (.ro 0 [] .nil) p q [] [] false) cZ (.cons (.refl _) (.cons (.refl _) (.cons (.refl _) (.cons (.refl _) (.cons (.refl _) (.cons (.refl _) (.cons (.refl _) (.cons (.refl _) (.cons (.refl _) (.cons (.refl _) (.cons (.refl _) (.cons (.refl _) (.cons (.refl _) (.cons (.refl _) (.cons (.refl _) (.cons (.refl _) (.cons (.refl _) (.cons (.refl _) .nil))))))))))))))))))) ?_;have hN0:Nm r15 p q:=⟨by(exact cF),by(exact cF),by(exact cF)⟩
 unfold fO
 (try dsimp only);refine gK ?_;refine EY ?_;refine mD ?_;refine TX ?_;refine qG ?_;refine jK ?_;refine mD ?_;refine TX ?_;refine qJ ?_;refine aB rfl (fun g2=> ?_) (fun g2=> ?_)
 ·rw[show CZ m k=false from if_pos g2];refine bQ ?_;apply aF;exact aG
  ·exact⟨rfl,rfl⟩
  ·exact aA
 obtain⟨t1,t2,t3⟩:=aAd g2;simp only[decide_eq_false_iff_not]at t1 t2 t3;obtain⟨c,hc⟩:∃c,m.co[k.toNat]? =some c:=⟨_,List.getElem?_eq_getElem (by omega)⟩
 obtain⟨f,hf⟩:∃f,m.fn[k.toNat]? =some f:=⟨_,List.getElem?_eq_getElem (by omega)⟩
 rw[aFI g2 hc hf];have hcm:=List.mem_of_getElem? hc;obtain⟨hb1,hb2⟩:=hm.bd c hcm;have hlc:=hm.lc c hcm;refine qW ?_;refine nJ ?_;refine cw (cI r15 p q m (.ro 0 [] .nil) ⟨[],[],false⟩) Tryz.call74 (rK hN0 ⟨[],[],false⟩ f) rfl aC cA ?_;rintro _ σ' ⟨rfl,rfl⟩ h39;unfold cI fO;(try dsimp only);refine pU ?_;apply al;rfl;(exact dM);refine aD fun r6 h6=> ?_;repeat rcases h6 with⟨_,h6⟩
 apply WX;rfl;rfl;rfl;rfl;(exact sK);refine jF ?_;refine oZ ?_;refine MB ?_;refine qQ Tryz.call75 (pC c.bd hb1) rfl bS kI ?_;rintro _ σ' ⟨q1,rfl,rfl⟩ h49
 replace h49:=cO h49;repeat rcases h49 with⟨_,h49⟩
 refine pU ?_;refine mN ?_;refine lo (eI (E rfl)) rfl ?_;refine jK ?_;refine tT ?_;refine qJ ?_;refine aB rfl (fun g6=> ?_) (fun g6=> ?_)
 ·rw[if_pos g6];refine bQ ?_;apply aF;exact aG
  ·exact⟨rfl,rfl⟩
  ·exact aA
 obtain⟨hty,hok⟩:=aFH g6;rw[if_neg (c:=(if(!(cH m f).2)=true then true else !(vS (cV c.bd)))=true) (fun e=>by rw[g6]at e;cases e)];have hts:=oO hm.ts f;generalize(cH m f).1=t at hts⊢;obtain⟨pr,rs⟩:=t;obtain⟨hp1,hp2⟩:=hts;unfold eF;dsimp only at hp1 hp2⊢;have h300:=(KH.1 hok).1;have h300:c.bd.length≤300:=by simpa[cV]using h300
 refine aP ?_;refine gI [(0,true),(1,true),(2,true),(3,true),(4,true),(5,true),(6,true),(8,true),(9,true),(10,true),(11,true),(12,true),(13,true),(7,false),(14,false),(15,true),(16,true),(17,false)] ?_;refine gD rfl (aI (E rfl)) rfl ?_;refine CJ ?_;refine jE ?_;refine pW ?_;refine aHa rfl (pr.map aX) pr.length ?_ (hby:=by omega);refine aD fun r65 h65=> ?_;repeat rcases h65 with⟨_,h65⟩
 refine fJ rfl ((pr++c.ls).map aX) (pr++c.ls).length ?_;refine bM fun r72 h72=> ?_;repeat rcases h72 with⟨_,h72⟩
 refine WB ?_;refine rB ?_;refine kK ?_;refine eU (oF (r:=r15) (q:=r72) cZ bP (.cons (.refl _) (.cons (.refl _) (.cons (.refl _) (.cons (.refl _) (.cons (.refl _) (.cons (.refl _) (.cons (.refl _) (.cons (.refl _) (.cons (.refl _) (.cons (.refl _) (.cons (.refl _) (.cons (.refl _) (.cons (.refl _) (.cons (.refl _) (.cons (aR bH (by simp)) (.cons (.refl _) (.cons (.refl _) (.cons (.refl _) .nil))))))))))))))))))) ?_;have hll:(pr++c.ls).length≤2000:=by simp;omega
 generalize pr++c.ls=ls at hll⊢;obtain⟨kd,hkd⟩:∃kd,kd=(if decide ((0:Int)<(rs.length:Int))=true then rs.headD 0 else 0):=⟨_,rfl⟩
 rw[←hkd];refine BG ?_;refine jF ?_;refine sQ ?_;refine TU (β:=Unit) (fun _=>⟨[(0,.agg (cK m)),(1,.int .i64 k),(2,.ptr r2 0),(4,.bool false),(5,.ptr r15 0),(10,.int .i64 kd)],(r2,.box 33 (cK m))::cI r15 p q m (.ro 1 (ls.map aX) .any) ⟨[],[],false⟩⟩) (fun _=>True) ?_ ?_
 ·refine aB rfl (fun g10=> ?_) (fun g10=> ?_)
  ·obtain⟨v,rs',rfl⟩:∃v rs',rs=v::rs':=by cases rs with|nil=>simp at g10|cons v rs'=>exact⟨v,rs',rfl⟩
   obtain rfl:kd=v:=by rw[hkd,if_pos g10];rfl
   have hv0:0<(kd::rs').length:=by simp
   refine fS ?_;refine qY ?_;refine dG ?_;exact⟨(),trivial,aK⟩
  obtain rfl:kd=0:=by rw[hkd,g10];rfl
  refine aP ?_;exact⟨(),trivial,aK⟩
 rintro⟨⟩-;unfold cK cI fO
 (try dsimp only);refine cL ?_;refine cw (cI r15 p q m (.ro 1 (ls.map aX) .any) ⟨[],[],false⟩) Tryz.call76 (BO hN0 ⟨[],[],false⟩ (by simp) 2 kd) rfl aC cA ?_;rintro _ σ' ⟨q2,hE,rfl⟩ h85;unfold cI fO;(try dsimp only);obtain⟨e1,e2,e3⟩:=id hE;have k85:=cM (h85 _ (List.mem_cons_of_mem _ (List.mem_cons_of_mem _ List.mem_cons_self)));unfold cI at k85;simp(disch:=(first|(simp only[List.mem_cons,List.not_mem_nil,true_or,or_true,or_false];done)|(focus (simp only[List.mem_cons,List.not_mem_nil,or_false,not_or];(repeat' (first|apply And.intro|(exact cF)));done))|omega)) only[List.map_cons,List.map_nil,cJ,cX,dO,cY,aM,aQ,and_true]at k85;repeat rcases k85 with⟨_,k85⟩
 refine dQ ?_;have hI:=LOk.init (m:=m) (ls:=ls) (kd:=kd) hok;generalize openP ⟨[],[],false⟩ 2 kd=s0 at hI⊢;refine kZ ?_;refine oZ ?_;refine MB ?_;refine nI ?_;refine lp (β:=Nat×Nat×Nat×PS) (fun b=>⟨[(4,.bool false),(5,.ptr r15 0),(91,.ro 4 (c.bd.map (iv .any)) .any),(92,.int .i64 c.bd.length),(93,.int .i64 b.1)],cI r15 b.2.1 b.2.2.1 m (.ro 1 (ls.map aX) .any) b.2.2.2⟩) (fun b=>b.1≤c.bd.length∧Nm r15 b.2.1 b.2.2.1∧∃F,LOk m ls c.bd s0 b.1 b.2.2.2 F) (fun b=>c.bd.length-b.1) (0,p,q2,s0) (by unfold cI fO;(try dsimp only);(exact aK)) ⟨Nat.zero_le _,hE,[],hI⟩ ?_;rintro⟨j,e,f',S⟩ ⟨hj,hN1,F,hL⟩;dsimp only at hj hN1 hL⊢;obtain⟨m1,m2,m3⟩:=id hN1;have hG:=hL.ge (by omega);have hbv:=hL.vl;have hbc:S.cs.length≤41:=by have:=hL.fl;have:=hL.f40;omega
 unfold cI fO
 (try dsimp only);refine jQ ?_;refine aB rfl (fun g14=> ?_) (fun g14=> ?_)
 ·obtain⟨x,hx⟩:∃x,c.bd[j]? =some x:=⟨_,List.getElem?_eq_getElem (by simp at g14;omega)⟩
  have hlt:j<c.bd.length:=(List.getElem?_eq_some_iff.1 hx).1;have hxk:=hb2 x (List.mem_of_getElem? hx);have hst:=hL.step hm.ts hx;refine dW ?_;refine pQ ?_;apply al;rfl;(exact dM);refine aD fun r12 h12=> ?_;repeat rcases h12 with⟨_,h12⟩
  refine sR ?_;refine oV ?_;refine cw (cI r15 e f' m (.ro 1 (ls.map aX) .any) S) Tryz.call77 (QG hN1 hm.toCk S hG (by omega) (by omega) x hxk (fun h=>hL.two hx h)) rfl aC cA ?_;rintro _ σ' ⟨e1,f1,hE1,rfl,rfl⟩ h99;unfold cI fO;(try dsimp only);obtain⟨m4,m5,m6⟩:=id hE1;have k99:=cM (h99 _ (List.mem_cons_of_mem _ List.mem_cons_self));unfold cI at k99;simp(disch:=(first|(simp only[List.mem_cons,List.not_mem_nil,true_or,or_true,or_false];done)|(focus (simp only[List.mem_cons,List.not_mem_nil,or_false,not_or];(repeat' (first|apply And.intro|(exact cF)));done))|omega)) only[List.map_cons,List.map_nil,cJ,cX,dO,cY,aM,aQ,and_true]at k99;repeat rcases k99 with⟨_,k99⟩
  have l99:=cM (h99 _ (List.mem_cons_of_mem _ (List.mem_cons_of_mem _ List.mem_cons_self)));unfold cI at l99;simp(disch:=(first|(simp only[List.mem_cons,List.not_mem_nil,true_or,or_true,or_false];done)|(focus (simp only[List.mem_cons,List.not_mem_nil,or_false,not_or];(repeat' (first|apply And.intro|(exact cF)));done))|omega)) only[List.map_cons,List.map_nil,cJ,cX,dO,cY,aM,aQ,and_true]at l99;repeat rcases l99 with⟨_,l99⟩
  refine CQ ?_;refine aB rfl (fun g16=> ?_) (fun g16=> ?_)
  ·have hc0:(cG m S x).1=false:=by simpa using g16
   rw[(wZ hc0).1];rw[show gM m ls S x=dS m ls S x by unfold gM;dsimp only;rw[hc0,(wZ hc0).1];rfl]at hst;refine xR ?_;refine cw (cI r15 e1 f1 m (.ro 1 (ls.map aX) .any) S) Tryz.call78 (aAa hE1 S hG x hxk) rfl aC cA ?_;rintro _ σ' ⟨e2,hE2,rfl⟩ h103;unfold cI fO;(try dsimp only);obtain⟨m7,m8,m9⟩:=id hE2;refine dQ ?_;obtain⟨A,O,hAO,rfl,rfl⟩:∃A O,Nm r15 A O∧A=e2∧O=f1:=⟨_,_,hE2,rfl,rfl⟩
   generalize dS m ls S x=S' at hst⊢;refine oY ?_;refine jP ?_;refine aB rfl (fun g18=> ?_) (fun g18=> ?_)
   ·rw[if_pos (hst.2.2.1 g18)];refine bQ ?_;apply aF;exact aG
    ·exact⟨rfl,rfl⟩
    ·exact aA
   obtain⟨F',hL'⟩:=hst.2.2.2 g18;refine lV ?_;refine⟨(j+1,A,O,S'),⟨hlt,hAO,F',hL'⟩,by show c.bd.length-(j+1)<c.bd.length-j;omega, ?_⟩
   (try dsimp only);exact aK
  have hc1:(cG m S x).1=true:=by simpa using g16
  rw[show gM m ls S x=(cG m S x).2 by unfold gM;dsimp only;rw[if_pos hc1]]at hst;obtain⟨A,O,hAO,rfl,rfl⟩:∃A O,Nm r15 A O∧A=e1∧O=f1:=⟨_,_,hE1,rfl,rfl⟩
  generalize(cG m S x).2=S' at hst⊢;refine dX ?_;refine nT ?_;refine jP ?_;refine aB rfl (fun g18=> ?_) (fun g18=> ?_)
  ·rw[if_pos (hst.2.2.1 g18)];refine bQ ?_;apply aF;exact aG
   ·exact⟨rfl,rfl⟩
   ·exact aA
  obtain⟨F',hL'⟩:=hst.2.2.2 g18;refine lV ?_;refine⟨(j+1,A,O,S'),⟨hlt,hAO,F',hL'⟩,by show c.bd.length-(j+1)<c.bd.length-j;omega, ?_⟩
  (try dsimp only);exact aK
 obtain rfl:j=c.bd.length:=by simp at g14;omega
 rw[show xB m ls c.bd s0=S by rw[hL.go,List.drop_length];rfl,if_neg (by simp[hL.nb])];refine dX ?_;refine cw (cI r15 e f' m (.ro 1 (ls.map aX) .any) S) Tryz.call79 (KG hN1 S hG) rfl aC cA ?_;rintro _ σ' ⟨rfl,rfl⟩ h110;unfold cI fO;(try dsimp only);refine dQ ?_;refine oY ?_;refine lo (eI (E rfl)) rfl ?_;refine jK ?_;refine RJ ?_;refine pP ?_;refine IS ?_;refine kD ?_;apply aF;exact aG
 ·exact⟨rfl,rfl⟩
 ·exact aA
def eL {α:Type} (pt:α→List Nat) (l:List α) (j:Nat):List Nat:=(l.take j).flatMap pt
theorem lD{α:Type}{pt:α→List Nat}{l:List α}{j:Nat}{x:α}(h:l[j]? =some x):eL pt l (j+1)=eL pt l j++pt x:=by
 unfold eL;rw[List.take_add_one,h,List.flatMap_append];simp
theorem aCB{α:Type}{pt:α→List Nat}{l:List α}:eL pt l l.length=l.flatMap pt:=by unfold eL;rw[List.take_length]
theorem QH{α:Type}{pt:α→List Nat}{l:List α}{c:Nat}(h:∀x∈l,(pt x).length≤c)(j:Nat):(eL pt l j).length≤l.length*c:=by
 have h1:∀(l:List α),(∀x∈l,(pt x).length≤c)→(l.flatMap pt).length≤l.length*c:=by
  intro l
  induction l with
  |nil=>simp
  |cons x l ih=>
   intro h;have:=ih fun y hy=>h y (List.mem_cons_of_mem _ hy)
   have hx:=h x List.mem_cons_self;rw[List.flatMap_cons,List.length_append,List.length_cons,Nat.add_mul];omega
 refine Nat.le_trans (h1 (l.take j) fun x hx=>h x (List.mem_of_mem_take hx)) (Nat.mul_le_mul_right c ?_);simp;omega
theorem BQ{α:Type}{pt:α→List Nat}{l:List α}:bD l pt=uB l.length++eL pt l l.length:=by rw[aCB];rfl
theorem uS(n:Int)(h0:0≤n)(h1:n≤100000000):SCall Tryz.prog 160 [.int .i64 n] [] (fun y σ=>∃q,y=.own q 0 (cB n).length∧σ=[(q,.arr 5 1 ((cB n).map aH))]):=by
 obtain⟨k,rfl⟩:∃k:Nat,n=k:=⟨n.toNat,by omega⟩
 have hU:=AG k (by omega);have hn:cB (k:Int)=uB k:=rfl;rw[hn];refine cC 6 [0,2] Tryz.func160 ?_;refine fV ?_;refine PE ?_;refine qQ Tryz.call252 hU rfl bS kI ?_;rintro _ σ' ⟨q,rfl,rfl⟩ h5
 replace h5:=cO h5;repeat rcases h5 with⟨_,h5⟩
 refine eP ?_;apply aF;exact aG
 ·exact⟨q,rfl,rfl⟩
 ·exact aA
theorem uT{k:Rk}(n:Nat)(vs:List Nat)(h1:n≤100000000)(h2:vs.length≤50000000):SCall Tryz.prog 251 [.int .i64 n,.ro 1 (vs.map aH) k] [] (fun y σ=>∃q,y=.own q 0 (uB n++vs).length∧σ=[(q,.arr 5 1 ((uB n++vs).map aH))]):=by
 have hu:=uS n (by omega) (by omega);have hn:cB (n:Int)=uB n:=rfl;rw[hn]at hu;have hl:=bN 4 n (by omega);refine cC 9 [0,1,4] Tryz.func251 ?_;refine fV ?_;refine qQ Tryz.call160 hu rfl bS kI ?_;rintro _ σ' ⟨q,rfl,rfl⟩ h6
 replace h6:=cO h6;repeat rcases h6 with⟨_,h6⟩
 refine wK ?_;refine jY ((uB n++vs).map aH) (uB n++vs).length ?_;refine bM fun r8 h8=> ?_;repeat rcases h8 with⟨_,h8⟩
 refine dG ?_;apply aF;exact aG
 ·exact⟨r8,rfl,rfl⟩
 ·exact aA
theorem qA(s:List Nat)(h1:s.length≤100000)(h2:∀c∈s,c<256):SCall Tryz.prog 159 [.str (dV s)] [] (fun y σ=>∃q,y=.own q 0 (bO s).length∧σ=[(q,.arr 5 1 ((bO s).map aH))]):=by
 have hv:=uT (k:=.any) s.length s (by omega) (by omega);refine cC 8 [0,2] Tryz.func159 ?_;refine fV ?_;refine lo (gZ (E rfl)) rfl ?_;refine lo (aI (E rfl)) rfl ?_;refine cvb h2 ?_ (by simp[maxLen];omega);rw[jU];refine qQ Tryz.call251 hv rfl bS kI ?_;rintro _ σ' ⟨q,rfl,rfl⟩ h7
 replace h7:=cO h7;repeat rcases h7 with⟨_,h7⟩
 refine eP ?_;apply aF;exact aG
 ·exact⟨q,rfl,rfl⟩
 ·exact aA
theorem BR(k:Int):SCall Tryz.prog 162 [.int .i64 k] [] (fun y σ=>y=.int .u8 ((if(k==1)=true then 127 else 126:Nat):Nat)∧σ=[]):=by
 refine cC 5 [0,2,4] Tryz.func162 ?_;refine fV ?_;refine qI ?_;refine aB rfl (fun g1=> ?_) (fun g1=> ?_)
 ·have hE:(if(k==1)=true then 127 else 126:Nat)=127:=if_pos g1;refine bQ ?_;apply aF;exact aG
  ·exact⟨by rw[hE];rfl,rfl⟩
  ·exact aA
 have hE:(if(k==1)=true then 127 else 126:Nat)=126:=if_neg (by rw[g1];simp);refine bQ ?_;apply aF;exact aG
 ·exact⟨by rw[hE];rfl,rfl⟩
 ·exact aA
theorem aAe(k:Int):kB k=[if(k==1)=true then 127 else 126]:=by unfold kB;split<;>rfl
theorem OF{k:Rk}(l:List Int)(hl:l.length≤1000):SCall Tryz.prog 157 [.ro 1 (l.map aX) k] [] (fun y σ=>∃q,y=.own q 0 (bD l kB).length∧σ=[(q,.arr 5 1 ((bD l kB).map aH))]):=by
 have hfl:=QH (l:=l) (fun x _=>Nat.le_of_eq (mX x));rw[BQ];refine cC 23 [0,2,3,4,8] Tryz.func157 ?_;refine nX ?_;refine bU 3 5 1 (by decide) rfl (by decide) (aD fun q0 hq0=> ?_);repeat rcases hq0 with⟨_,hq0⟩
 refine rT ?_;refine lp (β:=Nat×Nat) (fun b=>⟨[(0,.ro 1 (l.map aX) k),(3,.own b.1 0 (eL kB l b.2).length),(4,.int .i64 b.2)],[(b.1,.arr 5 1 ((eL kB l b.2).map aH))]⟩) (fun b=>b.2≤l.length) (fun b=>l.length-b.2) (q0,0) aK (Nat.zero_le _) ?_;rintro⟨q1,j⟩ hj;have hpl:=hfl j;dsimp only at hj⊢;refine cL ?_;refine CL ?_;refine aB rfl (fun g3=> ?_) (fun g3=> ?_)
 ·have hlt:j<l.length:=by simp at g3;omega
  obtain⟨x,hx⟩:∃x,l[j]? =some x:=⟨_,List.getElem?_eq_getElem hlt⟩
  have hnx:eL kB l (j+1)=eL kB l j++ [if(x==1)=true then 127 else 126]:=by rw[lD hx,aAe]
  refine cL ?_;refine nJ ?_;refine oE Tryz.call162 (BR x) rfl bG bK ?_;refine z1 ?_;refine aD fun r17 h17=> ?_;repeat rcases h17 with⟨_,h17⟩
  refine jY ((eL kB l j++ [if(x==1)=true then 127 else 126]).map aH) (eL kB l j++ [if(x==1)=true then 127 else 126]).length ?_;refine bM fun r18 h18=> ?_;repeat rcases h18 with⟨_,h18⟩
  refine iE ?_;refine AS ?_;refine⟨(r18,j+1),hlt,by show l.length-(j+1)<l.length-j;omega, ?_⟩;dsimp only;rw[hnx];exact aK
 obtain rfl:j=l.length:=by simp at g3;omega
 refine dX ?_;refine oA ?_;refine qQ Tryz.call251 (uT l.length (eL kB l l.length) (by omega) (by omega)) rfl bS kI ?_;rintro _ σ' ⟨q4,rfl,rfl⟩ h22
 replace h22:=cO h22;repeat rcases h22 with⟨_,h22⟩
 refine eP ?_;apply aF;exact aG
 ·exact⟨q4,rfl,rfl⟩
 ·exact aA
theorem QI{k:Rk}(l:List Int)(hl:l.length≤1000)(h0:∀x∈l,0≤x∧x≤100000000):SCall Tryz.prog 254 [.ro 1 (l.map aX) k] [] (fun y σ=>∃q,y=.own q 0 (bD l cB).length∧σ=[(q,.arr 5 1 ((bD l cB).map aH))]):=by
 have hfl:=QH (pt:=cB) (l:=l) (c:=5) fun x hx=>by have:=h0 x hx;exact bN 4 x.toNat (by omega)
 rw[BQ];refine cC 22 [0,2,3,4,8] Tryz.func254 ?_;refine nX ?_;refine bU 3 5 1 (by decide) rfl (by decide) (aD fun q0 hq0=> ?_);repeat rcases hq0 with⟨_,hq0⟩
 refine rT ?_;refine lp (β:=Nat×Nat) (fun b=>⟨[(0,.ro 1 (l.map aX) k),(3,.own b.1 0 (eL cB l b.2).length),(4,.int .i64 b.2)],[(b.1,.arr 5 1 ((eL cB l b.2).map aH))]⟩) (fun b=>b.2≤l.length) (fun b=>l.length-b.2) (q0,0) aK (Nat.zero_le _) ?_;rintro⟨q1,j⟩ hj;have hpl:=hfl j;dsimp only at hj⊢;refine cL ?_;refine CL ?_;refine aB rfl (fun g3=> ?_) (fun g3=> ?_)
 ·have hlt:j<l.length:=by simp at g3;omega
  obtain⟨x,hx⟩:∃x,l[j]? =some x:=⟨_,List.getElem?_eq_getElem hlt⟩
  have hx0:=h0 x (List.mem_of_getElem? hx);have hxl:=bN 4 x.toNat (by omega);have hxl2:(cB x).length≤5:=hxl;have hnx:eL cB l (j+1)=eL cB l j++cB x:=lD hx;refine cL ?_;refine nJ ?_;refine qQ Tryz.call160 (uS x hx0.1 hx0.2) rfl bS kI ?_;rintro _ σ' ⟨q16,rfl,rfl⟩ h16
  replace h16:=cO h16;repeat rcases h16 with⟨_,h16⟩
  apply aT;(exact bF);refine jY ((eL cB l j++cB x).map aH) (eL cB l j++cB x).length ?_;refine bM fun r17 h17=> ?_;repeat rcases h17 with⟨_,h17⟩
  refine iE ?_;refine AS ?_;refine⟨(r17,j+1),hlt,by show l.length-(j+1)<l.length-j;omega, ?_⟩;dsimp only;rw[hnx];exact aK
 obtain rfl:j=l.length:=by simp at g3;omega
 refine dX ?_;refine oA ?_;refine qQ Tryz.call251 (uT l.length (eL cB l l.length) (by omega) (by omega)) rfl bS kI ?_;rintro _ σ' ⟨q4,rfl,rfl⟩ h21
 replace h21:=cO h21;repeat rcases h21 with⟨_,h21⟩
 refine eP ?_;apply aF;exact aG
 ·exact⟨q4,rfl,rfl⟩
 ·exact aA
theorem HS(l:Li)(h:NJ l):SCall Tryz.prog 161 [.agg (iI l)] [] (fun y σ=>∃q,y=.own q 0 (eK l).length∧σ=[(q,.arr 5 1 ((eK l).map aH))]):=by
 obtain⟨has,mn,mx⟩:=l;obtain⟨h0,h1,h2⟩:=h;dsimp only at h0 h1 h2;have hu:=bN 2 mn.toNat (by omega);have hu2:=bN 2 mx.toNat (by omega);have hul:(cB mn).length≤3:=hu;have hul2:(cB mx).length≤3:=hu2;refine cC 20 [0,1,2,5] Tryz.func161 ?_;unfold iI;refine dW ?_;apply bx;rfl;rfl;(exact dM);rfl;refine aD fun r1 h1=> ?_;repeat rcases h1 with⟨_,h1⟩
 refine jF ?_;refine xM ?_;refine aB rfl (fun g1=> ?_) (fun g1=> ?_)
 ·have hE:eK ⟨has,mn,mx⟩=[0]++cB mn:=by unfold eK;rw[if_pos g1];rfl
  refine dW ?_;refine z1 ?_;refine aD fun r6 h6=> ?_;repeat rcases h6 with⟨_,h6⟩
  refine gF ?_;refine qQ Tryz.call160 (uS mn h0 (by omega)) rfl bS kI ?_;rintro _ σ' ⟨q9,rfl,rfl⟩ h9
  replace h9:=cO h9;repeat rcases h9 with⟨_,h9⟩
  apply aT;(exact bF);refine jY (([0]++cB mn).map aH) ([0]++cB mn).length ?_;refine bM fun r10 h10=> ?_;repeat rcases h10 with⟨_,h10⟩
  refine dG ?_;apply aF;exact aG
  ·exact⟨r10,by rw[hE];rfl,by rw[hE]⟩
  ·exact aA
 have hE:eK ⟨has,mn,mx⟩=[1]++cB mn++cB mx:=by unfold eK;rw[if_neg (by rw[g1];simp)];rfl
 have hx:0≤mx:=by simp at g1;omega
 refine aP ?_;refine gI [(1,true),(2,true),(5,true),(6,true),(10,false),(10,false),(10,false),(10,false),(10,false),(10,false)] ?_;refine jE ?_;refine jE ?_;refine jR 0 3 [(3,false),(4,false),(7,false),(8,false),(9,true)] [(0,false),(4,false),(7,false),(8,false),(9,true)] (f1:=[]) (f2:=[]) (by kernel_rfl) rfl rfl ?_ ?_ (.inl rfl) (.inl rfl)
 ·apply wC;infer_instance;infer_instance;(exact qU);rfl;rfl;rfl;rfl;(exact dM);rfl;refine aD fun r11 h11=> ?_;repeat rcases h11 with⟨_,h11⟩
  refine mU rfl Tryz.call160 (uS mn h0 (by omega)) rfl bS kI ?_;rintro _ σ' ⟨q14,rfl,rfl⟩ h14
  replace h14:=cO h14;repeat rcases h14 with⟨_,h14⟩
  apply bZ;(exact bF);refine fJ rfl (([1]++cB mn).map aH) ([1]++cB mn).length ?_;refine bM fun r15 h15=> ?_;repeat rcases h15 with⟨_,h15⟩
  refine mU rfl Tryz.call160 (uS mx hx (by omega)) rfl bS kI ?_;rintro _ σ' ⟨q18,rfl,rfl⟩ h18
  replace h18:=cO h18;repeat rcases h18 with⟨_,h18⟩
  apply bZ;(exact bF);refine fJ rfl (([1]++cB mn++cB mx).map aH) ([1]++cB mn++cB mx).length ?_;refine bM fun r19 h19=> ?_;repeat rcases h19 with⟨_,h19⟩
  refine tV ?_;apply aF;exact aG
  ·exact⟨r19,by rw[hE];rfl,by rw[hE]⟩
  ·exact aA
 ·refine mH Tryz.call160 (uS mn h0 (by omega)) (dF rfl) ?_;rintro _ σ' ⟨q14,rfl,rfl⟩ h14
  replace h14:=cO h14;repeat rcases h14 with⟨_,h14⟩
  apply bZ;(exact bF);refine GO ?_;refine aD fun r11 h11=> ?_;repeat rcases h11 with⟨_,h11⟩
  refine fJ rfl (([1]++cB mn).map aH) ([1]++cB mn).length ?_;refine bM fun r15 h15=> ?_;repeat rcases h15 with⟨_,h15⟩
  refine mU rfl Tryz.call160 (uS mx hx (by omega)) rfl bS kI ?_;rintro _ σ' ⟨q18,rfl,rfl⟩ h18
  replace h18:=cO h18;repeat rcases h18 with⟨_,h18⟩
  apply bZ;(exact bF);refine fJ rfl (([1]++cB mn++cB mx).map aH) ([1]++cB mn++cB mx).length ?_;refine bM fun r19 h19=> ?_;repeat rcases h19 with⟨_,h19⟩
  refine tV ?_;apply aF;exact aG
  ·exact⟨r19,by rw[hE];rfl,by rw[hE]⟩
  ·exact aA
theorem qB(k n:Int)(hv:lW k n=true)(hn:-9223372036854775808≤n∧n≤9223372036854775807):SCall Tryz.prog 163 [.agg [.int .i64 k,.int .i64 n]] []
  (fun y σ=>∃q,y=.own q 0 (lL k n).length∧σ=[(q,.arr 5 1 ((lL k n).map aH))]):=by
 obtain⟨ho,hm,-⟩:=CY hv hn;have hpl:=uG ho hm;have hcB:lL k n=gP ⟨if(k==2)=true then 66 else 65,n,0,[]⟩++ [11]:=rfl;rw[hcB];generalize hop:(if(k==2)=true then(66:Int)else 65)=op at ho hm hpl hcB⊢;have hop:=hop.symm;refine cC 14 [0,1,2,3,6] Tryz.func163 ?_;refine dW ?_;apply bx;rfl;rfl;(exact dM);rfl;refine aD fun r1 h1=> ?_;repeat rcases h1 with⟨_,h1⟩
 refine kY ?_;refine jF ?_;refine qI ?_;refine aB rfl (fun g2=> ?_) (fun g2=> ?_)
 ·have hco:cW (.int .i64 66)=AV.int .i64 op:=by rw[hop,if_pos g2];rfl
  refine bQ ?_;rw[hco];refine kL ?_;refine nF ?_;refine mM (fY (j:=10) rfl BL) ?_;refine qQ Tryz.call253 (rX .any ⟨op,n,0,[]⟩ ho hm) rfl bS kI ?_;rintro _ σ' ⟨q11,rfl,rfl⟩ h11
  replace h11:=cO h11;repeat rcases h11 with⟨_,h11⟩
  apply aT;(exact bF);refine z1 ?_;refine aD fun r12 h12=> ?_;repeat rcases h12 with⟨_,h12⟩
  refine jY ((gP ⟨op,n,0,[]⟩++ [11]).map aH) (gP ⟨op,n,0,[]⟩++ [11]).length ?_;refine bM fun r13 h13=> ?_;repeat rcases h13 with⟨_,h13⟩
  refine dG ?_;apply aF;exact aG
  ·exact⟨r13,rfl,rfl⟩
  ·exact aA
 have hco:cW (.int .i64 65)=AV.int .i64 op:=by rw[hop,if_neg (by simp[g2])];rfl
 refine aP ?_;rw[hco];refine kL ?_;refine nF ?_;refine mM (fY (j:=10) rfl BL) ?_;refine qQ Tryz.call253 (rX .any ⟨op,n,0,[]⟩ ho hm) rfl bS kI ?_;rintro _ σ' ⟨q11,rfl,rfl⟩ h11
 replace h11:=cO h11;repeat rcases h11 with⟨_,h11⟩
 apply aT;(exact bF);refine z1 ?_;refine aD fun r12 h12=> ?_;repeat rcases h12 with⟨_,h12⟩
 refine jY ((gP ⟨op,n,0,[]⟩++ [11]).map aH) (gP ⟨op,n,0,[]⟩++ [11]).length ?_;refine bM fun r13 h13=> ?_;repeat rcases h13 with⟨_,h13⟩
 refine dG ?_;apply aF;exact aG
 ·exact⟨r13,rfl,rfl⟩
 ·exact aA
theorem iW{α:Type}(no:Nat)(hno:no<256)(l:List α)(pt:α→List Nat)(hl:l.length≤1000)(hp:(eL pt l l.length).length≤30000000):SCall Tryz.prog 158 [.int .i64 no,.int .i64 l.length,.ro 1 ((eL pt l l.length).map aH) .any] []
  (fun y σ=>∃q,y=.own q 0 (bL no l pt).length∧σ=[(q,.arr 5 1 ((bL no l pt).map aH))]):=by
 have hu:=bN 1 l.length (by omega);have hV:bD l pt=uB l.length++eL pt l l.length:=BQ;have hvl:(uB l.length++eL pt l l.length).length≤40000000:=by simp;omega
 have hw:=uT (k:=.any) l.length (eL pt l l.length) (by omega) (by omega);rw[←hV]at hvl hw;have hS:bL no l pt=if l.isEmpty then []else [no]++(uB (bD l pt).length++bD l pt):=rfl
 have hub:=bN 4 (bD l pt).length (by omega);refine cC 21 [0,1,2,6,7,9] Tryz.func158 ?_;refine fV ?_;refine qI ?_;refine aB rfl (fun g1=> ?_) (fun g1=> ?_)
 ·obtain rfl:l=[]:=by cases l with|nil=>rfl|cons x t=>(simp at g1<;>omega)
  refine dW ?_;refine vQ ?_;refine bU 6 5 1 (by decide) rfl (by decide) (aD fun q2 hq2=> ?_);repeat rcases hq2 with⟨_,hq2⟩
  refine aP ?_;apply aF;exact aG
  ·exact⟨q2,by rw[hS];rfl,by rw[hS]⟩
  ·exact aA
 have hE:bL no l pt=[no]++(uB (bD l pt).length++bD l pt):=by rw[hS,if_neg];intro e;rw[List.isEmpty_iff.1 e]at g1;simp at g1
 refine cL ?_;refine qQ Tryz.call251 hw rfl bS kI ?_;rintro _ σ' ⟨q12,rfl,rfl⟩ h12
 replace h12:=cO h12;repeat rcases h12 with⟨_,h12⟩
 refine eP ?_;generalize bD l pt=P at hvl hub hE⊢;refine gK ?_;refine z0 ?_;refine z1 ?_;refine aD fun r15 h15=> ?_;repeat rcases h15 with⟨_,h15⟩
 refine lo (aI (E rfl)) rfl ?_;refine oA ?_;refine qQ Tryz.call251 (uT (k:=.any) P.length P (by omega) (by omega)) rfl bS kI ?_;rintro _ σ' ⟨q19,rfl,rfl⟩ h19
 replace h19:=cO h19;repeat rcases h19 with⟨_,h19⟩
 apply aT;(exact bF);refine jY (([no]++(uB P.length++P)).map aH) ([no]++(uB P.length++P)).length ?_;refine bM fun r20 h20=> ?_;repeat rcases h20 with⟨_,h20⟩
 refine dG ?_;apply aF;exact aG
 ·exact⟨r20,by rw[hE];rfl,by rw[hE]⟩
 ·exact aA
def Bd (l:List Int) (i:Nat):Prop:=∀(init:List (List Int)) (y:Int) (m:Nat),bX (l.take i)=init++ [List.replicate (m+1) y]→l[i]? ≠some y
theorem QJ{l:List Int}{i:Nat}{x:Int}(hb:Bd l i)(hx:l[i]? =some x):bX (l.take (i+1))=bX (l.take i)++ [[x]]:=by
 cases i with
 |zero=>rw[show l.take 0=[]from rfl,NQ hx];rfl
 |succ i=>
  have hi:i<l.length:=by have:=(List.getElem?_eq_some_iff.1 hx).1;omega
  obtain⟨init,m,e,-,-⟩:=UT (List.getElem?_eq_getElem hi);have hk:l[i]≠x:=fun h=>hb init l[i] m e (by rw[h];exact hx)
  rw[e];exact NP e hx hk
theorem VC{l:List Int}{i k:Nat}{x:Int}{R:List (List Int)}(hk:i<k)(h:bX (l.take k)=R++ [List.replicate (k-i) x])(hx:l[k]? =some x):bX (l.take (k+1))=R++ [List.replicate (k+1-i) x]:=by
 obtain⟨m,hm⟩:∃m,k-i=m+1:=⟨k-i-1,by omega⟩
 rw[hm]at h;have:=HJ h hx;rw[this,show k+1-i=m+1+1 by omega,List.replicate_succ' (n:=m+1)]
theorem aCC{l:List Int}{i k:Nat}{x:Int}{R:List (List Int)}(hk:i<k)(h:bX (l.take k)=R++ [List.replicate (k-i) x])(hx:l[k]? ≠some x):Bd l k:=by
 intro init y m e;rw[h]at e;have:=(List.append_inj' e rfl).2;simp only[List.cons.injEq,and_true]at this;obtain⟨m2,hm⟩:∃m,k-i=m+1:=⟨k-i-1,by omega⟩
 rw[hm,List.replicate_succ,List.replicate_succ]at this;rw[←(List.cons.inj this).1];exact hx
theorem aCD(l:List Int):Bd l 0:=fun init y m e=>by
 rw[show bX (l.take 0)=[]from rfl]at e;simp at e
def OG (l:List Int) (i:Nat):List Nat:=(bX (l.take i)).flatMap iG
theorem aAf{l:List Int}{i k:Nat}{x:Int}(h:bX (l.take k)=bX (l.take i)++ [List.replicate (k-i) x])(hk:i<k):OG l k=OG l i++cB ((k:Int)-i)++ [if(x==1)=true then 127 else 126]:=by
 unfold OG;rw[h,List.flatMap_append];simp only[List.flatMap_cons,List.flatMap_nil,List.append_nil,List.append_assoc]
 congr 1
 unfold iG;rw[List.length_replicate,aAe,show((k-i:Nat):Int)=(k:Int)-i by omega];obtain⟨m,hm⟩:∃m,k-i=m+1:=⟨k-i-1,by omega⟩
 rw[hm,List.replicate_succ,List.headD_cons]
theorem SU{l:List Int}(hl:l.length≤1000)(i:Nat):(OG l i).length≤3000∧(bX (l.take i)).length≤1000:=by
 obtain⟨h1,h2⟩:=yJ _ (l.take i) rfl;have h3:∀r∈bX (l.take i),0<r.length∧r.length≤1000:=fun r hr=>by
  obtain⟨k,m,rfl,-,hm⟩:=h2 r hr;simp at hm⊢;omega
 have hn:∀(rs:List (List Int)),(∀r∈rs,0<r.length∧r.length≤1000)→rs.length≤rs.flatten.length∧(rs.flatMap iG).length≤3*rs.length:=by
  intro rs
  induction rs with
  |nil=>simp
  |cons r rs ih=>
   intro h;have h4:=h r List.mem_cons_self;have:=ih fun r hr=>h r (List.mem_cons_of_mem _ hr)
   have h5:=DH h4.2;rw[List.flatten_cons,List.flatMap_cons,List.length_append,List.length_append,List.length_cons];omega
 have:=hn _ h3;have h6:(bX (l.take i)).flatten.length≤1000:=by rw[h1];simp;omega
 unfold OG;omega
theorem VD(l:List Int)(hl:l.length≤1000):SCall Tryz.prog 255 [.ro 1 (l.map aX) .any] [] (fun y σ=>∃q,y=.own q 0 (bD (bX l) iG).length∧σ=[(q,.arr 5 1 ((bD (bX l) iG).map aH))]):=by
 have hJ:=SU hl;refine cC 48 [0,2,3,4,5,6,10,26] Tryz.func255 ?_;refine nX ?_;refine bU 3 5 1 (by decide) rfl (by decide) (aD fun q0 hq0=> ?_);repeat rcases hq0 with⟨_,hq0⟩
 refine BG ?_;refine kY ?_;refine dG ?_;refine lp (β:=Nat×Nat) (fun b=>⟨[(0,.ro 1 (l.map aX) .any),(3,.own b.1 0 (OG l b.2).length),(4,.int .i64 ((bX (l.take b.2)).length:Nat)),(5,.int .i64 b.2)],[(b.1,.arr 5 1 ((OG l b.2).map aH))]⟩) (fun b=>b.2≤l.length∧Bd l b.2) (fun b=>l.length-b.2) (q0,0) aK ⟨Nat.zero_le _,aCD l⟩ ?_;rintro⟨q1,i⟩ ⟨hi,hbd⟩;obtain⟨hJ1,hJ2⟩:=hJ i;dsimp only at hi hbd⊢;refine cL ?_;refine CL ?_;refine aB rfl (fun g4=> ?_) (fun g4=> ?_)
 ·have hlt:i<l.length:=by simp at g4;omega
  obtain⟨x,hx⟩:∃x,l[i]? =some x:=⟨_,List.getElem?_eq_getElem hlt⟩
  have hxi:l[i]! =x:=by rw[List.getElem!_eq_getElem?_getD,hx];rfl
  refine fN ?_;refine lp (β:=Nat) (fun k=>⟨[(0,.ro 1 (l.map aX) .any),(3,.own q1 0 (OG l i).length),(4,.int .i64 ((bX (l.take i)).length:Nat)),(5,.int .i64 i),(6,.int .i64 k)],[(q1,.arr 5 1 ((OG l i).map aH))]⟩) (fun k=>i≤k∧k≤l.length∧(i<k→bX (l.take k)=bX (l.take i)++ [List.replicate (k-i) x])) (fun k=>l.length-k) i aK ⟨Nat.le_refl _,hi,fun h=>absurd h (Nat.lt_irrefl _)⟩ ?_;rintro k ⟨hk1,hk2,hk3⟩;refine aP ?_;refine gI [(0,true),(1,true),(2,true),(3,true),(4,true),(5,true),(6,true),(7,true),(8,true),(9,true),(10,true),(11,true),(12,true),(13,true),(14,true)] ?_;refine xN ?_;refine IQ ?_;refine z46 ?_;refine zI ?_;refine xL ?_;refine MF ?_;refine PH ?_;refine xL ?_;refine xL ?_;refine MF ?_;refine PH ?_;refine aBi ?_;refine TW ?_;refine kK ?_;refine aB rfl (fun g6=> ?_) (fun g6=> ?_)
  ·have hkl:k<l.length:=by cases h:decide ((k:Int)<(l.length:Int))with|true=>(simp at h<;>omega)|false=>(rw[h]at g6;cases g6)
   obtain⟨y,hy⟩:∃y,l[k]? =some y:=⟨_,List.getElem?_eq_getElem hkl⟩
   have hyi:l[k]! =y:=by rw[List.getElem!_eq_getElem?_getD,hy];rfl
   have hyx:y=x:=by rw[decide_eq_true (by omega),if_pos rfl,Int.toNat_natCast,hyi]at g6;simpa using g6
   refine oX ?_;refine⟨k+1,⟨by omega,hkl,fun _=> ?_⟩,by show l.length-(k+1)<l.length-k;omega, ?_⟩
   ·rw[hyx]at hy;rcases Nat.lt_or_ge i k with h|h
    ·exact VC h (hk3 h) hy
    ·obtain rfl:k=i:=by omega
     rw[QJ hbd hy,show k+1-k=1 by omega];rfl
   exact aK
  have hxk:l[k]? ≠some x:=by intro h;have hkl:=(List.getElem?_eq_some_iff.1 h).1;rw[decide_eq_true (by omega),if_pos rfl,Int.toNat_natCast,List.getElem!_eq_getElem?_getD,h]at g6;simp at g6
  have hik:i<k:=by rcases Nat.lt_or_ge i k with h|h;exact h;exact absurd (by rw[show k=i by omega];exact hx) hxk
  have hrun:=hk3 hik;have hnx:=aAf hrun hik;have hbk:=aCC hik hrun hxk;obtain⟨hJ3,hJ4⟩:=hJ k;have hcnt:((bX (l.take k)).length:Int)=(bX (l.take i)).length+1:=by rw[hrun];simp
  have hnl:(cB ((k:Int)-i)).length≤5:=bN 4 ((k:Int)-i).toNat (by omega);refine aP ?_;refine gI [(0,true),(1,true),(2,true),(3,true),(6,true),(7,true),(8,true),(9,true),(4,false),(5,false),(10,false),(11,false),(12,false),(13,true)] ?_;refine xN ?_;refine gD rfl (aI (E rfl)) rfl ?_;refine z82 ?_;refine pA ?_;refine LD ?_;refine mU rfl Tryz.call160 (uS ((k:Int)-i) (by omega) (by omega)) rfl bS kI ?_;rintro _ σ' ⟨q33,rfl,rfl⟩ h33
  replace h33:=cO h33;repeat rcases h33 with⟨_,h33⟩
  apply bZ;(exact bF);refine fJ rfl ((OG l i++cB ((k:Int)-i)).map aH) (OG l i++cB ((k:Int)-i)).length ?_;refine bM fun r34 h34=> ?_;repeat rcases h34 with⟨_,h34⟩
  refine YE rfl Tryz.call162 (BR x) rfl bG bK ?_;refine GO ?_;refine aD fun r40 h40=> ?_;repeat rcases h40 with⟨_,h40⟩
  refine fJ rfl ((OG l i++cB ((k:Int)-i)++ [if(x==1)=true then 127 else 126]).map aH) (OG l i++cB ((k:Int)-i)++ [if(x==1)=true then 127 else 126]).length ?_;refine bM fun r41 h41=> ?_;repeat rcases h41 with⟨_,h41⟩
  refine pV ?_;refine gK ?_;refine dG ?_;refine⟨(r41,k),⟨hk2,hbk⟩,by show l.length-k<l.length-i;omega, ?_⟩;dsimp only;rw[hnx,hcnt];exact aK
 obtain rfl:i=l.length:=by simp at g4;omega
 have hv:=uT (k:=.any) (bX (l.take l.length)).length (OG l l.length) (by omega) (by omega);rw[show uB (bX (l.take l.length)).length++OG l l.length=bD (bX l) iG by unfold OG;rw[List.take_length];rfl]at hv;refine cL ?_;refine qQ Tryz.call251 hv rfl bS kI ?_;rintro _ σ' ⟨q2,rfl,rfl⟩ h47
 replace h47:=cO h47;repeat rcases h47 with⟨_,h47⟩
 refine eP ?_;apply aF;exact aG
 ·exact⟨q2,rfl,rfl⟩
 ·exact aA
end Go.Proofs.YtjpdadobblffmaaGreat
