import Derived.Test.YtjpdadobblffmaaGreatCC4
import Derived.ChangeKeysEq
import Derived.Laws.StructEq
set_option linter.unusedSimpArgs false
set_option linter.unusedVariables false
set_option maxRecDepth 100000
set_option maxHeartbeats 4000000
namespace Go.Proofs.YtjpdadobblffmaaGreat
open Go.RowKit Go.ChangeShapes Go.WideShapes Go.ChangeAt Go.Deep
attribute [local irreducible] SW RS RD fG eH
theorem vY(s:St):(gI s).1<4294967296:=by
 have:=(zQ s.1).1;unfold gI;dsimp only;split<;>omega
structure Gets (P:Program) (f:FuncId) (us vs:List AV) (σ:St→dS) {α:Type} (ar:α→AV) (get:St→α×St):Prop where
 call:∀args w,(callFunc f args).run P w=.ok (.enter f args) w
 st:Kp get
 run:∀s,SOk s→SCall P f (us++ []++vs) (σ s) (fun y σ'=>y=ar (get s).1∧σ'=σ (get s).2)
theorem AG{f:FuncId}{us vs:List AV}{r:Nat}{get:St→Int×St}(hg:Gets Tryz.prog f us vs (fun s=>[(r,.box 117 (dH s))]) (fun n=>.int .i64 n) get)(s:St)(hs:SOk s):SCall Tryz.prog 171 [.ptr r 0,.fn (.func f) us vs] [(r,.box 117 (dH s))]
  (fun x σ=>∃q,Fresh q [(r,.box 117 (dH s))]∧x=.own q 0 (fQ get s).1.length∧σ=[(q,.arr 3 1 ((fQ get s).1.map aP)),(r,.box 117 (dH (fQ get s).2))]):=by
 have h1:=jN r s hs;have k1:=iN s hs;have kb:=vY s;have hR:fQ get s=jW get (gI s).1 (gI s).2:=rfl;generalize gI s=p at h1 k1 kb hR;obtain⟨n,s1⟩:=p;dsimp only at h1 k1 kb hR;refine cF 26 [0,1,4,5,6,17] Tryz.func171 ?_;refine oJ ?_;refine bW 5 3 1 (by decide) rfl (by decide) (bL fun q0 hq0=> ?_);repeat rcases hq0 with⟨_,hq0⟩
 refine iC ?_;refine cw [(r,.box 117 (dH s))] Tryz.call68 h1 rfl aC aA ?_;rintro _ σ' ⟨rfl,rfl⟩ h8;refine eZ ?_;refine lp (β:=Nat×Nat×St×List Int) (fun b=>⟨[(0,.ptr r 0),(1,.fn (.func f) us vs),(5,.own b.1 0 b.2.2.2.length),(6,.int .i64 (b.2.1:Nat))],[(b.1,.arr 3 1 (b.2.2.2.map aP)),(r,.box 117 (dH b.2.2.1))]⟩) (fun b=>Fresh b.1 [(r,.box 117 (dH s))]∧SOk b.2.2.1∧b.2.1+b.2.2.2.length≤4294967296∧fQ get s=(b.2.2.2++(jW get b.2.1 b.2.2.1).1,(jW get b.2.1 b.2.2.1).2)) (fun b=>b.2.1) (q0,n,s1,[]) aL ⟨uM,k1,by show n+0≤4294967296;omega,by rw[hR];rfl⟩ ?_;rintro⟨q1,m,⟨l2,b2⟩,acc⟩ ⟨hq1,hs2,hmb,hL⟩;dsimp only at hq1 hs2 hmb hL⊢;have hq2:=hq1;simp only[aO,aT,and_true]at hq2;repeat rcases hq2 with⟨_,hq2⟩
 unfold dH;dsimp only;refine dM ?_;refine vK ?_;refine aB rfl (fun g3=> ?_) (fun g3=> ?_)
 ·obtain rfl:b2=false:=by cases b2 with|false=>rfl|true=>simp at g3
  obtain⟨m,rfl⟩:∃k,m=k+1:=⟨m-1,by simp at g3;omega⟩
  have hrun:=hg.run (l2,false) hs2;have hk:=hg.st (l2,false) hs2;have hl:jW get (m+1) (l2,false)=((get (l2,false)).1::(jW get m (get (l2,false)).2).1,(jW get m (get (l2,false)).2).2):=rfl;rw[hl]at hL;generalize get (l2,false)=p at hrun hk hL;obtain⟨x,s3⟩:=p;dsimp only at hrun hk hL;refine eX ?_;refine qY [(r,.box 117 (dH (l2,false)))] rfl hg.call hrun rfl aC aA ?_;rintro _ σ' ⟨rfl,rfl⟩ h22;apply aY;exact bN;refine eN fun r23 h23=> ?_;intros
  refine iY ((acc++ [x]).map aP) (acc++ [x]).length ?_;refine bH fun r24 h24=> ?_;intros
  refine hZ ?_;refine tA ?_;rw[show((m+1:Nat):Int)-1=(m:Nat) by omega];refine dE ?_;refine⟨(r24,m,s3,acc++ [x]),⟨uM,hk,by show m+(acc++ [x]).length≤4294967296;simp;omega,by rw[hL];simp⟩,Nat.lt_succ_self _, ?_⟩;dsimp only;exact aL
 have hz:jW get m (l2,b2)=([],(l2,b2)):=by cases m with|zero=>rfl|succ m=>(cases b2 with|true=>rfl|false=>(simp at g3<;>omega))
 have hE:fQ get s=(acc,(l2,b2)):=by rw[hL,hz];simp
 refine fA ?_;exact aE aF ⟨q1,hq1,by rw[hE];rfl,by rw[hE]⟩ aA
theorem aFm{f:FuncId}{us vs:List AV}{r:Nat}{get:St→FT×St}(hg:Gets Tryz.prog f us vs (fun s=>[(r,.box 117 (dH s))]) (fun x=>.agg (dD x)) get)(s:St)(hs:SOk s):SCall Tryz.prog 167 [.ptr r 0,.fn (.func f) us vs] [(r,.box 117 (dH s))]
  (fun x σ=>∃q,Fresh q [(r,.box 117 (dH s))]∧x=.own q 0 (fQ get s).1.length∧σ=[(q,.arr 50 2 ((fQ get s).1.map dD)),(r,.box 117 (dH (fQ get s).2))]):=by
 have h1:=jN r s hs;have k1:=iN s hs;have kb:=vY s;have hR:fQ get s=jW get (gI s).1 (gI s).2:=rfl;generalize gI s=p at h1 k1 kb hR;obtain⟨n,s1⟩:=p;dsimp only at h1 k1 kb hR;refine cF 26 [0,1,4,5,6,17] Tryz.func167 ?_;refine oJ ?_;refine bW 5 50 2 (by decide) rfl (by decide) (bL fun q0 hq0=> ?_);repeat rcases hq0 with⟨_,hq0⟩
 refine iC ?_;refine cw [(r,.box 117 (dH s))] Tryz.call68 h1 rfl aC aA ?_;rintro _ σ' ⟨rfl,rfl⟩ h8;refine eZ ?_;refine lp (β:=Nat×Nat×St×List FT) (fun b=>⟨[(0,.ptr r 0),(1,.fn (.func f) us vs),(5,.own b.1 0 b.2.2.2.length),(6,.int .i64 (b.2.1:Nat))],[(b.1,.arr 50 2 (b.2.2.2.map dD)),(r,.box 117 (dH b.2.2.1))]⟩) (fun b=>Fresh b.1 [(r,.box 117 (dH s))]∧SOk b.2.2.1∧b.2.1+b.2.2.2.length≤4294967296∧fQ get s=(b.2.2.2++(jW get b.2.1 b.2.2.1).1,(jW get b.2.1 b.2.2.1).2)) (fun b=>b.2.1) (q0,n,s1,[]) aL ⟨uM,k1,by show n+0≤4294967296;omega,by rw[hR];rfl⟩ ?_;rintro⟨q1,m,⟨l2,b2⟩,acc⟩ ⟨hq1,hs2,hmb,hL⟩;dsimp only at hq1 hs2 hmb hL⊢;have hq2:=hq1;simp only[aO,aT,and_true]at hq2;repeat rcases hq2 with⟨_,hq2⟩
 unfold dH;dsimp only;refine dM ?_;refine vK ?_;refine aB rfl (fun g3=> ?_) (fun g3=> ?_)
 ·obtain rfl:b2=false:=by cases b2 with|false=>rfl|true=>simp at g3
  obtain⟨m,rfl⟩:∃k,m=k+1:=⟨m-1,by simp at g3;omega⟩
  have hrun:=hg.run (l2,false) hs2;have hk:=hg.st (l2,false) hs2;have hl:jW get (m+1) (l2,false)=((get (l2,false)).1::(jW get m (get (l2,false)).2).1,(jW get m (get (l2,false)).2).2):=rfl;rw[hl]at hL;generalize get (l2,false)=p at hrun hk hL;obtain⟨x,s3⟩:=p;dsimp only at hrun hk hL;refine eX ?_;refine qY [(r,.box 117 (dH (l2,false)))] rfl hg.call hrun rfl aC aA ?_;rintro _ σ' ⟨rfl,rfl⟩ h22;apply aY;exact bN;refine eN fun r23 h23=> ?_;intros
  refine iY ((acc++ [x]).map dD) (acc++ [x]).length ?_;refine bH fun r24 h24=> ?_;intros
  refine hZ ?_;refine tA ?_;rw[show((m+1:Nat):Int)-1=(m:Nat) by omega];refine dE ?_;refine⟨(r24,m,s3,acc++ [x]),⟨uM,hk,by show m+(acc++ [x]).length≤4294967296;simp;omega,by rw[hL];simp⟩,Nat.lt_succ_self _, ?_⟩;dsimp only;exact aL
 have hz:jW get m (l2,b2)=([],(l2,b2)):=by cases m with|zero=>rfl|succ m=>(cases b2 with|true=>rfl|false=>(simp at g3<;>omega))
 have hE:fQ get s=(acc,(l2,b2)):=by rw[hL,hz];simp
 refine fA ?_;exact aE aF ⟨q1,hq1,by rw[hE];rfl,by rw[hE]⟩ aA
theorem aFn{f:FuncId}{us vs:List AV}{r:Nat}{get:St→Im×St}(hg:Gets Tryz.prog f us vs (fun s=>[(r,.box 117 (dH s))]) (fun x=>.agg (eM x)) get)(s:St)(hs:SOk s):SCall Tryz.prog 169 [.ptr r 0,.fn (.func f) us vs] [(r,.box 117 (dH s))]
  (fun x σ=>∃q,Fresh q [(r,.box 117 (dH s))]∧x=.own q 0 (fQ get s).1.length∧σ=[(q,.arr 64 3 ((fQ get s).1.map eM)),(r,.box 117 (dH (fQ get s).2))]):=by
 have h1:=jN r s hs;have k1:=iN s hs;have kb:=vY s;have hR:fQ get s=jW get (gI s).1 (gI s).2:=rfl;generalize gI s=p at h1 k1 kb hR;obtain⟨n,s1⟩:=p;dsimp only at h1 k1 kb hR;refine cF 26 [0,1,4,5,6,17] Tryz.func169 ?_;refine oJ ?_;refine bW 5 64 3 (by decide) rfl (by decide) (bL fun q0 hq0=> ?_);repeat rcases hq0 with⟨_,hq0⟩
 refine iC ?_;refine cw [(r,.box 117 (dH s))] Tryz.call68 h1 rfl aC aA ?_;rintro _ σ' ⟨rfl,rfl⟩ h8;refine eZ ?_;refine lp (β:=Nat×Nat×St×List Im) (fun b=>⟨[(0,.ptr r 0),(1,.fn (.func f) us vs),(5,.own b.1 0 b.2.2.2.length),(6,.int .i64 (b.2.1:Nat))],[(b.1,.arr 64 3 (b.2.2.2.map eM)),(r,.box 117 (dH b.2.2.1))]⟩) (fun b=>Fresh b.1 [(r,.box 117 (dH s))]∧SOk b.2.2.1∧b.2.1+b.2.2.2.length≤4294967296∧fQ get s=(b.2.2.2++(jW get b.2.1 b.2.2.1).1,(jW get b.2.1 b.2.2.1).2)) (fun b=>b.2.1) (q0,n,s1,[]) aL ⟨uM,k1,by show n+0≤4294967296;omega,by rw[hR];rfl⟩ ?_;rintro⟨q1,m,⟨l2,b2⟩,acc⟩ ⟨hq1,hs2,hmb,hL⟩;dsimp only at hq1 hs2 hmb hL⊢;have hq2:=hq1;simp only[aO,aT,and_true]at hq2;repeat rcases hq2 with⟨_,hq2⟩
 unfold dH;dsimp only;refine dM ?_;refine vK ?_;refine aB rfl (fun g3=> ?_) (fun g3=> ?_)
 ·obtain rfl:b2=false:=by cases b2 with|false=>rfl|true=>simp at g3
  obtain⟨m,rfl⟩:∃k,m=k+1:=⟨m-1,by simp at g3;omega⟩
  have hrun:=hg.run (l2,false) hs2;have hk:=hg.st (l2,false) hs2;have hl:jW get (m+1) (l2,false)=((get (l2,false)).1::(jW get m (get (l2,false)).2).1,(jW get m (get (l2,false)).2).2):=rfl;rw[hl]at hL;generalize get (l2,false)=p at hrun hk hL;obtain⟨x,s3⟩:=p;dsimp only at hrun hk hL;refine eX ?_;refine qY [(r,.box 117 (dH (l2,false)))] rfl hg.call hrun rfl aC aA ?_;rintro _ σ' ⟨rfl,rfl⟩ h22;apply aY;exact bN;refine eN fun r23 h23=> ?_;intros
  refine iY ((acc++ [x]).map eM) (acc++ [x]).length ?_;refine bH fun r24 h24=> ?_;intros
  refine hZ ?_;refine tA ?_;rw[show((m+1:Nat):Int)-1=(m:Nat) by omega];refine dE ?_;refine⟨(r24,m,s3,acc++ [x]),⟨uM,hk,by show m+(acc++ [x]).length≤4294967296;simp;omega,by rw[hL];simp⟩,Nat.lt_succ_self _, ?_⟩;dsimp only;exact aL
 have hz:jW get m (l2,b2)=([],(l2,b2)):=by cases m with|zero=>rfl|succ m=>(cases b2 with|true=>rfl|false=>(simp at g3<;>omega))
 have hE:fQ get s=(acc,(l2,b2)):=by rw[hL,hz];simp
 refine fA ?_;exact aE aF ⟨q1,hq1,by rw[hE];rfl,by rw[hE]⟩ aA
theorem aFo{f:FuncId}{us vs:List AV}{r:Nat}{get:St→Gl×St}(hg:Gets Tryz.prog f us vs (fun s=>[(r,.box 117 (dH s))]) (fun x=>.agg (dZ x)) get)(s:St)(hs:SOk s):SCall Tryz.prog 173 [.ptr r 0,.fn (.func f) us vs] [(r,.box 117 (dH s))]
  (fun x σ=>∃q,Fresh q [(r,.box 117 (dH s))]∧x=.own q 0 (fQ get s).1.length∧σ=[(q,.arr 73 3 ((fQ get s).1.map dZ)),(r,.box 117 (dH (fQ get s).2))]):=by
 have h1:=jN r s hs;have k1:=iN s hs;have kb:=vY s;have hR:fQ get s=jW get (gI s).1 (gI s).2:=rfl;generalize gI s=p at h1 k1 kb hR;obtain⟨n,s1⟩:=p;dsimp only at h1 k1 kb hR;refine cF 26 [0,1,4,5,6,17] Tryz.func173 ?_;refine oJ ?_;refine bW 5 73 3 (by decide) rfl (by decide) (bL fun q0 hq0=> ?_);repeat rcases hq0 with⟨_,hq0⟩
 refine iC ?_;refine cw [(r,.box 117 (dH s))] Tryz.call68 h1 rfl aC aA ?_;rintro _ σ' ⟨rfl,rfl⟩ h8;refine eZ ?_;refine lp (β:=Nat×Nat×St×List Gl) (fun b=>⟨[(0,.ptr r 0),(1,.fn (.func f) us vs),(5,.own b.1 0 b.2.2.2.length),(6,.int .i64 (b.2.1:Nat))],[(b.1,.arr 73 3 (b.2.2.2.map dZ)),(r,.box 117 (dH b.2.2.1))]⟩) (fun b=>Fresh b.1 [(r,.box 117 (dH s))]∧SOk b.2.2.1∧b.2.1+b.2.2.2.length≤4294967296∧fQ get s=(b.2.2.2++(jW get b.2.1 b.2.2.1).1,(jW get b.2.1 b.2.2.1).2)) (fun b=>b.2.1) (q0,n,s1,[]) aL ⟨uM,k1,by show n+0≤4294967296;omega,by rw[hR];rfl⟩ ?_;rintro⟨q1,m,⟨l2,b2⟩,acc⟩ ⟨hq1,hs2,hmb,hL⟩;dsimp only at hq1 hs2 hmb hL⊢;have hq2:=hq1;simp only[aO,aT,and_true]at hq2;repeat rcases hq2 with⟨_,hq2⟩
 unfold dH;dsimp only;refine dM ?_;refine vK ?_;refine aB rfl (fun g3=> ?_) (fun g3=> ?_)
 ·obtain rfl:b2=false:=by cases b2 with|false=>rfl|true=>simp at g3
  obtain⟨m,rfl⟩:∃k,m=k+1:=⟨m-1,by simp at g3;omega⟩
  have hrun:=hg.run (l2,false) hs2;have hk:=hg.st (l2,false) hs2;have hl:jW get (m+1) (l2,false)=((get (l2,false)).1::(jW get m (get (l2,false)).2).1,(jW get m (get (l2,false)).2).2):=rfl;rw[hl]at hL;generalize get (l2,false)=p at hrun hk hL;obtain⟨x,s3⟩:=p;dsimp only at hrun hk hL;refine eX ?_;refine qY [(r,.box 117 (dH (l2,false)))] rfl hg.call hrun rfl aC aA ?_;rintro _ σ' ⟨rfl,rfl⟩ h22;apply aY;exact bN;refine eN fun r23 h23=> ?_;intros
  refine iY ((acc++ [x]).map dZ) (acc++ [x]).length ?_;refine bH fun r24 h24=> ?_;intros
  refine hZ ?_;refine tA ?_;rw[show((m+1:Nat):Int)-1=(m:Nat) by omega];refine dE ?_;refine⟨(r24,m,s3,acc++ [x]),⟨uM,hk,by show m+(acc++ [x]).length≤4294967296;simp;omega,by rw[hL];simp⟩,Nat.lt_succ_self _, ?_⟩;dsimp only;exact aL
 have hz:jW get m (l2,b2)=([],(l2,b2)):=by cases m with|zero=>rfl|succ m=>(cases b2 with|true=>rfl|false=>(simp at g3<;>omega))
 have hE:fQ get s=(acc,(l2,b2)):=by rw[hL,hz];simp
 refine fA ?_;exact aE aF ⟨q1,hq1,by rw[hE];rfl,by rw[hE]⟩ aA
theorem aFp{f:FuncId}{us vs:List AV}{r:Nat}{get:St→Ex×St}(hg:Gets Tryz.prog f us vs (fun s=>[(r,.box 117 (dH s))]) (fun x=>.agg (eA x)) get)(s:St)(hs:SOk s):SCall Tryz.prog 175 [.ptr r 0,.fn (.func f) us vs] [(r,.box 117 (dH s))]
  (fun x σ=>∃q,Fresh q [(r,.box 117 (dH s))]∧x=.own q 0 (fQ get s).1.length∧σ=[(q,.arr 66 2 ((fQ get s).1.map eA)),(r,.box 117 (dH (fQ get s).2))]):=by
 have h1:=jN r s hs;have k1:=iN s hs;have kb:=vY s;have hR:fQ get s=jW get (gI s).1 (gI s).2:=rfl;generalize gI s=p at h1 k1 kb hR;obtain⟨n,s1⟩:=p;dsimp only at h1 k1 kb hR;refine cF 26 [0,1,4,5,6,17] Tryz.func175 ?_;refine oJ ?_;refine bW 5 66 2 (by decide) rfl (by decide) (bL fun q0 hq0=> ?_);repeat rcases hq0 with⟨_,hq0⟩
 refine iC ?_;refine cw [(r,.box 117 (dH s))] Tryz.call68 h1 rfl aC aA ?_;rintro _ σ' ⟨rfl,rfl⟩ h8;refine eZ ?_;refine lp (β:=Nat×Nat×St×List Ex) (fun b=>⟨[(0,.ptr r 0),(1,.fn (.func f) us vs),(5,.own b.1 0 b.2.2.2.length),(6,.int .i64 (b.2.1:Nat))],[(b.1,.arr 66 2 (b.2.2.2.map eA)),(r,.box 117 (dH b.2.2.1))]⟩) (fun b=>Fresh b.1 [(r,.box 117 (dH s))]∧SOk b.2.2.1∧b.2.1+b.2.2.2.length≤4294967296∧fQ get s=(b.2.2.2++(jW get b.2.1 b.2.2.1).1,(jW get b.2.1 b.2.2.1).2)) (fun b=>b.2.1) (q0,n,s1,[]) aL ⟨uM,k1,by show n+0≤4294967296;omega,by rw[hR];rfl⟩ ?_;rintro⟨q1,m,⟨l2,b2⟩,acc⟩ ⟨hq1,hs2,hmb,hL⟩;dsimp only at hq1 hs2 hmb hL⊢;have hq2:=hq1;simp only[aO,aT,and_true]at hq2;repeat rcases hq2 with⟨_,hq2⟩
 unfold dH;dsimp only;refine dM ?_;refine vK ?_;refine aB rfl (fun g3=> ?_) (fun g3=> ?_)
 ·obtain rfl:b2=false:=by cases b2 with|false=>rfl|true=>simp at g3
  obtain⟨m,rfl⟩:∃k,m=k+1:=⟨m-1,by simp at g3;omega⟩
  have hrun:=hg.run (l2,false) hs2;have hk:=hg.st (l2,false) hs2;have hl:jW get (m+1) (l2,false)=((get (l2,false)).1::(jW get m (get (l2,false)).2).1,(jW get m (get (l2,false)).2).2):=rfl;rw[hl]at hL;generalize get (l2,false)=p at hrun hk hL;obtain⟨x,s3⟩:=p;dsimp only at hrun hk hL;refine eX ?_;refine qY [(r,.box 117 (dH (l2,false)))] rfl hg.call hrun rfl aC aA ?_;rintro _ σ' ⟨rfl,rfl⟩ h22;apply aY;exact bN;refine eN fun r23 h23=> ?_;intros
  refine iY ((acc++ [x]).map eA) (acc++ [x]).length ?_;refine bH fun r24 h24=> ?_;intros
  refine hZ ?_;refine tA ?_;rw[show((m+1:Nat):Int)-1=(m:Nat) by omega];refine dE ?_;refine⟨(r24,m,s3,acc++ [x]),⟨uM,hk,by show m+(acc++ [x]).length≤4294967296;simp;omega,by rw[hL];simp⟩,Nat.lt_succ_self _, ?_⟩;dsimp only;exact aL
 have hz:jW get m (l2,b2)=([],(l2,b2)):=by cases m with|zero=>rfl|succ m=>(cases b2 with|true=>rfl|false=>(simp at g3<;>omega))
 have hE:fQ get s=(acc,(l2,b2)):=by rw[hL,hz];simp
 refine fA ?_;exact aE aF ⟨q1,hq1,by rw[hE];rfl,by rw[hE]⟩ aA
theorem aFq{f:FuncId}{us vs:List AV}{r:Nat}{get:St→Co×St}(hg:Gets Tryz.prog f us vs (fun s=>[(r,.box 117 (dH s))]) (fun x=>.agg (dA x)) get)(s:St)(hs:SOk s):SCall Tryz.prog 180 [.ptr r 0,.fn (.func f) us vs] [(r,.box 117 (dH s))]
  (fun x σ=>∃q,Fresh q [(r,.box 117 (dH s))]∧x=.own q 0 (fQ get s).1.length∧σ=[(q,.arr 44 2 ((fQ get s).1.map dA)),(r,.box 117 (dH (fQ get s).2))]):=by
 have h1:=jN r s hs;have k1:=iN s hs;have kb:=vY s;have hR:fQ get s=jW get (gI s).1 (gI s).2:=rfl;generalize gI s=p at h1 k1 kb hR;obtain⟨n,s1⟩:=p;dsimp only at h1 k1 kb hR;refine cF 26 [0,1,4,5,6,17] Tryz.func180 ?_;refine oJ ?_;refine bW 5 44 2 (by decide) rfl (by decide) (bL fun q0 hq0=> ?_);repeat rcases hq0 with⟨_,hq0⟩
 refine iC ?_;refine cw [(r,.box 117 (dH s))] Tryz.call68 h1 rfl aC aA ?_;rintro _ σ' ⟨rfl,rfl⟩ h8;refine eZ ?_;refine lp (β:=Nat×Nat×St×List Co) (fun b=>⟨[(0,.ptr r 0),(1,.fn (.func f) us vs),(5,.own b.1 0 b.2.2.2.length),(6,.int .i64 (b.2.1:Nat))],[(b.1,.arr 44 2 (b.2.2.2.map dA)),(r,.box 117 (dH b.2.2.1))]⟩) (fun b=>Fresh b.1 [(r,.box 117 (dH s))]∧SOk b.2.2.1∧b.2.1+b.2.2.2.length≤4294967296∧fQ get s=(b.2.2.2++(jW get b.2.1 b.2.2.1).1,(jW get b.2.1 b.2.2.1).2)) (fun b=>b.2.1) (q0,n,s1,[]) aL ⟨uM,k1,by show n+0≤4294967296;omega,by rw[hR];rfl⟩ ?_;rintro⟨q1,m,⟨l2,b2⟩,acc⟩ ⟨hq1,hs2,hmb,hL⟩;dsimp only at hq1 hs2 hmb hL⊢;have hq2:=hq1;simp only[aO,aT,and_true]at hq2;repeat rcases hq2 with⟨_,hq2⟩
 unfold dH;dsimp only;refine dM ?_;refine vK ?_;refine aB rfl (fun g3=> ?_) (fun g3=> ?_)
 ·obtain rfl:b2=false:=by cases b2 with|false=>rfl|true=>simp at g3
  obtain⟨m,rfl⟩:∃k,m=k+1:=⟨m-1,by simp at g3;omega⟩
  have hrun:=hg.run (l2,false) hs2;have hk:=hg.st (l2,false) hs2;have hl:jW get (m+1) (l2,false)=((get (l2,false)).1::(jW get m (get (l2,false)).2).1,(jW get m (get (l2,false)).2).2):=rfl;rw[hl]at hL;generalize get (l2,false)=p at hrun hk hL;obtain⟨x,s3⟩:=p;dsimp only at hrun hk hL;refine eX ?_;refine qY [(r,.box 117 (dH (l2,false)))] rfl hg.call hrun rfl aC aA ?_;rintro _ σ' ⟨rfl,rfl⟩ h22;apply aY;exact bN;refine eN fun r23 h23=> ?_;intros
  refine iY ((acc++ [x]).map dA) (acc++ [x]).length ?_;refine bH fun r24 h24=> ?_;intros
  refine hZ ?_;refine tA ?_;rw[show((m+1:Nat):Int)-1=(m:Nat) by omega];refine dE ?_;refine⟨(r24,m,s3,acc++ [x]),⟨uM,hk,by show m+(acc++ [x]).length≤4294967296;simp;omega,by rw[hL];simp⟩,Nat.lt_succ_self _, ?_⟩;dsimp only;exact aL
 have hz:jW get m (l2,b2)=([],(l2,b2)):=by cases m with|zero=>rfl|succ m=>(cases b2 with|true=>rfl|false=>(simp at g3<;>omega))
 have hE:fQ get s=(acc,(l2,b2)):=by rw[hL,hz];simp
 refine fA ?_;exact aE aF ⟨q1,hq1,by rw[hE];rfl,by rw[hE]⟩ aA
theorem aFr{f:FuncId}{us vs:List AV}{r:Nat}{c:Nat}(hc:Nq r c){get:St→El×St}(hg:Gets Tryz.prog f us vs (fun s=>[(r,.box 117 (dH s)),(c,.box 114 [.ptr r 0])]) (fun x=>.agg (dY x)) get)(s:St)(hs:SOk s):SCall Tryz.prog 177 [.ptr r 0,.fn (.func f) us vs] [(r,.box 117 (dH s)),(c,.box 114 [.ptr r 0])]
  (fun x σ=>∃q,Fresh q [(r,.box 117 (dH s)),(c,.box 114 [.ptr r 0])]∧x=.own q 0 (fQ get s).1.length∧σ=[(q,.arr 69 2 ((fQ get s).1.map dY)),(r,.box 117 (dH (fQ get s).2)),(c,.box 114 [.ptr r 0])]):=by
 have h1:=jN r s hs;have k1:=iN s hs;have kb:=vY s;have hR:fQ get s=jW get (gI s).1 (gI s).2:=rfl;generalize gI s=p at h1 k1 kb hR;obtain⟨n,s1⟩:=p;dsimp only at h1 k1 kb hR;refine cF 26 [0,1,4,5,6,17] Tryz.func177 ?_;refine oJ ?_;refine bW 5 69 2 (by decide) rfl (by decide) (bL fun q0 hq0=> ?_);repeat rcases hq0 with⟨_,hq0⟩
 refine iC ?_;refine cw [(r,.box 117 (dH s))] Tryz.call68 h1 rfl aC aA ?_;rintro _ σ' ⟨rfl,rfl⟩ h8;refine eZ ?_;refine lp (β:=Nat×Nat×St×List El) (fun b=>⟨[(0,.ptr r 0),(1,.fn (.func f) us vs),(5,.own b.1 0 b.2.2.2.length),(6,.int .i64 (b.2.1:Nat))],[(b.1,.arr 69 2 (b.2.2.2.map dY)),(r,.box 117 (dH b.2.2.1)),(c,.box 114 [.ptr r 0])]⟩) (fun b=>Fresh b.1 [(r,.box 117 (dH s)),(c,.box 114 [.ptr r 0])]∧SOk b.2.2.1∧b.2.1+b.2.2.2.length≤4294967296∧fQ get s=(b.2.2.2++(jW get b.2.1 b.2.2.1).1,(jW get b.2.1 b.2.2.1).2)) (fun b=>b.2.1) (q0,n,s1,[]) aL ⟨uM,k1,by show n+0≤4294967296;omega,by rw[hR];rfl⟩ ?_;rintro⟨q1,m,⟨l2,b2⟩,acc⟩ ⟨hq1,hs2,hmb,hL⟩;dsimp only at hq1 hs2 hmb hL⊢;have hq2:=hq1;simp only[aO,aT,and_true]at hq2;repeat rcases hq2 with⟨_,hq2⟩
 unfold dH;dsimp only;refine dM ?_;refine vK ?_;refine aB rfl (fun g3=> ?_) (fun g3=> ?_)
 ·obtain rfl:b2=false:=by cases b2 with|false=>rfl|true=>simp at g3
  obtain⟨m,rfl⟩:∃k,m=k+1:=⟨m-1,by simp at g3;omega⟩
  have hrun:=hg.run (l2,false) hs2;have hk:=hg.st (l2,false) hs2;have hl:jW get (m+1) (l2,false)=((get (l2,false)).1::(jW get m (get (l2,false)).2).1,(jW get m (get (l2,false)).2).2):=rfl;rw[hl]at hL;generalize get (l2,false)=p at hrun hk hL;obtain⟨x,s3⟩:=p;dsimp only at hrun hk hL;refine eX ?_;refine qY [(r,.box 117 (dH (l2,false))),(c,.box 114 [.ptr r 0])] rfl hg.call hrun rfl aC aA ?_;rintro _ σ' ⟨rfl,rfl⟩ h22;apply aY;exact bN;refine eN fun r23 h23=> ?_;intros
  refine iY ((acc++ [x]).map dY) (acc++ [x]).length ?_;refine bH fun r24 h24=> ?_;intros
  refine hZ ?_;refine tA ?_;rw[show((m+1:Nat):Int)-1=(m:Nat) by omega];refine dE ?_;refine⟨(r24,m,s3,acc++ [x]),⟨uM,hk,by show m+(acc++ [x]).length≤4294967296;simp;omega,by rw[hL];simp⟩,Nat.lt_succ_self _, ?_⟩;dsimp only;exact aL
 have hz:jW get m (l2,b2)=([],(l2,b2)):=by cases m with|zero=>rfl|succ m=>(cases b2 with|true=>rfl|false=>(simp at g3<;>omega))
 have hE:fQ get s=(acc,(l2,b2)):=by rw[hL,hz];simp
 refine fA ?_;exact aE aF ⟨q1,hq1,by rw[hE];rfl,by rw[hE]⟩ aA
theorem aFs{f:FuncId}{us vs:List AV}{r:Nat}{c:Nat}(hc:Nq r c){get:St→Da×St}(hg:Gets Tryz.prog f us vs (fun s=>[(r,.box 117 (dH s)),(c,.box 114 [.ptr r 0])]) (fun x=>.agg (eB x)) get)(s:St)(hs:SOk s):SCall Tryz.prog 182 [.ptr r 0,.fn (.func f) us vs] [(r,.box 117 (dH s)),(c,.box 114 [.ptr r 0])]
  (fun x σ=>∃q,Fresh q [(r,.box 117 (dH s)),(c,.box 114 [.ptr r 0])]∧x=.own q 0 (fQ get s).1.length∧σ=[(q,.arr 48 2 ((fQ get s).1.map eB)),(r,.box 117 (dH (fQ get s).2)),(c,.box 114 [.ptr r 0])]):=by
 have h1:=jN r s hs;have k1:=iN s hs;have kb:=vY s;have hR:fQ get s=jW get (gI s).1 (gI s).2:=rfl;generalize gI s=p at h1 k1 kb hR;obtain⟨n,s1⟩:=p;dsimp only at h1 k1 kb hR;refine cF 26 [0,1,4,5,6,17] Tryz.func182 ?_;refine oJ ?_;refine bW 5 48 2 (by decide) rfl (by decide) (bL fun q0 hq0=> ?_);repeat rcases hq0 with⟨_,hq0⟩
 refine iC ?_;refine cw [(r,.box 117 (dH s))] Tryz.call68 h1 rfl aC aA ?_;rintro _ σ' ⟨rfl,rfl⟩ h8;refine eZ ?_;refine lp (β:=Nat×Nat×St×List Da) (fun b=>⟨[(0,.ptr r 0),(1,.fn (.func f) us vs),(5,.own b.1 0 b.2.2.2.length),(6,.int .i64 (b.2.1:Nat))],[(b.1,.arr 48 2 (b.2.2.2.map eB)),(r,.box 117 (dH b.2.2.1)),(c,.box 114 [.ptr r 0])]⟩) (fun b=>Fresh b.1 [(r,.box 117 (dH s)),(c,.box 114 [.ptr r 0])]∧SOk b.2.2.1∧b.2.1+b.2.2.2.length≤4294967296∧fQ get s=(b.2.2.2++(jW get b.2.1 b.2.2.1).1,(jW get b.2.1 b.2.2.1).2)) (fun b=>b.2.1) (q0,n,s1,[]) aL ⟨uM,k1,by show n+0≤4294967296;omega,by rw[hR];rfl⟩ ?_;rintro⟨q1,m,⟨l2,b2⟩,acc⟩ ⟨hq1,hs2,hmb,hL⟩;dsimp only at hq1 hs2 hmb hL⊢;have hq2:=hq1;simp only[aO,aT,and_true]at hq2;repeat rcases hq2 with⟨_,hq2⟩
 unfold dH;dsimp only;refine dM ?_;refine vK ?_;refine aB rfl (fun g3=> ?_) (fun g3=> ?_)
 ·obtain rfl:b2=false:=by cases b2 with|false=>rfl|true=>simp at g3
  obtain⟨m,rfl⟩:∃k,m=k+1:=⟨m-1,by simp at g3;omega⟩
  have hrun:=hg.run (l2,false) hs2;have hk:=hg.st (l2,false) hs2;have hl:jW get (m+1) (l2,false)=((get (l2,false)).1::(jW get m (get (l2,false)).2).1,(jW get m (get (l2,false)).2).2):=rfl;rw[hl]at hL;generalize get (l2,false)=p at hrun hk hL;obtain⟨x,s3⟩:=p;dsimp only at hrun hk hL;refine eX ?_;refine qY [(r,.box 117 (dH (l2,false))),(c,.box 114 [.ptr r 0])] rfl hg.call hrun rfl aC aA ?_;rintro _ σ' ⟨rfl,rfl⟩ h22;apply aY;exact bN;refine eN fun r23 h23=> ?_;intros
  refine iY ((acc++ [x]).map eB) (acc++ [x]).length ?_;refine bH fun r24 h24=> ?_;intros
  refine hZ ?_;refine tA ?_;rw[show((m+1:Nat):Int)-1=(m:Nat) by omega];refine dE ?_;refine⟨(r24,m,s3,acc++ [x]),⟨uM,hk,by show m+(acc++ [x]).length≤4294967296;simp;omega,by rw[hL];simp⟩,Nat.lt_succ_self _, ?_⟩;dsimp only;exact aL
 have hz:jW get m (l2,b2)=([],(l2,b2)):=by cases m with|zero=>rfl|succ m=>(cases b2 with|true=>rfl|false=>(simp at g3<;>omega))
 have hE:fQ get s=(acc,(l2,b2)):=by rw[hL,hz];simp
 refine fA ?_;exact aE aF ⟨q1,hq1,by rw[hE];rfl,by rw[hE]⟩ aA
theorem aFt{f:FuncId}{us vs:List AV}{r:Nat}{c d:Nat}{before:Bool}(hc:Nq r c)(hd:Nq r d)(hcd:Nq c d){get:St→Li×St}(hg:Gets Tryz.prog f us vs (fun s=>[(r,.box 117 (dH s)),(c,.box 4 [.bool before]),(d,.box 114 [.ptr r 0])]) (fun x=>.agg (fC x)) get)(s:St)(hs:SOk s):SCall Tryz.prog 261 [.ptr r 0,.fn (.func f) us vs] [(r,.box 117 (dH s)),(c,.box 4 [.bool before]),(d,.box 114 [.ptr r 0])]
  (fun x σ=>∃q,Fresh q [(r,.box 117 (dH s)),(c,.box 4 [.bool before]),(d,.box 114 [.ptr r 0])]∧x=.own q 0 (fQ get s).1.length∧σ=[(q,.arr 26 3 ((fQ get s).1.map fC)),(r,.box 117 (dH (fQ get s).2)),(c,.box 4 [.bool before]),(d,.box 114 [.ptr r 0])]):=by
 have h1:=jN r s hs;have k1:=iN s hs;have kb:=vY s;have hR:fQ get s=jW get (gI s).1 (gI s).2:=rfl;generalize gI s=p at h1 k1 kb hR;obtain⟨n,s1⟩:=p;dsimp only at h1 k1 kb hR;refine cF 26 [0,1,4,5,6,17] Tryz.func261 ?_;refine oJ ?_;refine bW 5 26 3 (by decide) rfl (by decide) (bL fun q0 hq0=> ?_);repeat rcases hq0 with⟨_,hq0⟩
 refine iC ?_;refine cw [(r,.box 117 (dH s))] Tryz.call68 h1 rfl aC aA ?_;rintro _ σ' ⟨rfl,rfl⟩ h8;refine eZ ?_;refine lp (β:=Nat×Nat×St×List Li) (fun b=>⟨[(0,.ptr r 0),(1,.fn (.func f) us vs),(5,.own b.1 0 b.2.2.2.length),(6,.int .i64 (b.2.1:Nat))],[(b.1,.arr 26 3 (b.2.2.2.map fC)),(r,.box 117 (dH b.2.2.1)),(c,.box 4 [.bool before]),(d,.box 114 [.ptr r 0])]⟩) (fun b=>Fresh b.1 [(r,.box 117 (dH s)),(c,.box 4 [.bool before]),(d,.box 114 [.ptr r 0])]∧SOk b.2.2.1∧b.2.1+b.2.2.2.length≤4294967296∧fQ get s=(b.2.2.2++(jW get b.2.1 b.2.2.1).1,(jW get b.2.1 b.2.2.1).2)) (fun b=>b.2.1) (q0,n,s1,[]) aL ⟨uM,k1,by show n+0≤4294967296;omega,by rw[hR];rfl⟩ ?_;rintro⟨q1,m,⟨l2,b2⟩,acc⟩ ⟨hq1,hs2,hmb,hL⟩;dsimp only at hq1 hs2 hmb hL⊢;have hq2:=hq1;simp only[aO,aT,and_true]at hq2;repeat rcases hq2 with⟨_,hq2⟩
 unfold dH;dsimp only;refine dM ?_;refine vK ?_;refine aB rfl (fun g3=> ?_) (fun g3=> ?_)
 ·obtain rfl:b2=false:=by cases b2 with|false=>rfl|true=>simp at g3
  obtain⟨m,rfl⟩:∃k,m=k+1:=⟨m-1,by simp at g3;omega⟩
  have hrun:=hg.run (l2,false) hs2;have hk:=hg.st (l2,false) hs2;have hl:jW get (m+1) (l2,false)=((get (l2,false)).1::(jW get m (get (l2,false)).2).1,(jW get m (get (l2,false)).2).2):=rfl;rw[hl]at hL;generalize get (l2,false)=p at hrun hk hL;obtain⟨x,s3⟩:=p;dsimp only at hrun hk hL;refine eX ?_;refine qY [(r,.box 117 (dH (l2,false))),(c,.box 4 [.bool before]),(d,.box 114 [.ptr r 0])] rfl hg.call hrun rfl aC aA ?_;rintro _ σ' ⟨rfl,rfl⟩ h22;apply aY;exact bN;refine eN fun r23 h23=> ?_;intros
  refine iY ((acc++ [x]).map fC) (acc++ [x]).length ?_;refine bH fun r24 h24=> ?_;intros
  refine hZ ?_;refine tA ?_;rw[show((m+1:Nat):Int)-1=(m:Nat) by omega];refine dE ?_;refine⟨(r24,m,s3,acc++ [x]),⟨uM,hk,by show m+(acc++ [x]).length≤4294967296;simp;omega,by rw[hL];simp⟩,Nat.lt_succ_self _, ?_⟩;dsimp only;exact aL
 have hz:jW get m (l2,b2)=([],(l2,b2)):=by cases m with|zero=>rfl|succ m=>(cases b2 with|true=>rfl|false=>(simp at g3<;>omega))
 have hE:fQ get s=(acc,(l2,b2)):=by rw[hL,hz];simp
 refine fA ?_;exact aE aF ⟨q1,hq1,by rw[hE];rfl,by rw[hE]⟩ aA
theorem QH(r:Nat)(s:St)(hs:SOk s):SCall Tryz.prog 259 [.ptr r 0] [(r,.box 117 (dH s))]
  (fun x σ=>x=.int .i64 (vW s).1∧σ=[(r,.box 117 (dH (vW s).2))]):=by
 have h1:=oB r s hs;have hK:vW s=if((kY s).1==127)=true then(1,(kY s).2)else if((kY s).1==126)=true then(2,(kY s).2)else(0,((kY s).2.1,true)):=rfl
 generalize kY s=p at h1 hK;obtain⟨c,l2,b2⟩:=p;dsimp only at h1 hK;have ht:∀k:Nat,((c:Int)==(k:Int))=(c==k):=fun k=>by rw[Bool.eq_iff_iff];simp only[beq_iff_eq];omega
 refine cF 12 [0,2,4,5,7] Tryz.func259 ?_;refine iD ?_;refine cw [(r,.box 117 (dH s))] Tryz.call67 h1 rfl aC aA ?_;rintro _ σ' ⟨rfl,rfl⟩ h4;refine gX ?_;unfold dH;dsimp only;refine eU ?_;refine aB rfl (fun g2=> ?_) (fun g2=> ?_)
 ·have hE:vW s=(1,(l2,b2)):=by rw[hK,if_pos ((ht 127).symm.trans g2)]
  refine bM ?_;exact aE aF ⟨by rw[hE];rfl,by rw[hE]⟩ aA
 refine cZ ?_;refine aB rfl (fun g4=> ?_) (fun g4=> ?_)
 ·have hE:vW s=(2,(l2,b2)):=by rw[hK,if_neg (by rw[←ht 127];exact fun h=>by rw[show((c:Int)==((127:Nat):Int))=false from g2]at h;cases h),if_pos ((ht 126).symm.trans g4)]
  refine bM ?_;exact aE aF ⟨by rw[hE];rfl,by rw[hE]⟩ aA
 have hE:vW s=(0,(l2,true)):=by rw[hK,if_neg (by rw[←ht 127];exact fun h=>by rw[show((c:Int)==((127:Nat):Int))=false from g2]at h;cases h),if_neg (by rw[←ht 126];exact fun h=>by rw[show((c:Int)==((126:Nat):Int))=false from g4]at h;cases h)]
 refine xP ?_;refine bM ?_;exact aE aF ⟨by rw[hE];rfl,by rw[hE]⟩ aA
theorem QI(r:Nat)(s:St)(hs:SOk s):SCall Tryz.prog 260 [.ptr r 0] [(r,.box 117 (dH s))]
  (fun x σ=>x=.str (dC (AA s).1)∧σ=[(r,.box 117 (dH (AA s).2))]):=by
 have w1:=aC9 r s hs;generalize AA s=p at w1;obtain⟨l,s2⟩:=p;dsimp only at w1;refine cF 6 [0,2] Tryz.func260 ?_;refine iD ?_;refine cw [(r,.box 117 (dH s))] Tryz.call184 w1 rfl aC aA ?_;rintro _ σ' ⟨q,hq,rfl,rfl⟩ h4;apply aY;exact bN;refine aEx ?_;refine dE ?_;exact aE aF ⟨by rfl,rfl⟩ aA
theorem DE(r:Nat)(s:St)(hs:SOk s):SCall Tryz.prog 264 [.ptr r 0] [(r,.box 117 (dH s))]
  (fun x σ=>x=.agg [.int .i64 (SP s).1.1,.int .i64 (SP s).1.2]∧σ=[(r,.box 117 (dH (SP s).2))]):=by
 have hk:=fun n ok=>AF r s hs n ok
 have hk2:=fun n ok=>oB r _ (NP hs n ok)
 have hC:SP s=(if((fF s.1).1.op==66)=true then(2,(fF s.1).1.a)else(1,(fF s.1).1.a),(kY (uU s (fF s.1).2.1 (((fF s.1).2.2==0)&&((fF s.1).1.op==65||(fF s.1).1.op==66)))).2):=rfl;have hget:=NE s.1 (by have:=hs.1;omega) hs.2;obtain⟨l,bad⟩:=s;dsimp only at hC hget;generalize fF l=p at hC hget;obtain⟨x,n,e⟩:=p;dsimp only at hC hget;have hB:(if(e==0)=true then(if(x.op==65)=true then true else x.op==66)else false)=((e==0)&&(x.op==65||x.op==66)):=by cases(e==0)<;>cases(x.op==65)<;>rfl
 have w1:=hk n ((e==0)&&(x.op==65||x.op==66));have w2:=hk2 n ((e==0)&&(x.op==65||x.op==66));generalize((e==0)&&(x.op==65||x.op==66))=B at hB w1 w2 hC;generalize uU (l,bad) n B=s2 at w1 w2 hC;generalize kY s2=p3 at w2 hC;obtain⟨c,s3⟩:=p3;dsimp only at w2 hC;refine cF 41 [0,2,3,4,5,34] Tryz.func264 ?_;unfold dH;dsimp only;refine dX ?_;refine jU fun r2 h2=> ?_;intros
 refine iF ?_;refine oK ?_;refine cw [] Tryz.call298 hget rfl aC aA ?_;rintro _ σ' ⟨q,rfl,rfl⟩ h11
 replace h11:=gL h11;repeat rcases h11 with⟨_,h11⟩
 refine TP ?_;refine jU fun r3 h3=> ?_;intros
 unfold io;apply SO;rfl;rfl;rfl;rfl;exact mU;refine lE ?_;refine MW ?_;refine CX ?_;refine xY ?_;refine aCa ?_;refine aCb ?_;refine aCc ?_;refine aMz ?_;refine aMA ?_;refine rX ?_;rw[hB];refine cw [(r,.box 117 (dH (l,bad)))] Tryz.call66 w1 rfl aC aA ?_;rintro _ σ' ⟨rfl,rfl⟩ h29;refine uP ?_;refine dM ?_;refine cw [(r,.box 117 (dH s2))] Tryz.call67 w2 rfl aC aA ?_;rintro _ σ' ⟨rfl,rfl⟩ h31;refine uP ?_;refine fN ?_;refine rO ?_;refine aB rfl (fun g4=> ?_) (fun g4=> ?_)
 ·have hE:SP (l,bad)=((2,x.a),s3):=by rw[hC,if_pos g4]
  refine fN ?_;refine jK ?_;refine lW ?_;exact aE aF ⟨by rw[hE];rfl,by rw[hE]⟩ aA
 have hE:SP (l,bad)=((1,x.a),s3):=by rw[hC,if_neg (by rw[g4];simp)]
 refine fN ?_;refine jK ?_;refine lW ?_;exact aE aF ⟨by rw[hE];rfl,by rw[hE]⟩ aA
theorem VD(r:Nat)(s:St)(hs:SOk s):SCall Tryz.prog 179 [.ptr r 0] [(r,.box 117 (dH s))]
  (fun x σ=>x=.int .i64 (SQ s).1∧σ=[(r,.box 117 (dH (SQ s).2))]):=by
 have w1:=oB r s hs;have w2:=DE r _ (nF s hs);refine cF 8 [0,2] Tryz.func179 ?_;refine iD ?_;refine cw [(r,.box 117 (dH s))] Tryz.call67 w1 rfl aC aA ?_;rintro _ σ' ⟨rfl,rfl⟩ h4;refine uP ?_;refine dM ?_;refine MR [(r,.box 117 (dH (kY s).2))] Tryz.call264 w2 ?_;refine aHW ?_;refine dE ?_;exact aE aF ⟨by rfl,rfl⟩ aA
theorem NQ(r:Nat)(s:St)(hs:SOk s):SCall Tryz.prog 263 [.ptr r 0] [(r,.box 117 (dH s))]
  (fun x σ=>x=.agg (fC (ZZ s).1)∧σ=[(r,.box 117 (dH (ZZ s).2))]):=by
 have w1:=oB r s hs;have w2:=jN r _ (nF s hs);have w3:=jN r _ (iN _ (nF s hs));have hL:ZZ s=if((kY s).1 !=0)=true then(⟨true,(gI (kY s).2).1,(gI (gI (kY s).2).2).1⟩,(gI (gI (kY s).2).2).2)else(⟨true,(gI (kY s).2).1,-1⟩,(gI (kY s).2).2):=rfl
 generalize kY s=p1 at w1 w2 w3 hL;obtain⟨c,s1⟩:=p1;dsimp only at w1 w2 w3 hL;generalize gI s1=p2 at w2 w3 hL;obtain⟨a,s2⟩:=p2;dsimp only at w2 w3 hL;generalize gI s2=p3 at w3 hL;obtain⟨d,s3⟩:=p3;dsimp only at w3 hL;have ht:((c:Int) !=0)=(c !=0):=by rw[Bool.eq_iff_iff];simp only[bne_iff_ne,ne_eq];omega
 refine cF 17 [0,2,3,4,12] Tryz.func263 ?_;refine dX ?_;refine jU fun r2 h2=> ?_;intros
 refine iF ?_;refine uE ?_;refine jU fun r3 h3=> ?_;intros
 refine pD ?_;refine MR [(r,.box 117 (dH s))] Tryz.call67 w1 ?_;refine lo (gA (E rfl) (E rfl)) rfl ?_;refine hZ ?_;refine MR [(r,.box 117 (dH s1))] Tryz.call68 w2 ?_;refine wL ?_;refine pD ?_;refine lD ?_;refine aB rfl (fun g4=> ?_) (fun g4=> ?_)
 ·have hE:ZZ s=(⟨true,a,d⟩,s3):=by rw[hL,if_pos (ht.symm.trans g4)]
  refine dM ?_;refine MR [(r,.box 117 (dH s2))] Tryz.call68 w3 ?_;refine wL ?_;refine pX ?_;refine qB ?_;refine lW ?_;exact aE aF ⟨by rw[hE];rfl,by rw[hE]⟩ aA
 have hE:ZZ s=(⟨true,a,-1⟩,s2):=by rw[hL,if_neg (by rw[←ht];exact fun h=>by rw[show((c:Int) !=0)=false from g4]at h;cases h)]
 refine qB ?_;refine lW ?_;exact aE aF ⟨by rw[hE];rfl,by rw[hE]⟩ aA
theorem aFu(d:Int)(c:Nat)(hc:c≤100000):SCall Tryz.prog 207 [.ro 1 [[.int .i64 d]] .any,.int .i64 c] [] (fun x σ=>∃r,x=.own r 0 (List.replicate c d).length∧σ=[(r,.arr 3 1 ((List.replicate c d).map aP))]):=by
 refine(HF (v:=.int .i64 d) rfl c hc).mono fun x σ h=> ?_
 rw[List.length_replicate,List.map_replicate];exact h
theorem aBb(r:Nat)(s:St)(hs:SOk s):SCall Tryz.prog 265 [.ptr r 0] [(r,.box 117 (dH s))]
  (fun x σ=>∃q,Nq q r∧x=.own q 0 (yK s).1.length∧σ=[(q,.arr 3 1 ((yK s).1.map aP)),(r,.box 117 (dH (yK s).2))]):=by
 have w1:=jN r s hs;have k1:=iN s hs;have kb:=vY s;have hR:yK s=XS (gI s).1 (gI s).2 []:=rfl;generalize gI s=p at w1 k1 kb hR;obtain⟨n,s1⟩:=p;dsimp only at w1 k1 kb hR;refine cF 36 [0,2,3,4,5,6,17,25] Tryz.func265 ?_;refine oJ ?_;refine bW 3 3 1 (by decide) rfl (by decide) (bL fun q0 hq0=> ?_);repeat rcases hq0 with⟨_,hq0⟩
 refine iC ?_;refine cw [(r,.box 117 (dH s))] Tryz.call68 w1 rfl aC aA ?_;rintro _ σ' ⟨rfl,rfl⟩ h8;refine eZ ?_;refine lp (β:=Nat×Nat×St×List Int) (fun b=>⟨[(0,.ptr r 0),(2,.ro 0 [] .nil),(3,.own b.1 0 b.2.2.2.length),(4,.int .i64 (b.2.1:Nat))],[(b.1,.arr 3 1 (b.2.2.2.map aP)),(r,.box 117 (dH b.2.2.1))]⟩) (fun b=>Nq b.1 r∧SOk b.2.2.1∧32*b.2.1+b.2.2.2.length≤137438953472∧yK s=XS b.2.1 b.2.2.1 b.2.2.2) (fun b=>b.2.1) (q0,n,s1,[]) aL ⟨by show Nq q0 r;(exact bV),k1,by show 32*n+0≤137438953472;omega,by rw[hR]⟩ ?_;rintro⟨q1,m,⟨l2,b2⟩,acc⟩ ⟨hq1,hs2,hmb,hL⟩;dsimp only at hq1 hs2 hmb hL⊢;unfold dH;dsimp only;refine dM ?_;refine vK ?_;refine aB rfl (fun g3=> ?_) (fun g3=> ?_)
 ·obtain rfl:b2=false:=by cases b2 with|false=>rfl|true=>simp at g3
  obtain⟨m,rfl⟩:∃k,m=k+1:=⟨m-1,by simp at g3;omega⟩
  have wn:=jN r (l2,false) hs2;have kn:=iN (l2,false) hs2;have wk:=QH r _ kn;have kk:=xS _ kn;have hl:XS (m+1) (l2,false) acc=if 32<(gI (l2,false)).1 then([],((vW (gI (l2,false)).2).2.1,true))else XS m (vW (gI (l2,false)).2).2 (acc++List.replicate (gI (l2,false)).1 (vW (gI (l2,false)).2).1):=by rw[XS];rfl
  rw[hl]at hL;generalize gI (l2,false)=p2 at wn kn wk kk hL;obtain⟨c,s3⟩:=p2;dsimp only at wn kn wk kk hL;generalize vW s3=p3 at wk kk hL;obtain⟨d,l4,b4⟩:=p3;dsimp only at wk kk hL;refine dM ?_;refine cw [(r,.box 117 (dH (l2,false)))] Tryz.call68 wn rfl aC aA ?_;rintro _ σ' ⟨rfl,rfl⟩ h21;refine eZ ?_;refine iC ?_;refine cw [(r,.box 117 (dH s3))] Tryz.call259 wk rfl aC aA ?_;rintro _ σ' ⟨rfl,rfl⟩ h23;refine eZ ?_;unfold dH;dsimp only;refine iC ?_;refine PC ?_;refine aB rfl (fun g7=> ?_) (fun g7=> ?_)
  ·have hE:yK s=([],(l4,true)):=by rw[hL,if_pos (by simp at g7;omega)]
   refine xP ?_;refine dX ?_;refine oZ ?_;refine bW 2 3 1 (by decide) rfl (by decide) (bL fun q2 hq2=> ?_);repeat rcases hq2 with⟨_,hq2⟩
   refine aJ ?_;exact aE aF ⟨q2,by(exact bV),by rw[hE];rfl,by rw[hE]⟩ aA
  have hc:c≤32:=by simp at g7;omega
  rw[if_neg (by omega)]at hL;refine eX ?_;refine eN fun r31 h31=> ?_;intros
  refine lo (aD (E rfl)) rfl ?_;refine rY Tryz.call207 (aFu d c (by omega)) rfl bU kD ?_;rintro _ σ' ⟨r33,rfl,rfl⟩ h33
  replace h33:=cL h33;repeat rcases h33 with⟨_,h33⟩
  apply aY;exact bN;refine iY ((acc++List.replicate c d).map aP) (acc++List.replicate c d).length ?_;refine bH fun r34 h34=> ?_;intros
  refine hZ ?_;refine tA ?_;rw[show((m+1:Nat):Int)-1=(m:Nat) by omega];refine dE ?_;refine⟨(r34,m,(l4,b4),acc++List.replicate c d),⟨by show Nq r34 r;(exact bV),kk,by show 32*m+(acc++List.replicate c d).length≤137438953472;simp;omega,hL⟩,Nat.lt_succ_self _, ?_⟩;dsimp only;exact aL
 have hz:XS m (l2,b2) acc=(acc,(l2,b2)):=by cases m with|zero=>rfl|succ m=>(cases b2 with|true=>rfl|false=>(simp at g3<;>omega))
 have hE:yK s=(acc,(l2,b2)):=by rw[hL,hz]
 refine fA ?_;exact aE aF ⟨q1,by(exact bV),by rw[hE];rfl,by rw[hE]⟩ aA
theorem NR(r:Nat):Gets Tryz.prog 259 [.ptr r 0] [] (fun s=>[(r,.box 117 (dH s))]) (fun n=>.int .i64 n) vW:=⟨Tryz.call259,xS,fun s hs=>QH r s hs⟩
theorem VE(r:Nat):Gets Tryz.prog 68 [.ptr r 0] [] (fun s=>[(r,.box 117 (dH s))]) (fun n=>.int .i64 n) inN:=⟨Tryz.call68,aC4,fun s hs=>jN r s hs⟩
theorem aFv(r:Nat)(s:St)(hs:SOk s):SCall Tryz.prog 168 [.ptr r 0] [(r,.box 117 (dH s))]
  (fun x σ=>x=.agg (dD (tyN s).1)∧σ=[(r,.box 117 (dH (tyN s).2))]):=by
 have w1:=oB r s hs;have k1:=nF s hs;have w2:=AG (NR r) _ k1;have k2:=sP xS _ k1;have w3:=AG (NR r) _ k2;have hT:tyN s=(⟨(fQ vW (kY s).2).1,(fQ vW (fQ vW (kY s).2).2).1⟩,(fQ vW (fQ vW (kY s).2).2).2):=rfl;rw[hT];generalize(kY s).2=s1 at w1 w2 w3;generalize fQ vW s1=p2 at w2 w3;obtain⟨a,s2⟩:=p2;dsimp only at w2 w3;generalize fQ vW s2=p3 at w3;obtain⟨c,s3⟩:=p3;dsimp only at w3;refine cF 14 [0,2] Tryz.func168 ?_;refine dX ?_;refine jU fun r2 h2=> ?_;intros
 refine iF ?_;refine dM ?_;refine cw [(r,.box 117 (dH s))] Tryz.call67 w1 rfl aC aA ?_;rintro _ σ' ⟨rfl,rfl⟩ h4;refine uP ?_;refine eX ?_;refine TK ?_;refine cw [(r,.box 117 (dH s1))] Tryz.call171 w2 rfl aC aA ?_;rintro _ σ' ⟨q8,hq8,rfl,rfl⟩ h8;simp only[aO,aT,and_true]at hq8;have k8:=aZ h8;repeat rcases k8 with⟨_,k8⟩
 apply aY;exact bN;refine gJ (j:=8) rfl aU (aK bA (by simp)) ?_;refine XF ?_;refine TK ?_;refine cw [(r,.box 117 (dH s2))] Tryz.call171 w3 rfl aC aA ?_;rintro _ σ' ⟨q12,hq12,rfl,rfl⟩ h12;simp only[aO,aT,and_true]at hq12;have k12:=aZ h12;repeat rcases k12 with⟨_,k12⟩
 apply aY;exact bN;refine gJ (j:=12) rfl aU (aK bA (by simp)) ?_;refine jK ?_;refine lW ?_;exact aE aF ⟨by rfl,rfl⟩ aA
theorem aBc(r:Nat)(s:St)(hs:SOk s):SCall Tryz.prog 170 [.ptr r 0] [(r,.box 117 (dH s))]
  (fun x σ=>x=.agg (eM (imN s).1)∧σ=[(r,.box 117 (dH (imN s).2))]):=by
 have w1:=QI r s hs;have k1:=DD s hs;have w2:=QI r _ k1;have k2:=DD _ k1;have w3:=oB r _ k2;have w4:=jN r _ (nF _ k2);refine cF 15 [0,2,3] Tryz.func170 ?_;refine dX ?_;refine jU fun r2 h2=> ?_;intros
 refine iF ?_;refine dM ?_;refine cw [(r,.box 117 (dH s))] Tryz.call260 w1 rfl aC aA ?_;rintro _ σ' ⟨rfl,rfl⟩ h5;refine xZ ?_;refine MR [(r,.box 117 (dH (AA s).2))] Tryz.call260 w2 ?_;refine jK ?_;refine jU fun r3 h3=> ?_;intros
 refine pD ?_;refine cw [(r,.box 117 (dH (AA (AA s).2).2))] Tryz.call67 w3 rfl aC aA ?_;rintro _ σ' ⟨rfl,rfl⟩ h10;refine uP ?_;refine dM ?_;refine MR [(r,.box 117 (dH (kY (AA (AA s).2).2).2))] Tryz.call68 w4 ?_;refine wL ?_;refine pX ?_;refine qB ?_;refine lW ?_;exact aE aF ⟨by rfl,rfl⟩ aA
theorem aBd(r:Nat)(s:St)(hs:SOk s):SCall Tryz.prog 174 [.ptr r 0] [(r,.box 117 (dH s))]
  (fun x σ=>x=.agg (dZ (glN s).1)∧σ=[(r,.box 117 (dH (glN s).2))]):=by
 have w1:=QH r s hs;have k1:=xS s hs;have w2:=oB r _ k1;have k2:=nF _ k1;have w3:=DE r _ k2;have ht:(((kY (vW s).2).1:Int) !=0)=((kY (vW s).2).1 !=0):=by rw[Bool.eq_iff_iff];simp only[bne_iff_ne,ne_eq];omega
 refine cF 11 [0,2] Tryz.func174 ?_;refine dX ?_;refine jU fun r2 h2=> ?_;intros
 refine iF ?_;refine dM ?_;refine cw [(r,.box 117 (dH s))] Tryz.call259 w1 rfl aC aA ?_;rintro _ σ' ⟨rfl,rfl⟩ h4;refine uP ?_;refine dM ?_;refine MR [(r,.box 117 (dH (vW s).2))] Tryz.call67 w2 ?_;refine lo (gA (E rfl) (E rfl)) rfl ?_;rw[ht];refine lo (aD (E rfl)) rfl ?_;refine MR [(r,.box 117 (dH (kY (vW s).2).2))] Tryz.call264 w3 ?_;refine jK ?_;refine lW ?_;exact aE aF ⟨by rfl,rfl⟩ aA
theorem aBe(r:Nat)(s:St)(hs:SOk s):SCall Tryz.prog 176 [.ptr r 0] [(r,.box 117 (dH s))]
  (fun x σ=>x=.agg (eA (exN s).1)∧σ=[(r,.box 117 (dH (exN s).2))]):=by
 have w1:=QI r s hs;have k1:=DD s hs;have w3:=oB r _ k1;have w4:=jN r _ (nF _ k1);refine cF 13 [0,2,3] Tryz.func176 ?_;refine dX ?_;refine jU fun r2 h2=> ?_;intros
 refine iF ?_;refine dM ?_;refine MR [(r,.box 117 (dH s))] Tryz.call260 w1 ?_;refine jK ?_;refine jU fun r3 h3=> ?_;intros
 refine pD ?_;refine cw [(r,.box 117 (dH (AA s).2))] Tryz.call67 w3 rfl aC aA ?_;rintro _ σ' ⟨rfl,rfl⟩ h8;refine uP ?_;refine dM ?_;refine MR [(r,.box 117 (dH (kY (AA s).2).2))] Tryz.call68 w4 ?_;refine wL ?_;refine pX ?_;refine qB ?_;refine lW ?_;exact aE aF ⟨by rfl,rfl⟩ aA
theorem aI7(ls:List Int):VLe (.agg [.ro 1 (ls.map aP) .any,.ro 0 [] .nil]) (.agg (dA ⟨ls,[]⟩)):=by
 refine VLe.agg rfl fun j a a' ha ha'=> ?_
 match j with
 |0=>cases ha;cases ha';exact VLe.refl _
 |1=>cases ha;cases ha';exact VLe.empty
 | _ +2=>cases ha
theorem aFw(r:Nat)(s:St)(hs:SOk s):SCall Tryz.prog 181 [.ptr r 0] [(r,.box 117 (dH s))]
  (fun x σ=>x=.agg (dA (QC s).1)∧σ=[(r,.box 117 (dH (QC s).2))]):=by
 have w1:=jN r s hs;have k1:=iN s hs;have w2:=aBb r _ k1;have k2:=aC2 _ k1;have hC:QC s=if(yK (gI s).2).2.2=true then(⟨(yK (gI s).2).1,[]⟩,(yK (gI s).2).2)else(⟨(yK (gI s).2).1,(lH (yK (gI s).2).2.1).1⟩,uU (yK (gI s).2).2 (lH (yK (gI s).2).2.1).2.1 ((lH (yK (gI s).2).2.1).2.2==0)):=rfl
 generalize yK (gI s).2=p at w2 k2 hC;obtain⟨ls,l2,b2⟩:=p;dsimp only at w2 k2 hC;have w3:=aCM l2 (by have:=k2.1;dsimp only at this;omega) k2.2;have w4:=fun n ok=>AF r (l2,b2) k2 n ok
 generalize lH l2=g at w3 hC;obtain⟨l,n,e⟩:=g;dsimp only at w3 hC;have w5:=w4 n (e==0);refine cF 34 [0,2,3,4,5,6,15] Tryz.func181 ?_;refine dX ?_;refine jU fun r2 h2=> ?_;intros
 refine iF ?_;refine dM ?_;refine cw [(r,.box 117 (dH s))] Tryz.call68 w1 rfl aC aA ?_;rintro _ σ' ⟨rfl,rfl⟩ h8;refine uP ?_;refine dM ?_;refine cw [(r,.box 117 (dH (gI s).2))] Tryz.call265 w2 rfl aC aA ?_;rintro _ σ' ⟨q,hq,rfl,rfl⟩ h10;have k10:=aZ h10;repeat rcases k10 with⟨_,k10⟩
 apply aY;exact bN;refine gJ (j:=10) rfl aU (aK bA (by simp)) ?_;refine jK ?_;refine jU fun r3 h3=> ?_;intros
 refine lW ?_;unfold dH;dsimp only;refine iC ?_;refine kG ?_;refine lD ?_;refine aB rfl (fun g3=> ?_) (fun g3=> ?_)
 ·have hE:QC s=(⟨ls,[]⟩,(l2,true)):=by rw[hC,g3];rfl
  rw[g3];refine qB ?_;refine iK (eF (j:=16) rfl (aI7 ls)) ?_;refine lW ?_;exact aE aF ⟨by rw[hE];rfl,by rw[hE]⟩ aA
 have hE:QC s=(⟨ls,l⟩,uU (l2,false) n (e==0)):=by rw[hC,g3];rfl
 rw[g3]at w5⊢;refine oK ?_;refine cw [] Tryz.call266 w3 rfl aC aA ?_;rintro _ σ' ⟨q22,rfl,rfl⟩ h22
 replace h22:=gL h22;repeat rcases h22 with⟨_,h22⟩
 refine TP ?_;refine oF ?_;refine MW ?_;refine lo (dI (E rfl) (E rfl)) rfl ?_;refine cw [(r,.box 117 (dH (l2,false)))] Tryz.call66 w5 rfl aC aA ?_;rintro _ σ' ⟨rfl,rfl⟩ h30;refine uP ?_;refine dM ?_;refine gJ (j:=31) rfl aU (aK bA (by simp)) ?_;refine wL ?_;refine pX ?_;refine qB ?_;refine lW ?_;exact aE aF ⟨by rw[hE];rfl,by rw[hE]⟩ aA
theorem aFx{r c d:Nat}{before:Bool}(hc:Nq r c)(hd:Nq r d)(hcd:Nq c d):Gets Tryz.prog 262 [] [.ptr c 0,.ptr d 0] (fun s=>[(r,.box 117 (dH s)),(c,.box 4 [.bool before]),(d,.box 114 [.ptr r 0])]) (fun x=>.agg (fC x)) (tbN before):=by
 refine⟨Tryz.call262,aHx before,fun s hs=> ?_⟩;have w1:=oB r s hs;have w2:=NQ r _ (nF s hs);have w3:=NQ r s hs;refine cF 8 [0,1,2,3] Tryz.func262 ?_;refine dX ?_;refine jU fun r2 h2=> ?_;intros
 refine lD ?_;rcases before with _ | _
 ·refine jQ ?_;refine uN ?_;refine iF ?_;refine dX ?_;refine uN ?_;refine cw [(r,.box 117 (dH s))] Tryz.call263 w3 rfl aC aA ?_;rintro _ σ' ⟨rfl,rfl⟩ h7;apply aY;exact bN;refine lW ?_;exact aE aF ⟨by rfl,rfl⟩ aA
 ·refine jQ ?_;refine uN ?_;refine iF ?_;refine dX ?_;refine uN ?_;refine cw [(r,.box 117 (dH s))] Tryz.call67 w1 rfl aC aA ?_;rintro _ σ' ⟨rfl,rfl⟩ h5;refine uP ?_;refine dX ?_;refine uN ?_;refine MR [(r,.box 117 (dH (kY s).2))] Tryz.call263 w2 ?_;refine lW ?_;exact aE aF ⟨by rfl,rfl⟩ aA
theorem HI(r:Nat)(s:St)(hs:SOk s)(before:Bool):SCall Tryz.prog 172 [.ptr r 0,.bool before] [(r,.box 117 (dH s))]
  (fun x σ=>x=.agg (fC (UO before s).1)∧σ=[(r,.box 117 (dH (UO before s).2))]):=by
 have w1:=fun(c d:Nat) hc hd hcd=>aFt (r:=r) (c:=c) (d:=d) (before:=before) hc hd hcd (aFx hc hd hcd) s hs
 have hL:UO before s=((fQ (tbN before) s).1.headD NJ,(fQ (tbN before) s).2):=rfl;generalize fQ (tbN before) s=p at w1 hL;obtain⟨l,s2⟩:=p;dsimp only at w1 hL;refine cF 16 [0,1,2,3,4,5,11] Tryz.func172 ?_;refine dX ?_;refine iQ fun r2 h2=> ?_;intros
 refine iQ fun r3 h3=> ?_;intros
 refine jU fun r4 h4=> ?_;intros
 refine iF ?_;refine dX ?_;refine uN ?_;refine aMB ?_;refine cw [(r,.box 117 (dH s)),(r3,.box 4 [.bool before]),(r2,.box 114 [.ptr r 0])] Tryz.call261 (w1 r3 r2 (by(exact bV)) (by(exact bV)) (by(exact bV))) rfl aC aA ?_;rintro _ σ' ⟨q8,hq8,rfl,rfl⟩ h8;simp only[aO,aT,and_true]at hq8;repeat rcases hq8 with⟨_,hq8⟩
 have k8:=aZ h8;repeat rcases k8 with⟨_,k8⟩
 refine eZ ?_;refine iC ?_;refine sK ?_;refine aB rfl (fun g2=> ?_) (fun g2=> ?_)
 ·obtain rfl:l=[]:=by cases l with|nil=>rfl|cons x t=>(simp at g2<;>omega)
  have hE:UO before s=(NJ,s2):=hL;refine uE ?_;refine lW ?_;exact aE aF ⟨by rw[hE];rfl,by rw[hE]⟩ aA
 obtain⟨x,t,rfl⟩:∃x t,l=x::t:=by cases l with|nil=>simp at g2|cons x t=>exact⟨x,t,rfl⟩
 have hE:UO before s=(x,s2):=hL;have hx:(x::t)[(0:Int).toNat]? =some x:=rfl;have hpos:0<(x::t).length:=Nat.succ_pos _;refine dM ?_;refine qX ?_;refine lW ?_;exact aE aF ⟨by rw[hE];rfl,by rw[hE]⟩ aA
theorem aFy{r c:Nat}(hc:Nq r c):Gets Tryz.prog 178 [] [.ptr c 0] (fun s=>[(r,.box 117 (dH s)),(c,.box 114 [.ptr r 0])]) (fun x=>.agg (dY x)) eeN:=by
 refine⟨Tryz.call178,aHz,fun s hs=> ?_⟩;have w1:=VD r s hs;have w2:=AG (VE r) _ (VC s hs);have hE:eeN s=(⟨(SQ s).1,(fQ inN (SQ s).2).1⟩,(fQ inN (SQ s).2).2):=rfl;rw[hE];generalize SQ s=p at w1 w2;obtain⟨o,s2⟩:=p;dsimp only at w1 w2;generalize fQ inN s2=p at w2;obtain⟨l,s3⟩:=p;dsimp only at w2;refine cF 9 [0,1] Tryz.func178 ?_;refine dX ?_;refine jU fun r1 h1=> ?_;intros
 refine lD ?_;refine fM [(0,true),(2,true),(3,true),(4,true),(1,false),(5,false),(6,true),(7,false)] ?_;refine z74 ?_;refine z74 ?_;refine z74 ?_;refine aMC ?_;refine rW [(r,.box 117 (dH s))] rfl Tryz.call179 w1 rfl aC aA fV ?_;rintro _ σ' ⟨rfl,rfl⟩ h3;apply bZ;exact bN;refine rW [(r,.box 117 (dH s2))] rfl Tryz.call171 w2 rfl aC aA fV ?_;rintro _ σ' ⟨q7,hq7,rfl,rfl⟩ h7;simp only[aO,aT,and_true]at hq7;have k7:=aZ h7;repeat rcases k7 with⟨_,k7⟩
 apply bZ;exact bN;refine XB ?_;refine z95 ?_;refine xA ?_;refine an ?_;refine dQ (gC (r:=r1) (q:=q7) cA aU (.cons (.refl _) (.cons (aK bA (by simp)) .nil))) ?_;refine aJ ?_;exact aE aF ⟨by rfl,rfl⟩ aA
theorem aFz{r c:Nat}(hc:Nq r c):Gets Tryz.prog 183 [] [.ptr c 0] (fun s=>[(r,.box 117 (dH s)),(c,.box 114 [.ptr r 0])]) (fun x=>.agg (eB x)) ddN:=by
 refine⟨Tryz.call183,aC8,fun s hs=> ?_⟩;have w1:=VD r s hs;have w2:=aC9 r _ (VC s hs);have hE:ddN s=(⟨(SQ s).1,(AA (SQ s).2).1⟩,(AA (SQ s).2).2):=rfl;rw[hE];generalize SQ s=p at w1 w2;obtain⟨o,s2⟩:=p;dsimp only at w1 w2;generalize AA s2=p at w2;obtain⟨l,s3⟩:=p;dsimp only at w2;refine cF 7 [0,1] Tryz.func183 ?_;refine dX ?_;refine jU fun r1 h1=> ?_;intros
 refine lD ?_;refine fM [(0,true),(2,true),(1,false),(3,false),(4,true),(5,false)] ?_;refine z74 ?_;refine z74 ?_;refine rW [(r,.box 117 (dH s))] rfl Tryz.call179 w1 rfl aC aA fV ?_;rintro _ σ' ⟨rfl,rfl⟩ h3;apply bZ;exact bN;refine rW [(r,.box 117 (dH s2))] rfl Tryz.call184 w2 rfl aC aA fV ?_;rintro _ σ' ⟨q5,hq5,rfl,rfl⟩ h5;have k5:=aZ h5;repeat rcases k5 with⟨_,k5⟩
 apply bZ;exact bN;refine XB ?_;refine z95 ?_;refine xA ?_;refine an ?_;refine dQ (gC (r:=r1) (q:=q5) cA aU (.cons (.refl _) (.cons (aK bA (by simp)) .nil))) ?_;refine aJ ?_;exact aE aF ⟨by rfl,rfl⟩ aA
theorem aFA(r:Nat):Gets Tryz.prog 168 [.ptr r 0] [] (fun s=>[(r,.box 117 (dH s))]) (fun x=>.agg (dD x)) tyN:=⟨Tryz.call168,aHw,fun s hs=>aFv r s hs⟩
theorem aFB(r:Nat):Gets Tryz.prog 170 [.ptr r 0] [] (fun s=>[(r,.box 117 (dH s))]) (fun x=>.agg (eM x)) imN:=⟨Tryz.call170,aC5,fun s hs=>aBc r s hs⟩
theorem aFC(r:Nat):Gets Tryz.prog 174 [.ptr r 0] [] (fun s=>[(r,.box 117 (dH s))]) (fun x=>.agg (dZ x)) glN:=⟨Tryz.call174,aC6,fun s hs=>aBd r s hs⟩
theorem aFD(r:Nat):Gets Tryz.prog 176 [.ptr r 0] [] (fun s=>[(r,.box 117 (dH s))]) (fun x=>.agg (eA x)) exN:=⟨Tryz.call176,aC7,fun s hs=>aBe r s hs⟩
theorem aFE(r:Nat):Gets Tryz.prog 181 [.ptr r 0] [] (fun s=>[(r,.box 117 (dH s))]) (fun x=>.agg (dA x)) QC:=⟨Tryz.call181,aC3,fun s hs=>aFw r s hs⟩
theorem XV(r m:Nat)(hrm:Nq r m)(s:St)(hs:SOk s)(M:Md)(no:Nat):SCall Tryz.prog 69 [.ptr r 0,.ptr m 0,.int .i64 no] [(r,.box 117 (dH s)),(m,.box 33 (bR M))]
  (fun x σ=>x=.tup []∧σ=[(r,.box 117 (dH (uQ no M s).2)),(m,.box 33 (bR (uQ no M s).1))]):=by
 obtain⟨ty,im,fn,tb,me,gl,ex,el,co,da⟩:=M;refine cF 94 [0,1,2,3,6,10,19,28,37,44,51,60,69,77,86] Tryz.func69 ?_;unfold bR;dsimp only;refine dX ?_;refine iQ fun r3 h3=> ?_;intros
 refine iF ?_;refine dM ?_;refine qA ?_;refine aB rfl (fun g3=> ?_) (fun g3=> ?_)
 ·obtain rfl:no=1:=by simp at g3;omega
  have hE:uQ 1 ⟨ty,im,fn,tb,me,gl,ex,el,co,da⟩ s=(⟨(fQ tyN s).1,im,fn,tb,me,gl,ex,el,co,da⟩,(fQ tyN s).2):=rfl;refine dM ?_;refine uN ?_;refine uN ?_;refine TK ?_;refine cw [(r,.box 117 (dH s))] Tryz.call167 (aFm (aFA r) s hs) rfl aC aA ?_;rintro _ σ' ⟨q16,hq16,rfl,rfl⟩ h16;simp only[aO,aT,and_true]at hq16;have k16:=aZ h16;repeat rcases k16 with⟨_,k16⟩
  apply aY;exact bN;refine gJ (j:=16) rfl aU (aK bA (by simp)) ?_;refine oI ?_;refine bY ?_;exact aE aF ⟨by rfl,by rw[hE]⟩ aA
 refine cZ ?_;refine aB rfl (fun g5=> ?_) (fun g5=> ?_)
 ·obtain rfl:no=2:=by simp at g5;omega
  have hE:uQ 2 ⟨ty,im,fn,tb,me,gl,ex,el,co,da⟩ s=(⟨ty,(fQ imN s).1,fn,tb,me,gl,ex,el,co,da⟩,(fQ imN s).2):=rfl;refine dM ?_;refine uN ?_;refine uN ?_;refine TK ?_;refine cw [(r,.box 117 (dH s))] Tryz.call169 (aFn (aFB r) s hs) rfl aC aA ?_;rintro _ σ' ⟨q25,hq25,rfl,rfl⟩ h25;simp only[aO,aT,and_true]at hq25;have k25:=aZ h25;repeat rcases k25 with⟨_,k25⟩
  apply aY;exact bN;refine gJ (j:=25) rfl aU (aK bA (by simp)) ?_;refine oI ?_;refine bY ?_;exact aE aF ⟨by rfl,by rw[hE]⟩ aA
 refine cZ ?_;refine aB rfl (fun g7=> ?_) (fun g7=> ?_)
 ·obtain rfl:no=3:=by simp at g7;omega
  have hE:uQ 3 ⟨ty,im,fn,tb,me,gl,ex,el,co,da⟩ s=(⟨ty,im,(fQ inN s).1,tb,me,gl,ex,el,co,da⟩,(fQ inN s).2):=rfl;refine dM ?_;refine uN ?_;refine uN ?_;refine TK ?_;refine cw [(r,.box 117 (dH s))] Tryz.call171 (AG (VE r) s hs) rfl aC aA ?_;rintro _ σ' ⟨q34,hq34,rfl,rfl⟩ h34;simp only[aO,aT,and_true]at hq34;have k34:=aZ h34;repeat rcases k34 with⟨_,k34⟩
  apply aY;exact bN;refine gJ (j:=34) rfl aU (aK bA (by simp)) ?_;refine oI ?_;refine bY ?_;exact aE aF ⟨by rfl,by rw[hE]⟩ aA
 refine cZ ?_;refine aB rfl (fun g9=> ?_) (fun g9=> ?_)
 ·obtain rfl:no=4:=by simp at g9;omega
  have hE:uQ 4 ⟨ty,im,fn,tb,me,gl,ex,el,co,da⟩ s=(⟨ty,im,fn,(UO true s).1,me,gl,ex,el,co,da⟩,(UO true s).2):=rfl;refine dM ?_;refine uN ?_;refine MR [(r,.box 117 (dH s))] Tryz.call172 (HI r s hs true) ?_;refine oI ?_;refine bY ?_;exact aE aF ⟨by rfl,by rw[hE]⟩ aA
 refine cZ ?_;refine aB rfl (fun g11=> ?_) (fun g11=> ?_)
 ·obtain rfl:no=5:=by simp at g11;omega
  have hE:uQ 5 ⟨ty,im,fn,tb,me,gl,ex,el,co,da⟩ s=(⟨ty,im,fn,tb,(UO false s).1,gl,ex,el,co,da⟩,(UO false s).2):=rfl;refine dM ?_;refine uN ?_;refine MR [(r,.box 117 (dH s))] Tryz.call172 (HI r s hs false) ?_;refine oI ?_;refine bY ?_;exact aE aF ⟨by rfl,by rw[hE]⟩ aA
 refine cZ ?_;refine aB rfl (fun g13=> ?_) (fun g13=> ?_)
 ·obtain rfl:no=6:=by simp at g13;omega
  have hE:uQ 6 ⟨ty,im,fn,tb,me,gl,ex,el,co,da⟩ s=(⟨ty,im,fn,tb,me,(fQ glN s).1,ex,el,co,da⟩,(fQ glN s).2):=rfl;refine dM ?_;refine uN ?_;refine uN ?_;refine TK ?_;refine cw [(r,.box 117 (dH s))] Tryz.call173 (aFo (aFC r) s hs) rfl aC aA ?_;rintro _ σ' ⟨q57,hq57,rfl,rfl⟩ h57;simp only[aO,aT,and_true]at hq57;have k57:=aZ h57;repeat rcases k57 with⟨_,k57⟩
  apply aY;exact bN;refine gJ (j:=57) rfl aU (aK bA (by simp)) ?_;refine oI ?_;refine bY ?_;exact aE aF ⟨by rfl,by rw[hE]⟩ aA
 refine cZ ?_;refine aB rfl (fun g15=> ?_) (fun g15=> ?_)
 ·obtain rfl:no=7:=by simp at g15;omega
  have hE:uQ 7 ⟨ty,im,fn,tb,me,gl,ex,el,co,da⟩ s=(⟨ty,im,fn,tb,me,gl,(fQ exN s).1,el,co,da⟩,(fQ exN s).2):=rfl;refine dM ?_;refine uN ?_;refine uN ?_;refine TK ?_;refine cw [(r,.box 117 (dH s))] Tryz.call175 (aFp (aFD r) s hs) rfl aC aA ?_;rintro _ σ' ⟨q66,hq66,rfl,rfl⟩ h66;simp only[aO,aT,and_true]at hq66;have k66:=aZ h66;repeat rcases k66 with⟨_,k66⟩
  apply aY;exact bN;refine gJ (j:=66) rfl aU (aK bA (by simp)) ?_;refine oI ?_;refine bY ?_;exact aE aF ⟨by rfl,by rw[hE]⟩ aA
 refine cZ ?_;refine aB rfl (fun g17=> ?_) (fun g17=> ?_)
 ·obtain rfl:no=9:=by simp at g17;omega
  have hE:uQ 9 ⟨ty,im,fn,tb,me,gl,ex,el,co,da⟩ s=(⟨ty,im,fn,tb,me,gl,ex,(fQ eeN s).1,co,da⟩,(fQ eeN s).2):=rfl;refine dM ?_;refine uN ?_;refine aKx ?_;refine cw [(r,.box 117 (dH s)),(r3,.box 114 [.ptr r 0])] Tryz.call177 (aFr (r:=r) (c:=r3) (by(exact bV)) (aFy (by(exact bV))) s hs) rfl aC aA ?_;rintro _ σ' ⟨q74,hq74,rfl,rfl⟩ h74;simp only[aO,aT,and_true]at hq74;repeat rcases hq74 with⟨_,hq74⟩
  have k74:=aZ h74;repeat rcases k74 with⟨_,k74⟩
  apply aY;exact bN;refine gJ (j:=74) rfl aU (aK bA (by simp)) ?_;refine oI ?_;refine bY ?_;exact aE aF ⟨by rfl,by rw[hE]⟩ aA
 refine cZ ?_;refine aB rfl (fun g19=> ?_) (fun g19=> ?_)
 ·obtain rfl:no=10:=by simp at g19;omega
  have hE:uQ 10 ⟨ty,im,fn,tb,me,gl,ex,el,co,da⟩ s=(⟨ty,im,fn,tb,me,gl,ex,el,(fQ QC s).1,da⟩,(fQ QC s).2):=rfl;refine dM ?_;refine uN ?_;refine uN ?_;refine TK ?_;refine cw [(r,.box 117 (dH s))] Tryz.call180 (aFq (aFE r) s hs) rfl aC aA ?_;rintro _ σ' ⟨q83,hq83,rfl,rfl⟩ h83;simp only[aO,aT,and_true]at hq83;have k83:=aZ h83;repeat rcases k83 with⟨_,k83⟩
  apply aY;exact bN;refine gJ (j:=83) rfl aU (aK bA (by simp)) ?_;refine oI ?_;refine bY ?_;exact aE aF ⟨by rfl,by rw[hE]⟩ aA
 refine cZ ?_;refine aB rfl (fun g21=> ?_) (fun g21=> ?_)
 ·obtain rfl:no=11:=by simp at g21;omega
  have hE:uQ 11 ⟨ty,im,fn,tb,me,gl,ex,el,co,da⟩ s=(⟨ty,im,fn,tb,me,gl,ex,el,co,(fQ ddN s).1⟩,(fQ ddN s).2):=rfl;refine dM ?_;refine uN ?_;refine aKx ?_;refine cw [(r,.box 117 (dH s)),(r3,.box 114 [.ptr r 0])] Tryz.call182 (aFs (r:=r) (c:=r3) (by(exact bV)) (aFz (by(exact bV))) s hs) rfl aC aA ?_;rintro _ σ' ⟨q91,hq91,rfl,rfl⟩ h91;simp only[aO,aT,and_true]at hq91;repeat rcases hq91 with⟨_,hq91⟩
  have k91:=aZ h91;repeat rcases k91 with⟨_,k91⟩
  apply aY;exact bN;refine gJ (j:=91) rfl aU (aK bA (by simp)) ?_;refine oI ?_;refine bY ?_;exact aE aF ⟨by rfl,by rw[hE]⟩ aA
 have e1:no≠1:=by(simp at g3;omega)
 have e2:no≠2:=by(simp at g5;omega)
 have e3:no≠3:=by(simp at g7;omega)
 have e4:no≠4:=by(simp at g9;omega)
 have e5:no≠5:=by(simp at g11;omega)
 have e6:no≠6:=by(simp at g13;omega)
 have e7:no≠7:=by(simp at g15;omega)
 have e9:no≠9:=by(simp at g17;omega)
 have e10:no≠10:=by(simp at g19;omega)
 have e11:no≠11:=by(simp at g21;omega)
 have hE:uQ no ⟨ty,im,fn,tb,me,gl,ex,el,co,da⟩ s=(⟨ty,im,fn,tb,me,gl,ex,el,co,da⟩,(s.1,true)):=by unfold uQ;rw[if_neg e1];rw[if_neg e2];rw[if_neg e3];rw[if_neg e4];rw[if_neg e5];rw[if_neg e6];rw[if_neg e7];rw[if_neg e9];rw[if_neg e10];rw[if_neg e11]
 refine dX ?_;refine uN ?_;refine oI ?_;refine bY ?_;exact aE aF ⟨by rfl,by rw[hE]⟩ aA
end Go.Proofs.YtjpdadobblffmaaGreat
namespace Go.Proofs.YtjpdadobblffmaaGreat
open Go.RowKit Go.ChangeShapes Go.WideShapes Go.ChangeAt Go.Deep
theorem QJ(bs:List Nat)(l h:Nat):(dC bs).extract l h=dC ((bs.drop l).take (h-l)):=by
 have:((dC bs).extract l h).data=(dC ((bs.drop l).take (h-l))).data:=by
  rw[ByteArray.data_extract];simp[dC,List.extract_eq_take_drop]
 cases h1:(dC bs).extract l h
 rw[h1]at this;simp only at this;rw[this]
section
variable {P : Program} {ty t : TypeId} {s : ASt} {c : Bool} {x : Operand}
theorem xT [Ty P t .string] {bs:List Nat}{lo hi:Option Operand}{l h:Nat}(hx:Ev s c x (.str (dC bs)))(hl:OB s c 0 lo l)(hh:OB s c bs.length hi h)(h1:c=true→l≤h∧h≤bs.length):
  Lop P (.slice t x lo hi none) ty s c (.str (dC ((bs.drop l).take (h-l)))) []:=
 Lop.pure_ fun M F N n a w hr hc=>by
  obtain⟨h1,h2⟩:=h1 hc;have hlb:VB 0 (lo.map a.eval) l:=hl.vb hr hc;have hhb:VB bs.length (hi.map a.eval) h:=hh.vb hr hc;have hsz:(dC bs).size=bs.length:=by simp[dC,ByteArray.size]
  have hb:∀(k:IntKind) (b y:Nat) (code:BoundsCode) (w:World),b≤y→(Instr.sliceBound (.int k b) y code).run P w=.ok b w:=fun k b y code w hby=>by
   rw[run_sliceBound w k b y code (by omega) (by omega)];simp
  refine⟨_,.str _,fun w' o ho _=> ?_⟩;have key2:∀(lo' hi':Option Value),VB 0 lo' l→VB bs.length hi' h→(Instr.sliceBounds false bs.length bs.length lo' hi' none).run P w'=.ok (l,h,bs.length) w':=by
   intro lo' hi' k1 k2;cases k1<;>cases k2<;>simp[Instr.sliceBounds,hb,h1,h2]
  have key:=key2 _ _ hlb hhb;have hrun:(Instr.sliceAt t (.string (dC bs)) (lo.map a.eval) (hi.map a.eval) none).run P w'=.ok (.string (dC ((bs.drop l).take (h-l)))) w':=by
   simp[Instr.sliceAt,Instr.slice,run_underlying (Ty.und (P:=P) (t:=t)),hsz,key,QJ]
  simp[execOp,ho,hx.str hr hc,hrun]
theorem xU [Ty P t .string] {bs:List Nat}{y:Operand}{ki:IntKind}{m:Int}{b:Nat}(hx:Ev s c x (.str (dC bs)))(hi:Ev s c y (.int ki m))(hm:c=true→0≤m)(hv:c=true→bs[m.toNat]? =some b)(hb:c=true→b<256):Lop P (.index t x y) ty s c (.int .u8 b) []:=
 Lop.pure_ fun M F N n a w hr hc=>by
  have hm:=hm hc;have hv:=hv hc;have hb:=hb hc;have hg:(dC bs)[m.toNat]? =some (UInt8.ofNat b):=by
   have hlt:=(List.getElem?_eq_some_iff.1 hv).1;have e:(dC bs).size=bs.length:=by simp[dC,ByteArray.size]
   rw[getElem?_pos (dC bs) m.toNat (by rw[e];exact hlt)];have h2:=(List.getElem?_eq_some_iff.1 hv).2;simp[ByteArray.getElem_eq_getElem_data,dC,h2]
  refine⟨_,.int _ _,fun w' o ho _=> ?_⟩;simp[execOp,ho,hx.str hr hc,hi.int hr hc,Instr.index,asIntOf,run_underlying (Ty.und (P:=P) (t:=t)),hm,hg];omega
end
end Go.Proofs.YtjpdadobblffmaaGreat
namespace Go.Proofs.YtjpdadobblffmaaGreat
open Go.RowKit Go.ChangeShapes Go.WideShapes Go.ChangeAt Go.Deep
attribute [local irreducible] SW RS RD fG eH
theorem QK{s:St}(h:SOk s):lC (AA s).1:=by
 have h1:=iN s h;unfold AA;dsimp only;split
 ·exact⟨by simp,by simp⟩
 ·exact⟨by have:=h1.1;simp;omega,fun c hc=>h1.2 c (List.mem_of_mem_take hc)⟩
theorem aDa{α:Type}{get:St→α×St}{p:α→Prop}(hk:Kp get)(hp:∀s,SOk s→p (get s).1):∀n s,SOk s→(∀x∈(jW get n s).1,p x)∧(jW get n s).1.length≤n
 |0,s,h=>⟨by simp[jW],by simp[jW]⟩
 |n+1,s,h=>by
  rw[jW];split
  ·exact⟨by simp,by simp⟩
  ·obtain⟨h1,h2⟩:=aDa hk hp n _ (hk s h);refine⟨fun x hx=> ?_,by simpa using h2⟩;rcases List.mem_cons.1 hx with rfl|hx
   ·exact hp s h
   ·exact h1 x hx
theorem HJ{α:Type}{get:St→α×St}{p:α→Prop}(hk:Kp get)(hp:∀s,SOk s→p (get s).1){s:St}(h:SOk s):(∀x∈(fQ get s).1,p x)∧(fQ get s).1.length≤4294967296:=by
 obtain⟨h1,h2⟩:=aDa hk hp (gI s).1 _ (iN s h);exact⟨h1,Nat.le_trans h2 (Nat.le_of_lt (vY s))⟩
theorem aFF:ins0.Ok:=⟨by decide,by decide,by decide,by decide,by decide⟩
theorem aDb{l:List Nat}(hlt:∀x∈l,x<256):(fF l).1.Ok:=by
 by_cases h:(fF l).2.2=0
 ·exact(yI hlt h).1
 ·have hf:∀x n e,(nC x n e).2.2≠0→(nC x n e).1=ins0:=fun x n e h=>by
   unfold nC at h⊢;split
   ·rfl
   ·next hh=>rw[if_neg hh]at h;exact absurd rfl h
  have:(fF l).1=ins0:=by
   unfold fF at h⊢;split
   ·rfl
   ·next h1=>
    rw[if_neg h1]at h;split
    ·rfl
    ·next h2=>
     rw[if_neg h2]at h;unfold tI at h⊢;dsimp only at h⊢;repeat' split
     all_goals (first|rfl|skip)
     all_goals apply hf
     all_goals simp_all
  rw[this];exact aFF
theorem aFG{s:St}(h:SOk s):-9223372036854775808≤(SP s).1.2∧(SP s).1.2≤9223372036854775807:=by
 have h1:=aDb h.2;unfold SP;dsimp only;split
 ·exact⟨h1.2.2.1,h1.2.2.2.1⟩
 ·exact⟨h1.2.2.1,h1.2.2.2.1⟩
theorem aFH{s:St}(h:SOk s):(QC s).1.bd.length≤100000∧∀x∈(QC s).1.bd,x.Ok:=by
 have k1:=aC2 _ (iN s h);have hC:QC s=if(yK (gI s).2).2.2=true then(⟨(yK (gI s).2).1,[]⟩,(yK (gI s).2).2)else(⟨(yK (gI s).2).1,(lH (yK (gI s).2).2.1).1⟩,uU (yK (gI s).2).2 (lH (yK (gI s).2).2.1).2.1 ((lH (yK (gI s).2).2.1).2.2==0)):=rfl
 rw[hC];split
 ·exact⟨by simp,by simp⟩
 ·have k2:=k1.2;generalize(yK (gI s).2).2.1=l at k2⊢;by_cases he:(lH l).2.2=0
  ·obtain⟨h1,h2,h3⟩:=XP k2 he;refine⟨?_,fun x hx=>(h3 x hx).1⟩;have:=QA h1;simp only[cU,List.length_map]at this;dsimp only;omega
  ·rw[(aCK l he).1];exact⟨by simp,by simp⟩
theorem aLm(no:Nat){m:Md}(h:m.WO){s:St}(hs:SOk s):(uQ no m s).1.WO:=by
 obtain⟨⟨h1,h2,h3,h4,h7⟩,h5,h6⟩:=h;unfold uQ;split
 ·exact⟨⟨h1,h2,h3,h4,h7⟩,h5,h6⟩
 split
 ·have:=HJ (p:=fun x:Im=>lC x.mod∧lC x.nm) aC5 (fun s hs=>⟨QK hs,QK (DD s hs)⟩) hs;exact⟨⟨this.1,h2,h3,this.2,h7⟩,h5,h6⟩
 split
 ·exact⟨⟨h1,h2,h3,h4,h7⟩,h5,h6⟩
 split
 ·exact⟨⟨h1,h2,h3,h4,h7⟩,h5,h6⟩
 split
 ·exact⟨⟨h1,h2,h3,h4,h7⟩,h5,h6⟩
 split
 ·have:=HJ (p:=fun g:Gl=> -9223372036854775808≤g.n∧g.n≤9223372036854775807) aC6 (fun s hs=>aFG (nF _ (xS s hs))) hs;exact⟨⟨h1,h2,h3,h4,h7⟩,h5,this.1⟩
 split
 ·have:=HJ (p:=fun x:Ex=>lC x.nm) aC7 (fun s hs=>QK hs) hs;exact⟨⟨h1,this.1,h3,h4,h7⟩,h5,h6⟩
 split
 ·exact⟨⟨h1,h2,h3,h4,h7⟩,h5,h6⟩
 split
 ·have:=HJ (p:=fun c:Co=>c.bd.length≤100000∧∀x∈c.bd,x.Ok) aC3 (fun s hs=>aFH hs) hs;exact⟨⟨h1,h2,fun c hc=>(this.1 c hc).1,h4,h7⟩,fun c hc=>(this.1 c hc).2,h6⟩
 split
 ·have:=HJ (p:=fun x:Da=>∀c∈x.bs,c<256) aC8 (fun s hs=>(QK (VC s hs)).2) hs;exact⟨⟨h1,h2,h3,h4,this.1⟩,h5,h6⟩
 ·exact⟨⟨h1,h2,h3,h4,h7⟩,h5,h6⟩
theorem aLn(no:Nat)(m:Md){s:St}(hs:SOk s):SOk (uQ no m s).2:=by
 unfold uQ;split
 ·exact sP aHw s hs
 split
 ·exact sP aC5 s hs
 split
 ·exact sP aC4 s hs
 split
 ·exact aHy true s hs
 split
 ·exact aHy false s hs
 split
 ·exact sP aC6 s hs
 split
 ·exact sP aC7 s hs
 split
 ·exact sP aHz s hs
 split
 ·exact sP aC3 s hs
 split
 ·exact sP aC8 s hs
 ·exact hs
theorem wo0:md0.WO:=⟨⟨by simp[md0],by simp[md0],by simp[md0],by simp[md0],by simp[md0]⟩,by simp[md0],by simp[md0]⟩
theorem aFI{m:Md}{s:St}(h:(s.1.isEmpty||s.2)=true):DN m s=(m,s):=by
 unfold DN;rw[dlN,if_pos h]
theorem aFJ{m:Md}{s:St}(h:s.1≠ [])(hb:s.2=false):DN m s=DN (uQ (kY s).1 m (gI (kY s).2).2).1 (uQ (kY s).1 m (gI (kY s).2).2).2∧(uQ (kY s).1 m (gI (kY s).2).2).2.1.length<s.1.length:=by
 have h1:(uQ (kY s).1 m (gI (kY s).2).2).2.1.length<s.1.length:=Nat.lt_of_le_of_lt (aHp _ _ _) (Nat.lt_of_le_of_lt (qH _) (aHg s h hb));refine⟨?_,h1⟩;unfold DN;rw[dlN,if_neg (by rw[hb];simp[h])];exact AC _ _ _ _ h1 (Nat.lt_succ_self _)
theorem aI8(b:List Nat):xG b=DN md0 (uU (b, !decide (b.take 8=headB)) 8 true):=by
 unfold xG DN;refine AC _ _ _ _ ?_ (Nat.lt_succ_self _);exact Nat.lt_succ_of_le (UQ _ _ _)
theorem HK(bs ps:List Nat)(h1:bs.length≤1000000)(h2:ps.length≤1000000)(l1:∀c∈bs,c<256)(l2:∀c∈ps,c<256):SCall Tryz.prog 165 [.str (dC bs),.str (dC ps)] [] (fun x σ=>x=.bool (decide (bs.take ps.length=ps))∧σ=[]):=by
 have hq:((dC ((bs.drop 0).take (ps.length-0))).toList==(dC ps).toList)=decide (bs.take ps.length=ps):=by
  rw[List.drop_zero,Nat.sub_zero];exact pV (fun c hc=>l1 c (List.mem_of_mem_take hc)) l2
 refine cF 18 [0,1,4] Tryz.func165 ?_;refine bM ?_;by_cases hl:ps.length≤bs.length
 ·have hE:AV.bool (decide (bs.take ps.length=ps))=AV.bool (decide (bs.take ps.length=ps)):=rfl;refine iC ?_;refine lo (fU (E rfl)) rfl ?_;refine lo (aD (E rfl)) rfl ?_;refine lo (fU (E rfl)) rfl ?_;rw[jC,jC];refine lo (gB (E rfl) (E rfl)) rfl ?_;rw[decide_eq_true (show(ps.length:Int)≤bs.length by omega)];refine jL ?_;refine pW ?_;refine aHX ?_;rw[jC];refine aKy ?_;refine pW ?_;refine aKz ?_;rw[hq];refine kL ?_;exact aE aF ⟨by rw[hE];rfl,rfl⟩ aA
 ·have hE:decide (bs.take ps.length=ps)=false:=decide_eq_false fun e=>by have:=congrArg List.length e;simp at this;omega
  refine iC ?_;refine lo (fU (E rfl)) rfl ?_;refine lo (aD (E rfl)) rfl ?_;refine lo (fU (E rfl)) rfl ?_;rw[jC,jC];refine lo (gB (E rfl) (E rfl)) rfl ?_;rw[decide_eq_false (show¬(ps.length:Int)≤bs.length by omega)];refine jL ?_;refine pW ?_;refine aHX ?_;refine aKy ?_;refine pW ?_;refine aKz ?_;refine kL ?_;exact aE aF ⟨by rw[hE];rfl,rfl⟩ aA
theorem KY(bs ps:List Nat)(h1:bs.length≤1000000)(h2:ps.length≤1000000)(l1:∀c∈bs,c<256)(l2:∀c∈ps,c<256):SCall Tryz.prog 65 [.str (dC bs),.str (dC ps)] [] (fun x σ=>x=.bool (decide (bs.take ps.length=ps))∧σ=[]):=by
 refine cF 8 [0,1,4] Tryz.func65 ?_;refine mW ?_;refine oL Tryz.call165 (HK bs ps h1 h2 l1 l2) rfl aR bB ?_;refine dE ?_;exact aE aF ⟨by rfl,rfl⟩ aA
theorem HL{k k2:Rk}(a c:List Nat)(l1:∀x∈a,x<256)(l2:∀x∈c,x<256):SCall Tryz.prog 70 [.ro 1 (a.map aG) k,.ro 1 (c.map aG) k2] [] (fun x σ=>x=.bool (decide (a=c))∧σ=[]):=by
 refine cF 10 [0,1,4] Tryz.func70 ?_;refine iD ?_;refine aEx ?_;refine lo (aD (E rfl)) rfl ?_;refine aEx ?_;refine lo (GB (E rfl) (E rfl)) rfl ?_;refine dE ?_;exact aE aF ⟨by rw[←pV l1 l2];rfl,rfl⟩ aA
theorem gR{fr:Fr}{σ σ':dS}{r:Nat}{bt:TypeId}{cs cs':List AV}(hs:SSet σ r (.box bt cs) r (.box bt cs') σ')(hb:BorL σ [] cs cs'):SGo ⟨fr,σ⟩ ⟨fr,σ'⟩:=by
 refine pU [] (fun i x' hi=>⟨x',hi,.refl _⟩) (fun p hp=> ?_);refine⟨by simp, ?_⟩;rcases List.mem_cons.1 (hs.sub p hp)with rfl|h
 ·exact⟨_,bX hs.get,.box (aB5 hb)⟩
 ·exact⟨p.2,(eT h).1,.refl _⟩
theorem AH{σ:dS}{ts:List Nat}:BorL σ ts [.ro 0 [] .nil,.ro 0 [] .nil,.ro 0 [] .nil,.bool false,.int .i64 0,.int .i64 0,.bool false,.int .i64 0,.int .i64 0,.ro 0 [] .nil,.ro 0 [] .nil,.ro 0 [] .nil,.ro 0 [] .nil,.ro 0 [] .nil] (bR md0):=
 .cons (.le VLe.empty) (.cons (.le VLe.empty) (.cons (.le VLe.empty) (.cons (.refl _) (.cons (.refl _) (.cons (.refl _) (.cons (.refl _) (.cons (.refl _) (.cons (.refl _) (.cons (.le VLe.empty) (.cons (.le VLe.empty) (.cons (.le VLe.empty) (.cons (.le VLe.empty) (.cons (.le VLe.empty) .nil)))))))))))))
theorem aFK:(xG []).2.2=true:=by decide
theorem aFL{b:List Nat}{m:Md}{z:Bool}(h80:¬8000<b.length)(hB:(xG b).2.2=false)(hM:(xG b).1=m)(hz:z=true→(oN m).map aG=[])(hbn:b≠ [])(g:(if z=true then true else !decide (oN m=b))=true):yL b=(md0,1):=by
 unfold yL;rw[if_neg h80,if_neg (by rw[hB];simp),hM,if_neg];rintro⟨e1,e2⟩;have e3:oN m=b:=by unfold oN;rw[if_pos e1,e2]
 rw[e3]at g hz;cases z with
 |true=>exact hbn (by simpa using hz rfl)
 |false=>simp at g
theorem aDc{b:List Nat}{m:Md}{z:Bool}(h80:¬8000<b.length)(hB:(xG b).2.2=false)(hM:(xG b).1=m)(hbn:b≠ [])(g:(if z=true then true else !decide (oN m=b))=false):yL b=(m,0):=by
 have hb:oN m=b:=by cases z with
  |true=>simp at g
  |false=>simpa using g
 have hy:nR m=true:=by
  cases hh:nR m with
  |true=>rfl
  |false=>unfold oN at hb;rw[hh]at hb;exact absurd hb.symm hbn
 unfold oN at hb;rw[if_pos hy]at hb;unfold yL;rw[if_neg h80,if_neg (by rw[hB];simp),hM,if_pos ⟨hy,hb⟩]
theorem AI{a c:List Nat}(h1:∀x∈a,x<256)(h2:∀x∈c,x<256):∀x∈a++c,x<256:=fun x hx=>(List.mem_append.1 hx).elim (h1 x) (h2 x)
theorem HM{α:Type}{l:List α}{pt:α→List Nat}(h:∀x∈l,∀c∈pt x,c<256):∀c∈bC l pt,c<256:=AI (lM _) fun c hc=>by
 obtain⟨x,hx,hc⟩:=List.mem_flatMap.1 hc;exact h x hx c hc
theorem rT{α:Type}{no:Nat}{l:List α}{pt:α→List Nat}(hno:no<256)(h:∀x∈l,∀c∈pt x,c<256):∀c∈bI no l pt,c<256:=by
 unfold bI;split
 ·simp
 ·intro c hc;rcases List.mem_cons.1 hc with rfl|hc
  ·exact hno
  ·exact AI (lM _) (HM h) c hc
theorem aAe(k:Int):∀c∈kB k,c<256:=by unfold kB;split<;>simp
theorem aDd{k n:Int}(hv:mQ k n=true)(hn:-9223372036854775808≤n∧n≤9223372036854775807):∀c∈mC k n,c<256:=by
 obtain⟨ho,hm,-⟩:=GX hv hn;exact AI (ZJ hm) (by simp)
theorem aDe{n:Int}(h:kM n=true):∀c∈qF n,c<256:=by
 have hr:-2147483648≤n∧n≤2147483647:=by unfold kM at h;simpa using h
 intro c hc;rcases List.mem_cons.1 hc with rfl|hc
 ·decide
 ·exact aDd (k:=1) (n:=n) (by unfold mQ;simp;omega) (by omega) c hc
theorem aDf(l:Li):∀c∈eK l,c<256:=by
 unfold eK cG;split
 ·intro c hc;rcases List.mem_cons.1 hc with rfl|hc
  ·decide
  ·exact lM _ c hc
 ·intro c hc;rcases List.mem_cons.1 hc with rfl|hc
  ·decide
  ·exact AI (lM _) (lM _) c hc
theorem XW{s:List Nat}(h:uG s=true):∀c∈bQ s,c<256:=AI (lM _) (kX h).2.1
theorem aI9{x:Co}(h:tK x=true)(hO:∀i∈x.bd,i.Ok):∀c∈kH x,c<256:=by
 unfold tK at h;simp only[Bool.and_eq_true]at h;refine AI (lM _) (AI (HM fun r _=>AI (lM _) (aAe _)) (aE2 fun i hi=>⟨hO i hi,(cB h.2).2 i hi⟩))
theorem aFM{m:Md}(h:qZ m=true)(hw:m.WO):∀c∈fH m,c<256:=by
 obtain⟨hw,hO1,hO2⟩:=hw;unfold qZ at h;simp only[Bool.and_eq_true]at h;obtain⟨⟨⟨⟨-,hco⟩,hls⟩,htb⟩,hme⟩:=h;unfold qG at hls;simp only[Bool.and_eq_true]at hls;obtain⟨⟨⟨⟨⟨⟨hty,him⟩,hfn⟩,hgl⟩,hex⟩,hel⟩,hda⟩:=hls;unfold fH;refine AI (AI (AI (AI (AI (AI (AI (AI (AI (AI ?_ ?_) ?_) ?_) ?_) ?_) ?_) ?_) ?_) ?_) ?_
 ·decide
 ·refine rT (by decide) fun x _ c hc=> ?_
  rcases List.mem_cons.1 hc with rfl|hc
  ·decide
  ·exact AI (HM fun k _=>aAe k) (HM fun k _=>aAe k) c hc
 ·refine rT (by decide) fun x hx=> ?_
  have:=(cB him).2 x hx;simp only[Bool.and_eq_true]at this;exact AI (AI (AI (XW this.1.1) (XW this.1.2)) (by simp)) (lM _)
 ·exact rT (by decide) fun x _=>lM _
 ·refine rT (by decide) fun x _ c hc=> ?_
  rcases List.mem_cons.1 hc with rfl|hc
  ·decide
  ·exact aDf x c hc
 ·exact rT (by decide) fun x _=>aDf x
 ·refine rT (by decide) fun x hx=> ?_
  exact AI (AI (aAe _) (by intro c hc;rw[List.mem_singleton.1 hc];split<;>decide)) (aDd ((cB hgl).2 x hx) (hO2 x hx))
 ·refine rT (by decide) fun x hx=> ?_
  have:=(cB hex).2 x hx;simp only[Bool.and_eq_true]at this;exact AI (AI (XW this.1) (by simp)) (lM _)
 ·refine rT (by decide) fun x hx=> ?_
  have:=(cB hel).2 x hx;simp only[Bool.and_eq_true]at this;exact AI (aDe this.1) (HM fun n _=>lM _)
 ·exact rT (by decide) fun x hx=>aI9 ((cB hco).2 x hx) (hO1 x hx)
 ·refine rT (by decide) fun x hx=> ?_
  have:=(cB hda).2 x hx;simp only[Bool.and_eq_true]at this;exact AI (AI (aDe this.1) (lM _)) (hw.da x hx)
theorem aAf{m:Md}(h:m.WO):∀c∈oN m,c<256:=by
 unfold oN;split
 ·next hy=>exact aFM (VA hy).1 h
 ·simp
theorem DF(b:List Nat)(hb:b.length≤100000)(hlt:∀c∈b,c<256):SCall Tryz.prog 20 [.ro 1 (b.map aG) .any] []
  (fun y σ=>y=.tup [.agg (bR (yL b).1),.int .i64 (yL b).2]∧σ=[]):=by
 have hs0:SOk (b, !decide (b.take headB.length=headB)):=⟨hb,hlt⟩
 have k0:=NP hs0 8 true;have hP:=aI8 b;have wsk:=fun r=>AF r (b, !decide (b.take headB.length=headB)) hs0 8 true
 refine cF 59 [0,2,3,4,5,6,7,10,33,45,56] Tryz.func20 ?_;refine dX ?_;refine jU fun r2 h2=> ?_;intros
 refine dE ?_;refine dQ (gR (r:=r2) cA AH) ?_;refine iC ?_;refine uC ?_;refine aB rfl (fun g1=> ?_) (fun g1=> ?_)
 ·have hE:yL b=(md0,4):=by unfold yL;rw[if_pos (by simp at g1;omega)]
  refine uE ?_;refine GP ?_;refine dQ (gR (r:=r2) cA AH) ?_;refine aJ ?_;exact aE aF ⟨by rw[hE];rfl,rfl⟩ aA
 have h80:¬8000<b.length:=by simp at g1;omega
 refine dX ?_;refine jU fun r4 h4=> ?_;intros
 refine lD ?_;refine dQ (gR (r:=r4) cA AH) ?_;refine kK ?_;refine aEx ?_;refine oL Tryz.call65 (KY b headB (by omega) (by decide) hlt (by decide)) rfl aR bB ?_;refine lo (dF (E rfl)) rfl ?_;refine jK ?_;refine iQ fun r18 h18=> ?_;intros
 refine hZ ?_;refine cw [(r18,.box 117 (dH (b, !decide (b.take headB.length=headB))))] Tryz.call66 (wsk r18) rfl aC aA ?_;rintro _ σ' ⟨rfl,rfl⟩ h20;refine gX ?_;rw[show uU (b, !decide (b.take headB.length=headB)) ((8:Nat):Int) true=uU (b, !decide (b.take 8=headB)) 8 true from rfl];rw[show uU (b, !decide (b.take headB.length=headB)) 8 true=uU (b, !decide (b.take 8=headB)) 8 true from rfl]at k0;generalize uU (b, !decide (b.take 8=headB)) 8 true=s0 at k0 hP⊢;refine lp (β:=Md×St) (fun x=>⟨[(0,.ro 1 (b.map aG) .any),(2,.ptr r2 0),(4,.ptr r4 0),(5,.ptr r18 0)],[(r18,.box 117 (dH x.2)),(r4,.box 33 (bR x.1)),(r2,.box 33 (bR md0))]⟩) (fun x=>x.1.WO∧SOk x.2∧DN x.1 x.2=xG b) (fun x=>x.2.1.length) (md0,s0) aL ⟨wo0,k0,hP.symm⟩ ?_;rintro⟨m,⟨l,bad⟩⟩ ⟨hwo,hs,hD⟩;dsimp only at hwo hs hD⊢;unfold dH;dsimp only;refine oK ?_;refine kU ?_;refine vK ?_;refine aB rfl (fun g6=> ?_) (fun g6=> ?_)
 ·obtain rfl:bad=false:=by cases bad with|false=>rfl|true=>simp at g6
  have hne:l≠ []:=by intro e;subst e;simp at g6
  have wb:=oB r18 (l,false) hs;have kb:=nF (l,false) hs;have wn:=jN r18 _ kb;have kn:=iN _ kb;have hbl:(kY (l,false)).1<256:=by cases l with|nil=>exact absurd rfl hne|cons x t=>exact hs.2 x List.mem_cons_self
  have ws:=XV r18 r4 (by(exact bV)) _ kn m (kY (l,false)).1;have hst:=aFJ (m:=m) (s:=(l,false)) hne rfl;have kw:=aLm (kY (l,false)).1 hwo kn;have ks:=aLn (kY (l,false)).1 m kn;refine dM ?_;refine MR [(r18,.box 117 (dH (l,false)))] Tryz.call67 wb ?_;refine z44 ?_;refine hZ ?_;refine cw [(r18,.box 117 (dH (kY (l,false)).2))] Tryz.call68 wn rfl aC aA ?_;rintro _ σ' ⟨rfl,rfl⟩ h38;refine uP ?_;refine eX ?_;refine cw [(r18,.box 117 (dH (gI (kY (l,false)).2).2)),(r4,.box 33 (bR m))] Tryz.call69 ws rfl aC aA ?_;rintro _ σ' ⟨rfl,rfl⟩ h41;refine gX ?_;refine⟨uQ (kY (l,false)).1 m (gI (kY (l,false)).2).2,⟨kw,ks,hst.1.symm.trans hD⟩,hst.2, ?_⟩;exact aL
 have hz:DN m (l,bad)=(m,(l,bad)):=aFI (by cases bad with|true=>simp|false=>(cases l with|nil=>rfl|cons x t=>(simp at g6<;>omega)));rw[hz]at hD;refine oK ?_;refine lD ?_;refine aB rfl (fun g10=> ?_) (fun g10=> ?_)
 ·have hE:yL b=(md0,1):=by unfold yL;rw[if_neg h80,if_pos (by rw[←hD];exact g10)]
  refine uE ?_;refine GP ?_;refine dQ (gR (r:=r2) cA AH) ?_;refine aJ ?_;exact aE aF ⟨by rw[hE];rfl,rfl⟩ aA
 refine aJ ?_;obtain⟨ty,im,fn,tb,me,gl,ex,el,co,da⟩:=m;refine jQ ?_;refine oS ?_;refine rY Tryz.call18 (vX ⟨ty,im,fn,tb,me,gl,ex,el,co,da⟩ hwo) rfl bU kD ?_;rintro _ σ' ⟨q48,rfl,rfl⟩ h48
 replace h48:=cL h48;repeat rcases h48 with⟨_,h48⟩
 apply aY;exact bN;refine gJ (j:=48) rfl aU (aK bA (by simp)) ?_;refine dE ?_;have hB:(xG b).2.2=false:=by rw[←hD];exact g10
 have hM:(xG b).1=⟨ty,im,fn,tb,me,gl,ex,el,co,da⟩:=by rw[←hD]
 have hbn:b≠ []:=by intro e;rw[e,aFK]at hB;cases hB
 refine iC ?_;refine ne rfl rfl rfl fun z hz _=> ?_
 refine jL ?_;refine pW ?_;refine lG rfl rfl Tryz.call70 (fun _=>(HL (oN ⟨ty,im,fn,tb,me,gl,ex,el,co,da⟩) b (aAf hwo) hlt)) rfl aR bB ?_;refine vF ?_;refine lL ?_;refine aB rfl (fun g13=> ?_) (fun g13=> ?_)
 ·have hE:=aFL h80 hB hM hz hbn g13;refine uE ?_;refine GP ?_;refine dQ (gR (r:=r2) cA AH) ?_;refine aJ ?_;exact aE aF ⟨by rw[hE];rfl,rfl⟩ aA
 have hE:=aDc h80 hB hM hbn g13;refine qB ?_;refine CW ?_;exact aE aF ⟨by rw[hE];rfl,rfl⟩ aA
def eL {α:Type} (pt:α→List Nat) (l:List α) (j:Nat):List Nat:=(l.take j).flatMap pt
theorem lQ{α:Type}{pt:α→List Nat}{l:List α}{j:Nat}{x:α}(h:l[j]? =some x):eL pt l (j+1)=eL pt l j++pt x:=by
 unfold eL;rw[List.take_add_one,h,List.flatMap_append];simp
theorem aFN{α:Type}{pt:α→List Nat}{l:List α}:eL pt l l.length=l.flatMap pt:=by unfold eL;rw[List.take_length]
theorem XX{α:Type}{pt:α→List Nat}{l:List α}{c:Nat}(h:∀x∈l,(pt x).length≤c)(j:Nat):(eL pt l j).length≤l.length*c:=by
 have h1:∀(l:List α),(∀x∈l,(pt x).length≤c)→(l.flatMap pt).length≤l.length*c:=by
  intro l
  induction l with
  |nil=>simp
  |cons x l ih=>
   intro h;have:=ih fun y hy=>h y (List.mem_cons_of_mem _ hy)
   have hx:=h x List.mem_cons_self;rw[List.flatMap_cons,List.length_append,List.length_cons,Nat.add_mul];omega
 refine Nat.le_trans (h1 (l.take j) fun x hx=>h x (List.mem_of_mem_take hx)) (Nat.mul_le_mul_right c ?_);simp;omega
theorem FO{α:Type}{pt:α→List Nat}{l:List α}:bC l pt=uB l.length++eL pt l l.length:=by rw[aFN];rfl
theorem vZ(n:Int)(h0:0≤n)(h1:n≤100000000):SCall Tryz.prog 160 [.int .i64 n] [] (fun y σ=>∃q,y=.own q 0 (cG n).length∧σ=[(q,.arr 5 1 ((cG n).map aG))]):=by
 obtain⟨k,rfl⟩:∃k:Nat,n=k:=⟨n.toNat,by omega⟩
 have hU:=CZ k (by omega);have hn:cG (k:Int)=uB k:=rfl;rw[hn];refine cF 6 [0,2] Tryz.func160 ?_;refine iD ?_;refine XA ?_;refine rY Tryz.call252 hU rfl bU kD ?_;rintro _ σ' ⟨q,rfl,rfl⟩ h5
 replace h5:=cL h5;repeat rcases h5 with⟨_,h5⟩
 refine eZ ?_;exact aE aF ⟨q,by rfl,rfl⟩ aA
theorem wA{k:Rk}(n:Nat)(vs:List Nat)(h1:n≤100000000)(h2:vs.length≤50000000):SCall Tryz.prog 251 [.int .i64 n,.ro 1 (vs.map aG) k] [] (fun y σ=>∃q,y=.own q 0 (uB n++vs).length∧σ=[(q,.arr 5 1 ((uB n++vs).map aG))]):=by
 have hu:=vZ n (by omega) (by omega);have hn:cG (n:Int)=uB n:=rfl;rw[hn]at hu;have hl:=bP 4 n (by omega);refine cF 9 [0,1,4] Tryz.func251 ?_;refine iD ?_;refine rY Tryz.call160 hu rfl bU kD ?_;rintro _ σ' ⟨q,rfl,rfl⟩ h6
 replace h6:=cL h6;repeat rcases h6 with⟨_,h6⟩
 refine xZ ?_;refine iY ((uB n++vs).map aG) (uB n++vs).length ?_;refine bH fun r8 h8=> ?_;intros
 refine dE ?_;exact aE aF ⟨r8,by rfl,rfl⟩ aA
theorem rE(s:List Nat)(h1:s.length≤100000)(h2:∀c∈s,c<256):SCall Tryz.prog 159 [.str (dC s)] [] (fun y σ=>∃q,y=.own q 0 (bQ s).length∧σ=[(q,.arr 5 1 ((bQ s).map aG))]):=by
 have hv:=wA (k:=.any) s.length s (by omega) (by omega);refine cF 8 [0,2] Tryz.func159 ?_;refine iD ?_;refine lo (fU (E rfl)) rfl ?_;refine lo (aD (E rfl)) rfl ?_;refine cvb h2 ?_ (by simp[maxLen];omega);rw[jC];refine rY Tryz.call251 hv rfl bU kD ?_;rintro _ σ' ⟨q,rfl,rfl⟩ h7
 replace h7:=cL h7;repeat rcases h7 with⟨_,h7⟩
 refine eZ ?_;exact aE aF ⟨q,by rfl,rfl⟩ aA
theorem FP(k:Int):SCall Tryz.prog 162 [.int .i64 k] [] (fun y σ=>y=.int .u8 ((if(k==1)=true then 127 else 126:Nat):Nat)∧σ=[]):=by
 refine cF 5 [0,2,4] Tryz.func162 ?_;refine iD ?_;refine rO ?_;refine aB rfl (fun g1=> ?_) (fun g1=> ?_)
 ·have hE:(if(k==1)=true then 127 else 126:Nat)=127:=if_pos g1;refine bM ?_;exact aE aF ⟨by rw[hE];rfl,rfl⟩ aA
 have hE:(if(k==1)=true then 127 else 126:Nat)=126:=if_neg (by rw[g1];simp);refine bM ?_;exact aE aF ⟨by rw[hE];rfl,rfl⟩ aA
theorem aDg(k:Int):kB k=[if(k==1)=true then 127 else 126]:=by unfold kB;split<;>rfl
theorem VF{k:Rk}(l:List Int)(hl:l.length≤1000):SCall Tryz.prog 157 [.ro 1 (l.map aP) k] [] (fun y σ=>∃q,y=.own q 0 (bC l kB).length∧σ=[(q,.arr 5 1 ((bC l kB).map aG))]):=by
 have hfl:=XX (l:=l) (fun x _=>Nat.le_of_eq (nT x));rw[FO];refine cF 23 [0,2,3,4,8] Tryz.func157 ?_;refine oJ ?_;refine bW 3 5 1 (by decide) rfl (by decide) (bL fun q0 hq0=> ?_);repeat rcases hq0 with⟨_,hq0⟩
 refine sF ?_;refine lp (β:=Nat×Nat) (fun b=>⟨[(0,.ro 1 (l.map aP) k),(3,.own b.1 0 (eL kB l b.2).length),(4,.int .i64 b.2)],[(b.1,.arr 5 1 ((eL kB l b.2).map aG))]⟩) (fun b=>b.2≤l.length) (fun b=>l.length-b.2) (q0,0) aL (Nat.zero_le _) ?_;rintro⟨q1,j⟩ hj;have hpl:=hfl j;dsimp only at hj⊢;refine eX ?_;refine GO ?_;refine aB rfl (fun g3=> ?_) (fun g3=> ?_)
 ·have hlt:j<l.length:=by simp at g3;omega
  obtain⟨x,hx⟩:∃x,l[j]? =some x:=⟨_,List.getElem?_eq_getElem hlt⟩
  have hnx:eL kB l (j+1)=eL kB l j++ [if(x==1)=true then 127 else 126]:=by rw[lQ hx,aDg]
  refine eX ?_;refine nJ ?_;refine oL Tryz.call162 (FP x) rfl aR bB ?_;refine eN fun r17 h17=> ?_;intros
  refine iY ((eL kB l j++ [if(x==1)=true then 127 else 126]).map aG) (eL kB l j++ [if(x==1)=true then 127 else 126]).length ?_;refine bH fun r18 h18=> ?_;intros
  refine hZ ?_;refine GM ?_;refine⟨(r18,j+1),hlt,by show l.length-(j+1)<l.length-j;omega, ?_⟩;dsimp only;rw[hnx];exact aL
 obtain rfl:j=l.length:=by simp at g3;omega
 refine dM ?_;refine zG ?_;refine rY Tryz.call251 (wA l.length (eL kB l l.length) (by omega) (by omega)) rfl bU kD ?_;rintro _ σ' ⟨q4,rfl,rfl⟩ h22
 replace h22:=cL h22;repeat rcases h22 with⟨_,h22⟩
 refine eZ ?_;exact aE aF ⟨q4,by rfl,rfl⟩ aA
theorem XY{k:Rk}(l:List Int)(hl:l.length≤1000)(h0:∀x∈l,0≤x∧x≤100000000):SCall Tryz.prog 254 [.ro 1 (l.map aP) k] [] (fun y σ=>∃q,y=.own q 0 (bC l cG).length∧σ=[(q,.arr 5 1 ((bC l cG).map aG))]):=by
 have hfl:=XX (pt:=cG) (l:=l) (c:=5) fun x hx=>by have:=h0 x hx;exact bP 4 x.toNat (by omega)
 rw[FO];refine cF 22 [0,2,3,4,8] Tryz.func254 ?_;refine oJ ?_;refine bW 3 5 1 (by decide) rfl (by decide) (bL fun q0 hq0=> ?_);repeat rcases hq0 with⟨_,hq0⟩
 refine sF ?_;refine lp (β:=Nat×Nat) (fun b=>⟨[(0,.ro 1 (l.map aP) k),(3,.own b.1 0 (eL cG l b.2).length),(4,.int .i64 b.2)],[(b.1,.arr 5 1 ((eL cG l b.2).map aG))]⟩) (fun b=>b.2≤l.length) (fun b=>l.length-b.2) (q0,0) aL (Nat.zero_le _) ?_;rintro⟨q1,j⟩ hj;have hpl:=hfl j;dsimp only at hj⊢;refine eX ?_;refine GO ?_;refine aB rfl (fun g3=> ?_) (fun g3=> ?_)
 ·have hlt:j<l.length:=by simp at g3;omega
  obtain⟨x,hx⟩:∃x,l[j]? =some x:=⟨_,List.getElem?_eq_getElem hlt⟩
  have hx0:=h0 x (List.mem_of_getElem? hx);have hxl:=bP 4 x.toNat (by omega);have hxl2:(cG x).length≤5:=hxl;have hnx:eL cG l (j+1)=eL cG l j++cG x:=lQ hx;refine eX ?_;refine nJ ?_;refine rY Tryz.call160 (vZ x hx0.1 hx0.2) rfl bU kD ?_;rintro _ σ' ⟨q16,rfl,rfl⟩ h16
  replace h16:=cL h16;repeat rcases h16 with⟨_,h16⟩
  apply aY;exact bN;refine iY ((eL cG l j++cG x).map aG) (eL cG l j++cG x).length ?_;refine bH fun r17 h17=> ?_;intros
  refine hZ ?_;refine GM ?_;refine⟨(r17,j+1),hlt,by show l.length-(j+1)<l.length-j;omega, ?_⟩;dsimp only;rw[hnx];exact aL
 obtain rfl:j=l.length:=by simp at g3;omega
 refine dM ?_;refine zG ?_;refine rY Tryz.call251 (wA l.length (eL cG l l.length) (by omega) (by omega)) rfl bU kD ?_;rintro _ σ' ⟨q4,rfl,rfl⟩ h21
 replace h21:=cL h21;repeat rcases h21 with⟨_,h21⟩
 refine eZ ?_;exact aE aF ⟨q4,by rfl,rfl⟩ aA
end Go.Proofs.YtjpdadobblffmaaGreat
namespace Go.Proofs.YtjpdadobblffmaaGreat
open Go.RowKit Go.ChangeShapes Go.WideShapes Go.ChangeAt Go.Deep
section
variable {P : Program} {n : Nat} {ops : Array Oper} {fr : Fr} {σ : dS} {K : ASt → Prop} {ty t : TypeId} {d : Nat} {x y : Operand} {listed : Array Bool} {todo : List (Nat × Bool)} {held : List (Nat × List Nat)}
theorem aJa{e:TypeId}{sz by_:Nat}{zv:Value}{r len:Nat}{es ys:List (List AV)}(es':List (List AV))(len':Nat)
  (hK:∀r',Fresh r' (eO [r] σ)→∃σ',SSet σ r (.arr e sz es) r' (.arr e sz es') σ'∧RD P n ops listed todo held ⟨(d,.own r' 0 len')::fr,σ'⟩ K)
  (i1:Ty P t (.slice e):=by infer_instance) (i2:Tz P e sz by_ zv:=by infer_instance) (hz:zv.cells.size=sz:=by rfl) (hx:aev ⟨fr,σ⟩ x=some (.own r 0 len):=by rfl) (hg:gN σ r=some (.arr e sz es):=by exact bA) (hlen:len=es.length:=by exact KU) (hy:Src ⟨fr,σ⟩ y sz ys:=by exact aCB)
  (he:es++ys=es':=by exact aIc) (hl':len'=len+ys.length:=by exact KU) (hmax:len'≤maxLen:=by(simp[maxLen];try omega)) (hby:len'*by_≤140737488355328:=by(simp;try omega)) (hd:Nat.ble (d+1) n=true:=by rfl):
  Hop P n (.call { callee:=.builtin .append,args:=#[x,y],argTypes:=#[t,t] }) ty (some d) ⟨fr,σ⟩ [r] (fun s'=>RD P n ops listed todo held s' K):=by
 subst he hl';refine pT hz hx hg (by omega) hy hmax hby (cW hd) fun r' hf=> ?_
 obtain⟨σ',hs,hK⟩:=hK r' hf;rw[hlen,List.take_length];refine GI (fun p hp=>hs.sub p hp) ?_;rw[←hlen];exact hK
theorem kO{f:FuncId}{xs:List Operand}{ats:Array TypeId}{args:List AV}{R:AV→dS→Prop}(hf:∀args w,(callFunc f args).run P w=.ok (.enter f args) w)(h:SCall P f args [] R)(hd:d<n)
  (hK:∀x σ',R x σ'→(∀p∈σ',Fresh p.1 σ)→K ⟨(d,x)::fr,σ'++σ⟩) (hargs:ArgsBor ⟨fr,σ⟩ (σ.map (·.1)) xs args:=by exact bU) (hno:∀x σ',R x σ'→NoF x∧∀p∈σ',ENoF p.2:=by exact kD):
  Hop P n (.call { callee:=.value (.func f),args:=xs.toArray,argTypes:=ats }) ty (some d) ⟨fr,σ⟩ [] K:=rL (s:=⟨fr,σ⟩) _ hf h hd hargs hno hK
theorem aHA{sz by_:Nat}{z:Value}{cs:List AV}(i1:Tz P t sz by_ z)(hd:Nat.ble (d+1) n=true)(hz:z.cells.toList.map cV=cs)(hK:∀r,Fresh r σ→K ⟨(d,.ptr r 0)::fr,(r,.box t cs)::σ⟩):Hop P n (.alloc t) ty (some d) ⟨fr,σ⟩ [] K:=by
 subst hz;exact BK (cW hd) hK
end
end Go.Proofs.YtjpdadobblffmaaGreat
namespace Go.Proofs.YtjpdadobblffmaaGreat
open Go.RowKit Go.ChangeShapes Go.WideShapes Go.ChangeAt Go.Deep
attribute [local irreducible] SW RS RD fG eH
theorem NS(l:Li)(h:UN l):SCall Tryz.prog 161 [.agg (fC l)] [] (fun y σ=>∃q,y=.own q 0 (eK l).length∧σ=[(q,.arr 5 1 ((eK l).map aG))]):=by
 obtain⟨has,mn,mx⟩:=l;obtain⟨h0,h1,h2⟩:=h;dsimp only at h0 h1 h2;have hu:=bP 2 mn.toNat (by omega);have hu2:=bP 2 mx.toNat (by omega);have hul:(cG mn).length≤3:=hu;have hul2:(cG mx).length≤3:=hu2;refine cF 20 [0,1,2,5] Tryz.func161 ?_;unfold fC;refine dX ?_;apply bx;rfl;rfl;exact wY;rfl;refine bL fun r1 h1=> ?_;repeat rcases h1 with⟨_,h1⟩
 refine iW ?_;refine BO ?_;refine aB rfl (fun g1=> ?_) (fun g1=> ?_)
 ·have hE:eK ⟨has,mn,mx⟩=[0]++cG mn:=by unfold eK;rw[if_pos g1];rfl
  refine dX ?_;refine eN fun r6 h6=> ?_;intros
  refine fW ?_;refine rY Tryz.call160 (vZ mn h0 (by omega)) rfl bU kD ?_;rintro _ σ' ⟨q9,rfl,rfl⟩ h9
  replace h9:=cL h9;repeat rcases h9 with⟨_,h9⟩
  apply aY;exact bN;refine iY (([0]++cG mn).map aG) ([0]++cG mn).length ?_;refine bH fun r10 h10=> ?_;intros
  refine dE ?_;exact aE aF ⟨r10,by rw[hE];rfl,by rw[hE]⟩ aA
 have hE:eK ⟨has,mn,mx⟩=[1]++cG mn++cG mx:=by unfold eK;rw[if_neg (by rw[g1];simp)];rfl
 have hx:0≤mx:=by simp at g1;omega
 refine aJ ?_;refine fM [(1,true),(2,true),(5,true),(6,true),(10,false),(10,false),(10,false),(10,false),(10,false),(10,false)] ?_;refine fX ?_;refine fX ?_;refine jD 0 3 [(3,false),(4,false),(7,false),(8,false),(9,true)] [(0,false),(4,false),(7,false),(8,false),(9,true)] (f1:=[]) (f2:=[]) (by kernel_rfl) rfl rfl ?_ ?_ (.inl rfl) (.inl rfl)
 ·apply xR;infer_instance;infer_instance;exact sE;rfl;rfl;rfl;rfl;exact wY;rfl;refine jZ fun r11 h11=> ?_;intros
  refine lO rfl Tryz.call160 (vZ mn h0 (by omega)) rfl bU kD ?_;rintro _ σ' ⟨q14,rfl,rfl⟩ h14
  replace h14:=cL h14;repeat rcases h14 with⟨_,h14⟩
  apply bZ;exact bN;refine fB rfl (([1]++cG mn).map aG) ([1]++cG mn).length ?_;refine bH fun r15 h15=> ?_;intros
  refine lO rfl Tryz.call160 (vZ mx hx (by omega)) rfl bU kD ?_;rintro _ σ' ⟨q18,rfl,rfl⟩ h18
  replace h18:=cL h18;repeat rcases h18 with⟨_,h18⟩
  apply bZ;exact bN;refine fB rfl (([1]++cG mn++cG mx).map aG) ([1]++cG mn++cG mx).length ?_;refine bH fun r19 h19=> ?_;intros
  refine yB ?_;exact aE aF ⟨r19,by rw[hE];rfl,by rw[hE]⟩ aA
 ·refine kO Tryz.call160 (vZ mn h0 (by omega)) (cW rfl) ?_;rintro _ σ' ⟨q14,rfl,rfl⟩ h14
  replace h14:=cL h14;repeat rcases h14 with⟨_,h14⟩
  apply bZ;exact bN;refine z97 ?_;refine bL fun r11 h11=> ?_;repeat rcases h11 with⟨_,h11⟩
  refine fB rfl (([1]++cG mn).map aG) ([1]++cG mn).length ?_;refine bH fun r15 h15=> ?_;intros
  refine lO rfl Tryz.call160 (vZ mx hx (by omega)) rfl bU kD ?_;rintro _ σ' ⟨q18,rfl,rfl⟩ h18
  replace h18:=cL h18;repeat rcases h18 with⟨_,h18⟩
  apply bZ;exact bN;refine fB rfl (([1]++cG mn++cG mx).map aG) ([1]++cG mn++cG mx).length ?_;refine bH fun r19 h19=> ?_;intros
  refine yB ?_;exact aE aF ⟨r19,by rw[hE];rfl,by rw[hE]⟩ aA
theorem rF(k n:Int)(hv:mQ k n=true)(hn:-9223372036854775808≤n∧n≤9223372036854775807):SCall Tryz.prog 163 [.agg [.int .i64 k,.int .i64 n]] []
  (fun y σ=>∃q,y=.own q 0 (mC k n).length∧σ=[(q,.arr 5 1 ((mC k n).map aG))]):=by
 obtain⟨ho,hm,-⟩:=GX hv hn;have hpl:=vQ ho hm;have hcB:mC k n=gG ⟨if(k==2)=true then 66 else 65,n,0,[]⟩++ [11]:=rfl;rw[hcB];generalize hop:(if(k==2)=true then(66:Int)else 65)=op at ho hm hpl hcB⊢;have hop:=hop.symm;refine cF 14 [0,1,2,3,6] Tryz.func163 ?_;refine dX ?_;refine iQ fun r1 h1=> ?_;intros
 refine lJ ?_;refine iW ?_;refine rO ?_;refine aB rfl (fun g2=> ?_) (fun g2=> ?_)
 ·have hco:cV (.int .i64 66)=AV.int .i64 op:=by rw[hop,if_pos g2];rfl
  refine bM ?_;rw[hco];refine pE ?_;refine jK ?_;refine iK (eF (j:=10) rfl FL) ?_;refine rY Tryz.call253 (tH .any ⟨op,n,0,[]⟩ ho hm) rfl bU kD ?_;rintro _ σ' ⟨q11,rfl,rfl⟩ h11
  replace h11:=cL h11;repeat rcases h11 with⟨_,h11⟩
  apply aY;exact bN;refine eN fun r12 h12=> ?_;intros
  refine iY ((gG ⟨op,n,0,[]⟩++ [11]).map aG) (gG ⟨op,n,0,[]⟩++ [11]).length ?_;refine bH fun r13 h13=> ?_;intros
  refine dE ?_;exact aE aF ⟨r13,by rfl,rfl⟩ aA
 have hco:cV (.int .i64 65)=AV.int .i64 op:=by rw[hop,if_neg (by simp[g2])];rfl
 refine aJ ?_;rw[hco];refine pE ?_;refine jK ?_;refine iK (eF (j:=10) rfl FL) ?_;refine rY Tryz.call253 (tH .any ⟨op,n,0,[]⟩ ho hm) rfl bU kD ?_;rintro _ σ' ⟨q11,rfl,rfl⟩ h11
 replace h11:=cL h11;repeat rcases h11 with⟨_,h11⟩
 apply aY;exact bN;refine z1 ?_;refine bL fun r12 h12=> ?_;repeat rcases h12 with⟨_,h12⟩
 refine iY ((gG ⟨op,n,0,[]⟩++ [11]).map aG) (gG ⟨op,n,0,[]⟩++ [11]).length ?_;refine bH fun r13 h13=> ?_;intros
 refine dE ?_;exact aE aF ⟨r13,by rfl,rfl⟩ aA
theorem iT{α:Type}(no:Nat)(hno:no<256)(l:List α)(pt:α→List Nat)(hl:l.length≤1000)(hp:(eL pt l l.length).length≤30000000):SCall Tryz.prog 158 [.int .i64 no,.int .i64 l.length,.ro 1 ((eL pt l l.length).map aG) .any] []
  (fun y σ=>∃q,y=.own q 0 (bI no l pt).length∧σ=[(q,.arr 5 1 ((bI no l pt).map aG))]):=by
 have hu:=bP 1 l.length (by omega);have hV:bC l pt=uB l.length++eL pt l l.length:=FO;have hvl:(uB l.length++eL pt l l.length).length≤40000000:=by simp;omega
 have hw:=wA (k:=.any) l.length (eL pt l l.length) (by omega) (by omega);rw[←hV]at hvl hw;have hS:bI no l pt=if l.isEmpty then []else [no]++(uB (bC l pt).length++bC l pt):=rfl
 have hub:=bP 4 (bC l pt).length (by omega);refine cF 21 [0,1,2,6,7,9] Tryz.func158 ?_;refine iD ?_;refine rO ?_;refine aB rfl (fun g1=> ?_) (fun g1=> ?_)
 ·obtain rfl:l=[]:=by cases l with|nil=>rfl|cons x t=>(simp at g1<;>omega)
  refine dX ?_;refine oZ ?_;refine bW 6 5 1 (by decide) rfl (by decide) (bL fun q2 hq2=> ?_);repeat rcases hq2 with⟨_,hq2⟩
  refine aJ ?_;exact aE aF ⟨q2,by rw[hS];rfl,by rw[hS]⟩ aA
 have hE:bI no l pt=[no]++(uB (bC l pt).length++bC l pt):=by rw[hS,if_neg];intro e;rw[List.isEmpty_iff.1 e]at g1;simp at g1
 refine eX ?_;refine rY Tryz.call251 hw rfl bU kD ?_;rintro _ σ' ⟨q12,rfl,rfl⟩ h12
 replace h12:=cL h12;repeat rcases h12 with⟨_,h12⟩
 refine eZ ?_;generalize bC l pt=P at hvl hub hE⊢;refine iC ?_;refine z0 ?_;refine eN fun r15 h15=> ?_;intros
 refine lo (aD (E rfl)) rfl ?_;refine zG ?_;refine rY Tryz.call251 (wA (k:=.any) P.length P (by omega) (by omega)) rfl bU kD ?_;rintro _ σ' ⟨q19,rfl,rfl⟩ h19
 replace h19:=cL h19;repeat rcases h19 with⟨_,h19⟩
 apply aY;exact bN;refine iY (([no]++(uB P.length++P)).map aG) ([no]++(uB P.length++P)).length ?_;refine bH fun r20 h20=> ?_;intros
 refine dE ?_;exact aE aF ⟨r20,by rw[hE];rfl,by rw[hE]⟩ aA
def Bd (l:List Int) (i:Nat):Prop:=∀(init:List (List Int)) (y:Int) (m:Nat),cC (l.take i)=init++ [List.replicate (m+1) y]→l[i]? ≠some y
theorem XZ{l:List Int}{i:Nat}{x:Int}(hb:Bd l i)(hx:l[i]? =some x):cC (l.take (i+1))=cC (l.take i)++ [[x]]:=by
 cases i with
 |zero=>rw[show l.take 0=[]from rfl,UU hx];rfl
 |succ i=>
  have hi:i<l.length:=by have:=(List.getElem?_eq_some_iff.1 hx).1;omega
  obtain⟨init,m,e,-,-⟩:=aA9 (List.getElem?_eq_getElem hi);have hk:l[i]≠x:=fun h=>hb init l[i] m e (by rw[h];exact hx)
  rw[e];exact UT e hx hk
theorem aBf{l:List Int}{i k:Nat}{x:Int}{R:List (List Int)}(hk:i<k)(h:cC (l.take k)=R++ [List.replicate (k-i) x])(hx:l[k]? =some x):cC (l.take (k+1))=R++ [List.replicate (k+1-i) x]:=by
 obtain⟨m,hm⟩:∃m,k-i=m+1:=⟨k-i-1,by omega⟩
 rw[hm]at h;have:=NL h hx;rw[this,show k+1-i=m+1+1 by omega,List.replicate_succ' (n:=m+1)]
theorem aFO{l:List Int}{i k:Nat}{x:Int}{R:List (List Int)}(hk:i<k)(h:cC (l.take k)=R++ [List.replicate (k-i) x])(hx:l[k]? ≠some x):Bd l k:=by
 intro init y m e;rw[h]at e;have:=(List.append_inj' e rfl).2;simp only[List.cons.injEq,and_true]at this;obtain⟨m2,hm⟩:∃m,k-i=m+1:=⟨k-i-1,by omega⟩
 rw[hm,List.replicate_succ,List.replicate_succ]at this;rw[←(List.cons.inj this).1];exact hx
theorem aFP(l:List Int):Bd l 0:=fun init y m e=>by
 rw[show cC (l.take 0)=[]from rfl]at e;simp at e
def VG (l:List Int) (i:Nat):List Nat:=(cC (l.take i)).flatMap iE
theorem aDh{l:List Int}{i k:Nat}{x:Int}(h:cC (l.take k)=cC (l.take i)++ [List.replicate (k-i) x])(hk:i<k):VG l k=VG l i++cG ((k:Int)-i)++ [if(x==1)=true then 127 else 126]:=by
 unfold VG;rw[h,List.flatMap_append];simp only[List.flatMap_cons,List.flatMap_nil,List.append_nil,List.append_assoc]
 congr 1
 unfold iE;rw[List.length_replicate,aDg,show((k-i:Nat):Int)=(k:Int)-i by omega];obtain⟨m,hm⟩:∃m,k-i=m+1:=⟨k-i-1,by omega⟩
 rw[hm,List.replicate_succ,List.headD_cons]
theorem aAg{l:List Int}(hl:l.length≤1000)(i:Nat):(VG l i).length≤3000∧(cC (l.take i)).length≤1000:=by
 obtain⟨h1,h2⟩:=AB _ (l.take i) rfl;have h3:∀r∈cC (l.take i),0<r.length∧r.length≤1000:=fun r hr=>by
  obtain⟨k,m,rfl,-,hm⟩:=h2 r hr;simp at hm⊢;omega
 have hn:∀(rs:List (List Int)),(∀r∈rs,0<r.length∧r.length≤1000)→rs.length≤rs.flatten.length∧(rs.flatMap iE).length≤3*rs.length:=by
  intro rs
  induction rs with
  |nil=>simp
  |cons r rs ih=>
   intro h;have h4:=h r List.mem_cons_self;have:=ih fun r hr=>h r (List.mem_cons_of_mem _ hr)
   have h5:=HC h4.2;rw[List.flatten_cons,List.flatMap_cons,List.length_append,List.length_append,List.length_cons];omega
 have:=hn _ h3;have h6:(cC (l.take i)).flatten.length≤1000:=by rw[h1];simp;omega
 unfold VG;omega
theorem aBg(l:List Int)(hl:l.length≤1000):SCall Tryz.prog 255 [.ro 1 (l.map aP) .any] [] (fun y σ=>∃q,y=.own q 0 (bC (cC l) iE).length∧σ=[(q,.arr 5 1 ((bC (cC l) iE).map aG))]):=by
 have hJ:=aAg hl;refine cF 48 [0,2,3,4,5,6,10,26] Tryz.func255 ?_;refine oJ ?_;refine bW 3 5 1 (by decide) rfl (by decide) (bL fun q0 hq0=> ?_);repeat rcases hq0 with⟨_,hq0⟩
 refine jQ ?_;refine lJ ?_;refine dE ?_;refine lp (β:=Nat×Nat) (fun b=>⟨[(0,.ro 1 (l.map aP) .any),(3,.own b.1 0 (VG l b.2).length),(4,.int .i64 ((cC (l.take b.2)).length:Nat)),(5,.int .i64 b.2)],[(b.1,.arr 5 1 ((VG l b.2).map aG))]⟩) (fun b=>b.2≤l.length∧Bd l b.2) (fun b=>l.length-b.2) (q0,0) aL ⟨Nat.zero_le _,aFP l⟩ ?_;rintro⟨q1,i⟩ ⟨hi,hbd⟩;obtain⟨hJ1,hJ2⟩:=hJ i;dsimp only at hi hbd⊢;refine eX ?_;refine GO ?_;refine aB rfl (fun g4=> ?_) (fun g4=> ?_)
 ·have hlt:i<l.length:=by simp at g4;omega
  obtain⟨x,hx⟩:∃x,l[i]? =some x:=⟨_,List.getElem?_eq_getElem hlt⟩
  have hxi:l[i]! =x:=by rw[List.getElem!_eq_getElem?_getD,hx];rfl
  refine fA ?_;refine lp (β:=Nat) (fun k=>⟨[(0,.ro 1 (l.map aP) .any),(3,.own q1 0 (VG l i).length),(4,.int .i64 ((cC (l.take i)).length:Nat)),(5,.int .i64 i),(6,.int .i64 k)],[(q1,.arr 5 1 ((VG l i).map aG))]⟩) (fun k=>i≤k∧k≤l.length∧(i<k→cC (l.take k)=cC (l.take i)++ [List.replicate (k-i) x])) (fun k=>l.length-k) i aL ⟨Nat.le_refl _,hi,fun h=>absurd h (Nat.lt_irrefl _)⟩ ?_;rintro k ⟨hk1,hk2,hk3⟩;refine aJ ?_;refine fM [(0,true),(1,true),(2,true),(3,true),(4,true),(5,true),(6,true),(7,true),(8,true),(9,true),(10,true),(11,true),(12,true),(13,true),(14,true)] ?_;refine BP ?_;refine WS ?_;refine z46 ?_;refine BQ ?_;refine zF ?_;refine TL ?_;refine XC ?_;refine zF ?_;refine zF ?_;refine TL ?_;refine XC ?_;refine aEy ?_;refine aAM ?_;refine lF ?_;refine aB rfl (fun g6=> ?_) (fun g6=> ?_)
  ·have hkl:k<l.length:=by cases h:decide ((k:Int)<(l.length:Int))with|true=>(simp at h<;>omega)|false=>(rw[h]at g6;cases g6)
   obtain⟨y,hy⟩:∃y,l[k]? =some y:=⟨_,List.getElem?_eq_getElem hkl⟩
   have hyi:l[k]! =y:=by rw[List.getElem!_eq_getElem?_getD,hy];rfl
   have hyx:y=x:=by rw[decide_eq_true (by omega),if_pos rfl,Int.toNat_natCast,hyi]at g6;simpa using g6
   refine lY ?_;refine⟨k+1,⟨by omega,hkl,fun _=> ?_⟩,by show l.length-(k+1)<l.length-k;omega, ?_⟩
   ·rw[hyx]at hy;rcases Nat.lt_or_ge i k with h|h
    ·exact aBf h (hk3 h) hy
    ·obtain rfl:k=i:=by omega
     rw[XZ hbd hy,show k+1-k=1 by omega];rfl
   exact aL
  have hxk:l[k]? ≠some x:=by intro h;have hkl:=(List.getElem?_eq_some_iff.1 h).1;rw[decide_eq_true (by omega),if_pos rfl,Int.toNat_natCast,List.getElem!_eq_getElem?_getD,h]at g6;simp at g6
  have hik:i<k:=by rcases Nat.lt_or_ge i k with h|h;exact h;exact absurd (by rw[show k=i by omega];exact hx) hxk
  have hrun:=hk3 hik;have hnx:=aDh hrun hik;have hbk:=aFO hik hrun hxk;obtain⟨hJ3,hJ4⟩:=hJ k;have hcnt:((cC (l.take k)).length:Int)=(cC (l.take i)).length+1:=by rw[hrun];simp
  have hnl:(cG ((k:Int)-i)).length≤5:=bP 4 ((k:Int)-i).toNat (by omega);refine aJ ?_;refine fM [(0,true),(1,true),(2,true),(3,true),(6,true),(7,true),(8,true),(9,true),(4,false),(5,false),(10,false),(11,false),(12,false),(13,true)] ?_;refine BP ?_;refine fI rfl (aD (E rfl)) rfl ?_;refine z82 ?_;refine zH ?_;refine WR ?_;refine lO rfl Tryz.call160 (vZ ((k:Int)-i) (by omega) (by omega)) rfl bU kD ?_;rintro _ σ' ⟨q33,rfl,rfl⟩ h33
  replace h33:=cL h33;repeat rcases h33 with⟨_,h33⟩
  apply bZ;exact bN;refine fB rfl ((VG l i++cG ((k:Int)-i)).map aG) (VG l i++cG ((k:Int)-i)).length ?_;refine bH fun r34 h34=> ?_;intros
  refine zU rfl Tryz.call162 (FP x) rfl aR bB ?_;refine DQ fun r40 h40=> ?_;intros
  refine fB rfl ((VG l i++cG ((k:Int)-i)++ [if(x==1)=true then 127 else 126]).map aG) (VG l i++cG ((k:Int)-i)++ [if(x==1)=true then 127 else 126]).length ?_;refine bH fun r41 h41=> ?_;intros
  refine rC ?_;refine iC ?_;refine dE ?_;refine⟨(r41,k),⟨hk2,hbk⟩,by show l.length-k<l.length-i;omega, ?_⟩;dsimp only;rw[hnx,hcnt];exact aL
 obtain rfl:i=l.length:=by simp at g4;omega
 have hv:=wA (k:=.any) (cC (l.take l.length)).length (VG l l.length) (by omega) (by omega);rw[show uB (cC (l.take l.length)).length++VG l l.length=bC (cC l) iE by unfold VG;rw[List.take_length];rfl]at hv;refine eX ?_;refine rY Tryz.call251 hv rfl bU kD ?_;rintro _ σ' ⟨q2,rfl,rfl⟩ h47
 replace h47:=cL h47;repeat rcases h47 with⟨_,h47⟩
 refine eZ ?_;exact aE aF ⟨q2,by rfl,rfl⟩ aA
def VH (s:List Nat):Prop:=s.length≤1000∧∀c∈s,c<256
def SmI (n:Int):Prop:=0≤n∧n≤100000
structure Md.G (m:Md):Prop where
 ty:m.ty.length≤100∧∀x∈m.ty,x.pr.length≤1000∧x.rs.length≤1000
 im:m.im.length≤100∧∀x∈m.im,VH x.mod∧VH x.nm∧SmI x.ty
 fn:m.fn.length≤100∧∀n∈m.fn,SmI n
 tb:m.tb.has=true→UN m.tb
 me:m.me.has=true→UN m.me
 gl:m.gl.length≤100∧∀g∈m.gl,mQ g.kd g.n=true∧ -9223372036854775808≤g.n∧g.n≤9223372036854775807
 ex:m.ex.length≤100∧∀x∈m.ex,VH x.nm∧SmI x.fn
 el:m.el.length≤100∧∀x∈m.el,kM x.off=true∧x.fs.length≤1000∧∀n∈x.fs,SmI n
 co:m.co.length≤100∧∀x∈m.co,x.ls.length≤1000∧x.bd.length≤310∧∀i∈x.bd,i.Ok∧cY i=true
 da:m.da.length≤100∧∀x∈m.da,kM x.off=true∧x.bs.length≤1000
theorem wB{n:Int}(h:SmI n):(cG n).length≤5:=bP 4 n.toNat (by have:=h.2;have:=h.1;omega)
theorem CC{s:List Nat}(h:VH s):(bQ s).length≤1005:=by
 have:=bP 4 s.length (by have:=h.1;omega);have:=h.1;unfold bQ;rw[List.length_append];omega
theorem kZ{α:Type}(no:Nat){l:List α}(pt:α→List Nat)(c:Nat)(hl:l.length≤100)(hc:c≤100000)(h:∀x∈l,(pt x).length≤c):(bI no l pt).length≤20+100*c∧∀j,(eL pt l j).length≤100*c:=by
 have h1:=XX h;have h4:l.length*c≤100*c:=Nat.mul_le_mul_right c hl;have h2:(bC l pt).length≤5+100*c:=by
  rw[FO,List.length_append];have:=bP 4 l.length (by omega);have:=h1 l.length;omega
 refine⟨?_,fun j=>Nat.le_trans (h1 j) h4⟩;have h3:=bP 4 (bC l pt).length (by omega);unfold bI;split
 ·simp
 ·simp only[List.length_cons,List.length_append];omega
theorem aFR{t:FT}(h:t.pr.length≤1000∧t.rs.length≤1000):(vT t).length≤2100:=by
 have h1:=lT (pt:=kB) (l:=t.pr) (c:=1) (fun x _=>Nat.le_of_eq (nT x)) h.1;have h2:=lT (pt:=kB) (l:=t.rs) (c:=1) (fun x _=>Nat.le_of_eq (nT x)) h.2;unfold vT;simp only[List.length_cons,List.length_append];omega
theorem aFS{x:Im}(h:VH x.mod∧VH x.nm∧SmI x.ty):(iZ x).length≤2100:=by
 have h1:=CC h.1;have h2:=CC h.2.1;have h3:=wB h.2.2;unfold iZ;simp only[List.length_append,List.length_cons,List.length_nil];omega
theorem aFT{g:Gl}(h:mQ g.kd g.n=true∧ -9223372036854775808≤g.n∧g.n≤9223372036854775807):(uS g).length≤300:=by
 have h1:=wQ h.1 h.2;have h2:=nT g.kd;unfold uS;simp only[List.length_append,List.length_cons,List.length_nil];omega
theorem aFU{x:Ex}(h:VH x.nm∧SmI x.fn):(nI x).length≤1100:=by
 have h2:=CC h.1;have h3:=wB h.2;unfold nI;simp only[List.length_append,List.length_cons,List.length_nil];omega
theorem aAh{x:El}(h:kM x.off=true∧x.fs.length≤1000∧∀n∈x.fs,SmI n):(uT x).length≤5300:=by
 have h1:=FN h.1;have h2:=lT (pt:=cG) (l:=x.fs) (c:=5) (fun n hn=>wB (h.2.2 n hn)) h.2.1;unfold uT;rw[List.length_append];omega
theorem aAi{l:List Int}(hl:l.length≤1000):(bC (cC l) iE).length≤3010:=by
 have h:=aAg hl l.length;unfold VG at h;rw[List.take_length]at h;have:=bP 4 (cC l).length (by omega);unfold bC;rw[List.length_append];omega
theorem aAj{x:Co}(h:x.ls.length≤1000∧x.bd.length≤310∧∀i∈x.bd,i.Ok∧cY i=true):(kH x).length≤70000:=by
 have h1:=aAi h.1;have h2:=zY h.2.2;have h3:=bP 4 (bC (cC x.ls) iE++iR x.bd).length (by rw[List.length_append];omega);unfold kH;rw[List.length_append,List.length_append];rw[List.length_append]at h3;omega
theorem aAk{x:Da}(h:kM x.off=true∧x.bs.length≤1000):(wP x).length≤1300:=by
 have h1:=FN h.1;have h2:=bP 4 x.bs.length (by omega);unfold wP;simp only[List.length_append];omega
theorem aAl{s:List Nat}{mu:Bool}{k n:Int}{z:Nat}(h:(if mu=true then 1 else 0)=z):s++uS ⟨mu,k,n⟩=s++ [if(k==1)=true then 127 else 126,z]++mC k n:=by
 unfold uS;dsimp only;rw[h,aDg];simp
def wC (m:Md):List Nat:=bI 9 m.el uT++bI 10 m.co kH++bI 11 m.da wP
theorem aDi(m:Md)(h:m.G)(hlate:SCall Tryz.prog 164 [.agg (bR m)] [] (fun y σ=>∃q,y=.own q 0 (wC m).length∧σ=[(q,.arr 5 1 ((wC m).map aG))]))(hll:(wC m).length≤10000000):SCall Tryz.prog 64 [.agg (bR m)] [] (fun y σ=>∃q,y=.own q 0 (fH m).length∧σ=[(q,.arr 5 1 ((fH m).map aG))]):=by
 obtain⟨⟨nty,hty⟩,⟨nim,him⟩,⟨nfn,hfn⟩,htb,hme,⟨ngl,hgl⟩,⟨nex,hex⟩,-,-,-⟩:=h;obtain⟨ty,im,fn,tb,me,gl,ex,el,co,da⟩:=m;dsimp only at nty hty nim him nfn hfn htb hme ngl hgl nex hex;obtain⟨L1,Pty⟩:=kZ 1 vT 2100 nty (by decide) fun x hx=>aFR (hty x hx)
 obtain⟨L2,Pim⟩:=kZ 2 iZ 2100 nim (by decide) fun x hx=>aFS (him x hx)
 obtain⟨L3,Pfn⟩:=kZ 3 cG 5 nfn (by decide) fun x hx=>wB (hfn x hx)
 obtain⟨L6,Pgl⟩:=kZ 6 uS 300 ngl (by decide) fun x hx=>aFT (hgl x hx)
 obtain⟨L7,Pex⟩:=kZ 7 nI 1100 nex (by decide) fun x hx=>aFU (hex x hx)
 have T1:tb.has=true→bI 4 (gP tb) (fun l=>112::eK l)=bI 4 [tb] (fun l=>112::eK l):=fun h=>by unfold gP;rw[h];rfl
 have T0:tb.has=false→bI 4 (gP tb) (fun l=>112::eK l)=[]:=fun h=>by unfold gP;rw[h];rfl
 have E1:me.has=true→bI 5 (gP me) eK=bI 5 [me] eK:=fun h=>by unfold gP;rw[h];rfl
 have E0:me.has=false→bI 5 (gP me) eK=[]:=fun h=>by unfold gP;rw[h];rfl
 have L4:(bI 4 (gP tb) (fun l=>112::eK l)).length≤1020:=by
  cases hh:tb.has with
  |false=>rw[T0 hh];decide
  |true=>rw[T1 hh];exact(kZ 4 (l:=[tb]) (fun l=>112::eK l) 10 (by simp) (by decide) (fun x hx=>by obtain rfl:=List.mem_singleton.1 hx;have:=wR (htb hh);simp;omega)).1
 have L5:(bI 5 (gP me) eK).length≤1020:=by
  cases hh:me.has with
  |false=>rw[E0 hh];decide
  |true=>rw[E1 hh];exact(kZ 5 (l:=[me]) eK 10 (by simp) (by decide) (fun x hx=>by obtain rfl:=List.mem_singleton.1 hx;have:=wR (hme hh);omega)).1
 have hH:headB.length=8:=rfl;have hW:fH ⟨ty,im,fn,tb,me,gl,ex,el,co,da⟩=headB++bI 1 ty vT++bI 2 im iZ++bI 3 fn cG++bI 4 (gP tb) (fun l=>112::eK l)++bI 5 (gP me) eK++bI 6 gl uS++bI 7 ex nI++wC ⟨ty,im,fn,tb,me,gl,ex,el,co,da⟩:=by
  unfold fH wC;simp only[List.append_assoc]
 rw[hW];generalize wC ⟨ty,im,fn,tb,me,gl,ex,el,co,da⟩=SL at hlate hll⊢;refine cF 193 [0,1,2,3,4,5,6,7,8,9,10,11,12,18,51,85,105,116,127,136,160] Tryz.func64 ?_;unfold bR;dsimp only;refine dX ?_;refine iQ fun r1 h1=> ?_;intros
 refine lJ ?_;refine eN fun r13 h13=> ?_;intros
 refine dE ?_;rw[show([[.int .u8 0],[.int .u8 97],[.int .u8 115],[.int .u8 109],[.int .u8 1],[.int .u8 0],[.int .u8 0],[.int .u8 0]]:List (List AV))=headB.map aG from rfl,show AV.own r13 0 8=AV.own r13 0 headB.length from rfl];refine sF ?_;refine bW 4 5 1 (by decide) rfl (by decide) (bL fun q4 hq4=> ?_);repeat rcases hq4 with⟨_,hq4⟩
 refine sF ?_;refine lp (β:=Nat×Nat) (fun b=>⟨[(1,.ptr r1 0),(3,.own r13 0 (headB).length),(4,.own b.1 0 (eL vT ty b.2).length),(5,.int .i64 b.2)],[(b.1,.arr 5 1 ((eL vT ty b.2).map aG)),(r13,.arr 5 1 ((headB).map aG)),(r1,.box 33 (bR ⟨ty,im,fn,tb,me,gl,ex,el,co,da⟩))]⟩) (fun b=>b.2≤ty.length∧Nq b.1 r1∧Nq b.1 r13) (fun b=>ty.length-b.2) (q4,0) aL ⟨Nat.zero_le _,by show Nq q4 r1;(exact bV),by show Nq q4 r13;(exact bV)⟩ ?_;rintro⟨q1,j⟩ ⟨hj,hqa,hqb⟩;have hpl:=Pty j;dsimp only at hj hqa hqb⊢;unfold bR;dsimp only;refine mY ?_;refine aB rfl (fun g4=> ?_) (fun g4=> ?_)
 ·have hlt:j<ty.length:=by simp at g4;omega
  obtain⟨⟨pr,rs⟩,hx⟩:∃x,ty[j]? =some x:=⟨_,List.getElem?_eq_getElem hlt⟩
  obtain⟨hp1,hp2⟩:=hty _ (List.mem_of_getElem? hx);dsimp only at hp1 hp2;have hv1:=lT (pt:=kB) (l:=pr) (c:=1) (fun x _=>Nat.le_of_eq (nT x)) hp1;have hv2:=lT (pt:=kB) (l:=rs) (c:=1) (fun x _=>Nat.le_of_eq (nT x)) hp2;have hnx:=lQ (pt:=vT) hx;refine aJ ?_;refine fM [(0,true),(3,true),(4,true),(5,true),(6,true),(7,true),(8,true),(11,true),(12,true),(13,true),(14,true),(15,true),(16,true),(1,false),(2,false),(9,false),(10,false),(17,false),(18,false),(19,true)] ?_;refine zI ?_;refine aCd ?_;refine pY ?_;refine DQ fun r22 h22=> ?_;intros
  refine fB rfl ((eL vT ty j++ [96]).map aG) (eL vT ty j++ [96]).length ?_;refine bH fun r23 h23=> ?_;intros
  refine lO rfl Tryz.call157 (VF pr hp1) rfl bU kD ?_;rintro _ σ' ⟨q30,rfl,rfl⟩ h30
  replace h30:=cL h30;repeat rcases h30 with⟨_,h30⟩
  apply bZ;exact bN;refine fB rfl ((eL vT ty j++ [96]++bC pr kB).map aG) (eL vT ty j++ [96]++bC pr kB).length ?_;refine bH fun r31 h31=> ?_;intros
  refine lO rfl Tryz.call157 (VF rs hp2) rfl bU kD ?_;rintro _ σ' ⟨q38,rfl,rfl⟩ h38
  replace h38:=cL h38;repeat rcases h38 with⟨_,h38⟩
  apply bZ;exact bN;refine fB rfl ((eL vT ty j++ [96]++bC pr kB++bC rs kB).map aG) (eL vT ty j++ [96]++bC pr kB++bC rs kB).length ?_;refine bH fun r39 h39=> ?_;intros
  refine rC ?_;refine⟨(r39,j+1),⟨hlt,by show Nq r39 r1;(exact bV),by show Nq r39 r13;(exact bV)⟩,by show ty.length-(j+1)<ty.length-j;omega, ?_⟩;dsimp only;rw[hnx];rw[show eL vT ty j++vT ⟨pr,rs⟩=eL vT ty j++ [96]++bC pr kB++bC rs kB by unfold vT;simp];exact aL
 obtain rfl:j=ty.length:=by simp at g4;omega
 refine kA ?_;refine zG ?_;refine rY Tryz.call158 (iT 1 (by decide) ty vT (by omega) (by have:=Pty ty.length;omega)) rfl bU kD ?_;rintro _ σ' ⟨q45,rfl,rfl⟩ h45
 replace h45:=cL h45;repeat rcases h45 with⟨_,h45⟩
 apply aY;exact bN;refine iY ((headB++bI 1 ty vT).map aG) (headB++bI 1 ty vT).length ?_;refine bH fun r46 h46=> ?_;intros
 refine dE ?_;generalize bI 1 ty vT=S1 at L1⊢;refine sF ?_;refine bW 4 5 1 (by decide) rfl (by decide) (bL fun q5 hq5=> ?_);repeat rcases hq5 with⟨_,hq5⟩
 refine sF ?_;refine lp (β:=Nat×Nat) (fun b=>⟨[(1,.ptr r1 0),(3,.own r46 0 (headB++S1).length),(4,.own b.1 0 (eL iZ im b.2).length),(6,.int .i64 b.2)],[(b.1,.arr 5 1 ((eL iZ im b.2).map aG)),(r46,.arr 5 1 ((headB++S1).map aG)),(r1,.box 33 (bR ⟨ty,im,fn,tb,me,gl,ex,el,co,da⟩))]⟩) (fun b=>b.2≤im.length∧Nq b.1 r1∧Nq b.1 r46) (fun b=>im.length-b.2) (q5,0) aL ⟨Nat.zero_le _,by show Nq q5 r1;(exact bV),by show Nq q5 r46;(exact bV)⟩ ?_;rintro⟨q1,j⟩ ⟨hj,hqa,hqb⟩;have hpl:=Pim j;dsimp only at hj hqa hqb⊢;unfold bR;dsimp only;refine mY ?_;refine aB rfl (fun g10=> ?_) (fun g10=> ?_)
 ·have hlt:j<im.length:=by simp at g10;omega
  obtain⟨⟨md,nm,tt⟩,hx⟩:∃x,im[j]? =some x:=⟨_,List.getElem?_eq_getElem hlt⟩
  obtain⟨hm1,hm2,hm3⟩:=him _ (List.mem_of_getElem? hx);dsimp only at hm1 hm2 hm3;have ht1:=CC hm1;have ht2:=CC hm2;have ht3:=wB hm3;have hnx:=lQ (pt:=iZ) hx;refine fN ?_;refine mX ?_;refine jU fun r7 h7=> ?_;intros
  refine lW ?_;refine fM [(0,true),(1,true),(2,true),(5,true),(6,true),(11,true),(12,true),(16,false),(16,false),(16,false),(16,false),(16,false),(16,false),(16,false),(16,false),(16,false)] ?_;refine zI ?_;refine fX ?_;refine fX ?_;refine jD 3 9 [(16,false),(16,false),(16,false),(16,false),(16,false),(16,false),(16,false),(16,false)] [(3,false),(4,false),(7,false),(8,false),(10,false),(13,false),(14,false),(15,true)] (f1:=[]) (f2:=[]) (by kernel_rfl) rfl rfl ?_ ?_ (.inl rfl) (.inl rfl)
  ·refine kO Tryz.call159 (rE md (by have:=hm1.1;omega) hm1.2) (cW rfl) ?_;rintro _ σ' ⟨q62,rfl,rfl⟩ h62
   replace h62:=cL h62;repeat rcases h62 with⟨_,h62⟩
   apply bZ;exact bN;refine jD 4 9 [(16,false),(16,false),(16,false),(16,false),(16,false),(16,false),(16,false)] [(4,false),(7,false),(8,false),(10,false),(13,false),(14,false),(15,true)] (f1:=[q1]) (f2:=[]) (by kernel_rfl) rfl rfl ?_ ?_ (.inr ⟨by simp,fV⟩) (.inl rfl)
   ·refine aJa ((eL iZ im j++bQ md).map aG) (eL iZ im j++bQ md).length ?_;refine bH fun r63 h63=> ?_;intros
    refine jD 7 9 [(16,false),(16,false),(16,false),(16,false),(16,false),(16,false)] [(7,false),(8,false),(10,false),(13,false),(14,false),(15,true)] (f1:=[]) (f2:=[]) (by kernel_rfl) rfl rfl ?_ ?_ (.inl rfl) (.inl rfl)
    ·refine kO Tryz.call159 (rE nm (by have:=hm2.1;omega) hm2.2) (cW rfl) ?_;rintro _ σ' ⟨q66,rfl,rfl⟩ h66
     replace h66:=cL h66;repeat rcases h66 with⟨_,h66⟩
     apply bZ;exact bN;refine jD 8 9 [(9,false),(10,false),(13,false),(14,false),(15,true)] [(8,false),(10,false),(13,false),(14,false),(15,true)] (f1:=[r63]) (f2:=[]) (by kernel_rfl) rfl rfl ?_ ?_ (.inr ⟨by simp,fV⟩) (.inl rfl)
     ·refine aJa ((eL iZ im j++bQ md++bQ nm).map aG) (eL iZ im j++bQ md++bQ nm).length ?_;refine bH fun r67 h67=> ?_;intros
      refine DQ fun r68 h68=> ?_;intros
      refine fB rfl ((eL iZ im j++bQ md++bQ nm++ [0]).map aG) (eL iZ im j++bQ md++bQ nm++ [0]).length ?_;refine bH fun r69 h69=> ?_;intros
      refine lO rfl Tryz.call160 (vZ tt hm3.1 (by have:=hm3.2;omega)) rfl bU kD ?_;rintro _ σ' ⟨q72,rfl,rfl⟩ h72
      replace h72:=cL h72;repeat rcases h72 with⟨_,h72⟩
      apply bZ;exact bN;refine fB rfl ((eL iZ im j++bQ md++bQ nm++ [0]++cG tt).map aG) (eL iZ im j++bQ md++bQ nm++ [0]++cG tt).length ?_;refine bH fun r73 h73=> ?_;intros
      refine rC ?_;refine⟨(r73,j+1),⟨hlt,by show Nq r73 r1;(exact bV),by show Nq r73 r46;(exact bV)⟩,by show im.length-(j+1)<im.length-j;omega, ?_⟩;dsimp only;rw[hnx];rw[show eL iZ im j++iZ ⟨md,nm,tt⟩=eL iZ im j++bQ md++bQ nm++ [0]++cG tt by unfold iZ;simp];exact aL
     ·apply xR;infer_instance;infer_instance;exact sE;rfl;rfl;rfl;rfl;exact wY;rfl;refine bL fun r68 h68=> ?_;repeat rcases h68 with⟨_,h68⟩
      refine fB rfl ((eL iZ im j++bQ md++bQ nm).map aG) (eL iZ im j++bQ md++bQ nm).length ?_;refine bH fun r67 h67=> ?_;intros
      refine fB rfl ((eL iZ im j++bQ md++bQ nm++ [0]).map aG) (eL iZ im j++bQ md++bQ nm++ [0]).length ?_;refine bH fun r69 h69=> ?_;intros
      refine lO rfl Tryz.call160 (vZ tt hm3.1 (by have:=hm3.2;omega)) rfl bU kD ?_;rintro _ σ' ⟨q72,rfl,rfl⟩ h72
      replace h72:=cL h72;repeat rcases h72 with⟨_,h72⟩
      apply bZ;exact bN;refine fB rfl ((eL iZ im j++bQ md++bQ nm++ [0]++cG tt).map aG) (eL iZ im j++bQ md++bQ nm++ [0]++cG tt).length ?_;refine bH fun r73 h73=> ?_;intros
      refine rC ?_;refine⟨(r73,j+1),⟨hlt,by show Nq r73 r1;(exact bV),by show Nq r73 r46;(exact bV)⟩,by show im.length-(j+1)<im.length-j;omega, ?_⟩;dsimp only;rw[hnx];rw[show eL iZ im j++iZ ⟨md,nm,tt⟩=eL iZ im j++bQ md++bQ nm++ [0]++cG tt by unfold iZ;simp];exact aL
    ·apply xR;infer_instance;infer_instance;exact sE;rfl;rfl;rfl;rfl;exact wY;rfl;refine bL fun r68 h68=> ?_;repeat rcases h68 with⟨_,h68⟩
     refine lO rfl Tryz.call159 (rE nm (by have:=hm2.1;omega) hm2.2) rfl bU kD ?_;rintro _ σ' ⟨q66,rfl,rfl⟩ h66
     replace h66:=cL h66;repeat rcases h66 with⟨_,h66⟩
     apply bZ;exact bN;refine fB rfl ((eL iZ im j++bQ md++bQ nm).map aG) (eL iZ im j++bQ md++bQ nm).length ?_;refine bH fun r67 h67=> ?_;intros
     refine fB rfl ((eL iZ im j++bQ md++bQ nm++ [0]).map aG) (eL iZ im j++bQ md++bQ nm++ [0]).length ?_;refine bH fun r69 h69=> ?_;intros
     refine lO rfl Tryz.call160 (vZ tt hm3.1 (by have:=hm3.2;omega)) rfl bU kD ?_;rintro _ σ' ⟨q72,rfl,rfl⟩ h72
     replace h72:=cL h72;repeat rcases h72 with⟨_,h72⟩
     apply bZ;exact bN;refine fB rfl ((eL iZ im j++bQ md++bQ nm++ [0]++cG tt).map aG) (eL iZ im j++bQ md++bQ nm++ [0]++cG tt).length ?_;refine bH fun r73 h73=> ?_;intros
     refine rC ?_;refine⟨(r73,j+1),⟨hlt,by show Nq r73 r1;(exact bV),by show Nq r73 r46;(exact bV)⟩,by show im.length-(j+1)<im.length-j;omega, ?_⟩;dsimp only;rw[hnx];rw[show eL iZ im j++iZ ⟨md,nm,tt⟩=eL iZ im j++bQ md++bQ nm++ [0]++cG tt by unfold iZ;simp];exact aL
   ·apply xR;infer_instance;infer_instance;exact sE;rfl;rfl;rfl;rfl;exact wY;rfl;refine bL fun r68 h68=> ?_;repeat rcases h68 with⟨_,h68⟩
    refine fB rfl ((eL iZ im j++bQ md).map aG) (eL iZ im j++bQ md).length ?_;refine bH fun r63 h63=> ?_;intros
    refine lO rfl Tryz.call159 (rE nm (by have:=hm2.1;omega) hm2.2) rfl bU kD ?_;rintro _ σ' ⟨q66,rfl,rfl⟩ h66
    replace h66:=cL h66;repeat rcases h66 with⟨_,h66⟩
    apply bZ;exact bN;refine fB rfl ((eL iZ im j++bQ md++bQ nm).map aG) (eL iZ im j++bQ md++bQ nm).length ?_;refine bH fun r67 h67=> ?_;intros
    refine fB rfl ((eL iZ im j++bQ md++bQ nm++ [0]).map aG) (eL iZ im j++bQ md++bQ nm++ [0]).length ?_;refine bH fun r69 h69=> ?_;intros
    refine lO rfl Tryz.call160 (vZ tt hm3.1 (by have:=hm3.2;omega)) rfl bU kD ?_;rintro _ σ' ⟨q72,rfl,rfl⟩ h72
    replace h72:=cL h72;repeat rcases h72 with⟨_,h72⟩
    apply bZ;exact bN;refine fB rfl ((eL iZ im j++bQ md++bQ nm++ [0]++cG tt).map aG) (eL iZ im j++bQ md++bQ nm++ [0]++cG tt).length ?_;refine bH fun r73 h73=> ?_;intros
    refine rC ?_;refine⟨(r73,j+1),⟨hlt,by show Nq r73 r1;(exact bV),by show Nq r73 r46;(exact bV)⟩,by show im.length-(j+1)<im.length-j;omega, ?_⟩;dsimp only;rw[hnx];rw[show eL iZ im j++iZ ⟨md,nm,tt⟩=eL iZ im j++bQ md++bQ nm++ [0]++cG tt by unfold iZ;simp];exact aL
  ·apply xR;infer_instance;infer_instance;exact sE;rfl;rfl;rfl;rfl;exact wY;rfl;refine bL fun r68 h68=> ?_;repeat rcases h68 with⟨_,h68⟩
   refine lO rfl Tryz.call159 (rE md (by have:=hm1.1;omega) hm1.2) rfl bU kD ?_;rintro _ σ' ⟨q62,rfl,rfl⟩ h62
   replace h62:=cL h62;repeat rcases h62 with⟨_,h62⟩
   apply bZ;exact bN;refine fB rfl ((eL iZ im j++bQ md).map aG) (eL iZ im j++bQ md).length ?_;refine bH fun r63 h63=> ?_;intros
   refine lO rfl Tryz.call159 (rE nm (by have:=hm2.1;omega) hm2.2) rfl bU kD ?_;rintro _ σ' ⟨q66,rfl,rfl⟩ h66
   replace h66:=cL h66;repeat rcases h66 with⟨_,h66⟩
   apply bZ;exact bN;refine fB rfl ((eL iZ im j++bQ md++bQ nm).map aG) (eL iZ im j++bQ md++bQ nm).length ?_;refine bH fun r67 h67=> ?_;intros
   refine fB rfl ((eL iZ im j++bQ md++bQ nm++ [0]).map aG) (eL iZ im j++bQ md++bQ nm++ [0]).length ?_;refine bH fun r69 h69=> ?_;intros
   refine lO rfl Tryz.call160 (vZ tt hm3.1 (by have:=hm3.2;omega)) rfl bU kD ?_;rintro _ σ' ⟨q72,rfl,rfl⟩ h72
   replace h72:=cL h72;repeat rcases h72 with⟨_,h72⟩
   apply bZ;exact bN;refine fB rfl ((eL iZ im j++bQ md++bQ nm++ [0]++cG tt).map aG) (eL iZ im j++bQ md++bQ nm++ [0]++cG tt).length ?_;refine bH fun r73 h73=> ?_;intros
   refine rC ?_;refine⟨(r73,j+1),⟨hlt,by show Nq r73 r1;(exact bV),by show Nq r73 r46;(exact bV)⟩,by show im.length-(j+1)<im.length-j;omega, ?_⟩;dsimp only;rw[hnx];rw[show eL iZ im j++iZ ⟨md,nm,tt⟩=eL iZ im j++bQ md++bQ nm++ [0]++cG tt by unfold iZ;simp];exact aL
 obtain rfl:j=im.length:=by simp at g10;omega
 refine kA ?_;refine zG ?_;refine rY Tryz.call158 (iT 2 (by decide) im iZ (by omega) (by have:=Pim im.length;omega)) rfl bU kD ?_;rintro _ σ' ⟨q79,rfl,rfl⟩ h79
 replace h79:=cL h79;repeat rcases h79 with⟨_,h79⟩
 apply aY;exact bN;refine iY ((headB++S1++bI 2 im iZ).map aG) (headB++S1++bI 2 im iZ).length ?_;refine bH fun r80 h80=> ?_;intros
 refine dE ?_;generalize bI 2 im iZ=S2 at L2⊢;refine sF ?_;refine bW 4 5 1 (by decide) rfl (by decide) (bL fun q6 hq6=> ?_);repeat rcases hq6 with⟨_,hq6⟩
 refine sF ?_;refine lp (β:=Nat×Nat) (fun b=>⟨[(1,.ptr r1 0),(3,.own r80 0 (headB++S1++S2).length),(4,.own b.1 0 (eL cG fn b.2).length),(8,.int .i64 b.2)],[(b.1,.arr 5 1 ((eL cG fn b.2).map aG)),(r80,.arr 5 1 ((headB++S1++S2).map aG)),(r1,.box 33 (bR ⟨ty,im,fn,tb,me,gl,ex,el,co,da⟩))]⟩) (fun b=>b.2≤fn.length∧Nq b.1 r1∧Nq b.1 r80) (fun b=>fn.length-b.2) (q6,0) aL ⟨Nat.zero_le _,by show Nq q6 r1;(exact bV),by show Nq q6 r80;(exact bV)⟩ ?_;rintro⟨q1,j⟩ ⟨hj,hqa,hqb⟩;have hpl:=Pfn j;dsimp only at hj hqa hqb⊢;unfold bR;dsimp only;refine mY ?_;refine aB rfl (fun g17=> ?_) (fun g17=> ?_)
 ·have hlt:j<fn.length:=by simp at g17;omega
  obtain⟨k,hx⟩:∃x,fn[j]? =some x:=⟨_,List.getElem?_eq_getElem hlt⟩
  have hk:=hfn _ (List.mem_of_getElem? hx);have ht3:=wB hk;have hnx:=lQ (pt:=cG) hx;refine kA ?_;refine nJ ?_;refine rY Tryz.call160 (vZ k hk.1 (by have:=hk.2;omega)) rfl bU kD ?_;rintro _ σ' ⟨q94,rfl,rfl⟩ h94
  replace h94:=cL h94;repeat rcases h94 with⟨_,h94⟩
  apply aY;exact bN;refine iY ((eL cG fn j++cG k).map aG) (eL cG fn j++cG k).length ?_;refine bH fun r95 h95=> ?_;intros
  refine hZ ?_;refine GM ?_;refine⟨(r95,j+1),⟨hlt,by show Nq r95 r1;(exact bV),by show Nq r95 r80;(exact bV)⟩,by show fn.length-(j+1)<fn.length-j;omega, ?_⟩;dsimp only;rw[hnx];exact aL
 obtain rfl:j=fn.length:=by simp at g17;omega
 refine kA ?_;refine zG ?_;refine rY Tryz.call158 (iT 3 (by decide) fn cG (by omega) (by have:=Pfn fn.length;omega)) rfl bU kD ?_;rintro _ σ' ⟨q101,rfl,rfl⟩ h101
 replace h101:=cL h101;repeat rcases h101 with⟨_,h101⟩
 apply aY;exact bN;refine iY ((headB++S1++S2++bI 3 fn cG).map aG) (headB++S1++S2++bI 3 fn cG).length ?_;refine bH fun r102 h102=> ?_;intros
 refine dE ?_;generalize bI 3 fn cG=S3 at L3⊢;obtain⟨th,tn,tx⟩:=tb;obtain⟨eh,en,ex2⟩:=me;refine jQ ?_;refine wL ?_;refine fW ?_;refine lD ?_;refine WZ (β:=Nat) (fun q=>⟨[(1,.ptr r1 0),(3,.own q 0 (headB++S1++S2++S3++bI 4 (gP ⟨th,tn,tx⟩) (fun l=>112::eK l)).length)],[(q,.arr 5 1 ((headB++S1++S2++S3++bI 4 (gP ⟨th,tn,tx⟩) (fun l=>112::eK l)).map aG)),(r1,.box 33 (bR ⟨ty,im,fn,⟨th,tn,tx⟩,⟨eh,en,ex2⟩,gl,ex,el,co,da⟩))]⟩) (fun q=>Nq q r1) ?_ ?_
 ·refine aB rfl (fun g21=> ?_) (fun g21=> ?_)
  ·have htb1:=htb g21;have hll1:=wR htb1;rw[T1 g21];have hpj:eL (fun l=>112::eK l) [(⟨th,tn,tx⟩:Li)] [(⟨th,tn,tx⟩:Li)].length=[112]++eK ⟨th,tn,tx⟩:=by simp[eL]
   have hsc:=iT 4 (by decide) [(⟨th,tn,tx⟩:Li)] (fun l=>112::eK l) (by simp) (by rw[hpj];simp;omega);rw[hpj]at hsc;rw[T1 g21]at L4;refine dM ?_;refine eN fun r107 h107=> ?_;intros
   refine wL ?_;refine oS ?_;refine rY Tryz.call161 (NS ⟨th,tn,tx⟩ htb1) rfl bU kD ?_;rintro _ σ' ⟨q110,rfl,rfl⟩ h110
   replace h110:=cL h110;repeat rcases h110 with⟨_,h110⟩
   apply aY;exact bN;refine iY (([112]++eK ⟨th,tn,tx⟩).map aG) ([112]++eK ⟨th,tn,tx⟩).length ?_;refine bH fun r111 h111=> ?_;intros
   refine rY Tryz.call158 hsc rfl bU kD ?_;rintro _ σ' ⟨q112,rfl,rfl⟩ h112
   replace h112:=cL h112;repeat rcases h112 with⟨_,h112⟩
   apply aY;exact bN;refine iY ((headB++S1++S2++S3++bI 4 [⟨th,tn,tx⟩] (fun l=>112::eK l)).map aG) (headB++S1++S2++S3++bI 4 [⟨th,tn,tx⟩] (fun l=>112::eK l)).length ?_;refine bH fun r113 h113=> ?_;intros
   refine dE ?_;exact⟨r113,(by(exact bV)),aL⟩
  rw[T0 g21,List.append_nil];refine aJ ?_;exact⟨r102,(by(exact bV)),aL⟩
 rintro q4 hq4;generalize bI 4 (gP ⟨th,tn,tx⟩) (fun l=>112::eK l)=S4 at L4⊢;unfold bR;dsimp only;refine dX ?_;refine wL ?_;refine fW ?_;refine lD ?_;refine WZ (β:=Nat) (fun q=>⟨[(1,.ptr r1 0),(3,.own q 0 (headB++S1++S2++S3++S4++bI 5 (gP ⟨eh,en,ex2⟩) eK).length)],[(q,.arr 5 1 ((headB++S1++S2++S3++S4++bI 5 (gP ⟨eh,en,ex2⟩) eK).map aG)),(r1,.box 33 (bR ⟨ty,im,fn,⟨th,tn,tx⟩,⟨eh,en,ex2⟩,gl,ex,el,co,da⟩))]⟩) (fun q=>Nq q r1) ?_ ?_
 ·refine aB rfl (fun g23=> ?_) (fun g23=> ?_)
  ·have hme1:=hme g23;have hll2:=wR hme1;rw[E1 g23];have hpj:eL eK [(⟨eh,en,ex2⟩:Li)] [(⟨eh,en,ex2⟩:Li)].length=eK ⟨eh,en,ex2⟩:=by simp[eL]
   have hsc:=iT 5 (by decide) [(⟨eh,en,ex2⟩:Li)] eK (by simp) (by rw[hpj];omega);rw[hpj]at hsc;rw[E1 g23]at L5;refine dM ?_;refine wL ?_;refine oS ?_;refine rY Tryz.call161 (NS ⟨eh,en,ex2⟩ hme1) rfl bU kD ?_;rintro _ σ' ⟨q120,rfl,rfl⟩ h120
   replace h120:=cL h120;repeat rcases h120 with⟨_,h120⟩
   apply aY;exact bN;refine rY Tryz.call158 hsc rfl bU kD ?_;rintro _ σ' ⟨q121,rfl,rfl⟩ h121
   replace h121:=cL h121;repeat rcases h121 with⟨_,h121⟩
   apply aY;exact bN;refine iY ((headB++S1++S2++S3++S4++bI 5 [⟨eh,en,ex2⟩] eK).map aG) (headB++S1++S2++S3++S4++bI 5 [⟨eh,en,ex2⟩] eK).length ?_;refine bH fun r122 h122=> ?_;intros
   refine dE ?_;exact⟨r122,(by(exact bV)),aL⟩
  rw[E0 g23,List.append_nil];refine aJ ?_;exact⟨q4,(by(exact bV)),aL⟩
 rintro q7 hq7;generalize bI 5 (gP ⟨eh,en,ex2⟩) eK=S5 at L5⊢;unfold bR;dsimp only;refine bM ?_;refine bW 4 5 1 (by decide) rfl (by decide) (bL fun q8 hq8=> ?_);repeat rcases hq8 with⟨_,hq8⟩
 refine sF ?_;refine lp (β:=Nat×Nat) (fun b=>⟨[(1,.ptr r1 0),(3,.own q7 0 (headB++S1++S2++S3++S4++S5).length),(4,.own b.1 0 (eL uS gl b.2).length),(9,.int .i64 b.2)],[(b.1,.arr 5 1 ((eL uS gl b.2).map aG)),(q7,.arr 5 1 ((headB++S1++S2++S3++S4++S5).map aG)),(r1,.box 33 (bR ⟨ty,im,fn,⟨th,tn,tx⟩,⟨eh,en,ex2⟩,gl,ex,el,co,da⟩))]⟩) (fun b=>b.2≤gl.length∧Nq b.1 r1∧Nq b.1 q7) (fun b=>gl.length-b.2) (q8,0) aL ⟨Nat.zero_le _,by show Nq q8 r1;(exact bV),by show Nq q8 q7;(exact bV)⟩ ?_;rintro⟨q1,j⟩ ⟨hj,hqa,hqb⟩;have hpl:=Pgl j;dsimp only at hj hqa hqb⊢;unfold bR;dsimp only;refine mY ?_;refine aB rfl (fun g27=> ?_) (fun g27=> ?_)
 ·have hlt:j<gl.length:=by simp at g27;omega
  obtain⟨⟨mu,k,n⟩,hx⟩:∃x,gl[j]? =some x:=⟨_,List.getElem?_eq_getElem hlt⟩
  obtain⟨hv,hn⟩:=hgl _ (List.mem_of_getElem? hx);dsimp only at hv hn;have hcl:=wQ hv hn;have hnx:=lQ (pt:=uS) hx;refine fN ?_;refine mX ?_;refine jU fun r10 h10=> ?_;intros
  refine pX ?_;refine bM ?_;refine mK ?_;refine lD ?_;refine aB rfl (fun g31=> ?_) (fun g31=> ?_)
  ·obtain rfl:mu=true:=g31;obtain⟨z,hz,hzc⟩:∃z:Nat,(if true=true then 1 else 0)=z∧cV (.int .u8 1)=AV.int .u8 ((z:Nat):Int):=⟨1,rfl,rfl⟩
   refine bM ?_;rw[hzc];refine fM [(0,true),(1,true),(2,true),(3,true),(5,true),(8,true),(9,true),(4,false),(6,false),(7,false),(10,false),(11,false),(12,true)] ?_;refine fI rfl (aD (E rfl)) rfl ?_;refine OW ?_;refine fX ?_;refine fI rfl (aD (E rfl)) rfl ?_;refine OW ?_;refine DJ ?_;refine zU rfl Tryz.call162 (FP k) rfl aR bB ?_;refine DQ fun r143 h143=> ?_;intros
   refine fB rfl ((eL uS gl j++ [if(k==1)=true then 127 else 126,z]).map aG) (eL uS gl j++ [if(k==1)=true then 127 else 126,z]).length ?_;refine bH fun r144 h144=> ?_;intros
   refine lO rfl Tryz.call163 (rF k n hv hn) rfl bU kD ?_;rintro _ σ' ⟨q147,rfl,rfl⟩ h147
   replace h147:=cL h147;repeat rcases h147 with⟨_,h147⟩
   apply bZ;exact bN;refine fB rfl ((eL uS gl j++ [if(k==1)=true then 127 else 126,z]++mC k n).map aG) (eL uS gl j++ [if(k==1)=true then 127 else 126,z]++mC k n).length ?_;refine bH fun r148 h148=> ?_;intros
   refine rC ?_;refine⟨(r148,j+1),⟨hlt,by show Nq r148 r1;(exact bV),by show Nq r148 q7;(exact bV)⟩,by show gl.length-(j+1)<gl.length-j;omega, ?_⟩;dsimp only;rw[hnx];rw[aAl hz];exact aL
  obtain rfl:mu=false:=g31;obtain⟨z,hz,hzc⟩:∃z:Nat,(if false=true then 1 else 0)=z∧cV (.int .u8 0)=AV.int .u8 ((z:Nat):Int):=⟨0,rfl,rfl⟩
  refine aJ ?_;rw[hzc];refine fM [(0,true),(1,true),(2,true),(3,true),(5,true),(8,true),(9,true),(4,false),(6,false),(7,false),(10,false),(11,false),(12,true)] ?_;refine fI rfl (aD (E rfl)) rfl ?_;refine OW ?_;refine fX ?_;refine fI rfl (aD (E rfl)) rfl ?_;refine OW ?_;refine DJ ?_;refine zU rfl Tryz.call162 (FP k) rfl aR bB ?_;refine z97 ?_;refine bL fun r143 h143=> ?_;repeat rcases h143 with⟨_,h143⟩
  refine fB rfl ((eL uS gl j++ [if(k==1)=true then 127 else 126,z]).map aG) (eL uS gl j++ [if(k==1)=true then 127 else 126,z]).length ?_;refine bH fun r144 h144=> ?_;intros
  refine lO rfl Tryz.call163 (rF k n hv hn) rfl bU kD ?_;rintro _ σ' ⟨q147,rfl,rfl⟩ h147
  replace h147:=cL h147;repeat rcases h147 with⟨_,h147⟩
  apply bZ;exact bN;refine fB rfl ((eL uS gl j++ [if(k==1)=true then 127 else 126,z]++mC k n).map aG) (eL uS gl j++ [if(k==1)=true then 127 else 126,z]++mC k n).length ?_;refine bH fun r148 h148=> ?_;intros
  refine rC ?_;refine⟨(r148,j+1),⟨hlt,by show Nq r148 r1;(exact bV),by show Nq r148 q7;(exact bV)⟩,by show gl.length-(j+1)<gl.length-j;omega, ?_⟩;dsimp only;rw[hnx];rw[aAl hz];exact aL
 obtain rfl:j=gl.length:=by simp at g27;omega
 refine kA ?_;refine zG ?_;refine rY Tryz.call158 (iT 6 (by decide) gl uS (by omega) (by have:=Pgl gl.length;omega)) rfl bU kD ?_;rintro _ σ' ⟨q154,rfl,rfl⟩ h154
 replace h154:=cL h154;repeat rcases h154 with⟨_,h154⟩
 apply aY;exact bN;refine iY ((headB++S1++S2++S3++S4++S5++bI 6 gl uS).map aG) (headB++S1++S2++S3++S4++S5++bI 6 gl uS).length ?_;refine bH fun r155 h155=> ?_;intros
 refine dE ?_;generalize bI 6 gl uS=S6 at L6⊢;refine sF ?_;refine bW 4 5 1 (by decide) rfl (by decide) (bL fun q9 hq9=> ?_);repeat rcases hq9 with⟨_,hq9⟩
 refine sF ?_;refine lp (β:=Nat×Nat) (fun b=>⟨[(1,.ptr r1 0),(3,.own r155 0 (headB++S1++S2++S3++S4++S5++S6).length),(4,.own b.1 0 (eL nI ex b.2).length),(12,.int .i64 b.2)],[(b.1,.arr 5 1 ((eL nI ex b.2).map aG)),(r155,.arr 5 1 ((headB++S1++S2++S3++S4++S5++S6).map aG)),(r1,.box 33 (bR ⟨ty,im,fn,⟨th,tn,tx⟩,⟨eh,en,ex2⟩,gl,ex,el,co,da⟩))]⟩) (fun b=>b.2≤ex.length∧Nq b.1 r1∧Nq b.1 r155) (fun b=>ex.length-b.2) (q9,0) aL ⟨Nat.zero_le _,by show Nq q9 r1;(exact bV),by show Nq q9 r155;(exact bV)⟩ ?_;rintro⟨q1,j⟩ ⟨hj,hqa,hqb⟩;have hpl:=Pex j;dsimp only at hj hqa hqb⊢;unfold bR;dsimp only;refine mY ?_;refine aB rfl (fun g37=> ?_) (fun g37=> ?_)
 ·have hlt:j<ex.length:=by simp at g37;omega
  obtain⟨⟨nm,ff⟩,hx⟩:∃x,ex[j]? =some x:=⟨_,List.getElem?_eq_getElem hlt⟩
  obtain⟨hm1,hm2⟩:=hex _ (List.mem_of_getElem? hx);dsimp only at hm1 hm2;have ht1:=CC hm1;have ht2:=wB hm2;have hnx:=lQ (pt:=nI) hx;refine aJ ?_;refine fM [(0,true),(1,true),(2,true),(3,true),(4,true),(5,true),(6,true),(11,true),(12,true),(13,true),(14,true),(15,true),(16,true),(20,false),(20,false),(20,false),(20,false),(20,false),(20,false),(20,false)] ?_;refine zI ?_;refine aCd ?_;refine pY ?_;refine jD 7 9 [(20,false),(20,false),(20,false),(20,false),(20,false),(20,false)] [(7,false),(8,false),(10,false),(17,false),(18,false),(19,true)] (f1:=[]) (f2:=[]) (by kernel_rfl) rfl rfl ?_ ?_ (.inl rfl) (.inl rfl)
  ·refine kO Tryz.call159 (rE nm (by have:=hm1.1;omega) hm1.2) (cW rfl) ?_;rintro _ σ' ⟨q170,rfl,rfl⟩ h170
   replace h170:=cL h170;repeat rcases h170 with⟨_,h170⟩
   apply bZ;exact bN;refine jD 8 9 [(9,false),(10,false),(17,false),(18,false),(19,true)] [(8,false),(10,false),(17,false),(18,false),(19,true)] (f1:=[q1]) (f2:=[]) (by kernel_rfl) rfl rfl ?_ ?_ (.inr ⟨by simp,fV⟩) (.inl rfl)
   ·refine aJa ((eL nI ex j++bQ nm).map aG) (eL nI ex j++bQ nm).length ?_;refine bH fun r171 h171=> ?_;intros
    refine DQ fun r172 h172=> ?_;intros
    refine fB rfl ((eL nI ex j++bQ nm++ [0]).map aG) (eL nI ex j++bQ nm++ [0]).length ?_;refine bH fun r173 h173=> ?_;intros
    refine lO rfl Tryz.call160 (vZ ff hm2.1 (by have:=hm2.2;omega)) rfl bU kD ?_;rintro _ σ' ⟨q180,rfl,rfl⟩ h180
    replace h180:=cL h180;repeat rcases h180 with⟨_,h180⟩
    apply bZ;exact bN;refine fB rfl ((eL nI ex j++bQ nm++ [0]++cG ff).map aG) (eL nI ex j++bQ nm++ [0]++cG ff).length ?_;refine bH fun r181 h181=> ?_;intros
    refine rC ?_;refine⟨(r181,j+1),⟨hlt,by show Nq r181 r1;(exact bV),by show Nq r181 r155;(exact bV)⟩,by show ex.length-(j+1)<ex.length-j;omega, ?_⟩;dsimp only;rw[hnx];rw[show eL nI ex j++nI ⟨nm,ff⟩=eL nI ex j++bQ nm++ [0]++cG ff by unfold nI;simp];exact aL
   ·apply xR;infer_instance;infer_instance;exact sE;rfl;rfl;rfl;rfl;exact wY;rfl;refine bL fun r172 h172=> ?_;repeat rcases h172 with⟨_,h172⟩
    refine fB rfl ((eL nI ex j++bQ nm).map aG) (eL nI ex j++bQ nm).length ?_;refine bH fun r171 h171=> ?_;intros
    refine fB rfl ((eL nI ex j++bQ nm++ [0]).map aG) (eL nI ex j++bQ nm++ [0]).length ?_;refine bH fun r173 h173=> ?_;intros
    refine lO rfl Tryz.call160 (vZ ff hm2.1 (by have:=hm2.2;omega)) rfl bU kD ?_;rintro _ σ' ⟨q180,rfl,rfl⟩ h180
    replace h180:=cL h180;repeat rcases h180 with⟨_,h180⟩
    apply bZ;exact bN;refine fB rfl ((eL nI ex j++bQ nm++ [0]++cG ff).map aG) (eL nI ex j++bQ nm++ [0]++cG ff).length ?_;refine bH fun r181 h181=> ?_;intros
    refine rC ?_;refine⟨(r181,j+1),⟨hlt,by show Nq r181 r1;(exact bV),by show Nq r181 r155;(exact bV)⟩,by show ex.length-(j+1)<ex.length-j;omega, ?_⟩;dsimp only;rw[hnx];rw[show eL nI ex j++nI ⟨nm,ff⟩=eL nI ex j++bQ nm++ [0]++cG ff by unfold nI;simp];exact aL
  ·apply xR;infer_instance;infer_instance;exact sE;rfl;rfl;rfl;rfl;exact wY;rfl;refine bL fun r172 h172=> ?_;repeat rcases h172 with⟨_,h172⟩
   refine lO rfl Tryz.call159 (rE nm (by have:=hm1.1;omega) hm1.2) rfl bU kD ?_;rintro _ σ' ⟨q170,rfl,rfl⟩ h170
   replace h170:=cL h170;repeat rcases h170 with⟨_,h170⟩
   apply bZ;exact bN;refine fB rfl ((eL nI ex j++bQ nm).map aG) (eL nI ex j++bQ nm).length ?_;refine bH fun r171 h171=> ?_;intros
   refine fB rfl ((eL nI ex j++bQ nm++ [0]).map aG) (eL nI ex j++bQ nm++ [0]).length ?_;refine bH fun r173 h173=> ?_;intros
   refine lO rfl Tryz.call160 (vZ ff hm2.1 (by have:=hm2.2;omega)) rfl bU kD ?_;rintro _ σ' ⟨q180,rfl,rfl⟩ h180
   replace h180:=cL h180;repeat rcases h180 with⟨_,h180⟩
   apply bZ;exact bN;refine fB rfl ((eL nI ex j++bQ nm++ [0]++cG ff).map aG) (eL nI ex j++bQ nm++ [0]++cG ff).length ?_;refine bH fun r181 h181=> ?_;intros
   refine rC ?_;refine⟨(r181,j+1),⟨hlt,by show Nq r181 r1;(exact bV),by show Nq r181 r155;(exact bV)⟩,by show ex.length-(j+1)<ex.length-j;omega, ?_⟩;dsimp only;rw[hnx];rw[show eL nI ex j++nI ⟨nm,ff⟩=eL nI ex j++bQ nm++ [0]++cG ff by unfold nI;simp];exact aL
 obtain rfl:j=ex.length:=by simp at g37;omega
 refine kA ?_;refine zG ?_;refine rY Tryz.call158 (iT 7 (by decide) ex nI (by omega) (by have:=Pex ex.length;omega)) rfl bU kD ?_;rintro _ σ' ⟨q187,rfl,rfl⟩ h187
 replace h187:=cL h187;repeat rcases h187 with⟨_,h187⟩
 apply aY;exact bN;refine iY ((headB++S1++S2++S3++S4++S5++S6++bI 7 ex nI).map aG) (headB++S1++S2++S3++S4++S5++S6++bI 7 ex nI).length ?_;refine bH fun r188 h188=> ?_;intros
 refine dE ?_;generalize bI 7 ex nI=S7 at L7⊢;refine iC ?_;refine oS ?_;refine rY Tryz.call164 hlate rfl bU kD ?_;rintro _ σ' ⟨q191,rfl,rfl⟩ h191
 replace h191:=cL h191;repeat rcases h191 with⟨_,h191⟩
 apply aY;exact bN;refine iY ((headB++S1++S2++S3++S4++S5++S6++S7++SL).map aG) (headB++S1++S2++S3++S4++S5++S6++S7++SL).length ?_;refine bH fun r192 h192=> ?_;intros
 refine dE ?_;exact aE aF ⟨r192,by rfl,rfl⟩ aA
theorem aDj(m:Md)(h:m.G):SCall Tryz.prog 164 [.agg (bR m)] [] (fun y σ=>∃q,y=.own q 0 (wC m).length∧σ=[(q,.arr 5 1 ((wC m).map aG))]):=by
 obtain⟨-,-,-,-,-,-,-,⟨nel,hel⟩,⟨nco,hco⟩,⟨nda,hda⟩⟩:=h;obtain⟨ty,im,fn,tb,me,gl,ex,el,co,da⟩:=m;dsimp only at nel hel nco hco nda hda;obtain⟨L1,Pel⟩:=kZ 9 uT 5300 nel (by decide) fun x hx=>aAh (hel x hx)
 obtain⟨L2,Pco⟩:=kZ 10 kH 70000 nco (by decide) fun x hx=>aAj (hco x hx)
 obtain⟨L3,Pda⟩:=kZ 11 wP 1300 nda (by decide) fun x hx=>aAk (hda x hx)
 have hW:wC ⟨ty,im,fn,tb,me,gl,ex,el,co,da⟩=bI 9 el uT++bI 10 co kH++bI 11 da wP:=rfl;rw[hW];refine cF 119 [0,1,2,3,4,5,6,7,8,13,47,82] Tryz.func164 ?_;unfold bR;dsimp only;refine dX ?_;refine iQ fun r1 h1=> ?_;intros
 refine lJ ?_;refine lE ?_;refine bW 3 5 1 (by decide) rfl (by decide) (bL fun q3 hq3=> ?_);repeat rcases hq3 with⟨_,hq3⟩
 refine bW 4 5 1 (by decide) rfl (by decide) (bL fun q4 hq4=> ?_);repeat rcases hq4 with⟨_,hq4⟩
 refine sF ?_;refine lp (β:=Nat×Nat) (fun b=>⟨[(1,.ptr r1 0),(3,.own q3 0 (([]:List Nat)).length),(4,.own b.1 0 (eL uT el b.2).length),(5,.int .i64 b.2)],[(b.1,.arr 5 1 ((eL uT el b.2).map aG)),(q3,.arr 5 1 ((([]:List Nat)).map aG)),(r1,.box 33 (bR ⟨ty,im,fn,tb,me,gl,ex,el,co,da⟩))]⟩) (fun b=>b.2≤el.length∧Nq b.1 r1∧Nq b.1 q3) (fun b=>el.length-b.2) (q4,0) aL ⟨Nat.zero_le _,by show Nq q4 r1;(exact bV),by show Nq q4 q3;(exact bV)⟩ ?_;rintro⟨q1,j⟩ ⟨hj,hqa,hqb⟩;have hpl:=Pel j;dsimp only at hj hqa hqb⊢;unfold bR;dsimp only;refine mY ?_;refine aB rfl (fun g3=> ?_) (fun g3=> ?_)
 ·have hlt:j<el.length:=by simp at g3;omega
  obtain⟨⟨oo,fs⟩,hx⟩:∃x,el[j]? =some x:=⟨_,List.getElem?_eq_getElem hlt⟩
  obtain⟨ho,hf1,hf2⟩:=hel _ (List.mem_of_getElem? hx);dsimp only at ho hf1 hf2;have hr:-2147483648≤oo∧oo≤2147483647:=by(have h:=ho;unfold kM at h;simpa using h)
  have hv:mQ 1 oo=true:=by unfold mQ;simp;omega
  have hcl:=wQ hv (by omega);have hvl:=lT (pt:=cG) (l:=fs) (c:=5) (fun n hn=>wB (hf2 n hn)) hf1;have hnx:=lQ (pt:=uT) hx;refine aJ ?_;refine fM [(0,true),(3,true),(4,true),(5,true),(6,true),(7,true),(8,true),(9,true),(12,true),(13,true),(14,true),(15,true),(16,true),(17,true),(1,false),(2,false),(10,false),(11,false),(18,false),(19,false),(20,true)] ?_;refine zI ?_;refine aCd ?_;refine XB ?_;refine pY ?_;refine DQ fun r17 h17=> ?_;intros
  refine fB rfl ((eL uT el j++ [0]).map aG) (eL uT el j++ [0]).length ?_;refine bH fun r18 h18=> ?_;intros
  refine lO rfl Tryz.call163 (rF 1 oo hv (by omega)) rfl bU kD ?_;rintro _ σ' ⟨q26,rfl,rfl⟩ h26
  replace h26:=cL h26;repeat rcases h26 with⟨_,h26⟩
  apply bZ;exact bN;refine fB rfl ((eL uT el j++ [0]++mC 1 oo).map aG) (eL uT el j++ [0]++mC 1 oo).length ?_;refine bH fun r27 h27=> ?_;intros
  refine lO rfl Tryz.call254 (XY fs hf1 (fun n hn=>⟨(hf2 n hn).1,by have:=(hf2 n hn).2;omega⟩)) rfl bU kD ?_;rintro _ σ' ⟨q34,rfl,rfl⟩ h34
  replace h34:=cL h34;repeat rcases h34 with⟨_,h34⟩
  apply bZ;exact bN;refine fB rfl ((eL uT el j++ [0]++mC 1 oo++bC fs cG).map aG) (eL uT el j++ [0]++mC 1 oo++bC fs cG).length ?_;refine bH fun r35 h35=> ?_;intros
  refine rC ?_;refine⟨(r35,j+1),⟨hlt,by show Nq r35 r1;(exact bV),by show Nq r35 q3;(exact bV)⟩,by show el.length-(j+1)<el.length-j;omega, ?_⟩;dsimp only;rw[hnx];rw[show eL uT el j++uT ⟨oo,fs⟩=eL uT el j++ [0]++mC 1 oo++bC fs cG by unfold uT qF;simp];exact aL
 obtain rfl:j=el.length:=by simp at g3;omega
 refine kA ?_;refine zG ?_;refine rY Tryz.call158 (iT 9 (by decide) el uT (by omega) (by have:=Pel el.length;omega)) rfl bU kD ?_;rintro _ σ' ⟨q41,rfl,rfl⟩ h41
 replace h41:=cL h41;repeat rcases h41 with⟨_,h41⟩
 apply aY;exact bN;refine iY ((bI 9 el uT).map aG) (bI 9 el uT).length ?_;refine bH fun r42 h42=> ?_;intros
 refine dE ?_;generalize bI 9 el uT=S1 at L1⊢;refine sF ?_;refine bW 4 5 1 (by decide) rfl (by decide) (bL fun q5 hq5=> ?_);repeat rcases hq5 with⟨_,hq5⟩
 refine sF ?_;refine lp (β:=Nat×Nat) (fun b=>⟨[(1,.ptr r1 0),(3,.own r42 0 (S1).length),(4,.own b.1 0 (eL kH co b.2).length),(6,.int .i64 b.2)],[(b.1,.arr 5 1 ((eL kH co b.2).map aG)),(r42,.arr 5 1 ((S1).map aG)),(r1,.box 33 (bR ⟨ty,im,fn,tb,me,gl,ex,el,co,da⟩))]⟩) (fun b=>b.2≤co.length∧Nq b.1 r1∧Nq b.1 r42) (fun b=>co.length-b.2) (q5,0) aL ⟨Nat.zero_le _,by show Nq q5 r1;(exact bV),by show Nq q5 r42;(exact bV)⟩ ?_;rintro⟨q1,j⟩ ⟨hj,hqa,hqb⟩;have hpl:=Pco j;dsimp only at hj hqa hqb⊢;unfold bR;dsimp only;refine mY ?_;refine aB rfl (fun g9=> ?_) (fun g9=> ?_)
 ·have hlt:j<co.length:=by simp at g9;omega
  obtain⟨⟨ls,bd⟩,hx⟩:∃x,co[j]? =some x:=⟨_,List.getElem?_eq_getElem hlt⟩
  obtain⟨hc1,hc2,hc3⟩:=hco _ (List.mem_of_getElem? hx);dsimp only at hc1 hc2 hc3;have hlo:=aAi hc1;have hpl2:=zY hc3;have hPl:(bC (cC ls) iE++iR bd).length≤66000:=by rw[List.length_append];omega
  have hcd:kH ⟨ls,bd⟩=uB (bC (cC ls) iE++iR bd).length++(bC (cC ls) iE++iR bd):=rfl;have hub:=bP 4 (bC (cC ls) iE++iR bd).length (by omega);have hnx:=lQ (pt:=kH) hx;refine aJ ?_;refine fM [(0,true),(1,true),(2,true),(3,true),(4,true),(5,true),(7,true),(8,true),(9,true),(10,true),(11,true),(12,true),(6,false),(13,false),(14,false),(15,true)] ?_;refine pY ?_;refine pY ?_;refine lO rfl Tryz.call255 (aBg ls hc1) rfl bU kD ?_;rintro _ σ' ⟨q56,rfl,rfl⟩ h56
  replace h56:=cL h56;repeat rcases h56 with⟨_,h56⟩
  apply bZ;exact bN;refine lO rfl Tryz.call256 (UJ bd hc2 hc3) rfl bU kD ?_;rintro _ σ' ⟨q63,rfl,rfl⟩ h63
  replace h63:=cL h63;repeat rcases h63 with⟨_,h63⟩
  apply bZ;exact bN;refine fB rfl ((bC (cC ls) iE++iR bd).map aG) (bC (cC ls) iE++iR bd).length ?_;refine bH fun r64 h64=> ?_;intros
  refine yB ?_;generalize bC (cC ls) iE++iR bd=P at hPl hub hcd⊢;refine kK ?_;refine zG ?_;refine rY Tryz.call251 (wA (k:=.any) P.length P (by omega) (by omega)) rfl bU kD ?_;rintro _ σ' ⟨q69,rfl,rfl⟩ h69
  replace h69:=cL h69;repeat rcases h69 with⟨_,h69⟩
  apply aY;exact bN;refine iY ((eL kH co j++(uB P.length++P)).map aG) (eL kH co j++(uB P.length++P)).length ?_;refine bH fun r70 h70=> ?_;intros
  refine hZ ?_;refine GM ?_;refine⟨(r70,j+1),⟨hlt,by show Nq r70 r1;(exact bV),by show Nq r70 r42;(exact bV)⟩,by show co.length-(j+1)<co.length-j;omega, ?_⟩;dsimp only;rw[hnx];rw[hcd];exact aL
 obtain rfl:j=co.length:=by simp at g9;omega
 refine kA ?_;refine zG ?_;refine rY Tryz.call158 (iT 10 (by decide) co kH (by omega) (by have:=Pco co.length;omega)) rfl bU kD ?_;rintro _ σ' ⟨q76,rfl,rfl⟩ h76
 replace h76:=cL h76;repeat rcases h76 with⟨_,h76⟩
 apply aY;exact bN;refine iY ((S1++bI 10 co kH).map aG) (S1++bI 10 co kH).length ?_;refine bH fun r77 h77=> ?_;intros
 refine dE ?_;generalize bI 10 co kH=S2 at L2⊢;refine sF ?_;refine bW 4 5 1 (by decide) rfl (by decide) (bL fun q6 hq6=> ?_);repeat rcases hq6 with⟨_,hq6⟩
 refine sF ?_;refine lp (β:=Nat×Nat) (fun b=>⟨[(1,.ptr r1 0),(3,.own r77 0 (S1++S2).length),(4,.own b.1 0 (eL wP da b.2).length),(8,.int .i64 b.2)],[(b.1,.arr 5 1 ((eL wP da b.2).map aG)),(r77,.arr 5 1 ((S1++S2).map aG)),(r1,.box 33 (bR ⟨ty,im,fn,tb,me,gl,ex,el,co,da⟩))]⟩) (fun b=>b.2≤da.length∧Nq b.1 r1∧Nq b.1 r77) (fun b=>da.length-b.2) (q6,0) aL ⟨Nat.zero_le _,by show Nq q6 r1;(exact bV),by show Nq q6 r77;(exact bV)⟩ ?_;rintro⟨q1,j⟩ ⟨hj,hqa,hqb⟩;have hpl:=Pda j;dsimp only at hj hqa hqb⊢;unfold bR;dsimp only;refine mY ?_;refine aB rfl (fun g16=> ?_) (fun g16=> ?_)
 ·have hlt:j<da.length:=by simp at g16;omega
  obtain⟨⟨oo,bs⟩,hx⟩:∃x,da[j]? =some x:=⟨_,List.getElem?_eq_getElem hlt⟩
  obtain⟨ho,hf1⟩:=hda _ (List.mem_of_getElem? hx);dsimp only at ho hf1;have hr:-2147483648≤oo∧oo≤2147483647:=by(have h:=ho;unfold kM at h;simpa using h)
  have hv:mQ 1 oo=true:=by unfold mQ;simp;omega
  have hcl:=wQ hv (by omega);have hub:=bP 4 bs.length (by omega);have hnx:=lQ (pt:=wP) hx;refine aJ ?_;refine fM [(0,true),(3,true),(4,true),(5,true),(6,true),(7,true),(8,true),(9,true),(12,true),(13,true),(14,true),(15,true),(16,true),(17,true),(18,true),(19,true),(20,true),(21,true),(22,true),(23,true),(24,true),(1,false),(2,false),(10,false),(11,false),(25,false),(26,false),(27,true)] ?_;refine zI ?_;refine aCd ?_;refine XB ?_;refine pY ?_;refine WS ?_;refine pY ?_;refine DQ fun r86 h86=> ?_;intros
  refine fB rfl ((eL wP da j++ [0]).map aG) (eL wP da j++ [0]).length ?_;refine bH fun r87 h87=> ?_;intros
  refine lO rfl Tryz.call163 (rF 1 oo hv (by omega)) rfl bU kD ?_;rintro _ σ' ⟨q95,rfl,rfl⟩ h95
  replace h95:=cL h95;repeat rcases h95 with⟨_,h95⟩
  apply bZ;exact bN;refine fB rfl ((eL wP da j++ [0]++mC 1 oo).map aG) (eL wP da j++ [0]++mC 1 oo).length ?_;refine bH fun r96 h96=> ?_;intros
  refine lO rfl Tryz.call251 (wA (k:=.any) bs.length bs (by omega) (by omega)) rfl bU kD ?_;rintro _ σ' ⟨q110,rfl,rfl⟩ h110
  replace h110:=cL h110;repeat rcases h110 with⟨_,h110⟩
  apply bZ;exact bN;refine fB rfl ((eL wP da j++ [0]++mC 1 oo++(uB bs.length++bs)).map aG) (eL wP da j++ [0]++mC 1 oo++(uB bs.length++bs)).length ?_;refine bH fun r111 h111=> ?_;intros
  refine rC ?_;refine⟨(r111,j+1),⟨hlt,by show Nq r111 r1;(exact bV),by show Nq r111 r77;(exact bV)⟩,by show da.length-(j+1)<da.length-j;omega, ?_⟩;dsimp only;rw[hnx];rw[show eL wP da j++wP ⟨oo,bs⟩=eL wP da j++ [0]++mC 1 oo++(uB bs.length++bs) by unfold wP qF;simp];exact aL
 obtain rfl:j=da.length:=by simp at g16;omega
 refine kA ?_;refine zG ?_;refine rY Tryz.call158 (iT 11 (by decide) da wP (by omega) (by have:=Pda da.length;omega)) rfl bU kD ?_;rintro _ σ' ⟨q117,rfl,rfl⟩ h117
 replace h117:=cL h117;repeat rcases h117 with⟨_,h117⟩
 apply aY;exact bN;refine iY ((S1++S2++bI 11 da wP).map aG) (S1++S2++bI 11 da wP).length ?_;refine bH fun r118 h118=> ?_;intros
 refine dE ?_;exact aE aF ⟨r118,by rfl,rfl⟩ aA
theorem aBh{m:Md}(h:m.G):(wC m).length≤10000000:=by
 obtain⟨-,-,-,-,-,-,-,⟨nel,hel⟩,⟨nco,hco⟩,⟨nda,hda⟩⟩:=h;obtain⟨L1,-⟩:=kZ 9 uT 5300 nel (by decide) fun x hx=>aAh (hel x hx)
 obtain⟨L2,-⟩:=kZ 10 kH 70000 nco (by decide) fun x hx=>aAj (hco x hx)
 obtain⟨L3,-⟩:=kZ 11 wP 1300 nda (by decide) fun x hx=>aAk (hda x hx)
 unfold wC;rw[List.length_append,List.length_append];omega
theorem aBi(m:Md)(h:m.G):SCall Tryz.prog 64 [.agg (bR m)] [] (fun y σ=>∃q,y=.own q 0 (fH m).length∧σ=[(q,.arr 5 1 ((fH m).map aG))]):=aDi m h (aDj m h) (aBh h)
theorem iJ{α:Type}{l:List α}{p:α→Bool}{j:Nat}{x:α}(hx:l[j]? =some x)(h:p x=false):l.all p=false:=by
 rw[List.all_eq_false];exact⟨x,List.mem_of_getElem? hx,by rw[h];simp⟩
theorem kP{α:Type}{l:List α}{p:α→Bool}{j:Nat}{x:α}(ha:(l.take j).all p=true)(hx:l[j]? =some x)(h:p x=true):(l.take (j+1)).all p=true:=by
 rw[List.take_add_one,hx,List.all_append,ha];simp[h]
theorem HN(n:Int):SCall Tryz.prog 59 [.int .i64 n] [] (fun r σ'=>r=.bool (iH n)∧σ'=[]):=by
 refine cF 9 [0,2] Tryz.func59 ?_;refine iD ?_;refine MU ?_;refine OZ ?_;refine kL ?_;exact aE aF ⟨by rfl,rfl⟩ aA
theorem aDk(n:Int):SCall Tryz.prog 154 [.int .i64 n] [] (fun r σ'=>r=.bool (kM n)∧σ'=[]):=by
 refine cF 9 [0,2] Tryz.func154 ?_;refine iD ?_;refine MU ?_;refine DM ?_;refine kL ?_;exact aE aF ⟨by unfold kM;rw[show decide (n≤2147483647)=decide (n<2147483648)from decide_eq_decide.2 (by omega)];cases h:decide (-2147483648≤n)<;>simp_all [gU],rfl⟩ aA
theorem aJb(k n:Int):SCall Tryz.prog 60 [.agg [.int .i64 k,.int .i64 n]] [] (fun r σ'=>r=.bool (mQ k n)∧σ'=[]):=by
 have hd:decide (n≤2147483647)=decide (n<2147483648):=decide_eq_decide.2 (by omega);refine cF 21 [0,1,2] Tryz.func60 ?_;refine dX ?_;refine iQ fun r1 h1=> ?_;intros
 refine iW ?_;refine CX ?_;refine xY ?_;refine aCa ?_;refine aCb ?_;refine aCc ?_;refine aKv ?_;refine aEu ?_;refine aCa ?_;refine aCb ?_;refine aCc ?_;refine aMD ?_;refine aEu ?_;refine rM ?_;refine dE ?_;exact aE aF ⟨by unfold mQ;rw[hd];cases h:(k==2)<;>cases h1:(k==1)<;>cases h2:decide (-2147483648≤n)<;>cases h3:decide (n<2147483648)<;>rfl,rfl⟩ aA
theorem NT(l:Li)(a c:Int):SCall Tryz.prog 62 [.agg (fC l),.int .i64 a,.int .i64 c] [] (fun r σ'=>r=.bool (lP l a c)∧σ'=[]):=by
 obtain⟨has,mn,mx⟩:=l;refine cF 38 [0,1,2,3,6,9] Tryz.func62 ?_;unfold fC;refine dX ?_;refine iQ fun r3 h3=> ?_;intros
 refine iW ?_;refine qV ?_;refine aB rfl (fun g1=> ?_) (fun g1=> ?_)
 ·have hE:lP ⟨has,mn,mx⟩ a c=if(mn==0)=true then(mx==0)else false:=by obtain rfl:has=false:=(by simpa using g1);unfold lP;cases h:mn==0<;>simp_all
  refine fN ?_;refine CX ?_;refine xY ?_;refine kL ?_;exact aE aF ⟨by rw[hE];rfl,rfl⟩ aA
 have hE:lP ⟨has,mn,mx⟩ a c=if(if(if decide (0≤mn)=true then decide (mn≤a)else false)=true then decide (-1≤mx)else false)=true then decide (mx≤c)else false:=by obtain rfl:has=true:=(by simpa using g1);unfold lP;rw[if_pos rfl];cases h:decide (0≤mn)<;>cases h2:decide (mn≤a)<;>cases h3:decide (-1≤mx)<;>rfl
 refine fN ?_;refine lo (gB (E rfl) (E rfl)) rfl ?_;refine sH ?_;refine aB9 ?_;refine rX ?_;refine oG ?_;refine aEt ?_;refine rX ?_;refine sH ?_;refine aB9 ?_;refine kL ?_;exact aE aF ⟨by rw[hE];rfl,rfl⟩ aA
theorem HO(l:List Int)(hl:l.length≤1000000)(most:Int):SCall Tryz.prog 57 [.ro 1 (l.map aP) .any,.int .i64 most] [] (fun r σ'=>r=.bool (cO l most zZ)∧σ'=[]):=by
 refine cF 28 [0,1,4,5,9,23] Tryz.func57 ?_;refine oJ ?_;refine lp (β:=Nat) (fun j=>⟨[(0,.ro 1 (l.map aP) .any),(1,.int .i64 most),(5,.int .i64 j)],[]⟩) (fun j=>j≤l.length∧(l.take j).all zZ=true) (fun j=>l.length-j) 0 aL ⟨Nat.zero_le _,rfl⟩ ?_;rintro j ⟨hj,ha⟩;refine eX ?_;refine GO ?_;refine aB rfl (fun g2=> ?_) (fun g2=> ?_)
 ·have hlt:j<l.length:=by simp at g2;omega
  obtain⟨x,hx⟩:∃x,l[j]? =some x:=⟨_,List.getElem?_eq_getElem hlt⟩
  refine eX ?_;refine mI ?_;refine lo (gA (E rfl) (E rfl)) rfl ?_;refine jL ?_;refine pW ?_;refine DK ?_;refine DL ?_;refine aEs ?_;refine vH ?_;refine aB rfl (fun g4=> ?_) (fun g4=> ?_)
  ·have hE:cO l most zZ=false:=by unfold cO;rw[iJ hx (by unfold zZ;cases h1:(x==1)<;>cases h2:(x==2)<;>simp_all),Bool.and_false]
   refine bM ?_;exact aE aF ⟨by rw[hE];rfl,rfl⟩ aA
  refine lY ?_;refine⟨j+1,⟨hlt,kP ha hx (by unfold zZ;cases h1:(x==1)<;>cases h2:(x==2)<;>simp_all)⟩,by show l.length-(j+1)<l.length-j;omega, ?_⟩;exact aL
 obtain rfl:j=l.length:=by simp at g2;omega
 have hE:cO l most zZ=decide ((l.length:Int)≤most):=by unfold cO;rw[List.take_length]at ha;rw[ha,Bool.and_true]
 refine dM ?_;refine aH4 ?_;refine dE ?_;exact aE aF ⟨by rw[hE];rfl,rfl⟩ aA
theorem HP(l:List Int)(hl:l.length≤1000000)(most:Int):SCall Tryz.prog 61 [.ro 1 (l.map aP) .any,.int .i64 most] [] (fun r σ'=>r=.bool (cO l most iH)∧σ'=[]):=by
 refine cF 22 [0,1,4,5,9,17] Tryz.func61 ?_;refine oJ ?_;refine lp (β:=Nat) (fun j=>⟨[(0,.ro 1 (l.map aP) .any),(1,.int .i64 most),(5,.int .i64 j)],[]⟩) (fun j=>j≤l.length∧(l.take j).all iH=true) (fun j=>l.length-j) 0 aL ⟨Nat.zero_le _,rfl⟩ ?_;rintro j ⟨hj,ha⟩;refine eX ?_;refine GO ?_;refine aB rfl (fun g2=> ?_) (fun g2=> ?_)
 ·have hlt:j<l.length:=by simp at g2;omega
  obtain⟨x,hx⟩:∃x,l[j]? =some x:=⟨_,List.getElem?_eq_getElem hlt⟩
  refine eX ?_;refine mI ?_;refine oL Tryz.call59 (HN x) rfl aR bB ?_;refine qV ?_;refine aB rfl (fun g4=> ?_) (fun g4=> ?_)
  ·have hE:cO l most iH=false:=by unfold cO;rw[iJ hx (by simpa using g4),Bool.and_false]
   refine bM ?_;exact aE aF ⟨by rw[hE];rfl,rfl⟩ aA
  refine lY ?_;refine⟨j+1,⟨hlt,kP ha hx (by simpa using g4)⟩,by show l.length-(j+1)<l.length-j;omega, ?_⟩;exact aL
 obtain rfl:j=l.length:=by simp at g2;omega
 have hE:cO l most iH=decide ((l.length:Int)≤most):=by unfold cO;rw[List.take_length]at ha;rw[ha,Bool.and_true]
 refine dM ?_;refine aH4 ?_;refine dE ?_;exact aE aF ⟨by rw[hE];rfl,rfl⟩ aA
theorem QL(s:List Nat)(hl:s.length≤1000000)(hs:∀c∈s,c<256):SCall Tryz.prog 58 [.str (dC s)] [] (fun r σ'=>r=.bool (uG s)∧σ'=[]):=by
 have hch:∀x:Nat,(if decide ((x:Int)<32)=true then true else decide ((126:Int)<x))= !chN x:=fun x=>by unfold chN;rw[show decide ((x:Int)<32)= !decide (32≤x) by rw[←decide_not];exact decide_eq_decide.2 (by omega),show decide ((126:Int)<x)= !decide (x≤126) by rw[←decide_not];exact decide_eq_decide.2 (by omega)];cases decide (32≤x)<;>rfl
 have hnm:uG s=if decide ((1:Int)≤s.length)=true then(decide ((s.length:Int)≤16)&&s.all chN)else false:=by
  rw[aCY];unfold cO;rcases s with _ |⟨x,s⟩
  ·rfl
  ·rw[if_pos (by simp),if_pos (by simp;omega)]
 refine cF 28 [0,2,3,7,19] Tryz.func58 ?_;refine oJ ?_;refine lp (β:=Nat) (fun j=>⟨[(0,.str (dC s)),(3,.int .i64 j)],[]⟩) (fun j=>j≤s.length∧(s.take j).all chN=true) (fun j=>s.length-j) 0 aL ⟨Nat.zero_le _,rfl⟩ ?_;rintro j ⟨hj,ha⟩;refine eX ?_;refine lo (fU (E rfl)) rfl ?_;rw[jC];refine BO ?_;refine aB rfl (fun g2=> ?_) (fun g2=> ?_)
 ·have hlt:j<s.length:=by simp at g2;omega
  obtain⟨x,hx⟩:∃x,s[j]? =some x:=⟨_,List.getElem?_eq_getElem hlt⟩
  have hx256:x<256:=hs x (List.mem_of_getElem? hx);refine eX ?_;refine aME ?_;refine vG ?_;refine pW ?_;refine aMF ?_;refine KK ?_;refine lL ?_;rw[hch];refine aB rfl (fun g4=> ?_) (fun g4=> ?_)
  ·have hE:uG s=false:=by rw[hnm,iJ hx (by simpa using g4),Bool.and_false];split<;>rfl
   refine bM ?_;exact aE aF ⟨by rw[hE];rfl,rfl⟩ aA
  refine lY ?_;refine⟨j+1,⟨hlt,kP ha hx (by simpa using g4)⟩,by show s.length-(j+1)<s.length-j;omega, ?_⟩;exact aL
 obtain rfl:j=s.length:=by simp at g2;omega
 rw[List.take_length]at ha;refine dM ?_;refine lo (fU (E rfl)) rfl ?_;rw[jC];refine MU ?_;refine aHX ?_;rw[jC];refine OZ ?_;refine kL ?_;have hE:uG s=if decide ((1:Int)≤s.length)=true then decide ((s.length:Int)≤16)else false:=by rw[hnm,ha,Bool.and_true]
 exact aE aF ⟨by rw[hE];rfl,rfl⟩ aA
def elP (x:El):Bool:=kM x.off&&cO x.fs 50 iH
def daP (x:Da):Bool:=kM x.off&&decide (x.bs.length≤1000)
def QM (c:Co):Bool:=xF (cU c.bd)&&cO c.ls 32 zZ&&c.bd.all cY
def lI (m:Md):Bool:=m.el.all elP&&m.co.all QM&&m.da.all daP
theorem aFV(c:Co):QM c=tK c:=by
 unfold QM tK;cases h:xF (cU c.bd)with
 |false=>rfl
 |true=>
  have:=QA h;simp only[cU,List.length_map]at this;unfold cO;rw[decide_eq_true (show(c.bd.length:Int)≤300 by omega)];rfl
structure Md.Z (m:Md):Prop where
 ty:m.ty.length≤1000000∧∀x∈m.ty,x.pr.length≤1000000∧x.rs.length≤1000000
 im:m.im.length≤1000000
 fn:m.fn.length≤1000000
 gl:m.gl.length≤1000000
 ex:m.ex.length≤1000000
 el:m.el.length≤1000000∧∀x∈m.el,x.fs.length≤1000000
 co:m.co.length≤1000000∧∀x∈m.co,x.ls.length≤1000000
 da:m.da.length≤1000000∧∀x∈m.da,x.bs.length≤1000000
theorem aDl(m:Md)(h:m.WO)(hz:m.Z):SCall Tryz.prog 63 [.agg (bR m)] [] (fun r σ'=>r=.bool (lI m)∧σ'=[]):=by
 obtain⟨⟨-,-,h3,-,-⟩,h5,-⟩:=h;obtain⟨-,-,-,-,-,⟨z1,z2⟩,⟨z3,z4⟩,⟨z5,z6⟩⟩:=hz;obtain⟨ty,im,fn,tb,me,gl,ex,el,co,da⟩:=m;dsimp only at h3 h5 z1 z2 z3 z4 z5 z6;refine cF 100 [0,1,2,3,4,5,7,8,9,14,34,39,60,65,74,79,99] Tryz.func63 ?_;unfold bR;dsimp only;refine dX ?_;refine iQ fun r1 h1=> ?_;intros
 refine lJ ?_;refine dE ?_;refine lp (β:=Nat) (fun j=>⟨[(1,.ptr r1 0),(3,.int .i64 j)],[(r1,.box 33 (bR ⟨ty,im,fn,tb,me,gl,ex,el,co,da⟩))]⟩) (fun j=>j≤el.length∧(el.take j).all elP=true) (fun j=>el.length-j) 0 aL ⟨Nat.zero_le _,rfl⟩ ?_;rintro j ⟨hj,ha⟩;unfold bR;dsimp only;refine mY ?_;refine aB rfl (fun g2=> ?_) (fun g2=> ?_)
 ·have hlt:j<el.length:=by simp at g2;omega
  obtain⟨⟨oo,fs⟩,hx⟩:∃x,el[j]? =some x:=⟨_,List.getElem?_eq_getElem hlt⟩
  have hfl:=z2 _ (List.mem_of_getElem? hx);refine fN ?_;refine pZ ?_;refine OV ?_;refine oL Tryz.call154 (aDk oo) rfl aR bB ?_;refine lo (dF (E rfl)) rfl ?_;refine sH ?_;refine DK ?_;refine TJ ?_;refine DL ?_;refine lG rfl rfl Tryz.call61 (fun _=>(HP fs hfl 50)) rfl aR bB ?_;refine vF ?_;refine lL ?_;refine aB rfl (fun g4=> ?_) (fun g4=> ?_)
  ·have hE:lI ⟨ty,im,fn,tb,me,gl,ex,el,co,da⟩=false:=by unfold lI;rw[iJ hx (by unfold elP;cases h1:kM oo<;>cases h2:cO fs 50 iH<;>simp_all),Bool.false_and,Bool.false_and]
   refine bM ?_;exact aE aF ⟨by rw[hE];rfl,rfl⟩ aA
  refine lY ?_;refine⟨j+1,⟨hlt,kP ha hx (by unfold elP;cases h1:kM oo<;>cases h2:cO fs 50 iH<;>simp_all)⟩,by show el.length-(j+1)<el.length-j;omega, ?_⟩;exact aL
 obtain rfl:j=el.length:=by simp at g2;omega
 rw[List.take_length]at ha;refine bM ?_;refine lp (β:=Nat) (fun j=>⟨[(1,.ptr r1 0),(4,.int .i64 j)],[(r1,.box 33 (bR ⟨ty,im,fn,tb,me,gl,ex,el,co,da⟩))]⟩) (fun j=>j≤co.length∧(co.take j).all QM=true) (fun j=>co.length-j) 0 aL ⟨Nat.zero_le _,rfl⟩ ?_;rintro j ⟨hj,hc⟩;unfold bR;dsimp only;refine mY ?_;refine aB rfl (fun g7=> ?_) (fun g7=> ?_)
 ·have hlt:j<co.length:=by simp at g7;omega
  obtain⟨⟨ls,bd⟩,hx⟩:∃x,co[j]? =some x:=⟨_,List.getElem?_eq_getElem hlt⟩
  have hll:=z4 _ (List.mem_of_getElem? hx);have hbl:=h3 _ (List.mem_of_getElem? hx);have hbo:=h5 _ (List.mem_of_getElem? hx);dsimp only at hll hbl hbo;refine fN ?_;refine mX ?_;apply al;rfl;exact wY;refine bL fun r5 h5=> ?_;repeat rcases h5 with⟨_,h5⟩
  refine pX ?_;refine fN ?_;refine rY Tryz.call155 (aA4 bd hbl) rfl bU kD ?_;rintro _ σ' ⟨q50,rfl,rfl⟩ h50
  replace h50:=cL h50;repeat rcases h50 with⟨_,h50⟩
  refine zN ?_;refine mZ ?_;refine lo (dF (E rfl)) rfl ?_;refine oG ?_;refine lG rfl rfl Tryz.call57 (fun _=>(HO ls hll 32)) rfl aR bB ?_;refine vF ?_;refine lL ?_;refine aB rfl (fun g11=> ?_) (fun g11=> ?_)
  ·have hE:lI ⟨ty,im,fn,tb,me,gl,ex,el,co,da⟩=false:=by unfold lI;rw[iJ hx (by unfold QM;dsimp only;cases h1:xF (cU bd)<;>cases h2:cO ls 32 zZ<;>simp_all),Bool.and_false,Bool.false_and]
   refine bM ?_;exact aE aF ⟨by rw[hE];rfl,rfl⟩ aA
  have hok:xF (cU bd)=true∧cO ls 32 zZ=true:=by cases h1:xF (cU bd)<;>cases h2:cO ls 32 zZ<;>simp_all
  refine bM ?_;refine lp (β:=Nat) (fun i=>⟨[(1,.ptr r1 0),(4,.int .i64 j),(5,.ptr r5 0),(8,.int .i64 i)],[(r5,.box 44 (dA ⟨ls,bd⟩)),(r1,.box 33 (bR ⟨ty,im,fn,tb,me,gl,ex,el,co,da⟩))]⟩) (fun i=>i≤bd.length∧(bd.take i).all cY=true) (fun i=>bd.length-i) 0 aL ⟨Nat.zero_le _,rfl⟩ ?_;rintro i ⟨hi,hb⟩;unfold bR dA;dsimp only;refine mY ?_;refine aB rfl (fun g14=> ?_) (fun g14=> ?_)
  ·have hlt2:i<bd.length:=by simp at g14;omega
   obtain⟨x,hx2⟩:∃x,bd[i]? =some x:=⟨_,List.getElem?_eq_getElem hlt2⟩
   refine fN ?_;refine mX ?_;refine oL Tryz.call156 (PG .any x (hbo x (List.mem_of_getElem? hx2))) rfl aR bB ?_;refine qV ?_;refine aB rfl (fun g16=> ?_) (fun g16=> ?_)
   ·have hE:lI ⟨ty,im,fn,tb,me,gl,ex,el,co,da⟩=false:=by unfold lI;rw[iJ hx (by unfold QM;dsimp only;rw[iJ hx2 (by simpa using g16),Bool.and_false]),Bool.and_false,Bool.false_and]
    refine bM ?_;exact aE aF ⟨by rw[hE];rfl,rfl⟩ aA
   refine lY ?_;refine⟨i+1,⟨hlt2,kP hb hx2 (by simpa using g16)⟩,by show bd.length-(i+1)<bd.length-i;omega, ?_⟩;exact aL
  obtain rfl:i=bd.length:=by simp at g14;omega
  rw[List.take_length]at hb;refine lY ?_;refine⟨j+1,⟨hlt,kP hc hx (by unfold QM;dsimp only;rw[hok.1,hok.2,hb];rfl)⟩,by show co.length-(j+1)<co.length-j;omega, ?_⟩;exact aL
 obtain rfl:j=co.length:=by simp at g7;omega
 rw[List.take_length]at hc;refine bM ?_;refine lp (β:=Nat) (fun j=>⟨[(1,.ptr r1 0),(9,.int .i64 j)],[(r1,.box 33 (bR ⟨ty,im,fn,tb,me,gl,ex,el,co,da⟩))]⟩) (fun j=>j≤da.length∧(da.take j).all daP=true) (fun j=>da.length-j) 0 aL ⟨Nat.zero_le _,rfl⟩ ?_;rintro j ⟨hj,hd⟩;unfold bR;dsimp only;refine mY ?_;refine aB rfl (fun g19=> ?_) (fun g19=> ?_)
 ·have hlt:j<da.length:=by simp at g19;omega
  obtain⟨⟨oo,bs⟩,hx⟩:∃x,da[j]? =some x:=⟨_,List.getElem?_eq_getElem hlt⟩
  have hfl:=z6 _ (List.mem_of_getElem? hx);have hgt:decide ((1000:Int)<bs.length)= !decide (bs.length≤1000):=by rw[←decide_not];exact decide_eq_decide.2 (by omega)
  refine fN ?_;refine pZ ?_;refine OV ?_;refine oL Tryz.call154 (aDk oo) rfl aR bB ?_;refine lo (dF (E rfl)) rfl ?_;refine sH ?_;refine DK ?_;refine TJ ?_;refine DL ?_;refine qU ?_;refine KK ?_;refine lL ?_;rw[hgt];refine aB rfl (fun g21=> ?_) (fun g21=> ?_)
  ·have hE:lI ⟨ty,im,fn,tb,me,gl,ex,el,co,da⟩=false:=by unfold lI;rw[iJ hx (by unfold daP;dsimp only;cases h1:kM oo<;>cases h2:decide (bs.length≤1000)<;>rw[h1,h2]at g21<;>first|rfl|cases g21),Bool.and_false]
   refine bM ?_;exact aE aF ⟨by rw[hE];rfl,rfl⟩ aA
  refine lY ?_;refine⟨j+1,⟨hlt,kP hd hx (by unfold daP;dsimp only;cases h1:kM oo<;>cases h2:decide (bs.length≤1000)<;>rw[h1,h2]at g21<;>first|rfl|cases g21)⟩,by show da.length-(j+1)<da.length-j;omega, ?_⟩;exact aL
 obtain rfl:j=da.length:=by simp at g19;omega
 rw[List.take_length]at hd;refine bM ?_;have hE:lI ⟨ty,im,fn,tb,me,gl,ex,el,co,da⟩=true:=by unfold lI;rw[ha,hc,hd];rfl
 exact aE aF ⟨by rw[hE];rfl,rfl⟩ aA
def tyP (t:FT):Bool:=cO t.pr 32 zZ&&cO t.rs 1 zZ
def imP (x:Im):Bool:=uG x.mod&&uG x.nm&&iH x.ty
def glP (g:Gl):Bool:=mQ g.kd g.n
def exP (x:Ex):Bool:=uG x.nm&&iH x.fn
def HQ (m:Md):Bool:=decide (m.ty.length≤16∧m.im.length+m.fn.length≤16∧m.gl.length≤16∧m.ex.length≤16∧m.el.length≤16∧m.da.length≤16∧m.co.length=m.fn.length)
def aJc (m:Md):Bool:=HQ m&&m.ty.all tyP&&m.im.all imP&&m.gl.all glP&&m.ex.all exP&&cO m.fn 16 iH&&lP m.tb 16 1000&&lP m.me 16 65536&&lI m
theorem aFW(m:Md):aJc m=qZ m:=by
 have hc:m.co.all QM=m.co.all tK:=by rw[show QM=tK from funext aFV]
 unfold aJc qZ qG HQ lI;rw[hc,Bool.eq_iff_iff];simp only[Bool.and_eq_true,decide_eq_true_eq,beq_iff_eq,cO];constructor
 ·rintro⟨⟨⟨⟨⟨⟨⟨⟨⟨l1,l2,l3,l4,l5,l6,l7⟩,a1⟩,a2⟩,a3⟩,a4⟩,-,a5⟩,a6⟩,a7⟩,⟨a8,a9⟩,a10⟩;exact⟨⟨⟨⟨l7,by omega,a9⟩,⟨⟨⟨⟨⟨⟨by omega,a1⟩,by omega,a2⟩,by omega,a5⟩,by omega,a3⟩,by omega,a4⟩,by omega,a8⟩,by omega,a10⟩,a6⟩,a7⟩
 ·rintro⟨⟨⟨⟨l7,l8,a9⟩,⟨⟨⟨⟨⟨⟨l1,a1⟩,l2,a2⟩,l3,a5⟩,l4,a3⟩,l5,a4⟩,l6,a8⟩,l9,a10⟩,a6⟩,a7⟩;exact⟨⟨⟨⟨⟨⟨⟨⟨⟨by omega,by omega,by omega,by omega,by omega,by omega,l7⟩,a1⟩,a2⟩,a3⟩,a4⟩,by omega,a5⟩,a6⟩,a7⟩,⟨a8,a9⟩,a10⟩
theorem aDm{s:List Nat}(h:uG s=true):VH s:=⟨by have:=(kX h).1;omega,(kX h).2.1⟩
theorem aFX{n:Int}(h:iH n=true):SmI n:=⟨(QD h).1,by have:=(QD h).2;omega⟩
theorem aLo{m:Md}(h:qZ m=true)(hw:m.WO):m.G:=by
 obtain⟨-,hO1,hO2⟩:=hw;have hw2:=h;unfold qZ at h;simp only[Bool.and_eq_true]at h;obtain⟨⟨⟨⟨-,hco⟩,hls⟩,htb⟩,hme⟩:=h;unfold qG at hls;simp only[Bool.and_eq_true]at hls;obtain⟨⟨⟨⟨⟨⟨hty,him⟩,hfn⟩,hgl⟩,hex⟩,hel⟩,hda⟩:=hls;obtain⟨a1,a2⟩:=cB hty;obtain⟨b1,b2⟩:=cB him;obtain⟨c1,c2⟩:=cB hfn;obtain⟨d1,d2⟩:=cB hgl;obtain⟨e1,e2⟩:=cB hex;obtain⟨f1,f2⟩:=cB hel;obtain⟨g1,g2⟩:=cB hda;obtain⟨i1,i2⟩:=cB hco;simp only[Bool.and_eq_true]at a2 b2 e2 f2 g2;refine⟨⟨by omega,fun x hx=> ?_⟩,⟨by omega,fun x hx=> ?_⟩,⟨by omega,fun x hx=>aFX (c2 x hx)⟩,fun hh=> ?_,fun hh=> ?_,⟨by omega,fun x hx=>⟨d2 x hx,hO2 x hx⟩⟩,⟨by omega,fun x hx=> ?_⟩,⟨by omega,fun x hx=> ?_⟩,⟨by omega,fun x hx=> ?_⟩,⟨by omega,fun x hx=> ?_⟩⟩
 ·have h1:=(cB (a2 x hx).1).1;have h2:=(cB (a2 x hx).2).1;omega
 ·exact⟨aDm (b2 x hx).1.1,aDm (b2 x hx).1.2,aFX (b2 x hx).2⟩
 ·exact(QF htb (by decide) (by decide)).1 m.tb (by unfold gP;rw[hh];simp)
 ·exact(QF hme (by decide) (by decide)).1 m.me (by unfold gP;rw[hh];simp)
 ·exact⟨aDm (e2 x hx).1,aFX (e2 x hx).2⟩
 ·exact⟨(f2 x hx).1,by have:=(cB (f2 x hx).2).1;omega,fun n hn=>aFX ((cB (f2 x hx).2).2 n hn)⟩
 ·have h1:=i2 x hx;unfold tK at h1;simp only[Bool.and_eq_true]at h1;exact⟨by have:=(cB h1.1.2).1;omega,by have:=(cB h1.2).1;omega,fun i hi=>⟨hO1 x hx i hi,(cB h1.2).2 i hi⟩⟩
 ·exact⟨(g2 x hx).1,by simpa using(g2 x hx).2⟩
theorem or7(a b c d e f g:Bool):(if(if(if(if(if(if a=true then true else b)=true then true else c)=true then true else d)=true then true else e)=true then true else f)=true then true else g)=(a||b||c||d||e||f||g):=by
 cases a<;>cases b<;>cases c<;>cases d<;>cases e<;>cases f<;>cases g<;>rfl
theorem VI{a b:Bool}(h:(if(!a)=true then true else !b)=true):(a&&b)=false:=by cases a<;>cases b<;>simp_all
theorem VJ{a b:Bool}(h:(if(!a)=true then true else !b)=false):(a&&b)=true:=by cases a<;>cases b<;>simp_all
theorem tM(m:Md)(h:m.WO)(hz:m.Z):SCall Tryz.prog 19 [.agg (bR m)] [] (fun r σ'=>r=.bool (nR m)∧σ'=[]):=by
 have hM:=wS m;have hpt:=aDl m h hz;have hby:=fun ha=>aBi m (aLo ha h)
 have hrA:=aFW m;unfold aJc at hrA;obtain⟨⟨h1,h2,h3,h4,-⟩,h5,h6⟩:=h;obtain⟨⟨z1,z2⟩,z3,z4,z5,z6,⟨z7,z8⟩,⟨z9,z10⟩,⟨z11,z12⟩⟩:=hz;obtain⟨ty,im,fn,tb,me,gl,ex,el,co,da⟩:=m;dsimp only at h1 h2 h3 h4 h5 h6 z1 z2 z3 z4 z5 z6 z7 z8 z9 z10 z11 z12 hrA;have bad:qZ ⟨ty,im,fn,tb,me,gl,ex,el,co,da⟩=false→nR ⟨ty,im,fn,tb,me,gl,ex,el,co,da⟩=false:=fun h=>by rw[hM,h];rfl
 refine cF 179 [0,1,2,3,4,5,6,53,58,78,83,113,118,128,133,153,174] Tryz.func19 ?_;unfold bR;dsimp only;refine dX ?_;apply bx;rfl;rfl;exact wY;rfl;refine bL fun r1 h1=> ?_;repeat rcases h1 with⟨_,h1⟩
 refine iW ?_;refine kU ?_;refine lo (kV (E rfl) (E rfl)) rfl ?_;refine oG ?_;refine qU ?_;refine nA ?_;refine qU ?_;refine aMG ?_;refine KK ?_;refine rM ?_;refine oG ?_;refine qU ?_;refine KK ?_;refine rM ?_;refine oG ?_;refine qU ?_;refine KK ?_;refine rM ?_;refine oG ?_;refine qU ?_;refine KK ?_;refine rM ?_;refine oG ?_;refine qU ?_;refine KK ?_;refine rM ?_;refine oG ?_;refine qU ?_;refine nA ?_;refine qU ?_;refine aMH ?_;refine lL ?_;refine aB rfl (fun g1=> ?_) (fun g1=> ?_)
 ·have hl0:HQ ⟨ty,im,fn,tb,me,gl,ex,el,co,da⟩=false:=by cases hh:HQ ⟨ty,im,fn,tb,me,gl,ex,el,co,da⟩with|false=>rfl|true=>(unfold HQ at hh;simp only[decide_eq_true_eq]at hh;obtain⟨l1,l2,l3,l4,l5,l6,l7⟩:=hh;rw[decide_eq_false (by omega),decide_eq_false (by omega),decide_eq_false (by omega),decide_eq_false (by omega),decide_eq_false (by omega),decide_eq_false (by omega)]at g1;simp[l7]at g1)
  have hE:=bad (by rw[←hrA,hl0];rfl);refine bM ?_;exact aE aF ⟨by rw[hE];rfl,rfl⟩ aA
 rw[or7]at g1;simp only[Bool.or_eq_false_iff,decide_eq_false_iff_not,bne_eq_false_iff_eq]at g1;have hl1:HQ ⟨ty,im,fn,tb,me,gl,ex,el,co,da⟩=true:=by unfold HQ;rw[decide_eq_true];obtain⟨⟨⟨⟨⟨⟨m1,m2⟩,m3⟩,m4⟩,m5⟩,m6⟩,m7⟩:=g1;dsimp only;omega
 refine bM ?_;refine lp (β:=Nat) (fun j=>⟨[(1,.ptr r1 0),(3,.int .i64 j)],[(r1,.box 33 (bR ⟨ty,im,fn,tb,me,gl,ex,el,co,da⟩))]⟩) (fun j=>j≤ty.length∧(ty.take j).all tyP=true) (fun j=>ty.length-j) 0 aL ⟨Nat.zero_le _,rfl⟩ ?_;rintro j ⟨hj,a1⟩;unfold bR;dsimp only;refine mY ?_;refine aB rfl (fun g4=> ?_) (fun g4=> ?_)
 ·have hlt:j<ty.length:=by simp at g4;omega
  obtain⟨⟨pr,rs⟩,hx⟩:∃x,ty[j]? =some x:=⟨_,List.getElem?_eq_getElem hlt⟩
  obtain⟨hp1,hp2⟩:=z2 _ (List.mem_of_getElem? hx);dsimp only at hp1 hp2;refine fN ?_;refine pZ ?_;refine OV ?_;refine oL Tryz.call57 (HO pr hp1 32) rfl aR bB ?_;refine lo (dF (E rfl)) rfl ?_;refine sH ?_;refine DK ?_;refine TJ ?_;refine DL ?_;refine lG rfl rfl Tryz.call57 (fun _=>(HO rs hp2 1)) rfl aR bB ?_;refine vF ?_;refine lL ?_;refine aB rfl (fun g6=> ?_) (fun g6=> ?_)
  ·have hE:=bad (by rw[←hrA,iJ hx (VI g6)];simp);refine bM ?_;exact aE aF ⟨by rw[hE];rfl,rfl⟩ aA
  refine lY ?_;refine⟨j+1,⟨hlt,kP a1 hx (VJ g6)⟩,by show ty.length-(j+1)<ty.length-j;omega, ?_⟩;exact aL
 obtain rfl:j=ty.length:=by simp at g4;omega
 rw[List.take_length]at a1;refine bM ?_;refine lp (β:=Nat) (fun j=>⟨[(1,.ptr r1 0),(4,.int .i64 j)],[(r1,.box 33 (bR ⟨ty,im,fn,tb,me,gl,ex,el,co,da⟩))]⟩) (fun j=>j≤im.length∧(im.take j).all imP=true) (fun j=>im.length-j) 0 aL ⟨Nat.zero_le _,rfl⟩ ?_;rintro j ⟨hj,a2⟩;unfold bR;dsimp only;refine mY ?_;refine aB rfl (fun g9=> ?_) (fun g9=> ?_)
 ·have hlt:j<im.length:=by simp at g9;omega
  obtain⟨⟨md,nm,tt⟩,hx⟩:∃x,im[j]? =some x:=⟨_,List.getElem?_eq_getElem hlt⟩
  obtain⟨⟨hp1,hp2⟩,hp3,hp4⟩:=h1 _ (List.mem_of_getElem? hx);dsimp only at hp1 hp2 hp3 hp4;refine fN ?_;refine pZ ?_;refine OV ?_;refine oL Tryz.call58 (QL md (by omega) hp2) rfl aR bB ?_;refine lo (dF (E rfl)) rfl ?_;refine sH ?_;refine DK ?_;refine TJ ?_;refine DL ?_;refine lG rfl rfl Tryz.call58 (fun _=>(QL nm (by omega) hp4)) rfl aR bB ?_;refine vF ?_;refine rM ?_;refine sH ?_;refine DK ?_;refine TJ ?_;refine DL ?_;refine lG rfl rfl Tryz.call59 (fun _=>(HN tt)) rfl aR bB ?_;refine vF ?_;refine lL ?_;refine aB rfl (fun g11=> ?_) (fun g11=> ?_)
  ·have hE:=bad (by rw[←hrA,iJ hx (show imP ⟨md,nm,tt⟩=false by unfold imP;dsimp only;cases h7:uG md<;>cases h8:uG nm<;>cases h9:iH tt<;>simp_all)];simp);refine bM ?_;exact aE aF ⟨by rw[hE];rfl,rfl⟩ aA
  refine lY ?_;refine⟨j+1,⟨hlt,kP a2 hx (show imP ⟨md,nm,tt⟩=true by unfold imP;dsimp only;cases h7:uG md<;>cases h8:uG nm<;>cases h9:iH tt<;>simp_all)⟩,by show im.length-(j+1)<im.length-j;omega, ?_⟩;exact aL
 obtain rfl:j=im.length:=by simp at g9;omega
 rw[List.take_length]at a2;refine bM ?_;refine lp (β:=Nat) (fun j=>⟨[(1,.ptr r1 0),(5,.int .i64 j)],[(r1,.box 33 (bR ⟨ty,im,fn,tb,me,gl,ex,el,co,da⟩))]⟩) (fun j=>j≤gl.length∧(gl.take j).all glP=true) (fun j=>gl.length-j) 0 aL ⟨Nat.zero_le _,rfl⟩ ?_;rintro j ⟨hj,a3⟩;unfold bR;dsimp only;refine mY ?_;refine aB rfl (fun g14=> ?_) (fun g14=> ?_)
 ·have hlt:j<gl.length:=by simp at g14;omega
  obtain⟨⟨mu,kk,nn⟩,hx⟩:∃x,gl[j]? =some x:=⟨_,List.getElem?_eq_getElem hlt⟩
  refine fN ?_;refine pZ ?_;refine aAL ?_;refine oL Tryz.call60 (aJb kk nn) rfl aR bB ?_;refine qV ?_;refine aB rfl (fun g16=> ?_) (fun g16=> ?_)
  ·have hE:=bad (by rw[←hrA,iJ hx (show glP ⟨mu,kk,nn⟩=false by unfold glP;simpa using g16)];simp);refine bM ?_;exact aE aF ⟨by rw[hE];rfl,rfl⟩ aA
  refine lY ?_;refine⟨j+1,⟨hlt,kP a3 hx (show glP ⟨mu,kk,nn⟩=true by unfold glP;simpa using g16)⟩,by show gl.length-(j+1)<gl.length-j;omega, ?_⟩;exact aL
 obtain rfl:j=gl.length:=by simp at g14;omega
 rw[List.take_length]at a3;refine bM ?_;refine lp (β:=Nat) (fun j=>⟨[(1,.ptr r1 0),(6,.int .i64 j)],[(r1,.box 33 (bR ⟨ty,im,fn,tb,me,gl,ex,el,co,da⟩))]⟩) (fun j=>j≤ex.length∧(ex.take j).all exP=true) (fun j=>ex.length-j) 0 aL ⟨Nat.zero_le _,rfl⟩ ?_;rintro j ⟨hj,a4⟩;unfold bR;dsimp only;refine mY ?_;refine aB rfl (fun g19=> ?_) (fun g19=> ?_)
 ·have hlt:j<ex.length:=by simp at g19;omega
  obtain⟨⟨nm,ff⟩,hx⟩:∃x,ex[j]? =some x:=⟨_,List.getElem?_eq_getElem hlt⟩
  obtain⟨hp3,hp4⟩:=h2 _ (List.mem_of_getElem? hx);dsimp only at hp3 hp4;refine fN ?_;refine pZ ?_;refine OV ?_;refine oL Tryz.call58 (QL nm (by omega) hp4) rfl aR bB ?_;refine lo (dF (E rfl)) rfl ?_;refine sH ?_;refine DK ?_;refine TJ ?_;refine DL ?_;refine lG rfl rfl Tryz.call59 (fun _=>(HN ff)) rfl aR bB ?_;refine vF ?_;refine lL ?_;refine aB rfl (fun g21=> ?_) (fun g21=> ?_)
  ·have hE:=bad (by rw[←hrA,iJ hx (VI g21)];simp);refine bM ?_;exact aE aF ⟨by rw[hE];rfl,rfl⟩ aA
  refine lY ?_;refine⟨j+1,⟨hlt,kP a4 hx (VJ g21)⟩,by show ex.length-(j+1)<ex.length-j;omega, ?_⟩;exact aL
 obtain rfl:j=ex.length:=by simp at g19;omega
 rw[List.take_length]at a4;refine fN ?_;refine oL Tryz.call61 (HP fn z4 16) rfl aR bB ?_;refine lo (dF (E rfl)) rfl ?_;refine PB ?_;refine KL ?_;refine lG rfl rfl Tryz.call62 (fun _=>(NT tb 16 1000)) rfl aR bB ?_;refine vF ?_;refine rM ?_;refine PB ?_;refine KL ?_;refine lG rfl rfl Tryz.call62 (fun _=>(NT me 16 65536)) rfl aR bB ?_;refine vF ?_;refine rM ?_;refine zL ?_;refine lG rfl rfl Tryz.call63 (fun _=>hpt) rfl aR bB ?_;refine vF ?_;refine lL ?_;refine aB rfl (fun g23=> ?_) (fun g23=> ?_)
 ·have hE:=bad (by rw[←hrA];cases h7:cO fn 16 iH<;>cases h8:lP tb 16 1000<;>cases h9:lP me 16 65536<;>cases h10:lI ⟨ty,im,fn,tb,me,gl,ex,el,co,da⟩<;>simp_all);refine bM ?_;exact aE aF ⟨by rw[hE];rfl,rfl⟩ aA
 have hq:cO fn 16 iH=true∧lP tb 16 1000=true∧lP me 16 65536=true∧lI ⟨ty,im,fn,tb,me,gl,ex,el,co,da⟩=true:=by cases h7:cO fn 16 iH<;>cases h8:lP tb 16 1000<;>cases h9:lP me 16 65536<;>cases h10:lI ⟨ty,im,fn,tb,me,gl,ex,el,co,da⟩<;>simp_all
 obtain⟨q1,q2,q3,q4⟩:=hq;have hA:qZ ⟨ty,im,fn,tb,me,gl,ex,el,co,da⟩=true:=by rw[←hrA,hl1,a1,a2,a3,a4,q1,q2,q3,q4];rfl
 refine qB ?_;refine rY Tryz.call64 (hby hA) rfl bU kD ?_;rintro _ σ' ⟨q176,rfl,rfl⟩ h176
 replace h176:=cL h176;repeat rcases h176 with⟨_,h176⟩
 apply aY;exact bN;refine kU ?_;refine lo (lR (E rfl) (E rfl)) rfl ?_;refine dE ?_;have hE:nR ⟨ty,im,fn,tb,me,gl,ex,el,co,da⟩=decide (((fH ⟨ty,im,fn,tb,me,gl,ex,el,co,da⟩).length:Int)≤8000):=by rw[hM,hA,Bool.true_and];exact decide_eq_decide.2 (by omega)
 exact aE aF ⟨by rw[hE];rfl,rfl⟩ aA
end Go.Proofs.YtjpdadobblffmaaGreat
namespace Go.Proofs.YtjpdadobblffmaaGreat
open Go.RowKit Go.ChangeShapes Go.WideShapes Go.ChangeAt Go.Deep
theorem aDn{M:Mp}{F:Nat→Prop}{w:World}{a b:AV}{x y u:Value}(ha:∀u,VR M F w a u→u=x)(hb:∀u,VR M F w b u→u=y)(h:VR M F w (.agg [a,b]) u):u=.agg #[x,y]:=by
 cases h with
 |@agg _ vs hl h=>
  obtain⟨l⟩:=vs
  match l,hl with
  |[p,q],_=>rw[ha p (h 0 _ p rfl rfl),hb q (h 1 _ q rfl rfl)]
theorem CD{M:Mp}{F:Nat→Prop}{w:World}{a b c:AV}{x y z u:Value}(ha:∀u,VR M F w a u→u=x)(hb:∀u,VR M F w b u→u=y)(hc:∀u,VR M F w c u→u=z)(h:VR M F w (.agg [a,b,c]) u):u=.agg #[x,y,z]:=by
 cases h with
 |@agg _ vs hl h=>
  obtain⟨l⟩:=vs
  match l,hl with
  |[p,q,r],_=>rw[ha p (h 0 _ p rfl rfl),hb q (h 1 _ q rfl rfl),hc r (h 2 _ r rfl rfl)]
theorem oW{M:Mp}{F:Nat→Prop}{w:World}{k:IntKind}{n:Int}:∀u,VR M F w (.int k n) u→u=.int k n:=fun u h=>by cases h;rfl
theorem FQ{M:Mp}{F:Nat→Prop}{w:World}{b:Bool}:∀u,VR M F w (.bool b) u→u=.bool b:=fun u h=>by cases h;rfl
theorem CE{M:Mp}{F:Nat→Prop}{w:World}{b:ByteArray}:∀u,VR M F w (.str b) u→u=.string b:=fun u h=>by cases h;rfl
theorem aLp(w:World)(a d:Bool)(b c e f:Int):(Op.equal 26 (.agg #[.bool a,.int .i64 b,.int .i64 c]) (.agg #[.bool d,.int .i64 e,.int .i64 f])).run Tryz.prog w=.ok (a==d&&b==e&&c==f) w:=by
 have hs:Tryz.prog.stoodInHeld 26=false:=by kernel_rfl
 have hf:Tryz.prog.underlying 26=some (.struct (Tryz.prog.fieldsOf 26)):=by unfold Program.fieldsOf;rw[Tryz.underlying26]
 have p1:Tryz.prog.plainKey 4=true:=by kernel_rfl
 have p2:Tryz.prog.plainKey 3=true:=by kernel_rfl
 have h:(Op.equalIn (9999+1) 26 (.agg #[.bool a,.int .i64 b,.int .i64 c]) (.agg #[.bool d,.int .i64 e,.int .i64 f])).run Tryz.prog w=.ok (a==d&&b==e&&c==f) w:=by
  rw[run_equalIn_struct w 9999 _ _ _ hf hs];unfold Program.fieldsOf;rw[Tryz.underlying26];simp only[Op.eqFields];cases h1:(a==d)<;>cases h2:(b==e)<;>cases h3:(c==f)<;>simp[run_part_plain w p1 (xs:=#[.bool a,.int .i64 b,.int .i64 c]) (off:=0) rfl,run_part_plain w p1 (xs:=#[.bool d,.int .i64 e,.int .i64 f]) (off:=0) rfl,run_part_plain w p2 (xs:=#[.bool a,.int .i64 b,.int .i64 c]) (off:=1) rfl,run_part_plain w p2 (xs:=#[.bool d,.int .i64 e,.int .i64 f]) (off:=1) rfl,run_part_plain w p2 (xs:=#[.bool a,.int .i64 b,.int .i64 c]) (off:=2) rfl,run_part_plain w p2 (xs:=#[.bool d,.int .i64 e,.int .i64 f]) (off:=2) rfl,run_equalIn_int w _ _ _ _ _ _ Tryz.underlying3,run_equalIn_bool' w _ _ _ _ Tryz.underlying4,h1,h2,h3]
 exact h
theorem aLq(w:World)(a b d e:ByteArray)(c f:Int):(Op.equal 64 (.agg #[.string a,.string b,.int .i64 c]) (.agg #[.string d,.string e,.int .i64 f])).run Tryz.prog w=.ok (a.toList==d.toList&&b.toList==e.toList&&c==f) w:=by
 have hs:Tryz.prog.stoodInHeld 64=false:=by kernel_rfl
 have hf:Tryz.prog.underlying 64=some (.struct (Tryz.prog.fieldsOf 64)):=by unfold Program.fieldsOf;rw[Tryz.underlying64]
 have p1:Tryz.prog.plainKey 9=true:=by kernel_rfl
 have p2:Tryz.prog.plainKey 3=true:=by kernel_rfl
 have h:(Op.equalIn (9999+1) 64 (.agg #[.string a,.string b,.int .i64 c]) (.agg #[.string d,.string e,.int .i64 f])).run Tryz.prog w=.ok (a.toList==d.toList&&b.toList==e.toList&&c==f) w:=by
  rw[run_equalIn_struct w 9999 _ _ _ hf hs];unfold Program.fieldsOf;rw[Tryz.underlying64];simp only[Op.eqFields];cases h1:(a.toList==d.toList)<;>cases h2:(b.toList==e.toList)<;>cases h3:(c==f)<;>simp[run_part_plain w p1 (xs:=#[.string a,.string b,.int .i64 c]) (off:=0) rfl,run_part_plain w p1 (xs:=#[.string d,.string e,.int .i64 f]) (off:=0) rfl,run_part_plain w p1 (xs:=#[.string a,.string b,.int .i64 c]) (off:=1) rfl,run_part_plain w p1 (xs:=#[.string d,.string e,.int .i64 f]) (off:=1) rfl,run_part_plain w p2 (xs:=#[.string a,.string b,.int .i64 c]) (off:=2) rfl,run_part_plain w p2 (xs:=#[.string d,.string e,.int .i64 f]) (off:=2) rfl,run_equalIn_int w _ _ _ _ _ _ Tryz.underlying3,run_equalIn_string w _ _ _ _ Tryz.underlying9,h1,h2,h3]
 exact h
theorem aLr(w:World)(a d:ByteArray)(c f:Int):(Op.equal 66 (.agg #[.string a,.int .i64 c]) (.agg #[.string d,.int .i64 f])).run Tryz.prog w=.ok (a.toList==d.toList&&c==f) w:=by
 have hs:Tryz.prog.stoodInHeld 66=false:=by kernel_rfl
 have hf:Tryz.prog.underlying 66=some (.struct (Tryz.prog.fieldsOf 66)):=by unfold Program.fieldsOf;rw[Tryz.underlying66]
 have p1:Tryz.prog.plainKey 9=true:=by kernel_rfl
 have p2:Tryz.prog.plainKey 3=true:=by kernel_rfl
 have h:(Op.equalIn (9999+1) 66 (.agg #[.string a,.int .i64 c]) (.agg #[.string d,.int .i64 f])).run Tryz.prog w=.ok (a.toList==d.toList&&c==f) w:=by
  rw[run_equalIn_struct w 9999 _ _ _ hf hs];unfold Program.fieldsOf;rw[Tryz.underlying66];simp only[Op.eqFields];cases h1:(a.toList==d.toList)<;>cases h3:(c==f)<;>simp[run_part_plain w p1 (xs:=#[.string a,.int .i64 c]) (off:=0) rfl,run_part_plain w p1 (xs:=#[.string d,.int .i64 f]) (off:=0) rfl,run_part_plain w p2 (xs:=#[.string a,.int .i64 c]) (off:=1) rfl,run_part_plain w p2 (xs:=#[.string d,.int .i64 f]) (off:=1) rfl,run_equalIn_int w _ _ _ _ _ _ Tryz.underlying3,run_equalIn_string w _ _ _ _ Tryz.underlying9,h1,h3]
 exact h
theorem aFY(n:Nat)(w:World)(a b c d:Int):(Op.equalIn (n+2) 71 (.agg #[.int .i64 a,.int .i64 b]) (.agg #[.int .i64 c,.int .i64 d])).run Tryz.prog w=.ok (a==c&&b==d) w:=by
 have hs:Tryz.prog.stoodInHeld 71=false:=by kernel_rfl
 have hf:Tryz.prog.underlying 71=some (.struct (Tryz.prog.fieldsOf 71)):=by unfold Program.fieldsOf;rw[Tryz.underlying71]
 have p1:Tryz.prog.plainKey 3=true:=by kernel_rfl
 have p2:Tryz.prog.plainKey 2=true:=by kernel_rfl
 rw[run_equalIn_struct w (n+1) _ _ _ hf hs];unfold Program.fieldsOf;rw[Tryz.underlying71];simp only[Op.eqFields];cases h1:(a==c)<;>cases h2:(b==d)<;>simp[run_part_plain w p1 (xs:=#[.int .i64 a,.int .i64 b]) (off:=0) rfl,run_part_plain w p1 (xs:=#[.int .i64 c,.int .i64 d]) (off:=0) rfl,run_part_plain w p2 (xs:=#[.int .i64 a,.int .i64 b]) (off:=1) rfl,run_part_plain w p2 (xs:=#[.int .i64 c,.int .i64 d]) (off:=1) rfl,run_equalIn_int w _ _ _ _ _ _ Tryz.underlying3,run_equalIn_int w _ _ _ _ _ _ Tryz.underlying2,h1,h2]
theorem aLs(w:World)(a d:Bool)(b c e f:Int):(Op.equal 73 (.agg #[.bool a,.int .i64 b,.int .i64 c]) (.agg #[.bool d,.int .i64 e,.int .i64 f])).run Tryz.prog w=.ok (a==d&&(b==e&&c==f)) w:=by
 have hs:Tryz.prog.stoodInHeld 73=false:=by kernel_rfl
 have hf:Tryz.prog.underlying 73=some (.struct (Tryz.prog.fieldsOf 73)):=by unfold Program.fieldsOf;rw[Tryz.underlying73]
 have p1:Tryz.prog.plainKey 4=true:=by kernel_rfl
 have q1:∀a b c,(part 71 #[.bool a,.int .i64 b,.int .i64 c] 1).run Tryz.prog w=.ok (.agg #[.int .i64 b,.int .i64 c]) w:=fun a b c=>by
  obtain⟨i,hi,hz,hs,_⟩:=Tz.parts Tryz.prog 71;simp[part,isAgg,run_underlying Tryz.underlying71,sizeOf,typeInfo,hi,hs]
 have h:(Op.equalIn (9999+1) 73 (.agg #[.bool a,.int .i64 b,.int .i64 c]) (.agg #[.bool d,.int .i64 e,.int .i64 f])).run Tryz.prog w=.ok (a==d&&(b==e&&c==f)) w:=by
  rw[run_equalIn_struct w 9999 _ _ _ hf hs];unfold Program.fieldsOf;rw[Tryz.underlying73];simp only[Op.eqFields];cases h1:(a==d)<;>cases h2:(b==e&&c==f)<;>simp[run_part_plain w p1 (xs:=#[.bool a,.int .i64 b,.int .i64 c]) (off:=0) rfl,run_part_plain w p1 (xs:=#[.bool d,.int .i64 e,.int .i64 f]) (off:=0) rfl,q1,run_equalIn_bool' w _ _ _ _ Tryz.underlying4,aFY 9997,h1,h2]
 exact h
instance : DecidableEq FT := fun a b => decidable_of_iff (a.pr = b.pr ∧ a.rs = b.rs) ⟨fun h => by cases a; cases b; simp_all, fun h => by subst h; exact ⟨rfl, rfl⟩⟩
instance : DecidableEq Im := fun a b => decidable_of_iff (a.mod = b.mod ∧ a.nm = b.nm ∧ a.ty = b.ty) ⟨fun h => by cases a; cases b; simp_all, fun h => by subst h; exact ⟨rfl, rfl, rfl⟩⟩
instance : DecidableEq Gl := fun a b => decidable_of_iff (a.mu = b.mu ∧ a.kd = b.kd ∧ a.n = b.n) ⟨fun h => by cases a; cases b; simp_all, fun h => by subst h; exact ⟨rfl, rfl, rfl⟩⟩
instance : DecidableEq Ex := fun a b => decidable_of_iff (a.nm = b.nm ∧ a.fn = b.fn) ⟨fun h => by cases a; cases b; simp_all, fun h => by subst h; exact ⟨rfl, rfl⟩⟩
instance : DecidableEq El := fun a b => decidable_of_iff (a.off = b.off ∧ a.fs = b.fs) ⟨fun h => by cases a; cases b; simp_all, fun h => by subst h; exact ⟨rfl, rfl⟩⟩
instance : DecidableEq Co := fun a b => decidable_of_iff (a.ls = b.ls ∧ a.bd = b.bd) ⟨fun h => by cases a; cases b; simp_all, fun h => by subst h; exact ⟨rfl, rfl⟩⟩
instance : DecidableEq Da := fun a b => decidable_of_iff (a.off = b.off ∧ a.bs = b.bs) ⟨fun h => by cases a; cases b; simp_all, fun h => by subst h; exact ⟨rfl, rfl⟩⟩
instance : DecidableEq Li := fun a b => decidable_of_iff (a.has = b.has ∧ a.mn = b.mn ∧ a.mx = b.mx) ⟨fun h => by cases a; cases b; simp_all, fun h => by subst h; exact ⟨rfl, rfl, rfl⟩⟩
section
variable {s : ASt} {c : Bool} {x y : Operand} {ty t t' : TypeId}
theorem VK{xs ys:Array Value}{cx cy:List AV}{b:Bool}(hg:Tryz.prog.eqGuardType Tryz.prog.depth t=false)(hx:∀(M:Mp) (F:Nat→Prop) (w:World) (u:Value),VR M F w (.agg cx) u→u=.agg xs)(hy:∀(M:Mp) (F:Nat→Prop) (w:World) (u:Value),VR M F w (.agg cy) u→u=.agg ys)
  (he:∀w:World,(Op.equal t (.agg xs) (.agg ys)).run Tryz.prog w=.ok b w) (h:Ev s c x (.agg cx)) (h':Ev s c y (.agg cy)):Lop Tryz.prog (.binOp .eql t x y t') ty s c (.bool b) []:=
 Lop.pure_ fun M F N n ac w hr hc=>⟨_,.bool _,fun w' o ho _=>by
  have e1:=hx _ _ _ _ (h.vr hr hc);have e2:=hy _ _ _ _ (h'.vr hr hc);refine rZ ho ?_ ?_
  ·rw[e1,e2];exact run_eqGuard_agg w' .eql _ x y _ _ hg
  ·rw[e1,e2];simp only[binOp,Sem.run_bind,he,Result.andThen_ok,Sem.run_pure]⟩
theorem wD{xs ys:Array Value}{cx cy:List AV}{b:Bool}(hg:Tryz.prog.eqGuardType Tryz.prog.depth t=false)(hx:∀(M:Mp) (F:Nat→Prop) (w:World) (u:Value),VR M F w (.agg cx) u→u=.agg xs)(hy:∀(M:Mp) (F:Nat→Prop) (w:World) (u:Value),VR M F w (.agg cy) u→u=.agg ys)
  (he:∀w:World,(Op.equal t (.agg xs) (.agg ys)).run Tryz.prog w=.ok b w) (h:Ev s c x (.agg cx)) (h':Ev s c y (.agg cy)):Lop Tryz.prog (.binOp .neq t x y t') ty s c (.bool (!b)) []:=
 Lop.pure_ fun M F N n ac w hr hc=>⟨_,.bool _,fun w' o ho _=>by
  have e1:=hx _ _ _ _ (h.vr hr hc);have e2:=hy _ _ _ _ (h'.vr hr hc);refine rZ ho ?_ ?_
  ·rw[e1,e2];exact run_eqGuard_agg w' .neq _ x y _ _ hg
  ·rw[e1,e2];simp only[binOp,Sem.run_bind,he,Result.andThen_ok,Sem.run_pure]⟩
theorem HR{a b:Li}(h:Ev s c x (.agg (fC a)))(h':Ev s c y (.agg (fC b))):Lop Tryz.prog (.binOp .eql 26 x y t') ty s c (.bool (decide (a=b))) []:=by
 have he:decide (a=b)=(a.has==b.has&&a.mn==b.mn&&a.mx==b.mx):=by rw[Bool.eq_iff_iff];cases a;cases b;simp[and_assoc]
 rw[he];exact VK (by kernel_rfl) (fun _ _ _ _=>CD FQ oW oW) (fun _ _ _ _=>CD FQ oW oW) (fun w=>aLp w _ _ _ _ _ _) h h'
theorem YA{a b:Im}(ha:lC a.mod∧lC a.nm)(hb:lC b.mod∧lC b.nm)(h:Ev s c x (.agg (eM a)))(h':Ev s c y (.agg (eM b))):Lop Tryz.prog (.binOp .neq 64 x y t') ty s c (.bool (!decide (a=b))) []:=by
 have he:decide (a=b)=((dC a.mod).toList==(dC b.mod).toList&&(dC a.nm).toList==(dC b.nm).toList&&a.ty==b.ty):=by rw[pV ha.1.2 hb.1.2,pV ha.2.2 hb.2.2,Bool.eq_iff_iff];cases a;cases b;simp[and_assoc]
 rw[he];exact wD (by kernel_rfl) (fun _ _ _ _=>CD CE CE oW) (fun _ _ _ _=>CD CE CE oW) (fun w=>aLq w _ _ _ _ _ _) h h'
theorem YB{a b:Ex}(ha:lC a.nm)(hb:lC b.nm)(h:Ev s c x (.agg (eA a)))(h':Ev s c y (.agg (eA b))):Lop Tryz.prog (.binOp .neq 66 x y t') ty s c (.bool (!decide (a=b))) []:=by
 have he:decide (a=b)=((dC a.nm).toList==(dC b.nm).toList&&a.fn==b.fn):=by rw[pV ha.2 hb.2,Bool.eq_iff_iff];cases a;cases b;simp
 rw[he];exact wD (by kernel_rfl) (fun _ _ _ _=>aDn CE oW) (fun _ _ _ _=>aDn CE oW) (fun w=>aLr w _ _ _ _) h h'
theorem YC{a b:Gl}(h:Ev s c x (.agg (dZ a)))(h':Ev s c y (.agg (dZ b))):Lop Tryz.prog (.binOp .neq 73 x y t') ty s c (.bool (!decide (a=b))) []:=by
 have he:decide (a=b)=(a.mu==b.mu&&(a.kd==b.kd&&a.n==b.n)):=by rw[Bool.eq_iff_iff];cases a;cases b;simp
 rw[he];exact wD (by kernel_rfl) (fun _ _ _ _=>CD FQ oW oW) (fun _ _ _ _=>CD FQ oW oW) (fun w=>aLs w _ _ _ _ _ _) h h'
end
theorem aJd(xs ys:List Im)(hox:∀x∈xs,(fun x:Im=>lC x.mod∧lC x.nm) x)(hoy:∀y∈ys,(fun x:Im=>lC x.mod∧lC x.nm) y):SCall Tryz.prog 126 [.ro 3 (xs.map eM) .any,.ro 3 (ys.map eM) .any] [] (fun r σ=>r=.bool (decide (xs=ys))∧σ=[]):=by
 refine cF 26 [0,1,4,5,10,12,13,14,24] Tryz.func126 ?_;refine hY (i:=0) rfl fun hm=> ?_
 rw[List.length_map]at hm;unfold maxLen at hm;refine uD ?_;refine kU ?_;refine lX ?_;refine aB rfl (fun g1=> ?_) (fun g1=> ?_)
 ·have hE:decide (xs=ys)=false:=decide_eq_false (by rintro rfl;simp at g1);refine bM ?_;exact aE aF ⟨by rw[hE];rfl,rfl⟩ aA
 have hl:xs.length=ys.length:=by simp at g1;omega
 refine dM ?_;refine oH ?_;refine lp (β:=Nat) (fun k=>⟨[(0,.ro 3 (xs.map eM) .any),(1,.ro 3 (ys.map eM) .any),(12,.int .i64 xs.length),(13,.int .i64 k)],[]⟩) (fun k=>k≤xs.length∧xs.take k=ys.take k) (fun k=>xs.length-k) 0 aL ⟨Nat.zero_le _,rfl⟩ ?_;rintro k ⟨hk,ht⟩;refine jR ?_;refine aB rfl (fun g4=> ?_) (fun g4=> ?_)
 ·have hlt:k<xs.length:=by simp at g4;omega
  obtain⟨x,hx⟩:∃x,xs[k]? =some x:=⟨_,List.getElem?_eq_getElem hlt⟩
  obtain⟨y,hy⟩:∃y,ys[k]? =some y:=⟨_,List.getElem?_eq_getElem (by omega)⟩
  have hox1:=hox x (List.mem_of_getElem? hx);have hoy1:=hoy y (List.mem_of_getElem? hy);refine fA ?_;refine fM [(0,true),(1,true),(2,true),(3,true),(4,true),(5,true),(6,true),(7,true),(8,true)] ?_;refine zH ?_;refine xB ?_;refine zH ?_;refine xB ?_;refine fI rfl (YA hox1 hoy1 (E rfl) (E rfl)) rfl ?_;refine lF ?_;refine aB rfl (fun g6=> ?_) (fun g6=> ?_)
  ·have hne:x≠y:=by intro e;subst e;simp at g6
   have hE:decide (xs=ys)=false:=decide_eq_false (by rintro rfl;rw[hx]at hy;exact hne (Option.some.inj hy));refine bM ?_;exact aE aF ⟨by rw[hE];rfl,rfl⟩ aA
  refine mP ?_;have hxy:x=y:=by first|simpa using g6|(simp at g6;omega)
  refine⟨k+1,⟨hlt,by rw[List.take_add_one,List.take_add_one,ht,hx,hy,hxy]⟩,by show xs.length-(k+1)<xs.length-k;omega, ?_⟩;exact aL
 have hE:decide (xs=ys)=true:=decide_eq_true (by simp at g4;rwa [List.take_of_length_le (by omega),List.take_of_length_le (by omega)]at ht);refine bM ?_;exact aE aF ⟨by rw[hE];rfl,rfl⟩ aA
theorem aJe(xs ys:List Ex)(hox:∀x∈xs,(fun x:Ex=>lC x.nm) x)(hoy:∀y∈ys,(fun x:Ex=>lC x.nm) y):SCall Tryz.prog 128 [.ro 2 (xs.map eA) .any,.ro 2 (ys.map eA) .any] [] (fun r σ=>r=.bool (decide (xs=ys))∧σ=[]):=by
 refine cF 26 [0,1,4,5,10,12,13,14,24] Tryz.func128 ?_;refine hY (i:=0) rfl fun hm=> ?_
 rw[List.length_map]at hm;unfold maxLen at hm;refine uD ?_;refine kU ?_;refine lX ?_;refine aB rfl (fun g1=> ?_) (fun g1=> ?_)
 ·have hE:decide (xs=ys)=false:=decide_eq_false (by rintro rfl;simp at g1);refine bM ?_;exact aE aF ⟨by rw[hE];rfl,rfl⟩ aA
 have hl:xs.length=ys.length:=by simp at g1;omega
 refine dM ?_;refine oH ?_;refine lp (β:=Nat) (fun k=>⟨[(0,.ro 2 (xs.map eA) .any),(1,.ro 2 (ys.map eA) .any),(12,.int .i64 xs.length),(13,.int .i64 k)],[]⟩) (fun k=>k≤xs.length∧xs.take k=ys.take k) (fun k=>xs.length-k) 0 aL ⟨Nat.zero_le _,rfl⟩ ?_;rintro k ⟨hk,ht⟩;refine jR ?_;refine aB rfl (fun g4=> ?_) (fun g4=> ?_)
 ·have hlt:k<xs.length:=by simp at g4;omega
  obtain⟨x,hx⟩:∃x,xs[k]? =some x:=⟨_,List.getElem?_eq_getElem hlt⟩
  obtain⟨y,hy⟩:∃y,ys[k]? =some y:=⟨_,List.getElem?_eq_getElem (by omega)⟩
  have hox1:=hox x (List.mem_of_getElem? hx);have hoy1:=hoy y (List.mem_of_getElem? hy);refine fA ?_;refine fM [(0,true),(1,true),(2,true),(3,true),(4,true),(5,true),(6,true),(7,true),(8,true)] ?_;refine zH ?_;refine xB ?_;refine zH ?_;refine xB ?_;refine fI rfl (YB hox1 hoy1 (E rfl) (E rfl)) rfl ?_;refine lF ?_;refine aB rfl (fun g6=> ?_) (fun g6=> ?_)
  ·have hne:x≠y:=by intro e;subst e;simp at g6
   have hE:decide (xs=ys)=false:=decide_eq_false (by rintro rfl;rw[hx]at hy;exact hne (Option.some.inj hy));refine bM ?_;exact aE aF ⟨by rw[hE];rfl,rfl⟩ aA
  refine mP ?_;have hxy:x=y:=by first|simpa using g6|(simp at g6;omega)
  refine⟨k+1,⟨hlt,by rw[List.take_add_one,List.take_add_one,ht,hx,hy,hxy]⟩,by show xs.length-(k+1)<xs.length-k;omega, ?_⟩;exact aL
 have hE:decide (xs=ys)=true:=decide_eq_true (by simp at g4;rwa [List.take_of_length_le (by omega),List.take_of_length_le (by omega)]at ht);refine bM ?_;exact aE aF ⟨by rw[hE];rfl,rfl⟩ aA
theorem aJf(xs ys:List Gl)(hox:∀x∈xs,(fun _:Gl=>True) x)(hoy:∀y∈ys,(fun _:Gl=>True) y):SCall Tryz.prog 127 [.ro 3 (xs.map dZ) .any,.ro 3 (ys.map dZ) .any] [] (fun r σ=>r=.bool (decide (xs=ys))∧σ=[]):=by
 refine cF 26 [0,1,4,5,10,12,13,14,24] Tryz.func127 ?_;refine hY (i:=0) rfl fun hm=> ?_
 rw[List.length_map]at hm;unfold maxLen at hm;refine uD ?_;refine kU ?_;refine lX ?_;refine aB rfl (fun g1=> ?_) (fun g1=> ?_)
 ·have hE:decide (xs=ys)=false:=decide_eq_false (by rintro rfl;simp at g1);refine bM ?_;exact aE aF ⟨by rw[hE];rfl,rfl⟩ aA
 have hl:xs.length=ys.length:=by simp at g1;omega
 refine dM ?_;refine oH ?_;refine lp (β:=Nat) (fun k=>⟨[(0,.ro 3 (xs.map dZ) .any),(1,.ro 3 (ys.map dZ) .any),(12,.int .i64 xs.length),(13,.int .i64 k)],[]⟩) (fun k=>k≤xs.length∧xs.take k=ys.take k) (fun k=>xs.length-k) 0 aL ⟨Nat.zero_le _,rfl⟩ ?_;rintro k ⟨hk,ht⟩;refine jR ?_;refine aB rfl (fun g4=> ?_) (fun g4=> ?_)
 ·have hlt:k<xs.length:=by simp at g4;omega
  obtain⟨x,hx⟩:∃x,xs[k]? =some x:=⟨_,List.getElem?_eq_getElem hlt⟩
  obtain⟨y,hy⟩:∃y,ys[k]? =some y:=⟨_,List.getElem?_eq_getElem (by omega)⟩
  have hox1:=hox x (List.mem_of_getElem? hx);have hoy1:=hoy y (List.mem_of_getElem? hy);refine fA ?_;refine fM [(0,true),(1,true),(2,true),(3,true),(4,true),(5,true),(6,true),(7,true),(8,true)] ?_;refine zH ?_;refine xB ?_;refine zH ?_;refine xB ?_;refine fI rfl (YC (E rfl) (E rfl)) rfl ?_;refine lF ?_;refine aB rfl (fun g6=> ?_) (fun g6=> ?_)
  ·have hne:x≠y:=by intro e;subst e;simp at g6
   have hE:decide (xs=ys)=false:=decide_eq_false (by rintro rfl;rw[hx]at hy;exact hne (Option.some.inj hy));refine bM ?_;exact aE aF ⟨by rw[hE];rfl,rfl⟩ aA
  refine mP ?_;have hxy:x=y:=by first|simpa using g6|(simp at g6;omega)
  refine⟨k+1,⟨hlt,by rw[List.take_add_one,List.take_add_one,ht,hx,hy,hxy]⟩,by show xs.length-(k+1)<xs.length-k;omega, ?_⟩;exact aL
 have hE:decide (xs=ys)=true:=decide_eq_true (by simp at g4;rwa [List.take_of_length_le (by omega),List.take_of_length_le (by omega)]at ht);refine bM ?_;exact aE aF ⟨by rw[hE];rfl,rfl⟩ aA
theorem aJg(xs ys:List Nat)(hox:∀x∈xs,(fun _:Nat=>True) x)(hoy:∀y∈ys,(fun _:Nat=>True) y):SCall Tryz.prog 125 [.ro 1 (xs.map aG) .any,.ro 1 (ys.map aG) .any] [] (fun r σ=>r=.bool (decide (xs=ys))∧σ=[]):=by
 refine cF 26 [0,1,4,5,10,12,13,14,24] Tryz.func125 ?_;refine hY (i:=0) rfl fun hm=> ?_
 rw[List.length_map]at hm;unfold maxLen at hm;refine uD ?_;refine kU ?_;refine lX ?_;refine aB rfl (fun g1=> ?_) (fun g1=> ?_)
 ·have hE:decide (xs=ys)=false:=decide_eq_false (by rintro rfl;simp at g1);refine bM ?_;exact aE aF ⟨by rw[hE];rfl,rfl⟩ aA
 have hl:xs.length=ys.length:=by simp at g1;omega
 refine dM ?_;refine oH ?_;refine lp (β:=Nat) (fun k=>⟨[(0,.ro 1 (xs.map aG) .any),(1,.ro 1 (ys.map aG) .any),(12,.int .i64 xs.length),(13,.int .i64 k)],[]⟩) (fun k=>k≤xs.length∧xs.take k=ys.take k) (fun k=>xs.length-k) 0 aL ⟨Nat.zero_le _,rfl⟩ ?_;rintro k ⟨hk,ht⟩;refine jR ?_;refine aB rfl (fun g4=> ?_) (fun g4=> ?_)
 ·have hlt:k<xs.length:=by simp at g4;omega
  obtain⟨x,hx⟩:∃x,xs[k]? =some x:=⟨_,List.getElem?_eq_getElem hlt⟩
  obtain⟨y,hy⟩:∃y,ys[k]? =some y:=⟨_,List.getElem?_eq_getElem (by omega)⟩
  have hox1:=hox x (List.mem_of_getElem? hx);have hoy1:=hoy y (List.mem_of_getElem? hy);refine fA ?_;refine fM [(0,true),(1,true),(2,true),(3,true),(4,true),(5,true),(6,true),(7,true),(8,true)] ?_;refine zH ?_;refine WR ?_;refine zH ?_;refine WR ?_;refine z58 ?_;refine lF ?_;refine aB rfl (fun g6=> ?_) (fun g6=> ?_)
  ·have hz:True:=True.intro;have hne:x≠y:=by intro e;subst e;simp at g6
   have hE:decide (xs=ys)=false:=decide_eq_false (by rintro rfl;rw[hx]at hy;exact hne (Option.some.inj hy));refine bM ?_;exact aE aF ⟨by rw[hE];rfl,rfl⟩ aA
  refine mP ?_;have hxy:x=y:=by first|simpa using g6|(simp at g6;omega)
  refine⟨k+1,⟨hlt,by rw[List.take_add_one,List.take_add_one,ht,hx,hy,hxy]⟩,by show xs.length-(k+1)<xs.length-k;omega, ?_⟩;exact aL
 have hE:decide (xs=ys)=true:=decide_eq_true (by simp at g4;rwa [List.take_of_length_le (by omega),List.take_of_length_le (by omega)]at ht);refine bM ?_;exact aE aF ⟨by rw[hE];rfl,rfl⟩ aA
theorem aJh{f:FuncId}{ok:FT→Prop}(hf:(∀args w,(callFunc f args).run Tryz.prog w=.ok (.enter f args) w)∧∀x y,ok x→ok y→SCall Tryz.prog f ([]++ [.agg (dD x),.agg (dD y)]++ []) [] (fun r σ=>r=.bool (decide (x=y))∧σ=[]))(xs ys:List FT)(hox:∀x∈xs,ok x)(hoy:∀y∈ys,ok y):SCall Tryz.prog 114 [.ro 2 (xs.map dD) .any,.ro 2 (ys.map dD) .any,.fn (.func f) [] []] [] (fun r σ=>r=.bool (decide (xs=ys))∧σ=[]):=by
 refine cF 32 [0,1,2,6,7,8,9,14,15,16,17,18,30] Tryz.func114 ?_;refine hY (i:=0) rfl fun hm=> ?_
 rw[List.length_map]at hm;unfold maxLen at hm;refine uD ?_;refine kU ?_;refine lX ?_;refine aB rfl (fun g1=> ?_) (fun g1=> ?_)
 ·have hE:decide (xs=ys)=false:=decide_eq_false (by rintro rfl;simp at g1);refine bM ?_;exact aE aF ⟨by rw[hE];rfl,rfl⟩ aA
 have hl:xs.length=ys.length:=by simp at g1;omega
 refine dM ?_;refine oH ?_;refine lp (β:=Nat) (fun k=>⟨[(1,.ro 2 (ys.map dD) .any),(2,.fn (.func f) [] []),(15,.ro 2 (xs.map dD) .any),(16,.int .i64 xs.length),(17,.int .i64 k)],[]⟩) (fun k=>k≤xs.length∧xs.take k=ys.take k) (fun k=>xs.length-k) 0 aL ⟨Nat.zero_le _,rfl⟩ ?_;rintro k ⟨hk,ht⟩;refine jR ?_;refine aB rfl (fun g4=> ?_) (fun g4=> ?_)
 ·have hlt:k<xs.length:=by simp at g4;omega
  obtain⟨x,hx⟩:∃x,xs[k]? =some x:=⟨_,List.getElem?_eq_getElem hlt⟩
  obtain⟨y,hy⟩:∃y,ys[k]? =some y:=⟨_,List.getElem?_eq_getElem (by omega)⟩
  refine dM ?_;refine qX ?_;refine jU fun r8 h8=> ?_;intros
  refine TQ ?_;refine qX ?_;refine jU fun r9 h9=> ?_;intros
  refine pD ?_;refine oS ?_;refine oS ?_;refine qY [] rfl hf.1 (hf.2 x y (hox x (List.mem_of_getElem? hx)) (hoy y (List.mem_of_getElem? hy))) rfl aC aA ?_;rintro _ σ' ⟨rfl,rfl⟩ h29;apply aY;exact bN;refine qV ?_;refine aB rfl (fun g7=> ?_) (fun g7=> ?_)
  ·have hne:x≠y:=by simpa using g7
   have hE:decide (xs=ys)=false:=decide_eq_false (by rintro rfl;rw[hx]at hy;exact hne (Option.some.inj hy));refine bM ?_;exact aE aF ⟨by rw[hE];rfl,rfl⟩ aA
  refine mP ?_;have hxy:x=y:=by simpa using g7
  refine⟨k+1,⟨hlt,by rw[List.take_add_one,List.take_add_one,ht,hx,hy,hxy]⟩,by show xs.length-(k+1)<xs.length-k;omega, ?_⟩;exact aL
 have hE:decide (xs=ys)=true:=decide_eq_true (by simp at g4;rwa [List.take_of_length_le (by omega),List.take_of_length_le (by omega)]at ht);refine bM ?_;exact aE aF ⟨by rw[hE];rfl,rfl⟩ aA
theorem aJi{f:FuncId}{ok:El→Prop}(hf:(∀args w,(callFunc f args).run Tryz.prog w=.ok (.enter f args) w)∧∀x y,ok x→ok y→SCall Tryz.prog f ([]++ [.agg (dY x),.agg (dY y)]++ []) [] (fun r σ=>r=.bool (decide (x=y))∧σ=[]))(xs ys:List El)(hox:∀x∈xs,ok x)(hoy:∀y∈ys,ok y):SCall Tryz.prog 117 [.ro 2 (xs.map dY) .any,.ro 2 (ys.map dY) .any,.fn (.func f) [] []] [] (fun r σ=>r=.bool (decide (xs=ys))∧σ=[]):=by
 refine cF 32 [0,1,2,6,7,8,9,14,15,16,17,18,30] Tryz.func117 ?_;refine hY (i:=0) rfl fun hm=> ?_
 rw[List.length_map]at hm;unfold maxLen at hm;refine uD ?_;refine kU ?_;refine lX ?_;refine aB rfl (fun g1=> ?_) (fun g1=> ?_)
 ·have hE:decide (xs=ys)=false:=decide_eq_false (by rintro rfl;simp at g1);refine bM ?_;exact aE aF ⟨by rw[hE];rfl,rfl⟩ aA
 have hl:xs.length=ys.length:=by simp at g1;omega
 refine dM ?_;refine oH ?_;refine lp (β:=Nat) (fun k=>⟨[(1,.ro 2 (ys.map dY) .any),(2,.fn (.func f) [] []),(15,.ro 2 (xs.map dY) .any),(16,.int .i64 xs.length),(17,.int .i64 k)],[]⟩) (fun k=>k≤xs.length∧xs.take k=ys.take k) (fun k=>xs.length-k) 0 aL ⟨Nat.zero_le _,rfl⟩ ?_;rintro k ⟨hk,ht⟩;refine jR ?_;refine aB rfl (fun g4=> ?_) (fun g4=> ?_)
 ·have hlt:k<xs.length:=by simp at g4;omega
  obtain⟨x,hx⟩:∃x,xs[k]? =some x:=⟨_,List.getElem?_eq_getElem hlt⟩
  obtain⟨y,hy⟩:∃y,ys[k]? =some y:=⟨_,List.getElem?_eq_getElem (by omega)⟩
  refine dM ?_;refine qX ?_;refine jU fun r8 h8=> ?_;intros
  refine TQ ?_;refine qX ?_;refine jU fun r9 h9=> ?_;intros
  refine pD ?_;refine oS ?_;refine oS ?_;refine qY [] rfl hf.1 (hf.2 x y (hox x (List.mem_of_getElem? hx)) (hoy y (List.mem_of_getElem? hy))) rfl aC aA ?_;rintro _ σ' ⟨rfl,rfl⟩ h29;apply aY;exact bN;refine qV ?_;refine aB rfl (fun g7=> ?_) (fun g7=> ?_)
  ·have hne:x≠y:=by simpa using g7
   have hE:decide (xs=ys)=false:=decide_eq_false (by rintro rfl;rw[hx]at hy;exact hne (Option.some.inj hy));refine bM ?_;exact aE aF ⟨by rw[hE];rfl,rfl⟩ aA
  refine mP ?_;have hxy:x=y:=by simpa using g7
  refine⟨k+1,⟨hlt,by rw[List.take_add_one,List.take_add_one,ht,hx,hy,hxy]⟩,by show xs.length-(k+1)<xs.length-k;omega, ?_⟩;exact aL
 have hE:decide (xs=ys)=true:=decide_eq_true (by simp at g4;rwa [List.take_of_length_le (by omega),List.take_of_length_le (by omega)]at ht);refine bM ?_;exact aE aF ⟨by rw[hE];rfl,rfl⟩ aA
theorem aJj{f:FuncId}{ok:Co→Prop}(hf:(∀args w,(callFunc f args).run Tryz.prog w=.ok (.enter f args) w)∧∀x y,ok x→ok y→SCall Tryz.prog f ([]++ [.agg (dA x),.agg (dA y)]++ []) [] (fun r σ=>r=.bool (decide (x=y))∧σ=[]))(xs ys:List Co)(hox:∀x∈xs,ok x)(hoy:∀y∈ys,ok y):SCall Tryz.prog 119 [.ro 2 (xs.map dA) .any,.ro 2 (ys.map dA) .any,.fn (.func f) [] []] [] (fun r σ=>r=.bool (decide (xs=ys))∧σ=[]):=by
 refine cF 32 [0,1,2,6,7,8,9,14,15,16,17,18,30] Tryz.func119 ?_;refine hY (i:=0) rfl fun hm=> ?_
 rw[List.length_map]at hm;unfold maxLen at hm;refine uD ?_;refine kU ?_;refine lX ?_;refine aB rfl (fun g1=> ?_) (fun g1=> ?_)
 ·have hE:decide (xs=ys)=false:=decide_eq_false (by rintro rfl;simp at g1);refine bM ?_;exact aE aF ⟨by rw[hE];rfl,rfl⟩ aA
 have hl:xs.length=ys.length:=by simp at g1;omega
 refine dM ?_;refine oH ?_;refine lp (β:=Nat) (fun k=>⟨[(1,.ro 2 (ys.map dA) .any),(2,.fn (.func f) [] []),(15,.ro 2 (xs.map dA) .any),(16,.int .i64 xs.length),(17,.int .i64 k)],[]⟩) (fun k=>k≤xs.length∧xs.take k=ys.take k) (fun k=>xs.length-k) 0 aL ⟨Nat.zero_le _,rfl⟩ ?_;rintro k ⟨hk,ht⟩;refine jR ?_;refine aB rfl (fun g4=> ?_) (fun g4=> ?_)
 ·have hlt:k<xs.length:=by simp at g4;omega
  obtain⟨x,hx⟩:∃x,xs[k]? =some x:=⟨_,List.getElem?_eq_getElem hlt⟩
  obtain⟨y,hy⟩:∃y,ys[k]? =some y:=⟨_,List.getElem?_eq_getElem (by omega)⟩
  refine dM ?_;refine qX ?_;refine jU fun r8 h8=> ?_;intros
  refine TQ ?_;refine qX ?_;refine jU fun r9 h9=> ?_;intros
  refine pD ?_;refine oS ?_;refine oS ?_;refine qY [] rfl hf.1 (hf.2 x y (hox x (List.mem_of_getElem? hx)) (hoy y (List.mem_of_getElem? hy))) rfl aC aA ?_;rintro _ σ' ⟨rfl,rfl⟩ h29;apply aY;exact bN;refine qV ?_;refine aB rfl (fun g7=> ?_) (fun g7=> ?_)
  ·have hne:x≠y:=by simpa using g7
   have hE:decide (xs=ys)=false:=decide_eq_false (by rintro rfl;rw[hx]at hy;exact hne (Option.some.inj hy));refine bM ?_;exact aE aF ⟨by rw[hE];rfl,rfl⟩ aA
  refine mP ?_;have hxy:x=y:=by simpa using g7
  refine⟨k+1,⟨hlt,by rw[List.take_add_one,List.take_add_one,ht,hx,hy,hxy]⟩,by show xs.length-(k+1)<xs.length-k;omega, ?_⟩;exact aL
 have hE:decide (xs=ys)=true:=decide_eq_true (by simp at g4;rwa [List.take_of_length_le (by omega),List.take_of_length_le (by omega)]at ht);refine bM ?_;exact aE aF ⟨by rw[hE];rfl,rfl⟩ aA
theorem aJk{f:FuncId}{ok:Da→Prop}(hf:(∀args w,(callFunc f args).run Tryz.prog w=.ok (.enter f args) w)∧∀x y,ok x→ok y→SCall Tryz.prog f ([]++ [.agg (eB x),.agg (eB y)]++ []) [] (fun r σ=>r=.bool (decide (x=y))∧σ=[]))(xs ys:List Da)(hox:∀x∈xs,ok x)(hoy:∀y∈ys,ok y):SCall Tryz.prog 123 [.ro 2 (xs.map eB) .any,.ro 2 (ys.map eB) .any,.fn (.func f) [] []] [] (fun r σ=>r=.bool (decide (xs=ys))∧σ=[]):=by
 refine cF 32 [0,1,2,6,7,8,9,14,15,16,17,18,30] Tryz.func123 ?_;refine hY (i:=0) rfl fun hm=> ?_
 rw[List.length_map]at hm;unfold maxLen at hm;refine uD ?_;refine kU ?_;refine lX ?_;refine aB rfl (fun g1=> ?_) (fun g1=> ?_)
 ·have hE:decide (xs=ys)=false:=decide_eq_false (by rintro rfl;simp at g1);refine bM ?_;exact aE aF ⟨by rw[hE];rfl,rfl⟩ aA
 have hl:xs.length=ys.length:=by simp at g1;omega
 refine dM ?_;refine oH ?_;refine lp (β:=Nat) (fun k=>⟨[(1,.ro 2 (ys.map eB) .any),(2,.fn (.func f) [] []),(15,.ro 2 (xs.map eB) .any),(16,.int .i64 xs.length),(17,.int .i64 k)],[]⟩) (fun k=>k≤xs.length∧xs.take k=ys.take k) (fun k=>xs.length-k) 0 aL ⟨Nat.zero_le _,rfl⟩ ?_;rintro k ⟨hk,ht⟩;refine jR ?_;refine aB rfl (fun g4=> ?_) (fun g4=> ?_)
 ·have hlt:k<xs.length:=by simp at g4;omega
  obtain⟨x,hx⟩:∃x,xs[k]? =some x:=⟨_,List.getElem?_eq_getElem hlt⟩
  obtain⟨y,hy⟩:∃y,ys[k]? =some y:=⟨_,List.getElem?_eq_getElem (by omega)⟩
  refine dM ?_;refine qX ?_;refine jU fun r8 h8=> ?_;intros
  refine TQ ?_;refine qX ?_;refine jU fun r9 h9=> ?_;intros
  refine pD ?_;refine oS ?_;refine oS ?_;refine qY [] rfl hf.1 (hf.2 x y (hox x (List.mem_of_getElem? hx)) (hoy y (List.mem_of_getElem? hy))) rfl aC aA ?_;rintro _ σ' ⟨rfl,rfl⟩ h29;apply aY;exact bN;refine qV ?_;refine aB rfl (fun g7=> ?_) (fun g7=> ?_)
  ·have hne:x≠y:=by simpa using g7
   have hE:decide (xs=ys)=false:=decide_eq_false (by rintro rfl;rw[hx]at hy;exact hne (Option.some.inj hy));refine bM ?_;exact aE aF ⟨by rw[hE];rfl,rfl⟩ aA
  refine mP ?_;have hxy:x=y:=by simpa using g7
  refine⟨k+1,⟨hlt,by rw[List.take_add_one,List.take_add_one,ht,hx,hy,hxy]⟩,by show xs.length-(k+1)<xs.length-k;omega, ?_⟩;exact aL
 have hE:decide (xs=ys)=true:=decide_eq_true (by simp at g4;rwa [List.take_of_length_le (by omega),List.take_of_length_le (by omega)]at ht);refine bM ?_;exact aE aF ⟨by rw[hE];rfl,rfl⟩ aA
theorem aFZ{f:FuncId}{ok:Ins→Prop}(hf:(∀args w,(callFunc f args).run Tryz.prog w=.ok (.enter f args) w)∧∀x y,ok x→ok y→SCall Tryz.prog f ([]++ [.agg ((iv .any) x),.agg ((iv .any) y)]++ []) [] (fun r σ=>r=.bool (decide (x=y))∧σ=[]))(xs ys:List Ins)(hox:∀x∈xs,ok x)(hoy:∀y∈ys,ok y):SCall Tryz.prog 121 [.ro 4 (xs.map (iv .any)) .any,.ro 4 (ys.map (iv .any)) .any,.fn (.func f) [] []] [] (fun r σ=>r=.bool (decide (xs=ys))∧σ=[]):=by
 refine cF 32 [0,1,2,6,7,8,9,14,15,16,17,18,30] Tryz.func121 ?_;refine hY (i:=0) rfl fun hm=> ?_
 rw[List.length_map]at hm;unfold maxLen at hm;refine uD ?_;refine kU ?_;refine lX ?_;refine aB rfl (fun g1=> ?_) (fun g1=> ?_)
 ·have hE:decide (xs=ys)=false:=decide_eq_false (by rintro rfl;simp at g1);refine bM ?_;exact aE aF ⟨by rw[hE];rfl,rfl⟩ aA
 have hl:xs.length=ys.length:=by simp at g1;omega
 refine dM ?_;refine oH ?_;refine lp (β:=Nat) (fun k=>⟨[(1,.ro 4 (ys.map (iv .any)) .any),(2,.fn (.func f) [] []),(15,.ro 4 (xs.map (iv .any)) .any),(16,.int .i64 xs.length),(17,.int .i64 k)],[]⟩) (fun k=>k≤xs.length∧xs.take k=ys.take k) (fun k=>xs.length-k) 0 aL ⟨Nat.zero_le _,rfl⟩ ?_;rintro k ⟨hk,ht⟩;refine jR ?_;refine aB rfl (fun g4=> ?_) (fun g4=> ?_)
 ·have hlt:k<xs.length:=by simp at g4;omega
  obtain⟨x,hx⟩:∃x,xs[k]? =some x:=⟨_,List.getElem?_eq_getElem hlt⟩
  obtain⟨y,hy⟩:∃y,ys[k]? =some y:=⟨_,List.getElem?_eq_getElem (by omega)⟩
  refine dM ?_;refine qX ?_;refine jU fun r8 h8=> ?_;intros
  refine TQ ?_;refine qX ?_;refine jU fun r9 h9=> ?_;intros
  refine pD ?_;refine oS ?_;refine oS ?_;refine qY [] rfl hf.1 (hf.2 x y (hox x (List.mem_of_getElem? hx)) (hoy y (List.mem_of_getElem? hy))) rfl aC aA ?_;rintro _ σ' ⟨rfl,rfl⟩ h29;apply aY;exact bN;refine qV ?_;refine aB rfl (fun g7=> ?_) (fun g7=> ?_)
  ·have hne:x≠y:=by simpa using g7
   have hE:decide (xs=ys)=false:=decide_eq_false (by rintro rfl;rw[hx]at hy;exact hne (Option.some.inj hy));refine bM ?_;exact aE aF ⟨by rw[hE];rfl,rfl⟩ aA
  refine mP ?_;have hxy:x=y:=by simpa using g7
  refine⟨k+1,⟨hlt,by rw[List.take_add_one,List.take_add_one,ht,hx,hy,hxy]⟩,by show xs.length-(k+1)<xs.length-k;omega, ?_⟩;exact aL
 have hE:decide (xs=ys)=true:=decide_eq_true (by simp at g4;rwa [List.take_of_length_le (by omega),List.take_of_length_le (by omega)]at ht);refine bM ?_;exact aE aF ⟨by rw[hE];rfl,rfl⟩ aA
end Go.Proofs.YtjpdadobblffmaaGreat
namespace Go.Proofs.YtjpdadobblffmaaGreat
open Go.RowKit Go.ChangeShapes Go.WideShapes Go.ChangeAt Go.Deep
attribute [local irreducible] SW RS RD fG eH
def eqM (a b:Md):Bool:=decide (a.ty=b.ty)&&decide (a.el=b.el)&&decide (a.co=b.co)&&decide (a.da=b.da)&&decide (a.im=b.im)&&decide (a.fn=b.fn)&&decide (a.tb=b.tb)&&decide (a.me=b.me)&&decide (a.gl=b.gl)&&decide (a.ex=b.ex)
theorem aF0{a b:Md}:eqM a b=true↔a=b:=by
 unfold eqM;simp only[Bool.and_eq_true,decide_eq_true_eq];constructor
 ·rintro⟨⟨⟨⟨⟨⟨⟨⟨⟨h1,h2⟩,h3⟩,h4⟩,h5⟩,h6⟩,h7⟩,h8⟩,h9⟩,h10⟩;cases a;cases b;simp_all
 ·rintro rfl;simp
theorem aDo(a:Md):eqM a a=true:=aF0.2 rfl
theorem aF1(x y:Ins):eqN x y=decide (x=y):=by
 rw[Bool.eq_iff_iff,PQ,decide_eq_true_iff]
theorem aDp:(∀args w,(callFunc 122 args).run Tryz.prog w=.ok (.enter 122 args) w)∧∀x y:Ins,True→True→SCall Tryz.prog 122 ([]++ [.agg (iv .any x),.agg (iv .any y)]++ []) [] (fun r σ=>r=.bool (decide (x=y))∧σ=[]):=
 ⟨Tryz.call122,fun x y _ _=>by rw[←aF1];exact aCs .any .any x y⟩
theorem aF2:(∀args w,(callFunc 115 args).run Tryz.prog w=.ok (.enter 115 args) w)∧∀x y:FT,True→True→SCall Tryz.prog 115 ([]++ [.agg (dD x),.agg (dD y)]++ []) [] (fun r σ=>r=.bool (decide (x=y))∧σ=[]):=by
 refine⟨Tryz.call115,fun x y _ _=> ?_⟩;obtain⟨p1,v1⟩:=x;obtain⟨p2,v2⟩:=y;have hE:decide ((⟨p1,v1⟩:FT)=⟨p2,v2⟩)=if decide (p1=p2)=true then decide (v1=v2)else false:=by rw[nE,Bool.eq_iff_iff];simp
 refine cF 17 [0,1,2,3,4] Tryz.func115 ?_;unfold dD;refine dX ?_;refine iQ fun r2 h2=> ?_;intros
 refine iQ fun r3 h3=> ?_;intros
 refine iW ?_;refine fW ?_;refine oL Tryz.call116 (gV p1 p2) rfl aR bB ?_;refine oG ?_;refine nA ?_;refine lG rfl rfl Tryz.call116 (fun _=>(gV v1 v2)) rfl aR bB ?_;refine kL ?_;exact aE aF ⟨by rw[hE];rfl,rfl⟩ aA
theorem aF3:(∀args w,(callFunc 118 args).run Tryz.prog w=.ok (.enter 118 args) w)∧∀x y:El,True→True→SCall Tryz.prog 118 ([]++ [.agg (dY x),.agg (dY y)]++ []) [] (fun r σ=>r=.bool (decide (x=y))∧σ=[]):=by
 refine⟨Tryz.call118,fun x y _ _=> ?_⟩;obtain⟨p1,v1⟩:=x;obtain⟨p2,v2⟩:=y;have hE:decide ((⟨p1,v1⟩:El)=⟨p2,v2⟩)=if(p1==p2)=true then decide (v1=v2)else false:=by rw[nE,Bool.eq_iff_iff];simp
 refine cF 17 [0,1,2,3,4] Tryz.func118 ?_;unfold dY;refine dX ?_;refine iQ fun r2 h2=> ?_;intros
 refine iQ fun r3 h3=> ?_;intros
 refine iW ?_;refine fW ?_;refine CX ?_;refine nA ?_;refine lG rfl rfl Tryz.call116 (fun _=>(gV v1 v2)) rfl aR bB ?_;refine kL ?_;exact aE aF ⟨by rw[hE];rfl,rfl⟩ aA
theorem aF4:(∀args w,(callFunc 120 args).run Tryz.prog w=.ok (.enter 120 args) w)∧∀x y:Co,True→True→SCall Tryz.prog 120 ([]++ [.agg (dA x),.agg (dA y)]++ []) [] (fun r σ=>r=.bool (decide (x=y))∧σ=[]):=by
 refine⟨Tryz.call120,fun x y _ _=> ?_⟩;obtain⟨p1,v1⟩:=x;obtain⟨p2,v2⟩:=y;have hE:decide ((⟨p1,v1⟩:Co)=⟨p2,v2⟩)=if decide (p1=p2)=true then decide (v1=v2)else false:=by rw[nE,Bool.eq_iff_iff];simp
 refine cF 17 [0,1,2,3,4] Tryz.func120 ?_;unfold dA;refine dX ?_;refine iQ fun r2 h2=> ?_;intros
 refine iQ fun r3 h3=> ?_;intros
 refine iW ?_;refine fW ?_;refine oL Tryz.call116 (gV p1 p2) rfl aR bB ?_;refine oG ?_;refine nA ?_;refine lG rfl rfl Tryz.call121 (fun _=>(aFZ aDp v1 v2 (fun _ _=>True.intro) (fun _ _=>True.intro))) rfl aR bB ?_;refine kL ?_;exact aE aF ⟨by rw[hE];rfl,rfl⟩ aA
theorem aF5:(∀args w,(callFunc 124 args).run Tryz.prog w=.ok (.enter 124 args) w)∧∀x y:Da,True→True→SCall Tryz.prog 124 ([]++ [.agg (eB x),.agg (eB y)]++ []) [] (fun r σ=>r=.bool (decide (x=y))∧σ=[]):=by
 refine⟨Tryz.call124,fun x y _ _=> ?_⟩;obtain⟨p1,v1⟩:=x;obtain⟨p2,v2⟩:=y;have hE:decide ((⟨p1,v1⟩:Da)=⟨p2,v2⟩)=if(p1==p2)=true then decide (v1=v2)else false:=by rw[nE,Bool.eq_iff_iff];simp
 refine cF 17 [0,1,2,3,4] Tryz.func124 ?_;unfold eB;refine dX ?_;refine iQ fun r2 h2=> ?_;intros
 refine iQ fun r3 h3=> ?_;intros
 refine iW ?_;refine fW ?_;refine CX ?_;refine nA ?_;refine lG rfl rfl Tryz.call125 (fun _=>(aJg v1 v2 (fun _ _=>True.intro) (fun _ _=>True.intro))) rfl aR bB ?_;refine kL ?_;exact aE aF ⟨by rw[hE];rfl,rfl⟩ aA
theorem aAm(a c:Md)(ha:a.W)(hc:c.W):SCall Tryz.prog 52 [.agg (bR a),.agg (bR c)] [] (fun r σ=>r=.bool (eqM a c)∧σ=[]):=by
 obtain⟨a1,a2,-,-,-⟩:=ha;obtain⟨c1,c2,-,-,-⟩:=hc;obtain⟨ty,im,fn,tb,me,gl,ex,el,co,da⟩:=a;obtain⟨ty',im',fn',tb',me',gl',ex',el',co',da'⟩:=c;dsimp only at a1 a2 c1 c2;have hE:∀(a b c d e f g h i j:Bool),(if(if(if(if(if(if(if(if(if a=true then b else false)=true then c else false)=true then d else false)=true then e else false)=true then f else false)=true then g else false)=true then h else false)=true then i else false)=true then j else false)=(a&&b&&c&&d&&e&&f&&g&&h&&i&&j):=by
  intro a b c d e f g h i j;simp only[nE]
 refine cF 81 [0,1,2,3,4,5,6,7,8] Tryz.func52 ?_;unfold bR;dsimp only;refine dX ?_;refine iQ fun r2 h2=> ?_;intros
 refine iQ fun r3 h3=> ?_;intros
 refine iW ?_;refine fW ?_;refine oL Tryz.call114 (aJh aF2 ty ty' (fun _ _=>True.intro) (fun _ _=>True.intro)) rfl aR bB ?_;refine iW ?_;refine fW ?_;refine oL Tryz.call117 (aJi aF3 el el' (fun _ _=>True.intro) (fun _ _=>True.intro)) rfl aR bB ?_;refine iW ?_;refine fW ?_;refine oL Tryz.call119 (aJj aF4 co co' (fun _ _=>True.intro) (fun _ _=>True.intro)) rfl aR bB ?_;refine iW ?_;refine fW ?_;refine oL Tryz.call123 (aJk aF5 da da' (fun _ _=>True.intro) (fun _ _=>True.intro)) rfl aR bB ?_;refine lK ?_;refine pW ?_;refine rX ?_;refine jL ?_;refine rX ?_;refine jL ?_;refine rX ?_;refine oG ?_;refine nA ?_;refine lG rfl rfl Tryz.call126 (fun _=>(aJd im im' a1 c1)) rfl aR bB ?_;refine rX ?_;refine oG ?_;refine nA ?_;refine lG rfl rfl Tryz.call116 (fun _=>(gV fn fn')) rfl aR bB ?_;refine rX ?_;refine PB ?_;refine KL ?_;refine aEq ?_;refine KL ?_;refine lg rfl rfl (HR (a:=tb) (b:=tb') (W rfl id) (W rfl id)) rfl ?_;refine rX ?_;refine PB ?_;refine KL ?_;refine aEq ?_;refine KL ?_;refine lg rfl rfl (HR (a:=me) (b:=me') (W rfl id) (W rfl id)) rfl ?_;refine rX ?_;refine oG ?_;refine nA ?_;refine lG rfl rfl Tryz.call127 (fun _=>(aJf gl gl' (fun _ _=>True.intro) (fun _ _=>True.intro))) rfl aR bB ?_;refine rX ?_;refine oG ?_;refine nA ?_
 refine lG rfl rfl Tryz.call128 (fun _=>(aJe ex ex' a2 c2)) rfl aR bB ?_;refine kL ?_;exact aE aF ⟨by simp only[gU];rw[hE];rfl,rfl⟩ aA
end Go.Proofs.YtjpdadobblffmaaGreat
namespace Go.Proofs.YtjpdadobblffmaaGreat
open Go.RowKit Go.ChangeShapes Go.WideShapes Go.ChangeAt Go.Deep
section
variable {P : Program} {n : Nat} {ops : Array Oper} {fr : Fr} {σ : dS} {K : ASt → Prop} {listed : Array Bool} {todo : List (Nat × Bool)} {held : List (Nat × List Nat)}
theorem aLu{s s':ASt}(hgo:SGo s s')(h:RD P n ops listed todo held s' K):RD P n ops listed todo held s K:=by
 intro hsel hc M F N a w hr;obtain⟨M1,F1,N1,hr1,he1⟩:=hgo M F N n a w hr;refine jG (PostN.ext he1) (fun j g hg=> ?_) _ _ _ _ (h hsel hc M1 F1 N1 a w hr1);rcases hg with hg|⟨r,hr,hb⟩
 ·exact .inl (he1.ff g hg)
 ·refine .inr ⟨r,hr, ?_⟩;unfold cD at hb⊢;cases hm:M r with
  |none=>rw[hm]at hb;cases hb
  |some b=>rw[he1.mm r b hm];rw[hm]at hb;exact hb
theorem VL{j q:Nat}{v v':AV}{e:Ent}{σ':dS}(hx:dW fr j=some v)(hd:SDel σ q e σ')(hb:Bor σ [q] v v')(hK:RD P n ops listed todo held ⟨(j,v')::fr,σ'⟩ K):RD P n ops listed todo held ⟨fr,σ⟩ K:=aLu (PP hx hd hb) hK
end
end Go.Proofs.YtjpdadobblffmaaGreat
