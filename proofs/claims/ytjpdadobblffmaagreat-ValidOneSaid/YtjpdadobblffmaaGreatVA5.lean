import Derived.Test.YtjpdadobblffmaaGreatVA4
import Derived.ChangeKeysEq
import Derived.Laws.StructEq
set_option linter.unusedSimpArgs false
set_option linter.unusedVariables false
set_option maxRecDepth 100000
set_option maxHeartbeats 4000000
namespace Go.Proofs.YtjpdadobblffmaaGreat
open Go.RowKit Go.ChangeShapes Go.WideShapes Go.ChangeAt Go.Deep
attribute [local irreducible] SW RS RD fH eH
theorem wR(s:St):(gI s).1<4294967296:=by
 have:=(AL s.1).1;unfold gI;dsimp only;split<;>omega
structure Gets (P:Program) (f:FuncId) (us vs:List AV) (σ:St→dU) {α:Type} (ar:α→AV) (get:St→α×St):Prop where
 call:∀args w,(callFunc f args).run P w=.ok (.enter f args) w
 st:Kp get
 run:∀s,SOk s→SCall P f (us++ []++vs) (σ s) (fun y σ'=>y=ar (get s).1∧σ'=σ (get s).2)
theorem BD{f:FuncId}{us vs:List AV}{r:Nat}{get:St→Int×St}(hg:Gets Tryz.prog f us vs (fun s=>[(r,.box 117 (dJ s))]) (fun n=>.int .i64 n) get)(s:St)(hs:SOk s):SCall Tryz.prog 171 [.ptr r 0,.fn (.func f) us vs] [(r,.box 117 (dJ s))]
  (fun x σ=>∃q,Fresh q [(r,.box 117 (dJ s))]∧x=.own q 0 (fP get s).1.length∧σ=[(q,.arr 3 1 ((fP get s).1.map aR)),(r,.box 117 (dJ (fP get s).2))]):=by
 have h1:=jR r s hs;have k1:=iO s hs;have kb:=wR s;have hR:fP get s=kC get (gI s).1 (gI s).2:=rfl;generalize gI s=p at h1 k1 kb hR;obtain⟨n,s1⟩:=p;dsimp only at h1 k1 kb hR;refine cC 26 [0,1,4,5,6,17] Tryz.func171 ?_;refine nQ ?_;refine bX 5 3 1 (by decide) rfl (by decide) (bI fun q0 hq0=> ?_);repeat rcases hq0 with⟨_,hq0⟩
 refine eU ?_;refine cw [(r,.box 117 (dJ s))] Tryz.call68 h1 rfl aC aA ?_;rintro _ σ' ⟨rfl,rfl⟩ h8;refine eR ?_;refine lp (β:=Nat×Nat×St×List Int) (fun b=>⟨[(0,.ptr r 0),(1,.fn (.func f) us vs),(5,.own b.1 0 b.2.2.2.length),(6,.int .i64 (b.2.1:Nat))],[(b.1,.arr 3 1 (b.2.2.2.map aR)),(r,.box 117 (dJ b.2.2.1))]⟩) (fun b=>Fresh b.1 [(r,.box 117 (dJ s))]∧SOk b.2.2.1∧b.2.1+b.2.2.2.length≤4294967296∧fP get s=(b.2.2.2++(kC get b.2.1 b.2.2.1).1,(kC get b.2.1 b.2.2.1).2)) (fun b=>b.2.1) (q0,n,s1,[]) aJ ⟨uW,k1,by show n+0≤4294967296;omega,by rw[hR];rfl⟩ ?_;rintro⟨q1,m,⟨l2,b2⟩,acc⟩ ⟨hq1,hs2,hmb,hL⟩;dsimp only at hq1 hs2 hmb hL⊢;have hq2:=hq1;simp only[aP,aX,and_true]at hq2;repeat rcases hq2 with⟨_,hq2⟩
 unfold dJ;dsimp only;refine dO ?_;refine wD ?_;refine aB rfl (fun g3=> ?_) (fun g3=> ?_)
 ·obtain rfl:b2=false:=by cases b2 with|false=>rfl|true=>simp at g3
  obtain⟨m,rfl⟩:∃k,m=k+1:=⟨m-1,by simp at g3;omega⟩
  have hrun:=hg.run (l2,false) hs2;have hk:=hg.st (l2,false) hs2;have hl:kC get (m+1) (l2,false)=((get (l2,false)).1::(kC get m (get (l2,false)).2).1,(kC get m (get (l2,false)).2).2):=rfl;rw[hl]at hL;generalize get (l2,false)=p at hrun hk hL;obtain⟨x,s3⟩:=p;dsimp only at hrun hk hL;refine dF ?_;refine qE [(r,.box 117 (dJ (l2,false)))] rfl hg.call hrun rfl aC aA ?_;rintro _ σ' ⟨rfl,rfl⟩ h22;apply aZ;exact bN;refine eS fun r23 h23=> ?_;intros
  refine kI ((acc++ [x]).map aR) (acc++ [x]).length ?_;refine bL fun r24 h24=> ?_;intros
  refine iF ?_;refine sK ?_;rw[show((m+1:Nat):Int)-1=(m:Nat) by omega];refine cZ ?_;refine⟨(r24,m,s3,acc++ [x]),⟨uW,hk,by show m+(acc++ [x]).length≤4294967296;simp;omega,by rw[hL];simp⟩,Nat.lt_succ_self _, ?_⟩;dsimp only;exact aJ
 have hz:kC get m (l2,b2)=([],(l2,b2)):=by cases m with|zero=>rfl|succ m=>(cases b2 with|true=>rfl|false=>(simp at g3<;>omega))
 have hE:fP get s=(acc,(l2,b2)):=by rw[hL,hz];simp
 refine fF ?_;exact aD aE ⟨q1,hq1,by rw[hE];rfl,by rw[hE]⟩ aA
theorem aES{f:FuncId}{us vs:List AV}{r:Nat}{get:St→FT×St}(hg:Gets Tryz.prog f us vs (fun s=>[(r,.box 117 (dJ s))]) (fun x=>.agg (cP x)) get)(s:St)(hs:SOk s):SCall Tryz.prog 167 [.ptr r 0,.fn (.func f) us vs] [(r,.box 117 (dJ s))]
  (fun x σ=>∃q,Fresh q [(r,.box 117 (dJ s))]∧x=.own q 0 (fP get s).1.length∧σ=[(q,.arr 50 2 ((fP get s).1.map cP)),(r,.box 117 (dJ (fP get s).2))]):=by
 have h1:=jR r s hs;have k1:=iO s hs;have kb:=wR s;have hR:fP get s=kC get (gI s).1 (gI s).2:=rfl;generalize gI s=p at h1 k1 kb hR;obtain⟨n,s1⟩:=p;dsimp only at h1 k1 kb hR;refine cC 26 [0,1,4,5,6,17] Tryz.func167 ?_;refine nQ ?_;refine bX 5 50 2 (by decide) rfl (by decide) (bI fun q0 hq0=> ?_);repeat rcases hq0 with⟨_,hq0⟩
 refine eU ?_;refine cw [(r,.box 117 (dJ s))] Tryz.call68 h1 rfl aC aA ?_;rintro _ σ' ⟨rfl,rfl⟩ h8;refine eR ?_;refine lp (β:=Nat×Nat×St×List FT) (fun b=>⟨[(0,.ptr r 0),(1,.fn (.func f) us vs),(5,.own b.1 0 b.2.2.2.length),(6,.int .i64 (b.2.1:Nat))],[(b.1,.arr 50 2 (b.2.2.2.map cP)),(r,.box 117 (dJ b.2.2.1))]⟩) (fun b=>Fresh b.1 [(r,.box 117 (dJ s))]∧SOk b.2.2.1∧b.2.1+b.2.2.2.length≤4294967296∧fP get s=(b.2.2.2++(kC get b.2.1 b.2.2.1).1,(kC get b.2.1 b.2.2.1).2)) (fun b=>b.2.1) (q0,n,s1,[]) aJ ⟨uW,k1,by show n+0≤4294967296;omega,by rw[hR];rfl⟩ ?_;rintro⟨q1,m,⟨l2,b2⟩,acc⟩ ⟨hq1,hs2,hmb,hL⟩;dsimp only at hq1 hs2 hmb hL⊢;have hq2:=hq1;simp only[aP,aX,and_true]at hq2;repeat rcases hq2 with⟨_,hq2⟩
 unfold dJ;dsimp only;refine dO ?_;refine wD ?_;refine aB rfl (fun g3=> ?_) (fun g3=> ?_)
 ·obtain rfl:b2=false:=by cases b2 with|false=>rfl|true=>simp at g3
  obtain⟨m,rfl⟩:∃k,m=k+1:=⟨m-1,by simp at g3;omega⟩
  have hrun:=hg.run (l2,false) hs2;have hk:=hg.st (l2,false) hs2;have hl:kC get (m+1) (l2,false)=((get (l2,false)).1::(kC get m (get (l2,false)).2).1,(kC get m (get (l2,false)).2).2):=rfl;rw[hl]at hL;generalize get (l2,false)=p at hrun hk hL;obtain⟨x,s3⟩:=p;dsimp only at hrun hk hL;refine dF ?_;refine qE [(r,.box 117 (dJ (l2,false)))] rfl hg.call hrun rfl aC aA ?_;rintro _ σ' ⟨rfl,rfl⟩ h22;apply aZ;exact bN;refine eS fun r23 h23=> ?_;intros
  refine kI ((acc++ [x]).map cP) (acc++ [x]).length ?_;refine bL fun r24 h24=> ?_;intros
  refine iF ?_;refine sK ?_;rw[show((m+1:Nat):Int)-1=(m:Nat) by omega];refine cZ ?_;refine⟨(r24,m,s3,acc++ [x]),⟨uW,hk,by show m+(acc++ [x]).length≤4294967296;simp;omega,by rw[hL];simp⟩,Nat.lt_succ_self _, ?_⟩;dsimp only;exact aJ
 have hz:kC get m (l2,b2)=([],(l2,b2)):=by cases m with|zero=>rfl|succ m=>(cases b2 with|true=>rfl|false=>(simp at g3<;>omega))
 have hE:fP get s=(acc,(l2,b2)):=by rw[hL,hz];simp
 refine fF ?_;exact aD aE ⟨q1,hq1,by rw[hE];rfl,by rw[hE]⟩ aA
theorem aET{f:FuncId}{us vs:List AV}{r:Nat}{get:St→Im×St}(hg:Gets Tryz.prog f us vs (fun s=>[(r,.box 117 (dJ s))]) (fun x=>.agg (eE x)) get)(s:St)(hs:SOk s):SCall Tryz.prog 169 [.ptr r 0,.fn (.func f) us vs] [(r,.box 117 (dJ s))]
  (fun x σ=>∃q,Fresh q [(r,.box 117 (dJ s))]∧x=.own q 0 (fP get s).1.length∧σ=[(q,.arr 64 3 ((fP get s).1.map eE)),(r,.box 117 (dJ (fP get s).2))]):=by
 have h1:=jR r s hs;have k1:=iO s hs;have kb:=wR s;have hR:fP get s=kC get (gI s).1 (gI s).2:=rfl;generalize gI s=p at h1 k1 kb hR;obtain⟨n,s1⟩:=p;dsimp only at h1 k1 kb hR;refine cC 26 [0,1,4,5,6,17] Tryz.func169 ?_;refine nQ ?_;refine bX 5 64 3 (by decide) rfl (by decide) (bI fun q0 hq0=> ?_);repeat rcases hq0 with⟨_,hq0⟩
 refine eU ?_;refine cw [(r,.box 117 (dJ s))] Tryz.call68 h1 rfl aC aA ?_;rintro _ σ' ⟨rfl,rfl⟩ h8;refine eR ?_;refine lp (β:=Nat×Nat×St×List Im) (fun b=>⟨[(0,.ptr r 0),(1,.fn (.func f) us vs),(5,.own b.1 0 b.2.2.2.length),(6,.int .i64 (b.2.1:Nat))],[(b.1,.arr 64 3 (b.2.2.2.map eE)),(r,.box 117 (dJ b.2.2.1))]⟩) (fun b=>Fresh b.1 [(r,.box 117 (dJ s))]∧SOk b.2.2.1∧b.2.1+b.2.2.2.length≤4294967296∧fP get s=(b.2.2.2++(kC get b.2.1 b.2.2.1).1,(kC get b.2.1 b.2.2.1).2)) (fun b=>b.2.1) (q0,n,s1,[]) aJ ⟨uW,k1,by show n+0≤4294967296;omega,by rw[hR];rfl⟩ ?_;rintro⟨q1,m,⟨l2,b2⟩,acc⟩ ⟨hq1,hs2,hmb,hL⟩;dsimp only at hq1 hs2 hmb hL⊢;have hq2:=hq1;simp only[aP,aX,and_true]at hq2;repeat rcases hq2 with⟨_,hq2⟩
 unfold dJ;dsimp only;refine dO ?_;refine wD ?_;refine aB rfl (fun g3=> ?_) (fun g3=> ?_)
 ·obtain rfl:b2=false:=by cases b2 with|false=>rfl|true=>simp at g3
  obtain⟨m,rfl⟩:∃k,m=k+1:=⟨m-1,by simp at g3;omega⟩
  have hrun:=hg.run (l2,false) hs2;have hk:=hg.st (l2,false) hs2;have hl:kC get (m+1) (l2,false)=((get (l2,false)).1::(kC get m (get (l2,false)).2).1,(kC get m (get (l2,false)).2).2):=rfl;rw[hl]at hL;generalize get (l2,false)=p at hrun hk hL;obtain⟨x,s3⟩:=p;dsimp only at hrun hk hL;refine dF ?_;refine qE [(r,.box 117 (dJ (l2,false)))] rfl hg.call hrun rfl aC aA ?_;rintro _ σ' ⟨rfl,rfl⟩ h22;apply aZ;exact bN;refine eS fun r23 h23=> ?_;intros
  refine kI ((acc++ [x]).map eE) (acc++ [x]).length ?_;refine bL fun r24 h24=> ?_;intros
  refine iF ?_;refine sK ?_;rw[show((m+1:Nat):Int)-1=(m:Nat) by omega];refine cZ ?_;refine⟨(r24,m,s3,acc++ [x]),⟨uW,hk,by show m+(acc++ [x]).length≤4294967296;simp;omega,by rw[hL];simp⟩,Nat.lt_succ_self _, ?_⟩;dsimp only;exact aJ
 have hz:kC get m (l2,b2)=([],(l2,b2)):=by cases m with|zero=>rfl|succ m=>(cases b2 with|true=>rfl|false=>(simp at g3<;>omega))
 have hE:fP get s=(acc,(l2,b2)):=by rw[hL,hz];simp
 refine fF ?_;exact aD aE ⟨q1,hq1,by rw[hE];rfl,by rw[hE]⟩ aA
theorem aEU{f:FuncId}{us vs:List AV}{r:Nat}{get:St→Gl×St}(hg:Gets Tryz.prog f us vs (fun s=>[(r,.box 117 (dJ s))]) (fun x=>.agg (eA x)) get)(s:St)(hs:SOk s):SCall Tryz.prog 173 [.ptr r 0,.fn (.func f) us vs] [(r,.box 117 (dJ s))]
  (fun x σ=>∃q,Fresh q [(r,.box 117 (dJ s))]∧x=.own q 0 (fP get s).1.length∧σ=[(q,.arr 73 3 ((fP get s).1.map eA)),(r,.box 117 (dJ (fP get s).2))]):=by
 have h1:=jR r s hs;have k1:=iO s hs;have kb:=wR s;have hR:fP get s=kC get (gI s).1 (gI s).2:=rfl;generalize gI s=p at h1 k1 kb hR;obtain⟨n,s1⟩:=p;dsimp only at h1 k1 kb hR;refine cC 26 [0,1,4,5,6,17] Tryz.func173 ?_;refine nQ ?_;refine bX 5 73 3 (by decide) rfl (by decide) (bI fun q0 hq0=> ?_);repeat rcases hq0 with⟨_,hq0⟩
 refine eU ?_;refine cw [(r,.box 117 (dJ s))] Tryz.call68 h1 rfl aC aA ?_;rintro _ σ' ⟨rfl,rfl⟩ h8;refine eR ?_;refine lp (β:=Nat×Nat×St×List Gl) (fun b=>⟨[(0,.ptr r 0),(1,.fn (.func f) us vs),(5,.own b.1 0 b.2.2.2.length),(6,.int .i64 (b.2.1:Nat))],[(b.1,.arr 73 3 (b.2.2.2.map eA)),(r,.box 117 (dJ b.2.2.1))]⟩) (fun b=>Fresh b.1 [(r,.box 117 (dJ s))]∧SOk b.2.2.1∧b.2.1+b.2.2.2.length≤4294967296∧fP get s=(b.2.2.2++(kC get b.2.1 b.2.2.1).1,(kC get b.2.1 b.2.2.1).2)) (fun b=>b.2.1) (q0,n,s1,[]) aJ ⟨uW,k1,by show n+0≤4294967296;omega,by rw[hR];rfl⟩ ?_;rintro⟨q1,m,⟨l2,b2⟩,acc⟩ ⟨hq1,hs2,hmb,hL⟩;dsimp only at hq1 hs2 hmb hL⊢;have hq2:=hq1;simp only[aP,aX,and_true]at hq2;repeat rcases hq2 with⟨_,hq2⟩
 unfold dJ;dsimp only;refine dO ?_;refine wD ?_;refine aB rfl (fun g3=> ?_) (fun g3=> ?_)
 ·obtain rfl:b2=false:=by cases b2 with|false=>rfl|true=>simp at g3
  obtain⟨m,rfl⟩:∃k,m=k+1:=⟨m-1,by simp at g3;omega⟩
  have hrun:=hg.run (l2,false) hs2;have hk:=hg.st (l2,false) hs2;have hl:kC get (m+1) (l2,false)=((get (l2,false)).1::(kC get m (get (l2,false)).2).1,(kC get m (get (l2,false)).2).2):=rfl;rw[hl]at hL;generalize get (l2,false)=p at hrun hk hL;obtain⟨x,s3⟩:=p;dsimp only at hrun hk hL;refine dF ?_;refine qE [(r,.box 117 (dJ (l2,false)))] rfl hg.call hrun rfl aC aA ?_;rintro _ σ' ⟨rfl,rfl⟩ h22;apply aZ;exact bN;refine eS fun r23 h23=> ?_;intros
  refine kI ((acc++ [x]).map eA) (acc++ [x]).length ?_;refine bL fun r24 h24=> ?_;intros
  refine iF ?_;refine sK ?_;rw[show((m+1:Nat):Int)-1=(m:Nat) by omega];refine cZ ?_;refine⟨(r24,m,s3,acc++ [x]),⟨uW,hk,by show m+(acc++ [x]).length≤4294967296;simp;omega,by rw[hL];simp⟩,Nat.lt_succ_self _, ?_⟩;dsimp only;exact aJ
 have hz:kC get m (l2,b2)=([],(l2,b2)):=by cases m with|zero=>rfl|succ m=>(cases b2 with|true=>rfl|false=>(simp at g3<;>omega))
 have hE:fP get s=(acc,(l2,b2)):=by rw[hL,hz];simp
 refine fF ?_;exact aD aE ⟨q1,hq1,by rw[hE];rfl,by rw[hE]⟩ aA
theorem aEV{f:FuncId}{us vs:List AV}{r:Nat}{get:St→Ex×St}(hg:Gets Tryz.prog f us vs (fun s=>[(r,.box 117 (dJ s))]) (fun x=>.agg (dH x)) get)(s:St)(hs:SOk s):SCall Tryz.prog 175 [.ptr r 0,.fn (.func f) us vs] [(r,.box 117 (dJ s))]
  (fun x σ=>∃q,Fresh q [(r,.box 117 (dJ s))]∧x=.own q 0 (fP get s).1.length∧σ=[(q,.arr 66 2 ((fP get s).1.map dH)),(r,.box 117 (dJ (fP get s).2))]):=by
 have h1:=jR r s hs;have k1:=iO s hs;have kb:=wR s;have hR:fP get s=kC get (gI s).1 (gI s).2:=rfl;generalize gI s=p at h1 k1 kb hR;obtain⟨n,s1⟩:=p;dsimp only at h1 k1 kb hR;refine cC 26 [0,1,4,5,6,17] Tryz.func175 ?_;refine nQ ?_;refine bX 5 66 2 (by decide) rfl (by decide) (bI fun q0 hq0=> ?_);repeat rcases hq0 with⟨_,hq0⟩
 refine eU ?_;refine cw [(r,.box 117 (dJ s))] Tryz.call68 h1 rfl aC aA ?_;rintro _ σ' ⟨rfl,rfl⟩ h8;refine eR ?_;refine lp (β:=Nat×Nat×St×List Ex) (fun b=>⟨[(0,.ptr r 0),(1,.fn (.func f) us vs),(5,.own b.1 0 b.2.2.2.length),(6,.int .i64 (b.2.1:Nat))],[(b.1,.arr 66 2 (b.2.2.2.map dH)),(r,.box 117 (dJ b.2.2.1))]⟩) (fun b=>Fresh b.1 [(r,.box 117 (dJ s))]∧SOk b.2.2.1∧b.2.1+b.2.2.2.length≤4294967296∧fP get s=(b.2.2.2++(kC get b.2.1 b.2.2.1).1,(kC get b.2.1 b.2.2.1).2)) (fun b=>b.2.1) (q0,n,s1,[]) aJ ⟨uW,k1,by show n+0≤4294967296;omega,by rw[hR];rfl⟩ ?_;rintro⟨q1,m,⟨l2,b2⟩,acc⟩ ⟨hq1,hs2,hmb,hL⟩;dsimp only at hq1 hs2 hmb hL⊢;have hq2:=hq1;simp only[aP,aX,and_true]at hq2;repeat rcases hq2 with⟨_,hq2⟩
 unfold dJ;dsimp only;refine dO ?_;refine wD ?_;refine aB rfl (fun g3=> ?_) (fun g3=> ?_)
 ·obtain rfl:b2=false:=by cases b2 with|false=>rfl|true=>simp at g3
  obtain⟨m,rfl⟩:∃k,m=k+1:=⟨m-1,by simp at g3;omega⟩
  have hrun:=hg.run (l2,false) hs2;have hk:=hg.st (l2,false) hs2;have hl:kC get (m+1) (l2,false)=((get (l2,false)).1::(kC get m (get (l2,false)).2).1,(kC get m (get (l2,false)).2).2):=rfl;rw[hl]at hL;generalize get (l2,false)=p at hrun hk hL;obtain⟨x,s3⟩:=p;dsimp only at hrun hk hL;refine dF ?_;refine qE [(r,.box 117 (dJ (l2,false)))] rfl hg.call hrun rfl aC aA ?_;rintro _ σ' ⟨rfl,rfl⟩ h22;apply aZ;exact bN;refine eS fun r23 h23=> ?_;intros
  refine kI ((acc++ [x]).map dH) (acc++ [x]).length ?_;refine bL fun r24 h24=> ?_;intros
  refine iF ?_;refine sK ?_;rw[show((m+1:Nat):Int)-1=(m:Nat) by omega];refine cZ ?_;refine⟨(r24,m,s3,acc++ [x]),⟨uW,hk,by show m+(acc++ [x]).length≤4294967296;simp;omega,by rw[hL];simp⟩,Nat.lt_succ_self _, ?_⟩;dsimp only;exact aJ
 have hz:kC get m (l2,b2)=([],(l2,b2)):=by cases m with|zero=>rfl|succ m=>(cases b2 with|true=>rfl|false=>(simp at g3<;>omega))
 have hE:fP get s=(acc,(l2,b2)):=by rw[hL,hz];simp
 refine fF ?_;exact aD aE ⟨q1,hq1,by rw[hE];rfl,by rw[hE]⟩ aA
theorem aEW{f:FuncId}{us vs:List AV}{r:Nat}{get:St→Co×St}(hg:Gets Tryz.prog f us vs (fun s=>[(r,.box 117 (dJ s))]) (fun x=>.agg (dP x)) get)(s:St)(hs:SOk s):SCall Tryz.prog 180 [.ptr r 0,.fn (.func f) us vs] [(r,.box 117 (dJ s))]
  (fun x σ=>∃q,Fresh q [(r,.box 117 (dJ s))]∧x=.own q 0 (fP get s).1.length∧σ=[(q,.arr 44 2 ((fP get s).1.map dP)),(r,.box 117 (dJ (fP get s).2))]):=by
 have h1:=jR r s hs;have k1:=iO s hs;have kb:=wR s;have hR:fP get s=kC get (gI s).1 (gI s).2:=rfl;generalize gI s=p at h1 k1 kb hR;obtain⟨n,s1⟩:=p;dsimp only at h1 k1 kb hR;refine cC 26 [0,1,4,5,6,17] Tryz.func180 ?_;refine nQ ?_;refine bX 5 44 2 (by decide) rfl (by decide) (bI fun q0 hq0=> ?_);repeat rcases hq0 with⟨_,hq0⟩
 refine eU ?_;refine cw [(r,.box 117 (dJ s))] Tryz.call68 h1 rfl aC aA ?_;rintro _ σ' ⟨rfl,rfl⟩ h8;refine eR ?_;refine lp (β:=Nat×Nat×St×List Co) (fun b=>⟨[(0,.ptr r 0),(1,.fn (.func f) us vs),(5,.own b.1 0 b.2.2.2.length),(6,.int .i64 (b.2.1:Nat))],[(b.1,.arr 44 2 (b.2.2.2.map dP)),(r,.box 117 (dJ b.2.2.1))]⟩) (fun b=>Fresh b.1 [(r,.box 117 (dJ s))]∧SOk b.2.2.1∧b.2.1+b.2.2.2.length≤4294967296∧fP get s=(b.2.2.2++(kC get b.2.1 b.2.2.1).1,(kC get b.2.1 b.2.2.1).2)) (fun b=>b.2.1) (q0,n,s1,[]) aJ ⟨uW,k1,by show n+0≤4294967296;omega,by rw[hR];rfl⟩ ?_;rintro⟨q1,m,⟨l2,b2⟩,acc⟩ ⟨hq1,hs2,hmb,hL⟩;dsimp only at hq1 hs2 hmb hL⊢;have hq2:=hq1;simp only[aP,aX,and_true]at hq2;repeat rcases hq2 with⟨_,hq2⟩
 unfold dJ;dsimp only;refine dO ?_;refine wD ?_;refine aB rfl (fun g3=> ?_) (fun g3=> ?_)
 ·obtain rfl:b2=false:=by cases b2 with|false=>rfl|true=>simp at g3
  obtain⟨m,rfl⟩:∃k,m=k+1:=⟨m-1,by simp at g3;omega⟩
  have hrun:=hg.run (l2,false) hs2;have hk:=hg.st (l2,false) hs2;have hl:kC get (m+1) (l2,false)=((get (l2,false)).1::(kC get m (get (l2,false)).2).1,(kC get m (get (l2,false)).2).2):=rfl;rw[hl]at hL;generalize get (l2,false)=p at hrun hk hL;obtain⟨x,s3⟩:=p;dsimp only at hrun hk hL;refine dF ?_;refine qE [(r,.box 117 (dJ (l2,false)))] rfl hg.call hrun rfl aC aA ?_;rintro _ σ' ⟨rfl,rfl⟩ h22;apply aZ;exact bN;refine eS fun r23 h23=> ?_;intros
  refine kI ((acc++ [x]).map dP) (acc++ [x]).length ?_;refine bL fun r24 h24=> ?_;intros
  refine iF ?_;refine sK ?_;rw[show((m+1:Nat):Int)-1=(m:Nat) by omega];refine cZ ?_;refine⟨(r24,m,s3,acc++ [x]),⟨uW,hk,by show m+(acc++ [x]).length≤4294967296;simp;omega,by rw[hL];simp⟩,Nat.lt_succ_self _, ?_⟩;dsimp only;exact aJ
 have hz:kC get m (l2,b2)=([],(l2,b2)):=by cases m with|zero=>rfl|succ m=>(cases b2 with|true=>rfl|false=>(simp at g3<;>omega))
 have hE:fP get s=(acc,(l2,b2)):=by rw[hL,hz];simp
 refine fF ?_;exact aD aE ⟨q1,hq1,by rw[hE];rfl,by rw[hE]⟩ aA
theorem aEX{f:FuncId}{us vs:List AV}{r:Nat}{c:Nat}(hc:Nq r c){get:St→El×St}(hg:Gets Tryz.prog f us vs (fun s=>[(r,.box 117 (dJ s)),(c,.box 114 [.ptr r 0])]) (fun x=>.agg (dX x)) get)(s:St)(hs:SOk s):SCall Tryz.prog 177 [.ptr r 0,.fn (.func f) us vs] [(r,.box 117 (dJ s)),(c,.box 114 [.ptr r 0])]
  (fun x σ=>∃q,Fresh q [(r,.box 117 (dJ s)),(c,.box 114 [.ptr r 0])]∧x=.own q 0 (fP get s).1.length∧σ=[(q,.arr 69 2 ((fP get s).1.map dX)),(r,.box 117 (dJ (fP get s).2)),(c,.box 114 [.ptr r 0])]):=by
 have h1:=jR r s hs;have k1:=iO s hs;have kb:=wR s;have hR:fP get s=kC get (gI s).1 (gI s).2:=rfl;generalize gI s=p at h1 k1 kb hR;obtain⟨n,s1⟩:=p;dsimp only at h1 k1 kb hR;refine cC 26 [0,1,4,5,6,17] Tryz.func177 ?_;refine nQ ?_;refine bX 5 69 2 (by decide) rfl (by decide) (bI fun q0 hq0=> ?_);repeat rcases hq0 with⟨_,hq0⟩
 refine eU ?_;refine cw [(r,.box 117 (dJ s))] Tryz.call68 h1 rfl aC aA ?_;rintro _ σ' ⟨rfl,rfl⟩ h8;refine eR ?_;refine lp (β:=Nat×Nat×St×List El) (fun b=>⟨[(0,.ptr r 0),(1,.fn (.func f) us vs),(5,.own b.1 0 b.2.2.2.length),(6,.int .i64 (b.2.1:Nat))],[(b.1,.arr 69 2 (b.2.2.2.map dX)),(r,.box 117 (dJ b.2.2.1)),(c,.box 114 [.ptr r 0])]⟩) (fun b=>Fresh b.1 [(r,.box 117 (dJ s)),(c,.box 114 [.ptr r 0])]∧SOk b.2.2.1∧b.2.1+b.2.2.2.length≤4294967296∧fP get s=(b.2.2.2++(kC get b.2.1 b.2.2.1).1,(kC get b.2.1 b.2.2.1).2)) (fun b=>b.2.1) (q0,n,s1,[]) aJ ⟨uW,k1,by show n+0≤4294967296;omega,by rw[hR];rfl⟩ ?_;rintro⟨q1,m,⟨l2,b2⟩,acc⟩ ⟨hq1,hs2,hmb,hL⟩;dsimp only at hq1 hs2 hmb hL⊢;have hq2:=hq1;simp only[aP,aX,and_true]at hq2;repeat rcases hq2 with⟨_,hq2⟩
 unfold dJ;dsimp only;refine dO ?_;refine wD ?_;refine aB rfl (fun g3=> ?_) (fun g3=> ?_)
 ·obtain rfl:b2=false:=by cases b2 with|false=>rfl|true=>simp at g3
  obtain⟨m,rfl⟩:∃k,m=k+1:=⟨m-1,by simp at g3;omega⟩
  have hrun:=hg.run (l2,false) hs2;have hk:=hg.st (l2,false) hs2;have hl:kC get (m+1) (l2,false)=((get (l2,false)).1::(kC get m (get (l2,false)).2).1,(kC get m (get (l2,false)).2).2):=rfl;rw[hl]at hL;generalize get (l2,false)=p at hrun hk hL;obtain⟨x,s3⟩:=p;dsimp only at hrun hk hL;refine dF ?_;refine qE [(r,.box 117 (dJ (l2,false))),(c,.box 114 [.ptr r 0])] rfl hg.call hrun rfl aC aA ?_;rintro _ σ' ⟨rfl,rfl⟩ h22;apply aZ;exact bN;refine eS fun r23 h23=> ?_;intros
  refine kI ((acc++ [x]).map dX) (acc++ [x]).length ?_;refine bL fun r24 h24=> ?_;intros
  refine iF ?_;refine sK ?_;rw[show((m+1:Nat):Int)-1=(m:Nat) by omega];refine cZ ?_;refine⟨(r24,m,s3,acc++ [x]),⟨uW,hk,by show m+(acc++ [x]).length≤4294967296;simp;omega,by rw[hL];simp⟩,Nat.lt_succ_self _, ?_⟩;dsimp only;exact aJ
 have hz:kC get m (l2,b2)=([],(l2,b2)):=by cases m with|zero=>rfl|succ m=>(cases b2 with|true=>rfl|false=>(simp at g3<;>omega))
 have hE:fP get s=(acc,(l2,b2)):=by rw[hL,hz];simp
 refine fF ?_;exact aD aE ⟨q1,hq1,by rw[hE];rfl,by rw[hE]⟩ aA
theorem aEY{f:FuncId}{us vs:List AV}{r:Nat}{c:Nat}(hc:Nq r c){get:St→Da×St}(hg:Gets Tryz.prog f us vs (fun s=>[(r,.box 117 (dJ s)),(c,.box 114 [.ptr r 0])]) (fun x=>.agg (eB x)) get)(s:St)(hs:SOk s):SCall Tryz.prog 182 [.ptr r 0,.fn (.func f) us vs] [(r,.box 117 (dJ s)),(c,.box 114 [.ptr r 0])]
  (fun x σ=>∃q,Fresh q [(r,.box 117 (dJ s)),(c,.box 114 [.ptr r 0])]∧x=.own q 0 (fP get s).1.length∧σ=[(q,.arr 48 2 ((fP get s).1.map eB)),(r,.box 117 (dJ (fP get s).2)),(c,.box 114 [.ptr r 0])]):=by
 have h1:=jR r s hs;have k1:=iO s hs;have kb:=wR s;have hR:fP get s=kC get (gI s).1 (gI s).2:=rfl;generalize gI s=p at h1 k1 kb hR;obtain⟨n,s1⟩:=p;dsimp only at h1 k1 kb hR;refine cC 26 [0,1,4,5,6,17] Tryz.func182 ?_;refine nQ ?_;refine bX 5 48 2 (by decide) rfl (by decide) (bI fun q0 hq0=> ?_);repeat rcases hq0 with⟨_,hq0⟩
 refine eU ?_;refine cw [(r,.box 117 (dJ s))] Tryz.call68 h1 rfl aC aA ?_;rintro _ σ' ⟨rfl,rfl⟩ h8;refine eR ?_;refine lp (β:=Nat×Nat×St×List Da) (fun b=>⟨[(0,.ptr r 0),(1,.fn (.func f) us vs),(5,.own b.1 0 b.2.2.2.length),(6,.int .i64 (b.2.1:Nat))],[(b.1,.arr 48 2 (b.2.2.2.map eB)),(r,.box 117 (dJ b.2.2.1)),(c,.box 114 [.ptr r 0])]⟩) (fun b=>Fresh b.1 [(r,.box 117 (dJ s)),(c,.box 114 [.ptr r 0])]∧SOk b.2.2.1∧b.2.1+b.2.2.2.length≤4294967296∧fP get s=(b.2.2.2++(kC get b.2.1 b.2.2.1).1,(kC get b.2.1 b.2.2.1).2)) (fun b=>b.2.1) (q0,n,s1,[]) aJ ⟨uW,k1,by show n+0≤4294967296;omega,by rw[hR];rfl⟩ ?_;rintro⟨q1,m,⟨l2,b2⟩,acc⟩ ⟨hq1,hs2,hmb,hL⟩;dsimp only at hq1 hs2 hmb hL⊢;have hq2:=hq1;simp only[aP,aX,and_true]at hq2;repeat rcases hq2 with⟨_,hq2⟩
 unfold dJ;dsimp only;refine dO ?_;refine wD ?_;refine aB rfl (fun g3=> ?_) (fun g3=> ?_)
 ·obtain rfl:b2=false:=by cases b2 with|false=>rfl|true=>simp at g3
  obtain⟨m,rfl⟩:∃k,m=k+1:=⟨m-1,by simp at g3;omega⟩
  have hrun:=hg.run (l2,false) hs2;have hk:=hg.st (l2,false) hs2;have hl:kC get (m+1) (l2,false)=((get (l2,false)).1::(kC get m (get (l2,false)).2).1,(kC get m (get (l2,false)).2).2):=rfl;rw[hl]at hL;generalize get (l2,false)=p at hrun hk hL;obtain⟨x,s3⟩:=p;dsimp only at hrun hk hL;refine dF ?_;refine qE [(r,.box 117 (dJ (l2,false))),(c,.box 114 [.ptr r 0])] rfl hg.call hrun rfl aC aA ?_;rintro _ σ' ⟨rfl,rfl⟩ h22;apply aZ;exact bN;refine eS fun r23 h23=> ?_;intros
  refine kI ((acc++ [x]).map eB) (acc++ [x]).length ?_;refine bL fun r24 h24=> ?_;intros
  refine iF ?_;refine sK ?_;rw[show((m+1:Nat):Int)-1=(m:Nat) by omega];refine cZ ?_;refine⟨(r24,m,s3,acc++ [x]),⟨uW,hk,by show m+(acc++ [x]).length≤4294967296;simp;omega,by rw[hL];simp⟩,Nat.lt_succ_self _, ?_⟩;dsimp only;exact aJ
 have hz:kC get m (l2,b2)=([],(l2,b2)):=by cases m with|zero=>rfl|succ m=>(cases b2 with|true=>rfl|false=>(simp at g3<;>omega))
 have hE:fP get s=(acc,(l2,b2)):=by rw[hL,hz];simp
 refine fF ?_;exact aD aE ⟨q1,hq1,by rw[hE];rfl,by rw[hE]⟩ aA
theorem aEZ{f:FuncId}{us vs:List AV}{r:Nat}{c d:Nat}{before:Bool}(hc:Nq r c)(hd:Nq r d)(hcd:Nq c d){get:St→Li×St}(hg:Gets Tryz.prog f us vs (fun s=>[(r,.box 117 (dJ s)),(c,.box 4 [.bool before]),(d,.box 114 [.ptr r 0])]) (fun x=>.agg (fA x)) get)(s:St)(hs:SOk s):SCall Tryz.prog 261 [.ptr r 0,.fn (.func f) us vs] [(r,.box 117 (dJ s)),(c,.box 4 [.bool before]),(d,.box 114 [.ptr r 0])]
  (fun x σ=>∃q,Fresh q [(r,.box 117 (dJ s)),(c,.box 4 [.bool before]),(d,.box 114 [.ptr r 0])]∧x=.own q 0 (fP get s).1.length∧σ=[(q,.arr 26 3 ((fP get s).1.map fA)),(r,.box 117 (dJ (fP get s).2)),(c,.box 4 [.bool before]),(d,.box 114 [.ptr r 0])]):=by
 have h1:=jR r s hs;have k1:=iO s hs;have kb:=wR s;have hR:fP get s=kC get (gI s).1 (gI s).2:=rfl;generalize gI s=p at h1 k1 kb hR;obtain⟨n,s1⟩:=p;dsimp only at h1 k1 kb hR;refine cC 26 [0,1,4,5,6,17] Tryz.func261 ?_;refine nQ ?_;refine bX 5 26 3 (by decide) rfl (by decide) (bI fun q0 hq0=> ?_);repeat rcases hq0 with⟨_,hq0⟩
 refine eU ?_;refine cw [(r,.box 117 (dJ s))] Tryz.call68 h1 rfl aC aA ?_;rintro _ σ' ⟨rfl,rfl⟩ h8;refine eR ?_;refine lp (β:=Nat×Nat×St×List Li) (fun b=>⟨[(0,.ptr r 0),(1,.fn (.func f) us vs),(5,.own b.1 0 b.2.2.2.length),(6,.int .i64 (b.2.1:Nat))],[(b.1,.arr 26 3 (b.2.2.2.map fA)),(r,.box 117 (dJ b.2.2.1)),(c,.box 4 [.bool before]),(d,.box 114 [.ptr r 0])]⟩) (fun b=>Fresh b.1 [(r,.box 117 (dJ s)),(c,.box 4 [.bool before]),(d,.box 114 [.ptr r 0])]∧SOk b.2.2.1∧b.2.1+b.2.2.2.length≤4294967296∧fP get s=(b.2.2.2++(kC get b.2.1 b.2.2.1).1,(kC get b.2.1 b.2.2.1).2)) (fun b=>b.2.1) (q0,n,s1,[]) aJ ⟨uW,k1,by show n+0≤4294967296;omega,by rw[hR];rfl⟩ ?_;rintro⟨q1,m,⟨l2,b2⟩,acc⟩ ⟨hq1,hs2,hmb,hL⟩;dsimp only at hq1 hs2 hmb hL⊢;have hq2:=hq1;simp only[aP,aX,and_true]at hq2;repeat rcases hq2 with⟨_,hq2⟩
 unfold dJ;dsimp only;refine dO ?_;refine wD ?_;refine aB rfl (fun g3=> ?_) (fun g3=> ?_)
 ·obtain rfl:b2=false:=by cases b2 with|false=>rfl|true=>simp at g3
  obtain⟨m,rfl⟩:∃k,m=k+1:=⟨m-1,by simp at g3;omega⟩
  have hrun:=hg.run (l2,false) hs2;have hk:=hg.st (l2,false) hs2;have hl:kC get (m+1) (l2,false)=((get (l2,false)).1::(kC get m (get (l2,false)).2).1,(kC get m (get (l2,false)).2).2):=rfl;rw[hl]at hL;generalize get (l2,false)=p at hrun hk hL;obtain⟨x,s3⟩:=p;dsimp only at hrun hk hL;refine dF ?_;refine qE [(r,.box 117 (dJ (l2,false))),(c,.box 4 [.bool before]),(d,.box 114 [.ptr r 0])] rfl hg.call hrun rfl aC aA ?_;rintro _ σ' ⟨rfl,rfl⟩ h22;apply aZ;exact bN;refine eS fun r23 h23=> ?_;intros
  refine kI ((acc++ [x]).map fA) (acc++ [x]).length ?_;refine bL fun r24 h24=> ?_;intros
  refine iF ?_;refine sK ?_;rw[show((m+1:Nat):Int)-1=(m:Nat) by omega];refine cZ ?_;refine⟨(r24,m,s3,acc++ [x]),⟨uW,hk,by show m+(acc++ [x]).length≤4294967296;simp;omega,by rw[hL];simp⟩,Nat.lt_succ_self _, ?_⟩;dsimp only;exact aJ
 have hz:kC get m (l2,b2)=([],(l2,b2)):=by cases m with|zero=>rfl|succ m=>(cases b2 with|true=>rfl|false=>(simp at g3<;>omega))
 have hE:fP get s=(acc,(l2,b2)):=by rw[hL,hz];simp
 refine fF ?_;exact aD aE ⟨q1,hq1,by rw[hE];rfl,by rw[hE]⟩ aA
theorem MW(r:Nat)(s:St)(hs:SOk s):SCall Tryz.prog 259 [.ptr r 0] [(r,.box 117 (dJ s))]
  (fun x σ=>x=.int .i64 (wP s).1∧σ=[(r,.box 117 (dJ (wP s).2))]):=by
 have h1:=oL r s hs;have hK:wP s=if((lE s).1==127)=true then(1,(lE s).2)else if((lE s).1==126)=true then(2,(lE s).2)else(0,((lE s).2.1,true)):=rfl
 generalize lE s=p at h1 hK;obtain⟨c,l2,b2⟩:=p;dsimp only at h1 hK;have ht:∀k:Nat,((c:Int)==(k:Int))=(c==k):=fun k=>by rw[Bool.eq_iff_iff];simp only[beq_iff_eq];omega
 refine cC 12 [0,2,4,5,7] Tryz.func259 ?_;refine gX ?_;refine cw [(r,.box 117 (dJ s))] Tryz.call67 h1 rfl aC aA ?_;rintro _ σ' ⟨rfl,rfl⟩ h4;refine fN ?_;unfold dJ;dsimp only;refine eV ?_;refine aB rfl (fun g2=> ?_) (fun g2=> ?_)
 ·have hE:wP s=(1,(l2,b2)):=by rw[hK,if_pos ((ht 127).symm.trans g2)]
  refine bP ?_;exact aD aE ⟨by rw[hE];rfl,by rw[hE]⟩ aA
 refine dC ?_;refine aB rfl (fun g4=> ?_) (fun g4=> ?_)
 ·have hE:wP s=(2,(l2,b2)):=by rw[hK,if_neg (by rw[←ht 127];exact fun h=>by rw[show((c:Int)==((127:Nat):Int))=false from g2]at h;cases h),if_pos ((ht 126).symm.trans g4)]
  refine bP ?_;exact aD aE ⟨by rw[hE];rfl,by rw[hE]⟩ aA
 have hE:wP s=(0,(l2,true)):=by rw[hK,if_neg (by rw[←ht 127];exact fun h=>by rw[show((c:Int)==((127:Nat):Int))=false from g2]at h;cases h),if_neg (by rw[←ht 126];exact fun h=>by rw[show((c:Int)==((126:Nat):Int))=false from g4]at h;cases h)]
 refine uJ ?_;refine nY ?_;refine bP ?_;exact aD aE ⟨by rw[hE];rfl,by rw[hE]⟩ aA
theorem MX(r:Nat)(s:St)(hs:SOk s):SCall Tryz.prog 260 [.ptr r 0] [(r,.box 117 (dJ s))]
  (fun x σ=>x=.str (dE (AW s).1)∧σ=[(r,.box 117 (dJ (AW s).2))]):=by
 have w1:=aCw r s hs;generalize AW s=p at w1;obtain⟨l,s2⟩:=p;dsimp only at w1;refine cC 6 [0,2] Tryz.func260 ?_;refine gX ?_;refine cw [(r,.box 117 (dJ s))] Tryz.call184 w1 rfl aC aA ?_;rintro _ σ' ⟨q,hq,rfl,rfl⟩ h4;apply aZ;exact bN;refine aD5 ?_;refine cZ ?_;exact aD aE ⟨by rfl,rfl⟩ aA
theorem DP(r:Nat)(s:St)(hs:SOk s):SCall Tryz.prog 264 [.ptr r 0] [(r,.box 117 (dJ s))]
  (fun x σ=>x=.agg [.int .i64 (PT s).1.1,.int .i64 (PT s).1.2]∧σ=[(r,.box 117 (dJ (PT s).2))]):=by
 have hk:=fun n ok=>BC r s hs n ok
 have hk2:=fun n ok=>oL r _ (KK hs n ok)
 have hC:PT s=(if((fG s.1).1.op==66)=true then(2,(fG s.1).1.a)else(1,(fG s.1).1.a),(lE (vP s (fG s.1).2.1 (((fG s.1).2.2==0)&&((fG s.1).1.op==65||(fG s.1).1.op==66)))).2):=rfl;have hget:=KB s.1 (by have:=hs.1;omega) hs.2;obtain⟨l,bad⟩:=s;dsimp only at hC hget;generalize fG l=p at hC hget;obtain⟨x,n,e⟩:=p;dsimp only at hC hget;have hB:(if(e==0)=true then(if(x.op==65)=true then true else x.op==66)else false)=((e==0)&&(x.op==65||x.op==66)):=by cases(e==0)<;>cases(x.op==65)<;>rfl
 have w1:=hk n ((e==0)&&(x.op==65||x.op==66));have w2:=hk2 n ((e==0)&&(x.op==65||x.op==66));generalize((e==0)&&(x.op==65||x.op==66))=B at hB w1 w2 hC;generalize vP (l,bad) n B=s2 at w1 w2 hC;generalize lE s2=p3 at w2 hC;obtain⟨c,s3⟩:=p3;dsimp only at w2 hC;refine cC 41 [0,2,3,4,5,34] Tryz.func264 ?_;unfold dJ;dsimp only;refine dG ?_;refine jZ fun r2 h2=> ?_;intros
 refine jI ?_;refine eU ?_;refine nN ?_;refine cw [] Tryz.call298 hget rfl aC aA ?_;rintro _ σ' ⟨q,rfl,rfl⟩ h11
 replace h11:=gU h11;repeat rcases h11 with⟨_,h11⟩
 refine QS ?_;refine jZ fun r3 h3=> ?_;intros
 unfold io;apply HW;rfl;rfl;rfl;rfl;exact jU;refine jK ?_;refine yD ?_;refine DH ?_;refine sL ?_;refine aBs ?_;refine aBt ?_;refine aBu ?_;refine aL6 ?_;refine aL7 ?_;refine uX ?_;rw[hB];refine cw [(r,.box 117 (dJ (l,bad)))] Tryz.call66 w1 rfl aC aA ?_;rintro _ σ' ⟨rfl,rfl⟩ h29;refine fN ?_;refine eU ?_;refine cw [(r,.box 117 (dJ s2))] Tryz.call67 w2 rfl aC aA ?_;rintro _ σ' ⟨rfl,rfl⟩ h31;refine AJ ?_;refine fE ?_;refine rL ?_;refine aB rfl (fun g4=> ?_) (fun g4=> ?_)
 ·have hE:PT (l,bad)=((2,x.a),s3):=by rw[hC,if_pos g4]
  refine fE ?_;refine jY ?_;refine jJ ?_;exact aD aE ⟨by rw[hE];rfl,by rw[hE]⟩ aA
 have hE:PT (l,bad)=((1,x.a),s3):=by rw[hC,if_neg (by rw[g4];simp)]
 refine fE ?_;refine jY ?_;refine jJ ?_;exact aD aE ⟨by rw[hE];rfl,by rw[hE]⟩ aA
theorem SD(r:Nat)(s:St)(hs:SOk s):SCall Tryz.prog 179 [.ptr r 0] [(r,.box 117 (dJ s))]
  (fun x σ=>x=.int .i64 (PU s).1∧σ=[(r,.box 117 (dJ (PU s).2))]):=by
 have w1:=oL r s hs;have w2:=DP r _ (nI s hs);refine cC 8 [0,2] Tryz.func179 ?_;refine gX ?_;refine cw [(r,.box 117 (dJ s))] Tryz.call67 w1 rfl aC aA ?_;rintro _ σ' ⟨rfl,rfl⟩ h4;refine fN ?_;refine eU ?_;refine HX [(r,.box 117 (dJ (lE s).2))] Tryz.call264 w2 ?_;refine aHz ?_;refine cZ ?_;exact aD aE ⟨by rfl,rfl⟩ aA
theorem KL(r:Nat)(s:St)(hs:SOk s):SCall Tryz.prog 263 [.ptr r 0] [(r,.box 117 (dJ s))]
  (fun x σ=>x=.agg (fA (XZ s).1)∧σ=[(r,.box 117 (dJ (XZ s).2))]):=by
 have w1:=oL r s hs;have w2:=jR r _ (nI s hs);have w3:=jR r _ (iO _ (nI s hs));have hL:XZ s=if((lE s).1 !=0)=true then(⟨true,(gI (lE s).2).1,(gI (gI (lE s).2).2).1⟩,(gI (gI (lE s).2).2).2)else(⟨true,(gI (lE s).2).1,-1⟩,(gI (lE s).2).2):=rfl
 generalize lE s=p1 at w1 w2 w3 hL;obtain⟨c,s1⟩:=p1;dsimp only at w1 w2 w3 hL;generalize gI s1=p2 at w2 w3 hL;obtain⟨a,s2⟩:=p2;dsimp only at w2 w3 hL;generalize gI s2=p3 at w3 hL;obtain⟨d,s3⟩:=p3;dsimp only at w3 hL;have ht:((c:Int) !=0)=(c !=0):=by rw[Bool.eq_iff_iff];simp only[bne_iff_ne,ne_eq];omega
 refine cC 17 [0,2,3,4,12] Tryz.func263 ?_;refine dG ?_;refine jZ fun r2 h2=> ?_;intros
 refine kU ?_;refine dG ?_;refine jY ?_;refine jZ fun r3 h3=> ?_;intros
 refine nB ?_;refine HX [(r,.box 117 (dJ s))] Tryz.call67 w1 ?_;refine lo (gA (E rfl) (E rfl)) rfl ?_;refine iF ?_;refine HX [(r,.box 117 (dJ s1))] Tryz.call68 w2 ?_;refine oI ?_;refine nB ?_;refine jI ?_;refine aB rfl (fun g4=> ?_) (fun g4=> ?_)
 ·have hE:XZ s=(⟨true,a,d⟩,s3):=by rw[hL,if_pos (ht.symm.trans g4)]
  refine dO ?_;refine HX [(r,.box 117 (dJ s2))] Tryz.call68 w3 ?_;refine oI ?_;refine nY ?_;refine pM ?_;refine jJ ?_;exact aD aE ⟨by rw[hE];rfl,by rw[hE]⟩ aA
 have hE:XZ s=(⟨true,a,-1⟩,s2):=by rw[hL,if_neg (by rw[←ht];exact fun h=>by rw[show((c:Int) !=0)=false from g4]at h;cases h)]
 refine pM ?_;refine jJ ?_;exact aD aE ⟨by rw[hE];rfl,by rw[hE]⟩ aA
theorem aE0(d:Int)(c:Nat)(hc:c≤100000):SCall Tryz.prog 207 [.ro 1 [[.int .i64 d]] .any,.int .i64 c] [] (fun x σ=>∃r,x=.own r 0 (List.replicate c d).length∧σ=[(r,.arr 3 1 ((List.replicate c d).map aR))]):=by
 refine(GI (v:=.int .i64 d) rfl c hc).mono fun x σ h=> ?_
 rw[List.length_replicate,List.map_replicate];exact h
theorem aAo(r:Nat)(s:St)(hs:SOk s):SCall Tryz.prog 265 [.ptr r 0] [(r,.box 117 (dJ s))]
  (fun x σ=>∃q,Nq q r∧x=.own q 0 (zF s).1.length∧σ=[(q,.arr 3 1 ((zF s).1.map aR)),(r,.box 117 (dJ (zF s).2))]):=by
 have w1:=jR r s hs;have k1:=iO s hs;have kb:=wR s;have hR:zF s=VM (gI s).1 (gI s).2 []:=rfl;generalize gI s=p at w1 k1 kb hR;obtain⟨n,s1⟩:=p;dsimp only at w1 k1 kb hR;refine cC 36 [0,2,3,4,5,6,17,25] Tryz.func265 ?_;refine nQ ?_;refine bX 3 3 1 (by decide) rfl (by decide) (bI fun q0 hq0=> ?_);repeat rcases hq0 with⟨_,hq0⟩
 refine eU ?_;refine cw [(r,.box 117 (dJ s))] Tryz.call68 w1 rfl aC aA ?_;rintro _ σ' ⟨rfl,rfl⟩ h8;refine eR ?_;refine lp (β:=Nat×Nat×St×List Int) (fun b=>⟨[(0,.ptr r 0),(2,.ro 0 [] .nil),(3,.own b.1 0 b.2.2.2.length),(4,.int .i64 (b.2.1:Nat))],[(b.1,.arr 3 1 (b.2.2.2.map aR)),(r,.box 117 (dJ b.2.2.1))]⟩) (fun b=>Nq b.1 r∧SOk b.2.2.1∧32*b.2.1+b.2.2.2.length≤137438953472∧zF s=VM b.2.1 b.2.2.1 b.2.2.2) (fun b=>b.2.1) (q0,n,s1,[]) aJ ⟨by show Nq q0 r;(exact bA),k1,by show 32*n+0≤137438953472;omega,by rw[hR]⟩ ?_;rintro⟨q1,m,⟨l2,b2⟩,acc⟩ ⟨hq1,hs2,hmb,hL⟩;dsimp only at hq1 hs2 hmb hL⊢;unfold dJ;dsimp only;refine dO ?_;refine wD ?_;refine aB rfl (fun g3=> ?_) (fun g3=> ?_)
 ·obtain rfl:b2=false:=by cases b2 with|false=>rfl|true=>simp at g3
  obtain⟨m,rfl⟩:∃k,m=k+1:=⟨m-1,by simp at g3;omega⟩
  have wn:=jR r (l2,false) hs2;have kn:=iO (l2,false) hs2;have wk:=MW r _ kn;have kk:=yK _ kn;have hl:VM (m+1) (l2,false) acc=if 32<(gI (l2,false)).1 then([],((wP (gI (l2,false)).2).2.1,true))else VM m (wP (gI (l2,false)).2).2 (acc++List.replicate (gI (l2,false)).1 (wP (gI (l2,false)).2).1):=by rw[VM];rfl
  rw[hl]at hL;generalize gI (l2,false)=p2 at wn kn wk kk hL;obtain⟨c,s3⟩:=p2;dsimp only at wn kn wk kk hL;generalize wP s3=p3 at wk kk hL;obtain⟨d,l4,b4⟩:=p3;dsimp only at wk kk hL;refine dO ?_;refine cw [(r,.box 117 (dJ (l2,false)))] Tryz.call68 wn rfl aC aA ?_;rintro _ σ' ⟨rfl,rfl⟩ h21;refine eR ?_;refine eU ?_;refine cw [(r,.box 117 (dJ s3))] Tryz.call259 wk rfl aC aA ?_;rintro _ σ' ⟨rfl,rfl⟩ h23;refine eR ?_;unfold dJ;dsimp only;refine eU ?_;refine sN ?_;refine aB rfl (fun g7=> ?_) (fun g7=> ?_)
  ·have hE:zF s=([],(l4,true)):=by rw[hL,if_pos (by simp at g7;omega)]
   refine uJ ?_;refine nY ?_;refine dG ?_;refine pI ?_;refine bX 2 3 1 (by decide) rfl (by decide) (bI fun q2 hq2=> ?_);repeat rcases hq2 with⟨_,hq2⟩
   refine aI ?_;exact aD aE ⟨q2,by(exact bA),by rw[hE];rfl,by rw[hE]⟩ aA
  have hc:c≤32:=by simp at g7;omega
  rw[if_neg (by omega)]at hL;refine dF ?_;refine eS fun r31 h31=> ?_;intros
  refine lo (aF (E rfl)) rfl ?_;refine sE Tryz.call207 (aE0 d c (by omega)) rfl bW kH ?_;rintro _ σ' ⟨r33,rfl,rfl⟩ h33
  replace h33:=cN h33;repeat rcases h33 with⟨_,h33⟩
  apply aZ;exact bN;refine kI ((acc++List.replicate c d).map aR) (acc++List.replicate c d).length ?_;refine bL fun r34 h34=> ?_;intros
  refine iF ?_;refine sK ?_;rw[show((m+1:Nat):Int)-1=(m:Nat) by omega];refine cZ ?_;refine⟨(r34,m,(l4,b4),acc++List.replicate c d),⟨by show Nq r34 r;(exact bA),kk,by show 32*m+(acc++List.replicate c d).length≤137438953472;simp;omega,hL⟩,Nat.lt_succ_self _, ?_⟩;dsimp only;exact aJ
 have hz:VM m (l2,b2) acc=(acc,(l2,b2)):=by cases m with|zero=>rfl|succ m=>(cases b2 with|true=>rfl|false=>(simp at g3<;>omega))
 have hE:zF s=(acc,(l2,b2)):=by rw[hL,hz]
 refine fF ?_;exact aD aE ⟨q1,by(exact bA),by rw[hE];rfl,by rw[hE]⟩ aA
theorem KM(r:Nat):Gets Tryz.prog 259 [.ptr r 0] [] (fun s=>[(r,.box 117 (dJ s))]) (fun n=>.int .i64 n) wP:=⟨Tryz.call259,yK,fun s hs=>MW r s hs⟩
theorem SE(r:Nat):Gets Tryz.prog 68 [.ptr r 0] [] (fun s=>[(r,.box 117 (dJ s))]) (fun n=>.int .i64 n) inN:=⟨Tryz.call68,aCr,fun s hs=>jR r s hs⟩
theorem aE1(r:Nat)(s:St)(hs:SOk s):SCall Tryz.prog 168 [.ptr r 0] [(r,.box 117 (dJ s))]
  (fun x σ=>x=.agg (cP (tyN s).1)∧σ=[(r,.box 117 (dJ (tyN s).2))]):=by
 have w1:=oL r s hs;have k1:=nI s hs;have w2:=BD (KM r) _ k1;have k2:=sX yK _ k1;have w3:=BD (KM r) _ k2;have hT:tyN s=(⟨(fP wP (lE s).2).1,(fP wP (fP wP (lE s).2).2).1⟩,(fP wP (fP wP (lE s).2).2).2):=rfl;rw[hT];generalize(lE s).2=s1 at w1 w2 w3;generalize fP wP s1=p2 at w2 w3;obtain⟨a,s2⟩:=p2;dsimp only at w2 w3;generalize fP wP s2=p3 at w3;obtain⟨c,s3⟩:=p3;dsimp only at w3;refine cC 14 [0,2] Tryz.func168 ?_;refine dG ?_;refine jZ fun r2 h2=> ?_;intros
 refine jI ?_;refine eU ?_;refine cw [(r,.box 117 (dJ s))] Tryz.call67 w1 rfl aC aA ?_;rintro _ σ' ⟨rfl,rfl⟩ h4;refine fN ?_;refine kL ?_;refine QK ?_;refine cw [(r,.box 117 (dJ s1))] Tryz.call171 w2 rfl aC aA ?_;rintro _ σ' ⟨q8,hq8,rfl,rfl⟩ h8;simp only[aP,aX,and_true]at hq8;have k8:=bB h8;repeat rcases k8 with⟨_,k8⟩
 apply aZ;exact bN;refine iR (j:=8) rfl bH (aM aO (by simp)) ?_;refine lo (aF (E rfl)) rfl ?_;refine lo (aF (E rfl)) rfl ?_;refine QK ?_;refine cw [(r,.box 117 (dJ s2))] Tryz.call171 w3 rfl aC aA ?_;rintro _ σ' ⟨q12,hq12,rfl,rfl⟩ h12;simp only[aP,aX,and_true]at hq12;have k12:=bB h12;repeat rcases k12 with⟨_,k12⟩
 apply aZ;exact bN;refine iR (j:=12) rfl bH (aM aO (by simp)) ?_;refine jY ?_;refine jJ ?_;exact aD aE ⟨by rfl,rfl⟩ aA
theorem aAp(r:Nat)(s:St)(hs:SOk s):SCall Tryz.prog 170 [.ptr r 0] [(r,.box 117 (dJ s))]
  (fun x σ=>x=.agg (eE (imN s).1)∧σ=[(r,.box 117 (dJ (imN s).2))]):=by
 have w1:=MX r s hs;have k1:=DO s hs;have w2:=MX r _ k1;have k2:=DO _ k1;have w3:=oL r _ k2;have w4:=jR r _ (nI _ k2);refine cC 15 [0,2,3] Tryz.func170 ?_;refine dG ?_;refine jZ fun r2 h2=> ?_;intros
 refine jI ?_;refine eU ?_;refine cw [(r,.box 117 (dJ s))] Tryz.call260 w1 rfl aC aA ?_;rintro _ σ' ⟨rfl,rfl⟩ h5;refine yU ?_;refine HX [(r,.box 117 (dJ (AW s).2))] Tryz.call260 w2 ?_;refine jY ?_;refine jZ fun r3 h3=> ?_;intros
 refine nB ?_;refine cw [(r,.box 117 (dJ (AW (AW s).2).2))] Tryz.call67 w3 rfl aC aA ?_;rintro _ σ' ⟨rfl,rfl⟩ h10;refine fN ?_;refine eU ?_;refine HX [(r,.box 117 (dJ (lE (AW (AW s).2).2).2))] Tryz.call68 w4 ?_;refine oI ?_;refine nY ?_;refine pM ?_;refine jJ ?_;exact aD aE ⟨by rfl,rfl⟩ aA
theorem aAq(r:Nat)(s:St)(hs:SOk s):SCall Tryz.prog 174 [.ptr r 0] [(r,.box 117 (dJ s))]
  (fun x σ=>x=.agg (eA (glN s).1)∧σ=[(r,.box 117 (dJ (glN s).2))]):=by
 have w1:=MW r s hs;have k1:=yK s hs;have w2:=oL r _ k1;have k2:=nI _ k1;have w3:=DP r _ k2;have ht:(((lE (wP s).2).1:Int) !=0)=((lE (wP s).2).1 !=0):=by rw[Bool.eq_iff_iff];simp only[bne_iff_ne,ne_eq];omega
 refine cC 11 [0,2] Tryz.func174 ?_;refine dG ?_;refine jZ fun r2 h2=> ?_;intros
 refine jI ?_;refine eU ?_;refine cw [(r,.box 117 (dJ s))] Tryz.call259 w1 rfl aC aA ?_;rintro _ σ' ⟨rfl,rfl⟩ h4;refine fN ?_;refine eU ?_;refine HX [(r,.box 117 (dJ (wP s).2))] Tryz.call67 w2 ?_;refine lo (gA (E rfl) (E rfl)) rfl ?_;rw[ht];refine lo (aF (E rfl)) rfl ?_;refine HX [(r,.box 117 (dJ (lE (wP s).2).2))] Tryz.call264 w3 ?_;refine jY ?_;refine jJ ?_;exact aD aE ⟨by rfl,rfl⟩ aA
theorem aAr(r:Nat)(s:St)(hs:SOk s):SCall Tryz.prog 176 [.ptr r 0] [(r,.box 117 (dJ s))]
  (fun x σ=>x=.agg (dH (exN s).1)∧σ=[(r,.box 117 (dJ (exN s).2))]):=by
 have w1:=MX r s hs;have k1:=DO s hs;have w3:=oL r _ k1;have w4:=jR r _ (nI _ k1);refine cC 13 [0,2,3] Tryz.func176 ?_;refine dG ?_;refine jZ fun r2 h2=> ?_;intros
 refine jI ?_;refine eU ?_;refine HX [(r,.box 117 (dJ s))] Tryz.call260 w1 ?_;refine jY ?_;refine jZ fun r3 h3=> ?_;intros
 refine nB ?_;refine cw [(r,.box 117 (dJ (AW s).2))] Tryz.call67 w3 rfl aC aA ?_;rintro _ σ' ⟨rfl,rfl⟩ h8;refine fN ?_;refine eU ?_;refine HX [(r,.box 117 (dJ (lE (AW s).2).2))] Tryz.call68 w4 ?_;refine oI ?_;refine nY ?_;refine pM ?_;refine jJ ?_;exact aD aE ⟨by rfl,rfl⟩ aA
theorem aIF(ls:List Int):VLe (.agg [.ro 1 (ls.map aR) .any,.ro 0 [] .nil]) (.agg (dP ⟨ls,[]⟩)):=by
 refine VLe.agg rfl fun j a a' ha ha'=> ?_
 match j with
 |0=>cases ha;cases ha';exact VLe.refl _
 |1=>cases ha;cases ha';exact VLe.empty
 | _ +2=>cases ha
theorem aE2(r:Nat)(s:St)(hs:SOk s):SCall Tryz.prog 181 [.ptr r 0] [(r,.box 117 (dJ s))]
  (fun x σ=>x=.agg (dP (MP s).1)∧σ=[(r,.box 117 (dJ (MP s).2))]):=by
 have w1:=jR r s hs;have k1:=iO s hs;have w2:=aAo r _ k1;have k2:=aCp _ k1;have hC:MP s=if(zF (gI s).2).2.2=true then(⟨(zF (gI s).2).1,[]⟩,(zF (gI s).2).2)else(⟨(zF (gI s).2).1,(lK (zF (gI s).2).2.1).1⟩,vP (zF (gI s).2).2 (lK (zF (gI s).2).2.1).2.1 ((lK (zF (gI s).2).2.1).2.2==0)):=rfl
 generalize zF (gI s).2=p at w2 k2 hC;obtain⟨ls,l2,b2⟩:=p;dsimp only at w2 k2 hC;have w3:=aB6 l2 (by have:=k2.1;dsimp only at this;omega) k2.2;have w4:=fun n ok=>BC r (l2,b2) k2 n ok
 generalize lK l2=g at w3 hC;obtain⟨l,n,e⟩:=g;dsimp only at w3 hC;have w5:=w4 n (e==0);refine cC 34 [0,2,3,4,5,6,15] Tryz.func181 ?_;refine dG ?_;refine jZ fun r2 h2=> ?_;intros
 refine jI ?_;refine eU ?_;refine cw [(r,.box 117 (dJ s))] Tryz.call68 w1 rfl aC aA ?_;rintro _ σ' ⟨rfl,rfl⟩ h8;refine fN ?_;refine eU ?_;refine cw [(r,.box 117 (dJ (gI s).2))] Tryz.call265 w2 rfl aC aA ?_;rintro _ σ' ⟨q,hq,rfl,rfl⟩ h10;have k10:=bB h10;repeat rcases k10 with⟨_,k10⟩
 apply aZ;exact bN;refine iR (j:=10) rfl bH (aM aO (by simp)) ?_;refine jY ?_;refine jZ fun r3 h3=> ?_;intros
 refine jJ ?_;unfold dJ;dsimp only;refine eU ?_;refine nN ?_;refine jI ?_;refine aB rfl (fun g3=> ?_) (fun g3=> ?_)
 ·have hE:MP s=(⟨ls,[]⟩,(l2,true)):=by rw[hC,g3];rfl
  rw[g3];refine pM ?_;refine jT (eK (j:=16) rfl (aIF ls)) ?_;refine jJ ?_;exact aD aE ⟨by rw[hE];rfl,by rw[hE]⟩ aA
 have hE:MP s=(⟨ls,l⟩,vP (l2,false) n (e==0)):=by rw[hC,g3];rfl
 rw[g3]at w5⊢;refine dO ?_;refine nN ?_;refine cw [] Tryz.call266 w3 rfl aC aA ?_;rintro _ σ' ⟨q22,rfl,rfl⟩ h22
 replace h22:=gU h22;repeat rcases h22 with⟨_,h22⟩
 refine QS ?_;refine oQ ?_;refine yD ?_;refine lo (cI (E rfl) (E rfl)) rfl ?_;refine cw [(r,.box 117 (dJ (l2,false)))] Tryz.call66 w5 rfl aC aA ?_;rintro _ σ' ⟨rfl,rfl⟩ h30;refine fN ?_;refine eU ?_;refine iR (j:=31) rfl bH (aM aO (by simp)) ?_;refine oI ?_;refine nY ?_;refine pM ?_;refine jJ ?_;exact aD aE ⟨by rw[hE];rfl,by rw[hE]⟩ aA
theorem aE3{r c d:Nat}{before:Bool}(hc:Nq r c)(hd:Nq r d)(hcd:Nq c d):Gets Tryz.prog 262 [] [.ptr c 0,.ptr d 0] (fun s=>[(r,.box 117 (dJ s)),(c,.box 4 [.bool before]),(d,.box 114 [.ptr r 0])]) (fun x=>.agg (fA x)) (tbN before):=by
 refine⟨Tryz.call262,aHa before,fun s hs=> ?_⟩;have w1:=oL r s hs;have w2:=KL r _ (nI s hs);have w3:=KL r s hs;refine cC 8 [0,1,2,3] Tryz.func262 ?_;refine dG ?_;refine jZ fun r2 h2=> ?_;intros
 refine jI ?_;rcases before with _ | _
 ·refine jH ?_;refine rN ?_;refine kU ?_;refine dG ?_;refine rN ?_;refine cw [(r,.box 117 (dJ s))] Tryz.call263 w3 rfl aC aA ?_;rintro _ σ' ⟨rfl,rfl⟩ h7;apply aZ;exact bN;refine jJ ?_;exact aD aE ⟨by rfl,rfl⟩ aA
 ·refine jH ?_;refine rN ?_;refine kU ?_;refine dG ?_;refine rN ?_;refine cw [(r,.box 117 (dJ s))] Tryz.call67 w1 rfl aC aA ?_;rintro _ σ' ⟨rfl,rfl⟩ h5;refine AJ ?_;refine dG ?_;refine rN ?_;refine HX [(r,.box 117 (dJ (lE s).2))] Tryz.call263 w2 ?_;refine jJ ?_;exact aD aE ⟨by rfl,rfl⟩ aA
theorem GK(r:Nat)(s:St)(hs:SOk s)(before:Bool):SCall Tryz.prog 172 [.ptr r 0,.bool before] [(r,.box 117 (dJ s))]
  (fun x σ=>x=.agg (fA (RO before s).1)∧σ=[(r,.box 117 (dJ (RO before s).2))]):=by
 have w1:=fun(c d:Nat) hc hd hcd=>aEZ (r:=r) (c:=c) (d:=d) (before:=before) hc hd hcd (aE3 hc hd hcd) s hs
 have hL:RO before s=((fP (tbN before) s).1.headD IT,(fP (tbN before) s).2):=rfl;generalize fP (tbN before) s=p at w1 hL;obtain⟨l,s2⟩:=p;dsimp only at w1 hL;refine cC 16 [0,1,2,3,4,5,11] Tryz.func172 ?_;refine dG ?_;refine iG fun r2 h2=> ?_;intros
 refine iG fun r3 h3=> ?_;intros
 refine jZ fun r4 h4=> ?_;intros
 refine kU ?_;refine dG ?_;refine rN ?_;refine aL8 ?_;refine cw [(r,.box 117 (dJ s)),(r3,.box 4 [.bool before]),(r2,.box 114 [.ptr r 0])] Tryz.call261 (w1 r3 r2 (by(exact bA)) (by(exact bA)) (by(exact bA))) rfl aC aA ?_;rintro _ σ' ⟨q8,hq8,rfl,rfl⟩ h8;simp only[aP,aX,and_true]at hq8;repeat rcases hq8 with⟨_,hq8⟩
 have k8:=bB h8;repeat rcases k8 with⟨_,k8⟩
 refine eR ?_;refine eU ?_;refine uM ?_;refine aB rfl (fun g2=> ?_) (fun g2=> ?_)
 ·obtain rfl:l=[]:=by cases l with|nil=>rfl|cons x t=>(simp at g2<;>omega)
  have hE:RO before s=(IT,s2):=hL;refine dG ?_;refine jY ?_;refine jJ ?_;exact aD aE ⟨by rw[hE];rfl,by rw[hE]⟩ aA
 obtain⟨x,t,rfl⟩:∃x t,l=x::t:=by cases l with|nil=>simp at g2|cons x t=>exact⟨x,t,rfl⟩
 have hE:RO before s=(x,s2):=hL;have hx:(x::t)[(0:Int).toNat]? =some x:=rfl;have hpos:0<(x::t).length:=Nat.succ_pos _;refine dO ?_;refine qQ ?_;refine jJ ?_;exact aD aE ⟨by rw[hE];rfl,by rw[hE]⟩ aA
theorem aE4{r c:Nat}(hc:Nq r c):Gets Tryz.prog 178 [] [.ptr c 0] (fun s=>[(r,.box 117 (dJ s)),(c,.box 114 [.ptr r 0])]) (fun x=>.agg (dX x)) eeN:=by
 refine⟨Tryz.call178,aHc,fun s hs=> ?_⟩;have w1:=SD r s hs;have w2:=BD (SE r) _ (SC s hs);have hE:eeN s=(⟨(PU s).1,(fP inN (PU s).2).1⟩,(fP inN (PU s).2).2):=rfl;rw[hE];generalize PU s=p at w1 w2;obtain⟨o,s2⟩:=p;dsimp only at w1 w2;generalize fP inN s2=p at w2;obtain⟨l,s3⟩:=p;dsimp only at w2;refine cC 9 [0,1] Tryz.func178 ?_;refine dG ?_;refine jZ fun r1 h1=> ?_;intros
 refine jI ?_;refine fK [(0,true),(2,true),(3,true),(4,true),(1,false),(5,false),(6,true),(7,false)] ?_;refine z74 ?_;refine z74 ?_;refine z74 ?_;refine aL9 ?_;refine sD [(r,.box 117 (dJ s))] rfl Tryz.call179 w1 rfl aC aA fS ?_;rintro _ σ' ⟨rfl,rfl⟩ h3;apply bZ;exact bN;refine sD [(r,.box 117 (dJ s2))] rfl Tryz.call171 w2 rfl aC aA fS ?_;rintro _ σ' ⟨q7,hq7,rfl,rfl⟩ h7;simp only[aP,aX,and_true]at hq7;have k7:=bB h7;repeat rcases k7 with⟨_,k7⟩
 apply bZ;exact bN;refine IJ ?_;refine HZ ?_;refine yR ?_;refine an ?_;refine dZ (iD (r:=r1) (q:=q7) cJ bH (.cons (.refl _) (.cons (aM aO (by simp)) .nil))) ?_;refine aI ?_;exact aD aE ⟨by rfl,rfl⟩ aA
theorem aE5{r c:Nat}(hc:Nq r c):Gets Tryz.prog 183 [] [.ptr c 0] (fun s=>[(r,.box 117 (dJ s)),(c,.box 114 [.ptr r 0])]) (fun x=>.agg (eB x)) ddN:=by
 refine⟨Tryz.call183,aCv,fun s hs=> ?_⟩;have w1:=SD r s hs;have w2:=aCw r _ (SC s hs);have hE:ddN s=(⟨(PU s).1,(AW (PU s).2).1⟩,(AW (PU s).2).2):=rfl;rw[hE];generalize PU s=p at w1 w2;obtain⟨o,s2⟩:=p;dsimp only at w1 w2;generalize AW s2=p at w2;obtain⟨l,s3⟩:=p;dsimp only at w2;refine cC 7 [0,1] Tryz.func183 ?_;refine dG ?_;refine jZ fun r1 h1=> ?_;intros
 refine jI ?_;refine fK [(0,true),(2,true),(1,false),(3,false),(4,true),(5,false)] ?_;refine z74 ?_;refine z74 ?_;refine sD [(r,.box 117 (dJ s))] rfl Tryz.call179 w1 rfl aC aA fS ?_;rintro _ σ' ⟨rfl,rfl⟩ h3;apply bZ;exact bN;refine sD [(r,.box 117 (dJ s2))] rfl Tryz.call184 w2 rfl aC aA fS ?_;rintro _ σ' ⟨q5,hq5,rfl,rfl⟩ h5;have k5:=bB h5;repeat rcases k5 with⟨_,k5⟩
 apply bZ;exact bN;refine IJ ?_;refine HZ ?_;refine yR ?_;refine an ?_;refine dZ (iD (r:=r1) (q:=q5) cJ bH (.cons (.refl _) (.cons (aM aO (by simp)) .nil))) ?_;refine aI ?_;exact aD aE ⟨by rfl,rfl⟩ aA
theorem aE6(r:Nat):Gets Tryz.prog 168 [.ptr r 0] [] (fun s=>[(r,.box 117 (dJ s))]) (fun x=>.agg (cP x)) tyN:=⟨Tryz.call168,aG9,fun s hs=>aE1 r s hs⟩
theorem aE7(r:Nat):Gets Tryz.prog 170 [.ptr r 0] [] (fun s=>[(r,.box 117 (dJ s))]) (fun x=>.agg (eE x)) imN:=⟨Tryz.call170,aCs,fun s hs=>aAp r s hs⟩
theorem aE8(r:Nat):Gets Tryz.prog 174 [.ptr r 0] [] (fun s=>[(r,.box 117 (dJ s))]) (fun x=>.agg (eA x)) glN:=⟨Tryz.call174,aCt,fun s hs=>aAq r s hs⟩
theorem aE9(r:Nat):Gets Tryz.prog 176 [.ptr r 0] [] (fun s=>[(r,.box 117 (dJ s))]) (fun x=>.agg (dH x)) exN:=⟨Tryz.call176,aCu,fun s hs=>aAr r s hs⟩
theorem aFa(r:Nat):Gets Tryz.prog 181 [.ptr r 0] [] (fun s=>[(r,.box 117 (dJ s))]) (fun x=>.agg (dP x)) MP:=⟨Tryz.call181,aCq,fun s hs=>aE2 r s hs⟩
theorem VP(r m:Nat)(hrm:Nq r m)(s:St)(hs:SOk s)(M:Md)(no:Nat):SCall Tryz.prog 69 [.ptr r 0,.ptr m 0,.int .i64 no] [(r,.box 117 (dJ s)),(m,.box 33 (aS M))]
  (fun x σ=>x=.tup []∧σ=[(r,.box 117 (dJ (vH no M s).2)),(m,.box 33 (aS (vH no M s).1))]):=by
 obtain⟨ty,im,fn,tb,me,gl,ex,el,co,da⟩:=M;refine cC 94 [0,1,2,3,6,10,19,28,37,44,51,60,69,77,86] Tryz.func69 ?_;unfold aS;dsimp only;refine dG ?_;refine iG fun r3 h3=> ?_;intros
 refine jI ?_;refine eU ?_;refine qS ?_;refine aB rfl (fun g3=> ?_) (fun g3=> ?_)
 ·obtain rfl:no=1:=by simp at g3;omega
  have hE:vH 1 ⟨ty,im,fn,tb,me,gl,ex,el,co,da⟩ s=(⟨(fP tyN s).1,im,fn,tb,me,gl,ex,el,co,da⟩,(fP tyN s).2):=rfl;refine dO ?_;refine rN ?_;refine rN ?_;refine QK ?_;refine cw [(r,.box 117 (dJ s))] Tryz.call167 (aES (aE6 r) s hs) rfl aC aA ?_;rintro _ σ' ⟨q16,hq16,rfl,rfl⟩ h16;simp only[aP,aX,and_true]at hq16;have k16:=bB h16;repeat rcases k16 with⟨_,k16⟩
  apply aZ;exact bN;refine iR (j:=16) rfl bH (aM aO (by simp)) ?_;refine qO ?_;refine bY ?_;exact aD aE ⟨by rfl,by rw[hE]⟩ aA
 refine dC ?_;refine aB rfl (fun g5=> ?_) (fun g5=> ?_)
 ·obtain rfl:no=2:=by simp at g5;omega
  have hE:vH 2 ⟨ty,im,fn,tb,me,gl,ex,el,co,da⟩ s=(⟨ty,(fP imN s).1,fn,tb,me,gl,ex,el,co,da⟩,(fP imN s).2):=rfl;refine dO ?_;refine rN ?_;refine rN ?_;refine QK ?_;refine cw [(r,.box 117 (dJ s))] Tryz.call169 (aET (aE7 r) s hs) rfl aC aA ?_;rintro _ σ' ⟨q25,hq25,rfl,rfl⟩ h25;simp only[aP,aX,and_true]at hq25;have k25:=bB h25;repeat rcases k25 with⟨_,k25⟩
  apply aZ;exact bN;refine iR (j:=25) rfl bH (aM aO (by simp)) ?_;refine qO ?_;refine bY ?_;exact aD aE ⟨by rfl,by rw[hE]⟩ aA
 refine dC ?_;refine aB rfl (fun g7=> ?_) (fun g7=> ?_)
 ·obtain rfl:no=3:=by simp at g7;omega
  have hE:vH 3 ⟨ty,im,fn,tb,me,gl,ex,el,co,da⟩ s=(⟨ty,im,(fP inN s).1,tb,me,gl,ex,el,co,da⟩,(fP inN s).2):=rfl;refine dO ?_;refine rN ?_;refine rN ?_;refine QK ?_;refine cw [(r,.box 117 (dJ s))] Tryz.call171 (BD (SE r) s hs) rfl aC aA ?_;rintro _ σ' ⟨q34,hq34,rfl,rfl⟩ h34;simp only[aP,aX,and_true]at hq34;have k34:=bB h34;repeat rcases k34 with⟨_,k34⟩
  apply aZ;exact bN;refine iR (j:=34) rfl bH (aM aO (by simp)) ?_;refine qO ?_;refine bY ?_;exact aD aE ⟨by rfl,by rw[hE]⟩ aA
 refine dC ?_;refine aB rfl (fun g9=> ?_) (fun g9=> ?_)
 ·obtain rfl:no=4:=by simp at g9;omega
  have hE:vH 4 ⟨ty,im,fn,tb,me,gl,ex,el,co,da⟩ s=(⟨ty,im,fn,(RO true s).1,me,gl,ex,el,co,da⟩,(RO true s).2):=rfl;refine dO ?_;refine rN ?_;refine HX [(r,.box 117 (dJ s))] Tryz.call172 (GK r s hs true) ?_;refine qO ?_;refine bY ?_;exact aD aE ⟨by rfl,by rw[hE]⟩ aA
 refine dC ?_;refine aB rfl (fun g11=> ?_) (fun g11=> ?_)
 ·obtain rfl:no=5:=by simp at g11;omega
  have hE:vH 5 ⟨ty,im,fn,tb,me,gl,ex,el,co,da⟩ s=(⟨ty,im,fn,tb,(RO false s).1,gl,ex,el,co,da⟩,(RO false s).2):=rfl;refine dO ?_;refine rN ?_;refine HX [(r,.box 117 (dJ s))] Tryz.call172 (GK r s hs false) ?_;refine qO ?_;refine bY ?_;exact aD aE ⟨by rfl,by rw[hE]⟩ aA
 refine dC ?_;refine aB rfl (fun g13=> ?_) (fun g13=> ?_)
 ·obtain rfl:no=6:=by simp at g13;omega
  have hE:vH 6 ⟨ty,im,fn,tb,me,gl,ex,el,co,da⟩ s=(⟨ty,im,fn,tb,me,(fP glN s).1,ex,el,co,da⟩,(fP glN s).2):=rfl;refine dO ?_;refine rN ?_;refine rN ?_;refine QK ?_;refine cw [(r,.box 117 (dJ s))] Tryz.call173 (aEU (aE8 r) s hs) rfl aC aA ?_;rintro _ σ' ⟨q57,hq57,rfl,rfl⟩ h57;simp only[aP,aX,and_true]at hq57;have k57:=bB h57;repeat rcases k57 with⟨_,k57⟩
  apply aZ;exact bN;refine iR (j:=57) rfl bH (aM aO (by simp)) ?_;refine qO ?_;refine bY ?_;exact aD aE ⟨by rfl,by rw[hE]⟩ aA
 refine dC ?_;refine aB rfl (fun g15=> ?_) (fun g15=> ?_)
 ·obtain rfl:no=7:=by simp at g15;omega
  have hE:vH 7 ⟨ty,im,fn,tb,me,gl,ex,el,co,da⟩ s=(⟨ty,im,fn,tb,me,gl,(fP exN s).1,el,co,da⟩,(fP exN s).2):=rfl;refine dO ?_;refine rN ?_;refine rN ?_;refine QK ?_;refine cw [(r,.box 117 (dJ s))] Tryz.call175 (aEV (aE9 r) s hs) rfl aC aA ?_;rintro _ σ' ⟨q66,hq66,rfl,rfl⟩ h66;simp only[aP,aX,and_true]at hq66;have k66:=bB h66;repeat rcases k66 with⟨_,k66⟩
  apply aZ;exact bN;refine iR (j:=66) rfl bH (aM aO (by simp)) ?_;refine qO ?_;refine bY ?_;exact aD aE ⟨by rfl,by rw[hE]⟩ aA
 refine dC ?_;refine aB rfl (fun g17=> ?_) (fun g17=> ?_)
 ·obtain rfl:no=9:=by simp at g17;omega
  have hE:vH 9 ⟨ty,im,fn,tb,me,gl,ex,el,co,da⟩ s=(⟨ty,im,fn,tb,me,gl,ex,(fP eeN s).1,co,da⟩,(fP eeN s).2):=rfl;refine dO ?_;refine rN ?_;refine ZM ?_;refine cw [(r,.box 117 (dJ s)),(r3,.box 114 [.ptr r 0])] Tryz.call177 (aEX (r:=r) (c:=r3) (by(exact bA)) (aE4 (by(exact bA))) s hs) rfl aC aA ?_;rintro _ σ' ⟨q74,hq74,rfl,rfl⟩ h74;simp only[aP,aX,and_true]at hq74;repeat rcases hq74 with⟨_,hq74⟩
  have k74:=bB h74;repeat rcases k74 with⟨_,k74⟩
  apply aZ;exact bN;refine iR (j:=74) rfl bH (aM aO (by simp)) ?_;refine qO ?_;refine bY ?_;exact aD aE ⟨by rfl,by rw[hE]⟩ aA
 refine dC ?_;refine aB rfl (fun g19=> ?_) (fun g19=> ?_)
 ·obtain rfl:no=10:=by simp at g19;omega
  have hE:vH 10 ⟨ty,im,fn,tb,me,gl,ex,el,co,da⟩ s=(⟨ty,im,fn,tb,me,gl,ex,el,(fP MP s).1,da⟩,(fP MP s).2):=rfl;refine dO ?_;refine rN ?_;refine rN ?_;refine QK ?_;refine cw [(r,.box 117 (dJ s))] Tryz.call180 (aEW (aFa r) s hs) rfl aC aA ?_;rintro _ σ' ⟨q83,hq83,rfl,rfl⟩ h83;simp only[aP,aX,and_true]at hq83;have k83:=bB h83;repeat rcases k83 with⟨_,k83⟩
  apply aZ;exact bN;refine iR (j:=83) rfl bH (aM aO (by simp)) ?_;refine qO ?_;refine bY ?_;exact aD aE ⟨by rfl,by rw[hE]⟩ aA
 refine dC ?_;refine aB rfl (fun g21=> ?_) (fun g21=> ?_)
 ·obtain rfl:no=11:=by simp at g21;omega
  have hE:vH 11 ⟨ty,im,fn,tb,me,gl,ex,el,co,da⟩ s=(⟨ty,im,fn,tb,me,gl,ex,el,co,(fP ddN s).1⟩,(fP ddN s).2):=rfl;refine dO ?_;refine rN ?_;refine ZM ?_;refine cw [(r,.box 117 (dJ s)),(r3,.box 114 [.ptr r 0])] Tryz.call182 (aEY (r:=r) (c:=r3) (by(exact bA)) (aE5 (by(exact bA))) s hs) rfl aC aA ?_;rintro _ σ' ⟨q91,hq91,rfl,rfl⟩ h91;simp only[aP,aX,and_true]at hq91;repeat rcases hq91 with⟨_,hq91⟩
  have k91:=bB h91;repeat rcases k91 with⟨_,k91⟩
  apply aZ;exact bN;refine iR (j:=91) rfl bH (aM aO (by simp)) ?_;refine qO ?_;refine bY ?_;exact aD aE ⟨by rfl,by rw[hE]⟩ aA
 have e1:no≠1:=by(simp at g3;omega)
 have e2:no≠2:=by(simp at g5;omega)
 have e3:no≠3:=by(simp at g7;omega)
 have e4:no≠4:=by(simp at g9;omega)
 have e5:no≠5:=by(simp at g11;omega)
 have e6:no≠6:=by(simp at g13;omega)
 have e7:no≠7:=by(simp at g15;omega)
 have e9:no≠9:=by(simp at g17;omega)
 have e10:no≠10:=by(simp at g19;omega)
 have e11:no≠11:=by(simp at g21;omega)
 have hE:vH no ⟨ty,im,fn,tb,me,gl,ex,el,co,da⟩ s=(⟨ty,im,fn,tb,me,gl,ex,el,co,da⟩,(s.1,true)):=by unfold vH;rw[if_neg e1];rw[if_neg e2];rw[if_neg e3];rw[if_neg e4];rw[if_neg e5];rw[if_neg e6];rw[if_neg e7];rw[if_neg e9];rw[if_neg e10];rw[if_neg e11]
 refine dG ?_;refine rN ?_;refine qO ?_;refine bY ?_;exact aD aE ⟨by rfl,by rw[hE]⟩ aA
end Go.Proofs.YtjpdadobblffmaaGreat
namespace Go.Proofs.YtjpdadobblffmaaGreat
open Go.RowKit Go.ChangeShapes Go.WideShapes Go.ChangeAt Go.Deep
theorem MY(bs:List Nat)(l h:Nat):(dE bs).extract l h=dE ((bs.drop l).take (h-l)):=by
 have:((dE bs).extract l h).data=(dE ((bs.drop l).take (h-l))).data:=by
  rw[ByteArray.data_extract];simp[dE,List.extract_eq_take_drop]
 cases h1:(dE bs).extract l h
 rw[h1]at this;simp only at this;rw[this]
section
variable {P : Program} {ty t : TypeId} {s : ASt} {c : Bool} {x : Operand}
theorem yL [Ty P t .string] {bs:List Nat}{lo hi:Option Operand}{l h:Nat}(hx:Ev s c x (.str (dE bs)))(hl:OB s c 0 lo l)(hh:OB s c bs.length hi h)(h1:c=true→l≤h∧h≤bs.length):
  Lop P (.slice t x lo hi none) ty s c (.str (dE ((bs.drop l).take (h-l)))) []:=
 Lop.pure_ fun M F N n a w hr hc=>by
  obtain⟨h1,h2⟩:=h1 hc;have hlb:VB 0 (lo.map a.eval) l:=hl.vb hr hc;have hhb:VB bs.length (hi.map a.eval) h:=hh.vb hr hc;have hsz:(dE bs).size=bs.length:=by simp[dE,ByteArray.size]
  have hb:∀(k:IntKind) (b y:Nat) (code:BoundsCode) (w:World),b≤y→(Instr.sliceBound (.int k b) y code).run P w=.ok b w:=fun k b y code w hby=>by
   rw[run_sliceBound w k b y code (by omega) (by omega)];simp
  refine⟨_,.str _,fun w' o ho _=> ?_⟩;have key2:∀(lo' hi':Option Value),VB 0 lo' l→VB bs.length hi' h→(Instr.sliceBounds false bs.length bs.length lo' hi' none).run P w'=.ok (l,h,bs.length) w':=by
   intro lo' hi' k1 k2;cases k1<;>cases k2<;>simp[Instr.sliceBounds,hb,h1,h2]
  have key:=key2 _ _ hlb hhb;have hrun:(Instr.sliceAt t (.string (dE bs)) (lo.map a.eval) (hi.map a.eval) none).run P w'=.ok (.string (dE ((bs.drop l).take (h-l)))) w':=by
   simp[Instr.sliceAt,Instr.slice,run_underlying (Ty.und (P:=P) (t:=t)),hsz,key,MY]
  simp[execOp,ho,hx.str hr hc,hrun]
theorem yM [Ty P t .string] {bs:List Nat}{y:Operand}{ki:IntKind}{m:Int}{b:Nat}(hx:Ev s c x (.str (dE bs)))(hi:Ev s c y (.int ki m))(hm:c=true→0≤m)(hv:c=true→bs[m.toNat]? =some b)(hb:c=true→b<256):Lop P (.index t x y) ty s c (.int .u8 b) []:=
 Lop.pure_ fun M F N n a w hr hc=>by
  have hm:=hm hc;have hv:=hv hc;have hb:=hb hc;have hg:(dE bs)[m.toNat]? =some (UInt8.ofNat b):=by
   have hlt:=(List.getElem?_eq_some_iff.1 hv).1;have e:(dE bs).size=bs.length:=by simp[dE,ByteArray.size]
   rw[getElem?_pos (dE bs) m.toNat (by rw[e];exact hlt)];have h2:=(List.getElem?_eq_some_iff.1 hv).2;simp[ByteArray.getElem_eq_getElem_data,dE,h2]
  refine⟨_,.int _ _,fun w' o ho _=> ?_⟩;simp[execOp,ho,hx.str hr hc,hi.int hr hc,Instr.index,asIntOf,run_underlying (Ty.und (P:=P) (t:=t)),hm,hg];omega
end
end Go.Proofs.YtjpdadobblffmaaGreat
namespace Go.Proofs.YtjpdadobblffmaaGreat
open Go.RowKit Go.ChangeShapes Go.WideShapes Go.ChangeAt Go.Deep
attribute [local irreducible] SW RS RD fH eH
theorem MZ{s:St}(h:SOk s):kW (AW s).1:=by
 have h1:=iO s h;unfold AW;dsimp only;split
 ·exact⟨by simp,by simp⟩
 ·exact⟨by have:=h1.1;simp;omega,fun c hc=>h1.2 c (List.mem_of_mem_take hc)⟩
theorem aCx{α:Type}{get:St→α×St}{p:α→Prop}(hk:Kp get)(hp:∀s,SOk s→p (get s).1):∀n s,SOk s→(∀x∈(kC get n s).1,p x)∧(kC get n s).1.length≤n
 |0,s,h=>⟨by simp[kC],by simp[kC]⟩
 |n+1,s,h=>by
  rw[kC];split
  ·exact⟨by simp,by simp⟩
  ·obtain⟨h1,h2⟩:=aCx hk hp n _ (hk s h);refine⟨fun x hx=> ?_,by simpa using h2⟩;rcases List.mem_cons.1 hx with rfl|hx
   ·exact hp s h
   ·exact h1 x hx
theorem GL{α:Type}{get:St→α×St}{p:α→Prop}(hk:Kp get)(hp:∀s,SOk s→p (get s).1){s:St}(h:SOk s):(∀x∈(fP get s).1,p x)∧(fP get s).1.length≤4294967296:=by
 obtain⟨h1,h2⟩:=aCx hk hp (gI s).1 _ (iO s h);exact⟨h1,Nat.le_trans h2 (Nat.le_of_lt (wR s))⟩
theorem aFb:ins0.Ok:=⟨by decide,by decide,by decide,by decide,by decide⟩
theorem aCy{l:List Nat}(hlt:∀x∈l,x<256):(fG l).1.Ok:=by
 by_cases h:(fG l).2.2=0
 ·exact(zD hlt h).1
 ·have hf:∀x n e,(nG x n e).2.2≠0→(nG x n e).1=ins0:=fun x n e h=>by
   unfold nG at h⊢;split
   ·rfl
   ·next hh=>rw[if_neg hh]at h;exact absurd rfl h
  have:(fG l).1=ins0:=by
   unfold fG at h⊢;split
   ·rfl
   ·next h1=>
    rw[if_neg h1]at h;split
    ·rfl
    ·next h2=>
     rw[if_neg h2]at h;unfold tP at h⊢;dsimp only at h⊢;repeat' split
     all_goals (first|rfl|skip)
     all_goals apply hf
     all_goals simp_all
  rw[this];exact aFb
theorem aFc{s:St}(h:SOk s):-9223372036854775808≤(PT s).1.2∧(PT s).1.2≤9223372036854775807:=by
 have h1:=aCy h.2;unfold PT;dsimp only;split
 ·exact⟨h1.2.2.1,h1.2.2.2.1⟩
 ·exact⟨h1.2.2.1,h1.2.2.2.1⟩
theorem aFd{s:St}(h:SOk s):(MP s).1.bd.length≤100000∧∀x∈(MP s).1.bd,x.Ok:=by
 have k1:=aCp _ (iO s h);have hC:MP s=if(zF (gI s).2).2.2=true then(⟨(zF (gI s).2).1,[]⟩,(zF (gI s).2).2)else(⟨(zF (gI s).2).1,(lK (zF (gI s).2).2.1).1⟩,vP (zF (gI s).2).2 (lK (zF (gI s).2).2.1).2.1 ((lK (zF (gI s).2).2.1).2.2==0)):=rfl
 rw[hC];split
 ·exact⟨by simp,by simp⟩
 ·have k2:=k1.2;generalize(zF (gI s).2).2.1=l at k2⊢;by_cases he:(lK l).2.2=0
  ·obtain⟨h1,h2,h3⟩:=VJ k2 he;refine⟨?_,fun x hx=>(h3 x hx).1⟩;have:=MN h1;simp only[cW,List.length_map]at this;dsimp only;omega
  ·rw[(aB4 l he).1];exact⟨by simp,by simp⟩
theorem aKW(no:Nat){m:Md}(h:m.WO){s:St}(hs:SOk s):(vH no m s).1.WO:=by
 obtain⟨⟨h1,h2,h3,h4,h7⟩,h5,h6⟩:=h;unfold vH;split
 ·exact⟨⟨h1,h2,h3,h4,h7⟩,h5,h6⟩
 split
 ·have:=GL (p:=fun x:Im=>kW x.mod∧kW x.nm) aCs (fun s hs=>⟨MZ hs,MZ (DO s hs)⟩) hs;exact⟨⟨this.1,h2,h3,this.2,h7⟩,h5,h6⟩
 split
 ·exact⟨⟨h1,h2,h3,h4,h7⟩,h5,h6⟩
 split
 ·exact⟨⟨h1,h2,h3,h4,h7⟩,h5,h6⟩
 split
 ·exact⟨⟨h1,h2,h3,h4,h7⟩,h5,h6⟩
 split
 ·have:=GL (p:=fun g:Gl=> -9223372036854775808≤g.n∧g.n≤9223372036854775807) aCt (fun s hs=>aFc (nI _ (yK s hs))) hs;exact⟨⟨h1,h2,h3,h4,h7⟩,h5,this.1⟩
 split
 ·have:=GL (p:=fun x:Ex=>kW x.nm) aCu (fun s hs=>MZ hs) hs;exact⟨⟨h1,this.1,h3,h4,h7⟩,h5,h6⟩
 split
 ·exact⟨⟨h1,h2,h3,h4,h7⟩,h5,h6⟩
 split
 ·have:=GL (p:=fun c:Co=>c.bd.length≤100000∧∀x∈c.bd,x.Ok) aCq (fun s hs=>aFd hs) hs;exact⟨⟨h1,h2,fun c hc=>(this.1 c hc).1,h4,h7⟩,fun c hc=>(this.1 c hc).2,h6⟩
 split
 ·have:=GL (p:=fun x:Da=>∀c∈x.bs,c<256) aCv (fun s hs=>(MZ (SC s hs)).2) hs;exact⟨⟨h1,h2,h3,h4,this.1⟩,h5,h6⟩
 ·exact⟨⟨h1,h2,h3,h4,h7⟩,h5,h6⟩
theorem aKX(no:Nat)(m:Md){s:St}(hs:SOk s):SOk (vH no m s).2:=by
 unfold vH;split
 ·exact sX aG9 s hs
 split
 ·exact sX aCs s hs
 split
 ·exact sX aCr s hs
 split
 ·exact aHb true s hs
 split
 ·exact aHb false s hs
 split
 ·exact sX aCt s hs
 split
 ·exact sX aCu s hs
 split
 ·exact sX aHc s hs
 split
 ·exact sX aCq s hs
 split
 ·exact sX aCv s hs
 ·exact hs
theorem wo0:md0.WO:=⟨⟨by simp[md0],by simp[md0],by simp[md0],by simp[md0],by simp[md0]⟩,by simp[md0],by simp[md0]⟩
theorem aFe{m:Md}{s:St}(h:(s.1.isEmpty||s.2)=true):DN m s=(m,s):=by
 unfold DN;rw[dlN,if_pos h]
theorem aFf{m:Md}{s:St}(h:s.1≠ [])(hb:s.2=false):DN m s=DN (vH (lE s).1 m (gI (lE s).2).2).1 (vH (lE s).1 m (gI (lE s).2).2).2∧(vH (lE s).1 m (gI (lE s).2).2).2.1.length<s.1.length:=by
 have h1:(vH (lE s).1 m (gI (lE s).2).2).2.1.length<s.1.length:=Nat.lt_of_le_of_lt (aG2 _ _ _) (Nat.lt_of_le_of_lt (qY _) (aGT s h hb));refine⟨?_,h1⟩;unfold DN;rw[dlN,if_neg (by rw[hb];simp[h])];exact AY _ _ _ _ h1 (Nat.lt_succ_self _)
theorem aIG(b:List Nat):xW b=DN md0 (vP (b, !decide (b.take 8=headB)) 8 true):=by
 unfold xW DN;refine AY _ _ _ _ ?_ (Nat.lt_succ_self _);exact Nat.lt_succ_of_le (RQ _ _ _)
theorem GM(bs ps:List Nat)(h1:bs.length≤1000000)(h2:ps.length≤1000000)(l1:∀c∈bs,c<256)(l2:∀c∈ps,c<256):SCall Tryz.prog 165 [.str (dE bs),.str (dE ps)] [] (fun x σ=>x=.bool (decide (bs.take ps.length=ps))∧σ=[]):=by
 have hq:((dE ((bs.drop 0).take (ps.length-0))).toList==(dE ps).toList)=decide (bs.take ps.length=ps):=by
  rw[List.drop_zero,Nat.sub_zero];exact qM (fun c hc=>l1 c (List.mem_of_mem_take hc)) l2
 refine cC 18 [0,1,4] Tryz.func165 ?_;refine bP ?_;by_cases hl:ps.length≤bs.length
 ·have hE:AV.bool (decide (bs.take ps.length=ps))=AV.bool (decide (bs.take ps.length=ps)):=rfl;refine eU ?_;refine lo (fW (E rfl)) rfl ?_;refine lo (aF (E rfl)) rfl ?_;refine lo (fW (E rfl)) rfl ?_;rw[jE,jE];refine lo (gN (E rfl) (E rfl)) rfl ?_;rw[decide_eq_true (show(ps.length:Int)≤bs.length by omega)];refine lM ?_;refine nW ?_;refine aHA ?_;rw[jE];refine aKa ?_;refine nW ?_;refine aKb ?_;rw[hq];refine kM ?_;exact aD aE ⟨by rw[hE];rfl,rfl⟩ aA
 ·have hE:decide (bs.take ps.length=ps)=false:=decide_eq_false fun e=>by have:=congrArg List.length e;simp at this;omega
  refine eU ?_;refine lo (fW (E rfl)) rfl ?_;refine lo (aF (E rfl)) rfl ?_;refine lo (fW (E rfl)) rfl ?_;rw[jE,jE];refine lo (gN (E rfl) (E rfl)) rfl ?_;rw[decide_eq_false (show¬(ps.length:Int)≤bs.length by omega)];refine lM ?_;refine nW ?_;refine aHA ?_;refine aKa ?_;refine nW ?_;refine aKb ?_;refine kM ?_;exact aD aE ⟨by rw[hE];rfl,rfl⟩ aA
theorem IW(bs ps:List Nat)(h1:bs.length≤1000000)(h2:ps.length≤1000000)(l1:∀c∈bs,c<256)(l2:∀c∈ps,c<256):SCall Tryz.prog 65 [.str (dE bs),.str (dE ps)] [] (fun x σ=>x=.bool (decide (bs.take ps.length=ps))∧σ=[]):=by
 refine cC 8 [0,1,4] Tryz.func65 ?_;refine mY ?_;refine lS Tryz.call165 (GM bs ps h1 h2 l1 l2) rfl aU bC ?_;refine cZ ?_;exact aD aE ⟨by rfl,rfl⟩ aA
theorem GN{k k2:Rk}(a c:List Nat)(l1:∀x∈a,x<256)(l2:∀x∈c,x<256):SCall Tryz.prog 70 [.ro 1 (a.map aH) k,.ro 1 (c.map aH) k2] [] (fun x σ=>x=.bool (decide (a=c))∧σ=[]):=by
 refine cC 10 [0,1,4] Tryz.func70 ?_;refine gX ?_;refine aD5 ?_;refine lo (aF (E rfl)) rfl ?_;refine aD5 ?_;refine lo (vU (E rfl) (E rfl)) rfl ?_;refine cZ ?_;exact aD aE ⟨by rw[←qM l1 l2];rfl,rfl⟩ aA
theorem iE{fr:Fr}{σ σ':dU}{r:Nat}{bt:TypeId}{cs cs':List AV}(hs:SSet σ r (.box bt cs) r (.box bt cs') σ')(hb:BorL σ [] cs cs'):SGo ⟨fr,σ⟩ ⟨fr,σ'⟩:=by
 refine qL [] (fun i x' hi=>⟨x',hi,.refl _⟩) (fun p hp=> ?_);refine⟨by simp, ?_⟩;rcases List.mem_cons.1 (hs.sub p hp)with rfl|h
 ·exact⟨_,cE hs.get,.box (aBn hb)⟩
 ·exact⟨p.2,(gB h).1,.refl _⟩
theorem BE{σ:dU}{ts:List Nat}:BorL σ ts [.ro 0 [] .nil,.ro 0 [] .nil,.ro 0 [] .nil,.bool false,.int .i64 0,.int .i64 0,.bool false,.int .i64 0,.int .i64 0,.ro 0 [] .nil,.ro 0 [] .nil,.ro 0 [] .nil,.ro 0 [] .nil,.ro 0 [] .nil] (aS md0):=
 .cons (.le VLe.empty) (.cons (.le VLe.empty) (.cons (.le VLe.empty) (.cons (.refl _) (.cons (.refl _) (.cons (.refl _) (.cons (.refl _) (.cons (.refl _) (.cons (.refl _) (.cons (.le VLe.empty) (.cons (.le VLe.empty) (.cons (.le VLe.empty) (.cons (.le VLe.empty) (.cons (.le VLe.empty) .nil)))))))))))))
theorem aFg:(xW []).2.2=true:=by decide
theorem aFh{b:List Nat}{m:Md}{z:Bool}(h80:¬8000<b.length)(hB:(xW b).2.2=false)(hM:(xW b).1=m)(hz:z=true→(oT m).map aH=[])(hbn:b≠ [])(g:(if z=true then true else !decide (oT m=b))=true):zG b=(md0,1):=by
 unfold zG;rw[if_neg h80,if_neg (by rw[hB];simp),hM,if_neg];rintro⟨e1,e2⟩;have e3:oT m=b:=by unfold oT;rw[if_pos e1,e2]
 rw[e3]at g hz;cases z with
 |true=>exact hbn (by simpa using hz rfl)
 |false=>simp at g
theorem aCz{b:List Nat}{m:Md}{z:Bool}(h80:¬8000<b.length)(hB:(xW b).2.2=false)(hM:(xW b).1=m)(hbn:b≠ [])(g:(if z=true then true else !decide (oT m=b))=false):zG b=(m,0):=by
 have hb:oT m=b:=by cases z with
  |true=>simp at g
  |false=>simpa using g
 have hy:mT m=true:=by
  cases hh:mT m with
  |true=>rfl
  |false=>unfold oT at hb;rw[hh]at hb;exact absurd hb.symm hbn
 unfold oT at hb;rw[if_pos hy]at hb;unfold zG;rw[if_neg h80,if_neg (by rw[hB];simp),hM,if_pos ⟨hy,hb⟩]
theorem BF{a c:List Nat}(h1:∀x∈a,x<256)(h2:∀x∈c,x<256):∀x∈a++c,x<256:=fun x hx=>(List.mem_append.1 hx).elim (h1 x) (h2 x)
theorem GO{α:Type}{l:List α}{pt:α→List Nat}(h:∀x∈l,∀c∈pt x,c<256):∀c∈bD l pt,c<256:=BF (lQ _) fun c hc=>by
 obtain⟨x,hx,hc⟩:=List.mem_flatMap.1 hc;exact h x hx c hc
theorem sA{α:Type}{no:Nat}{l:List α}{pt:α→List Nat}(hno:no<256)(h:∀x∈l,∀c∈pt x,c<256):∀c∈bJ no l pt,c<256:=by
 unfold bJ;split
 ·simp
 ·intro c hc;rcases List.mem_cons.1 hc with rfl|hc
  ·exact hno
  ·exact BF (lQ _) (GO h) c hc
theorem YE(k:Int):∀c∈kB k,c<256:=by unfold kB;split<;>simp
theorem aCA{k n:Int}(hv:mS k n=true)(hn:-9223372036854775808≤n∧n≤9223372036854775807):∀c∈mD k n,c<256:=by
 obtain⟨ho,hm,-⟩:=GC hv hn;exact BF (XK hm) (by simp)
theorem aCB{n:Int}(h:kV n=true):∀c∈qX n,c<256:=by
 have hr:-2147483648≤n∧n≤2147483647:=by unfold kV at h;simpa using h
 intro c hc;rcases List.mem_cons.1 hc with rfl|hc
 ·decide
 ·exact aCA (k:=1) (n:=n) (by unfold mS;simp;omega) (by omega) c hc
theorem aCC(l:Li):∀c∈eM l,c<256:=by
 unfold eM cH;split
 ·intro c hc;rcases List.mem_cons.1 hc with rfl|hc
  ·decide
  ·exact lQ _ c hc
 ·intro c hc;rcases List.mem_cons.1 hc with rfl|hc
  ·decide
  ·exact BF (lQ _) (lQ _) c hc
theorem VQ{s:List Nat}(h:uO s=true):∀c∈bS s,c<256:=BF (lQ _) (lD h).2.1
theorem aIH{x:Co}(h:tR x=true)(hO:∀i∈x.bd,i.Ok):∀c∈kP x,c<256:=by
 unfold tR at h;simp only[Bool.and_eq_true]at h;refine BF (lQ _) (BF (GO fun r _=>BF (lQ _) (YE _)) (aEz fun i hi=>⟨hO i hi,(cA h.2).2 i hi⟩))
theorem aFi{m:Md}(h:qZ m=true)(hw:m.WO):∀c∈fI m,c<256:=by
 obtain⟨hw,hO1,hO2⟩:=hw;unfold qZ at h;simp only[Bool.and_eq_true]at h;obtain⟨⟨⟨⟨-,hco⟩,hls⟩,htb⟩,hme⟩:=h;unfold pE at hls;simp only[Bool.and_eq_true]at hls;obtain⟨⟨⟨⟨⟨⟨hty,him⟩,hfn⟩,hgl⟩,hex⟩,hel⟩,hda⟩:=hls;unfold fI;refine BF (BF (BF (BF (BF (BF (BF (BF (BF (BF ?_ ?_) ?_) ?_) ?_) ?_) ?_) ?_) ?_) ?_) ?_
 ·decide
 ·refine sA (by decide) fun x _ c hc=> ?_
  rcases List.mem_cons.1 hc with rfl|hc
  ·decide
  ·exact BF (GO fun k _=>YE k) (GO fun k _=>YE k) c hc
 ·refine sA (by decide) fun x hx=> ?_
  have:=(cA him).2 x hx;simp only[Bool.and_eq_true]at this;exact BF (BF (BF (VQ this.1.1) (VQ this.1.2)) (by simp)) (lQ _)
 ·exact sA (by decide) fun x _=>lQ _
 ·refine sA (by decide) fun x _ c hc=> ?_
  rcases List.mem_cons.1 hc with rfl|hc
  ·decide
  ·exact aCC x c hc
 ·exact sA (by decide) fun x _=>aCC x
 ·refine sA (by decide) fun x hx=> ?_
  exact BF (BF (YE _) (by intro c hc;rw[List.mem_singleton.1 hc];split<;>decide)) (aCA ((cA hgl).2 x hx) (hO2 x hx))
 ·refine sA (by decide) fun x hx=> ?_
  have:=(cA hex).2 x hx;simp only[Bool.and_eq_true]at this;exact BF (BF (VQ this.1) (by simp)) (lQ _)
 ·refine sA (by decide) fun x hx=> ?_
  have:=(cA hel).2 x hx;simp only[Bool.and_eq_true]at this;exact BF (aCB this.1) (GO fun n _=>lQ _)
 ·exact sA (by decide) fun x hx=>aIH ((cA hco).2 x hx) (hO1 x hx)
 ·refine sA (by decide) fun x hx=> ?_
  have:=(cA hda).2 x hx;simp only[Bool.and_eq_true]at this;exact BF (BF (aCB this.1) (lQ _)) (hw.da x hx)
theorem YF{m:Md}(h:m.WO):∀c∈oT m,c<256:=by
 unfold oT;split
 ·next hy=>exact aFi (KI hy).1 h
 ·simp
theorem DQ(b:List Nat)(hb:b.length≤100000)(hlt:∀c∈b,c<256):SCall Tryz.prog 20 [.ro 1 (b.map aH) .any] []
  (fun y σ=>y=.tup [.agg (aS (zG b).1),.int .i64 (zG b).2]∧σ=[]):=by
 have hs0:SOk (b, !decide (b.take headB.length=headB)):=⟨hb,hlt⟩
 have k0:=KK hs0 8 true;have hP:=aIG b;have wsk:=fun r=>BC r (b, !decide (b.take headB.length=headB)) hs0 8 true
 refine cC 59 [0,2,3,4,5,6,7,10,33,45,56] Tryz.func20 ?_;refine dG ?_;refine jZ fun r2 h2=> ?_;intros
 refine cZ ?_;refine dZ (iE (r:=r2) cJ BE) ?_;refine eU ?_;refine pH ?_;refine sN ?_;refine aB rfl (fun g1=> ?_) (fun g1=> ?_)
 ·have hE:zG b=(md0,4):=by unfold zG;rw[if_pos (by simp at g1;omega)]
  refine dG ?_;refine jY ?_;refine FS ?_;refine dZ (iE (r:=r2) cJ BE) ?_;refine aI ?_;exact aD aE ⟨by rw[hE];rfl,rfl⟩ aA
 have h80:¬8000<b.length:=by simp at g1;omega
 refine dG ?_;refine jZ fun r4 h4=> ?_;intros
 refine jI ?_;refine dZ (iE (r:=r4) cJ BE) ?_;refine kL ?_;refine aD5 ?_;refine lS Tryz.call65 (IW b headB (by omega) (by decide) hlt (by decide)) rfl aU bC ?_;refine lo (eJ (E rfl)) rfl ?_;refine jY ?_;refine iG fun r18 h18=> ?_;intros
 refine iF ?_;refine cw [(r18,.box 117 (dJ (b, !decide (b.take headB.length=headB))))] Tryz.call66 (wsk r18) rfl aC aA ?_;rintro _ σ' ⟨rfl,rfl⟩ h20;refine fN ?_;rw[show vP (b, !decide (b.take headB.length=headB)) ((8:Nat):Int) true=vP (b, !decide (b.take 8=headB)) 8 true from rfl];rw[show vP (b, !decide (b.take headB.length=headB)) 8 true=vP (b, !decide (b.take 8=headB)) 8 true from rfl]at k0;generalize vP (b, !decide (b.take 8=headB)) 8 true=s0 at k0 hP⊢;refine lp (β:=Md×St) (fun x=>⟨[(0,.ro 1 (b.map aH) .any),(2,.ptr r2 0),(4,.ptr r4 0),(5,.ptr r18 0)],[(r18,.box 117 (dJ x.2)),(r4,.box 33 (aS x.1)),(r2,.box 33 (aS md0))]⟩) (fun x=>x.1.WO∧SOk x.2∧DN x.1 x.2=xW b) (fun x=>x.2.1.length) (md0,s0) aJ ⟨wo0,k0,hP.symm⟩ ?_;rintro⟨m,⟨l,bad⟩⟩ ⟨hwo,hs,hD⟩;dsimp only at hwo hs hD⊢;unfold dJ;dsimp only;refine dO ?_;refine z76 ?_;refine nL ?_;refine wD ?_;refine aB rfl (fun g6=> ?_) (fun g6=> ?_)
 ·obtain rfl:bad=false:=by cases bad with|false=>rfl|true=>simp at g6
  have hne:l≠ []:=by intro e;subst e;simp at g6
  have wb:=oL r18 (l,false) hs;have kb:=nI (l,false) hs;have wn:=jR r18 _ kb;have kn:=iO _ kb;have hbl:(lE (l,false)).1<256:=by cases l with|nil=>exact absurd rfl hne|cons x t=>exact hs.2 x List.mem_cons_self
  have ws:=VP r18 r4 (by(exact bA)) _ kn m (lE (l,false)).1;have hst:=aFf (m:=m) (s:=(l,false)) hne rfl;have kw:=aKW (lE (l,false)).1 hwo kn;have ks:=aKX (lE (l,false)).1 m kn;refine dO ?_;refine HX [(r18,.box 117 (dJ (l,false)))] Tryz.call67 wb ?_;refine z44 ?_;refine iF ?_;refine cw [(r18,.box 117 (dJ (lE (l,false)).2))] Tryz.call68 wn rfl aC aA ?_;rintro _ σ' ⟨rfl,rfl⟩ h38;refine fN ?_;refine kL ?_;refine cw [(r18,.box 117 (dJ (gI (lE (l,false)).2).2)),(r4,.box 33 (aS m))] Tryz.call69 ws rfl aC aA ?_;rintro _ σ' ⟨rfl,rfl⟩ h41;refine fN ?_;refine⟨vH (lE (l,false)).1 m (gI (lE (l,false)).2).2,⟨kw,ks,hst.1.symm.trans hD⟩,hst.2, ?_⟩;exact aJ
 have hz:DN m (l,bad)=(m,(l,bad)):=aFe (by cases bad with|true=>simp|false=>(cases l with|nil=>rfl|cons x t=>(simp at g6<;>omega)));rw[hz]at hD;refine dO ?_;refine nN ?_;refine jI ?_;refine aB rfl (fun g10=> ?_) (fun g10=> ?_)
 ·have hE:zG b=(md0,1):=by unfold zG;rw[if_neg h80,if_pos (by rw[←hD];exact g10)]
  refine dG ?_;refine jY ?_;refine FS ?_;refine dZ (iE (r:=r2) cJ BE) ?_;refine aI ?_;exact aD aE ⟨by rw[hE];rfl,rfl⟩ aA
 refine aI ?_;obtain⟨ty,im,fn,tb,me,gl,ex,el,co,da⟩:=m;refine jH ?_;refine mP ?_;refine sE Tryz.call18 (wQ ⟨ty,im,fn,tb,me,gl,ex,el,co,da⟩ hwo) rfl bW kH ?_;rintro _ σ' ⟨q48,rfl,rfl⟩ h48
 replace h48:=cN h48;repeat rcases h48 with⟨_,h48⟩
 apply aZ;exact bN;refine iR (j:=48) rfl bH (aM aO (by simp)) ?_;refine cZ ?_;have hB:(xW b).2.2=false:=by rw[←hD];exact g10
 have hM:(xW b).1=⟨ty,im,fn,tb,me,gl,ex,el,co,da⟩:=by rw[←hD]
 have hbn:b≠ []:=by intro e;rw[e,aFg]at hB;cases hB
 refine eU ?_;refine ne rfl rfl rfl fun z hz _=> ?_
 refine lM ?_;refine nW ?_;refine lJ rfl rfl Tryz.call70 (fun _=>(GN (oT ⟨ty,im,fn,tb,me,gl,ex,el,co,da⟩) b (YF hwo) hlt)) rfl aU bC ?_;refine uY ?_;refine lP ?_;refine aB rfl (fun g13=> ?_) (fun g13=> ?_)
 ·have hE:=aFh h80 hB hM hz hbn g13;refine dG ?_;refine jY ?_;refine FS ?_;refine dZ (iE (r:=r2) cJ BE) ?_;refine aI ?_;exact aD aE ⟨by rw[hE];rfl,rfl⟩ aA
 have hE:=aCz h80 hB hM hbn g13;refine pM ?_;refine DG ?_;exact aD aE ⟨by rw[hE];rfl,rfl⟩ aA
def eN {α:Type} (pt:α→List Nat) (l:List α) (j:Nat):List Nat:=(l.take j).flatMap pt
theorem lV{α:Type}{pt:α→List Nat}{l:List α}{j:Nat}{x:α}(h:l[j]? =some x):eN pt l (j+1)=eN pt l j++pt x:=by
 unfold eN;rw[List.take_add_one,h,List.flatMap_append];simp
theorem aFj{α:Type}{pt:α→List Nat}{l:List α}:eN pt l l.length=l.flatMap pt:=by unfold eN;rw[List.take_length]
theorem VS{α:Type}{pt:α→List Nat}{l:List α}{c:Nat}(h:∀x∈l,(pt x).length≤c)(j:Nat):(eN pt l j).length≤l.length*c:=by
 have h1:∀(l:List α),(∀x∈l,(pt x).length≤c)→(l.flatMap pt).length≤l.length*c:=by
  intro l
  induction l with
  |nil=>simp
  |cons x l ih=>
   intro h;have:=ih fun y hy=>h y (List.mem_cons_of_mem _ hy)
   have hx:=h x List.mem_cons_self;rw[List.flatMap_cons,List.length_append,List.length_cons,Nat.add_mul];omega
 refine Nat.le_trans (h1 (l.take j) fun x hx=>h x (List.mem_of_mem_take hx)) (Nat.mul_le_mul_right c ?_);simp;omega
theorem EQ{α:Type}{pt:α→List Nat}{l:List α}:bD l pt=uB l.length++eN pt l l.length:=by rw[aFj];rfl
theorem wS(n:Int)(h0:0≤n)(h1:n≤100000000):SCall Tryz.prog 160 [.int .i64 n] [] (fun y σ=>∃q,y=.own q 0 (cH n).length∧σ=[(q,.arr 5 1 ((cH n).map aH))]):=by
 obtain⟨k,rfl⟩:∃k:Nat,n=k:=⟨n.toNat,by omega⟩
 have hU:=DJ k (by omega);have hn:cH (k:Int)=uB k:=rfl;rw[hn];refine cC 6 [0,2] Tryz.func160 ?_;refine gX ?_;refine UP ?_;refine sE Tryz.call252 hU rfl bW kH ?_;rintro _ σ' ⟨q,rfl,rfl⟩ h5
 replace h5:=cN h5;repeat rcases h5 with⟨_,h5⟩
 refine eR ?_;exact aD aE ⟨q,by rfl,rfl⟩ aA
theorem wT{k:Rk}(n:Nat)(vs:List Nat)(h1:n≤100000000)(h2:vs.length≤50000000):SCall Tryz.prog 251 [.int .i64 n,.ro 1 (vs.map aH) k] [] (fun y σ=>∃q,y=.own q 0 (uB n++vs).length∧σ=[(q,.arr 5 1 ((uB n++vs).map aH))]):=by
 have hu:=wS n (by omega) (by omega);have hn:cH (n:Int)=uB n:=rfl;rw[hn]at hu;have hl:=bR 4 n (by omega);refine cC 9 [0,1,4] Tryz.func251 ?_;refine gX ?_;refine sE Tryz.call160 hu rfl bW kH ?_;rintro _ σ' ⟨q,rfl,rfl⟩ h6
 replace h6:=cN h6;repeat rcases h6 with⟨_,h6⟩
 refine yU ?_;refine kI ((uB n++vs).map aH) (uB n++vs).length ?_;refine bL fun r8 h8=> ?_;intros
 refine cZ ?_;exact aD aE ⟨r8,by rfl,rfl⟩ aA
theorem rP(s:List Nat)(h1:s.length≤100000)(h2:∀c∈s,c<256):SCall Tryz.prog 159 [.str (dE s)] [] (fun y σ=>∃q,y=.own q 0 (bS s).length∧σ=[(q,.arr 5 1 ((bS s).map aH))]):=by
 have hv:=wT (k:=.any) s.length s (by omega) (by omega);refine cC 8 [0,2] Tryz.func159 ?_;refine gX ?_;refine lo (fW (E rfl)) rfl ?_;refine lo (aF (E rfl)) rfl ?_;refine cvb h2 ?_ (by simp[maxLen];omega);rw[jE];refine sE Tryz.call251 hv rfl bW kH ?_;rintro _ σ' ⟨q,rfl,rfl⟩ h7
 replace h7:=cN h7;repeat rcases h7 with⟨_,h7⟩
 refine eR ?_;exact aD aE ⟨q,by rfl,rfl⟩ aA
theorem ES(k:Int):SCall Tryz.prog 162 [.int .i64 k] [] (fun y σ=>y=.int .u8 ((if(k==1)=true then 127 else 126:Nat):Nat)∧σ=[]):=by
 refine cC 5 [0,2,4] Tryz.func162 ?_;refine gX ?_;refine rL ?_;refine aB rfl (fun g1=> ?_) (fun g1=> ?_)
 ·have hE:(if(k==1)=true then 127 else 126:Nat)=127:=if_pos g1;refine bP ?_;exact aD aE ⟨by rw[hE];rfl,rfl⟩ aA
 have hE:(if(k==1)=true then 127 else 126:Nat)=126:=if_neg (by rw[g1];simp);refine bP ?_;exact aD aE ⟨by rw[hE];rfl,rfl⟩ aA
theorem aCD(k:Int):kB k=[if(k==1)=true then 127 else 126]:=by unfold kB;split<;>rfl
theorem SF{k:Rk}(l:List Int)(hl:l.length≤1000):SCall Tryz.prog 157 [.ro 1 (l.map aR) k] [] (fun y σ=>∃q,y=.own q 0 (bD l kB).length∧σ=[(q,.arr 5 1 ((bD l kB).map aH))]):=by
 have hfl:=VS (l:=l) (fun x _=>Nat.le_of_eq (oD x));rw[EQ];refine cC 23 [0,2,3,4,8] Tryz.func157 ?_;refine nQ ?_;refine bX 3 5 1 (by decide) rfl (by decide) (bI fun q0 hq0=> ?_);repeat rcases hq0 with⟨_,hq0⟩
 refine kO ?_;refine lp (β:=Nat×Nat) (fun b=>⟨[(0,.ro 1 (l.map aR) k),(3,.own b.1 0 (eN kB l b.2).length),(4,.int .i64 b.2)],[(b.1,.arr 5 1 ((eN kB l b.2).map aH))]⟩) (fun b=>b.2≤l.length) (fun b=>l.length-b.2) (q0,0) aJ (Nat.zero_le _) ?_;rintro⟨q1,j⟩ hj;have hpl:=hfl j;dsimp only at hj⊢;refine oR ?_;refine oP ?_;refine aB rfl (fun g3=> ?_) (fun g3=> ?_)
 ·have hlt:j<l.length:=by simp at g3;omega
  obtain⟨x,hx⟩:∃x,l[j]? =some x:=⟨_,List.getElem?_eq_getElem hlt⟩
  have hnx:eN kB l (j+1)=eN kB l j++ [if(x==1)=true then 127 else 126]:=by rw[lV hx,aCD]
  refine dF ?_;refine nA ?_;refine lS Tryz.call162 (ES x) rfl aU bC ?_;refine eS fun r17 h17=> ?_;intros
  refine kI ((eN kB l j++ [if(x==1)=true then 127 else 126]).map aH) (eN kB l j++ [if(x==1)=true then 127 else 126]).length ?_;refine bL fun r18 h18=> ?_;intros
  refine iF ?_;refine AE ?_;refine⟨(r18,j+1),hlt,by show l.length-(j+1)<l.length-j;omega, ?_⟩;dsimp only;rw[hnx];exact aJ
 obtain rfl:j=l.length:=by simp at g3;omega
 refine dO ?_;refine AD ?_;refine sE Tryz.call251 (wT l.length (eN kB l l.length) (by omega) (by omega)) rfl bW kH ?_;rintro _ σ' ⟨q4,rfl,rfl⟩ h22
 replace h22:=cN h22;repeat rcases h22 with⟨_,h22⟩
 refine eR ?_;exact aD aE ⟨q4,by rfl,rfl⟩ aA
theorem VT{k:Rk}(l:List Int)(hl:l.length≤1000)(h0:∀x∈l,0≤x∧x≤100000000):SCall Tryz.prog 254 [.ro 1 (l.map aR) k] [] (fun y σ=>∃q,y=.own q 0 (bD l cH).length∧σ=[(q,.arr 5 1 ((bD l cH).map aH))]):=by
 have hfl:=VS (pt:=cH) (l:=l) (c:=5) fun x hx=>by have:=h0 x hx;exact bR 4 x.toNat (by omega)
 rw[EQ];refine cC 22 [0,2,3,4,8] Tryz.func254 ?_;refine nQ ?_;refine bX 3 5 1 (by decide) rfl (by decide) (bI fun q0 hq0=> ?_);repeat rcases hq0 with⟨_,hq0⟩
 refine kO ?_;refine lp (β:=Nat×Nat) (fun b=>⟨[(0,.ro 1 (l.map aR) k),(3,.own b.1 0 (eN cH l b.2).length),(4,.int .i64 b.2)],[(b.1,.arr 5 1 ((eN cH l b.2).map aH))]⟩) (fun b=>b.2≤l.length) (fun b=>l.length-b.2) (q0,0) aJ (Nat.zero_le _) ?_;rintro⟨q1,j⟩ hj;have hpl:=hfl j;dsimp only at hj⊢;refine oR ?_;refine oP ?_;refine aB rfl (fun g3=> ?_) (fun g3=> ?_)
 ·have hlt:j<l.length:=by simp at g3;omega
  obtain⟨x,hx⟩:∃x,l[j]? =some x:=⟨_,List.getElem?_eq_getElem hlt⟩
  have hx0:=h0 x (List.mem_of_getElem? hx);have hxl:=bR 4 x.toNat (by omega);have hxl2:(cH x).length≤5:=hxl;have hnx:eN cH l (j+1)=eN cH l j++cH x:=lV hx;refine dF ?_;refine nA ?_;refine sE Tryz.call160 (wS x hx0.1 hx0.2) rfl bW kH ?_;rintro _ σ' ⟨q16,rfl,rfl⟩ h16
  replace h16:=cN h16;repeat rcases h16 with⟨_,h16⟩
  apply aZ;exact bN;refine kI ((eN cH l j++cH x).map aH) (eN cH l j++cH x).length ?_;refine bL fun r17 h17=> ?_;intros
  refine iF ?_;refine AE ?_;refine⟨(r17,j+1),hlt,by show l.length-(j+1)<l.length-j;omega, ?_⟩;dsimp only;rw[hnx];exact aJ
 obtain rfl:j=l.length:=by simp at g3;omega
 refine dO ?_;refine AD ?_;refine sE Tryz.call251 (wT l.length (eN cH l l.length) (by omega) (by omega)) rfl bW kH ?_;rintro _ σ' ⟨q4,rfl,rfl⟩ h21
 replace h21:=cN h21;repeat rcases h21 with⟨_,h21⟩
 refine eR ?_;exact aD aE ⟨q4,by rfl,rfl⟩ aA
end Go.Proofs.YtjpdadobblffmaaGreat
namespace Go.Proofs.YtjpdadobblffmaaGreat
open Go.RowKit Go.ChangeShapes Go.WideShapes Go.ChangeAt Go.Deep
section
variable {P : Program} {n : Nat} {ops : Array Oper} {fr : Fr} {σ : dU} {K : ASt → Prop} {ty t : TypeId} {d : Nat} {x y : Operand} {listed : Array Bool} {todo : List (Nat × Bool)} {held : List (Nat × List Nat)}
theorem aII{e:TypeId}{sz by_:Nat}{zv:Value}{r len:Nat}{es ys:List (List AV)}(es':List (List AV))(len':Nat)
  (hK:∀r',Fresh r' (eO [r] σ)→∃σ',SSet σ r (.arr e sz es) r' (.arr e sz es') σ'∧RD P n ops listed todo held ⟨(d,.own r' 0 len')::fr,σ'⟩ K)
  (i1:Ty P t (.slice e):=by infer_instance) (i2:Tz P e sz by_ zv:=by infer_instance) (hz:zv.cells.size=sz:=by rfl) (hx:aev ⟨fr,σ⟩ x=some (.own r 0 len):=by rfl) (hg:gJ σ r=some (.arr e sz es):=by exact aO) (hlen:len=es.length:=by exact MD) (hy:Src ⟨fr,σ⟩ y sz ys:=by exact aEq)
  (he:es++ys=es':=by exact aHO) (hl':len'=len+ys.length:=by exact MD) (hmax:len'≤maxLen:=by(simp[maxLen];try omega)) (hby:len'*by_≤140737488355328:=by(simp;try omega)) (hd:Nat.ble (d+1) n=true:=by rfl):
  Hop P n (.call { callee:=.builtin .append,args:=#[x,y],argTypes:=#[t,t] }) ty (some d) ⟨fr,σ⟩ [r] (fun s'=>RD P n ops listed todo held s' K):=by
 subst he hl';refine qK hz hx hg (by omega) hy hmax hby (dL hd) fun r' hf=> ?_
 obtain⟨σ',hs,hK⟩:=hK r' hf;rw[hlen,List.take_length];refine FL (fun p hp=>hs.sub p hp) ?_;rw[←hlen];exact hK
theorem kX{f:FuncId}{xs:List Operand}{ats:Array TypeId}{args:List AV}{R:AV→dU→Prop}(hf:∀args w,(callFunc f args).run P w=.ok (.enter f args) w)(h:SCall P f args [] R)(hd:d<n)
  (hK:∀x σ',R x σ'→(∀p∈σ',Fresh p.1 σ)→K ⟨(d,x)::fr,σ'++σ⟩) (hargs:ArgsBor ⟨fr,σ⟩ (σ.map (·.1)) xs args:=by exact bW) (hno:∀x σ',R x σ'→NoF x∧∀p∈σ',ENoF p.2:=by exact kH):
  Hop P n (.call { callee:=.value (.func f),args:=xs.toArray,argTypes:=ats }) ty (some d) ⟨fr,σ⟩ [] K:=rU (s:=⟨fr,σ⟩) _ hf h hd hargs hno hK
theorem aHd{sz by_:Nat}{z:Value}{cs:List AV}(i1:Tz P t sz by_ z)(hd:Nat.ble (d+1) n=true)(hz:z.cells.toList.map cX=cs)(hK:∀r,Fresh r σ→K ⟨(d,.ptr r 0)::fr,(r,.box t cs)::σ⟩):Hop P n (.alloc t) ty (some d) ⟨fr,σ⟩ [] K:=by
 subst hz;exact CC (dL hd) hK
end
end Go.Proofs.YtjpdadobblffmaaGreat
namespace Go.Proofs.YtjpdadobblffmaaGreat
open Go.RowKit Go.ChangeShapes Go.WideShapes Go.ChangeAt Go.Deep
attribute [local irreducible] SW RS RD fH eH
theorem KN(l:Li)(h:RN l):SCall Tryz.prog 161 [.agg (fA l)] [] (fun y σ=>∃q,y=.own q 0 (eM l).length∧σ=[(q,.arr 5 1 ((eM l).map aH))]):=by
 obtain⟨has,mn,mx⟩:=l;obtain⟨h0,h1,h2⟩:=h;dsimp only at h0 h1 h2;have hu:=bR 2 mn.toNat (by omega);have hu2:=bR 2 mx.toNat (by omega);have hul:(cH mn).length≤3:=hu;have hul2:(cH mx).length≤3:=hu2;refine cC 20 [0,1,2,5] Tryz.func161 ?_;unfold fA;refine dG ?_;apply bx;rfl;rfl;exact wA;rfl;refine bI fun r1 h1=> ?_;repeat rcases h1 with⟨_,h1⟩
 refine iX ?_;refine oP ?_;refine aB rfl (fun g1=> ?_) (fun g1=> ?_)
 ·have hE:eM ⟨has,mn,mx⟩=[0]++cH mn:=by unfold eM;rw[if_pos g1];rfl
  refine dG ?_;refine eS fun r6 h6=> ?_;intros
  refine oO ?_;refine sE Tryz.call160 (wS mn h0 (by omega)) rfl bW kH ?_;rintro _ σ' ⟨q9,rfl,rfl⟩ h9
  replace h9:=cN h9;repeat rcases h9 with⟨_,h9⟩
  apply aZ;exact bN;refine kI (([0]++cH mn).map aH) ([0]++cH mn).length ?_;refine bL fun r10 h10=> ?_;intros
  refine cZ ?_;exact aD aE ⟨r10,by rw[hE];rfl,by rw[hE]⟩ aA
 have hE:eM ⟨has,mn,mx⟩=[1]++cH mn++cH mx:=by unfold eM;rw[if_neg (by rw[g1];simp)];rfl
 have hx:0≤mx:=by simp at g1;omega
 refine aI ?_;refine fK [(1,true),(2,true),(5,true),(6,true),(10,false),(10,false),(10,false),(10,false),(10,false),(10,false)] ?_;refine fZ ?_;refine fZ ?_;refine iC 0 3 [(3,false),(4,false),(7,false),(8,false),(9,true)] [(0,false),(4,false),(7,false),(8,false),(9,true)] (f1:=[]) (f2:=[]) (by kernel_rfl) rfl rfl ?_ ?_ (.inl rfl) (.inl rfl)
 ·apply uP;infer_instance;infer_instance;exact qN;rfl;rfl;rfl;rfl;exact wA;rfl;refine kE fun r11 h11=> ?_;intros
  refine lT rfl Tryz.call160 (wS mn h0 (by omega)) rfl bW kH ?_;rintro _ σ' ⟨q14,rfl,rfl⟩ h14
  replace h14:=cN h14;repeat rcases h14 with⟨_,h14⟩
  apply bZ;exact bN;refine eX rfl (([1]++cH mn).map aH) ([1]++cH mn).length ?_;refine bL fun r15 h15=> ?_;intros
  refine lT rfl Tryz.call160 (wS mx hx (by omega)) rfl bW kH ?_;rintro _ σ' ⟨q18,rfl,rfl⟩ h18
  replace h18:=cN h18;repeat rcases h18 with⟨_,h18⟩
  apply bZ;exact bN;refine eX rfl (([1]++cH mn++cH mx).map aH) ([1]++cH mn++cH mx).length ?_;refine bL fun r19 h19=> ?_;intros
  refine yV ?_;exact aD aE ⟨r19,by rw[hE];rfl,by rw[hE]⟩ aA
 ·refine kX Tryz.call160 (wS mn h0 (by omega)) (dL rfl) ?_;rintro _ σ' ⟨q14,rfl,rfl⟩ h14
  replace h14:=cN h14;repeat rcases h14 with⟨_,h14⟩
  apply bZ;exact bN;refine z97 ?_;refine bI fun r11 h11=> ?_;repeat rcases h11 with⟨_,h11⟩
  refine eX rfl (([1]++cH mn).map aH) ([1]++cH mn).length ?_;refine bL fun r15 h15=> ?_;intros
  refine lT rfl Tryz.call160 (wS mx hx (by omega)) rfl bW kH ?_;rintro _ σ' ⟨q18,rfl,rfl⟩ h18
  replace h18:=cN h18;repeat rcases h18 with⟨_,h18⟩
  apply bZ;exact bN;refine eX rfl (([1]++cH mn++cH mx).map aH) ([1]++cH mn++cH mx).length ?_;refine bL fun r19 h19=> ?_;intros
  refine yV ?_;exact aD aE ⟨r19,by rw[hE];rfl,by rw[hE]⟩ aA
theorem rQ(k n:Int)(hv:mS k n=true)(hn:-9223372036854775808≤n∧n≤9223372036854775807):SCall Tryz.prog 163 [.agg [.int .i64 k,.int .i64 n]] []
  (fun y σ=>∃q,y=.own q 0 (mD k n).length∧σ=[(q,.arr 5 1 ((mD k n).map aH))]):=by
 obtain⟨ho,hm,-⟩:=GC hv hn;have hpl:=wJ ho hm;have hcB:mD k n=gG ⟨if(k==2)=true then 66 else 65,n,0,[]⟩++ [11]:=rfl;rw[hcB];generalize hop:(if(k==2)=true then(66:Int)else 65)=op at ho hm hpl hcB⊢;have hop:=hop.symm;refine cC 14 [0,1,2,3,6] Tryz.func163 ?_;refine dG ?_;refine iG fun r1 h1=> ?_;intros
 refine jC ?_;refine iX ?_;refine rL ?_;refine aB rfl (fun g2=> ?_) (fun g2=> ?_)
 ·have hco:cX (.int .i64 66)=AV.int .i64 op:=by rw[hop,if_pos g2];rfl
  refine bP ?_;rw[hco];refine lO ?_;refine jY ?_;refine jT (eK (j:=10) rfl EN) ?_;refine sE Tryz.call253 (tO .any ⟨op,n,0,[]⟩ ho hm) rfl bW kH ?_;rintro _ σ' ⟨q11,rfl,rfl⟩ h11
  replace h11:=cN h11;repeat rcases h11 with⟨_,h11⟩
  apply aZ;exact bN;refine eS fun r12 h12=> ?_;intros
  refine kI ((gG ⟨op,n,0,[]⟩++ [11]).map aH) (gG ⟨op,n,0,[]⟩++ [11]).length ?_;refine bL fun r13 h13=> ?_;intros
  refine cZ ?_;exact aD aE ⟨r13,by rfl,rfl⟩ aA
 have hco:cX (.int .i64 65)=AV.int .i64 op:=by rw[hop,if_neg (by simp[g2])];rfl
 refine aI ?_;rw[hco];refine lO ?_;refine jY ?_;refine jT (eK (j:=10) rfl EN) ?_;refine sE Tryz.call253 (tO .any ⟨op,n,0,[]⟩ ho hm) rfl bW kH ?_;rintro _ σ' ⟨q11,rfl,rfl⟩ h11
 replace h11:=cN h11;repeat rcases h11 with⟨_,h11⟩
 apply aZ;exact bN;refine z1 ?_;refine bI fun r12 h12=> ?_;repeat rcases h12 with⟨_,h12⟩
 refine kI ((gG ⟨op,n,0,[]⟩++ [11]).map aH) (gG ⟨op,n,0,[]⟩++ [11]).length ?_;refine bL fun r13 h13=> ?_;intros
 refine cZ ?_;exact aD aE ⟨r13,by rfl,rfl⟩ aA
theorem iU{α:Type}(no:Nat)(hno:no<256)(l:List α)(pt:α→List Nat)(hl:l.length≤1000)(hp:(eN pt l l.length).length≤30000000):SCall Tryz.prog 158 [.int .i64 no,.int .i64 l.length,.ro 1 ((eN pt l l.length).map aH) .any] []
  (fun y σ=>∃q,y=.own q 0 (bJ no l pt).length∧σ=[(q,.arr 5 1 ((bJ no l pt).map aH))]):=by
 have hu:=bR 1 l.length (by omega);have hV:bD l pt=uB l.length++eN pt l l.length:=EQ;have hvl:(uB l.length++eN pt l l.length).length≤40000000:=by simp;omega
 have hw:=wT (k:=.any) l.length (eN pt l l.length) (by omega) (by omega);rw[←hV]at hvl hw;have hS:bJ no l pt=if l.isEmpty then []else [no]++(uB (bD l pt).length++bD l pt):=rfl
 have hub:=bR 4 (bD l pt).length (by omega);refine cC 21 [0,1,2,6,7,9] Tryz.func158 ?_;refine gX ?_;refine rL ?_;refine aB rfl (fun g1=> ?_) (fun g1=> ?_)
 ·obtain rfl:l=[]:=by cases l with|nil=>rfl|cons x t=>(simp at g1<;>omega)
  refine dG ?_;refine pI ?_;refine bX 6 5 1 (by decide) rfl (by decide) (bI fun q2 hq2=> ?_);repeat rcases hq2 with⟨_,hq2⟩
  refine aI ?_;exact aD aE ⟨q2,by rw[hS];rfl,by rw[hS]⟩ aA
 have hE:bJ no l pt=[no]++(uB (bD l pt).length++bD l pt):=by rw[hS,if_neg];intro e;rw[List.isEmpty_iff.1 e]at g1;simp at g1
 refine dF ?_;refine sE Tryz.call251 hw rfl bW kH ?_;rintro _ σ' ⟨q12,rfl,rfl⟩ h12
 replace h12:=cN h12;repeat rcases h12 with⟨_,h12⟩
 refine eR ?_;generalize bD l pt=P at hvl hub hE⊢;refine eU ?_;refine z0 ?_;refine eS fun r15 h15=> ?_;intros
 refine lo (aF (E rfl)) rfl ?_;refine AD ?_;refine sE Tryz.call251 (wT (k:=.any) P.length P (by omega) (by omega)) rfl bW kH ?_;rintro _ σ' ⟨q19,rfl,rfl⟩ h19
 replace h19:=cN h19;repeat rcases h19 with⟨_,h19⟩
 apply aZ;exact bN;refine kI (([no]++(uB P.length++P)).map aH) ([no]++(uB P.length++P)).length ?_;refine bL fun r20 h20=> ?_;intros
 refine cZ ?_;exact aD aE ⟨r20,by rw[hE];rfl,by rw[hE]⟩ aA
def Bd (l:List Int) (i:Nat):Prop:=∀(init:List (List Int)) (y:Int) (m:Nat),cD (l.take i)=init++ [List.replicate (m+1) y]→l[i]? ≠some y
theorem VU{l:List Int}{i:Nat}{x:Int}(hb:Bd l i)(hx:l[i]? =some x):cD (l.take (i+1))=cD (l.take i)++ [[x]]:=by
 cases i with
 |zero=>rw[show l.take 0=[]from rfl,RW hx];rfl
 |succ i=>
  have hi:i<l.length:=by have:=(List.getElem?_eq_some_iff.1 hx).1;omega
  obtain⟨init,m,e,-,-⟩:=aAm (List.getElem?_eq_getElem hi);have hk:l[i]≠x:=fun h=>hb init l[i] m e (by rw[h];exact hx)
  rw[e];exact RV e hx hk
theorem aAs{l:List Int}{i k:Nat}{x:Int}{R:List (List Int)}(hk:i<k)(h:cD (l.take k)=R++ [List.replicate (k-i) x])(hx:l[k]? =some x):cD (l.take (k+1))=R++ [List.replicate (k+1-i) x]:=by
 obtain⟨m,hm⟩:∃m,k-i=m+1:=⟨k-i-1,by omega⟩
 rw[hm]at h;have:=KF h hx;rw[this,show k+1-i=m+1+1 by omega,List.replicate_succ' (n:=m+1)]
theorem aFk{l:List Int}{i k:Nat}{x:Int}{R:List (List Int)}(hk:i<k)(h:cD (l.take k)=R++ [List.replicate (k-i) x])(hx:l[k]? ≠some x):Bd l k:=by
 intro init y m e;rw[h]at e;have:=(List.append_inj' e rfl).2;simp only[List.cons.injEq,and_true]at this;obtain⟨m2,hm⟩:∃m,k-i=m+1:=⟨k-i-1,by omega⟩
 rw[hm,List.replicate_succ,List.replicate_succ]at this;rw[←(List.cons.inj this).1];exact hx
theorem aFl(l:List Int):Bd l 0:=fun init y m e=>by
 rw[show cD (l.take 0)=[]from rfl]at e;simp at e
def SG (l:List Int) (i:Nat):List Nat:=(cD (l.take i)).flatMap iH
theorem aCE{l:List Int}{i k:Nat}{x:Int}(h:cD (l.take k)=cD (l.take i)++ [List.replicate (k-i) x])(hk:i<k):SG l k=SG l i++cH ((k:Int)-i)++ [if(x==1)=true then 127 else 126]:=by
 unfold SG;rw[h,List.flatMap_append];simp only[List.flatMap_cons,List.flatMap_nil,List.append_nil,List.append_assoc]
 congr 1
 unfold iH;rw[List.length_replicate,aCD,show((k-i:Nat):Int)=(k:Int)-i by omega];obtain⟨m,hm⟩:∃m,k-i=m+1:=⟨k-i-1,by omega⟩
 rw[hm,List.replicate_succ,List.headD_cons]
theorem YG{l:List Int}(hl:l.length≤1000)(i:Nat):(SG l i).length≤3000∧(cD (l.take i)).length≤1000:=by
 obtain⟨h1,h2⟩:=AX _ (l.take i) rfl;have h3:∀r∈cD (l.take i),0<r.length∧r.length≤1000:=fun r hr=>by
  obtain⟨k,m,rfl,-,hm⟩:=h2 r hr;simp at hm⊢;omega
 have hn:∀(rs:List (List Int)),(∀r∈rs,0<r.length∧r.length≤1000)→rs.length≤rs.flatten.length∧(rs.flatMap iH).length≤3*rs.length:=by
  intro rs
  induction rs with
  |nil=>simp
  |cons r rs ih=>
   intro h;have h4:=h r List.mem_cons_self;have:=ih fun r hr=>h r (List.mem_cons_of_mem _ hr)
   have h5:=GG h4.2;rw[List.flatten_cons,List.flatMap_cons,List.length_append,List.length_append,List.length_cons];omega
 have:=hn _ h3;have h6:(cD (l.take i)).flatten.length≤1000:=by rw[h1];simp;omega
 unfold SG;omega
theorem aAt(l:List Int)(hl:l.length≤1000):SCall Tryz.prog 255 [.ro 1 (l.map aR) .any] [] (fun y σ=>∃q,y=.own q 0 (bD (cD l) iH).length∧σ=[(q,.arr 5 1 ((bD (cD l) iH).map aH))]):=by
 have hJ:=YG hl;refine cC 48 [0,2,3,4,5,6,10,26] Tryz.func255 ?_;refine nQ ?_;refine bX 3 5 1 (by decide) rfl (by decide) (bI fun q0 hq0=> ?_);repeat rcases hq0 with⟨_,hq0⟩
 refine jH ?_;refine jC ?_;refine cZ ?_;refine lp (β:=Nat×Nat) (fun b=>⟨[(0,.ro 1 (l.map aR) .any),(3,.own b.1 0 (SG l b.2).length),(4,.int .i64 ((cD (l.take b.2)).length:Nat)),(5,.int .i64 b.2)],[(b.1,.arr 5 1 ((SG l b.2).map aH))]⟩) (fun b=>b.2≤l.length∧Bd l b.2) (fun b=>l.length-b.2) (q0,0) aJ ⟨Nat.zero_le _,aFl l⟩ ?_;rintro⟨q1,i⟩ ⟨hi,hbd⟩;obtain⟨hJ1,hJ2⟩:=hJ i;dsimp only at hi hbd⊢;refine oR ?_;refine oP ?_;refine aB rfl (fun g4=> ?_) (fun g4=> ?_)
 ·have hlt:i<l.length:=by simp at g4;omega
  obtain⟨x,hx⟩:∃x,l[i]? =some x:=⟨_,List.getElem?_eq_getElem hlt⟩
  have hxi:l[i]! =x:=by rw[List.getElem!_eq_getElem?_getD,hx];rfl
  refine fF ?_;refine lp (β:=Nat) (fun k=>⟨[(0,.ro 1 (l.map aR) .any),(3,.own q1 0 (SG l i).length),(4,.int .i64 ((cD (l.take i)).length:Nat)),(5,.int .i64 i),(6,.int .i64 k)],[(q1,.arr 5 1 ((SG l i).map aH))]⟩) (fun k=>i≤k∧k≤l.length∧(i<k→cD (l.take k)=cD (l.take i)++ [List.replicate (k-i) x])) (fun k=>l.length-k) i aJ ⟨Nat.le_refl _,hi,fun h=>absurd h (Nat.lt_irrefl _)⟩ ?_;rintro k ⟨hk1,hk2,hk3⟩;refine aI ?_;refine fK [(0,true),(1,true),(2,true),(3,true),(4,true),(5,true),(6,true),(7,true),(8,true),(9,true),(10,true),(11,true),(12,true),(13,true),(14,true)] ?_;refine CG ?_;refine UQ ?_;refine z46 ?_;refine CH ?_;refine AC ?_;refine QL ?_;refine UT ?_;refine AC ?_;refine AC ?_;refine QL ?_;refine UT ?_;refine aD6 ?_;refine ZN ?_;refine kF ?_;refine aB rfl (fun g6=> ?_) (fun g6=> ?_)
  ·have hkl:k<l.length:=by cases h:decide ((k:Int)<(l.length:Int))with|true=>(simp at h<;>omega)|false=>(rw[h]at g6;cases g6)
   obtain⟨y,hy⟩:∃y,l[k]? =some y:=⟨_,List.getElem?_eq_getElem hkl⟩
   have hyi:l[k]! =y:=by rw[List.getElem!_eq_getElem?_getD,hy];rfl
   have hyx:y=x:=by rw[decide_eq_true (by omega),if_pos rfl,Int.toNat_natCast,hyi]at g6;simpa using g6
   refine lI ?_;refine⟨k+1,⟨by omega,hkl,fun _=> ?_⟩,by show l.length-(k+1)<l.length-k;omega, ?_⟩
   ·rw[hyx]at hy;rcases Nat.lt_or_ge i k with h|h
    ·exact aAs h (hk3 h) hy
    ·obtain rfl:k=i:=by omega
     rw[VU hbd hy,show k+1-k=1 by omega];rfl
   exact aJ
  have hxk:l[k]? ≠some x:=by intro h;have hkl:=(List.getElem?_eq_some_iff.1 h).1;rw[decide_eq_true (by omega),if_pos rfl,Int.toNat_natCast,List.getElem!_eq_getElem?_getD,h]at g6;simp at g6
  have hik:i<k:=by rcases Nat.lt_or_ge i k with h|h;exact h;exact absurd (by rw[show k=i by omega];exact hx) hxk
  have hrun:=hk3 hik;have hnx:=aCE hrun hik;have hbk:=aFk hik hrun hxk;obtain⟨hJ3,hJ4⟩:=hJ k;have hcnt:((cD (l.take k)).length:Int)=(cD (l.take i)).length+1:=by rw[hrun];simp
  have hnl:(cH ((k:Int)-i)).length≤5:=bR 4 ((k:Int)-i).toNat (by omega);refine aI ?_;refine fK [(0,true),(1,true),(2,true),(3,true),(6,true),(7,true),(8,true),(9,true),(4,false),(5,false),(10,false),(11,false),(12,false),(13,true)] ?_;refine CG ?_;refine fY rfl (aF (E rfl)) rfl ?_;refine z82 ?_;refine CI ?_;refine JP ?_;refine lT rfl Tryz.call160 (wS ((k:Int)-i) (by omega) (by omega)) rfl bW kH ?_;rintro _ σ' ⟨q33,rfl,rfl⟩ h33
  replace h33:=cN h33;repeat rcases h33 with⟨_,h33⟩
  apply bZ;exact bN;refine eX rfl ((SG l i++cH ((k:Int)-i)).map aH) (SG l i++cH ((k:Int)-i)).length ?_;refine bL fun r34 h34=> ?_;intros
  refine aAd rfl Tryz.call162 (ES x) rfl aU bC ?_;refine CA fun r40 h40=> ?_;intros
  refine eX rfl ((SG l i++cH ((k:Int)-i)++ [if(x==1)=true then 127 else 126]).map aH) (SG l i++cH ((k:Int)-i)++ [if(x==1)=true then 127 else 126]).length ?_;refine bL fun r41 h41=> ?_;intros
  refine pK ?_;refine eU ?_;refine cZ ?_;refine⟨(r41,k),⟨hk2,hbk⟩,by show l.length-k<l.length-i;omega, ?_⟩;dsimp only;rw[hnx,hcnt];exact aJ
 obtain rfl:i=l.length:=by simp at g4;omega
 have hv:=wT (k:=.any) (cD (l.take l.length)).length (SG l l.length) (by omega) (by omega);rw[show uB (cD (l.take l.length)).length++SG l l.length=bD (cD l) iH by unfold SG;rw[List.take_length];rfl]at hv;refine dF ?_;refine sE Tryz.call251 hv rfl bW kH ?_;rintro _ σ' ⟨q2,rfl,rfl⟩ h47
 replace h47:=cN h47;repeat rcases h47 with⟨_,h47⟩
 refine eR ?_;exact aD aE ⟨q2,by rfl,rfl⟩ aA
def SH (s:List Nat):Prop:=s.length≤1000∧∀c∈s,c<256
def SmI (n:Int):Prop:=0≤n∧n≤100000
structure Md.G (m:Md):Prop where
 ty:m.ty.length≤100∧∀x∈m.ty,x.pr.length≤1000∧x.rs.length≤1000
 im:m.im.length≤100∧∀x∈m.im,SH x.mod∧SH x.nm∧SmI x.ty
 fn:m.fn.length≤100∧∀n∈m.fn,SmI n
 tb:m.tb.has=true→RN m.tb
 me:m.me.has=true→RN m.me
 gl:m.gl.length≤100∧∀g∈m.gl,mS g.kd g.n=true∧ -9223372036854775808≤g.n∧g.n≤9223372036854775807
 ex:m.ex.length≤100∧∀x∈m.ex,SH x.nm∧SmI x.fn
 el:m.el.length≤100∧∀x∈m.el,kV x.off=true∧x.fs.length≤1000∧∀n∈x.fs,SmI n
 co:m.co.length≤100∧∀x∈m.co,x.ls.length≤1000∧x.bd.length≤310∧∀i∈x.bd,i.Ok∧dB i=true
 da:m.da.length≤100∧∀x∈m.da,kV x.off=true∧x.bs.length≤1000
theorem wU{n:Int}(h:SmI n):(cH n).length≤5:=bR 4 n.toNat (by have:=h.2;have:=h.1;omega)
theorem CT{s:List Nat}(h:SH s):(bS s).length≤1005:=by
 have:=bR 4 s.length (by have:=h.1;omega);have:=h.1;unfold bS;rw[List.length_append];omega
theorem lF{α:Type}(no:Nat){l:List α}(pt:α→List Nat)(c:Nat)(hl:l.length≤100)(hc:c≤100000)(h:∀x∈l,(pt x).length≤c):(bJ no l pt).length≤20+100*c∧∀j,(eN pt l j).length≤100*c:=by
 have h1:=VS h;have h4:l.length*c≤100*c:=Nat.mul_le_mul_right c hl;have h2:(bD l pt).length≤5+100*c:=by
  rw[EQ,List.length_append];have:=bR 4 l.length (by omega);have:=h1 l.length;omega
 refine⟨?_,fun j=>Nat.le_trans (h1 j) h4⟩;have h3:=bR 4 (bD l pt).length (by omega);unfold bJ;split
 ·simp
 ·simp only[List.length_cons,List.length_append];omega
theorem aFn{t:FT}(h:t.pr.length≤1000∧t.rs.length≤1000):(wM t).length≤2100:=by
 have h1:=lW (pt:=kB) (l:=t.pr) (c:=1) (fun x _=>Nat.le_of_eq (oD x)) h.1;have h2:=lW (pt:=kB) (l:=t.rs) (c:=1) (fun x _=>Nat.le_of_eq (oD x)) h.2;unfold wM;simp only[List.length_cons,List.length_append];omega
theorem aFo{x:Im}(h:SH x.mod∧SH x.nm∧SmI x.ty):(iY x).length≤2100:=by
 have h1:=CT h.1;have h2:=CT h.2.1;have h3:=wU h.2.2;unfold iY;simp only[List.length_append,List.length_cons,List.length_nil];omega
theorem aFp{g:Gl}(h:mS g.kd g.n=true∧ -9223372036854775808≤g.n∧g.n≤9223372036854775807):(vJ g).length≤300:=by
 have h1:=xI h.1 h.2;have h2:=oD g.kd;unfold vJ;simp only[List.length_append,List.length_cons,List.length_nil];omega
theorem aFq{x:Ex}(h:SH x.nm∧SmI x.fn):(nO x).length≤1100:=by
 have h2:=CT h.1;have h3:=wU h.2;unfold nO;simp only[List.length_append,List.length_cons,List.length_nil];omega
theorem YH{x:El}(h:kV x.off=true∧x.fs.length≤1000∧∀n∈x.fs,SmI n):(vO x).length≤5300:=by
 have h1:=EP h.1;have h2:=lW (pt:=cH) (l:=x.fs) (c:=5) (fun n hn=>wU (h.2.2 n hn)) h.2.1;unfold vO;rw[List.length_append];omega
theorem YI{l:List Int}(hl:l.length≤1000):(bD (cD l) iH).length≤3010:=by
 have h:=YG hl l.length;unfold SG at h;rw[List.take_length]at h;have:=bR 4 (cD l).length (by omega);unfold bD;rw[List.length_append];omega
theorem YJ{x:Co}(h:x.ls.length≤1000∧x.bd.length≤310∧∀i∈x.bd,i.Ok∧dB i=true):(kP x).length≤70000:=by
 have h1:=YI h.1;have h2:=AT h.2.2;have h3:=bR 4 (bD (cD x.ls) iH++iS x.bd).length (by rw[List.length_append];omega);unfold kP;rw[List.length_append,List.length_append];rw[List.length_append]at h3;omega
theorem YK{x:Da}(h:kV x.off=true∧x.bs.length≤1000):(xH x).length≤1300:=by
 have h1:=EP h.1;have h2:=bR 4 x.bs.length (by omega);unfold xH;simp only[List.length_append];omega
theorem YL{s:List Nat}{mu:Bool}{k n:Int}{z:Nat}(h:(if mu=true then 1 else 0)=z):s++vJ ⟨mu,k,n⟩=s++ [if(k==1)=true then 127 else 126,z]++mD k n:=by
 unfold vJ;dsimp only;rw[h,aCD];simp
def wV (m:Md):List Nat:=bJ 9 m.el vO++bJ 10 m.co kP++bJ 11 m.da xH
theorem aCF(m:Md)(h:m.G)(hlate:SCall Tryz.prog 164 [.agg (aS m)] [] (fun y σ=>∃q,y=.own q 0 (wV m).length∧σ=[(q,.arr 5 1 ((wV m).map aH))]))(hll:(wV m).length≤10000000):SCall Tryz.prog 64 [.agg (aS m)] [] (fun y σ=>∃q,y=.own q 0 (fI m).length∧σ=[(q,.arr 5 1 ((fI m).map aH))]):=by
 obtain⟨⟨nty,hty⟩,⟨nim,him⟩,⟨nfn,hfn⟩,htb,hme,⟨ngl,hgl⟩,⟨nex,hex⟩,-,-,-⟩:=h;obtain⟨ty,im,fn,tb,me,gl,ex,el,co,da⟩:=m;dsimp only at nty hty nim him nfn hfn htb hme ngl hgl nex hex;obtain⟨L1,Pty⟩:=lF 1 wM 2100 nty (by decide) fun x hx=>aFn (hty x hx)
 obtain⟨L2,Pim⟩:=lF 2 iY 2100 nim (by decide) fun x hx=>aFo (him x hx)
 obtain⟨L3,Pfn⟩:=lF 3 cH 5 nfn (by decide) fun x hx=>wU (hfn x hx)
 obtain⟨L6,Pgl⟩:=lF 6 vJ 300 ngl (by decide) fun x hx=>aFp (hgl x hx)
 obtain⟨L7,Pex⟩:=lF 7 nO 1100 nex (by decide) fun x hx=>aFq (hex x hx)
 have T1:tb.has=true→bJ 4 (gP tb) (fun l=>112::eM l)=bJ 4 [tb] (fun l=>112::eM l):=fun h=>by unfold gP;rw[h];rfl
 have T0:tb.has=false→bJ 4 (gP tb) (fun l=>112::eM l)=[]:=fun h=>by unfold gP;rw[h];rfl
 have E1:me.has=true→bJ 5 (gP me) eM=bJ 5 [me] eM:=fun h=>by unfold gP;rw[h];rfl
 have E0:me.has=false→bJ 5 (gP me) eM=[]:=fun h=>by unfold gP;rw[h];rfl
 have L4:(bJ 4 (gP tb) (fun l=>112::eM l)).length≤1020:=by
  cases hh:tb.has with
  |false=>rw[T0 hh];decide
  |true=>rw[T1 hh];exact(lF 4 (l:=[tb]) (fun l=>112::eM l) 10 (by simp) (by decide) (fun x hx=>by obtain rfl:=List.mem_singleton.1 hx;have:=xJ (htb hh);simp;omega)).1
 have L5:(bJ 5 (gP me) eM).length≤1020:=by
  cases hh:me.has with
  |false=>rw[E0 hh];decide
  |true=>rw[E1 hh];exact(lF 5 (l:=[me]) eM 10 (by simp) (by decide) (fun x hx=>by obtain rfl:=List.mem_singleton.1 hx;have:=xJ (hme hh);omega)).1
 have hH:headB.length=8:=rfl;have hW:fI ⟨ty,im,fn,tb,me,gl,ex,el,co,da⟩=headB++bJ 1 ty wM++bJ 2 im iY++bJ 3 fn cH++bJ 4 (gP tb) (fun l=>112::eM l)++bJ 5 (gP me) eM++bJ 6 gl vJ++bJ 7 ex nO++wV ⟨ty,im,fn,tb,me,gl,ex,el,co,da⟩:=by
  unfold fI wV;simp only[List.append_assoc]
 rw[hW];generalize wV ⟨ty,im,fn,tb,me,gl,ex,el,co,da⟩=SL at hlate hll⊢;refine cC 193 [0,1,2,3,4,5,6,7,8,9,10,11,12,18,51,85,105,116,127,136,160] Tryz.func64 ?_;unfold aS;dsimp only;refine dG ?_;refine iG fun r1 h1=> ?_;intros
 refine jC ?_;refine eS fun r13 h13=> ?_;intros
 refine cZ ?_;rw[show([[.int .u8 0],[.int .u8 97],[.int .u8 115],[.int .u8 109],[.int .u8 1],[.int .u8 0],[.int .u8 0],[.int .u8 0]]:List (List AV))=headB.map aH from rfl,show AV.own r13 0 8=AV.own r13 0 headB.length from rfl];refine kO ?_;refine bX 4 5 1 (by decide) rfl (by decide) (bI fun q4 hq4=> ?_);repeat rcases hq4 with⟨_,hq4⟩
 refine kO ?_;refine lp (β:=Nat×Nat) (fun b=>⟨[(1,.ptr r1 0),(3,.own r13 0 (headB).length),(4,.own b.1 0 (eN wM ty b.2).length),(5,.int .i64 b.2)],[(b.1,.arr 5 1 ((eN wM ty b.2).map aH)),(r13,.arr 5 1 ((headB).map aH)),(r1,.box 33 (aS ⟨ty,im,fn,tb,me,gl,ex,el,co,da⟩))]⟩) (fun b=>b.2≤ty.length∧Nq b.1 r1∧Nq b.1 r13) (fun b=>ty.length-b.2) (q4,0) aJ ⟨Nat.zero_le _,by show Nq q4 r1;(exact bA),by show Nq q4 r13;(exact bA)⟩ ?_;rintro⟨q1,j⟩ ⟨hj,hqa,hqb⟩;have hpl:=Pty j;dsimp only at hj hqa hqb⊢;unfold aS;dsimp only;refine pC ?_;refine aB rfl (fun g4=> ?_) (fun g4=> ?_)
 ·have hlt:j<ty.length:=by simp at g4;omega
  obtain⟨⟨pr,rs⟩,hx⟩:∃x,ty[j]? =some x:=⟨_,List.getElem?_eq_getElem hlt⟩
  obtain⟨hp1,hp2⟩:=hty _ (List.mem_of_getElem? hx);dsimp only at hp1 hp2;have hv1:=lW (pt:=kB) (l:=pr) (c:=1) (fun x _=>Nat.le_of_eq (oD x)) hp1;have hv2:=lW (pt:=kB) (l:=rs) (c:=1) (fun x _=>Nat.le_of_eq (oD x)) hp2;have hnx:=lV (pt:=wM) hx;refine aI ?_;refine fK [(0,true),(3,true),(4,true),(5,true),(6,true),(7,true),(8,true),(11,true),(12,true),(13,true),(14,true),(15,true),(16,true),(1,false),(2,false),(9,false),(10,false),(17,false),(18,false),(19,true)] ?_;refine fY rfl (aF (E rfl)) rfl ?_;refine lN ?_;refine lN ?_;refine CA fun r22 h22=> ?_;intros
  refine eX rfl ((eN wM ty j++ [96]).map aH) (eN wM ty j++ [96]).length ?_;refine bL fun r23 h23=> ?_;intros
  refine lT rfl Tryz.call157 (SF pr hp1) rfl bW kH ?_;rintro _ σ' ⟨q30,rfl,rfl⟩ h30
  replace h30:=cN h30;repeat rcases h30 with⟨_,h30⟩
  apply bZ;exact bN;refine eX rfl ((eN wM ty j++ [96]++bD pr kB).map aH) (eN wM ty j++ [96]++bD pr kB).length ?_;refine bL fun r31 h31=> ?_;intros
  refine lT rfl Tryz.call157 (SF rs hp2) rfl bW kH ?_;rintro _ σ' ⟨q38,rfl,rfl⟩ h38
  replace h38:=cN h38;repeat rcases h38 with⟨_,h38⟩
  apply bZ;exact bN;refine eX rfl ((eN wM ty j++ [96]++bD pr kB++bD rs kB).map aH) (eN wM ty j++ [96]++bD pr kB++bD rs kB).length ?_;refine bL fun r39 h39=> ?_;intros
  refine pK ?_;refine⟨(r39,j+1),⟨hlt,by show Nq r39 r1;(exact bA),by show Nq r39 r13;(exact bA)⟩,by show ty.length-(j+1)<ty.length-j;omega, ?_⟩;dsimp only;rw[hnx];rw[show eN wM ty j++wM ⟨pr,rs⟩=eN wM ty j++ [96]++bD pr kB++bD rs kB by unfold wM;simp];exact aJ
 obtain rfl:j=ty.length:=by simp at g4;omega
 refine nD ?_;refine AD ?_;refine sE Tryz.call158 (iU 1 (by decide) ty wM (by omega) (by have:=Pty ty.length;omega)) rfl bW kH ?_;rintro _ σ' ⟨q45,rfl,rfl⟩ h45
 replace h45:=cN h45;repeat rcases h45 with⟨_,h45⟩
 apply aZ;exact bN;refine kI ((headB++bJ 1 ty wM).map aH) (headB++bJ 1 ty wM).length ?_;refine bL fun r46 h46=> ?_;intros
 refine cZ ?_;generalize bJ 1 ty wM=S1 at L1⊢;refine kO ?_;refine bX 4 5 1 (by decide) rfl (by decide) (bI fun q5 hq5=> ?_);repeat rcases hq5 with⟨_,hq5⟩
 refine kO ?_;refine lp (β:=Nat×Nat) (fun b=>⟨[(1,.ptr r1 0),(3,.own r46 0 (headB++S1).length),(4,.own b.1 0 (eN iY im b.2).length),(6,.int .i64 b.2)],[(b.1,.arr 5 1 ((eN iY im b.2).map aH)),(r46,.arr 5 1 ((headB++S1).map aH)),(r1,.box 33 (aS ⟨ty,im,fn,tb,me,gl,ex,el,co,da⟩))]⟩) (fun b=>b.2≤im.length∧Nq b.1 r1∧Nq b.1 r46) (fun b=>im.length-b.2) (q5,0) aJ ⟨Nat.zero_le _,by show Nq q5 r1;(exact bA),by show Nq q5 r46;(exact bA)⟩ ?_;rintro⟨q1,j⟩ ⟨hj,hqa,hqb⟩;have hpl:=Pim j;dsimp only at hj hqa hqb⊢;unfold aS;dsimp only;refine pC ?_;refine aB rfl (fun g10=> ?_) (fun g10=> ?_)
 ·have hlt:j<im.length:=by simp at g10;omega
  obtain⟨⟨md,nm,tt⟩,hx⟩:∃x,im[j]? =some x:=⟨_,List.getElem?_eq_getElem hlt⟩
  obtain⟨hm1,hm2,hm3⟩:=him _ (List.mem_of_getElem? hx);dsimp only at hm1 hm2 hm3;have ht1:=CT hm1;have ht2:=CT hm2;have ht3:=wU hm3;have hnx:=lV (pt:=iY) hx;refine fE ?_;refine mZ ?_;refine jZ fun r7 h7=> ?_;intros
  refine jJ ?_;refine fK [(0,true),(1,true),(2,true),(5,true),(6,true),(11,true),(12,true),(16,false),(16,false),(16,false),(16,false),(16,false),(16,false),(16,false),(16,false),(16,false)] ?_;refine DW ?_;refine fZ ?_;refine fZ ?_;refine iC 3 9 [(16,false),(16,false),(16,false),(16,false),(16,false),(16,false),(16,false),(16,false)] [(3,false),(4,false),(7,false),(8,false),(10,false),(13,false),(14,false),(15,true)] (f1:=[]) (f2:=[]) (by kernel_rfl) rfl rfl ?_ ?_ (.inl rfl) (.inl rfl)
  ·refine kX Tryz.call159 (rP md (by have:=hm1.1;omega) hm1.2) (dL rfl) ?_;rintro _ σ' ⟨q62,rfl,rfl⟩ h62
   replace h62:=cN h62;repeat rcases h62 with⟨_,h62⟩
   apply bZ;exact bN;refine iC 4 9 [(16,false),(16,false),(16,false),(16,false),(16,false),(16,false),(16,false)] [(4,false),(7,false),(8,false),(10,false),(13,false),(14,false),(15,true)] (f1:=[q1]) (f2:=[]) (by kernel_rfl) rfl rfl ?_ ?_ (.inr ⟨by simp,fS⟩) (.inl rfl)
   ·refine aII ((eN iY im j++bS md).map aH) (eN iY im j++bS md).length ?_;refine bL fun r63 h63=> ?_;intros
    refine iC 7 9 [(16,false),(16,false),(16,false),(16,false),(16,false),(16,false)] [(7,false),(8,false),(10,false),(13,false),(14,false),(15,true)] (f1:=[]) (f2:=[]) (by kernel_rfl) rfl rfl ?_ ?_ (.inl rfl) (.inl rfl)
    ·refine kX Tryz.call159 (rP nm (by have:=hm2.1;omega) hm2.2) (dL rfl) ?_;rintro _ σ' ⟨q66,rfl,rfl⟩ h66
     replace h66:=cN h66;repeat rcases h66 with⟨_,h66⟩
     apply bZ;exact bN;refine iC 8 9 [(9,false),(10,false),(13,false),(14,false),(15,true)] [(8,false),(10,false),(13,false),(14,false),(15,true)] (f1:=[r63]) (f2:=[]) (by kernel_rfl) rfl rfl ?_ ?_ (.inr ⟨by simp,fS⟩) (.inl rfl)
     ·refine aII ((eN iY im j++bS md++bS nm).map aH) (eN iY im j++bS md++bS nm).length ?_;refine bL fun r67 h67=> ?_;intros
      refine CA fun r68 h68=> ?_;intros
      refine eX rfl ((eN iY im j++bS md++bS nm++ [0]).map aH) (eN iY im j++bS md++bS nm++ [0]).length ?_;refine bL fun r69 h69=> ?_;intros
      refine lT rfl Tryz.call160 (wS tt hm3.1 (by have:=hm3.2;omega)) rfl bW kH ?_;rintro _ σ' ⟨q72,rfl,rfl⟩ h72
      replace h72:=cN h72;repeat rcases h72 with⟨_,h72⟩
      apply bZ;exact bN;refine eX rfl ((eN iY im j++bS md++bS nm++ [0]++cH tt).map aH) (eN iY im j++bS md++bS nm++ [0]++cH tt).length ?_;refine bL fun r73 h73=> ?_;intros
      refine pK ?_;refine⟨(r73,j+1),⟨hlt,by show Nq r73 r1;(exact bA),by show Nq r73 r46;(exact bA)⟩,by show im.length-(j+1)<im.length-j;omega, ?_⟩;dsimp only;rw[hnx];rw[show eN iY im j++iY ⟨md,nm,tt⟩=eN iY im j++bS md++bS nm++ [0]++cH tt by unfold iY;simp];exact aJ
     ·apply uP;infer_instance;infer_instance;exact qN;rfl;rfl;rfl;rfl;exact wA;rfl;refine bI fun r68 h68=> ?_;repeat rcases h68 with⟨_,h68⟩
      refine eX rfl ((eN iY im j++bS md++bS nm).map aH) (eN iY im j++bS md++bS nm).length ?_;refine bL fun r67 h67=> ?_;intros
      refine eX rfl ((eN iY im j++bS md++bS nm++ [0]).map aH) (eN iY im j++bS md++bS nm++ [0]).length ?_;refine bL fun r69 h69=> ?_;intros
      refine lT rfl Tryz.call160 (wS tt hm3.1 (by have:=hm3.2;omega)) rfl bW kH ?_;rintro _ σ' ⟨q72,rfl,rfl⟩ h72
      replace h72:=cN h72;repeat rcases h72 with⟨_,h72⟩
      apply bZ;exact bN;refine eX rfl ((eN iY im j++bS md++bS nm++ [0]++cH tt).map aH) (eN iY im j++bS md++bS nm++ [0]++cH tt).length ?_;refine bL fun r73 h73=> ?_;intros
      refine pK ?_;refine⟨(r73,j+1),⟨hlt,by show Nq r73 r1;(exact bA),by show Nq r73 r46;(exact bA)⟩,by show im.length-(j+1)<im.length-j;omega, ?_⟩;dsimp only;rw[hnx];rw[show eN iY im j++iY ⟨md,nm,tt⟩=eN iY im j++bS md++bS nm++ [0]++cH tt by unfold iY;simp];exact aJ
    ·apply uP;infer_instance;infer_instance;exact qN;rfl;rfl;rfl;rfl;exact wA;rfl;refine bI fun r68 h68=> ?_;repeat rcases h68 with⟨_,h68⟩
     refine lT rfl Tryz.call159 (rP nm (by have:=hm2.1;omega) hm2.2) rfl bW kH ?_;rintro _ σ' ⟨q66,rfl,rfl⟩ h66
     replace h66:=cN h66;repeat rcases h66 with⟨_,h66⟩
     apply bZ;exact bN;refine eX rfl ((eN iY im j++bS md++bS nm).map aH) (eN iY im j++bS md++bS nm).length ?_;refine bL fun r67 h67=> ?_;intros
     refine eX rfl ((eN iY im j++bS md++bS nm++ [0]).map aH) (eN iY im j++bS md++bS nm++ [0]).length ?_;refine bL fun r69 h69=> ?_;intros
     refine lT rfl Tryz.call160 (wS tt hm3.1 (by have:=hm3.2;omega)) rfl bW kH ?_;rintro _ σ' ⟨q72,rfl,rfl⟩ h72
     replace h72:=cN h72;repeat rcases h72 with⟨_,h72⟩
     apply bZ;exact bN;refine eX rfl ((eN iY im j++bS md++bS nm++ [0]++cH tt).map aH) (eN iY im j++bS md++bS nm++ [0]++cH tt).length ?_;refine bL fun r73 h73=> ?_;intros
     refine pK ?_;refine⟨(r73,j+1),⟨hlt,by show Nq r73 r1;(exact bA),by show Nq r73 r46;(exact bA)⟩,by show im.length-(j+1)<im.length-j;omega, ?_⟩;dsimp only;rw[hnx];rw[show eN iY im j++iY ⟨md,nm,tt⟩=eN iY im j++bS md++bS nm++ [0]++cH tt by unfold iY;simp];exact aJ
   ·apply uP;infer_instance;infer_instance;exact qN;rfl;rfl;rfl;rfl;exact wA;rfl;refine bI fun r68 h68=> ?_;repeat rcases h68 with⟨_,h68⟩
    refine eX rfl ((eN iY im j++bS md).map aH) (eN iY im j++bS md).length ?_;refine bL fun r63 h63=> ?_;intros
    refine lT rfl Tryz.call159 (rP nm (by have:=hm2.1;omega) hm2.2) rfl bW kH ?_;rintro _ σ' ⟨q66,rfl,rfl⟩ h66
    replace h66:=cN h66;repeat rcases h66 with⟨_,h66⟩
    apply bZ;exact bN;refine eX rfl ((eN iY im j++bS md++bS nm).map aH) (eN iY im j++bS md++bS nm).length ?_;refine bL fun r67 h67=> ?_;intros
    refine eX rfl ((eN iY im j++bS md++bS nm++ [0]).map aH) (eN iY im j++bS md++bS nm++ [0]).length ?_;refine bL fun r69 h69=> ?_;intros
    refine lT rfl Tryz.call160 (wS tt hm3.1 (by have:=hm3.2;omega)) rfl bW kH ?_;rintro _ σ' ⟨q72,rfl,rfl⟩ h72
    replace h72:=cN h72;repeat rcases h72 with⟨_,h72⟩
    apply bZ;exact bN;refine eX rfl ((eN iY im j++bS md++bS nm++ [0]++cH tt).map aH) (eN iY im j++bS md++bS nm++ [0]++cH tt).length ?_;refine bL fun r73 h73=> ?_;intros
    refine pK ?_;refine⟨(r73,j+1),⟨hlt,by show Nq r73 r1;(exact bA),by show Nq r73 r46;(exact bA)⟩,by show im.length-(j+1)<im.length-j;omega, ?_⟩;dsimp only;rw[hnx];rw[show eN iY im j++iY ⟨md,nm,tt⟩=eN iY im j++bS md++bS nm++ [0]++cH tt by unfold iY;simp];exact aJ
  ·apply uP;infer_instance;infer_instance;exact qN;rfl;rfl;rfl;rfl;exact wA;rfl;refine bI fun r68 h68=> ?_;repeat rcases h68 with⟨_,h68⟩
   refine lT rfl Tryz.call159 (rP md (by have:=hm1.1;omega) hm1.2) rfl bW kH ?_;rintro _ σ' ⟨q62,rfl,rfl⟩ h62
   replace h62:=cN h62;repeat rcases h62 with⟨_,h62⟩
   apply bZ;exact bN;refine eX rfl ((eN iY im j++bS md).map aH) (eN iY im j++bS md).length ?_;refine bL fun r63 h63=> ?_;intros
   refine lT rfl Tryz.call159 (rP nm (by have:=hm2.1;omega) hm2.2) rfl bW kH ?_;rintro _ σ' ⟨q66,rfl,rfl⟩ h66
   replace h66:=cN h66;repeat rcases h66 with⟨_,h66⟩
   apply bZ;exact bN;refine eX rfl ((eN iY im j++bS md++bS nm).map aH) (eN iY im j++bS md++bS nm).length ?_;refine bL fun r67 h67=> ?_;intros
   refine eX rfl ((eN iY im j++bS md++bS nm++ [0]).map aH) (eN iY im j++bS md++bS nm++ [0]).length ?_;refine bL fun r69 h69=> ?_;intros
   refine lT rfl Tryz.call160 (wS tt hm3.1 (by have:=hm3.2;omega)) rfl bW kH ?_;rintro _ σ' ⟨q72,rfl,rfl⟩ h72
   replace h72:=cN h72;repeat rcases h72 with⟨_,h72⟩
   apply bZ;exact bN;refine eX rfl ((eN iY im j++bS md++bS nm++ [0]++cH tt).map aH) (eN iY im j++bS md++bS nm++ [0]++cH tt).length ?_;refine bL fun r73 h73=> ?_;intros
   refine pK ?_;refine⟨(r73,j+1),⟨hlt,by show Nq r73 r1;(exact bA),by show Nq r73 r46;(exact bA)⟩,by show im.length-(j+1)<im.length-j;omega, ?_⟩;dsimp only;rw[hnx];rw[show eN iY im j++iY ⟨md,nm,tt⟩=eN iY im j++bS md++bS nm++ [0]++cH tt by unfold iY;simp];exact aJ
 obtain rfl:j=im.length:=by simp at g10;omega
 refine nD ?_;refine AD ?_;refine sE Tryz.call158 (iU 2 (by decide) im iY (by omega) (by have:=Pim im.length;omega)) rfl bW kH ?_;rintro _ σ' ⟨q79,rfl,rfl⟩ h79
 replace h79:=cN h79;repeat rcases h79 with⟨_,h79⟩
 apply aZ;exact bN;refine kI ((headB++S1++bJ 2 im iY).map aH) (headB++S1++bJ 2 im iY).length ?_;refine bL fun r80 h80=> ?_;intros
 refine cZ ?_;generalize bJ 2 im iY=S2 at L2⊢;refine kO ?_;refine bX 4 5 1 (by decide) rfl (by decide) (bI fun q6 hq6=> ?_);repeat rcases hq6 with⟨_,hq6⟩
 refine kO ?_;refine lp (β:=Nat×Nat) (fun b=>⟨[(1,.ptr r1 0),(3,.own r80 0 (headB++S1++S2).length),(4,.own b.1 0 (eN cH fn b.2).length),(8,.int .i64 b.2)],[(b.1,.arr 5 1 ((eN cH fn b.2).map aH)),(r80,.arr 5 1 ((headB++S1++S2).map aH)),(r1,.box 33 (aS ⟨ty,im,fn,tb,me,gl,ex,el,co,da⟩))]⟩) (fun b=>b.2≤fn.length∧Nq b.1 r1∧Nq b.1 r80) (fun b=>fn.length-b.2) (q6,0) aJ ⟨Nat.zero_le _,by show Nq q6 r1;(exact bA),by show Nq q6 r80;(exact bA)⟩ ?_;rintro⟨q1,j⟩ ⟨hj,hqa,hqb⟩;have hpl:=Pfn j;dsimp only at hj hqa hqb⊢;unfold aS;dsimp only;refine pC ?_;refine aB rfl (fun g17=> ?_) (fun g17=> ?_)
 ·have hlt:j<fn.length:=by simp at g17;omega
  obtain⟨k,hx⟩:∃x,fn[j]? =some x:=⟨_,List.getElem?_eq_getElem hlt⟩
  have hk:=hfn _ (List.mem_of_getElem? hx);have ht3:=wU hk;have hnx:=lV (pt:=cH) hx;refine nD ?_;refine nA ?_;refine sE Tryz.call160 (wS k hk.1 (by have:=hk.2;omega)) rfl bW kH ?_;rintro _ σ' ⟨q94,rfl,rfl⟩ h94
  replace h94:=cN h94;repeat rcases h94 with⟨_,h94⟩
  apply aZ;exact bN;refine kI ((eN cH fn j++cH k).map aH) (eN cH fn j++cH k).length ?_;refine bL fun r95 h95=> ?_;intros
  refine iF ?_;refine AE ?_;refine⟨(r95,j+1),⟨hlt,by show Nq r95 r1;(exact bA),by show Nq r95 r80;(exact bA)⟩,by show fn.length-(j+1)<fn.length-j;omega, ?_⟩;dsimp only;rw[hnx];exact aJ
 obtain rfl:j=fn.length:=by simp at g17;omega
 refine nD ?_;refine AD ?_;refine sE Tryz.call158 (iU 3 (by decide) fn cH (by omega) (by have:=Pfn fn.length;omega)) rfl bW kH ?_;rintro _ σ' ⟨q101,rfl,rfl⟩ h101
 replace h101:=cN h101;repeat rcases h101 with⟨_,h101⟩
 apply aZ;exact bN;refine kI ((headB++S1++S2++bJ 3 fn cH).map aH) (headB++S1++S2++bJ 3 fn cH).length ?_;refine bL fun r102 h102=> ?_;intros
 refine cZ ?_;generalize bJ 3 fn cH=S3 at L3⊢;obtain⟨th,tn,tx⟩:=tb;obtain⟨eh,en,ex2⟩:=me;refine jH ?_;refine oI ?_;refine oO ?_;refine jI ?_;refine UO (β:=Nat) (fun q=>⟨[(1,.ptr r1 0),(3,.own q 0 (headB++S1++S2++S3++bJ 4 (gP ⟨th,tn,tx⟩) (fun l=>112::eM l)).length)],[(q,.arr 5 1 ((headB++S1++S2++S3++bJ 4 (gP ⟨th,tn,tx⟩) (fun l=>112::eM l)).map aH)),(r1,.box 33 (aS ⟨ty,im,fn,⟨th,tn,tx⟩,⟨eh,en,ex2⟩,gl,ex,el,co,da⟩))]⟩) (fun q=>Nq q r1) ?_ ?_
 ·refine aB rfl (fun g21=> ?_) (fun g21=> ?_)
  ·have htb1:=htb g21;have hll1:=xJ htb1;rw[T1 g21];have hpj:eN (fun l=>112::eM l) [(⟨th,tn,tx⟩:Li)] [(⟨th,tn,tx⟩:Li)].length=[112]++eM ⟨th,tn,tx⟩:=by simp[eN]
   have hsc:=iU 4 (by decide) [(⟨th,tn,tx⟩:Li)] (fun l=>112::eM l) (by simp) (by rw[hpj];simp;omega);rw[hpj]at hsc;rw[T1 g21]at L4;refine dO ?_;refine eS fun r107 h107=> ?_;intros
   refine oI ?_;refine mP ?_;refine sE Tryz.call161 (KN ⟨th,tn,tx⟩ htb1) rfl bW kH ?_;rintro _ σ' ⟨q110,rfl,rfl⟩ h110
   replace h110:=cN h110;repeat rcases h110 with⟨_,h110⟩
   apply aZ;exact bN;refine kI (([112]++eM ⟨th,tn,tx⟩).map aH) ([112]++eM ⟨th,tn,tx⟩).length ?_;refine bL fun r111 h111=> ?_;intros
   refine sE Tryz.call158 hsc rfl bW kH ?_;rintro _ σ' ⟨q112,rfl,rfl⟩ h112
   replace h112:=cN h112;repeat rcases h112 with⟨_,h112⟩
   apply aZ;exact bN;refine kI ((headB++S1++S2++S3++bJ 4 [⟨th,tn,tx⟩] (fun l=>112::eM l)).map aH) (headB++S1++S2++S3++bJ 4 [⟨th,tn,tx⟩] (fun l=>112::eM l)).length ?_;refine bL fun r113 h113=> ?_;intros
   refine cZ ?_;exact⟨r113,(by(exact bA)),aJ⟩
  rw[T0 g21,List.append_nil];refine aI ?_;exact⟨r102,(by(exact bA)),aJ⟩
 rintro q4 hq4;generalize bJ 4 (gP ⟨th,tn,tx⟩) (fun l=>112::eM l)=S4 at L4⊢;unfold aS;dsimp only;refine dG ?_;refine oI ?_;refine oO ?_;refine jI ?_;refine UO (β:=Nat) (fun q=>⟨[(1,.ptr r1 0),(3,.own q 0 (headB++S1++S2++S3++S4++bJ 5 (gP ⟨eh,en,ex2⟩) eM).length)],[(q,.arr 5 1 ((headB++S1++S2++S3++S4++bJ 5 (gP ⟨eh,en,ex2⟩) eM).map aH)),(r1,.box 33 (aS ⟨ty,im,fn,⟨th,tn,tx⟩,⟨eh,en,ex2⟩,gl,ex,el,co,da⟩))]⟩) (fun q=>Nq q r1) ?_ ?_
 ·refine aB rfl (fun g23=> ?_) (fun g23=> ?_)
  ·have hme1:=hme g23;have hll2:=xJ hme1;rw[E1 g23];have hpj:eN eM [(⟨eh,en,ex2⟩:Li)] [(⟨eh,en,ex2⟩:Li)].length=eM ⟨eh,en,ex2⟩:=by simp[eN]
   have hsc:=iU 5 (by decide) [(⟨eh,en,ex2⟩:Li)] eM (by simp) (by rw[hpj];omega);rw[hpj]at hsc;rw[E1 g23]at L5;refine dO ?_;refine oI ?_;refine mP ?_;refine sE Tryz.call161 (KN ⟨eh,en,ex2⟩ hme1) rfl bW kH ?_;rintro _ σ' ⟨q120,rfl,rfl⟩ h120
   replace h120:=cN h120;repeat rcases h120 with⟨_,h120⟩
   apply aZ;exact bN;refine sE Tryz.call158 hsc rfl bW kH ?_;rintro _ σ' ⟨q121,rfl,rfl⟩ h121
   replace h121:=cN h121;repeat rcases h121 with⟨_,h121⟩
   apply aZ;exact bN;refine kI ((headB++S1++S2++S3++S4++bJ 5 [⟨eh,en,ex2⟩] eM).map aH) (headB++S1++S2++S3++S4++bJ 5 [⟨eh,en,ex2⟩] eM).length ?_;refine bL fun r122 h122=> ?_;intros
   refine cZ ?_;exact⟨r122,(by(exact bA)),aJ⟩
  rw[E0 g23,List.append_nil];refine aI ?_;exact⟨q4,(by(exact bA)),aJ⟩
 rintro q7 hq7;generalize bJ 5 (gP ⟨eh,en,ex2⟩) eM=S5 at L5⊢;unfold aS;dsimp only;refine bP ?_;refine bX 4 5 1 (by decide) rfl (by decide) (bI fun q8 hq8=> ?_);repeat rcases hq8 with⟨_,hq8⟩
 refine kO ?_;refine lp (β:=Nat×Nat) (fun b=>⟨[(1,.ptr r1 0),(3,.own q7 0 (headB++S1++S2++S3++S4++S5).length),(4,.own b.1 0 (eN vJ gl b.2).length),(9,.int .i64 b.2)],[(b.1,.arr 5 1 ((eN vJ gl b.2).map aH)),(q7,.arr 5 1 ((headB++S1++S2++S3++S4++S5).map aH)),(r1,.box 33 (aS ⟨ty,im,fn,⟨th,tn,tx⟩,⟨eh,en,ex2⟩,gl,ex,el,co,da⟩))]⟩) (fun b=>b.2≤gl.length∧Nq b.1 r1∧Nq b.1 q7) (fun b=>gl.length-b.2) (q8,0) aJ ⟨Nat.zero_le _,by show Nq q8 r1;(exact bA),by show Nq q8 q7;(exact bA)⟩ ?_;rintro⟨q1,j⟩ ⟨hj,hqa,hqb⟩;have hpl:=Pgl j;dsimp only at hj hqa hqb⊢;unfold aS;dsimp only;refine pC ?_;refine aB rfl (fun g27=> ?_) (fun g27=> ?_)
 ·have hlt:j<gl.length:=by simp at g27;omega
  obtain⟨⟨mu,k,n⟩,hx⟩:∃x,gl[j]? =some x:=⟨_,List.getElem?_eq_getElem hlt⟩
  obtain⟨hv,hn⟩:=hgl _ (List.mem_of_getElem? hx);dsimp only at hv hn;have hcl:=xI hv hn;have hnx:=lV (pt:=vJ) hx;refine fE ?_;refine mZ ?_;refine jZ fun r10 h10=> ?_;intros
  refine nY ?_;refine bP ?_;refine nE ?_;refine jI ?_;refine aB rfl (fun g31=> ?_) (fun g31=> ?_)
  ·obtain rfl:mu=true:=g31;obtain⟨z,hz,hzc⟩:∃z:Nat,(if true=true then 1 else 0)=z∧cX (.int .u8 1)=AV.int .u8 ((z:Nat):Int):=⟨1,rfl,rfl⟩
   refine bP ?_;rw[hzc];refine fK [(0,true),(1,true),(2,true),(3,true),(5,true),(8,true),(9,true),(4,false),(6,false),(7,false),(10,false),(11,false),(12,true)] ?_;refine fY rfl (aF (E rfl)) rfl ?_;refine zP ?_;refine fZ ?_;refine fY rfl (aF (E rfl)) rfl ?_;refine zP ?_;refine UE ?_;refine aAd rfl Tryz.call162 (ES k) rfl aU bC ?_;refine CA fun r143 h143=> ?_;intros
   refine eX rfl ((eN vJ gl j++ [if(k==1)=true then 127 else 126,z]).map aH) (eN vJ gl j++ [if(k==1)=true then 127 else 126,z]).length ?_;refine bL fun r144 h144=> ?_;intros
   refine lT rfl Tryz.call163 (rQ k n hv hn) rfl bW kH ?_;rintro _ σ' ⟨q147,rfl,rfl⟩ h147
   replace h147:=cN h147;repeat rcases h147 with⟨_,h147⟩
   apply bZ;exact bN;refine eX rfl ((eN vJ gl j++ [if(k==1)=true then 127 else 126,z]++mD k n).map aH) (eN vJ gl j++ [if(k==1)=true then 127 else 126,z]++mD k n).length ?_;refine bL fun r148 h148=> ?_;intros
   refine pK ?_;refine⟨(r148,j+1),⟨hlt,by show Nq r148 r1;(exact bA),by show Nq r148 q7;(exact bA)⟩,by show gl.length-(j+1)<gl.length-j;omega, ?_⟩;dsimp only;rw[hnx];rw[YL hz];exact aJ
  obtain rfl:mu=false:=g31;obtain⟨z,hz,hzc⟩:∃z:Nat,(if false=true then 1 else 0)=z∧cX (.int .u8 0)=AV.int .u8 ((z:Nat):Int):=⟨0,rfl,rfl⟩
  refine aI ?_;rw[hzc];refine fK [(0,true),(1,true),(2,true),(3,true),(5,true),(8,true),(9,true),(4,false),(6,false),(7,false),(10,false),(11,false),(12,true)] ?_;refine fY rfl (aF (E rfl)) rfl ?_;refine zP ?_;refine fZ ?_;refine fY rfl (aF (E rfl)) rfl ?_;refine zP ?_;refine UE ?_;refine aAd rfl Tryz.call162 (ES k) rfl aU bC ?_;refine z97 ?_;refine bI fun r143 h143=> ?_;repeat rcases h143 with⟨_,h143⟩
  refine eX rfl ((eN vJ gl j++ [if(k==1)=true then 127 else 126,z]).map aH) (eN vJ gl j++ [if(k==1)=true then 127 else 126,z]).length ?_;refine bL fun r144 h144=> ?_;intros
  refine lT rfl Tryz.call163 (rQ k n hv hn) rfl bW kH ?_;rintro _ σ' ⟨q147,rfl,rfl⟩ h147
  replace h147:=cN h147;repeat rcases h147 with⟨_,h147⟩
  apply bZ;exact bN;refine eX rfl ((eN vJ gl j++ [if(k==1)=true then 127 else 126,z]++mD k n).map aH) (eN vJ gl j++ [if(k==1)=true then 127 else 126,z]++mD k n).length ?_;refine bL fun r148 h148=> ?_;intros
  refine pK ?_;refine⟨(r148,j+1),⟨hlt,by show Nq r148 r1;(exact bA),by show Nq r148 q7;(exact bA)⟩,by show gl.length-(j+1)<gl.length-j;omega, ?_⟩;dsimp only;rw[hnx];rw[YL hz];exact aJ
 obtain rfl:j=gl.length:=by simp at g27;omega
 refine nD ?_;refine AD ?_;refine sE Tryz.call158 (iU 6 (by decide) gl vJ (by omega) (by have:=Pgl gl.length;omega)) rfl bW kH ?_;rintro _ σ' ⟨q154,rfl,rfl⟩ h154
 replace h154:=cN h154;repeat rcases h154 with⟨_,h154⟩
 apply aZ;exact bN;refine kI ((headB++S1++S2++S3++S4++S5++bJ 6 gl vJ).map aH) (headB++S1++S2++S3++S4++S5++bJ 6 gl vJ).length ?_;refine bL fun r155 h155=> ?_;intros
 refine cZ ?_;generalize bJ 6 gl vJ=S6 at L6⊢;refine kO ?_;refine bX 4 5 1 (by decide) rfl (by decide) (bI fun q9 hq9=> ?_);repeat rcases hq9 with⟨_,hq9⟩
 refine kO ?_;refine lp (β:=Nat×Nat) (fun b=>⟨[(1,.ptr r1 0),(3,.own r155 0 (headB++S1++S2++S3++S4++S5++S6).length),(4,.own b.1 0 (eN nO ex b.2).length),(12,.int .i64 b.2)],[(b.1,.arr 5 1 ((eN nO ex b.2).map aH)),(r155,.arr 5 1 ((headB++S1++S2++S3++S4++S5++S6).map aH)),(r1,.box 33 (aS ⟨ty,im,fn,⟨th,tn,tx⟩,⟨eh,en,ex2⟩,gl,ex,el,co,da⟩))]⟩) (fun b=>b.2≤ex.length∧Nq b.1 r1∧Nq b.1 r155) (fun b=>ex.length-b.2) (q9,0) aJ ⟨Nat.zero_le _,by show Nq q9 r1;(exact bA),by show Nq q9 r155;(exact bA)⟩ ?_;rintro⟨q1,j⟩ ⟨hj,hqa,hqb⟩;have hpl:=Pex j;dsimp only at hj hqa hqb⊢;unfold aS;dsimp only;refine pC ?_;refine aB rfl (fun g37=> ?_) (fun g37=> ?_)
 ·have hlt:j<ex.length:=by simp at g37;omega
  obtain⟨⟨nm,ff⟩,hx⟩:∃x,ex[j]? =some x:=⟨_,List.getElem?_eq_getElem hlt⟩
  obtain⟨hm1,hm2⟩:=hex _ (List.mem_of_getElem? hx);dsimp only at hm1 hm2;have ht1:=CT hm1;have ht2:=wU hm2;have hnx:=lV (pt:=nO) hx;refine aI ?_;refine fK [(0,true),(1,true),(2,true),(3,true),(4,true),(5,true),(6,true),(11,true),(12,true),(13,true),(14,true),(15,true),(16,true),(20,false),(20,false),(20,false),(20,false),(20,false),(20,false),(20,false)] ?_;refine fY rfl (aF (E rfl)) rfl ?_;refine lN ?_;refine lN ?_;refine iC 7 9 [(20,false),(20,false),(20,false),(20,false),(20,false),(20,false)] [(7,false),(8,false),(10,false),(17,false),(18,false),(19,true)] (f1:=[]) (f2:=[]) (by kernel_rfl) rfl rfl ?_ ?_ (.inl rfl) (.inl rfl)
  ·refine kX Tryz.call159 (rP nm (by have:=hm1.1;omega) hm1.2) (dL rfl) ?_;rintro _ σ' ⟨q170,rfl,rfl⟩ h170
   replace h170:=cN h170;repeat rcases h170 with⟨_,h170⟩
   apply bZ;exact bN;refine iC 8 9 [(9,false),(10,false),(17,false),(18,false),(19,true)] [(8,false),(10,false),(17,false),(18,false),(19,true)] (f1:=[q1]) (f2:=[]) (by kernel_rfl) rfl rfl ?_ ?_ (.inr ⟨by simp,fS⟩) (.inl rfl)
   ·refine aII ((eN nO ex j++bS nm).map aH) (eN nO ex j++bS nm).length ?_;refine bL fun r171 h171=> ?_;intros
    refine CA fun r172 h172=> ?_;intros
    refine eX rfl ((eN nO ex j++bS nm++ [0]).map aH) (eN nO ex j++bS nm++ [0]).length ?_;refine bL fun r173 h173=> ?_;intros
    refine lT rfl Tryz.call160 (wS ff hm2.1 (by have:=hm2.2;omega)) rfl bW kH ?_;rintro _ σ' ⟨q180,rfl,rfl⟩ h180
    replace h180:=cN h180;repeat rcases h180 with⟨_,h180⟩
    apply bZ;exact bN;refine eX rfl ((eN nO ex j++bS nm++ [0]++cH ff).map aH) (eN nO ex j++bS nm++ [0]++cH ff).length ?_;refine bL fun r181 h181=> ?_;intros
    refine pK ?_;refine⟨(r181,j+1),⟨hlt,by show Nq r181 r1;(exact bA),by show Nq r181 r155;(exact bA)⟩,by show ex.length-(j+1)<ex.length-j;omega, ?_⟩;dsimp only;rw[hnx];rw[show eN nO ex j++nO ⟨nm,ff⟩=eN nO ex j++bS nm++ [0]++cH ff by unfold nO;simp];exact aJ
   ·apply uP;infer_instance;infer_instance;exact qN;rfl;rfl;rfl;rfl;exact wA;rfl;refine bI fun r172 h172=> ?_;repeat rcases h172 with⟨_,h172⟩
    refine eX rfl ((eN nO ex j++bS nm).map aH) (eN nO ex j++bS nm).length ?_;refine bL fun r171 h171=> ?_;intros
    refine eX rfl ((eN nO ex j++bS nm++ [0]).map aH) (eN nO ex j++bS nm++ [0]).length ?_;refine bL fun r173 h173=> ?_;intros
    refine lT rfl Tryz.call160 (wS ff hm2.1 (by have:=hm2.2;omega)) rfl bW kH ?_;rintro _ σ' ⟨q180,rfl,rfl⟩ h180
    replace h180:=cN h180;repeat rcases h180 with⟨_,h180⟩
    apply bZ;exact bN;refine eX rfl ((eN nO ex j++bS nm++ [0]++cH ff).map aH) (eN nO ex j++bS nm++ [0]++cH ff).length ?_;refine bL fun r181 h181=> ?_;intros
    refine pK ?_;refine⟨(r181,j+1),⟨hlt,by show Nq r181 r1;(exact bA),by show Nq r181 r155;(exact bA)⟩,by show ex.length-(j+1)<ex.length-j;omega, ?_⟩;dsimp only;rw[hnx];rw[show eN nO ex j++nO ⟨nm,ff⟩=eN nO ex j++bS nm++ [0]++cH ff by unfold nO;simp];exact aJ
  ·apply uP;infer_instance;infer_instance;exact qN;rfl;rfl;rfl;rfl;exact wA;rfl;refine bI fun r172 h172=> ?_;repeat rcases h172 with⟨_,h172⟩
   refine lT rfl Tryz.call159 (rP nm (by have:=hm1.1;omega) hm1.2) rfl bW kH ?_;rintro _ σ' ⟨q170,rfl,rfl⟩ h170
   replace h170:=cN h170;repeat rcases h170 with⟨_,h170⟩
   apply bZ;exact bN;refine eX rfl ((eN nO ex j++bS nm).map aH) (eN nO ex j++bS nm).length ?_;refine bL fun r171 h171=> ?_;intros
   refine eX rfl ((eN nO ex j++bS nm++ [0]).map aH) (eN nO ex j++bS nm++ [0]).length ?_;refine bL fun r173 h173=> ?_;intros
   refine lT rfl Tryz.call160 (wS ff hm2.1 (by have:=hm2.2;omega)) rfl bW kH ?_;rintro _ σ' ⟨q180,rfl,rfl⟩ h180
   replace h180:=cN h180;repeat rcases h180 with⟨_,h180⟩
   apply bZ;exact bN;refine eX rfl ((eN nO ex j++bS nm++ [0]++cH ff).map aH) (eN nO ex j++bS nm++ [0]++cH ff).length ?_;refine bL fun r181 h181=> ?_;intros
   refine pK ?_;refine⟨(r181,j+1),⟨hlt,by show Nq r181 r1;(exact bA),by show Nq r181 r155;(exact bA)⟩,by show ex.length-(j+1)<ex.length-j;omega, ?_⟩;dsimp only;rw[hnx];rw[show eN nO ex j++nO ⟨nm,ff⟩=eN nO ex j++bS nm++ [0]++cH ff by unfold nO;simp];exact aJ
 obtain rfl:j=ex.length:=by simp at g37;omega
 refine nD ?_;refine AD ?_;refine sE Tryz.call158 (iU 7 (by decide) ex nO (by omega) (by have:=Pex ex.length;omega)) rfl bW kH ?_;rintro _ σ' ⟨q187,rfl,rfl⟩ h187
 replace h187:=cN h187;repeat rcases h187 with⟨_,h187⟩
 apply aZ;exact bN;refine kI ((headB++S1++S2++S3++S4++S5++S6++bJ 7 ex nO).map aH) (headB++S1++S2++S3++S4++S5++S6++bJ 7 ex nO).length ?_;refine bL fun r188 h188=> ?_;intros
 refine cZ ?_;generalize bJ 7 ex nO=S7 at L7⊢;refine eU ?_;refine mP ?_;refine sE Tryz.call164 hlate rfl bW kH ?_;rintro _ σ' ⟨q191,rfl,rfl⟩ h191
 replace h191:=cN h191;repeat rcases h191 with⟨_,h191⟩
 apply aZ;exact bN;refine kI ((headB++S1++S2++S3++S4++S5++S6++S7++SL).map aH) (headB++S1++S2++S3++S4++S5++S6++S7++SL).length ?_;refine bL fun r192 h192=> ?_;intros
 refine cZ ?_;exact aD aE ⟨r192,by rfl,rfl⟩ aA
theorem aCG(m:Md)(h:m.G):SCall Tryz.prog 164 [.agg (aS m)] [] (fun y σ=>∃q,y=.own q 0 (wV m).length∧σ=[(q,.arr 5 1 ((wV m).map aH))]):=by
 obtain⟨-,-,-,-,-,-,-,⟨nel,hel⟩,⟨nco,hco⟩,⟨nda,hda⟩⟩:=h;obtain⟨ty,im,fn,tb,me,gl,ex,el,co,da⟩:=m;dsimp only at nel hel nco hco nda hda;obtain⟨L1,Pel⟩:=lF 9 vO 5300 nel (by decide) fun x hx=>YH (hel x hx)
 obtain⟨L2,Pco⟩:=lF 10 kP 70000 nco (by decide) fun x hx=>YJ (hco x hx)
 obtain⟨L3,Pda⟩:=lF 11 xH 1300 nda (by decide) fun x hx=>YK (hda x hx)
 have hW:wV ⟨ty,im,fn,tb,me,gl,ex,el,co,da⟩=bJ 9 el vO++bJ 10 co kP++bJ 11 da xH:=rfl;rw[hW];refine cC 119 [0,1,2,3,4,5,6,7,8,13,47,82] Tryz.func164 ?_;unfold aS;dsimp only;refine dG ?_;refine iG fun r1 h1=> ?_;intros
 refine jC ?_;refine jK ?_;refine bX 3 5 1 (by decide) rfl (by decide) (bI fun q3 hq3=> ?_);repeat rcases hq3 with⟨_,hq3⟩
 refine bX 4 5 1 (by decide) rfl (by decide) (bI fun q4 hq4=> ?_);repeat rcases hq4 with⟨_,hq4⟩
 refine kO ?_;refine lp (β:=Nat×Nat) (fun b=>⟨[(1,.ptr r1 0),(3,.own q3 0 (([]:List Nat)).length),(4,.own b.1 0 (eN vO el b.2).length),(5,.int .i64 b.2)],[(b.1,.arr 5 1 ((eN vO el b.2).map aH)),(q3,.arr 5 1 ((([]:List Nat)).map aH)),(r1,.box 33 (aS ⟨ty,im,fn,tb,me,gl,ex,el,co,da⟩))]⟩) (fun b=>b.2≤el.length∧Nq b.1 r1∧Nq b.1 q3) (fun b=>el.length-b.2) (q4,0) aJ ⟨Nat.zero_le _,by show Nq q4 r1;(exact bA),by show Nq q4 q3;(exact bA)⟩ ?_;rintro⟨q1,j⟩ ⟨hj,hqa,hqb⟩;have hpl:=Pel j;dsimp only at hj hqa hqb⊢;unfold aS;dsimp only;refine pC ?_;refine aB rfl (fun g3=> ?_) (fun g3=> ?_)
 ·have hlt:j<el.length:=by simp at g3;omega
  obtain⟨⟨oo,fs⟩,hx⟩:∃x,el[j]? =some x:=⟨_,List.getElem?_eq_getElem hlt⟩
  obtain⟨ho,hf1,hf2⟩:=hel _ (List.mem_of_getElem? hx);dsimp only at ho hf1 hf2;have hr:-2147483648≤oo∧oo≤2147483647:=by(have h:=ho;unfold kV at h;simpa using h)
  have hv:mS 1 oo=true:=by unfold mS;simp;omega
  have hcl:=xI hv (by omega);have hvl:=lW (pt:=cH) (l:=fs) (c:=5) (fun n hn=>wU (hf2 n hn)) hf1;have hnx:=lV (pt:=vO) hx;refine aI ?_;refine fK [(0,true),(3,true),(4,true),(5,true),(6,true),(7,true),(8,true),(9,true),(12,true),(13,true),(14,true),(15,true),(16,true),(17,true),(1,false),(2,false),(10,false),(11,false),(18,false),(19,false),(20,true)] ?_;refine fY rfl (aF (E rfl)) rfl ?_;refine lN ?_;refine IJ ?_;refine lN ?_;refine CA fun r17 h17=> ?_;intros
  refine eX rfl ((eN vO el j++ [0]).map aH) (eN vO el j++ [0]).length ?_;refine bL fun r18 h18=> ?_;intros
  refine lT rfl Tryz.call163 (rQ 1 oo hv (by omega)) rfl bW kH ?_;rintro _ σ' ⟨q26,rfl,rfl⟩ h26
  replace h26:=cN h26;repeat rcases h26 with⟨_,h26⟩
  apply bZ;exact bN;refine eX rfl ((eN vO el j++ [0]++mD 1 oo).map aH) (eN vO el j++ [0]++mD 1 oo).length ?_;refine bL fun r27 h27=> ?_;intros
  refine lT rfl Tryz.call254 (VT fs hf1 (fun n hn=>⟨(hf2 n hn).1,by have:=(hf2 n hn).2;omega⟩)) rfl bW kH ?_;rintro _ σ' ⟨q34,rfl,rfl⟩ h34
  replace h34:=cN h34;repeat rcases h34 with⟨_,h34⟩
  apply bZ;exact bN;refine eX rfl ((eN vO el j++ [0]++mD 1 oo++bD fs cH).map aH) (eN vO el j++ [0]++mD 1 oo++bD fs cH).length ?_;refine bL fun r35 h35=> ?_;intros
  refine pK ?_;refine⟨(r35,j+1),⟨hlt,by show Nq r35 r1;(exact bA),by show Nq r35 q3;(exact bA)⟩,by show el.length-(j+1)<el.length-j;omega, ?_⟩;dsimp only;rw[hnx];rw[show eN vO el j++vO ⟨oo,fs⟩=eN vO el j++ [0]++mD 1 oo++bD fs cH by unfold vO qX;simp];exact aJ
 obtain rfl:j=el.length:=by simp at g3;omega
 refine nD ?_;refine AD ?_;refine sE Tryz.call158 (iU 9 (by decide) el vO (by omega) (by have:=Pel el.length;omega)) rfl bW kH ?_;rintro _ σ' ⟨q41,rfl,rfl⟩ h41
 replace h41:=cN h41;repeat rcases h41 with⟨_,h41⟩
 apply aZ;exact bN;refine kI ((bJ 9 el vO).map aH) (bJ 9 el vO).length ?_;refine bL fun r42 h42=> ?_;intros
 refine cZ ?_;generalize bJ 9 el vO=S1 at L1⊢;refine kO ?_;refine bX 4 5 1 (by decide) rfl (by decide) (bI fun q5 hq5=> ?_);repeat rcases hq5 with⟨_,hq5⟩
 refine kO ?_;refine lp (β:=Nat×Nat) (fun b=>⟨[(1,.ptr r1 0),(3,.own r42 0 (S1).length),(4,.own b.1 0 (eN kP co b.2).length),(6,.int .i64 b.2)],[(b.1,.arr 5 1 ((eN kP co b.2).map aH)),(r42,.arr 5 1 ((S1).map aH)),(r1,.box 33 (aS ⟨ty,im,fn,tb,me,gl,ex,el,co,da⟩))]⟩) (fun b=>b.2≤co.length∧Nq b.1 r1∧Nq b.1 r42) (fun b=>co.length-b.2) (q5,0) aJ ⟨Nat.zero_le _,by show Nq q5 r1;(exact bA),by show Nq q5 r42;(exact bA)⟩ ?_;rintro⟨q1,j⟩ ⟨hj,hqa,hqb⟩;have hpl:=Pco j;dsimp only at hj hqa hqb⊢;unfold aS;dsimp only;refine pC ?_;refine aB rfl (fun g9=> ?_) (fun g9=> ?_)
 ·have hlt:j<co.length:=by simp at g9;omega
  obtain⟨⟨ls,bd⟩,hx⟩:∃x,co[j]? =some x:=⟨_,List.getElem?_eq_getElem hlt⟩
  obtain⟨hc1,hc2,hc3⟩:=hco _ (List.mem_of_getElem? hx);dsimp only at hc1 hc2 hc3;have hlo:=YI hc1;have hpl2:=AT hc3;have hPl:(bD (cD ls) iH++iS bd).length≤66000:=by rw[List.length_append];omega
  have hcd:kP ⟨ls,bd⟩=uB (bD (cD ls) iH++iS bd).length++(bD (cD ls) iH++iS bd):=rfl;have hub:=bR 4 (bD (cD ls) iH++iS bd).length (by omega);have hnx:=lV (pt:=kP) hx;refine aI ?_;refine fK [(0,true),(1,true),(2,true),(3,true),(4,true),(5,true),(7,true),(8,true),(9,true),(10,true),(11,true),(12,true),(6,false),(13,false),(14,false),(15,true)] ?_;refine lN ?_;refine lN ?_;refine lT rfl Tryz.call255 (aAt ls hc1) rfl bW kH ?_;rintro _ σ' ⟨q56,rfl,rfl⟩ h56
  replace h56:=cN h56;repeat rcases h56 with⟨_,h56⟩
  apply bZ;exact bN;refine lT rfl Tryz.call256 (RJ bd hc2 hc3) rfl bW kH ?_;rintro _ σ' ⟨q63,rfl,rfl⟩ h63
  replace h63:=cN h63;repeat rcases h63 with⟨_,h63⟩
  apply bZ;exact bN;refine eX rfl ((bD (cD ls) iH++iS bd).map aH) (bD (cD ls) iH++iS bd).length ?_;refine bL fun r64 h64=> ?_;intros
  refine yV ?_;generalize bD (cD ls) iH++iS bd=P at hPl hub hcd⊢;refine kL ?_;refine AD ?_;refine sE Tryz.call251 (wT (k:=.any) P.length P (by omega) (by omega)) rfl bW kH ?_;rintro _ σ' ⟨q69,rfl,rfl⟩ h69
  replace h69:=cN h69;repeat rcases h69 with⟨_,h69⟩
  apply aZ;exact bN;refine kI ((eN kP co j++(uB P.length++P)).map aH) (eN kP co j++(uB P.length++P)).length ?_;refine bL fun r70 h70=> ?_;intros
  refine iF ?_;refine AE ?_;refine⟨(r70,j+1),⟨hlt,by show Nq r70 r1;(exact bA),by show Nq r70 r42;(exact bA)⟩,by show co.length-(j+1)<co.length-j;omega, ?_⟩;dsimp only;rw[hnx];rw[hcd];exact aJ
 obtain rfl:j=co.length:=by simp at g9;omega
 refine nD ?_;refine AD ?_;refine sE Tryz.call158 (iU 10 (by decide) co kP (by omega) (by have:=Pco co.length;omega)) rfl bW kH ?_;rintro _ σ' ⟨q76,rfl,rfl⟩ h76
 replace h76:=cN h76;repeat rcases h76 with⟨_,h76⟩
 apply aZ;exact bN;refine kI ((S1++bJ 10 co kP).map aH) (S1++bJ 10 co kP).length ?_;refine bL fun r77 h77=> ?_;intros
 refine cZ ?_;generalize bJ 10 co kP=S2 at L2⊢;refine kO ?_;refine bX 4 5 1 (by decide) rfl (by decide) (bI fun q6 hq6=> ?_);repeat rcases hq6 with⟨_,hq6⟩
 refine kO ?_;refine lp (β:=Nat×Nat) (fun b=>⟨[(1,.ptr r1 0),(3,.own r77 0 (S1++S2).length),(4,.own b.1 0 (eN xH da b.2).length),(8,.int .i64 b.2)],[(b.1,.arr 5 1 ((eN xH da b.2).map aH)),(r77,.arr 5 1 ((S1++S2).map aH)),(r1,.box 33 (aS ⟨ty,im,fn,tb,me,gl,ex,el,co,da⟩))]⟩) (fun b=>b.2≤da.length∧Nq b.1 r1∧Nq b.1 r77) (fun b=>da.length-b.2) (q6,0) aJ ⟨Nat.zero_le _,by show Nq q6 r1;(exact bA),by show Nq q6 r77;(exact bA)⟩ ?_;rintro⟨q1,j⟩ ⟨hj,hqa,hqb⟩;have hpl:=Pda j;dsimp only at hj hqa hqb⊢;unfold aS;dsimp only;refine pC ?_;refine aB rfl (fun g16=> ?_) (fun g16=> ?_)
 ·have hlt:j<da.length:=by simp at g16;omega
  obtain⟨⟨oo,bs⟩,hx⟩:∃x,da[j]? =some x:=⟨_,List.getElem?_eq_getElem hlt⟩
  obtain⟨ho,hf1⟩:=hda _ (List.mem_of_getElem? hx);dsimp only at ho hf1;have hr:-2147483648≤oo∧oo≤2147483647:=by(have h:=ho;unfold kV at h;simpa using h)
  have hv:mS 1 oo=true:=by unfold mS;simp;omega
  have hcl:=xI hv (by omega);have hub:=bR 4 bs.length (by omega);have hnx:=lV (pt:=xH) hx;refine aI ?_;refine fK [(0,true),(3,true),(4,true),(5,true),(6,true),(7,true),(8,true),(9,true),(12,true),(13,true),(14,true),(15,true),(16,true),(17,true),(18,true),(19,true),(20,true),(21,true),(22,true),(23,true),(24,true),(1,false),(2,false),(10,false),(11,false),(25,false),(26,false),(27,true)] ?_;refine fY rfl (aF (E rfl)) rfl ?_;refine lN ?_;refine IJ ?_;refine lN ?_;refine UQ ?_;refine lN ?_;refine CA fun r86 h86=> ?_;intros
  refine eX rfl ((eN xH da j++ [0]).map aH) (eN xH da j++ [0]).length ?_;refine bL fun r87 h87=> ?_;intros
  refine lT rfl Tryz.call163 (rQ 1 oo hv (by omega)) rfl bW kH ?_;rintro _ σ' ⟨q95,rfl,rfl⟩ h95
  replace h95:=cN h95;repeat rcases h95 with⟨_,h95⟩
  apply bZ;exact bN;refine eX rfl ((eN xH da j++ [0]++mD 1 oo).map aH) (eN xH da j++ [0]++mD 1 oo).length ?_;refine bL fun r96 h96=> ?_;intros
  refine lT rfl Tryz.call251 (wT (k:=.any) bs.length bs (by omega) (by omega)) rfl bW kH ?_;rintro _ σ' ⟨q110,rfl,rfl⟩ h110
  replace h110:=cN h110;repeat rcases h110 with⟨_,h110⟩
  apply bZ;exact bN;refine eX rfl ((eN xH da j++ [0]++mD 1 oo++(uB bs.length++bs)).map aH) (eN xH da j++ [0]++mD 1 oo++(uB bs.length++bs)).length ?_;refine bL fun r111 h111=> ?_;intros
  refine pK ?_;refine⟨(r111,j+1),⟨hlt,by show Nq r111 r1;(exact bA),by show Nq r111 r77;(exact bA)⟩,by show da.length-(j+1)<da.length-j;omega, ?_⟩;dsimp only;rw[hnx];rw[show eN xH da j++xH ⟨oo,bs⟩=eN xH da j++ [0]++mD 1 oo++(uB bs.length++bs) by unfold xH qX;simp];exact aJ
 obtain rfl:j=da.length:=by simp at g16;omega
 refine nD ?_;refine AD ?_;refine sE Tryz.call158 (iU 11 (by decide) da xH (by omega) (by have:=Pda da.length;omega)) rfl bW kH ?_;rintro _ σ' ⟨q117,rfl,rfl⟩ h117
 replace h117:=cN h117;repeat rcases h117 with⟨_,h117⟩
 apply aZ;exact bN;refine kI ((S1++S2++bJ 11 da xH).map aH) (S1++S2++bJ 11 da xH).length ?_;refine bL fun r118 h118=> ?_;intros
 refine cZ ?_;exact aD aE ⟨r118,by rfl,rfl⟩ aA
theorem aAu{m:Md}(h:m.G):(wV m).length≤10000000:=by
 obtain⟨-,-,-,-,-,-,-,⟨nel,hel⟩,⟨nco,hco⟩,⟨nda,hda⟩⟩:=h;obtain⟨L1,-⟩:=lF 9 vO 5300 nel (by decide) fun x hx=>YH (hel x hx)
 obtain⟨L2,-⟩:=lF 10 kP 70000 nco (by decide) fun x hx=>YJ (hco x hx)
 obtain⟨L3,-⟩:=lF 11 xH 1300 nda (by decide) fun x hx=>YK (hda x hx)
 unfold wV;rw[List.length_append,List.length_append];omega
theorem aAv(m:Md)(h:m.G):SCall Tryz.prog 64 [.agg (aS m)] [] (fun y σ=>∃q,y=.own q 0 (fI m).length∧σ=[(q,.arr 5 1 ((fI m).map aH))]):=aCF m h (aCG m h) (aAu h)
theorem iK{α:Type}{l:List α}{p:α→Bool}{j:Nat}{x:α}(hx:l[j]? =some x)(h:p x=false):l.all p=false:=by
 rw[List.all_eq_false];exact⟨x,List.mem_of_getElem? hx,by rw[h];simp⟩
theorem kY{α:Type}{l:List α}{p:α→Bool}{j:Nat}{x:α}(ha:(l.take j).all p=true)(hx:l[j]? =some x)(h:p x=true):(l.take (j+1)).all p=true:=by
 rw[List.take_add_one,hx,List.all_append,ha];simp[h]
theorem GP(n:Int):SCall Tryz.prog 59 [.int .i64 n] [] (fun r σ'=>r=.bool (iB n)∧σ'=[]):=by
 refine cC 9 [0,2] Tryz.func59 ?_;refine gX ?_;refine JR ?_;refine LO ?_;refine kM ?_;exact aD aE ⟨by rfl,rfl⟩ aA
theorem aCH(n:Int):SCall Tryz.prog 154 [.int .i64 n] [] (fun r σ'=>r=.bool (kV n)∧σ'=[]):=by
 refine cC 9 [0,2] Tryz.func154 ?_;refine gX ?_;refine JR ?_;refine FN ?_;refine kM ?_;exact aD aE ⟨by unfold kV;rw[show decide (n≤2147483647)=decide (n<2147483648)from decide_eq_decide.2 (by omega)];cases h:decide (-2147483648≤n)<;>simp_all [gC],rfl⟩ aA
theorem aIJ(k n:Int):SCall Tryz.prog 60 [.agg [.int .i64 k,.int .i64 n]] [] (fun r σ'=>r=.bool (mS k n)∧σ'=[]):=by
 have hd:decide (n≤2147483647)=decide (n<2147483648):=decide_eq_decide.2 (by omega);refine cC 21 [0,1,2] Tryz.func60 ?_;refine dG ?_;refine iG fun r1 h1=> ?_;intros
 refine iX ?_;refine DH ?_;refine sL ?_;refine aBs ?_;refine aBt ?_;refine aBu ?_;refine aJ6 ?_;refine aD3 ?_;refine aBs ?_;refine aBt ?_;refine aBu ?_;refine aMa ?_;refine aD3 ?_;refine nX ?_;refine cZ ?_;exact aD aE ⟨by unfold mS;rw[hd];cases h:(k==2)<;>cases h1:(k==1)<;>cases h2:decide (-2147483648≤n)<;>cases h3:decide (n<2147483648)<;>rfl,rfl⟩ aA
theorem KO(l:Li)(a c:Int):SCall Tryz.prog 62 [.agg (fA l),.int .i64 a,.int .i64 c] [] (fun r σ'=>r=.bool (lU l a c)∧σ'=[]):=by
 obtain⟨has,mn,mx⟩:=l;refine cC 38 [0,1,2,3,6,9] Tryz.func62 ?_;unfold fA;refine dG ?_;refine iG fun r3 h3=> ?_;intros
 refine iX ?_;refine nZ ?_;refine aB rfl (fun g1=> ?_) (fun g1=> ?_)
 ·have hE:lU ⟨has,mn,mx⟩ a c=if(mn==0)=true then(mx==0)else false:=by obtain rfl:has=false:=(by simpa using g1);unfold lU;cases h:mn==0<;>simp_all
  refine fE ?_;refine DH ?_;refine sL ?_;refine kM ?_;exact aD aE ⟨by rw[hE];rfl,rfl⟩ aA
 have hE:lU ⟨has,mn,mx⟩ a c=if(if(if decide (0≤mn)=true then decide (mn≤a)else false)=true then decide (-1≤mx)else false)=true then decide (mx≤c)else false:=by obtain rfl:has=true:=(by simpa using g1);unfold lU;rw[if_pos rfl];cases h:decide (0≤mn)<;>cases h2:decide (mn≤a)<;>cases h3:decide (-1≤mx)<;>rfl
 refine fE ?_;refine lo (gN (E rfl) (E rfl)) rfl ?_;refine pL ?_;refine aBr ?_;refine uX ?_;refine nM ?_;refine US ?_;refine uX ?_;refine pL ?_;refine aBr ?_;refine kM ?_;exact aD aE ⟨by rw[hE];rfl,rfl⟩ aA
theorem GQ(l:List Int)(hl:l.length≤1000000)(most:Int):SCall Tryz.prog 57 [.ro 1 (l.map aR) .any,.int .i64 most] [] (fun r σ'=>r=.bool (cQ l most AU)∧σ'=[]):=by
 refine cC 28 [0,1,4,5,9,23] Tryz.func57 ?_;refine nQ ?_;refine lp (β:=Nat) (fun j=>⟨[(0,.ro 1 (l.map aR) .any),(1,.int .i64 most),(5,.int .i64 j)],[]⟩) (fun j=>j≤l.length∧(l.take j).all AU=true) (fun j=>l.length-j) 0 aJ ⟨Nat.zero_le _,rfl⟩ ?_;rintro j ⟨hj,ha⟩;refine oR ?_;refine oP ?_;refine aB rfl (fun g2=> ?_) (fun g2=> ?_)
 ·have hlt:j<l.length:=by simp at g2;omega
  obtain⟨x,hx⟩:∃x,l[j]? =some x:=⟨_,List.getElem?_eq_getElem hlt⟩
  refine dF ?_;refine mJ ?_;refine lo (gA (E rfl) (E rfl)) rfl ?_;refine lM ?_;refine nW ?_;refine DU ?_;refine DV ?_;refine aD2 ?_;refine vB ?_;refine aB rfl (fun g4=> ?_) (fun g4=> ?_)
  ·have hE:cQ l most AU=false:=by unfold cQ;rw[iK hx (by unfold AU;cases h1:(x==1)<;>cases h2:(x==2)<;>simp_all),Bool.and_false]
   refine bP ?_;exact aD aE ⟨by rw[hE];rfl,rfl⟩ aA
  refine lI ?_;refine⟨j+1,⟨hlt,kY ha hx (by unfold AU;cases h1:(x==1)<;>cases h2:(x==2)<;>simp_all)⟩,by show l.length-(j+1)<l.length-j;omega, ?_⟩;exact aJ
 obtain rfl:j=l.length:=by simp at g2;omega
 have hE:cQ l most AU=decide ((l.length:Int)≤most):=by unfold cQ;rw[List.take_length]at ha;rw[ha,Bool.and_true]
 refine dO ?_;refine aHH ?_;refine cZ ?_;exact aD aE ⟨by rw[hE];rfl,rfl⟩ aA
theorem GR(l:List Int)(hl:l.length≤1000000)(most:Int):SCall Tryz.prog 61 [.ro 1 (l.map aR) .any,.int .i64 most] [] (fun r σ'=>r=.bool (cQ l most iB)∧σ'=[]):=by
 refine cC 22 [0,1,4,5,9,17] Tryz.func61 ?_;refine nQ ?_;refine lp (β:=Nat) (fun j=>⟨[(0,.ro 1 (l.map aR) .any),(1,.int .i64 most),(5,.int .i64 j)],[]⟩) (fun j=>j≤l.length∧(l.take j).all iB=true) (fun j=>l.length-j) 0 aJ ⟨Nat.zero_le _,rfl⟩ ?_;rintro j ⟨hj,ha⟩;refine oR ?_;refine oP ?_;refine aB rfl (fun g2=> ?_) (fun g2=> ?_)
 ·have hlt:j<l.length:=by simp at g2;omega
  obtain⟨x,hx⟩:∃x,l[j]? =some x:=⟨_,List.getElem?_eq_getElem hlt⟩
  refine dF ?_;refine mJ ?_;refine lS Tryz.call59 (GP x) rfl aU bC ?_;refine nZ ?_;refine aB rfl (fun g4=> ?_) (fun g4=> ?_)
  ·have hE:cQ l most iB=false:=by unfold cQ;rw[iK hx (by simpa using g4),Bool.and_false]
   refine bP ?_;exact aD aE ⟨by rw[hE];rfl,rfl⟩ aA
  refine lI ?_;refine⟨j+1,⟨hlt,kY ha hx (by simpa using g4)⟩,by show l.length-(j+1)<l.length-j;omega, ?_⟩;exact aJ
 obtain rfl:j=l.length:=by simp at g2;omega
 have hE:cQ l most iB=decide ((l.length:Int)≤most):=by unfold cQ;rw[List.take_length]at ha;rw[ha,Bool.and_true]
 refine dO ?_;refine aHH ?_;refine cZ ?_;exact aD aE ⟨by rw[hE];rfl,rfl⟩ aA
theorem NA(s:List Nat)(hl:s.length≤1000000)(hs:∀c∈s,c<256):SCall Tryz.prog 58 [.str (dE s)] [] (fun r σ'=>r=.bool (uO s)∧σ'=[]):=by
 have hch:∀x:Nat,(if decide ((x:Int)<32)=true then true else decide ((126:Int)<x))= !chN x:=fun x=>by unfold chN;rw[show decide ((x:Int)<32)= !decide (32≤x) by rw[←decide_not];exact decide_eq_decide.2 (by omega),show decide ((126:Int)<x)= !decide (x≤126) by rw[←decide_not];exact decide_eq_decide.2 (by omega)];cases decide (32≤x)<;>rfl
 have hnm:uO s=if decide ((1:Int)≤s.length)=true then(decide ((s.length:Int)≤16)&&s.all chN)else false:=by
  rw[aCl];unfold cQ;rcases s with _ |⟨x,s⟩
  ·rfl
  ·rw[if_pos (by simp),if_pos (by simp;omega)]
 refine cC 28 [0,2,3,7,19] Tryz.func58 ?_;refine nQ ?_;refine lp (β:=Nat) (fun j=>⟨[(0,.str (dE s)),(3,.int .i64 j)],[]⟩) (fun j=>j≤s.length∧(s.take j).all chN=true) (fun j=>s.length-j) 0 aJ ⟨Nat.zero_le _,rfl⟩ ?_;rintro j ⟨hj,ha⟩;refine dF ?_;refine lo (fW (E rfl)) rfl ?_;rw[jE];refine oP ?_;refine aB rfl (fun g2=> ?_) (fun g2=> ?_)
 ·have hlt:j<s.length:=by simp at g2;omega
  obtain⟨x,hx⟩:∃x,s[j]? =some x:=⟨_,List.getElem?_eq_getElem hlt⟩
  have hx256:x<256:=hs x (List.mem_of_getElem? hx);refine dF ?_;refine aMb ?_;refine xT ?_;refine nW ?_;refine aMc ?_;refine LN ?_;refine lP ?_;rw[hch];refine aB rfl (fun g4=> ?_) (fun g4=> ?_)
  ·have hE:uO s=false:=by rw[hnm,iK hx (by simpa using g4),Bool.and_false];split<;>rfl
   refine bP ?_;exact aD aE ⟨by rw[hE];rfl,rfl⟩ aA
  refine lI ?_;refine⟨j+1,⟨hlt,kY ha hx (by simpa using g4)⟩,by show s.length-(j+1)<s.length-j;omega, ?_⟩;exact aJ
 obtain rfl:j=s.length:=by simp at g2;omega
 rw[List.take_length]at ha;refine dO ?_;refine lo (fW (E rfl)) rfl ?_;rw[jE];refine JR ?_;refine aHA ?_;rw[jE];refine LO ?_;refine kM ?_;have hE:uO s=if decide ((1:Int)≤s.length)=true then decide ((s.length:Int)≤16)else false:=by rw[hnm,ha,Bool.and_true]
 exact aD aE ⟨by rw[hE];rfl,rfl⟩ aA
def elP (x:El):Bool:=kV x.off&&cQ x.fs 50 iB
def daP (x:Da):Bool:=kV x.off&&decide (x.bs.length≤1000)
def NB (c:Co):Bool:=xV (cW c.bd)&&cQ c.ls 32 AU&&c.bd.all dB
def lL (m:Md):Bool:=m.el.all elP&&m.co.all NB&&m.da.all daP
theorem aFr(c:Co):NB c=tR c:=by
 unfold NB tR;cases h:xV (cW c.bd)with
 |false=>rfl
 |true=>
  have:=MN h;simp only[cW,List.length_map]at this;unfold cQ;rw[decide_eq_true (show(c.bd.length:Int)≤300 by omega)];rfl
structure Md.Z (m:Md):Prop where
 ty:m.ty.length≤1000000∧∀x∈m.ty,x.pr.length≤1000000∧x.rs.length≤1000000
 im:m.im.length≤1000000
 fn:m.fn.length≤1000000
 gl:m.gl.length≤1000000
 ex:m.ex.length≤1000000
 el:m.el.length≤1000000∧∀x∈m.el,x.fs.length≤1000000
 co:m.co.length≤1000000∧∀x∈m.co,x.ls.length≤1000000
 da:m.da.length≤1000000∧∀x∈m.da,x.bs.length≤1000000
theorem aCI(m:Md)(h:m.WO)(hz:m.Z):SCall Tryz.prog 63 [.agg (aS m)] [] (fun r σ'=>r=.bool (lL m)∧σ'=[]):=by
 obtain⟨⟨-,-,h3,-,-⟩,h5,-⟩:=h;obtain⟨-,-,-,-,-,⟨z1,z2⟩,⟨z3,z4⟩,⟨z5,z6⟩⟩:=hz;obtain⟨ty,im,fn,tb,me,gl,ex,el,co,da⟩:=m;dsimp only at h3 h5 z1 z2 z3 z4 z5 z6;refine cC 100 [0,1,2,3,4,5,7,8,9,14,34,39,60,65,74,79,99] Tryz.func63 ?_;unfold aS;dsimp only;refine dG ?_;refine iG fun r1 h1=> ?_;intros
 refine jC ?_;refine cZ ?_;refine lp (β:=Nat) (fun j=>⟨[(1,.ptr r1 0),(3,.int .i64 j)],[(r1,.box 33 (aS ⟨ty,im,fn,tb,me,gl,ex,el,co,da⟩))]⟩) (fun j=>j≤el.length∧(el.take j).all elP=true) (fun j=>el.length-j) 0 aJ ⟨Nat.zero_le _,rfl⟩ ?_;rintro j ⟨hj,ha⟩;unfold aS;dsimp only;refine pC ?_;refine aB rfl (fun g2=> ?_) (fun g2=> ?_)
 ·have hlt:j<el.length:=by simp at g2;omega
  obtain⟨⟨oo,fs⟩,hx⟩:∃x,el[j]? =some x:=⟨_,List.getElem?_eq_getElem hlt⟩
  have hfl:=z2 _ (List.mem_of_getElem? hx);refine fE ?_;refine sO ?_;refine lS Tryz.call154 (aCH oo) rfl aU bC ?_;refine lo (eJ (E rfl)) rfl ?_;refine pL ?_;refine DU ?_;refine QJ ?_;refine DV ?_;refine lJ rfl rfl Tryz.call61 (fun _=>(GR fs hfl 50)) rfl aU bC ?_;refine uY ?_;refine lP ?_;refine aB rfl (fun g4=> ?_) (fun g4=> ?_)
  ·have hE:lL ⟨ty,im,fn,tb,me,gl,ex,el,co,da⟩=false:=by unfold lL;rw[iK hx (by unfold elP;cases h1:kV oo<;>cases h2:cQ fs 50 iB<;>simp_all),Bool.false_and,Bool.false_and]
   refine bP ?_;exact aD aE ⟨by rw[hE];rfl,rfl⟩ aA
  refine lI ?_;refine⟨j+1,⟨hlt,kY ha hx (by unfold elP;cases h1:kV oo<;>cases h2:cQ fs 50 iB<;>simp_all)⟩,by show el.length-(j+1)<el.length-j;omega, ?_⟩;exact aJ
 obtain rfl:j=el.length:=by simp at g2;omega
 rw[List.take_length]at ha;refine bP ?_;refine lp (β:=Nat) (fun j=>⟨[(1,.ptr r1 0),(4,.int .i64 j)],[(r1,.box 33 (aS ⟨ty,im,fn,tb,me,gl,ex,el,co,da⟩))]⟩) (fun j=>j≤co.length∧(co.take j).all NB=true) (fun j=>co.length-j) 0 aJ ⟨Nat.zero_le _,rfl⟩ ?_;rintro j ⟨hj,hc⟩;unfold aS;dsimp only;refine pC ?_;refine aB rfl (fun g7=> ?_) (fun g7=> ?_)
 ·have hlt:j<co.length:=by simp at g7;omega
  obtain⟨⟨ls,bd⟩,hx⟩:∃x,co[j]? =some x:=⟨_,List.getElem?_eq_getElem hlt⟩
  have hll:=z4 _ (List.mem_of_getElem? hx);have hbl:=h3 _ (List.mem_of_getElem? hx);have hbo:=h5 _ (List.mem_of_getElem? hx);dsimp only at hll hbl hbo;refine fE ?_;refine mZ ?_;apply al;rfl;exact wA;refine bI fun r5 h5=> ?_;repeat rcases h5 with⟨_,h5⟩
  refine nY ?_;refine fE ?_;refine sE Tryz.call155 (aAh bd hbl) rfl bW kH ?_;rintro _ σ' ⟨q50,rfl,rfl⟩ h50
  replace h50:=cN h50;repeat rcases h50 with⟨_,h50⟩
  refine yG ?_;refine mK ?_;refine lo (eJ (E rfl)) rfl ?_;refine nM ?_;refine lJ rfl rfl Tryz.call57 (fun _=>(GQ ls hll 32)) rfl aU bC ?_;refine uY ?_;refine lP ?_;refine aB rfl (fun g11=> ?_) (fun g11=> ?_)
  ·have hE:lL ⟨ty,im,fn,tb,me,gl,ex,el,co,da⟩=false:=by unfold lL;rw[iK hx (by unfold NB;dsimp only;cases h1:xV (cW bd)<;>cases h2:cQ ls 32 AU<;>simp_all),Bool.and_false,Bool.false_and]
   refine bP ?_;exact aD aE ⟨by rw[hE];rfl,rfl⟩ aA
  have hok:xV (cW bd)=true∧cQ ls 32 AU=true:=by cases h1:xV (cW bd)<;>cases h2:cQ ls 32 AU<;>simp_all
  refine bP ?_;refine lp (β:=Nat) (fun i=>⟨[(1,.ptr r1 0),(4,.int .i64 j),(5,.ptr r5 0),(8,.int .i64 i)],[(r5,.box 44 (dP ⟨ls,bd⟩)),(r1,.box 33 (aS ⟨ty,im,fn,tb,me,gl,ex,el,co,da⟩))]⟩) (fun i=>i≤bd.length∧(bd.take i).all dB=true) (fun i=>bd.length-i) 0 aJ ⟨Nat.zero_le _,rfl⟩ ?_;rintro i ⟨hi,hb⟩;unfold aS dP;dsimp only;refine pC ?_;refine aB rfl (fun g14=> ?_) (fun g14=> ?_)
  ·have hlt2:i<bd.length:=by simp at g14;omega
   obtain⟨x,hx2⟩:∃x,bd[i]? =some x:=⟨_,List.getElem?_eq_getElem hlt2⟩
   refine fE ?_;refine mZ ?_;refine lS Tryz.call156 (LV .any x (hbo x (List.mem_of_getElem? hx2))) rfl aU bC ?_;refine nZ ?_;refine aB rfl (fun g16=> ?_) (fun g16=> ?_)
   ·have hE:lL ⟨ty,im,fn,tb,me,gl,ex,el,co,da⟩=false:=by unfold lL;rw[iK hx (by unfold NB;dsimp only;rw[iK hx2 (by simpa using g16),Bool.and_false]),Bool.and_false,Bool.false_and]
    refine bP ?_;exact aD aE ⟨by rw[hE];rfl,rfl⟩ aA
   refine lI ?_;refine⟨i+1,⟨hlt2,kY hb hx2 (by simpa using g16)⟩,by show bd.length-(i+1)<bd.length-i;omega, ?_⟩;exact aJ
  obtain rfl:i=bd.length:=by simp at g14;omega
  rw[List.take_length]at hb;refine lI ?_;refine⟨j+1,⟨hlt,kY hc hx (by unfold NB;dsimp only;rw[hok.1,hok.2,hb];rfl)⟩,by show co.length-(j+1)<co.length-j;omega, ?_⟩;exact aJ
 obtain rfl:j=co.length:=by simp at g7;omega
 rw[List.take_length]at hc;refine bP ?_;refine lp (β:=Nat) (fun j=>⟨[(1,.ptr r1 0),(9,.int .i64 j)],[(r1,.box 33 (aS ⟨ty,im,fn,tb,me,gl,ex,el,co,da⟩))]⟩) (fun j=>j≤da.length∧(da.take j).all daP=true) (fun j=>da.length-j) 0 aJ ⟨Nat.zero_le _,rfl⟩ ?_;rintro j ⟨hj,hd⟩;unfold aS;dsimp only;refine pC ?_;refine aB rfl (fun g19=> ?_) (fun g19=> ?_)
 ·have hlt:j<da.length:=by simp at g19;omega
  obtain⟨⟨oo,bs⟩,hx⟩:∃x,da[j]? =some x:=⟨_,List.getElem?_eq_getElem hlt⟩
  have hfl:=z6 _ (List.mem_of_getElem? hx);have hgt:decide ((1000:Int)<bs.length)= !decide (bs.length≤1000):=by rw[←decide_not];exact decide_eq_decide.2 (by omega)
  refine fE ?_;refine sO ?_;refine lS Tryz.call154 (aCH oo) rfl aU bC ?_;refine lo (eJ (E rfl)) rfl ?_;refine pL ?_;refine DU ?_;refine QJ ?_;refine DV ?_;refine rK ?_;refine LN ?_;refine lP ?_;rw[hgt];refine aB rfl (fun g21=> ?_) (fun g21=> ?_)
  ·have hE:lL ⟨ty,im,fn,tb,me,gl,ex,el,co,da⟩=false:=by unfold lL;rw[iK hx (by unfold daP;dsimp only;cases h1:kV oo<;>cases h2:decide (bs.length≤1000)<;>rw[h1,h2]at g21<;>first|rfl|cases g21),Bool.and_false]
   refine bP ?_;exact aD aE ⟨by rw[hE];rfl,rfl⟩ aA
  refine lI ?_;refine⟨j+1,⟨hlt,kY hd hx (by unfold daP;dsimp only;cases h1:kV oo<;>cases h2:decide (bs.length≤1000)<;>rw[h1,h2]at g21<;>first|rfl|cases g21)⟩,by show da.length-(j+1)<da.length-j;omega, ?_⟩;exact aJ
 obtain rfl:j=da.length:=by simp at g19;omega
 rw[List.take_length]at hd;refine bP ?_;have hE:lL ⟨ty,im,fn,tb,me,gl,ex,el,co,da⟩=true:=by unfold lL;rw[ha,hc,hd];rfl
 exact aD aE ⟨by rw[hE];rfl,rfl⟩ aA
def tyP (t:FT):Bool:=cQ t.pr 32 AU&&cQ t.rs 1 AU
def imP (x:Im):Bool:=uO x.mod&&uO x.nm&&iB x.ty
def glP (g:Gl):Bool:=mS g.kd g.n
def exP (x:Ex):Bool:=uO x.nm&&iB x.fn
def GS (m:Md):Bool:=decide (m.ty.length≤16∧m.im.length+m.fn.length≤16∧m.gl.length≤16∧m.ex.length≤16∧m.el.length≤16∧m.da.length≤16∧m.co.length=m.fn.length)
def aIK (m:Md):Bool:=GS m&&m.ty.all tyP&&m.im.all imP&&m.gl.all glP&&m.ex.all exP&&cQ m.fn 16 iB&&lU m.tb 16 1000&&lU m.me 16 65536&&lL m
theorem aFs(m:Md):aIK m=qZ m:=by
 have hc:m.co.all NB=m.co.all tR:=by rw[show NB=tR from funext aFr]
 unfold aIK qZ pE GS lL;rw[hc,Bool.eq_iff_iff];simp only[Bool.and_eq_true,decide_eq_true_eq,beq_iff_eq,cQ];constructor
 ·rintro⟨⟨⟨⟨⟨⟨⟨⟨⟨l1,l2,l3,l4,l5,l6,l7⟩,a1⟩,a2⟩,a3⟩,a4⟩,-,a5⟩,a6⟩,a7⟩,⟨a8,a9⟩,a10⟩;exact⟨⟨⟨⟨l7,by omega,a9⟩,⟨⟨⟨⟨⟨⟨by omega,a1⟩,by omega,a2⟩,by omega,a5⟩,by omega,a3⟩,by omega,a4⟩,by omega,a8⟩,by omega,a10⟩,a6⟩,a7⟩
 ·rintro⟨⟨⟨⟨l7,l8,a9⟩,⟨⟨⟨⟨⟨⟨l1,a1⟩,l2,a2⟩,l3,a5⟩,l4,a3⟩,l5,a4⟩,l6,a8⟩,l9,a10⟩,a6⟩,a7⟩;exact⟨⟨⟨⟨⟨⟨⟨⟨⟨by omega,by omega,by omega,by omega,by omega,by omega,l7⟩,a1⟩,a2⟩,a3⟩,a4⟩,by omega,a5⟩,a6⟩,a7⟩,⟨a8,a9⟩,a10⟩
theorem aCJ{s:List Nat}(h:uO s=true):SH s:=⟨by have:=(lD h).1;omega,(lD h).2.1⟩
theorem aFt{n:Int}(h:iB n=true):SmI n:=⟨(MQ h).1,by have:=(MQ h).2;omega⟩
theorem aKY{m:Md}(h:qZ m=true)(hw:m.WO):m.G:=by
 obtain⟨-,hO1,hO2⟩:=hw;have hw2:=h;unfold qZ at h;simp only[Bool.and_eq_true]at h;obtain⟨⟨⟨⟨-,hco⟩,hls⟩,htb⟩,hme⟩:=h;unfold pE at hls;simp only[Bool.and_eq_true]at hls;obtain⟨⟨⟨⟨⟨⟨hty,him⟩,hfn⟩,hgl⟩,hex⟩,hel⟩,hda⟩:=hls;obtain⟨a1,a2⟩:=cA hty;obtain⟨b1,b2⟩:=cA him;obtain⟨c1,c2⟩:=cA hfn;obtain⟨d1,d2⟩:=cA hgl;obtain⟨e1,e2⟩:=cA hex;obtain⟨f1,f2⟩:=cA hel;obtain⟨g1,g2⟩:=cA hda;obtain⟨i1,i2⟩:=cA hco;simp only[Bool.and_eq_true]at a2 b2 e2 f2 g2;refine⟨⟨by omega,fun x hx=> ?_⟩,⟨by omega,fun x hx=> ?_⟩,⟨by omega,fun x hx=>aFt (c2 x hx)⟩,fun hh=> ?_,fun hh=> ?_,⟨by omega,fun x hx=>⟨d2 x hx,hO2 x hx⟩⟩,⟨by omega,fun x hx=> ?_⟩,⟨by omega,fun x hx=> ?_⟩,⟨by omega,fun x hx=> ?_⟩,⟨by omega,fun x hx=> ?_⟩⟩
 ·have h1:=(cA (a2 x hx).1).1;have h2:=(cA (a2 x hx).2).1;omega
 ·exact⟨aCJ (b2 x hx).1.1,aCJ (b2 x hx).1.2,aFt (b2 x hx).2⟩
 ·exact(MT htb (by decide) (by decide)).1 m.tb (by unfold gP;rw[hh];simp)
 ·exact(MT hme (by decide) (by decide)).1 m.me (by unfold gP;rw[hh];simp)
 ·exact⟨aCJ (e2 x hx).1,aFt (e2 x hx).2⟩
 ·exact⟨(f2 x hx).1,by have:=(cA (f2 x hx).2).1;omega,fun n hn=>aFt ((cA (f2 x hx).2).2 n hn)⟩
 ·have h1:=i2 x hx;unfold tR at h1;simp only[Bool.and_eq_true]at h1;exact⟨by have:=(cA h1.1.2).1;omega,by have:=(cA h1.2).1;omega,fun i hi=>⟨hO1 x hx i hi,(cA h1.2).2 i hi⟩⟩
 ·exact⟨(g2 x hx).1,by simpa using(g2 x hx).2⟩
theorem or7(a b c d e f g:Bool):(if(if(if(if(if(if a=true then true else b)=true then true else c)=true then true else d)=true then true else e)=true then true else f)=true then true else g)=(a||b||c||d||e||f||g):=by
 cases a<;>cases b<;>cases c<;>cases d<;>cases e<;>cases f<;>cases g<;>rfl
theorem SI{a b:Bool}(h:(if(!a)=true then true else !b)=true):(a&&b)=false:=by cases a<;>cases b<;>simp_all
theorem SJ{a b:Bool}(h:(if(!a)=true then true else !b)=false):(a&&b)=true:=by cases a<;>cases b<;>simp_all
theorem aFu(m:Md)(h:m.WO)(hz:m.Z):SCall Tryz.prog 19 [.agg (aS m)] [] (fun r σ'=>r=.bool (mT m)∧σ'=[]):=by
 have hM:=xK m;have hpt:=aCI m h hz;have hby:=fun ha=>aAv m (aKY ha h)
 have hrA:=aFs m;unfold aIK at hrA;obtain⟨⟨h1,h2,h3,h4,-⟩,h5,h6⟩:=h;obtain⟨⟨z1,z2⟩,z3,z4,z5,z6,⟨z7,z8⟩,⟨z9,z10⟩,⟨z11,z12⟩⟩:=hz;obtain⟨ty,im,fn,tb,me,gl,ex,el,co,da⟩:=m;dsimp only at h1 h2 h3 h4 h5 h6 z1 z2 z3 z4 z5 z6 z7 z8 z9 z10 z11 z12 hrA;have bad:qZ ⟨ty,im,fn,tb,me,gl,ex,el,co,da⟩=false→mT ⟨ty,im,fn,tb,me,gl,ex,el,co,da⟩=false:=fun h=>by rw[hM,h];rfl
 refine cC 179 [0,1,2,3,4,5,6,53,58,78,83,113,118,128,133,153,174] Tryz.func19 ?_;unfold aS;dsimp only;refine dG ?_;apply bx;rfl;rfl;exact wA;rfl;refine bI fun r1 h1=> ?_;repeat rcases h1 with⟨_,h1⟩
 refine jC ?_;refine nL ?_;refine lo (jM (E rfl) (E rfl)) rfl ?_;refine nM ?_;refine rK ?_;refine qR ?_;refine rK ?_;refine aMd ?_;refine LN ?_;refine nX ?_;refine nM ?_;refine rK ?_;refine LN ?_;refine nX ?_;refine nM ?_;refine rK ?_;refine LN ?_;refine nX ?_;refine nM ?_;refine rK ?_;refine LN ?_;refine nX ?_;refine nM ?_;refine rK ?_;refine LN ?_;refine nX ?_;refine nM ?_;refine rK ?_;refine qR ?_;refine rK ?_;refine aMe ?_;refine lP ?_;refine aB rfl (fun g1=> ?_) (fun g1=> ?_)
 ·have hl0:GS ⟨ty,im,fn,tb,me,gl,ex,el,co,da⟩=false:=by cases hh:GS ⟨ty,im,fn,tb,me,gl,ex,el,co,da⟩with|false=>rfl|true=>(unfold GS at hh;simp only[decide_eq_true_eq]at hh;obtain⟨l1,l2,l3,l4,l5,l6,l7⟩:=hh;rw[decide_eq_false (by omega),decide_eq_false (by omega),decide_eq_false (by omega),decide_eq_false (by omega),decide_eq_false (by omega),decide_eq_false (by omega)]at g1;simp[l7]at g1)
  have hE:=bad (by rw[←hrA,hl0];rfl);refine bP ?_;exact aD aE ⟨by rw[hE];rfl,rfl⟩ aA
 rw[or7]at g1;simp only[Bool.or_eq_false_iff,decide_eq_false_iff_not,bne_eq_false_iff_eq]at g1;have hl1:GS ⟨ty,im,fn,tb,me,gl,ex,el,co,da⟩=true:=by unfold GS;rw[decide_eq_true];obtain⟨⟨⟨⟨⟨⟨m1,m2⟩,m3⟩,m4⟩,m5⟩,m6⟩,m7⟩:=g1;dsimp only;omega
 refine bP ?_;refine lp (β:=Nat) (fun j=>⟨[(1,.ptr r1 0),(3,.int .i64 j)],[(r1,.box 33 (aS ⟨ty,im,fn,tb,me,gl,ex,el,co,da⟩))]⟩) (fun j=>j≤ty.length∧(ty.take j).all tyP=true) (fun j=>ty.length-j) 0 aJ ⟨Nat.zero_le _,rfl⟩ ?_;rintro j ⟨hj,a1⟩;unfold aS;dsimp only;refine pC ?_;refine aB rfl (fun g4=> ?_) (fun g4=> ?_)
 ·have hlt:j<ty.length:=by simp at g4;omega
  obtain⟨⟨pr,rs⟩,hx⟩:∃x,ty[j]? =some x:=⟨_,List.getElem?_eq_getElem hlt⟩
  obtain⟨hp1,hp2⟩:=z2 _ (List.mem_of_getElem? hx);dsimp only at hp1 hp2;refine fE ?_;refine sO ?_;refine lS Tryz.call57 (GQ pr hp1 32) rfl aU bC ?_;refine lo (eJ (E rfl)) rfl ?_;refine pL ?_;refine DU ?_;refine QJ ?_;refine DV ?_;refine lJ rfl rfl Tryz.call57 (fun _=>(GQ rs hp2 1)) rfl aU bC ?_;refine uY ?_;refine lP ?_;refine aB rfl (fun g6=> ?_) (fun g6=> ?_)
  ·have hE:=bad (by rw[←hrA,iK hx (SI g6)];simp);refine bP ?_;exact aD aE ⟨by rw[hE];rfl,rfl⟩ aA
  refine lI ?_;refine⟨j+1,⟨hlt,kY a1 hx (SJ g6)⟩,by show ty.length-(j+1)<ty.length-j;omega, ?_⟩;exact aJ
 obtain rfl:j=ty.length:=by simp at g4;omega
 rw[List.take_length]at a1;refine bP ?_;refine lp (β:=Nat) (fun j=>⟨[(1,.ptr r1 0),(4,.int .i64 j)],[(r1,.box 33 (aS ⟨ty,im,fn,tb,me,gl,ex,el,co,da⟩))]⟩) (fun j=>j≤im.length∧(im.take j).all imP=true) (fun j=>im.length-j) 0 aJ ⟨Nat.zero_le _,rfl⟩ ?_;rintro j ⟨hj,a2⟩;unfold aS;dsimp only;refine pC ?_;refine aB rfl (fun g9=> ?_) (fun g9=> ?_)
 ·have hlt:j<im.length:=by simp at g9;omega
  obtain⟨⟨md,nm,tt⟩,hx⟩:∃x,im[j]? =some x:=⟨_,List.getElem?_eq_getElem hlt⟩
  obtain⟨⟨hp1,hp2⟩,hp3,hp4⟩:=h1 _ (List.mem_of_getElem? hx);dsimp only at hp1 hp2 hp3 hp4;refine fE ?_;refine sO ?_;refine lS Tryz.call58 (NA md (by omega) hp2) rfl aU bC ?_;refine lo (eJ (E rfl)) rfl ?_;refine pL ?_;refine DU ?_;refine QJ ?_;refine DV ?_;refine lJ rfl rfl Tryz.call58 (fun _=>(NA nm (by omega) hp4)) rfl aU bC ?_;refine uY ?_;refine nX ?_;refine pL ?_;refine DU ?_;refine QJ ?_;refine DV ?_;refine lJ rfl rfl Tryz.call59 (fun _=>(GP tt)) rfl aU bC ?_;refine uY ?_;refine lP ?_;refine aB rfl (fun g11=> ?_) (fun g11=> ?_)
  ·have hE:=bad (by rw[←hrA,iK hx (show imP ⟨md,nm,tt⟩=false by unfold imP;dsimp only;cases h7:uO md<;>cases h8:uO nm<;>cases h9:iB tt<;>simp_all)];simp);refine bP ?_;exact aD aE ⟨by rw[hE];rfl,rfl⟩ aA
  refine lI ?_;refine⟨j+1,⟨hlt,kY a2 hx (show imP ⟨md,nm,tt⟩=true by unfold imP;dsimp only;cases h7:uO md<;>cases h8:uO nm<;>cases h9:iB tt<;>simp_all)⟩,by show im.length-(j+1)<im.length-j;omega, ?_⟩;exact aJ
 obtain rfl:j=im.length:=by simp at g9;omega
 rw[List.take_length]at a2;refine bP ?_;refine lp (β:=Nat) (fun j=>⟨[(1,.ptr r1 0),(5,.int .i64 j)],[(r1,.box 33 (aS ⟨ty,im,fn,tb,me,gl,ex,el,co,da⟩))]⟩) (fun j=>j≤gl.length∧(gl.take j).all glP=true) (fun j=>gl.length-j) 0 aJ ⟨Nat.zero_le _,rfl⟩ ?_;rintro j ⟨hj,a3⟩;unfold aS;dsimp only;refine pC ?_;refine aB rfl (fun g14=> ?_) (fun g14=> ?_)
 ·have hlt:j<gl.length:=by simp at g14;omega
  obtain⟨⟨mu,kk,nn⟩,hx⟩:∃x,gl[j]? =some x:=⟨_,List.getElem?_eq_getElem hlt⟩
  refine fE ?_;refine JQ ?_;refine aHu ?_;refine lS Tryz.call60 (aIJ kk nn) rfl aU bC ?_;refine nZ ?_;refine aB rfl (fun g16=> ?_) (fun g16=> ?_)
  ·have hE:=bad (by rw[←hrA,iK hx (show glP ⟨mu,kk,nn⟩=false by unfold glP;simpa using g16)];simp);refine bP ?_;exact aD aE ⟨by rw[hE];rfl,rfl⟩ aA
  refine lI ?_;refine⟨j+1,⟨hlt,kY a3 hx (show glP ⟨mu,kk,nn⟩=true by unfold glP;simpa using g16)⟩,by show gl.length-(j+1)<gl.length-j;omega, ?_⟩;exact aJ
 obtain rfl:j=gl.length:=by simp at g14;omega
 rw[List.take_length]at a3;refine bP ?_;refine lp (β:=Nat) (fun j=>⟨[(1,.ptr r1 0),(6,.int .i64 j)],[(r1,.box 33 (aS ⟨ty,im,fn,tb,me,gl,ex,el,co,da⟩))]⟩) (fun j=>j≤ex.length∧(ex.take j).all exP=true) (fun j=>ex.length-j) 0 aJ ⟨Nat.zero_le _,rfl⟩ ?_;rintro j ⟨hj,a4⟩;unfold aS;dsimp only;refine pC ?_;refine aB rfl (fun g19=> ?_) (fun g19=> ?_)
 ·have hlt:j<ex.length:=by simp at g19;omega
  obtain⟨⟨nm,ff⟩,hx⟩:∃x,ex[j]? =some x:=⟨_,List.getElem?_eq_getElem hlt⟩
  obtain⟨hp3,hp4⟩:=h2 _ (List.mem_of_getElem? hx);dsimp only at hp3 hp4;refine fE ?_;refine sO ?_;refine lS Tryz.call58 (NA nm (by omega) hp4) rfl aU bC ?_;refine lo (eJ (E rfl)) rfl ?_;refine pL ?_;refine DU ?_;refine QJ ?_;refine DV ?_;refine lJ rfl rfl Tryz.call59 (fun _=>(GP ff)) rfl aU bC ?_;refine uY ?_;refine lP ?_;refine aB rfl (fun g21=> ?_) (fun g21=> ?_)
  ·have hE:=bad (by rw[←hrA,iK hx (SI g21)];simp);refine bP ?_;exact aD aE ⟨by rw[hE];rfl,rfl⟩ aA
  refine lI ?_;refine⟨j+1,⟨hlt,kY a4 hx (SJ g21)⟩,by show ex.length-(j+1)<ex.length-j;omega, ?_⟩;exact aJ
 obtain rfl:j=ex.length:=by simp at g19;omega
 rw[List.take_length]at a4;refine fE ?_;refine lS Tryz.call61 (GR fn z4 16) rfl aU bC ?_;refine lo (eJ (E rfl)) rfl ?_;refine xS ?_;refine IK ?_;refine lJ rfl rfl Tryz.call62 (fun _=>(KO tb 16 1000)) rfl aU bC ?_;refine uY ?_;refine nX ?_;refine xS ?_;refine IK ?_;refine lJ rfl rfl Tryz.call62 (fun _=>(KO me 16 65536)) rfl aU bC ?_;refine uY ?_;refine nX ?_;refine AI ?_;refine lJ rfl rfl Tryz.call63 (fun _=>hpt) rfl aU bC ?_;refine uY ?_;refine lP ?_;refine aB rfl (fun g23=> ?_) (fun g23=> ?_)
 ·have hE:=bad (by rw[←hrA];cases h7:cQ fn 16 iB<;>cases h8:lU tb 16 1000<;>cases h9:lU me 16 65536<;>cases h10:lL ⟨ty,im,fn,tb,me,gl,ex,el,co,da⟩<;>simp_all);refine bP ?_;exact aD aE ⟨by rw[hE];rfl,rfl⟩ aA
 have hq:cQ fn 16 iB=true∧lU tb 16 1000=true∧lU me 16 65536=true∧lL ⟨ty,im,fn,tb,me,gl,ex,el,co,da⟩=true:=by cases h7:cQ fn 16 iB<;>cases h8:lU tb 16 1000<;>cases h9:lU me 16 65536<;>cases h10:lL ⟨ty,im,fn,tb,me,gl,ex,el,co,da⟩<;>simp_all
 obtain⟨q1,q2,q3,q4⟩:=hq;have hA:qZ ⟨ty,im,fn,tb,me,gl,ex,el,co,da⟩=true:=by rw[←hrA,hl1,a1,a2,a3,a4,q1,q2,q3,q4];rfl
 refine pM ?_;refine sE Tryz.call64 (hby hA) rfl bW kH ?_;rintro _ σ' ⟨q176,rfl,rfl⟩ h176
 replace h176:=cN h176;repeat rcases h176 with⟨_,h176⟩
 apply aZ;exact bN;refine pH ?_;refine lo (mV (E rfl) (E rfl)) rfl ?_;refine cZ ?_;have hE:mT ⟨ty,im,fn,tb,me,gl,ex,el,co,da⟩=decide (((fI ⟨ty,im,fn,tb,me,gl,ex,el,co,da⟩).length:Int)≤8000):=by rw[hM,hA,Bool.true_and];exact decide_eq_decide.2 (by omega)
 exact aD aE ⟨by rw[hE];rfl,rfl⟩ aA
end Go.Proofs.YtjpdadobblffmaaGreat
namespace Go.Proofs.YtjpdadobblffmaaGreat
open Go.RowKit Go.ChangeShapes Go.WideShapes Go.ChangeAt Go.Deep
theorem aCK{M:Mp}{F:Nat→Prop}{w:World}{a b:AV}{x y u:Value}(ha:∀u,VR M F w a u→u=x)(hb:∀u,VR M F w b u→u=y)(h:VR M F w (.agg [a,b]) u):u=.agg #[x,y]:=by
 cases h with
 |@agg _ vs hl h=>
  obtain⟨l⟩:=vs
  match l,hl with
  |[p,q],_=>rw[ha p (h 0 _ p rfl rfl),hb q (h 1 _ q rfl rfl)]
theorem CU{M:Mp}{F:Nat→Prop}{w:World}{a b c:AV}{x y z u:Value}(ha:∀u,VR M F w a u→u=x)(hb:∀u,VR M F w b u→u=y)(hc:∀u,VR M F w c u→u=z)(h:VR M F w (.agg [a,b,c]) u):u=.agg #[x,y,z]:=by
 cases h with
 |@agg _ vs hl h=>
  obtain⟨l⟩:=vs
  match l,hl with
  |[p,q,r],_=>rw[ha p (h 0 _ p rfl rfl),hb q (h 1 _ q rfl rfl),hc r (h 2 _ r rfl rfl)]
theorem pF{M:Mp}{F:Nat→Prop}{w:World}{k:IntKind}{n:Int}:∀u,VR M F w (.int k n) u→u=.int k n:=fun u h=>by cases h;rfl
theorem ET{M:Mp}{F:Nat→Prop}{w:World}{b:Bool}:∀u,VR M F w (.bool b) u→u=.bool b:=fun u h=>by cases h;rfl
theorem CV{M:Mp}{F:Nat→Prop}{w:World}{b:ByteArray}:∀u,VR M F w (.str b) u→u=.string b:=fun u h=>by cases h;rfl
theorem aKZ(w:World)(a d:Bool)(b c e f:Int):(Op.equal 26 (.agg #[.bool a,.int .i64 b,.int .i64 c]) (.agg #[.bool d,.int .i64 e,.int .i64 f])).run Tryz.prog w=.ok (a==d&&b==e&&c==f) w:=by
 have hs:Tryz.prog.stoodInHeld 26=false:=by kernel_rfl
 have hf:Tryz.prog.underlying 26=some (.struct (Tryz.prog.fieldsOf 26)):=by unfold Program.fieldsOf;rw[Tryz.underlying26]
 have p1:Tryz.prog.plainKey 4=true:=by kernel_rfl
 have p2:Tryz.prog.plainKey 3=true:=by kernel_rfl
 have h:(Op.equalIn (9999+1) 26 (.agg #[.bool a,.int .i64 b,.int .i64 c]) (.agg #[.bool d,.int .i64 e,.int .i64 f])).run Tryz.prog w=.ok (a==d&&b==e&&c==f) w:=by
  rw[run_equalIn_struct w 9999 _ _ _ hf hs];unfold Program.fieldsOf;rw[Tryz.underlying26];simp only[Op.eqFields];cases h1:(a==d)<;>cases h2:(b==e)<;>cases h3:(c==f)<;>simp[run_part_plain w p1 (xs:=#[.bool a,.int .i64 b,.int .i64 c]) (off:=0) rfl,run_part_plain w p1 (xs:=#[.bool d,.int .i64 e,.int .i64 f]) (off:=0) rfl,run_part_plain w p2 (xs:=#[.bool a,.int .i64 b,.int .i64 c]) (off:=1) rfl,run_part_plain w p2 (xs:=#[.bool d,.int .i64 e,.int .i64 f]) (off:=1) rfl,run_part_plain w p2 (xs:=#[.bool a,.int .i64 b,.int .i64 c]) (off:=2) rfl,run_part_plain w p2 (xs:=#[.bool d,.int .i64 e,.int .i64 f]) (off:=2) rfl,run_equalIn_int w _ _ _ _ _ _ Tryz.underlying3,run_equalIn_bool' w _ _ _ _ Tryz.underlying4,h1,h2,h3]
 exact h
theorem aK0(w:World)(a b d e:ByteArray)(c f:Int):(Op.equal 64 (.agg #[.string a,.string b,.int .i64 c]) (.agg #[.string d,.string e,.int .i64 f])).run Tryz.prog w=.ok (a.toList==d.toList&&b.toList==e.toList&&c==f) w:=by
 have hs:Tryz.prog.stoodInHeld 64=false:=by kernel_rfl
 have hf:Tryz.prog.underlying 64=some (.struct (Tryz.prog.fieldsOf 64)):=by unfold Program.fieldsOf;rw[Tryz.underlying64]
 have p1:Tryz.prog.plainKey 9=true:=by kernel_rfl
 have p2:Tryz.prog.plainKey 3=true:=by kernel_rfl
 have h:(Op.equalIn (9999+1) 64 (.agg #[.string a,.string b,.int .i64 c]) (.agg #[.string d,.string e,.int .i64 f])).run Tryz.prog w=.ok (a.toList==d.toList&&b.toList==e.toList&&c==f) w:=by
  rw[run_equalIn_struct w 9999 _ _ _ hf hs];unfold Program.fieldsOf;rw[Tryz.underlying64];simp only[Op.eqFields];cases h1:(a.toList==d.toList)<;>cases h2:(b.toList==e.toList)<;>cases h3:(c==f)<;>simp[run_part_plain w p1 (xs:=#[.string a,.string b,.int .i64 c]) (off:=0) rfl,run_part_plain w p1 (xs:=#[.string d,.string e,.int .i64 f]) (off:=0) rfl,run_part_plain w p1 (xs:=#[.string a,.string b,.int .i64 c]) (off:=1) rfl,run_part_plain w p1 (xs:=#[.string d,.string e,.int .i64 f]) (off:=1) rfl,run_part_plain w p2 (xs:=#[.string a,.string b,.int .i64 c]) (off:=2) rfl,run_part_plain w p2 (xs:=#[.string d,.string e,.int .i64 f]) (off:=2) rfl,run_equalIn_int w _ _ _ _ _ _ Tryz.underlying3,run_equalIn_string w _ _ _ _ Tryz.underlying9,h1,h2,h3]
 exact h
theorem aK1(w:World)(a d:ByteArray)(c f:Int):(Op.equal 66 (.agg #[.string a,.int .i64 c]) (.agg #[.string d,.int .i64 f])).run Tryz.prog w=.ok (a.toList==d.toList&&c==f) w:=by
 have hs:Tryz.prog.stoodInHeld 66=false:=by kernel_rfl
 have hf:Tryz.prog.underlying 66=some (.struct (Tryz.prog.fieldsOf 66)):=by unfold Program.fieldsOf;rw[Tryz.underlying66]
 have p1:Tryz.prog.plainKey 9=true:=by kernel_rfl
 have p2:Tryz.prog.plainKey 3=true:=by kernel_rfl
 have h:(Op.equalIn (9999+1) 66 (.agg #[.string a,.int .i64 c]) (.agg #[.string d,.int .i64 f])).run Tryz.prog w=.ok (a.toList==d.toList&&c==f) w:=by
  rw[run_equalIn_struct w 9999 _ _ _ hf hs];unfold Program.fieldsOf;rw[Tryz.underlying66];simp only[Op.eqFields];cases h1:(a.toList==d.toList)<;>cases h3:(c==f)<;>simp[run_part_plain w p1 (xs:=#[.string a,.int .i64 c]) (off:=0) rfl,run_part_plain w p1 (xs:=#[.string d,.int .i64 f]) (off:=0) rfl,run_part_plain w p2 (xs:=#[.string a,.int .i64 c]) (off:=1) rfl,run_part_plain w p2 (xs:=#[.string d,.int .i64 f]) (off:=1) rfl,run_equalIn_int w _ _ _ _ _ _ Tryz.underlying3,run_equalIn_string w _ _ _ _ Tryz.underlying9,h1,h3]
 exact h
theorem aFv(n:Nat)(w:World)(a b c d:Int):(Op.equalIn (n+2) 71 (.agg #[.int .i64 a,.int .i64 b]) (.agg #[.int .i64 c,.int .i64 d])).run Tryz.prog w=.ok (a==c&&b==d) w:=by
 have hs:Tryz.prog.stoodInHeld 71=false:=by kernel_rfl
 have hf:Tryz.prog.underlying 71=some (.struct (Tryz.prog.fieldsOf 71)):=by unfold Program.fieldsOf;rw[Tryz.underlying71]
 have p1:Tryz.prog.plainKey 3=true:=by kernel_rfl
 have p2:Tryz.prog.plainKey 2=true:=by kernel_rfl
 rw[run_equalIn_struct w (n+1) _ _ _ hf hs];unfold Program.fieldsOf;rw[Tryz.underlying71];simp only[Op.eqFields];cases h1:(a==c)<;>cases h2:(b==d)<;>simp[run_part_plain w p1 (xs:=#[.int .i64 a,.int .i64 b]) (off:=0) rfl,run_part_plain w p1 (xs:=#[.int .i64 c,.int .i64 d]) (off:=0) rfl,run_part_plain w p2 (xs:=#[.int .i64 a,.int .i64 b]) (off:=1) rfl,run_part_plain w p2 (xs:=#[.int .i64 c,.int .i64 d]) (off:=1) rfl,run_equalIn_int w _ _ _ _ _ _ Tryz.underlying3,run_equalIn_int w _ _ _ _ _ _ Tryz.underlying2,h1,h2]
theorem aK2(w:World)(a d:Bool)(b c e f:Int):(Op.equal 73 (.agg #[.bool a,.int .i64 b,.int .i64 c]) (.agg #[.bool d,.int .i64 e,.int .i64 f])).run Tryz.prog w=.ok (a==d&&(b==e&&c==f)) w:=by
 have hs:Tryz.prog.stoodInHeld 73=false:=by kernel_rfl
 have hf:Tryz.prog.underlying 73=some (.struct (Tryz.prog.fieldsOf 73)):=by unfold Program.fieldsOf;rw[Tryz.underlying73]
 have p1:Tryz.prog.plainKey 4=true:=by kernel_rfl
 have q1:∀a b c,(part 71 #[.bool a,.int .i64 b,.int .i64 c] 1).run Tryz.prog w=.ok (.agg #[.int .i64 b,.int .i64 c]) w:=fun a b c=>by
  obtain⟨i,hi,hz,hs,_⟩:=Tz.parts Tryz.prog 71;simp[part,isAgg,run_underlying Tryz.underlying71,sizeOf,typeInfo,hi,hs]
 have h:(Op.equalIn (9999+1) 73 (.agg #[.bool a,.int .i64 b,.int .i64 c]) (.agg #[.bool d,.int .i64 e,.int .i64 f])).run Tryz.prog w=.ok (a==d&&(b==e&&c==f)) w:=by
  rw[run_equalIn_struct w 9999 _ _ _ hf hs];unfold Program.fieldsOf;rw[Tryz.underlying73];simp only[Op.eqFields];cases h1:(a==d)<;>cases h2:(b==e&&c==f)<;>simp[run_part_plain w p1 (xs:=#[.bool a,.int .i64 b,.int .i64 c]) (off:=0) rfl,run_part_plain w p1 (xs:=#[.bool d,.int .i64 e,.int .i64 f]) (off:=0) rfl,q1,run_equalIn_bool' w _ _ _ _ Tryz.underlying4,aFv 9997,h1,h2]
 exact h
instance : DecidableEq FT := fun a b => decidable_of_iff (a.pr = b.pr ∧ a.rs = b.rs) ⟨fun h => by cases a; cases b; simp_all, fun h => by subst h; exact ⟨rfl, rfl⟩⟩
instance : DecidableEq Im := fun a b => decidable_of_iff (a.mod = b.mod ∧ a.nm = b.nm ∧ a.ty = b.ty) ⟨fun h => by cases a; cases b; simp_all, fun h => by subst h; exact ⟨rfl, rfl, rfl⟩⟩
instance : DecidableEq Gl := fun a b => decidable_of_iff (a.mu = b.mu ∧ a.kd = b.kd ∧ a.n = b.n) ⟨fun h => by cases a; cases b; simp_all, fun h => by subst h; exact ⟨rfl, rfl, rfl⟩⟩
instance : DecidableEq Ex := fun a b => decidable_of_iff (a.nm = b.nm ∧ a.fn = b.fn) ⟨fun h => by cases a; cases b; simp_all, fun h => by subst h; exact ⟨rfl, rfl⟩⟩
instance : DecidableEq El := fun a b => decidable_of_iff (a.off = b.off ∧ a.fs = b.fs) ⟨fun h => by cases a; cases b; simp_all, fun h => by subst h; exact ⟨rfl, rfl⟩⟩
instance : DecidableEq Co := fun a b => decidable_of_iff (a.ls = b.ls ∧ a.bd = b.bd) ⟨fun h => by cases a; cases b; simp_all, fun h => by subst h; exact ⟨rfl, rfl⟩⟩
instance : DecidableEq Da := fun a b => decidable_of_iff (a.off = b.off ∧ a.bs = b.bs) ⟨fun h => by cases a; cases b; simp_all, fun h => by subst h; exact ⟨rfl, rfl⟩⟩
instance : DecidableEq Li := fun a b => decidable_of_iff (a.has = b.has ∧ a.mn = b.mn ∧ a.mx = b.mx) ⟨fun h => by cases a; cases b; simp_all, fun h => by subst h; exact ⟨rfl, rfl, rfl⟩⟩
section
variable {s : ASt} {c : Bool} {x y : Operand} {ty t t' : TypeId}
theorem SK{xs ys:Array Value}{cx cy:List AV}{b:Bool}(hg:Tryz.prog.eqGuardType Tryz.prog.depth t=false)(hx:∀(M:Mp) (F:Nat→Prop) (w:World) (u:Value),VR M F w (.agg cx) u→u=.agg xs)(hy:∀(M:Mp) (F:Nat→Prop) (w:World) (u:Value),VR M F w (.agg cy) u→u=.agg ys)
  (he:∀w:World,(Op.equal t (.agg xs) (.agg ys)).run Tryz.prog w=.ok b w) (h:Ev s c x (.agg cx)) (h':Ev s c y (.agg cy)):Lop Tryz.prog (.binOp .eql t x y t') ty s c (.bool b) []:=
 Lop.pure_ fun M F N n ac w hr hc=>⟨_,.bool _,fun w' o ho _=>by
  have e1:=hx _ _ _ _ (h.vr hr hc);have e2:=hy _ _ _ _ (h'.vr hr hc);refine xD ho ?_ ?_
  ·rw[e1,e2];exact run_eqGuard_agg w' .eql _ x y _ _ hg
  ·rw[e1,e2];simp only[binOp,Sem.run_bind,he,Result.andThen_ok,Sem.run_pure]⟩
theorem wW{xs ys:Array Value}{cx cy:List AV}{b:Bool}(hg:Tryz.prog.eqGuardType Tryz.prog.depth t=false)(hx:∀(M:Mp) (F:Nat→Prop) (w:World) (u:Value),VR M F w (.agg cx) u→u=.agg xs)(hy:∀(M:Mp) (F:Nat→Prop) (w:World) (u:Value),VR M F w (.agg cy) u→u=.agg ys)
  (he:∀w:World,(Op.equal t (.agg xs) (.agg ys)).run Tryz.prog w=.ok b w) (h:Ev s c x (.agg cx)) (h':Ev s c y (.agg cy)):Lop Tryz.prog (.binOp .neq t x y t') ty s c (.bool (!b)) []:=
 Lop.pure_ fun M F N n ac w hr hc=>⟨_,.bool _,fun w' o ho _=>by
  have e1:=hx _ _ _ _ (h.vr hr hc);have e2:=hy _ _ _ _ (h'.vr hr hc);refine xD ho ?_ ?_
  ·rw[e1,e2];exact run_eqGuard_agg w' .neq _ x y _ _ hg
  ·rw[e1,e2];simp only[binOp,Sem.run_bind,he,Result.andThen_ok,Sem.run_pure]⟩
theorem GT{a b:Li}(h:Ev s c x (.agg (fA a)))(h':Ev s c y (.agg (fA b))):Lop Tryz.prog (.binOp .eql 26 x y t') ty s c (.bool (decide (a=b))) []:=by
 have he:decide (a=b)=(a.has==b.has&&a.mn==b.mn&&a.mx==b.mx):=by rw[Bool.eq_iff_iff];cases a;cases b;simp[and_assoc]
 rw[he];exact SK (by kernel_rfl) (fun _ _ _ _=>CU ET pF pF) (fun _ _ _ _=>CU ET pF pF) (fun w=>aKZ w _ _ _ _ _ _) h h'
theorem VV{a b:Im}(ha:kW a.mod∧kW a.nm)(hb:kW b.mod∧kW b.nm)(h:Ev s c x (.agg (eE a)))(h':Ev s c y (.agg (eE b))):Lop Tryz.prog (.binOp .neq 64 x y t') ty s c (.bool (!decide (a=b))) []:=by
 have he:decide (a=b)=((dE a.mod).toList==(dE b.mod).toList&&(dE a.nm).toList==(dE b.nm).toList&&a.ty==b.ty):=by rw[qM ha.1.2 hb.1.2,qM ha.2.2 hb.2.2,Bool.eq_iff_iff];cases a;cases b;simp[and_assoc]
 rw[he];exact wW (by kernel_rfl) (fun _ _ _ _=>CU CV CV pF) (fun _ _ _ _=>CU CV CV pF) (fun w=>aK0 w _ _ _ _ _ _) h h'
theorem VW{a b:Ex}(ha:kW a.nm)(hb:kW b.nm)(h:Ev s c x (.agg (dH a)))(h':Ev s c y (.agg (dH b))):Lop Tryz.prog (.binOp .neq 66 x y t') ty s c (.bool (!decide (a=b))) []:=by
 have he:decide (a=b)=((dE a.nm).toList==(dE b.nm).toList&&a.fn==b.fn):=by rw[qM ha.2 hb.2,Bool.eq_iff_iff];cases a;cases b;simp
 rw[he];exact wW (by kernel_rfl) (fun _ _ _ _=>aCK CV pF) (fun _ _ _ _=>aCK CV pF) (fun w=>aK1 w _ _ _ _) h h'
theorem VX{a b:Gl}(h:Ev s c x (.agg (eA a)))(h':Ev s c y (.agg (eA b))):Lop Tryz.prog (.binOp .neq 73 x y t') ty s c (.bool (!decide (a=b))) []:=by
 have he:decide (a=b)=(a.mu==b.mu&&(a.kd==b.kd&&a.n==b.n)):=by rw[Bool.eq_iff_iff];cases a;cases b;simp
 rw[he];exact wW (by kernel_rfl) (fun _ _ _ _=>CU ET pF pF) (fun _ _ _ _=>CU ET pF pF) (fun w=>aK2 w _ _ _ _ _ _) h h'
end
theorem aIL(xs ys:List Im)(hox:∀x∈xs,(fun x:Im=>kW x.mod∧kW x.nm) x)(hoy:∀y∈ys,(fun x:Im=>kW x.mod∧kW x.nm) y):SCall Tryz.prog 126 [.ro 3 (xs.map eE) .any,.ro 3 (ys.map eE) .any] [] (fun r σ=>r=.bool (decide (xs=ys))∧σ=[]):=by
 refine cC 26 [0,1,4,5,10,12,13,14,24] Tryz.func126 ?_;refine hZ (i:=0) rfl fun hm=> ?_
 rw[List.length_map]at hm;unfold maxLen at hm;refine uL ?_;refine pH ?_;refine sM ?_;refine aB rfl (fun g1=> ?_) (fun g1=> ?_)
 ·have hE:decide (xs=ys)=false:=decide_eq_false (by rintro rfl;simp at g1);refine bP ?_;exact aD aE ⟨by rw[hE];rfl,rfl⟩ aA
 have hl:xs.length=ys.length:=by simp at g1;omega
 refine dO ?_;refine qP ?_;refine lp (β:=Nat) (fun k=>⟨[(0,.ro 3 (xs.map eE) .any),(1,.ro 3 (ys.map eE) .any),(12,.int .i64 xs.length),(13,.int .i64 k)],[]⟩) (fun k=>k≤xs.length∧xs.take k=ys.take k) (fun k=>xs.length-k) 0 aJ ⟨Nat.zero_le _,rfl⟩ ?_;rintro k ⟨hk,ht⟩;refine jL ?_;refine aB rfl (fun g4=> ?_) (fun g4=> ?_)
 ·have hlt:k<xs.length:=by simp at g4;omega
  obtain⟨x,hx⟩:∃x,xs[k]? =some x:=⟨_,List.getElem?_eq_getElem hlt⟩
  obtain⟨y,hy⟩:∃y,ys[k]? =some y:=⟨_,List.getElem?_eq_getElem (by omega)⟩
  have hox1:=hox x (List.mem_of_getElem? hx);have hoy1:=hoy y (List.mem_of_getElem? hy);refine fF ?_;refine fK [(0,true),(1,true),(2,true),(3,true),(4,true),(5,true),(6,true),(7,true),(8,true)] ?_;refine CI ?_;refine xR ?_;refine CI ?_;refine xR ?_;refine fY rfl (VV hox1 hoy1 (E rfl) (E rfl)) rfl ?_;refine kF ?_;refine aB rfl (fun g6=> ?_) (fun g6=> ?_)
  ·have hne:x≠y:=by intro e;subst e;simp at g6
   have hE:decide (xs=ys)=false:=decide_eq_false (by rintro rfl;rw[hx]at hy;exact hne (Option.some.inj hy));refine bP ?_;exact aD aE ⟨by rw[hE];rfl,rfl⟩ aA
  refine lZ ?_;have hxy:x=y:=by first|simpa using g6|(simp at g6;omega)
  refine⟨k+1,⟨hlt,by rw[List.take_add_one,List.take_add_one,ht,hx,hy,hxy]⟩,by show xs.length-(k+1)<xs.length-k;omega, ?_⟩;exact aJ
 have hE:decide (xs=ys)=true:=decide_eq_true (by simp at g4;rwa [List.take_of_length_le (by omega),List.take_of_length_le (by omega)]at ht);refine bP ?_;exact aD aE ⟨by rw[hE];rfl,rfl⟩ aA
theorem aIM(xs ys:List Ex)(hox:∀x∈xs,(fun x:Ex=>kW x.nm) x)(hoy:∀y∈ys,(fun x:Ex=>kW x.nm) y):SCall Tryz.prog 128 [.ro 2 (xs.map dH) .any,.ro 2 (ys.map dH) .any] [] (fun r σ=>r=.bool (decide (xs=ys))∧σ=[]):=by
 refine cC 26 [0,1,4,5,10,12,13,14,24] Tryz.func128 ?_;refine hZ (i:=0) rfl fun hm=> ?_
 rw[List.length_map]at hm;unfold maxLen at hm;refine uL ?_;refine pH ?_;refine sM ?_;refine aB rfl (fun g1=> ?_) (fun g1=> ?_)
 ·have hE:decide (xs=ys)=false:=decide_eq_false (by rintro rfl;simp at g1);refine bP ?_;exact aD aE ⟨by rw[hE];rfl,rfl⟩ aA
 have hl:xs.length=ys.length:=by simp at g1;omega
 refine dO ?_;refine qP ?_;refine lp (β:=Nat) (fun k=>⟨[(0,.ro 2 (xs.map dH) .any),(1,.ro 2 (ys.map dH) .any),(12,.int .i64 xs.length),(13,.int .i64 k)],[]⟩) (fun k=>k≤xs.length∧xs.take k=ys.take k) (fun k=>xs.length-k) 0 aJ ⟨Nat.zero_le _,rfl⟩ ?_;rintro k ⟨hk,ht⟩;refine jL ?_;refine aB rfl (fun g4=> ?_) (fun g4=> ?_)
 ·have hlt:k<xs.length:=by simp at g4;omega
  obtain⟨x,hx⟩:∃x,xs[k]? =some x:=⟨_,List.getElem?_eq_getElem hlt⟩
  obtain⟨y,hy⟩:∃y,ys[k]? =some y:=⟨_,List.getElem?_eq_getElem (by omega)⟩
  have hox1:=hox x (List.mem_of_getElem? hx);have hoy1:=hoy y (List.mem_of_getElem? hy);refine fF ?_;refine fK [(0,true),(1,true),(2,true),(3,true),(4,true),(5,true),(6,true),(7,true),(8,true)] ?_;refine CI ?_;refine xR ?_;refine CI ?_;refine xR ?_;refine fY rfl (VW hox1 hoy1 (E rfl) (E rfl)) rfl ?_;refine kF ?_;refine aB rfl (fun g6=> ?_) (fun g6=> ?_)
  ·have hne:x≠y:=by intro e;subst e;simp at g6
   have hE:decide (xs=ys)=false:=decide_eq_false (by rintro rfl;rw[hx]at hy;exact hne (Option.some.inj hy));refine bP ?_;exact aD aE ⟨by rw[hE];rfl,rfl⟩ aA
  refine lZ ?_;have hxy:x=y:=by first|simpa using g6|(simp at g6;omega)
  refine⟨k+1,⟨hlt,by rw[List.take_add_one,List.take_add_one,ht,hx,hy,hxy]⟩,by show xs.length-(k+1)<xs.length-k;omega, ?_⟩;exact aJ
 have hE:decide (xs=ys)=true:=decide_eq_true (by simp at g4;rwa [List.take_of_length_le (by omega),List.take_of_length_le (by omega)]at ht);refine bP ?_;exact aD aE ⟨by rw[hE];rfl,rfl⟩ aA
theorem aIN(xs ys:List Gl)(hox:∀x∈xs,(fun _:Gl=>True) x)(hoy:∀y∈ys,(fun _:Gl=>True) y):SCall Tryz.prog 127 [.ro 3 (xs.map eA) .any,.ro 3 (ys.map eA) .any] [] (fun r σ=>r=.bool (decide (xs=ys))∧σ=[]):=by
 refine cC 26 [0,1,4,5,10,12,13,14,24] Tryz.func127 ?_;refine hZ (i:=0) rfl fun hm=> ?_
 rw[List.length_map]at hm;unfold maxLen at hm;refine uL ?_;refine pH ?_;refine sM ?_;refine aB rfl (fun g1=> ?_) (fun g1=> ?_)
 ·have hE:decide (xs=ys)=false:=decide_eq_false (by rintro rfl;simp at g1);refine bP ?_;exact aD aE ⟨by rw[hE];rfl,rfl⟩ aA
 have hl:xs.length=ys.length:=by simp at g1;omega
 refine dO ?_;refine qP ?_;refine lp (β:=Nat) (fun k=>⟨[(0,.ro 3 (xs.map eA) .any),(1,.ro 3 (ys.map eA) .any),(12,.int .i64 xs.length),(13,.int .i64 k)],[]⟩) (fun k=>k≤xs.length∧xs.take k=ys.take k) (fun k=>xs.length-k) 0 aJ ⟨Nat.zero_le _,rfl⟩ ?_;rintro k ⟨hk,ht⟩;refine jL ?_;refine aB rfl (fun g4=> ?_) (fun g4=> ?_)
 ·have hlt:k<xs.length:=by simp at g4;omega
  obtain⟨x,hx⟩:∃x,xs[k]? =some x:=⟨_,List.getElem?_eq_getElem hlt⟩
  obtain⟨y,hy⟩:∃y,ys[k]? =some y:=⟨_,List.getElem?_eq_getElem (by omega)⟩
  have hox1:=hox x (List.mem_of_getElem? hx);have hoy1:=hoy y (List.mem_of_getElem? hy);refine fF ?_;refine fK [(0,true),(1,true),(2,true),(3,true),(4,true),(5,true),(6,true),(7,true),(8,true)] ?_;refine CI ?_;refine xR ?_;refine CI ?_;refine xR ?_;refine fY rfl (VX (E rfl) (E rfl)) rfl ?_;refine kF ?_;refine aB rfl (fun g6=> ?_) (fun g6=> ?_)
  ·have hne:x≠y:=by intro e;subst e;simp at g6
   have hE:decide (xs=ys)=false:=decide_eq_false (by rintro rfl;rw[hx]at hy;exact hne (Option.some.inj hy));refine bP ?_;exact aD aE ⟨by rw[hE];rfl,rfl⟩ aA
  refine lZ ?_;have hxy:x=y:=by first|simpa using g6|(simp at g6;omega)
  refine⟨k+1,⟨hlt,by rw[List.take_add_one,List.take_add_one,ht,hx,hy,hxy]⟩,by show xs.length-(k+1)<xs.length-k;omega, ?_⟩;exact aJ
 have hE:decide (xs=ys)=true:=decide_eq_true (by simp at g4;rwa [List.take_of_length_le (by omega),List.take_of_length_le (by omega)]at ht);refine bP ?_;exact aD aE ⟨by rw[hE];rfl,rfl⟩ aA
theorem aIO(xs ys:List Nat)(hox:∀x∈xs,(fun _:Nat=>True) x)(hoy:∀y∈ys,(fun _:Nat=>True) y):SCall Tryz.prog 125 [.ro 1 (xs.map aH) .any,.ro 1 (ys.map aH) .any] [] (fun r σ=>r=.bool (decide (xs=ys))∧σ=[]):=by
 refine cC 26 [0,1,4,5,10,12,13,14,24] Tryz.func125 ?_;refine hZ (i:=0) rfl fun hm=> ?_
 rw[List.length_map]at hm;unfold maxLen at hm;refine uL ?_;refine pH ?_;refine sM ?_;refine aB rfl (fun g1=> ?_) (fun g1=> ?_)
 ·have hE:decide (xs=ys)=false:=decide_eq_false (by rintro rfl;simp at g1);refine bP ?_;exact aD aE ⟨by rw[hE];rfl,rfl⟩ aA
 have hl:xs.length=ys.length:=by simp at g1;omega
 refine dO ?_;refine qP ?_;refine lp (β:=Nat) (fun k=>⟨[(0,.ro 1 (xs.map aH) .any),(1,.ro 1 (ys.map aH) .any),(12,.int .i64 xs.length),(13,.int .i64 k)],[]⟩) (fun k=>k≤xs.length∧xs.take k=ys.take k) (fun k=>xs.length-k) 0 aJ ⟨Nat.zero_le _,rfl⟩ ?_;rintro k ⟨hk,ht⟩;refine jL ?_;refine aB rfl (fun g4=> ?_) (fun g4=> ?_)
 ·have hlt:k<xs.length:=by simp at g4;omega
  obtain⟨x,hx⟩:∃x,xs[k]? =some x:=⟨_,List.getElem?_eq_getElem hlt⟩
  obtain⟨y,hy⟩:∃y,ys[k]? =some y:=⟨_,List.getElem?_eq_getElem (by omega)⟩
  have hox1:=hox x (List.mem_of_getElem? hx);have hoy1:=hoy y (List.mem_of_getElem? hy);refine fF ?_;refine fK [(0,true),(1,true),(2,true),(3,true),(4,true),(5,true),(6,true),(7,true),(8,true)] ?_;refine CI ?_;refine JP ?_;refine CI ?_;refine JP ?_;refine z58 ?_;refine kF ?_;refine aB rfl (fun g6=> ?_) (fun g6=> ?_)
  ·have hz:True:=True.intro;have hne:x≠y:=by intro e;subst e;simp at g6
   have hE:decide (xs=ys)=false:=decide_eq_false (by rintro rfl;rw[hx]at hy;exact hne (Option.some.inj hy));refine bP ?_;exact aD aE ⟨by rw[hE];rfl,rfl⟩ aA
  refine lZ ?_;have hxy:x=y:=by first|simpa using g6|(simp at g6;omega)
  refine⟨k+1,⟨hlt,by rw[List.take_add_one,List.take_add_one,ht,hx,hy,hxy]⟩,by show xs.length-(k+1)<xs.length-k;omega, ?_⟩;exact aJ
 have hE:decide (xs=ys)=true:=decide_eq_true (by simp at g4;rwa [List.take_of_length_le (by omega),List.take_of_length_le (by omega)]at ht);refine bP ?_;exact aD aE ⟨by rw[hE];rfl,rfl⟩ aA
theorem aIP{f:FuncId}{ok:FT→Prop}(hf:(∀args w,(callFunc f args).run Tryz.prog w=.ok (.enter f args) w)∧∀x y,ok x→ok y→SCall Tryz.prog f ([]++ [.agg (cP x),.agg (cP y)]++ []) [] (fun r σ=>r=.bool (decide (x=y))∧σ=[]))(xs ys:List FT)(hox:∀x∈xs,ok x)(hoy:∀y∈ys,ok y):SCall Tryz.prog 114 [.ro 2 (xs.map cP) .any,.ro 2 (ys.map cP) .any,.fn (.func f) [] []] [] (fun r σ=>r=.bool (decide (xs=ys))∧σ=[]):=by
 refine cC 32 [0,1,2,6,7,8,9,14,15,16,17,18,30] Tryz.func114 ?_;refine hZ (i:=0) rfl fun hm=> ?_
 rw[List.length_map]at hm;unfold maxLen at hm;refine uL ?_;refine pH ?_;refine sM ?_;refine aB rfl (fun g1=> ?_) (fun g1=> ?_)
 ·have hE:decide (xs=ys)=false:=decide_eq_false (by rintro rfl;simp at g1);refine bP ?_;exact aD aE ⟨by rw[hE];rfl,rfl⟩ aA
 have hl:xs.length=ys.length:=by simp at g1;omega
 refine dO ?_;refine qP ?_;refine lp (β:=Nat) (fun k=>⟨[(1,.ro 2 (ys.map cP) .any),(2,.fn (.func f) [] []),(15,.ro 2 (xs.map cP) .any),(16,.int .i64 xs.length),(17,.int .i64 k)],[]⟩) (fun k=>k≤xs.length∧xs.take k=ys.take k) (fun k=>xs.length-k) 0 aJ ⟨Nat.zero_le _,rfl⟩ ?_;rintro k ⟨hk,ht⟩;refine jL ?_;refine aB rfl (fun g4=> ?_) (fun g4=> ?_)
 ·have hlt:k<xs.length:=by simp at g4;omega
  obtain⟨x,hx⟩:∃x,xs[k]? =some x:=⟨_,List.getElem?_eq_getElem hlt⟩
  obtain⟨y,hy⟩:∃y,ys[k]? =some y:=⟨_,List.getElem?_eq_getElem (by omega)⟩
  refine dO ?_;refine qQ ?_;refine jZ fun r8 h8=> ?_;intros
  refine JS ?_;refine kL ?_;refine qQ ?_;refine jZ fun r9 h9=> ?_;intros
  refine nB ?_;refine mP ?_;refine mP ?_;refine qE [] rfl hf.1 (hf.2 x y (hox x (List.mem_of_getElem? hx)) (hoy y (List.mem_of_getElem? hy))) rfl aC aA ?_;rintro _ σ' ⟨rfl,rfl⟩ h29;apply aZ;exact bN;refine nZ ?_;refine aB rfl (fun g7=> ?_) (fun g7=> ?_)
  ·have hne:x≠y:=by simpa using g7
   have hE:decide (xs=ys)=false:=decide_eq_false (by rintro rfl;rw[hx]at hy;exact hne (Option.some.inj hy));refine bP ?_;exact aD aE ⟨by rw[hE];rfl,rfl⟩ aA
  refine lZ ?_;have hxy:x=y:=by simpa using g7
  refine⟨k+1,⟨hlt,by rw[List.take_add_one,List.take_add_one,ht,hx,hy,hxy]⟩,by show xs.length-(k+1)<xs.length-k;omega, ?_⟩;exact aJ
 have hE:decide (xs=ys)=true:=decide_eq_true (by simp at g4;rwa [List.take_of_length_le (by omega),List.take_of_length_le (by omega)]at ht);refine bP ?_;exact aD aE ⟨by rw[hE];rfl,rfl⟩ aA
theorem aIQ{f:FuncId}{ok:El→Prop}(hf:(∀args w,(callFunc f args).run Tryz.prog w=.ok (.enter f args) w)∧∀x y,ok x→ok y→SCall Tryz.prog f ([]++ [.agg (dX x),.agg (dX y)]++ []) [] (fun r σ=>r=.bool (decide (x=y))∧σ=[]))(xs ys:List El)(hox:∀x∈xs,ok x)(hoy:∀y∈ys,ok y):SCall Tryz.prog 117 [.ro 2 (xs.map dX) .any,.ro 2 (ys.map dX) .any,.fn (.func f) [] []] [] (fun r σ=>r=.bool (decide (xs=ys))∧σ=[]):=by
 refine cC 32 [0,1,2,6,7,8,9,14,15,16,17,18,30] Tryz.func117 ?_;refine hZ (i:=0) rfl fun hm=> ?_
 rw[List.length_map]at hm;unfold maxLen at hm;refine uL ?_;refine pH ?_;refine sM ?_;refine aB rfl (fun g1=> ?_) (fun g1=> ?_)
 ·have hE:decide (xs=ys)=false:=decide_eq_false (by rintro rfl;simp at g1);refine bP ?_;exact aD aE ⟨by rw[hE];rfl,rfl⟩ aA
 have hl:xs.length=ys.length:=by simp at g1;omega
 refine dO ?_;refine qP ?_;refine lp (β:=Nat) (fun k=>⟨[(1,.ro 2 (ys.map dX) .any),(2,.fn (.func f) [] []),(15,.ro 2 (xs.map dX) .any),(16,.int .i64 xs.length),(17,.int .i64 k)],[]⟩) (fun k=>k≤xs.length∧xs.take k=ys.take k) (fun k=>xs.length-k) 0 aJ ⟨Nat.zero_le _,rfl⟩ ?_;rintro k ⟨hk,ht⟩;refine jL ?_;refine aB rfl (fun g4=> ?_) (fun g4=> ?_)
 ·have hlt:k<xs.length:=by simp at g4;omega
  obtain⟨x,hx⟩:∃x,xs[k]? =some x:=⟨_,List.getElem?_eq_getElem hlt⟩
  obtain⟨y,hy⟩:∃y,ys[k]? =some y:=⟨_,List.getElem?_eq_getElem (by omega)⟩
  refine dO ?_;refine qQ ?_;refine jZ fun r8 h8=> ?_;intros
  refine JS ?_;refine kL ?_;refine qQ ?_;refine jZ fun r9 h9=> ?_;intros
  refine nB ?_;refine mP ?_;refine mP ?_;refine qE [] rfl hf.1 (hf.2 x y (hox x (List.mem_of_getElem? hx)) (hoy y (List.mem_of_getElem? hy))) rfl aC aA ?_;rintro _ σ' ⟨rfl,rfl⟩ h29;apply aZ;exact bN;refine nZ ?_;refine aB rfl (fun g7=> ?_) (fun g7=> ?_)
  ·have hne:x≠y:=by simpa using g7
   have hE:decide (xs=ys)=false:=decide_eq_false (by rintro rfl;rw[hx]at hy;exact hne (Option.some.inj hy));refine bP ?_;exact aD aE ⟨by rw[hE];rfl,rfl⟩ aA
  refine lZ ?_;have hxy:x=y:=by simpa using g7
  refine⟨k+1,⟨hlt,by rw[List.take_add_one,List.take_add_one,ht,hx,hy,hxy]⟩,by show xs.length-(k+1)<xs.length-k;omega, ?_⟩;exact aJ
 have hE:decide (xs=ys)=true:=decide_eq_true (by simp at g4;rwa [List.take_of_length_le (by omega),List.take_of_length_le (by omega)]at ht);refine bP ?_;exact aD aE ⟨by rw[hE];rfl,rfl⟩ aA
theorem aIR{f:FuncId}{ok:Co→Prop}(hf:(∀args w,(callFunc f args).run Tryz.prog w=.ok (.enter f args) w)∧∀x y,ok x→ok y→SCall Tryz.prog f ([]++ [.agg (dP x),.agg (dP y)]++ []) [] (fun r σ=>r=.bool (decide (x=y))∧σ=[]))(xs ys:List Co)(hox:∀x∈xs,ok x)(hoy:∀y∈ys,ok y):SCall Tryz.prog 119 [.ro 2 (xs.map dP) .any,.ro 2 (ys.map dP) .any,.fn (.func f) [] []] [] (fun r σ=>r=.bool (decide (xs=ys))∧σ=[]):=by
 refine cC 32 [0,1,2,6,7,8,9,14,15,16,17,18,30] Tryz.func119 ?_;refine hZ (i:=0) rfl fun hm=> ?_
 rw[List.length_map]at hm;unfold maxLen at hm;refine uL ?_;refine pH ?_;refine sM ?_;refine aB rfl (fun g1=> ?_) (fun g1=> ?_)
 ·have hE:decide (xs=ys)=false:=decide_eq_false (by rintro rfl;simp at g1);refine bP ?_;exact aD aE ⟨by rw[hE];rfl,rfl⟩ aA
 have hl:xs.length=ys.length:=by simp at g1;omega
 refine dO ?_;refine qP ?_;refine lp (β:=Nat) (fun k=>⟨[(1,.ro 2 (ys.map dP) .any),(2,.fn (.func f) [] []),(15,.ro 2 (xs.map dP) .any),(16,.int .i64 xs.length),(17,.int .i64 k)],[]⟩) (fun k=>k≤xs.length∧xs.take k=ys.take k) (fun k=>xs.length-k) 0 aJ ⟨Nat.zero_le _,rfl⟩ ?_;rintro k ⟨hk,ht⟩;refine jL ?_;refine aB rfl (fun g4=> ?_) (fun g4=> ?_)
 ·have hlt:k<xs.length:=by simp at g4;omega
  obtain⟨x,hx⟩:∃x,xs[k]? =some x:=⟨_,List.getElem?_eq_getElem hlt⟩
  obtain⟨y,hy⟩:∃y,ys[k]? =some y:=⟨_,List.getElem?_eq_getElem (by omega)⟩
  refine dO ?_;refine qQ ?_;refine jZ fun r8 h8=> ?_;intros
  refine JS ?_;refine kL ?_;refine qQ ?_;refine jZ fun r9 h9=> ?_;intros
  refine nB ?_;refine mP ?_;refine mP ?_;refine qE [] rfl hf.1 (hf.2 x y (hox x (List.mem_of_getElem? hx)) (hoy y (List.mem_of_getElem? hy))) rfl aC aA ?_;rintro _ σ' ⟨rfl,rfl⟩ h29;apply aZ;exact bN;refine nZ ?_;refine aB rfl (fun g7=> ?_) (fun g7=> ?_)
  ·have hne:x≠y:=by simpa using g7
   have hE:decide (xs=ys)=false:=decide_eq_false (by rintro rfl;rw[hx]at hy;exact hne (Option.some.inj hy));refine bP ?_;exact aD aE ⟨by rw[hE];rfl,rfl⟩ aA
  refine lZ ?_;have hxy:x=y:=by simpa using g7
  refine⟨k+1,⟨hlt,by rw[List.take_add_one,List.take_add_one,ht,hx,hy,hxy]⟩,by show xs.length-(k+1)<xs.length-k;omega, ?_⟩;exact aJ
 have hE:decide (xs=ys)=true:=decide_eq_true (by simp at g4;rwa [List.take_of_length_le (by omega),List.take_of_length_le (by omega)]at ht);refine bP ?_;exact aD aE ⟨by rw[hE];rfl,rfl⟩ aA
theorem aIS{f:FuncId}{ok:Da→Prop}(hf:(∀args w,(callFunc f args).run Tryz.prog w=.ok (.enter f args) w)∧∀x y,ok x→ok y→SCall Tryz.prog f ([]++ [.agg (eB x),.agg (eB y)]++ []) [] (fun r σ=>r=.bool (decide (x=y))∧σ=[]))(xs ys:List Da)(hox:∀x∈xs,ok x)(hoy:∀y∈ys,ok y):SCall Tryz.prog 123 [.ro 2 (xs.map eB) .any,.ro 2 (ys.map eB) .any,.fn (.func f) [] []] [] (fun r σ=>r=.bool (decide (xs=ys))∧σ=[]):=by
 refine cC 32 [0,1,2,6,7,8,9,14,15,16,17,18,30] Tryz.func123 ?_;refine hZ (i:=0) rfl fun hm=> ?_
 rw[List.length_map]at hm;unfold maxLen at hm;refine uL ?_;refine pH ?_;refine sM ?_;refine aB rfl (fun g1=> ?_) (fun g1=> ?_)
 ·have hE:decide (xs=ys)=false:=decide_eq_false (by rintro rfl;simp at g1);refine bP ?_;exact aD aE ⟨by rw[hE];rfl,rfl⟩ aA
 have hl:xs.length=ys.length:=by simp at g1;omega
 refine dO ?_;refine qP ?_;refine lp (β:=Nat) (fun k=>⟨[(1,.ro 2 (ys.map eB) .any),(2,.fn (.func f) [] []),(15,.ro 2 (xs.map eB) .any),(16,.int .i64 xs.length),(17,.int .i64 k)],[]⟩) (fun k=>k≤xs.length∧xs.take k=ys.take k) (fun k=>xs.length-k) 0 aJ ⟨Nat.zero_le _,rfl⟩ ?_;rintro k ⟨hk,ht⟩;refine jL ?_;refine aB rfl (fun g4=> ?_) (fun g4=> ?_)
 ·have hlt:k<xs.length:=by simp at g4;omega
  obtain⟨x,hx⟩:∃x,xs[k]? =some x:=⟨_,List.getElem?_eq_getElem hlt⟩
  obtain⟨y,hy⟩:∃y,ys[k]? =some y:=⟨_,List.getElem?_eq_getElem (by omega)⟩
  refine dO ?_;refine qQ ?_;refine jZ fun r8 h8=> ?_;intros
  refine JS ?_;refine kL ?_;refine qQ ?_;refine jZ fun r9 h9=> ?_;intros
  refine nB ?_;refine mP ?_;refine mP ?_;refine qE [] rfl hf.1 (hf.2 x y (hox x (List.mem_of_getElem? hx)) (hoy y (List.mem_of_getElem? hy))) rfl aC aA ?_;rintro _ σ' ⟨rfl,rfl⟩ h29;apply aZ;exact bN;refine nZ ?_;refine aB rfl (fun g7=> ?_) (fun g7=> ?_)
  ·have hne:x≠y:=by simpa using g7
   have hE:decide (xs=ys)=false:=decide_eq_false (by rintro rfl;rw[hx]at hy;exact hne (Option.some.inj hy));refine bP ?_;exact aD aE ⟨by rw[hE];rfl,rfl⟩ aA
  refine lZ ?_;have hxy:x=y:=by simpa using g7
  refine⟨k+1,⟨hlt,by rw[List.take_add_one,List.take_add_one,ht,hx,hy,hxy]⟩,by show xs.length-(k+1)<xs.length-k;omega, ?_⟩;exact aJ
 have hE:decide (xs=ys)=true:=decide_eq_true (by simp at g4;rwa [List.take_of_length_le (by omega),List.take_of_length_le (by omega)]at ht);refine bP ?_;exact aD aE ⟨by rw[hE];rfl,rfl⟩ aA
theorem aFw{f:FuncId}{ok:Ins→Prop}(hf:(∀args w,(callFunc f args).run Tryz.prog w=.ok (.enter f args) w)∧∀x y,ok x→ok y→SCall Tryz.prog f ([]++ [.agg ((iv .any) x),.agg ((iv .any) y)]++ []) [] (fun r σ=>r=.bool (decide (x=y))∧σ=[]))(xs ys:List Ins)(hox:∀x∈xs,ok x)(hoy:∀y∈ys,ok y):SCall Tryz.prog 121 [.ro 4 (xs.map (iv .any)) .any,.ro 4 (ys.map (iv .any)) .any,.fn (.func f) [] []] [] (fun r σ=>r=.bool (decide (xs=ys))∧σ=[]):=by
 refine cC 32 [0,1,2,6,7,8,9,14,15,16,17,18,30] Tryz.func121 ?_;refine hZ (i:=0) rfl fun hm=> ?_
 rw[List.length_map]at hm;unfold maxLen at hm;refine uL ?_;refine pH ?_;refine sM ?_;refine aB rfl (fun g1=> ?_) (fun g1=> ?_)
 ·have hE:decide (xs=ys)=false:=decide_eq_false (by rintro rfl;simp at g1);refine bP ?_;exact aD aE ⟨by rw[hE];rfl,rfl⟩ aA
 have hl:xs.length=ys.length:=by simp at g1;omega
 refine dO ?_;refine qP ?_;refine lp (β:=Nat) (fun k=>⟨[(1,.ro 4 (ys.map (iv .any)) .any),(2,.fn (.func f) [] []),(15,.ro 4 (xs.map (iv .any)) .any),(16,.int .i64 xs.length),(17,.int .i64 k)],[]⟩) (fun k=>k≤xs.length∧xs.take k=ys.take k) (fun k=>xs.length-k) 0 aJ ⟨Nat.zero_le _,rfl⟩ ?_;rintro k ⟨hk,ht⟩;refine jL ?_;refine aB rfl (fun g4=> ?_) (fun g4=> ?_)
 ·have hlt:k<xs.length:=by simp at g4;omega
  obtain⟨x,hx⟩:∃x,xs[k]? =some x:=⟨_,List.getElem?_eq_getElem hlt⟩
  obtain⟨y,hy⟩:∃y,ys[k]? =some y:=⟨_,List.getElem?_eq_getElem (by omega)⟩
  refine dO ?_;refine qQ ?_;refine jZ fun r8 h8=> ?_;intros
  refine JS ?_;refine kL ?_;refine qQ ?_;refine jZ fun r9 h9=> ?_;intros
  refine nB ?_;refine mP ?_;refine mP ?_;refine qE [] rfl hf.1 (hf.2 x y (hox x (List.mem_of_getElem? hx)) (hoy y (List.mem_of_getElem? hy))) rfl aC aA ?_;rintro _ σ' ⟨rfl,rfl⟩ h29;apply aZ;exact bN;refine nZ ?_;refine aB rfl (fun g7=> ?_) (fun g7=> ?_)
  ·have hne:x≠y:=by simpa using g7
   have hE:decide (xs=ys)=false:=decide_eq_false (by rintro rfl;rw[hx]at hy;exact hne (Option.some.inj hy));refine bP ?_;exact aD aE ⟨by rw[hE];rfl,rfl⟩ aA
  refine lZ ?_;have hxy:x=y:=by simpa using g7
  refine⟨k+1,⟨hlt,by rw[List.take_add_one,List.take_add_one,ht,hx,hy,hxy]⟩,by show xs.length-(k+1)<xs.length-k;omega, ?_⟩;exact aJ
 have hE:decide (xs=ys)=true:=decide_eq_true (by simp at g4;rwa [List.take_of_length_le (by omega),List.take_of_length_le (by omega)]at ht);refine bP ?_;exact aD aE ⟨by rw[hE];rfl,rfl⟩ aA
end Go.Proofs.YtjpdadobblffmaaGreat
namespace Go.Proofs.YtjpdadobblffmaaGreat
open Go.RowKit Go.ChangeShapes Go.WideShapes Go.ChangeAt Go.Deep
attribute [local irreducible] SW RS RD fH eH
def eqM (a b:Md):Bool:=decide (a.ty=b.ty)&&decide (a.el=b.el)&&decide (a.co=b.co)&&decide (a.da=b.da)&&decide (a.im=b.im)&&decide (a.fn=b.fn)&&decide (a.tb=b.tb)&&decide (a.me=b.me)&&decide (a.gl=b.gl)&&decide (a.ex=b.ex)
theorem aFx{a b:Md}:eqM a b=true↔a=b:=by
 unfold eqM;simp only[Bool.and_eq_true,decide_eq_true_eq];constructor
 ·rintro⟨⟨⟨⟨⟨⟨⟨⟨⟨h1,h2⟩,h3⟩,h4⟩,h5⟩,h6⟩,h7⟩,h8⟩,h9⟩,h10⟩;cases a;cases b;simp_all
 ·rintro rfl;simp
theorem aCL(a:Md):eqM a a=true:=aFx.2 rfl
theorem aFy(x y:Ins):eqN x y=decide (x=y):=by
 rw[Bool.eq_iff_iff,MF,decide_eq_true_iff]
theorem aCM:(∀args w,(callFunc 122 args).run Tryz.prog w=.ok (.enter 122 args) w)∧∀x y:Ins,True→True→SCall Tryz.prog 122 ([]++ [.agg (iv .any x),.agg (iv .any y)]++ []) [] (fun r σ=>r=.bool (decide (x=y))∧σ=[]):=
 ⟨Tryz.call122,fun x y _ _=>by rw[←aFy];exact aBL .any .any x y⟩
theorem aFz:(∀args w,(callFunc 115 args).run Tryz.prog w=.ok (.enter 115 args) w)∧∀x y:FT,True→True→SCall Tryz.prog 115 ([]++ [.agg (cP x),.agg (cP y)]++ []) [] (fun r σ=>r=.bool (decide (x=y))∧σ=[]):=by
 refine⟨Tryz.call115,fun x y _ _=> ?_⟩;obtain⟨p1,v1⟩:=x;obtain⟨p2,v2⟩:=y;have hE:decide ((⟨p1,v1⟩:FT)=⟨p2,v2⟩)=if decide (p1=p2)=true then decide (v1=v2)else false:=by rw[jQ,Bool.eq_iff_iff];simp
 refine cC 17 [0,1,2,3,4] Tryz.func115 ?_;unfold cP;refine dG ?_;refine iG fun r2 h2=> ?_;intros
 refine iG fun r3 h3=> ?_;intros
 refine iX ?_;refine oO ?_;refine lS Tryz.call116 (gV p1 p2) rfl aU bC ?_;refine nM ?_;refine qR ?_;refine lJ rfl rfl Tryz.call116 (fun _=>(gV v1 v2)) rfl aU bC ?_;refine kM ?_;exact aD aE ⟨by rw[hE];rfl,rfl⟩ aA
theorem aFA:(∀args w,(callFunc 118 args).run Tryz.prog w=.ok (.enter 118 args) w)∧∀x y:El,True→True→SCall Tryz.prog 118 ([]++ [.agg (dX x),.agg (dX y)]++ []) [] (fun r σ=>r=.bool (decide (x=y))∧σ=[]):=by
 refine⟨Tryz.call118,fun x y _ _=> ?_⟩;obtain⟨p1,v1⟩:=x;obtain⟨p2,v2⟩:=y;have hE:decide ((⟨p1,v1⟩:El)=⟨p2,v2⟩)=if(p1==p2)=true then decide (v1=v2)else false:=by rw[jQ,Bool.eq_iff_iff];simp
 refine cC 17 [0,1,2,3,4] Tryz.func118 ?_;unfold dX;refine dG ?_;refine iG fun r2 h2=> ?_;intros
 refine iG fun r3 h3=> ?_;intros
 refine iX ?_;refine oO ?_;refine DH ?_;refine qR ?_;refine lJ rfl rfl Tryz.call116 (fun _=>(gV v1 v2)) rfl aU bC ?_;refine kM ?_;exact aD aE ⟨by rw[hE];rfl,rfl⟩ aA
theorem aFB:(∀args w,(callFunc 120 args).run Tryz.prog w=.ok (.enter 120 args) w)∧∀x y:Co,True→True→SCall Tryz.prog 120 ([]++ [.agg (dP x),.agg (dP y)]++ []) [] (fun r σ=>r=.bool (decide (x=y))∧σ=[]):=by
 refine⟨Tryz.call120,fun x y _ _=> ?_⟩;obtain⟨p1,v1⟩:=x;obtain⟨p2,v2⟩:=y;have hE:decide ((⟨p1,v1⟩:Co)=⟨p2,v2⟩)=if decide (p1=p2)=true then decide (v1=v2)else false:=by rw[jQ,Bool.eq_iff_iff];simp
 refine cC 17 [0,1,2,3,4] Tryz.func120 ?_;unfold dP;refine dG ?_;refine iG fun r2 h2=> ?_;intros
 refine iG fun r3 h3=> ?_;intros
 refine iX ?_;refine oO ?_;refine lS Tryz.call116 (gV p1 p2) rfl aU bC ?_;refine nM ?_;refine qR ?_;refine lJ rfl rfl Tryz.call121 (fun _=>(aFw aCM v1 v2 (fun _ _=>True.intro) (fun _ _=>True.intro))) rfl aU bC ?_;refine kM ?_;exact aD aE ⟨by rw[hE];rfl,rfl⟩ aA
theorem aFC:(∀args w,(callFunc 124 args).run Tryz.prog w=.ok (.enter 124 args) w)∧∀x y:Da,True→True→SCall Tryz.prog 124 ([]++ [.agg (eB x),.agg (eB y)]++ []) [] (fun r σ=>r=.bool (decide (x=y))∧σ=[]):=by
 refine⟨Tryz.call124,fun x y _ _=> ?_⟩;obtain⟨p1,v1⟩:=x;obtain⟨p2,v2⟩:=y;have hE:decide ((⟨p1,v1⟩:Da)=⟨p2,v2⟩)=if(p1==p2)=true then decide (v1=v2)else false:=by rw[jQ,Bool.eq_iff_iff];simp
 refine cC 17 [0,1,2,3,4] Tryz.func124 ?_;unfold eB;refine dG ?_;refine iG fun r2 h2=> ?_;intros
 refine iG fun r3 h3=> ?_;intros
 refine iX ?_;refine oO ?_;refine DH ?_;refine qR ?_;refine lJ rfl rfl Tryz.call125 (fun _=>(aIO v1 v2 (fun _ _=>True.intro) (fun _ _=>True.intro))) rfl aU bC ?_;refine kM ?_;exact aD aE ⟨by rw[hE];rfl,rfl⟩ aA
theorem YM(a c:Md)(ha:a.W)(hc:c.W):SCall Tryz.prog 52 [.agg (aS a),.agg (aS c)] [] (fun r σ=>r=.bool (eqM a c)∧σ=[]):=by
 obtain⟨a1,a2,-,-,-⟩:=ha;obtain⟨c1,c2,-,-,-⟩:=hc;obtain⟨ty,im,fn,tb,me,gl,ex,el,co,da⟩:=a;obtain⟨ty',im',fn',tb',me',gl',ex',el',co',da'⟩:=c;dsimp only at a1 a2 c1 c2;have hE:∀(a b c d e f g h i j:Bool),(if(if(if(if(if(if(if(if(if a=true then b else false)=true then c else false)=true then d else false)=true then e else false)=true then f else false)=true then g else false)=true then h else false)=true then i else false)=true then j else false)=(a&&b&&c&&d&&e&&f&&g&&h&&i&&j):=by
  intro a b c d e f g h i j;simp only[jQ]
 refine cC 81 [0,1,2,3,4,5,6,7,8] Tryz.func52 ?_;unfold aS;dsimp only;refine dG ?_;refine iG fun r2 h2=> ?_;intros
 refine iG fun r3 h3=> ?_;intros
 refine iX ?_;refine oO ?_;refine lS Tryz.call114 (aIP aFz ty ty' (fun _ _=>True.intro) (fun _ _=>True.intro)) rfl aU bC ?_;refine iX ?_;refine oO ?_;refine lS Tryz.call117 (aIQ aFA el el' (fun _ _=>True.intro) (fun _ _=>True.intro)) rfl aU bC ?_;refine iX ?_;refine oO ?_;refine lS Tryz.call119 (aIR aFB co co' (fun _ _=>True.intro) (fun _ _=>True.intro)) rfl aU bC ?_;refine iX ?_;refine oO ?_;refine lS Tryz.call123 (aIS aFC da da' (fun _ _=>True.intro) (fun _ _=>True.intro)) rfl aU bC ?_;refine nR ?_;refine nW ?_;refine qT ?_;refine qT ?_;refine uX ?_;refine nM ?_;refine qR ?_;refine lJ rfl rfl Tryz.call126 (fun _=>(aIL im im' a1 c1)) rfl aU bC ?_;refine uX ?_;refine nM ?_;refine qR ?_;refine lJ rfl rfl Tryz.call116 (fun _=>(gV fn fn')) rfl aU bC ?_;refine uX ?_;refine xS ?_;refine IK ?_;refine ZL ?_;refine IK ?_;refine lg rfl rfl (GT (a:=tb) (b:=tb') (W rfl id) (W rfl id)) rfl ?_;refine uX ?_;refine xS ?_;refine IK ?_;refine ZL ?_;refine IK ?_;refine lg rfl rfl (GT (a:=me) (b:=me') (W rfl id) (W rfl id)) rfl ?_;refine uX ?_;refine nM ?_;refine qR ?_;refine lJ rfl rfl Tryz.call127 (fun _=>(aIN gl gl' (fun _ _=>True.intro) (fun _ _=>True.intro))) rfl aU bC ?_;refine uX ?_;refine nM ?_;refine qR ?_;refine lJ rfl rfl Tryz.call128 (fun _=>(aIM ex ex' a2 c2)) rfl aU bC ?_
 refine kM ?_;exact aD aE ⟨by simp only[gC];rw[hE];rfl,rfl⟩ aA
end Go.Proofs.YtjpdadobblffmaaGreat
namespace Go.Proofs.YtjpdadobblffmaaGreat
open Go.RowKit Go.ChangeShapes Go.WideShapes Go.ChangeAt Go.Deep
section
variable {P : Program} {n : Nat} {ops : Array Oper} {fr : Fr} {σ : dU} {K : ASt → Prop} {listed : Array Bool} {todo : List (Nat × Bool)} {held : List (Nat × List Nat)}
theorem aCN{s s':ASt}(hgo:SGo s s')(h:RD P n ops listed todo held s' K):RD P n ops listed todo held s K:=by
 intro hsel hc M F N a w hr;obtain⟨M1,F1,N1,hr1,he1⟩:=hgo M F N n a w hr;refine mG (PostN.ext he1) (fun j g hg=> ?_) _ _ _ _ (h hsel hc M1 F1 N1 a w hr1);rcases hg with hg|⟨r,hr,hb⟩
 ·exact .inl (he1.ff g hg)
 ·refine .inr ⟨r,hr, ?_⟩;unfold cG at hb⊢;cases hm:M r with
  |none=>rw[hm]at hb;cases hb
  |some b=>rw[he1.mm r b hm];rw[hm]at hb;exact hb
theorem VY{j q:Nat}{v v':AV}{e:Ent}{σ':dU}(hx:dY fr j=some v)(hd:SDel σ q e σ')(hb:Bor σ [q] v v')(hK:RD P n ops listed todo held ⟨(j,v')::fr,σ'⟩ K):RD P n ops listed todo held ⟨fr,σ⟩ K:=aCN (ME hx hd hb) hK
end
end Go.Proofs.YtjpdadobblffmaaGreat
