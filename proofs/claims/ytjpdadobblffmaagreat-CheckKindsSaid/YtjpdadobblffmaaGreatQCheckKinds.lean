/-
  Any instruction behind two values of any kinds: as the document says.
-/
import Derived.Test.YtjpdadobblffmaaGreatQCheckJ
import Derived.Test.YtjpdadobblffmaaGreatCC3
import Derived.Test.YtjpdadobblffmaaGreatCC7
namespace Go.Proofs.YtjpdadobblffmaaGreat
open Go.RowKit Go.ChangeShapes Go.WideShapes Go.ChangeAt Go.Deep
set_option linter.unusedSimpArgs false
set_option linter.unusedVariables false
attribute [local irreducible] SW RS RD fG eH
set_option maxHeartbeats 1000000 in
set_option maxRecDepth 100000 in
theorem EA(x:Ins)(hx:x.Wf)(a b r:Int):SCall Tryz.prog 7 [.agg (iv .any x),.int .i64 a,.int .i64 b,.int .i64 r] [] (fun y σ=>y=.bool true∧σ=[]):=by
 obtain⟨ha1,hA⟩:=YT a (k:=3) (by decide);obtain⟨hb1,hB⟩:=YT b (k:=3) (by decide);refine cF 51 [0,1,2,3,4,8,9,10,11,14] Tryz.func7 ?_;unfold iv;(refine aJ ?_);refine jQ ?_;refine iQ fun r4 h4=> ?_;intros
 refine lo (bG (E rfl)) rfl ?_;refine iF ?_;(refine aJ ?_);refine jQ ?_;refine oL Tryz.call22 tR rfl aR bB ?_;refine lo (bG (E rfl)) rfl ?_;refine iF ?_;(refine aJ ?_);refine jQ ?_;refine lo (aD (E rfl)) rfl ?_;refine lo (dF (E rfl)) rfl ?_;refine iF ?_;(refine aJ ?_);refine jQ ?_;refine lo (aD (E rfl)) rfl ?_;refine cw [] Tryz.call25 (IB [] r) rfl aC aA ?_;rintro _ σ' ⟨q,rfl,rfl⟩ h16
 replace h16:=gL h16;(repeat(rcases h16 with⟨_,h16⟩))
 unfold IA;(apply aY;(exact bN));refine jU fun r10 h10=> ?_;intros
 apply SO;rfl;rfl;rfl;rfl;exact mU;refine iF ?_;(refine aJ ?_);refine jQ ?_;refine jK ?_;refine jK ?_;refine jK ?_;refine eN fun r20 h20=> ?_;intros
 refine gJ (j:=20) rfl aU (aK bA (by simp)) ?_;refine iK (eF (j:=20) rfl (qK (l:=putJs) (by simp[putJs]))) ?_;refine lo (bG (E rfl)) rfl ?_;refine iF ?_;(refine aJ ?_);refine fM [(0,true),(1,true),(2,true),(3,true),(4,true),(5,true),(6,true),(7,true),(8,true),(9,true),(10,true),(11,true),(12,true),(13,true),(14,true),(15,true),(16,true),(17,false),(18,true),(19,true),(20,false)] ?_;refine OW ?_;refine z74 ?_;refine fI rfl (aD (E rfl)) rfl ?_;refine fI rfl (aD (E rfl)) rfl ?_;refine fI rfl (yY (E rfl) (E rfl) (fun _=>by first|decide|omega)) rfl ?_;refine aEw ?_;refine fI rfl (yY (E rfl) (E rfl) (fun _=>by first|decide|omega)) rfl ?_;generalize(a.tmod 3+3).tmod 3=A at hA⊢;have hpA:=YU hA;have hpl:putJs.length=3:=rfl;refine MT ?_;refine xB ?_;refine fI rfl (aD (E rfl)) rfl ?_;refine fI rfl (aD (E rfl)) rfl ?_;refine fI rfl (yY (E rfl) (E rfl) (fun _=>by first|decide|omega)) rfl ?_;refine aEw ?_;refine fI rfl (yY (E rfl) (E rfl) (fun _=>by first|decide|omega)) rfl ?_;generalize(b.tmod 3+3).tmod 3=B at hB⊢;have hpB:=YU hB;refine MT ?_;refine xB ?_;refine DJ ?_;refine DQ fun r38 h38=> ?_;intros
 refine VL (j:=38) rfl aU (aK bA (by simp)) ?_;refine MT ?_;refine aEz ?_;apply aHO;rfl;infer_instance;rfl;rfl;rfl;rfl;exact cA;exact atT;exact GK;rfl;exact fV;refine xA ?_;(refine aJ ?_);obtain⟨F,hF⟩:∃F,F=gW [] (uR r) [⟨[],[ST A,ST B,x]⟩,QQ]:=⟨_,rfl⟩
 refine dQ (gC (r:=r10) (q:=q) cA aU (.cons (.refl _) (.cons (.refl _) (.cons (.refl _) (.cons (.refl _) (.cons (.refl _) (.cons (.refl _) (.cons (.refl _) (.cons (.refl _) (.cons (.refl _) (.cons (.refl _) (.cons (.refl _) (.cons (.refl _) (.cons (aK bA (by simp)) (.cons (.refl _) .nil))))))))))))))) ?_;refine dQ (gR (r:=r10) (cs':=bR (gW [] (uR r) [⟨[],[ST A,ST B,x]⟩,QQ])) cA (.cons (.refl _) (.cons (.refl _) (.cons (.refl _) (.cons (.refl _) (.cons (.refl _) (.cons (.refl _) (.cons (.refl _) (.cons (.refl _) (.cons (.refl _) (.cons (.refl _) (.cons (.refl _) (.cons (.refl _) (.cons (.le (AS VLe.empty rfl rfl (fun x hx=>by obtain rfl:=List.mem_singleton.1 hx;exact⟨rfl,by simp[dA,AV.cell]⟩))) (.cons (.refl _) .nil))))))))))))))) ?_;rw[←hF];have hwo:F.WO:=by rw[hF];exact RE [] r [] [ST A,ST B,x] (by simp) (by simp[YV hA,YV hB,aLO hx])
 have hz:F.Z:=by rw[hF];exact YW [] r [] _ (by simp)
 clear hF;cases hm:nR F
 ·refine fM [(0,true),(1,false),(2,true),(3,true),(4,true),(6,true),(5,false),(7,false),(8,true),(9,true),(10,true)] ?_;refine DJ ?_;refine zU rfl Tryz.call19 (tM F hwo hz) rfl aR bB ?_;rw[hm];refine fI rfl (dF (E rfl)) rfl ?_;rw[show(!false)=true from rfl];refine fI rfl (aD (E rfl)) rfl ?_;refine DO ?_;refine DO ?_;refine dhn rfl rfl rfl rfl rfl ?_;refine dhn rfl rfl rfl rfl rfl ?_;refine aAN ?_;refine xC ?_;refine fI rfl (bG (E rfl)) rfl ?_;refine xA ?_;(refine aJ ?_);have hE:true=true:=rfl;(apply aE;(exact aF))
  ·exact⟨congrArg AV.bool hE,rfl⟩
  ·exact aA
 ·refine fM [(0,true),(1,false),(2,true),(3,true),(4,true),(6,true),(5,false),(7,false),(8,true),(9,true),(10,true)] ?_;refine DJ ?_;refine zU rfl Tryz.call19 (tM F hwo hz) rfl aR bB ?_;rw[hm];refine fI rfl (dF (E rfl)) rfl ?_;rw[show(!true)=false from rfl];refine fI rfl (aD (E rfl)) rfl ?_;refine DO ?_;refine DO ?_;refine NF rfl rfl rfl Tryz.call23 (kR F (nH hwo hm).1.1 0) rfl aR bB ?_;refine NF rfl rfl rfl Tryz.call24 (BE F (nH hwo hm).1.2 0) rfl aR bB ?_;refine aAN ?_;refine xC ?_;refine fI rfl (bG (E rfl)) rfl ?_;refine xA ?_;(refine aJ ?_);have hE:=(nH hwo hm).2;(apply aE;(exact aF))
  ·exact⟨congrArg AV.bool hE,rfl⟩
  ·exact aA
theorem EB(x:Ins)(a b r:Int)(hx:x.Wf):SCall Tryz.prog 7 [.agg (iv .any x),.int .i64 a,.int .i64 b,.int .i64 r] [] (fun y _=>y=.bool true):=(EA x hx a b r).mono fun _ _ h=>h.1
end Go.Proofs.YtjpdadobblffmaaGreat
