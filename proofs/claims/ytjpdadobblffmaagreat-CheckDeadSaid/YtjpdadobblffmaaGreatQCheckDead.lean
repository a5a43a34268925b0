/-
  What stands where nothing comes: as the document says.
-/
import Derived.Test.YtjpdadobblffmaaGreatQCheckJ
import Derived.Test.YtjpdadobblffmaaGreatCC3
import Derived.Test.YtjpdadobblffmaaGreatCC7
namespace Go.Proofs.YtjpdadobblffmaaGreat
open Go.RowKit Go.ChangeShapes Go.WideShapes Go.ChangeAt Go.Deep
set_option linter.unusedSimpArgs false
set_option linter.unusedVariables false
attribute [local irreducible] SW RS RD fG eH
def hd4 (D:Int):List Ins:=[⟨65,0,0,[]⟩,⟨26,0,0,[]⟩,⟨2,0,0,[]⟩,dJ D]
def end2:List Ins:=[⟨11,0,0,[]⟩,⟨0,0,0,[]⟩]
def JO (D:Int) (bd:List Ins):List Ins:=(hd4 D++kE bd 20)++end2
theorem WQ(bd:List Ins)(n:Nat):(kE bd n).length≤n:=by simp[kE];omega
theorem aBI(D:Int)(bd:List Ins):(JO D bd).length≤26:=by
 have:=WQ bd 20;simp only[JO,hd4,end2,List.length_append,List.length_cons,List.length_nil];omega
theorem aD7{D:Int}(hD:0≤D∧D<6){bd:List Ins}(hw:∀x∈bd,x.Wf):∀x∈JO D bd,x.Ok:=fun x hx=>by
 simp only[JO,hd4,end2,List.mem_append,List.mem_cons,List.not_mem_nil,or_false]at hx;rcases hx with((rfl|rfl|rfl|rfl)|h)|rfl|rfl
 ·exact IN (by decide)
 ·exact IN (by decide)
 ·exact IN (by decide)
 ·exact aLN hD
 ·exact aE0 hw 20 x h
 ·exact IN (by decide)
 ·exact IN (by decide)
set_option maxHeartbeats 1000000 in
set_option maxRecDepth 100000 in
theorem JP(d:Int)(bd:List Ins)(hbd:bd.length≤maxLen)(hw:∀x∈bd,x.Wf)(r:Int):SCall Tryz.prog 6 [.int .i64 d,.ro 4 (bd.map (iv .any)) .any,.int .i64 r] [] (fun y σ=>y=.bool true∧σ=[]):=by
 obtain⟨hd1,hD⟩:=YT d (k:=6) (by decide);refine cF 58 [0,1,2,6,7,8,9,10,13] Tryz.func6 ?_;(refine aJ ?_);refine jQ ?_;refine lo (bG (E rfl)) rfl ?_;refine iF ?_;(refine aJ ?_);refine jQ ?_;refine oL Tryz.call22 tR rfl aR bB ?_;refine lo (bG (E rfl)) rfl ?_;refine iF ?_;(refine aJ ?_);refine jQ ?_;refine lo (aD (E rfl)) rfl ?_;refine lo (dF (E rfl)) rfl ?_;refine iF ?_;(refine aJ ?_);refine jQ ?_;refine lo (aD (E rfl)) rfl ?_;refine cw [] Tryz.call25 (IB [] r) rfl aC aA ?_;rintro _ σ' ⟨q,rfl,rfl⟩ h15;unfold IA;(apply aY;(exact bN));refine jU fun r8 h8=> ?_;intros
 apply SO;rfl;rfl;rfl;rfl;exact mU;refine iF ?_;(refine aJ ?_);refine jQ ?_;refine jK ?_;refine jK ?_;refine jK ?_;refine jK ?_;refine eN fun r20 h20=> ?_;intros
 refine gJ (j:=20) rfl aU (aK bA (by simp)) ?_;refine jK ?_;refine jK ?_;refine eN fun r23 h23=> ?_;intros
 refine gJ (j:=23) rfl aU (aK bA (by simp)) ?_;refine iK (eF (j:=23) rfl (RC (l:=deadT) (.nv rfl (.nv rfl (.nv rfl (.nv rfl (.nv rfl (.nv rfl .nil)))))))) ?_;refine lo (aD (E rfl)) rfl ?_;refine z22 ?_;refine FH ?_;refine z22 ?_;generalize(d.tmod 6+6).tmod 6=D at hD⊢;have hpD:=aLM hD;have hpl:deadT.length=6:=rfl;refine OU ?_;refine aAL ?_;refine jU fun r9 h9=> ?_;intros
 apply SO;rfl;rfl;rfl;rfl;exact mU;refine iF ?_;(refine aJ ?_);refine jQ ?_;refine jK ?_;refine jK ?_;refine jK ?_;refine oS ?_;refine eN fun r34 h34=> ?_;intros
 refine lo (bG (E rfl)) rfl ?_;refine iF ?_;(refine aJ ?_);refine dQ (aAB (o:=r34) (l:=hd4 D) (.nv rfl (.nv rfl (.nv rfl (.iv rfl .nil)))) cA) ?_;have hbl:=WQ bd 20;have hhl:(hd4 D).length=4:=rfl;have hel:end2.length=2:=rfl;refine jQ ?_;refine lo (aD (E rfl)) rfl ?_;refine lo (aD (E rfl)) rfl ?_;refine cw [] Tryz.call26 (UC bd hbd (fun x hx=>(hw x hx).2.2.2.1) 20 (by decide)) rfl aC aA ?_;rintro _ σ' ⟨q37,rfl,rfl⟩ h37
 replace h37:=gL h37;(repeat(rcases h37 with⟨_,h37⟩))
 (apply aY;(exact bN));refine gJ (j:=37) rfl aU (aK bA (by simp)) ?_;refine iY ((hd4 D++kE bd 20).map (iv .any)) (hd4 D++kE bd 20).length ?_;refine bH fun r38 h38=> ?_;intros
 refine jK ?_;refine jK ?_;refine eN fun r41 h41=> ?_;intros
 refine gJ (j:=41) rfl aU (aK bA (by simp)) ?_;refine iK (eF (j:=41) rfl (qK (l:=end2) (by simp[end2]))) ?_;refine iY (((hd4 D++kE bd 20)++end2).map (iv .any)) ((hd4 D++kE bd 20)++end2).length ?_;refine bH fun r42 h42=> ?_;intros
 refine lo (bG (E rfl)) rfl ?_;refine iF ?_;(refine aJ ?_);refine jQ ?_;refine gJ (j:=10) rfl aU (aK bA (by simp)) ?_;refine wL ?_;refine uN ?_;refine lo (aD (E rfl)) rfl ?_;refine OU ?_;refine OX ?_;refine OY ?_;refine iF ?_;(refine aJ ?_);obtain⟨F,hF⟩:∃F,F=(gW [] (uR r) [⟨[],(JO D bd)⟩,QQ]):=⟨_,rfl⟩
 refine dQ (gC (r:=r8) (q:=q) cA aU (.cons (.refl _) (.cons (.refl _) (.cons (.refl _) (.cons (.refl _) (.cons (.refl _) (.cons (.refl _) (.cons (.refl _) (.cons (.refl _) (.cons (.refl _) (.cons (.refl _) (.cons (.refl _) (.cons (.refl _) (.cons (aK bA (by simp)) (.cons (.refl _) .nil))))))))))))))) ?_;refine dQ (gR (r:=r8) (cs':=bR (gW [] (uR r) [⟨[],(JO D bd)⟩,QQ])) cA (.cons (.refl _) (.cons (.refl _) (.cons (.refl _) (.cons (.refl _) (.cons (.refl _) (.cons (.refl _) (.cons (.refl _) (.cons (.refl _) (.cons (.refl _) (.cons (.refl _) (.cons (.refl _) (.cons (.refl _) (.cons (.le (AS VLe.empty rfl rfl (fun x hx=>by obtain rfl:=List.mem_singleton.1 hx;exact⟨rfl,by simp[dA,AV.cell]⟩))) (.cons (.refl _) .nil))))))))))))))) ?_;rw[←hF];have hwo:F.WO:=by rw[hF];exact RE [] r [] (JO D bd) (by have:=aBI D bd;omega) (aD7 hD hw)
 have hz:F.Z:=by rw[hF];exact YW [] r [] _ (by simp)
 clear hF;cases hm:nR F
 ·refine fM [(0,true),(1,false),(2,true),(3,true),(4,true),(6,true),(5,false),(7,false),(8,true),(9,true),(10,true)] ?_;refine DJ ?_;refine zU rfl Tryz.call19 (tM F hwo hz) rfl aR bB ?_;rw[hm];refine fI rfl (dF (E rfl)) rfl ?_;rw[show(!false)=true from rfl];refine fI rfl (aD (E rfl)) rfl ?_;refine DO ?_;refine DO ?_;refine dhn rfl rfl rfl rfl rfl ?_;refine dhn rfl rfl rfl rfl rfl ?_;refine aAN ?_;refine xC ?_;refine fI rfl (bG (E rfl)) rfl ?_;refine xA ?_;(refine aJ ?_);have hE:true=true:=rfl;(apply aE;(exact aF))
  ·exact⟨congrArg AV.bool hE,rfl⟩
  ·exact aA
 ·refine fM [(0,true),(1,false),(2,true),(3,true),(4,true),(6,true),(5,false),(7,false),(8,true),(9,true),(10,true)] ?_;refine DJ ?_;refine zU rfl Tryz.call19 (tM F hwo hz) rfl aR bB ?_;rw[hm];refine fI rfl (dF (E rfl)) rfl ?_;rw[show(!true)=false from rfl];refine fI rfl (aD (E rfl)) rfl ?_;refine DO ?_;refine DO ?_;refine NF rfl rfl rfl Tryz.call23 (kR F (nH hwo hm).1.1 0) rfl aR bB ?_;refine NF rfl rfl rfl Tryz.call24 (BE F (nH hwo hm).1.2 0) rfl aR bB ?_;refine aAN ?_;refine xC ?_;refine fI rfl (bG (E rfl)) rfl ?_;refine xA ?_;(refine aJ ?_);have hE:=(nH hwo hm).2;(apply aE;(exact aF))
  ·exact⟨congrArg AV.bool hE,rfl⟩
  ·exact aA
theorem JQ(d:Int)(bd:List Ins)(r:Int)(h:bd.length≤maxLen∧∀x∈bd,x.Wf):SCall Tryz.prog 6 [.int .i64 d,.ro 4 (bd.map (iv .any)) .any,.int .i64 r] [] (fun y _=>y=.bool true):=(JP d bd h.1 h.2 r).mono fun _ _ h=>h.1
end Go.Proofs.YtjpdadobblffmaaGreat
