/-
  What is laid later lies over what was laid before.
-/
import Derived.Test.YtjpdadobblffmaaGreatIA6
namespace Go.Proofs.YtjpdadobblffmaaGreat
open Go.RowKit Go.ChangeShapes Go.WideShapes Go.ChangeAt Go.Deep
set_option linter.unusedSimpArgs false
set_option linter.unusedVariables false
attribute [local irreducible] SW RS RD eM dR
def IB (a b:Int):List El:=[⟨a,[2]⟩,⟨b,[3]⟩]
def IC (n:Int):List Da:=[⟨n,[1,2,3]⟩,⟨n+1,[9]⟩]
theorem aGE{a b n:Int}(ha:0≤a∧a≤3)(hb:0≤b∧b≤3)(hn:0≤n∧n≤250):XOk (IB a b) (IC n):=by
 refine⟨⟨by simp[IB],fun x hx=> ?_⟩,by simp[IC],fun x hx=> ?_⟩
 ·simp only[IB,List.mem_cons,List.not_mem_nil,or_false]at hx;rcases hx with rfl|rfl<;>exact⟨by simp[iT];omega,by simp,by simp⟩
 ·simp only[IC,List.mem_cons,List.not_mem_nil,or_false]at hx;rcases hx with rfl|rfl<;>exact⟨by simp[iT];omega,by simp,by simp⟩
def NP (a b:Int):List Int:=([-1,-1,-1,-1].set a.toNat 2).set b.toNat 3
theorem aEH{a b:Int}(ha:0≤a∧a≤3)(hb:0≤b∧b≤3):lE elO [-1,-1,-1,-1] (IB a b)=some (NP a b):=by
 obtain⟨i,rfl⟩:=Int.eq_ofNat_of_zero_le ha.1;obtain⟨j,rfl⟩:=Int.eq_ofNat_of_zero_le hb.1;have hi:i<4:=by omega
 have hj:j<4:=by omega
 have key:∀i<4,∀j<4,lE elO [-1,-1,-1,-1] (IB (i:Nat) (j:Nat))=some (NP (i:Nat) (j:Nat)):=by decide
 exact key i hi j hj
def UC (n:Int):List Nat:=iH (iH memZ n.toNat [1,2,3]) (n+1).toNat [9]
theorem aEI{n:Int}(hn:0≤n∧n≤250):lE UI memZ (IC n)=some (UC n):=by
 have h1:UI memZ ⟨n,[1,2,3]⟩=some (iH memZ n.toNat [1,2,3]):=by
  unfold UI;exact if_neg (by show¬(n<0∨(memZ.length:Int)-3<n);rw[lQ];omega)
 have h2:UI (iH memZ n.toNat [1,2,3]) ⟨n+1,[9]⟩=some (UC n):=by
  unfold UI;exact if_neg (by rw[mR];show¬(n+1<0∨(memZ.length:Int)-1<n+1);rw[lQ];omega)
 unfold IC;simp only[lE,h1,h2]
theorem ZI{n:Int}:(UC n).length=256:=by unfold UC;rw[mR,mR];exact lQ
theorem ID{n:Int}(hn:0≤n∧n≤250):∀x∈UC n,x<256:=by
 intro x hx;unfold UC at hx;simp only[iH]at hx;repeat' (first|(rcases List.mem_or_eq_of_mem_set hx with hx|rfl)|(have:=List.eq_of_mem_replicate hx;omega)|omega)
theorem aEJ{n:Int}(hn:0≤n∧n≤250):(UC n)[n.toNat]! =1∧(UC n)[(n+1).toNat]! =9∧(UC n)[(n+2).toNat]! =3:=by
 obtain⟨k,rfl⟩:=Int.eq_ofNat_of_zero_le hn.1;have hl:=ZI (n:=(k:Int));have e0:((k:Int)).toNat=k:=by omega
 have e1:((k:Int)+1).toNat=k+1:=by omega
 have e2:((k:Int)+2).toNat=k+2:=by omega
 rw[e0,e1,e2,getElem!_pos _ _ (by omega),getElem!_pos _ _ (by omega),getElem!_pos _ _ (by omega)];unfold UC;simp only[iH,e0,e1,List.getElem_set];have h0:¬k+1+1=k:=by omega
 have h1:¬k+1=k:=by omega
 have h2:¬k+1=k+2:=by omega
 have h3:k+1+1=k+2:=by omega
 refine⟨?_, ?_, ?_⟩
 ·simp[h0,h1]
 ·simp
 ·simp[h2,h3]
theorem aGF{a b:Int}(ha:0≤a∧a≤3)(hb:0≤b∧b≤3):sU (NP a b) a=true∧sU (NP a b) b=true∧xB (NP a b) b=3∧((a==b)=true∨xB (NP a b) a=2):=by
 obtain⟨i,rfl⟩:=Int.eq_ofNat_of_zero_le ha.1;obtain⟨j,rfl⟩:=Int.eq_ofNat_of_zero_le hb.1;have hi:i<4:=by omega
 have hj:j<4:=by omega
 have key:∀i<4,∀j<4,sU (NP (i:Nat) (j:Nat)) (i:Nat)=true∧sU (NP (i:Nat) (j:Nat)) (j:Nat)=true∧xB (NP (i:Nat) (j:Nat)) (j:Nat)=3∧((((i:Nat):Int)==(j:Nat))=true∨xB (NP (i:Nat) (j:Nat)) (i:Nat)=2):=by decide
 exact key i hi j hj
set_option maxHeartbeats 4000000 in
set_option maxRecDepth 100000 in
theorem IE(a b n:Int):SCall Tryz.prog 12 [.int .i64 a,.int .i64 b,.int .i64 n] [] (fun y _=>y=.bool true):=by
 refine bO 151 [0,1,2,6,7,8,9,10,11,12,13,14,15,17,19,23,45,84] Tryz.func12 ?_;(refine aJ ?_);refine iD ?_;refine lo (aV (E rfl)) rfl ?_;refine iI ?_;(refine aJ ?_);refine iD ?_;refine jK Tryz.call32 rX rfl aQ aW ?_;refine lo (aV (E rfl)) rfl ?_;refine iI ?_;(refine aJ ?_);refine iD ?_;refine lo (aD (E rfl)) rfl ?_;refine lo (fA (E rfl)) rfl ?_;refine iI ?_;(refine aJ ?_);refine iD ?_;refine lo (aD (E rfl)) rfl ?_;refine lo (fJ (E rfl) (E rfl)) rfl ?_;refine lo (aD (E rfl)) rfl ?_;refine eJ ?_;refine SG ?_;refine gK ?_;refine lo (aD (E rfl)) rfl ?_;refine eJ ?_;refine SJ ?_;refine gK ?_;refine lo (aD (E rfl)) rfl ?_;refine eJ ?_;refine SG ?_;refine gK ?_;refine lo (aD (E rfl)) rfl ?_;refine eJ ?_;refine SJ ?_;refine gK ?_;refine lo (aD (E rfl)) rfl ?_;refine eJ ?_;refine SG ?_;refine gK ?_;refine iI ?_;(refine aJ ?_);refine aC rfl (fun g4=> ?_) (fun g4=> ?_)
 ·(refine aJ ?_);refine iD ?_;refine lo (aV (E rfl)) rfl ?_;refine iI ?_;(refine aJ ?_);(apply aE;(exact aF))
  ·first|rfl|(rcases e4 with h|h<;>simp[dU,h])
  ·exact aA
 have hr:(0≤a∧a≤3)∧(0≤b∧b≤3)∧0≤n∧n≤250:=by
  replace g4:=bT g4
  omega
 obtain⟨ha,hb,hn⟩:=hr;obtain⟨e1,e2,e3,e4⟩:=aGF ha hb;obtain⟨v1,v2,v3⟩:=aEJ hn;have hl:=ZI (n:=n);have wN:=wH (aGE ha hb hn) (aEH ha hb) (aEI hn);have w1:=vG (UC n) (iQ 3) [] (by omega) (ID hn) n 1;rw[HA hn.1 (by omega) v1]at w1;have w2:=vG (UC n) (iQ 3) [] (by omega) (ID hn) (n+1) 1;rw[HA (by omega) (by omega) v2]at w2;have w3:=vG (UC n) (iQ 3) [] (by omega) (ID hn) (n+2) 1;rw[HA (by omega) (by omega) v3]at w3;(refine aJ ?_);refine iD ?_;refine cw [] Tryz.call25 (AH [] 0) rfl aB aA ?_;rintro _ σ' ⟨q2,rfl,rfl⟩ h46
 replace h46:=fU h46;(repeat(rcases h46 with⟨_,h46⟩))
 (apply bE;(exact bX));refine gF fun r8 h8=> ?_;intros
 apply zB;rfl;rfl;rfl;rfl;exact iC;refine iI ?_;(refine aJ ?_);refine dM (iE (r:=r8) (q:=q2) bW bD (wI bF)) ?_;refine iD ?_;refine lo (aD (E rfl)) rfl ?_;refine eP fun r48 h48=> ?_;intros
 refine gX (j:=48) rfl bD (aK bF (by simp)) ?_;refine iA ?_;refine lo (aD (E rfl)) rfl ?_;refine eP fun r51 h51=> ?_;intros
 refine gX (j:=51) rfl bD (aK bF (by simp)) ?_;refine iA ?_;refine eP fun r53 h53=> ?_;intros
 refine gX (j:=53) rfl bD (aK bF (by simp)) ?_;refine sG ?_;apply zB;rfl;rfl;rfl;rfl;exact iC;refine iI ?_;(refine aJ ?_);refine iD ?_;refine lo (aD (E rfl)) rfl ?_;refine eP fun r56 h56=> ?_;intros
 refine gX (j:=56) rfl bD (aK bF (by simp)) ?_;refine iA ?_;refine lo (aD (E rfl)) rfl ?_;refine DL ?_;refine eP fun r60 h60=> ?_;intros
 refine gX (j:=60) rfl bD (aK bF (by simp)) ?_;refine iA ?_;refine eP fun r62 h62=> ?_;intros
 refine gX (j:=62) rfl bD (aK bF (by simp)) ?_;refine sG ?_;apply zB;rfl;rfl;rfl;rfl;exact iC;refine iI ?_;(refine aJ ?_);refine dM (gI (r:=r8) (cs':=cQ (bR (IB a b) (IC n))) bW (.cons (.refl _) (.cons (.refl _) (.cons (.refl _) (.cons (.refl _) (.cons (.refl _) (.cons (.refl _) (.cons (.refl _) (.cons (.refl _) (.cons (.refl _) (.cons (.refl _) (.cons (.refl _) (.cons (.refl _) (.cons (.refl _) (.cons (.refl _) .nil))))))))))))))) ?_;refine iD ?_;refine jN ?_;refine cw [] Tryz.call37 wN rfl aB aA ?_;rintro _ σ' ⟨x2,m2,q3,d2,s2,t2,g2,hx,rfl,rfl⟩ h66;unfold xV at h66
 replace h66:=AP h66;replace h66:=jE h66;(repeat(rcases h66 with⟨_,h66⟩))
 unfold xV;obtain⟨y1,y2,y3,y4,y5,y6,y7,y8,y9,y10,y11,y12,y13,y14,y15,y16,y17,y18,y19,y20,y21⟩:=hx;(apply bE;(exact bX));refine lo (aD (E rfl)) rfl ?_;refine lo (bC (E rfl) rfl) rfl ?_;refine lo (bC (E rfl) rfl) rfl ?_;refine lo (aV (E rfl)) rfl ?_;refine lo (aV (E rfl)) rfl ?_;refine iI ?_;(refine aJ ?_);refine iD ?_;refine lo (aD (E rfl)) rfl ?_;refine lo (eA (E rfl) (E rfl)) rfl ?_;rw[show((0:Int) !=0)=false from rfl];refine lo (aD (E rfl)) rfl ?_;refine eJ ?_;first|refine ln rfl rfl rfl rfl ?_ |(refine gy rfl rfl ?_;(first|refine lo (aI (by first|exact W rfl id|exact E rfl) (E rfl) (.inl ⟨rfl,rfl⟩)) rfl ?_ |refine lo (aI (by first|exact W rfl id|exact E rfl) (E rfl) (.inr (.inl ⟨⟨_,_,rfl⟩,rfl⟩))) rfl ?_ |refine lo (aI (by first|exact W rfl id|exact E rfl) (E rfl) (.inr (.inr (.inl ⟨⟨_,_,_,rfl⟩,rfl⟩)))) rfl ?_ |refine lo (aI (by first|exact W rfl id|exact E rfl) (E rfl) (.inr (.inr (.inr ⟨⟨_,_,_,_,rfl⟩,rfl⟩)))) rfl ?_))|refine lg rfl rfl (aI (by first|exact W rfl id|exact E rfl) (E rfl) (.inl ⟨rfl,rfl⟩)) rfl ?_ |refine lg rfl rfl (aI (by first|exact W rfl id|exact E rfl) (E rfl) (.inr (.inl ⟨⟨_,_,rfl⟩,rfl⟩))) rfl ?_ |refine lg rfl rfl (aI (by first|exact W rfl id|exact E rfl) (E rfl) (.inr (.inr (.inl ⟨⟨_,_,_,rfl⟩,rfl⟩)))) rfl ?_ |refine lg rfl rfl (aI (by first|exact W rfl id|exact E rfl) (E rfl) (.inr (.inr (.inr ⟨⟨_,_,_,_,rfl⟩,rfl⟩)))) rfl ?_
 refine gK ?_;refine lo (aD (E rfl)) rfl ?_;refine eJ ?_;refine gy rfl rfl ?_;refine nK [(x2,.box 157 (gY (bR (IB a b) (IC n)) (.ptr m2 0) (.ptr s2 0)))] Tryz.call34 lP ?_;first|refine ln rfl rfl rfl rfl ?_ |(refine gy rfl rfl ?_;(first|refine lo (aI (by first|exact W rfl id|exact E rfl) (E rfl) (.inl ⟨rfl,rfl⟩)) rfl ?_ |refine lo (aI (by first|exact W rfl id|exact E rfl) (E rfl) (.inr (.inl ⟨⟨_,_,rfl⟩,rfl⟩))) rfl ?_ |refine lo (aI (by first|exact W rfl id|exact E rfl) (E rfl) (.inr (.inr (.inl ⟨⟨_,_,_,rfl⟩,rfl⟩)))) rfl ?_ |refine lo (aI (by first|exact W rfl id|exact E rfl) (E rfl) (.inr (.inr (.inr ⟨⟨_,_,_,_,rfl⟩,rfl⟩)))) rfl ?_))|refine lg rfl rfl (aI (by first|exact W rfl id|exact E rfl) (E rfl) (.inl ⟨rfl,rfl⟩)) rfl ?_ |refine lg rfl rfl (aI (by first|exact W rfl id|exact E rfl) (E rfl) (.inr (.inl ⟨⟨_,_,rfl⟩,rfl⟩))) rfl ?_ |refine lg rfl rfl (aI (by first|exact W rfl id|exact E rfl) (E rfl) (.inr (.inr (.inl ⟨⟨_,_,_,rfl⟩,rfl⟩)))) rfl ?_ |refine lg rfl rfl (aI (by first|exact W rfl id|exact E rfl) (E rfl) (.inr (.inr (.inr ⟨⟨_,_,_,_,rfl⟩,rfl⟩)))) rfl ?_
 refine gK ?_;refine lo (aD (E rfl)) rfl ?_;refine eJ ?_;refine gy rfl rfl ?_;refine nK [(x2,.box 157 (gY (bR (IB a b) (IC n)) (.ptr m2 0) (.ptr s2 0)))] Tryz.call35 iR ?_;first|refine ln rfl rfl rfl rfl ?_ |(refine gy rfl rfl ?_;(first|refine lo (aI (by first|exact W rfl id|exact E rfl) (E rfl) (.inl ⟨rfl,rfl⟩)) rfl ?_ |refine lo (aI (by first|exact W rfl id|exact E rfl) (E rfl) (.inr (.inl ⟨⟨_,_,rfl⟩,rfl⟩))) rfl ?_ |refine lo (aI (by first|exact W rfl id|exact E rfl) (E rfl) (.inr (.inr (.inl ⟨⟨_,_,_,rfl⟩,rfl⟩)))) rfl ?_ |refine lo (aI (by first|exact W rfl id|exact E rfl) (E rfl) (.inr (.inr (.inr ⟨⟨_,_,_,_,rfl⟩,rfl⟩)))) rfl ?_))|refine lg rfl rfl (aI (by first|exact W rfl id|exact E rfl) (E rfl) (.inl ⟨rfl,rfl⟩)) rfl ?_ |refine lg rfl rfl (aI (by first|exact W rfl id|exact E rfl) (E rfl) (.inr (.inl ⟨⟨_,_,rfl⟩,rfl⟩))) rfl ?_ |refine lg rfl rfl (aI (by first|exact W rfl id|exact E rfl) (E rfl) (.inr (.inr (.inl ⟨⟨_,_,_,rfl⟩,rfl⟩)))) rfl ?_ |refine lg rfl rfl (aI (by first|exact W rfl id|exact E rfl) (E rfl) (.inr (.inr (.inr ⟨⟨_,_,_,_,rfl⟩,rfl⟩)))) rfl ?_
 refine gK ?_;refine iI ?_;(refine aJ ?_);refine iD ?_;refine lo (aD (E rfl)) rfl ?_;refine nK [(x2,.box 157 (gY (bR (IB a b) (IC n)) (.ptr m2 0) (.ptr s2 0)))] Tryz.call35 iR ?_;refine lo (aD (E rfl)) rfl ?_;refine cw [(s2,.box 165 [.own t2 0 (NP a b).length,.own g2 0 (yO (bR (IB a b) (IC n))).length]),(t2,.arr 3 1 ((NP a b).map aL)),(g2,.arr 71 2 ((yO (bR (IB a b) (IC n))).map fY))] Tryz.call38 (tV y10 (NP a b) (yO (bR (IB a b) (IC n))) a) rfl aB aA ?_;rintro _ σ' ⟨rfl,rfl⟩ h89;rw[e1];(apply bE;(exact bX));refine lo (aD (E rfl)) rfl ?_;refine lo (bC (E rfl) rfl) rfl ?_;refine lo (bC (E rfl) rfl) rfl ?_;refine lo (aV (E rfl)) rfl ?_;refine lo (aV (E rfl)) rfl ?_;refine iI ?_;(refine aJ ?_);refine iD ?_;refine lo (aD (E rfl)) rfl ?_;refine nK [(x2,.box 157 (gY (bR (IB a b) (IC n)) (.ptr m2 0) (.ptr s2 0)))] Tryz.call35 iR ?_;refine lo (aD (E rfl)) rfl ?_;refine cw [(s2,.box 165 [.own t2 0 (NP a b).length,.own g2 0 (yO (bR (IB a b) (IC n))).length]),(t2,.arr 3 1 ((NP a b).map aL)),(g2,.arr 71 2 ((yO (bR (IB a b) (IC n))).map fY))] Tryz.call38 (tV y10 (NP a b) (yO (bR (IB a b) (IC n))) b) rfl aB aA ?_;rintro _ σ' ⟨rfl,rfl⟩ h96;rw[e2,e3];(apply bE;(exact bX));refine lo (aD (E rfl)) rfl ?_;refine lo (bC (E rfl) rfl) rfl ?_
 refine lo (bC (E rfl) rfl) rfl ?_;refine lo (aV (E rfl)) rfl ?_;refine lo (aV (E rfl)) rfl ?_;refine iI ?_;(refine aJ ?_);refine iD ?_;refine lo (aD (E rfl)) rfl ?_;refine nK [(x2,.box 157 (gY (bR (IB a b) (IC n)) (.ptr m2 0) (.ptr s2 0)))] Tryz.call34 lP ?_;refine lo (aD (E rfl)) rfl ?_;refine jK Tryz.call39 w1 rfl aQ aW ?_;refine lo (aD (E rfl)) rfl ?_;refine lo (bC (E rfl) rfl) rfl ?_;refine lo (bC (E rfl) rfl) rfl ?_;refine lo (aV (E rfl)) rfl ?_;refine lo (aV (E rfl)) rfl ?_;refine iI ?_;(refine aJ ?_);refine iD ?_;refine lo (aD (E rfl)) rfl ?_;refine nK [(x2,.box 157 (gY (bR (IB a b) (IC n)) (.ptr m2 0) (.ptr s2 0)))] Tryz.call34 lP ?_;refine lo (aD (E rfl)) rfl ?_;refine DL ?_;refine jK Tryz.call39 w2 rfl aQ aW ?_;refine lo (aD (E rfl)) rfl ?_;refine lo (bC (E rfl) rfl) rfl ?_;refine lo (bC (E rfl) rfl) rfl ?_;refine lo (aV (E rfl)) rfl ?_;refine lo (aV (E rfl)) rfl ?_;refine iI ?_;(refine aJ ?_);refine iD ?_;refine lo (aD (E rfl)) rfl ?_;refine nK [(x2,.box 157 (gY (bR (IB a b) (IC n)) (.ptr m2 0) (.ptr s2 0)))] Tryz.call34 lP ?_;refine lo (aD (E rfl)) rfl ?_;refine DL ?_;refine jK Tryz.call39 w3 rfl aQ aW ?_;refine lo (aD (E rfl)) rfl ?_;refine lo (bC (E rfl) rfl) rfl ?_;refine lo (bC (E rfl) rfl) rfl ?_
 refine lo (aV (E rfl)) rfl ?_;refine lo (aV (E rfl)) rfl ?_;refine iI ?_;(refine aJ ?_);refine iD ?_;refine lo (aD (E rfl)) rfl ?_;refine lo (aD (E rfl)) rfl ?_;refine eJ ?_;refine mT ?_;refine lo (aD (E rfl)) rfl ?_;refine eJ ?_;refine lJ ?_;rw[show((3:Int)==3)=true from rfl];refine mT ?_;refine lo (aD (E rfl)) rfl ?_;refine eJ ?_;refine eJ ?_;refine aAg ?_;refine VA ?_;first|refine ln rfl rfl rfl rfl ?_ |(refine gy rfl rfl ?_;refine lo (aD (E rfl)) rfl ?_)|refine lg rfl rfl (aD (E rfl)) rfl ?_ |refine lw rfl rfl (aD (E rfl)) rfl ?_ |refine lw rfl rfl (bN (v:=.bool false)) rfl ?_
 refine aFp ?_;refine aC2 ?_;refine mT ?_;refine lo (aD (E rfl)) rfl ?_;refine eJ ?_;refine lJ ?_;refine mT ?_;refine lo (aD (E rfl)) rfl ?_;refine eJ ?_;refine lJ ?_;refine mT ?_;refine lo (aD (E rfl)) rfl ?_;refine eJ ?_;refine lJ ?_;refine mT ?_;refine lo (aV (E rfl)) rfl ?_;refine iI ?_;(refine aJ ?_);(apply aE;(exact aF))
 ·first|rfl|(rcases e4 with h|h<;>simp[dU,h])
 ·exact aA
end Go.Proofs.YtjpdadobblffmaaGreat
