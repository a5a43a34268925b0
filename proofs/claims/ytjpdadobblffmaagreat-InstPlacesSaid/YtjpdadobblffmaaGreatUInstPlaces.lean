/-
  Elements and data at the ends of table and memory, and beyond by one.
-/
import Derived.Test.YtjpdadobblffmaaGreatIP7
namespace Go.Proofs.YtjpdadobblffmaaGreat
open Go.RowKit Go.ChangeShapes Go.WideShapes Go.ChangeAt Go.Deep
set_option linter.unusedSimpArgs false
set_option linter.unusedVariables false
attribute [local irreducible] SW RS RD fF eB
section
variable {P : Program} {n : Nat} {ops : Array Oper} {fr : Fr} {σ : dC} {K : ASt → Prop} {ty t : TypeId} {pos : String} {af : Array Edge} {x y : Operand} {d i : Nat} {listed : Array Bool} {todo : List (Nat × Bool)} {held : List (Nat × List Nat)}
theorem dmk{e:TypeId}{sz by_:Nat}{zv:Value}{k k':IntKind}{m:Int}{l:Nat}{z:List AV}(hi:ops[i]? =some ⟨some d,.makeSlice t x y,ty,pos,af,none⟩)(i1:Ty P t (.slice e))(i2:Tz P e sz by_ zv)(hl:aev ⟨fr,σ⟩ x=some (.int k m))(hc:aev ⟨fr,σ⟩ y=some (.int k' m))(hm:m=(l:Int))(h0:(decide (0<sz)&&(zv.cells.size==sz)&&(zv.cells.toList.map cV).all AV.cell)=true)
  (hby:by_*l≤281474976710656) (hml:l≤maxLen) (hz:zv.cells.toList.map cV=z) (hd:Nat.ble (d+1) n=true) (hK:∀r,Fresh r σ→RD P n ops (listed.setIfInBounds i true) todo held ⟨(d,.own r 0 l)::fr,(r,.arr e sz (List.replicate l z))::σ⟩ K):RD P n ops listed ((i,false)::todo) held ⟨fr,σ⟩ K:=by
 subst hz;exact uR hi (NH hl hc hm h0 hby hml (cI hd) hK)
end
def aCy (el:List El) (da:List Da):Prop:=gX GS [-1,-1,-1,-1] el=none∨∃tb,gX GS [-1,-1,-1,-1] el=some tb∧gX HZ memZ da=none
theorem aE5(el:List El)(da:List Da):aCy el da∨∃tb B,gX GS [-1,-1,-1,-1] el=some tb∧gX HZ memZ da=some B:=by
 cases h:gX GS [-1,-1,-1,-1] el with
 |none=>exact .inl (.inl h)
 |some tb=>
  cases h2:gX HZ memZ da with
  |none=>exact .inl (.inr ⟨tb,h,h2⟩)
  |some B=>exact .inr ⟨tb,B,rfl,rfl⟩
theorem FS{σ α:Type}{f:σ→α→Option σ}{len:σ→Nat}(hf:∀s a t,f s a=some t→len t=len s):∀ {l:List α} {s t:σ},gX f s l=some t→len t=len s
 |[],s,t,h=>by cases h;rfl
 |a::l,s,t,h=>by
  unfold gX at h;cases h1:f s a with
  |none=>rw[h1]at h;cases h
  |some u=>rw[h1]at h;rw[FS hf h,hf s a u h1]
section
variable {el : List El} {da : List Da}
theorem TY(h:XOk el da)(hf:aCy el da):SCall Tryz.prog 37 [.agg (aZ (aM el da))] [] (fun y σ=>y=.tup [.nilp,.int .i64 3]∧σ=[]):=by
 refine(KB (aM el da) h.wo h.z h.vl rfl (RA el da)).mono fun y σ hy=> ?_
 rcases hy with⟨-,e⟩|⟨tb,e1,⟨-,e⟩|⟨b,e2,-⟩⟩
 ·exact e
 ·exact e
 ·rcases hf with hf|⟨tb2,-,hf⟩
  ·have e1':gX GS [-1,-1,-1,-1] el=some tb:=e1;rw[hf]at e1';cases e1'
  ·have e2':gX HZ memZ da=some b:=e2;rw[hf]at e2';cases e2'
theorem ZK(h:XOk el da)(hf:aCy el da):SCall Tryz.prog 44 [.agg (aZ (aM el da)),.int .i64 0,.int .i64 0] [] (fun y σ=>y=.tup [.nilp,.int .i64 3]∧σ=[]):=by
 refine(WN h 0 0).mono fun y σ hy=> ?_
 rcases hy with⟨-,e⟩|⟨tb,e1,⟨-,e⟩|⟨b,e2,-⟩⟩
 ·exact e
 ·exact e
 ·rcases hf with hf|⟨tb2,-,hf⟩
  ·have e1':gX GS [-1,-1,-1,-1] el=some tb:=e1;rw[hf]at e1';cases e1'
  ·have e2':gX HZ memZ da=some b:=e2;rw[hf]at e2';cases e2'
theorem aCz(h:XOk el da){tb:List Int}{b:List Nat}(h1:gX GS [-1,-1,-1,-1] el=some tb)(h2:gX HZ memZ da=some b):SCall Tryz.prog 44 [.agg (aZ (aM el da)),.int .i64 0,.int .i64 0] []
  (fun y σ=>∃c q t g,(Nq c q∧Nq c t∧Nq c g∧Nq q t∧Nq q g∧Nq t g)∧y=.tup [.ptr c 0,.int .i64 0]∧
   σ=[(c,.box 175 (tW (aM el da) (.own q 0 b.length) (.own t 0 tb.length) (.own g 0 (nD (aM el da)).length) 0 0)),(q,.arr 5 1 (b.map aG)),(t,.arr 3 1 (tb.map aK)),(g,.arr 71 2 ((nD (aM el da)).map fL))]):=by
 refine(WN h 0 0).mono fun y σ hy=> ?_
 have k1:gX GS [-1,-1,-1,-1] (aM el da).el=some tb:=h1;have k2:gX HZ memZ (aM el da).da=some b:=h2;rcases hy with⟨e,-⟩|⟨tb',e,⟨e2,-⟩|⟨b',e2,hr⟩⟩
 ·rw[k1]at e;cases e
 ·rw[k2]at e2;cases e2
 ·rw[k1]at e;rw[k2]at e2;cases e;cases e2
  exact hr
end
def ZL (off:Int) (n:Nat):List El:=[⟨off,List.replicate n 0⟩]
def ZM (p:Int) (z:Nat):List Da:=[⟨5,[1]⟩,⟨p,List.replicate z 0⟩]
theorem aHY{off p:Int}{n z:Nat}(h:n≤5∧z≤300∧(-10≤off∧off≤30)∧ -10≤p∧p≤800):XOk (ZL off n) (ZM p z):=by
 refine⟨⟨by simp[ZL],fun x hx=> ?_⟩,by simp[ZM],fun x hx=> ?_⟩
 ·simp only[ZL,List.mem_cons,List.not_mem_nil,or_false]at hx;subst hx;exact⟨by simp[gI];omega,by simp;omega,fun f hf=>by rw[List.eq_of_mem_replicate hf];decide⟩
 ·simp only[ZM,List.mem_cons,List.not_mem_nil,or_false]at hx;rcases hx with rfl|rfl
  ·exact⟨by decide,by decide,by decide⟩
  ·exact⟨by simp[gI];omega,by simp;omega,fun f hf=>by rw[List.eq_of_mem_replicate hf];decide⟩
set_option maxHeartbeats 8000000 in
set_option maxRecDepth 100000 in
theorem FU(off n0 p z0:Int):SCall Tryz.prog 15 [.int .i64 off,.int .i64 n0,.int .i64 p,.int .i64 z0] [] (fun y _=>y=.bool true):=by
 refine bS 104 [0,1,2,3,8,9,10,11,12,13,14,17,47,89] Tryz.func15 ?_;(refine aI ?_);refine mJ ?_;refine lo (cK (E rfl)) rfl ?_;refine pO ?_;(refine aI ?_);refine mJ ?_;refine lB Tryz.call32 RC rfl aP aS ?_;refine lo (cK (E rfl)) rfl ?_;refine pO ?_;(refine aI ?_);refine mJ ?_;refine lo (aF (E rfl)) rfl ?_;refine lo (eI (E rfl)) rfl ?_;refine pO ?_;(refine aI ?_);refine mJ ?_;refine lo (aF (E rfl)) rfl ?_;refine lo (jC (E rfl) (E rfl)) rfl ?_;refine lo (aF (E rfl)) rfl ?_;refine kG ?_;refine AJ ?_;refine jE ?_;refine lo (aF (E rfl)) rfl ?_;refine kG ?_;refine NZ ?_;refine jE ?_;refine lo (aF (E rfl)) rfl ?_;refine kG ?_;refine AJ ?_;refine jE ?_;refine lo (aF (E rfl)) rfl ?_;refine kG ?_;refine NZ ?_;refine jE ?_;refine lo (aF (E rfl)) rfl ?_;refine kG ?_;refine AJ ?_;refine jE ?_;refine lo (aF (E rfl)) rfl ?_;refine kG ?_;refine NZ ?_;refine jE ?_;refine lo (aF (E rfl)) rfl ?_;refine kG ?_;refine AJ ?_;refine jE ?_;refine pO ?_;(refine aI ?_);refine aB rfl (fun g4=> ?_) (fun g4=> ?_)
 ·(refine aI ?_);refine mJ ?_;refine lo (cK (E rfl)) rfl ?_;refine pO ?_;(refine aI ?_);(apply aD;(exact aE))
  ·rfl
  ·exact aA
 have hr:(0≤n0∧n0≤5)∧(0≤z0∧z0≤300)∧(-10≤off∧off≤30)∧ -10≤p∧p≤800:=by
  replace g4:=bT g4
  omega
 obtain⟨⟨hn1,hn2⟩,⟨hz1,hz2⟩,hr3⟩:=hr;obtain⟨n,rfl⟩:=Int.eq_ofNat_of_zero_le hn1;obtain⟨z,rfl⟩:=Int.eq_ofNat_of_zero_le hz1;clear g4;have hX:XOk (ZL off n) (ZM p z):=aHY ⟨by omega,by omega,hr3⟩;(refine aI ?_);refine mJ ?_;refine cw [] Tryz.call25 (ZI [] 0) rfl aC aA ?_;rintro _ σ' ⟨q1,q2,q3,q4,q5,q6,q7,hnd,rfl,rfl⟩ h48
 replace hnd:=hnd.to
 (repeat(rcases hnd with⟨_,hnd⟩));unfold aKc aCt;(apply aU;(exact bD));refine iO fun r10 h10=> ?_;intros
 apply MZ;rfl;rfl;rfl;rfl;exact mP;refine pO ?_;(refine aI ?_);refine mJ ?_;refine yK ?_;refine tG ?_;refine lE ?_;refine eC fun r52 h52=> ?_;intros
 refine UC ?_;refine KO ?_;refine iW (j:=52) rfl bK (aN bC (by simp)) ?_;refine iR (eE (j:=52) rfl (yH (l:=qF) (by simp[qF]))) ?_;refine KP ?_;refine pO ?_;(refine aI ?_);refine fJ [(0,true),(1,true),(2,true),(3,true),(4,false),(5,true),(6,true),(7,false)] ?_;refine RJ ?_;refine z74 ?_;refine fP rfl (aF (E rfl)) rfl ?_;refine fP rfl (aF (E rfl)) rfl ?_;refine dmk (l:=n) (z:=[.int .i64 0]) rfl inferInstance inferInstance rfl rfl rfl rfl (by omega) (by simp[maxLen];omega) rfl rfl ?_;refine iT fun r59 h59=> ?_;intros
 rw[show List.replicate n [AV.int .i64 0]=(List.replicate n (0:Int)).map aK by simp[aK]];refine aJg (j:=59) rfl bK (aN bC (by simp)) ?_;refine z94 ?_;refine z56 ?_;apply aCP;rfl;infer_instance;rfl;rfl;rfl;rfl;exact cE;exact atT;exact BM;rfl;exact eM;refine CC ?_;(refine aI ?_);refine mJ ?_;refine eC fun r62 h62=> ?_;intros
 refine iW (j:=62) rfl bK (aN bC (by simp)) ?_;refine lE ?_;refine lo (aF (E rfl)) rfl ?_;refine lo (aF (E rfl)) rfl ?_;apply mk (l:=z) (z:=aG 0);rfl;rfl;rfl;rfl
 ·omega
 ·simp[maxLen];omega
 ·rfl
 ·rfl
 refine iT fun r66 h66=> ?_;intros
 rw[show List.replicate z (aG 0)=(List.replicate z 0).map aG by simp];refine iW (j:=66) rfl bK (aN bC (by simp)) ?_;refine lE ?_;refine eC fun r68 h68=> ?_;intros
 refine iW (j:=68) rfl bK (aN bC (by simp)) ?_;refine yK ?_;apply MZ;rfl;rfl;rfl;rfl;exact mP;refine pO ?_;(refine aI ?_);refine dZ (aE2 (r:=r10) (cs':=aZ (aM (ZL off n) (ZM p z))) [q7,q5,q6,q4,q3,q2,q1] bC (aLE (by(exact cA)) (by(exact cA)) (by(exact cA)) (by(exact cA)) (by(exact cA)) (by(exact cA)) (by(exact cA))) (by exact .cons (.refl _) (.cons (BD aKi bC rfl) (.cons (BD aKh bC rfl) (.cons (.refl _) (.cons (.refl _) (.cons (.refl _) (.cons (.refl _) (.cons (.refl _) (.cons (.refl _) (.cons (BD aKg bC rfl) (.cons (BD aKf bC rfl) (.cons (BD aKe bC rfl) (.cons (BD aKd bC rfl) (.cons (.refl _) .nil)))))))))))))) _ (fun _ _ h=>h)) ?_;rcases aE5 (ZL off n) (ZM p z)with hf|⟨tb,B,h1,h2⟩
 ·refine mJ ?_;refine kP ?_;refine lB Tryz.call37 (TY hX hf) rfl aP aS ?_;refine lo (aF (E rfl)) rfl ?_;refine lo (eN (E rfl) rfl) rfl ?_;refine lo (eN (E rfl) rfl) rfl ?_;refine lo (cK (E rfl)) rfl ?_;refine lo (cK (E rfl)) rfl ?_;refine pO ?_;(refine aI ?_);refine mJ ?_;refine kP ?_;refine lB Tryz.call44 (ZK hX hf) rfl aP aS ?_;refine lo (aF (E rfl)) rfl ?_;refine lo (eN (E rfl) rfl) rfl ?_;refine lo (eN (E rfl) rfl) rfl ?_;refine lo (cK (E rfl)) rfl ?_;refine lo (cK (E rfl)) rfl ?_;refine pO ?_;(refine aI ?_);refine mJ ?_;refine lo (aF (E rfl)) rfl ?_;refine lo (aF (E rfl)) rfl ?_;refine lo (dV (E rfl) (E rfl)) rfl ?_;rw[show((3:Int) !=3)=false from rfl];refine lo (aF (E rfl)) rfl ?_;refine kG ?_;refine pW ?_;rw[show((3:Int)==0)=false from rfl];refine kG ?_;first|refine ln rfl rfl rfl rfl ?_ |(refine gy rfl rfl ?_;(first|refine lo (cQ (by first|exact W rfl id|exact E rfl) (E rfl) (.inl ⟨rfl,rfl⟩)) rfl ?_ |refine lo (cQ (by first|exact W rfl id|exact E rfl) (E rfl) (.inr (.inl ⟨⟨_,_,rfl⟩,rfl⟩))) rfl ?_ |refine lo (cQ (by first|exact W rfl id|exact E rfl) (E rfl) (.inr (.inr (.inl ⟨⟨_,_,_,rfl⟩,rfl⟩)))) rfl ?_ |refine lo (cQ (by first|exact W rfl id|exact E rfl) (E rfl) (.inr (.inr (.inr ⟨⟨_,_,_,_,rfl⟩,rfl⟩)))) rfl ?_))|refine lg rfl rfl (cQ (by first|exact W rfl id|exact E rfl) (E rfl) (.inl ⟨rfl,rfl⟩)) rfl ?_ |refine lg rfl rfl (cQ (by first|exact W rfl id|exact E rfl) (E rfl) (.inr (.inl ⟨⟨_,_,rfl⟩,rfl⟩))) rfl ?_ |refine lg rfl rfl (cQ (by first|exact W rfl id|exact E rfl) (E rfl) (.inr (.inr (.inl ⟨⟨_,_,_,rfl⟩,rfl⟩)))) rfl ?_ |refine lg rfl rfl (cQ (by first|exact W rfl id|exact E rfl) (E rfl) (.inr (.inr (.inr ⟨⟨_,_,_,_,rfl⟩,rfl⟩)))) rfl ?_
  first|refine ln rfl rfl rfl rfl ?_ |(refine gy rfl rfl ?_;refine lo (yN (by first|exact W rfl id|exact E rfl) (by first|exact W rfl id|exact E rfl)) rfl ?_)|refine lg rfl rfl (yN (by first|exact W rfl id|exact E rfl) (by first|exact W rfl id|exact E rfl)) rfl ?_
  rw[show(!(false==false))=false from rfl];refine jE ?_;refine pO ?_;(refine aI ?_);refine mJ ?_;refine lo (aF (E rfl)) rfl ?_;refine lo (dV (E rfl) (E rfl)) rfl ?_;rw[show((3:Int) !=0)=true from rfl];refine lo (aF (E rfl)) rfl ?_;refine kG ?_;refine kG ?_;refine ln rfl rfl rfl rfl ?_;refine NU ?_;first|refine ln rfl rfl rfl rfl ?_ |(refine gy rfl rfl ?_;refine lo (aF (E rfl)) rfl ?_)|refine lg rfl rfl (aF (E rfl)) rfl ?_ |refine lw rfl rfl (aF (E rfl)) rfl ?_ |refine lw rfl rfl (bR (v:=.bool false)) rfl ?_
  refine lw rfl rfl (bR (v:=.bool false)) rfl ?_;refine lw rfl rfl (bR (v:=.bool false)) rfl ?_;first|refine ln rfl rfl rfl rfl ?_ |(refine gy rfl rfl ?_;(first|refine lo (eF (by first|exact W rfl id|exact E rfl)) rfl ?_ |refine lo (fE (by first|exact W rfl id|exact E rfl)) rfl ?_ |refine lo (eG (by first|exact W rfl id|exact E rfl)) rfl ?_))|refine lg rfl rfl (eF (by first|exact W rfl (by first|exact id|simp)|exact E rfl)) rfl ?_ |refine lg rfl rfl (fE (by first|exact W rfl (by first|exact id|simp)|exact E rfl)) rfl ?_ |refine lg rfl rfl (eG (by first|exact W rfl (by first|exact id|simp)|exact E rfl)) rfl ?_ |refine lw rfl rfl (eF (by first|exact W rfl (by first|exact id|simp)|exact E rfl)) rfl ?_ |refine lw rfl rfl (fE (by first|exact W rfl (by first|exact id|simp)|exact E rfl)) rfl ?_ |refine lw rfl rfl (eG (by first|exact W rfl (by first|exact id|simp)|exact E rfl)) rfl ?_ |refine lw rfl rfl (bR (v:=.bool false)) rfl ?_
  refine aGg ?_;refine WV ?_;refine jE ?_;refine lo (cK (E rfl)) rfl ?_;refine pO ?_;(refine aI ?_);(apply aD;(exact aE))
  ·rfl
  ·exact aA
 ·have htb:tb.length=4:=FS (len:=List.length) (fun _ _ _ h=>aEW h) h1;have hB:B.length=256:=(FS (len:=List.length) (fun _ _ _ h=>aEX h) h2).trans RB;refine mJ ?_;refine kP ?_;refine cw [] Tryz.call37 (KC hX h1 h2) rfl aC aA ?_;rintro _ σ' ⟨x,mm,q,d,s,t,g,hx,rfl,rfl⟩ h72;unfold QY at h72
  replace h72:=KA h72;replace h72:=cB h72;(repeat(rcases h72 with⟨_,h72⟩))
  unfold QY;obtain⟨y1,y2,y3,y4,y5,y6,y7,y8,y9,y10,y11,y12,y13,y14,y15,y16,y17,y18,y19,y20,y21⟩:=hx;(apply aU;(exact bD));refine lo (aF (E rfl)) rfl ?_;refine lo (eN (E rfl) rfl) rfl ?_;refine lo (eN (E rfl) rfl) rfl ?_;refine lo (cK (E rfl)) rfl ?_;refine lo (cK (E rfl)) rfl ?_;refine pO ?_;(refine aI ?_);refine mJ ?_;refine kP ?_;refine cw [] Tryz.call44 (aCz hX h1 h2) rfl aC aA ?_;rintro _ σ' ⟨c,cq,ct,cg,hc,rfl,rfl⟩ h77
  replace h77:=KA h77;replace h77:=cB h77;(repeat(rcases h77 with⟨_,h77⟩))
  (repeat(rcases hc with⟨_,hc⟩));(apply aU;(exact bD));refine lo (aF (E rfl)) rfl ?_;refine lo (eN (E rfl) rfl) rfl ?_;refine lo (eN (E rfl) rfl) rfl ?_;refine lo (cK (E rfl)) rfl ?_;refine lo (cK (E rfl)) rfl ?_;refine pO ?_;(refine aI ?_);refine mJ ?_;refine lo (aF (E rfl)) rfl ?_;refine lo (aF (E rfl)) rfl ?_;refine lo (dV (E rfl) (E rfl)) rfl ?_;rw[show((0:Int) !=0)=false from rfl];refine lo (aF (E rfl)) rfl ?_;refine kG ?_;refine pW ?_;rw[show((0:Int)==0)=true from rfl];refine kG ?_;first|refine ln rfl rfl rfl rfl ?_ |(refine gy rfl rfl ?_;(first|refine lo (cQ (by first|exact W rfl id|exact E rfl) (E rfl) (.inl ⟨rfl,rfl⟩)) rfl ?_ |refine lo (cQ (by first|exact W rfl id|exact E rfl) (E rfl) (.inr (.inl ⟨⟨_,_,rfl⟩,rfl⟩))) rfl ?_ |refine lo (cQ (by first|exact W rfl id|exact E rfl) (E rfl) (.inr (.inr (.inl ⟨⟨_,_,_,rfl⟩,rfl⟩)))) rfl ?_ |refine lo (cQ (by first|exact W rfl id|exact E rfl) (E rfl) (.inr (.inr (.inr ⟨⟨_,_,_,_,rfl⟩,rfl⟩)))) rfl ?_))|refine lg rfl rfl (cQ (by first|exact W rfl id|exact E rfl) (E rfl) (.inl ⟨rfl,rfl⟩)) rfl ?_ |refine lg rfl rfl (cQ (by first|exact W rfl id|exact E rfl) (E rfl) (.inr (.inl ⟨⟨_,_,rfl⟩,rfl⟩))) rfl ?_ |refine lg rfl rfl (cQ (by first|exact W rfl id|exact E rfl) (E rfl) (.inr (.inr (.inl ⟨⟨_,_,_,rfl⟩,rfl⟩)))) rfl ?_ |refine lg rfl rfl (cQ (by first|exact W rfl id|exact E rfl) (E rfl) (.inr (.inr (.inr ⟨⟨_,_,_,_,rfl⟩,rfl⟩)))) rfl ?_
  first|refine ln rfl rfl rfl rfl ?_ |(refine gy rfl rfl ?_;refine lo (yN (by first|exact W rfl id|exact E rfl) (by first|exact W rfl id|exact E rfl)) rfl ?_)|refine lg rfl rfl (yN (by first|exact W rfl id|exact E rfl) (by first|exact W rfl id|exact E rfl)) rfl ?_
  rw[show(!(true==true))=false from rfl];refine jE ?_;refine pO ?_;(refine aI ?_);have hN:Nd [x,mm,q,d,s,t,g,c,cq,ct,cg]:=by
   simp only[Nd,List.mem_cons,List.not_mem_nil,or_false,forall_eq_or_imp,forall_eq,and_true,false_implies,implies_true,and_assoc]
   (repeat' apply And.intro)<;>(exact cA)
  refine mJ ?_;refine lo (aF (E rfl)) rfl ?_;refine lo (dV (E rfl) (E rfl)) rfl ?_;rw[show((0:Int) !=0)=false from rfl];refine lo (aF (E rfl)) rfl ?_;refine kG ?_;refine kG ?_;refine gy rfl rfl ?_;refine yJ [(x,.box 157 (lD (aM (ZL off n) (ZM p z)) (.ptr mm 0) (.ptr s 0))),(mm,.box 169 [.own q 0 (B).length,.int .i64 (jN 3),.own d 0 (([]:List Int)).length]),(q,.arr 5 1 ((B).map aG)),(d,.arr 3 1 ((([]:List Int)).map aK)),(s,.box 165 [.own t 0 (tb).length,.own g 0 (nD (aM (ZL off n) (ZM p z))).length]),(t,.arr 3 1 ((tb).map aK)),(g,.arr 71 2 ((nD (aM (ZL off n) (ZM p z))).map fL)),(c,.box 175 (tW (aM (ZL off n) (ZM p z)) (.own cq 0 B.length) (.own ct 0 tb.length) (.own cg 0 (nD (aM (ZL off n) (ZM p z))).length) 0 0)),(cq,.arr 5 1 (B.map aG)),(ct,.arr 3 1 (tb.map aK)),(cg,.arr 71 2 ((nD (aM (ZL off n) (ZM p z))).map fL))] Tryz.call48 (aCx hN htb hB) ?_;refine NU ?_;first|refine ln rfl rfl rfl rfl ?_ |(refine gy rfl rfl ?_;refine lo (aF (E rfl)) rfl ?_)|refine lg rfl rfl (aF (E rfl)) rfl ?_ |refine lw rfl rfl (aF (E rfl)) rfl ?_ |refine lw rfl rfl (bR (v:=.bool false)) rfl ?_
  refine gy rfl rfl ?_;refine yJ [(x,.box 157 (lD (aM (ZL off n) (ZM p z)) (.ptr mm 0) (.ptr s 0)))] Tryz.call34 AE ?_;refine gy rfl rfl ?_;refine qN Tryz.call49 (ZD B (jN 3) [] (by simp)) rfl bM kA ?_;rintro _ σ' ⟨p1,rfl,rfl⟩ h99
  replace h99:=cB h99;(repeat(rcases h99 with⟨_,h99⟩))
  (apply aU;(exact bD));first|refine ln rfl rfl rfl rfl ?_ |(refine gy rfl rfl ?_;(first|refine lo (eF (by first|exact W rfl id|exact E rfl)) rfl ?_ |refine lo (fE (by first|exact W rfl id|exact E rfl)) rfl ?_ |refine lo (eG (by first|exact W rfl id|exact E rfl)) rfl ?_))|refine lg rfl rfl (eF (by first|exact W rfl (by first|exact id|simp)|exact E rfl)) rfl ?_ |refine lg rfl rfl (fE (by first|exact W rfl (by first|exact id|simp)|exact E rfl)) rfl ?_ |refine lg rfl rfl (eG (by first|exact W rfl (by first|exact id|simp)|exact E rfl)) rfl ?_ |refine lw rfl rfl (eF (by first|exact W rfl (by first|exact id|simp)|exact E rfl)) rfl ?_ |refine lw rfl rfl (fE (by first|exact W rfl (by first|exact id|simp)|exact E rfl)) rfl ?_ |refine lw rfl rfl (eG (by first|exact W rfl (by first|exact id|simp)|exact E rfl)) rfl ?_ |refine lw rfl rfl (bR (v:=.bool false)) rfl ?_
  refine aGg ?_;refine WV ?_;refine jE ?_;refine lo (cK (E rfl)) rfl ?_;refine pO ?_;(refine aI ?_);(apply aD;(exact aE))
  ·rfl
  ·exact aA
end Go.Proofs.YtjpdadobblffmaaGreat
