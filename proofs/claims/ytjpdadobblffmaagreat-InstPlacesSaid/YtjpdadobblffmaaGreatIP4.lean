import Derived.Test.YtjpdadobblffmaaGreatIP3
import Derived.Test.YtjpdadobblffmaaGreatIP2
set_option linter.unusedSimpArgs false
set_option linter.unusedVariables false
set_option maxRecDepth 100000
set_option maxHeartbeats 4000000
namespace Go.Proofs.YtjpdadobblffmaaGreat
open Go.RowKit Go.ChangeShapes Go.WideShapes Go.ChangeAt Go.Deep
attribute [local irreducible] SW RS RD fF eB
def iL (P:Program) (t8:TypeId) (f:FuncId) {α:Type} (ar:α→AV) (pt:α→List Nat) (ok:α→Prop) (c B:Nat):Prop:=
 (∀args w,(callFunc f args).run P w=.ok (.enter f args) w)∧∀(q:Nat) (vs:List Nat) (x:α),ok x→0<vs.length→vs.length≤B→(pt x).length≤c∧
  SCall P f ([]++ [.own q 0 vs.length,ar x]++ []) [(q,.arr t8 1 (vs.map aG))] (fun y σ=>∃r,y=.own r 0 (vs++pt x).length∧σ=[(r,.arr t8 1 ((vs++pt x).map aG))])
theorem gL{P:Program}{t8:TypeId}{f:FuncId}{α:Type}{ar:α→AV}{pt:α→List Nat}{ok:α→Prop}{c B:Nat}(hf:iL P t8 f ar pt ok c B)(hB:1≤B){l:List α}(hl:∀x∈l,ok x)(j:Nat):((l.take j).flatMap pt).length≤l.length*c:=by
 have h1:∀(l:List α),(∀x∈l,ok x)→(l.flatMap pt).length≤l.length*c:=by
  intro l
  induction l with
  |nil=>simp
  |cons x l ih=>
   intro h;have:=ih fun y hy=>h y (List.mem_cons_of_mem _ hy)
   have hx:=(hf.2 0 [0] x (h x List.mem_cons_self) (by simp) hB).1;rw[List.flatMap_cons,List.length_append,List.length_cons,Nat.add_mul];omega
 refine Nat.le_trans (h1 (l.take j) fun x hx=>hl x (List.mem_of_mem_take hx)) (Nat.mul_le_mul_right c ?_);simp;omega
theorem dU(q:Nat)(vs:List Nat)(hvs:vs.length≤50000000)(n:Nat)(hn:n<9223372036854775808):SCall Tryz.prog 135 [.own q 0 vs.length,.int .i64 n] [(q,.arr 5 1 (vs.map aG))]
  (fun y σ=>∃r,y=.own r 0 (vs++uB n).length∧σ=[(r,.arr 5 1 ((vs++uB n).map aG))]):=by
 refine bS 9 [0,1,4] Tryz.func135 ?_;refine lL ?_;refine RI ?_;refine cw [(q,.arr 5 1 (vs.map aG))] Tryz.call239 (mU q vs (by omega) n (by omega)) rfl aC aA ?_;rintro _ σ' ⟨r8,rfl,rfl⟩ h8;have k8:=aV h8;repeat rcases k8 with⟨_,k8⟩
 refine eY ?_;exact aD aE ⟨r8,by rfl,rfl⟩ aA
theorem eE{fr:Fr}{σ:dC}{j:Nat}{x y:AV}(h:dD fr j=some x)(hv:VLe x y):SGo ⟨fr,σ⟩ ⟨(j,y)::fr,σ⟩:=by
 refine SGo.of_le (fun i z hi=> ?_) (fun p hp=>hp);by_cases hij:i=j
 ·subst hij;rw[show dD ((i,y)::fr) i=some y by simp[dD]]at hi;obtain rfl:=Option.some.inj hi;exact⟨_,h,hv⟩
 ·rw[show dD ((j,y)::fr) i=dD fr i by simp[dD];intro e;exact absurd e hij]at hi;exact⟨z,hi,VLe.refl z⟩
theorem VLe.agg {cs cs':List AV}(hl:cs.length=cs'.length)(h:∀(j:Nat) (a a':AV),cs[j]? =some a→cs'[j]? =some a'→VLe a a'):VLe (.agg cs) (.agg cs'):=fun M F w v hv=>by
 cases hv with
 |agg hn hc=>
  refine .agg (hn.trans hl) fun j a' u ha' hu=> ?_
  have hj:=(List.getElem?_eq_some_iff.1 ha').1;have ha:cs[j]? =some (cs[j]'(by omega)):=List.getElem?_eq_getElem (by omega);exact h j _ a' ha ha' _ _ _ _ (hc j _ u ha hu)
theorem CV{op a b:Int}:VLe (.agg [.int .i64 op,.int .i64 a,.int .i64 b,.ro 0 [] .nil]) (.agg (iv .any ⟨op,a,b,[]⟩)):=by
 refine VLe.agg rfl fun j a a' ha ha'=> ?_
 match j with
 |0=>cases ha;cases ha';exact VLe.refl _
 |1=>cases ha;cases ha';exact VLe.refl _
 |2=>cases ha;cases ha';exact VLe.refl _
 |3=>cases ha;cases ha';exact VLe.empty
 | _ +4=>cases ha
theorem nW(q:Nat)(vs:List Nat)(hpos:0<vs.length)(hvs:vs.length≤20000000)(b:List Nat)(hb:b.length≤1000)(hlt:∀c∈b,c<256):SCall Tryz.prog 136 [.own q 0 vs.length,.str (dI b)] [(q,.arr 5 1 (vs.map aG))]
  (fun y σ=>∃r,y=.own r 0 (vs++bI b).length∧σ=[(r,.arr 5 1 ((vs++bI b).map aG))]):=by
 have hu:=bG 1 b.length (by omega);refine bS 11 [0,1,4] Tryz.func136 ?_;refine lL ?_;refine lo (gM (E rfl)) rfl ?_;rw[jR];refine cw [(q,.arr 5 1 (vs.map aG))] Tryz.call135 (dU q vs (by omega) b.length (by omega)) rfl aC aA ?_;rintro _ σ' ⟨r8,rfl,rfl⟩ h8;have k8:=aV h8;repeat rcases k8 with⟨_,k8⟩
 refine xQ ?_;refine apS (vs++uB b.length) (b) hlt ?_;refine bE fun r10 h10=> ?_;intros
 refine cM ?_;rw[show vs++uB b.length++b=vs++bI b by unfold bI;rw[List.append_assoc]];exact aD aE ⟨r10,by rfl,rfl⟩ aA
theorem sW(q:Nat)(vs:List Nat)(hvs:vs.length≤20000000)(k:Int):SCall Tryz.prog 132 [.own q 0 vs.length,.int .i64 k] [(q,.arr 5 1 (vs.map aG))]
  (fun y σ=>∃r,y=.own r 0 (vs++kB k).length∧σ=[(r,.arr 5 1 ((vs++kB k).map aG))]):=by
 refine bS 13 [0,1,4,6] Tryz.func132 ?_;refine eX ?_;refine xR ?_;refine aB rfl (fun g1=> ?_) (fun g1=> ?_)
 ·rw[show kB k=[127] by unfold kB;rw[if_pos g1]];refine cX ?_;refine eC fun r8 h8=> ?_;intros
  refine jQ ((vs++ [127]).map aG) (vs++ [127]).length ?_;refine bE fun r9 h9=> ?_;intros
  refine cM ?_;exact aD aE ⟨r9,by rfl,rfl⟩ aA
 rw[show kB k=[126] by unfold kB;rw[if_neg (by simp[g1])]];refine cX ?_;refine eC fun r11 h11=> ?_;intros
 refine jQ ((vs++ [126]).map aG) (vs++ [126]).length ?_;refine bE fun r12 h12=> ?_;intros
 refine cM ?_;exact aD aE ⟨r12,by rfl,rfl⟩ aA
theorem qX(q:Nat)(vs:List Nat)(hvs:vs.length≤20000000)(k n:Int)(hv:mK k n=true)(hn:-9223372036854775808≤n∧n≤9223372036854775807):SCall Tryz.prog 144 [.own q 0 vs.length,.agg [.int .i64 k,.int .i64 n]] [(q,.arr 5 1 (vs.map aG))]
  (fun y σ=>∃r,y=.own r 0 (vs++mA k n).length∧σ=[(r,.arr 5 1 ((vs++mA k n).map aG))]):=by
 obtain⟨ho,hm,-⟩:=EE hv hn;have hpl:=vB ho hm;have hcB:mA k n=gE ⟨if(k==2)=true then 66 else 65,n,0,[]⟩++ [11]:=rfl;rw[hcB];generalize hop:(if(k==2)=true then(66:Int)else 65)=op at ho hm hpl hcB⊢;have hop:=hop.symm;refine bS 17 [0,1,3,4,5,8] Tryz.func144 ?_;refine cZ ?_;refine gQ fun r3 h3=> ?_;intros
 refine iX ?_;refine iJ ?_;refine xR ?_;refine aB rfl (fun g2=> ?_) (fun g2=> ?_)
 ·have hco:cV (.int .i64 66)=AV.int .i64 op:=by rw[hop,if_pos g2];rfl
  refine bF ?_;rw[hco];refine kQ ?_;refine fO ?_;refine lE ?_;refine iR (eE (j:=13) rfl CV) ?_;refine cw [(q,.arr 5 1 (vs.map aG))] Tryz.call242 (AM q vs (by omega) .any ⟨op,n,0,[]⟩ ho hm) rfl aC aA ?_;rintro _ σ' ⟨r14,rfl,rfl⟩ h14;have k14:=aV h14;repeat rcases k14 with⟨_,k14⟩
  apply aU;exact bD;refine eC fun r15 h15=> ?_;intros
  refine jQ ((vs++gE ⟨op,n,0,[]⟩++ [11]).map aG) (vs++gE ⟨op,n,0,[]⟩++ [11]).length ?_;refine bE fun r16 h16=> ?_;intros
  refine cM ?_;rw[List.append_assoc];exact aD aE ⟨r16,by rfl,rfl⟩ aA
 have hco:cV (.int .i64 65)=AV.int .i64 op:=by rw[hop,if_neg (by simp[g2])];rfl
 refine aI ?_;rw[hco];refine kQ ?_;refine fO ?_;refine lE ?_;refine iR (eE (j:=13) rfl CV) ?_;refine cw [(q,.arr 5 1 (vs.map aG))] Tryz.call242 (AM q vs (by omega) .any ⟨op,n,0,[]⟩ ho hm) rfl aC aA ?_;rintro _ σ' ⟨r14,rfl,rfl⟩ h14;have k14:=aV h14;repeat rcases k14 with⟨_,k14⟩
 apply aU;exact bD;refine z1 ?_;refine bN fun r15 h15=> ?_;repeat rcases h15 with⟨_,h15⟩
 refine jQ ((vs++gE ⟨op,n,0,[]⟩++ [11]).map aG) (vs++gE ⟨op,n,0,[]⟩++ [11]).length ?_;refine bE fun r16 h16=> ?_;intros
 refine cM ?_;rw[List.append_assoc];exact aD aE ⟨r16,by rfl,rfl⟩ aA
theorem aGJ{f:FuncId}{pt:FT→List Nat}{ok:FT→Prop}{c B:Nat}(hf:iL Tryz.prog 5 f (fun x=>.agg (dF x)) pt ok c B)(hB:B≤50000000)(q:Nat)(vs:List Nat)(l:List FT)(hok:∀x∈l,ok x)(hl:l.length≤1000)(hb:vs.length+10+l.length*c≤B):
  SCall Tryz.prog 237 [.own q 0 vs.length,.ro 2 (l.map dF) .any,.fn (.func f) [] []] [(q,.arr 5 1 (vs.map aG))] (fun y σ=>∃r,y=.own r 0 (vs++aY l pt).length∧σ=[(r,.arr 5 1 ((vs++aY l pt).map aG))]):=by
 have hu:=bG 1 l.length (by omega);have hup:=hY l.length;have hpc:=gL hf (by omega) hok;refine bS 25 [0,1,2,6,8,13,14,15,16] Tryz.func237 ?_;refine lL ?_;refine qI ?_;refine cw [(q,.arr 5 1 (vs.map aG))] Tryz.call135 (dU q vs (by omega) l.length (by omega)) rfl aC aA ?_;rintro _ σ' ⟨r12,rfl,rfl⟩ h12;have k12:=aV h12;repeat rcases k12 with⟨_,k12⟩
 refine rM ?_;refine nR ?_;refine lp (β:=Nat×Nat) (fun b=>⟨[(0,.own b.1 0 (vs++uB l.length++(l.take b.2).flatMap pt).length),(2,.fn (.func f) [] []),(13,.ro 2 (l.map dF) .any),(14,.int .i64 l.length),(15,.int .i64 b.2)],[(b.1,.arr 5 1 ((vs++uB l.length++(l.take b.2).flatMap pt).map aG))]⟩) (fun b=>b.2≤l.length) (fun b=>l.length-b.2) (r12,0) (by dsimp only;rw[show vs++uB l.length++(l.take 0).flatMap pt=vs++uB l.length by simp];(exact aJ)) (Nat.zero_le _) ?_;rintro⟨q1,j⟩ hj;have hpj:=hpc j;have hsl:(vs++uB l.length++(l.take j).flatMap pt).length=vs.length+(uB l.length).length+((l.take j).flatMap pt).length:=by simp[Nat.add_assoc]
 dsimp only at hj⊢;refine gA ?_;refine aB rfl (fun g3=> ?_) (fun g3=> ?_)
 ·have hlt:j<l.length:=by simp at g3;omega
  obtain⟨x,hx⟩:∃x,l[j]? =some x:=⟨_,List.getElem?_eq_getElem hlt⟩
  have hnx:vs++uB l.length++(l.take (j+1)).flatMap pt=vs++uB l.length++(l.take j).flatMap pt++pt x:=by rw[List.take_add_one,hx,List.flatMap_append];simp
  refine pB ?_;refine iO fun r8 h8=> ?_;intros
  refine gT ?_;refine kQ ?_;refine kP ?_;refine pP [(q1,.arr 5 1 ((vs++uB l.length++(l.take j).flatMap pt).map aG))] rfl hf.1 (hf.2 q1 _ x (hok x (List.mem_of_getElem? hx)) (by omega) (by omega)).2 rfl aC aA ?_;rintro _ σ' ⟨r22,rfl,rfl⟩ h22;have k22:=aV h22;repeat rcases k22 with⟨_,k22⟩
  refine tJ ?_;refine⟨(r22,j+1),hlt,by show l.length-(j+1)<l.length-j;omega, ?_⟩;dsimp only;rw[hnx];exact aJ
 obtain rfl:j=l.length:=by simp at g3;omega
 refine eW ?_;rw[show vs++uB l.length++(l.take l.length).flatMap pt=vs++aY l pt by rw[List.take_length,List.append_assoc];rfl];exact aD aE ⟨q1,by rfl,rfl⟩ aA
theorem aDq{f:FuncId}{pt:FT→List Nat}{ok:FT→Prop}{c B:Nat}(hf:iL Tryz.prog 5 f (fun x=>.agg (dF x)) pt ok c B)(hB:B≤50000000)(l:List FT)(hok:∀x∈l,ok x)(hl:l.length≤1000)(hb:10+l.length*c≤B):
  SCall Tryz.prog 237 [.ro 0 [] .nil,.ro 2 (l.map dF) .any,.fn (.func f) [] []] [] (fun y σ=>∃r,y=.own r 0 (aY l pt).length∧σ=[(r,.arr 5 1 ((aY l pt).map aG))]):=
 hZ (e:=5) (sz:=1) (by decide) fun q _=>aGJ hf hB q [] l hok hl (by simpa using hb)
end Go.Proofs.YtjpdadobblffmaaGreat
namespace Go.Proofs.YtjpdadobblffmaaGreat
open Go.RowKit Go.ChangeShapes Go.WideShapes Go.ChangeAt Go.Deep
def kU (r:List Int):List AV:=[.ro 1 (r.map aK) .any]
theorem CW{f:FuncId}{pt:Int→List Nat}{ok:Int→Prop}{c B:Nat}(hf:iL Tryz.prog 5 f (fun n=>.int .i64 n) pt ok c B)(hB:B≤50000000)(q:Nat)(vs:List Nat)(l:List Int)(hok:∀x∈l,ok x)(hl:l.length≤1000)(hb:vs.length+10+l.length*c≤B):
  SCall Tryz.prog 131 [.own q 0 vs.length,.ro 1 (l.map aK) .any,.fn (.func f) [] []] [(q,.arr 5 1 (vs.map aG))] (fun y σ=>∃r,y=.own r 0 (vs++aY l pt).length∧σ=[(r,.arr 5 1 ((vs++aY l pt).map aG))]):=by
 have hu:=bG 1 l.length (by omega);have hup:=hY l.length;have hpc:=gL hf (by omega) hok;refine bS 25 [0,1,2,6,8,13,14,15,16] Tryz.func131 ?_;refine lL ?_;refine qI ?_;refine cw [(q,.arr 5 1 (vs.map aG))] Tryz.call135 (dU q vs (by omega) l.length (by omega)) rfl aC aA ?_;rintro _ σ' ⟨r12,rfl,rfl⟩ h12;have k12:=aV h12;repeat rcases k12 with⟨_,k12⟩
 refine rM ?_;refine nR ?_;refine lp (β:=Nat×Nat) (fun b=>⟨[(0,.own b.1 0 (vs++uB l.length++(l.take b.2).flatMap pt).length),(2,.fn (.func f) [] []),(13,.ro 1 (l.map aK) .any),(14,.int .i64 l.length),(15,.int .i64 b.2)],[(b.1,.arr 5 1 ((vs++uB l.length++(l.take b.2).flatMap pt).map aG))]⟩) (fun b=>b.2≤l.length) (fun b=>l.length-b.2) (r12,0) (by dsimp only;rw[show vs++uB l.length++(l.take 0).flatMap pt=vs++uB l.length by simp];(exact aJ)) (Nat.zero_le _) ?_;rintro⟨q1,j⟩ hj;have hpj:=hpc j;have hsl:(vs++uB l.length++(l.take j).flatMap pt).length=vs.length+(uB l.length).length+((l.take j).flatMap pt).length:=by simp[Nat.add_assoc]
 dsimp only at hj⊢;refine gA ?_;refine aB rfl (fun g3=> ?_) (fun g3=> ?_)
 ·have hlt:j<l.length:=by simp at g3;omega
  obtain⟨x,hx⟩:∃x,l[j]? =some x:=⟨_,List.getElem?_eq_getElem hlt⟩
  have hnx:vs++uB l.length++(l.take (j+1)).flatMap pt=vs++uB l.length++(l.take j).flatMap pt++pt x:=by rw[List.take_add_one,hx,List.flatMap_append];simp
  refine cZ ?_;refine lM ?_;refine lO ?_;refine lo (aF (E rfl)) rfl ?_;refine pP [(q1,.arr 5 1 ((vs++uB l.length++(l.take j).flatMap pt).map aG))] rfl hf.1 (hf.2 q1 _ x (hok x (List.mem_of_getElem? hx)) (by omega) (by omega)).2 rfl aC aA ?_;rintro _ σ' ⟨r22,rfl,rfl⟩ h22;have k22:=aV h22;repeat rcases k22 with⟨_,k22⟩
  refine tJ ?_;refine⟨(r22,j+1),hlt,by show l.length-(j+1)<l.length-j;omega, ?_⟩;dsimp only;rw[hnx];exact aJ
 obtain rfl:j=l.length:=by simp at g3;omega
 refine eW ?_;rw[show vs++uB l.length++(l.take l.length).flatMap pt=vs++aY l pt by rw[List.take_length,List.append_assoc];rfl];exact aD aE ⟨q1,by rfl,rfl⟩ aA
theorem aAY{f:FuncId}{pt:Int→List Nat}{ok:Int→Prop}{c B:Nat}(hf:iL Tryz.prog 5 f (fun n=>.int .i64 n) pt ok c B)(hB:B≤50000000)(l:List Int)(hok:∀x∈l,ok x)(hl:l.length≤1000)(hb:10+l.length*c≤B):
  SCall Tryz.prog 131 [.ro 0 [] .nil,.ro 1 (l.map aK) .any,.fn (.func f) [] []] [] (fun y σ=>∃r,y=.own r 0 (aY l pt).length∧σ=[(r,.arr 5 1 ((aY l pt).map aG))]):=
 hZ (e:=5) (sz:=1) (by decide) fun q _=>CW hf hB q [] l hok hl (by simpa using hb)
theorem aDr{f:FuncId}{pt:(List Int)→List Nat}{ok:(List Int)→Prop}{c B:Nat}(hf:iL Tryz.prog 5 f (fun r=>.ro 1 (r.map aK) .any) pt ok c B)(hB:B≤50000000)(q:Nat)(vs:List Nat)(l:List (List Int))(hok:∀x∈l,ok x)(hl:l.length≤1000)(hb:vs.length+10+l.length*c≤B):
  SCall Tryz.prog 246 [.own q 0 vs.length,.ro 1 (l.map kU) .any,.fn (.func f) [] []] [(q,.arr 5 1 (vs.map aG))] (fun y σ=>∃r,y=.own r 0 (vs++aY l pt).length∧σ=[(r,.arr 5 1 ((vs++aY l pt).map aG))]):=by
 have hu:=bG 1 l.length (by omega);have hup:=hY l.length;have hpc:=gL hf (by omega) hok;refine bS 25 [0,1,2,6,8,13,14,15,16] Tryz.func246 ?_;refine lL ?_;refine qI ?_;refine cw [(q,.arr 5 1 (vs.map aG))] Tryz.call135 (dU q vs (by omega) l.length (by omega)) rfl aC aA ?_;rintro _ σ' ⟨r12,rfl,rfl⟩ h12;have k12:=aV h12;repeat rcases k12 with⟨_,k12⟩
 refine rM ?_;refine nR ?_;refine lp (β:=Nat×Nat) (fun b=>⟨[(0,.own b.1 0 (vs++uB l.length++(l.take b.2).flatMap pt).length),(2,.fn (.func f) [] []),(13,.ro 1 (l.map kU) .any),(14,.int .i64 l.length),(15,.int .i64 b.2)],[(b.1,.arr 5 1 ((vs++uB l.length++(l.take b.2).flatMap pt).map aG))]⟩) (fun b=>b.2≤l.length) (fun b=>l.length-b.2) (r12,0) (by dsimp only;rw[show vs++uB l.length++(l.take 0).flatMap pt=vs++uB l.length by simp];(exact aJ)) (Nat.zero_le _) ?_;rintro⟨q1,j⟩ hj;have hpj:=hpc j;have hsl:(vs++uB l.length++(l.take j).flatMap pt).length=vs.length+(uB l.length).length+((l.take j).flatMap pt).length:=by simp[Nat.add_assoc]
 dsimp only at hj⊢;refine gA ?_;refine aB rfl (fun g3=> ?_) (fun g3=> ?_)
 ·have hlt:j<l.length:=by simp at g3;omega
  obtain⟨x,hx⟩:∃x,l[j]? =some x:=⟨_,List.getElem?_eq_getElem hlt⟩
  have hnx:vs++uB l.length++(l.take (j+1)).flatMap pt=vs++uB l.length++(l.take j).flatMap pt++pt x:=by rw[List.take_add_one,hx,List.flatMap_append];simp
  refine cZ ?_;refine lM ?_;refine lO ?_;refine lo (aF (E rfl)) rfl ?_;refine pP [(q1,.arr 5 1 ((vs++uB l.length++(l.take j).flatMap pt).map aG))] rfl hf.1 (hf.2 q1 _ x (hok x (List.mem_of_getElem? hx)) (by omega) (by omega)).2 rfl aC aA ?_;rintro _ σ' ⟨r22,rfl,rfl⟩ h22;have k22:=aV h22;repeat rcases k22 with⟨_,k22⟩
  refine tJ ?_;refine⟨(r22,j+1),hlt,by show l.length-(j+1)<l.length-j;omega, ?_⟩;dsimp only;rw[hnx];exact aJ
 obtain rfl:j=l.length:=by simp at g3;omega
 refine eW ?_;rw[show vs++uB l.length++(l.take l.length).flatMap pt=vs++aY l pt by rw[List.take_length,List.append_assoc];rfl];exact aD aE ⟨q1,by rfl,rfl⟩ aA
theorem PC{f:FuncId}{pt:(List Int)→List Nat}{ok:(List Int)→Prop}{c B:Nat}(hf:iL Tryz.prog 5 f (fun r=>.ro 1 (r.map aK) .any) pt ok c B)(hB:B≤50000000)(l:List (List Int))(hok:∀x∈l,ok x)(hl:l.length≤1000)(hb:10+l.length*c≤B):
  SCall Tryz.prog 246 [.ro 0 [] .nil,.ro 1 (l.map kU) .any,.fn (.func f) [] []] [] (fun y σ=>∃r,y=.own r 0 (aY l pt).length∧σ=[(r,.arr 5 1 ((aY l pt).map aG))]):=
 hZ (e:=5) (sz:=1) (by decide) fun q _=>aDr hf hB q [] l hok hl (by simpa using hb)
theorem aGK{f:FuncId}{pt:Im→List Nat}{ok:Im→Prop}{c B:Nat}(hf:iL Tryz.prog 5 f (fun x=>.agg (eT x)) pt ok c B)(hB:B≤50000000)(q:Nat)(vs:List Nat)(l:List Im)(hok:∀x∈l,ok x)(hl:l.length≤1000)(hb:vs.length+10+l.length*c≤B):
  SCall Tryz.prog 238 [.own q 0 vs.length,.ro 3 (l.map eT) .any,.fn (.func f) [] []] [(q,.arr 5 1 (vs.map aG))] (fun y σ=>∃r,y=.own r 0 (vs++aY l pt).length∧σ=[(r,.arr 5 1 ((vs++aY l pt).map aG))]):=by
 have hu:=bG 1 l.length (by omega);have hup:=hY l.length;have hpc:=gL hf (by omega) hok;refine bS 25 [0,1,2,6,8,13,14,15,16] Tryz.func238 ?_;refine lL ?_;refine qI ?_;refine cw [(q,.arr 5 1 (vs.map aG))] Tryz.call135 (dU q vs (by omega) l.length (by omega)) rfl aC aA ?_;rintro _ σ' ⟨r12,rfl,rfl⟩ h12;have k12:=aV h12;repeat rcases k12 with⟨_,k12⟩
 refine rM ?_;refine nR ?_;refine lp (β:=Nat×Nat) (fun b=>⟨[(0,.own b.1 0 (vs++uB l.length++(l.take b.2).flatMap pt).length),(2,.fn (.func f) [] []),(13,.ro 3 (l.map eT) .any),(14,.int .i64 l.length),(15,.int .i64 b.2)],[(b.1,.arr 5 1 ((vs++uB l.length++(l.take b.2).flatMap pt).map aG))]⟩) (fun b=>b.2≤l.length) (fun b=>l.length-b.2) (r12,0) (by dsimp only;rw[show vs++uB l.length++(l.take 0).flatMap pt=vs++uB l.length by simp];(exact aJ)) (Nat.zero_le _) ?_;rintro⟨q1,j⟩ hj;have hpj:=hpc j;have hsl:(vs++uB l.length++(l.take j).flatMap pt).length=vs.length+(uB l.length).length+((l.take j).flatMap pt).length:=by simp[Nat.add_assoc]
 dsimp only at hj⊢;refine gA ?_;refine aB rfl (fun g3=> ?_) (fun g3=> ?_)
 ·have hlt:j<l.length:=by simp at g3;omega
  obtain⟨x,hx⟩:∃x,l[j]? =some x:=⟨_,List.getElem?_eq_getElem hlt⟩
  have hnx:vs++uB l.length++(l.take (j+1)).flatMap pt=vs++uB l.length++(l.take j).flatMap pt++pt x:=by rw[List.take_add_one,hx,List.flatMap_append];simp
  refine pB ?_;refine iO fun r8 h8=> ?_;intros
  refine gT ?_;refine kQ ?_;refine kP ?_;refine pP [(q1,.arr 5 1 ((vs++uB l.length++(l.take j).flatMap pt).map aG))] rfl hf.1 (hf.2 q1 _ x (hok x (List.mem_of_getElem? hx)) (by omega) (by omega)).2 rfl aC aA ?_;rintro _ σ' ⟨r22,rfl,rfl⟩ h22;have k22:=aV h22;repeat rcases k22 with⟨_,k22⟩
  refine tJ ?_;refine⟨(r22,j+1),hlt,by show l.length-(j+1)<l.length-j;omega, ?_⟩;dsimp only;rw[hnx];exact aJ
 obtain rfl:j=l.length:=by simp at g3;omega
 refine eW ?_;rw[show vs++uB l.length++(l.take l.length).flatMap pt=vs++aY l pt by rw[List.take_length,List.append_assoc];rfl];exact aD aE ⟨q1,by rfl,rfl⟩ aA
theorem aDs{f:FuncId}{pt:Im→List Nat}{ok:Im→Prop}{c B:Nat}(hf:iL Tryz.prog 5 f (fun x=>.agg (eT x)) pt ok c B)(hB:B≤50000000)(l:List Im)(hok:∀x∈l,ok x)(hl:l.length≤1000)(hb:10+l.length*c≤B):
  SCall Tryz.prog 238 [.ro 0 [] .nil,.ro 3 (l.map eT) .any,.fn (.func f) [] []] [] (fun y σ=>∃r,y=.own r 0 (aY l pt).length∧σ=[(r,.arr 5 1 ((aY l pt).map aG))]):=
 hZ (e:=5) (sz:=1) (by decide) fun q _=>aGK hf hB q [] l hok hl (by simpa using hb)
theorem aGL{f:FuncId}{pt:Li→List Nat}{ok:Li→Prop}{c B:Nat}(hf:iL Tryz.prog 5 f (fun x=>.agg (gO x)) pt ok c B)(hB:B≤50000000)(q:Nat)(vs:List Nat)(l:List Li)(hok:∀x∈l,ok x)(hl:l.length≤1000)(hb:vs.length+10+l.length*c≤B):
  SCall Tryz.prog 240 [.own q 0 vs.length,.ro 3 (l.map gO) .any,.fn (.func f) [] []] [(q,.arr 5 1 (vs.map aG))] (fun y σ=>∃r,y=.own r 0 (vs++aY l pt).length∧σ=[(r,.arr 5 1 ((vs++aY l pt).map aG))]):=by
 have hu:=bG 1 l.length (by omega);have hup:=hY l.length;have hpc:=gL hf (by omega) hok;refine bS 25 [0,1,2,6,8,13,14,15,16] Tryz.func240 ?_;refine lL ?_;refine qI ?_;refine cw [(q,.arr 5 1 (vs.map aG))] Tryz.call135 (dU q vs (by omega) l.length (by omega)) rfl aC aA ?_;rintro _ σ' ⟨r12,rfl,rfl⟩ h12;have k12:=aV h12;repeat rcases k12 with⟨_,k12⟩
 refine rM ?_;refine nR ?_;refine lp (β:=Nat×Nat) (fun b=>⟨[(0,.own b.1 0 (vs++uB l.length++(l.take b.2).flatMap pt).length),(2,.fn (.func f) [] []),(13,.ro 3 (l.map gO) .any),(14,.int .i64 l.length),(15,.int .i64 b.2)],[(b.1,.arr 5 1 ((vs++uB l.length++(l.take b.2).flatMap pt).map aG))]⟩) (fun b=>b.2≤l.length) (fun b=>l.length-b.2) (r12,0) (by dsimp only;rw[show vs++uB l.length++(l.take 0).flatMap pt=vs++uB l.length by simp];(exact aJ)) (Nat.zero_le _) ?_;rintro⟨q1,j⟩ hj;have hpj:=hpc j;have hsl:(vs++uB l.length++(l.take j).flatMap pt).length=vs.length+(uB l.length).length+((l.take j).flatMap pt).length:=by simp[Nat.add_assoc]
 dsimp only at hj⊢;refine gA ?_;refine aB rfl (fun g3=> ?_) (fun g3=> ?_)
 ·have hlt:j<l.length:=by simp at g3;omega
  obtain⟨x,hx⟩:∃x,l[j]? =some x:=⟨_,List.getElem?_eq_getElem hlt⟩
  have hnx:vs++uB l.length++(l.take (j+1)).flatMap pt=vs++uB l.length++(l.take j).flatMap pt++pt x:=by rw[List.take_add_one,hx,List.flatMap_append];simp
  refine pB ?_;refine iO fun r8 h8=> ?_;intros
  refine gT ?_;refine kQ ?_;refine kP ?_;refine pP [(q1,.arr 5 1 ((vs++uB l.length++(l.take j).flatMap pt).map aG))] rfl hf.1 (hf.2 q1 _ x (hok x (List.mem_of_getElem? hx)) (by omega) (by omega)).2 rfl aC aA ?_;rintro _ σ' ⟨r22,rfl,rfl⟩ h22;have k22:=aV h22;repeat rcases k22 with⟨_,k22⟩
  refine tJ ?_;refine⟨(r22,j+1),hlt,by show l.length-(j+1)<l.length-j;omega, ?_⟩;dsimp only;rw[hnx];exact aJ
 obtain rfl:j=l.length:=by simp at g3;omega
 refine eW ?_;rw[show vs++uB l.length++(l.take l.length).flatMap pt=vs++aY l pt by rw[List.take_length,List.append_assoc];rfl];exact aD aE ⟨q1,by rfl,rfl⟩ aA
theorem aDt{f:FuncId}{pt:Li→List Nat}{ok:Li→Prop}{c B:Nat}(hf:iL Tryz.prog 5 f (fun x=>.agg (gO x)) pt ok c B)(hB:B≤50000000)(l:List Li)(hok:∀x∈l,ok x)(hl:l.length≤1000)(hb:10+l.length*c≤B):
  SCall Tryz.prog 240 [.ro 0 [] .nil,.ro 3 (l.map gO) .any,.fn (.func f) [] []] [] (fun y σ=>∃r,y=.own r 0 (aY l pt).length∧σ=[(r,.arr 5 1 ((aY l pt).map aG))]):=
 hZ (e:=5) (sz:=1) (by decide) fun q _=>aGL hf hB q [] l hok hl (by simpa using hb)
theorem aGM{f:FuncId}{pt:Gl→List Nat}{ok:Gl→Prop}{c B:Nat}(hf:iL Tryz.prog 5 f (fun x=>.agg (eU x)) pt ok c B)(hB:B≤50000000)(q:Nat)(vs:List Nat)(l:List Gl)(hok:∀x∈l,ok x)(hl:l.length≤1000)(hb:vs.length+10+l.length*c≤B):
  SCall Tryz.prog 241 [.own q 0 vs.length,.ro 3 (l.map eU) .any,.fn (.func f) [] []] [(q,.arr 5 1 (vs.map aG))] (fun y σ=>∃r,y=.own r 0 (vs++aY l pt).length∧σ=[(r,.arr 5 1 ((vs++aY l pt).map aG))]):=by
 have hu:=bG 1 l.length (by omega);have hup:=hY l.length;have hpc:=gL hf (by omega) hok;refine bS 25 [0,1,2,6,8,13,14,15,16] Tryz.func241 ?_;refine lL ?_;refine qI ?_;refine cw [(q,.arr 5 1 (vs.map aG))] Tryz.call135 (dU q vs (by omega) l.length (by omega)) rfl aC aA ?_;rintro _ σ' ⟨r12,rfl,rfl⟩ h12;have k12:=aV h12;repeat rcases k12 with⟨_,k12⟩
 refine rM ?_;refine nR ?_;refine lp (β:=Nat×Nat) (fun b=>⟨[(0,.own b.1 0 (vs++uB l.length++(l.take b.2).flatMap pt).length),(2,.fn (.func f) [] []),(13,.ro 3 (l.map eU) .any),(14,.int .i64 l.length),(15,.int .i64 b.2)],[(b.1,.arr 5 1 ((vs++uB l.length++(l.take b.2).flatMap pt).map aG))]⟩) (fun b=>b.2≤l.length) (fun b=>l.length-b.2) (r12,0) (by dsimp only;rw[show vs++uB l.length++(l.take 0).flatMap pt=vs++uB l.length by simp];(exact aJ)) (Nat.zero_le _) ?_;rintro⟨q1,j⟩ hj;have hpj:=hpc j;have hsl:(vs++uB l.length++(l.take j).flatMap pt).length=vs.length+(uB l.length).length+((l.take j).flatMap pt).length:=by simp[Nat.add_assoc]
 dsimp only at hj⊢;refine gA ?_;refine aB rfl (fun g3=> ?_) (fun g3=> ?_)
 ·have hlt:j<l.length:=by simp at g3;omega
  obtain⟨x,hx⟩:∃x,l[j]? =some x:=⟨_,List.getElem?_eq_getElem hlt⟩
  have hnx:vs++uB l.length++(l.take (j+1)).flatMap pt=vs++uB l.length++(l.take j).flatMap pt++pt x:=by rw[List.take_add_one,hx,List.flatMap_append];simp
  refine pB ?_;refine iO fun r8 h8=> ?_;intros
  refine gT ?_;refine kQ ?_;refine kP ?_;refine pP [(q1,.arr 5 1 ((vs++uB l.length++(l.take j).flatMap pt).map aG))] rfl hf.1 (hf.2 q1 _ x (hok x (List.mem_of_getElem? hx)) (by omega) (by omega)).2 rfl aC aA ?_;rintro _ σ' ⟨r22,rfl,rfl⟩ h22;have k22:=aV h22;repeat rcases k22 with⟨_,k22⟩
  refine tJ ?_;refine⟨(r22,j+1),hlt,by show l.length-(j+1)<l.length-j;omega, ?_⟩;dsimp only;rw[hnx];exact aJ
 obtain rfl:j=l.length:=by simp at g3;omega
 refine eW ?_;rw[show vs++uB l.length++(l.take l.length).flatMap pt=vs++aY l pt by rw[List.take_length,List.append_assoc];rfl];exact aD aE ⟨q1,by rfl,rfl⟩ aA
theorem aDu{f:FuncId}{pt:Gl→List Nat}{ok:Gl→Prop}{c B:Nat}(hf:iL Tryz.prog 5 f (fun x=>.agg (eU x)) pt ok c B)(hB:B≤50000000)(l:List Gl)(hok:∀x∈l,ok x)(hl:l.length≤1000)(hb:10+l.length*c≤B):
  SCall Tryz.prog 241 [.ro 0 [] .nil,.ro 3 (l.map eU) .any,.fn (.func f) [] []] [] (fun y σ=>∃r,y=.own r 0 (aY l pt).length∧σ=[(r,.arr 5 1 ((aY l pt).map aG))]):=
 hZ (e:=5) (sz:=1) (by decide) fun q _=>aGM hf hB q [] l hok hl (by simpa using hb)
theorem aGN{f:FuncId}{pt:Ex→List Nat}{ok:Ex→Prop}{c B:Nat}(hf:iL Tryz.prog 5 f (fun x=>.agg (eA x)) pt ok c B)(hB:B≤50000000)(q:Nat)(vs:List Nat)(l:List Ex)(hok:∀x∈l,ok x)(hl:l.length≤1000)(hb:vs.length+10+l.length*c≤B):
  SCall Tryz.prog 243 [.own q 0 vs.length,.ro 2 (l.map eA) .any,.fn (.func f) [] []] [(q,.arr 5 1 (vs.map aG))] (fun y σ=>∃r,y=.own r 0 (vs++aY l pt).length∧σ=[(r,.arr 5 1 ((vs++aY l pt).map aG))]):=by
 have hu:=bG 1 l.length (by omega);have hup:=hY l.length;have hpc:=gL hf (by omega) hok;refine bS 25 [0,1,2,6,8,13,14,15,16] Tryz.func243 ?_;refine lL ?_;refine qI ?_;refine cw [(q,.arr 5 1 (vs.map aG))] Tryz.call135 (dU q vs (by omega) l.length (by omega)) rfl aC aA ?_;rintro _ σ' ⟨r12,rfl,rfl⟩ h12;have k12:=aV h12;repeat rcases k12 with⟨_,k12⟩
 refine rM ?_;refine nR ?_;refine lp (β:=Nat×Nat) (fun b=>⟨[(0,.own b.1 0 (vs++uB l.length++(l.take b.2).flatMap pt).length),(2,.fn (.func f) [] []),(13,.ro 2 (l.map eA) .any),(14,.int .i64 l.length),(15,.int .i64 b.2)],[(b.1,.arr 5 1 ((vs++uB l.length++(l.take b.2).flatMap pt).map aG))]⟩) (fun b=>b.2≤l.length) (fun b=>l.length-b.2) (r12,0) (by dsimp only;rw[show vs++uB l.length++(l.take 0).flatMap pt=vs++uB l.length by simp];(exact aJ)) (Nat.zero_le _) ?_;rintro⟨q1,j⟩ hj;have hpj:=hpc j;have hsl:(vs++uB l.length++(l.take j).flatMap pt).length=vs.length+(uB l.length).length+((l.take j).flatMap pt).length:=by simp[Nat.add_assoc]
 dsimp only at hj⊢;refine gA ?_;refine aB rfl (fun g3=> ?_) (fun g3=> ?_)
 ·have hlt:j<l.length:=by simp at g3;omega
  obtain⟨x,hx⟩:∃x,l[j]? =some x:=⟨_,List.getElem?_eq_getElem hlt⟩
  have hnx:vs++uB l.length++(l.take (j+1)).flatMap pt=vs++uB l.length++(l.take j).flatMap pt++pt x:=by rw[List.take_add_one,hx,List.flatMap_append];simp
  refine pB ?_;refine iO fun r8 h8=> ?_;intros
  refine gT ?_;refine kQ ?_;refine kP ?_;refine pP [(q1,.arr 5 1 ((vs++uB l.length++(l.take j).flatMap pt).map aG))] rfl hf.1 (hf.2 q1 _ x (hok x (List.mem_of_getElem? hx)) (by omega) (by omega)).2 rfl aC aA ?_;rintro _ σ' ⟨r22,rfl,rfl⟩ h22;have k22:=aV h22;repeat rcases k22 with⟨_,k22⟩
  refine tJ ?_;refine⟨(r22,j+1),hlt,by show l.length-(j+1)<l.length-j;omega, ?_⟩;dsimp only;rw[hnx];exact aJ
 obtain rfl:j=l.length:=by simp at g3;omega
 refine eW ?_;rw[show vs++uB l.length++(l.take l.length).flatMap pt=vs++aY l pt by rw[List.take_length,List.append_assoc];rfl];exact aD aE ⟨q1,by rfl,rfl⟩ aA
theorem aDv{f:FuncId}{pt:Ex→List Nat}{ok:Ex→Prop}{c B:Nat}(hf:iL Tryz.prog 5 f (fun x=>.agg (eA x)) pt ok c B)(hB:B≤50000000)(l:List Ex)(hok:∀x∈l,ok x)(hl:l.length≤1000)(hb:10+l.length*c≤B):
  SCall Tryz.prog 243 [.ro 0 [] .nil,.ro 2 (l.map eA) .any,.fn (.func f) [] []] [] (fun y σ=>∃r,y=.own r 0 (aY l pt).length∧σ=[(r,.arr 5 1 ((aY l pt).map aG))]):=
 hZ (e:=5) (sz:=1) (by decide) fun q _=>aGN hf hB q [] l hok hl (by simpa using hb)
theorem aGO{f:FuncId}{pt:El→List Nat}{ok:El→Prop}{c B:Nat}(hf:iL Tryz.prog 5 f (fun x=>.agg (eQ x)) pt ok c B)(hB:B≤50000000)(q:Nat)(vs:List Nat)(l:List El)(hok:∀x∈l,ok x)(hl:l.length≤1000)(hb:vs.length+10+l.length*c≤B):
  SCall Tryz.prog 244 [.own q 0 vs.length,.ro 2 (l.map eQ) .any,.fn (.func f) [] []] [(q,.arr 5 1 (vs.map aG))] (fun y σ=>∃r,y=.own r 0 (vs++aY l pt).length∧σ=[(r,.arr 5 1 ((vs++aY l pt).map aG))]):=by
 have hu:=bG 1 l.length (by omega);have hup:=hY l.length;have hpc:=gL hf (by omega) hok;refine bS 25 [0,1,2,6,8,13,14,15,16] Tryz.func244 ?_;refine lL ?_;refine qI ?_;refine cw [(q,.arr 5 1 (vs.map aG))] Tryz.call135 (dU q vs (by omega) l.length (by omega)) rfl aC aA ?_;rintro _ σ' ⟨r12,rfl,rfl⟩ h12;have k12:=aV h12;repeat rcases k12 with⟨_,k12⟩
 refine rM ?_;refine nR ?_;refine lp (β:=Nat×Nat) (fun b=>⟨[(0,.own b.1 0 (vs++uB l.length++(l.take b.2).flatMap pt).length),(2,.fn (.func f) [] []),(13,.ro 2 (l.map eQ) .any),(14,.int .i64 l.length),(15,.int .i64 b.2)],[(b.1,.arr 5 1 ((vs++uB l.length++(l.take b.2).flatMap pt).map aG))]⟩) (fun b=>b.2≤l.length) (fun b=>l.length-b.2) (r12,0) (by dsimp only;rw[show vs++uB l.length++(l.take 0).flatMap pt=vs++uB l.length by simp];(exact aJ)) (Nat.zero_le _) ?_;rintro⟨q1,j⟩ hj;have hpj:=hpc j;have hsl:(vs++uB l.length++(l.take j).flatMap pt).length=vs.length+(uB l.length).length+((l.take j).flatMap pt).length:=by simp[Nat.add_assoc]
 dsimp only at hj⊢;refine gA ?_;refine aB rfl (fun g3=> ?_) (fun g3=> ?_)
 ·have hlt:j<l.length:=by simp at g3;omega
  obtain⟨x,hx⟩:∃x,l[j]? =some x:=⟨_,List.getElem?_eq_getElem hlt⟩
  have hnx:vs++uB l.length++(l.take (j+1)).flatMap pt=vs++uB l.length++(l.take j).flatMap pt++pt x:=by rw[List.take_add_one,hx,List.flatMap_append];simp
  refine pB ?_;refine iO fun r8 h8=> ?_;intros
  refine gT ?_;refine kQ ?_;refine kP ?_;refine pP [(q1,.arr 5 1 ((vs++uB l.length++(l.take j).flatMap pt).map aG))] rfl hf.1 (hf.2 q1 _ x (hok x (List.mem_of_getElem? hx)) (by omega) (by omega)).2 rfl aC aA ?_;rintro _ σ' ⟨r22,rfl,rfl⟩ h22;have k22:=aV h22;repeat rcases k22 with⟨_,k22⟩
  refine tJ ?_;refine⟨(r22,j+1),hlt,by show l.length-(j+1)<l.length-j;omega, ?_⟩;dsimp only;rw[hnx];exact aJ
 obtain rfl:j=l.length:=by simp at g3;omega
 refine eW ?_;rw[show vs++uB l.length++(l.take l.length).flatMap pt=vs++aY l pt by rw[List.take_length,List.append_assoc];rfl];exact aD aE ⟨q1,by rfl,rfl⟩ aA
theorem aDw{f:FuncId}{pt:El→List Nat}{ok:El→Prop}{c B:Nat}(hf:iL Tryz.prog 5 f (fun x=>.agg (eQ x)) pt ok c B)(hB:B≤50000000)(l:List El)(hok:∀x∈l,ok x)(hl:l.length≤1000)(hb:10+l.length*c≤B):
  SCall Tryz.prog 244 [.ro 0 [] .nil,.ro 2 (l.map eQ) .any,.fn (.func f) [] []] [] (fun y σ=>∃r,y=.own r 0 (aY l pt).length∧σ=[(r,.arr 5 1 ((aY l pt).map aG))]):=
 hZ (e:=5) (sz:=1) (by decide) fun q _=>aGO hf hB q [] l hok hl (by simpa using hb)
theorem aGP{f:FuncId}{pt:Co→List Nat}{ok:Co→Prop}{c B:Nat}(hf:iL Tryz.prog 5 f (fun x=>.agg (dJ x)) pt ok c B)(hB:B≤50000000)(q:Nat)(vs:List Nat)(l:List Co)(hok:∀x∈l,ok x)(hl:l.length≤1000)(hb:vs.length+10+l.length*c≤B):
  SCall Tryz.prog 245 [.own q 0 vs.length,.ro 2 (l.map dJ) .any,.fn (.func f) [] []] [(q,.arr 5 1 (vs.map aG))] (fun y σ=>∃r,y=.own r 0 (vs++aY l pt).length∧σ=[(r,.arr 5 1 ((vs++aY l pt).map aG))]):=by
 have hu:=bG 1 l.length (by omega);have hup:=hY l.length;have hpc:=gL hf (by omega) hok;refine bS 25 [0,1,2,6,8,13,14,15,16] Tryz.func245 ?_;refine lL ?_;refine qI ?_;refine cw [(q,.arr 5 1 (vs.map aG))] Tryz.call135 (dU q vs (by omega) l.length (by omega)) rfl aC aA ?_;rintro _ σ' ⟨r12,rfl,rfl⟩ h12;have k12:=aV h12;repeat rcases k12 with⟨_,k12⟩
 refine rM ?_;refine nR ?_;refine lp (β:=Nat×Nat) (fun b=>⟨[(0,.own b.1 0 (vs++uB l.length++(l.take b.2).flatMap pt).length),(2,.fn (.func f) [] []),(13,.ro 2 (l.map dJ) .any),(14,.int .i64 l.length),(15,.int .i64 b.2)],[(b.1,.arr 5 1 ((vs++uB l.length++(l.take b.2).flatMap pt).map aG))]⟩) (fun b=>b.2≤l.length) (fun b=>l.length-b.2) (r12,0) (by dsimp only;rw[show vs++uB l.length++(l.take 0).flatMap pt=vs++uB l.length by simp];(exact aJ)) (Nat.zero_le _) ?_;rintro⟨q1,j⟩ hj;have hpj:=hpc j;have hsl:(vs++uB l.length++(l.take j).flatMap pt).length=vs.length+(uB l.length).length+((l.take j).flatMap pt).length:=by simp[Nat.add_assoc]
 dsimp only at hj⊢;refine gA ?_;refine aB rfl (fun g3=> ?_) (fun g3=> ?_)
 ·have hlt:j<l.length:=by simp at g3;omega
  obtain⟨x,hx⟩:∃x,l[j]? =some x:=⟨_,List.getElem?_eq_getElem hlt⟩
  have hnx:vs++uB l.length++(l.take (j+1)).flatMap pt=vs++uB l.length++(l.take j).flatMap pt++pt x:=by rw[List.take_add_one,hx,List.flatMap_append];simp
  refine pB ?_;refine iO fun r8 h8=> ?_;intros
  refine gT ?_;refine kQ ?_;refine kP ?_;refine pP [(q1,.arr 5 1 ((vs++uB l.length++(l.take j).flatMap pt).map aG))] rfl hf.1 (hf.2 q1 _ x (hok x (List.mem_of_getElem? hx)) (by omega) (by omega)).2 rfl aC aA ?_;rintro _ σ' ⟨r22,rfl,rfl⟩ h22;have k22:=aV h22;repeat rcases k22 with⟨_,k22⟩
  refine tJ ?_;refine⟨(r22,j+1),hlt,by show l.length-(j+1)<l.length-j;omega, ?_⟩;dsimp only;rw[hnx];exact aJ
 obtain rfl:j=l.length:=by simp at g3;omega
 refine eW ?_;rw[show vs++uB l.length++(l.take l.length).flatMap pt=vs++aY l pt by rw[List.take_length,List.append_assoc];rfl];exact aD aE ⟨q1,by rfl,rfl⟩ aA
theorem aDx{f:FuncId}{pt:Co→List Nat}{ok:Co→Prop}{c B:Nat}(hf:iL Tryz.prog 5 f (fun x=>.agg (dJ x)) pt ok c B)(hB:B≤50000000)(l:List Co)(hok:∀x∈l,ok x)(hl:l.length≤1000)(hb:10+l.length*c≤B):
  SCall Tryz.prog 245 [.ro 0 [] .nil,.ro 2 (l.map dJ) .any,.fn (.func f) [] []] [] (fun y σ=>∃r,y=.own r 0 (aY l pt).length∧σ=[(r,.arr 5 1 ((aY l pt).map aG))]):=
 hZ (e:=5) (sz:=1) (by decide) fun q _=>aGP hf hB q [] l hok hl (by simpa using hb)
theorem aGQ{f:FuncId}{pt:Da→List Nat}{ok:Da→Prop}{c B:Nat}(hf:iL Tryz.prog 5 f (fun x=>.agg (eO x)) pt ok c B)(hB:B≤50000000)(q:Nat)(vs:List Nat)(l:List Da)(hok:∀x∈l,ok x)(hl:l.length≤1000)(hb:vs.length+10+l.length*c≤B):
  SCall Tryz.prog 249 [.own q 0 vs.length,.ro 2 (l.map eO) .any,.fn (.func f) [] []] [(q,.arr 5 1 (vs.map aG))] (fun y σ=>∃r,y=.own r 0 (vs++aY l pt).length∧σ=[(r,.arr 5 1 ((vs++aY l pt).map aG))]):=by
 have hu:=bG 1 l.length (by omega);have hup:=hY l.length;have hpc:=gL hf (by omega) hok;refine bS 25 [0,1,2,6,8,13,14,15,16] Tryz.func249 ?_;refine lL ?_;refine qI ?_;refine cw [(q,.arr 5 1 (vs.map aG))] Tryz.call135 (dU q vs (by omega) l.length (by omega)) rfl aC aA ?_;rintro _ σ' ⟨r12,rfl,rfl⟩ h12;have k12:=aV h12;repeat rcases k12 with⟨_,k12⟩
 refine rM ?_;refine nR ?_;refine lp (β:=Nat×Nat) (fun b=>⟨[(0,.own b.1 0 (vs++uB l.length++(l.take b.2).flatMap pt).length),(2,.fn (.func f) [] []),(13,.ro 2 (l.map eO) .any),(14,.int .i64 l.length),(15,.int .i64 b.2)],[(b.1,.arr 5 1 ((vs++uB l.length++(l.take b.2).flatMap pt).map aG))]⟩) (fun b=>b.2≤l.length) (fun b=>l.length-b.2) (r12,0) (by dsimp only;rw[show vs++uB l.length++(l.take 0).flatMap pt=vs++uB l.length by simp];(exact aJ)) (Nat.zero_le _) ?_;rintro⟨q1,j⟩ hj;have hpj:=hpc j;have hsl:(vs++uB l.length++(l.take j).flatMap pt).length=vs.length+(uB l.length).length+((l.take j).flatMap pt).length:=by simp[Nat.add_assoc]
 dsimp only at hj⊢;refine gA ?_;refine aB rfl (fun g3=> ?_) (fun g3=> ?_)
 ·have hlt:j<l.length:=by simp at g3;omega
  obtain⟨x,hx⟩:∃x,l[j]? =some x:=⟨_,List.getElem?_eq_getElem hlt⟩
  have hnx:vs++uB l.length++(l.take (j+1)).flatMap pt=vs++uB l.length++(l.take j).flatMap pt++pt x:=by rw[List.take_add_one,hx,List.flatMap_append];simp
  refine pB ?_;refine iO fun r8 h8=> ?_;intros
  refine gT ?_;refine kQ ?_;refine kP ?_;refine pP [(q1,.arr 5 1 ((vs++uB l.length++(l.take j).flatMap pt).map aG))] rfl hf.1 (hf.2 q1 _ x (hok x (List.mem_of_getElem? hx)) (by omega) (by omega)).2 rfl aC aA ?_;rintro _ σ' ⟨r22,rfl,rfl⟩ h22;have k22:=aV h22;repeat rcases k22 with⟨_,k22⟩
  refine tJ ?_;refine⟨(r22,j+1),hlt,by show l.length-(j+1)<l.length-j;omega, ?_⟩;dsimp only;rw[hnx];exact aJ
 obtain rfl:j=l.length:=by simp at g3;omega
 refine eW ?_;rw[show vs++uB l.length++(l.take l.length).flatMap pt=vs++aY l pt by rw[List.take_length,List.append_assoc];rfl];exact aD aE ⟨q1,by rfl,rfl⟩ aA
theorem aDy{f:FuncId}{pt:Da→List Nat}{ok:Da→Prop}{c B:Nat}(hf:iL Tryz.prog 5 f (fun x=>.agg (eO x)) pt ok c B)(hB:B≤50000000)(l:List Da)(hok:∀x∈l,ok x)(hl:l.length≤1000)(hb:10+l.length*c≤B):
  SCall Tryz.prog 249 [.ro 0 [] .nil,.ro 2 (l.map eO) .any,.fn (.func f) [] []] [] (fun y σ=>∃r,y=.own r 0 (aY l pt).length∧σ=[(r,.arr 5 1 ((aY l pt).map aG))]):=
 hZ (e:=5) (sz:=1) (by decide) fun q _=>aGQ hf hB q [] l hok hl (by simpa using hb)
theorem aGR{f:FuncId}{pt:FT→List Nat}{ok:FT→Prop}{c B:Nat}(hf:iL Tryz.prog 5 f (fun x=>.agg (dF x)) pt ok c B)(hB:B≤50000000)(q:Nat)(vs:List Nat)(no:Nat)(hno:no<256)(l:List FT)(hok:∀x∈l,ok x)(hl:l.length≤1000)(hvs:vs.length≤10000000)(hb:10+l.length*c≤B):
  SCall Tryz.prog 129 [.own q 0 vs.length,.int .i64 no,.ro 2 (l.map dF) .any,.fn (.func f) [] []] [(q,.arr 5 1 (vs.map aG))] (fun y σ=>∃r,y=.own r 0 (vs++bB no l pt).length∧σ=[(r,.arr 5 1 ((vs++bB no l pt).map aG))]):=by
 have hu:=bG 1 l.length (by omega);have hup:=hY l.length;have hpc:=gL hf (by omega) hok l.length;rw[List.take_length]at hpc;have hvl:(aY l pt).length≤50000000:=by unfold aY;simp only[List.length_append];omega
 have hub:=bG 4 (aY l pt).length (by omega);refine bS 27 [0,1,2,3,8,9,12] Tryz.func129 ?_;refine eX ?_;refine rL ?_;refine aB rfl (fun g1=> ?_) (fun g1=> ?_)
 ·obtain rfl:l=[]:=by cases l with|nil=>rfl|cons x t=>simp at g1;omega
  refine eW ?_;rw[show vs++bB no ([]:List FT) pt=vs by simp[bB]];exact aD aE ⟨q,by rfl,rfl⟩ aA
 have hs:bB no l pt=[no]++uB (aY l pt).length++aY l pt:=by unfold bB;rw[if_neg (by intro e;rw[List.isEmpty_iff.1 e]at g1;simp at g1)];simp
 rw[hs];refine dG ?_;refine cw [] Tryz.call237 (aDq hf hB l hok hl hb) rfl aC aA ?_;rintro _ σ' ⟨r16,rfl,rfl⟩ h16
 replace h16:=fY h16;repeat rcases h16 with⟨_,h16⟩
 refine eY ?_;generalize aY l pt=P at hvl hub⊢;refine kQ ?_;refine z0 ?_;refine eC fun r20 h20=> ?_;intros
 refine jQ ((vs++ [no]).map aG) (vs++ [no]).length ?_;refine bE fun r21 h21=> ?_;intros
 refine CH ?_;refine cw [(r21,.arr 5 1 ((vs++ [no]).map aG))] Tryz.call135 (dU r21 (vs++ [no]) (by simp;omega) P.length (by omega)) rfl aC aA ?_;rintro _ σ' ⟨r24,rfl,rfl⟩ h24;have k24:=aV h24;repeat rcases k24 with⟨_,k24⟩
 refine xQ ?_;refine jQ ((vs++ [no]++uB P.length++P).map aG) (vs++ [no]++uB P.length++P).length ?_;refine bE fun r26 h26=> ?_;intros
 refine cM ?_;rw[show vs++ [no]++uB P.length++P=vs++([no]++uB P.length++P) by simp];exact aD aE ⟨r26,by rfl,rfl⟩ aA
theorem aDz{f:FuncId}{pt:Int→List Nat}{ok:Int→Prop}{c B:Nat}(hf:iL Tryz.prog 5 f (fun n=>.int .i64 n) pt ok c B)(hB:B≤50000000)(q:Nat)(vs:List Nat)(no:Nat)(hno:no<256)(l:List Int)(hok:∀x∈l,ok x)(hl:l.length≤1000)(hvs:vs.length≤10000000)(hb:10+l.length*c≤B):
  SCall Tryz.prog 137 [.own q 0 vs.length,.int .i64 no,.ro 1 (l.map aK) .any,.fn (.func f) [] []] [(q,.arr 5 1 (vs.map aG))] (fun y σ=>∃r,y=.own r 0 (vs++bB no l pt).length∧σ=[(r,.arr 5 1 ((vs++bB no l pt).map aG))]):=by
 have hu:=bG 1 l.length (by omega);have hup:=hY l.length;have hpc:=gL hf (by omega) hok l.length;rw[List.take_length]at hpc;have hvl:(aY l pt).length≤50000000:=by unfold aY;simp only[List.length_append];omega
 have hub:=bG 4 (aY l pt).length (by omega);refine bS 27 [0,1,2,3,8,9,12] Tryz.func137 ?_;refine eX ?_;refine rL ?_;refine aB rfl (fun g1=> ?_) (fun g1=> ?_)
 ·obtain rfl:l=[]:=by cases l with|nil=>rfl|cons x t=>simp at g1;omega
  refine eW ?_;rw[show vs++bB no ([]:List Int) pt=vs by simp[bB]];exact aD aE ⟨q,by rfl,rfl⟩ aA
 have hs:bB no l pt=[no]++uB (aY l pt).length++aY l pt:=by unfold bB;rw[if_neg (by intro e;rw[List.isEmpty_iff.1 e]at g1;simp at g1)];simp
 rw[hs];refine dG ?_;refine cw [] Tryz.call131 (aAY hf hB l hok hl hb) rfl aC aA ?_;rintro _ σ' ⟨r16,rfl,rfl⟩ h16
 replace h16:=fY h16;repeat rcases h16 with⟨_,h16⟩
 refine eY ?_;generalize aY l pt=P at hvl hub⊢;refine kQ ?_;refine z0 ?_;refine eC fun r20 h20=> ?_;intros
 refine jQ ((vs++ [no]).map aG) (vs++ [no]).length ?_;refine bE fun r21 h21=> ?_;intros
 refine CH ?_;refine cw [(r21,.arr 5 1 ((vs++ [no]).map aG))] Tryz.call135 (dU r21 (vs++ [no]) (by simp;omega) P.length (by omega)) rfl aC aA ?_;rintro _ σ' ⟨r24,rfl,rfl⟩ h24;have k24:=aV h24;repeat rcases k24 with⟨_,k24⟩
 refine xQ ?_;refine jQ ((vs++ [no]++uB P.length++P).map aG) (vs++ [no]++uB P.length++P).length ?_;refine bE fun r26 h26=> ?_;intros
 refine cM ?_;rw[show vs++ [no]++uB P.length++P=vs++([no]++uB P.length++P) by simp];exact aD aE ⟨r26,by rfl,rfl⟩ aA
theorem aGS{f:FuncId}{pt:Im→List Nat}{ok:Im→Prop}{c B:Nat}(hf:iL Tryz.prog 5 f (fun x=>.agg (eT x)) pt ok c B)(hB:B≤50000000)(q:Nat)(vs:List Nat)(no:Nat)(hno:no<256)(l:List Im)(hok:∀x∈l,ok x)(hl:l.length≤1000)(hvs:vs.length≤10000000)(hb:10+l.length*c≤B):
  SCall Tryz.prog 133 [.own q 0 vs.length,.int .i64 no,.ro 3 (l.map eT) .any,.fn (.func f) [] []] [(q,.arr 5 1 (vs.map aG))] (fun y σ=>∃r,y=.own r 0 (vs++bB no l pt).length∧σ=[(r,.arr 5 1 ((vs++bB no l pt).map aG))]):=by
 have hu:=bG 1 l.length (by omega);have hup:=hY l.length;have hpc:=gL hf (by omega) hok l.length;rw[List.take_length]at hpc;have hvl:(aY l pt).length≤50000000:=by unfold aY;simp only[List.length_append];omega
 have hub:=bG 4 (aY l pt).length (by omega);refine bS 27 [0,1,2,3,8,9,12] Tryz.func133 ?_;refine eX ?_;refine rL ?_;refine aB rfl (fun g1=> ?_) (fun g1=> ?_)
 ·obtain rfl:l=[]:=by cases l with|nil=>rfl|cons x t=>simp at g1;omega
  refine eW ?_;rw[show vs++bB no ([]:List Im) pt=vs by simp[bB]];exact aD aE ⟨q,by rfl,rfl⟩ aA
 have hs:bB no l pt=[no]++uB (aY l pt).length++aY l pt:=by unfold bB;rw[if_neg (by intro e;rw[List.isEmpty_iff.1 e]at g1;simp at g1)];simp
 rw[hs];refine dG ?_;refine cw [] Tryz.call238 (aDs hf hB l hok hl hb) rfl aC aA ?_;rintro _ σ' ⟨r16,rfl,rfl⟩ h16
 replace h16:=fY h16;repeat rcases h16 with⟨_,h16⟩
 refine eY ?_;generalize aY l pt=P at hvl hub⊢;refine kQ ?_;refine z0 ?_;refine eC fun r20 h20=> ?_;intros
 refine jQ ((vs++ [no]).map aG) (vs++ [no]).length ?_;refine bE fun r21 h21=> ?_;intros
 refine CH ?_;refine cw [(r21,.arr 5 1 ((vs++ [no]).map aG))] Tryz.call135 (dU r21 (vs++ [no]) (by simp;omega) P.length (by omega)) rfl aC aA ?_;rintro _ σ' ⟨r24,rfl,rfl⟩ h24;have k24:=aV h24;repeat rcases k24 with⟨_,k24⟩
 refine xQ ?_;refine jQ ((vs++ [no]++uB P.length++P).map aG) (vs++ [no]++uB P.length++P).length ?_;refine bE fun r26 h26=> ?_;intros
 refine cM ?_;rw[show vs++ [no]++uB P.length++P=vs++([no]++uB P.length++P) by simp];exact aD aE ⟨r26,by rfl,rfl⟩ aA
theorem aAZ{f:FuncId}{pt:Li→List Nat}{ok:Li→Prop}{c B:Nat}(hf:iL Tryz.prog 5 f (fun x=>.agg (gO x)) pt ok c B)(hB:B≤50000000)(q:Nat)(vs:List Nat)(no:Nat)(hno:no<256)(l:List Li)(hok:∀x∈l,ok x)(hl:l.length≤1000)(hvs:vs.length≤10000000)(hb:10+l.length*c≤B):
  SCall Tryz.prog 138 [.own q 0 vs.length,.int .i64 no,.ro 3 (l.map gO) .any,.fn (.func f) [] []] [(q,.arr 5 1 (vs.map aG))] (fun y σ=>∃r,y=.own r 0 (vs++bB no l pt).length∧σ=[(r,.arr 5 1 ((vs++bB no l pt).map aG))]):=by
 have hu:=bG 1 l.length (by omega);have hup:=hY l.length;have hpc:=gL hf (by omega) hok l.length;rw[List.take_length]at hpc;have hvl:(aY l pt).length≤50000000:=by unfold aY;simp only[List.length_append];omega
 have hub:=bG 4 (aY l pt).length (by omega);refine bS 27 [0,1,2,3,8,9,12] Tryz.func138 ?_;refine eX ?_;refine rL ?_;refine aB rfl (fun g1=> ?_) (fun g1=> ?_)
 ·obtain rfl:l=[]:=by cases l with|nil=>rfl|cons x t=>simp at g1;omega
  refine eW ?_;rw[show vs++bB no ([]:List Li) pt=vs by simp[bB]];exact aD aE ⟨q,by rfl,rfl⟩ aA
 have hs:bB no l pt=[no]++uB (aY l pt).length++aY l pt:=by unfold bB;rw[if_neg (by intro e;rw[List.isEmpty_iff.1 e]at g1;simp at g1)];simp
 rw[hs];refine dG ?_;refine cw [] Tryz.call240 (aDt hf hB l hok hl hb) rfl aC aA ?_;rintro _ σ' ⟨r16,rfl,rfl⟩ h16
 replace h16:=fY h16;repeat rcases h16 with⟨_,h16⟩
 refine eY ?_;generalize aY l pt=P at hvl hub⊢;refine kQ ?_;refine z0 ?_;refine eC fun r20 h20=> ?_;intros
 refine jQ ((vs++ [no]).map aG) (vs++ [no]).length ?_;refine bE fun r21 h21=> ?_;intros
 refine CH ?_;refine cw [(r21,.arr 5 1 ((vs++ [no]).map aG))] Tryz.call135 (dU r21 (vs++ [no]) (by simp;omega) P.length (by omega)) rfl aC aA ?_;rintro _ σ' ⟨r24,rfl,rfl⟩ h24;have k24:=aV h24;repeat rcases k24 with⟨_,k24⟩
 refine xQ ?_;refine jQ ((vs++ [no]++uB P.length++P).map aG) (vs++ [no]++uB P.length++P).length ?_;refine bE fun r26 h26=> ?_;intros
 refine cM ?_;rw[show vs++ [no]++uB P.length++P=vs++([no]++uB P.length++P) by simp];exact aD aE ⟨r26,by rfl,rfl⟩ aA
theorem aGT{f:FuncId}{pt:Gl→List Nat}{ok:Gl→Prop}{c B:Nat}(hf:iL Tryz.prog 5 f (fun x=>.agg (eU x)) pt ok c B)(hB:B≤50000000)(q:Nat)(vs:List Nat)(no:Nat)(hno:no<256)(l:List Gl)(hok:∀x∈l,ok x)(hl:l.length≤1000)(hvs:vs.length≤10000000)(hb:10+l.length*c≤B):
  SCall Tryz.prog 142 [.own q 0 vs.length,.int .i64 no,.ro 3 (l.map eU) .any,.fn (.func f) [] []] [(q,.arr 5 1 (vs.map aG))] (fun y σ=>∃r,y=.own r 0 (vs++bB no l pt).length∧σ=[(r,.arr 5 1 ((vs++bB no l pt).map aG))]):=by
 have hu:=bG 1 l.length (by omega);have hup:=hY l.length;have hpc:=gL hf (by omega) hok l.length;rw[List.take_length]at hpc;have hvl:(aY l pt).length≤50000000:=by unfold aY;simp only[List.length_append];omega
 have hub:=bG 4 (aY l pt).length (by omega);refine bS 27 [0,1,2,3,8,9,12] Tryz.func142 ?_;refine eX ?_;refine rL ?_;refine aB rfl (fun g1=> ?_) (fun g1=> ?_)
 ·obtain rfl:l=[]:=by cases l with|nil=>rfl|cons x t=>simp at g1;omega
  refine eW ?_;rw[show vs++bB no ([]:List Gl) pt=vs by simp[bB]];exact aD aE ⟨q,by rfl,rfl⟩ aA
 have hs:bB no l pt=[no]++uB (aY l pt).length++aY l pt:=by unfold bB;rw[if_neg (by intro e;rw[List.isEmpty_iff.1 e]at g1;simp at g1)];simp
 rw[hs];refine dG ?_;refine cw [] Tryz.call241 (aDu hf hB l hok hl hb) rfl aC aA ?_;rintro _ σ' ⟨r16,rfl,rfl⟩ h16
 replace h16:=fY h16;repeat rcases h16 with⟨_,h16⟩
 refine eY ?_;generalize aY l pt=P at hvl hub⊢;refine kQ ?_;refine z0 ?_;refine eC fun r20 h20=> ?_;intros
 refine jQ ((vs++ [no]).map aG) (vs++ [no]).length ?_;refine bE fun r21 h21=> ?_;intros
 refine CH ?_;refine cw [(r21,.arr 5 1 ((vs++ [no]).map aG))] Tryz.call135 (dU r21 (vs++ [no]) (by simp;omega) P.length (by omega)) rfl aC aA ?_;rintro _ σ' ⟨r24,rfl,rfl⟩ h24;have k24:=aV h24;repeat rcases k24 with⟨_,k24⟩
 refine xQ ?_;refine jQ ((vs++ [no]++uB P.length++P).map aG) (vs++ [no]++uB P.length++P).length ?_;refine bE fun r26 h26=> ?_;intros
 refine cM ?_;rw[show vs++ [no]++uB P.length++P=vs++([no]++uB P.length++P) by simp];exact aD aE ⟨r26,by rfl,rfl⟩ aA
theorem aGU{f:FuncId}{pt:Ex→List Nat}{ok:Ex→Prop}{c B:Nat}(hf:iL Tryz.prog 5 f (fun x=>.agg (eA x)) pt ok c B)(hB:B≤50000000)(q:Nat)(vs:List Nat)(no:Nat)(hno:no<256)(l:List Ex)(hok:∀x∈l,ok x)(hl:l.length≤1000)(hvs:vs.length≤10000000)(hb:10+l.length*c≤B):
  SCall Tryz.prog 145 [.own q 0 vs.length,.int .i64 no,.ro 2 (l.map eA) .any,.fn (.func f) [] []] [(q,.arr 5 1 (vs.map aG))] (fun y σ=>∃r,y=.own r 0 (vs++bB no l pt).length∧σ=[(r,.arr 5 1 ((vs++bB no l pt).map aG))]):=by
 have hu:=bG 1 l.length (by omega);have hup:=hY l.length;have hpc:=gL hf (by omega) hok l.length;rw[List.take_length]at hpc;have hvl:(aY l pt).length≤50000000:=by unfold aY;simp only[List.length_append];omega
 have hub:=bG 4 (aY l pt).length (by omega);refine bS 27 [0,1,2,3,8,9,12] Tryz.func145 ?_;refine eX ?_;refine rL ?_;refine aB rfl (fun g1=> ?_) (fun g1=> ?_)
 ·obtain rfl:l=[]:=by cases l with|nil=>rfl|cons x t=>simp at g1;omega
  refine eW ?_;rw[show vs++bB no ([]:List Ex) pt=vs by simp[bB]];exact aD aE ⟨q,by rfl,rfl⟩ aA
 have hs:bB no l pt=[no]++uB (aY l pt).length++aY l pt:=by unfold bB;rw[if_neg (by intro e;rw[List.isEmpty_iff.1 e]at g1;simp at g1)];simp
 rw[hs];refine dG ?_;refine cw [] Tryz.call243 (aDv hf hB l hok hl hb) rfl aC aA ?_;rintro _ σ' ⟨r16,rfl,rfl⟩ h16
 replace h16:=fY h16;repeat rcases h16 with⟨_,h16⟩
 refine eY ?_;generalize aY l pt=P at hvl hub⊢;refine kQ ?_;refine z0 ?_;refine eC fun r20 h20=> ?_;intros
 refine jQ ((vs++ [no]).map aG) (vs++ [no]).length ?_;refine bE fun r21 h21=> ?_;intros
 refine CH ?_;refine cw [(r21,.arr 5 1 ((vs++ [no]).map aG))] Tryz.call135 (dU r21 (vs++ [no]) (by simp;omega) P.length (by omega)) rfl aC aA ?_;rintro _ σ' ⟨r24,rfl,rfl⟩ h24;have k24:=aV h24;repeat rcases k24 with⟨_,k24⟩
 refine xQ ?_;refine jQ ((vs++ [no]++uB P.length++P).map aG) (vs++ [no]++uB P.length++P).length ?_;refine bE fun r26 h26=> ?_;intros
 refine cM ?_;rw[show vs++ [no]++uB P.length++P=vs++([no]++uB P.length++P) by simp];exact aD aE ⟨r26,by rfl,rfl⟩ aA
theorem aGV{f:FuncId}{pt:El→List Nat}{ok:El→Prop}{c B:Nat}(hf:iL Tryz.prog 5 f (fun x=>.agg (eQ x)) pt ok c B)(hB:B≤50000000)(q:Nat)(vs:List Nat)(no:Nat)(hno:no<256)(l:List El)(hok:∀x∈l,ok x)(hl:l.length≤1000)(hvs:vs.length≤10000000)(hb:10+l.length*c≤B):
  SCall Tryz.prog 147 [.own q 0 vs.length,.int .i64 no,.ro 2 (l.map eQ) .any,.fn (.func f) [] []] [(q,.arr 5 1 (vs.map aG))] (fun y σ=>∃r,y=.own r 0 (vs++bB no l pt).length∧σ=[(r,.arr 5 1 ((vs++bB no l pt).map aG))]):=by
 have hu:=bG 1 l.length (by omega);have hup:=hY l.length;have hpc:=gL hf (by omega) hok l.length;rw[List.take_length]at hpc;have hvl:(aY l pt).length≤50000000:=by unfold aY;simp only[List.length_append];omega
 have hub:=bG 4 (aY l pt).length (by omega);refine bS 27 [0,1,2,3,8,9,12] Tryz.func147 ?_;refine eX ?_;refine rL ?_;refine aB rfl (fun g1=> ?_) (fun g1=> ?_)
 ·obtain rfl:l=[]:=by cases l with|nil=>rfl|cons x t=>simp at g1;omega
  refine eW ?_;rw[show vs++bB no ([]:List El) pt=vs by simp[bB]];exact aD aE ⟨q,by rfl,rfl⟩ aA
 have hs:bB no l pt=[no]++uB (aY l pt).length++aY l pt:=by unfold bB;rw[if_neg (by intro e;rw[List.isEmpty_iff.1 e]at g1;simp at g1)];simp
 rw[hs];refine dG ?_;refine cw [] Tryz.call244 (aDw hf hB l hok hl hb) rfl aC aA ?_;rintro _ σ' ⟨r16,rfl,rfl⟩ h16
 replace h16:=fY h16;repeat rcases h16 with⟨_,h16⟩
 refine eY ?_;generalize aY l pt=P at hvl hub⊢;refine kQ ?_;refine z0 ?_;refine eC fun r20 h20=> ?_;intros
 refine jQ ((vs++ [no]).map aG) (vs++ [no]).length ?_;refine bE fun r21 h21=> ?_;intros
 refine CH ?_;refine cw [(r21,.arr 5 1 ((vs++ [no]).map aG))] Tryz.call135 (dU r21 (vs++ [no]) (by simp;omega) P.length (by omega)) rfl aC aA ?_;rintro _ σ' ⟨r24,rfl,rfl⟩ h24;have k24:=aV h24;repeat rcases k24 with⟨_,k24⟩
 refine xQ ?_;refine jQ ((vs++ [no]++uB P.length++P).map aG) (vs++ [no]++uB P.length++P).length ?_;refine bE fun r26 h26=> ?_;intros
 refine cM ?_;rw[show vs++ [no]++uB P.length++P=vs++([no]++uB P.length++P) by simp];exact aD aE ⟨r26,by rfl,rfl⟩ aA
theorem aGW{f:FuncId}{pt:Co→List Nat}{ok:Co→Prop}{c B:Nat}(hf:iL Tryz.prog 5 f (fun x=>.agg (dJ x)) pt ok c B)(hB:B≤50000000)(q:Nat)(vs:List Nat)(no:Nat)(hno:no<256)(l:List Co)(hok:∀x∈l,ok x)(hl:l.length≤1000)(hvs:vs.length≤10000000)(hb:10+l.length*c≤B):
  SCall Tryz.prog 150 [.own q 0 vs.length,.int .i64 no,.ro 2 (l.map dJ) .any,.fn (.func f) [] []] [(q,.arr 5 1 (vs.map aG))] (fun y σ=>∃r,y=.own r 0 (vs++bB no l pt).length∧σ=[(r,.arr 5 1 ((vs++bB no l pt).map aG))]):=by
 have hu:=bG 1 l.length (by omega);have hup:=hY l.length;have hpc:=gL hf (by omega) hok l.length;rw[List.take_length]at hpc;have hvl:(aY l pt).length≤50000000:=by unfold aY;simp only[List.length_append];omega
 have hub:=bG 4 (aY l pt).length (by omega);refine bS 27 [0,1,2,3,8,9,12] Tryz.func150 ?_;refine eX ?_;refine rL ?_;refine aB rfl (fun g1=> ?_) (fun g1=> ?_)
 ·obtain rfl:l=[]:=by cases l with|nil=>rfl|cons x t=>simp at g1;omega
  refine eW ?_;rw[show vs++bB no ([]:List Co) pt=vs by simp[bB]];exact aD aE ⟨q,by rfl,rfl⟩ aA
 have hs:bB no l pt=[no]++uB (aY l pt).length++aY l pt:=by unfold bB;rw[if_neg (by intro e;rw[List.isEmpty_iff.1 e]at g1;simp at g1)];simp
 rw[hs];refine dG ?_;refine cw [] Tryz.call245 (aDx hf hB l hok hl hb) rfl aC aA ?_;rintro _ σ' ⟨r16,rfl,rfl⟩ h16
 replace h16:=fY h16;repeat rcases h16 with⟨_,h16⟩
 refine eY ?_;generalize aY l pt=P at hvl hub⊢;refine kQ ?_;refine z0 ?_;refine eC fun r20 h20=> ?_;intros
 refine jQ ((vs++ [no]).map aG) (vs++ [no]).length ?_;refine bE fun r21 h21=> ?_;intros
 refine CH ?_;refine cw [(r21,.arr 5 1 ((vs++ [no]).map aG))] Tryz.call135 (dU r21 (vs++ [no]) (by simp;omega) P.length (by omega)) rfl aC aA ?_;rintro _ σ' ⟨r24,rfl,rfl⟩ h24;have k24:=aV h24;repeat rcases k24 with⟨_,k24⟩
 refine xQ ?_;refine jQ ((vs++ [no]++uB P.length++P).map aG) (vs++ [no]++uB P.length++P).length ?_;refine bE fun r26 h26=> ?_;intros
 refine cM ?_;rw[show vs++ [no]++uB P.length++P=vs++([no]++uB P.length++P) by simp];exact aD aE ⟨r26,by rfl,rfl⟩ aA
theorem aGX{f:FuncId}{pt:Da→List Nat}{ok:Da→Prop}{c B:Nat}(hf:iL Tryz.prog 5 f (fun x=>.agg (eO x)) pt ok c B)(hB:B≤50000000)(q:Nat)(vs:List Nat)(no:Nat)(hno:no<256)(l:List Da)(hok:∀x∈l,ok x)(hl:l.length≤1000)(hvs:vs.length≤10000000)(hb:10+l.length*c≤B):
  SCall Tryz.prog 152 [.own q 0 vs.length,.int .i64 no,.ro 2 (l.map eO) .any,.fn (.func f) [] []] [(q,.arr 5 1 (vs.map aG))] (fun y σ=>∃r,y=.own r 0 (vs++bB no l pt).length∧σ=[(r,.arr 5 1 ((vs++bB no l pt).map aG))]):=by
 have hu:=bG 1 l.length (by omega);have hup:=hY l.length;have hpc:=gL hf (by omega) hok l.length;rw[List.take_length]at hpc;have hvl:(aY l pt).length≤50000000:=by unfold aY;simp only[List.length_append];omega
 have hub:=bG 4 (aY l pt).length (by omega);refine bS 27 [0,1,2,3,8,9,12] Tryz.func152 ?_;refine eX ?_;refine rL ?_;refine aB rfl (fun g1=> ?_) (fun g1=> ?_)
 ·obtain rfl:l=[]:=by cases l with|nil=>rfl|cons x t=>simp at g1;omega
  refine eW ?_;rw[show vs++bB no ([]:List Da) pt=vs by simp[bB]];exact aD aE ⟨q,by rfl,rfl⟩ aA
 have hs:bB no l pt=[no]++uB (aY l pt).length++aY l pt:=by unfold bB;rw[if_neg (by intro e;rw[List.isEmpty_iff.1 e]at g1;simp at g1)];simp
 rw[hs];refine dG ?_;refine cw [] Tryz.call249 (aDy hf hB l hok hl hb) rfl aC aA ?_;rintro _ σ' ⟨r16,rfl,rfl⟩ h16
 replace h16:=fY h16;repeat rcases h16 with⟨_,h16⟩
 refine eY ?_;generalize aY l pt=P at hvl hub⊢;refine kQ ?_;refine z0 ?_;refine eC fun r20 h20=> ?_;intros
 refine jQ ((vs++ [no]).map aG) (vs++ [no]).length ?_;refine bE fun r21 h21=> ?_;intros
 refine CH ?_;refine cw [(r21,.arr 5 1 ((vs++ [no]).map aG))] Tryz.call135 (dU r21 (vs++ [no]) (by simp;omega) P.length (by omega)) rfl aC aA ?_;rintro _ σ' ⟨r24,rfl,rfl⟩ h24;have k24:=aV h24;repeat rcases k24 with⟨_,k24⟩
 refine xQ ?_;refine jQ ((vs++ [no]++uB P.length++P).map aG) (vs++ [no]++uB P.length++P).length ?_;refine bE fun r26 h26=> ?_;intros
 refine cM ?_;rw[show vs++ [no]++uB P.length++P=vs++([no]++uB P.length++P) by simp];exact aD aE ⟨r26,by rfl,rfl⟩ aA
end Go.Proofs.YtjpdadobblffmaaGreat
namespace Go.Proofs.YtjpdadobblffmaaGreat
open Go.RowKit Go.ChangeShapes Go.WideShapes Go.ChangeAt Go.Deep
attribute [local irreducible] SW RS RD fF eB
theorem jY{α:Type}{pt:α→List Nat}{l:List α}{c:Nat}(h:∀x∈l,(pt x).length≤c)(hl:l.length≤1000):(aY l pt).length≤2+l.length*c:=by
 have hu:=bG 1 l.length (by omega);have h1:∀(l:List α),(∀x∈l,(pt x).length≤c)→(l.flatMap pt).length≤l.length*c:=by
  intro l
  induction l with
  |nil=>simp
  |cons x l ih=>
   intro h;have:=ih fun y hy=>h y (List.mem_cons_of_mem _ hy)
   have hx:=h x List.mem_cons_self;rw[List.flatMap_cons,List.length_append,List.length_cons,Nat.add_mul];omega
 have:=h1 l h;unfold aY;rw[List.length_append];omega
theorem nX(k:Int):(kB k).length=1:=by unfold kB;split<;>rfl
theorem LP{n:Int}(h:gG n=true):(cC n).length≤2:=by
 have:0≤n∧n≤1000:=by
  unfold gG at h;by_cases h0:0≤n
  ·rw[if_pos (by simpa using h0)]at h;exact⟨h0,by simpa using h⟩
  ·rw[if_neg (by simpa using h0)]at h;cases h
 exact bG 1 _ (by omega)
theorem JG:iL Tryz.prog 5 132 (fun k:Int=>.int .i64 k) kB (fun _=>True) 1 20000000:=
 ⟨Tryz.call132,fun q vs x _ _ hvs=>⟨Nat.le_of_eq (nX x),sW q vs (by omega) x⟩⟩
theorem pL(q:Nat)(vs:List Nat)(hvs:vs.length≤50000000)(n:Int)(h0:0≤n)(h1:n<9223372036854775808):SCall Tryz.prog 135 [.own q 0 vs.length,.int .i64 n] [(q,.arr 5 1 (vs.map aG))]
  (fun y σ=>∃r,y=.own r 0 (vs++cC n).length∧σ=[(r,.arr 5 1 ((vs++cC n).map aG))]):=by
 obtain⟨m,rfl⟩:=Int.eq_ofNat_of_zero_le h0;exact dU q vs hvs m (by omega)
theorem tR{n:Int}(h:gG n=true):0≤n∧n≤1000:=by
 unfold gG at h;by_cases h0:0≤n
 ·rw[if_pos (by simpa using h0)]at h;exact⟨h0,by simpa using h⟩
 ·rw[if_neg (by simpa using h0)]at h;cases h
theorem EL:iL Tryz.prog 5 135 (fun n:Int=>.int .i64 n) cC (fun n=>gG n=true) 2 20000000:=
 ⟨Tryz.call135,fun q vs n h _ hvs=>⟨LP h,pL q vs (by omega) n (tR h).1 (by have:=(tR h).2;omega)⟩⟩
theorem aLs(q:Nat)(vs:List Nat)(hvs:vs.length≤10000000)(pr rs:List Int)(h1:pr.length≤32)(h2:rs.length≤1):SCall Tryz.prog 130 [.own q 0 vs.length,.agg (dF ⟨pr,rs⟩)] [(q,.arr 5 1 (vs.map aG))]
  (fun y σ=>∃r,y=.own r 0 (vs++vE ⟨pr,rs⟩).length∧σ=[(r,.arr 5 1 ((vs++vE ⟨pr,rs⟩).map aG))]):=by
 have l1:=jY (pt:=kB) (l:=pr) (c:=1) (fun x _=>Nat.le_of_eq (nX x)) (by omega);refine bS 14 [0,1,3,4] Tryz.func130 ?_;unfold dF;refine cZ ?_;refine gQ fun r3 h3=> ?_;intros
 refine cM ?_;refine fJ [(0,true),(3,true),(4,true),(6,true),(7,true),(1,false),(2,false),(5,false),(8,false),(9,true)] ?_;refine CG ?_;refine iC ?_;refine HL fun r6 h6=> ?_;intros
 refine eZ rfl ((vs++ [96]).map aG) (vs++ [96]).length ?_;refine bE fun r7 h7=> ?_;intros
 refine pD [(r7,.arr 5 1 ((vs++ [96]).map aG))] rfl Tryz.call131 (CW JG (by decide) r7 (vs++ [96]) pr (fun _ _=>trivial) (by omega) (by simp;omega)) rfl aC aA eM ?_;rintro _ σ' ⟨r10,rfl,rfl⟩ h10;have k10:=aV h10;repeat rcases k10 with⟨_,k10⟩
 apply bQ;exact bD;refine pD [(r10,.arr 5 1 ((vs++ [96]++aY pr kB).map aG))] rfl Tryz.call131 (CW JG (by decide) r10 (vs++ [96]++aY pr kB) rs (fun _ _=>trivial) (by omega) (by simp;omega)) rfl aC aA eM ?_;rintro _ σ' ⟨r13,rfl,rfl⟩ h13;have k13:=aV h13;repeat rcases k13 with⟨_,k13⟩
 refine tI ?_;rw[show vs++ [96]++aY pr kB++aY rs kB=vs++vE ⟨pr,rs⟩ by unfold vE;simp];exact aD aE ⟨r13,by rfl,rfl⟩ aA
theorem UY:iL Tryz.prog 5 130 (fun x=>.agg (dF x)) vE (fun t=>(cF t.pr 32 AG&&cF t.rs 1 AG)=true) 100 10000000:=
 ⟨Tryz.call130,fun q vs x h _ hvs=>by
  obtain⟨pr,rs⟩:=x;have h1:pr.length≤32:=by simp[cF]at h;omega
  have h2:rs.length≤1:=by simp[cF]at h;omega
  have l1:=jY (pt:=kB) (l:=pr) (c:=1) (fun x _=>Nat.le_of_eq (nX x)) (by omega);have l2:=jY (pt:=kB) (l:=rs) (c:=1) (fun x _=>Nat.le_of_eq (nX x)) (by omega);exact⟨by unfold vE;simp;omega,aLs q vs hvs pr rs h1 h2⟩⟩
theorem kV{s:List Nat}(h:tQ s=true):s.length≤16∧(∀c∈s,c<256)∧(bI s).length≤18:=by
 unfold tQ at h;split at h
 ·simp only[Bool.and_eq_true,decide_eq_true_eq,List.all_eq_true]at h;refine⟨h.1,fun c hc=>by have:=(h.2 c hc).2;omega, ?_⟩;have:=bG 1 s.length (by omega);unfold bI;rw[List.length_append];omega
 ·cases h
theorem aLt(q:Nat)(vs:List Nat)(hp:0<vs.length)(hvs:vs.length≤10000000)(md nm:List Nat)(ty:Int)(m1:tQ md=true)(m2:tQ nm=true)(m3:gG ty=true):SCall Tryz.prog 134 [.own q 0 vs.length,.agg (eT ⟨md,nm,ty⟩)] [(q,.arr 5 1 (vs.map aG))]
  (fun y σ=>∃r,y=.own r 0 (vs++iQ ⟨md,nm,ty⟩).length∧σ=[(r,.arr 5 1 ((vs++iQ ⟨md,nm,ty⟩).map aG))]):=by
 obtain⟨a1,a2,a3⟩:=kV m1;obtain⟨b1,b2,b3⟩:=kV m2;refine bS 17 [0,1,3,4] Tryz.func134 ?_;unfold eT;refine cZ ?_;refine gQ fun r3 h3=> ?_;intros
 refine cM ?_;refine fJ [(0,true),(1,true),(2,true),(4,true),(5,true),(9,true),(10,true),(13,false),(13,false),(13,false),(13,false),(13,false),(13,false)] ?_;refine CG ?_;refine iC ?_;refine iC ?_;refine kJ 3 7 [(13,false),(13,false),(13,false),(13,false),(13,false)] [(3,false),(6,false),(8,false),(11,false),(12,true)] (f1:=[q]) (f2:=[]) (by kernel_rfl) rfl rfl ?_ ?_ (.inr ⟨by simp,eM⟩) (.inl rfl)
 ·refine rC (σ1:=[(q,.arr 5 1 (vs.map aG))]) Tryz.call136 (nW q vs hp (by omega) md (by omega) a2) (cI rfl) aC aA ?_;rintro _ σ' ⟨r8,rfl,rfl⟩ h8;have k8:=aV h8;repeat rcases k8 with⟨_,k8⟩
  apply bQ;exact bD;refine kJ 6 7 [(7,false),(8,false),(11,false),(12,true)] [(6,false),(8,false),(11,false),(12,true)] (f1:=[r8]) (f2:=[]) (by kernel_rfl) rfl rfl ?_ ?_ (.inr ⟨by simp,eM⟩) (.inl rfl)
  ·refine rC (σ1:=[(r8,.arr 5 1 ((vs++bI md).map aG))]) Tryz.call136 (nW r8 (vs++bI md) (by simp;omega) (by simp;omega) nm (by omega) b2) (cI rfl) aC aA ?_;rintro _ σ' ⟨r11,rfl,rfl⟩ h11;have k11:=aV h11;repeat rcases k11 with⟨_,k11⟩
   apply bQ;exact bD;refine HL fun r12 h12=> ?_;intros
   refine eZ rfl ((vs++bI md++bI nm++ [0]).map aG) (vs++bI md++bI nm++ [0]).length ?_;refine bE fun r13 h13=> ?_;intros
   refine pD [(r13,.arr 5 1 ((vs++bI md++bI nm++ [0]).map aG))] rfl Tryz.call135 (pL r13 (vs++bI md++bI nm++ [0]) (by simp;omega) ty (tR m3).1 (by have:=(tR m3).2;omega)) rfl aC aA eM ?_;rintro _ σ' ⟨r16,rfl,rfl⟩ h16;have k16:=aV h16;repeat rcases k16 with⟨_,k16⟩
   refine tI ?_;rw[show vs++bI md++bI nm++ [0]++cC ty=vs++iQ ⟨md,nm,ty⟩ by unfold iQ;simp];exact aD aE ⟨r16,by rfl,rfl⟩ aA
  ·apply xI;infer_instance;infer_instance;exact rF;rfl;rfl;rfl;rfl;exact yR;rfl;refine bN fun r12 h12=> ?_;repeat rcases h12 with⟨_,h12⟩
   refine pD [(r8,.arr 5 1 ((vs++bI md).map aG))] rfl Tryz.call136 (nW r8 (vs++bI md) (by simp;omega) (by simp;omega) nm (by omega) b2) rfl aC aA eM ?_;rintro _ σ' ⟨r11,rfl,rfl⟩ h11;have k11:=aV h11;repeat rcases k11 with⟨_,k11⟩
   apply bQ;exact bD;refine eZ rfl ((vs++bI md++bI nm++ [0]).map aG) (vs++bI md++bI nm++ [0]).length ?_;refine bE fun r13 h13=> ?_;intros
   refine pD [(r13,.arr 5 1 ((vs++bI md++bI nm++ [0]).map aG))] rfl Tryz.call135 (pL r13 (vs++bI md++bI nm++ [0]) (by simp;omega) ty (tR m3).1 (by have:=(tR m3).2;omega)) rfl aC aA eM ?_;rintro _ σ' ⟨r16,rfl,rfl⟩ h16;have k16:=aV h16;repeat rcases k16 with⟨_,k16⟩
   refine tI ?_;rw[show vs++bI md++bI nm++ [0]++cC ty=vs++iQ ⟨md,nm,ty⟩ by unfold iQ;simp];exact aD aE ⟨r16,by rfl,rfl⟩ aA
 ·apply xI;infer_instance;infer_instance;exact rF;rfl;rfl;rfl;rfl;exact yR;rfl;refine bN fun r12 h12=> ?_;repeat rcases h12 with⟨_,h12⟩
  refine pD [(q,.arr 5 1 (vs.map aG))] rfl Tryz.call136 (nW q vs hp (by omega) md (by omega) a2) rfl aC aA eM ?_;rintro _ σ' ⟨r8,rfl,rfl⟩ h8;have k8:=aV h8;repeat rcases k8 with⟨_,k8⟩
  apply bQ;exact bD;refine pD [(r8,.arr 5 1 ((vs++bI md).map aG))] rfl Tryz.call136 (nW r8 (vs++bI md) (by simp;omega) (by simp;omega) nm (by omega) b2) rfl aC aA eM ?_;rintro _ σ' ⟨r11,rfl,rfl⟩ h11;have k11:=aV h11;repeat rcases k11 with⟨_,k11⟩
  apply bQ;exact bD;refine eZ rfl ((vs++bI md++bI nm++ [0]).map aG) (vs++bI md++bI nm++ [0]).length ?_;refine bE fun r13 h13=> ?_;intros
  refine pD [(r13,.arr 5 1 ((vs++bI md++bI nm++ [0]).map aG))] rfl Tryz.call135 (pL r13 (vs++bI md++bI nm++ [0]) (by simp;omega) ty (tR m3).1 (by have:=(tR m3).2;omega)) rfl aC aA eM ?_;rintro _ σ' ⟨r16,rfl,rfl⟩ h16;have k16:=aV h16;repeat rcases k16 with⟨_,k16⟩
  refine tI ?_;rw[show vs++bI md++bI nm++ [0]++cC ty=vs++iQ ⟨md,nm,ty⟩ by unfold iQ;simp];exact aD aE ⟨r16,by rfl,rfl⟩ aA
theorem aLu(q:Nat)(vs:List Nat)(hp:0<vs.length)(hvs:vs.length≤10000000)(nm:List Nat)(fn:Int)(m2:tQ nm=true)(m3:gG fn=true):SCall Tryz.prog 146 [.own q 0 vs.length,.agg (eA ⟨nm,fn⟩)] [(q,.arr 5 1 (vs.map aG))]
  (fun y σ=>∃r,y=.own r 0 (vs++nC ⟨nm,fn⟩).length∧σ=[(r,.arr 5 1 ((vs++nC ⟨nm,fn⟩).map aG))]):=by
 obtain⟨b1,b2,b3⟩:=kV m2;refine bS 14 [0,1,3,4] Tryz.func146 ?_;unfold eA;refine cZ ?_;refine gQ fun r3 h3=> ?_;intros
 refine cM ?_;refine fJ [(0,true),(1,true),(2,true),(6,true),(7,true),(10,false),(10,false),(10,false),(10,false),(10,false)] ?_;refine CG ?_;refine iC ?_;refine kJ 3 4 [(4,false),(5,false),(8,false),(9,true)] [(3,false),(5,false),(8,false),(9,true)] (f1:=[q]) (f2:=[]) (by kernel_rfl) rfl rfl ?_ ?_ (.inr ⟨by simp,eM⟩) (.inl rfl)
 ·refine rC (σ1:=[(q,.arr 5 1 (vs.map aG))]) Tryz.call136 (nW q vs hp (by omega) nm (by omega) b2) (cI rfl) aC aA ?_;rintro _ σ' ⟨r8,rfl,rfl⟩ h8;have k8:=aV h8;repeat rcases k8 with⟨_,k8⟩
  apply bQ;exact bD;refine HL fun r9 h9=> ?_;intros
  refine eZ rfl ((vs++bI nm++ [0]).map aG) (vs++bI nm++ [0]).length ?_;refine bE fun r10 h10=> ?_;intros
  refine pD [(r10,.arr 5 1 ((vs++bI nm++ [0]).map aG))] rfl Tryz.call135 (pL r10 (vs++bI nm++ [0]) (by simp;omega) fn (tR m3).1 (by have:=(tR m3).2;omega)) rfl aC aA eM ?_;rintro _ σ' ⟨r13,rfl,rfl⟩ h13;have k13:=aV h13;repeat rcases k13 with⟨_,k13⟩
  refine tI ?_;rw[show vs++bI nm++ [0]++cC fn=vs++nC ⟨nm,fn⟩ by unfold nC;simp];exact aD aE ⟨r13,by rfl,rfl⟩ aA
 ·apply xI;infer_instance;infer_instance;exact rF;rfl;rfl;rfl;rfl;exact yR;rfl;refine bN fun r9 h9=> ?_;repeat rcases h9 with⟨_,h9⟩
  refine pD [(q,.arr 5 1 (vs.map aG))] rfl Tryz.call136 (nW q vs hp (by omega) nm (by omega) b2) rfl aC aA eM ?_;rintro _ σ' ⟨r8,rfl,rfl⟩ h8;have k8:=aV h8;repeat rcases k8 with⟨_,k8⟩
  apply bQ;exact bD;refine eZ rfl ((vs++bI nm++ [0]).map aG) (vs++bI nm++ [0]).length ?_;refine bE fun r10 h10=> ?_;intros
  refine pD [(r10,.arr 5 1 ((vs++bI nm++ [0]).map aG))] rfl Tryz.call135 (pL r10 (vs++bI nm++ [0]) (by simp;omega) fn (tR m3).1 (by have:=(tR m3).2;omega)) rfl aC aA eM ?_;rintro _ σ' ⟨r13,rfl,rfl⟩ h13;have k13:=aV h13;repeat rcases k13 with⟨_,k13⟩
  refine tI ?_;rw[show vs++bI nm++ [0]++cC fn=vs++nC ⟨nm,fn⟩ by unfold nC;simp];exact aD aE ⟨r13,by rfl,rfl⟩ aA
theorem vI(q:Nat)(vs:List Nat)(hvs:vs.length≤10000000)(l:Li)(h0:0≤l.mn)(h1:l.mn≤100000)(h2:l.mx≤100000):SCall Tryz.prog 141 [.own q 0 vs.length,.agg (gO l)] [(q,.arr 5 1 (vs.map aG))]
  (fun y σ=>∃r,y=.own r 0 (vs++dW l).length∧σ=[(r,.arr 5 1 ((vs++dW l).map aG))]):=by
 obtain⟨has,mn,mx⟩:=l;dsimp only at h0 h1 h2;have hu:=bG 2 mn.toNat (by omega);refine bS 23 [0,1,3,4,7] Tryz.func141 ?_;unfold gO;refine cZ ?_;refine gQ fun r3 h3=> ?_;intros
 refine iJ ?_;refine nP ?_;refine aB rfl (fun g1=> ?_) (fun g1=> ?_)
 ·refine aI ?_;refine fJ [(0,true),(3,true),(4,true),(1,false),(2,false),(5,false),(6,true)] ?_;refine CG ?_;refine HL fun r9 h9=> ?_;intros
  refine eZ rfl ((vs++ [0]).map aG) (vs++ [0]).length ?_;refine bE fun r10 h10=> ?_;intros
  refine pD [(r10,.arr 5 1 ((vs++ [0]).map aG))] rfl Tryz.call135 (pL r10 (vs++ [0]) (by simp;omega) mn h0 (by omega)) rfl aC aA eM ?_;rintro _ σ' ⟨r13,rfl,rfl⟩ h13;have k13:=aV h13;repeat rcases k13 with⟨_,k13⟩
  refine tI ?_;rw[show vs++ [0]++cC mn=vs++dW ⟨has,mn,mx⟩ by unfold dW;rw[if_pos g1];simp];exact aD aE ⟨r13,by rfl,rfl⟩ aA
 refine aI ?_;refine fJ [(0,true),(3,true),(4,true),(6,true),(7,true),(1,false),(2,false),(5,false),(8,false),(9,true)] ?_;refine CG ?_;refine iC ?_;refine HL fun r15 h15=> ?_;intros
 refine eZ rfl ((vs++ [1]).map aG) (vs++ [1]).length ?_;refine bE fun r16 h16=> ?_;intros
 refine pD [(r16,.arr 5 1 ((vs++ [1]).map aG))] rfl Tryz.call135 (pL r16 (vs++ [1]) (by simp;omega) mn h0 (by omega)) rfl aC aA eM ?_;rintro _ σ' ⟨r19,rfl,rfl⟩ h19;have k19:=aV h19;repeat rcases k19 with⟨_,k19⟩
 apply bQ;exact bD;refine pD [(r19,.arr 5 1 ((vs++ [1]++cC mn).map aG))] rfl Tryz.call135 (pL r19 (vs++ [1]++cC mn) (by simp[cC];omega) mx (by simp at g1;omega) (by omega)) rfl aC aA eM ?_;rintro _ σ' ⟨r22,rfl,rfl⟩ h22;have k22:=aV h22;repeat rcases k22 with⟨_,k22⟩
 refine tI ?_;rw[show vs++ [1]++cC mn++cC mx=vs++dW ⟨has,mn,mx⟩ by unfold dW;rw[if_neg (by simp[g1])];simp];exact aD aE ⟨r22,by rfl,rfl⟩ aA
theorem aLv(q:Nat)(vs:List Nat)(hvs:vs.length≤9000000)(l:Li)(h0:0≤l.mn)(h1:l.mn≤100000)(h2:l.mx≤100000):SCall Tryz.prog 140 [.own q 0 vs.length,.agg (gO l)] [(q,.arr 5 1 (vs.map aG))]
  (fun y σ=>∃r,y=.own r 0 (vs++112::dW l).length∧σ=[(r,.arr 5 1 ((vs++112::dW l).map aG))]):=by
 refine bS 10 [0,1,3,4] Tryz.func140 ?_;refine cZ ?_;refine gQ fun r3 h3=> ?_;intros
 refine cM ?_;refine fJ [(0,true),(3,true),(1,false),(2,false),(4,false),(5,true)] ?_;refine fP rfl (aF (E rfl)) rfl ?_;refine IQ ?_;refine HL fun r6 h6=> ?_;intros
 refine eZ rfl ((vs++ [112]).map aG) (vs++ [112]).length ?_;refine bE fun r7 h7=> ?_;intros
 refine pD [(r7,.arr 5 1 ((vs++ [112]).map aG))] rfl Tryz.call141 (vI r7 (vs++ [112]) (by simp;omega) l h0 h1 h2) rfl aC aA eM ?_;rintro _ σ' ⟨r9,rfl,rfl⟩ h9;have k9:=aV h9;repeat rcases k9 with⟨_,k9⟩
 refine tI ?_;rw[show vs++ [112]++dW l=vs++112::dW l by simp];exact aD aE ⟨r9,by rfl,rfl⟩ aA
theorem EM(q:Nat)(vs:List Nat)(hvs:vs.length≤10000000)(n:Int)(h:gI n=true):SCall Tryz.prog 149 [.own q 0 vs.length,.int .i64 n] [(q,.arr 5 1 (vs.map aG))]
  (fun y σ=>∃r,y=.own r 0 (vs++qB n).length∧σ=[(r,.arr 5 1 ((vs++qB n).map aG))]):=by
 have hr:-2147483648≤n∧n≤2147483647:=by unfold gI at h;simpa using h
 refine bS 11 [0,1,4] Tryz.func149 ?_;refine eX ?_;refine eC fun r6 h6=> ?_;intros
 refine jQ ((vs++ [0]).map aG) (vs++ [0]).length ?_;refine bE fun r7 h7=> ?_;intros
 refine lo (aF (E rfl)) rfl ?_;refine lE ?_;refine cw [(r7,.arr 5 1 ((vs++ [0]).map aG))] Tryz.call144 (qX r7 (vs++ [0]) (by simp;omega) 1 n (by unfold mK;simp;omega) (by omega)) rfl aC aA ?_;rintro _ σ' ⟨r10,rfl,rfl⟩ h10;have k10:=aV h10;repeat rcases k10 with⟨_,k10⟩
 refine eY ?_;rw[show vs++ [0]++mA 1 n=vs++qB n by unfold qB;simp];exact aD aE ⟨r10,by rfl,rfl⟩ aA
theorem aLw(q:Nat)(vs:List Nat)(hvs:vs.length≤9000000)(o:Int)(fs:List Int)(h:gI o=true)(h1:fs.length≤50)(h2:∀n∈fs,gG n=true)(hc:(qB o).length≤300):SCall Tryz.prog 148 [.own q 0 vs.length,.agg (eQ ⟨o,fs⟩)] [(q,.arr 5 1 (vs.map aG))]
  (fun y σ=>∃r,y=.own r 0 (vs++sE ⟨o,fs⟩).length∧σ=[(r,.arr 5 1 ((vs++sE ⟨o,fs⟩).map aG))]):=by
 refine bS 12 [0,1,3,4] Tryz.func148 ?_;unfold eQ;refine cZ ?_;refine gQ fun r3 h3=> ?_;intros
 refine cM ?_;refine fJ [(0,true),(1,true),(2,true),(4,true),(5,true),(3,false),(6,false),(7,true)] ?_;refine CG ?_;refine iC ?_;refine pD [(q,.arr 5 1 (vs.map aG))] rfl Tryz.call149 (EM q vs (by omega) o h) rfl aC aA eM ?_;rintro _ σ' ⟨r8,rfl,rfl⟩ h8;have k8:=aV h8;repeat rcases k8 with⟨_,k8⟩
 apply bQ;exact bD;refine pD [(r8,.arr 5 1 ((vs++qB o).map aG))] rfl Tryz.call131 (CW EL (by decide) r8 (vs++qB o) fs h2 (by omega) (by simp;omega)) rfl aC aA eM ?_;rintro _ σ' ⟨r11,rfl,rfl⟩ h11;have k11:=aV h11;repeat rcases k11 with⟨_,k11⟩
 refine tI ?_;rw[show vs++qB o++aY fs cC=vs++sE ⟨o,fs⟩ by unfold sE;simp];exact aD aE ⟨r11,by rfl,rfl⟩ aA
theorem aLx(q:Nat)(vs:List Nat)(hvs:vs.length≤9000000)(o:Int)(bs:List Nat)(h:gI o=true)(h1:bs.length≤1000)(hc:(qB o).length≤300):SCall Tryz.prog 153 [.own q 0 vs.length,.agg (eO ⟨o,bs⟩)] [(q,.arr 5 1 (vs.map aG))]
  (fun y σ=>∃r,y=.own r 0 (vs++tP ⟨o,bs⟩).length∧σ=[(r,.arr 5 1 ((vs++tP ⟨o,bs⟩).map aG))]):=by
 have hu:=bG 1 bs.length (by omega);refine bS 16 [0,1,3,4] Tryz.func153 ?_;unfold eO;refine cZ ?_;refine gQ fun r3 h3=> ?_;intros
 refine cM ?_;refine fJ [(0,true),(1,true),(2,true),(4,true),(5,true),(6,true),(8,true),(9,true),(3,false),(7,false),(10,false),(11,true)] ?_;refine CG ?_;refine iC ?_;refine UD ?_;refine iC ?_;refine pD [(q,.arr 5 1 (vs.map aG))] rfl Tryz.call149 (EM q vs (by omega) o h) rfl aC aA eM ?_;rintro _ σ' ⟨r8,rfl,rfl⟩ h8;have k8:=aV h8;repeat rcases k8 with⟨_,k8⟩
 apply bQ;exact bD;refine pD [(r8,.arr 5 1 ((vs++qB o).map aG))] rfl Tryz.call135 (dU r8 (vs++qB o) (by simp;omega) bs.length (by omega)) rfl aC aA eM ?_;rintro _ σ' ⟨r12,rfl,rfl⟩ h12;have k12:=aV h12;repeat rcases k12 with⟨_,k12⟩
 apply bQ;exact bD;refine eZ rfl ((vs++qB o++uB bs.length++bs).map aG) (vs++qB o++uB bs.length++bs).length ?_;refine bE fun r15 h15=> ?_;intros
 refine wQ ?_;rw[show vs++qB o++uB bs.length++bs=vs++tP ⟨o,bs⟩ by unfold tP;simp];exact aD aE ⟨r15,by rfl,rfl⟩ aA
theorem PD(l:Li):SCall Tryz.prog 139 [.agg (gO l)] [] (fun y σ=>∃q,y=.own q 0 (gK l).length∧σ=[(q,.arr 26 3 ((gK l).map gO))]):=by
 obtain⟨has,mn,mx⟩:=l;refine bS 8 [0,1,2,5] Tryz.func139 ?_;unfold gO;refine cZ ?_;refine gQ fun r1 h1=> ?_;intros
 refine iJ ?_;refine nQ ?_;refine aB rfl (fun g1=> ?_) (fun g1=> ?_)
 ·obtain rfl:has=false:=by simpa using g1
  refine rH ?_;refine bP 2 26 3 (by decide) rfl (by decide) (bN fun q2 hq2=> ?_);repeat rcases hq2 with⟨_,hq2⟩
  refine aI ?_;exact aD aE ⟨q2,by rfl,rfl⟩ aA
 obtain rfl:has=true:=by simpa using g1
 refine nH ?_;refine eC fun r7 h7=> ?_;intros
 refine cM ?_;exact aD aE ⟨r7,by rfl,rfl⟩ aA
theorem wC{k n:Int}(hv:mK k n=true)(hn:-9223372036854775808≤n∧n≤9223372036854775807):(mA k n).length≤201:=by
 obtain⟨ho,hm,-⟩:=EE hv hn;have:=vB ho hm;unfold mA;rw[List.length_append,List.length_singleton];omega
theorem wD{n:Int}(h:gI n=true):(qB n).length≤202:=by
 have hr:-2147483648≤n∧n≤2147483647:=by unfold gI at h;simpa using h
 have:=wC (k:=1) (n:=n) (by unfold mK;simp;omega) (by omega);unfold qB;simp;omega
theorem UZ:iL Tryz.prog 5 134 (fun x=>.agg (eT x)) iQ (fun x=>(tQ x.mod&&tQ x.nm&&gG x.ty)=true) 50 10000000:=
 ⟨Tryz.call134,fun q vs x h hp hvs=>by
  obtain⟨a,b,n⟩:=x;simp only[Bool.and_eq_true]at h;obtain⟨⟨h1,h2⟩,h3⟩:=h;have l1:=(kV h1).2.2;have l2:=(kV h2).2.2;have l3:=LP h3;exact⟨by unfold iQ;simp;omega,aLt q vs hp hvs a b n h1 h2 h3⟩⟩
theorem VA:iL Tryz.prog 5 146 (fun x=>.agg (eA x)) nC (fun x=>(tQ x.nm&&gG x.fn)=true) 50 10000000:=
 ⟨Tryz.call146,fun q vs x h hp hvs=>by
  obtain⟨b,n⟩:=x;simp only[Bool.and_eq_true]at h;have l2:=(kV h.1).2.2;have l3:=LP h.2;exact⟨by unfold nC;simp;omega,aLu q vs hp hvs b n h.1 h.2⟩⟩
def PE (l:Li):Prop:=0≤l.mn∧l.mn≤100000∧l.mx≤100000
theorem wG{l:Li}(h:PE l):(dW l).length≤7:=by
 have h1:=bG 2 l.mn.toNat (by have:=h.2.1;omega);have h2:=bG 2 l.mx.toNat (by have:=h.2.2;omega);unfold dW cC;split
 ·simp;omega
 ·simp;omega
theorem VC:iL Tryz.prog 5 141 (fun x=>.agg (gO x)) dW PE 10 9000000:=
 ⟨Tryz.call141,fun q vs x h _ hvs=>⟨by have:=wG h;omega,vI q vs (by omega) x h.1 h.2.1 h.2.2⟩⟩
theorem VD:iL Tryz.prog 5 140 (fun x=>.agg (gO x)) (fun l=>112::dW l) PE 10 9000000:=
 ⟨Tryz.call140,fun q vs x h _ hvs=>⟨by have:=wG h;simp;omega,aLv q vs (by omega) x h.1 h.2.1 h.2.2⟩⟩
theorem VE:iL Tryz.prog 5 148 (fun x=>.agg (eQ x)) sE (fun x=>(gI x.off&&cF x.fs 50 gG)=true) 400 9000000:=
 ⟨Tryz.call148,fun q vs x h _ hvs=>by
  obtain⟨o,fs⟩:=x;simp only[Bool.and_eq_true]at h;have h1:fs.length≤50∧∀n∈fs,gG n=true:=by have:=h.2;unfold cF at this;simp at this;exact⟨by omega,this.2⟩
  have l1:=wD h.1;have l2:=jY (pt:=cC) (l:=fs) (c:=2) (fun x hx=>LP (h1.2 x hx)) (by omega);exact⟨by unfold sE;simp;omega,aLw q vs hvs o fs h.1 h1.1 h1.2 (by omega)⟩⟩
theorem aDA:iL Tryz.prog 5 153 (fun x=>.agg (eO x)) tP (fun x=>(gI x.off&&decide (x.bs.length≤1000))=true) 2000 9000000:=
 ⟨Tryz.call153,fun q vs x h _ hvs=>by
  obtain⟨o,bs⟩:=x;simp only[Bool.and_eq_true,decide_eq_true_eq]at h;have l1:=wD h.1;have l2:=bG 1 bs.length (by omega);exact⟨by unfold tP;simp;omega,aLx q vs hvs o bs h.1 h.2 (by omega)⟩⟩
theorem aA0{l:List Nat}{a b:Nat}:((l++ [a]).map aG).set (((l++ [a]).length:Int)-1).toNat [.int .u8 (b:Int)]=(l++ [b]).map aG:=by
 rw[show(((l++ [a]).length:Int)-1).toNat=l.length by simp,List.map_append,List.map_append,List.set_append,if_neg (by simp)];simp[aG]
theorem aDB{l:List Nat}{a:Nat}:(l++ [a])[(((l++ [a]).length:Nat)-1:Int).toNat]? =some a:=by
 rw[show(((l++ [a]).length:Nat)-1:Int).toNat=l.length by simp];simp
theorem aLy(q:Nat)(vs:List Nat)(hvs:vs.length≤9000000)(mu:Bool)(k n:Int)(hv:mK k n=true)(hn:-9223372036854775808≤n∧n≤9223372036854775807):SCall Tryz.prog 143 [.own q 0 vs.length,.agg (eU ⟨mu,k,n⟩)] [(q,.arr 5 1 (vs.map aG))]
  (fun y σ=>∃r,y=.own r 0 (vs++uH ⟨mu,k,n⟩).length∧σ=[(r,.arr 5 1 ((vs++uH ⟨mu,k,n⟩).map aG))]):=by
 have hkl:=nX k;refine bS 23 [0,1,3,4,13] Tryz.func143 ?_;unfold eU;refine cZ ?_;refine gQ fun r3 h3=> ?_;intros
 refine gZ ?_;refine qA ?_;refine cw [(q,.arr 5 1 (vs.map aG))] Tryz.call132 (sW q vs (by omega) k) rfl aC aA ?_;rintro _ σ' ⟨r9,rfl,rfl⟩ h9;have k9:=aV h9;repeat rcases k9 with⟨_,k9⟩
 apply aU;exact bD;refine eC fun r10 h10=> ?_;intros
 refine jQ ((vs++kB k++ [0]).map aG) (vs++kB k++ [0]).length ?_;refine bE fun r11 h11=> ?_;intros
 refine cM ?_;have hl:(vs++kB k++ [0]).length=vs.length+2:=by simp[hkl]
 refine mJ ?_;refine fO ?_;refine iI ?_;refine aB rfl (fun g2=> ?_) (fun g2=> ?_)
 ·obtain⟨z,hz⟩:∃z:Nat,z=1:=⟨_,rfl⟩
  have hat:=aDB (l:=vs++kB k) (a:=0);refine nF ?_;refine tF ?_;refine UC ?_;refine KP ?_;refine iI ?_;have hle:(vs++kB k++ [0]).length=(vs++kB k++ [1]).length:=by simp
  have hz1:vs++kB k++ [1]=vs++kB k++ [z]:=by rw[hz]
  have hset:=aA0 (l:=vs++kB k) (a:=0) (b:=1);rw[show(cV (.int .u8 1))=AV.int .u8 ((1:Nat):Int)from rfl,hset,hle,hz1];refine fV ?_;refine yK ?_;refine kP ?_;refine cw [(r11,.arr 5 1 ((vs++kB k++ [z]).map aG))] Tryz.call144 (qX r11 (vs++kB k++ [z]) (by simp;omega) k n hv hn) rfl aC aA ?_;rintro _ σ' ⟨r22,rfl,rfl⟩ h22;have k22:=aV h22;repeat rcases k22 with⟨_,k22⟩
  refine eY ?_;rw[show vs++kB k++ [z]++mA k n=vs++uH ⟨mu,k,n⟩ by unfold uH;rw[hz,g2];simp];exact aD aE ⟨r22,by rfl,rfl⟩ aA
 obtain⟨z,hz⟩:∃z:Nat,z=0:=⟨_,rfl⟩
 rw[show vs++kB k++ [0]=vs++kB k++ [z] by rw[hz]];refine cX ?_;refine yK ?_;refine kP ?_;refine cw [(r11,.arr 5 1 ((vs++kB k++ [z]).map aG))] Tryz.call144 (qX r11 (vs++kB k++ [z]) (by simp;omega) k n hv hn) rfl aC aA ?_;rintro _ σ' ⟨r22,rfl,rfl⟩ h22;have k22:=aV h22;repeat rcases k22 with⟨_,k22⟩
 refine eY ?_;rw[show vs++kB k++ [z]++mA k n=vs++uH ⟨mu,k,n⟩ by unfold uH;rw[hz,g2];simp];exact aD aE ⟨r22,by rfl,rfl⟩ aA
theorem VF:iL Tryz.prog 5 143 (fun x=>.agg (eU x)) uH (fun g=>mK g.kd g.n=true∧ -9223372036854775808≤g.n∧g.n≤9223372036854775807) 300 9000000:=
 ⟨Tryz.call143,fun q vs x h _ hvs=>by
  obtain⟨mu,k,n⟩:=x;have l1:=wC h.1 h.2;have l2:=nX k;exact⟨by unfold uH;simp;dsimp only at l1;omega,aLy q vs hvs mu k n h.1 h.2⟩⟩
end Go.Proofs.YtjpdadobblffmaaGreat
namespace Go.Proofs.YtjpdadobblffmaaGreat
open Go.RowKit Go.ChangeShapes Go.WideShapes Go.ChangeAt Go.Deep
abbrev St:=List Nat×Bool
def uI (s:St) (n:Int) (ok:Bool):St:=let bad:=s.2|| !ok||decide ((s.1.length:Int)<n);(if bad then s.1 else s.1.drop n.toNat,bad)
def gH (s:St):Nat×St:=let s':=uI s (lQ s.1).2.1 ((lQ s.1).2.2==0);(if s'.2 then 0 else(lQ s.1).1,s')
def kW (s:St):Nat×St:=if s.2||s.1.isEmpty then(0,(s.1,true))else(s.1[0]!,(s.1.drop 1,false))
def zM (s:St):List Nat×St:=let r:=gH s;let s':=uI r.2 r.1 true;(if s'.2 then []else r.2.1.take r.1,s')
def jS {α:Type} (get:St→α×St):Nat→St→List α×St
 |0,s=>([],s)
 |n+1,s=>if s.2 then([],s)else let r:=get s;let t:=jS get n r.2;(r.1::t.1,t.2)
def fS {α:Type} (get:St→α×St) (s:St):List α×St:=let r:=gH s;jS get r.1 r.2
def vJ (s:St):Int×St:=let r:=kW s;if(r.1==127)=true then(1,r.2)else if(r.1==126)=true then(2,r.2)else(0,(r.2.1,true))
def NA (s:St):(Int×Int)×St:=
 let g:=fB s.1
 let s1:=uI s g.2.1 ((g.2.2==0)&&(g.1.op==65||g.1.op==66))
 let s2:=(kW s1).2
 (if(g.1.op==66)=true then(2,g.1.a)else(1,g.1.a),s2)
def NB (s:St):Int×St:=let r:=NA (kW s).2;(r.1.2,r.2)
def VG (s:St):Li×St:=
 let b:=kW s
 let r:=gH b.2
 if(b.1 !=0)=true then let t:=gH r.2;(⟨true,r.1,t.1⟩,t.2)else(⟨true,r.1,-1⟩,r.2)
def SI:Nat→St→List Int→List Int×St
 |0,s,l=>(l,s)
 |n+1,s,l=>if s.2 then(l,s)else
  let m:=gH s
  let k:=vJ m.2
  if 32<m.1 then([],(k.2.1,true))else SI n k.2 (l++List.replicate m.1 k.1)
def yD (s:St):List Int×St:=let r:=gH s;SI r.1 r.2 []
def LQ (s:St):Co×St:=
 let r:=yD (gH s).2
 if r.2.2 then(⟨r.1,[]⟩,r.2)else
  let g:=lH r.2.1
  (⟨r.1,g.1⟩,uI r.2 g.2.1 (g.2.2==0))
def XR (s:St):FT×St:=let p:=fS vJ (kW s).2;let r:=fS vJ p.2;(⟨p.1,r.1⟩,r.2)
def XS (s:St):Int×St:=let r:=gH s;(r.1,r.2)
def ZO (s:St):Im×St:=let a:=zM s;let b:=zM a.2;let t:=gH (kW b.2).2;(⟨a.1,b.1,t.1⟩,t.2)
def ZP (s:St):Gl×St:=let k:=vJ s;let m:=kW k.2;let c:=NA m.2;(⟨m.1 !=0,c.1.1,c.1.2⟩,c.2)
def ZQ (s:St):Ex×St:=let a:=zM s;let t:=gH (kW a.2).2;(⟨a.1,t.1⟩,t.2)
def tbN (before:Bool) (s:St):Li×St:=VG (if before then(kW s).2 else s)
def PF (before:Bool) (s:St):Li×St:=let r:=fS (tbN before) s;(r.1.headD HR,r.2)
def eeN (s:St):El×St:=let o:=NB s;let l:=fS XS o.2;(⟨o.1,l.1⟩,l.2)
def ddN (s:St):Da×St:=let o:=NB s;let l:=zM o.2;(⟨o.1,l.1⟩,l.2)
def uA (no:Nat) (m:Md) (s:St):Md×St:=
 if no=1 then({ m with ty:=(fS XR s).1 },(fS XR s).2)
 else if no=2 then({ m with im:=(fS ZO s).1 },(fS ZO s).2)
 else if no=3 then({ m with fn:=(fS XS s).1 },(fS XS s).2)
 else if no=4 then({ m with tb:=(PF true s).1 },(PF true s).2)
 else if no=5 then({ m with me:=(PF false s).1 },(PF false s).2)
 else if no=6 then({ m with gl:=(fS ZP s).1 },(fS ZP s).2)
 else if no=7 then({ m with ex:=(fS ZQ s).1 },(fS ZQ s).2)
 else if no=9 then({ m with el:=(fS eeN s).1 },(fS eeN s).2)
 else if no=10 then({ m with co:=(fS LQ s).1 },(fS LQ s).2)
 else if no=11 then({ m with da:=(fS ddN s).1 },(fS ddN s).2)
 else(m,(s.1,true))
def dlN:Nat→Md→St→Md×St
 |0,m,s=>(m,s)
 |f+1,m,s=>if s.1.isEmpty||s.2 then(m,s)else
  let b:=kW s
  let t:=uA b.1 m (gH b.2).2
  dlN f t.1 t.2
def wU (b:List Nat):Md×St:=dlN (b.length+1) md0 (uI (b, !decide (b.take 8=headB)) 8 true)
def wV (b:List Nat):Md×Int:=
 if 8000<b.length then(md0,4)
 else if(wU b).2.2=true then(md0,1)
 else if kD (wU b).1=true∧eL (wU b).1=b then((wU b).1,0)else(md0,1)
def ZR {α:Type} (get:St→α×St) (pt:α→List Nat) (ok:α→Prop):Prop:=∀x,ok x→∀r,get (pt x++r,false)=(x,(r,false))
theorem PG{p r:List Nat}{n:Int}(hn:n=(p.length:Int)):uI (p++r,false) n true=(r,false):=by
 subst hn;unfold uI;have:decide ((((p++r,false):St).1.length:Int)<(p.length:Int))=false:=by simp;omega
 simp only[this];simp
theorem BR{v:Nat}(hv:v<4294967296)(r:List Nat):gH (uB v++r,false)=(v,(r,false)):=by
 unfold gH;dsimp only;rw[UK hv];dsimp only;rw[show((0:Int)==0)=true from rfl,PG rfl];rfl
theorem rS(c:Nat)(r:List Nat):kW (c::r,false)=(c,(r,false)):=by
 unfold kW;simp
theorem aFr{s:List Nat}(hs:s.length<4294967296)(r:List Nat):zM (uB s.length++s++r,false)=(s,(r,false)):=by
 unfold zM;rw[List.append_assoc,BR hs];dsimp only;rw[PG rfl];simp
theorem aFs{α:Type}{get:St→α×St}{pt:α→List Nat}{ok:α→Prop}(h:ZR get pt ok):∀ {l:List α},(∀x∈l,ok x)→∀r,jS get l.length (l.flatMap pt++r,false)=(l,(r,false))
 |[],_,r=>rfl
 |x::l,hl,r=>by
  rw[List.length_cons,jS,if_neg (by simp),List.flatMap_cons,List.append_assoc,h x (hl x List.mem_cons_self)];dsimp only;rw[aFs h (fun y hy=>hl y (List.mem_cons_of_mem _ hy))]
theorem tT{α:Type}{get:St→α×St}{pt:α→List Nat}{ok:α→Prop}(h:ZR get pt ok){l:List α}(hl:∀x∈l,ok x)(hn:l.length<4294967296)(r:List Nat):fS get (aY l pt++r,false)=(l,(r,false)):=by
 unfold fS aY;rw[List.append_assoc,BR hn];exact aFs h hl r
theorem VH:ZR vJ kB (fun k=>AG k=true):=by
 intro k hk r;have:k=1∨k=2:=by
  unfold AG at hk;by_cases h:k=1
  ·exact .inl h
  ·rw[if_neg (by simpa using h)]at hk;exact .inr (by simpa using hk)
 rcases this with rfl|rfl
 ·show vJ (127::r,false)=_;unfold vJ;rw[rS];rfl
 ·show vJ (126::r,false)=_;unfold vJ;rw[rS];rfl
theorem aFt:ZR XS cC (fun n=>gG n=true):=by
 intro n hn r;have h0:0≤n∧n≤1000:=by
  unfold gG at hn;by_cases h:0≤n
  ·rw[if_pos (by simpa using h)]at hn;exact⟨h,by simpa using hn⟩
  ·rw[if_neg (by simpa using h)]at hn;cases hn
 unfold XS cC;rw[BR (by omega)];simp;omega
theorem AT{n:Int}(h0:0≤n)(h1:n<4294967296)(r:List Nat):gH (cC n++r,false)=(n.toNat,(r,false)):=BR (by omega) r
theorem aFu{k n:Int}(h:mK k n=true)(hn:-9223372036854775808≤n∧n≤9223372036854775807)(r:List Nat):NA (mA k n++r,false)=((k,n),(r,false)):=by
 obtain⟨ho,hm,hk⟩:=EE h hn;have key:∀op:Int,(⟨op,n,0,[]⟩:Ins).Ok→cT ⟨op,n,0,[]⟩=true→(op=65∨op=66)→NA (gE ⟨op,n,0,[]⟩++ [11]++r,false)=(if(op==66)=true then(2,n)else(1,n),(r,false)):=by
  intro op ho hm hop;unfold NA;dsimp only;rw[List.append_assoc,LF ho hm];dsimp only;rw[show(((0:Int)==0)&&((op==65)||(op==66)))=true by rcases hop with rfl|rfl<;>rfl,PG rfl];show(_,(kW (11::r,false)).2)=_;rw[rS]
 unfold mA;rcases hk with rfl|rfl
 ·exact key 65 ho hm (.inl rfl)
 ·exact key 66 ho hm (.inr rfl)
theorem aFv{n:Int}(h:gI n=true)(r:List Nat):NB (qB n++r,false)=(n,(r,false)):=by
 unfold gI at h;simp only[Bool.and_eq_true,decide_eq_true_eq]at h;unfold NB qB;rw[List.cons_append,rS];dsimp only;rw[aFu (by unfold mK;simp;omega) (by omega)]
theorem aFw{l:Li}{a c:Int}(h:kI l a c=true)(hh:l.has=true)(ha:a≤100000)(hc:c≤100000)(r:List Nat):VG (dW l++r,false)=(l,(r,false)):=by
 obtain⟨has,mn,mx⟩:=l;dsimp only at hh;subst hh;unfold kI at h;simp only[if_true,Bool.and_eq_true,decide_eq_true_eq]at h;obtain⟨⟨⟨h1,h2⟩,h3⟩,h4⟩:=h;by_cases hx:mx<0
 ·rw[show dW ⟨true,mn,mx⟩=0::cC mn by unfold dW;rw[if_pos (by simpa using hx)]];unfold VG;rw[List.cons_append,rS];dsimp only;rw[AT h1 (by omega)];simp;omega
 ·rw[show dW ⟨true,mn,mx⟩=1::(cC mn++cC mx) by unfold dW;rw[if_neg (by simpa using hx)]];unfold VG;rw[List.cons_append,rS];dsimp only;rw[List.append_assoc,AT h1 (by omega)];dsimp only;rw[if_pos (by decide),AT (by omega) (by omega)];simp;omega
theorem AU(l:List Int)(k:Int):bY (l++ [k])=match(bY l).getLast? with
 |some (x::xs)=>if x==k then(bY l).dropLast++ [(x::xs)++ [k]]else bY l++ [[k]]
 | _=>bY l++ [[k]]:=by
 unfold bY;rw[List.foldl_append];rfl
theorem zN:∀(n:Nat) (l:List Int),l.length=n→(bY l).flatten=l∧∀r∈bY l,∃k m,r=List.replicate (m+1) k∧k∈l∧m+1≤l.length
 |0,l,h=>by
  obtain rfl:l=[]:=List.length_eq_zero_iff.1 h;exact⟨rfl,by simp[bY]⟩
 |n+1,l,h=>by
  obtain⟨t,k,rfl⟩:∃t k,l=t++ [k]:=by
   have:l≠ []:=by intro e;subst e;simp at h
   exact⟨l.dropLast,l.getLast this,(List.dropLast_concat_getLast this).symm⟩
  obtain⟨h1,h2⟩:=zN n t (by simpa using h);rw[AU];have hnew:(bY t++ [[k]]).flatten=t++ [k]∧∀r∈bY t++ [[k]],∃k' m,r=List.replicate (m+1) k'∧k'∈t++ [k]∧m+1≤(t++ [k]).length:=by
   refine⟨by rw[List.flatten_append,h1];rfl,fun r hr=> ?_⟩;rcases List.mem_append.1 hr with hr|hr
   ·obtain⟨k',m,e1,e2,e3⟩:=h2 r hr;exact⟨k',m,e1,List.mem_append_left _ e2,by simp;omega⟩
   ·exact⟨k,0,by simpa using hr,by simp,by simp⟩
  split
  ·next x xs hl=>
   split
   ·next hx=>
    obtain rfl:x=k:=by simpa using hx
    have hne:bY t≠ []:=by intro e;rw[e]at hl;cases hl
    have hd:bY t=(bY t).dropLast++ [x::xs]:=by
     have:=List.dropLast_concat_getLast hne;rw[List.getLast?_eq_some_getLast hne]at hl;rw[Option.some.inj hl]at this;exact this.symm
    obtain⟨k',m,e1,e2,e3⟩:=h2 (x::xs) (by rw[hd];simp);obtain rfl:x=k':=by rw[List.replicate_succ]at e1;exact(List.cons.inj e1).1
    refine⟨?_,fun r hr=> ?_⟩
    ·rw[List.flatten_append]
     conv=>rhs;rw[←h1,hd]
     simp
    ·rcases List.mem_append.1 hr with hr|hr
     ·obtain⟨k',m,e1,e2,e3⟩:=h2 r (List.dropLast_sublist _ |>.subset hr);exact⟨k',m,e1,List.mem_append_left _ e2,by simp;omega⟩
     ·refine⟨x,m+1, ?_,by simp,by simp;omega⟩;rw[show r=x::xs++ [x] by simpa using hr,e1];exact List.replicate_succ'.symm
   ·exact hnew
  ·exact hnew
theorem aFx{l:List Int}(hk:∀k∈l,AG k=true):∀ {rs:List (List Int)},(∀r∈rs,∃k m,r=List.replicate (m+1) k∧k∈l∧m+1≤32)→∀(acc:List Int) (t:List Nat),SI rs.length (rs.flatMap gW++t,false) acc=(acc++rs.flatten,(t,false))
 |[],_,acc,t=>by simp[SI]
 |r::rs,h,acc,t=>by
  obtain⟨k,m,rfl,hkl,hm⟩:=h r List.mem_cons_self;rw[List.length_cons,SI,if_neg (by simp),List.flatMap_cons,List.append_assoc];have h1:gW (List.replicate (m+1) k)=cC ((m+1:Nat):Int)++kB k:=by unfold gW;rw[List.length_replicate,List.replicate_succ];rfl
  rw[h1,List.append_assoc,AT (by omega) (by omega)];dsimp only;rw[VH k (hk k hkl)];dsimp only;rw[Int.toNat_natCast,if_neg (by omega),aFx hk (fun r hr=>h r (List.mem_cons_of_mem _ hr))];simp
theorem aJh{l:List Int}(hk:∀k∈l,AG k=true)(hl:l.length≤32)(t:List Nat):yD (aY (bY l) gW++t,false)=(l,(t,false)):=by
 obtain⟨h1,h2⟩:=zN _ l rfl;have hr:∀(rs:List (List Int)),(∀r∈rs,∃k m,r=List.replicate (m+1) k∧k∈l∧m+1≤l.length)→rs.length≤rs.flatten.length:=by
  intro rs
  induction rs with
  |nil=>simp
  |cons r rs ih=>
   intro h;obtain⟨k,m,rfl,-,-⟩:=h r List.mem_cons_self;have:=ih fun r hr=>h r (List.mem_cons_of_mem _ hr)
   simp at this⊢;omega
 have hn:=hr _ h2;rw[h1]at hn;unfold yD aY;rw[List.append_assoc,BR (by omega)];dsimp only;rw[aFx hk (fun r hr=>by obtain⟨k,m,a,b,c⟩:=h2 r hr;exact⟨k,m,a,b,by omega⟩),h1];rfl
theorem cD{α:Type}{l:List α}{most:Int}{p:α→Bool}(h:cF l most p=true):(l.length:Int)≤most∧∀x∈l,p x=true:=by
 unfold cF at h;simpa using h
def OkC (c:Co):Prop:=sR c=true∧(∀x∈c.bd,x.Ok)∧(aY (bY c.ls) gW++iK c.bd).length<4294967296
theorem aJi:ZR LQ kC OkC:=by
 rintro⟨ls,bd⟩ ⟨h,hO,hlen⟩ t;unfold sR at h;simp only[Bool.and_eq_true]at h;obtain⟨⟨h1,h2⟩,h3⟩:=h;obtain⟨k1,k2⟩:=cD h2;obtain⟨k3,k4⟩:=cD h3;have hm:∀x∈bd,x.Ok∧cT x=true:=fun x hx=>⟨hO x hx,k4 x hx⟩
 unfold LQ kC;dsimp only;rw[List.append_assoc,BR hlen];dsimp only;rw[List.append_assoc,aJh k2 (by omega)];dsimp only;rw[if_neg (by simp),XM hm h1];dsimp only;rw[show((0:Int)==0)=true from rfl,PG rfl]
theorem aJj:ZR XR vE (fun t=>(cF t.pr 32 AG&&cF t.rs 1 AG)=true):=by
 rintro⟨pr,rs⟩ h t;simp only[Bool.and_eq_true]at h;obtain⟨k1,k2⟩:=cD h.1;obtain⟨k3,k4⟩:=cD h.2;unfold XR vE;rw[List.cons_append,rS];dsimp only;rw[List.append_assoc,tT VH k2 (by omega)];dsimp only;rw[tT VH k4 (by omega)]
theorem aGY{s:List Nat}(h:tQ s=true):s.length≤16:=by
 unfold tQ at h;split at h
 ·simp only[Bool.and_eq_true,decide_eq_true_eq]at h;exact h.1
 ·cases h
theorem LS{n:Int}(h:gG n=true):0≤n∧n≤1000:=by
 unfold gG at h;by_cases h0:0≤n
 ·rw[if_pos (by simpa using h0)]at h;exact⟨h0,by simpa using h⟩
 ·rw[if_neg (by simpa using h0)]at h;cases h
theorem aA5{s:List Nat}(h:tQ s=true)(t:List Nat):zM (bI s++t,false)=(s,(t,false)):=aFr (by have:=aGY h;omega) t
theorem aJk:ZR ZO iQ (fun x=>(tQ x.mod&&tQ x.nm&&gG x.ty)=true):=by
 rintro⟨a,b,n⟩ h t;simp only[Bool.and_eq_true]at h;obtain⟨⟨h1,h2⟩,h3⟩:=h;have h3:=LS h3;unfold ZO iQ;dsimp only;rw[List.append_assoc,List.append_assoc,List.append_assoc,aA5 h1];dsimp only;rw[aA5 h2];dsimp only;rw[List.cons_append,rS];dsimp only[List.nil_append];rw[AT h3.1 (by omega)];simp;omega
theorem aJl:ZR ZQ nC (fun x=>(tQ x.nm&&gG x.fn)=true):=by
 rintro⟨a,n⟩ h t;simp only[Bool.and_eq_true]at h;have h3:=LS h.2;unfold ZQ nC;dsimp only;rw[List.append_assoc,List.append_assoc,aA5 h.1];dsimp only;rw[List.cons_append,rS];dsimp only[List.nil_append];rw[AT h3.1 (by omega)];simp;omega
theorem XT{k n:Int}(h:mK k n=true):AG k=true:=by
 unfold mK at h;simp only[Bool.or_eq_true,Bool.and_eq_true,beq_iff_eq,decide_eq_true_eq]at h;rcases h with⟨⟨rfl,-⟩,-⟩|rfl<;>rfl
theorem aJm:ZR ZP uH (fun g=>mK g.kd g.n=true∧ -9223372036854775808≤g.n∧g.n≤9223372036854775807):=by
 rintro⟨mu,k,n⟩ ⟨h,hn⟩ t;dsimp only at h hn;unfold ZP uH;dsimp only;rw[List.append_assoc,List.append_assoc,VH k (XT h)];dsimp only;rw[List.cons_append,rS];dsimp only[List.nil_append];rw[aFu h hn];cases mu<;>rfl
theorem aJn:ZR eeN sE (fun x=>(gI x.off&&cF x.fs 50 gG)=true):=by
 rintro⟨o,fs⟩ h t;simp only[Bool.and_eq_true]at h;obtain⟨k1,k2⟩:=cD h.2;unfold eeN sE;dsimp only;rw[List.append_assoc,aFv h.1];dsimp only;rw[tT aFt k2 (by omega)]
theorem aJo:ZR ddN tP (fun x=>(gI x.off&&decide (x.bs.length≤1000))=true):=by
 rintro⟨o,bs⟩ h t;simp only[Bool.and_eq_true,decide_eq_true_eq]at h;unfold ddN tP;dsimp only;rw[List.append_assoc,List.append_assoc,aFv h.1];dsimp only;rw[←List.append_assoc,aFr (by omega)]
def NI {α:Type} (get:St→α×St):Prop:=∀s,(get s).2.1.length≤s.1.length
theorem PH(s:St)(n:Int)(ok:Bool):(uI s n ok).1.length≤s.1.length:=by
 unfold uI;dsimp only;split
 ·exact Nat.le_refl _
 ·simp
theorem qC:NI gH:=fun s=>by unfold gH;exact PH _ _ _
theorem tU:NI kW:=fun s=>by
 unfold kW;split
 ·exact Nat.le_refl _
 ·simp
theorem aFy(s:St)(h:s.1≠ [])(hb:s.2=false):(kW s).2.1.length<s.1.length:=by
 obtain⟨l,b⟩:=s;dsimp only at h hb;subst hb;cases l with
 |nil=>exact absurd rfl h
 |cons c l=>rw[rS];simp
theorem VI:NI zM:=fun s=>by unfold zM;exact Nat.le_trans (PH _ _ _) (qC s)
theorem aFz{α:Type}{get:St→α×St}(h:NI get):∀n s,(jS get n s).2.1.length≤s.1.length
 |0,s=>Nat.le_refl _
 |n+1,s=>by
  rw[jS];split
  ·exact Nat.le_refl _
  ·exact Nat.le_trans (aFz h n _) (h s)
theorem tV{α:Type}{get:St→α×St}(h:NI get):NI (fS get):=fun s=>Nat.le_trans (aFz h _ _) (qC s)
theorem PI:NI vJ:=fun s=>by
 unfold vJ;dsimp only;split
 ·exact tU s
 ·split
  ·exact tU s
  ·exact tU s
theorem aFA:NI NA:=fun s=>by unfold NA;exact Nat.le_trans (tU _) (PH _ _ _)
theorem aFB:NI NB:=fun s=>by unfold NB;exact Nat.le_trans (aFA _) (tU s)
theorem aFC:NI VG:=fun s=>by
 unfold VG;dsimp only;split
 ·exact Nat.le_trans (qC _) (Nat.le_trans (qC _) (tU s))
 ·exact Nat.le_trans (qC _) (tU s)
theorem aFD:∀n s l,(SI n s l).2.1.length≤s.1.length
 |0,s,l=>Nat.le_refl _
 |n+1,s,l=>by
  rw[SI];split
  ·exact Nat.le_refl _
  ·dsimp only;split
   ·exact Nat.le_trans (PI _) (qC s)
   ·exact Nat.le_trans (aFD n _ _) (Nat.le_trans (PI _) (qC s))
theorem aFE:NI yD:=fun s=>by unfold yD;exact Nat.le_trans (aFD _ _ _) (qC s)
theorem aJp:NI LQ:=fun s=>by
 unfold LQ;dsimp only;split
 ·exact Nat.le_trans (aFE _) (qC s)
 ·exact Nat.le_trans (PH _ _ _) (Nat.le_trans (aFE _) (qC s))
theorem aJq:NI XR:=fun s=>by unfold XR;exact Nat.le_trans (tV PI _) (Nat.le_trans (tV PI _) (tU s))
theorem aFF:NI XS:=fun s=>qC s
theorem aJr:NI ZO:=fun s=>by unfold ZO;exact Nat.le_trans (qC _) (Nat.le_trans (tU _) (Nat.le_trans (VI _) (VI s)))
theorem aJs:NI ZP:=fun s=>by unfold ZP;exact Nat.le_trans (aFA _) (Nat.le_trans (tU _) (PI s))
theorem aJt:NI ZQ:=fun s=>by unfold ZQ;exact Nat.le_trans (qC _) (Nat.le_trans (tU _) (VI s))
theorem aJu(b:Bool):NI (tbN b):=fun s=>by
 unfold tbN;split
 ·exact Nat.le_trans (aFC _) (tU s)
 ·exact aFC s
theorem aFG(b:Bool):NI (PF b):=fun s=>tV (aJu b) s
theorem aJv:NI eeN:=fun s=>by unfold eeN;exact Nat.le_trans (tV aFF _) (aFB s)
theorem aJw:NI ddN:=fun s=>by unfold ddN;exact Nat.le_trans (VI _) (aFB s)
theorem aFH(no:Nat)(m:Md)(s:St):(uA no m s).2.1.length≤s.1.length:=by
 unfold uA;repeat' split
 ·exact tV aJq s
 ·exact tV aJr s
 ·exact tV aFF s
 ·exact aFG true s
 ·exact aFG false s
 ·exact tV aJs s
 ·exact tV aJt s
 ·exact tV aJv s
 ·exact tV aJp s
 ·exact tV aJw s
 ·exact Nat.le_refl _
theorem zO:∀(f f':Nat) (m:Md) (s:St),s.1.length<f→s.1.length<f'→dlN f m s=dlN f' m s
 |0,_,_,s,h,_=>absurd h (Nat.not_lt_zero _)
 | _ +1,0,_,s,_,h=>absurd h (Nat.not_lt_zero _)
 |f+1,f'+1,m,s,h,h'=>by
  rw[dlN,dlN];split
  ·rfl
  ·next hc=>
   simp only[Bool.or_eq_true,not_or,Bool.not_eq_true]at hc;have h1:=aFy s (by intro e;rw[e]at hc;simp at hc) hc.2;have h2:=qC (kW s).2;have h3:=aFH (kW s).1 m (gH (kW s).2).2;exact zO f f' _ _ (by omega) (by omega)
def DN (m:Md) (s:St):Md×St:=dlN (s.1.length+1) m s
theorem aGZ(m:Md):DN m ([],false)=(m,([],false)):=rfl
theorem qY{α:Type}{no:Nat}{l:List α}{pt:α→List Nat}{m m':Md}{r:List Nat}(h0:l=[]→m'=m)(hv:(aY l pt).length<4294967296)
  (hs:uA no m (aY l pt++r,false)=(m',(r,false))):DN m (bB no l pt++r,false)=DN m' (r,false):=by
 unfold bB;by_cases hl:l=[]
 ·subst hl;rw[h0 rfl];rfl
 ·rw[if_neg (by simpa using hl)];unfold DN;rw[dlN,if_neg (by simp)];dsimp only;rw[List.cons_append,rS];dsimp only;rw[List.append_assoc,BR hv];dsimp only;rw[hs];dsimp only;exact zO _ _ _ _ (by simp;omega) (by simp)
theorem PJ{α:Type}{pt:α→List Nat}:∀ {l:List α} {x:α},x∈l→(pt x).length≤(l.flatMap pt).length
 |y::l,x,h=>by
  rw[List.flatMap_cons,List.length_append];rcases List.mem_cons.1 h with rfl|h
  ·omega
  ·have:=PJ (pt:=pt) h;omega
theorem aA6{α:Type}{no:Nat}{l:List α}{pt:α→List Nat}:(l≠ []→(aY l pt).length≤(bB no l pt).length):=by
 intro h;unfold bB;rw[if_neg (by simpa using h)];simp;omega
def Md.Ok (m:Md):Prop:=(∀c∈m.co,∀x∈c.bd,x.Ok)∧∀g∈m.gl,-9223372036854775808≤g.n∧g.n≤9223372036854775807
theorem aDC{α:Type}{l:List α}{pt:α→List Nat}(h:l=[]):(aY l pt).length<4294967296:=by subst h;unfold aY;rw[List.length_nil,tO (by omega)];simp
theorem qZ{α:Type}{no:Nat}{l:List α}{pt:α→List Nat}(h:(bB no l pt).length≤8000):(aY l pt).length<4294967296:=by
 by_cases hl:l=[]
 ·exact aDC hl
 ·have:=aA6 (no:=no) (pt:=pt) hl;omega
theorem SJ{l:Li}{a c:Int}(h:kI l a c=true)(hh:l.has=false):l=HR:=by
 obtain⟨has,mn,mx⟩:=l;dsimp only at hh;subst hh;unfold kI at h;simp at h;obtain⟨rfl,rfl⟩:=h;rfl
theorem aFI{l:Li}{a c:Int}{pt:Li→List Nat}(before:Bool)(hpt:pt=fun l=>if before then 112::dW l else dW l)(h:kI l a c=true)(ha:a≤100000)(hc:c≤100000)(r:List Nat):PF before (aY (gK l) pt++r,false)=(l,(r,false)):=by
 subst hpt;unfold PF gK;cases hh:l.has with
 |false=>
  rw[if_neg (by decide),show aY ([]:List Li) (fun l=>if before=true then 112::dW l else dW l)=uB 0 by unfold aY;simp];unfold fS;rw[BR (by decide),SJ h hh];rfl
 |true=>
  have hb:ZR (tbN before) (fun l=>if before then 112::dW l else dW l) (fun l=>kI l a c=true∧l.has=true):=by
   rintro x ⟨h1,h2⟩ t;unfold tbN;cases before
   ·exact aFw h1 h2 ha hc t
   ·show VG (kW (112::(dW x++t),false)).2=_;rw[rS];exact aFw h1 h2 ha hc t
  rw[if_pos rfl,tT hb (by simp;exact⟨h,hh⟩) (by simp)];rfl
theorem aA7{m:Md}(h:kD m=true)(hO:m.Ok):wU (eL m)=(m,([],false)):=by
 obtain⟨ty,im,fn,tb,me,gl,ex,el,co,da⟩:=m;unfold kD at h;simp only[Bool.and_eq_true,decide_eq_true_eq]at h;obtain⟨⟨⟨⟨⟨-,hco⟩,hls⟩,htb⟩,hme⟩,hw⟩:=h;unfold mB at hls;simp only[Bool.and_eq_true]at hls;obtain⟨⟨⟨⟨⟨⟨hty,him⟩,hfn⟩,hgl⟩,hex⟩,hel⟩,hda⟩:=hls;obtain⟨hO1,hO2⟩:=hO;dsimp only at*;unfold eL at hw;dsimp only at hw;simp only[List.length_append]at hw;unfold wU;have hbd:uI (eL ⟨ty,im,fn,tb,me,gl,ex,el,co,da⟩, !decide ((eL ⟨ty,im,fn,tb,me,gl,ex,el,co,da⟩).take 8=headB)) 8 true=(bB 1 ty vE++(bB 2 im iQ++(bB 3 fn cC++(bB 4 (gK tb) (fun l=>112::dW l)++(bB 5 (gK me) dW++(bB 6 gl uH++(bB 7 ex nC++(bB 9 el sE++(bB 10 co kC++(bB 11 da tP++ []))))))))),false):=by
  have hsp:eL ⟨ty,im,fn,tb,me,gl,ex,el,co,da⟩=headB++(bB 1 ty vE++(bB 2 im iQ++(bB 3 fn cC++(bB 4 (gK tb) (fun l=>112::dW l)++(bB 5 (gK me) dW++(bB 6 gl uH++(bB 7 ex nC++(bB 9 el sE++(bB 10 co kC++(bB 11 da tP++ [])))))))))):=by
   unfold eL;simp only[List.append_assoc,List.append_nil]
  rw[hsp,show(headB++ _).take 8=headB from List.take_left' rfl,decide_eq_true rfl];exact PG rfl
 rw[hbd];have hfuel:∀(s:St) (m:Md),s.1.length≤(eL ⟨ty,im,fn,tb,me,gl,ex,el,co,da⟩).length→dlN ((eL ⟨ty,im,fn,tb,me,gl,ex,el,co,da⟩).length+1) m s=DN m s:=fun s m hs=>zO _ _ _ _ (by omega) (by omega)
 rw[hfuel _ _ (by unfold eL;simp only[List.length_append,List.length_nil];omega)];have hoc:∀c∈co,OkC c:=fun c hc=>⟨(cD hco).2 c hc,hO1 c hc,by
  have h1:=PJ (pt:=kC) hc;have h2:(aY co kC).length≤(bB 10 co kC).length:=aA6 (by intro e;rw[e]at hc;cases hc);unfold aY at h2;have h3:(aY (bY c.ls) gW++iK c.bd).length≤(kC c).length:=by unfold kC;simp
  rw[List.length_append]at h2;omega⟩
 rw[qY (m':=⟨ty,[],[],HR,HR,[],[],[],[],[]⟩) (fun e=>by rw[e];rfl) (qZ (no:=1) (by omega)) (by unfold uA;rw[if_pos rfl,tT aJj (cD hty).2 (by have:=(cD hty).1;omega)];rfl)];rw[qY (m':=⟨ty,im,[],HR,HR,[],[],[],[],[]⟩) (fun e=>by rw[e]) (qZ (no:=2) (by omega)) (by unfold uA;rw[if_neg (by decide),if_pos rfl,tT aJk (cD him).2 (by have:=(cD him).1;omega)])];rw[qY (m':=⟨ty,im,fn,HR,HR,[],[],[],[],[]⟩) (fun e=>by rw[e]) (qZ (no:=3) (by omega)) (by unfold uA;rw[if_neg (by decide),if_neg (by decide),if_pos rfl,tT aFt (cD hfn).2 (by have:=(cD hfn).1;omega)])];have e4:gK tb=[]→tb=HR:=fun e=>SJ htb (by unfold gK at e;cases hh:tb.has;rfl;rw[hh]at e;cases e)
 have e5:gK me=[]→me=HR:=fun e=>SJ hme (by unfold gK at e;cases hh:me.has;rfl;rw[hh]at e;cases e)
 rw[qY (m':=⟨ty,im,fn,tb,HR,[],[],[],[],[]⟩) (fun e=>by rw[e4 e]) (qZ (no:=4) (by omega)) (by unfold uA;rw[if_neg (by decide),if_neg (by decide),if_neg (by decide),if_pos rfl,aFI (pt:=fun l=>112::dW l) true rfl htb (by decide) (by decide)])];rw[qY (m':=⟨ty,im,fn,tb,me,[],[],[],[],[]⟩) (fun e=>by rw[e5 e]) (qZ (no:=5) (by omega)) (by unfold uA;rw[if_neg (by decide),if_neg (by decide),if_neg (by decide),if_neg (by decide),if_pos rfl,aFI (pt:=dW) false rfl hme (by decide) (by decide)])];rw[qY (m':=⟨ty,im,fn,tb,me,gl,[],[],[],[]⟩) (fun e=>by rw[e]) (qZ (no:=6) (by omega)) (by unfold uA;rw[if_neg (by decide),if_neg (by decide),if_neg (by decide),if_neg (by decide),if_neg (by decide),if_pos rfl,tT aJm (fun g hg=>⟨(cD hgl).2 g hg,hO2 g hg⟩) (by have:=(cD hgl).1;omega)])];rw[qY (m':=⟨ty,im,fn,tb,me,gl,ex,[],[],[]⟩) (fun e=>by rw[e]) (qZ (no:=7) (by omega)) (by unfold uA;rw[if_neg (by decide),if_neg (by decide),if_neg (by decide),if_neg (by decide),if_neg (by decide),if_neg (by decide),if_pos rfl,tT aJl (cD hex).2 (by have:=(cD hex).1;omega)])];rw[qY (m':=⟨ty,im,fn,tb,me,gl,ex,el,[],[]⟩) (fun e=>by rw[e]) (qZ (no:=9) (by omega)) (by unfold uA;rw[if_neg (by decide),if_neg (by decide),if_neg (by decide),if_neg (by decide),if_neg (by decide),if_neg (by decide),if_neg (by decide),if_pos rfl,tT aJn (cD hel).2 (by have:=(cD hel).1;omega)])]
 rw[qY (m':=⟨ty,im,fn,tb,me,gl,ex,el,co,[]⟩) (fun e=>by rw[e]) (qZ (no:=10) (by omega)) (by unfold uA;rw[if_neg (by decide),if_neg (by decide),if_neg (by decide),if_neg (by decide),if_neg (by decide),if_neg (by decide),if_neg (by decide),if_neg (by decide),if_pos rfl,tT aJi hoc (by have:=(cD hco).1;omega)])];rw[qY (m':=⟨ty,im,fn,tb,me,gl,ex,el,co,da⟩) (fun e=>by rw[e]) (qZ (no:=11) (by omega)) (by unfold uA;rw[if_neg (by decide),if_neg (by decide),if_neg (by decide),if_neg (by decide),if_neg (by decide),if_neg (by decide),if_neg (by decide),if_neg (by decide),if_neg (by decide),if_pos rfl,tT aJo (cD hda).2 (by have:=(cD hda).1;omega)])];exact aGZ _
theorem PK{m:Md}(h:kD m=true)(hO:m.Ok):wV (eL m)=(m,0):=by
 have h1:=aA7 h hO;have h2:(eL m).length≤8000:=by
  unfold kD at h;simp only[Bool.and_eq_true,decide_eq_true_eq]at h;exact h.2
 unfold wV;rw[if_neg (by omega),h1,if_neg (by simp),if_pos ⟨h,rfl⟩]
end Go.Proofs.YtjpdadobblffmaaGreat
namespace Go.Proofs.YtjpdadobblffmaaGreat
open Go.RowKit Go.ChangeShapes Go.WideShapes Go.ChangeAt Go.Deep
attribute [local irreducible] SW RS RD fF eB
theorem XU{l:List Int}{j:Nat}{k:Int}(h:l[j]? =some k):∃(init:List (List Int)) (m:Nat),bY (l.take (j+1))=init++ [List.replicate (m+1) k]∧init.length+1≤j+1∧m+1≤j+1:=by
 have hj:=(List.getElem?_eq_some_iff.1 h).1;obtain⟨h1,h2⟩:=zN _ (l.take (j+1)) rfl;have hlen:(l.take (j+1)).length=j+1:=by simp;omega
 rw[hlen]at h2;have hr:∀(rs:List (List Int)),(∀r∈rs,∃k m,r=List.replicate (m+1) k∧k∈l.take (j+1)∧m+1≤j+1)→rs.length≤rs.flatten.length:=by
  intro rs
  induction rs with
  |nil=>simp
  |cons r rs ih=>
   intro h;obtain⟨k,m,rfl,-,-⟩:=h r List.mem_cons_self;have:=ih fun r hr=>h r (List.mem_cons_of_mem _ hr)
   simp at this⊢;omega
 have hn:=hr _ h2;rw[h1,hlen]at hn;rcases List.eq_nil_or_concat (bY (l.take (j+1)))with e|⟨init,r,e⟩
 ·rw[e]at h1;have:=congrArg List.length h1;rw[hlen]at this;simp at this
 ·rw[List.concat_eq_append]at e;rw[e]at h1 h2 hn;obtain⟨k',m,rfl,-,hm⟩:=h2 r (by simp);have hk:k'=k:=by
   have e2:=congrArg (fun t=>t[j]?) h1;rw[List.take_add_one,h]at h1;rw[List.flatten_append,List.replicate_succ']at h1;simp only[List.flatten_cons,List.flatten_nil,List.append_nil,Option.toList,←List.append_assoc]at h1;exact(List.append_inj' h1 rfl).2|>List.cons.inj|>.1
  subst hk;exact⟨init,m,e,by simpa using hn,hm⟩
theorem JH{l:List Int}{j:Nat}{x:Int}{init:List (List Int)}{m:Nat}(h:bY (l.take j)=init++ [List.replicate (m+1) x])(hx:l[j]? =some x):bY (l.take (j+1))=init++ [List.replicate (m+1) x++ [x]]:=by
 rw[List.take_add_one,hx];show bY (l.take j++ [x])=_;rw[AU,h,List.getLast?_append];simp[List.replicate_succ]
theorem PL{l:List Int}{j:Nat}{x k:Int}{init:List (List Int)}{m:Nat}(h:bY (l.take j)=init++ [List.replicate (m+1) k])(hx:l[j]? =some x)(hk:k≠x):bY (l.take (j+1))=init++ [List.replicate (m+1) k]++ [[x]]:=by
 rw[List.take_add_one,hx];show bY (l.take j++ [x])=_;rw[AU,h,List.getLast?_append];simp[List.replicate_succ,hk]
theorem PM{l:List Int}{x:Int}(hx:l[0]? =some x):bY (l.take 1)=[[x]]:=by
 rw[List.take_add_one,hx];rfl
theorem EN{r:List Int}(h:r.length≤1000):(gW r).length≤3:=by
 have:=bG 1 r.length (by omega);unfold gW cC;rw[List.length_append,nX,Int.toNat_natCast];omega
theorem aJx(q:Nat)(vs:List Nat)(hvs:vs.length≤10000000)(r:List Int)(h1:0<r.length)(h2:r.length≤1000):SCall Tryz.prog 247 [.own q 0 vs.length,.ro 1 (r.map aK) .any] [(q,.arr 5 1 (vs.map aG))]
  (fun y σ=>∃p,y=.own p 0 (vs++gW r).length∧σ=[(p,.arr 5 1 ((vs++gW r).map aG))]):=by
 have hu:=bG 1 r.length (by omega);obtain⟨k,hk⟩:∃k,r[(0:Int).toNat]? =some k:=⟨_,List.getElem?_eq_getElem (by simpa using h1)⟩
 refine bS 13 [0,1,4] Tryz.func247 ?_;refine bF ?_;refine fJ [(0,true),(1,true),(2,true),(4,true),(5,true),(6,true),(3,false),(7,false),(8,true)] ?_;refine lF ?_;refine OH ?_;refine nG ?_;refine pD [(q,.arr 5 1 (vs.map aG))] rfl Tryz.call135 (dU q vs (by omega) r.length (by omega)) rfl aC aA eM ?_;rintro _ σ' ⟨r8,rfl,rfl⟩ h8;have k8:=aV h8;repeat rcases k8 with⟨_,k8⟩
 apply bQ;exact bD;refine pD [(r8,.arr 5 1 ((vs++uB r.length).map aG))] rfl Tryz.call132 (sW r8 (vs++uB r.length) (by simp;omega) k) rfl aC aA eM ?_;rintro _ σ' ⟨r12,rfl,rfl⟩ h12;have k12:=aV h12;repeat rcases k12 with⟨_,k12⟩
 refine tI ?_;rw[show vs++uB r.length++kB k=vs++gW r by unfold gW cC;rw[Int.toNat_natCast,List.append_assoc,show r.headD 0=k by cases r with|nil=>simp at h1|cons a t=>simpa using hk]];exact aD aE ⟨r12,by rfl,rfl⟩ aA
theorem PN:iL Tryz.prog 5 247 (fun r:List Int=>.ro 1 (r.map aK) .any) gW (fun r=>0<r.length∧r.length≤1000) 3 9000000:=
 ⟨Tryz.call247,fun q vs x h _ hvs=>⟨EN h.2,aJx q vs (by omega) x h.1 h.2⟩⟩
def yE (R q q0 r3:Nat) (vs:List Nat) (ls:List Int) (bd:List Ins) (init:List (List Int)) (last:List Int) (j:Nat):ASt:=
 ⟨[(0,.own q0 0 vs.length),(3,.ptr r3 0),(5,.own R 0 (init.length+1)),(10,.ro 1 (ls.map aK) .any),(11,.int .i64 ls.length),(12,.int .i64 j)],
  [(R,.arr 24 1 (init.map kU++ [[.own q 0 last.length]])),(q,.arr 3 1 (last.map aK)),(r3,.box 44 [.ro 1 (ls.map aK) .any,.ro 4 (bd.map (iv .any)) .any]),(q0,.arr 5 1 (vs.map aG))]⟩
def LT (R q0 r3:Nat) (vs:List Nat) (ls:List Int) (bd:List Ins):ASt:=
 ⟨[(0,.own q0 0 vs.length),(3,.ptr r3 0),(5,.own R 0 0),(10,.ro 1 (ls.map aK) .any),(11,.int .i64 ls.length),(12,.int .i64 (0:Nat))],
  [(R,.arr 24 1 []),(r3,.box 44 [.ro 1 (ls.map aK) .any,.ro 4 (bd.map (iv .any)) .any]),(q0,.arr 5 1 (vs.map aG))]⟩
structure RS_ where
 R:Nat
 q:Nat
 init:List (List Int)
 k:Int
 m:Nat
 j:Nat
def rSt (q0 r3:Nat) (vs:List Nat) (ls:List Int) (bd:List Ins):Sum Nat RS_→ASt
 | .inl R=>LT R q0 r3 vs ls bd
 | .inr s=>yE s.R s.q q0 r3 vs ls bd s.init (List.replicate (s.m+1) s.k) (s.j+1)
def rOk (q0 r3:Nat) (ls:List Int):Sum Nat RS_→Prop
 | .inl R=>Nq R r3∧Nq R q0
 | .inr s=>((Nq s.R s.q∧Nq s.R r3∧Nq s.R q0)∧Nq s.q r3∧Nq s.q q0)∧(s.init.length≤s.j∧s.m≤s.j)∧ls[s.j]? =some s.k∧bY (ls.take (s.j+1))=s.init++ [List.replicate (s.m+1) s.k]
def rMs (ls:List Int):Sum Nat RS_→Nat
 | .inl _=>ls.length
 | .inr s=>ls.length-(s.j+1)
theorem rT{l:List (List AV)}{x:List AV}{n:Nat}(h:n=l.length):(l++ [x])[(((n+1:Nat):Int)-1).toNat]? =some x:=by
 subst h;rw[show(((l.length+1:Nat):Int)-1).toNat=l.length by omega];simp
theorem JI{l:List (List AV)}{x y:List AV}{n:Nat}(h:n=l.length):(l++ [x]).set (((n+1:Nat):Int)-1).toNat y=l++ [y]:=by
 subst h;rw[show(((l.length+1:Nat):Int)-1).toNat=l.length by omega,List.set_append,if_neg (by omega)];simp
theorem PO{σ:dC}{q:Nat}{et:TypeId}{init:List (List Int)}{last:List Int}(hg:fZ σ q=some (.arr et 1 (last.map aK))):∀(i:Nat) (x x':List AV),(init.map kU++ [[AV.own q 0 last.length]])[i]? =some x→((init++ [last]).map kU)[i]? =some x'→BorL σ [q] x x':=by
 intro i x x' h1 h2;rw[List.map_append]at h2;rcases Nat.lt_or_ge i (init.map kU).length with hlt|hge
 ·rw[List.getElem?_append_left hlt]at h1 h2;obtain rfl:=Option.some.inj (h1.symm.trans h2);obtain⟨r,-,rfl⟩:=List.mem_map.1 (List.mem_of_getElem? h1);exact .cons (.refl _) .nil
 ·rw[List.getElem?_append_right hge]at h1 h2;cases hi:i-(init.map kU).length with
  |zero=>
   rw[hi]at h1 h2;cases h1;cases h2
   exact .cons (aN hg (by simp)) .nil
  |succ n=>rw[hi]at h1;cases h1
theorem JJ(rs:List (List Int)):iH 1 (rs.map kU):=by
 intro x hx;obtain⟨r,-,rfl⟩:=List.mem_map.1 hx;exact⟨rfl,by simp[kU,AV.cell]⟩
theorem PP(l:List Int)(hl:l.length≤32):(∀r∈bY l,0<r.length∧r.length≤1000)∧(bY l).length≤32∧(aY (bY l) gW).length≤98:=by
 obtain⟨h1,h2⟩:=zN _ l rfl;have hr:∀(rs:List (List Int)),(∀r∈rs,∃k m,r=List.replicate (m+1) k∧k∈l∧m+1≤l.length)→rs.length≤rs.flatten.length:=by
  intro rs
  induction rs with
  |nil=>simp
  |cons r rs ih=>
   intro h;obtain⟨k,m,rfl,-,-⟩:=h r List.mem_cons_self;have:=ih fun r hr=>h r (List.mem_cons_of_mem _ hr)
   simp at this⊢;omega
 have hn:=hr _ h2;rw[h1]at hn;have h3:∀r∈bY l,0<r.length∧r.length≤1000:=fun r hr=>by
  obtain⟨k,m,rfl,-,hm⟩:=h2 r hr;simp;omega
 have:=jY (pt:=gW) (l:=bY l) (c:=3) (fun r hr=>EN (h3 r hr).2) (by omega);exact⟨h3,by omega,by omega⟩
theorem aLz(q0:Nat)(vs:List Nat)(hvs:vs.length≤9000000)(ls:List Int)(bd:List Ins)(hl:ls.length≤32)(hb:bd.length≤300)(hm:∀x∈bd,x.Ok∧cT x=true):SCall Tryz.prog 151 [.own q0 0 vs.length,.agg (dJ ⟨ls,bd⟩)] [(q0,.arr 5 1 (vs.map aG))]
  (fun y σ=>∃p,y=.own p 0 (vs++kC ⟨ls,bd⟩).length∧σ=[(p,.arr 5 1 ((vs++kC ⟨ls,bd⟩).map aG))]):=by
 obtain⟨hv1,hv2,hv3⟩:=PP ls hl;have hpl:=zG hm;have hub:=bG 4 (aY (bY ls) gW++iK bd).length (by simp;omega);refine bS 61 [0,1,3,4,5,6,7,8,10,11,12,13,28] Tryz.func151 ?_;unfold dJ;dsimp only;refine cZ ?_;refine gQ fun r3 h3=> ?_;intros
 refine iX ?_;refine cM ?_;refine bP 5 24 1 (by decide) rfl (by decide) (bN fun R0 hR0=> ?_);repeat rcases hR0 with⟨_,hR0⟩
 refine mJ ?_;refine tN ?_;refine lp (β:=Sum Nat RS_) (rSt q0 r3 vs ls bd) (rOk q0 r3 ls) (rMs ls) (.inl R0) (by unfold rSt LT;(exact aJ)) (by unfold rOk;exact⟨by(exact cA),by(exact cA)⟩) ?_;intro st hst;refine aI ?_;rcases st with R|⟨R,q,init,k,m,j⟩
 ·obtain⟨hR1,hR2⟩:=hst;unfold rSt LT;refine mJ ?_;refine nP ?_;refine aB rfl (fun g3=> ?_) (fun g3=> ?_)
  ·obtain⟨x,hx⟩:∃x,ls[0]? =some x:=⟨_,List.getElem?_eq_getElem (by simp at g3;omega)⟩
   have h0:0<ls.length:=(List.getElem?_eq_some_iff.1 hx).1;have hx':ls[(((0:Nat)):Int).toNat]? =some x:=hx;refine cX ?_;refine lM ?_;refine nS ?_;refine lo (iB (E rfl) (E rfl)) rfl ?_;rw[show decide ((0:Int)<((0:Nat):Int))=false from rfl];refine oY ?_;refine aGc ?_;refine CD ?_;refine CE ?_;refine kG ?_;refine aGd ?_;refine tH ?_;refine kQ ?_;refine eC fun r45 h45=> ?_;intros
   refine eC fun r46 h46=> ?_;intros
   refine jQ [[AV.own r45 0 1]] 1 ?_;refine bE fun r47 h47=> ?_;intros
   refine iX ?_;refine RW ?_;refine⟨.inr ⟨r47,r45,[],x,0,0⟩,⟨⟨⟨by show Nq r47 r45;(exact cA),by show Nq r47 r3;(exact cA),by show Nq r47 q0;(exact cA)⟩,by show Nq r45 r3;(exact cA),by show Nq r45 q0;(exact cA)⟩,⟨Nat.zero_le _,Nat.le_refl _⟩,hx,PM hx⟩,by show ls.length-(0+1)<ls.length;have:=(List.getElem?_eq_some_iff.1 hx).1;omega, ?_⟩;dsimp only;unfold yE;exact aJ
  have hls:ls=[]:=by cases ls with|nil=>rfl|cons a t=>simp at g3
  refine aAO (j:=5) (v':=.ro 1 ((bY ls).map kU) .any) rfl bK (by rw[hls];exact aN bC rfl) ?_;refine cX ?_;refine cw [] Tryz.call246 (PC PN (by decide) (bY ls) hv1 (by omega) (by omega)) rfl aC aA ?_;rintro _ σ' ⟨r50,rfl,rfl⟩ h50
  replace h50:=fY h50;repeat rcases h50 with⟨_,h50⟩
  refine eY ?_;refine lA ?_;refine cw [(r50,.arr 5 1 ((aY (bY ls) gW).map aG))] Tryz.call248 (OX r50 (aY (bY ls) gW) (by omega) bd (by omega) hm) rfl aC aA ?_;rintro _ σ' ⟨r54,rfl,rfl⟩ h54;have k54:=aV h54;repeat rcases k54 with⟨_,k54⟩
  refine eY ?_;have hPl:(aY (bY ls) gW++iK bd).length≤61000:=by simp;omega
  have hcd:kC ⟨ls,bd⟩=uB (aY (bY ls) gW++iK bd).length++(aY (bY ls) gW++iK bd):=rfl;rw[hcd];generalize aY (bY ls) gW++iK bd=P at hPl hub⊢;refine kQ ?_;refine qI ?_;refine cw [(q0,.arr 5 1 (vs.map aG))] Tryz.call135 (dU q0 vs (by omega) P.length (by omega)) rfl aC aA ?_;rintro _ σ' ⟨r58,rfl,rfl⟩ h58;have k58:=aV h58;repeat rcases k58 with⟨_,k58⟩
  refine xQ ?_;refine jQ ((vs++uB P.length++P).map aG) (vs++uB P.length++P).length ?_;refine bE fun r60 h60=> ?_;intros
  refine cM ?_;rw[List.append_assoc];exact aD aE ⟨r60,by rfl,rfl⟩ aA
 ·obtain⟨⟨⟨hq1,hq2,hq3⟩,hq4,hq5⟩,⟨hij,hmj⟩,hkj,hru⟩:=hst;dsimp only at hq1 hq2 hq3 hq4 hq5 hkj hru hij hmj;have hrl:(List.replicate (m+1) k).length=m+1:=List.length_replicate;unfold rSt yE;dsimp only;refine mJ ?_;refine nP ?_;refine aB rfl (fun g3=> ?_) (fun g3=> ?_)
  ·have hlt:j+1<ls.length:=by simp at g3;omega
   obtain⟨x,hx⟩:∃x,ls[j+1]? =some x:=⟨_,List.getElem?_eq_getElem hlt⟩
   have hkj':ls[(((j+1:Nat):Int)-1).toNat]? =some k:=by rw[show(((j+1:Nat):Int)-1).toNat=j by omega];exact hkj
   refine cX ?_;refine lM ?_;refine nS ?_;refine lo (iB (E rfl) (E rfl)) rfl ?_;refine oY ?_;refine aGc ?_;refine CD ?_;refine CE ?_;refine kG ?_;refine aGd ?_;refine tH ?_;refine aB rfl (fun g5=> ?_) (fun g5=> ?_)
   ·obtain rfl:k=x:=by simpa using g5
    have hel:=rT (l:=init.map kU) (x:=[AV.own q 0 (List.replicate (m+1) k).length]) (n:=init.length) (by simp);have hsn:=JH hru hx;refine nF ?_;refine tF ?_;refine HI ?_;refine qI ?_;refine tF ?_;refine lM ?_;refine lo (aF (E rfl)) rfl ?_;refine eC fun r40 h40=> ?_;intros
    refine jQ ((List.replicate (m+1) k++ [k]).map aK) (List.replicate (m+1) k++ [k]).length ?_;refine bE fun r41 h41=> ?_;intros
    refine UC ?_;refine KP ?_;refine iI ?_;have hse:=fun y=>JI (l:=init.map kU) (x:=[AV.own q 0 (List.replicate (m+1) k).length]) (y:=y) (n:=init.length) (by simp)
    rw[hse];refine OD ?_;first|(refine⟨.inr ⟨R,r41,init,k,m+1,j+1⟩,⟨⟨⟨by show Nq R r41;(exact cA),hq2,hq3⟩,by show Nq r41 r3;(exact cA),by show Nq r41 q0;(exact cA)⟩,⟨by show init.length≤j+1;omega,by show m+1≤j+1;omega⟩,hx,by rw[List.replicate_succ'];exact hsn⟩,by show ls.length-(j+1+1)<ls.length-(j+1);omega, ?_⟩;dsimp only;(try unfold yE);(try dsimp only);rw[List.replicate_succ' (n:=m+1)];(exact aJ))|(refine⟨.inr ⟨r47,r45,init++ [List.replicate (m+1) k],x,0,j+1⟩,⟨⟨⟨by show Nq r47 r45;(exact cA),by show Nq r47 r3;(exact cA),by show Nq r47 q0;(exact cA)⟩,by show Nq r45 r3;(exact cA),by show Nq r45 q0;(exact cA)⟩,⟨by show(init++ [List.replicate (m+1) k]).length≤j+1;simp;omega,Nat.zero_le _⟩,hx,hsn⟩,by show ls.length-(j+1+1)<ls.length-(j+1);omega, ?_⟩;dsimp only;(try unfold yE);(try dsimp only);rw[show(init++ [List.replicate (m+1) k]).length=init.length+1 by simp];(exact aJ))
   have hkx:k≠x:=by intro e;subst e;simp at g5
   have hsn:=PL hru hx hkx;refine dZ (UW (r:=R) (q:=q) (es':=(init++ [List.replicate (m+1) k]).map kU) cE bK (by simp) (JJ _) (PO bC)) ?_;refine dG ?_;refine z1 ?_;refine bN fun r45 h45=> ?_;repeat rcases h45 with⟨_,h45⟩
   refine z1 ?_;refine bN fun r46 h46=> ?_;repeat rcases h46 with⟨_,h46⟩
   refine jQ ((init++ [List.replicate (m+1) k]).map kU++ [[AV.own r45 0 1]]) (init.length+1+1) ?_ (hby:=by omega);refine bE fun r47 h47=> ?_;intros
   refine iX ?_;refine RW ?_;first|(refine⟨.inr ⟨R,r41,init,k,m+1,j+1⟩,⟨⟨⟨by show Nq R r41;(exact cA),hq2,hq3⟩,by show Nq r41 r3;(exact cA),by show Nq r41 q0;(exact cA)⟩,⟨by show init.length≤j+1;omega,by show m+1≤j+1;omega⟩,hx,by rw[List.replicate_succ'];exact hsn⟩,by show ls.length-(j+1+1)<ls.length-(j+1);omega, ?_⟩;dsimp only;(try unfold yE);(try dsimp only);rw[List.replicate_succ' (n:=m+1)];(exact aJ))|(refine⟨.inr ⟨r47,r45,init++ [List.replicate (m+1) k],x,0,j+1⟩,⟨⟨⟨by show Nq r47 r45;(exact cA),by show Nq r47 r3;(exact cA),by show Nq r47 q0;(exact cA)⟩,by show Nq r45 r3;(exact cA),by show Nq r45 q0;(exact cA)⟩,⟨by show(init++ [List.replicate (m+1) k]).length≤j+1;simp;omega,Nat.zero_le _⟩,hx,hsn⟩,by show ls.length-(j+1+1)<ls.length-(j+1);omega, ?_⟩;dsimp only;(try unfold yE);(try dsimp only);rw[show(init++ [List.replicate (m+1) k]).length=init.length+1 by simp];(exact aJ))
  have hjl:j+1=ls.length:=by have:=(List.getElem?_eq_some_iff.1 hkj).1;simp at g3;omega
  rw[hjl,List.take_length]at hru;refine dZ (UW (r:=R) (q:=q) (es':=(bY ls).map kU) cE bK (by rw[hru];simp) (JJ _) (by rw[hru];exact PO bC)) ?_;refine aAO (j:=5) (v':=.ro 1 ((bY ls).map kU) .any) rfl bK (aN bC (by rw[hru];simp)) ?_;refine cX ?_;refine cw [] Tryz.call246 (PC PN (by decide) (bY ls) hv1 (by omega) (by omega)) rfl aC aA ?_;rintro _ σ' ⟨r50,rfl,rfl⟩ h50
  replace h50:=fY h50;repeat rcases h50 with⟨_,h50⟩
  refine eY ?_;refine lA ?_;refine cw [(r50,.arr 5 1 ((aY (bY ls) gW).map aG))] Tryz.call248 (OX r50 (aY (bY ls) gW) (by omega) bd (by omega) hm) rfl aC aA ?_;rintro _ σ' ⟨r54,rfl,rfl⟩ h54;have k54:=aV h54;repeat rcases k54 with⟨_,k54⟩
  refine eY ?_;have hPl:(aY (bY ls) gW++iK bd).length≤61000:=by simp;omega
  have hcd:kC ⟨ls,bd⟩=uB (aY (bY ls) gW++iK bd).length++(aY (bY ls) gW++iK bd):=rfl;rw[hcd];generalize aY (bY ls) gW++iK bd=P at hPl hub⊢;refine kQ ?_;refine qI ?_;refine cw [(q0,.arr 5 1 (vs.map aG))] Tryz.call135 (dU q0 vs (by omega) P.length (by omega)) rfl aC aA ?_;rintro _ σ' ⟨r58,rfl,rfl⟩ h58;have k58:=aV h58;repeat rcases k58 with⟨_,k58⟩
  refine xQ ?_;refine jQ ((vs++uB P.length++P).map aG) (vs++uB P.length++P).length ?_;refine bE fun r60 h60=> ?_;intros
  refine cM ?_;rw[List.append_assoc];exact aD aE ⟨r60,by rfl,rfl⟩ aA
theorem VJ:iL Tryz.prog 5 151 (fun x=>.agg (dJ x)) kC (fun c=>sR c=true∧∀x∈c.bd,x.Ok) 61000 9000000:=
 ⟨Tryz.call151,fun q vs x h _ hvs=>by
  obtain⟨ls,bd⟩:=x;obtain⟨h,hO⟩:=h;unfold sR at h;simp only[Bool.and_eq_true]at h;obtain⟨⟨h1,h2⟩,h3⟩:=h;obtain⟨k1,k2⟩:=cD h2;obtain⟨k3,k4⟩:=cD h3;have hm:∀x∈bd,x.Ok∧cT x=true:=fun x hx=>⟨hO x hx,k4 x hx⟩
  obtain⟨hv1,hv2,hv3⟩:=PP ls (by omega);have hpl:=zG hm;have hb:bd.length≤300:=by omega
  have hub:=bG 4 (aY (bY ls) gW++iK bd).length (by simp;omega);exact⟨by unfold kC;simp at hub⊢;omega,aLz q vs hvs ls bd (by omega) hb hm⟩⟩
theorem pM{P:Program}{t8:TypeId}{f:FuncId}{α:Type}{ar:α→AV}{pt:α→List Nat}{ok:α→Prop}{c B:Nat}(hf:iL P t8 f ar pt ok c B)(hB:1≤B){l:List α}(hl:∀x∈l,ok x)(hn:l.length≤16)(hc:c≤100000)(no:Nat):(bB no l pt).length≤10+16*c:=by
 have h1:=jY (pt:=pt) (l:=l) (c:=c) (fun x hx=>(hf.2 0 [0] x (hl x hx) (by simp) hB).1) (by omega);have h2:l.length*c≤16*c:=Nat.mul_le_mul_right c hn;have h3:=bG 4 (aY l pt).length (by omega);unfold bB;split
 ·simp
 ·simp;omega
def oO (m:Md):Bool:=(m.co.length==m.fn.length&&cF m.co 16 sR)&&mB m&&kI m.tb 16 1000&&kI m.me 16 65536
theorem sX(m:Md):kD m=(oO m&&decide ((eL m).length≤8000)):=rfl
theorem LU{l:Li}{a c:Int}(h:kI l a c=true)(ha:a≤100000)(hc:c≤100000):(∀x∈gK l,PE x)∧(gK l).length≤1:=by
 obtain⟨has,mn,mx⟩:=l;cases has with
 |false=>exact⟨by simp[gK],by simp[gK]⟩
 |true=>
  unfold kI at h;simp only[if_true,Bool.and_eq_true,decide_eq_true_eq]at h;refine⟨fun x hx=> ?_,by simp[gK]⟩;obtain rfl:x=⟨true,mn,mx⟩:=by simpa[gK]using hx
  unfold PE;dsimp only;omega
theorem zP(m:Md)(h:oO m=true)(hO:m.Ok):SCall Tryz.prog 56 [.agg (aZ m)] [] (fun y σ=>∃r,y=.own r 0 (eL m).length∧σ=[(r,.arr 5 1 ((eL m).map aG))]):=by
 obtain⟨ty,im,fn,tb,me,gl,ex,el,co,da⟩:=m;unfold oO at h;simp only[Bool.and_eq_true]at h;obtain⟨⟨⟨⟨-,hco⟩,hls⟩,htb⟩,hme⟩:=h;unfold mB at hls;simp only[Bool.and_eq_true]at hls;obtain⟨⟨⟨⟨⟨⟨hty,him⟩,hfn⟩,hgl⟩,hex⟩,hel⟩,hda⟩:=hls;obtain⟨hO1,hO2⟩:=hO;dsimp only at*;obtain⟨a1,a2⟩:=cD hty;obtain⟨b1,b2⟩:=cD him;obtain⟨c1,c2⟩:=cD hfn;obtain⟨d1,d2⟩:=cD hgl;obtain⟨e1,e2⟩:=cD hex;obtain⟨f1,f2⟩:=cD hel;obtain⟨g1,g2⟩:=cD hda;obtain⟨i1,i2⟩:=cD hco;obtain⟨t2,t1⟩:=LU htb (by decide) (by decide);obtain⟨u2,u1⟩:=LU hme (by decide) (by decide);have d2':∀g∈gl,mK g.kd g.n=true∧ -9223372036854775808≤g.n∧g.n≤9223372036854775807:=fun g hg=>⟨d2 g hg,hO2 g hg⟩
 have i2':∀c∈co,sR c=true∧∀x∈c.bd,x.Ok:=fun c hc=>⟨i2 c hc,hO1 c hc⟩
 have L1:=pM UY (by decide) a2 (by omega) (by decide) 1;have L2:=pM UZ (by decide) b2 (by omega) (by decide) 2;have L3:=pM EL (by decide) c2 (by omega) (by decide) 3;have L4:=pM VD (by decide) t2 (by omega) (by decide) 4;have L5:=pM VC (by decide) u2 (by omega) (by decide) 5;have L6:=pM VF (by decide) d2' (by omega) (by decide) 6;have L7:=pM VA (by decide) e2 (by omega) (by decide) 7;have L9:=pM VE (by decide) f2 (by omega) (by decide) 9;have L10:=pM VJ (by decide) i2' (by omega) (by decide) 10;have hW:eL ⟨ty,im,fn,tb,me,gl,ex,el,co,da⟩=headB++bB 1 ty vE++bB 2 im iQ++bB 3 fn cC++bB 4 (gK tb) (fun l=>112::dW l)++bB 5 (gK me) dW++bB 6 gl uH++bB 7 ex nC++bB 9 el sE++bB 10 co kC++bB 11 da tP:=rfl;rw[hW];have hH:headB.length=8:=rfl;refine bS 48 [0,1,2,3] Tryz.func56 ?_;unfold aZ;dsimp only;refine cZ ?_;refine gQ fun r1 h1=> ?_;intros
 refine iX ?_;refine eC fun r4 h4=> ?_;intros
 refine cvm (len:=8) cE (by decide) ?_;refine cM ?_;rw[show([[.int .u8 0],[.int .u8 97],[.int .u8 115],[.int .u8 109],[.int .u8 1],[.int .u8 0],[.int .u8 0],[.int .u8 0]]:List (List AV))=headB.map aG from rfl,show AV.own r4 0 8=AV.own r4 0 headB.length from rfl];refine lA ?_;refine cw [(r4,.arr 5 1 (headB.map aG))] Tryz.call129 (aGR UY (by decide) r4 headB 1 (by decide) ty a2 (by omega) (by omega) (by omega)) rfl aC aA ?_;rintro _ σ' ⟨r9,rfl,rfl⟩ h9;have k9:=aV h9;repeat rcases k9 with⟨_,k9⟩
 refine eY ?_;generalize bB 1 ty vE=S1 at L1⊢;refine lA ?_;refine cw [(r9,.arr 5 1 ((headB++S1).map aG))] Tryz.call133 (aGS UZ (by decide) r9 (headB++S1) 2 (by decide) im b2 (by omega) (by simp;omega) (by omega)) rfl aC aA ?_;rintro _ σ' ⟨r13,rfl,rfl⟩ h13;have k13:=aV h13;repeat rcases k13 with⟨_,k13⟩
 refine eY ?_;generalize bB 2 im iQ=S2 at L2⊢;refine lA ?_;refine cw [(r13,.arr 5 1 ((headB++S1++S2).map aG))] Tryz.call137 (aDz EL (by decide) r13 (headB++S1++S2) 3 (by decide) fn c2 (by omega) (by simp;omega) (by omega)) rfl aC aA ?_;rintro _ σ' ⟨r17,rfl,rfl⟩ h17;have k17:=aV h17;repeat rcases k17 with⟨_,k17⟩
 refine eY ?_;generalize bB 3 fn cC=S3 at L3⊢;refine fV ?_;refine yK ?_;refine kP ?_;refine cw [] Tryz.call139 (PD tb) rfl aC aA ?_;rintro _ σ' ⟨q21,rfl,rfl⟩ h21
 replace h21:=fY h21;repeat rcases h21 with⟨_,h21⟩
 apply aU;exact bD;refine iW (j:=21) rfl bK (aN bC (by simp)) ?_;refine cw [(r17,.arr 5 1 ((headB++S1++S2++S3).map aG))] Tryz.call138 (aAZ VD (by decide) r17 (headB++S1++S2++S3) 4 (by decide) (gK tb) t2 (by omega) (by simp;omega) (by omega)) rfl aC aA ?_;rintro _ σ' ⟨r22,rfl,rfl⟩ h22;have k22:=aV h22;repeat rcases k22 with⟨_,k22⟩
 refine eY ?_;generalize bB 4 (gK tb) (fun l=>112::dW l)=S4 at L4⊢;refine fV ?_;refine yK ?_;refine kP ?_;refine cw [] Tryz.call139 (PD me) rfl aC aA ?_;rintro _ σ' ⟨q26,rfl,rfl⟩ h26
 replace h26:=fY h26;repeat rcases h26 with⟨_,h26⟩
 apply aU;exact bD;refine iW (j:=26) rfl bK (aN bC (by simp)) ?_;refine cw [(r22,.arr 5 1 ((headB++S1++S2++S3++S4).map aG))] Tryz.call138 (aAZ VC (by decide) r22 (headB++S1++S2++S3++S4) 5 (by decide) (gK me) u2 (by omega) (by simp;omega) (by omega)) rfl aC aA ?_;rintro _ σ' ⟨r27,rfl,rfl⟩ h27;have k27:=aV h27;repeat rcases k27 with⟨_,k27⟩
 refine eY ?_;generalize bB 5 (gK me) dW=S5 at L5⊢;refine lA ?_;refine cw [(r27,.arr 5 1 ((headB++S1++S2++S3++S4++S5).map aG))] Tryz.call142 (aGT VF (by decide) r27 (headB++S1++S2++S3++S4++S5) 6 (by decide) gl d2' (by omega) (by simp;omega) (by omega)) rfl aC aA ?_;rintro _ σ' ⟨r31,rfl,rfl⟩ h31;have k31:=aV h31;repeat rcases k31 with⟨_,k31⟩
 refine eY ?_;generalize bB 6 gl uH=S6 at L6⊢;refine lA ?_;refine cw [(r31,.arr 5 1 ((headB++S1++S2++S3++S4++S5++S6).map aG))] Tryz.call145 (aGU VA (by decide) r31 (headB++S1++S2++S3++S4++S5++S6) 7 (by decide) ex e2 (by omega) (by simp;omega) (by omega)) rfl aC aA ?_;rintro _ σ' ⟨r35,rfl,rfl⟩ h35;have k35:=aV h35;repeat rcases k35 with⟨_,k35⟩
 refine eY ?_;generalize bB 7 ex nC=S7 at L7⊢;refine lA ?_;refine cw [(r35,.arr 5 1 ((headB++S1++S2++S3++S4++S5++S6++S7).map aG))] Tryz.call147 (aGV VE (by decide) r35 (headB++S1++S2++S3++S4++S5++S6++S7) 9 (by decide) el f2 (by omega) (by simp;omega) (by omega)) rfl aC aA ?_;rintro _ σ' ⟨r39,rfl,rfl⟩ h39;have k39:=aV h39;repeat rcases k39 with⟨_,k39⟩
 refine eY ?_;generalize bB 9 el sE=S9 at L9⊢;refine lA ?_;refine cw [(r39,.arr 5 1 ((headB++S1++S2++S3++S4++S5++S6++S7++S9).map aG))] Tryz.call150 (aGW VJ (by decide) r39 (headB++S1++S2++S3++S4++S5++S6++S7++S9) 10 (by decide) co i2' (by omega) (by simp;omega) (by omega)) rfl aC aA ?_;rintro _ σ' ⟨r43,rfl,rfl⟩ h43;have k43:=aV h43;repeat rcases k43 with⟨_,k43⟩
 refine eY ?_;generalize bB 10 co kC=S10 at L10⊢;refine lA ?_;refine cw [(r43,.arr 5 1 ((headB++S1++S2++S3++S4++S5++S6++S7++S9++S10).map aG))] Tryz.call152 (aGX aDA (by decide) r43 (headB++S1++S2++S3++S4++S5++S6++S7++S9++S10) 11 (by decide) da g2 (by omega) (by simp;omega) (by omega)) rfl aC aA ?_;rintro _ σ' ⟨r47,rfl,rfl⟩ h47;have k47:=aV h47;repeat rcases k47 with⟨_,k47⟩
 refine eY ?_;exact aD aE ⟨r47,by rfl,rfl⟩ aA
def mL (m:Md) (lv:AV) (p q:Nat) (vs:List Int) (cs:List Ct) (b:Bool):List AV:=[.ro 2 (m.ty.map dF) .any,.ro 3 (m.im.map eT) .any,.ro 1 (m.fn.map aK) .any,.bool m.tb.has,.int .i64 m.tb.mn,.int .i64 m.tb.mx,.bool m.me.has,.int .i64 m.me.mn,.int .i64 m.me.mx,
 .ro 3 (m.gl.map eU) .any,.ro 2 (m.ex.map eA) .any,.ro 2 (m.el.map eQ) .any,.ro 2 (m.co.map dJ) .any,.ro 2 (m.da.map eO) .any,lv,.own p 0 vs.length,.own q 0 cs.length,.bool b]
def dH (r p q:Nat) (m:Md) (lv:AV) (s:PS):dC:=[(r,.box 128 (mL m lv p q s.vs s.cs s.bad)),(p,.arr 3 1 (s.vs.map aK)),(q,.arr 137 4 (s.cs.map mF))]
theorem aG0{e:Nat}{σ1 σ:dC}{C G:Prop}(h:(∃q∈σ1,q.1=e)∨Fresh e σ)(k:C)(g:Hold C→Fresh e (dS (σ1.map (·.1)) σ)→G:=by intro k q;unfold dH at q;simp(disch:=(first|(simp only[List.mem_cons,List.not_mem_nil,true_or,or_true,or_false];done)|(focus (simp only[List.mem_cons,List.not_mem_nil,or_false,not_or];(repeat' (first|apply And.intro|(exact cA)));done))|omega)) only[List.map_cons,List.map_nil,lT,nK,pS,nL,aO,aT,and_true]at q;revert q;(repeat refine aCS ?_);exact k.h):G:=g ⟨k⟩ (sH h)
structure PS.Gd (s:PS):Prop extends s.Ok where
 bv:s.vs.length≤1000000
 bc:s.cs.length≤1000000
theorem PS.Gd.need {s:PS}(h:s.Gd)(b:Bool):(eV s b).Gd:=⟨h.toOk.need b,h.bv,h.bc⟩
theorem PS.Gd.pop {s:PS}(h:s.Gd)(w:Int):(dB s w).2.Gd:=⟨h.toOk.pop w,Nat.le_trans (sV s w) h.bv,by rw[yC];exact h.bc⟩
theorem PS.Gd.pops {s:PS}(h:s.Gd)(ks:List Int):(fA s ks).Gd:=⟨h.toOk.pops ks,Nat.le_trans (oN s ks) h.bv,by rw[pI];exact h.bc⟩
def Nm (r p q:Nat):Prop:=Nq p r∧Nq q r∧Nq q p
theorem bZ{P:Prop}(h:P:=by(try unfold dH mL);(try dsimp only);exact aA):P:=h
theorem aA8{P:Prop}(h:P:=by(try unfold dH mL);(try dsimp only);exact eM):P:=h
section
variable {r p q : Nat} {m : Md} {lv : AV}
theorem jZ(hN:Nm r p q)(s:PS)(ok:Bool):SCall Tryz.prog 189 [.ptr r 0,.bool ok] (dH r p q m lv s) (fun _ σ=>σ=dH r p q m lv (eV s ok)):=by
 obtain⟨vs,zs,b⟩:=s;obtain⟨n1,n2,n3⟩:=hN;refine bS 15 [0,1] Tryz.func189 ?_;unfold dH mL;dsimp only;refine dG ?_;refine gY ?_;refine jU ?_;refine rG ?_;refine jE ?_;refine lK ?_;refine cL ?_;apply aD;exact aE
 ·rfl
 ·exact aA
theorem lS(hN:Nm r p q)(s:PS)(hs:s.vs.length≤1000000)(ks:List Int)(hk:ks.length≤1000):SCall Tryz.prog 190 [.ptr r 0,.ro 1 (ks.map aK) .any] (dH r p q m lv s) (fun _ σ=>∃e,Nm r e q∧σ=dH r e q m lv (iN s ks)):=by
 obtain⟨vs,zs,b⟩:=s;obtain⟨n1,n2,n3⟩:=hN;dsimp only at hs;refine bS 13 [0,1] Tryz.func190 ?_;unfold dH mL;dsimp only;refine dG ?_;refine DU ?_;refine jQ ((vs++ks).map aK) (vs++ks).length ?_;refine bE fun r10 h10=> ?_;intros
 refine lK ?_;refine cL ?_;exact aD aE ⟨r10,by exact⟨by(exact cA),by(exact cA),by(exact cA)⟩,rfl⟩ aA
theorem sY(k:Int):SCall Tryz.prog 191 [.int .i64 k] [] (fun y σ=>y=.ro 1 ((dY k).map aK) .any∧σ=[]):=by
 refine bS 7 [0,2,4] Tryz.func191 ?_;refine eX ?_;refine xR ?_;refine aB rfl (fun g1=> ?_) (fun g1=> ?_)
 ·rw[show dY k=[]from if_pos g1];refine rH ?_;refine dZ (eE (j:=2) (y:=.ro 1 (([]:List Int).map aK) .any) rfl VLe.empty) ?_;refine aI ?_;exact aD aE ⟨by rfl,rfl⟩ aA
 rw[show dY k=[k]from if_neg (by simp[g1])];refine cX ?_;refine eC fun r6 h6=> ?_;intros
 refine uT ?_;refine aAO (j:=2) rfl bK (aN bC (by simp)) ?_;refine aI ?_;exact aD aE ⟨by rfl,rfl⟩ aA
theorem vK(i:List Ct)(t:Ct):(i++ [t]).length=i.length+1:=by simp
theorem EO(i:List Ct)(t:Ct):(i++ [t]).map mF=i.map mF++ [mF t]:=by simp
theorem LV(i:List Int)(t:Int):(i++ [t]).length=i.length+1:=by simp
theorem aA9(i:List Int)(t:Int):(i++ [t]).map aK=i.map aK++ [aK t]:=by simp
theorem qD{n:Nat}:(((n+1:Nat):Int)-1).toNat-0=n:=by omega
theorem oT(hN:Nm r p q)(s:PS)(h:s.Gd)(w:Int):SCall Tryz.prog 188 [.ptr r 0,.int .i64 w] (dH r p q m lv s) (fun y σ=>y=.int .i64 (dB s w).1∧σ=dH r p q m lv (dB s w).2):=by
 obtain⟨i,hi⟩:=h.cut;have h0:=h.toOk0;have hbv:=h.bv;have hbc:=h.bc;obtain⟨vs,zs,b⟩:=s;dsimp only at hi hbv hbc;generalize PS.top ⟨vs,zs,b⟩=t at hi;subst hi;rw[vK]at hbc;obtain⟨-,hh,-⟩:=h0.split;obtain⟨n1,n2,n3⟩:=hN;have hel:=rT (l:=i.map mF) (x:=mF t) (n:=i.length) (by simp);refine bS 71 [0,1,4,5,6,26,59] Tryz.func188 ?_;unfold dH mL;dsimp only;rw[vK,EO];refine bF ?_;refine fJ [(0,true),(1,true),(2,true),(3,true),(4,true),(5,true),(6,true),(7,true),(8,true),(9,true),(10,true),(11,true),(12,false),(13,false)] ?_;refine mQ ?_;refine rJ ?_;refine pY ?_;apply dal;rfl;infer_instance;rfl;exact yR;refine iT fun r5 h5=> ?_;intros
 refine z95 ?_;refine jI ?_;refine fJ [(0,true),(1,true),(2,true),(3,true),(4,true),(5,true),(6,true),(7,true)] ?_;refine IS ?_;refine iC ?_;refine z79 ?_;refine jI ?_;refine aB rfl (fun g2=> ?_) (fun g2=> ?_)
 ·have hP:dB ⟨vs,i++ [t],b⟩ w=(w,eV ⟨vs,i++ [t],b⟩ t.dd):=by unfold dB;rw[EF,if_pos g2]
  rw[hP];refine oI ?_;refine cw (dH r p q m lv ⟨vs,i++ [t],b⟩) Tryz.call189 (jZ ⟨n1,n2,n3⟩ _ t.dd) rfl aC bZ ?_;rintro _ σ' rfl h30;refine pX ?_;refine cM ?_;exact aD aE ⟨by rfl,rfl⟩ aA
 have hl:vs.length≠t.ht:=by intro e;rw[e]at g2;simp at g2
 obtain⟨ws,g,rfl⟩:∃ws g,vs=ws++ [g]:=by
  rcases List.eq_nil_or_concat vs with e|⟨ws,g,e⟩
  ·subst e;simp at hh hl;omega
  ·exact⟨ws,g,by rw[e,List.concat_eq_append]⟩
 have hel2:=rT (l:=ws.map aK) (x:=aK g) (n:=ws.length) (by simp);rw[LV]at hbv;rw[LV,aA9];refine aI ?_;refine fJ [(0,true),(1,true),(2,true),(3,true),(4,true),(5,true),(6,true),(7,true),(8,true),(9,true),(10,true),(11,true),(12,true)] ?_;refine mQ ?_;refine rJ ?_;refine nG ?_;refine wQ ?_;refine fJ [(0,true),(1,true),(2,true),(3,true),(4,true),(5,true),(6,true),(7,true),(8,true),(9,true),(10,true),(11,true),(12,true),(13,true),(14,false)] ?_;refine CF ?_;refine rJ ?_;refine ZN ?_;refine rI ?_;refine jI ?_;rw[qD];refine dZ (nZ (o:=p) ws.length cE) ?_;rw[show List.take ws.length (ws.map aK++ [aK g])=ws.map aK by rw[List.take_left' (by simp)]];refine fV ?_;refine xR ?_;refine aB rfl (fun g7=> ?_) (fun g7=> ?_)
 ·have hP:dB ⟨ws++ [g],i++ [t],b⟩ w=(w,⟨ws,i++ [t],b⟩):=by unfold dB;rw[EF,if_neg (by simpa using g2)];simp at g7;simp[g7]
  rw[hP];refine eW ?_;exact aD aE ⟨by rfl,rfl⟩ aA
 have hP:dB ⟨ws++ [g],i++ [t],b⟩ w=(g,eV ⟨ws,i++ [t],b⟩ (if(w==0)=true then true else(g==w))):=by unfold dB;rw[EF,if_neg (by simpa using g2)];simp at g7;simp[g7]
 rw[hP];refine dG ?_;refine lo (cN (E rfl) (E rfl)) rfl ?_;refine jU ?_;refine kG ?_;refine aGd ?_;refine jE ?_;refine cw (dH r p q m lv ⟨ws,i++ [t],b⟩) Tryz.call189 (jZ ⟨n1,n2,n3⟩ _ (if(w==0)=true then true else(g==w))) rfl aC bZ ?_;rintro _ σ' rfl h69;refine pX ?_;refine cM ?_;exact aD aE ⟨by rfl,rfl⟩ aA
theorem kX(hN:Nm r p q)(s:PS)(h:s.Gd)(ks:List Int)(hkl:ks.length≤100000):SCall Tryz.prog 192 [.ptr r 0,.ro 1 (ks.map aK) .any] (dH r p q m lv s) (fun _ σ=>σ=dH r p q m lv (fA s ks)):=by
 obtain⟨n1,n2,n3⟩:=hN;refine bS 18 [0,1,4,9] Tryz.func192 ?_;unfold dH mL
 (try dsimp only);refine cX ?_;refine qI ?_;refine tF ?_;refine cM ?_;refine lp (β:=Nat×PS) (fun b=>⟨[(0,.ptr r 0),(1,.ro 1 (ks.map aK) .any),(4,.int .i64 ((b.1:Int)-1))],dH r p q m lv b.2⟩) (fun b=>b.1≤ks.length∧b.2.Gd∧fA b.2 (ks.take b.1)=fA s ks) (fun b=>b.1) (ks.length,s) (by unfold dH mL;(try dsimp only);(exact aJ)) ⟨Nat.le_refl _,h,by rw[List.take_length]⟩ ?_;rintro⟨j,S⟩ ⟨hj,hS,hP⟩;dsimp only at hj hS hP⊢;unfold dH mL
 (try dsimp only);refine cX ?_;refine BO ?_;refine aB rfl (fun g1=> ?_) (fun g1=> ?_)
 ·obtain⟨j,rfl⟩:∃j',j=j'+1:=⟨j-1,by simp at g1;omega⟩
  obtain⟨k,hk⟩:∃k,ks[j]? =some k:=⟨_,List.getElem?_eq_getElem (by omega)⟩
  have hk':ks[(((j+1:Nat):Int)-1).toNat]? =some k:=by rw[show(((j+1:Nat):Int)-1).toNat=j by omega];exact hk
  refine dG ?_;refine pA ?_;refine cw (dH r p q m lv S) Tryz.call188 (oT ⟨n1,n2,n3⟩ S hS k) rfl aC bZ ?_;rintro _ σ' ⟨rfl,rfl⟩ h17;refine pX ?_;refine tF ?_;refine cM ?_;refine⟨(j,(dB S k).2),⟨by show j≤ _;omega,hS.pop k,by rw[←hP,List.take_add_one,hk];show _=fA S (ks.take j++ [k]);rw[XN]⟩,by show j<j+1;omega, ?_⟩;dsimp only;rw[show(((j+1:Nat):Int)-1-1)=(j:Int)-1 by omega];exact aJ
 obtain rfl:j=0:=by simp at g1;omega
 rw[show fA s ks=S by rw[←hP];rfl];refine aI ?_;refine cL ?_;apply aD;exact aE
 ·rfl
 ·exact aA
end
end Go.Proofs.YtjpdadobblffmaaGreat
namespace Go.Proofs.YtjpdadobblffmaaGreat
open Go.RowKit Go.ChangeShapes Go.WideShapes Go.ChangeAt Go.Deep
def bX (P:Program) (f:FuncId) (caps:List AV) (σ:dC) {α:Type} (ar:α→AV) (p:α→Bool) (ok:α→Prop):Prop:=
 (∀args w,(callFunc f args).run P w=.ok (.enter f args) w)∧∀x,ok x→SCall P f ([]++ [ar x]++caps) σ (fun r σ'=>r=.bool (p x)∧σ'=σ)
theorem aG1{f:FuncId}{caps:List AV}{σ:dC}{p:FT→Bool}{ok:FT→Prop}(hp:bX Tryz.prog f caps σ (fun x=>.agg (dF x)) p ok)(l:List FT)(hok:∀x∈l,ok x):SCall Tryz.prog 309 [.ro 2 (l.map dF) .any,.fn (.func f) [] caps] σ (fun x σ'=>∃m:Int,x=.int .i64 m∧decide (0≤m)=l.any p∧σ'=σ):=by
 refine bS 19 [0,1,4,5,7,8,9,16] Tryz.func309 ?_;refine gS (i:=0) rfl fun hm=> ?_
 rw[List.length_map]at hm;unfold maxLen at hm;refine rK ?_;refine lp (β:=Nat) (fun j=>⟨[(0,.ro 2 (l.map dF) .any),(1,.fn (.func f) [] caps),(7,.int .i64 l.length),(8,.int .i64 j)],σ⟩) (fun j=>j≤l.length∧(l.take j).any p=false) (fun j=>l.length-j) 0 ?_ ⟨Nat.zero_le _,rfl⟩ ?_
 ·exact aJ
 rintro j ⟨hj,ht⟩;refine gA ?_;refine aB rfl (fun h1=> ?_) (fun h1=> ?_)
 ·have hlt:j<l.length:=by simp at h1;omega
  obtain⟨x,hx⟩:∃x,l[j]? =some x:=⟨_,List.getElem?_eq_getElem hlt⟩
  refine tM ?_;refine oG ?_;refine pP σ rfl hp.1 (hp.2 x (hok x (List.mem_of_getElem? hx))) rfl ?_ ?_ ?_
  ·exact aC
  ·exact fun _ h=>h
  rintro r σ' ⟨rfl,rfl⟩-;rw[dQ,List.append_nil];refine iI ?_;refine aB rfl (fun h2=> ?_) (fun h2=> ?_)
  ·refine eW ?_;apply aD;exact aE
   ·refine⟨j,rfl, ?_,rfl⟩;rw[decide_eq_true (by omega)];exact(List.any_eq_true.2 ⟨x,List.mem_of_getElem? hx,h2⟩).symm
   ·exact aA
  ·refine jH ?_;refine⟨j+1,⟨by omega, ?_⟩,by omega, ?_⟩
   ·rw[List.take_add_one,hx,List.any_append,ht];simp[h2]
   ·exact aJ
 ·refine bF ?_;apply aD;exact aE
  ·simp at h1;rw[List.take_of_length_le (by omega)]at ht;exact⟨-1,rfl,by rw[ht];rfl,rfl⟩
  ·exact aA
theorem aG2{f:FuncId}{caps:List AV}{σ:dC}{p:FT→Bool}{ok:FT→Prop}(hp:bX Tryz.prog f caps σ (fun x=>.agg (dF x)) p ok)(l:List FT)(hok:∀x∈l,ok x):SCall Tryz.prog 285 [.ro 2 (l.map dF) .any,.fn (.func f) [] caps] σ (fun x σ'=>x=.bool (l.any p)∧σ'=σ):=by
 refine bS 9 [0,1,4] Tryz.func285 ?_;refine lL ?_;refine cw σ Tryz.call309 (aG1 hp l hok) rfl ?_ ?_ ?_
 ·exact aC
 ·exact fun _ h=>h
 rintro x σ' ⟨m,rfl,hm,rfl⟩-;rw[dQ,List.append_nil];refine yU ?_;exact aD aE ⟨by simp only[fG];rw[←hm],rfl⟩ aA
theorem aJy{f:FuncId}{p:FT→Bool}{ok:FT→Prop}(hp:bX Tryz.prog f [] [] (fun x=>.agg (dF x)) p ok)(r:Nat):bX Tryz.prog 286 [.ptr r 0] [(r,.box 277 [.fn (.func f) [] []])] (fun x=>.agg (dF x)) (fun x=> !p x) ok:=by
  refine⟨Tryz.call286,fun x hx=> ?_⟩;refine bS 8 [0,1,2,3] Tryz.func286 ?_;refine cZ ?_;refine gQ fun r2 h2=> ?_;intros
  refine iX ?_;refine tG ?_;refine kP ?_;refine pP [] rfl hp.1 (hp.2 x hx) rfl aC aA ?_;rintro _ σ' ⟨rfl,rfl⟩ h6;refine HJ ?_;refine cM ?_;exact aD aE ⟨by rfl,rfl⟩ aA
theorem aG3{f:FuncId}{p:FT→Bool}{ok:FT→Prop}(hp:bX Tryz.prog f [] [] (fun x=>.agg (dF x)) p ok)(l:List FT)(hok:∀x∈l,ok x)(most:Int):SCall Tryz.prog 221 [.ro 2 (l.map dF) .any,.int .i64 most,.fn (.func f) [] []] [] (fun x σ'=>x=.bool (cF l most p)∧σ'=[]):=by
 refine bS 17 [0,1,2,5,6] Tryz.func221 ?_;refine cZ ?_;refine gQ fun r5 h5=> ?_;intros
 refine cM ?_;by_cases hl:(l.length:Int)≤most
 ·have hE:cF l most p= !(l.any fun x=> !p x):=by unfold cF;rw[decide_eq_true hl,List.any_eq_not_all_not];simp
  have hd:decide ((l.length:Int)≤most)=true:=by simpa using hl
  refine mD ?_;rw[hd];refine xF ?_;refine cw [(r5,.box 277 [.fn (.func f) [] []])] Tryz.call285 (aG2 (aJy hp r5) l hok) rfl aC aA ?_;rintro _ σ' ⟨rfl,rfl⟩ h14;refine xC ?_;exact aD aE ⟨by rw[hE];rfl,rfl⟩ aA
 ·have hE:cF l most p=false:=by unfold cF;rw[decide_eq_false hl];rfl
  have hd:decide ((l.length:Int)≤most)=false:=by simpa using hl
  refine mD ?_;rw[hd];refine xG ?_;exact aD aE ⟨by rw[hE];rfl,rfl⟩ aA
theorem aDD{f:FuncId}{caps:List AV}{σ:dC}{p:Int→Bool}{ok:Int→Prop}(hp:bX Tryz.prog f caps σ (fun n=>.int .i64 n) p ok)(l:List Int)(hok:∀x∈l,ok x):SCall Tryz.prog 205 [.ro 1 (l.map aK) .any,.fn (.func f) [] caps] σ (fun x σ'=>∃m:Int,x=.int .i64 m∧decide (0≤m)=l.any p∧σ'=σ):=by
 refine bS 19 [0,1,4,5,7,8,9,16] Tryz.func205 ?_;refine gS (i:=0) rfl fun hm=> ?_
 rw[List.length_map]at hm;unfold maxLen at hm;refine rK ?_;refine lp (β:=Nat) (fun j=>⟨[(0,.ro 1 (l.map aK) .any),(1,.fn (.func f) [] caps),(7,.int .i64 l.length),(8,.int .i64 j)],σ⟩) (fun j=>j≤l.length∧(l.take j).any p=false) (fun j=>l.length-j) 0 ?_ ⟨Nat.zero_le _,rfl⟩ ?_
 ·exact aJ
 rintro j ⟨hj,ht⟩;refine gA ?_;refine aB rfl (fun h1=> ?_) (fun h1=> ?_)
 ·have hlt:j<l.length:=by simp at h1;omega
  obtain⟨x,hx⟩:∃x,l[j]? =some x:=⟨_,List.getElem?_eq_getElem hlt⟩
  refine tM ?_;refine pA ?_;refine pP σ rfl hp.1 (hp.2 x (hok x (List.mem_of_getElem? hx))) rfl ?_ ?_ ?_
  ·exact aC
  ·exact fun _ h=>h
  rintro r σ' ⟨rfl,rfl⟩-;rw[dQ,List.append_nil];refine iI ?_;refine aB rfl (fun h2=> ?_) (fun h2=> ?_)
  ·refine eW ?_;apply aD;exact aE
   ·refine⟨j,rfl, ?_,rfl⟩;rw[decide_eq_true (by omega)];exact(List.any_eq_true.2 ⟨x,List.mem_of_getElem? hx,h2⟩).symm
   ·exact aA
  ·refine jH ?_;refine⟨j+1,⟨by omega, ?_⟩,by omega, ?_⟩
   ·rw[List.take_add_one,hx,List.any_append,ht];simp[h2]
   ·exact aJ
 ·refine bF ?_;apply aD;exact aE
  ·simp at h1;rw[List.take_of_length_le (by omega)]at ht;exact⟨-1,rfl,by rw[ht];rfl,rfl⟩
  ·exact aA
theorem LW{f:FuncId}{caps:List AV}{σ:dC}{p:Int→Bool}{ok:Int→Prop}(hp:bX Tryz.prog f caps σ (fun n=>.int .i64 n) p ok)(l:List Int)(hok:∀x∈l,ok x):SCall Tryz.prog 89 [.ro 1 (l.map aK) .any,.fn (.func f) [] caps] σ (fun x σ'=>x=.bool (l.any p)∧σ'=σ):=by
 refine bS 9 [0,1,4] Tryz.func89 ?_;refine lL ?_;refine cw σ Tryz.call205 (aDD hp l hok) rfl ?_ ?_ ?_
 ·exact aC
 ·exact fun _ h=>h
 rintro x σ' ⟨m,rfl,hm,rfl⟩-;rw[dQ,List.append_nil];refine yU ?_;exact aD aE ⟨by simp only[fG];rw[←hm],rfl⟩ aA
theorem aG4{f:FuncId}{p:Int→Bool}{ok:Int→Prop}(hp:bX Tryz.prog f [] [] (fun n=>.int .i64 n) p ok)(r:Nat):bX Tryz.prog 214 [.ptr r 0] [(r,.box 83 [.fn (.func f) [] []])] (fun n=>.int .i64 n) (fun x=> !p x) ok:=by
  refine⟨Tryz.call214,fun x hx=> ?_⟩;refine bS 8 [0,1,3] Tryz.func214 ?_;refine qK ?_;refine tG ?_;refine lo (aF (E rfl)) rfl ?_;refine pP [] rfl hp.1 (hp.2 x hx) rfl aC aA ?_;rintro _ σ' ⟨rfl,rfl⟩ h6;refine HJ ?_;refine cM ?_;exact aD aE ⟨by rfl,rfl⟩ aA
theorem zQ{f:FuncId}{p:Int→Bool}{ok:Int→Prop}(hp:bX Tryz.prog f [] [] (fun n=>.int .i64 n) p ok)(l:List Int)(hok:∀x∈l,ok x)(most:Int):SCall Tryz.prog 108 [.ro 1 (l.map aK) .any,.int .i64 most,.fn (.func f) [] []] [] (fun x σ'=>x=.bool (cF l most p)∧σ'=[]):=by
 refine bS 17 [0,1,2,5,6] Tryz.func108 ?_;refine cZ ?_;refine gQ fun r5 h5=> ?_;intros
 refine cM ?_;by_cases hl:(l.length:Int)≤most
 ·have hE:cF l most p= !(l.any fun x=> !p x):=by unfold cF;rw[decide_eq_true hl,List.any_eq_not_all_not];simp
  have hd:decide ((l.length:Int)≤most)=true:=by simpa using hl
  refine mD ?_;rw[hd];refine xF ?_;refine cw [(r5,.box 83 [.fn (.func f) [] []])] Tryz.call89 (LW (aG4 hp r5) l hok) rfl aC aA ?_;rintro _ σ' ⟨rfl,rfl⟩ h14;refine xC ?_;exact aD aE ⟨by rw[hE];rfl,rfl⟩ aA
 ·have hE:cF l most p=false:=by unfold cF;rw[decide_eq_false hl];rfl
  have hd:decide ((l.length:Int)≤most)=false:=by simpa using hl
  refine mD ?_;rw[hd];refine xG ?_;exact aD aE ⟨by rw[hE];rfl,rfl⟩ aA
theorem aG5{f:FuncId}{caps:List AV}{σ:dC}{p:Nat→Bool}{ok:Nat→Prop}(hp:bX Tryz.prog f caps σ (fun(n:Nat)=>.int .u8 n) p ok)(l:List Nat)(hok:∀x∈l,ok x):SCall Tryz.prog 320 [.ro 1 (l.map aG) .any,.fn (.func f) [] caps] σ (fun x σ'=>∃m:Int,x=.int .i64 m∧decide (0≤m)=l.any p∧σ'=σ):=by
 refine bS 19 [0,1,4,5,7,8,9,16] Tryz.func320 ?_;refine gS (i:=0) rfl fun hm=> ?_
 rw[List.length_map]at hm;unfold maxLen at hm;refine rK ?_;refine lp (β:=Nat) (fun j=>⟨[(0,.ro 1 (l.map aG) .any),(1,.fn (.func f) [] caps),(7,.int .i64 l.length),(8,.int .i64 j)],σ⟩) (fun j=>j≤l.length∧(l.take j).any p=false) (fun j=>l.length-j) 0 ?_ ⟨Nat.zero_le _,rfl⟩ ?_
 ·exact aJ
 rintro j ⟨hj,ht⟩;refine gA ?_;refine aB rfl (fun h1=> ?_) (fun h1=> ?_)
 ·have hlt:j<l.length:=by simp at h1;omega
  obtain⟨x,hx⟩:∃x,l[j]? =some x:=⟨_,List.getElem?_eq_getElem hlt⟩
  refine tM ?_;refine pA ?_;refine pP σ rfl hp.1 (hp.2 x (hok x (List.mem_of_getElem? hx))) rfl ?_ ?_ ?_
  ·exact aC
  ·exact fun _ h=>h
  rintro r σ' ⟨rfl,rfl⟩-;rw[dQ,List.append_nil];refine iI ?_;refine aB rfl (fun h2=> ?_) (fun h2=> ?_)
  ·refine eW ?_;apply aD;exact aE
   ·refine⟨j,rfl, ?_,rfl⟩;rw[decide_eq_true (by omega)];exact(List.any_eq_true.2 ⟨x,List.mem_of_getElem? hx,h2⟩).symm
   ·exact aA
  ·refine jH ?_;refine⟨j+1,⟨by omega, ?_⟩,by omega, ?_⟩
   ·rw[List.take_add_one,hx,List.any_append,ht];simp[h2]
   ·exact aJ
 ·refine bF ?_;apply aD;exact aE
  ·simp at h1;rw[List.take_of_length_le (by omega)]at ht;exact⟨-1,rfl,by rw[ht];rfl,rfl⟩
  ·exact aA
theorem aG6{f:FuncId}{caps:List AV}{σ:dC}{p:Nat→Bool}{ok:Nat→Prop}(hp:bX Tryz.prog f caps σ (fun(n:Nat)=>.int .u8 n) p ok)(l:List Nat)(hok:∀x∈l,ok x):SCall Tryz.prog 310 [.ro 1 (l.map aG) .any,.fn (.func f) [] caps] σ (fun x σ'=>x=.bool (l.any p)∧σ'=σ):=by
 refine bS 9 [0,1,4] Tryz.func310 ?_;refine lL ?_;refine cw σ Tryz.call320 (aG5 hp l hok) rfl ?_ ?_ ?_
 ·exact aC
 ·exact fun _ h=>h
 rintro x σ' ⟨m,rfl,hm,rfl⟩-;rw[dQ,List.append_nil];refine yU ?_;exact aD aE ⟨by simp only[fG];rw[←hm],rfl⟩ aA
theorem aJz{f:FuncId}{p:Nat→Bool}{ok:Nat→Prop}(hp:bX Tryz.prog f [] [] (fun(n:Nat)=>.int .u8 n) p ok)(r:Nat):bX Tryz.prog 311 [.ptr r 0] [(r,.box 325 [.fn (.func f) [] []])] (fun(n:Nat)=>.int .u8 n) (fun x=> !p x) ok:=by
  refine⟨Tryz.call311,fun x hx=> ?_⟩;refine bS 8 [0,1,3] Tryz.func311 ?_;refine qK ?_;refine tG ?_;refine lo (aF (E rfl)) rfl ?_;refine pP [] rfl hp.1 (hp.2 x hx) rfl aC aA ?_;rintro _ σ' ⟨rfl,rfl⟩ h6;refine HJ ?_;refine cM ?_;exact aD aE ⟨by rfl,rfl⟩ aA
theorem aG7{f:FuncId}{p:Nat→Bool}{ok:Nat→Prop}(hp:bX Tryz.prog f [] [] (fun(n:Nat)=>.int .u8 n) p ok)(l:List Nat)(hok:∀x∈l,ok x)(most:Int):SCall Tryz.prog 288 [.ro 1 (l.map aG) .any,.int .i64 most,.fn (.func f) [] []] [] (fun x σ'=>x=.bool (cF l most p)∧σ'=[]):=by
 refine bS 17 [0,1,2,5,6] Tryz.func288 ?_;refine cZ ?_;refine gQ fun r5 h5=> ?_;intros
 refine cM ?_;by_cases hl:(l.length:Int)≤most
 ·have hE:cF l most p= !(l.any fun x=> !p x):=by unfold cF;rw[decide_eq_true hl,List.any_eq_not_all_not];simp
  have hd:decide ((l.length:Int)≤most)=true:=by simpa using hl
  refine mD ?_;rw[hd];refine xF ?_;refine cw [(r5,.box 325 [.fn (.func f) [] []])] Tryz.call310 (aG6 (aJz hp r5) l hok) rfl aC aA ?_;rintro _ σ' ⟨rfl,rfl⟩ h14;refine xC ?_;exact aD aE ⟨by rw[hE];rfl,rfl⟩ aA
 ·have hE:cF l most p=false:=by unfold cF;rw[decide_eq_false hl];rfl
  have hd:decide ((l.length:Int)≤most)=false:=by simpa using hl
  refine mD ?_;rw[hd];refine xG ?_;exact aD aE ⟨by rw[hE];rfl,rfl⟩ aA
theorem aG8{f:FuncId}{caps:List AV}{σ:dC}{p:Im→Bool}{ok:Im→Prop}(hp:bX Tryz.prog f caps σ (fun x=>.agg (eT x)) p ok)(l:List Im)(hok:∀x∈l,ok x):SCall Tryz.prog 204 [.ro 3 (l.map eT) .any,.fn (.func f) [] caps] σ (fun x σ'=>∃m:Int,x=.int .i64 m∧decide (0≤m)=l.any p∧σ'=σ):=by
 refine bS 19 [0,1,4,5,7,8,9,16] Tryz.func204 ?_;refine gS (i:=0) rfl fun hm=> ?_
 rw[List.length_map]at hm;unfold maxLen at hm;refine rK ?_;refine lp (β:=Nat) (fun j=>⟨[(0,.ro 3 (l.map eT) .any),(1,.fn (.func f) [] caps),(7,.int .i64 l.length),(8,.int .i64 j)],σ⟩) (fun j=>j≤l.length∧(l.take j).any p=false) (fun j=>l.length-j) 0 ?_ ⟨Nat.zero_le _,rfl⟩ ?_
 ·exact aJ
 rintro j ⟨hj,ht⟩;refine gA ?_;refine aB rfl (fun h1=> ?_) (fun h1=> ?_)
 ·have hlt:j<l.length:=by simp at h1;omega
  obtain⟨x,hx⟩:∃x,l[j]? =some x:=⟨_,List.getElem?_eq_getElem hlt⟩
  refine tM ?_;refine oG ?_;refine pP σ rfl hp.1 (hp.2 x (hok x (List.mem_of_getElem? hx))) rfl ?_ ?_ ?_
  ·exact aC
  ·exact fun _ h=>h
  rintro r σ' ⟨rfl,rfl⟩-;rw[dQ,List.append_nil];refine iI ?_;refine aB rfl (fun h2=> ?_) (fun h2=> ?_)
  ·refine eW ?_;apply aD;exact aE
   ·refine⟨j,rfl, ?_,rfl⟩;rw[decide_eq_true (by omega)];exact(List.any_eq_true.2 ⟨x,List.mem_of_getElem? hx,h2⟩).symm
   ·exact aA
  ·refine jH ?_;refine⟨j+1,⟨by omega, ?_⟩,by omega, ?_⟩
   ·rw[List.take_add_one,hx,List.any_append,ht];simp[h2]
   ·exact aJ
 ·refine bF ?_;apply aD;exact aE
  ·simp at h1;rw[List.take_of_length_le (by omega)]at ht;exact⟨-1,rfl,by rw[ht];rfl,rfl⟩
  ·exact aA
theorem aBa{f:FuncId}{caps:List AV}{σ:dC}{p:Im→Bool}{ok:Im→Prop}(hp:bX Tryz.prog f caps σ (fun x=>.agg (eT x)) p ok)(l:List Im)(hok:∀x∈l,ok x):SCall Tryz.prog 87 [.ro 3 (l.map eT) .any,.fn (.func f) [] caps] σ (fun x σ'=>x=.bool (l.any p)∧σ'=σ):=by
 refine bS 9 [0,1,4] Tryz.func87 ?_;refine lL ?_;refine cw σ Tryz.call204 (aG8 hp l hok) rfl ?_ ?_ ?_
 ·exact aC
 ·exact fun _ h=>h
 rintro x σ' ⟨m,rfl,hm,rfl⟩-;rw[dQ,List.append_nil];refine yU ?_;exact aD aE ⟨by simp only[fG];rw[←hm],rfl⟩ aA
theorem aJA{f:FuncId}{p:Im→Bool}{ok:Im→Prop}(hp:bX Tryz.prog f [] [] (fun x=>.agg (eT x)) p ok)(r:Nat):bX Tryz.prog 287 [.ptr r 0] [(r,.box 148 [.fn (.func f) [] []])] (fun x=>.agg (eT x)) (fun x=> !p x) ok:=by
  refine⟨Tryz.call287,fun x hx=> ?_⟩;refine bS 8 [0,1,2,3] Tryz.func287 ?_;refine cZ ?_;refine gQ fun r2 h2=> ?_;intros
  refine iX ?_;refine tG ?_;refine kP ?_;refine pP [] rfl hp.1 (hp.2 x hx) rfl aC aA ?_;rintro _ σ' ⟨rfl,rfl⟩ h6;refine HJ ?_;refine cM ?_;exact aD aE ⟨by rfl,rfl⟩ aA
theorem aG9{f:FuncId}{p:Im→Bool}{ok:Im→Prop}(hp:bX Tryz.prog f [] [] (fun x=>.agg (eT x)) p ok)(l:List Im)(hok:∀x∈l,ok x)(most:Int):SCall Tryz.prog 223 [.ro 3 (l.map eT) .any,.int .i64 most,.fn (.func f) [] []] [] (fun x σ'=>x=.bool (cF l most p)∧σ'=[]):=by
 refine bS 17 [0,1,2,5,6] Tryz.func223 ?_;refine cZ ?_;refine gQ fun r5 h5=> ?_;intros
 refine cM ?_;by_cases hl:(l.length:Int)≤most
 ·have hE:cF l most p= !(l.any fun x=> !p x):=by unfold cF;rw[decide_eq_true hl,List.any_eq_not_all_not];simp
  have hd:decide ((l.length:Int)≤most)=true:=by simpa using hl
  refine mD ?_;rw[hd];refine xF ?_;refine cw [(r5,.box 148 [.fn (.func f) [] []])] Tryz.call87 (aBa (aJA hp r5) l hok) rfl aC aA ?_;rintro _ σ' ⟨rfl,rfl⟩ h14;refine xC ?_;exact aD aE ⟨by rw[hE];rfl,rfl⟩ aA
 ·have hE:cF l most p=false:=by unfold cF;rw[decide_eq_false hl];rfl
  have hd:decide ((l.length:Int)≤most)=false:=by simpa using hl
  refine mD ?_;rw[hd];refine xG ?_;exact aD aE ⟨by rw[hE];rfl,rfl⟩ aA
theorem aHa{f:FuncId}{caps:List AV}{σ:dC}{p:Gl→Bool}{ok:Gl→Prop}(hp:bX Tryz.prog f caps σ (fun x=>.agg (eU x)) p ok)(l:List Gl)(hok:∀x∈l,ok x):SCall Tryz.prog 312 [.ro 3 (l.map eU) .any,.fn (.func f) [] caps] σ (fun x σ'=>∃m:Int,x=.int .i64 m∧decide (0≤m)=l.any p∧σ'=σ):=by
 refine bS 19 [0,1,4,5,7,8,9,16] Tryz.func312 ?_;refine gS (i:=0) rfl fun hm=> ?_
 rw[List.length_map]at hm;unfold maxLen at hm;refine rK ?_;refine lp (β:=Nat) (fun j=>⟨[(0,.ro 3 (l.map eU) .any),(1,.fn (.func f) [] caps),(7,.int .i64 l.length),(8,.int .i64 j)],σ⟩) (fun j=>j≤l.length∧(l.take j).any p=false) (fun j=>l.length-j) 0 ?_ ⟨Nat.zero_le _,rfl⟩ ?_
 ·exact aJ
 rintro j ⟨hj,ht⟩;refine gA ?_;refine aB rfl (fun h1=> ?_) (fun h1=> ?_)
 ·have hlt:j<l.length:=by simp at h1;omega
  obtain⟨x,hx⟩:∃x,l[j]? =some x:=⟨_,List.getElem?_eq_getElem hlt⟩
  refine tM ?_;refine oG ?_;refine pP σ rfl hp.1 (hp.2 x (hok x (List.mem_of_getElem? hx))) rfl ?_ ?_ ?_
  ·exact aC
  ·exact fun _ h=>h
  rintro r σ' ⟨rfl,rfl⟩-;rw[dQ,List.append_nil];refine iI ?_;refine aB rfl (fun h2=> ?_) (fun h2=> ?_)
  ·refine eW ?_;apply aD;exact aE
   ·refine⟨j,rfl, ?_,rfl⟩;rw[decide_eq_true (by omega)];exact(List.any_eq_true.2 ⟨x,List.mem_of_getElem? hx,h2⟩).symm
   ·exact aA
  ·refine jH ?_;refine⟨j+1,⟨by omega, ?_⟩,by omega, ?_⟩
   ·rw[List.take_add_one,hx,List.any_append,ht];simp[h2]
   ·exact aJ
 ·refine bF ?_;apply aD;exact aE
  ·simp at h1;rw[List.take_of_length_le (by omega)]at ht;exact⟨-1,rfl,by rw[ht];rfl,rfl⟩
  ·exact aA
theorem aHb{f:FuncId}{caps:List AV}{σ:dC}{p:Gl→Bool}{ok:Gl→Prop}(hp:bX Tryz.prog f caps σ (fun x=>.agg (eU x)) p ok)(l:List Gl)(hok:∀x∈l,ok x):SCall Tryz.prog 290 [.ro 3 (l.map eU) .any,.fn (.func f) [] caps] σ (fun x σ'=>x=.bool (l.any p)∧σ'=σ):=by
 refine bS 9 [0,1,4] Tryz.func290 ?_;refine lL ?_;refine cw σ Tryz.call312 (aHa hp l hok) rfl ?_ ?_ ?_
 ·exact aC
 ·exact fun _ h=>h
 rintro x σ' ⟨m,rfl,hm,rfl⟩-;rw[dQ,List.append_nil];refine yU ?_;exact aD aE ⟨by simp only[fG];rw[←hm],rfl⟩ aA
theorem aJB{f:FuncId}{p:Gl→Bool}{ok:Gl→Prop}(hp:bX Tryz.prog f [] [] (fun x=>.agg (eU x)) p ok)(r:Nat):bX Tryz.prog 291 [.ptr r 0] [(r,.box 280 [.fn (.func f) [] []])] (fun x=>.agg (eU x)) (fun x=> !p x) ok:=by
  refine⟨Tryz.call291,fun x hx=> ?_⟩;refine bS 8 [0,1,2,3] Tryz.func291 ?_;refine cZ ?_;refine gQ fun r2 h2=> ?_;intros
  refine iX ?_;refine tG ?_;refine kP ?_;refine pP [] rfl hp.1 (hp.2 x hx) rfl aC aA ?_;rintro _ σ' ⟨rfl,rfl⟩ h6;refine HJ ?_;refine cM ?_;exact aD aE ⟨by rfl,rfl⟩ aA
theorem aHc{f:FuncId}{p:Gl→Bool}{ok:Gl→Prop}(hp:bX Tryz.prog f [] [] (fun x=>.agg (eU x)) p ok)(l:List Gl)(hok:∀x∈l,ok x)(most:Int):SCall Tryz.prog 227 [.ro 3 (l.map eU) .any,.int .i64 most,.fn (.func f) [] []] [] (fun x σ'=>x=.bool (cF l most p)∧σ'=[]):=by
 refine bS 17 [0,1,2,5,6] Tryz.func227 ?_;refine cZ ?_;refine gQ fun r5 h5=> ?_;intros
 refine cM ?_;by_cases hl:(l.length:Int)≤most
 ·have hE:cF l most p= !(l.any fun x=> !p x):=by unfold cF;rw[decide_eq_true hl,List.any_eq_not_all_not];simp
  have hd:decide ((l.length:Int)≤most)=true:=by simpa using hl
  refine mD ?_;rw[hd];refine xF ?_;refine cw [(r5,.box 280 [.fn (.func f) [] []])] Tryz.call290 (aHb (aJB hp r5) l hok) rfl aC aA ?_;rintro _ σ' ⟨rfl,rfl⟩ h14;refine xC ?_;exact aD aE ⟨by rw[hE];rfl,rfl⟩ aA
 ·have hE:cF l most p=false:=by unfold cF;rw[decide_eq_false hl];rfl
  have hd:decide ((l.length:Int)≤most)=false:=by simpa using hl
  refine mD ?_;rw[hd];refine xG ?_;exact aD aE ⟨by rw[hE];rfl,rfl⟩ aA
theorem aHd{f:FuncId}{caps:List AV}{σ:dC}{p:Ex→Bool}{ok:Ex→Prop}(hp:bX Tryz.prog f caps σ (fun x=>.agg (eA x)) p ok)(l:List Ex)(hok:∀x∈l,ok x):SCall Tryz.prog 203 [.ro 2 (l.map eA) .any,.fn (.func f) [] caps] σ (fun x σ'=>∃m:Int,x=.int .i64 m∧decide (0≤m)=l.any p∧σ'=σ):=by
 refine bS 19 [0,1,4,5,7,8,9,16] Tryz.func203 ?_;refine gS (i:=0) rfl fun hm=> ?_
 rw[List.length_map]at hm;unfold maxLen at hm;refine rK ?_;refine lp (β:=Nat) (fun j=>⟨[(0,.ro 2 (l.map eA) .any),(1,.fn (.func f) [] caps),(7,.int .i64 l.length),(8,.int .i64 j)],σ⟩) (fun j=>j≤l.length∧(l.take j).any p=false) (fun j=>l.length-j) 0 ?_ ⟨Nat.zero_le _,rfl⟩ ?_
 ·exact aJ
 rintro j ⟨hj,ht⟩;refine gA ?_;refine aB rfl (fun h1=> ?_) (fun h1=> ?_)
 ·have hlt:j<l.length:=by simp at h1;omega
  obtain⟨x,hx⟩:∃x,l[j]? =some x:=⟨_,List.getElem?_eq_getElem hlt⟩
  refine tM ?_;refine oG ?_;refine pP σ rfl hp.1 (hp.2 x (hok x (List.mem_of_getElem? hx))) rfl ?_ ?_ ?_
  ·exact aC
  ·exact fun _ h=>h
  rintro r σ' ⟨rfl,rfl⟩-;rw[dQ,List.append_nil];refine iI ?_;refine aB rfl (fun h2=> ?_) (fun h2=> ?_)
  ·refine eW ?_;apply aD;exact aE
   ·refine⟨j,rfl, ?_,rfl⟩;rw[decide_eq_true (by omega)];exact(List.any_eq_true.2 ⟨x,List.mem_of_getElem? hx,h2⟩).symm
   ·exact aA
  ·refine jH ?_;refine⟨j+1,⟨by omega, ?_⟩,by omega, ?_⟩
   ·rw[List.take_add_one,hx,List.any_append,ht];simp[h2]
   ·exact aJ
 ·refine bF ?_;apply aD;exact aE
  ·simp at h1;rw[List.take_of_length_le (by omega)]at ht;exact⟨-1,rfl,by rw[ht];rfl,rfl⟩
  ·exact aA
theorem aBb{f:FuncId}{caps:List AV}{σ:dC}{p:Ex→Bool}{ok:Ex→Prop}(hp:bX Tryz.prog f caps σ (fun x=>.agg (eA x)) p ok)(l:List Ex)(hok:∀x∈l,ok x):SCall Tryz.prog 85 [.ro 2 (l.map eA) .any,.fn (.func f) [] caps] σ (fun x σ'=>x=.bool (l.any p)∧σ'=σ):=by
 refine bS 9 [0,1,4] Tryz.func85 ?_;refine lL ?_;refine cw σ Tryz.call203 (aHd hp l hok) rfl ?_ ?_ ?_
 ·exact aC
 ·exact fun _ h=>h
 rintro x σ' ⟨m,rfl,hm,rfl⟩-;rw[dQ,List.append_nil];refine yU ?_;exact aD aE ⟨by simp only[fG];rw[←hm],rfl⟩ aA
theorem aJC{f:FuncId}{p:Ex→Bool}{ok:Ex→Prop}(hp:bX Tryz.prog f [] [] (fun x=>.agg (eA x)) p ok)(r:Nat):bX Tryz.prog 292 [.ptr r 0] [(r,.box 146 [.fn (.func f) [] []])] (fun x=>.agg (eA x)) (fun x=> !p x) ok:=by
  refine⟨Tryz.call292,fun x hx=> ?_⟩;refine bS 8 [0,1,2,3] Tryz.func292 ?_;refine cZ ?_;refine gQ fun r2 h2=> ?_;intros
  refine iX ?_;refine tG ?_;refine kP ?_;refine pP [] rfl hp.1 (hp.2 x hx) rfl aC aA ?_;rintro _ σ' ⟨rfl,rfl⟩ h6;refine HJ ?_;refine cM ?_;exact aD aE ⟨by rfl,rfl⟩ aA
theorem aHe{f:FuncId}{p:Ex→Bool}{ok:Ex→Prop}(hp:bX Tryz.prog f [] [] (fun x=>.agg (eA x)) p ok)(l:List Ex)(hok:∀x∈l,ok x)(most:Int):SCall Tryz.prog 230 [.ro 2 (l.map eA) .any,.int .i64 most,.fn (.func f) [] []] [] (fun x σ'=>x=.bool (cF l most p)∧σ'=[]):=by
 refine bS 17 [0,1,2,5,6] Tryz.func230 ?_;refine cZ ?_;refine gQ fun r5 h5=> ?_;intros
 refine cM ?_;by_cases hl:(l.length:Int)≤most
 ·have hE:cF l most p= !(l.any fun x=> !p x):=by unfold cF;rw[decide_eq_true hl,List.any_eq_not_all_not];simp
  have hd:decide ((l.length:Int)≤most)=true:=by simpa using hl
  refine mD ?_;rw[hd];refine xF ?_;refine cw [(r5,.box 146 [.fn (.func f) [] []])] Tryz.call85 (aBb (aJC hp r5) l hok) rfl aC aA ?_;rintro _ σ' ⟨rfl,rfl⟩ h14;refine xC ?_;exact aD aE ⟨by rw[hE];rfl,rfl⟩ aA
 ·have hE:cF l most p=false:=by unfold cF;rw[decide_eq_false hl];rfl
  have hd:decide ((l.length:Int)≤most)=false:=by simpa using hl
  refine mD ?_;rw[hd];refine xG ?_;exact aD aE ⟨by rw[hE];rfl,rfl⟩ aA
theorem aHf{f:FuncId}{caps:List AV}{σ:dC}{p:El→Bool}{ok:El→Prop}(hp:bX Tryz.prog f caps σ (fun x=>.agg (eQ x)) p ok)(l:List El)(hok:∀x∈l,ok x):SCall Tryz.prog 206 [.ro 2 (l.map eQ) .any,.fn (.func f) [] caps] σ (fun x σ'=>∃m:Int,x=.int .i64 m∧decide (0≤m)=l.any p∧σ'=σ):=by
 refine bS 19 [0,1,4,5,7,8,9,16] Tryz.func206 ?_;refine gS (i:=0) rfl fun hm=> ?_
 rw[List.length_map]at hm;unfold maxLen at hm;refine rK ?_;refine lp (β:=Nat) (fun j=>⟨[(0,.ro 2 (l.map eQ) .any),(1,.fn (.func f) [] caps),(7,.int .i64 l.length),(8,.int .i64 j)],σ⟩) (fun j=>j≤l.length∧(l.take j).any p=false) (fun j=>l.length-j) 0 ?_ ⟨Nat.zero_le _,rfl⟩ ?_
 ·exact aJ
 rintro j ⟨hj,ht⟩;refine gA ?_;refine aB rfl (fun h1=> ?_) (fun h1=> ?_)
 ·have hlt:j<l.length:=by simp at h1;omega
  obtain⟨x,hx⟩:∃x,l[j]? =some x:=⟨_,List.getElem?_eq_getElem hlt⟩
  refine tM ?_;refine oG ?_;refine pP σ rfl hp.1 (hp.2 x (hok x (List.mem_of_getElem? hx))) rfl ?_ ?_ ?_
  ·exact aC
  ·exact fun _ h=>h
  rintro r σ' ⟨rfl,rfl⟩-;rw[dQ,List.append_nil];refine iI ?_;refine aB rfl (fun h2=> ?_) (fun h2=> ?_)
  ·refine eW ?_;apply aD;exact aE
   ·refine⟨j,rfl, ?_,rfl⟩;rw[decide_eq_true (by omega)];exact(List.any_eq_true.2 ⟨x,List.mem_of_getElem? hx,h2⟩).symm
   ·exact aA
  ·refine jH ?_;refine⟨j+1,⟨by omega, ?_⟩,by omega, ?_⟩
   ·rw[List.take_add_one,hx,List.any_append,ht];simp[h2]
   ·exact aJ
 ·refine bF ?_;apply aD;exact aE
  ·simp at h1;rw[List.take_of_length_le (by omega)]at ht;exact⟨-1,rfl,by rw[ht];rfl,rfl⟩
  ·exact aA
theorem aBc{f:FuncId}{caps:List AV}{σ:dC}{p:El→Bool}{ok:El→Prop}(hp:bX Tryz.prog f caps σ (fun x=>.agg (eQ x)) p ok)(l:List El)(hok:∀x∈l,ok x):SCall Tryz.prog 91 [.ro 2 (l.map eQ) .any,.fn (.func f) [] caps] σ (fun x σ'=>x=.bool (l.any p)∧σ'=σ):=by
 refine bS 9 [0,1,4] Tryz.func91 ?_;refine lL ?_;refine cw σ Tryz.call206 (aHf hp l hok) rfl ?_ ?_ ?_
 ·exact aC
 ·exact fun _ h=>h
 rintro x σ' ⟨m,rfl,hm,rfl⟩-;rw[dQ,List.append_nil];refine yU ?_;exact aD aE ⟨by simp only[fG];rw[←hm],rfl⟩ aA
theorem aJD{f:FuncId}{p:El→Bool}{ok:El→Prop}(hp:bX Tryz.prog f [] [] (fun x=>.agg (eQ x)) p ok)(r:Nat):bX Tryz.prog 293 [.ptr r 0] [(r,.box 152 [.fn (.func f) [] []])] (fun x=>.agg (eQ x)) (fun x=> !p x) ok:=by
  refine⟨Tryz.call293,fun x hx=> ?_⟩;refine bS 8 [0,1,2,3] Tryz.func293 ?_;refine cZ ?_;refine gQ fun r2 h2=> ?_;intros
  refine iX ?_;refine tG ?_;refine kP ?_;refine pP [] rfl hp.1 (hp.2 x hx) rfl aC aA ?_;rintro _ σ' ⟨rfl,rfl⟩ h6;refine HJ ?_;refine cM ?_;exact aD aE ⟨by rfl,rfl⟩ aA
theorem aHg{f:FuncId}{p:El→Bool}{ok:El→Prop}(hp:bX Tryz.prog f [] [] (fun x=>.agg (eQ x)) p ok)(l:List El)(hok:∀x∈l,ok x)(most:Int):SCall Tryz.prog 232 [.ro 2 (l.map eQ) .any,.int .i64 most,.fn (.func f) [] []] [] (fun x σ'=>x=.bool (cF l most p)∧σ'=[]):=by
 refine bS 17 [0,1,2,5,6] Tryz.func232 ?_;refine cZ ?_;refine gQ fun r5 h5=> ?_;intros
 refine cM ?_;by_cases hl:(l.length:Int)≤most
 ·have hE:cF l most p= !(l.any fun x=> !p x):=by unfold cF;rw[decide_eq_true hl,List.any_eq_not_all_not];simp
  have hd:decide ((l.length:Int)≤most)=true:=by simpa using hl
  refine mD ?_;rw[hd];refine xF ?_;refine cw [(r5,.box 152 [.fn (.func f) [] []])] Tryz.call91 (aBc (aJD hp r5) l hok) rfl aC aA ?_;rintro _ σ' ⟨rfl,rfl⟩ h14;refine xC ?_;exact aD aE ⟨by rw[hE];rfl,rfl⟩ aA
 ·have hE:cF l most p=false:=by unfold cF;rw[decide_eq_false hl];rfl
  have hd:decide ((l.length:Int)≤most)=false:=by simpa using hl
  refine mD ?_;rw[hd];refine xG ?_;exact aD aE ⟨by rw[hE];rfl,rfl⟩ aA
theorem aHh{f:FuncId}{caps:List AV}{σ:dC}{p:Co→Bool}{ok:Co→Prop}(hp:bX Tryz.prog f caps σ (fun x=>.agg (dJ x)) p ok)(l:List Co)(hok:∀x∈l,ok x):SCall Tryz.prog 283 [.ro 2 (l.map dJ) .any,.fn (.func f) [] caps] σ (fun x σ'=>∃m:Int,x=.int .i64 m∧decide (0≤m)=l.any p∧σ'=σ):=by
 refine bS 19 [0,1,4,5,7,8,9,16] Tryz.func283 ?_;refine gS (i:=0) rfl fun hm=> ?_
 rw[List.length_map]at hm;unfold maxLen at hm;refine rK ?_;refine lp (β:=Nat) (fun j=>⟨[(0,.ro 2 (l.map dJ) .any),(1,.fn (.func f) [] caps),(7,.int .i64 l.length),(8,.int .i64 j)],σ⟩) (fun j=>j≤l.length∧(l.take j).any p=false) (fun j=>l.length-j) 0 ?_ ⟨Nat.zero_le _,rfl⟩ ?_
 ·exact aJ
 rintro j ⟨hj,ht⟩;refine gA ?_;refine aB rfl (fun h1=> ?_) (fun h1=> ?_)
 ·have hlt:j<l.length:=by simp at h1;omega
  obtain⟨x,hx⟩:∃x,l[j]? =some x:=⟨_,List.getElem?_eq_getElem hlt⟩
  refine tM ?_;refine oG ?_;refine pP σ rfl hp.1 (hp.2 x (hok x (List.mem_of_getElem? hx))) rfl ?_ ?_ ?_
  ·exact aC
  ·exact fun _ h=>h
  rintro r σ' ⟨rfl,rfl⟩-;rw[dQ,List.append_nil];refine iI ?_;refine aB rfl (fun h2=> ?_) (fun h2=> ?_)
  ·refine eW ?_;apply aD;exact aE
   ·refine⟨j,rfl, ?_,rfl⟩;rw[decide_eq_true (by omega)];exact(List.any_eq_true.2 ⟨x,List.mem_of_getElem? hx,h2⟩).symm
   ·exact aA
  ·refine jH ?_;refine⟨j+1,⟨by omega, ?_⟩,by omega, ?_⟩
   ·rw[List.take_add_one,hx,List.any_append,ht];simp[h2]
   ·exact aJ
 ·refine bF ?_;apply aD;exact aE
  ·simp at h1;rw[List.take_of_length_le (by omega)]at ht;exact⟨-1,rfl,by rw[ht];rfl,rfl⟩
  ·exact aA
theorem aHi{f:FuncId}{caps:List AV}{σ:dC}{p:Co→Bool}{ok:Co→Prop}(hp:bX Tryz.prog f caps σ (fun x=>.agg (dJ x)) p ok)(l:List Co)(hok:∀x∈l,ok x):SCall Tryz.prog 212 [.ro 2 (l.map dJ) .any,.fn (.func f) [] caps] σ (fun x σ'=>x=.bool (l.any p)∧σ'=σ):=by
 refine bS 9 [0,1,4] Tryz.func212 ?_;refine lL ?_;refine cw σ Tryz.call283 (aHh hp l hok) rfl ?_ ?_ ?_
 ·exact aC
 ·exact fun _ h=>h
 rintro x σ' ⟨m,rfl,hm,rfl⟩-;rw[dQ,List.append_nil];refine yU ?_;exact aD aE ⟨by simp only[fG];rw[←hm],rfl⟩ aA
theorem aJE{f:FuncId}{p:Co→Bool}{ok:Co→Prop}(hp:bX Tryz.prog f [] [] (fun x=>.agg (dJ x)) p ok)(r:Nat):bX Tryz.prog 213 [.ptr r 0] [(r,.box 182 [.fn (.func f) [] []])] (fun x=>.agg (dJ x)) (fun x=> !p x) ok:=by
  refine⟨Tryz.call213,fun x hx=> ?_⟩;refine bS 8 [0,1,2,3] Tryz.func213 ?_;refine cZ ?_;refine gQ fun r2 h2=> ?_;intros
  refine iX ?_;refine tG ?_;refine kP ?_;refine pP [] rfl hp.1 (hp.2 x hx) rfl aC aA ?_;rintro _ σ' ⟨rfl,rfl⟩ h6;refine HJ ?_;refine cM ?_;exact aD aE ⟨by rfl,rfl⟩ aA
theorem aHj{f:FuncId}{p:Co→Bool}{ok:Co→Prop}(hp:bX Tryz.prog f [] [] (fun x=>.agg (dJ x)) p ok)(l:List Co)(hok:∀x∈l,ok x)(most:Int):SCall Tryz.prog 106 [.ro 2 (l.map dJ) .any,.int .i64 most,.fn (.func f) [] []] [] (fun x σ'=>x=.bool (cF l most p)∧σ'=[]):=by
 refine bS 17 [0,1,2,5,6] Tryz.func106 ?_;refine cZ ?_;refine gQ fun r5 h5=> ?_;intros
 refine cM ?_;by_cases hl:(l.length:Int)≤most
 ·have hE:cF l most p= !(l.any fun x=> !p x):=by unfold cF;rw[decide_eq_true hl,List.any_eq_not_all_not];simp
  have hd:decide ((l.length:Int)≤most)=true:=by simpa using hl
  refine mD ?_;rw[hd];refine xF ?_;refine cw [(r5,.box 182 [.fn (.func f) [] []])] Tryz.call212 (aHi (aJE hp r5) l hok) rfl aC aA ?_;rintro _ σ' ⟨rfl,rfl⟩ h14;refine xC ?_;exact aD aE ⟨by rw[hE];rfl,rfl⟩ aA
 ·have hE:cF l most p=false:=by unfold cF;rw[decide_eq_false hl];rfl
  have hd:decide ((l.length:Int)≤most)=false:=by simpa using hl
  refine mD ?_;rw[hd];refine xG ?_;exact aD aE ⟨by rw[hE];rfl,rfl⟩ aA
theorem aHk{f:FuncId}{caps:List AV}{σ:dC}{p:Da→Bool}{ok:Da→Prop}(hp:bX Tryz.prog f caps σ (fun x=>.agg (eO x)) p ok)(l:List Da)(hok:∀x∈l,ok x):SCall Tryz.prog 313 [.ro 2 (l.map eO) .any,.fn (.func f) [] caps] σ (fun x σ'=>∃m:Int,x=.int .i64 m∧decide (0≤m)=l.any p∧σ'=σ):=by
 refine bS 19 [0,1,4,5,7,8,9,16] Tryz.func313 ?_;refine gS (i:=0) rfl fun hm=> ?_
 rw[List.length_map]at hm;unfold maxLen at hm;refine rK ?_;refine lp (β:=Nat) (fun j=>⟨[(0,.ro 2 (l.map eO) .any),(1,.fn (.func f) [] caps),(7,.int .i64 l.length),(8,.int .i64 j)],σ⟩) (fun j=>j≤l.length∧(l.take j).any p=false) (fun j=>l.length-j) 0 ?_ ⟨Nat.zero_le _,rfl⟩ ?_
 ·exact aJ
 rintro j ⟨hj,ht⟩;refine gA ?_;refine aB rfl (fun h1=> ?_) (fun h1=> ?_)
 ·have hlt:j<l.length:=by simp at h1;omega
  obtain⟨x,hx⟩:∃x,l[j]? =some x:=⟨_,List.getElem?_eq_getElem hlt⟩
  refine tM ?_;refine oG ?_;refine pP σ rfl hp.1 (hp.2 x (hok x (List.mem_of_getElem? hx))) rfl ?_ ?_ ?_
  ·exact aC
  ·exact fun _ h=>h
  rintro r σ' ⟨rfl,rfl⟩-;rw[dQ,List.append_nil];refine iI ?_;refine aB rfl (fun h2=> ?_) (fun h2=> ?_)
  ·refine eW ?_;apply aD;exact aE
   ·refine⟨j,rfl, ?_,rfl⟩;rw[decide_eq_true (by omega)];exact(List.any_eq_true.2 ⟨x,List.mem_of_getElem? hx,h2⟩).symm
   ·exact aA
  ·refine jH ?_;refine⟨j+1,⟨by omega, ?_⟩,by omega, ?_⟩
   ·rw[List.take_add_one,hx,List.any_append,ht];simp[h2]
   ·exact aJ
 ·refine bF ?_;apply aD;exact aE
  ·simp at h1;rw[List.take_of_length_le (by omega)]at ht;exact⟨-1,rfl,by rw[ht];rfl,rfl⟩
  ·exact aA
theorem aHl{f:FuncId}{caps:List AV}{σ:dC}{p:Da→Bool}{ok:Da→Prop}(hp:bX Tryz.prog f caps σ (fun x=>.agg (eO x)) p ok)(l:List Da)(hok:∀x∈l,ok x):SCall Tryz.prog 294 [.ro 2 (l.map eO) .any,.fn (.func f) [] caps] σ (fun x σ'=>x=.bool (l.any p)∧σ'=σ):=by
 refine bS 9 [0,1,4] Tryz.func294 ?_;refine lL ?_;refine cw σ Tryz.call313 (aHk hp l hok) rfl ?_ ?_ ?_
 ·exact aC
 ·exact fun _ h=>h
 rintro x σ' ⟨m,rfl,hm,rfl⟩-;rw[dQ,List.append_nil];refine yU ?_;exact aD aE ⟨by simp only[fG];rw[←hm],rfl⟩ aA
theorem aJF{f:FuncId}{p:Da→Bool}{ok:Da→Prop}(hp:bX Tryz.prog f [] [] (fun x=>.agg (eO x)) p ok)(r:Nat):bX Tryz.prog 295 [.ptr r 0] [(r,.box 284 [.fn (.func f) [] []])] (fun x=>.agg (eO x)) (fun x=> !p x) ok:=by
  refine⟨Tryz.call295,fun x hx=> ?_⟩;refine bS 8 [0,1,2,3] Tryz.func295 ?_;refine cZ ?_;refine gQ fun r2 h2=> ?_;intros
  refine iX ?_;refine tG ?_;refine kP ?_;refine pP [] rfl hp.1 (hp.2 x hx) rfl aC aA ?_;rintro _ σ' ⟨rfl,rfl⟩ h6;refine HJ ?_;refine cM ?_;exact aD aE ⟨by rfl,rfl⟩ aA
theorem aHm{f:FuncId}{p:Da→Bool}{ok:Da→Prop}(hp:bX Tryz.prog f [] [] (fun x=>.agg (eO x)) p ok)(l:List Da)(hok:∀x∈l,ok x)(most:Int):SCall Tryz.prog 235 [.ro 2 (l.map eO) .any,.int .i64 most,.fn (.func f) [] []] [] (fun x σ'=>x=.bool (cF l most p)∧σ'=[]):=by
 refine bS 17 [0,1,2,5,6] Tryz.func235 ?_;refine cZ ?_;refine gQ fun r5 h5=> ?_;intros
 refine cM ?_;by_cases hl:(l.length:Int)≤most
 ·have hE:cF l most p= !(l.any fun x=> !p x):=by unfold cF;rw[decide_eq_true hl,List.any_eq_not_all_not];simp
  have hd:decide ((l.length:Int)≤most)=true:=by simpa using hl
  refine mD ?_;rw[hd];refine xF ?_;refine cw [(r5,.box 284 [.fn (.func f) [] []])] Tryz.call294 (aHl (aJF hp r5) l hok) rfl aC aA ?_;rintro _ σ' ⟨rfl,rfl⟩ h14;refine xC ?_;exact aD aE ⟨by rw[hE];rfl,rfl⟩ aA
 ·have hE:cF l most p=false:=by unfold cF;rw[decide_eq_false hl];rfl
  have hd:decide ((l.length:Int)≤most)=false:=by simpa using hl
  refine mD ?_;rw[hd];refine xG ?_;exact aD aE ⟨by rw[hE];rfl,rfl⟩ aA
theorem aDE{f:FuncId}{caps:List AV}{σ:dC}{p:Ins→Bool}{ok:Ins→Prop}(hp:bX Tryz.prog f caps σ (fun x=>.agg (iv .any x)) p ok)(l:List Ins)(hok:∀x∈l,ok x):SCall Tryz.prog 284 [.ro 4 (l.map (iv .any)) .any,.fn (.func f) [] caps] σ (fun x σ'=>∃m:Int,x=.int .i64 m∧decide (0≤m)=l.any p∧σ'=σ):=by
 refine bS 19 [0,1,4,5,7,8,9,16] Tryz.func284 ?_;refine gS (i:=0) rfl fun hm=> ?_
 rw[List.length_map]at hm;unfold maxLen at hm;refine rK ?_;refine lp (β:=Nat) (fun j=>⟨[(0,.ro 4 (l.map (iv .any)) .any),(1,.fn (.func f) [] caps),(7,.int .i64 l.length),(8,.int .i64 j)],σ⟩) (fun j=>j≤l.length∧(l.take j).any p=false) (fun j=>l.length-j) 0 ?_ ⟨Nat.zero_le _,rfl⟩ ?_
 ·exact aJ
 rintro j ⟨hj,ht⟩;refine gA ?_;refine aB rfl (fun h1=> ?_) (fun h1=> ?_)
 ·have hlt:j<l.length:=by simp at h1;omega
  obtain⟨x,hx⟩:∃x,l[j]? =some x:=⟨_,List.getElem?_eq_getElem hlt⟩
  refine tM ?_;refine oG ?_;refine pP σ rfl hp.1 (hp.2 x (hok x (List.mem_of_getElem? hx))) rfl ?_ ?_ ?_
  ·exact aC
  ·exact fun _ h=>h
  rintro r σ' ⟨rfl,rfl⟩-;rw[dQ,List.append_nil];refine iI ?_;refine aB rfl (fun h2=> ?_) (fun h2=> ?_)
  ·refine eW ?_;apply aD;exact aE
   ·refine⟨j,rfl, ?_,rfl⟩;rw[decide_eq_true (by omega)];exact(List.any_eq_true.2 ⟨x,List.mem_of_getElem? hx,h2⟩).symm
   ·exact aA
  ·refine jH ?_;refine⟨j+1,⟨by omega, ?_⟩,by omega, ?_⟩
   ·rw[List.take_add_one,hx,List.any_append,ht];simp[h2]
   ·exact aJ
 ·refine bF ?_;apply aD;exact aE
  ·simp at h1;rw[List.take_of_length_le (by omega)]at ht;exact⟨-1,rfl,by rw[ht];rfl,rfl⟩
  ·exact aA
theorem aDF{f:FuncId}{caps:List AV}{σ:dC}{p:Ins→Bool}{ok:Ins→Prop}(hp:bX Tryz.prog f caps σ (fun x=>.agg (iv .any x)) p ok)(l:List Ins)(hok:∀x∈l,ok x):SCall Tryz.prog 215 [.ro 4 (l.map (iv .any)) .any,.fn (.func f) [] caps] σ (fun x σ'=>x=.bool (l.any p)∧σ'=σ):=by
 refine bS 9 [0,1,4] Tryz.func215 ?_;refine lL ?_;refine cw σ Tryz.call284 (aDE hp l hok) rfl ?_ ?_ ?_
 ·exact aC
 ·exact fun _ h=>h
 rintro x σ' ⟨m,rfl,hm,rfl⟩-;rw[dQ,List.append_nil];refine yU ?_;exact aD aE ⟨by simp only[fG];rw[←hm],rfl⟩ aA
theorem aHn{f:FuncId}{p:Ins→Bool}{ok:Ins→Prop}(hp:bX Tryz.prog f [] [] (fun x=>.agg (iv .any x)) p ok)(r:Nat):bX Tryz.prog 216 [.ptr r 0] [(r,.box 134 [.fn (.func f) [] []])] (fun x=>.agg (iv .any x)) (fun x=> !p x) ok:=by
  refine⟨Tryz.call216,fun x hx=> ?_⟩;refine bS 8 [0,1,2,3] Tryz.func216 ?_;refine cZ ?_;refine gQ fun r2 h2=> ?_;intros
  refine iX ?_;refine tG ?_;refine kP ?_;refine pP [] rfl hp.1 (hp.2 x hx) rfl aC aA ?_;rintro _ σ' ⟨rfl,rfl⟩ h6;refine HJ ?_;refine cM ?_;exact aD aE ⟨by rfl,rfl⟩ aA
theorem aDG{f:FuncId}{p:Ins→Bool}{ok:Ins→Prop}(hp:bX Tryz.prog f [] [] (fun x=>.agg (iv .any x)) p ok)(l:List Ins)(hok:∀x∈l,ok x)(most:Int):SCall Tryz.prog 110 [.ro 4 (l.map (iv .any)) .any,.int .i64 most,.fn (.func f) [] []] [] (fun x σ'=>x=.bool (cF l most p)∧σ'=[]):=by
 refine bS 17 [0,1,2,5,6] Tryz.func110 ?_;refine cZ ?_;refine gQ fun r5 h5=> ?_;intros
 refine cM ?_;by_cases hl:(l.length:Int)≤most
 ·have hE:cF l most p= !(l.any fun x=> !p x):=by unfold cF;rw[decide_eq_true hl,List.any_eq_not_all_not];simp
  have hd:decide ((l.length:Int)≤most)=true:=by simpa using hl
  refine mD ?_;rw[hd];refine xF ?_;refine cw [(r5,.box 134 [.fn (.func f) [] []])] Tryz.call215 (aDF (aHn hp r5) l hok) rfl aC aA ?_;rintro _ σ' ⟨rfl,rfl⟩ h14;refine xC ?_;exact aD aE ⟨by rw[hE];rfl,rfl⟩ aA
 ·have hE:cF l most p=false:=by unfold cF;rw[decide_eq_false hl];rfl
  have hd:decide ((l.length:Int)≤most)=false:=by simpa using hl
  refine mD ?_;rw[hd];refine xG ?_;exact aD aE ⟨by rw[hE];rfl,rfl⟩ aA
end Go.Proofs.YtjpdadobblffmaaGreat
namespace Go.Proofs.YtjpdadobblffmaaGreat
open Go.RowKit Go.ChangeShapes Go.WideShapes Go.ChangeAt Go.Deep
attribute [local irreducible] SW RS RD fF eB
theorem LX:bX Tryz.prog 109 [] [] (fun n=>.int .i64 n) AG (fun _=>True):=by
 refine⟨Tryz.call109,fun k _=> ?_⟩;refine bS 9 [0,2] Tryz.func109 ?_;refine eX ?_;refine lo (cN (E rfl) (E rfl)) rfl ?_;refine jU ?_;refine pW ?_;refine jE ?_;refine cM ?_;exact aD aE ⟨by rfl,rfl⟩ aA
theorem yF(n:Int):SCall Tryz.prog 226 [.int .i64 n] [] (fun r σ'=>r=.bool (gG n)∧σ'=[]):=by
 refine bS 9 [0,2] Tryz.func226 ?_;refine eX ?_;refine IU ?_;refine KQ ?_;refine jM ?_;exact aD aE ⟨by rfl,rfl⟩ aA
theorem PQ:bX Tryz.prog 226 [] [] (fun n=>.int .i64 n) gG (fun _=>True):=⟨Tryz.call226,fun n _=>yF n⟩
theorem PR(n:Int):SCall Tryz.prog 234 [.int .i64 n] [] (fun r σ'=>r=.bool (gI n)∧σ'=[]):=by
 refine bS 9 [0,2] Tryz.func234 ?_;refine eX ?_;refine IU ?_;refine KQ ?_;refine jM ?_;exact aD aE ⟨by unfold gI;cases h:decide (-2147483648≤n)<;>simp_all [fG],rfl⟩ aA
def chN (c:Nat):Bool:=decide (32≤c)&&decide (c≤126)
theorem aDH:bX Tryz.prog 289 [] [] (fun(n:Nat)=>.int .u8 n) chN (fun _=>True):=by
 refine⟨Tryz.call289,fun k _=> ?_⟩;refine bS 9 [0,2] Tryz.func289 ?_;refine eX ?_;refine IU ?_;refine KQ ?_;refine jM ?_;exact aD aE ⟨by unfold chN;rw[show decide (32≤k)=decide ((32:Int)≤(k:Int))from decide_eq_decide.2 (by omega),show decide (k≤126)=decide ((k:Int)≤(126:Int))from decide_eq_decide.2 (by omega)];cases h:decide ((32:Int)≤(k:Int))<;>simp_all [fG],rfl⟩ aA
theorem qP(l:Li)(a c:Int):SCall Tryz.prog 113 [.agg (gO l),.int .i64 a,.int .i64 c] [] (fun r σ'=>r=.bool (kI l a c)∧σ'=[]):=by
 obtain⟨has,mn,mx⟩:=l;refine bS 38 [0,1,2,3,6,9] Tryz.func113 ?_;unfold gO;refine cZ ?_;refine gQ fun r3 h3=> ?_;intros
 refine iJ ?_;refine nQ ?_;refine aB rfl (fun g1=> ?_) (fun g1=> ?_)
 ·have hE:kI ⟨has,mn,mx⟩ a c=if(mn==0)=true then(mx==0)else false:=by obtain rfl:has=false:=(by simpa using g1);unfold kI;cases h:mn==0<;>simp_all
  refine fT ?_;refine BN ?_;refine pW ?_;refine jM ?_;exact aD aE ⟨by rw[hE];rfl,rfl⟩ aA
 have hE:kI ⟨has,mn,mx⟩ a c=if(if(if decide (0≤mn)=true then decide (mn≤a)else false)=true then decide (-1≤mx)else false)=true then decide (mx≤c)else false:=by obtain rfl:has=true:=(by simpa using g1);unfold kI;rw[if_pos rfl];cases h:decide (0≤mn)<;>cases h2:decide (mn≤a)<;>cases h3:decide (-1≤mx)<;>rfl
 refine DV ?_;refine oY ?_;refine aAk ?_;refine uF ?_;refine mR ?_;refine NT ?_;refine uF ?_;refine oY ?_;refine aAk ?_;refine jM ?_;exact aD aE ⟨by rw[hE];rfl,rfl⟩ aA
theorem aBd(s:List Nat):tQ s=if(!decide (s=[]))=true then cF s 16 chN else false:=by
 unfold tQ cF chN;rcases s with _ |⟨x,s⟩
 ·rfl
 ·rw[if_pos (by simp),if_pos (by simp),show decide ((x::s).length≤16)=decide (((x::s).length:Int)≤16)from decide_eq_decide.2 (by omega)]
theorem AW(s:List Nat)(hs:s.length≤100000)(hlt:∀c∈s,c<256):SCall Tryz.prog 225 [.str (dI s)] [] (fun r σ'=>r=.bool (tQ s)∧σ'=[]):=by
 have hz:((dI s).toList==(⟨#[]⟩:ByteArray).toList)=decide (s=[]):=pV (m:=[]) hlt (by simp);refine bS 10 [0,2] Tryz.func225 ?_;refine bF ?_;by_cases hs:s=[]
 ·have hd:(!decide (s=[]))=false:=by rw[decide_eq_true hs];rfl
  refine fV ?_;refine lo (DG (E rfl) (E rfl)) rfl ?_;rw[hz,hd];refine jU ?_;refine ln rfl rfl rfl rfl ?_;refine ln rfl rfl rfl rfl ?_;refine jM ?_;exact aD aE ⟨by rw[aBd,hd];rfl,rfl⟩ aA
 ·have hd:(!decide (s=[]))=true:=by rw[decide_eq_false hs];rfl
  refine fV ?_;refine lo (DG (E rfl) (E rfl)) rfl ?_;rw[hz,hd];refine jU ?_;refine gy rfl rfl ?_;refine cvb hlt ?_ (by simp[maxLen];omega);refine gy rfl rfl ?_;refine lB Tryz.call288 (aG7 aDH s (fun _ _=>True.intro) 16) rfl aP aS ?_;refine jM ?_;exact aD aE ⟨by rw[aBd,hd];rfl,rfl⟩ aA
def lC (s:List Nat):Prop:=s.length≤100000∧∀c∈s,c<256
structure Md.W (m:Md):Prop where
 im:∀x∈m.im,lC x.mod∧lC x.nm
 ex:∀x∈m.ex,lC x.nm
 co:∀x∈m.co,x.bd.length≤100000
 il:m.im.length≤4294967296
 da:∀x∈m.da,∀c∈x.bs,c<256
theorem jK(a b:Bool):(if a=true then b else false)=(a&&b):=by cases a<;>rfl
theorem aBe(k n:Int):SCall Tryz.prog 229 [.agg [.int .i64 k,.int .i64 n]] [] (fun r σ'=>r=.bool (mK k n)∧σ'=[]):=by
 refine bS 21 [0,1,2] Tryz.func229 ?_;refine cZ ?_;refine gQ fun r1 h1=> ?_;intros
 refine iJ ?_;refine BN ?_;refine pW ?_;refine NU ?_;refine aAl ?_;refine aAm ?_;refine aIQ ?_;refine WV ?_;refine NU ?_;refine aAl ?_;refine aAm ?_;refine aK6 ?_;refine WV ?_;refine jE ?_;refine cM ?_;exact aD aE ⟨by unfold mK;cases h:(k==2)<;>cases h1:(k==1)<;>cases h2:decide (-2147483648≤n)<;>cases h3:decide (n≤2147483647)<;>rfl,rfl⟩ aA
theorem aJG:bX Tryz.prog 222 [] [] (fun x=>.agg (dF x)) (fun t=>cF t.pr 32 AG&&cF t.rs 1 AG) (fun _=>True):=by
 refine⟨Tryz.call222,fun t _=> ?_⟩;obtain⟨pr,rs⟩:=t;refine bS 11 [0,1,2] Tryz.func222 ?_;unfold dF;refine cZ ?_;refine gQ fun r1 h1=> ?_;intros
 refine iJ ?_;refine lB Tryz.call108 (zQ LX pr (fun _ _=>True.intro) 32) rfl aP aS ?_;refine mR ?_;refine lG rfl rfl Tryz.call108 (fun _=>(zQ LX rs (fun _ _=>True.intro) 1)) rfl aP aS ?_;refine jM ?_;exact aD aE ⟨by simp only[fG];rw[jK],rfl⟩ aA
theorem aJH:bX Tryz.prog 224 [] [] (fun x=>.agg (eT x)) (fun x=>tQ x.mod&&tQ x.nm&&gG x.ty) (fun x=>lC x.mod∧lC x.nm):=by
 refine⟨Tryz.call224,fun t ht=> ?_⟩;obtain⟨md,nm,ty⟩:=t;obtain⟨⟨h1,h2⟩,h3,h4⟩:=ht;refine bS 16 [0,1,2] Tryz.func224 ?_;unfold eT;refine cZ ?_;apply bx;rfl;rfl;exact yR;rfl;refine bN fun r1 h1=> ?_;repeat rcases h1 with⟨_,h1⟩
 refine iJ ?_;refine lB Tryz.call225 (AW md h1 h2) rfl aP aS ?_;refine mR ?_;refine lG rfl rfl Tryz.call225 (fun _=>(AW nm h3 h4)) rfl aP aS ?_;refine uF ?_;refine mR ?_;refine lG rfl rfl Tryz.call226 (fun _=>(yF ty)) rfl aP aS ?_;refine jM ?_;exact aD aE ⟨by dsimp only;cases tQ md<;>cases tQ nm<;>rfl,rfl⟩ aA
theorem aJI:bX Tryz.prog 228 [] [] (fun x=>.agg (eU x)) (fun g=>mK g.kd g.n) (fun _=>True):=by
 refine⟨Tryz.call228,fun t _=> ?_⟩;obtain⟨mu,k,n⟩:=t;refine bS 6 [0,1,2] Tryz.func228 ?_;unfold eU;refine cZ ?_;refine gQ fun r1 h1=> ?_;intros
 refine iX ?_;refine yK ?_;refine kP ?_;refine lB Tryz.call229 (aBe k n) rfl aP aS ?_;refine cM ?_;exact aD aE ⟨by rfl,rfl⟩ aA
theorem aJJ:bX Tryz.prog 231 [] [] (fun x=>.agg (eA x)) (fun x=>tQ x.nm&&gG x.fn) (fun x=>lC x.nm):=by
 refine⟨Tryz.call231,fun t ht=> ?_⟩;obtain⟨nm,fn⟩:=t;obtain⟨h3,h4⟩:=ht;refine bS 11 [0,1,2] Tryz.func231 ?_;unfold eA;refine cZ ?_;refine gQ fun r1 h1=> ?_;intros
 refine iJ ?_;refine lB Tryz.call225 (AW nm h3 h4) rfl aP aS ?_;refine mR ?_;refine lG rfl rfl Tryz.call226 (fun _=>(yF fn)) rfl aP aS ?_;refine jM ?_;exact aD aE ⟨by simp only[fG];rw[jK],rfl⟩ aA
theorem aJK:bX Tryz.prog 233 [] [] (fun x=>.agg (eQ x)) (fun x=>gI x.off&&cF x.fs 50 gG) (fun _=>True):=by
 refine⟨Tryz.call233,fun t _=> ?_⟩;obtain⟨o,fs⟩:=t;refine bS 11 [0,1,2] Tryz.func233 ?_;unfold eQ;refine cZ ?_;refine gQ fun r1 h1=> ?_;intros
 refine iJ ?_;refine lB Tryz.call234 (PR o) rfl aP aS ?_;refine mR ?_;refine lG rfl rfl Tryz.call108 (fun _=>(zQ PQ fs (fun _ _=>True.intro) 50)) rfl aP aS ?_;refine jM ?_;exact aD aE ⟨by simp only[fG];rw[jK],rfl⟩ aA
theorem aJL:bX Tryz.prog 236 [] [] (fun x=>.agg (eO x)) (fun x=>gI x.off&&decide (x.bs.length≤1000)) (fun _=>True):=by
 refine⟨Tryz.call236,fun t _=> ?_⟩;obtain⟨o,bs⟩:=t;refine bS 12 [0,1,2] Tryz.func236 ?_;unfold eO;refine cZ ?_;refine gQ fun r1 h1=> ?_;intros
 refine iJ ?_;refine lB Tryz.call234 (PR o) rfl aP aS ?_;refine mR ?_;refine qV ?_;refine KQ ?_;refine jM ?_;exact aD aE ⟨by dsimp only;rw[show decide (bs.length≤1000)=decide ((bs.length:Int)≤1000)from decide_eq_decide.2 (by omega)];cases h:gI o<;>simp[fG],rfl⟩ aA
theorem aHo:bX Tryz.prog 111 [] [] (fun x=>.agg (iv .any x)) cT (fun _=>True):=⟨Tryz.call111,fun x _=>XJ .any x⟩
theorem aJM:bX Tryz.prog 107 [] [] (fun x=>.agg (dJ x)) sR (fun x=>x.bd.length≤100000):=by
 refine⟨Tryz.call107,fun t hb=> ?_⟩;obtain⟨ls,bd⟩:=t;dsimp only at hb;refine bS 22 [0,1,2,4] Tryz.func107 ?_;unfold dJ;refine cZ ?_;refine gQ fun r1 h1=> ?_;intros
 refine iJ ?_;refine qN Tryz.call75 (lZ bd hb) rfl bM kA ?_;rintro _ σ' ⟨q4,rfl,rfl⟩ h8
 replace h8:=cB h8;repeat rcases h8 with⟨_,h8⟩
 refine nE ?_;refine jF ?_;refine kQ ?_;refine oH ?_;refine lG rfl rfl Tryz.call108 (fun _=>(zQ LX ls (fun _ _=>True.intro) 32)) rfl aP aS ?_;refine uF ?_;refine mR ?_;refine lG rfl rfl Tryz.call110 (fun _=>(aDG aHo bd (fun _ _=>True.intro) 300)) rfl aP aS ?_;refine jM ?_;exact aD aE ⟨by unfold sR;dsimp only;cases wT (dA bd)<;>cases cF ls 32 AG<;>rfl,rfl⟩ aA
theorem SK(m:Md)(hw:m.W):SCall Tryz.prog 112 [.agg (aZ m)] [] (fun r σ'=>r=.bool (mB m)∧σ'=[]):=by
 obtain⟨h1,h2,h3,h4,hd5⟩:=hw;obtain⟨ty,im,fn,tb,me,gl,ex,el,co,da⟩:=m;dsimp only at h1 h2 h3 h4;have hE:∀(a b c d e f g:Bool),(if(if(if(if(if(if a=true then b else false)=true then c else false)=true then d else false)=true then e else false)=true then f else false)=true then g else false)=(a&&b&&c&&d&&e&&f&&g):=by
  intro a b c d e f g;cases a<;>cases b<;>cases c<;>cases d<;>cases e<;>cases f<;>rfl
 refine bS 54 [0,1,2,3,4,5,6,7,8,9] Tryz.func112 ?_;unfold aZ;refine cZ ?_;apply bx;rfl;rfl;exact yR;rfl;refine bN fun r1 h1=> ?_;repeat rcases h1 with⟨_,h1⟩
 refine iJ ?_;refine lB Tryz.call221 (aG3 aJG ty (fun _ _=>True.intro) 16) rfl aP aS ?_;refine iJ ?_;refine lB Tryz.call223 (aG9 aJH im h1 16) rfl aP aS ?_;refine iJ ?_;refine yT ?_;refine tF ?_;refine lB Tryz.call108 (zQ PQ fn (fun _ _=>True.intro) _) rfl aP aS ?_;refine iJ ?_;refine lB Tryz.call227 (aHc aJI gl (fun _ _=>True.intro) 16) rfl aP aS ?_;refine iJ ?_;refine lB Tryz.call230 (aHe aJJ ex h2 16) rfl aP aS ?_;refine iJ ?_;refine lB Tryz.call232 (aHg aJK el (fun _ _=>True.intro) 16) rfl aP aS ?_;refine iJ ?_;refine lB Tryz.call235 (aHm aJL da (fun _ _=>True.intro) 16) rfl aP aS ?_;refine lO ?_;refine kG ?_;refine kH ?_;refine kH ?_;refine kH ?_;refine kH ?_;refine kH ?_;refine jM ?_;exact aD aE ⟨by simp only[fG];rw[hE];rfl,rfl⟩ aA
structure Md.WO (m:Md):Prop where
 w:m.W
 ok:m.Ok
theorem zR(m:Md)(h:m.WO):SCall Tryz.prog 51 [.agg (aZ m)] [] (fun r σ'=>r=.bool (kD m)∧σ'=[]):=by
 have hM:=sX m;have hA:oO m=((if((m.co.length:Int)==(m.fn.length:Int))=true then cF m.co 16 sR else false)&&mB m&&kI m.tb 16 1000&&kI m.me 16 65536):=by
  unfold oO;rw[jK,show((m.co.length:Int)==(m.fn.length:Int))=(m.co.length==m.fn.length) by rw[Bool.eq_iff_iff];simp only[beq_iff_eq];omega]
 have hL:decide ((eL m).length≤8000)=decide (((eL m).length:Int)≤8000):=decide_eq_decide.2 (by omega);rw[hL]at hM;refine bS 37 [0,1,2,3] Tryz.func51 ?_;refine cZ ?_;refine gQ fun r1 h1=> ?_;intros
 refine cM ?_;have hwr:=fun h'=>zP m h' h.ok
 obtain⟨⟨h1,h2,h3,h4,hd5⟩,h5⟩:=h;obtain⟨ty,im,fn,tb,me,gl,ex,el,co,da⟩:=m;have hli:=SK ⟨ty,im,fn,tb,me,gl,ex,el,co,da⟩ ⟨h1,h2,h3,h4,hd5⟩;dsimp only at h1 h2 h3 h4 hA hM;refine mJ ?_;refine yT ?_;refine yT ?_;refine BN ?_;refine lG rfl rfl Tryz.call106 (fun _=>(aHj aJM co h3 16)) rfl aP aS ?_;refine jM ?_;by_cases hc:oO ⟨ty,im,fn,tb,me,gl,ex,el,co,da⟩=true
 ·have hc2:=hc;rw[hA]at hc2;simp only[Bool.and_eq_true]at hc2;obtain⟨⟨⟨e1,e2⟩,e3⟩,e4⟩:=hc2;rw[e2]at hli;have hl1:=qP tb 16 1000;have hl2:=qP me 16 65536;rw[e3]at hl1;rw[e4]at hl2;have hE:kD ⟨ty,im,fn,tb,me,gl,ex,el,co,da⟩=decide (((eL ⟨ty,im,fn,tb,me,gl,ex,el,co,da⟩).length:Int)≤8000):=by rw[hM,hc];rfl
  rw[e1];refine kQ ?_;refine aCV ?_;refine gy rfl rfl ?_;refine lB Tryz.call112 hli rfl aP aS ?_;refine uF ?_;refine wP ?_;refine HE ?_;refine gy rfl rfl ?_;refine lB Tryz.call113 hl1 rfl aP aS ?_;refine uF ?_;refine wP ?_;refine HE ?_;refine gy rfl rfl ?_;refine lB Tryz.call113 hl2 rfl aP aS ?_;refine uF ?_;refine yW ?_;refine gy rfl rfl ?_;refine qN Tryz.call56 (hwr hc) rfl bM kA ?_;rintro _ σ' ⟨q33,rfl,rfl⟩ h33
  replace h33:=cB h33;repeat rcases h33 with⟨_,h33⟩
  apply aU;exact bD;refine qV ?_;refine KQ ?_;refine jM ?_;exact aD aE ⟨by rw[hE];rfl,rfl⟩ aA
 ·rw[Bool.not_eq_true]at hc;have hE:kD ⟨ty,im,fn,tb,me,gl,ex,el,co,da⟩=false:=by rw[hM,hc];rfl
  rw[hc]at hA;simp only[←jK]at hA;refine kQ ?_;refine aCV ?_;refine lG rfl rfl Tryz.call112 (fun _=>hli) rfl aP aS ?_;refine uF ?_;refine wP ?_;refine HE ?_;refine lG rfl rfl Tryz.call113 (fun _=>(qP tb 16 1000)) rfl aP aS ?_;refine uF ?_;refine wP ?_;refine HE ?_;refine lG rfl rfl Tryz.call113 (fun _=>(qP me 16 65536)) rfl aP aS ?_;refine uF ?_;rw[←hA];refine yW ?_;refine ln rfl rfl rfl rfl ?_;refine qV ?_;refine KQ ?_;refine jM ?_;exact aD aE ⟨by rw[hE];rfl,rfl⟩ aA
def mW (m:Md):List Nat:=if kD m=true then eL m else []
theorem vL{m:Md}(h:kD m=true):oO m=true∧(eL m).length≤8000:=by
 rw[sX]at h;simpa using h
theorem qQ(m:Md)(h:m.WO):SCall Tryz.prog 18 [.agg (aZ m)] [] (fun y σ=>∃r,y=.own r 0 (mW m).length∧σ=[(r,.arr 5 1 ((mW m).map aG))]):=by
 have hm:=zR m h;have hw:=fun h'=>zP m h' h.ok
 refine bS 8 [0,1,2,5] Tryz.func18 ?_;refine cZ ?_;refine gQ fun r1 h1=> ?_;intros
 refine cM ?_;obtain⟨ty,im,fn,tb,me,gl,ex,el,co,da⟩:=m;refine mJ ?_;refine kP ?_;refine lB Tryz.call51 hm rfl aP aS ?_;refine nQ ?_;refine aB rfl (fun g1=> ?_) (fun g1=> ?_)
 ·refine rH ?_;have hE:mW ⟨ty,im,fn,tb,me,gl,ex,el,co,da⟩=[]:=by unfold mW;rw[if_neg];intro e;rw[e]at g1;cases g1
  refine bP 2 5 1 (by decide) rfl (by decide) (bN fun q2 hq2=> ?_);repeat rcases hq2 with⟨_,hq2⟩
  refine aI ?_;exact aD aE ⟨q2,by rw[hE];rfl,by rw[hE]⟩ aA
 have hy:kD ⟨ty,im,fn,tb,me,gl,ex,el,co,da⟩=true:=by simpa using g1
 have hE:mW ⟨ty,im,fn,tb,me,gl,ex,el,co,da⟩=eL ⟨ty,im,fn,tb,me,gl,ex,el,co,da⟩:=by unfold mW;rw[if_pos hy]
 refine nH ?_;refine qN Tryz.call56 (hw (vL hy).1) rfl bM kA ?_;rintro _ σ' ⟨r7,rfl,rfl⟩ h7
 replace h7:=cB h7;repeat rcases h7 with⟨_,h7⟩
 refine eY ?_;exact aD aE ⟨r7,by rw[hE];rfl,by rw[hE]⟩ aA
theorem aHp(n:Nat)(hn:n<4294967296):IntKind.u64.wrap ↑(BitVec.ofInt IntKind.u64.bits (n:Int)&&&BitVec.ofInt IntKind.u64.bits 4294967295).toNat=n:=by
 have h1:(BitVec.ofInt IntKind.u64.bits (n:Int)).toNat=n:=by
  rw[BitVec.toNat_ofInt];simp[IntKind.bits];omega
 have h2:(BitVec.ofInt IntKind.u64.bits 4294967295).toNat=2^32-1:=by decide
 rw[BitVec.toNat_and,h1,h2,Nat.and_two_pow_sub_one_eq_mod,Nat.mod_eq_of_lt (by omega),IntKind.wrap_u64];omega
theorem aJN(n:Nat)(hn:n<4294967296):((n:Int)).fdiv (2^min (Int.toNat 32) IntKind.u64.bits)=0:=by
 have:(2:Int)^min (Int.toNat 32) IntKind.u64.bits=4294967296:=by decide
 rw[this,Int.fdiv_eq_ediv_of_nonneg _ (by omega)];omega
theorem aBf(n:Nat)(hn:n<18446744073709551616):IntKind.u64.wrap (n:Int)=n:=by rw[IntKind.wrap_u64];omega
theorem JK(n:Nat)(hn:n<4294967296):SCall Tryz.prog 306 [.int .u64 1,.int .u64 n] [] (fun x σ=>x=.tup [.int .u64 0,.int .u64 n]∧σ=[]):=by
 refine bS 51 [0,1,4,5,6,7,8,9,10,11,12,13] Tryz.func306 ?_;refine cZ ?_;refine nS ?_;refine lo (iP (E rfl) (E rfl)) rfl ?_;refine gZ ?_;refine z2 ?_;refine gZ ?_;refine lo (iP (E rfl) (E rfl)) rfl ?_;refine gZ ?_;refine z2 ?_;refine lO ?_;refine lo (jX (E rfl) (E rfl)) rfl ?_;refine lO ?_;refine lo (jX (E rfl) (E rfl)) rfl ?_;refine lo (aF (E rfl)) rfl ?_;refine z2 ?_;refine lo (jB (E rfl) (E rfl)) rfl ?_;refine gZ ?_;refine lo (iP (E rfl) (E rfl)) rfl ?_;refine gZ ?_;refine z2 ?_;refine lO ?_;refine lo (aF (E rfl)) rfl ?_;refine lo (jX (E rfl) (E rfl)) rfl ?_;refine lo (jB (E rfl) (E rfl)) rfl ?_;refine lO ?_;refine lo (jX (E rfl) (E rfl)) rfl ?_;refine lo (aF (E rfl)) rfl ?_;refine lo (jB (E rfl) (E rfl)) rfl ?_;refine lo (aF (E rfl)) rfl ?_;refine z2 ?_;refine lo (jB (E rfl) (E rfl)) rfl ?_;refine lO ?_;refine lo (jX (E rfl) (E rfl)) rfl ?_;refine cM ?_;have e0:=aHp n hn;have e1:IntKind.u64.wrap ↑(BitVec.ofInt IntKind.u64.bits 1&&&BitVec.ofInt IntKind.u64.bits 4294967295).toNat=1:=aHp 1 (by decide);have e2:=aJN n hn;have e3:Int.fdiv 1 (2^min (Int.toNat 32) IntKind.u64.bits)=0:=aJN 1 (by decide);have e4:=aBf n (by omega);have e5:IntKind.u64.wrap 0=0:=by decide
 have e6:Int.fdiv 0 (2^min (Int.toNat 32) IntKind.u64.bits)=0:=by decide
 have e7:IntKind.u64.wrap ↑(BitVec.ofInt IntKind.u64.bits 0&&&BitVec.ofInt IntKind.u64.bits 4294967295).toNat=0:=aHp 0 (by decide);apply aD;exact aE;refine⟨?_,rfl⟩;simp only[fG,e0,e1,e2,e3,e4,e5,e6,e7,Int.zero_mul,Int.mul_zero,Int.one_mul,Int.add_zero,Int.zero_add];exact aA
theorem VK(n:Nat)(hn:n<4294967296):SCall Tryz.prog 278 [.int .u64 1,.int .u64 n] [] (fun x σ=>x=.tup [.int .u64 0,.int .u64 n]∧σ=[]):=by
 refine bS 30 [0,1,4,5,6,7,8,9] Tryz.func278 ?_;refine cZ ?_;refine jF ?_;refine kQ ?_
 (first|refine pu [] Tryz.call306 (JK n hn) rfl bU aS ?_ |refine vX [] rfl rfl Tryz.call306 (fun _=>(JK n hn)) rfl bU aS ?_);refine sK ?_;refine jF ?_;refine kQ ?_;refine jF ?_;apply aD;exact aE;exact⟨rfl,rfl⟩;exact aA
theorem aBg{α:Type}(a z:α)(n k:Nat)(hk:k≤n):List.replicate (k+min k (n-k)) a++List.replicate (n-(k+min k (n-k))) z=
  List.take (0+k) (List.replicate k a++List.replicate (n-k) z)++List.take (min k (n-k)) (List.take (k-0) (List.drop (0+0) (List.replicate k a++List.replicate (n-k) z)))++List.drop (0+k+min k (n-k)) (List.replicate k a++List.replicate (n-k) z):=by
 generalize hm:min k (n-k)=m;have h1:m≤k:=by omega
 have h2:k+m≤n:=by omega
 have t1:List.take k (List.replicate k a++List.replicate (n-k) z)=List.replicate k a:=by rw[List.take_append_of_le_length (by simp)];simp
 have t2:List.drop (k+m) (List.replicate k a++List.replicate (n-k) z)=List.replicate (n-(k+m)) z:=by
  rw[List.drop_append,List.drop_of_length_le (by simp),List.nil_append,List.length_replicate,List.drop_replicate]
  congr 1
  omega
 rw[Nat.zero_add,Nat.sub_zero,Nat.add_zero,List.drop_zero,t1,t2,List.take_replicate,Nat.min_eq_left h1,List.replicate_append_replicate]
theorem vM{v:AV}(hv:v.cell=true)(n:Nat)(hn:n≤100000):SCall Tryz.prog 207 [.ro 1 [[v]] .any,.int .i64 n] [] (fun x σ=>∃r,x=.own r 0 n∧σ=[(r,.arr 3 1 (List.replicate n [v]))]):=by
 refine bS 48 [0,1,4,5,6,7,8,10,26,37] Tryz.func207 ?_;refine eX ?_;refine nP ?_;refine fV ?_;refine qI ?_;refine RI ?_;refine lo (aF (E rfl)) rfl ?_;refine RI ?_
 (first|refine pu [] Tryz.call278 (VK n (by omega)) rfl bU aS ?_ |refine vX [] rfl rfl Tryz.call278 (fun _=>(VK n (by omega))) rfl bU aS ?_);refine sK ?_;refine nS ?_;refine lo (iB (E rfl) (E rfl)) rfl ?_;refine xS ?_;refine z18 ?_;refine RQ ?_;refine iI ?_;refine aB rfl (fun h=> ?_) (fun _=> ?_)
 ·simp at h;omega
 refine cX ?_;refine z44 ?_;apply mk;rfl;rfl;rfl;rfl;omega;(simp[maxLen];omega);exact yR;rfl;refine iT fun r30 h30=> ?_;intros
 refine lO ?_;apply cp (m:=min 1 n) (es':=List.replicate (min 1 n) [v]++List.replicate (n-min 1 n) [.int .i64 0]);rfl;exact cE;simp;exact .inl ⟨_,rfl⟩;rfl
 ·rcases n with _ |n<;>simp[List.replicate_succ]
 ·rfl
 refine cM ?_;refine lp (β:=Nat×Nat) (fun b=>⟨[(7,.own b.1 0 n),(8,.int .i64 b.2)],[(b.1,.arr 3 1 (List.replicate b.2 [v]++List.replicate (n-b.2) [.int .i64 0]))]⟩) (fun b=>b.2≤n∧(0<n→0<b.2)) (fun b=>n-b.2) (r30,min 1 n) ?_ ⟨by show min 1 n≤n;omega,fun h=>by show 0<min 1 n;omega⟩ ?_
 ·exact aJ
 rintro⟨r,k⟩ ⟨hk,hk0⟩;simp only at hk hk0⊢;refine nF ?_;refine nP ?_;refine aB rfl (fun h1=> ?_) (fun h1=> ?_)
 ·simp at h1;refine aI ?_;refine fJ [(0,true),(1,true),(2,true),(3,true),(4,true),(5,true),(6,true),(7,false),(8,true),(9,true)] ?_;refine lF ?_;refine fP rfl (aF (E rfl)) rfl ?_;refine z84 ?_;refine lF ?_;refine ZN ?_;apply dcp (m:=min k (n-k)) (es':=List.replicate (k+min k (n-k)) [v]++List.replicate (n-(k+min k (n-k))) [.int .i64 0]);rfl;infer_instance;infer_instance;rfl;exact cE
  ·first|(simp;done)|(simp;omega)
  ·exact .inr (.inr ⟨_,_,_,_,_,rfl,bC,by simp,rfl⟩)
  ·first|(simp;done)|(simp;omega)
  ·exact aBg _ _ _ _ hk
  ·rfl
  ·exact eM
  refine WW ?_;refine wQ ?_;refine⟨(r,k+min k (n-k)),⟨by show k+min k (n-k)≤n;omega,fun h=>by show 0<k+min k (n-k);omega⟩,by show n-(k+min k (n-k))<n-k;omega, ?_⟩;exact aJ
 ·obtain rfl:k=n:=by simp at h1;omega
  refine eW ?_;exact aD aE ⟨r,by rfl,rfl⟩ aA
theorem EP{es:List (List AV)}(hn:es.length≤1000000):SCall Tryz.prog 267 [.ro 1 es .any] [] (fun x σ=>∃r,x=.own r 0 es.length∧σ=[(r,.arr 5 1 es)]):=by
 refine bS 8 [0,2,4] Tryz.func267 ?_;refine eX ?_;refine ne rfl rfl rfl fun b hb _=> ?_
 refine pO ?_;cases b
 ·refine cZ ?_;refine eC fun r5 h5=> ?_;intros
  refine lo (aF (E rfl)) rfl ?_;apply ap;rfl;rfl;exact bC;rfl;exact .inl ⟨_,rfl⟩;exact List.nil_append _;exact(Nat.zero_add _).symm;(simp[maxLen];omega);omega;rfl;refine bE fun r7 h7=> ?_;intros
  refine cM ?_;exact aD aE ⟨_,by rfl,rfl⟩ aA
 ·obtain rfl:=hb rfl;refine rH ?_;refine bP (ks:=[0,2,4]) 2 5 1 (by decide) rfl (by decide) fun r hr=> ?_
  refine aI ?_;exact aD aE ⟨_,by rfl,rfl⟩ aA
def SOk (s:St):Prop:=s.1.length≤100000∧∀x∈s.1,x<256
theorem SOk.drop {s:St}(h:SOk s)(n:Nat)(b:Bool):SOk (s.1.drop n,b):=⟨by simp;have:=h.1;omega,fun x hx=>h.2 x (List.mem_of_mem_drop hx)⟩
theorem SOk.bad {s:St}(h:SOk s)(b:Bool):SOk (s.1,b):=h
def Kp {α:Type} (get:St→α×St):Prop:=∀s,SOk s→SOk (get s).2
theorem JL{s:St}(h:SOk s)(n:Int)(ok:Bool):SOk (uI s n ok):=by
 unfold uI;dsimp only;split
 ·exact h.bad _
 ·exact h.drop _ _
theorem iF:Kp gH:=fun s h=>JL h _ _
theorem mX:Kp kW:=fun s h=>by
 unfold kW;split
 ·exact h.bad _
 ·exact h.drop _ _
theorem BS:Kp zM:=fun s h=>JL (iF s h) _ _
theorem aFK{α:Type}{get:St→α×St}(hg:Kp get):∀n s,SOk s→SOk (jS get n s).2
 |0,s,h=>h
 |n+1,s,h=>by
  rw[jS];split
  ·exact h
  ·exact aFK hg n _ (hg s h)
theorem rU{α:Type}{get:St→α×St}(hg:Kp get):Kp (fS get):=fun s h=>aFK hg _ _ (iF s h)
theorem xK:Kp vJ:=fun s h=>by
 have:=mX s h;unfold vJ;dsimp only;split
 ·exact this
 ·split
  ·exact this
  ·exact this.bad _
theorem aFL:Kp NA:=fun s h=>by unfold NA;exact mX _ (JL h _ _)
theorem PT:Kp NB:=fun s h=>by unfold NB;exact aFL _ (mX s h)
theorem aFM:Kp VG:=fun s h=>by
 have h1:=iF _ (mX s h);unfold VG;dsimp only;split
 ·exact iF _ h1
 ·exact h1
theorem aFN:∀n s l,SOk s→SOk (SI n s l).2
 |0,s,l,h=>h
 |n+1,s,l,h=>by
  rw[SI];split
  ·exact h
  ·dsimp only;split
   ·exact(xK _ (iF s h)).bad _
   ·exact aFN n _ _ (xK _ (iF s h))
theorem aBh:Kp yD:=fun s h=>aFN _ _ _ (iF s h)
theorem aBi:Kp LQ:=fun s h=>by
 have h1:=aBh _ (iF s h);unfold LQ;dsimp only;split
 ·exact h1
 ·exact JL h1 _ _
theorem aFO:Kp XR:=fun s h=>rU xK _ (rU xK _ (mX s h))
theorem aBj:Kp XS:=fun s h=>iF s h
theorem aBk:Kp ZO:=fun s h=>iF _ (mX _ (BS _ (BS s h)))
theorem aBl:Kp ZP:=fun s h=>aFL _ (mX _ (xK s h))
theorem aBm:Kp ZQ:=fun s h=>iF _ (mX _ (BS s h))
theorem aFP(b:Bool):Kp (tbN b):=fun s h=>by
 unfold tbN;cases b
 ·exact aFM _ h
 ·exact aFM _ (mX s h)
theorem aFQ(b:Bool):Kp (PF b):=fun s h=>rU (aFP b) s h
theorem aFR:Kp eeN:=fun s h=>rU aBj _ (PT s h)
theorem aBn:Kp ddN:=fun s h=>BS _ (PT s h)
def cR (s:St):List AV:=[.ro 1 (s.1.map aG) .any,.bool s.2]
theorem zS(r:Nat)(s:St)(hs:SOk s)(n:Nat)(ok:Bool):SCall Tryz.prog 66 [.ptr r 0,.int .i64 n,.bool ok] [(r,.box 117 (cR s))]
  (fun x σ=>x=.tup []∧σ=[(r,.box 117 (cR (uI s n ok)))]):=by
 obtain⟨l,bad⟩:=s;obtain⟨hl,hlt⟩:=hs;dsimp only at hl hlt;have hB:(if(if bad=true then true else !ok)=true then true else decide ((l.length:Int)<n))=(bad|| !ok||decide ((l.length:Int)<n)):=by cases bad<;>cases ok<;>rfl
 refine bS 40 [0,1,2,30] Tryz.func66 ?_;unfold cR;dsimp only;refine dG ?_;refine gY ?_;refine jU ?_;refine rG ?_;refine jE ?_;refine jU ?_;refine kG ?_;refine UH ?_;refine qV ?_;refine aK7 ?_;refine jE ?_;refine z76 ?_;rw[hB];refine yK ?_;refine gT ?_;generalize hb:(bad|| !ok||decide ((l.length:Int)<n))=B;refine fV ?_;refine gY ?_;refine nQ ?_;refine aB rfl (fun g1=> ?_) (fun g1=> ?_)
 ·obtain rfl:B=false:=by simpa using g1
  have hn:n≤l.length:=by simp at hb;omega
  have hE:uI (l,bad) n ok=(l.drop n,false):=by unfold uI;dsimp only;rw[hb];rfl
  refine dG ?_;refine DU ?_;refine aCU ?_;refine tZ ?_;rw[OW];refine gT ?_;refine cL ?_;exact aD aE ⟨by rfl,by rw[hE]⟩ aA
 obtain rfl:B=true:=by simpa using g1
 have hE:uI (l,bad) n ok=(l,true):=by unfold uI;dsimp only;rw[hb];rfl
 refine aI ?_;refine cL ?_;exact aD aE ⟨by rfl,by rw[hE]⟩ aA
theorem jL(r:Nat)(s:St)(hs:SOk s):SCall Tryz.prog 68 [.ptr r 0] [(r,.box 117 (cR s))]
  (fun x σ=>x=.int .i64 ((gH s).1:Nat)∧σ=[(r,.box 117 (cR (gH s).2))]):=by
 have hgb:=yY s.1;have hsk:=fun n ok=>zS r s hs n ok
 obtain⟨l,bad⟩:=s;obtain⟨hl,hlt⟩:=hs;dsimp only at hl hlt hgb;refine bS 26 [0,2,3,4,5,23] Tryz.func68 ?_;unfold cR;dsimp only;refine eX ?_;refine gY ?_;refine lB Tryz.call166 (aFj l (by omega) hlt) rfl aP aS ?_;refine sK ?_;refine lo (eN (E rfl) rfl) rfl ?_;refine oF ?_;refine kQ ?_;refine lo (aF (E rfl)) rfl ?_;refine lo (cN (E rfl) (E rfl)) rfl ?_;refine cw [(r,.box 117 (cR (l,bad)))] Tryz.call66 (hsk (lQ l).2.1 ((lQ l).2.2==0)) rfl aC aA ?_;rintro _ σ' ⟨rfl,rfl⟩ h19;refine jG ?_;have hN:gH (l,bad)=(if(uI (l,bad) (lQ l).2.1 ((lQ l).2.2==0)).2 then 0 else(lQ l).1,uI (l,bad) (lQ l).2.1 ((lQ l).2.2==0)):=rfl;generalize uI (l,bad) (lQ l).2.1 ((lQ l).2.2==0)=s2 at hN⊢;obtain⟨l2,b2⟩:=s2;unfold cR;dsimp only at hN⊢;refine fV ?_;refine gY ?_;refine iI ?_;refine aB rfl (fun g3=> ?_) (fun g3=> ?_)
 ·have hE:gH (l,bad)=(0,(l2,true)):=by rw[hN,g3];rfl
  rw[g3];refine bF ?_;exact aD aE ⟨by rw[hE];rfl,by rw[hE]⟩ aA
 have hE:gH (l,bad)=((lQ l).1,(l2,false)):=by rw[hN,g3];rfl
 rw[g3];refine cX ?_;refine z44 ?_;refine cM ?_;exact aD aE ⟨by rw[hE];rfl,by rw[hE]⟩ aA
theorem oB(r:Nat)(s:St)(hs:SOk s):SCall Tryz.prog 67 [.ptr r 0] [(r,.box 117 (cR s))]
  (fun x σ=>x=.int .u8 ((kW s).1:Nat)∧σ=[(r,.box 117 (cR (kW s).2))]):=by
 obtain⟨l,bad⟩:=s;obtain⟨hl,hlt⟩:=hs;dsimp only at hl hlt;refine bS 34 [0,2,3,15] Tryz.func67 ?_;unfold cR;dsimp only;refine eX ?_;refine gY ?_;refine jU ?_;refine UH ?_;refine qV ?_;refine pW ?_;refine oJ ?_;refine aB rfl (fun g1=> ?_) (fun g1=> ?_)
 ·have hE:kW (l,bad)=(0,(l,true)):=by unfold kW;rw[if_pos];cases bad;(cases l with|nil=>rfl|cons x t=>simp at g1;omega);rfl
  refine qJ ?_;refine lU ?_;refine bF ?_;exact aD aE ⟨by rw[hE];rfl,by rw[hE]⟩ aA
 obtain⟨c,t,rfl⟩:∃c t,l=c::t:=by cases l with|nil=>(cases bad<;>simp at g1)|cons c t=>exact⟨c,t,rfl⟩
 obtain rfl:bad=false:=by cases bad with|false=>rfl|true=>simp at g1
 have hE:kW (c::t,false)=(c,(t,false)):=rfl;have hpos:0<(c::t).length:=Nat.succ_pos _;have hx:(c::t)[(0:Int).toNat]? =some c:=rfl;refine cX ?_;refine gY ?_;refine lM ?_;refine lO ?_;refine gY ?_;refine aCU ?_;refine tZ ?_;rw[show List.take (((c::t).map aG).length-1) (List.drop 1 ((c::t).map aG))=t.map aG by rw[List.map_cons,List.drop_one,List.tail_cons];exact List.take_of_length_le (by simp)];refine mT ?_;refine cM ?_;exact aD aE ⟨by rw[hE];rfl,by rw[hE]⟩ aA
theorem aBo(r:Nat)(s:St)(hs:SOk s):SCall Tryz.prog 184 [.ptr r 0] [(r,.box 117 (cR s))]
  (fun x σ=>∃q,Nq q r∧x=.own q 0 (zM s).1.length∧σ=[(q,.arr 5 1 ((zM s).1.map aG)),(r,.box 117 (cR (zM s).2))]):=by
 have h1:=jL r s hs;have k1:=iF s hs;have hR:zM s=(if(uI (gH s).2 (gH s).1 true).2 then []else(gH s).2.1.take (gH s).1,uI (gH s).2 (gH s).1 true):=rfl;generalize gH s=p at h1 k1 hR;obtain⟨n,s1⟩:=p;dsimp only at h1 k1 hR;have h2:=zS r s1 k1 n true;have hk:(uI s1 n true).2=false→n≤s1.1.length:=fun h=>by unfold uI at h;dsimp only at h;simp at h;omega
 generalize uI s1 n true=s2 at h2 hR hk;obtain⟨l1,b1⟩:=s1;obtain⟨l2,b2⟩:=s2;have hl1:l1.length≤100000:=k1.1;dsimp only at hR hk;rw[hR];refine bS 22 [0,2,3,4,17] Tryz.func184 ?_;refine eX ?_;refine cw [(r,.box 117 (cR s))] Tryz.call68 h1 rfl aC aA ?_;rintro _ σ' ⟨rfl,rfl⟩ h6;refine eY ?_;unfold cR;dsimp only;refine fV ?_;refine gY ?_;refine lO ?_;refine cw [(r,.box 117 (cR (l1,b1)))] Tryz.call66 h2 rfl aC aA ?_;rintro _ σ' ⟨rfl,rfl⟩ h13;refine jG ?_;unfold cR;dsimp only;refine fV ?_;refine gY ?_;refine iI ?_;refine aB rfl (fun g4=> ?_) (fun g4=> ?_)
 ·have hE:(if b2=true then []else l1.take n)=[]:=if_pos g4;rw[hE,g4];refine rH ?_;refine bP 2 5 1 (by decide) rfl (by decide) (bN fun q hq=> ?_);repeat rcases hq with⟨_,hq⟩
  refine aI ?_;exact aD aE ⟨q,by(exact cA),by rfl,rfl⟩ aA
 have hE:(if b2=true then []else l1.take n)=l1.take n:=if_neg (by rw[g4];simp);have hn:=hk g4;rw[hE,g4];refine dG ?_;refine aF9 ?_;rw[show List.take (n-0) (List.drop 0 (l1.map aG))=(l1.take n).map aG by rw[List.drop_zero,Nat.sub_zero,List.map_take]];refine qN Tryz.call267 (EP (es:=(l1.take n).map aG) (by simp;omega)) rfl bM kA ?_;rintro _ σ' ⟨q,rfl,rfl⟩ h21
 replace h21:=cB h21;repeat rcases h21 with⟨_,h21⟩
 refine eY ?_;rw[List.length_map];exact aD aE ⟨q,by(exact cA),by rfl,rfl⟩ aA
end Go.Proofs.YtjpdadobblffmaaGreat
