import Derived.Test.YtjpdadobblffmaaGreatJA3
import Derived.Test.YtjpdadobblffmaaGreatJA2
set_option linter.unusedSimpArgs false
set_option linter.unusedVariables false
set_option maxRecDepth 100000
set_option maxHeartbeats 4000000
open BitVec renaming ofInt->A9
open Bool renaming and_eq_true->Ap,eq_iff_iff->B1
open Int renaming eq_ofNat_of_zero_le->Bh,toNat_natCast->Bc
open List renaming all_eq_true->Bw,append_assoc->Aq,append_nil->Be,cons_append->As,drop_zero->Bu,flatMap_append->Bo,getElem?_append_left->Ba,getElem?_append_right->A6,getElem?_eq_getElem->Ar,getElem?_eq_some_iff->Ai,length_append->Ao,length_cons->Bj,length_map->Az,map_append->Bx,map_cons->Bn,mem_append->A8,mem_cons->Av,mem_cons_of_mem->An,mem_cons_self->Au,mem_map->Bm,mem_of_getElem?->Ah,mem_of_mem_take->Bf,nil_append->Ay,replicate->Ak,take_add_one->Al,take_length->Aw,take_of_length_le->Aj
open Nat renaming add_assoc->By,ble->Bp,le_refl->A3,le_trans->A4,lt_or_ge->Br,mul_le_mul_right->Bq,zero_add->B2,zero_le->Am
open Go.Proofs.Tryz
namespace Go.Proofs.YtjpdadobblffmaaGreat
open Go.RowKit Go.ChangeShapes Go.WideShapes Go.ChangeAt Go.Deep
section
variable {P : Program} {n : Nat} {ops : Array Oper} {fr : Fr} {Y : dI} {K : ASt -> Prop} {ty t : TypeId} {d : Nat} {x y : Operand} {listed : Array Bool} {todo : List (Nat × Bool)} {held : List (Nat × List Nat)}
theorem aKh{e:TypeId}{sz by_:Nat}{zv:Value}{r len:Nat}{es ys:List (List AV)}(es':List (List AV))(len':Nat)
  (hK:∀r',Fresh r' (eD [r] Y)->∃Y',SSet Y r (.arr e sz es) r' (.arr e sz es') Y'/\RD P n ops listed todo held ⟨(d,.own r' 0 len')::fr,Y'⟩ K)
  (i1:Ty P t (.slice e):=by infer_instance) (i2:Tz P e sz by_ zv:=by infer_instance) (hz:zv.cells.size=sz:=by rfl) (hx:aev ⟨fr,Y⟩ x=some (.own r 0 len):=by rfl) (hg:gM Y r=some (.arr e sz es):=by exact bR) (hlen:len=es.length:=by exact PM) (hy:Src ⟨fr,Y⟩ y sz ys:=by exact aGs)
  (he:es++ys=es':=by exact aJ5) (hl':len'=len+ys.length:=by exact PM) (hmax:len'<=maxLen:=by(simp[maxLen];try omega)) (hby:len'*by_<=140737488355328:=by(simp;try omega)) (hd:Nat.ble (d+1) n=true:=by rfl):
  Hop P n (.call { callee:=.builtin .append,args:=#[x,y],argTypes:=#[t,t] }) ty (some d) ⟨fr,Y⟩ [r] (fun s'=>RD P n ops listed todo held s' K):=by
 subst he hl';refine rI hz hx hg U hy hmax hby (cL hd) fun r' hf=> ?_
 obtain⟨Y',hs,hK⟩:=hK r' hf;rw[hlen,List.take_length];refine IE (fun p hp=>hs.sub p hp) ?_;rw[<-hlen];exact hK
theorem lJ{f:FuncId}{xs:List Operand}{ats:Array TypeId}{args:List AV}{R:AV->dI->Prop}(hf:∀args w,(callFunc f args).run P w=.ok (.enter f args) w)(h:SCall P f args [] R)(hd:d<n)
  (hK:∀x Y',R x Y'->(∀p∈Y',Fresh p.1 Y)->K ⟨(d,x)::fr,Y'++Y⟩) (hargs:ArgsBor ⟨fr,Y⟩ (Y.map (·.1)) xs args:=by exact bL) (hno:∀x Y',R x Y'->NoF x/\∀p∈Y',ENoF p.2:=by exact kK):
  Hop P n (.call { callee:=.value (.func f),args:=xs.toArray,argTypes:=ats }) ty (some d) ⟨fr,Y⟩ [] K:=tA (s:=⟨fr,Y⟩) _ hf h hd hargs hno hK
theorem FQ{sz by_:Nat}{z:Value}{cs:List AV}(i1:Tz P t sz by_ z)(hd:Bp (d+1) n=true)(hz:z.cells.toList.map cM=cs)(hK:∀r,Fresh r Y->K ⟨(d,.ptr r 0)::fr,(r,.box t cs)::Y⟩):Hop P n (.alloc t) ty (some d) ⟨fr,Y⟩ [] K:=by
 subst hz;exact EE (cL hd) hK
end
section
variable {P : Program} {n : Nat} {ops : Array Oper} {fr : Fr} {Y : dI} {K : ASt -> Prop} {listed : Array Bool} {todo : List (Nat × Bool)} {held : List (Nat × List Nat)}
theorem aM0{s s':ASt}(hgo:SGo s s')(h:RD P n ops listed todo held s' K):RD P n ops listed todo held s K:=by
 intro hsel hc M F N a w hr;obtain⟨M1,F1,N1,hr1,he1⟩:=hgo M F N n a w hr;refine jV (PostN.ext he1) (fun j g hg=> ?_) _ _ _ _ (h hsel hc M1 F1 N1 a w hr1);rcases hg with hg|⟨r,hr,hb⟩
 ·exact .inl (he1.ff g hg)
 ·refine .inr ⟨r,hr, ?_⟩;unfold bP at hb⊢;cases hm:M r with
  |none=>rw[hm]at hb;cases hb
  |some b=>rw[he1.mm r b hm];rw[hm]at hb;exact hb
theorem YI{j q:Nat}{v v':AV}{e:Ent}{Y':dI}(hx:dR fr j=some v)(hd:SDel Y q e Y')(hb:Bor Y [q] v v')(hK:RD P n ops listed todo held ⟨(j,v')::fr,Y'⟩ K):RD P n ops listed todo held ⟨fr,Y⟩ K:=aM0 (PN hx hd hb) hK
end
theorem CW{P:Program}{rs:Array ResultVar}{R:AV->dI->Prop}{s s':ASt}(hgo:SGo s s')(h:OM P rs R .normal s'):OM P rs R .normal s:=bS (aFU hgo h)
theorem aAI{P:Program}{n:Nat}{op:Op}{ty:TypeId}{d:Nat}{s:ASt}{v:AV}{rs:List Nat}{K:ASt->Prop}(h:Lop P op ty s true v rs)(hd:d<n)(hK:K (s.put d v)):Hop P n op ty (some d) s [] K:=by
 intro M F N a w o ho ht hdst hr next Q hnext
 obtain⟨u,hu,hrun⟩:=h.2 M F N n a w hr rfl;obtain⟨dst,op',ty',pos,after,guard⟩:=o;dsimp only at ho ht hdst;subst ho ht hdst;unfold Oper.wp;rw[hrun w _ rfl rfl (fun _ _=>rfl)];exact hnext _ _ _ _ _ _ (hr.put hd hu) (Ext.refl _ _ _ _ _) (Only.refl _ _) hK
theorem dhl{P:Program}{n i d:Nat}{ops:Array Oper}{listed:Array Bool}{todo:List (Nat×Bool)}{held:List (Nat×List Nat)}{fr:Fr}{Y:dI}{K:ASt->Prop}{op:Op}{ty:TypeId}{pos:String}{af:Array Edge}{v:AV}{rs:List Nat}(hi:ops[i]? =some ⟨some d,op,ty,pos,af,none⟩)(h:Lop P op ty ⟨fr,Y⟩ true v rs)(hd:Bp (d+1) n=true)(hK:RD P n ops (listed.setIfInBounds i true) todo held ⟨(d,v)::fr,Y⟩ K):
  RD P n ops listed ((i,false)::todo) held ⟨fr,Y⟩ K:=AS hi (aAI h (cL hd) hK)
attribute [local irreducible] SW RS RD fE eA
def jB (P:Program) (t8:TypeId) (f:FuncId) {α:Type} (ar:α->AV) (pt:α->List Nat) (ok:α->Prop) (c B:Nat):Prop:=
 (∀args w,(callFunc f args).run P w=.ok (.enter f args) w)/\∀(q:Nat) (vs:List Nat) (x:α),ok x->0<vs.length->vs.length<=B->(pt x).length<=c/\
  SCall P f ([]++ [.own q 0 vs.length,ar x]++ []) [(q,.arr t8 1 (vs.map aG))] (fun y Y=>∃r,y=.own r 0 (vs++pt x).length/\Y=[(r,.arr t8 1 ((vs++pt x).map aG))])
theorem iB{P:Program}{t8:TypeId}{f:FuncId}{α:Type}{ar:α->AV}{pt:α->List Nat}{ok:α->Prop}{c B:Nat}(hf:jB P t8 f ar pt ok c B)(hB:1<=B){l:List α}(hl:∀x∈l,ok x)(j:Nat):((l.take j).flatMap pt).length<=l.length*c:=by
 have h1:∀(l:List α),(∀x∈l,ok x)->(l.flatMap pt).length<=l.length*c:=by
  intro l
  induction l with
  |nil=>simp
  |cons x l ih=>
   intro h;have:=ih fun y hy=>h y (An _ hy)
   have hx:=(hf.2 0 [0] x (h x Au) X hB).1;rw[List.flatMap_cons,Ao,Bj,Nat.add_mul];omega
 refine A4 (h1 (l.take j) fun x hx=>hl x (Bf hx)) (Bq c ?_);simp;omega
theorem eI(q:Nat)(vs:List Nat)(hvs:vs.length<=50000000)(n:Nat)(hn:n<9223372036854775808):SCall prog 135 [.own q 0 vs.length,.int .i64 n] [(q,.arr 5 1 (vs.map aG))]
  (fun y Y=>∃r,y=.own r 0 (vs++uB n).length/\Y=[(r,.arr 5 1 ((vs++uB n).map aG))]):=by
 refine bO 9 [0,1,4] func135 ?_;refine mO ?_;refine XE ?_;refine cw [(q,.arr 5 1 (vs.map aG))] call239 (oC q vs U n U) rfl aC aA ?_;rintro _ Y' ⟨r8,rfl,rfl⟩ h8;have k8:=aV h8;repeat rcases k8 with⟨_,k8⟩
 refine fF ?_;exact aD aE ⟨r8,by rfl,rfl⟩ aA
theorem fH{fr:Fr}{Y:dI}{j:Nat}{x y:AV}(h:dR fr j=some x)(hv:VLe x y):SGo ⟨fr,Y⟩ ⟨(j,y)::fr,Y⟩:=by
 refine SGo.of_le (fun i z hi=> ?_) (fun p hp=>hp);by_cases hij:i=j
 ·subst hij;rw[show dR ((i,y)::fr) i=some y by simp[dR]]at hi;obtain rfl:=Option.some.inj hi;exact⟨_,h,hv⟩
 ·rw[show dR ((j,y)::fr) i=dR fr i by simp[dR];intro e;exact absurd e hij]at hi;exact⟨z,hi,VLe.refl z⟩
theorem VLe.agg {cs cs':List AV}(hl:cs.length=cs'.length)(h:∀(j:Nat) (a a':AV),cs[j]? =some a->cs'[j]? =some a'->VLe a a'):VLe (.agg cs) (.agg cs'):=fun M F w v hv=>by
 cases hv with
 |agg hn hc=>
  refine .agg (hn.trans hl) fun j a' u ha' hu=> ?_
  have hj:=(Ai.1 ha').1;have ha:cs[j]? =some (cs[j]' U):=Ar U;exact h j _ a' ha ha' _ _ _ _ (hc j _ u ha hu)
theorem HG{op a b:Int}:VLe (.agg [.int .i64 op,.int .i64 a,.int .i64 b,.ro 0 [] .nil]) (.agg (iv .any ⟨op,a,b,[]⟩)):=by
 refine VLe.agg rfl fun j a a' ha ha'=> ?_
 match j with
 |0=>cases ha;cases ha';exact VLe.refl _
 |1=>cases ha;cases ha';exact VLe.refl _
 |2=>cases ha;cases ha';exact VLe.refl _
 |3=>cases ha;cases ha';exact VLe.empty
 | _ +4=>cases ha
theorem oW(q:Nat)(vs:List Nat)(hpos:0<vs.length)(hvs:vs.length<=20000000)(b:List Nat)(hb:b.length<=1000)(hlt:∀c∈b,c<256):SCall prog 136 [.own q 0 vs.length,.str (cB b)] [(q,.arr 5 1 (vs.map aG))]
  (fun y Y=>∃r,y=.own r 0 (vs++bM b).length/\Y=[(r,.arr 5 1 ((vs++bM b).map aG))]):=by
 have hu:=bJ 1 b.length U;refine bO 11 [0,1,4] func136 ?_;refine mO ?_;refine Cw ?_;rw[jO];refine cw [(q,.arr 5 1 (vs.map aG))] call135 (eI q vs U b.length U) rfl aC aA ?_;rintro _ Y' ⟨r8,rfl,rfl⟩ h8;have k8:=aV h8;repeat rcases k8 with⟨_,k8⟩
 refine AX ?_;refine apS (vs++uB b.length) (b) hlt ?_;refine bG fun r10 h10=> ?_;intros;refine cN ?_;rw[show vs++uB b.length++b=vs++bM b by unfold bM;rw[Aq]];exact aD aE ⟨r10,by rfl,rfl⟩ aA
theorem vE(q:Nat)(vs:List Nat)(hvs:vs.length<=20000000)(k:Int):SCall prog 132 [.own q 0 vs.length,.int .i64 k] [(q,.arr 5 1 (vs.map aG))]
  (fun y Y=>∃r,y=.own r 0 (vs++kB k).length/\Y=[(r,.arr 5 1 ((vs++kB k).map aG))]):=by
 refine bO 13 [0,1,4,6] func132 ?_;refine fK ?_;refine sH ?_;refine aB rfl ?_ ?_<;>intro g1
 ·rw[show kB k=[127] by unfold kB;rw[Dc g1]];refine dG ?_;refine eN fun r8 h8=> ?_;intros;refine kD ((vs++ [127]).map aG) (vs++ [127]).length ?_;refine bG fun r9 h9=> ?_;intros;refine cN ?_;exact aD aE ⟨r9,by rfl,rfl⟩ aA
 rw[show kB k=[126] by unfold kB;rw[Db (by simp[g1])]];refine dG ?_;refine eN fun r11 h11=> ?_;intros;refine kD ((vs++ [126]).map aG) (vs++ [126]).length ?_;refine bG fun r12 h12=> ?_;intros;refine cN ?_;exact aD aE ⟨r12,by rfl,rfl⟩ aA
theorem tG(q:Nat)(vs:List Nat)(hvs:vs.length<=20000000)(k n:Int)(hv:nT k n=true)(hn:-9223372036854775808<=n/\n<=9223372036854775807):SCall prog 144 [.own q 0 vs.length,.agg [.int .i64 k,.int .i64 n]] [(q,.arr 5 1 (vs.map aG))]
  (fun y Y=>∃r,y=.own r 0 (vs++nB k n).length/\Y=[(r,.arr 5 1 ((vs++nB k n).map aG))]):=by
 obtain⟨ho,hm,-⟩:=IX hv hn;have hpl:=yB ho hm;have hcB:nB k n=gT ⟨if(k==2)=true then 66 else 65,n,0,[]⟩++ [11]:=rfl;rw[hcB];generalize hop:(if(k==2)=true then(66:Int)else 65)=op at ho hm hpl hcB⊢;have hop:=hop.symm;refine bO 17 [0,1,3,4,5,8] func144 ?_;refine dB ?_;refine fZ fun r3 h3=> ?_;intros;refine iT ?_;refine iO ?_;refine sH ?_;refine aB rfl ?_ ?_<;>intro g2
 ·have hco:cM (.int .i64 66)=AV.int .i64 op:=by rw[hop,Dc g2];rfl
  refine cV ?_;rw[hco];refine kV ?_;refine pD ?_;refine mM ?_;refine mC (fH (j:=13) rfl HG) ?_;refine cw [(q,.arr 5 1 (vs.map aG))] call242 (EJ q vs U .any ⟨op,n,0,[]⟩ ho hm) rfl aC aA ?_;rintro _ Y' ⟨r14,rfl,rfl⟩ h14;have k14:=aV h14;repeat rcases k14 with⟨_,k14⟩
  apply aR;exact aU;refine eN fun r15 h15=> ?_;intros;refine kD ((vs++gT ⟨op,n,0,[]⟩++ [11]).map aG) (vs++gT ⟨op,n,0,[]⟩++ [11]).length ?_;refine bG fun r16 h16=> ?_;intros;refine cN ?_;rw[Aq];exact aD aE ⟨r16,by rfl,rfl⟩ aA
 have hco:cM (.int .i64 65)=AV.int .i64 op:=by rw[hop,Db (by simp[g2])];rfl
 refine aI ?_;rw[hco];refine kV ?_;refine pD ?_;refine mM ?_;refine mC (fH (j:=13) rfl HG) ?_;refine cw [(q,.arr 5 1 (vs.map aG))] call242 (EJ q vs U .any ⟨op,n,0,[]⟩ ho hm) rfl aC aA ?_;rintro _ Y' ⟨r14,rfl,rfl⟩ h14;have k14:=aV h14;repeat rcases k14 with⟨_,k14⟩
 apply aR;exact aU;refine z1 ?_;refine bD fun r15 h15=> ?_;repeat rcases h15 with⟨_,h15⟩
 refine kD ((vs++gT ⟨op,n,0,[]⟩++ [11]).map aG) (vs++gT ⟨op,n,0,[]⟩++ [11]).length ?_;refine bG fun r16 h16=> ?_;intros;refine cN ?_;rw[Aq];exact aD aE ⟨r16,by rfl,rfl⟩ aA
theorem aKi{f:FuncId}{pt:FT->List Nat}{ok:FT->Prop}{c B:Nat}(hf:jB prog 5 f (fun x=>.agg (cD x)) pt ok c B)(hB:B<=50000000)(q:Nat)(vs:List Nat)(l:List FT)(hok:∀x∈l,ok x)(hl:l.length<=1000)(hb:vs.length+10+l.length*c<=B):
  SCall prog 237 [.own q 0 vs.length,.ro 2 (l.map cD) .any,.fn (.func f) [] []] [(q,.arr 5 1 (vs.map aG))] (fun y Y=>∃r,y=.own r 0 (vs++bB l pt).length/\Y=[(r,.arr 5 1 ((vs++bB l pt).map aG))]):=by
 have hu:=bJ 1 l.length U;have hup:=iP l.length;have hpc:=iB hf U hok;refine bO 25 [0,1,2,6,8,13,14,15,16] func237 ?_;refine mO ?_;refine vP ?_;refine cw [(q,.arr 5 1 (vs.map aG))] call135 (eI q vs U l.length U) rfl aC aA ?_;rintro _ Y' ⟨r12,rfl,rfl⟩ h12;have k12:=aV h12;repeat rcases k12 with⟨_,k12⟩
 refine sO ?_;refine qD ?_;refine lp (β:=Nat×Nat) (fun b=>⟨[(0,.own b.1 0 (vs++uB l.length++(l.take b.2).flatMap pt).length),(2,.fn (.func f) [] []),(13,.ro 2 (l.map cD) .any),(14,.int .i64 l.length),(15,.int .i64 b.2)],[(b.1,.arr 5 1 ((vs++uB l.length++(l.take b.2).flatMap pt).map aG))]⟩) (fun b=>b.2<=l.length) (fun b=>l.length-b.2) (r12,0) (by dsimp only;rw[show vs++uB l.length++(l.take 0).flatMap pt=vs++uB l.length by simp];exact aH) (Am _) ?_;rintro⟨q1,j⟩ hj;have hpj:=hpc j;have hsl:(vs++uB l.length++(l.take j).flatMap pt).length=vs.length+(uB l.length).length+((l.take j).flatMap pt).length:=by simp[By]
 dsimp only at hj⊢;refine gN ?_;refine aB rfl ?_ ?_<;>intro g3
 ·have hlt:j<l.length:=by simp at g3;omega
  obtain⟨x,hx⟩:=Aa l j hlt
  have hnx:vs++uB l.length++(l.take (j+1)).flatMap pt=vs++uB l.length++(l.take j).flatMap pt++pt x:=by rw[Al,hx,Bo];simp
  refine nY ?_;refine iD fun r8 h8=> ?_;intros;refine fR ?_;refine kV ?_;refine jY ?_;refine qY [(q1,.arr 5 1 ((vs++uB l.length++(l.take j).flatMap pt).map aG))] rfl hf.1 (hf.2 q1 _ x (hok x (Ah hx)) U U).2 rfl aC aA ?_;rintro _ Y' ⟨r22,rfl,rfl⟩ h22;have k22:=aV h22;repeat rcases k22 with⟨_,k22⟩
  refine vR ?_;refine⟨(r22,j+1),hlt,Ab U, ?_⟩;dsimp only;rw[hnx];exact aH
 obtain rfl:j=l.length:=by simp at g3;omega
 refine fC ?_;rw[show vs++uB l.length++(l.take l.length).flatMap pt=vs++bB l pt by rw[Aw,Aq];rfl];exact aD aE ⟨q1,by rfl,rfl⟩ aA
theorem aGD{f:FuncId}{pt:FT->List Nat}{ok:FT->Prop}{c B:Nat}(hf:jB prog 5 f (fun x=>.agg (cD x)) pt ok c B)(hB:B<=50000000)(l:List FT)(hok:∀x∈l,ok x)(hl:l.length<=1000)(hb:10+l.length*c<=B):
  SCall prog 237 [.ro 0 [] .nil,.ro 2 (l.map cD) .any,.fn (.func f) [] []] [] (fun y Y=>∃r,y=.own r 0 (bB l pt).length/\Y=[(r,.arr 5 1 ((bB l pt).map aG))]):=
 iR (e:=5) (sz:=1) V fun q _=>aKi hf hB q [] l hok hl (C8 hb)
end Go.Proofs.YtjpdadobblffmaaGreat
namespace Go.Proofs.YtjpdadobblffmaaGreat
open Go.RowKit Go.ChangeShapes Go.WideShapes Go.ChangeAt Go.Deep
def lV (r:List Int):List AV:=[.ro 1 (r.map aK) .any]
theorem HI{f:FuncId}{pt:Int->List Nat}{ok:Int->Prop}{c B:Nat}(hf:jB prog 5 f (fun n=>.int .i64 n) pt ok c B)(hB:B<=50000000)(q:Nat)(vs:List Nat)(l:List Int)(hok:∀x∈l,ok x)(hl:l.length<=1000)(hb:vs.length+10+l.length*c<=B):
  SCall prog 131 [.own q 0 vs.length,.ro 1 (l.map aK) .any,.fn (.func f) [] []] [(q,.arr 5 1 (vs.map aG))] (fun y Y=>∃r,y=.own r 0 (vs++bB l pt).length/\Y=[(r,.arr 5 1 ((vs++bB l pt).map aG))]):=by
 have hu:=bJ 1 l.length U;have hup:=iP l.length;have hpc:=iB hf U hok;refine bO 25 [0,1,2,6,8,13,14,15,16] func131 ?_;refine mO ?_;refine vP ?_;refine cw [(q,.arr 5 1 (vs.map aG))] call135 (eI q vs U l.length U) rfl aC aA ?_;rintro _ Y' ⟨r12,rfl,rfl⟩ h12;have k12:=aV h12;repeat rcases k12 with⟨_,k12⟩
 refine sO ?_;refine qD ?_;refine lp (β:=Nat×Nat) (fun b=>⟨[(0,.own b.1 0 (vs++uB l.length++(l.take b.2).flatMap pt).length),(2,.fn (.func f) [] []),(13,.ro 1 (l.map aK) .any),(14,.int .i64 l.length),(15,.int .i64 b.2)],[(b.1,.arr 5 1 ((vs++uB l.length++(l.take b.2).flatMap pt).map aG))]⟩) (fun b=>b.2<=l.length) (fun b=>l.length-b.2) (r12,0) (by dsimp only;rw[show vs++uB l.length++(l.take 0).flatMap pt=vs++uB l.length by simp];exact aH) (Am _) ?_;rintro⟨q1,j⟩ hj;have hpj:=hpc j;have hsl:(vs++uB l.length++(l.take j).flatMap pt).length=vs.length+(uB l.length).length+((l.take j).flatMap pt).length:=by simp[By]
 dsimp only at hj⊢;refine gN ?_;refine aB rfl ?_ ?_<;>intro g3
 ·have hlt:j<l.length:=by simp at g3;omega
  obtain⟨x,hx⟩:=Aa l j hlt
  have hnx:vs++uB l.length++(l.take (j+1)).flatMap pt=vs++uB l.length++(l.take j).flatMap pt++pt x:=by rw[Al,hx,Bo];simp
  refine dB ?_;refine mD ?_;refine cN ?_;refine xN ?_;refine qY [(q1,.arr 5 1 ((vs++uB l.length++(l.take j).flatMap pt).map aG))] rfl hf.1 (hf.2 q1 _ x (hok x (Ah hx)) U U).2 rfl aC aA ?_;rintro _ Y' ⟨r22,rfl,rfl⟩ h22;have k22:=aV h22;repeat rcases k22 with⟨_,k22⟩
  refine vR ?_;refine⟨(r22,j+1),hlt,Ab U, ?_⟩;dsimp only;rw[hnx];exact aH
 obtain rfl:j=l.length:=by simp at g3;omega
 refine fC ?_;rw[show vs++uB l.length++(l.take l.length).flatMap pt=vs++bB l pt by rw[Aw,Aq];rfl];exact aD aE ⟨q1,by rfl,rfl⟩ aA
theorem aDS{f:FuncId}{pt:Int->List Nat}{ok:Int->Prop}{c B:Nat}(hf:jB prog 5 f (fun n=>.int .i64 n) pt ok c B)(hB:B<=50000000)(l:List Int)(hok:∀x∈l,ok x)(hl:l.length<=1000)(hb:10+l.length*c<=B):
  SCall prog 131 [.ro 0 [] .nil,.ro 1 (l.map aK) .any,.fn (.func f) [] []] [] (fun y Y=>∃r,y=.own r 0 (bB l pt).length/\Y=[(r,.arr 5 1 ((bB l pt).map aG))]):=
 iR (e:=5) (sz:=1) V fun q _=>HI hf hB q [] l hok hl (C8 hb)
theorem aGE{f:FuncId}{pt:(List Int)->List Nat}{ok:(List Int)->Prop}{c B:Nat}(hf:jB prog 5 f (fun r=>.ro 1 (r.map aK) .any) pt ok c B)(hB:B<=50000000)(q:Nat)(vs:List Nat)(l:List (List Int))(hok:∀x∈l,ok x)(hl:l.length<=1000)(hb:vs.length+10+l.length*c<=B):
  SCall prog 246 [.own q 0 vs.length,.ro 1 (l.map lV) .any,.fn (.func f) [] []] [(q,.arr 5 1 (vs.map aG))] (fun y Y=>∃r,y=.own r 0 (vs++bB l pt).length/\Y=[(r,.arr 5 1 ((vs++bB l pt).map aG))]):=by
 have hu:=bJ 1 l.length U;have hup:=iP l.length;have hpc:=iB hf U hok;refine bO 25 [0,1,2,6,8,13,14,15,16] func246 ?_;refine mO ?_;refine vP ?_;refine cw [(q,.arr 5 1 (vs.map aG))] call135 (eI q vs U l.length U) rfl aC aA ?_;rintro _ Y' ⟨r12,rfl,rfl⟩ h12;have k12:=aV h12;repeat rcases k12 with⟨_,k12⟩
 refine sO ?_;refine qD ?_;refine lp (β:=Nat×Nat) (fun b=>⟨[(0,.own b.1 0 (vs++uB l.length++(l.take b.2).flatMap pt).length),(2,.fn (.func f) [] []),(13,.ro 1 (l.map lV) .any),(14,.int .i64 l.length),(15,.int .i64 b.2)],[(b.1,.arr 5 1 ((vs++uB l.length++(l.take b.2).flatMap pt).map aG))]⟩) (fun b=>b.2<=l.length) (fun b=>l.length-b.2) (r12,0) (by dsimp only;rw[show vs++uB l.length++(l.take 0).flatMap pt=vs++uB l.length by simp];exact aH) (Am _) ?_;rintro⟨q1,j⟩ hj;have hpj:=hpc j;have hsl:(vs++uB l.length++(l.take j).flatMap pt).length=vs.length+(uB l.length).length+((l.take j).flatMap pt).length:=by simp[By]
 dsimp only at hj⊢;refine gN ?_;refine aB rfl ?_ ?_<;>intro g3
 ·have hlt:j<l.length:=by simp at g3;omega
  obtain⟨x,hx⟩:=Aa l j hlt
  have hnx:vs++uB l.length++(l.take (j+1)).flatMap pt=vs++uB l.length++(l.take j).flatMap pt++pt x:=by rw[Al,hx,Bo];simp
  refine dB ?_;refine mD ?_;refine cN ?_;refine xN ?_;refine qY [(q1,.arr 5 1 ((vs++uB l.length++(l.take j).flatMap pt).map aG))] rfl hf.1 (hf.2 q1 _ x (hok x (Ah hx)) U U).2 rfl aC aA ?_;rintro _ Y' ⟨r22,rfl,rfl⟩ h22;have k22:=aV h22;repeat rcases k22 with⟨_,k22⟩
  refine vR ?_;refine⟨(r22,j+1),hlt,Ab U, ?_⟩;dsimp only;rw[hnx];exact aH
 obtain rfl:j=l.length:=by simp at g3;omega
 refine fC ?_;rw[show vs++uB l.length++(l.take l.length).flatMap pt=vs++bB l pt by rw[Aw,Aq];rfl];exact aD aE ⟨q1,by rfl,rfl⟩ aA
theorem UA{f:FuncId}{pt:(List Int)->List Nat}{ok:(List Int)->Prop}{c B:Nat}(hf:jB prog 5 f (fun r=>.ro 1 (r.map aK) .any) pt ok c B)(hB:B<=50000000)(l:List (List Int))(hok:∀x∈l,ok x)(hl:l.length<=1000)(hb:10+l.length*c<=B):
  SCall prog 246 [.ro 0 [] .nil,.ro 1 (l.map lV) .any,.fn (.func f) [] []] [] (fun y Y=>∃r,y=.own r 0 (bB l pt).length/\Y=[(r,.arr 5 1 ((bB l pt).map aG))]):=
 iR (e:=5) (sz:=1) V fun q _=>aGE hf hB q [] l hok hl (C8 hb)
theorem aKj{f:FuncId}{pt:Im->List Nat}{ok:Im->Prop}{c B:Nat}(hf:jB prog 5 f (fun x=>.agg (eE x)) pt ok c B)(hB:B<=50000000)(q:Nat)(vs:List Nat)(l:List Im)(hok:∀x∈l,ok x)(hl:l.length<=1000)(hb:vs.length+10+l.length*c<=B):
  SCall prog 238 [.own q 0 vs.length,.ro 3 (l.map eE) .any,.fn (.func f) [] []] [(q,.arr 5 1 (vs.map aG))] (fun y Y=>∃r,y=.own r 0 (vs++bB l pt).length/\Y=[(r,.arr 5 1 ((vs++bB l pt).map aG))]):=by
 have hu:=bJ 1 l.length U;have hup:=iP l.length;have hpc:=iB hf U hok;refine bO 25 [0,1,2,6,8,13,14,15,16] func238 ?_;refine mO ?_;refine vP ?_;refine cw [(q,.arr 5 1 (vs.map aG))] call135 (eI q vs U l.length U) rfl aC aA ?_;rintro _ Y' ⟨r12,rfl,rfl⟩ h12;have k12:=aV h12;repeat rcases k12 with⟨_,k12⟩
 refine sO ?_;refine qD ?_;refine lp (β:=Nat×Nat) (fun b=>⟨[(0,.own b.1 0 (vs++uB l.length++(l.take b.2).flatMap pt).length),(2,.fn (.func f) [] []),(13,.ro 3 (l.map eE) .any),(14,.int .i64 l.length),(15,.int .i64 b.2)],[(b.1,.arr 5 1 ((vs++uB l.length++(l.take b.2).flatMap pt).map aG))]⟩) (fun b=>b.2<=l.length) (fun b=>l.length-b.2) (r12,0) (by dsimp only;rw[show vs++uB l.length++(l.take 0).flatMap pt=vs++uB l.length by simp];exact aH) (Am _) ?_;rintro⟨q1,j⟩ hj;have hpj:=hpc j;have hsl:(vs++uB l.length++(l.take j).flatMap pt).length=vs.length+(uB l.length).length+((l.take j).flatMap pt).length:=by simp[By]
 dsimp only at hj⊢;refine gN ?_;refine aB rfl ?_ ?_<;>intro g3
 ·have hlt:j<l.length:=by simp at g3;omega
  obtain⟨x,hx⟩:=Aa l j hlt
  have hnx:vs++uB l.length++(l.take (j+1)).flatMap pt=vs++uB l.length++(l.take j).flatMap pt++pt x:=by rw[Al,hx,Bo];simp
  refine nY ?_;refine iD fun r8 h8=> ?_;intros;refine fR ?_;refine kV ?_;refine jY ?_;refine qY [(q1,.arr 5 1 ((vs++uB l.length++(l.take j).flatMap pt).map aG))] rfl hf.1 (hf.2 q1 _ x (hok x (Ah hx)) U U).2 rfl aC aA ?_;rintro _ Y' ⟨r22,rfl,rfl⟩ h22;have k22:=aV h22;repeat rcases k22 with⟨_,k22⟩
  refine vR ?_;refine⟨(r22,j+1),hlt,Ab U, ?_⟩;dsimp only;rw[hnx];exact aH
 obtain rfl:j=l.length:=by simp at g3;omega
 refine fC ?_;rw[show vs++uB l.length++(l.take l.length).flatMap pt=vs++bB l pt by rw[Aw,Aq];rfl];exact aD aE ⟨q1,by rfl,rfl⟩ aA
theorem aGF{f:FuncId}{pt:Im->List Nat}{ok:Im->Prop}{c B:Nat}(hf:jB prog 5 f (fun x=>.agg (eE x)) pt ok c B)(hB:B<=50000000)(l:List Im)(hok:∀x∈l,ok x)(hl:l.length<=1000)(hb:10+l.length*c<=B):
  SCall prog 238 [.ro 0 [] .nil,.ro 3 (l.map eE) .any,.fn (.func f) [] []] [] (fun y Y=>∃r,y=.own r 0 (bB l pt).length/\Y=[(r,.arr 5 1 ((bB l pt).map aG))]):=
 iR (e:=5) (sz:=1) V fun q _=>aKj hf hB q [] l hok hl (C8 hb)
theorem aKk{f:FuncId}{pt:Li->List Nat}{ok:Li->Prop}{c B:Nat}(hf:jB prog 5 f (fun x=>.agg (eO x)) pt ok c B)(hB:B<=50000000)(q:Nat)(vs:List Nat)(l:List Li)(hok:∀x∈l,ok x)(hl:l.length<=1000)(hb:vs.length+10+l.length*c<=B):
  SCall prog 240 [.own q 0 vs.length,.ro 3 (l.map eO) .any,.fn (.func f) [] []] [(q,.arr 5 1 (vs.map aG))] (fun y Y=>∃r,y=.own r 0 (vs++bB l pt).length/\Y=[(r,.arr 5 1 ((vs++bB l pt).map aG))]):=by
 have hu:=bJ 1 l.length U;have hup:=iP l.length;have hpc:=iB hf U hok;refine bO 25 [0,1,2,6,8,13,14,15,16] func240 ?_;refine mO ?_;refine vP ?_;refine cw [(q,.arr 5 1 (vs.map aG))] call135 (eI q vs U l.length U) rfl aC aA ?_;rintro _ Y' ⟨r12,rfl,rfl⟩ h12;have k12:=aV h12;repeat rcases k12 with⟨_,k12⟩
 refine sO ?_;refine qD ?_;refine lp (β:=Nat×Nat) (fun b=>⟨[(0,.own b.1 0 (vs++uB l.length++(l.take b.2).flatMap pt).length),(2,.fn (.func f) [] []),(13,.ro 3 (l.map eO) .any),(14,.int .i64 l.length),(15,.int .i64 b.2)],[(b.1,.arr 5 1 ((vs++uB l.length++(l.take b.2).flatMap pt).map aG))]⟩) (fun b=>b.2<=l.length) (fun b=>l.length-b.2) (r12,0) (by dsimp only;rw[show vs++uB l.length++(l.take 0).flatMap pt=vs++uB l.length by simp];exact aH) (Am _) ?_;rintro⟨q1,j⟩ hj;have hpj:=hpc j;have hsl:(vs++uB l.length++(l.take j).flatMap pt).length=vs.length+(uB l.length).length+((l.take j).flatMap pt).length:=by simp[By]
 dsimp only at hj⊢;refine gN ?_;refine aB rfl ?_ ?_<;>intro g3
 ·have hlt:j<l.length:=by simp at g3;omega
  obtain⟨x,hx⟩:=Aa l j hlt
  have hnx:vs++uB l.length++(l.take (j+1)).flatMap pt=vs++uB l.length++(l.take j).flatMap pt++pt x:=by rw[Al,hx,Bo];simp
  refine nY ?_;refine iD fun r8 h8=> ?_;intros;refine fR ?_;refine kV ?_;refine jY ?_;refine qY [(q1,.arr 5 1 ((vs++uB l.length++(l.take j).flatMap pt).map aG))] rfl hf.1 (hf.2 q1 _ x (hok x (Ah hx)) U U).2 rfl aC aA ?_;rintro _ Y' ⟨r22,rfl,rfl⟩ h22;have k22:=aV h22;repeat rcases k22 with⟨_,k22⟩
  refine vR ?_;refine⟨(r22,j+1),hlt,Ab U, ?_⟩;dsimp only;rw[hnx];exact aH
 obtain rfl:j=l.length:=by simp at g3;omega
 refine fC ?_;rw[show vs++uB l.length++(l.take l.length).flatMap pt=vs++bB l pt by rw[Aw,Aq];rfl];exact aD aE ⟨q1,by rfl,rfl⟩ aA
theorem aGG{f:FuncId}{pt:Li->List Nat}{ok:Li->Prop}{c B:Nat}(hf:jB prog 5 f (fun x=>.agg (eO x)) pt ok c B)(hB:B<=50000000)(l:List Li)(hok:∀x∈l,ok x)(hl:l.length<=1000)(hb:10+l.length*c<=B):
  SCall prog 240 [.ro 0 [] .nil,.ro 3 (l.map eO) .any,.fn (.func f) [] []] [] (fun y Y=>∃r,y=.own r 0 (bB l pt).length/\Y=[(r,.arr 5 1 ((bB l pt).map aG))]):=
 iR (e:=5) (sz:=1) V fun q _=>aKk hf hB q [] l hok hl (C8 hb)
theorem aKl{f:FuncId}{pt:Gl->List Nat}{ok:Gl->Prop}{c B:Nat}(hf:jB prog 5 f (fun x=>.agg (dX x)) pt ok c B)(hB:B<=50000000)(q:Nat)(vs:List Nat)(l:List Gl)(hok:∀x∈l,ok x)(hl:l.length<=1000)(hb:vs.length+10+l.length*c<=B):
  SCall prog 241 [.own q 0 vs.length,.ro 3 (l.map dX) .any,.fn (.func f) [] []] [(q,.arr 5 1 (vs.map aG))] (fun y Y=>∃r,y=.own r 0 (vs++bB l pt).length/\Y=[(r,.arr 5 1 ((vs++bB l pt).map aG))]):=by
 have hu:=bJ 1 l.length U;have hup:=iP l.length;have hpc:=iB hf U hok;refine bO 25 [0,1,2,6,8,13,14,15,16] func241 ?_;refine mO ?_;refine vP ?_;refine cw [(q,.arr 5 1 (vs.map aG))] call135 (eI q vs U l.length U) rfl aC aA ?_;rintro _ Y' ⟨r12,rfl,rfl⟩ h12;have k12:=aV h12;repeat rcases k12 with⟨_,k12⟩
 refine sO ?_;refine qD ?_;refine lp (β:=Nat×Nat) (fun b=>⟨[(0,.own b.1 0 (vs++uB l.length++(l.take b.2).flatMap pt).length),(2,.fn (.func f) [] []),(13,.ro 3 (l.map dX) .any),(14,.int .i64 l.length),(15,.int .i64 b.2)],[(b.1,.arr 5 1 ((vs++uB l.length++(l.take b.2).flatMap pt).map aG))]⟩) (fun b=>b.2<=l.length) (fun b=>l.length-b.2) (r12,0) (by dsimp only;rw[show vs++uB l.length++(l.take 0).flatMap pt=vs++uB l.length by simp];exact aH) (Am _) ?_;rintro⟨q1,j⟩ hj;have hpj:=hpc j;have hsl:(vs++uB l.length++(l.take j).flatMap pt).length=vs.length+(uB l.length).length+((l.take j).flatMap pt).length:=by simp[By]
 dsimp only at hj⊢;refine gN ?_;refine aB rfl ?_ ?_<;>intro g3
 ·have hlt:j<l.length:=by simp at g3;omega
  obtain⟨x,hx⟩:=Aa l j hlt
  have hnx:vs++uB l.length++(l.take (j+1)).flatMap pt=vs++uB l.length++(l.take j).flatMap pt++pt x:=by rw[Al,hx,Bo];simp
  refine nY ?_;refine iD fun r8 h8=> ?_;intros;refine fR ?_;refine kV ?_;refine jY ?_;refine qY [(q1,.arr 5 1 ((vs++uB l.length++(l.take j).flatMap pt).map aG))] rfl hf.1 (hf.2 q1 _ x (hok x (Ah hx)) U U).2 rfl aC aA ?_;rintro _ Y' ⟨r22,rfl,rfl⟩ h22;have k22:=aV h22;repeat rcases k22 with⟨_,k22⟩
  refine vR ?_;refine⟨(r22,j+1),hlt,Ab U, ?_⟩;dsimp only;rw[hnx];exact aH
 obtain rfl:j=l.length:=by simp at g3;omega
 refine fC ?_;rw[show vs++uB l.length++(l.take l.length).flatMap pt=vs++bB l pt by rw[Aw,Aq];rfl];exact aD aE ⟨q1,by rfl,rfl⟩ aA
theorem aGH{f:FuncId}{pt:Gl->List Nat}{ok:Gl->Prop}{c B:Nat}(hf:jB prog 5 f (fun x=>.agg (dX x)) pt ok c B)(hB:B<=50000000)(l:List Gl)(hok:∀x∈l,ok x)(hl:l.length<=1000)(hb:10+l.length*c<=B):
  SCall prog 241 [.ro 0 [] .nil,.ro 3 (l.map dX) .any,.fn (.func f) [] []] [] (fun y Y=>∃r,y=.own r 0 (bB l pt).length/\Y=[(r,.arr 5 1 ((bB l pt).map aG))]):=
 iR (e:=5) (sz:=1) V fun q _=>aKl hf hB q [] l hok hl (C8 hb)
theorem aKm{f:FuncId}{pt:Ex->List Nat}{ok:Ex->Prop}{c B:Nat}(hf:jB prog 5 f (fun x=>.agg (dD x)) pt ok c B)(hB:B<=50000000)(q:Nat)(vs:List Nat)(l:List Ex)(hok:∀x∈l,ok x)(hl:l.length<=1000)(hb:vs.length+10+l.length*c<=B):
  SCall prog 243 [.own q 0 vs.length,.ro 2 (l.map dD) .any,.fn (.func f) [] []] [(q,.arr 5 1 (vs.map aG))] (fun y Y=>∃r,y=.own r 0 (vs++bB l pt).length/\Y=[(r,.arr 5 1 ((vs++bB l pt).map aG))]):=by
 have hu:=bJ 1 l.length U;have hup:=iP l.length;have hpc:=iB hf U hok;refine bO 25 [0,1,2,6,8,13,14,15,16] func243 ?_;refine mO ?_;refine vP ?_;refine cw [(q,.arr 5 1 (vs.map aG))] call135 (eI q vs U l.length U) rfl aC aA ?_;rintro _ Y' ⟨r12,rfl,rfl⟩ h12;have k12:=aV h12;repeat rcases k12 with⟨_,k12⟩
 refine sO ?_;refine qD ?_;refine lp (β:=Nat×Nat) (fun b=>⟨[(0,.own b.1 0 (vs++uB l.length++(l.take b.2).flatMap pt).length),(2,.fn (.func f) [] []),(13,.ro 2 (l.map dD) .any),(14,.int .i64 l.length),(15,.int .i64 b.2)],[(b.1,.arr 5 1 ((vs++uB l.length++(l.take b.2).flatMap pt).map aG))]⟩) (fun b=>b.2<=l.length) (fun b=>l.length-b.2) (r12,0) (by dsimp only;rw[show vs++uB l.length++(l.take 0).flatMap pt=vs++uB l.length by simp];exact aH) (Am _) ?_;rintro⟨q1,j⟩ hj;have hpj:=hpc j;have hsl:(vs++uB l.length++(l.take j).flatMap pt).length=vs.length+(uB l.length).length+((l.take j).flatMap pt).length:=by simp[By]
 dsimp only at hj⊢;refine gN ?_;refine aB rfl ?_ ?_<;>intro g3
 ·have hlt:j<l.length:=by simp at g3;omega
  obtain⟨x,hx⟩:=Aa l j hlt
  have hnx:vs++uB l.length++(l.take (j+1)).flatMap pt=vs++uB l.length++(l.take j).flatMap pt++pt x:=by rw[Al,hx,Bo];simp
  refine nY ?_;refine iD fun r8 h8=> ?_;intros;refine fR ?_;refine kV ?_;refine jY ?_;refine qY [(q1,.arr 5 1 ((vs++uB l.length++(l.take j).flatMap pt).map aG))] rfl hf.1 (hf.2 q1 _ x (hok x (Ah hx)) U U).2 rfl aC aA ?_;rintro _ Y' ⟨r22,rfl,rfl⟩ h22;have k22:=aV h22;repeat rcases k22 with⟨_,k22⟩
  refine vR ?_;refine⟨(r22,j+1),hlt,Ab U, ?_⟩;dsimp only;rw[hnx];exact aH
 obtain rfl:j=l.length:=by simp at g3;omega
 refine fC ?_;rw[show vs++uB l.length++(l.take l.length).flatMap pt=vs++bB l pt by rw[Aw,Aq];rfl];exact aD aE ⟨q1,by rfl,rfl⟩ aA
theorem aGI{f:FuncId}{pt:Ex->List Nat}{ok:Ex->Prop}{c B:Nat}(hf:jB prog 5 f (fun x=>.agg (dD x)) pt ok c B)(hB:B<=50000000)(l:List Ex)(hok:∀x∈l,ok x)(hl:l.length<=1000)(hb:10+l.length*c<=B):
  SCall prog 243 [.ro 0 [] .nil,.ro 2 (l.map dD) .any,.fn (.func f) [] []] [] (fun y Y=>∃r,y=.own r 0 (bB l pt).length/\Y=[(r,.arr 5 1 ((bB l pt).map aG))]):=
 iR (e:=5) (sz:=1) V fun q _=>aKm hf hB q [] l hok hl (C8 hb)
theorem aKn{f:FuncId}{pt:El->List Nat}{ok:El->Prop}{c B:Nat}(hf:jB prog 5 f (fun x=>.agg (dP x)) pt ok c B)(hB:B<=50000000)(q:Nat)(vs:List Nat)(l:List El)(hok:∀x∈l,ok x)(hl:l.length<=1000)(hb:vs.length+10+l.length*c<=B):
  SCall prog 244 [.own q 0 vs.length,.ro 2 (l.map dP) .any,.fn (.func f) [] []] [(q,.arr 5 1 (vs.map aG))] (fun y Y=>∃r,y=.own r 0 (vs++bB l pt).length/\Y=[(r,.arr 5 1 ((vs++bB l pt).map aG))]):=by
 have hu:=bJ 1 l.length U;have hup:=iP l.length;have hpc:=iB hf U hok;refine bO 25 [0,1,2,6,8,13,14,15,16] func244 ?_;refine mO ?_;refine vP ?_;refine cw [(q,.arr 5 1 (vs.map aG))] call135 (eI q vs U l.length U) rfl aC aA ?_;rintro _ Y' ⟨r12,rfl,rfl⟩ h12;have k12:=aV h12;repeat rcases k12 with⟨_,k12⟩
 refine sO ?_;refine qD ?_;refine lp (β:=Nat×Nat) (fun b=>⟨[(0,.own b.1 0 (vs++uB l.length++(l.take b.2).flatMap pt).length),(2,.fn (.func f) [] []),(13,.ro 2 (l.map dP) .any),(14,.int .i64 l.length),(15,.int .i64 b.2)],[(b.1,.arr 5 1 ((vs++uB l.length++(l.take b.2).flatMap pt).map aG))]⟩) (fun b=>b.2<=l.length) (fun b=>l.length-b.2) (r12,0) (by dsimp only;rw[show vs++uB l.length++(l.take 0).flatMap pt=vs++uB l.length by simp];exact aH) (Am _) ?_;rintro⟨q1,j⟩ hj;have hpj:=hpc j;have hsl:(vs++uB l.length++(l.take j).flatMap pt).length=vs.length+(uB l.length).length+((l.take j).flatMap pt).length:=by simp[By]
 dsimp only at hj⊢;refine gN ?_;refine aB rfl ?_ ?_<;>intro g3
 ·have hlt:j<l.length:=by simp at g3;omega
  obtain⟨x,hx⟩:=Aa l j hlt
  have hnx:vs++uB l.length++(l.take (j+1)).flatMap pt=vs++uB l.length++(l.take j).flatMap pt++pt x:=by rw[Al,hx,Bo];simp
  refine nY ?_;refine iD fun r8 h8=> ?_;intros;refine fR ?_;refine kV ?_;refine jY ?_;refine qY [(q1,.arr 5 1 ((vs++uB l.length++(l.take j).flatMap pt).map aG))] rfl hf.1 (hf.2 q1 _ x (hok x (Ah hx)) U U).2 rfl aC aA ?_;rintro _ Y' ⟨r22,rfl,rfl⟩ h22;have k22:=aV h22;repeat rcases k22 with⟨_,k22⟩
  refine vR ?_;refine⟨(r22,j+1),hlt,Ab U, ?_⟩;dsimp only;rw[hnx];exact aH
 obtain rfl:j=l.length:=by simp at g3;omega
 refine fC ?_;rw[show vs++uB l.length++(l.take l.length).flatMap pt=vs++bB l pt by rw[Aw,Aq];rfl];exact aD aE ⟨q1,by rfl,rfl⟩ aA
theorem aGJ{f:FuncId}{pt:El->List Nat}{ok:El->Prop}{c B:Nat}(hf:jB prog 5 f (fun x=>.agg (dP x)) pt ok c B)(hB:B<=50000000)(l:List El)(hok:∀x∈l,ok x)(hl:l.length<=1000)(hb:10+l.length*c<=B):
  SCall prog 244 [.ro 0 [] .nil,.ro 2 (l.map dP) .any,.fn (.func f) [] []] [] (fun y Y=>∃r,y=.own r 0 (bB l pt).length/\Y=[(r,.arr 5 1 ((bB l pt).map aG))]):=
 iR (e:=5) (sz:=1) V fun q _=>aKn hf hB q [] l hok hl (C8 hb)
theorem aKo{f:FuncId}{pt:Co->List Nat}{ok:Co->Prop}{c B:Nat}(hf:jB prog 5 f (fun x=>.agg (cQ x)) pt ok c B)(hB:B<=50000000)(q:Nat)(vs:List Nat)(l:List Co)(hok:∀x∈l,ok x)(hl:l.length<=1000)(hb:vs.length+10+l.length*c<=B):
  SCall prog 245 [.own q 0 vs.length,.ro 2 (l.map cQ) .any,.fn (.func f) [] []] [(q,.arr 5 1 (vs.map aG))] (fun y Y=>∃r,y=.own r 0 (vs++bB l pt).length/\Y=[(r,.arr 5 1 ((vs++bB l pt).map aG))]):=by
 have hu:=bJ 1 l.length U;have hup:=iP l.length;have hpc:=iB hf U hok;refine bO 25 [0,1,2,6,8,13,14,15,16] func245 ?_;refine mO ?_;refine vP ?_;refine cw [(q,.arr 5 1 (vs.map aG))] call135 (eI q vs U l.length U) rfl aC aA ?_;rintro _ Y' ⟨r12,rfl,rfl⟩ h12;have k12:=aV h12;repeat rcases k12 with⟨_,k12⟩
 refine sO ?_;refine qD ?_;refine lp (β:=Nat×Nat) (fun b=>⟨[(0,.own b.1 0 (vs++uB l.length++(l.take b.2).flatMap pt).length),(2,.fn (.func f) [] []),(13,.ro 2 (l.map cQ) .any),(14,.int .i64 l.length),(15,.int .i64 b.2)],[(b.1,.arr 5 1 ((vs++uB l.length++(l.take b.2).flatMap pt).map aG))]⟩) (fun b=>b.2<=l.length) (fun b=>l.length-b.2) (r12,0) (by dsimp only;rw[show vs++uB l.length++(l.take 0).flatMap pt=vs++uB l.length by simp];exact aH) (Am _) ?_;rintro⟨q1,j⟩ hj;have hpj:=hpc j;have hsl:(vs++uB l.length++(l.take j).flatMap pt).length=vs.length+(uB l.length).length+((l.take j).flatMap pt).length:=by simp[By]
 dsimp only at hj⊢;refine gN ?_;refine aB rfl ?_ ?_<;>intro g3
 ·have hlt:j<l.length:=by simp at g3;omega
  obtain⟨x,hx⟩:=Aa l j hlt
  have hnx:vs++uB l.length++(l.take (j+1)).flatMap pt=vs++uB l.length++(l.take j).flatMap pt++pt x:=by rw[Al,hx,Bo];simp
  refine nY ?_;refine iD fun r8 h8=> ?_;intros;refine fR ?_;refine kV ?_;refine jY ?_;refine qY [(q1,.arr 5 1 ((vs++uB l.length++(l.take j).flatMap pt).map aG))] rfl hf.1 (hf.2 q1 _ x (hok x (Ah hx)) U U).2 rfl aC aA ?_;rintro _ Y' ⟨r22,rfl,rfl⟩ h22;have k22:=aV h22;repeat rcases k22 with⟨_,k22⟩
  refine vR ?_;refine⟨(r22,j+1),hlt,Ab U, ?_⟩;dsimp only;rw[hnx];exact aH
 obtain rfl:j=l.length:=by simp at g3;omega
 refine fC ?_;rw[show vs++uB l.length++(l.take l.length).flatMap pt=vs++bB l pt by rw[Aw,Aq];rfl];exact aD aE ⟨q1,by rfl,rfl⟩ aA
theorem aGK{f:FuncId}{pt:Co->List Nat}{ok:Co->Prop}{c B:Nat}(hf:jB prog 5 f (fun x=>.agg (cQ x)) pt ok c B)(hB:B<=50000000)(l:List Co)(hok:∀x∈l,ok x)(hl:l.length<=1000)(hb:10+l.length*c<=B):
  SCall prog 245 [.ro 0 [] .nil,.ro 2 (l.map cQ) .any,.fn (.func f) [] []] [] (fun y Y=>∃r,y=.own r 0 (bB l pt).length/\Y=[(r,.arr 5 1 ((bB l pt).map aG))]):=
 iR (e:=5) (sz:=1) V fun q _=>aKo hf hB q [] l hok hl (C8 hb)
theorem aKp{f:FuncId}{pt:Da->List Nat}{ok:Da->Prop}{c B:Nat}(hf:jB prog 5 f (fun x=>.agg (dV x)) pt ok c B)(hB:B<=50000000)(q:Nat)(vs:List Nat)(l:List Da)(hok:∀x∈l,ok x)(hl:l.length<=1000)(hb:vs.length+10+l.length*c<=B):
  SCall prog 249 [.own q 0 vs.length,.ro 2 (l.map dV) .any,.fn (.func f) [] []] [(q,.arr 5 1 (vs.map aG))] (fun y Y=>∃r,y=.own r 0 (vs++bB l pt).length/\Y=[(r,.arr 5 1 ((vs++bB l pt).map aG))]):=by
 have hu:=bJ 1 l.length U;have hup:=iP l.length;have hpc:=iB hf U hok;refine bO 25 [0,1,2,6,8,13,14,15,16] func249 ?_;refine mO ?_;refine vP ?_;refine cw [(q,.arr 5 1 (vs.map aG))] call135 (eI q vs U l.length U) rfl aC aA ?_;rintro _ Y' ⟨r12,rfl,rfl⟩ h12;have k12:=aV h12;repeat rcases k12 with⟨_,k12⟩
 refine sO ?_;refine qD ?_;refine lp (β:=Nat×Nat) (fun b=>⟨[(0,.own b.1 0 (vs++uB l.length++(l.take b.2).flatMap pt).length),(2,.fn (.func f) [] []),(13,.ro 2 (l.map dV) .any),(14,.int .i64 l.length),(15,.int .i64 b.2)],[(b.1,.arr 5 1 ((vs++uB l.length++(l.take b.2).flatMap pt).map aG))]⟩) (fun b=>b.2<=l.length) (fun b=>l.length-b.2) (r12,0) (by dsimp only;rw[show vs++uB l.length++(l.take 0).flatMap pt=vs++uB l.length by simp];exact aH) (Am _) ?_;rintro⟨q1,j⟩ hj;have hpj:=hpc j;have hsl:(vs++uB l.length++(l.take j).flatMap pt).length=vs.length+(uB l.length).length+((l.take j).flatMap pt).length:=by simp[By]
 dsimp only at hj⊢;refine gN ?_;refine aB rfl ?_ ?_<;>intro g3
 ·have hlt:j<l.length:=by simp at g3;omega
  obtain⟨x,hx⟩:=Aa l j hlt
  have hnx:vs++uB l.length++(l.take (j+1)).flatMap pt=vs++uB l.length++(l.take j).flatMap pt++pt x:=by rw[Al,hx,Bo];simp
  refine nY ?_;refine iD fun r8 h8=> ?_;intros;refine fR ?_;refine kV ?_;refine jY ?_;refine qY [(q1,.arr 5 1 ((vs++uB l.length++(l.take j).flatMap pt).map aG))] rfl hf.1 (hf.2 q1 _ x (hok x (Ah hx)) U U).2 rfl aC aA ?_;rintro _ Y' ⟨r22,rfl,rfl⟩ h22;have k22:=aV h22;repeat rcases k22 with⟨_,k22⟩
  refine vR ?_;refine⟨(r22,j+1),hlt,Ab U, ?_⟩;dsimp only;rw[hnx];exact aH
 obtain rfl:j=l.length:=by simp at g3;omega
 refine fC ?_;rw[show vs++uB l.length++(l.take l.length).flatMap pt=vs++bB l pt by rw[Aw,Aq];rfl];exact aD aE ⟨q1,by rfl,rfl⟩ aA
theorem aGL{f:FuncId}{pt:Da->List Nat}{ok:Da->Prop}{c B:Nat}(hf:jB prog 5 f (fun x=>.agg (dV x)) pt ok c B)(hB:B<=50000000)(l:List Da)(hok:∀x∈l,ok x)(hl:l.length<=1000)(hb:10+l.length*c<=B):
  SCall prog 249 [.ro 0 [] .nil,.ro 2 (l.map dV) .any,.fn (.func f) [] []] [] (fun y Y=>∃r,y=.own r 0 (bB l pt).length/\Y=[(r,.arr 5 1 ((bB l pt).map aG))]):=
 iR (e:=5) (sz:=1) V fun q _=>aKp hf hB q [] l hok hl (C8 hb)
theorem aKq{f:FuncId}{pt:FT->List Nat}{ok:FT->Prop}{c B:Nat}(hf:jB prog 5 f (fun x=>.agg (cD x)) pt ok c B)(hB:B<=50000000)(q:Nat)(vs:List Nat)(no:Nat)(hno:no<256)(l:List FT)(hok:∀x∈l,ok x)(hl:l.length<=1000)(hvs:vs.length<=10000000)(hb:10+l.length*c<=B):
  SCall prog 129 [.own q 0 vs.length,.int .i64 no,.ro 2 (l.map cD) .any,.fn (.func f) [] []] [(q,.arr 5 1 (vs.map aG))] (fun y Y=>∃r,y=.own r 0 (vs++bF no l pt).length/\Y=[(r,.arr 5 1 ((vs++bF no l pt).map aG))]):=by
 have hu:=bJ 1 l.length U;have hup:=iP l.length;have hpc:=iB hf U hok l.length;rw[Aw]at hpc;have hvl:(bB l pt).length<=50000000:=by unfold bB;simp only[Ao];omega
 have hub:=bJ 4 (bB l pt).length U;refine bO 27 [0,1,2,3,8,9,12] func129 ?_;refine fK ?_;refine wA ?_;refine aB rfl ?_ ?_<;>intro g1
 ·obtain rfl:l=[]:=by cases l with|nil=>rfl|cons x t=>simp at g1;omega
  refine fC ?_;rw[show vs++bF no ([]:List FT) pt=vs by simp[bF]];exact aD aE ⟨q,by rfl,rfl⟩ aA
 have hs:bF no l pt=[no]++uB (bB l pt).length++bB l pt:=by unfold bF;rw[Db (by intro e;rw[List.isEmpty_iff.1 e]at g1;simp at g1)];simp
 rw[hs];refine cJ ?_;refine cw [] call237 (aGD hf hB l hok hl hb) rfl aC aA ?_;rintro _ Y' ⟨r16,rfl,rfl⟩ h16
 replace h16:=gE h16;repeat rcases h16 with⟨_,h16⟩
 refine fF ?_;generalize bB l pt=P at hvl hub⊢;refine kV ?_;refine z0 ?_;refine eN fun r20 h20=> ?_;intros;refine kD ((vs++ [no]).map aG) (vs++ [no]).length ?_;refine bG fun r21 h21=> ?_;intros;refine xO ?_;refine cw [(r21,.arr 5 1 ((vs++ [no]).map aG))] call135 (eI r21 (vs++ [no]) Af P.length U) rfl aC aA ?_;rintro _ Y' ⟨r24,rfl,rfl⟩ h24;have k24:=aV h24;repeat rcases k24 with⟨_,k24⟩
 refine AX ?_;refine kD ((vs++ [no]++uB P.length++P).map aG) (vs++ [no]++uB P.length++P).length ?_;refine bG fun r26 h26=> ?_;intros;refine cN ?_;rw[show vs++ [no]++uB P.length++P=vs++([no]++uB P.length++P) by simp];exact aD aE ⟨r26,by rfl,rfl⟩ aA
theorem aGM{f:FuncId}{pt:Int->List Nat}{ok:Int->Prop}{c B:Nat}(hf:jB prog 5 f (fun n=>.int .i64 n) pt ok c B)(hB:B<=50000000)(q:Nat)(vs:List Nat)(no:Nat)(hno:no<256)(l:List Int)(hok:∀x∈l,ok x)(hl:l.length<=1000)(hvs:vs.length<=10000000)(hb:10+l.length*c<=B):
  SCall prog 137 [.own q 0 vs.length,.int .i64 no,.ro 1 (l.map aK) .any,.fn (.func f) [] []] [(q,.arr 5 1 (vs.map aG))] (fun y Y=>∃r,y=.own r 0 (vs++bF no l pt).length/\Y=[(r,.arr 5 1 ((vs++bF no l pt).map aG))]):=by
 have hu:=bJ 1 l.length U;have hup:=iP l.length;have hpc:=iB hf U hok l.length;rw[Aw]at hpc;have hvl:(bB l pt).length<=50000000:=by unfold bB;simp only[Ao];omega
 have hub:=bJ 4 (bB l pt).length U;refine bO 27 [0,1,2,3,8,9,12] func137 ?_;refine fK ?_;refine wA ?_;refine aB rfl ?_ ?_<;>intro g1
 ·obtain rfl:l=[]:=by cases l with|nil=>rfl|cons x t=>simp at g1;omega
  refine fC ?_;rw[show vs++bF no ([]:List Int) pt=vs by simp[bF]];exact aD aE ⟨q,by rfl,rfl⟩ aA
 have hs:bF no l pt=[no]++uB (bB l pt).length++bB l pt:=by unfold bF;rw[Db (by intro e;rw[List.isEmpty_iff.1 e]at g1;simp at g1)];simp
 rw[hs];refine cJ ?_;refine cw [] call131 (aDS hf hB l hok hl hb) rfl aC aA ?_;rintro _ Y' ⟨r16,rfl,rfl⟩ h16
 replace h16:=gE h16;repeat rcases h16 with⟨_,h16⟩
 refine fF ?_;generalize bB l pt=P at hvl hub⊢;refine kV ?_;refine z0 ?_;refine eN fun r20 h20=> ?_;intros;refine kD ((vs++ [no]).map aG) (vs++ [no]).length ?_;refine bG fun r21 h21=> ?_;intros;refine xO ?_;refine cw [(r21,.arr 5 1 ((vs++ [no]).map aG))] call135 (eI r21 (vs++ [no]) Af P.length U) rfl aC aA ?_;rintro _ Y' ⟨r24,rfl,rfl⟩ h24;have k24:=aV h24;repeat rcases k24 with⟨_,k24⟩
 refine AX ?_;refine kD ((vs++ [no]++uB P.length++P).map aG) (vs++ [no]++uB P.length++P).length ?_;refine bG fun r26 h26=> ?_;intros;refine cN ?_;rw[show vs++ [no]++uB P.length++P=vs++([no]++uB P.length++P) by simp];exact aD aE ⟨r26,by rfl,rfl⟩ aA
theorem aKr{f:FuncId}{pt:Im->List Nat}{ok:Im->Prop}{c B:Nat}(hf:jB prog 5 f (fun x=>.agg (eE x)) pt ok c B)(hB:B<=50000000)(q:Nat)(vs:List Nat)(no:Nat)(hno:no<256)(l:List Im)(hok:∀x∈l,ok x)(hl:l.length<=1000)(hvs:vs.length<=10000000)(hb:10+l.length*c<=B):
  SCall prog 133 [.own q 0 vs.length,.int .i64 no,.ro 3 (l.map eE) .any,.fn (.func f) [] []] [(q,.arr 5 1 (vs.map aG))] (fun y Y=>∃r,y=.own r 0 (vs++bF no l pt).length/\Y=[(r,.arr 5 1 ((vs++bF no l pt).map aG))]):=by
 have hu:=bJ 1 l.length U;have hup:=iP l.length;have hpc:=iB hf U hok l.length;rw[Aw]at hpc;have hvl:(bB l pt).length<=50000000:=by unfold bB;simp only[Ao];omega
 have hub:=bJ 4 (bB l pt).length U;refine bO 27 [0,1,2,3,8,9,12] func133 ?_;refine fK ?_;refine wA ?_;refine aB rfl ?_ ?_<;>intro g1
 ·obtain rfl:l=[]:=by cases l with|nil=>rfl|cons x t=>simp at g1;omega
  refine fC ?_;rw[show vs++bF no ([]:List Im) pt=vs by simp[bF]];exact aD aE ⟨q,by rfl,rfl⟩ aA
 have hs:bF no l pt=[no]++uB (bB l pt).length++bB l pt:=by unfold bF;rw[Db (by intro e;rw[List.isEmpty_iff.1 e]at g1;simp at g1)];simp
 rw[hs];refine cJ ?_;refine cw [] call238 (aGF hf hB l hok hl hb) rfl aC aA ?_;rintro _ Y' ⟨r16,rfl,rfl⟩ h16
 replace h16:=gE h16;repeat rcases h16 with⟨_,h16⟩
 refine fF ?_;generalize bB l pt=P at hvl hub⊢;refine kV ?_;refine z0 ?_;refine eN fun r20 h20=> ?_;intros;refine kD ((vs++ [no]).map aG) (vs++ [no]).length ?_;refine bG fun r21 h21=> ?_;intros;refine xO ?_;refine cw [(r21,.arr 5 1 ((vs++ [no]).map aG))] call135 (eI r21 (vs++ [no]) Af P.length U) rfl aC aA ?_;rintro _ Y' ⟨r24,rfl,rfl⟩ h24;have k24:=aV h24;repeat rcases k24 with⟨_,k24⟩
 refine AX ?_;refine kD ((vs++ [no]++uB P.length++P).map aG) (vs++ [no]++uB P.length++P).length ?_;refine bG fun r26 h26=> ?_;intros;refine cN ?_;rw[show vs++ [no]++uB P.length++P=vs++([no]++uB P.length++P) by simp];exact aD aE ⟨r26,by rfl,rfl⟩ aA
theorem aDT{f:FuncId}{pt:Li->List Nat}{ok:Li->Prop}{c B:Nat}(hf:jB prog 5 f (fun x=>.agg (eO x)) pt ok c B)(hB:B<=50000000)(q:Nat)(vs:List Nat)(no:Nat)(hno:no<256)(l:List Li)(hok:∀x∈l,ok x)(hl:l.length<=1000)(hvs:vs.length<=10000000)(hb:10+l.length*c<=B):
  SCall prog 138 [.own q 0 vs.length,.int .i64 no,.ro 3 (l.map eO) .any,.fn (.func f) [] []] [(q,.arr 5 1 (vs.map aG))] (fun y Y=>∃r,y=.own r 0 (vs++bF no l pt).length/\Y=[(r,.arr 5 1 ((vs++bF no l pt).map aG))]):=by
 have hu:=bJ 1 l.length U;have hup:=iP l.length;have hpc:=iB hf U hok l.length;rw[Aw]at hpc;have hvl:(bB l pt).length<=50000000:=by unfold bB;simp only[Ao];omega
 have hub:=bJ 4 (bB l pt).length U;refine bO 27 [0,1,2,3,8,9,12] func138 ?_;refine fK ?_;refine wA ?_;refine aB rfl ?_ ?_<;>intro g1
 ·obtain rfl:l=[]:=by cases l with|nil=>rfl|cons x t=>simp at g1;omega
  refine fC ?_;rw[show vs++bF no ([]:List Li) pt=vs by simp[bF]];exact aD aE ⟨q,by rfl,rfl⟩ aA
 have hs:bF no l pt=[no]++uB (bB l pt).length++bB l pt:=by unfold bF;rw[Db (by intro e;rw[List.isEmpty_iff.1 e]at g1;simp at g1)];simp
 rw[hs];refine cJ ?_;refine cw [] call240 (aGG hf hB l hok hl hb) rfl aC aA ?_;rintro _ Y' ⟨r16,rfl,rfl⟩ h16
 replace h16:=gE h16;repeat rcases h16 with⟨_,h16⟩
 refine fF ?_;generalize bB l pt=P at hvl hub⊢;refine kV ?_;refine z0 ?_;refine eN fun r20 h20=> ?_;intros;refine kD ((vs++ [no]).map aG) (vs++ [no]).length ?_;refine bG fun r21 h21=> ?_;intros;refine xO ?_;refine cw [(r21,.arr 5 1 ((vs++ [no]).map aG))] call135 (eI r21 (vs++ [no]) Af P.length U) rfl aC aA ?_;rintro _ Y' ⟨r24,rfl,rfl⟩ h24;have k24:=aV h24;repeat rcases k24 with⟨_,k24⟩
 refine AX ?_;refine kD ((vs++ [no]++uB P.length++P).map aG) (vs++ [no]++uB P.length++P).length ?_;refine bG fun r26 h26=> ?_;intros;refine cN ?_;rw[show vs++ [no]++uB P.length++P=vs++([no]++uB P.length++P) by simp];exact aD aE ⟨r26,by rfl,rfl⟩ aA
theorem aKs{f:FuncId}{pt:Gl->List Nat}{ok:Gl->Prop}{c B:Nat}(hf:jB prog 5 f (fun x=>.agg (dX x)) pt ok c B)(hB:B<=50000000)(q:Nat)(vs:List Nat)(no:Nat)(hno:no<256)(l:List Gl)(hok:∀x∈l,ok x)(hl:l.length<=1000)(hvs:vs.length<=10000000)(hb:10+l.length*c<=B):
  SCall prog 142 [.own q 0 vs.length,.int .i64 no,.ro 3 (l.map dX) .any,.fn (.func f) [] []] [(q,.arr 5 1 (vs.map aG))] (fun y Y=>∃r,y=.own r 0 (vs++bF no l pt).length/\Y=[(r,.arr 5 1 ((vs++bF no l pt).map aG))]):=by
 have hu:=bJ 1 l.length U;have hup:=iP l.length;have hpc:=iB hf U hok l.length;rw[Aw]at hpc;have hvl:(bB l pt).length<=50000000:=by unfold bB;simp only[Ao];omega
 have hub:=bJ 4 (bB l pt).length U;refine bO 27 [0,1,2,3,8,9,12] func142 ?_;refine fK ?_;refine wA ?_;refine aB rfl ?_ ?_<;>intro g1
 ·obtain rfl:l=[]:=by cases l with|nil=>rfl|cons x t=>simp at g1;omega
  refine fC ?_;rw[show vs++bF no ([]:List Gl) pt=vs by simp[bF]];exact aD aE ⟨q,by rfl,rfl⟩ aA
 have hs:bF no l pt=[no]++uB (bB l pt).length++bB l pt:=by unfold bF;rw[Db (by intro e;rw[List.isEmpty_iff.1 e]at g1;simp at g1)];simp
 rw[hs];refine cJ ?_;refine cw [] call241 (aGH hf hB l hok hl hb) rfl aC aA ?_;rintro _ Y' ⟨r16,rfl,rfl⟩ h16
 replace h16:=gE h16;repeat rcases h16 with⟨_,h16⟩
 refine fF ?_;generalize bB l pt=P at hvl hub⊢;refine kV ?_;refine z0 ?_;refine eN fun r20 h20=> ?_;intros;refine kD ((vs++ [no]).map aG) (vs++ [no]).length ?_;refine bG fun r21 h21=> ?_;intros;refine xO ?_;refine cw [(r21,.arr 5 1 ((vs++ [no]).map aG))] call135 (eI r21 (vs++ [no]) Af P.length U) rfl aC aA ?_;rintro _ Y' ⟨r24,rfl,rfl⟩ h24;have k24:=aV h24;repeat rcases k24 with⟨_,k24⟩
 refine AX ?_;refine kD ((vs++ [no]++uB P.length++P).map aG) (vs++ [no]++uB P.length++P).length ?_;refine bG fun r26 h26=> ?_;intros;refine cN ?_;rw[show vs++ [no]++uB P.length++P=vs++([no]++uB P.length++P) by simp];exact aD aE ⟨r26,by rfl,rfl⟩ aA
theorem aKt{f:FuncId}{pt:Ex->List Nat}{ok:Ex->Prop}{c B:Nat}(hf:jB prog 5 f (fun x=>.agg (dD x)) pt ok c B)(hB:B<=50000000)(q:Nat)(vs:List Nat)(no:Nat)(hno:no<256)(l:List Ex)(hok:∀x∈l,ok x)(hl:l.length<=1000)(hvs:vs.length<=10000000)(hb:10+l.length*c<=B):
  SCall prog 145 [.own q 0 vs.length,.int .i64 no,.ro 2 (l.map dD) .any,.fn (.func f) [] []] [(q,.arr 5 1 (vs.map aG))] (fun y Y=>∃r,y=.own r 0 (vs++bF no l pt).length/\Y=[(r,.arr 5 1 ((vs++bF no l pt).map aG))]):=by
 have hu:=bJ 1 l.length U;have hup:=iP l.length;have hpc:=iB hf U hok l.length;rw[Aw]at hpc;have hvl:(bB l pt).length<=50000000:=by unfold bB;simp only[Ao];omega
 have hub:=bJ 4 (bB l pt).length U;refine bO 27 [0,1,2,3,8,9,12] func145 ?_;refine fK ?_;refine wA ?_;refine aB rfl ?_ ?_<;>intro g1
 ·obtain rfl:l=[]:=by cases l with|nil=>rfl|cons x t=>simp at g1;omega
  refine fC ?_;rw[show vs++bF no ([]:List Ex) pt=vs by simp[bF]];exact aD aE ⟨q,by rfl,rfl⟩ aA
 have hs:bF no l pt=[no]++uB (bB l pt).length++bB l pt:=by unfold bF;rw[Db (by intro e;rw[List.isEmpty_iff.1 e]at g1;simp at g1)];simp
 rw[hs];refine cJ ?_;refine cw [] call243 (aGI hf hB l hok hl hb) rfl aC aA ?_;rintro _ Y' ⟨r16,rfl,rfl⟩ h16
 replace h16:=gE h16;repeat rcases h16 with⟨_,h16⟩
 refine fF ?_;generalize bB l pt=P at hvl hub⊢;refine kV ?_;refine z0 ?_;refine eN fun r20 h20=> ?_;intros;refine kD ((vs++ [no]).map aG) (vs++ [no]).length ?_;refine bG fun r21 h21=> ?_;intros;refine xO ?_;refine cw [(r21,.arr 5 1 ((vs++ [no]).map aG))] call135 (eI r21 (vs++ [no]) Af P.length U) rfl aC aA ?_;rintro _ Y' ⟨r24,rfl,rfl⟩ h24;have k24:=aV h24;repeat rcases k24 with⟨_,k24⟩
 refine AX ?_;refine kD ((vs++ [no]++uB P.length++P).map aG) (vs++ [no]++uB P.length++P).length ?_;refine bG fun r26 h26=> ?_;intros;refine cN ?_;rw[show vs++ [no]++uB P.length++P=vs++([no]++uB P.length++P) by simp];exact aD aE ⟨r26,by rfl,rfl⟩ aA
theorem aKu{f:FuncId}{pt:El->List Nat}{ok:El->Prop}{c B:Nat}(hf:jB prog 5 f (fun x=>.agg (dP x)) pt ok c B)(hB:B<=50000000)(q:Nat)(vs:List Nat)(no:Nat)(hno:no<256)(l:List El)(hok:∀x∈l,ok x)(hl:l.length<=1000)(hvs:vs.length<=10000000)(hb:10+l.length*c<=B):
  SCall prog 147 [.own q 0 vs.length,.int .i64 no,.ro 2 (l.map dP) .any,.fn (.func f) [] []] [(q,.arr 5 1 (vs.map aG))] (fun y Y=>∃r,y=.own r 0 (vs++bF no l pt).length/\Y=[(r,.arr 5 1 ((vs++bF no l pt).map aG))]):=by
 have hu:=bJ 1 l.length U;have hup:=iP l.length;have hpc:=iB hf U hok l.length;rw[Aw]at hpc;have hvl:(bB l pt).length<=50000000:=by unfold bB;simp only[Ao];omega
 have hub:=bJ 4 (bB l pt).length U;refine bO 27 [0,1,2,3,8,9,12] func147 ?_;refine fK ?_;refine wA ?_;refine aB rfl ?_ ?_<;>intro g1
 ·obtain rfl:l=[]:=by cases l with|nil=>rfl|cons x t=>simp at g1;omega
  refine fC ?_;rw[show vs++bF no ([]:List El) pt=vs by simp[bF]];exact aD aE ⟨q,by rfl,rfl⟩ aA
 have hs:bF no l pt=[no]++uB (bB l pt).length++bB l pt:=by unfold bF;rw[Db (by intro e;rw[List.isEmpty_iff.1 e]at g1;simp at g1)];simp
 rw[hs];refine cJ ?_;refine cw [] call244 (aGJ hf hB l hok hl hb) rfl aC aA ?_;rintro _ Y' ⟨r16,rfl,rfl⟩ h16
 replace h16:=gE h16;repeat rcases h16 with⟨_,h16⟩
 refine fF ?_;generalize bB l pt=P at hvl hub⊢;refine kV ?_;refine z0 ?_;refine eN fun r20 h20=> ?_;intros;refine kD ((vs++ [no]).map aG) (vs++ [no]).length ?_;refine bG fun r21 h21=> ?_;intros;refine xO ?_;refine cw [(r21,.arr 5 1 ((vs++ [no]).map aG))] call135 (eI r21 (vs++ [no]) Af P.length U) rfl aC aA ?_;rintro _ Y' ⟨r24,rfl,rfl⟩ h24;have k24:=aV h24;repeat rcases k24 with⟨_,k24⟩
 refine AX ?_;refine kD ((vs++ [no]++uB P.length++P).map aG) (vs++ [no]++uB P.length++P).length ?_;refine bG fun r26 h26=> ?_;intros;refine cN ?_;rw[show vs++ [no]++uB P.length++P=vs++([no]++uB P.length++P) by simp];exact aD aE ⟨r26,by rfl,rfl⟩ aA
theorem aKv{f:FuncId}{pt:Co->List Nat}{ok:Co->Prop}{c B:Nat}(hf:jB prog 5 f (fun x=>.agg (cQ x)) pt ok c B)(hB:B<=50000000)(q:Nat)(vs:List Nat)(no:Nat)(hno:no<256)(l:List Co)(hok:∀x∈l,ok x)(hl:l.length<=1000)(hvs:vs.length<=10000000)(hb:10+l.length*c<=B):
  SCall prog 150 [.own q 0 vs.length,.int .i64 no,.ro 2 (l.map cQ) .any,.fn (.func f) [] []] [(q,.arr 5 1 (vs.map aG))] (fun y Y=>∃r,y=.own r 0 (vs++bF no l pt).length/\Y=[(r,.arr 5 1 ((vs++bF no l pt).map aG))]):=by
 have hu:=bJ 1 l.length U;have hup:=iP l.length;have hpc:=iB hf U hok l.length;rw[Aw]at hpc;have hvl:(bB l pt).length<=50000000:=by unfold bB;simp only[Ao];omega
 have hub:=bJ 4 (bB l pt).length U;refine bO 27 [0,1,2,3,8,9,12] func150 ?_;refine fK ?_;refine wA ?_;refine aB rfl ?_ ?_<;>intro g1
 ·obtain rfl:l=[]:=by cases l with|nil=>rfl|cons x t=>simp at g1;omega
  refine fC ?_;rw[show vs++bF no ([]:List Co) pt=vs by simp[bF]];exact aD aE ⟨q,by rfl,rfl⟩ aA
 have hs:bF no l pt=[no]++uB (bB l pt).length++bB l pt:=by unfold bF;rw[Db (by intro e;rw[List.isEmpty_iff.1 e]at g1;simp at g1)];simp
 rw[hs];refine cJ ?_;refine cw [] call245 (aGK hf hB l hok hl hb) rfl aC aA ?_;rintro _ Y' ⟨r16,rfl,rfl⟩ h16
 replace h16:=gE h16;repeat rcases h16 with⟨_,h16⟩
 refine fF ?_;generalize bB l pt=P at hvl hub⊢;refine kV ?_;refine z0 ?_;refine eN fun r20 h20=> ?_;intros;refine kD ((vs++ [no]).map aG) (vs++ [no]).length ?_;refine bG fun r21 h21=> ?_;intros;refine xO ?_;refine cw [(r21,.arr 5 1 ((vs++ [no]).map aG))] call135 (eI r21 (vs++ [no]) Af P.length U) rfl aC aA ?_;rintro _ Y' ⟨r24,rfl,rfl⟩ h24;have k24:=aV h24;repeat rcases k24 with⟨_,k24⟩
 refine AX ?_;refine kD ((vs++ [no]++uB P.length++P).map aG) (vs++ [no]++uB P.length++P).length ?_;refine bG fun r26 h26=> ?_;intros;refine cN ?_;rw[show vs++ [no]++uB P.length++P=vs++([no]++uB P.length++P) by simp];exact aD aE ⟨r26,by rfl,rfl⟩ aA
theorem aKw{f:FuncId}{pt:Da->List Nat}{ok:Da->Prop}{c B:Nat}(hf:jB prog 5 f (fun x=>.agg (dV x)) pt ok c B)(hB:B<=50000000)(q:Nat)(vs:List Nat)(no:Nat)(hno:no<256)(l:List Da)(hok:∀x∈l,ok x)(hl:l.length<=1000)(hvs:vs.length<=10000000)(hb:10+l.length*c<=B):
  SCall prog 152 [.own q 0 vs.length,.int .i64 no,.ro 2 (l.map dV) .any,.fn (.func f) [] []] [(q,.arr 5 1 (vs.map aG))] (fun y Y=>∃r,y=.own r 0 (vs++bF no l pt).length/\Y=[(r,.arr 5 1 ((vs++bF no l pt).map aG))]):=by
 have hu:=bJ 1 l.length U;have hup:=iP l.length;have hpc:=iB hf U hok l.length;rw[Aw]at hpc;have hvl:(bB l pt).length<=50000000:=by unfold bB;simp only[Ao];omega
 have hub:=bJ 4 (bB l pt).length U;refine bO 27 [0,1,2,3,8,9,12] func152 ?_;refine fK ?_;refine wA ?_;refine aB rfl ?_ ?_<;>intro g1
 ·obtain rfl:l=[]:=by cases l with|nil=>rfl|cons x t=>simp at g1;omega
  refine fC ?_;rw[show vs++bF no ([]:List Da) pt=vs by simp[bF]];exact aD aE ⟨q,by rfl,rfl⟩ aA
 have hs:bF no l pt=[no]++uB (bB l pt).length++bB l pt:=by unfold bF;rw[Db (by intro e;rw[List.isEmpty_iff.1 e]at g1;simp at g1)];simp
 rw[hs];refine cJ ?_;refine cw [] call249 (aGL hf hB l hok hl hb) rfl aC aA ?_;rintro _ Y' ⟨r16,rfl,rfl⟩ h16
 replace h16:=gE h16;repeat rcases h16 with⟨_,h16⟩
 refine fF ?_;generalize bB l pt=P at hvl hub⊢;refine kV ?_;refine z0 ?_;refine eN fun r20 h20=> ?_;intros;refine kD ((vs++ [no]).map aG) (vs++ [no]).length ?_;refine bG fun r21 h21=> ?_;intros;refine xO ?_;refine cw [(r21,.arr 5 1 ((vs++ [no]).map aG))] call135 (eI r21 (vs++ [no]) Af P.length U) rfl aC aA ?_;rintro _ Y' ⟨r24,rfl,rfl⟩ h24;have k24:=aV h24;repeat rcases k24 with⟨_,k24⟩
 refine AX ?_;refine kD ((vs++ [no]++uB P.length++P).map aG) (vs++ [no]++uB P.length++P).length ?_;refine bG fun r26 h26=> ?_;intros;refine cN ?_;rw[show vs++ [no]++uB P.length++P=vs++([no]++uB P.length++P) by simp];exact aD aE ⟨r26,by rfl,rfl⟩ aA
attribute [local irreducible] SW RS RD fE eA
theorem kZ{α:Type}{pt:α->List Nat}{l:List α}{c:Nat}(h:∀x∈l,(pt x).length<=c)(hl:l.length<=1000):(bB l pt).length<=2+l.length*c:=by
 have hu:=bJ 1 l.length U;have h1:∀(l:List α),(∀x∈l,(pt x).length<=c)->(l.flatMap pt).length<=l.length*c:=by
  intro l
  induction l with
  |nil=>simp
  |cons x l ih=>
   intro h;have:=ih fun y hy=>h y (An _ hy)
   have hx:=h x Au;rw[List.flatMap_cons,Ao,Bj,Nat.add_mul];omega
 have:=h1 l h;unfold bB;rw[Ao];omega
theorem oX(k:Int):(kB k).length=1:=by unfold kB;split<;>rfl
theorem PY{n:Int}(h:gU n=true):(cC n).length<=2:=by
 have:0<=n/\n<=1000:=by
  unfold gU at h;by_cases h0:0<=n
  ·rw[Dc (C8 h0)]at h;exact⟨h0,C8 h⟩
  ·rw[Db (C8 h0)]at h;cases h
 exact bJ 1 _ U
theorem NC:jB prog 5 132 (fun k:Int=>.int .i64 k) kB (fun _=>True) 1 20000000:=
 ⟨call132,fun q vs x _ _ hvs=>⟨Nat.le_of_eq (oX x),vE q vs U x⟩⟩
theorem qW(q:Nat)(vs:List Nat)(hvs:vs.length<=50000000)(n:Int)(h0:0<=n)(h1:n<9223372036854775808):SCall prog 135 [.own q 0 vs.length,.int .i64 n] [(q,.arr 5 1 (vs.map aG))]
  (fun y Y=>∃r,y=.own r 0 (vs++cC n).length/\Y=[(r,.arr 5 1 ((vs++cC n).map aG))]):=by
 obtain⟨m,rfl⟩:=Bh h0;exact eI q vs hvs m U
theorem wH{n:Int}(h:gU n=true):0<=n/\n<=1000:=by
 unfold gU at h;by_cases h0:0<=n
 ·rw[Dc (C8 h0)]at h;exact⟨h0,C8 h⟩
 ·rw[Db (C8 h0)]at h;cases h
theorem JD:jB prog 5 135 (fun n:Int=>.int .i64 n) cC (fun n=>gU n=true) 2 20000000:=
 ⟨call135,fun q vs n h _ hvs=>⟨PY h,qW q vs U n (wH h).1 (by have:=(wH h).2;omega)⟩⟩
theorem aO0(q:Nat)(vs:List Nat)(hvs:vs.length<=10000000)(pr rs:List Int)(h1:pr.length<=32)(h2:rs.length<=1):SCall prog 130 [.own q 0 vs.length,.agg (cD ⟨pr,rs⟩)] [(q,.arr 5 1 (vs.map aG))]
  (fun y Y=>∃r,y=.own r 0 (vs++yD ⟨pr,rs⟩).length/\Y=[(r,.arr 5 1 ((vs++yD ⟨pr,rs⟩).map aG))]):=by
 have l1:=kZ (pt:=kB) (l:=pr) (c:=1) (fun x _=>Nat.le_of_eq (oX x)) U;refine bO 14 [0,1,3,4] func130 ?_;unfold cD;refine dB ?_;refine fZ fun r3 h3=> ?_;intros;refine cN ?_;refine eK (Ac [0,3,4,6,7] (Ad 1 (Ad 2 (Ad 5 (Ad 8 (Ac [9] [])))))) ?_;refine GL ?_;refine eQ ?_;refine CH fun r6 h6=> ?_;intros;refine eW rfl ((vs++ [96]).map aG) (vs++ [96]).length ?_;refine bG fun r7 h7=> ?_;intros;refine pB [(r7,.arr 5 1 ((vs++ [96]).map aG))] rfl call131 (HI NC V r7 (vs++ [96]) pr (fun _ _=>trivial) U Af) rfl aC aA eC ?_;rintro _ Y' ⟨r10,rfl,rfl⟩ h10;have k10:=aV h10;repeat rcases k10 with⟨_,k10⟩
 apply bC;exact aU;refine pB [(r10,.arr 5 1 ((vs++ [96]++bB pr kB).map aG))] rfl call131 (HI NC V r10 (vs++ [96]++bB pr kB) rs (fun _ _=>trivial) U Af) rfl aC aA eC ?_;rintro _ Y' ⟨r13,rfl,rfl⟩ h13;have k13:=aV h13;repeat rcases k13 with⟨_,k13⟩
 refine vQ ?_;rw[show vs++ [96]++bB pr kB++bB rs kB=vs++yD ⟨pr,rs⟩ by unfold yD;simp];exact aD aE ⟨r13,by rfl,rfl⟩ aA
theorem aAJ:jB prog 5 130 (fun x=>.agg (cD x)) yD (fun t=>(cI t.pr 32 CR&&cI t.rs 1 CR)=true) 100 10000000:=
 ⟨call130,fun q vs x h _ hvs=>by
  obtain⟨pr,rs⟩:=x;have h1:pr.length<=32:=by simp[cI]at h;omega
  have h2:rs.length<=1:=by simp[cI]at h;omega
  have l1:=kZ (pt:=kB) (l:=pr) (c:=1) (fun x _=>Nat.le_of_eq (oX x)) U;have l2:=kZ (pt:=kB) (l:=rs) (c:=1) (fun x _=>Nat.le_of_eq (oX x)) U;exact⟨by unfold yD;simp;omega,aO0 q vs hvs pr rs h1 h2⟩⟩
theorem lW{s:List Nat}(h:wG s=true):s.length<=16/\(∀c∈s,c<256)/\(bM s).length<=18:=by
 unfold wG at h;split at h
 ·simp only[Ap,decide_eq_true_eq,Bw]at h;refine⟨h.1,fun c hc=>by have:=(h.2 c hc).2;omega, ?_⟩;have:=bJ 1 s.length U;unfold bM;rw[Ao];omega
 ·cases h
theorem aO1(q:Nat)(vs:List Nat)(hp:0<vs.length)(hvs:vs.length<=10000000)(md nm:List Nat)(ty:Int)(m1:wG md=true)(m2:wG nm=true)(m3:gU ty=true):SCall prog 134 [.own q 0 vs.length,.agg (eE ⟨md,nm,ty⟩)] [(q,.arr 5 1 (vs.map aG))]
  (fun y Y=>∃r,y=.own r 0 (vs++jI ⟨md,nm,ty⟩).length/\Y=[(r,.arr 5 1 ((vs++jI ⟨md,nm,ty⟩).map aG))]):=by
 obtain⟨a1,a2,a3⟩:=lW m1;obtain⟨b1,b2,b3⟩:=lW m2;refine bO 17 [0,1,3,4] func134 ?_;unfold eE;refine dB ?_;refine fZ fun r3 h3=> ?_;intros;refine cN ?_;refine eK (Ac [0,1,2,4,5,9,10] (Ad 13 (Ad 13 (Ad 13 (Ad 13 (Ad 13 (Ad 13 []))))))) ?_;refine GL ?_;refine eQ ?_;refine eQ ?_;refine gY 3 7 [(13,false),(13,false),(13,false),(13,false),(13,false)] [(3,false),(6,false),(8,false),(11,false),(12,true)] (f1:=[q]) (f2:=[]) (by kernel_rfl) rfl rfl ?_ ?_ (.inr ⟨X,eC⟩) (.inl rfl)
 ·refine rH (Y1:=[(q,.arr 5 1 (vs.map aG))]) call136 (oW q vs hp U md U a2) (cL rfl) aC aA ?_;rintro _ Y' ⟨r8,rfl,rfl⟩ h8;have k8:=aV h8;repeat rcases k8 with⟨_,k8⟩
  apply bC;exact aU;refine gY 6 7 [(7,false),(8,false),(11,false),(12,true)] [(6,false),(8,false),(11,false),(12,true)] (f1:=[r8]) (f2:=[]) (by kernel_rfl) rfl rfl ?_ ?_ (.inr ⟨X,eC⟩) (.inl rfl)
  ·refine rH (Y1:=[(r8,.arr 5 1 ((vs++bM md).map aG))]) call136 (oW r8 (vs++bM md) Af Af nm U b2) (cL rfl) aC aA ?_;rintro _ Y' ⟨r11,rfl,rfl⟩ h11;have k11:=aV h11;repeat rcases k11 with⟨_,k11⟩
   apply bC;exact aU;refine CH fun r12 h12=> ?_;intros;refine eW rfl ((vs++bM md++bM nm++ [0]).map aG) (vs++bM md++bM nm++ [0]).length ?_;refine bG fun r13 h13=> ?_;intros;refine pB [(r13,.arr 5 1 ((vs++bM md++bM nm++ [0]).map aG))] rfl call135 (qW r13 (vs++bM md++bM nm++ [0]) Af ty (wH m3).1 (by have:=(wH m3).2;omega)) rfl aC aA eC ?_;rintro _ Y' ⟨r16,rfl,rfl⟩ h16;have k16:=aV h16;repeat rcases k16 with⟨_,k16⟩
   refine vQ ?_;rw[show vs++bM md++bM nm++ [0]++cC ty=vs++jI ⟨md,nm,ty⟩ by unfold jI;simp];exact aD aE ⟨r16,by rfl,rfl⟩ aA
  ·apply AJ;infer_instance;infer_instance;exact tM;rfl;rfl;rfl;rfl;exact rK;rfl;refine bD fun r12 h12=> ?_;repeat rcases h12 with⟨_,h12⟩
   refine pB [(r8,.arr 5 1 ((vs++bM md).map aG))] rfl call136 (oW r8 (vs++bM md) Af Af nm U b2) rfl aC aA eC ?_;rintro _ Y' ⟨r11,rfl,rfl⟩ h11;have k11:=aV h11;repeat rcases k11 with⟨_,k11⟩
   apply bC;exact aU;refine eW rfl ((vs++bM md++bM nm++ [0]).map aG) (vs++bM md++bM nm++ [0]).length ?_;refine bG fun r13 h13=> ?_;intros;refine pB [(r13,.arr 5 1 ((vs++bM md++bM nm++ [0]).map aG))] rfl call135 (qW r13 (vs++bM md++bM nm++ [0]) Af ty (wH m3).1 (by have:=(wH m3).2;omega)) rfl aC aA eC ?_;rintro _ Y' ⟨r16,rfl,rfl⟩ h16;have k16:=aV h16;repeat rcases k16 with⟨_,k16⟩
   refine vQ ?_;rw[show vs++bM md++bM nm++ [0]++cC ty=vs++jI ⟨md,nm,ty⟩ by unfold jI;simp];exact aD aE ⟨r16,by rfl,rfl⟩ aA
 ·apply AJ;infer_instance;infer_instance;exact tM;rfl;rfl;rfl;rfl;exact rK;rfl;refine bD fun r12 h12=> ?_;repeat rcases h12 with⟨_,h12⟩
  refine pB [(q,.arr 5 1 (vs.map aG))] rfl call136 (oW q vs hp U md U a2) rfl aC aA eC ?_;rintro _ Y' ⟨r8,rfl,rfl⟩ h8;have k8:=aV h8;repeat rcases k8 with⟨_,k8⟩
  apply bC;exact aU;refine pB [(r8,.arr 5 1 ((vs++bM md).map aG))] rfl call136 (oW r8 (vs++bM md) Af Af nm U b2) rfl aC aA eC ?_;rintro _ Y' ⟨r11,rfl,rfl⟩ h11;have k11:=aV h11;repeat rcases k11 with⟨_,k11⟩
  apply bC;exact aU;refine eW rfl ((vs++bM md++bM nm++ [0]).map aG) (vs++bM md++bM nm++ [0]).length ?_;refine bG fun r13 h13=> ?_;intros;refine pB [(r13,.arr 5 1 ((vs++bM md++bM nm++ [0]).map aG))] rfl call135 (qW r13 (vs++bM md++bM nm++ [0]) Af ty (wH m3).1 (by have:=(wH m3).2;omega)) rfl aC aA eC ?_;rintro _ Y' ⟨r16,rfl,rfl⟩ h16;have k16:=aV h16;repeat rcases k16 with⟨_,k16⟩
  refine vQ ?_;rw[show vs++bM md++bM nm++ [0]++cC ty=vs++jI ⟨md,nm,ty⟩ by unfold jI;simp];exact aD aE ⟨r16,by rfl,rfl⟩ aA
theorem aO2(q:Nat)(vs:List Nat)(hp:0<vs.length)(hvs:vs.length<=10000000)(nm:List Nat)(fn:Int)(m2:wG nm=true)(m3:gU fn=true):SCall prog 146 [.own q 0 vs.length,.agg (dD ⟨nm,fn⟩)] [(q,.arr 5 1 (vs.map aG))]
  (fun y Y=>∃r,y=.own r 0 (vs++oK ⟨nm,fn⟩).length/\Y=[(r,.arr 5 1 ((vs++oK ⟨nm,fn⟩).map aG))]):=by
 obtain⟨b1,b2,b3⟩:=lW m2;refine bO 14 [0,1,3,4] func146 ?_;unfold dD;refine dB ?_;refine fZ fun r3 h3=> ?_;intros;refine cN ?_;refine eK (Ac [0,1,2,6,7] (Ad 10 (Ad 10 (Ad 10 (Ad 10 (Ad 10 [])))))) ?_;refine GL ?_;refine eQ ?_;refine gY 3 4 [(4,false),(5,false),(8,false),(9,true)] [(3,false),(5,false),(8,false),(9,true)] (f1:=[q]) (f2:=[]) (by kernel_rfl) rfl rfl ?_ ?_ (.inr ⟨X,eC⟩) (.inl rfl)
 ·refine rH (Y1:=[(q,.arr 5 1 (vs.map aG))]) call136 (oW q vs hp U nm U b2) (cL rfl) aC aA ?_;rintro _ Y' ⟨r8,rfl,rfl⟩ h8;have k8:=aV h8;repeat rcases k8 with⟨_,k8⟩
  apply bC;exact aU;refine CH fun r9 h9=> ?_;intros;refine eW rfl ((vs++bM nm++ [0]).map aG) (vs++bM nm++ [0]).length ?_;refine bG fun r10 h10=> ?_;intros;refine pB [(r10,.arr 5 1 ((vs++bM nm++ [0]).map aG))] rfl call135 (qW r10 (vs++bM nm++ [0]) Af fn (wH m3).1 (by have:=(wH m3).2;omega)) rfl aC aA eC ?_;rintro _ Y' ⟨r13,rfl,rfl⟩ h13;have k13:=aV h13;repeat rcases k13 with⟨_,k13⟩
  refine vQ ?_;rw[show vs++bM nm++ [0]++cC fn=vs++oK ⟨nm,fn⟩ by unfold oK;simp];exact aD aE ⟨r13,by rfl,rfl⟩ aA
 ·apply AJ;infer_instance;infer_instance;exact tM;rfl;rfl;rfl;rfl;exact rK;rfl;refine bD fun r9 h9=> ?_;repeat rcases h9 with⟨_,h9⟩
  refine pB [(q,.arr 5 1 (vs.map aG))] rfl call136 (oW q vs hp U nm U b2) rfl aC aA eC ?_;rintro _ Y' ⟨r8,rfl,rfl⟩ h8;have k8:=aV h8;repeat rcases k8 with⟨_,k8⟩
  apply bC;exact aU;refine eW rfl ((vs++bM nm++ [0]).map aG) (vs++bM nm++ [0]).length ?_;refine bG fun r10 h10=> ?_;intros;refine pB [(r10,.arr 5 1 ((vs++bM nm++ [0]).map aG))] rfl call135 (qW r10 (vs++bM nm++ [0]) Af fn (wH m3).1 (by have:=(wH m3).2;omega)) rfl aC aA eC ?_;rintro _ Y' ⟨r13,rfl,rfl⟩ h13;have k13:=aV h13;repeat rcases k13 with⟨_,k13⟩
  refine vQ ?_;rw[show vs++bM nm++ [0]++cC fn=vs++oK ⟨nm,fn⟩ by unfold oK;simp];exact aD aE ⟨r13,by rfl,rfl⟩ aA
theorem yH(q:Nat)(vs:List Nat)(hvs:vs.length<=10000000)(l:Li)(h0:0<=l.mn)(h1:l.mn<=100000)(h2:l.mx<=100000):SCall prog 141 [.own q 0 vs.length,.agg (eO l)] [(q,.arr 5 1 (vs.map aG))]
  (fun y Y=>∃r,y=.own r 0 (vs++eL l).length/\Y=[(r,.arr 5 1 ((vs++eL l).map aG))]):=by
 obtain⟨has,mn,mx⟩:=l;dsimp only at h0 h1 h2;have hu:=bJ 2 mn.toNat U;refine bO 23 [0,1,3,4,7] func141 ?_;unfold eO;refine dB ?_;refine fZ fun r3 h3=> ?_;intros;refine iO ?_;refine sG ?_;refine aB rfl ?_ ?_<;>intro g1
 ·refine aI ?_;refine eK (Ac [0,3,4] (Ad 1 (Ad 2 (Ad 5 (Ac [6] []))))) ?_;refine GL ?_;refine CH fun r9 h9=> ?_;intros;refine eW rfl ((vs++ [0]).map aG) (vs++ [0]).length ?_;refine bG fun r10 h10=> ?_;intros;refine pB [(r10,.arr 5 1 ((vs++ [0]).map aG))] rfl call135 (qW r10 (vs++ [0]) Af mn h0 U) rfl aC aA eC ?_;rintro _ Y' ⟨r13,rfl,rfl⟩ h13;have k13:=aV h13;repeat rcases k13 with⟨_,k13⟩
  refine vQ ?_;rw[show vs++ [0]++cC mn=vs++eL ⟨has,mn,mx⟩ by unfold eL;rw[Dc g1];simp];exact aD aE ⟨r13,by rfl,rfl⟩ aA
 refine aI ?_;refine eK (Ac [0,3,4,6,7] (Ad 1 (Ad 2 (Ad 5 (Ad 8 (Ac [9] [])))))) ?_;refine GL ?_;refine eQ ?_;refine CH fun r15 h15=> ?_;intros;refine eW rfl ((vs++ [1]).map aG) (vs++ [1]).length ?_;refine bG fun r16 h16=> ?_;intros;refine pB [(r16,.arr 5 1 ((vs++ [1]).map aG))] rfl call135 (qW r16 (vs++ [1]) Af mn h0 U) rfl aC aA eC ?_;rintro _ Y' ⟨r19,rfl,rfl⟩ h19;have k19:=aV h19;repeat rcases k19 with⟨_,k19⟩
 apply bC;exact aU;refine pB [(r19,.arr 5 1 ((vs++ [1]++cC mn).map aG))] rfl call135 (qW r19 (vs++ [1]++cC mn) (by simp[cC];omega) mx (by simp at g1;omega) U) rfl aC aA eC ?_;rintro _ Y' ⟨r22,rfl,rfl⟩ h22;have k22:=aV h22;repeat rcases k22 with⟨_,k22⟩
 refine vQ ?_;rw[show vs++ [1]++cC mn++cC mx=vs++eL ⟨has,mn,mx⟩ by unfold eL;rw[Db (by simp[g1])];simp];exact aD aE ⟨r22,by rfl,rfl⟩ aA
theorem aO3(q:Nat)(vs:List Nat)(hvs:vs.length<=9000000)(l:Li)(h0:0<=l.mn)(h1:l.mn<=100000)(h2:l.mx<=100000):SCall prog 140 [.own q 0 vs.length,.agg (eO l)] [(q,.arr 5 1 (vs.map aG))]
  (fun y Y=>∃r,y=.own r 0 (vs++112::eL l).length/\Y=[(r,.arr 5 1 ((vs++112::eL l).map aG))]):=by
 refine bO 10 [0,1,3,4] func140 ?_;refine dB ?_;refine fZ fun r3 h3=> ?_;intros;refine cN ?_;refine eK (Ac [0,3] (Ad 1 (Ad 2 (Ad 4 (Ac [5] []))))) ?_;refine B5 ?_;refine II ?_;refine CH fun r6 h6=> ?_;intros;refine eW rfl ((vs++ [112]).map aG) (vs++ [112]).length ?_;refine bG fun r7 h7=> ?_;intros;refine pB [(r7,.arr 5 1 ((vs++ [112]).map aG))] rfl call141 (yH r7 (vs++ [112]) Af l h0 h1 h2) rfl aC aA eC ?_;rintro _ Y' ⟨r9,rfl,rfl⟩ h9;have k9:=aV h9;repeat rcases k9 with⟨_,k9⟩
 refine vQ ?_;rw[show vs++ [112]++eL l=vs++112::eL l by simp];exact aD aE ⟨r9,by rfl,rfl⟩ aA
theorem JE(q:Nat)(vs:List Nat)(hvs:vs.length<=10000000)(n:Int)(h:gV n=true):SCall prog 149 [.own q 0 vs.length,.int .i64 n] [(q,.arr 5 1 (vs.map aG))]
  (fun y Y=>∃r,y=.own r 0 (vs++rR n).length/\Y=[(r,.arr 5 1 ((vs++rR n).map aG))]):=by
 have hr:-2147483648<=n/\n<=2147483647:=by unfold gV at h;simpa using h
 refine bO 11 [0,1,4] func149 ?_;refine fK ?_;refine eN fun r6 h6=> ?_;intros;refine kD ((vs++ [0]).map aG) (vs++ [0]).length ?_;refine bG fun r7 h7=> ?_;intros;refine B4 ?_;refine mM ?_;refine cw [(r7,.arr 5 1 ((vs++ [0]).map aG))] call144 (tG r7 (vs++ [0]) Af 1 n (by unfold nT;simp;omega) U) rfl aC aA ?_;rintro _ Y' ⟨r10,rfl,rfl⟩ h10;have k10:=aV h10;repeat rcases k10 with⟨_,k10⟩
 refine fF ?_;rw[show vs++ [0]++nB 1 n=vs++rR n by unfold rR;simp];exact aD aE ⟨r10,by rfl,rfl⟩ aA
theorem aO4(q:Nat)(vs:List Nat)(hvs:vs.length<=9000000)(o:Int)(fs:List Int)(h:gV o=true)(h1:fs.length<=50)(h2:∀n∈fs,gU n=true)(hc:(rR o).length<=300):SCall prog 148 [.own q 0 vs.length,.agg (dP ⟨o,fs⟩)] [(q,.arr 5 1 (vs.map aG))]
  (fun y Y=>∃r,y=.own r 0 (vs++uS ⟨o,fs⟩).length/\Y=[(r,.arr 5 1 ((vs++uS ⟨o,fs⟩).map aG))]):=by
 refine bO 12 [0,1,3,4] func148 ?_;unfold dP;refine dB ?_;refine fZ fun r3 h3=> ?_;intros;refine cN ?_;refine eK (Ac [0,1,2,4,5] (Ad 3 (Ad 6 (Ac [7] [])))) ?_;refine GL ?_;refine eQ ?_;refine pB [(q,.arr 5 1 (vs.map aG))] rfl call149 (JE q vs U o h) rfl aC aA eC ?_;rintro _ Y' ⟨r8,rfl,rfl⟩ h8;have k8:=aV h8;repeat rcases k8 with⟨_,k8⟩
 apply bC;exact aU;refine pB [(r8,.arr 5 1 ((vs++rR o).map aG))] rfl call131 (HI JD V r8 (vs++rR o) fs h2 U Af) rfl aC aA eC ?_;rintro _ Y' ⟨r11,rfl,rfl⟩ h11;have k11:=aV h11;repeat rcases k11 with⟨_,k11⟩
 refine vQ ?_;rw[show vs++rR o++bB fs cC=vs++uS ⟨o,fs⟩ by unfold uS;simp];exact aD aE ⟨r11,by rfl,rfl⟩ aA
theorem aO5(q:Nat)(vs:List Nat)(hvs:vs.length<=9000000)(o:Int)(bs:List Nat)(h:gV o=true)(h1:bs.length<=1000)(hc:(rR o).length<=300):SCall prog 153 [.own q 0 vs.length,.agg (dV ⟨o,bs⟩)] [(q,.arr 5 1 (vs.map aG))]
  (fun y Y=>∃r,y=.own r 0 (vs++wD ⟨o,bs⟩).length/\Y=[(r,.arr 5 1 ((vs++wD ⟨o,bs⟩).map aG))]):=by
 have hu:=bJ 1 bs.length U;refine bO 16 [0,1,3,4] func153 ?_;unfold dV;refine dB ?_;refine fZ fun r3 h3=> ?_;intros;refine cN ?_;refine eK (Ac [0,1,2,4,5,6,8,9] (Ad 3 (Ad 7 (Ad 10 (Ac [11] []))))) ?_;refine GL ?_;refine eQ ?_;refine SI ?_;refine eQ ?_;refine pB [(q,.arr 5 1 (vs.map aG))] rfl call149 (JE q vs U o h) rfl aC aA eC ?_;rintro _ Y' ⟨r8,rfl,rfl⟩ h8;have k8:=aV h8;repeat rcases k8 with⟨_,k8⟩
 apply bC;exact aU;refine pB [(r8,.arr 5 1 ((vs++rR o).map aG))] rfl call135 (eI r8 (vs++rR o) Af bs.length U) rfl aC aA eC ?_;rintro _ Y' ⟨r12,rfl,rfl⟩ h12;have k12:=aV h12;repeat rcases k12 with⟨_,k12⟩
 apply bC;exact aU;refine eW rfl ((vs++rR o++uB bs.length++bs).map aG) (vs++rR o++uB bs.length++bs).length ?_;refine bG fun r15 h15=> ?_;intros;refine tQ ?_;rw[show vs++rR o++uB bs.length++bs=vs++wD ⟨o,bs⟩ by unfold wD;simp];exact aD aE ⟨r15,by rfl,rfl⟩ aA
theorem UB(l:Li):SCall prog 139 [.agg (eO l)] [] (fun y Y=>∃q,y=.own q 0 (iA l).length/\Y=[(q,.arr 26 3 ((iA l).map eO))]):=by
 obtain⟨has,mn,mx⟩:=l;refine bO 8 [0,1,2,5] func139 ?_;unfold eO;refine dB ?_;refine fZ fun r1 h1=> ?_;intros;refine iO ?_;refine mX ?_;refine aB rfl ?_ ?_<;>intro g1
 ·obtain rfl:has=false:=C8 g1
  refine tR ?_;refine bQ 2 26 3 V rfl V (bD fun q2 hq2=> ?_);repeat rcases hq2 with⟨_,hq2⟩
  refine aI ?_;exact aD aE ⟨q2,by rfl,rfl⟩ aA
 obtain rfl:has=true:=C8 g1
 refine mE ?_;refine eN fun r7 h7=> ?_;intros;refine cN ?_;exact aD aE ⟨r7,by rfl,rfl⟩ aA
theorem zD{k n:Int}(hv:nT k n=true)(hn:-9223372036854775808<=n/\n<=9223372036854775807):(nB k n).length<=201:=by
 obtain⟨ho,hm,-⟩:=IX hv hn;have:=yB ho hm;unfold nB;rw[Ao,List.length_singleton];omega
theorem zE{n:Int}(h:gV n=true):(rR n).length<=202:=by
 have hr:-2147483648<=n/\n<=2147483647:=by unfold gV at h;simpa using h
 have:=zD (k:=1) (n:=n) (by unfold nT;simp;omega) U;unfold rR;simp;omega
theorem aAK:jB prog 5 134 (fun x=>.agg (eE x)) jI (fun x=>(wG x.mod&&wG x.nm&&gU x.ty)=true) 50 10000000:=
 ⟨call134,fun q vs x h hp hvs=>by
  obtain⟨a,b,n⟩:=x;simp only[Ap]at h;obtain⟨⟨h1,h2⟩,h3⟩:=h;have l1:=(lW h1).2.2;have l2:=(lW h2).2.2;have l3:=PY h3;exact⟨by unfold jI;simp;omega,aO1 q vs hp hvs a b n h1 h2 h3⟩⟩
theorem aAL:jB prog 5 146 (fun x=>.agg (dD x)) oK (fun x=>(wG x.nm&&gU x.fn)=true) 50 10000000:=
 ⟨call146,fun q vs x h hp hvs=>by
  obtain⟨b,n⟩:=x;simp only[Ap]at h;have l2:=(lW h.1).2.2;have l3:=PY h.2;exact⟨by unfold oK;simp;omega,aO2 q vs hp hvs b n h.1 h.2⟩⟩
def UC (l:Li):Prop:=0<=l.mn/\l.mn<=100000/\l.mx<=100000
theorem zF{l:Li}(h:UC l):(eL l).length<=7:=by
 have h1:=bJ 2 l.mn.toNat (by have:=h.2.1;omega);have h2:=bJ 2 l.mx.toNat (by have:=h.2.2;omega);unfold eL cC;split
 ·simp;omega
 ·simp;omega
theorem aAM:jB prog 5 141 (fun x=>.agg (eO x)) eL UC 10 9000000:=
 ⟨call141,fun q vs x h _ hvs=>⟨by have:=zF h;omega,yH q vs U x h.1 h.2.1 h.2.2⟩⟩
theorem aAN:jB prog 5 140 (fun x=>.agg (eO x)) (fun l=>112::eL l) UC 10 9000000:=
 ⟨call140,fun q vs x h _ hvs=>⟨by have:=zF h;simp;omega,aO3 q vs U x h.1 h.2.1 h.2.2⟩⟩
theorem aAO:jB prog 5 148 (fun x=>.agg (dP x)) uS (fun x=>(gV x.off&&cI x.fs 50 gU)=true) 400 9000000:=
 ⟨call148,fun q vs x h _ hvs=>by
  obtain⟨o,fs⟩:=x;simp only[Ap]at h;have h1:fs.length<=50/\∀n∈fs,gU n=true:=by have:=h.2;unfold cI at this;simp at this;exact⟨U,this.2⟩
  have l1:=zE h.1;have l2:=kZ (pt:=cC) (l:=fs) (c:=2) (fun x hx=>PY (h1.2 x hx)) U;exact⟨by unfold uS;simp;omega,aO4 q vs hvs o fs h.1 h1.1 h1.2 U⟩⟩
theorem aGN:jB prog 5 153 (fun x=>.agg (dV x)) wD (fun x=>(gV x.off&&decide (x.bs.length<=1000))=true) 2000 9000000:=
 ⟨call153,fun q vs x h _ hvs=>by
  obtain⟨o,bs⟩:=x;simp only[Ap,decide_eq_true_eq]at h;have l1:=zE h.1;have l2:=bJ 1 bs.length U;exact⟨by unfold wD;simp;omega,aO5 q vs hvs o bs h.1 h.2 U⟩⟩
theorem aDU{l:List Nat}{a b:Nat}:((l++ [a]).map aG).set (((l++ [a]).length:Int)-1).toNat [.int .u8 (b:Int)]=(l++ [b]).map aG:=by
 rw[show(((l++ [a]).length:Int)-1).toNat=l.length by simp,Bx,Bx,List.set_append,Db X];simp[aG]
theorem aGO{l:List Nat}{a:Nat}:(l++ [a])[(((l++ [a]).length:Nat)-1:Int).toNat]? =some a:=by
 rw[show(((l++ [a]).length:Nat)-1:Int).toNat=l.length by simp];simp
theorem aO6(q:Nat)(vs:List Nat)(hvs:vs.length<=9000000)(mu:Bool)(k n:Int)(hv:nT k n=true)(hn:-9223372036854775808<=n/\n<=9223372036854775807):SCall prog 143 [.own q 0 vs.length,.agg (dX ⟨mu,k,n⟩)] [(q,.arr 5 1 (vs.map aG))]
  (fun y Y=>∃r,y=.own r 0 (vs++xA ⟨mu,k,n⟩).length/\Y=[(r,.arr 5 1 ((vs++xA ⟨mu,k,n⟩).map aG))]):=by
 have hkl:=oX k;refine bO 23 [0,1,3,4,13] func143 ?_;unfold dX;refine dB ?_;refine fZ fun r3 h3=> ?_;intros;refine gX ?_;refine oN ?_;refine cw [(q,.arr 5 1 (vs.map aG))] call132 (vE q vs U k) rfl aC aA ?_;rintro _ Y' ⟨r9,rfl,rfl⟩ h9;have k9:=aV h9;repeat rcases k9 with⟨_,k9⟩
 apply aR;exact aU;refine eN fun r10 h10=> ?_;intros;refine kD ((vs++kB k++ [0]).map aG) (vs++kB k++ [0]).length ?_;refine bG fun r11 h11=> ?_;intros;refine cN ?_;have hl:(vs++kB k++ [0]).length=vs.length+2:=by simp[hkl]
 refine mP ?_;refine iM ?_;refine aB rfl ?_ ?_<;>intro g2
 ·obtain⟨z,hz⟩:∃z:Nat,z=1:=⟨_,rfl⟩
  have hat:=aGO (l:=vs++kB k) (a:=0);refine AB ?_;refine tN ?_;refine z15 ?_;refine SN ?_;refine iM ?_;have hle:(vs++kB k++ [0]).length=(vs++kB k++ [1]).length:=by simp
  have hz1:vs++kB k++ [1]=vs++kB k++ [z]:=by rw[hz]
  have hset:=aDU (l:=vs++kB k) (a:=0) (b:=1);rw[show(cM (.int .u8 1))=AV.int .u8 ((1:Nat):Int)from rfl,hset,hle,hz1];refine fO ?_;refine EF ?_;refine jY ?_;refine cw [(r11,.arr 5 1 ((vs++kB k++ [z]).map aG))] call144 (tG r11 (vs++kB k++ [z]) Af k n hv hn) rfl aC aA ?_;rintro _ Y' ⟨r22,rfl,rfl⟩ h22;have k22:=aV h22;repeat rcases k22 with⟨_,k22⟩
  refine fF ?_;rw[show vs++kB k++ [z]++nB k n=vs++xA ⟨mu,k,n⟩ by unfold xA;rw[hz,g2];simp];exact aD aE ⟨r22,by rfl,rfl⟩ aA
 obtain⟨z,hz⟩:∃z:Nat,z=0:=⟨_,rfl⟩
 rw[show vs++kB k++ [0]=vs++kB k++ [z] by rw[hz]];refine dG ?_;refine EF ?_;refine jY ?_;refine cw [(r11,.arr 5 1 ((vs++kB k++ [z]).map aG))] call144 (tG r11 (vs++kB k++ [z]) Af k n hv hn) rfl aC aA ?_;rintro _ Y' ⟨r22,rfl,rfl⟩ h22;have k22:=aV h22;repeat rcases k22 with⟨_,k22⟩
 refine fF ?_;rw[show vs++kB k++ [z]++nB k n=vs++xA ⟨mu,k,n⟩ by unfold xA;rw[hz,g2];simp];exact aD aE ⟨r22,by rfl,rfl⟩ aA
theorem aAP:jB prog 5 143 (fun x=>.agg (dX x)) xA (fun g=>nT g.kd g.n=true/\ -9223372036854775808<=g.n/\g.n<=9223372036854775807) 300 9000000:=
 ⟨call143,fun q vs x h _ hvs=>by
  obtain⟨mu,k,n⟩:=x;have l1:=zD h.1 h.2;have l2:=oX k;exact⟨by unfold xA;simp;dsimp only at l1;omega,aO6 q vs hvs mu k n h.1 h.2⟩⟩
end Go.Proofs.YtjpdadobblffmaaGreat
namespace Go.Proofs.YtjpdadobblffmaaGreat
open Go.RowKit Go.ChangeShapes Go.WideShapes Go.ChangeAt Go.Deep
abbrev St:=List Nat×Bool
def xB (s:St) (n:Int) (ok:Bool):St:=let bad:=s.2|| !ok||decide ((s.1.length:Int)<n);(if bad then s.1 else s.1.drop n.toNat,bad)
def gW (s:St):Nat×St:=let s':=xB s (mR s.1).2.1 ((mR s.1).2.2==0);(if s'.2 then 0 else(mR s.1).1,s')
def lX (s:St):Nat×St:=if s.2||s.1.isEmpty then(0,(s.1,true))else(s.1[0]!,(s.1.drop 1,false))
def CX (s:St):List Nat×St:=let r:=gW s;let s':=xB r.2 r.1 true;(if s'.2 then []else r.2.1.take r.1,s')
def kS {α:Type} (get:St->α×St):Nat->St->List α×St
 |0,s=>([],s)
 |n+1,s=>if s.2 then([],s)else let r:=get s;let t:=kS get n r.2;(r.1::t.1,t.2)
def gF {α:Type} (get:St->α×St) (s:St):List α×St:=let r:=gW s;kS get r.1 r.2
def yI (s:St):Int×St:=let r:=lX s;if(r.1==127)=true then(1,r.2)else if(r.1==126)=true then(2,r.2)else(0,(r.2.1,true))
def RQ (s:St):(Int×Int)×St:=
 let g:=fP s.1
 let s1:=xB s g.2.1 ((g.2.2==0)&&(g.1.op==65||g.1.op==66))
 let s2:=(lX s1).2
 (if(g.1.op==66)=true then(2,g.1.a)else(1,g.1.a),s2)
def RR (s:St):Int×St:=let r:=RQ (lX s).2;(r.1.2,r.2)
def lmN (s:St):Li×St:=
 let b:=lX s
 let r:=gW b.2
 if(b.1 !=0)=true then let t:=gW r.2;(⟨true,r.1,t.1⟩,t.2)else(⟨true,r.1,-1⟩,r.2)
def YJ:Nat->St->List Int->List Int×St
 |0,s,l=>(l,s)
 |n+1,s,l=>if s.2 then(l,s)else
  let m:=gW s
  let k:=yI m.2
  if 32<m.1 then([],(k.2.1,true))else YJ n k.2 (l++Ak m.1 k.1)
def BL (s:St):List Int×St:=let r:=gW s;YJ r.1 r.2 []
def PZ (s:St):Co×St:=
 let r:=BL (gW s).2
 if r.2.2 then(⟨r.1,[]⟩,r.2)else
  let g:=mJ r.2.1
  (⟨r.1,g.1⟩,xB r.2 g.2.1 (g.2.2==0))
def tyN (s:St):FT×St:=let p:=gF yI (lX s).2;let r:=gF yI p.2;(⟨p.1,r.1⟩,r.2)
def inN (s:St):Int×St:=let r:=gW s;(r.1,r.2)
def imN (s:St):Im×St:=let a:=CX s;let b:=CX a.2;let t:=gW (lX b.2).2;(⟨a.1,b.1,t.1⟩,t.2)
def glN (s:St):Gl×St:=let k:=yI s;let m:=lX k.2;let c:=RQ m.2;(⟨m.1 !=0,c.1.1,c.1.2⟩,c.2)
def exN (s:St):Ex×St:=let a:=CX s;let t:=gW (lX a.2).2;(⟨a.1,t.1⟩,t.2)
def tbN (before:Bool) (s:St):Li×St:=lmN (if before then(lX s).2 else s)
def UD (before:Bool) (s:St):Li×St:=let r:=gF (tbN before) s;(r.1.headD MZ,r.2)
def eeN (s:St):El×St:=let o:=RR s;let l:=gF inN o.2;(⟨o.1,l.1⟩,l.2)
def ddN (s:St):Da×St:=let o:=RR s;let l:=CX o.2;(⟨o.1,l.1⟩,l.2)
def wY (no:Nat) (m:Md) (s:St):Md×St:=
 if no=1 then({ m with ty:=(gF tyN s).1 },(gF tyN s).2)
 else if no=2 then({ m with im:=(gF imN s).1 },(gF imN s).2)
 else if no=3 then({ m with fn:=(gF inN s).1 },(gF inN s).2)
 else if no=4 then({ m with tb:=(UD true s).1 },(UD true s).2)
 else if no=5 then({ m with me:=(UD false s).1 },(UD false s).2)
 else if no=6 then({ m with gl:=(gF glN s).1 },(gF glN s).2)
 else if no=7 then({ m with ex:=(gF exN s).1 },(gF exN s).2)
 else if no=9 then({ m with el:=(gF eeN s).1 },(gF eeN s).2)
 else if no=10 then({ m with co:=(gF PZ s).1 },(gF PZ s).2)
 else if no=11 then({ m with da:=(gF ddN s).1 },(gF ddN s).2)
 else(m,(s.1,true))
def dlN:Nat->Md->St->Md×St
 |0,m,s=>(m,s)
 |f+1,m,s=>if s.1.isEmpty||s.2 then(m,s)else
  let b:=lX s
  let t:=wY b.1 m (gW b.2).2
  dlN f t.1 t.2
def zU (b:List Nat):Md×St:=dlN (b.length+1) md0 (xB (b, !decide (b.take 8=headB)) 8 true)
def zV (b:List Nat):Md×Int:=
 if 8000<b.length then(md0,4)
 else if(zU b).2.2=true then(md0,1)
 else if jP (zU b).1=true/\eZ (zU b).1=b then((zU b).1,0)else(md0,1)
def Bck {α:Type} (get:St->α×St) (pt:α->List Nat) (ok:α->Prop):Prop:=∀x,ok x->∀r,get (pt x++r,false)=(x,(r,false))
theorem UE{p r:List Nat}{n:Int}(hn:n=(p.length:Int)):xB (p++r,false) n true=(r,false):=by
 subst hn;unfold xB;have:decide ((((p++r,false):St).1.length:Int)<(p.length:Int))=false:=by simp;omega
 simp only[this];simp
theorem FR{v:Nat}(hv:v<4294967296)(r:List Nat):gW (uB v++r,false)=(v,(r,false)):=by
 unfold gW;dsimp only;rw[aAv hv];dsimp only;rw[show((0:Int)==0)=true from rfl,UE rfl];rfl
theorem uC(c:Nat)(r:List Nat):lX (c::r,false)=(c,(r,false)):=by
 unfold lX;simp
theorem aI1{s:List Nat}(hs:s.length<4294967296)(r:List Nat):CX (uB s.length++s++r,false)=(s,(r,false)):=by
 unfold CX;rw[Aq,FR hs];dsimp only;rw[UE rfl];simp
theorem aI2{α:Type}{get:St->α×St}{pt:α->List Nat}{ok:α->Prop}(h:Bck get pt ok):∀ {l:List α},(∀x∈l,ok x)->∀r,kS get l.length (l.flatMap pt++r,false)=(l,(r,false))
 |[],_,r=>rfl
 |x::l,hl,r=>by
  rw[Bj,kS,Db X,List.flatMap_cons,Aq,h x (hl x Au)];dsimp only;rw[aI2 h (fun y hy=>hl y (An _ hy))]
theorem wJ{α:Type}{get:St->α×St}{pt:α->List Nat}{ok:α->Prop}(h:Bck get pt ok){l:List α}(hl:∀x∈l,ok x)(hn:l.length<4294967296)(r:List Nat):gF get (bB l pt++r,false)=(l,(r,false)):=by
 unfold gF bB;rw[Aq,FR hn];exact aI2 h hl r
theorem aAR:Bck yI kB (fun k=>CR k=true):=by
 intro k hk r;have:k=1\/k=2:=by
  unfold CR at hk;by_cases h:k=1
  ·exact .inl h
  ·rw[Db (C8 h)]at hk;exact .inr (C8 hk)
 rcases this with rfl|rfl
 ·show yI (127::r,false)=_;unfold yI;rw[uC];rfl
 ·show yI (126::r,false)=_;unfold yI;rw[uC];rfl
theorem aI3:Bck inN cC (fun n=>gU n=true):=by
 intro n hn r;have h0:0<=n/\n<=1000:=by
  unfold gU at hn;by_cases h:0<=n
  ·rw[Dc (C8 h)]at hn;exact⟨h,C8 hn⟩
  ·rw[Db (C8 h)]at hn;cases hn
 unfold inN cC;rw[FR U];simp;omega
theorem EQ{n:Int}(h0:0<=n)(h1:n<4294967296)(r:List Nat):gW (cC n++r,false)=(n.toNat,(r,false)):=FR U r
theorem aI4{k n:Int}(h:nT k n=true)(hn:-9223372036854775808<=n/\n<=9223372036854775807)(r:List Nat):RQ (nB k n++r,false)=((k,n),(r,false)):=by
 obtain⟨ho,hm,hk⟩:=IX h hn;have key:∀op:Int,(⟨op,n,0,[]⟩:Ins).Ok->cY ⟨op,n,0,[]⟩=true->(op=65\/op=66)->RQ (gT ⟨op,n,0,[]⟩++ [11]++r,false)=(if(op==66)=true then(2,n)else(1,n),(r,false)):=by
  intro op ho hm hop;unfold RQ;dsimp only;rw[Aq,PL ho hm];dsimp only;rw[show(((0:Int)==0)&&((op==65)||(op==66)))=true by rcases hop with rfl|rfl<;>rfl,UE rfl];show(_,(lX (11::r,false)).2)=_;rw[uC]
 unfold nB;rcases hk with rfl|rfl
 ·exact key 65 ho hm (.inl rfl)
 ·exact key 66 ho hm (.inr rfl)
theorem aI5{n:Int}(h:gV n=true)(r:List Nat):RR (rR n++r,false)=(n,(r,false)):=by
 unfold gV at h;simp only[Ap,decide_eq_true_eq]at h;unfold RR rR;rw[As,uC];dsimp only;rw[aI4 (by unfold nT;simp;omega) U]
theorem aI6{l:Li}{a c:Int}(h:lE l a c=true)(hh:l.has=true)(ha:a<=100000)(hc:c<=100000)(r:List Nat):lmN (eL l++r,false)=(l,(r,false)):=by
 obtain⟨has,mn,mx⟩:=l;dsimp only at hh;subst hh;unfold lE at h;simp only[Dd,Ap,decide_eq_true_eq]at h;obtain⟨⟨⟨h1,h2⟩,h3⟩,h4⟩:=h;by_cases hx:mx<0
 ·rw[show eL ⟨true,mn,mx⟩=0::cC mn by unfold eL;rw[Dc (C8 hx)]];unfold lmN;rw[As,uC];dsimp only;rw[EQ h1 U];simp;omega
 ·rw[show eL ⟨true,mn,mx⟩=1::(cC mn++cC mx) by unfold eL;rw[Db (C8 hx)]];unfold lmN;rw[As,uC];dsimp only;rw[Aq,EQ h1 U];dsimp only;rw[Dc V,EQ U U];simp;omega
theorem ES(l:List Int)(k:Int):bZ (l++ [k])=match(bZ l).getLast? with
 |some (x::xs)=>if x==k then(bZ l).dropLast++ [(x::xs)++ [k]]else bZ l++ [[k]]
 | _=>bZ l++ [[k]]:=by
 unfold bZ;rw[List.foldl_append];rfl
theorem CY:∀(n:Nat) (l:List Int),l.length=n->(bZ l).flatten=l/\∀r∈bZ l,∃k m,r=Ak (m+1) k/\k∈l/\m+1<=l.length
 |0,l,h=>by
  obtain rfl:l=[]:=List.length_eq_zero_iff.1 h;exact⟨rfl,by simp[bZ]⟩
 |n+1,l,h=>by
  obtain⟨t,k,rfl⟩:∃t k,l=t++ [k]:=by
   have:l≠ []:=by intro e;subst e;simp at h
   exact⟨l.dropLast,l.getLast this,(List.dropLast_concat_getLast this).symm⟩
  obtain⟨h1,h2⟩:=CY n t (C8 h);rw[ES];have hnew:(bZ t++ [[k]]).flatten=t++ [k]/\∀r∈bZ t++ [[k]],∃k' m,r=Ak (m+1) k'/\k'∈t++ [k]/\m+1<=(t++ [k]).length:=by
   refine⟨by rw[List.flatten_append,h1];rfl,fun r hr=> ?_⟩;rcases A8.1 hr with hr|hr
   ·obtain⟨k',m,e1,e2,e3⟩:=h2 r hr;exact⟨k',m,e1,List.mem_append_left _ e2,by simp;omega⟩
   ·exact⟨k,0,C8 hr,X,X⟩
  split
  ·next x xs hl=>
   split
   ·next hx=>
    obtain rfl:x=k:=C8 hx
    have hne:bZ t≠ []:=by intro e;rw[e]at hl;cases hl
    have hd:bZ t=(bZ t).dropLast++ [x::xs]:=by
     have:=List.dropLast_concat_getLast hne;rw[List.getLast?_eq_some_getLast hne]at hl;rw[Option.some.inj hl]at this;exact this.symm
    obtain⟨k',m,e1,e2,e3⟩:=h2 (x::xs) (by rw[hd];simp);obtain rfl:x=k':=by rw[List.replicate_succ]at e1;exact(List.cons.inj e1).1
    refine⟨?_,fun r hr=> ?_⟩
    ·rw[List.flatten_append]
     conv=>rhs;rw[<-h1,hd]
     simp
    ·rcases A8.1 hr with hr|hr
     ·obtain⟨k',m,e1,e2,e3⟩:=h2 r (List.dropLast_sublist _ |>.subset hr);exact⟨k',m,e1,List.mem_append_left _ e2,by simp;omega⟩
     ·refine⟨x,m+1, ?_,X,by simp;omega⟩;rw[show r=x::xs++ [x] by simpa using hr,e1];exact List.replicate_succ'.symm
   ·exact hnew
  ·exact hnew
theorem aI7{l:List Int}(hk:∀k∈l,CR k=true):∀ {rs:List (List Int)},(∀r∈rs,∃k m,r=Ak (m+1) k/\k∈l/\m+1<=32)->∀(acc:List Int) (t:List Nat),YJ rs.length (rs.flatMap iK++t,false) acc=(acc++rs.flatten,(t,false))
 |[],_,acc,t=>by simp[YJ]
 |r::rs,h,acc,t=>by
  obtain⟨k,m,rfl,hkl,hm⟩:=h r Au;rw[Bj,YJ,Db X,List.flatMap_cons,Aq];have h1:iK (Ak (m+1) k)=cC ((m+1:Nat):Int)++kB k:=by unfold iK;rw[List.length_replicate,List.replicate_succ];rfl
  rw[h1,Aq,EQ U U];dsimp only;rw[aAR k (hk k hkl)];dsimp only;rw[Bc,Db U,aI7 hk (fun r hr=>h r (An _ hr))];simp
theorem aM2{l:List Int}(hk:∀k∈l,CR k=true)(hl:l.length<=32)(t:List Nat):BL (bB (bZ l) iK++t,false)=(l,(t,false)):=by
 obtain⟨h1,h2⟩:=CY _ l rfl;have hr:∀(rs:List (List Int)),(∀r∈rs,∃k m,r=Ak (m+1) k/\k∈l/\m+1<=l.length)->rs.length<=rs.flatten.length:=by
  intro rs
  induction rs with
  |nil=>simp
  |cons r rs ih=>
   intro h;obtain⟨k,m,rfl,-,-⟩:=h r Au;have:=ih fun r hr=>h r (An _ hr)
   simp at this⊢;omega
 have hn:=hr _ h2;rw[h1]at hn;unfold BL bB;rw[Aq,FR U];dsimp only;rw[aI7 hk (fun r hr=>by obtain⟨k,m,a,b,c⟩:=h2 r hr;exact⟨k,m,a,b,U⟩),h1];rfl
theorem bW{α:Type}{l:List α}{most:Int}{p:α->Bool}(h:cI l most p=true):(l.length:Int)<=most/\∀x∈l,p x=true:=by
 unfold cI at h;simpa using h
def OkC (c:Co):Prop:=uA c=true/\(∀x∈c.bd,x.Ok)/\(bB (bZ c.ls) iK++jA c.bd).length<4294967296
theorem aM3:Bck PZ lD OkC:=by
 rintro⟨ls,bd⟩ ⟨h,hO,hlen⟩ t;unfold uA at h;simp only[Ap]at h;obtain⟨⟨h1,h2⟩,h3⟩:=h;obtain⟨k1,k2⟩:=bW h2;obtain⟨k3,k4⟩:=bW h3;have hm:∀x∈bd,x.Ok/\cY x=true:=fun x hx=>⟨hO x hx,k4 x hx⟩
 unfold PZ lD;dsimp only;rw[Aq,FR hlen];dsimp only;rw[Aq,aM2 k2 U];dsimp only;rw[Db X,aBN hm h1];dsimp only;rw[show((0:Int)==0)=true from rfl,UE rfl]
theorem aM4:Bck tyN yD (fun t=>(cI t.pr 32 CR&&cI t.rs 1 CR)=true):=by
 rintro⟨pr,rs⟩ h t;simp only[Ap]at h;obtain⟨k1,k2⟩:=bW h.1;obtain⟨k3,k4⟩:=bW h.2;unfold tyN yD;rw[As,uC];dsimp only;rw[Aq,wJ aAR k2 U];dsimp only;rw[wJ aAR k4 U]
theorem aKx{s:List Nat}(h:wG s=true):s.length<=16:=by
 unfold wG at h;split at h
 ·simp only[Ap,decide_eq_true_eq]at h;exact h.1
 ·cases h
theorem QA{n:Int}(h:gU n=true):0<=n/\n<=1000:=by
 unfold gU at h;by_cases h0:0<=n
 ·rw[Dc (C8 h0)]at h;exact⟨h0,C8 h⟩
 ·rw[Db (C8 h0)]at h;cases h
theorem aDZ{s:List Nat}(h:wG s=true)(t:List Nat):CX (bM s++t,false)=(s,(t,false)):=aI1 (by have:=aKx h;omega) t
theorem aM5:Bck imN jI (fun x=>(wG x.mod&&wG x.nm&&gU x.ty)=true):=by
 rintro⟨a,b,n⟩ h t;simp only[Ap]at h;obtain⟨⟨h1,h2⟩,h3⟩:=h;have h3:=QA h3;unfold imN jI;dsimp only;rw[Aq,Aq,Aq,aDZ h1];dsimp only;rw[aDZ h2];dsimp only;rw[As,uC];dsimp only[Ay];rw[EQ h3.1 U];simp;omega
theorem aM6:Bck exN oK (fun x=>(wG x.nm&&gU x.fn)=true):=by
 rintro⟨a,n⟩ h t;simp only[Ap]at h;have h3:=QA h.2;unfold exN oK;dsimp only;rw[Aq,Aq,aDZ h.1];dsimp only;rw[As,uC];dsimp only[Ay];rw[EQ h3.1 U];simp;omega
theorem aBU{k n:Int}(h:nT k n=true):CR k=true:=by
 unfold nT at h;simp only[Bool.or_eq_true,Ap,beq_iff_eq,decide_eq_true_eq]at h;rcases h with⟨⟨rfl,-⟩,-⟩|rfl<;>rfl
theorem aM7:Bck glN xA (fun g=>nT g.kd g.n=true/\ -9223372036854775808<=g.n/\g.n<=9223372036854775807):=by
 rintro⟨mu,k,n⟩ ⟨h,hn⟩ t;dsimp only at h hn;unfold glN xA;dsimp only;rw[Aq,Aq,aAR k (aBU h)];dsimp only;rw[As,uC];dsimp only[Ay];rw[aI4 h hn];cases mu<;>rfl
theorem aM8:Bck eeN uS (fun x=>(gV x.off&&cI x.fs 50 gU)=true):=by
 rintro⟨o,fs⟩ h t;simp only[Ap]at h;obtain⟨k1,k2⟩:=bW h.2;unfold eeN uS;dsimp only;rw[Aq,aI5 h.1];dsimp only;rw[wJ aI3 k2 U]
theorem aM9:Bck ddN wD (fun x=>(gV x.off&&decide (x.bs.length<=1000))=true):=by
 rintro⟨o,bs⟩ h t;simp only[Ap,decide_eq_true_eq]at h;unfold ddN wD;dsimp only;rw[Aq,Aq,aI5 h.1];dsimp only;rw[<-Aq,aI1 U]
def NI {α:Type} (get:St->α×St):Prop:=∀s,(get s).2.1.length<=s.1.length
theorem UF(s:St)(n:Int)(ok:Bool):(xB s n ok).1.length<=s.1.length:=by
 unfold xB;dsimp only;split
 ·exact A3 _
 ·simp
theorem rU:NI gW:=fun s=>by unfold gW;exact UF _ _ _
theorem wK:NI lX:=fun s=>by
 unfold lX;split
 ·exact A3 _
 ·simp
theorem aI8(s:St)(h:s.1≠ [])(hb:s.2=false):(lX s).2.1.length<s.1.length:=by
 obtain⟨l,b⟩:=s;dsimp only at h hb;subst hb;cases l with
 |nil=>exact absurd rfl h
 |cons c l=>rw[uC];simp
theorem aAS:NI CX:=fun s=>by unfold CX;exact A4 (UF _ _ _) (rU s)
theorem aI9{α:Type}{get:St->α×St}(h:NI get):∀n s,(kS get n s).2.1.length<=s.1.length
 |0,s=>A3 _
 |n+1,s=>by
  rw[kS];split
  ·exact A3 _
  ·exact A4 (aI9 h n _) (h s)
theorem wL{α:Type}{get:St->α×St}(h:NI get):NI (gF get):=fun s=>A4 (aI9 h _ _) (rU s)
theorem UG:NI yI:=fun s=>by
 unfold yI;dsimp only;split
 ·exact wK s
 ·split
  ·exact wK s
  ·exact wK s
theorem aJa:NI RQ:=fun s=>by unfold RQ;exact A4 (wK _) (UF _ _ _)
theorem aJb:NI RR:=fun s=>by unfold RR;exact A4 (aJa _) (wK s)
theorem aJc:NI lmN:=fun s=>by
 unfold lmN;dsimp only;split
 ·exact A4 (rU _) (A4 (rU _) (wK s))
 ·exact A4 (rU _) (wK s)
theorem aJd:∀n s l,(YJ n s l).2.1.length<=s.1.length
 |0,s,l=>A3 _
 |n+1,s,l=>by
  rw[YJ];split
  ·exact A3 _
  ·dsimp only;split
   ·exact A4 (UG _) (rU s)
   ·exact A4 (aJd n _ _) (A4 (UG _) (rU s))
theorem aJe:NI BL:=fun s=>by unfold BL;exact A4 (aJd _ _ _) (rU s)
theorem aNa:NI PZ:=fun s=>by
 unfold PZ;dsimp only;split
 ·exact A4 (aJe _) (rU s)
 ·exact A4 (UF _ _ _) (A4 (aJe _) (rU s))
theorem aNb:NI tyN:=fun s=>by unfold tyN;exact A4 (wL UG _) (A4 (wL UG _) (wK s))
theorem aJf:NI inN:=fun s=>rU s
theorem aNc:NI imN:=fun s=>by unfold imN;exact A4 (rU _) (A4 (wK _) (A4 (aAS _) (aAS s)))
theorem aNd:NI glN:=fun s=>by unfold glN;exact A4 (aJa _) (A4 (wK _) (UG s))
theorem aNe:NI exN:=fun s=>by unfold exN;exact A4 (rU _) (A4 (wK _) (aAS s))
theorem aNf(b:Bool):NI (tbN b):=fun s=>by
 unfold tbN;split
 ·exact A4 (aJc _) (wK s)
 ·exact aJc s
theorem aJg(b:Bool):NI (UD b):=fun s=>wL (aNf b) s
theorem aNg:NI eeN:=fun s=>by unfold eeN;exact A4 (wL aJf _) (aJb s)
theorem aNh:NI ddN:=fun s=>by unfold ddN;exact A4 (aAS _) (aJb s)
theorem aJh(no:Nat)(m:Md)(s:St):(wY no m s).2.1.length<=s.1.length:=by
 unfold wY;repeat' split
 ·exact wL aNb s
 ·exact wL aNc s
 ·exact wL aJf s
 ·exact aJg true s
 ·exact aJg false s
 ·exact wL aNd s
 ·exact wL aNe s
 ·exact wL aNg s
 ·exact wL aNa s
 ·exact wL aNh s
 ·exact A3 _
theorem CZ:∀(f f':Nat) (m:Md) (s:St),s.1.length<f->s.1.length<f'->dlN f m s=dlN f' m s
 |0,_,_,s,h,_=>absurd h (Nat.not_lt_zero _)
 | _ +1,0,_,s,_,h=>absurd h (Nat.not_lt_zero _)
 |f+1,f'+1,m,s,h,h'=>by
  rw[dlN,dlN];split
  ·rfl
  ·next hc=>
   simp only[Bool.or_eq_true,not_or,Bool.not_eq_true]at hc;have h1:=aI8 s (by intro e;rw[e]at hc;simp at hc) hc.2;have h2:=rU (lX s).2;have h3:=aJh (lX s).1 m (gW (lX s).2).2;exact CZ f f' _ _ U U
def DN (m:Md) (s:St):Md×St:=dlN (s.1.length+1) m s
theorem aKy(m:Md):DN m ([],false)=(m,([],false)):=rfl
theorem tH{α:Type}{no:Nat}{l:List α}{pt:α->List Nat}{m m':Md}{r:List Nat}(h0:l=[]->m'=m)(hv:(bB l pt).length<4294967296)
  (hs:wY no m (bB l pt++r,false)=(m',(r,false))):DN m (bF no l pt++r,false)=DN m' (r,false):=by
 unfold bF;by_cases hl:l=[]
 ·subst hl;rw[h0 rfl];rfl
 ·rw[Db (C8 hl)];unfold DN;rw[dlN,Db X];dsimp only;rw[As,uC];dsimp only;rw[Aq,FR hv];dsimp only;rw[hs];dsimp only;exact CZ _ _ _ _ Af X
theorem UH{α:Type}{pt:α->List Nat}:∀ {l:List α} {x:α},x∈l->(pt x).length<=(l.flatMap pt).length
 |y::l,x,h=>by
  rw[List.flatMap_cons,Ao];rcases Av.1 h with rfl|h
  ·omega
  ·have:=UH (pt:=pt) h;omega
theorem aD0{α:Type}{no:Nat}{l:List α}{pt:α->List Nat}:(l≠ []->(bB l pt).length<=(bF no l pt).length):=by
 intro h;unfold bF;rw[Db (C8 h)];simp;omega
def Md.Ok (m:Md):Prop:=(∀c∈m.co,∀x∈c.bd,x.Ok)/\∀g∈m.gl,-9223372036854775808<=g.n/\g.n<=9223372036854775807
theorem aGP{α:Type}{l:List α}{pt:α->List Nat}(h:l=[]):(bB l pt).length<4294967296:=by subst h;unfold bB;rw[List.length_nil,wC U];simp
theorem tI{α:Type}{no:Nat}{l:List α}{pt:α->List Nat}(h:(bF no l pt).length<=8000):(bB l pt).length<4294967296:=by
 by_cases hl:l=[]
 ·exact aGP hl
 ·have:=aD0 (no:=no) (pt:=pt) hl;omega
theorem YK{l:Li}{a c:Int}(h:lE l a c=true)(hh:l.has=false):l=MZ:=by
 obtain⟨has,mn,mx⟩:=l;dsimp only at hh;subst hh;unfold lE at h;simp at h;obtain⟨rfl,rfl⟩:=h;rfl
theorem aJi{l:Li}{a c:Int}{pt:Li->List Nat}(before:Bool)(hpt:pt=fun l=>if before then 112::eL l else eL l)(h:lE l a c=true)(ha:a<=100000)(hc:c<=100000)(r:List Nat):UD before (bB (iA l) pt++r,false)=(l,(r,false)):=by
 subst hpt;unfold UD iA;cases hh:l.has with
 |false=>
  rw[Db V,show bB ([]:List Li) (fun l=>if before=true then 112::eL l else eL l)=uB 0 by unfold bB;simp];unfold gF;rw[FR V,YK h hh];rfl
 |true=>
  have hb:Bck (tbN before) (fun l=>if before then 112::eL l else eL l) (fun l=>lE l a c=true/\l.has=true):=by
   rintro x ⟨h1,h2⟩ t;unfold tbN;cases before
   ·exact aI6 h1 h2 ha hc t
   ·show lmN (lX (112::(eL x++t),false)).2=_;rw[uC];exact aI6 h1 h2 ha hc t
  rw[Dc rfl,wJ hb (by simp;exact⟨h,hh⟩) X];rfl
theorem aD1{m:Md}(h:jP m=true)(hO:m.Ok):zU (eZ m)=(m,([],false)):=by
 obtain⟨ty,im,fn,tb,me,gl,ex,el,co,da⟩:=m;unfold jP at h;simp only[Ap,decide_eq_true_eq]at h;obtain⟨⟨⟨⟨⟨-,hco⟩,hls⟩,htb⟩,hme⟩,hw⟩:=h;unfold mK at hls;simp only[Ap]at hls;obtain⟨⟨⟨⟨⟨⟨hty,him⟩,hfn⟩,hgl⟩,hex⟩,hel⟩,hda⟩:=hls;obtain⟨hO1,hO2⟩:=hO;dsimp only at*;unfold eZ at hw;dsimp only at hw;simp only[Ao]at hw;unfold zU;have hbd:xB (eZ ⟨ty,im,fn,tb,me,gl,ex,el,co,da⟩, !decide ((eZ ⟨ty,im,fn,tb,me,gl,ex,el,co,da⟩).take 8=headB)) 8 true=(bF 1 ty yD++(bF 2 im jI++(bF 3 fn cC++(bF 4 (iA tb) (fun l=>112::eL l)++(bF 5 (iA me) eL++(bF 6 gl xA++(bF 7 ex oK++(bF 9 el uS++(bF 10 co lD++(bF 11 da wD++ []))))))))),false):=by
  have hsp:eZ ⟨ty,im,fn,tb,me,gl,ex,el,co,da⟩=headB++(bF 1 ty yD++(bF 2 im jI++(bF 3 fn cC++(bF 4 (iA tb) (fun l=>112::eL l)++(bF 5 (iA me) eL++(bF 6 gl xA++(bF 7 ex oK++(bF 9 el uS++(bF 10 co lD++(bF 11 da wD++ [])))))))))):=by
   unfold eZ;simp only[Aq,Be]
  rw[hsp,show(headB++ _).take 8=headB from List.take_left' rfl,decide_eq_true rfl];exact UE rfl
 rw[hbd];have hfuel:∀(s:St) (m:Md),s.1.length<=(eZ ⟨ty,im,fn,tb,me,gl,ex,el,co,da⟩).length->dlN ((eZ ⟨ty,im,fn,tb,me,gl,ex,el,co,da⟩).length+1) m s=DN m s:=fun s m hs=>CZ _ _ _ _ U U
 rw[hfuel _ _ (by unfold eZ;simp only[Ao,List.length_nil];omega)];have hoc:∀c∈co,OkC c:=fun c hc=>⟨(bW hco).2 c hc,hO1 c hc,by
  have h1:=UH (pt:=lD) hc;have h2:(bB co lD).length<=(bF 10 co lD).length:=aD0 (by intro e;rw[e]at hc;cases hc);unfold bB at h2;have h3:(bB (bZ c.ls) iK++jA c.bd).length<=(lD c).length:=by unfold lD;simp
  rw[Ao]at h2;omega⟩
 rw[tH (m':=⟨ty,[],[],MZ,MZ,[],[],[],[],[]⟩) (fun e=>by rw[e];rfl) (tI (no:=1) U) (by unfold wY;rw[Dc rfl,wJ aM4 (bW hty).2 (by have:=(bW hty).1;omega)];rfl)];rw[tH (m':=⟨ty,im,[],MZ,MZ,[],[],[],[],[]⟩) (fun e=>by rw[e]) (tI (no:=2) U) (by unfold wY;rw[Db V,Dc rfl,wJ aM5 (bW him).2 (by have:=(bW him).1;omega)])];rw[tH (m':=⟨ty,im,fn,MZ,MZ,[],[],[],[],[]⟩) (fun e=>by rw[e]) (tI (no:=3) U) (by unfold wY;rw[Db V,Db V,Dc rfl,wJ aI3 (bW hfn).2 (by have:=(bW hfn).1;omega)])];have e4:iA tb=[]->tb=MZ:=fun e=>YK htb (by unfold iA at e;cases hh:tb.has;rfl;rw[hh]at e;cases e)
 have e5:iA me=[]->me=MZ:=fun e=>YK hme (by unfold iA at e;cases hh:me.has;rfl;rw[hh]at e;cases e)
 rw[tH (m':=⟨ty,im,fn,tb,MZ,[],[],[],[],[]⟩) (fun e=>by rw[e4 e]) (tI (no:=4) U) (by unfold wY;rw[Db V,Db V,Db V,Dc rfl,aJi (pt:=fun l=>112::eL l) true rfl htb V V])];rw[tH (m':=⟨ty,im,fn,tb,me,[],[],[],[],[]⟩) (fun e=>by rw[e5 e]) (tI (no:=5) U) (by unfold wY;rw[Db V,Db V,Db V,Db V,Dc rfl,aJi (pt:=eL) false rfl hme V V])];rw[tH (m':=⟨ty,im,fn,tb,me,gl,[],[],[],[]⟩) (fun e=>by rw[e]) (tI (no:=6) U) (by unfold wY;rw[Db V,Db V,Db V,Db V,Db V,Dc rfl,wJ aM7 (fun g hg=>⟨(bW hgl).2 g hg,hO2 g hg⟩) (by have:=(bW hgl).1;omega)])];rw[tH (m':=⟨ty,im,fn,tb,me,gl,ex,[],[],[]⟩) (fun e=>by rw[e]) (tI (no:=7) U) (by unfold wY;rw[Db V,Db V,Db V,Db V,Db V,Db V,Dc rfl,wJ aM6 (bW hex).2 (by have:=(bW hex).1;omega)])];rw[tH (m':=⟨ty,im,fn,tb,me,gl,ex,el,[],[]⟩) (fun e=>by rw[e]) (tI (no:=9) U) (by unfold wY;rw[Db V,Db V,Db V,Db V,Db V,Db V,Db V,Dc rfl,wJ aM8 (bW hel).2 (by have:=(bW hel).1;omega)])]
 rw[tH (m':=⟨ty,im,fn,tb,me,gl,ex,el,co,[]⟩) (fun e=>by rw[e]) (tI (no:=10) U) (by unfold wY;rw[Db V,Db V,Db V,Db V,Db V,Db V,Db V,Db V,Dc rfl,wJ aM3 hoc (by have:=(bW hco).1;omega)])];rw[tH (m':=⟨ty,im,fn,tb,me,gl,ex,el,co,da⟩) (fun e=>by rw[e]) (tI (no:=11) U) (by unfold wY;rw[Db V,Db V,Db V,Db V,Db V,Db V,Db V,Db V,Db V,Dc rfl,wJ aM9 (bW hda).2 (by have:=(bW hda).1;omega)])];exact aKy _
theorem UI{m:Md}(h:jP m=true)(hO:m.Ok):zV (eZ m)=(m,0):=by
 have h1:=aD1 h hO;have h2:(eZ m).length<=8000:=by
  unfold jP at h;simp only[Ap,decide_eq_true_eq]at h;exact h.2
 unfold zV;rw[Db U,h1,Db X,Dc ⟨h,rfl⟩]
attribute [local irreducible] SW RS RD fE eA
theorem aBV{l:List Int}{j:Nat}{k:Int}(h:l[j]? =some k):∃(init:List (List Int)) (m:Nat),bZ (l.take (j+1))=init++ [Ak (m+1) k]/\init.length+1<=j+1/\m+1<=j+1:=by
 have hj:=(Ai.1 h).1;obtain⟨h1,h2⟩:=CY _ (l.take (j+1)) rfl;have hlen:(l.take (j+1)).length=j+1:=by simp;omega
 rw[hlen]at h2;have hr:∀(rs:List (List Int)),(∀r∈rs,∃k m,r=Ak (m+1) k/\k∈l.take (j+1)/\m+1<=j+1)->rs.length<=rs.flatten.length:=by
  intro rs
  induction rs with
  |nil=>simp
  |cons r rs ih=>
   intro h;obtain⟨k,m,rfl,-,-⟩:=h r Au;have:=ih fun r hr=>h r (An _ hr)
   simp at this⊢;omega
 have hn:=hr _ h2;rw[h1,hlen]at hn;rcases List.eq_nil_or_concat (bZ (l.take (j+1)))with e|⟨init,r,e⟩
 ·rw[e]at h1;have:=congrArg List.length h1;rw[hlen]at this;simp at this
 ·rw[List.concat_eq_append]at e;rw[e]at h1 h2 hn;obtain⟨k',m,rfl,-,hm⟩:=h2 r X;have hk:k'=k:=by
   have e2:=congrArg (fun t=>t[j]?) h1;rw[Al,h]at h1;rw[List.flatten_append,List.replicate_succ']at h1;simp only[List.flatten_cons,List.flatten_nil,Be,Option.toList,<-Aq]at h1;exact(List.append_inj' h1 rfl).2|>List.cons.inj|>.1
  subst hk;exact⟨init,m,e,C8 hn,hm⟩
theorem ND{l:List Int}{j:Nat}{x:Int}{init:List (List Int)}{m:Nat}(h:bZ (l.take j)=init++ [Ak (m+1) x])(hx:l[j]? =some x):bZ (l.take (j+1))=init++ [Ak (m+1) x++ [x]]:=by
 rw[Al,hx];show bZ (l.take j++ [x])=_;rw[ES,h,List.getLast?_append];simp[List.replicate_succ]
theorem UJ{l:List Int}{j:Nat}{x k:Int}{init:List (List Int)}{m:Nat}(h:bZ (l.take j)=init++ [Ak (m+1) k])(hx:l[j]? =some x)(hk:k≠x):bZ (l.take (j+1))=init++ [Ak (m+1) k]++ [[x]]:=by
 rw[Al,hx];show bZ (l.take j++ [x])=_;rw[ES,h,List.getLast?_append];simp[List.replicate_succ,hk]
theorem UK{l:List Int}{x:Int}(hx:l[0]? =some x):bZ (l.take 1)=[[x]]:=by
 rw[Al,hx];rfl
theorem JF{r:List Int}(h:r.length<=1000):(iK r).length<=3:=by
 have:=bJ 1 r.length U;unfold iK cC;rw[Ao,oX,Bc];omega
theorem aNi(q:Nat)(vs:List Nat)(hvs:vs.length<=10000000)(r:List Int)(h1:0<r.length)(h2:r.length<=1000):SCall prog 247 [.own q 0 vs.length,.ro 1 (r.map aK) .any] [(q,.arr 5 1 (vs.map aG))]
  (fun y Y=>∃p,y=.own p 0 (vs++iK r).length/\Y=[(p,.arr 5 1 ((vs++iK r).map aG))]):=by
 have hu:=bJ 1 r.length U;obtain⟨k,hk⟩:∃k,r[(0:Int).toNat]? =some k:=⟨_,Ar (C8 h1)⟩
 refine bO 13 [0,1,4] func247 ?_;refine cV ?_;refine eK (Ac [0,1,2,4,5,6] (Ad 3 (Ad 7 (Ac [8] [])))) ?_;refine wV ?_;refine SI ?_;refine aDb ?_;refine MF ?_;refine pB [(q,.arr 5 1 (vs.map aG))] rfl call135 (eI q vs U r.length U) rfl aC aA eC ?_;rintro _ Y' ⟨r8,rfl,rfl⟩ h8;have k8:=aV h8;repeat rcases k8 with⟨_,k8⟩
 apply bC;exact aU;refine pB [(r8,.arr 5 1 ((vs++uB r.length).map aG))] rfl call132 (vE r8 (vs++uB r.length) Af k) rfl aC aA eC ?_;rintro _ Y' ⟨r12,rfl,rfl⟩ h12;have k12:=aV h12;repeat rcases k12 with⟨_,k12⟩
 refine vQ ?_;rw[show vs++uB r.length++kB k=vs++iK r by unfold iK cC;rw[Bc,Aq,show r.headD 0=k by cases r with|nil=>simp at h1|cons a t=>simpa using hk]];exact aD aE ⟨r12,by rfl,rfl⟩ aA
theorem UL:jB prog 5 247 (fun r:List Int=>.ro 1 (r.map aK) .any) iK (fun r=>0<r.length/\r.length<=1000) 3 9000000:=
 ⟨call247,fun q vs x h _ hvs=>⟨JF h.2,aNi q vs U x h.1 h.2⟩⟩
def BM (R q q0 r3:Nat) (vs:List Nat) (ls:List Int) (bd:List Ins) (init:List (List Int)) (last:List Int) (j:Nat):ASt:=
 ⟨[(0,.own q0 0 vs.length),(3,.ptr r3 0),(5,.own R 0 (init.length+1)),(10,.ro 1 (ls.map aK) .any),(11,.int .i64 ls.length),(12,.int .i64 j)],
  [(R,.arr 24 1 (init.map lV++ [[.own q 0 last.length]])),(q,.arr 3 1 (last.map aK)),(r3,.box 44 [.ro 1 (ls.map aK) .any,.ro 4 (bd.map (iv .any)) .any]),(q0,.arr 5 1 (vs.map aG))]⟩
def QB (R q0 r3:Nat) (vs:List Nat) (ls:List Int) (bd:List Ins):ASt:=
 ⟨[(0,.own q0 0 vs.length),(3,.ptr r3 0),(5,.own R 0 0),(10,.ro 1 (ls.map aK) .any),(11,.int .i64 ls.length),(12,.int .i64 (0:Nat))],
  [(R,.arr 24 1 []),(r3,.box 44 [.ro 1 (ls.map aK) .any,.ro 4 (bd.map (iv .any)) .any]),(q0,.arr 5 1 (vs.map aG))]⟩
structure RS_ where
 R:Nat
 q:Nat
 init:List (List Int)
 k:Int
 m:Nat
 j:Nat
def rSt (q0 r3:Nat) (vs:List Nat) (ls:List Int) (bd:List Ins):Sum Nat RS_->ASt
 | .inl R=>QB R q0 r3 vs ls bd
 | .inr s=>BM s.R s.q q0 r3 vs ls bd s.init (Ak (s.m+1) s.k) (s.j+1)
def rOk (q0 r3:Nat) (ls:List Int):Sum Nat RS_->Prop
 | .inl R=>Nq R r3/\Nq R q0
 | .inr s=>((Nq s.R s.q/\Nq s.R r3/\Nq s.R q0)/\Nq s.q r3/\Nq s.q q0)/\(s.init.length<=s.j/\s.m<=s.j)/\ls[s.j]? =some s.k/\bZ (ls.take (s.j+1))=s.init++ [Ak (s.m+1) s.k]
def rMs (ls:List Int):Sum Nat RS_->Nat
 | .inl _=>ls.length
 | .inr s=>ls.length-(s.j+1)
theorem uD{l:List (List AV)}{x:List AV}{n:Nat}(h:n=l.length):(l++ [x])[(((n+1:Nat):Int)-1).toNat]? =some x:=by
 subst h;rw[show(((l.length+1:Nat):Int)-1).toNat=l.length by omega];simp
theorem NE{l:List (List AV)}{x y:List AV}{n:Nat}(h:n=l.length):(l++ [x]).set (((n+1:Nat):Int)-1).toNat y=l++ [y]:=by
 subst h;rw[show(((l.length+1:Nat):Int)-1).toNat=l.length by omega,List.set_append,Db U];simp
theorem UM{Y:dI}{q:Nat}{et:TypeId}{init:List (List Int)}{last:List Int}(hg:gM Y q=some (.arr et 1 (last.map aK))):∀(i:Nat) (x x':List AV),(init.map lV++ [[AV.own q 0 last.length]])[i]? =some x->((init++ [last]).map lV)[i]? =some x'->BorL Y [q] x x':=by
 intro i x x' h1 h2;rw[Bx]at h2;rcases Br i (init.map lV).length with hlt|hge
 ·rw[Ba hlt]at h1 h2;obtain rfl:=Option.some.inj (h1.symm.trans h2);obtain⟨r,-,rfl⟩:=Bm.1 (Ah h1);exact .cons (.refl _) .nil
 ·rw[A6 hge]at h1 h2;cases hi:i-(init.map lV).length with
  |zero=>
   rw[hi]at h1 h2;cases h1;cases h2
   exact .cons (aL hg X) .nil
  |succ n=>rw[hi]at h1;cases h1
theorem NF(rs:List (List Int)):iY 1 (rs.map lV):=by
 intro x hx;obtain⟨r,-,rfl⟩:=Bm.1 hx;exact⟨rfl,by simp[lV,AV.cell]⟩
theorem UN(l:List Int)(hl:l.length<=32):(∀r∈bZ l,0<r.length/\r.length<=1000)/\(bZ l).length<=32/\(bB (bZ l) iK).length<=98:=by
 obtain⟨h1,h2⟩:=CY _ l rfl;have hr:∀(rs:List (List Int)),(∀r∈rs,∃k m,r=Ak (m+1) k/\k∈l/\m+1<=l.length)->rs.length<=rs.flatten.length:=by
  intro rs
  induction rs with
  |nil=>simp
  |cons r rs ih=>
   intro h;obtain⟨k,m,rfl,-,-⟩:=h r Au;have:=ih fun r hr=>h r (An _ hr)
   simp at this⊢;omega
 have hn:=hr _ h2;rw[h1]at hn;have h3:∀r∈bZ l,0<r.length/\r.length<=1000:=fun r hr=>by
  obtain⟨k,m,rfl,-,hm⟩:=h2 r hr;simp;omega
 have:=kZ (pt:=iK) (l:=bZ l) (c:=3) (fun r hr=>JF (h3 r hr).2) U;exact⟨h3,U,U⟩
theorem aO7(q0:Nat)(vs:List Nat)(hvs:vs.length<=9000000)(ls:List Int)(bd:List Ins)(hl:ls.length<=32)(hb:bd.length<=300)(hm:∀x∈bd,x.Ok/\cY x=true):SCall prog 151 [.own q0 0 vs.length,.agg (cQ ⟨ls,bd⟩)] [(q0,.arr 5 1 (vs.map aG))]
  (fun y Y=>∃p,y=.own p 0 (vs++lD ⟨ls,bd⟩).length/\Y=[(p,.arr 5 1 ((vs++lD ⟨ls,bd⟩).map aG))]):=by
 obtain⟨hv1,hv2,hv3⟩:=UN ls hl;have hpl:=CQ hm;have hub:=bJ 4 (bB (bZ ls) iK++jA bd).length Af;refine bO 61 [0,1,3,4,5,6,7,8,10,11,12,13,28] func151 ?_;unfold cQ;dsimp only;refine dB ?_;refine fZ fun r3 h3=> ?_;intros;refine iT ?_;refine cN ?_;refine bQ 5 24 1 V rfl V (bD fun R0 hR0=> ?_);repeat rcases hR0 with⟨_,hR0⟩
 refine jD ?_;refine sM ?_;refine lp (β:=Sum Nat RS_) (rSt q0 r3 vs ls bd) (rOk q0 r3 ls) (rMs ls) (.inl R0) (by unfold rSt QB;exact aH) (by unfold rOk;exact⟨by(exact aX),by(exact aX)⟩) ?_;intro st hst;refine aI ?_;rcases st with R|⟨R,q,init,k,m,j⟩
 ·obtain⟨hR1,hR2⟩:=hst;unfold rSt QB;refine jD ?_;refine sG ?_;refine aB rfl ?_ ?_<;>intro g3
  ·obtain⟨x,hx⟩:∃x,ls[0]? =some x:=⟨_,Ar (by simp at g3;omega)⟩
   have h0:0<ls.length:=(Ai.1 hx).1;have hx':ls[(((0:Nat)):Int).toNat]? =some x:=hx;refine dG ?_;refine mD ?_;refine pN ?_;refine Cx ?_;rw[show decide ((0:Int)<((0:Nat):Int))=false from rfl];refine qI ?_;refine aJO ?_;refine GG ?_;refine GH ?_;refine jZ ?_;refine aC5 ?_;refine qO ?_;refine kV ?_;refine eN fun r45 h45=> ?_;intros;refine eN fun r46 h46=> ?_;intros;refine kD [[AV.own r45 0 1]] 1 ?_;refine bG fun r47 h47=> ?_;intros;refine iT ?_;refine XU ?_;refine⟨.inr ⟨r47,r45,[],x,0,0⟩,⟨⟨⟨Ae r47 r45,Ae r47 r3,Ae r47 q0⟩,Ae r45 r3,Ae r45 q0⟩,⟨Am _,A3 _⟩,hx,UK hx⟩,by show ls.length-(0+1)<ls.length;have:=(Ai.1 hx).1;omega, ?_⟩;dsimp only;unfold BM;exact aH
  have hls:ls=[]:=by cases ls with|nil=>rfl|cons a t=>simp at g3
  refine TO (j:=5) (v':=.ro 1 ((bZ ls).map lV) .any) rfl aY (by rw[hls];exact aL bR rfl) ?_;refine dG ?_;refine cw [] call246 (UA UL V (bZ ls) hv1 U U) rfl aC aA ?_;rintro _ Y' ⟨r50,rfl,rfl⟩ h50
  replace h50:=gE h50;repeat rcases h50 with⟨_,h50⟩
  refine fF ?_;refine lT ?_;refine cw [(r50,.arr 5 1 ((bB (bZ ls) iK).map aG))] call248 (TV r50 (bB (bZ ls) iK) U bd U hm) rfl aC aA ?_;rintro _ Y' ⟨r54,rfl,rfl⟩ h54;have k54:=aV h54;repeat rcases k54 with⟨_,k54⟩
  refine fF ?_;have hPl:(bB (bZ ls) iK++jA bd).length<=61000:=by simp;omega
  have hcd:lD ⟨ls,bd⟩=uB (bB (bZ ls) iK++jA bd).length++(bB (bZ ls) iK++jA bd):=rfl;rw[hcd];generalize bB (bZ ls) iK++jA bd=P at hPl hub⊢;refine kV ?_;refine vP ?_;refine cw [(q0,.arr 5 1 (vs.map aG))] call135 (eI q0 vs U P.length U) rfl aC aA ?_;rintro _ Y' ⟨r58,rfl,rfl⟩ h58;have k58:=aV h58;repeat rcases k58 with⟨_,k58⟩
  refine AX ?_;refine kD ((vs++uB P.length++P).map aG) (vs++uB P.length++P).length ?_;refine bG fun r60 h60=> ?_;intros;refine cN ?_;rw[Aq];exact aD aE ⟨r60,by rfl,rfl⟩ aA
 ·obtain⟨⟨⟨hq1,hq2,hq3⟩,hq4,hq5⟩,⟨hij,hmj⟩,hkj,hru⟩:=hst;dsimp only at hq1 hq2 hq3 hq4 hq5 hkj hru hij hmj;have hrl:(Ak (m+1) k).length=m+1:=List.length_replicate;unfold rSt BM;dsimp only;refine jD ?_;refine sG ?_;refine aB rfl ?_ ?_<;>intro g3
  ·have hlt:j+1<ls.length:=by simp at g3;omega
   obtain⟨x,hx⟩:=Aa ls (j+1) hlt
   have hkj':ls[(((j+1:Nat):Int)-1).toNat]? =some k:=by rw[show(((j+1:Nat):Int)-1).toNat=j by omega];exact hkj
   refine dG ?_;refine mD ?_;refine pN ?_;refine Cx ?_;refine qI ?_;refine aJO ?_;refine GG ?_;refine GH ?_;refine jZ ?_;refine aC5 ?_;refine qO ?_;refine aB rfl ?_ ?_<;>intro g5
   ·obtain rfl:k=x:=C8 g5
    have hel:=uD (l:=init.map lV) (x:=[AV.own q 0 (Ak (m+1) k).length]) (n:=init.length) X;have hsn:=ND hru hx;refine AB ?_;refine tN ?_;refine LG ?_;refine vP ?_;refine tN ?_;refine mD ?_;refine B4 ?_;refine eN fun r40 h40=> ?_;intros;refine kD ((Ak (m+1) k++ [k]).map aK) (Ak (m+1) k++ [k]).length ?_;refine bG fun r41 h41=> ?_;intros;refine z15 ?_;refine SN ?_;refine iM ?_;have hse:=fun y=>NE (l:=init.map lV) (x:=[AV.own q 0 (Ak (m+1) k).length]) (y:=y) (n:=init.length) X
    rw[hse];refine SX ?_;first|(refine⟨.inr ⟨R,r41,init,k,m+1,j+1⟩,⟨⟨⟨Ae R r41,hq2,hq3⟩,Ae r41 r3,Ae r41 q0⟩,⟨by show init.length<=j+1;omega,by show m+1<=j+1;omega⟩,hx,by rw[List.replicate_succ'];exact hsn⟩,by show ls.length-(j+1+1)<ls.length-(j+1);omega, ?_⟩;dsimp only;(try unfold BM);(try dsimp only);rw[List.replicate_succ' (n:=m+1)];exact aH)|(refine⟨.inr ⟨r47,r45,init++ [Ak (m+1) k],x,0,j+1⟩,⟨⟨⟨Ae r47 r45,Ae r47 r3,Ae r47 q0⟩,Ae r45 r3,Ae r45 q0⟩,⟨by show(init++ [Ak (m+1) k]).length<=j+1;simp;omega,Am _⟩,hx,hsn⟩,by show ls.length-(j+1+1)<ls.length-(j+1);omega, ?_⟩;dsimp only;(try unfold BM);(try dsimp only);rw[show(init++ [Ak (m+1) k]).length=init.length+1 by simp];exact aH)
   have hkx:k≠x:=by intro e;subst e;simp at g5
   have hsn:=UJ hru hx hkx;refine dO (aAH (r:=R) (q:=q) (es':=(init++ [Ak (m+1) k]).map lV) bK aY X (NF _) (UM bR)) ?_;refine cJ ?_;refine z1 ?_;refine bD fun r45 h45=> ?_;repeat rcases h45 with⟨_,h45⟩
   refine z1 ?_;refine bD fun r46 h46=> ?_;repeat rcases h46 with⟨_,h46⟩
   refine kD ((init++ [Ak (m+1) k]).map lV++ [[AV.own r45 0 1]]) (init.length+1+1) ?_ (hby:=by omega);refine bG fun r47 h47=> ?_;intros;refine iT ?_;refine XU ?_;first|(refine⟨.inr ⟨R,r41,init,k,m+1,j+1⟩,⟨⟨⟨Ae R r41,hq2,hq3⟩,Ae r41 r3,Ae r41 q0⟩,⟨by show init.length<=j+1;omega,by show m+1<=j+1;omega⟩,hx,by rw[List.replicate_succ'];exact hsn⟩,by show ls.length-(j+1+1)<ls.length-(j+1);omega, ?_⟩;dsimp only;(try unfold BM);(try dsimp only);rw[List.replicate_succ' (n:=m+1)];exact aH)|(refine⟨.inr ⟨r47,r45,init++ [Ak (m+1) k],x,0,j+1⟩,⟨⟨⟨Ae r47 r45,Ae r47 r3,Ae r47 q0⟩,Ae r45 r3,Ae r45 q0⟩,⟨by show(init++ [Ak (m+1) k]).length<=j+1;simp;omega,Am _⟩,hx,hsn⟩,by show ls.length-(j+1+1)<ls.length-(j+1);omega, ?_⟩;dsimp only;(try unfold BM);(try dsimp only);rw[show(init++ [Ak (m+1) k]).length=init.length+1 by simp];exact aH)
  have hjl:j+1=ls.length:=by have:=(Ai.1 hkj).1;simp at g3;omega
  rw[hjl,Aw]at hru;refine dO (aAH (r:=R) (q:=q) (es':=(bZ ls).map lV) bK aY (by rw[hru];simp) (NF _) (by rw[hru];exact UM bR)) ?_;refine TO (j:=5) (v':=.ro 1 ((bZ ls).map lV) .any) rfl aY (aL bR (by rw[hru];simp)) ?_;refine dG ?_;refine cw [] call246 (UA UL V (bZ ls) hv1 U U) rfl aC aA ?_;rintro _ Y' ⟨r50,rfl,rfl⟩ h50
  replace h50:=gE h50;repeat rcases h50 with⟨_,h50⟩
  refine fF ?_;refine lT ?_;refine cw [(r50,.arr 5 1 ((bB (bZ ls) iK).map aG))] call248 (TV r50 (bB (bZ ls) iK) U bd U hm) rfl aC aA ?_;rintro _ Y' ⟨r54,rfl,rfl⟩ h54;have k54:=aV h54;repeat rcases k54 with⟨_,k54⟩
  refine fF ?_;have hPl:(bB (bZ ls) iK++jA bd).length<=61000:=by simp;omega
  have hcd:lD ⟨ls,bd⟩=uB (bB (bZ ls) iK++jA bd).length++(bB (bZ ls) iK++jA bd):=rfl;rw[hcd];generalize bB (bZ ls) iK++jA bd=P at hPl hub⊢;refine kV ?_;refine vP ?_;refine cw [(q0,.arr 5 1 (vs.map aG))] call135 (eI q0 vs U P.length U) rfl aC aA ?_;rintro _ Y' ⟨r58,rfl,rfl⟩ h58;have k58:=aV h58;repeat rcases k58 with⟨_,k58⟩
  refine AX ?_;refine kD ((vs++uB P.length++P).map aG) (vs++uB P.length++P).length ?_;refine bG fun r60 h60=> ?_;intros;refine cN ?_;rw[Aq];exact aD aE ⟨r60,by rfl,rfl⟩ aA
theorem aAT:jB prog 5 151 (fun x=>.agg (cQ x)) lD (fun c=>uA c=true/\∀x∈c.bd,x.Ok) 61000 9000000:=
 ⟨call151,fun q vs x h _ hvs=>by
  obtain⟨ls,bd⟩:=x;obtain⟨h,hO⟩:=h;unfold uA at h;simp only[Ap]at h;obtain⟨⟨h1,h2⟩,h3⟩:=h;obtain⟨k1,k2⟩:=bW h2;obtain⟨k3,k4⟩:=bW h3;have hm:∀x∈bd,x.Ok/\cY x=true:=fun x hx=>⟨hO x hx,k4 x hx⟩
  obtain⟨hv1,hv2,hv3⟩:=UN ls U;have hpl:=CQ hm;have hb:bd.length<=300:=by omega
  have hub:=bJ 4 (bB (bZ ls) iK++jA bd).length Af;exact⟨by unfold lD;simp at hub⊢;omega,aO7 q vs hvs ls bd U hb hm⟩⟩
theorem qX{P:Program}{t8:TypeId}{f:FuncId}{α:Type}{ar:α->AV}{pt:α->List Nat}{ok:α->Prop}{c B:Nat}(hf:jB P t8 f ar pt ok c B)(hB:1<=B){l:List α}(hl:∀x∈l,ok x)(hn:l.length<=16)(hc:c<=100000)(no:Nat):(bF no l pt).length<=10+16*c:=by
 have h1:=kZ (pt:=pt) (l:=l) (c:=c) (fun x hx=>(hf.2 0 [0] x (hl x hx) X hB).1) U;have h2:l.length*c<=16*c:=Bq c hn;have h3:=bJ 4 (bB l pt).length U;unfold bF;split
 ·simp
 ·simp;omega
def nC (m:Md):Bool:=(m.co.length==m.fn.length&&cI m.co 16 uA)&&mK m&&lE m.tb 16 1000&&lE m.me 16 65536
theorem vF(m:Md):jP m=(nC m&&decide ((eZ m).length<=8000)):=rfl
theorem QC{l:Li}{a c:Int}(h:lE l a c=true)(ha:a<=100000)(hc:c<=100000):(∀x∈iA l,UC x)/\(iA l).length<=1:=by
 obtain⟨has,mn,mx⟩:=l;cases has with
 |false=>exact⟨by simp[iA],by simp[iA]⟩
 |true=>
  unfold lE at h;simp only[Dd,Ap,decide_eq_true_eq]at h;refine⟨fun x hx=> ?_,by simp[iA]⟩;obtain rfl:x=⟨true,mn,mx⟩:=by simpa[iA]using hx
  unfold UC;dsimp only;omega
theorem DA(m:Md)(h:nC m=true)(hO:m.Ok):SCall prog 56 [.agg (aM m)] [] (fun y Y=>∃r,y=.own r 0 (eZ m).length/\Y=[(r,.arr 5 1 ((eZ m).map aG))]):=by
 obtain⟨ty,im,fn,tb,me,gl,ex,el,co,da⟩:=m;unfold nC at h;simp only[Ap]at h;obtain⟨⟨⟨⟨-,hco⟩,hls⟩,htb⟩,hme⟩:=h;unfold mK at hls;simp only[Ap]at hls;obtain⟨⟨⟨⟨⟨⟨hty,him⟩,hfn⟩,hgl⟩,hex⟩,hel⟩,hda⟩:=hls;obtain⟨hO1,hO2⟩:=hO;dsimp only at*;obtain⟨a1,a2⟩:=bW hty;obtain⟨b1,b2⟩:=bW him;obtain⟨c1,c2⟩:=bW hfn;obtain⟨d1,d2⟩:=bW hgl;obtain⟨e1,e2⟩:=bW hex;obtain⟨f1,f2⟩:=bW hel;obtain⟨g1,g2⟩:=bW hda;obtain⟨i1,i2⟩:=bW hco;obtain⟨t2,t1⟩:=QC htb V V;obtain⟨u2,u1⟩:=QC hme V V;have d2':∀g∈gl,nT g.kd g.n=true/\ -9223372036854775808<=g.n/\g.n<=9223372036854775807:=fun g hg=>⟨d2 g hg,hO2 g hg⟩
 have i2':∀c∈co,uA c=true/\∀x∈c.bd,x.Ok:=fun c hc=>⟨i2 c hc,hO1 c hc⟩
 have L1:=qX aAJ V a2 U V 1;have L2:=qX aAK V b2 U V 2;have L3:=qX JD V c2 U V 3;have L4:=qX aAN V t2 U V 4;have L5:=qX aAM V u2 U V 5;have L6:=qX aAP V d2' U V 6;have L7:=qX aAL V e2 U V 7;have L9:=qX aAO V f2 U V 9;have L10:=qX aAT V i2' U V 10;have hW:eZ ⟨ty,im,fn,tb,me,gl,ex,el,co,da⟩=headB++bF 1 ty yD++bF 2 im jI++bF 3 fn cC++bF 4 (iA tb) (fun l=>112::eL l)++bF 5 (iA me) eL++bF 6 gl xA++bF 7 ex oK++bF 9 el uS++bF 10 co lD++bF 11 da wD:=rfl;rw[hW];have hH:headB.length=8:=rfl;refine bO 48 [0,1,2,3] func56 ?_;unfold aM;dsimp only;refine dB ?_;refine fZ fun r1 h1=> ?_;intros;refine iT ?_;refine eN fun r4 h4=> ?_;intros;refine cvm (len:=8) bK V ?_;refine cN ?_;rw[show([[.int .u8 0],[.int .u8 97],[.int .u8 115],[.int .u8 109],[.int .u8 1],[.int .u8 0],[.int .u8 0],[.int .u8 0]]:List (List AV))=headB.map aG from rfl,show AV.own r4 0 8=AV.own r4 0 headB.length from rfl];refine lT ?_;refine cw [(r4,.arr 5 1 (headB.map aG))] call129 (aKq aAJ V r4 headB 1 V ty a2 U U U) rfl aC aA ?_;rintro _ Y' ⟨r9,rfl,rfl⟩ h9;have k9:=aV h9;repeat rcases k9 with⟨_,k9⟩
 refine fF ?_;generalize bF 1 ty yD=S1 at L1⊢;refine lT ?_;refine cw [(r9,.arr 5 1 ((headB++S1).map aG))] call133 (aKr aAK V r9 (headB++S1) 2 V im b2 U Af U) rfl aC aA ?_;rintro _ Y' ⟨r13,rfl,rfl⟩ h13;have k13:=aV h13;repeat rcases k13 with⟨_,k13⟩
 refine fF ?_;generalize bF 2 im jI=S2 at L2⊢;refine lT ?_;refine cw [(r13,.arr 5 1 ((headB++S1++S2).map aG))] call137 (aGM JD V r13 (headB++S1++S2) 3 V fn c2 U Af U) rfl aC aA ?_;rintro _ Y' ⟨r17,rfl,rfl⟩ h17;have k17:=aV h17;repeat rcases k17 with⟨_,k17⟩
 refine fF ?_;generalize bF 3 fn cC=S3 at L3⊢;refine fO ?_;refine EF ?_;refine jY ?_;refine cw [] call139 (UB tb) rfl aC aA ?_;rintro _ Y' ⟨q21,rfl,rfl⟩ h21
 replace h21:=gE h21;repeat rcases h21 with⟨_,h21⟩
 apply aR;exact aU;refine iE (j:=21) rfl aY (aL bR X) ?_;refine cw [(r17,.arr 5 1 ((headB++S1++S2++S3).map aG))] call138 (aDT aAN V r17 (headB++S1++S2++S3) 4 V (iA tb) t2 U Af U) rfl aC aA ?_;rintro _ Y' ⟨r22,rfl,rfl⟩ h22;have k22:=aV h22;repeat rcases k22 with⟨_,k22⟩
 refine fF ?_;generalize bF 4 (iA tb) (fun l=>112::eL l)=S4 at L4⊢;refine fO ?_;refine EF ?_;refine jY ?_;refine cw [] call139 (UB me) rfl aC aA ?_;rintro _ Y' ⟨q26,rfl,rfl⟩ h26
 replace h26:=gE h26;repeat rcases h26 with⟨_,h26⟩
 apply aR;exact aU;refine iE (j:=26) rfl aY (aL bR X) ?_;refine cw [(r22,.arr 5 1 ((headB++S1++S2++S3++S4).map aG))] call138 (aDT aAM V r22 (headB++S1++S2++S3++S4) 5 V (iA me) u2 U Af U) rfl aC aA ?_;rintro _ Y' ⟨r27,rfl,rfl⟩ h27;have k27:=aV h27;repeat rcases k27 with⟨_,k27⟩
 refine fF ?_;generalize bF 5 (iA me) eL=S5 at L5⊢;refine lT ?_;refine cw [(r27,.arr 5 1 ((headB++S1++S2++S3++S4++S5).map aG))] call142 (aKs aAP V r27 (headB++S1++S2++S3++S4++S5) 6 V gl d2' U Af U) rfl aC aA ?_;rintro _ Y' ⟨r31,rfl,rfl⟩ h31;have k31:=aV h31;repeat rcases k31 with⟨_,k31⟩
 refine fF ?_;generalize bF 6 gl xA=S6 at L6⊢;refine lT ?_;refine cw [(r31,.arr 5 1 ((headB++S1++S2++S3++S4++S5++S6).map aG))] call145 (aKt aAL V r31 (headB++S1++S2++S3++S4++S5++S6) 7 V ex e2 U Af U) rfl aC aA ?_;rintro _ Y' ⟨r35,rfl,rfl⟩ h35;have k35:=aV h35;repeat rcases k35 with⟨_,k35⟩
 refine fF ?_;generalize bF 7 ex oK=S7 at L7⊢;refine lT ?_;refine cw [(r35,.arr 5 1 ((headB++S1++S2++S3++S4++S5++S6++S7).map aG))] call147 (aKu aAO V r35 (headB++S1++S2++S3++S4++S5++S6++S7) 9 V el f2 U Af U) rfl aC aA ?_;rintro _ Y' ⟨r39,rfl,rfl⟩ h39;have k39:=aV h39;repeat rcases k39 with⟨_,k39⟩
 refine fF ?_;generalize bF 9 el uS=S9 at L9⊢;refine lT ?_;refine cw [(r39,.arr 5 1 ((headB++S1++S2++S3++S4++S5++S6++S7++S9).map aG))] call150 (aKv aAT V r39 (headB++S1++S2++S3++S4++S5++S6++S7++S9) 10 V co i2' U Af U) rfl aC aA ?_;rintro _ Y' ⟨r43,rfl,rfl⟩ h43;have k43:=aV h43;repeat rcases k43 with⟨_,k43⟩
 refine fF ?_;generalize bF 10 co lD=S10 at L10⊢;refine lT ?_;refine cw [(r43,.arr 5 1 ((headB++S1++S2++S3++S4++S5++S6++S7++S9++S10).map aG))] call152 (aKw aGN V r43 (headB++S1++S2++S3++S4++S5++S6++S7++S9++S10) 11 V da g2 U Af U) rfl aC aA ?_;rintro _ Y' ⟨r47,rfl,rfl⟩ h47;have k47:=aV h47;repeat rcases k47 with⟨_,k47⟩
 refine fF ?_;exact aD aE ⟨r47,by rfl,rfl⟩ aA
def mT (m:Md) (lv:AV) (p q:Nat) (vs:List Int) (cs:List Ct) (b:Bool):List AV:=[.ro 2 (m.ty.map cD) .any,.ro 3 (m.im.map eE) .any,.ro 1 (m.fn.map aK) .any,.bool m.tb.has,.int .i64 m.tb.mn,.int .i64 m.tb.mx,.bool m.me.has,.int .i64 m.me.mn,.int .i64 m.me.mx,
 .ro 3 (m.gl.map dX) .any,.ro 2 (m.ex.map dD) .any,.ro 2 (m.el.map dP) .any,.ro 2 (m.co.map cQ) .any,.ro 2 (m.da.map dV) .any,lv,.own p 0 vs.length,.own q 0 cs.length,.bool b]
def dL (r p q:Nat) (m:Md) (lv:AV) (s:PS):dI:=[(r,.box 128 (mT m lv p q s.vs s.cs s.bad)),(p,.arr 3 1 (s.vs.map aK)),(q,.arr 137 4 (s.cs.map nL))]
theorem aKz{e:Nat}{Y1 Y:dI}{C G:Prop}(h:(∃q∈Y1,q.1=e)\/Fresh e Y)(k:C)(g:C9 C->Fresh e (eD (Y1.map (·.1)) Y)->G:=by intro k q;unfold dL at q;simp(disch:=(first|(simp only[List.mem_cons,List.not_mem_nil,true_or,or_true,or_false];done)|(focus (simp only[List.mem_cons,List.not_mem_nil,or_false,not_or];(repeat' (first|apply And.intro|(exact aX)));done))|omega)) only[List.map_cons,List.map_nil,lF,nG,pK,nH,aN,aQ,and_true]at q;revert q;(repeat refine aC3 ?_);exact k.h):G:=g ⟨k⟩ (rJ h)
structure PS.Gd (s:PS):Prop extends s.Ok where
 bv:s.vs.length<=1000000
 bc:s.cs.length<=1000000
theorem PS.Gd.need {s:PS}(h:s.Gd)(b:Bool):(dA s b).Gd:=⟨h.toOk.need b,h.bv,h.bc⟩
theorem PS.Gd.pop {s:PS}(h:s.Gd)(w:Int):(cO s w).2.Gd:=⟨h.toOk.pop w,A4 (vD s w) h.bv,by rw[BK];exact h.bc⟩
theorem PS.Gd.pops {s:PS}(h:s.Gd)(ks:List Int):(dQ s ks).Gd:=⟨h.toOk.pops ks,A4 (pS s ks) h.bv,by rw[qU];exact h.bc⟩
def Nm (r p q:Nat):Prop:=Nq p r/\Nq q r/\Nq q p
theorem cA{P:Prop}(h:P:=by(try unfold dL mT);(try dsimp only);exact aA):P:=h
theorem aD2{P:Prop}(h:P:=by(try unfold dL mT);(try dsimp only);exact eC):P:=h
section
variable {r p q : Nat} {m : Md} {lv : AV}
theorem lA(hN:Nm r p q)(s:PS)(ok:Bool):SCall prog 189 [.ptr r 0,.bool ok] (dL r p q m lv s) (fun _ Y=>Y=dL r p q m lv (dA s ok)):=by
 obtain⟨vs,zs,b⟩:=s;obtain⟨n1,n2,n3⟩:=hN;refine bO 15 [0,1] func189 ?_;unfold dL mT;dsimp only;refine cJ ?_;refine AY ?_;refine kH ?_;refine AW ?_;refine jG ?_;refine oJ ?_;refine bS ?_;apply aD;exact aE
 ·rfl
 ·exact aA
theorem mV(hN:Nm r p q)(s:PS)(hs:s.vs.length<=1000000)(ks:List Int)(hk:ks.length<=1000):SCall prog 190 [.ptr r 0,.ro 1 (ks.map aK) .any] (dL r p q m lv s) (fun _ Y=>∃e,Nm r e q/\Y=dL r e q m lv (gB s ks)):=by
 obtain⟨vs,zs,b⟩:=s;obtain⟨n1,n2,n3⟩:=hN;dsimp only at hs;refine bO 13 [0,1] func190 ?_;unfold dL mT;dsimp only;refine cJ ?_;refine xM ?_;refine kD ((vs++ks).map aK) (vs++ks).length ?_;refine bG fun r10 h10=> ?_;intros;refine oJ ?_;refine bS ?_;exact aD aE ⟨r10,by exact⟨by(exact aX),by(exact aX),by(exact aX)⟩,rfl⟩ aA
theorem vG(k:Int):SCall prog 191 [.int .i64 k] [] (fun y Y=>y=.ro 1 ((aZ k).map aK) .any/\Y=[]):=by
 refine bO 7 [0,2,4] func191 ?_;refine fK ?_;refine sH ?_;refine aB rfl ?_ ?_<;>intro g1
 ·rw[show aZ k=[]from Dc g1];refine tR ?_;refine dO (fH (j:=2) (y:=.ro 1 (([]:List Int).map aK) .any) rfl VLe.empty) ?_;refine aI ?_;exact aD aE ⟨by rfl,rfl⟩ aA
 rw[show aZ k=[k]from Db (by simp[g1])];refine dG ?_;refine eN fun r6 h6=> ?_;intros;refine PA ?_;refine TO (j:=2) rfl aY (aL bR X) ?_;refine aI ?_;exact aD aE ⟨by rfl,rfl⟩ aA
theorem yJ(i:List Ct)(t:Ct):(i++ [t]).length=i.length+1:=by simp
theorem JG(i:List Ct)(t:Ct):(i++ [t]).map nL=i.map nL++ [nL t]:=by simp
theorem QD(i:List Int)(t:Int):(i++ [t]).length=i.length+1:=by simp
theorem aD3(i:List Int)(t:Int):(i++ [t]).map aK=i.map aK++ [aK t]:=by simp
theorem rV{n:Nat}:(((n+1:Nat):Int)-1).toNat-0=n:=by omega
theorem qE(hN:Nm r p q)(s:PS)(h:s.Gd)(w:Int):SCall prog 188 [.ptr r 0,.int .i64 w] (dL r p q m lv s) (fun y Y=>y=.int .i64 (cO s w).1/\Y=dL r p q m lv (cO s w).2):=by
 obtain⟨i,hi⟩:=h.cut;have h0:=h.toOk0;have hbv:=h.bv;have hbc:=h.bc;obtain⟨vs,zs,b⟩:=s;dsimp only at hi hbv hbc;generalize PS.top ⟨vs,zs,b⟩=t at hi;subst hi;rw[yJ]at hbc;obtain⟨-,hh,-⟩:=h0.split;obtain⟨n1,n2,n3⟩:=hN;have hel:=uD (l:=i.map nL) (x:=nL t) (n:=i.length) X;refine bO 71 [0,1,4,5,6,26,59] func188 ?_;unfold dL mT;dsimp only;rw[yJ,JG];refine cV ?_;refine eK (Ac [0,1,2,3,4,5,6,7,8,9,10,11] (Ad 12 (Ad 13 []))) ?_;refine lS ?_;refine tT ?_;refine vU ?_;apply dal;rfl;infer_instance;rfl;exact rK;refine gD fun r5 h5=> ?_;intros;refine vW ?_;refine eK (Ac [0,1,2,3,4,5,6,7] []) ?_;refine FL ?_;refine eQ ?_;refine z79 ?_;refine oI ?_;refine aB rfl ?_ ?_<;>intro g2
 ·have hP:cO ⟨vs,i++ [t],b⟩ w=(w,dA ⟨vs,i++ [t],b⟩ t.dd):=by unfold cO;rw[IY,Dc g2]
  rw[hP];refine oA ?_;refine cw (dL r p q m lv ⟨vs,i++ [t],b⟩) call189 (lA ⟨n1,n2,n3⟩ _ t.dd) rfl aC cA ?_;rintro _ Y' rfl h30;refine nR ?_;refine fO ?_;refine cN ?_;exact aD aE ⟨by rfl,rfl⟩ aA
 have hl:vs.length≠t.ht:=by intro e;rw[e]at g2;simp at g2
 obtain⟨ws,g,rfl⟩:∃ws g,vs=ws++ [g]:=by
  rcases List.eq_nil_or_concat vs with e|⟨ws,g,e⟩
  ·subst e;simp at hh hl;omega
  ·exact⟨ws,g,by rw[e,List.concat_eq_append]⟩
 have hel2:=uD (l:=ws.map aK) (x:=aK g) (n:=ws.length) X;rw[QD]at hbv;rw[QD,aD3];refine aI ?_;refine C5 ?_;refine lS ?_;refine tT ?_;refine z56 ?_;refine MF ?_;refine tQ ?_;refine Cf ?_;refine EG ?_;refine tT ?_;refine z25 ?_;refine XF ?_;refine IH ?_;refine vW ?_;rw[rV];refine dO (pE (o:=p) ws.length bK) ?_;rw[show List.take ws.length (ws.map aK++ [aK g])=ws.map aK by rw[List.take_left' X]];refine fO ?_;refine sH ?_;refine aB rfl ?_ ?_<;>intro g7
 ·have hP:cO ⟨ws++ [g],i++ [t],b⟩ w=(w,⟨ws,i++ [t],b⟩):=by unfold cO;rw[IY,Db (C8 g2)];simp at g7;simp[g7]
  rw[hP];refine fC ?_;exact aD aE ⟨by rfl,rfl⟩ aA
 have hP:cO ⟨ws++ [g],i++ [t],b⟩ w=(g,dA ⟨ws,i++ [t],b⟩ (if(w==0)=true then true else(g==w))):=by unfold cO;rw[IY,Db (C8 g2)];simp at g7;simp[g7]
 rw[hP];refine cJ ?_;refine Ch ?_;refine kH ?_;refine jZ ?_;refine aC5 ?_;refine jG ?_;refine cw (dL r p q m lv ⟨ws,i++ [t],b⟩) call189 (lA ⟨n1,n2,n3⟩ _ (if(w==0)=true then true else(g==w))) rfl aC cA ?_;rintro _ Y' rfl h69;refine nR ?_;refine fO ?_;refine cN ?_;exact aD aE ⟨by rfl,rfl⟩ aA
theorem lY(hN:Nm r p q)(s:PS)(h:s.Gd)(ks:List Int)(hkl:ks.length<=100000):SCall prog 192 [.ptr r 0,.ro 1 (ks.map aK) .any] (dL r p q m lv s) (fun _ Y=>Y=dL r p q m lv (dQ s ks)):=by
 obtain⟨n1,n2,n3⟩:=hN;refine bO 18 [0,1,4,9] func192 ?_;unfold dL mT
 (try dsimp only);refine dG ?_;refine vP ?_;refine tN ?_;refine cN ?_;refine lp (β:=Nat×PS) (fun b=>⟨[(0,.ptr r 0),(1,.ro 1 (ks.map aK) .any),(4,.int .i64 ((b.1:Int)-1))],dL r p q m lv b.2⟩) (fun b=>b.1<=ks.length/\b.2.Gd/\dQ b.2 (ks.take b.1)=dQ s ks) (fun b=>b.1) (ks.length,s) (by unfold dL mT;(try dsimp only);exact aH) ⟨A3 _,h,by rw[Aw]⟩ ?_;rintro⟨j,S⟩ ⟨hj,hS,hP⟩;dsimp only at hj hS hP⊢;unfold dL mT
 (try dsimp only);refine dG ?_;refine IL ?_;refine aB rfl ?_ ?_<;>intro g1
 ·obtain⟨j,rfl⟩:∃j',j=j'+1:=⟨j-1,by simp at g1;omega⟩
  obtain⟨k,hk⟩:=Aa ks j U
  have hk':ks[(((j+1:Nat):Int)-1).toNat]? =some k:=by rw[show(((j+1:Nat):Int)-1).toNat=j by omega];exact hk
  refine cJ ?_;refine nX ?_;refine cw (dL r p q m lv S) call188 (qE ⟨n1,n2,n3⟩ S hS k) rfl aC cA ?_;rintro _ Y' ⟨rfl,rfl⟩ h17;refine nR ?_;refine fO ?_;refine tN ?_;refine cN ?_;refine⟨(j,(cO S k).2),⟨by show j<= _;omega,hS.pop k,by rw[<-hP,Al,hk];show _=dQ S (ks.take j++ [k]);rw[aBO]⟩,by show j<j+1;omega, ?_⟩;dsimp only;rw[show(((j+1:Nat):Int)-1-1)=(j:Int)-1 by omega];exact aH
 obtain rfl:j=0:=by simp at g1;omega
 rw[show dQ s ks=S by rw[<-hP];rfl];refine aI ?_;refine bS ?_;apply aD;exact aE
 ·rfl
 ·exact aA
end
end Go.Proofs.YtjpdadobblffmaaGreat
namespace Go.Proofs.YtjpdadobblffmaaGreat
open Go.RowKit Go.ChangeShapes Go.WideShapes Go.ChangeAt Go.Deep
def bY (P:Program) (f:FuncId) (caps:List AV) (Y:dI) {α:Type} (ar:α->AV) (p:α->Bool) (ok:α->Prop):Prop:=
 (∀args w,(callFunc f args).run P w=.ok (.enter f args) w)/\∀x,ok x->SCall P f ([]++ [ar x]++caps) Y (fun r Y'=>r=.bool (p x)/\Y'=Y)
theorem aKA{f:FuncId}{caps:List AV}{Y:dI}{p:FT->Bool}{ok:FT->Prop}(hp:bY prog f caps Y (fun x=>.agg (cD x)) p ok)(l:List FT)(hok:∀x∈l,ok x):SCall prog 309 [.ro 2 (l.map cD) .any,.fn (.func f) [] caps] Y (fun x Y'=>∃m:Int,x=.int .i64 m/\decide (0<=m)=l.any p/\Y'=Y):=by
 refine bO 19 [0,1,4,5,7,8,9,16] func309 ?_;refine iG (i:=0) rfl fun hm=> ?_
 rw[Az]at hm;unfold maxLen at hm;refine tU ?_;refine lp (β:=Nat) (fun j=>⟨[(0,.ro 2 (l.map cD) .any),(1,.fn (.func f) [] caps),(7,.int .i64 l.length),(8,.int .i64 j)],Y⟩) (fun j=>j<=l.length/\(l.take j).any p=false) (fun j=>l.length-j) 0 ?_ ⟨Am _,rfl⟩ ?_
 ·exact aH
 rintro j ⟨hj,ht⟩;refine gN ?_;refine aB rfl (fun h1=> ?_) (fun h1=> ?_)
 ·have hlt:j<l.length:=by simp at h1;omega
  obtain⟨x,hx⟩:=Aa l j hlt
  refine vS ?_;refine sI ?_;refine qY Y rfl hp.1 (hp.2 x (hok x (Ah hx))) rfl ?_ ?_ ?_
  ·exact aC
  ·exact fun _ h=>h
  rintro r Y' ⟨rfl,rfl⟩-;rw[eF,Be];refine iM ?_;refine aB rfl (fun h2=> ?_) (fun h2=> ?_)
  ·refine fC ?_;apply aD;exact aE
   ·refine⟨j,rfl, ?_,rfl⟩;rw[decide_eq_true U];exact(List.any_eq_true.2 ⟨x,Ah hx,h2⟩).symm
   ·exact aA
  ·refine jH ?_;refine⟨j+1,⟨U, ?_⟩,U, ?_⟩
   ·rw[Al,hx,List.any_append,ht];simp[h2]
   ·exact aH
 ·refine cV ?_;apply aD;exact aE
  ·simp at h1;rw[Aj U]at ht;exact⟨-1,rfl,by rw[ht];rfl,rfl⟩
  ·exact aA
theorem aKB{f:FuncId}{caps:List AV}{Y:dI}{p:FT->Bool}{ok:FT->Prop}(hp:bY prog f caps Y (fun x=>.agg (cD x)) p ok)(l:List FT)(hok:∀x∈l,ok x):SCall prog 285 [.ro 2 (l.map cD) .any,.fn (.func f) [] caps] Y (fun x Y'=>x=.bool (l.any p)/\Y'=Y):=by
 refine bO 9 [0,1,4] func285 ?_;refine mO ?_;refine cw Y call309 (aKA hp l hok) rfl ?_ ?_ ?_
 ·exact aC
 ·exact fun _ h=>h
 rintro x Y' ⟨m,rfl,hm,rfl⟩-;rw[eF,Be];refine CD ?_;exact aD aE ⟨by simp only[fM];rw[<-hm],rfl⟩ aA
theorem aNj{f:FuncId}{p:FT->Bool}{ok:FT->Prop}(hp:bY prog f [] [] (fun x=>.agg (cD x)) p ok)(r:Nat):bY prog 286 [.ptr r 0] [(r,.box 277 [.fn (.func f) [] []])] (fun x=>.agg (cD x)) (fun x=> !p x) ok:=by
  refine⟨call286,fun x hx=> ?_⟩;refine bO 8 [0,1,2,3] func286 ?_;refine dB ?_;refine fZ fun r2 h2=> ?_;intros;refine iT ?_;refine wQ ?_;refine jY ?_;refine qY [] rfl hp.1 (hp.2 x hx) rfl aC aA ?_;rintro _ Y' ⟨rfl,rfl⟩ h6;refine LH ?_;refine cN ?_;exact aD aE ⟨by rfl,rfl⟩ aA
theorem aKC{f:FuncId}{p:FT->Bool}{ok:FT->Prop}(hp:bY prog f [] [] (fun x=>.agg (cD x)) p ok)(l:List FT)(hok:∀x∈l,ok x)(most:Int):SCall prog 221 [.ro 2 (l.map cD) .any,.int .i64 most,.fn (.func f) [] []] [] (fun x Y'=>x=.bool (cI l most p)/\Y'=[]):=by
 refine bO 17 [0,1,2,5,6] func221 ?_;refine dB ?_;refine fZ fun r5 h5=> ?_;intros;refine cN ?_;by_cases hl:(l.length:Int)<=most
 ·have hE:cI l most p= !(l.any fun x=> !p x):=by unfold cI;rw[decide_eq_true hl,List.any_eq_not_all_not];simp
  have hd:decide ((l.length:Int)<=most)=true:=C8 hl
  refine nJ ?_;rw[hd];refine AG ?_;refine cw [(r5,.box 277 [.fn (.func f) [] []])] call285 (aKB (aNj hp r5) l hok) rfl aC aA ?_;rintro _ Y' ⟨rfl,rfl⟩ h14;refine AC ?_;exact aD aE ⟨by rw[hE];rfl,rfl⟩ aA
 ·have hE:cI l most p=false:=by unfold cI;rw[decide_eq_false hl];rfl
  have hd:decide ((l.length:Int)<=most)=false:=C8 hl
  refine nJ ?_;rw[hd];refine AH ?_;exact aD aE ⟨by rw[hE];rfl,rfl⟩ aA
theorem aGQ{f:FuncId}{caps:List AV}{Y:dI}{p:Int->Bool}{ok:Int->Prop}(hp:bY prog f caps Y (fun n=>.int .i64 n) p ok)(l:List Int)(hok:∀x∈l,ok x):SCall prog 205 [.ro 1 (l.map aK) .any,.fn (.func f) [] caps] Y (fun x Y'=>∃m:Int,x=.int .i64 m/\decide (0<=m)=l.any p/\Y'=Y):=by
 refine bO 19 [0,1,4,5,7,8,9,16] func205 ?_;refine iG (i:=0) rfl fun hm=> ?_
 rw[Az]at hm;unfold maxLen at hm;refine tU ?_;refine lp (β:=Nat) (fun j=>⟨[(0,.ro 1 (l.map aK) .any),(1,.fn (.func f) [] caps),(7,.int .i64 l.length),(8,.int .i64 j)],Y⟩) (fun j=>j<=l.length/\(l.take j).any p=false) (fun j=>l.length-j) 0 ?_ ⟨Am _,rfl⟩ ?_
 ·exact aH
 rintro j ⟨hj,ht⟩;refine gN ?_;refine aB rfl (fun h1=> ?_) (fun h1=> ?_)
 ·have hlt:j<l.length:=by simp at h1;omega
  obtain⟨x,hx⟩:=Aa l j hlt
  refine vS ?_;refine nX ?_;refine qY Y rfl hp.1 (hp.2 x (hok x (Ah hx))) rfl ?_ ?_ ?_
  ·exact aC
  ·exact fun _ h=>h
  rintro r Y' ⟨rfl,rfl⟩-;rw[eF,Be];refine iM ?_;refine aB rfl (fun h2=> ?_) (fun h2=> ?_)
  ·refine fC ?_;apply aD;exact aE
   ·refine⟨j,rfl, ?_,rfl⟩;rw[decide_eq_true U];exact(List.any_eq_true.2 ⟨x,Ah hx,h2⟩).symm
   ·exact aA
  ·refine jH ?_;refine⟨j+1,⟨U, ?_⟩,U, ?_⟩
   ·rw[Al,hx,List.any_append,ht];simp[h2]
   ·exact aH
 ·refine cV ?_;apply aD;exact aE
  ·simp at h1;rw[Aj U]at ht;exact⟨-1,rfl,by rw[ht];rfl,rfl⟩
  ·exact aA
theorem QE{f:FuncId}{caps:List AV}{Y:dI}{p:Int->Bool}{ok:Int->Prop}(hp:bY prog f caps Y (fun n=>.int .i64 n) p ok)(l:List Int)(hok:∀x∈l,ok x):SCall prog 89 [.ro 1 (l.map aK) .any,.fn (.func f) [] caps] Y (fun x Y'=>x=.bool (l.any p)/\Y'=Y):=by
 refine bO 9 [0,1,4] func89 ?_;refine mO ?_;refine cw Y call205 (aGQ hp l hok) rfl ?_ ?_ ?_
 ·exact aC
 ·exact fun _ h=>h
 rintro x Y' ⟨m,rfl,hm,rfl⟩-;rw[eF,Be];refine CD ?_;exact aD aE ⟨by simp only[fM];rw[<-hm],rfl⟩ aA
theorem aKD{f:FuncId}{p:Int->Bool}{ok:Int->Prop}(hp:bY prog f [] [] (fun n=>.int .i64 n) p ok)(r:Nat):bY prog 214 [.ptr r 0] [(r,.box 83 [.fn (.func f) [] []])] (fun n=>.int .i64 n) (fun x=> !p x) ok:=by
  refine⟨call214,fun x hx=> ?_⟩;refine bO 8 [0,1,3] func214 ?_;refine sP ?_;refine wQ ?_;refine B4 ?_;refine qY [] rfl hp.1 (hp.2 x hx) rfl aC aA ?_;rintro _ Y' ⟨rfl,rfl⟩ h6;refine LH ?_;refine cN ?_;exact aD aE ⟨by rfl,rfl⟩ aA
theorem DB{f:FuncId}{p:Int->Bool}{ok:Int->Prop}(hp:bY prog f [] [] (fun n=>.int .i64 n) p ok)(l:List Int)(hok:∀x∈l,ok x)(most:Int):SCall prog 108 [.ro 1 (l.map aK) .any,.int .i64 most,.fn (.func f) [] []] [] (fun x Y'=>x=.bool (cI l most p)/\Y'=[]):=by
 refine bO 17 [0,1,2,5,6] func108 ?_;refine dB ?_;refine fZ fun r5 h5=> ?_;intros;refine cN ?_;by_cases hl:(l.length:Int)<=most
 ·have hE:cI l most p= !(l.any fun x=> !p x):=by unfold cI;rw[decide_eq_true hl,List.any_eq_not_all_not];simp
  have hd:decide ((l.length:Int)<=most)=true:=C8 hl
  refine nJ ?_;rw[hd];refine AG ?_;refine cw [(r5,.box 83 [.fn (.func f) [] []])] call89 (QE (aKD hp r5) l hok) rfl aC aA ?_;rintro _ Y' ⟨rfl,rfl⟩ h14;refine AC ?_;exact aD aE ⟨by rw[hE];rfl,rfl⟩ aA
 ·have hE:cI l most p=false:=by unfold cI;rw[decide_eq_false hl];rfl
  have hd:decide ((l.length:Int)<=most)=false:=C8 hl
  refine nJ ?_;rw[hd];refine AH ?_;exact aD aE ⟨by rw[hE];rfl,rfl⟩ aA
theorem aKE{f:FuncId}{caps:List AV}{Y:dI}{p:Nat->Bool}{ok:Nat->Prop}(hp:bY prog f caps Y (fun(n:Nat)=>.int .u8 n) p ok)(l:List Nat)(hok:∀x∈l,ok x):SCall prog 320 [.ro 1 (l.map aG) .any,.fn (.func f) [] caps] Y (fun x Y'=>∃m:Int,x=.int .i64 m/\decide (0<=m)=l.any p/\Y'=Y):=by
 refine bO 19 [0,1,4,5,7,8,9,16] func320 ?_;refine iG (i:=0) rfl fun hm=> ?_
 rw[Az]at hm;unfold maxLen at hm;refine tU ?_;refine lp (β:=Nat) (fun j=>⟨[(0,.ro 1 (l.map aG) .any),(1,.fn (.func f) [] caps),(7,.int .i64 l.length),(8,.int .i64 j)],Y⟩) (fun j=>j<=l.length/\(l.take j).any p=false) (fun j=>l.length-j) 0 ?_ ⟨Am _,rfl⟩ ?_
 ·exact aH
 rintro j ⟨hj,ht⟩;refine gN ?_;refine aB rfl (fun h1=> ?_) (fun h1=> ?_)
 ·have hlt:j<l.length:=by simp at h1;omega
  obtain⟨x,hx⟩:=Aa l j hlt
  refine vS ?_;refine nX ?_;refine qY Y rfl hp.1 (hp.2 x (hok x (Ah hx))) rfl ?_ ?_ ?_
  ·exact aC
  ·exact fun _ h=>h
  rintro r Y' ⟨rfl,rfl⟩-;rw[eF,Be];refine iM ?_;refine aB rfl (fun h2=> ?_) (fun h2=> ?_)
  ·refine fC ?_;apply aD;exact aE
   ·refine⟨j,rfl, ?_,rfl⟩;rw[decide_eq_true U];exact(List.any_eq_true.2 ⟨x,Ah hx,h2⟩).symm
   ·exact aA
  ·refine jH ?_;refine⟨j+1,⟨U, ?_⟩,U, ?_⟩
   ·rw[Al,hx,List.any_append,ht];simp[h2]
   ·exact aH
 ·refine cV ?_;apply aD;exact aE
  ·simp at h1;rw[Aj U]at ht;exact⟨-1,rfl,by rw[ht];rfl,rfl⟩
  ·exact aA
theorem aKF{f:FuncId}{caps:List AV}{Y:dI}{p:Nat->Bool}{ok:Nat->Prop}(hp:bY prog f caps Y (fun(n:Nat)=>.int .u8 n) p ok)(l:List Nat)(hok:∀x∈l,ok x):SCall prog 310 [.ro 1 (l.map aG) .any,.fn (.func f) [] caps] Y (fun x Y'=>x=.bool (l.any p)/\Y'=Y):=by
 refine bO 9 [0,1,4] func310 ?_;refine mO ?_;refine cw Y call320 (aKE hp l hok) rfl ?_ ?_ ?_
 ·exact aC
 ·exact fun _ h=>h
 rintro x Y' ⟨m,rfl,hm,rfl⟩-;rw[eF,Be];refine CD ?_;exact aD aE ⟨by simp only[fM];rw[<-hm],rfl⟩ aA
theorem aNk{f:FuncId}{p:Nat->Bool}{ok:Nat->Prop}(hp:bY prog f [] [] (fun(n:Nat)=>.int .u8 n) p ok)(r:Nat):bY prog 311 [.ptr r 0] [(r,.box 325 [.fn (.func f) [] []])] (fun(n:Nat)=>.int .u8 n) (fun x=> !p x) ok:=by
  refine⟨call311,fun x hx=> ?_⟩;refine bO 8 [0,1,3] func311 ?_;refine sP ?_;refine wQ ?_;refine B4 ?_;refine qY [] rfl hp.1 (hp.2 x hx) rfl aC aA ?_;rintro _ Y' ⟨rfl,rfl⟩ h6;refine LH ?_;refine cN ?_;exact aD aE ⟨by rfl,rfl⟩ aA
theorem aKG{f:FuncId}{p:Nat->Bool}{ok:Nat->Prop}(hp:bY prog f [] [] (fun(n:Nat)=>.int .u8 n) p ok)(l:List Nat)(hok:∀x∈l,ok x)(most:Int):SCall prog 288 [.ro 1 (l.map aG) .any,.int .i64 most,.fn (.func f) [] []] [] (fun x Y'=>x=.bool (cI l most p)/\Y'=[]):=by
 refine bO 17 [0,1,2,5,6] func288 ?_;refine dB ?_;refine fZ fun r5 h5=> ?_;intros;refine cN ?_;by_cases hl:(l.length:Int)<=most
 ·have hE:cI l most p= !(l.any fun x=> !p x):=by unfold cI;rw[decide_eq_true hl,List.any_eq_not_all_not];simp
  have hd:decide ((l.length:Int)<=most)=true:=C8 hl
  refine nJ ?_;rw[hd];refine AG ?_;refine cw [(r5,.box 325 [.fn (.func f) [] []])] call310 (aKF (aNk hp r5) l hok) rfl aC aA ?_;rintro _ Y' ⟨rfl,rfl⟩ h14;refine AC ?_;exact aD aE ⟨by rw[hE];rfl,rfl⟩ aA
 ·have hE:cI l most p=false:=by unfold cI;rw[decide_eq_false hl];rfl
  have hd:decide ((l.length:Int)<=most)=false:=C8 hl
  refine nJ ?_;rw[hd];refine AH ?_;exact aD aE ⟨by rw[hE];rfl,rfl⟩ aA
theorem aKH{f:FuncId}{caps:List AV}{Y:dI}{p:Im->Bool}{ok:Im->Prop}(hp:bY prog f caps Y (fun x=>.agg (eE x)) p ok)(l:List Im)(hok:∀x∈l,ok x):SCall prog 204 [.ro 3 (l.map eE) .any,.fn (.func f) [] caps] Y (fun x Y'=>∃m:Int,x=.int .i64 m/\decide (0<=m)=l.any p/\Y'=Y):=by
 refine bO 19 [0,1,4,5,7,8,9,16] func204 ?_;refine iG (i:=0) rfl fun hm=> ?_
 rw[Az]at hm;unfold maxLen at hm;refine tU ?_;refine lp (β:=Nat) (fun j=>⟨[(0,.ro 3 (l.map eE) .any),(1,.fn (.func f) [] caps),(7,.int .i64 l.length),(8,.int .i64 j)],Y⟩) (fun j=>j<=l.length/\(l.take j).any p=false) (fun j=>l.length-j) 0 ?_ ⟨Am _,rfl⟩ ?_
 ·exact aH
 rintro j ⟨hj,ht⟩;refine gN ?_;refine aB rfl (fun h1=> ?_) (fun h1=> ?_)
 ·have hlt:j<l.length:=by simp at h1;omega
  obtain⟨x,hx⟩:=Aa l j hlt
  refine vS ?_;refine sI ?_;refine qY Y rfl hp.1 (hp.2 x (hok x (Ah hx))) rfl ?_ ?_ ?_
  ·exact aC
  ·exact fun _ h=>h
  rintro r Y' ⟨rfl,rfl⟩-;rw[eF,Be];refine iM ?_;refine aB rfl (fun h2=> ?_) (fun h2=> ?_)
  ·refine fC ?_;apply aD;exact aE
   ·refine⟨j,rfl, ?_,rfl⟩;rw[decide_eq_true U];exact(List.any_eq_true.2 ⟨x,Ah hx,h2⟩).symm
   ·exact aA
  ·refine jH ?_;refine⟨j+1,⟨U, ?_⟩,U, ?_⟩
   ·rw[Al,hx,List.any_append,ht];simp[h2]
   ·exact aH
 ·refine cV ?_;apply aD;exact aE
  ·simp at h1;rw[Aj U]at ht;exact⟨-1,rfl,by rw[ht];rfl,rfl⟩
  ·exact aA
theorem aD4{f:FuncId}{caps:List AV}{Y:dI}{p:Im->Bool}{ok:Im->Prop}(hp:bY prog f caps Y (fun x=>.agg (eE x)) p ok)(l:List Im)(hok:∀x∈l,ok x):SCall prog 87 [.ro 3 (l.map eE) .any,.fn (.func f) [] caps] Y (fun x Y'=>x=.bool (l.any p)/\Y'=Y):=by
 refine bO 9 [0,1,4] func87 ?_;refine mO ?_;refine cw Y call204 (aKH hp l hok) rfl ?_ ?_ ?_
 ·exact aC
 ·exact fun _ h=>h
 rintro x Y' ⟨m,rfl,hm,rfl⟩-;rw[eF,Be];refine CD ?_;exact aD aE ⟨by simp only[fM];rw[<-hm],rfl⟩ aA
theorem aNl{f:FuncId}{p:Im->Bool}{ok:Im->Prop}(hp:bY prog f [] [] (fun x=>.agg (eE x)) p ok)(r:Nat):bY prog 287 [.ptr r 0] [(r,.box 148 [.fn (.func f) [] []])] (fun x=>.agg (eE x)) (fun x=> !p x) ok:=by
  refine⟨call287,fun x hx=> ?_⟩;refine bO 8 [0,1,2,3] func287 ?_;refine dB ?_;refine fZ fun r2 h2=> ?_;intros;refine iT ?_;refine wQ ?_;refine jY ?_;refine qY [] rfl hp.1 (hp.2 x hx) rfl aC aA ?_;rintro _ Y' ⟨rfl,rfl⟩ h6;refine LH ?_;refine cN ?_;exact aD aE ⟨by rfl,rfl⟩ aA
theorem aKI{f:FuncId}{p:Im->Bool}{ok:Im->Prop}(hp:bY prog f [] [] (fun x=>.agg (eE x)) p ok)(l:List Im)(hok:∀x∈l,ok x)(most:Int):SCall prog 223 [.ro 3 (l.map eE) .any,.int .i64 most,.fn (.func f) [] []] [] (fun x Y'=>x=.bool (cI l most p)/\Y'=[]):=by
 refine bO 17 [0,1,2,5,6] func223 ?_;refine dB ?_;refine fZ fun r5 h5=> ?_;intros;refine cN ?_;by_cases hl:(l.length:Int)<=most
 ·have hE:cI l most p= !(l.any fun x=> !p x):=by unfold cI;rw[decide_eq_true hl,List.any_eq_not_all_not];simp
  have hd:decide ((l.length:Int)<=most)=true:=C8 hl
  refine nJ ?_;rw[hd];refine AG ?_;refine cw [(r5,.box 148 [.fn (.func f) [] []])] call87 (aD4 (aNl hp r5) l hok) rfl aC aA ?_;rintro _ Y' ⟨rfl,rfl⟩ h14;refine AC ?_;exact aD aE ⟨by rw[hE];rfl,rfl⟩ aA
 ·have hE:cI l most p=false:=by unfold cI;rw[decide_eq_false hl];rfl
  have hd:decide ((l.length:Int)<=most)=false:=C8 hl
  refine nJ ?_;rw[hd];refine AH ?_;exact aD aE ⟨by rw[hE];rfl,rfl⟩ aA
theorem aKJ{f:FuncId}{caps:List AV}{Y:dI}{p:Gl->Bool}{ok:Gl->Prop}(hp:bY prog f caps Y (fun x=>.agg (dX x)) p ok)(l:List Gl)(hok:∀x∈l,ok x):SCall prog 312 [.ro 3 (l.map dX) .any,.fn (.func f) [] caps] Y (fun x Y'=>∃m:Int,x=.int .i64 m/\decide (0<=m)=l.any p/\Y'=Y):=by
 refine bO 19 [0,1,4,5,7,8,9,16] func312 ?_;refine iG (i:=0) rfl fun hm=> ?_
 rw[Az]at hm;unfold maxLen at hm;refine tU ?_;refine lp (β:=Nat) (fun j=>⟨[(0,.ro 3 (l.map dX) .any),(1,.fn (.func f) [] caps),(7,.int .i64 l.length),(8,.int .i64 j)],Y⟩) (fun j=>j<=l.length/\(l.take j).any p=false) (fun j=>l.length-j) 0 ?_ ⟨Am _,rfl⟩ ?_
 ·exact aH
 rintro j ⟨hj,ht⟩;refine gN ?_;refine aB rfl (fun h1=> ?_) (fun h1=> ?_)
 ·have hlt:j<l.length:=by simp at h1;omega
  obtain⟨x,hx⟩:=Aa l j hlt
  refine vS ?_;refine sI ?_;refine qY Y rfl hp.1 (hp.2 x (hok x (Ah hx))) rfl ?_ ?_ ?_
  ·exact aC
  ·exact fun _ h=>h
  rintro r Y' ⟨rfl,rfl⟩-;rw[eF,Be];refine iM ?_;refine aB rfl (fun h2=> ?_) (fun h2=> ?_)
  ·refine fC ?_;apply aD;exact aE
   ·refine⟨j,rfl, ?_,rfl⟩;rw[decide_eq_true U];exact(List.any_eq_true.2 ⟨x,Ah hx,h2⟩).symm
   ·exact aA
  ·refine jH ?_;refine⟨j+1,⟨U, ?_⟩,U, ?_⟩
   ·rw[Al,hx,List.any_append,ht];simp[h2]
   ·exact aH
 ·refine cV ?_;apply aD;exact aE
  ·simp at h1;rw[Aj U]at ht;exact⟨-1,rfl,by rw[ht];rfl,rfl⟩
  ·exact aA
theorem aKK{f:FuncId}{caps:List AV}{Y:dI}{p:Gl->Bool}{ok:Gl->Prop}(hp:bY prog f caps Y (fun x=>.agg (dX x)) p ok)(l:List Gl)(hok:∀x∈l,ok x):SCall prog 290 [.ro 3 (l.map dX) .any,.fn (.func f) [] caps] Y (fun x Y'=>x=.bool (l.any p)/\Y'=Y):=by
 refine bO 9 [0,1,4] func290 ?_;refine mO ?_;refine cw Y call312 (aKJ hp l hok) rfl ?_ ?_ ?_
 ·exact aC
 ·exact fun _ h=>h
 rintro x Y' ⟨m,rfl,hm,rfl⟩-;rw[eF,Be];refine CD ?_;exact aD aE ⟨by simp only[fM];rw[<-hm],rfl⟩ aA
theorem aNm{f:FuncId}{p:Gl->Bool}{ok:Gl->Prop}(hp:bY prog f [] [] (fun x=>.agg (dX x)) p ok)(r:Nat):bY prog 291 [.ptr r 0] [(r,.box 280 [.fn (.func f) [] []])] (fun x=>.agg (dX x)) (fun x=> !p x) ok:=by
  refine⟨call291,fun x hx=> ?_⟩;refine bO 8 [0,1,2,3] func291 ?_;refine dB ?_;refine fZ fun r2 h2=> ?_;intros;refine iT ?_;refine wQ ?_;refine jY ?_;refine qY [] rfl hp.1 (hp.2 x hx) rfl aC aA ?_;rintro _ Y' ⟨rfl,rfl⟩ h6;refine LH ?_;refine cN ?_;exact aD aE ⟨by rfl,rfl⟩ aA
theorem aKL{f:FuncId}{p:Gl->Bool}{ok:Gl->Prop}(hp:bY prog f [] [] (fun x=>.agg (dX x)) p ok)(l:List Gl)(hok:∀x∈l,ok x)(most:Int):SCall prog 227 [.ro 3 (l.map dX) .any,.int .i64 most,.fn (.func f) [] []] [] (fun x Y'=>x=.bool (cI l most p)/\Y'=[]):=by
 refine bO 17 [0,1,2,5,6] func227 ?_;refine dB ?_;refine fZ fun r5 h5=> ?_;intros;refine cN ?_;by_cases hl:(l.length:Int)<=most
 ·have hE:cI l most p= !(l.any fun x=> !p x):=by unfold cI;rw[decide_eq_true hl,List.any_eq_not_all_not];simp
  have hd:decide ((l.length:Int)<=most)=true:=C8 hl
  refine nJ ?_;rw[hd];refine AG ?_;refine cw [(r5,.box 280 [.fn (.func f) [] []])] call290 (aKK (aNm hp r5) l hok) rfl aC aA ?_;rintro _ Y' ⟨rfl,rfl⟩ h14;refine AC ?_;exact aD aE ⟨by rw[hE];rfl,rfl⟩ aA
 ·have hE:cI l most p=false:=by unfold cI;rw[decide_eq_false hl];rfl
  have hd:decide ((l.length:Int)<=most)=false:=C8 hl
  refine nJ ?_;rw[hd];refine AH ?_;exact aD aE ⟨by rw[hE];rfl,rfl⟩ aA
theorem aKM{f:FuncId}{caps:List AV}{Y:dI}{p:Ex->Bool}{ok:Ex->Prop}(hp:bY prog f caps Y (fun x=>.agg (dD x)) p ok)(l:List Ex)(hok:∀x∈l,ok x):SCall prog 203 [.ro 2 (l.map dD) .any,.fn (.func f) [] caps] Y (fun x Y'=>∃m:Int,x=.int .i64 m/\decide (0<=m)=l.any p/\Y'=Y):=by
 refine bO 19 [0,1,4,5,7,8,9,16] func203 ?_;refine iG (i:=0) rfl fun hm=> ?_
 rw[Az]at hm;unfold maxLen at hm;refine tU ?_;refine lp (β:=Nat) (fun j=>⟨[(0,.ro 2 (l.map dD) .any),(1,.fn (.func f) [] caps),(7,.int .i64 l.length),(8,.int .i64 j)],Y⟩) (fun j=>j<=l.length/\(l.take j).any p=false) (fun j=>l.length-j) 0 ?_ ⟨Am _,rfl⟩ ?_
 ·exact aH
 rintro j ⟨hj,ht⟩;refine gN ?_;refine aB rfl (fun h1=> ?_) (fun h1=> ?_)
 ·have hlt:j<l.length:=by simp at h1;omega
  obtain⟨x,hx⟩:=Aa l j hlt
  refine vS ?_;refine sI ?_;refine qY Y rfl hp.1 (hp.2 x (hok x (Ah hx))) rfl ?_ ?_ ?_
  ·exact aC
  ·exact fun _ h=>h
  rintro r Y' ⟨rfl,rfl⟩-;rw[eF,Be];refine iM ?_;refine aB rfl (fun h2=> ?_) (fun h2=> ?_)
  ·refine fC ?_;apply aD;exact aE
   ·refine⟨j,rfl, ?_,rfl⟩;rw[decide_eq_true U];exact(List.any_eq_true.2 ⟨x,Ah hx,h2⟩).symm
   ·exact aA
  ·refine jH ?_;refine⟨j+1,⟨U, ?_⟩,U, ?_⟩
   ·rw[Al,hx,List.any_append,ht];simp[h2]
   ·exact aH
 ·refine cV ?_;apply aD;exact aE
  ·simp at h1;rw[Aj U]at ht;exact⟨-1,rfl,by rw[ht];rfl,rfl⟩
  ·exact aA
theorem aD5{f:FuncId}{caps:List AV}{Y:dI}{p:Ex->Bool}{ok:Ex->Prop}(hp:bY prog f caps Y (fun x=>.agg (dD x)) p ok)(l:List Ex)(hok:∀x∈l,ok x):SCall prog 85 [.ro 2 (l.map dD) .any,.fn (.func f) [] caps] Y (fun x Y'=>x=.bool (l.any p)/\Y'=Y):=by
 refine bO 9 [0,1,4] func85 ?_;refine mO ?_;refine cw Y call203 (aKM hp l hok) rfl ?_ ?_ ?_
 ·exact aC
 ·exact fun _ h=>h
 rintro x Y' ⟨m,rfl,hm,rfl⟩-;rw[eF,Be];refine CD ?_;exact aD aE ⟨by simp only[fM];rw[<-hm],rfl⟩ aA
theorem aNn{f:FuncId}{p:Ex->Bool}{ok:Ex->Prop}(hp:bY prog f [] [] (fun x=>.agg (dD x)) p ok)(r:Nat):bY prog 292 [.ptr r 0] [(r,.box 146 [.fn (.func f) [] []])] (fun x=>.agg (dD x)) (fun x=> !p x) ok:=by
  refine⟨call292,fun x hx=> ?_⟩;refine bO 8 [0,1,2,3] func292 ?_;refine dB ?_;refine fZ fun r2 h2=> ?_;intros;refine iT ?_;refine wQ ?_;refine jY ?_;refine qY [] rfl hp.1 (hp.2 x hx) rfl aC aA ?_;rintro _ Y' ⟨rfl,rfl⟩ h6;refine LH ?_;refine cN ?_;exact aD aE ⟨by rfl,rfl⟩ aA
theorem aKN{f:FuncId}{p:Ex->Bool}{ok:Ex->Prop}(hp:bY prog f [] [] (fun x=>.agg (dD x)) p ok)(l:List Ex)(hok:∀x∈l,ok x)(most:Int):SCall prog 230 [.ro 2 (l.map dD) .any,.int .i64 most,.fn (.func f) [] []] [] (fun x Y'=>x=.bool (cI l most p)/\Y'=[]):=by
 refine bO 17 [0,1,2,5,6] func230 ?_;refine dB ?_;refine fZ fun r5 h5=> ?_;intros;refine cN ?_;by_cases hl:(l.length:Int)<=most
 ·have hE:cI l most p= !(l.any fun x=> !p x):=by unfold cI;rw[decide_eq_true hl,List.any_eq_not_all_not];simp
  have hd:decide ((l.length:Int)<=most)=true:=C8 hl
  refine nJ ?_;rw[hd];refine AG ?_;refine cw [(r5,.box 146 [.fn (.func f) [] []])] call85 (aD5 (aNn hp r5) l hok) rfl aC aA ?_;rintro _ Y' ⟨rfl,rfl⟩ h14;refine AC ?_;exact aD aE ⟨by rw[hE];rfl,rfl⟩ aA
 ·have hE:cI l most p=false:=by unfold cI;rw[decide_eq_false hl];rfl
  have hd:decide ((l.length:Int)<=most)=false:=C8 hl
  refine nJ ?_;rw[hd];refine AH ?_;exact aD aE ⟨by rw[hE];rfl,rfl⟩ aA
theorem aKO{f:FuncId}{caps:List AV}{Y:dI}{p:El->Bool}{ok:El->Prop}(hp:bY prog f caps Y (fun x=>.agg (dP x)) p ok)(l:List El)(hok:∀x∈l,ok x):SCall prog 206 [.ro 2 (l.map dP) .any,.fn (.func f) [] caps] Y (fun x Y'=>∃m:Int,x=.int .i64 m/\decide (0<=m)=l.any p/\Y'=Y):=by
 refine bO 19 [0,1,4,5,7,8,9,16] func206 ?_;refine iG (i:=0) rfl fun hm=> ?_
 rw[Az]at hm;unfold maxLen at hm;refine tU ?_;refine lp (β:=Nat) (fun j=>⟨[(0,.ro 2 (l.map dP) .any),(1,.fn (.func f) [] caps),(7,.int .i64 l.length),(8,.int .i64 j)],Y⟩) (fun j=>j<=l.length/\(l.take j).any p=false) (fun j=>l.length-j) 0 ?_ ⟨Am _,rfl⟩ ?_
 ·exact aH
 rintro j ⟨hj,ht⟩;refine gN ?_;refine aB rfl (fun h1=> ?_) (fun h1=> ?_)
 ·have hlt:j<l.length:=by simp at h1;omega
  obtain⟨x,hx⟩:=Aa l j hlt
  refine vS ?_;refine sI ?_;refine qY Y rfl hp.1 (hp.2 x (hok x (Ah hx))) rfl ?_ ?_ ?_
  ·exact aC
  ·exact fun _ h=>h
  rintro r Y' ⟨rfl,rfl⟩-;rw[eF,Be];refine iM ?_;refine aB rfl (fun h2=> ?_) (fun h2=> ?_)
  ·refine fC ?_;apply aD;exact aE
   ·refine⟨j,rfl, ?_,rfl⟩;rw[decide_eq_true U];exact(List.any_eq_true.2 ⟨x,Ah hx,h2⟩).symm
   ·exact aA
  ·refine jH ?_;refine⟨j+1,⟨U, ?_⟩,U, ?_⟩
   ·rw[Al,hx,List.any_append,ht];simp[h2]
   ·exact aH
 ·refine cV ?_;apply aD;exact aE
  ·simp at h1;rw[Aj U]at ht;exact⟨-1,rfl,by rw[ht];rfl,rfl⟩
  ·exact aA
theorem aD6{f:FuncId}{caps:List AV}{Y:dI}{p:El->Bool}{ok:El->Prop}(hp:bY prog f caps Y (fun x=>.agg (dP x)) p ok)(l:List El)(hok:∀x∈l,ok x):SCall prog 91 [.ro 2 (l.map dP) .any,.fn (.func f) [] caps] Y (fun x Y'=>x=.bool (l.any p)/\Y'=Y):=by
 refine bO 9 [0,1,4] func91 ?_;refine mO ?_;refine cw Y call206 (aKO hp l hok) rfl ?_ ?_ ?_
 ·exact aC
 ·exact fun _ h=>h
 rintro x Y' ⟨m,rfl,hm,rfl⟩-;rw[eF,Be];refine CD ?_;exact aD aE ⟨by simp only[fM];rw[<-hm],rfl⟩ aA
theorem aNo{f:FuncId}{p:El->Bool}{ok:El->Prop}(hp:bY prog f [] [] (fun x=>.agg (dP x)) p ok)(r:Nat):bY prog 293 [.ptr r 0] [(r,.box 152 [.fn (.func f) [] []])] (fun x=>.agg (dP x)) (fun x=> !p x) ok:=by
  refine⟨call293,fun x hx=> ?_⟩;refine bO 8 [0,1,2,3] func293 ?_;refine dB ?_;refine fZ fun r2 h2=> ?_;intros;refine iT ?_;refine wQ ?_;refine jY ?_;refine qY [] rfl hp.1 (hp.2 x hx) rfl aC aA ?_;rintro _ Y' ⟨rfl,rfl⟩ h6;refine LH ?_;refine cN ?_;exact aD aE ⟨by rfl,rfl⟩ aA
theorem aKP{f:FuncId}{p:El->Bool}{ok:El->Prop}(hp:bY prog f [] [] (fun x=>.agg (dP x)) p ok)(l:List El)(hok:∀x∈l,ok x)(most:Int):SCall prog 232 [.ro 2 (l.map dP) .any,.int .i64 most,.fn (.func f) [] []] [] (fun x Y'=>x=.bool (cI l most p)/\Y'=[]):=by
 refine bO 17 [0,1,2,5,6] func232 ?_;refine dB ?_;refine fZ fun r5 h5=> ?_;intros;refine cN ?_;by_cases hl:(l.length:Int)<=most
 ·have hE:cI l most p= !(l.any fun x=> !p x):=by unfold cI;rw[decide_eq_true hl,List.any_eq_not_all_not];simp
  have hd:decide ((l.length:Int)<=most)=true:=C8 hl
  refine nJ ?_;rw[hd];refine AG ?_;refine cw [(r5,.box 152 [.fn (.func f) [] []])] call91 (aD6 (aNo hp r5) l hok) rfl aC aA ?_;rintro _ Y' ⟨rfl,rfl⟩ h14;refine AC ?_;exact aD aE ⟨by rw[hE];rfl,rfl⟩ aA
 ·have hE:cI l most p=false:=by unfold cI;rw[decide_eq_false hl];rfl
  have hd:decide ((l.length:Int)<=most)=false:=C8 hl
  refine nJ ?_;rw[hd];refine AH ?_;exact aD aE ⟨by rw[hE];rfl,rfl⟩ aA
theorem aKQ{f:FuncId}{caps:List AV}{Y:dI}{p:Co->Bool}{ok:Co->Prop}(hp:bY prog f caps Y (fun x=>.agg (cQ x)) p ok)(l:List Co)(hok:∀x∈l,ok x):SCall prog 283 [.ro 2 (l.map cQ) .any,.fn (.func f) [] caps] Y (fun x Y'=>∃m:Int,x=.int .i64 m/\decide (0<=m)=l.any p/\Y'=Y):=by
 refine bO 19 [0,1,4,5,7,8,9,16] func283 ?_;refine iG (i:=0) rfl fun hm=> ?_
 rw[Az]at hm;unfold maxLen at hm;refine tU ?_;refine lp (β:=Nat) (fun j=>⟨[(0,.ro 2 (l.map cQ) .any),(1,.fn (.func f) [] caps),(7,.int .i64 l.length),(8,.int .i64 j)],Y⟩) (fun j=>j<=l.length/\(l.take j).any p=false) (fun j=>l.length-j) 0 ?_ ⟨Am _,rfl⟩ ?_
 ·exact aH
 rintro j ⟨hj,ht⟩;refine gN ?_;refine aB rfl (fun h1=> ?_) (fun h1=> ?_)
 ·have hlt:j<l.length:=by simp at h1;omega
  obtain⟨x,hx⟩:=Aa l j hlt
  refine vS ?_;refine sI ?_;refine qY Y rfl hp.1 (hp.2 x (hok x (Ah hx))) rfl ?_ ?_ ?_
  ·exact aC
  ·exact fun _ h=>h
  rintro r Y' ⟨rfl,rfl⟩-;rw[eF,Be];refine iM ?_;refine aB rfl (fun h2=> ?_) (fun h2=> ?_)
  ·refine fC ?_;apply aD;exact aE
   ·refine⟨j,rfl, ?_,rfl⟩;rw[decide_eq_true U];exact(List.any_eq_true.2 ⟨x,Ah hx,h2⟩).symm
   ·exact aA
  ·refine jH ?_;refine⟨j+1,⟨U, ?_⟩,U, ?_⟩
   ·rw[Al,hx,List.any_append,ht];simp[h2]
   ·exact aH
 ·refine cV ?_;apply aD;exact aE
  ·simp at h1;rw[Aj U]at ht;exact⟨-1,rfl,by rw[ht];rfl,rfl⟩
  ·exact aA
theorem aKR{f:FuncId}{caps:List AV}{Y:dI}{p:Co->Bool}{ok:Co->Prop}(hp:bY prog f caps Y (fun x=>.agg (cQ x)) p ok)(l:List Co)(hok:∀x∈l,ok x):SCall prog 212 [.ro 2 (l.map cQ) .any,.fn (.func f) [] caps] Y (fun x Y'=>x=.bool (l.any p)/\Y'=Y):=by
 refine bO 9 [0,1,4] func212 ?_;refine mO ?_;refine cw Y call283 (aKQ hp l hok) rfl ?_ ?_ ?_
 ·exact aC
 ·exact fun _ h=>h
 rintro x Y' ⟨m,rfl,hm,rfl⟩-;rw[eF,Be];refine CD ?_;exact aD aE ⟨by simp only[fM];rw[<-hm],rfl⟩ aA
theorem aNp{f:FuncId}{p:Co->Bool}{ok:Co->Prop}(hp:bY prog f [] [] (fun x=>.agg (cQ x)) p ok)(r:Nat):bY prog 213 [.ptr r 0] [(r,.box 182 [.fn (.func f) [] []])] (fun x=>.agg (cQ x)) (fun x=> !p x) ok:=by
  refine⟨call213,fun x hx=> ?_⟩;refine bO 8 [0,1,2,3] func213 ?_;refine dB ?_;refine fZ fun r2 h2=> ?_;intros;refine iT ?_;refine wQ ?_;refine jY ?_;refine qY [] rfl hp.1 (hp.2 x hx) rfl aC aA ?_;rintro _ Y' ⟨rfl,rfl⟩ h6;refine LH ?_;refine cN ?_;exact aD aE ⟨by rfl,rfl⟩ aA
theorem aKS{f:FuncId}{p:Co->Bool}{ok:Co->Prop}(hp:bY prog f [] [] (fun x=>.agg (cQ x)) p ok)(l:List Co)(hok:∀x∈l,ok x)(most:Int):SCall prog 106 [.ro 2 (l.map cQ) .any,.int .i64 most,.fn (.func f) [] []] [] (fun x Y'=>x=.bool (cI l most p)/\Y'=[]):=by
 refine bO 17 [0,1,2,5,6] func106 ?_;refine dB ?_;refine fZ fun r5 h5=> ?_;intros;refine cN ?_;by_cases hl:(l.length:Int)<=most
 ·have hE:cI l most p= !(l.any fun x=> !p x):=by unfold cI;rw[decide_eq_true hl,List.any_eq_not_all_not];simp
  have hd:decide ((l.length:Int)<=most)=true:=C8 hl
  refine nJ ?_;rw[hd];refine AG ?_;refine cw [(r5,.box 182 [.fn (.func f) [] []])] call212 (aKR (aNp hp r5) l hok) rfl aC aA ?_;rintro _ Y' ⟨rfl,rfl⟩ h14;refine AC ?_;exact aD aE ⟨by rw[hE];rfl,rfl⟩ aA
 ·have hE:cI l most p=false:=by unfold cI;rw[decide_eq_false hl];rfl
  have hd:decide ((l.length:Int)<=most)=false:=C8 hl
  refine nJ ?_;rw[hd];refine AH ?_;exact aD aE ⟨by rw[hE];rfl,rfl⟩ aA
theorem aKT{f:FuncId}{caps:List AV}{Y:dI}{p:Da->Bool}{ok:Da->Prop}(hp:bY prog f caps Y (fun x=>.agg (dV x)) p ok)(l:List Da)(hok:∀x∈l,ok x):SCall prog 313 [.ro 2 (l.map dV) .any,.fn (.func f) [] caps] Y (fun x Y'=>∃m:Int,x=.int .i64 m/\decide (0<=m)=l.any p/\Y'=Y):=by
 refine bO 19 [0,1,4,5,7,8,9,16] func313 ?_;refine iG (i:=0) rfl fun hm=> ?_
 rw[Az]at hm;unfold maxLen at hm;refine tU ?_;refine lp (β:=Nat) (fun j=>⟨[(0,.ro 2 (l.map dV) .any),(1,.fn (.func f) [] caps),(7,.int .i64 l.length),(8,.int .i64 j)],Y⟩) (fun j=>j<=l.length/\(l.take j).any p=false) (fun j=>l.length-j) 0 ?_ ⟨Am _,rfl⟩ ?_
 ·exact aH
 rintro j ⟨hj,ht⟩;refine gN ?_;refine aB rfl (fun h1=> ?_) (fun h1=> ?_)
 ·have hlt:j<l.length:=by simp at h1;omega
  obtain⟨x,hx⟩:=Aa l j hlt
  refine vS ?_;refine sI ?_;refine qY Y rfl hp.1 (hp.2 x (hok x (Ah hx))) rfl ?_ ?_ ?_
  ·exact aC
  ·exact fun _ h=>h
  rintro r Y' ⟨rfl,rfl⟩-;rw[eF,Be];refine iM ?_;refine aB rfl (fun h2=> ?_) (fun h2=> ?_)
  ·refine fC ?_;apply aD;exact aE
   ·refine⟨j,rfl, ?_,rfl⟩;rw[decide_eq_true U];exact(List.any_eq_true.2 ⟨x,Ah hx,h2⟩).symm
   ·exact aA
  ·refine jH ?_;refine⟨j+1,⟨U, ?_⟩,U, ?_⟩
   ·rw[Al,hx,List.any_append,ht];simp[h2]
   ·exact aH
 ·refine cV ?_;apply aD;exact aE
  ·simp at h1;rw[Aj U]at ht;exact⟨-1,rfl,by rw[ht];rfl,rfl⟩
  ·exact aA
theorem aKU{f:FuncId}{caps:List AV}{Y:dI}{p:Da->Bool}{ok:Da->Prop}(hp:bY prog f caps Y (fun x=>.agg (dV x)) p ok)(l:List Da)(hok:∀x∈l,ok x):SCall prog 294 [.ro 2 (l.map dV) .any,.fn (.func f) [] caps] Y (fun x Y'=>x=.bool (l.any p)/\Y'=Y):=by
 refine bO 9 [0,1,4] func294 ?_;refine mO ?_;refine cw Y call313 (aKT hp l hok) rfl ?_ ?_ ?_
 ·exact aC
 ·exact fun _ h=>h
 rintro x Y' ⟨m,rfl,hm,rfl⟩-;rw[eF,Be];refine CD ?_;exact aD aE ⟨by simp only[fM];rw[<-hm],rfl⟩ aA
theorem aNq{f:FuncId}{p:Da->Bool}{ok:Da->Prop}(hp:bY prog f [] [] (fun x=>.agg (dV x)) p ok)(r:Nat):bY prog 295 [.ptr r 0] [(r,.box 284 [.fn (.func f) [] []])] (fun x=>.agg (dV x)) (fun x=> !p x) ok:=by
  refine⟨call295,fun x hx=> ?_⟩;refine bO 8 [0,1,2,3] func295 ?_;refine dB ?_;refine fZ fun r2 h2=> ?_;intros;refine iT ?_;refine wQ ?_;refine jY ?_;refine qY [] rfl hp.1 (hp.2 x hx) rfl aC aA ?_;rintro _ Y' ⟨rfl,rfl⟩ h6;refine LH ?_;refine cN ?_;exact aD aE ⟨by rfl,rfl⟩ aA
theorem aKV{f:FuncId}{p:Da->Bool}{ok:Da->Prop}(hp:bY prog f [] [] (fun x=>.agg (dV x)) p ok)(l:List Da)(hok:∀x∈l,ok x)(most:Int):SCall prog 235 [.ro 2 (l.map dV) .any,.int .i64 most,.fn (.func f) [] []] [] (fun x Y'=>x=.bool (cI l most p)/\Y'=[]):=by
 refine bO 17 [0,1,2,5,6] func235 ?_;refine dB ?_;refine fZ fun r5 h5=> ?_;intros;refine cN ?_;by_cases hl:(l.length:Int)<=most
 ·have hE:cI l most p= !(l.any fun x=> !p x):=by unfold cI;rw[decide_eq_true hl,List.any_eq_not_all_not];simp
  have hd:decide ((l.length:Int)<=most)=true:=C8 hl
  refine nJ ?_;rw[hd];refine AG ?_;refine cw [(r5,.box 284 [.fn (.func f) [] []])] call294 (aKU (aNq hp r5) l hok) rfl aC aA ?_;rintro _ Y' ⟨rfl,rfl⟩ h14;refine AC ?_;exact aD aE ⟨by rw[hE];rfl,rfl⟩ aA
 ·have hE:cI l most p=false:=by unfold cI;rw[decide_eq_false hl];rfl
  have hd:decide ((l.length:Int)<=most)=false:=C8 hl
  refine nJ ?_;rw[hd];refine AH ?_;exact aD aE ⟨by rw[hE];rfl,rfl⟩ aA
theorem aGR{f:FuncId}{caps:List AV}{Y:dI}{p:Ins->Bool}{ok:Ins->Prop}(hp:bY prog f caps Y (fun x=>.agg (iv .any x)) p ok)(l:List Ins)(hok:∀x∈l,ok x):SCall prog 284 [.ro 4 (l.map (iv .any)) .any,.fn (.func f) [] caps] Y (fun x Y'=>∃m:Int,x=.int .i64 m/\decide (0<=m)=l.any p/\Y'=Y):=by
 refine bO 19 [0,1,4,5,7,8,9,16] func284 ?_;refine iG (i:=0) rfl fun hm=> ?_
 rw[Az]at hm;unfold maxLen at hm;refine tU ?_;refine lp (β:=Nat) (fun j=>⟨[(0,.ro 4 (l.map (iv .any)) .any),(1,.fn (.func f) [] caps),(7,.int .i64 l.length),(8,.int .i64 j)],Y⟩) (fun j=>j<=l.length/\(l.take j).any p=false) (fun j=>l.length-j) 0 ?_ ⟨Am _,rfl⟩ ?_
 ·exact aH
 rintro j ⟨hj,ht⟩;refine gN ?_;refine aB rfl (fun h1=> ?_) (fun h1=> ?_)
 ·have hlt:j<l.length:=by simp at h1;omega
  obtain⟨x,hx⟩:=Aa l j hlt
  refine vS ?_;refine sI ?_;refine qY Y rfl hp.1 (hp.2 x (hok x (Ah hx))) rfl ?_ ?_ ?_
  ·exact aC
  ·exact fun _ h=>h
  rintro r Y' ⟨rfl,rfl⟩-;rw[eF,Be];refine iM ?_;refine aB rfl (fun h2=> ?_) (fun h2=> ?_)
  ·refine fC ?_;apply aD;exact aE
   ·refine⟨j,rfl, ?_,rfl⟩;rw[decide_eq_true U];exact(List.any_eq_true.2 ⟨x,Ah hx,h2⟩).symm
   ·exact aA
  ·refine jH ?_;refine⟨j+1,⟨U, ?_⟩,U, ?_⟩
   ·rw[Al,hx,List.any_append,ht];simp[h2]
   ·exact aH
 ·refine cV ?_;apply aD;exact aE
  ·simp at h1;rw[Aj U]at ht;exact⟨-1,rfl,by rw[ht];rfl,rfl⟩
  ·exact aA
theorem aGS{f:FuncId}{caps:List AV}{Y:dI}{p:Ins->Bool}{ok:Ins->Prop}(hp:bY prog f caps Y (fun x=>.agg (iv .any x)) p ok)(l:List Ins)(hok:∀x∈l,ok x):SCall prog 215 [.ro 4 (l.map (iv .any)) .any,.fn (.func f) [] caps] Y (fun x Y'=>x=.bool (l.any p)/\Y'=Y):=by
 refine bO 9 [0,1,4] func215 ?_;refine mO ?_;refine cw Y call284 (aGR hp l hok) rfl ?_ ?_ ?_
 ·exact aC
 ·exact fun _ h=>h
 rintro x Y' ⟨m,rfl,hm,rfl⟩-;rw[eF,Be];refine CD ?_;exact aD aE ⟨by simp only[fM];rw[<-hm],rfl⟩ aA
theorem aKW{f:FuncId}{p:Ins->Bool}{ok:Ins->Prop}(hp:bY prog f [] [] (fun x=>.agg (iv .any x)) p ok)(r:Nat):bY prog 216 [.ptr r 0] [(r,.box 134 [.fn (.func f) [] []])] (fun x=>.agg (iv .any x)) (fun x=> !p x) ok:=by
  refine⟨call216,fun x hx=> ?_⟩;refine bO 8 [0,1,2,3] func216 ?_;refine dB ?_;refine fZ fun r2 h2=> ?_;intros;refine iT ?_;refine wQ ?_;refine jY ?_;refine qY [] rfl hp.1 (hp.2 x hx) rfl aC aA ?_;rintro _ Y' ⟨rfl,rfl⟩ h6;refine LH ?_;refine cN ?_;exact aD aE ⟨by rfl,rfl⟩ aA
theorem aGT{f:FuncId}{p:Ins->Bool}{ok:Ins->Prop}(hp:bY prog f [] [] (fun x=>.agg (iv .any x)) p ok)(l:List Ins)(hok:∀x∈l,ok x)(most:Int):SCall prog 110 [.ro 4 (l.map (iv .any)) .any,.int .i64 most,.fn (.func f) [] []] [] (fun x Y'=>x=.bool (cI l most p)/\Y'=[]):=by
 refine bO 17 [0,1,2,5,6] func110 ?_;refine dB ?_;refine fZ fun r5 h5=> ?_;intros;refine cN ?_;by_cases hl:(l.length:Int)<=most
 ·have hE:cI l most p= !(l.any fun x=> !p x):=by unfold cI;rw[decide_eq_true hl,List.any_eq_not_all_not];simp
  have hd:decide ((l.length:Int)<=most)=true:=C8 hl
  refine nJ ?_;rw[hd];refine AG ?_;refine cw [(r5,.box 134 [.fn (.func f) [] []])] call215 (aGS (aKW hp r5) l hok) rfl aC aA ?_;rintro _ Y' ⟨rfl,rfl⟩ h14;refine AC ?_;exact aD aE ⟨by rw[hE];rfl,rfl⟩ aA
 ·have hE:cI l most p=false:=by unfold cI;rw[decide_eq_false hl];rfl
  have hd:decide ((l.length:Int)<=most)=false:=C8 hl
  refine nJ ?_;rw[hd];refine AH ?_;exact aD aE ⟨by rw[hE];rfl,rfl⟩ aA
attribute [local irreducible] SW RS RD fE eA
theorem QF:bY prog 109 [] [] (fun n=>.int .i64 n) CR (fun _=>True):=by
 refine⟨call109,fun k _=> ?_⟩;refine bO 9 [0,2] func109 ?_;refine fK ?_;refine Ch ?_;refine kH ?_;refine tB ?_;refine jG ?_;refine cN ?_;exact aD aE ⟨by rfl,rfl⟩ aA
theorem BN(n:Int):SCall prog 226 [.int .i64 n] [] (fun r Y'=>r=.bool (gU n)/\Y'=[]):=by
 refine bO 9 [0,2] func226 ?_;refine fK ?_;refine ML ?_;refine OV ?_;refine kA ?_;exact aD aE ⟨by rfl,rfl⟩ aA
theorem UO:bY prog 226 [] [] (fun n=>.int .i64 n) gU (fun _=>True):=⟨call226,fun n _=>BN n⟩
theorem UP(n:Int):SCall prog 234 [.int .i64 n] [] (fun r Y'=>r=.bool (gV n)/\Y'=[]):=by
 refine bO 9 [0,2] func234 ?_;refine fK ?_;refine ML ?_;refine OV ?_;refine kA ?_;exact aD aE ⟨by unfold gV;cases h:decide (-2147483648<=n)<;>simp_all [fM],rfl⟩ aA
def chN (c:Nat):Bool:=decide (32<=c)&&decide (c<=126)
theorem aGU:bY prog 289 [] [] (fun(n:Nat)=>.int .u8 n) chN (fun _=>True):=by
 refine⟨call289,fun k _=> ?_⟩;refine bO 9 [0,2] func289 ?_;refine fK ?_;refine ML ?_;refine OV ?_;refine kA ?_;exact aD aE ⟨by unfold chN;rw[show decide (32<=k)=decide ((32:Int)<=(k:Int))from decide_eq_decide.2 U,show decide (k<=126)=decide ((k:Int)<=(126:Int))from decide_eq_decide.2 U];cases h:decide ((32:Int)<=(k:Int))<;>simp_all [fM],rfl⟩ aA
theorem sR(l:Li)(a c:Int):SCall prog 113 [.agg (eO l),.int .i64 a,.int .i64 c] [] (fun r Y'=>r=.bool (lE l a c)/\Y'=[]):=by
 obtain⟨has,mn,mx⟩:=l;refine bO 38 [0,1,2,3,6,9] func113 ?_;unfold eO;refine dB ?_;refine fZ fun r3 h3=> ?_;intros;refine iO ?_;refine mX ?_;refine aB rfl ?_ ?_<;>intro g1
 ·have hE:lE ⟨has,mn,mx⟩ a c=if(mn==0)=true then(mx==0)else false:=by obtain rfl:has=false:=(C8 g1);unfold lE;cases h:mn==0<;>simp_all
  refine eY ?_;refine FK ?_;refine tB ?_;refine kA ?_;exact aD aE ⟨by rw[hE];rfl,rfl⟩ aA
 have hE:lE ⟨has,mn,mx⟩ a c=if(if(if decide (0<=mn)=true then decide (mn<=a)else false)=true then decide (-1<=mx)else false)=true then decide (mx<=c)else false:=by obtain rfl:has=true:=(C8 g1);unfold lE;rw[Dc rfl];cases h:decide (0<=mn)<;>cases h2:decide (mn<=a)<;>cases h3:decide (-1<=mx)<;>rfl
 refine IM ?_;refine qI ?_;refine aC6 ?_;refine sF ?_;refine zQ ?_;refine SP ?_;refine sF ?_;refine qI ?_;refine aC6 ?_;refine kA ?_;exact aD aE ⟨by rw[hE];rfl,rfl⟩ aA
theorem aD7(s:List Nat):wG s=if(!decide (s=[]))=true then cI s 16 chN else false:=by
 unfold wG cI chN;rcases s with _ |⟨x,s⟩
 ·rfl
 ·rw[Dc X,Dc X,show decide ((x::s).length<=16)=decide (((x::s).length:Int)<=16)from decide_eq_decide.2 U]
theorem ET(s:List Nat)(hs:s.length<=100000)(hlt:∀c∈s,c<256):SCall prog 225 [.str (cB s)] [] (fun r Y'=>r=.bool (wG s)/\Y'=[]):=by
 have hz:((cB s).toList==(⟨#[]⟩:ByteArray).toList)=decide (s=[]):=jL (m:=[]) hlt X;refine bO 10 [0,2] func225 ?_;refine cV ?_;by_cases hs:s=[]
 ·have hd:(!decide (s=[]))=false:=by rw[decide_eq_true hs];rfl
  refine fO ?_;refine lo (rF (E rfl) (E rfl)) rfl ?_;rw[hz,hd];refine kH ?_;refine Cu ?_;refine Cu ?_;refine kA ?_;exact aD aE ⟨by rw[aD7,hd];rfl,rfl⟩ aA
 ·have hd:(!decide (s=[]))=true:=by rw[decide_eq_false hs];rfl
  refine fO ?_;refine lo (rF (E rfl) (E rfl)) rfl ?_;rw[hz,hd];refine kH ?_;refine Cm ?_;refine cvb hlt ?_ (by simp[maxLen];omega);refine Cm ?_;refine kY call288 (aKG aGU s (fun _ _=>True.intro) 16) rfl aO bH ?_;refine kA ?_;exact aD aE ⟨by rw[aD7,hd];rfl,rfl⟩ aA
def mF (s:List Nat):Prop:=s.length<=100000/\∀c∈s,c<256
structure Md.W (m:Md):Prop where
 im:∀x∈m.im,mF x.mod/\mF x.nm
 ex:∀x∈m.ex,mF x.nm
 co:∀x∈m.co,x.bd.length<=100000
 il:m.im.length<=4294967296
 da:∀x∈m.da,∀c∈x.bs,c<256
theorem iU(a b:Bool):(if a=true then b else false)=(a&&b):=by cases a<;>rfl
theorem aD8(k n:Int):SCall prog 229 [.agg [.int .i64 k,.int .i64 n]] [] (fun r Y'=>r=.bool (nT k n)/\Y'=[]):=by
 refine bO 21 [0,1,2] func229 ?_;refine dB ?_;refine fZ fun r1 h1=> ?_;intros;refine iO ?_;refine FK ?_;refine tB ?_;refine aBu ?_;refine aC7 ?_;refine aC8 ?_;refine aMC ?_;refine aF3 ?_;refine aBu ?_;refine aC7 ?_;refine aC8 ?_;refine aOH ?_;refine aF3 ?_;refine jG ?_;refine cN ?_;exact aD aE ⟨by unfold nT;cases h:(k==2)<;>cases h1:(k==1)<;>cases h2:decide (-2147483648<=n)<;>cases h3:decide (n<=2147483647)<;>rfl,rfl⟩ aA
theorem aNr:bY prog 222 [] [] (fun x=>.agg (cD x)) (fun t=>cI t.pr 32 CR&&cI t.rs 1 CR) (fun _=>True):=by
 refine⟨call222,fun t _=> ?_⟩;obtain⟨pr,rs⟩:=t;refine bO 11 [0,1,2] func222 ?_;unfold cD;refine dB ?_;refine fZ fun r1 h1=> ?_;intros;refine iO ?_;refine kY call108 (DB QF pr (fun _ _=>True.intro) 32) rfl aO bH ?_;refine zQ ?_;refine kL rfl rfl call108 (fun _=>(DB QF rs (fun _ _=>True.intro) 1)) rfl aO bH ?_;refine kA ?_;exact aD aE ⟨by simp only[fM];rw[iU],rfl⟩ aA
theorem aNs:bY prog 224 [] [] (fun x=>.agg (eE x)) (fun x=>wG x.mod&&wG x.nm&&gU x.ty) (fun x=>mF x.mod/\mF x.nm):=by
 refine⟨call224,fun t ht=> ?_⟩;obtain⟨md,nm,ty⟩:=t;obtain⟨⟨h1,h2⟩,h3,h4⟩:=ht;refine bO 16 [0,1,2] func224 ?_;unfold eE;refine dB ?_;apply bx;rfl;rfl;exact rK;rfl;refine bD fun r1 h1=> ?_;repeat rcases h1 with⟨_,h1⟩
 refine iO ?_;refine kY call225 (ET md h1 h2) rfl aO bH ?_;refine zQ ?_;refine kL rfl rfl call225 (fun _=>(ET nm h3 h4)) rfl aO bH ?_;refine sF ?_;refine zQ ?_;refine kL rfl rfl call226 (fun _=>(BN ty)) rfl aO bH ?_;refine kA ?_;exact aD aE ⟨by dsimp only;cases wG md<;>cases wG nm<;>rfl,rfl⟩ aA
theorem aNt:bY prog 228 [] [] (fun x=>.agg (dX x)) (fun g=>nT g.kd g.n) (fun _=>True):=by
 refine⟨call228,fun t _=> ?_⟩;obtain⟨mu,k,n⟩:=t;refine bO 6 [0,1,2] func228 ?_;unfold dX;refine dB ?_;refine fZ fun r1 h1=> ?_;intros;refine iT ?_;refine EF ?_;refine jY ?_;refine kY call229 (aD8 k n) rfl aO bH ?_;refine cN ?_;exact aD aE ⟨by rfl,rfl⟩ aA
theorem aNu:bY prog 231 [] [] (fun x=>.agg (dD x)) (fun x=>wG x.nm&&gU x.fn) (fun x=>mF x.nm):=by
 refine⟨call231,fun t ht=> ?_⟩;obtain⟨nm,fn⟩:=t;obtain⟨h3,h4⟩:=ht;refine bO 11 [0,1,2] func231 ?_;unfold dD;refine dB ?_;refine fZ fun r1 h1=> ?_;intros;refine iO ?_;refine kY call225 (ET nm h3 h4) rfl aO bH ?_;refine zQ ?_;refine kL rfl rfl call226 (fun _=>(BN fn)) rfl aO bH ?_;refine kA ?_;exact aD aE ⟨by simp only[fM];rw[iU],rfl⟩ aA
theorem aNv:bY prog 233 [] [] (fun x=>.agg (dP x)) (fun x=>gV x.off&&cI x.fs 50 gU) (fun _=>True):=by
 refine⟨call233,fun t _=> ?_⟩;obtain⟨o,fs⟩:=t;refine bO 11 [0,1,2] func233 ?_;unfold dP;refine dB ?_;refine fZ fun r1 h1=> ?_;intros;refine iO ?_;refine kY call234 (UP o) rfl aO bH ?_;refine zQ ?_;refine kL rfl rfl call108 (fun _=>(DB UO fs (fun _ _=>True.intro) 50)) rfl aO bH ?_;refine kA ?_;exact aD aE ⟨by simp only[fM];rw[iU],rfl⟩ aA
theorem aNw:bY prog 236 [] [] (fun x=>.agg (dV x)) (fun x=>gV x.off&&decide (x.bs.length<=1000)) (fun _=>True):=by
 refine⟨call236,fun t _=> ?_⟩;obtain⟨o,bs⟩:=t;refine bO 12 [0,1,2] func236 ?_;unfold dV;refine dB ?_;refine fZ fun r1 h1=> ?_;intros;refine iO ?_;refine kY call234 (UP o) rfl aO bH ?_;refine vY ?_;refine OV ?_;refine kA ?_;exact aD aE ⟨by dsimp only;rw[show decide (bs.length<=1000)=decide ((bs.length:Int)<=1000)from decide_eq_decide.2 U];cases h:gV o<;>simp[fM],rfl⟩ aA
theorem aKX:bY prog 111 [] [] (fun x=>.agg (iv .any x)) cY (fun _=>True):=⟨call111,fun x _=>aBI .any x⟩
theorem aNx:bY prog 107 [] [] (fun x=>.agg (cQ x)) uA (fun x=>x.bd.length<=100000):=by
 refine⟨call107,fun t hb=> ?_⟩;obtain⟨ls,bd⟩:=t;dsimp only at hb;refine bO 22 [0,1,2,4] func107 ?_;unfold cQ;refine dB ?_;refine fZ fun r1 h1=> ?_;intros;refine iO ?_;refine tE call75 (nA bd hb) rfl bL kK ?_;rintro _ Y' ⟨q4,rfl,rfl⟩ h8
 replace h8:=bU h8;repeat rcases h8 with⟨_,h8⟩
 refine sJ ?_;refine fS ?_;refine kV ?_;refine SV ?_;refine kL rfl rfl call108 (fun _=>(DB QF ls (fun _ _=>True.intro) 32)) rfl aO bH ?_;refine sF ?_;refine zQ ?_;refine kL rfl rfl call110 (fun _=>(aGT aKX bd (fun _ _=>True.intro) 300)) rfl aO bH ?_;refine kA ?_;exact aD aE ⟨by unfold uA;dsimp only;cases zS (cH bd)<;>cases cI ls 32 CR<;>rfl,rfl⟩ aA
theorem YL(m:Md)(hw:m.W):SCall prog 112 [.agg (aM m)] [] (fun r Y'=>r=.bool (mK m)/\Y'=[]):=by
 obtain⟨h1,h2,h3,h4,hd5⟩:=hw;obtain⟨ty,im,fn,tb,me,gl,ex,el,co,da⟩:=m;dsimp only at h1 h2 h3 h4;have hE:∀(a b c d e f g:Bool),(if(if(if(if(if(if a=true then b else false)=true then c else false)=true then d else false)=true then e else false)=true then f else false)=true then g else false)=(a&&b&&c&&d&&e&&f&&g):=by
  intro a b c d e f g;cases a<;>cases b<;>cases c<;>cases d<;>cases e<;>cases f<;>rfl
 refine bO 54 [0,1,2,3,4,5,6,7,8,9] func112 ?_;unfold aM;refine dB ?_;apply bx;rfl;rfl;exact rK;rfl;refine bD fun r1 h1=> ?_;repeat rcases h1 with⟨_,h1⟩
 refine iO ?_;refine kY call221 (aKC aNr ty (fun _ _=>True.intro) 16) rfl aO bH ?_;refine iO ?_;refine kY call223 (aKI aNs im h1 16) rfl aO bH ?_;refine iO ?_;refine qA ?_;refine tN ?_;refine kY call108 (DB UO fn (fun _ _=>True.intro) _) rfl aO bH ?_;refine iO ?_;refine kY call227 (aKL aNt gl (fun _ _=>True.intro) 16) rfl aO bH ?_;refine iO ?_;refine kY call230 (aKN aNu ex h2 16) rfl aO bH ?_;refine iO ?_;refine kY call232 (aKP aNv el (fun _ _=>True.intro) 16) rfl aO bH ?_;refine iO ?_;refine kY call235 (aKV aNw da (fun _ _=>True.intro) 16) rfl aO bH ?_;refine pP ?_;refine jZ ?_;refine qK ?_;refine qK ?_;refine qK ?_;refine qK ?_;refine qK ?_;refine kA ?_;exact aD aE ⟨by simp only[fM];rw[hE];rfl,rfl⟩ aA
structure Md.WO (m:Md):Prop where
 w:m.W
 ok:m.Ok
theorem DC(m:Md)(h:m.WO):SCall prog 51 [.agg (aM m)] [] (fun r Y'=>r=.bool (jP m)/\Y'=[]):=by
 have hM:=vF m;have hA:nC m=((if((m.co.length:Int)==(m.fn.length:Int))=true then cI m.co 16 uA else false)&&mK m&&lE m.tb 16 1000&&lE m.me 16 65536):=by
  unfold nC;rw[iU,show((m.co.length:Int)==(m.fn.length:Int))=(m.co.length==m.fn.length) by rw[B1];simp only[beq_iff_eq];omega]
 have hL:decide ((eZ m).length<=8000)=decide (((eZ m).length:Int)<=8000):=decide_eq_decide.2 U;rw[hL]at hM;refine bO 37 [0,1,2,3] func51 ?_;refine dB ?_;refine fZ fun r1 h1=> ?_;intros;refine cN ?_;have hwr:=fun h'=>DA m h' h.ok
 obtain⟨⟨h1,h2,h3,h4,hd5⟩,h5⟩:=h;obtain⟨ty,im,fn,tb,me,gl,ex,el,co,da⟩:=m;have hli:=YL ⟨ty,im,fn,tb,me,gl,ex,el,co,da⟩ ⟨h1,h2,h3,h4,hd5⟩;dsimp only at h1 h2 h3 h4 hA hM;refine jD ?_;refine qA ?_;refine qA ?_;refine FK ?_;refine kL rfl rfl call106 (fun _=>(aKS aNx co h3 16)) rfl aO bH ?_;refine kA ?_;by_cases hc:nC ⟨ty,im,fn,tb,me,gl,ex,el,co,da⟩=true
 ·have hc2:=hc;rw[hA]at hc2;simp only[Ap]at hc2;obtain⟨⟨⟨e1,e2⟩,e3⟩,e4⟩:=hc2;rw[e2]at hli;have hl1:=sR tb 16 1000;have hl2:=sR me 16 65536;rw[e3]at hl1;rw[e4]at hl2;have hE:jP ⟨ty,im,fn,tb,me,gl,ex,el,co,da⟩=decide (((eZ ⟨ty,im,fn,tb,me,gl,ex,el,co,da⟩).length:Int)<=8000):=by rw[hM,hc];rfl
  rw[e1];refine kV ?_;refine aF4 ?_;refine Cm ?_;refine kY call112 hli rfl aO bH ?_;refine sF ?_;refine GJ ?_;refine CB ?_;refine Cm ?_;refine kY call113 hl1 rfl aO bH ?_;refine sF ?_;refine GJ ?_;refine CB ?_;refine Cm ?_;refine kY call113 hl2 rfl aO bH ?_;refine sF ?_;refine CF ?_;refine Cm ?_;refine tE call56 (hwr hc) rfl bL kK ?_;rintro _ Y' ⟨q33,rfl,rfl⟩ h33
  replace h33:=bU h33;repeat rcases h33 with⟨_,h33⟩
  apply aR;exact aU;refine CA ?_;refine OV ?_;refine kA ?_;exact aD aE ⟨by rw[hE];rfl,rfl⟩ aA
 ·rw[Bool.not_eq_true]at hc;have hE:jP ⟨ty,im,fn,tb,me,gl,ex,el,co,da⟩=false:=by rw[hM,hc];rfl
  rw[hc]at hA;simp only[<-iU]at hA;refine kV ?_;refine aF4 ?_;refine kL rfl rfl call112 (fun _=>hli) rfl aO bH ?_;refine sF ?_;refine GJ ?_;refine CB ?_;refine kL rfl rfl call113 (fun _=>(sR tb 16 1000)) rfl aO bH ?_;refine sF ?_;refine GJ ?_;refine CB ?_;refine kL rfl rfl call113 (fun _=>(sR me 16 65536)) rfl aO bH ?_;refine sF ?_;rw[<-hA];refine CF ?_;refine Cu ?_;refine CA ?_;refine OV ?_;refine kA ?_;exact aD aE ⟨by rw[hE];rfl,rfl⟩ aA
def oE (m:Md):List Nat:=if jP m=true then eZ m else []
theorem oF{m:Md}(h:jP m=true):nC m=true/\(eZ m).length<=8000:=by
 rw[vF]at h;simpa using h
theorem sS(m:Md)(h:m.WO):SCall prog 18 [.agg (aM m)] [] (fun y Y=>∃r,y=.own r 0 (oE m).length/\Y=[(r,.arr 5 1 ((oE m).map aG))]):=by
 have hm:=DC m h;have hw:=fun h'=>DA m h' h.ok
 refine bO 8 [0,1,2,5] func18 ?_;refine dB ?_;refine fZ fun r1 h1=> ?_;intros;refine cN ?_;obtain⟨ty,im,fn,tb,me,gl,ex,el,co,da⟩:=m;refine jD ?_;refine jY ?_;refine kY call51 hm rfl aO bH ?_;refine mX ?_;refine aB rfl ?_ ?_<;>intro g1
 ·refine tR ?_;have hE:oE ⟨ty,im,fn,tb,me,gl,ex,el,co,da⟩=[]:=by unfold oE;rw[Db];intro e;rw[e]at g1;cases g1
  refine bQ 2 5 1 V rfl V (bD fun q2 hq2=> ?_);repeat rcases hq2 with⟨_,hq2⟩
  refine aI ?_;exact aD aE ⟨q2,by rw[hE];rfl,by rw[hE]⟩ aA
 have hy:jP ⟨ty,im,fn,tb,me,gl,ex,el,co,da⟩=true:=C8 g1
 have hE:oE ⟨ty,im,fn,tb,me,gl,ex,el,co,da⟩=eZ ⟨ty,im,fn,tb,me,gl,ex,el,co,da⟩:=by unfold oE;rw[Dc hy]
 refine mE ?_;refine tE call56 (hw (oF hy).1) rfl bL kK ?_;rintro _ Y' ⟨r7,rfl,rfl⟩ h7
 replace h7:=bU h7;repeat rcases h7 with⟨_,h7⟩
 refine fF ?_;exact aD aE ⟨r7,by rw[hE];rfl,by rw[hE]⟩ aA
theorem aKY(n:Nat)(hn:n<4294967296):IntKind.u64.wrap ↑(A9 IntKind.u64.bits (n:Int)&&&A9 IntKind.u64.bits 4294967295).toNat=n:=by
 have h1:(A9 IntKind.u64.bits (n:Int)).toNat=n:=by
  rw[BitVec.toNat_ofInt];simp[IntKind.bits];omega
 have h2:(A9 IntKind.u64.bits 4294967295).toNat=2^32-1:=by decide
 rw[BitVec.toNat_and,h1,h2,Nat.and_two_pow_sub_one_eq_mod,Nat.mod_eq_of_lt U,IntKind.wrap_u64];omega
theorem aNy(n:Nat)(hn:n<4294967296):((n:Int)).fdiv (2^min (Int.toNat 32) IntKind.u64.bits)=0:=by
 have:(2:Int)^min (Int.toNat 32) IntKind.u64.bits=4294967296:=by decide
 rw[this,Int.fdiv_eq_ediv_of_nonneg _ U];omega
theorem aD9(n:Nat)(hn:n<18446744073709551616):IntKind.u64.wrap (n:Int)=n:=by rw[IntKind.wrap_u64];omega
theorem NG(n:Nat)(hn:n<4294967296):SCall prog 306 [.int .u64 1,.int .u64 n] [] (fun x Y=>x=.tup [.int .u64 0,.int .u64 n]/\Y=[]):=by
 refine bO 51 [0,1,4,5,6,7,8,9,10,11,12,13] func306 ?_;refine dB ?_;refine pN ?_;refine Cq ?_;refine gX ?_;refine z2 ?_;refine gX ?_;refine Cq ?_;refine gX ?_;refine z2 ?_;refine pP ?_;refine Ci ?_;refine pP ?_;refine Ci ?_;refine B4 ?_;refine z2 ?_;refine C1 ?_;refine gX ?_;refine Cq ?_;refine gX ?_;refine z2 ?_;refine cN ?_;refine xN ?_;refine Ci ?_;refine C1 ?_;refine pP ?_;refine Ci ?_;refine B4 ?_;refine C1 ?_;refine B4 ?_;refine z2 ?_;refine C1 ?_;refine pP ?_;refine Ci ?_;refine cN ?_;have e0:=aKY n hn;have e1:IntKind.u64.wrap ↑(A9 IntKind.u64.bits 1&&&A9 IntKind.u64.bits 4294967295).toNat=1:=aKY 1 V;have e2:=aNy n hn;have e3:Int.fdiv 1 (2^min (Int.toNat 32) IntKind.u64.bits)=0:=aNy 1 V;have e4:=aD9 n U;have e5:IntKind.u64.wrap 0=0:=by decide
 have e6:Int.fdiv 0 (2^min (Int.toNat 32) IntKind.u64.bits)=0:=by decide
 have e7:IntKind.u64.wrap ↑(A9 IntKind.u64.bits 0&&&A9 IntKind.u64.bits 4294967295).toNat=0:=aKY 0 V;apply aD;exact aE;refine⟨?_,rfl⟩;simp only[fM,e0,e1,e2,e3,e4,e5,e6,e7,Int.zero_mul,Int.mul_zero,Int.one_mul,Int.add_zero,Int.zero_add];exact aA
theorem aAU(n:Nat)(hn:n<4294967296):SCall prog 278 [.int .u64 1,.int .u64 n] [] (fun x Y=>x=.tup [.int .u64 0,.int .u64 n]/\Y=[]):=by
 refine bO 30 [0,1,4,5,6,7,8,9] func278 ?_;refine dB ?_;refine fS ?_;refine kV ?_
 (first|refine pu [] call306 (NG n hn) rfl fY bH ?_ |refine pug [] rfl rfl call306 (fun _=>(NG n hn)) rfl fY bH ?_);refine tC ?_;refine fS ?_;refine kV ?_;refine fS ?_;apply aD;exact aE;exact⟨rfl,rfl⟩;exact aA
theorem aEa{α:Type}(a z:α)(n k:Nat)(hk:k<=n):Ak (k+min k (n-k)) a++Ak (n-(k+min k (n-k))) z=
  List.take (0+k) (Ak k a++Ak (n-k) z)++List.take (min k (n-k)) (List.take (k-0) (List.drop (0+0) (Ak k a++Ak (n-k) z)))++List.drop (0+k+min k (n-k)) (Ak k a++Ak (n-k) z):=by
 generalize hm:min k (n-k)=m;have h1:m<=k:=by omega
 have h2:k+m<=n:=by omega
 have t1:List.take k (Ak k a++Ak (n-k) z)=Ak k a:=by rw[List.take_append_of_le_length X];simp
 have t2:List.drop (k+m) (Ak k a++Ak (n-k) z)=Ak (n-(k+m)) z:=by
  rw[List.drop_append,List.drop_of_length_le X,Ay,List.length_replicate,List.drop_replicate]
  congr 1
  omega
 rw[B2,Nat.sub_zero,Nat.add_zero,Bu,t1,t2,List.take_replicate,Nat.min_eq_left h1,List.replicate_append_replicate]
theorem yK{v:AV}(hv:v.cell=true)(n:Nat)(hn:n<=100000):SCall prog 207 [.ro 1 [[v]] .any,.int .i64 n] [] (fun x Y=>∃r,x=.own r 0 n/\Y=[(r,.arr 3 1 (Ak n [v]))]):=by
 refine bO 48 [0,1,4,5,6,7,8,10,26,37] func207 ?_;refine fK ?_;refine sG ?_;refine fO ?_;refine vP ?_;refine XE ?_;refine B4 ?_;refine XE ?_
 (first|refine pu [] call278 (aAU n U) rfl fY bH ?_ |refine pug [] rfl rfl call278 (fun _=>(aAU n U)) rfl fY bH ?_);refine tC ?_;refine pN ?_;refine Cx ?_;refine AZ ?_;refine z18 ?_;refine XP ?_;refine iM ?_;refine aB rfl (fun h=> ?_) (fun _=> ?_)
 ·simp at h;omega
 refine dG ?_;refine z44 ?_;apply mk;rfl;rfl;rfl;rfl;omega;(simp[maxLen];omega);exact rK;rfl;refine gD fun r30 h30=> ?_;intros;refine pP ?_;apply cp (m:=min 1 n) (es':=Ak (min 1 n) [v]++Ak (n-min 1 n) [.int .i64 0]);rfl;exact bK;simp;exact .inl ⟨_,rfl⟩;rfl
 ·rcases n with _ |n<;>simp[List.replicate_succ]
 ·rfl
 refine cN ?_;refine lp (β:=Nat×Nat) (fun b=>⟨[(7,.own b.1 0 n),(8,.int .i64 b.2)],[(b.1,.arr 3 1 (Ak b.2 [v]++Ak (n-b.2) [.int .i64 0]))]⟩) (fun b=>b.2<=n/\(0<n->0<b.2)) (fun b=>n-b.2) (r30,min 1 n) ?_ ⟨by show min 1 n<=n;omega,fun h=>by show 0<min 1 n;omega⟩ ?_
 ·exact aH
 rintro⟨r,k⟩ ⟨hk,hk0⟩;simp only at hk hk0⊢;refine vT ?_;refine aB rfl (fun h1=> ?_) (fun h1=> ?_)
 ·simp at h1;refine aI ?_;refine eK (Ac [0,1,2,3,4,5,6] (Ad 7 (Ac [8,9] []))) ?_;refine wV ?_;refine B5 ?_;refine z84 ?_;refine wV ?_;refine z25 ?_;apply dcp (m:=min k (n-k)) (es':=Ak (k+min k (n-k)) [v]++Ak (n-(k+min k (n-k))) [.int .i64 0]);rfl;infer_instance;infer_instance;rfl;exact bK
  ·first|(simp;done)|(simp;omega)
  ·exact .inr (.inr ⟨_,_,_,_,_,rfl,bR,X,rfl⟩)
  ·first|(simp;done)|(simp;omega)
  ·exact aEa _ _ _ _ hk
  ·rfl
  ·exact eC
  refine aC9 ?_;refine tQ ?_;refine⟨(r,k+min k (n-k)),⟨by show k+min k (n-k)<=n;omega,fun h=>by show 0<k+min k (n-k);omega⟩,by show n-(k+min k (n-k))<n-k;omega, ?_⟩;exact aH
 ·obtain rfl:k=n:=by simp at h1;omega
  refine fC ?_;exact aD aE ⟨r,by rfl,rfl⟩ aA
theorem JH{es:List (List AV)}(hn:es.length<=1000000):SCall prog 267 [.ro 1 es .any] [] (fun x Y=>∃r,x=.own r 0 es.length/\Y=[(r,.arr 5 1 es)]):=by
 refine bO 8 [0,2,4] func267 ?_;refine fK ?_;refine ne rfl rfl rfl fun b hb _=> ?_
 refine kX ?_;cases b
 ·refine dB ?_;refine eN fun r5 h5=> ?_;intros;refine B4 ?_;apply ap;rfl;rfl;exact bR;rfl;exact .inl ⟨_,rfl⟩;exact Ay _;exact(B2 _).symm;(simp[maxLen];omega);omega;rfl;refine bG fun r7 h7=> ?_;intros;refine cN ?_;exact aD aE ⟨_,by rfl,rfl⟩ aA
 ·obtain rfl:=hb rfl;refine tR ?_;refine bQ (ks:=[0,2,4]) 2 5 1 V rfl V fun r hr=> ?_
  refine aI ?_;exact aD aE ⟨_,by rfl,rfl⟩ aA
def SOk (s:St):Prop:=s.1.length<=100000/\∀x∈s.1,x<256
theorem SOk.drop {s:St}(h:SOk s)(n:Nat)(b:Bool):SOk (s.1.drop n,b):=⟨by simp;have:=h.1;omega,fun x hx=>h.2 x (List.mem_of_mem_drop hx)⟩
theorem SOk.bad {s:St}(h:SOk s)(b:Bool):SOk (s.1,b):=h
def Kp {α:Type} (get:St->α×St):Prop:=∀s,SOk s->SOk (get s).2
theorem NH{s:St}(h:SOk s)(n:Int)(ok:Bool):SOk (xB s n ok):=by
 unfold xB;dsimp only;split
 ·exact h.bad _
 ·exact h.drop _ _
theorem iV:Kp gW:=fun s h=>NH h _ _
theorem oG:Kp lX:=fun s h=>by
 unfold lX;split
 ·exact h.bad _
 ·exact h.drop _ _
theorem FS:Kp CX:=fun s h=>NH (iV s h) _ _
theorem aJk{α:Type}{get:St->α×St}(hg:Kp get):∀n s,SOk s->SOk (kS get n s).2
 |0,s,h=>h
 |n+1,s,h=>by
  rw[kS];split
  ·exact h
  ·exact aJk hg n _ (hg s h)
theorem uE{α:Type}{get:St->α×St}(hg:Kp get):Kp (gF get):=fun s h=>aJk hg _ _ (iV s h)
theorem AM:Kp yI:=fun s h=>by
 have:=oG s h;unfold yI;dsimp only;split
 ·exact this
 ·split
  ·exact this
  ·exact this.bad _
theorem aJl:Kp RQ:=fun s h=>by unfold RQ;exact oG _ (NH h _ _)
theorem UQ:Kp RR:=fun s h=>by unfold RR;exact aJl _ (oG s h)
theorem aJm:Kp lmN:=fun s h=>by
 have h1:=iV _ (oG s h);unfold lmN;dsimp only;split
 ·exact iV _ h1
 ·exact h1
theorem aJn:∀n s l,SOk s->SOk (YJ n s l).2
 |0,s,l,h=>h
 |n+1,s,l,h=>by
  rw[YJ];split
  ·exact h
  ·dsimp only;split
   ·exact(AM _ (iV s h)).bad _
   ·exact aJn n _ _ (AM _ (iV s h))
theorem aEb:Kp BL:=fun s h=>aJn _ _ _ (iV s h)
theorem aEc:Kp PZ:=fun s h=>by
 have h1:=aEb _ (iV s h);unfold PZ;dsimp only;split
 ·exact h1
 ·exact NH h1 _ _
theorem aJo:Kp tyN:=fun s h=>uE AM _ (uE AM _ (oG s h))
theorem aEd:Kp inN:=fun s h=>iV s h
theorem aEe:Kp imN:=fun s h=>iV _ (oG _ (FS _ (FS s h)))
theorem aEf:Kp glN:=fun s h=>aJl _ (oG _ (AM s h))
theorem aEg:Kp exN:=fun s h=>iV _ (oG _ (FS s h))
theorem aJp(b:Bool):Kp (tbN b):=fun s h=>by
 unfold tbN;cases b
 ·exact aJm _ h
 ·exact aJm _ (oG s h)
theorem aJq(b:Bool):Kp (UD b):=fun s h=>uE (aJp b) s h
theorem aJr:Kp eeN:=fun s h=>uE aEd _ (UQ s h)
theorem aEh:Kp ddN:=fun s h=>FS _ (UQ s h)
def dF (s:St):List AV:=[.ro 1 (s.1.map aG) .any,.bool s.2]
theorem DD(r:Nat)(s:St)(hs:SOk s)(n:Nat)(ok:Bool):SCall prog 66 [.ptr r 0,.int .i64 n,.bool ok] [(r,.box 117 (dF s))]
  (fun x Y=>x=.tup []/\Y=[(r,.box 117 (dF (xB s n ok)))]):=by
 obtain⟨l,bad⟩:=s;obtain⟨hl,hlt⟩:=hs;dsimp only at hl hlt;have hB:(if(if bad=true then true else !ok)=true then true else decide ((l.length:Int)<n))=(bad|| !ok||decide ((l.length:Int)<n)):=by cases bad<;>cases ok<;>rfl
 refine bO 40 [0,1,2,30] func66 ?_;unfold dF;dsimp only;refine cJ ?_;refine AY ?_;refine kH ?_;refine AW ?_;refine jG ?_;refine kH ?_;refine jZ ?_;refine aAs ?_;refine CA ?_;refine aOI ?_;refine jG ?_;refine z76 ?_;rw[hB];refine EF ?_;refine fR ?_;generalize hb:(bad|| !ok||decide ((l.length:Int)<n))=B;refine rM ?_;refine mX ?_;refine aB rfl ?_ ?_<;>intro g1
 ·obtain rfl:B=false:=C8 g1
  have hn:n<=l.length:=by simp at hb;omega
  have hE:xB (l,bad) n ok=(l.drop n,false):=by unfold xB;dsimp only;rw[hb];rfl
  refine cJ ?_;refine xM ?_;refine aF2 ?_;refine qB ?_;rw[TU];refine fR ?_;refine bS ?_;exact aD aE ⟨by rfl,by rw[hE]⟩ aA
 obtain rfl:B=true:=C8 g1
 have hE:xB (l,bad) n ok=(l,true):=by unfold xB;dsimp only;rw[hb];rfl
 refine aI ?_;refine bS ?_;exact aD aE ⟨by rfl,by rw[hE]⟩ aA
theorem kE(r:Nat)(s:St)(hs:SOk s):SCall prog 68 [.ptr r 0] [(r,.box 117 (dF s))]
  (fun x Y=>x=.int .i64 ((gW s).1:Nat)/\Y=[(r,.box 117 (dF (gW s).2))]):=by
 have hgb:=CJ s.1;have hsk:=fun n ok=>DD r s hs n ok
 obtain⟨l,bad⟩:=s;obtain⟨hl,hlt⟩:=hs;dsimp only at hl hlt hgb;refine bO 26 [0,2,3,4,5,23] func68 ?_;unfold dF;dsimp only;refine fK ?_;refine AY ?_;refine kY call166 (aIU l U hlt) rfl aO bH ?_;refine tC ?_;refine B6 ?_;refine pM ?_;refine xN ?_;refine Ch ?_;refine cw [(r,.box 117 (dF (l,bad)))] call66 (hsk (mR l).2.1 ((mR l).2.2==0)) rfl aC aA ?_;rintro _ Y' ⟨rfl,rfl⟩ h19;refine fN ?_;have hN:gW (l,bad)=(if(xB (l,bad) (mR l).2.1 ((mR l).2.2==0)).2 then 0 else(mR l).1,xB (l,bad) (mR l).2.1 ((mR l).2.2==0)):=rfl;generalize xB (l,bad) (mR l).2.1 ((mR l).2.2==0)=s2 at hN⊢;obtain⟨l2,b2⟩:=s2;unfold dF;dsimp only at hN⊢;refine rM ?_;refine iM ?_;refine aB rfl ?_ ?_<;>intro g3
 ·have hE:gW (l,bad)=(0,(l2,true)):=by rw[hN,g3];rfl
  rw[g3];refine cV ?_;exact aD aE ⟨by rw[hE];rfl,by rw[hE]⟩ aA
 have hE:gW (l,bad)=((mR l).1,(l2,false)):=by rw[hN,g3];rfl
 rw[g3];refine dG ?_;refine z44 ?_;refine cN ?_;exact aD aE ⟨by rw[hE];rfl,by rw[hE]⟩ aA
theorem pG(r:Nat)(s:St)(hs:SOk s):SCall prog 67 [.ptr r 0] [(r,.box 117 (dF s))]
  (fun x Y=>x=.int .u8 ((lX s).1:Nat)/\Y=[(r,.box 117 (dF (lX s).2))]):=by
 obtain⟨l,bad⟩:=s;obtain⟨hl,hlt⟩:=hs;dsimp only at hl hlt;refine bO 34 [0,2,3,15] func67 ?_;unfold dF;dsimp only;refine fK ?_;refine AY ?_;refine kH ?_;refine aAs ?_;refine CA ?_;refine tB ?_;refine uY ?_;refine aB rfl ?_ ?_<;>intro g1
 ·have hE:lX (l,bad)=(0,(l,true)):=by unfold lX;rw[Dc];cases bad;(cases l with|nil=>rfl|cons x t=>simp at g1;omega);rfl
  refine rO ?_;refine mG ?_;refine cV ?_;exact aD aE ⟨by rw[hE];rfl,by rw[hE]⟩ aA
 obtain⟨c,t,rfl⟩:∃c t,l=c::t:=by cases l with|nil=>(cases bad<;>simp at g1)|cons c t=>exact⟨c,t,rfl⟩
 obtain rfl:bad=false:=by cases bad with|false=>rfl|true=>simp at g1
 have hE:lX (c::t,false)=(c,(t,false)):=rfl;have hpos:0<(c::t).length:=Nat.succ_pos _;have hx:(c::t)[(0:Int).toNat]? =some c:=rfl;refine vZ ?_;refine mD ?_;refine pP ?_;refine AY ?_;refine aF2 ?_;refine qB ?_;rw[show List.take (((c::t).map aG).length-1) (List.drop 1 ((c::t).map aG))=t.map aG by rw[Bn,List.drop_one,List.tail_cons];exact Aj X];refine vV ?_;refine cN ?_;exact aD aE ⟨by rw[hE];rfl,by rw[hE]⟩ aA
theorem aEi(r:Nat)(s:St)(hs:SOk s):SCall prog 184 [.ptr r 0] [(r,.box 117 (dF s))]
  (fun x Y=>∃q,Nq q r/\x=.own q 0 (CX s).1.length/\Y=[(q,.arr 5 1 ((CX s).1.map aG)),(r,.box 117 (dF (CX s).2))]):=by
 have h1:=kE r s hs;have k1:=iV s hs;have hR:CX s=(if(xB (gW s).2 (gW s).1 true).2 then []else(gW s).2.1.take (gW s).1,xB (gW s).2 (gW s).1 true):=rfl;generalize gW s=p at h1 k1 hR;obtain⟨n,s1⟩:=p;dsimp only at h1 k1 hR;have h2:=DD r s1 k1 n true;have hk:(xB s1 n true).2=false->n<=s1.1.length:=fun h=>by unfold xB at h;dsimp only at h;simp at h;omega
 generalize xB s1 n true=s2 at h2 hR hk;obtain⟨l1,b1⟩:=s1;obtain⟨l2,b2⟩:=s2;have hl1:l1.length<=100000:=k1.1;dsimp only at hR hk;rw[hR];refine bO 22 [0,2,3,4,17] func184 ?_;refine fK ?_;refine cw [(r,.box 117 (dF s))] call68 h1 rfl aC aA ?_;rintro _ Y' ⟨rfl,rfl⟩ h6;refine fF ?_;unfold dF;dsimp only;refine rM ?_;refine pP ?_;refine cw [(r,.box 117 (dF (l1,b1)))] call66 h2 rfl aC aA ?_;rintro _ Y' ⟨rfl,rfl⟩ h13;refine fN ?_;unfold dF;dsimp only;refine rM ?_;refine iM ?_;refine aB rfl ?_ ?_<;>intro g4
 ·have hE:(if b2=true then []else l1.take n)=[]:=Dc g4;rw[hE,g4];refine tR ?_;refine bQ 2 5 1 V rfl V (bD fun q hq=> ?_);repeat rcases hq with⟨_,hq⟩
  refine aI ?_;exact aD aE ⟨q,by(exact aX),by rfl,rfl⟩ aA
 have hE:(if b2=true then []else l1.take n)=l1.take n:=Db (by rw[g4];simp);have hn:=hk g4;rw[hE,g4];refine cJ ?_;refine aF0 ?_;rw[show List.take (n-0) (List.drop 0 (l1.map aG))=(l1.take n).map aG by rw[Bu,Nat.sub_zero,List.map_take]];refine tE call267 (JH (es:=(l1.take n).map aG) Af) rfl bL kK ?_;rintro _ Y' ⟨q,rfl,rfl⟩ h21
 replace h21:=bU h21;repeat rcases h21 with⟨_,h21⟩
 refine fF ?_;rw[Az];exact aD aE ⟨q,by(exact aX),by rfl,rfl⟩ aA
end Go.Proofs.YtjpdadobblffmaaGreat
