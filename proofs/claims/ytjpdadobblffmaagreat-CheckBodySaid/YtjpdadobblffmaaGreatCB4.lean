import Derived.Test.YtjpdadobblffmaaGreatCB3
import Derived.Test.YtjpdadobblffmaaGreatCB2
set_option linter.unusedSimpArgs false
set_option linter.unusedVariables false
set_option maxRecDepth 100000
set_option maxHeartbeats 4000000
namespace Go.Proofs.YtjpdadobblffmaaGreat
open Go.RowKit Go.ChangeShapes Go.WideShapes Go.ChangeAt Go.Deep
section
variable {P : Program} {n : Nat} {ops : Array Oper} {fr : Fr} {σ : dY} {K : ASt → Prop} {ty t : TypeId} {d : Nat} {x y : Operand} {listed : Array Bool} {todo : List (Nat × Bool)} {held : List (Nat × List Nat)}
theorem aER{e:TypeId}{sz by_:Nat}{zv:Value}{r len:Nat}{es ys:List (List AV)}(es':List (List AV))(len':Nat)
  (hK:∀r',Fresh r' (eZ [r] σ)→∃σ',SSet σ r (.arr e sz es) r' (.arr e sz es') σ'∧RD P n ops listed todo held ⟨(d,.own r' 0 len')::fr,σ'⟩ K)
  (i1:Ty P t (.slice e):=by infer_instance) (i2:Tz P e sz by_ zv:=by infer_instance) (hz:zv.cells.size=sz:=by rfl) (hx:aev ⟨fr,σ⟩ x=some (.own r 0 len):=by rfl) (hg:gU σ r=some (.arr e sz es):=by exact bH) (hlen:len=es.length:=by exact JH) (hy:Src ⟨fr,σ⟩ y sz ys:=by exact aBF)
  (he:es++ys=es':=by exact aEF) (hl':len'=len+ys.length:=by exact JH) (hmax:len'≤maxLen:=by(simp[maxLen];try omega)) (hby:len'*by_≤140737488355328:=by(simp;try omega)) (hd:Nat.ble (d+1) n=true:=by rfl):
  Hop P n (.call { callee:=.builtin .append,args:=#[x,y],argTypes:=#[t,t] }) ty (some d) ⟨fr,σ⟩ [r] (fun s'=>RD P n ops listed todo held s' K):=by
 subst he hl';refine oS hz hx hg (by omega) hy hmax hby (dF hd) fun r' hf=> ?_
 obtain⟨σ',hs,hK⟩:=hK r' hf;rw[hlen,List.take_length];refine CG (fun p hp=>hs.sub p hp) ?_;rw[←hlen];exact hK
theorem mH{f:FuncId}{xs:List Operand}{ats:Array TypeId}{args:List AV}{R:AV→dY→Prop}(hf:∀args w,(callFunc f args).run P w=.ok (.enter f args) w)(h:SCall P f args [] R)(hd:d<n)
  (hK:∀x σ',R x σ'→(∀p∈σ',Fresh p.1 σ)→K ⟨(d,x)::fr,σ'++σ⟩) (hargs:ArgsBor ⟨fr,σ⟩ (σ.map (·.1)) xs args:=by exact bS) (hno:∀x σ',R x σ'→NoF x∧∀p∈σ',ENoF p.2:=by exact kI):
  Hop P n (.call { callee:=.value (.func f),args:=xs.toArray,argTypes:=ats }) ty (some d) ⟨fr,σ⟩ [] K:=qF (s:=⟨fr,σ⟩) _ hf h hd hargs hno hK
theorem aHd{sz by_:Nat}{z:Value}{cs:List AV}(i1:Tz P t sz by_ z)(hd:Nat.ble (d+1) n=true)(hz:z.cells.toList.map cW=cs)(hK:∀r,Fresh r σ→K ⟨(d,.ptr r 0)::fr,(r,.box t cs)::σ⟩):Hop P n (.alloc t) ty (some d) ⟨fr,σ⟩ [] K:=by
 subst hz;exact zE (dF hd) hK
end
section
variable {P : Program} {n : Nat} {ops : Array Oper} {fr : Fr} {σ : dY} {K : ASt → Prop} {listed : Array Bool} {todo : List (Nat × Bool)} {held : List (Nat × List Nat)}
theorem aHe{s s':ASt}(hgo:SGo s s')(h:RD P n ops listed todo held s' K):RD P n ops listed todo held s K:=by
 intro hsel hc M F N a w hr;obtain⟨M1,F1,N1,hr1,he1⟩:=hgo M F N n a w hr;refine jI (PostN.ext he1) (fun j g hg=> ?_) _ _ _ _ (h hsel hc M1 F1 N1 a w hr1);rcases hg with hg|⟨r,hr,hb⟩
 ·exact .inl (he1.ff g hg)
 ·refine .inr ⟨r,hr, ?_⟩;unfold bY at hb⊢;cases hm:M r with
  |none=>rw[hm]at hb;cases hb
  |some b=>rw[he1.mm r b hm];rw[hm]at hb;exact hb
theorem aHf{j q:Nat}{v v':AV}{e:Ent}{σ':dY}(hx:dU fr j=some v)(hd:SDel σ q e σ')(hb:Bor σ [q] v v')(hK:RD P n ops listed todo held ⟨(j,v')::fr,σ'⟩ K):RD P n ops listed todo held ⟨fr,σ⟩ K:=aHe (JI hx hd hb) hK
end
theorem NF{P:Program}{n:Nat}{ks:List Nat}{s:ASt}{c:Code}{Q:Exit→ASt→Prop}(r i off:Nat)(e:TypeId)(sz:Nat)(h0:0<sz){et:TypeId}{sz1:Nat}{es:List (List AV)}{x:List AV}{z:Nat}{k:Rk}(hg:gU s.σ r=some (.arr et sz1 es))(hi:es[i]? =some x)(hx:x[off]? =some (.ro z [] k))(hk:k≠ .any)
  (h:∀q,Fresh q s.σ→∃σ',SSet s.σ r (.arr et sz1 es) r (.arr et sz1 (es.set i (x.set off (.own q 0 0)))) σ'∧SW P n ks c ⟨s.fr,(q,.arr e sz [])::σ'⟩ Q):SW P n ks c s Q:=by
 intro M F N a w hr;have hE:ER (gH M N .virt) F w N (.arr e sz []):=⟨h0,fun x hx=>by simp at hx,.inl ⟨cN _,rfl⟩⟩
 obtain⟨r1,e1,n1⟩:=hr.new_ (w':=w) .virt (.arr e sz []) (fun _ _=>rfl) ⟨rfl,rfl,rfl⟩ (Nat.le_refl _) (fun g hg=>by simp[bY,cN]at hg) hE;obtain⟨σ',hs,hK⟩:=h N n1;have hmem:∀p∈(N,Ent.arr e sz [])::σ',∃x,(p.1,x)∈(N,Ent.arr e sz [])::s.σ:=by
  intro p hp;rcases List.mem_cons.1 hp with rfl|hp
  ·exact⟨_,List.mem_cons_self⟩
  ·rcases List.mem_cons.1 (hs.sub p hp)with rfl|hp
   ·exact⟨_,List.mem_cons_of_mem _ (bV hg)⟩
   ·exact⟨_,List.mem_cons_of_mem _ (fC hp).1⟩
 have hr2:Rel (gH M N .virt) F (N+1) n ⟨s.fr,(N,.arr e sz [])::σ'⟩ a w:=by
  refine⟨r1.size,r1.defers,r1.fr,r1.st.retold fun p hp=>⟨hmem p hp, ?_⟩⟩;rcases List.mem_cons.1 hp with rfl|hp
  ·exact hE
  ·rcases List.mem_cons.1 (hs.sub p hp)with rfl|hp
   ·obtain⟨q0,q1,q2⟩:=r1.st.ent _ (List.mem_cons_of_mem _ (bV hg));refine⟨q0, ?_, ?_⟩
    ·intro y hy;rcases List.mem_or_eq_of_mem_set hy with hy|rfl
     ·exact q1 y hy
     ·obtain⟨m1,m2⟩:=q1 x (List.mem_of_getElem? hi);refine⟨by rw[List.length_set];exact m1,fun b hb=> ?_⟩;rcases List.mem_or_eq_of_mem_set hb with hb|rfl
      ·exact m2 b hb
      ·rfl
    ·rcases q2 with⟨-,rfl⟩|⟨g,c,vs,h1,h2,h3,h4,h5,h6⟩
     ·simp at hi
     ·refine .inr ⟨g,c,vs,h1,h2,h3,by rw[List.length_set];exact h4,h5,fun i' y j b u hj hb hu=> ?_⟩;by_cases hii:i=i'
      ·subst hii;have hlt:i<es.length:=(List.getElem?_eq_some_iff.1 hi).1;rw[List.getElem?_set_self hlt]at hj;obtain rfl:=Option.some.inj hj;by_cases hjo:off=j
       ·subst hjo;have hlt2:off<x.length:=(List.getElem?_eq_some_iff.1 hx).1;rw[List.getElem?_set_self hlt2]at hb;obtain rfl:=Option.some.inj hb;have hv:=h6 i x off _ u hi hx hu;cases hv with
        |@ro _ _ b o _ cap us hb hs hc hrr hle hm hf hn=>
         cases k with
         |nil=>exact absurd rfl hn
         |full=>have:=hf rfl;simp at this;subst this;exact .own0
         |any=>exact absurd rfl hk
        |ro0 hm hA hf hn=>
         cases k with
         |nil=>obtain rfl:=hn rfl;obtain rfl:=hA rfl;exact .own0
         |full=>obtain rfl:=hf rfl;exact .own0
         |any=>exact absurd rfl hk
       ·rw[List.getElem?_set_ne hjo]at hb;exact h6 i x j b u hi hb hu
      ·rw[List.getElem?_set_ne hii]at hj;exact h6 i' y j b u hj hb hu
   ·exact r1.st.ent p (List.mem_cons_of_mem _ (fC hp).1)
 refine wp_mono (hK _ F _ a w hr2) ?_;rintro e' a' w' ⟨M',F',N',s2,h1,h2,h3⟩;exact⟨M',F',N',s2,h1,(e1.trans (Ext.retold hmem)).trans h2,h3⟩
theorem yH{P:Program}{rs:Array ResultVar}{R:AV→dY→Prop}{s s':ASt}(hgo:SGo s s')(h:II P rs R .normal s'):II P rs R .normal s:=bR (aA4 hgo h)
theorem SB{P:Program}{n:Nat}{op:Op}{ty:TypeId}{d:Nat}{s:ASt}{v:AV}{rs:List Nat}{K:ASt→Prop}(h:Lop P op ty s true v rs)(hd:d<n)(hK:K (s.put d v)):Hop P n op ty (some d) s [] K:=by
 intro M F N a w o ho ht hdst hr next Q hnext
 obtain⟨u,hu,hrun⟩:=h.2 M F N n a w hr rfl;obtain⟨dst,op',ty',pos,after,guard⟩:=o;dsimp only at ho ht hdst;subst ho ht hdst;unfold Oper.wp;rw[hrun w _ rfl rfl (fun _ _=>rfl)];exact hnext _ _ _ _ _ _ (hr.put hd hu) (Ext.refl _ _ _ _ _) (Only.refl _ _) hK
theorem dhl{P:Program}{n i d:Nat}{ops:Array Oper}{listed:Array Bool}{todo:List (Nat×Bool)}{held:List (Nat×List Nat)}{fr:Fr}{σ:dY}{K:ASt→Prop}{op:Op}{ty:TypeId}{pos:String}{af:Array Edge}{v:AV}{rs:List Nat}(hi:ops[i]? =some ⟨some d,op,ty,pos,af,none⟩)(h:Lop P op ty ⟨fr,σ⟩ true v rs)(hd:Nat.ble (d+1) n=true)(hK:RD P n ops (listed.setIfInBounds i true) todo held ⟨(d,v)::fr,σ⟩ K):
  RD P n ops listed ((i,false)::todo) held ⟨fr,σ⟩ K:=tR hi (SB h (dF hd) hK)
theorem YQ{fr:Fr}{σ σ1 σ2 σ':dY}{r q p:Nat}{bt:TypeId}{cs cs':List AV}{e e2:Ent}(hs:SSet σ r (.box bt cs) r (.box bt cs') σ1)(hd:SDel σ1 q e σ2)(hd2:SDel σ2 p e2 σ')(hb:BorL σ [q,p] cs cs'):SGo ⟨fr,σ⟩ ⟨fr,σ'⟩:=by
 refine oT [q,p] (fun i x' hi=>⟨x',hi,.refl _⟩) (fun y hy=> ?_);obtain⟨h1,h2⟩:=hd2.sub y hy;obtain⟨h3,h4⟩:=hd.sub y h1;refine⟨by simp;exact⟨h4,h2⟩, ?_⟩;rcases List.mem_cons.1 (hs.sub y h3)with rfl|h
 ·exact⟨_,bV hs.get,.box (WW hb)⟩
 ·exact⟨y.2,(fC h).1,.refl _⟩
end Go.Proofs.YtjpdadobblffmaaGreat
namespace Go.Proofs.YtjpdadobblffmaaGreat
open Go.RowKit Go.ChangeShapes Go.WideShapes Go.ChangeAt Go.Deep
attribute [local irreducible] SW RS RD gJ fA
def iV (P:Program) (t8:TypeId) (f:FuncId) {α:Type} (ar:α→AV) (pt:α→List Nat) (ok:α→Prop) (c B:Nat):Prop:=
 (∀args w,(callFunc f args).run P w=.ok (.enter f args) w)∧∀(q:Nat) (vs:List Nat) (x:α),ok x→0<vs.length→vs.length≤B→(pt x).length≤c∧
  SCall P f ([]++ [.own q 0 vs.length,ar x]++ []) [(q,.arr t8 1 (vs.map aH))] (fun y σ=>∃r,y=.own r 0 (vs++pt x).length∧σ=[(r,.arr t8 1 ((vs++pt x).map aH))])
theorem gX{P:Program}{t8:TypeId}{f:FuncId}{α:Type}{ar:α→AV}{pt:α→List Nat}{ok:α→Prop}{c B:Nat}(hf:iV P t8 f ar pt ok c B)(hB:1≤B){l:List α}(hl:∀x∈l,ok x)(j:Nat):((l.take j).flatMap pt).length≤l.length*c:=by
 have h1:∀(l:List α),(∀x∈l,ok x)→(l.flatMap pt).length≤l.length*c:=by
  intro l
  induction l with
  |nil=>simp
  |cons x l ih=>
   intro h;have:=ih fun y hy=>h y (List.mem_cons_of_mem _ hy)
   have hx:=(hf.2 0 [0] x (h x List.mem_cons_self) (by simp) hB).1;rw[List.flatMap_cons,List.length_append,List.length_cons,Nat.add_mul];omega
 refine Nat.le_trans (h1 (l.take j) fun x hx=>hl x (List.mem_of_mem_take hx)) (Nat.mul_le_mul_right c ?_);simp;omega
theorem eH(q:Nat)(vs:List Nat)(hvs:vs.length≤50000000)(n:Nat)(hn:n<9223372036854775808):SCall Tryz.prog 135 [.own q 0 vs.length,.int .i64 n] [(q,.arr 5 1 (vs.map aH))]
  (fun y σ=>∃r,y=.own r 0 (vs++uB n).length∧σ=[(r,.arr 5 1 ((vs++uB n).map aH))]):=by
 refine cC 9 [0,1,4] Tryz.func135 ?_;refine mA ?_;refine PE ?_;refine cw [(q,.arr 5 1 (vs.map aH))] Tryz.call239 (mE q vs (by omega) n (by omega)) rfl aC aA ?_;rintro _ σ' ⟨r8,rfl,rfl⟩ h8;have k8:=bC h8;repeat rcases k8 with⟨_,k8⟩
 refine eP ?_;apply aF;exact aG
 ·exact⟨r8,rfl,rfl⟩
 ·exact aA
theorem fY{fr:Fr}{σ:dY}{j:Nat}{x y:AV}(h:dU fr j=some x)(hv:VLe x y):SGo ⟨fr,σ⟩ ⟨(j,y)::fr,σ⟩:=by
 refine SGo.of_le (fun i z hi=> ?_) (fun p hp=>hp);by_cases hij:i=j
 ·subst hij;rw[show dU ((i,y)::fr) i=some y by simp[dU]]at hi;obtain rfl:=Option.some.inj hi;exact⟨_,h,hv⟩
 ·rw[show dU ((j,y)::fr) i=dU fr i by simp[dU];intro e;exact absurd e hij]at hi;exact⟨z,hi,VLe.refl z⟩
theorem VLe.agg {cs cs':List AV}(hl:cs.length=cs'.length)(h:∀(j:Nat) (a a':AV),cs[j]? =some a→cs'[j]? =some a'→VLe a a'):VLe (.agg cs) (.agg cs'):=fun M F w v hv=>by
 cases hv with
 |agg hn hc=>
  refine .agg (hn.trans hl) fun j a' u ha' hu=> ?_
  have hj:=(List.getElem?_eq_some_iff.1 ha').1;have ha:cs[j]? =some (cs[j]'(by omega)):=List.getElem?_eq_getElem (by omega);exact h j _ a' ha ha' _ _ _ _ (hc j _ u ha hu)
theorem BL{op a b:Int}:VLe (.agg [.int .i64 op,.int .i64 a,.int .i64 b,.ro 0 [] .nil]) (.agg (iv .any ⟨op,a,b,[]⟩)):=by
 refine VLe.agg rfl fun j a a' ha ha'=> ?_
 match j with
 |0=>cases ha;cases ha';exact VLe.refl _
 |1=>cases ha;cases ha';exact VLe.refl _
 |2=>cases ha;cases ha';exact VLe.refl _
 |3=>cases ha;cases ha';exact VLe.empty
 | _ +4=>cases ha
theorem mW(q:Nat)(vs:List Nat)(hpos:0<vs.length)(hvs:vs.length≤20000000)(b:List Nat)(hb:b.length≤1000)(hlt:∀c∈b,c<256):SCall Tryz.prog 136 [.own q 0 vs.length,.str (dV b)] [(q,.arr 5 1 (vs.map aH))]
  (fun y σ=>∃r,y=.own r 0 (vs++bO b).length∧σ=[(r,.arr 5 1 ((vs++bO b).map aH))]):=by
 have hu:=bN 1 b.length (by omega);refine cC 11 [0,1,4] Tryz.func136 ?_;refine mA ?_;refine lo (gZ (E rfl)) rfl ?_;rw[jU];refine cw [(q,.arr 5 1 (vs.map aH))] Tryz.call135 (eH q vs (by omega) b.length (by omega)) rfl aC aA ?_;rintro _ σ' ⟨r8,rfl,rfl⟩ h8;have k8:=bC h8;repeat rcases k8 with⟨_,k8⟩
 refine wK ?_;refine apS (vs++uB b.length) (b) hlt ?_;refine bM fun r10 h10=> ?_;repeat rcases h10 with⟨_,h10⟩
 refine dG ?_;rw[show vs++uB b.length++b=vs++bO b by unfold bO;rw[List.append_assoc]];apply aF;exact aG
 ·exact⟨r10,rfl,rfl⟩
 ·exact aA
theorem sE(q:Nat)(vs:List Nat)(hvs:vs.length≤20000000)(k:Int):SCall Tryz.prog 132 [.own q 0 vs.length,.int .i64 k] [(q,.arr 5 1 (vs.map aH))]
  (fun y σ=>∃r,y=.own r 0 (vs++kB k).length∧σ=[(r,.arr 5 1 ((vs++kB k).map aH))]):=by
 refine cC 13 [0,1,4,6] Tryz.func132 ?_;refine fV ?_;refine qI ?_;refine aB rfl (fun g1=> ?_) (fun g1=> ?_)
 ·rw[show kB k=[127] by unfold kB;rw[if_pos g1]];refine dX ?_;refine z1 ?_;refine aD fun r8 h8=> ?_;repeat rcases h8 with⟨_,h8⟩
  refine jY ((vs++ [127]).map aH) (vs++ [127]).length ?_;refine bM fun r9 h9=> ?_;repeat rcases h9 with⟨_,h9⟩
  refine dG ?_;apply aF;exact aG
  ·exact⟨r9,rfl,rfl⟩
  ·exact aA
 rw[show kB k=[126] by unfold kB;rw[if_neg (by simp[g1])]];refine dX ?_;refine z1 ?_;refine aD fun r11 h11=> ?_;repeat rcases h11 with⟨_,h11⟩
 refine jY ((vs++ [126]).map aH) (vs++ [126]).length ?_;refine bM fun r12 h12=> ?_;repeat rcases h12 with⟨_,h12⟩
 refine dG ?_;apply aF;exact aG
 ·exact⟨r12,rfl,rfl⟩
 ·exact aA
theorem qM(q:Nat)(vs:List Nat)(hvs:vs.length≤20000000)(k n:Int)(hv:lW k n=true)(hn:-9223372036854775808≤n∧n≤9223372036854775807):SCall Tryz.prog 144 [.own q 0 vs.length,.agg [.int .i64 k,.int .i64 n]] [(q,.arr 5 1 (vs.map aH))]
  (fun y σ=>∃r,y=.own r 0 (vs++lL k n).length∧σ=[(r,.arr 5 1 ((vs++lL k n).map aH))]):=by
 obtain⟨ho,hm,-⟩:=CY hv hn;have hpl:=uG ho hm;have hcB:lL k n=gP ⟨if(k==2)=true then 66 else 65,n,0,[]⟩++ [11]:=rfl;rw[hcB];generalize hop:(if(k==2)=true then(66:Int)else 65)=op at ho hm hpl hcB⊢;have hop:=hop.symm;refine cC 17 [0,1,3,4,5,8] Tryz.func144 ?_;refine dW ?_;apply bx;rfl;rfl;(exact dM);rfl;refine aD fun r3 h3=> ?_;repeat rcases h3 with⟨_,h3⟩
 refine kY ?_;refine jF ?_;refine qI ?_;refine aB rfl (fun g2=> ?_) (fun g2=> ?_)
 ·have hco:cW (.int .i64 66)=AV.int .i64 op:=by rw[hop,if_pos g2];rfl
  refine bQ ?_;rw[hco];refine mK ?_;refine gF ?_;refine nF ?_;refine mM (fY (j:=13) rfl BL) ?_;refine cw [(q,.arr 5 1 (vs.map aH))] Tryz.call242 (zK q vs (by omega) .any ⟨op,n,0,[]⟩ ho hm) rfl aC aA ?_;rintro _ σ' ⟨r14,rfl,rfl⟩ h14;have k14:=bC h14;repeat rcases k14 with⟨_,k14⟩
  apply aT;(exact bF);refine z1 ?_;refine aD fun r15 h15=> ?_;repeat rcases h15 with⟨_,h15⟩
  refine jY ((vs++gP ⟨op,n,0,[]⟩++ [11]).map aH) (vs++gP ⟨op,n,0,[]⟩++ [11]).length ?_;refine bM fun r16 h16=> ?_;repeat rcases h16 with⟨_,h16⟩
  refine dG ?_;rw[List.append_assoc];apply aF;exact aG
  ·exact⟨r16,rfl,rfl⟩
  ·exact aA
 have hco:cW (.int .i64 65)=AV.int .i64 op:=by rw[hop,if_neg (by simp[g2])];rfl
 refine aP ?_;rw[hco];refine mK ?_;refine gF ?_;refine nF ?_;refine mM (fY (j:=13) rfl BL) ?_;refine cw [(q,.arr 5 1 (vs.map aH))] Tryz.call242 (zK q vs (by omega) .any ⟨op,n,0,[]⟩ ho hm) rfl aC aA ?_;rintro _ σ' ⟨r14,rfl,rfl⟩ h14;have k14:=bC h14;repeat rcases k14 with⟨_,k14⟩
 apply aT;(exact bF);refine z1 ?_;refine aD fun r15 h15=> ?_;repeat rcases h15 with⟨_,h15⟩
 refine jY ((vs++gP ⟨op,n,0,[]⟩++ [11]).map aH) (vs++gP ⟨op,n,0,[]⟩++ [11]).length ?_;refine bM fun r16 h16=> ?_;repeat rcases h16 with⟨_,h16⟩
 refine dG ?_;rw[List.append_assoc];apply aF;exact aG
 ·exact⟨r16,rfl,rfl⟩
 ·exact aA
theorem aES{f:FuncId}{pt:FT→List Nat}{ok:FT→Prop}{c B:Nat}(hf:iV Tryz.prog 5 f (fun x=>.agg (eF x)) pt ok c B)(hB:B≤50000000)(q:Nat)(vs:List Nat)(l:List FT)(hok:∀x∈l,ok x)(hl:l.length≤1000)(hb:vs.length+10+l.length*c≤B):
  SCall Tryz.prog 237 [.own q 0 vs.length,.ro 2 (l.map eF) .any,.fn (.func f) [] []] [(q,.arr 5 1 (vs.map aH))] (fun y σ=>∃r,y=.own r 0 (vs++bD l pt).length∧σ=[(r,.arr 5 1 ((vs++bD l pt).map aH))]):=by
 have hu:=bN 1 l.length (by omega);have hup:=iJ l.length;have hpc:=gX hf (by omega) hok;refine cC 25 [0,1,2,6,8,13,14,15,16] Tryz.func237 ?_;refine mA ?_;refine lU ?_;refine cw [(q,.arr 5 1 (vs.map aH))] Tryz.call135 (eH q vs (by omega) l.length (by omega)) rfl aC aA ?_;rintro _ σ' ⟨r12,rfl,rfl⟩ h12;have k12:=bC h12;repeat rcases k12 with⟨_,k12⟩
 refine eP ?_;refine gK ?_;refine nI ?_;refine lp (β:=Nat×Nat) (fun b=>⟨[(0,.own b.1 0 (vs++uB l.length++(l.take b.2).flatMap pt).length),(2,.fn (.func f) [] []),(13,.ro 2 (l.map eF) .any),(14,.int .i64 l.length),(15,.int .i64 b.2)],[(b.1,.arr 5 1 ((vs++uB l.length++(l.take b.2).flatMap pt).map aH))]⟩) (fun b=>b.2≤l.length) (fun b=>l.length-b.2) (r12,0) (by dsimp only;rw[show vs++uB l.length++(l.take 0).flatMap pt=vs++uB l.length by simp];(exact aK)) (Nat.zero_le _) ?_;rintro⟨q1,j⟩ hj;have hpj:=hpc j;have hsl:(vs++uB l.length++(l.take j).flatMap pt).length=vs.length+(uB l.length).length+((l.take j).flatMap pt).length:=by simp[Nat.add_assoc]
 dsimp only at hj⊢;refine jQ ?_;refine aB rfl (fun g3=> ?_) (fun g3=> ?_)
 ·have hlt:j<l.length:=by simp at g3;omega
  obtain⟨x,hx⟩:∃x,l[j]? =some x:=⟨_,List.getElem?_eq_getElem hlt⟩
  have hnx:vs++uB l.length++(l.take (j+1)).flatMap pt=vs++uB l.length++(l.take j).flatMap pt++pt x:=by rw[List.take_add_one,hx,List.flatMap_append];simp
  refine dW ?_;refine pQ ?_;apply al;rfl;(exact dM);refine aD fun r8 h8=> ?_;repeat rcases h8 with⟨_,h8⟩
  refine iD ?_;refine mK ?_;refine oV ?_;refine pR [(q1,.arr 5 1 ((vs++uB l.length++(l.take j).flatMap pt).map aH))] rfl hf.1 (hf.2 q1 _ x (hok x (List.mem_of_getElem? hx)) (by omega) (by omega)).2 rfl aC aA ?_;rintro _ σ' ⟨r22,rfl,rfl⟩ h22;have k22:=bC h22;repeat rcases k22 with⟨_,k22⟩
  refine sM ?_;refine⟨(r22,j+1),hlt,by show l.length-(j+1)<l.length-j;omega, ?_⟩;dsimp only;rw[hnx];exact aK
 obtain rfl:j=l.length:=by simp at g3;omega
 refine fN ?_;rw[show vs++uB l.length++(l.take l.length).flatMap pt=vs++bD l pt by rw[List.take_length,List.append_assoc];rfl];apply aF;exact aG
 ·exact⟨q1,rfl,rfl⟩
 ·exact aA
theorem aBQ{f:FuncId}{pt:FT→List Nat}{ok:FT→Prop}{c B:Nat}(hf:iV Tryz.prog 5 f (fun x=>.agg (eF x)) pt ok c B)(hB:B≤50000000)(l:List FT)(hok:∀x∈l,ok x)(hl:l.length≤1000)(hb:10+l.length*c≤B):
  SCall Tryz.prog 237 [.ro 0 [] .nil,.ro 2 (l.map eF) .any,.fn (.func f) [] []] [] (fun y σ=>∃r,y=.own r 0 (bD l pt).length∧σ=[(r,.arr 5 1 ((bD l pt).map aH))]):=
 iL (e:=5) (sz:=1) (by decide) fun q _=>aES hf hB q [] l hok hl (by simpa using hb)
end Go.Proofs.YtjpdadobblffmaaGreat
namespace Go.Proofs.YtjpdadobblffmaaGreat
open Go.RowKit Go.ChangeShapes Go.WideShapes Go.ChangeAt Go.Deep
def kM (r:List Int):List AV:=[.ro 1 (r.map aX) .any]
theorem BM{f:FuncId}{pt:Int→List Nat}{ok:Int→Prop}{c B:Nat}(hf:iV Tryz.prog 5 f (fun n=>.int .i64 n) pt ok c B)(hB:B≤50000000)(q:Nat)(vs:List Nat)(l:List Int)(hok:∀x∈l,ok x)(hl:l.length≤1000)(hb:vs.length+10+l.length*c≤B):
  SCall Tryz.prog 131 [.own q 0 vs.length,.ro 1 (l.map aX) .any,.fn (.func f) [] []] [(q,.arr 5 1 (vs.map aH))] (fun y σ=>∃r,y=.own r 0 (vs++bD l pt).length∧σ=[(r,.arr 5 1 ((vs++bD l pt).map aH))]):=by
 have hu:=bN 1 l.length (by omega);have hup:=iJ l.length;have hpc:=gX hf (by omega) hok;refine cC 25 [0,1,2,6,8,13,14,15,16] Tryz.func131 ?_;refine mA ?_;refine lU ?_;refine cw [(q,.arr 5 1 (vs.map aH))] Tryz.call135 (eH q vs (by omega) l.length (by omega)) rfl aC aA ?_;rintro _ σ' ⟨r12,rfl,rfl⟩ h12;have k12:=bC h12;repeat rcases k12 with⟨_,k12⟩
 refine eP ?_;refine gK ?_;refine nI ?_;refine lp (β:=Nat×Nat) (fun b=>⟨[(0,.own b.1 0 (vs++uB l.length++(l.take b.2).flatMap pt).length),(2,.fn (.func f) [] []),(13,.ro 1 (l.map aX) .any),(14,.int .i64 l.length),(15,.int .i64 b.2)],[(b.1,.arr 5 1 ((vs++uB l.length++(l.take b.2).flatMap pt).map aH))]⟩) (fun b=>b.2≤l.length) (fun b=>l.length-b.2) (r12,0) (by dsimp only;rw[show vs++uB l.length++(l.take 0).flatMap pt=vs++uB l.length by simp];(exact aK)) (Nat.zero_le _) ?_;rintro⟨q1,j⟩ hj;have hpj:=hpc j;have hsl:(vs++uB l.length++(l.take j).flatMap pt).length=vs.length+(uB l.length).length+((l.take j).flatMap pt).length:=by simp[Nat.add_assoc]
 dsimp only at hj⊢;refine jQ ?_;refine aB rfl (fun g3=> ?_) (fun g3=> ?_)
 ·have hlt:j<l.length:=by simp at g3;omega
  obtain⟨x,hx⟩:∃x,l[j]? =some x:=⟨_,List.getElem?_eq_getElem hlt⟩
  have hnx:vs++uB l.length++(l.take (j+1)).flatMap pt=vs++uB l.length++(l.take j).flatMap pt++pt x:=by rw[List.take_add_one,hx,List.flatMap_append];simp
  refine dW ?_;refine qY ?_;refine dG ?_;refine FD ?_;refine pR [(q1,.arr 5 1 ((vs++uB l.length++(l.take j).flatMap pt).map aH))] rfl hf.1 (hf.2 q1 _ x (hok x (List.mem_of_getElem? hx)) (by omega) (by omega)).2 rfl aC aA ?_;rintro _ σ' ⟨r22,rfl,rfl⟩ h22;have k22:=bC h22;repeat rcases k22 with⟨_,k22⟩
  refine sM ?_;refine⟨(r22,j+1),hlt,by show l.length-(j+1)<l.length-j;omega, ?_⟩;dsimp only;rw[hnx];exact aK
 obtain rfl:j=l.length:=by simp at g3;omega
 refine fN ?_;rw[show vs++uB l.length++(l.take l.length).flatMap pt=vs++bD l pt by rw[List.take_length,List.append_assoc];rfl];apply aF;exact aG
 ·exact⟨q1,rfl,rfl⟩
 ·exact aA
theorem YR{f:FuncId}{pt:Int→List Nat}{ok:Int→Prop}{c B:Nat}(hf:iV Tryz.prog 5 f (fun n=>.int .i64 n) pt ok c B)(hB:B≤50000000)(l:List Int)(hok:∀x∈l,ok x)(hl:l.length≤1000)(hb:10+l.length*c≤B):
  SCall Tryz.prog 131 [.ro 0 [] .nil,.ro 1 (l.map aX) .any,.fn (.func f) [] []] [] (fun y σ=>∃r,y=.own r 0 (bD l pt).length∧σ=[(r,.arr 5 1 ((bD l pt).map aH))]):=
 iL (e:=5) (sz:=1) (by decide) fun q _=>BM hf hB q [] l hok hl (by simpa using hb)
theorem aBR{f:FuncId}{pt:(List Int)→List Nat}{ok:(List Int)→Prop}{c B:Nat}(hf:iV Tryz.prog 5 f (fun r=>.ro 1 (r.map aX) .any) pt ok c B)(hB:B≤50000000)(q:Nat)(vs:List Nat)(l:List (List Int))(hok:∀x∈l,ok x)(hl:l.length≤1000)(hb:vs.length+10+l.length*c≤B):
  SCall Tryz.prog 246 [.own q 0 vs.length,.ro 1 (l.map kM) .any,.fn (.func f) [] []] [(q,.arr 5 1 (vs.map aH))] (fun y σ=>∃r,y=.own r 0 (vs++bD l pt).length∧σ=[(r,.arr 5 1 ((vs++bD l pt).map aH))]):=by
 have hu:=bN 1 l.length (by omega);have hup:=iJ l.length;have hpc:=gX hf (by omega) hok;refine cC 25 [0,1,2,6,8,13,14,15,16] Tryz.func246 ?_;refine mA ?_;refine lU ?_;refine cw [(q,.arr 5 1 (vs.map aH))] Tryz.call135 (eH q vs (by omega) l.length (by omega)) rfl aC aA ?_;rintro _ σ' ⟨r12,rfl,rfl⟩ h12;have k12:=bC h12;repeat rcases k12 with⟨_,k12⟩
 refine eP ?_;refine gK ?_;refine nI ?_;refine lp (β:=Nat×Nat) (fun b=>⟨[(0,.own b.1 0 (vs++uB l.length++(l.take b.2).flatMap pt).length),(2,.fn (.func f) [] []),(13,.ro 1 (l.map kM) .any),(14,.int .i64 l.length),(15,.int .i64 b.2)],[(b.1,.arr 5 1 ((vs++uB l.length++(l.take b.2).flatMap pt).map aH))]⟩) (fun b=>b.2≤l.length) (fun b=>l.length-b.2) (r12,0) (by dsimp only;rw[show vs++uB l.length++(l.take 0).flatMap pt=vs++uB l.length by simp];(exact aK)) (Nat.zero_le _) ?_;rintro⟨q1,j⟩ hj;have hpj:=hpc j;have hsl:(vs++uB l.length++(l.take j).flatMap pt).length=vs.length+(uB l.length).length+((l.take j).flatMap pt).length:=by simp[Nat.add_assoc]
 dsimp only at hj⊢;refine jQ ?_;refine aB rfl (fun g3=> ?_) (fun g3=> ?_)
 ·have hlt:j<l.length:=by simp at g3;omega
  obtain⟨x,hx⟩:∃x,l[j]? =some x:=⟨_,List.getElem?_eq_getElem hlt⟩
  have hnx:vs++uB l.length++(l.take (j+1)).flatMap pt=vs++uB l.length++(l.take j).flatMap pt++pt x:=by rw[List.take_add_one,hx,List.flatMap_append];simp
  refine dW ?_;refine qY ?_;refine dG ?_;refine FD ?_;refine pR [(q1,.arr 5 1 ((vs++uB l.length++(l.take j).flatMap pt).map aH))] rfl hf.1 (hf.2 q1 _ x (hok x (List.mem_of_getElem? hx)) (by omega) (by omega)).2 rfl aC aA ?_;rintro _ σ' ⟨r22,rfl,rfl⟩ h22;have k22:=bC h22;repeat rcases k22 with⟨_,k22⟩
  refine sM ?_;refine⟨(r22,j+1),hlt,by show l.length-(j+1)<l.length-j;omega, ?_⟩;dsimp only;rw[hnx];exact aK
 obtain rfl:j=l.length:=by simp at g3;omega
 refine fN ?_;rw[show vs++uB l.length++(l.take l.length).flatMap pt=vs++bD l pt by rw[List.take_length,List.append_assoc];rfl];apply aF;exact aG
 ·exact⟨q1,rfl,rfl⟩
 ·exact aA
theorem NG{f:FuncId}{pt:(List Int)→List Nat}{ok:(List Int)→Prop}{c B:Nat}(hf:iV Tryz.prog 5 f (fun r=>.ro 1 (r.map aX) .any) pt ok c B)(hB:B≤50000000)(l:List (List Int))(hok:∀x∈l,ok x)(hl:l.length≤1000)(hb:10+l.length*c≤B):
  SCall Tryz.prog 246 [.ro 0 [] .nil,.ro 1 (l.map kM) .any,.fn (.func f) [] []] [] (fun y σ=>∃r,y=.own r 0 (bD l pt).length∧σ=[(r,.arr 5 1 ((bD l pt).map aH))]):=
 iL (e:=5) (sz:=1) (by decide) fun q _=>aBR hf hB q [] l hok hl (by simpa using hb)
theorem aET{f:FuncId}{pt:Im→List Nat}{ok:Im→Prop}{c B:Nat}(hf:iV Tryz.prog 5 f (fun x=>.agg (fT x)) pt ok c B)(hB:B≤50000000)(q:Nat)(vs:List Nat)(l:List Im)(hok:∀x∈l,ok x)(hl:l.length≤1000)(hb:vs.length+10+l.length*c≤B):
  SCall Tryz.prog 238 [.own q 0 vs.length,.ro 3 (l.map fT) .any,.fn (.func f) [] []] [(q,.arr 5 1 (vs.map aH))] (fun y σ=>∃r,y=.own r 0 (vs++bD l pt).length∧σ=[(r,.arr 5 1 ((vs++bD l pt).map aH))]):=by
 have hu:=bN 1 l.length (by omega);have hup:=iJ l.length;have hpc:=gX hf (by omega) hok;refine cC 25 [0,1,2,6,8,13,14,15,16] Tryz.func238 ?_;refine mA ?_;refine lU ?_;refine cw [(q,.arr 5 1 (vs.map aH))] Tryz.call135 (eH q vs (by omega) l.length (by omega)) rfl aC aA ?_;rintro _ σ' ⟨r12,rfl,rfl⟩ h12;have k12:=bC h12;repeat rcases k12 with⟨_,k12⟩
 refine eP ?_;refine gK ?_;refine nI ?_;refine lp (β:=Nat×Nat) (fun b=>⟨[(0,.own b.1 0 (vs++uB l.length++(l.take b.2).flatMap pt).length),(2,.fn (.func f) [] []),(13,.ro 3 (l.map fT) .any),(14,.int .i64 l.length),(15,.int .i64 b.2)],[(b.1,.arr 5 1 ((vs++uB l.length++(l.take b.2).flatMap pt).map aH))]⟩) (fun b=>b.2≤l.length) (fun b=>l.length-b.2) (r12,0) (by dsimp only;rw[show vs++uB l.length++(l.take 0).flatMap pt=vs++uB l.length by simp];(exact aK)) (Nat.zero_le _) ?_;rintro⟨q1,j⟩ hj;have hpj:=hpc j;have hsl:(vs++uB l.length++(l.take j).flatMap pt).length=vs.length+(uB l.length).length+((l.take j).flatMap pt).length:=by simp[Nat.add_assoc]
 dsimp only at hj⊢;refine jQ ?_;refine aB rfl (fun g3=> ?_) (fun g3=> ?_)
 ·have hlt:j<l.length:=by simp at g3;omega
  obtain⟨x,hx⟩:∃x,l[j]? =some x:=⟨_,List.getElem?_eq_getElem hlt⟩
  have hnx:vs++uB l.length++(l.take (j+1)).flatMap pt=vs++uB l.length++(l.take j).flatMap pt++pt x:=by rw[List.take_add_one,hx,List.flatMap_append];simp
  refine dW ?_;refine pQ ?_;apply al;rfl;(exact dM);refine aD fun r8 h8=> ?_;repeat rcases h8 with⟨_,h8⟩
  refine iD ?_;refine mK ?_;refine oV ?_;refine pR [(q1,.arr 5 1 ((vs++uB l.length++(l.take j).flatMap pt).map aH))] rfl hf.1 (hf.2 q1 _ x (hok x (List.mem_of_getElem? hx)) (by omega) (by omega)).2 rfl aC aA ?_;rintro _ σ' ⟨r22,rfl,rfl⟩ h22;have k22:=bC h22;repeat rcases k22 with⟨_,k22⟩
  refine sM ?_;refine⟨(r22,j+1),hlt,by show l.length-(j+1)<l.length-j;omega, ?_⟩;dsimp only;rw[hnx];exact aK
 obtain rfl:j=l.length:=by simp at g3;omega
 refine fN ?_;rw[show vs++uB l.length++(l.take l.length).flatMap pt=vs++bD l pt by rw[List.take_length,List.append_assoc];rfl];apply aF;exact aG
 ·exact⟨q1,rfl,rfl⟩
 ·exact aA
theorem aBS{f:FuncId}{pt:Im→List Nat}{ok:Im→Prop}{c B:Nat}(hf:iV Tryz.prog 5 f (fun x=>.agg (fT x)) pt ok c B)(hB:B≤50000000)(l:List Im)(hok:∀x∈l,ok x)(hl:l.length≤1000)(hb:10+l.length*c≤B):
  SCall Tryz.prog 238 [.ro 0 [] .nil,.ro 3 (l.map fT) .any,.fn (.func f) [] []] [] (fun y σ=>∃r,y=.own r 0 (bD l pt).length∧σ=[(r,.arr 5 1 ((bD l pt).map aH))]):=
 iL (e:=5) (sz:=1) (by decide) fun q _=>aET hf hB q [] l hok hl (by simpa using hb)
theorem aEU{f:FuncId}{pt:Li→List Nat}{ok:Li→Prop}{c B:Nat}(hf:iV Tryz.prog 5 f (fun x=>.agg (iI x)) pt ok c B)(hB:B≤50000000)(q:Nat)(vs:List Nat)(l:List Li)(hok:∀x∈l,ok x)(hl:l.length≤1000)(hb:vs.length+10+l.length*c≤B):
  SCall Tryz.prog 240 [.own q 0 vs.length,.ro 3 (l.map iI) .any,.fn (.func f) [] []] [(q,.arr 5 1 (vs.map aH))] (fun y σ=>∃r,y=.own r 0 (vs++bD l pt).length∧σ=[(r,.arr 5 1 ((vs++bD l pt).map aH))]):=by
 have hu:=bN 1 l.length (by omega);have hup:=iJ l.length;have hpc:=gX hf (by omega) hok;refine cC 25 [0,1,2,6,8,13,14,15,16] Tryz.func240 ?_;refine mA ?_;refine lU ?_;refine cw [(q,.arr 5 1 (vs.map aH))] Tryz.call135 (eH q vs (by omega) l.length (by omega)) rfl aC aA ?_;rintro _ σ' ⟨r12,rfl,rfl⟩ h12;have k12:=bC h12;repeat rcases k12 with⟨_,k12⟩
 refine eP ?_;refine gK ?_;refine nI ?_;refine lp (β:=Nat×Nat) (fun b=>⟨[(0,.own b.1 0 (vs++uB l.length++(l.take b.2).flatMap pt).length),(2,.fn (.func f) [] []),(13,.ro 3 (l.map iI) .any),(14,.int .i64 l.length),(15,.int .i64 b.2)],[(b.1,.arr 5 1 ((vs++uB l.length++(l.take b.2).flatMap pt).map aH))]⟩) (fun b=>b.2≤l.length) (fun b=>l.length-b.2) (r12,0) (by dsimp only;rw[show vs++uB l.length++(l.take 0).flatMap pt=vs++uB l.length by simp];(exact aK)) (Nat.zero_le _) ?_;rintro⟨q1,j⟩ hj;have hpj:=hpc j;have hsl:(vs++uB l.length++(l.take j).flatMap pt).length=vs.length+(uB l.length).length+((l.take j).flatMap pt).length:=by simp[Nat.add_assoc]
 dsimp only at hj⊢;refine jQ ?_;refine aB rfl (fun g3=> ?_) (fun g3=> ?_)
 ·have hlt:j<l.length:=by simp at g3;omega
  obtain⟨x,hx⟩:∃x,l[j]? =some x:=⟨_,List.getElem?_eq_getElem hlt⟩
  have hnx:vs++uB l.length++(l.take (j+1)).flatMap pt=vs++uB l.length++(l.take j).flatMap pt++pt x:=by rw[List.take_add_one,hx,List.flatMap_append];simp
  refine dW ?_;refine pQ ?_;apply al;rfl;(exact dM);refine aD fun r8 h8=> ?_;repeat rcases h8 with⟨_,h8⟩
  refine iD ?_;refine mK ?_;refine oV ?_;refine pR [(q1,.arr 5 1 ((vs++uB l.length++(l.take j).flatMap pt).map aH))] rfl hf.1 (hf.2 q1 _ x (hok x (List.mem_of_getElem? hx)) (by omega) (by omega)).2 rfl aC aA ?_;rintro _ σ' ⟨r22,rfl,rfl⟩ h22;have k22:=bC h22;repeat rcases k22 with⟨_,k22⟩
  refine sM ?_;refine⟨(r22,j+1),hlt,by show l.length-(j+1)<l.length-j;omega, ?_⟩;dsimp only;rw[hnx];exact aK
 obtain rfl:j=l.length:=by simp at g3;omega
 refine fN ?_;rw[show vs++uB l.length++(l.take l.length).flatMap pt=vs++bD l pt by rw[List.take_length,List.append_assoc];rfl];apply aF;exact aG
 ·exact⟨q1,rfl,rfl⟩
 ·exact aA
theorem aBT{f:FuncId}{pt:Li→List Nat}{ok:Li→Prop}{c B:Nat}(hf:iV Tryz.prog 5 f (fun x=>.agg (iI x)) pt ok c B)(hB:B≤50000000)(l:List Li)(hok:∀x∈l,ok x)(hl:l.length≤1000)(hb:10+l.length*c≤B):
  SCall Tryz.prog 240 [.ro 0 [] .nil,.ro 3 (l.map iI) .any,.fn (.func f) [] []] [] (fun y σ=>∃r,y=.own r 0 (bD l pt).length∧σ=[(r,.arr 5 1 ((bD l pt).map aH))]):=
 iL (e:=5) (sz:=1) (by decide) fun q _=>aEU hf hB q [] l hok hl (by simpa using hb)
theorem aEV{f:FuncId}{pt:Gl→List Nat}{ok:Gl→Prop}{c B:Nat}(hf:iV Tryz.prog 5 f (fun x=>.agg (fP x)) pt ok c B)(hB:B≤50000000)(q:Nat)(vs:List Nat)(l:List Gl)(hok:∀x∈l,ok x)(hl:l.length≤1000)(hb:vs.length+10+l.length*c≤B):
  SCall Tryz.prog 241 [.own q 0 vs.length,.ro 3 (l.map fP) .any,.fn (.func f) [] []] [(q,.arr 5 1 (vs.map aH))] (fun y σ=>∃r,y=.own r 0 (vs++bD l pt).length∧σ=[(r,.arr 5 1 ((vs++bD l pt).map aH))]):=by
 have hu:=bN 1 l.length (by omega);have hup:=iJ l.length;have hpc:=gX hf (by omega) hok;refine cC 25 [0,1,2,6,8,13,14,15,16] Tryz.func241 ?_;refine mA ?_;refine lU ?_;refine cw [(q,.arr 5 1 (vs.map aH))] Tryz.call135 (eH q vs (by omega) l.length (by omega)) rfl aC aA ?_;rintro _ σ' ⟨r12,rfl,rfl⟩ h12;have k12:=bC h12;repeat rcases k12 with⟨_,k12⟩
 refine eP ?_;refine gK ?_;refine nI ?_;refine lp (β:=Nat×Nat) (fun b=>⟨[(0,.own b.1 0 (vs++uB l.length++(l.take b.2).flatMap pt).length),(2,.fn (.func f) [] []),(13,.ro 3 (l.map fP) .any),(14,.int .i64 l.length),(15,.int .i64 b.2)],[(b.1,.arr 5 1 ((vs++uB l.length++(l.take b.2).flatMap pt).map aH))]⟩) (fun b=>b.2≤l.length) (fun b=>l.length-b.2) (r12,0) (by dsimp only;rw[show vs++uB l.length++(l.take 0).flatMap pt=vs++uB l.length by simp];(exact aK)) (Nat.zero_le _) ?_;rintro⟨q1,j⟩ hj;have hpj:=hpc j;have hsl:(vs++uB l.length++(l.take j).flatMap pt).length=vs.length+(uB l.length).length+((l.take j).flatMap pt).length:=by simp[Nat.add_assoc]
 dsimp only at hj⊢;refine jQ ?_;refine aB rfl (fun g3=> ?_) (fun g3=> ?_)
 ·have hlt:j<l.length:=by simp at g3;omega
  obtain⟨x,hx⟩:∃x,l[j]? =some x:=⟨_,List.getElem?_eq_getElem hlt⟩
  have hnx:vs++uB l.length++(l.take (j+1)).flatMap pt=vs++uB l.length++(l.take j).flatMap pt++pt x:=by rw[List.take_add_one,hx,List.flatMap_append];simp
  refine dW ?_;refine pQ ?_;apply al;rfl;(exact dM);refine aD fun r8 h8=> ?_;repeat rcases h8 with⟨_,h8⟩
  refine iD ?_;refine mK ?_;refine oV ?_;refine pR [(q1,.arr 5 1 ((vs++uB l.length++(l.take j).flatMap pt).map aH))] rfl hf.1 (hf.2 q1 _ x (hok x (List.mem_of_getElem? hx)) (by omega) (by omega)).2 rfl aC aA ?_;rintro _ σ' ⟨r22,rfl,rfl⟩ h22;have k22:=bC h22;repeat rcases k22 with⟨_,k22⟩
  refine sM ?_;refine⟨(r22,j+1),hlt,by show l.length-(j+1)<l.length-j;omega, ?_⟩;dsimp only;rw[hnx];exact aK
 obtain rfl:j=l.length:=by simp at g3;omega
 refine fN ?_;rw[show vs++uB l.length++(l.take l.length).flatMap pt=vs++bD l pt by rw[List.take_length,List.append_assoc];rfl];apply aF;exact aG
 ·exact⟨q1,rfl,rfl⟩
 ·exact aA
theorem aBU{f:FuncId}{pt:Gl→List Nat}{ok:Gl→Prop}{c B:Nat}(hf:iV Tryz.prog 5 f (fun x=>.agg (fP x)) pt ok c B)(hB:B≤50000000)(l:List Gl)(hok:∀x∈l,ok x)(hl:l.length≤1000)(hb:10+l.length*c≤B):
  SCall Tryz.prog 241 [.ro 0 [] .nil,.ro 3 (l.map fP) .any,.fn (.func f) [] []] [] (fun y σ=>∃r,y=.own r 0 (bD l pt).length∧σ=[(r,.arr 5 1 ((bD l pt).map aH))]):=
 iL (e:=5) (sz:=1) (by decide) fun q _=>aEV hf hB q [] l hok hl (by simpa using hb)
theorem aEW{f:FuncId}{pt:Ex→List Nat}{ok:Ex→Prop}{c B:Nat}(hf:iV Tryz.prog 5 f (fun x=>.agg (fQ x)) pt ok c B)(hB:B≤50000000)(q:Nat)(vs:List Nat)(l:List Ex)(hok:∀x∈l,ok x)(hl:l.length≤1000)(hb:vs.length+10+l.length*c≤B):
  SCall Tryz.prog 243 [.own q 0 vs.length,.ro 2 (l.map fQ) .any,.fn (.func f) [] []] [(q,.arr 5 1 (vs.map aH))] (fun y σ=>∃r,y=.own r 0 (vs++bD l pt).length∧σ=[(r,.arr 5 1 ((vs++bD l pt).map aH))]):=by
 have hu:=bN 1 l.length (by omega);have hup:=iJ l.length;have hpc:=gX hf (by omega) hok;refine cC 25 [0,1,2,6,8,13,14,15,16] Tryz.func243 ?_;refine mA ?_;refine lU ?_;refine cw [(q,.arr 5 1 (vs.map aH))] Tryz.call135 (eH q vs (by omega) l.length (by omega)) rfl aC aA ?_;rintro _ σ' ⟨r12,rfl,rfl⟩ h12;have k12:=bC h12;repeat rcases k12 with⟨_,k12⟩
 refine eP ?_;refine gK ?_;refine nI ?_;refine lp (β:=Nat×Nat) (fun b=>⟨[(0,.own b.1 0 (vs++uB l.length++(l.take b.2).flatMap pt).length),(2,.fn (.func f) [] []),(13,.ro 2 (l.map fQ) .any),(14,.int .i64 l.length),(15,.int .i64 b.2)],[(b.1,.arr 5 1 ((vs++uB l.length++(l.take b.2).flatMap pt).map aH))]⟩) (fun b=>b.2≤l.length) (fun b=>l.length-b.2) (r12,0) (by dsimp only;rw[show vs++uB l.length++(l.take 0).flatMap pt=vs++uB l.length by simp];(exact aK)) (Nat.zero_le _) ?_;rintro⟨q1,j⟩ hj;have hpj:=hpc j;have hsl:(vs++uB l.length++(l.take j).flatMap pt).length=vs.length+(uB l.length).length+((l.take j).flatMap pt).length:=by simp[Nat.add_assoc]
 dsimp only at hj⊢;refine jQ ?_;refine aB rfl (fun g3=> ?_) (fun g3=> ?_)
 ·have hlt:j<l.length:=by simp at g3;omega
  obtain⟨x,hx⟩:∃x,l[j]? =some x:=⟨_,List.getElem?_eq_getElem hlt⟩
  have hnx:vs++uB l.length++(l.take (j+1)).flatMap pt=vs++uB l.length++(l.take j).flatMap pt++pt x:=by rw[List.take_add_one,hx,List.flatMap_append];simp
  refine dW ?_;refine pQ ?_;apply al;rfl;(exact dM);refine aD fun r8 h8=> ?_;repeat rcases h8 with⟨_,h8⟩
  refine iD ?_;refine mK ?_;refine oV ?_;refine pR [(q1,.arr 5 1 ((vs++uB l.length++(l.take j).flatMap pt).map aH))] rfl hf.1 (hf.2 q1 _ x (hok x (List.mem_of_getElem? hx)) (by omega) (by omega)).2 rfl aC aA ?_;rintro _ σ' ⟨r22,rfl,rfl⟩ h22;have k22:=bC h22;repeat rcases k22 with⟨_,k22⟩
  refine sM ?_;refine⟨(r22,j+1),hlt,by show l.length-(j+1)<l.length-j;omega, ?_⟩;dsimp only;rw[hnx];exact aK
 obtain rfl:j=l.length:=by simp at g3;omega
 refine fN ?_;rw[show vs++uB l.length++(l.take l.length).flatMap pt=vs++bD l pt by rw[List.take_length,List.append_assoc];rfl];apply aF;exact aG
 ·exact⟨q1,rfl,rfl⟩
 ·exact aA
theorem aBV{f:FuncId}{pt:Ex→List Nat}{ok:Ex→Prop}{c B:Nat}(hf:iV Tryz.prog 5 f (fun x=>.agg (fQ x)) pt ok c B)(hB:B≤50000000)(l:List Ex)(hok:∀x∈l,ok x)(hl:l.length≤1000)(hb:10+l.length*c≤B):
  SCall Tryz.prog 243 [.ro 0 [] .nil,.ro 2 (l.map fQ) .any,.fn (.func f) [] []] [] (fun y σ=>∃r,y=.own r 0 (bD l pt).length∧σ=[(r,.arr 5 1 ((bD l pt).map aH))]):=
 iL (e:=5) (sz:=1) (by decide) fun q _=>aEW hf hB q [] l hok hl (by simpa using hb)
theorem aEX{f:FuncId}{pt:El→List Nat}{ok:El→Prop}{c B:Nat}(hf:iV Tryz.prog 5 f (fun x=>.agg (fK x)) pt ok c B)(hB:B≤50000000)(q:Nat)(vs:List Nat)(l:List El)(hok:∀x∈l,ok x)(hl:l.length≤1000)(hb:vs.length+10+l.length*c≤B):
  SCall Tryz.prog 244 [.own q 0 vs.length,.ro 2 (l.map fK) .any,.fn (.func f) [] []] [(q,.arr 5 1 (vs.map aH))] (fun y σ=>∃r,y=.own r 0 (vs++bD l pt).length∧σ=[(r,.arr 5 1 ((vs++bD l pt).map aH))]):=by
 have hu:=bN 1 l.length (by omega);have hup:=iJ l.length;have hpc:=gX hf (by omega) hok;refine cC 25 [0,1,2,6,8,13,14,15,16] Tryz.func244 ?_;refine mA ?_;refine lU ?_;refine cw [(q,.arr 5 1 (vs.map aH))] Tryz.call135 (eH q vs (by omega) l.length (by omega)) rfl aC aA ?_;rintro _ σ' ⟨r12,rfl,rfl⟩ h12;have k12:=bC h12;repeat rcases k12 with⟨_,k12⟩
 refine eP ?_;refine gK ?_;refine nI ?_;refine lp (β:=Nat×Nat) (fun b=>⟨[(0,.own b.1 0 (vs++uB l.length++(l.take b.2).flatMap pt).length),(2,.fn (.func f) [] []),(13,.ro 2 (l.map fK) .any),(14,.int .i64 l.length),(15,.int .i64 b.2)],[(b.1,.arr 5 1 ((vs++uB l.length++(l.take b.2).flatMap pt).map aH))]⟩) (fun b=>b.2≤l.length) (fun b=>l.length-b.2) (r12,0) (by dsimp only;rw[show vs++uB l.length++(l.take 0).flatMap pt=vs++uB l.length by simp];(exact aK)) (Nat.zero_le _) ?_;rintro⟨q1,j⟩ hj;have hpj:=hpc j;have hsl:(vs++uB l.length++(l.take j).flatMap pt).length=vs.length+(uB l.length).length+((l.take j).flatMap pt).length:=by simp[Nat.add_assoc]
 dsimp only at hj⊢;refine jQ ?_;refine aB rfl (fun g3=> ?_) (fun g3=> ?_)
 ·have hlt:j<l.length:=by simp at g3;omega
  obtain⟨x,hx⟩:∃x,l[j]? =some x:=⟨_,List.getElem?_eq_getElem hlt⟩
  have hnx:vs++uB l.length++(l.take (j+1)).flatMap pt=vs++uB l.length++(l.take j).flatMap pt++pt x:=by rw[List.take_add_one,hx,List.flatMap_append];simp
  refine dW ?_;refine pQ ?_;apply al;rfl;(exact dM);refine aD fun r8 h8=> ?_;repeat rcases h8 with⟨_,h8⟩
  refine iD ?_;refine mK ?_;refine oV ?_;refine pR [(q1,.arr 5 1 ((vs++uB l.length++(l.take j).flatMap pt).map aH))] rfl hf.1 (hf.2 q1 _ x (hok x (List.mem_of_getElem? hx)) (by omega) (by omega)).2 rfl aC aA ?_;rintro _ σ' ⟨r22,rfl,rfl⟩ h22;have k22:=bC h22;repeat rcases k22 with⟨_,k22⟩
  refine sM ?_;refine⟨(r22,j+1),hlt,by show l.length-(j+1)<l.length-j;omega, ?_⟩;dsimp only;rw[hnx];exact aK
 obtain rfl:j=l.length:=by simp at g3;omega
 refine fN ?_;rw[show vs++uB l.length++(l.take l.length).flatMap pt=vs++bD l pt by rw[List.take_length,List.append_assoc];rfl];apply aF;exact aG
 ·exact⟨q1,rfl,rfl⟩
 ·exact aA
theorem aBW{f:FuncId}{pt:El→List Nat}{ok:El→Prop}{c B:Nat}(hf:iV Tryz.prog 5 f (fun x=>.agg (fK x)) pt ok c B)(hB:B≤50000000)(l:List El)(hok:∀x∈l,ok x)(hl:l.length≤1000)(hb:10+l.length*c≤B):
  SCall Tryz.prog 244 [.ro 0 [] .nil,.ro 2 (l.map fK) .any,.fn (.func f) [] []] [] (fun y σ=>∃r,y=.own r 0 (bD l pt).length∧σ=[(r,.arr 5 1 ((bD l pt).map aH))]):=
 iL (e:=5) (sz:=1) (by decide) fun q _=>aEX hf hB q [] l hok hl (by simpa using hb)
theorem aEY{f:FuncId}{pt:Co→List Nat}{ok:Co→Prop}{c B:Nat}(hf:iV Tryz.prog 5 f (fun x=>.agg (eS x)) pt ok c B)(hB:B≤50000000)(q:Nat)(vs:List Nat)(l:List Co)(hok:∀x∈l,ok x)(hl:l.length≤1000)(hb:vs.length+10+l.length*c≤B):
  SCall Tryz.prog 245 [.own q 0 vs.length,.ro 2 (l.map eS) .any,.fn (.func f) [] []] [(q,.arr 5 1 (vs.map aH))] (fun y σ=>∃r,y=.own r 0 (vs++bD l pt).length∧σ=[(r,.arr 5 1 ((vs++bD l pt).map aH))]):=by
 have hu:=bN 1 l.length (by omega);have hup:=iJ l.length;have hpc:=gX hf (by omega) hok;refine cC 25 [0,1,2,6,8,13,14,15,16] Tryz.func245 ?_;refine mA ?_;refine lU ?_;refine cw [(q,.arr 5 1 (vs.map aH))] Tryz.call135 (eH q vs (by omega) l.length (by omega)) rfl aC aA ?_;rintro _ σ' ⟨r12,rfl,rfl⟩ h12;have k12:=bC h12;repeat rcases k12 with⟨_,k12⟩
 refine eP ?_;refine gK ?_;refine nI ?_;refine lp (β:=Nat×Nat) (fun b=>⟨[(0,.own b.1 0 (vs++uB l.length++(l.take b.2).flatMap pt).length),(2,.fn (.func f) [] []),(13,.ro 2 (l.map eS) .any),(14,.int .i64 l.length),(15,.int .i64 b.2)],[(b.1,.arr 5 1 ((vs++uB l.length++(l.take b.2).flatMap pt).map aH))]⟩) (fun b=>b.2≤l.length) (fun b=>l.length-b.2) (r12,0) (by dsimp only;rw[show vs++uB l.length++(l.take 0).flatMap pt=vs++uB l.length by simp];(exact aK)) (Nat.zero_le _) ?_;rintro⟨q1,j⟩ hj;have hpj:=hpc j;have hsl:(vs++uB l.length++(l.take j).flatMap pt).length=vs.length+(uB l.length).length+((l.take j).flatMap pt).length:=by simp[Nat.add_assoc]
 dsimp only at hj⊢;refine jQ ?_;refine aB rfl (fun g3=> ?_) (fun g3=> ?_)
 ·have hlt:j<l.length:=by simp at g3;omega
  obtain⟨x,hx⟩:∃x,l[j]? =some x:=⟨_,List.getElem?_eq_getElem hlt⟩
  have hnx:vs++uB l.length++(l.take (j+1)).flatMap pt=vs++uB l.length++(l.take j).flatMap pt++pt x:=by rw[List.take_add_one,hx,List.flatMap_append];simp
  refine dW ?_;refine pQ ?_;apply al;rfl;(exact dM);refine aD fun r8 h8=> ?_;repeat rcases h8 with⟨_,h8⟩
  refine iD ?_;refine mK ?_;refine oV ?_;refine pR [(q1,.arr 5 1 ((vs++uB l.length++(l.take j).flatMap pt).map aH))] rfl hf.1 (hf.2 q1 _ x (hok x (List.mem_of_getElem? hx)) (by omega) (by omega)).2 rfl aC aA ?_;rintro _ σ' ⟨r22,rfl,rfl⟩ h22;have k22:=bC h22;repeat rcases k22 with⟨_,k22⟩
  refine sM ?_;refine⟨(r22,j+1),hlt,by show l.length-(j+1)<l.length-j;omega, ?_⟩;dsimp only;rw[hnx];exact aK
 obtain rfl:j=l.length:=by simp at g3;omega
 refine fN ?_;rw[show vs++uB l.length++(l.take l.length).flatMap pt=vs++bD l pt by rw[List.take_length,List.append_assoc];rfl];apply aF;exact aG
 ·exact⟨q1,rfl,rfl⟩
 ·exact aA
theorem aBX{f:FuncId}{pt:Co→List Nat}{ok:Co→Prop}{c B:Nat}(hf:iV Tryz.prog 5 f (fun x=>.agg (eS x)) pt ok c B)(hB:B≤50000000)(l:List Co)(hok:∀x∈l,ok x)(hl:l.length≤1000)(hb:10+l.length*c≤B):
  SCall Tryz.prog 245 [.ro 0 [] .nil,.ro 2 (l.map eS) .any,.fn (.func f) [] []] [] (fun y σ=>∃r,y=.own r 0 (bD l pt).length∧σ=[(r,.arr 5 1 ((bD l pt).map aH))]):=
 iL (e:=5) (sz:=1) (by decide) fun q _=>aEY hf hB q [] l hok hl (by simpa using hb)
theorem aEZ{f:FuncId}{pt:Da→List Nat}{ok:Da→Prop}{c B:Nat}(hf:iV Tryz.prog 5 f (fun x=>.agg (fL x)) pt ok c B)(hB:B≤50000000)(q:Nat)(vs:List Nat)(l:List Da)(hok:∀x∈l,ok x)(hl:l.length≤1000)(hb:vs.length+10+l.length*c≤B):
  SCall Tryz.prog 249 [.own q 0 vs.length,.ro 2 (l.map fL) .any,.fn (.func f) [] []] [(q,.arr 5 1 (vs.map aH))] (fun y σ=>∃r,y=.own r 0 (vs++bD l pt).length∧σ=[(r,.arr 5 1 ((vs++bD l pt).map aH))]):=by
 have hu:=bN 1 l.length (by omega);have hup:=iJ l.length;have hpc:=gX hf (by omega) hok;refine cC 25 [0,1,2,6,8,13,14,15,16] Tryz.func249 ?_;refine mA ?_;refine lU ?_;refine cw [(q,.arr 5 1 (vs.map aH))] Tryz.call135 (eH q vs (by omega) l.length (by omega)) rfl aC aA ?_;rintro _ σ' ⟨r12,rfl,rfl⟩ h12;have k12:=bC h12;repeat rcases k12 with⟨_,k12⟩
 refine eP ?_;refine gK ?_;refine nI ?_;refine lp (β:=Nat×Nat) (fun b=>⟨[(0,.own b.1 0 (vs++uB l.length++(l.take b.2).flatMap pt).length),(2,.fn (.func f) [] []),(13,.ro 2 (l.map fL) .any),(14,.int .i64 l.length),(15,.int .i64 b.2)],[(b.1,.arr 5 1 ((vs++uB l.length++(l.take b.2).flatMap pt).map aH))]⟩) (fun b=>b.2≤l.length) (fun b=>l.length-b.2) (r12,0) (by dsimp only;rw[show vs++uB l.length++(l.take 0).flatMap pt=vs++uB l.length by simp];(exact aK)) (Nat.zero_le _) ?_;rintro⟨q1,j⟩ hj;have hpj:=hpc j;have hsl:(vs++uB l.length++(l.take j).flatMap pt).length=vs.length+(uB l.length).length+((l.take j).flatMap pt).length:=by simp[Nat.add_assoc]
 dsimp only at hj⊢;refine jQ ?_;refine aB rfl (fun g3=> ?_) (fun g3=> ?_)
 ·have hlt:j<l.length:=by simp at g3;omega
  obtain⟨x,hx⟩:∃x,l[j]? =some x:=⟨_,List.getElem?_eq_getElem hlt⟩
  have hnx:vs++uB l.length++(l.take (j+1)).flatMap pt=vs++uB l.length++(l.take j).flatMap pt++pt x:=by rw[List.take_add_one,hx,List.flatMap_append];simp
  refine dW ?_;refine pQ ?_;apply al;rfl;(exact dM);refine aD fun r8 h8=> ?_;repeat rcases h8 with⟨_,h8⟩
  refine iD ?_;refine mK ?_;refine oV ?_;refine pR [(q1,.arr 5 1 ((vs++uB l.length++(l.take j).flatMap pt).map aH))] rfl hf.1 (hf.2 q1 _ x (hok x (List.mem_of_getElem? hx)) (by omega) (by omega)).2 rfl aC aA ?_;rintro _ σ' ⟨r22,rfl,rfl⟩ h22;have k22:=bC h22;repeat rcases k22 with⟨_,k22⟩
  refine sM ?_;refine⟨(r22,j+1),hlt,by show l.length-(j+1)<l.length-j;omega, ?_⟩;dsimp only;rw[hnx];exact aK
 obtain rfl:j=l.length:=by simp at g3;omega
 refine fN ?_;rw[show vs++uB l.length++(l.take l.length).flatMap pt=vs++bD l pt by rw[List.take_length,List.append_assoc];rfl];apply aF;exact aG
 ·exact⟨q1,rfl,rfl⟩
 ·exact aA
theorem aBY{f:FuncId}{pt:Da→List Nat}{ok:Da→Prop}{c B:Nat}(hf:iV Tryz.prog 5 f (fun x=>.agg (fL x)) pt ok c B)(hB:B≤50000000)(l:List Da)(hok:∀x∈l,ok x)(hl:l.length≤1000)(hb:10+l.length*c≤B):
  SCall Tryz.prog 249 [.ro 0 [] .nil,.ro 2 (l.map fL) .any,.fn (.func f) [] []] [] (fun y σ=>∃r,y=.own r 0 (bD l pt).length∧σ=[(r,.arr 5 1 ((bD l pt).map aH))]):=
 iL (e:=5) (sz:=1) (by decide) fun q _=>aEZ hf hB q [] l hok hl (by simpa using hb)
theorem aE0{f:FuncId}{pt:FT→List Nat}{ok:FT→Prop}{c B:Nat}(hf:iV Tryz.prog 5 f (fun x=>.agg (eF x)) pt ok c B)(hB:B≤50000000)(q:Nat)(vs:List Nat)(no:Nat)(hno:no<256)(l:List FT)(hok:∀x∈l,ok x)(hl:l.length≤1000)(hvs:vs.length≤10000000)(hb:10+l.length*c≤B):
  SCall Tryz.prog 129 [.own q 0 vs.length,.int .i64 no,.ro 2 (l.map eF) .any,.fn (.func f) [] []] [(q,.arr 5 1 (vs.map aH))] (fun y σ=>∃r,y=.own r 0 (vs++bL no l pt).length∧σ=[(r,.arr 5 1 ((vs++bL no l pt).map aH))]):=by
 have hu:=bN 1 l.length (by omega);have hup:=iJ l.length;have hpc:=gX hf (by omega) hok l.length;rw[List.take_length]at hpc;have hvl:(bD l pt).length≤50000000:=by unfold bD;simp only[List.length_append];omega
 have hub:=bN 4 (bD l pt).length (by omega);refine cC 27 [0,1,2,3,8,9,12] Tryz.func129 ?_;refine fV ?_;refine rC ?_;refine aB rfl (fun g1=> ?_) (fun g1=> ?_)
 ·obtain rfl:l=[]:=by cases l with|nil=>rfl|cons x t=>simp at g1;omega
  refine fN ?_;rw[show vs++bL no ([]:List FT) pt=vs by simp[bL]];apply aF;exact aG
  ·exact⟨q,rfl,rfl⟩
  ·exact aA
 have hs:bL no l pt=[no]++uB (bD l pt).length++bD l pt:=by unfold bL;rw[if_neg (by intro e;rw[List.isEmpty_iff.1 e]at g1;simp at g1)];simp
 rw[hs];refine cL ?_;refine cw [] Tryz.call237 (aBQ hf hB l hok hl hb) rfl aC aA ?_;rintro _ σ' ⟨r16,rfl,rfl⟩ h16
 replace h16:=iC h16;repeat rcases h16 with⟨_,h16⟩
 refine eP ?_;generalize bD l pt=P at hvl hub⊢;refine mK ?_;refine z0 ?_;refine z1 ?_;refine aD fun r20 h20=> ?_;repeat rcases h20 with⟨_,h20⟩
 refine jY ((vs++ [no]).map aH) (vs++ [no]).length ?_;refine bM fun r21 h21=> ?_;repeat rcases h21 with⟨_,h21⟩
 refine xQ ?_;refine cw [(r21,.arr 5 1 ((vs++ [no]).map aH))] Tryz.call135 (eH r21 (vs++ [no]) (by simp;omega) P.length (by omega)) rfl aC aA ?_;rintro _ σ' ⟨r24,rfl,rfl⟩ h24;have k24:=bC h24;repeat rcases k24 with⟨_,k24⟩
 refine wK ?_;refine jY ((vs++ [no]++uB P.length++P).map aH) (vs++ [no]++uB P.length++P).length ?_;refine bM fun r26 h26=> ?_;repeat rcases h26 with⟨_,h26⟩
 refine dG ?_;rw[show vs++ [no]++uB P.length++P=vs++([no]++uB P.length++P) by simp];apply aF;exact aG
 ·exact⟨r26,rfl,rfl⟩
 ·exact aA
theorem aBZ{f:FuncId}{pt:Int→List Nat}{ok:Int→Prop}{c B:Nat}(hf:iV Tryz.prog 5 f (fun n=>.int .i64 n) pt ok c B)(hB:B≤50000000)(q:Nat)(vs:List Nat)(no:Nat)(hno:no<256)(l:List Int)(hok:∀x∈l,ok x)(hl:l.length≤1000)(hvs:vs.length≤10000000)(hb:10+l.length*c≤B):
  SCall Tryz.prog 137 [.own q 0 vs.length,.int .i64 no,.ro 1 (l.map aX) .any,.fn (.func f) [] []] [(q,.arr 5 1 (vs.map aH))] (fun y σ=>∃r,y=.own r 0 (vs++bL no l pt).length∧σ=[(r,.arr 5 1 ((vs++bL no l pt).map aH))]):=by
 have hu:=bN 1 l.length (by omega);have hup:=iJ l.length;have hpc:=gX hf (by omega) hok l.length;rw[List.take_length]at hpc;have hvl:(bD l pt).length≤50000000:=by unfold bD;simp only[List.length_append];omega
 have hub:=bN 4 (bD l pt).length (by omega);refine cC 27 [0,1,2,3,8,9,12] Tryz.func137 ?_;refine fV ?_;refine rC ?_;refine aB rfl (fun g1=> ?_) (fun g1=> ?_)
 ·obtain rfl:l=[]:=by cases l with|nil=>rfl|cons x t=>simp at g1;omega
  refine fN ?_;rw[show vs++bL no ([]:List Int) pt=vs by simp[bL]];apply aF;exact aG
  ·exact⟨q,rfl,rfl⟩
  ·exact aA
 have hs:bL no l pt=[no]++uB (bD l pt).length++bD l pt:=by unfold bL;rw[if_neg (by intro e;rw[List.isEmpty_iff.1 e]at g1;simp at g1)];simp
 rw[hs];refine cL ?_;refine cw [] Tryz.call131 (YR hf hB l hok hl hb) rfl aC aA ?_;rintro _ σ' ⟨r16,rfl,rfl⟩ h16
 replace h16:=iC h16;repeat rcases h16 with⟨_,h16⟩
 refine eP ?_;generalize bD l pt=P at hvl hub⊢;refine mK ?_;refine z0 ?_;refine z1 ?_;refine aD fun r20 h20=> ?_;repeat rcases h20 with⟨_,h20⟩
 refine jY ((vs++ [no]).map aH) (vs++ [no]).length ?_;refine bM fun r21 h21=> ?_;repeat rcases h21 with⟨_,h21⟩
 refine xQ ?_;refine cw [(r21,.arr 5 1 ((vs++ [no]).map aH))] Tryz.call135 (eH r21 (vs++ [no]) (by simp;omega) P.length (by omega)) rfl aC aA ?_;rintro _ σ' ⟨r24,rfl,rfl⟩ h24;have k24:=bC h24;repeat rcases k24 with⟨_,k24⟩
 refine wK ?_;refine jY ((vs++ [no]++uB P.length++P).map aH) (vs++ [no]++uB P.length++P).length ?_;refine bM fun r26 h26=> ?_;repeat rcases h26 with⟨_,h26⟩
 refine dG ?_;rw[show vs++ [no]++uB P.length++P=vs++([no]++uB P.length++P) by simp];apply aF;exact aG
 ·exact⟨r26,rfl,rfl⟩
 ·exact aA
theorem aE1{f:FuncId}{pt:Im→List Nat}{ok:Im→Prop}{c B:Nat}(hf:iV Tryz.prog 5 f (fun x=>.agg (fT x)) pt ok c B)(hB:B≤50000000)(q:Nat)(vs:List Nat)(no:Nat)(hno:no<256)(l:List Im)(hok:∀x∈l,ok x)(hl:l.length≤1000)(hvs:vs.length≤10000000)(hb:10+l.length*c≤B):
  SCall Tryz.prog 133 [.own q 0 vs.length,.int .i64 no,.ro 3 (l.map fT) .any,.fn (.func f) [] []] [(q,.arr 5 1 (vs.map aH))] (fun y σ=>∃r,y=.own r 0 (vs++bL no l pt).length∧σ=[(r,.arr 5 1 ((vs++bL no l pt).map aH))]):=by
 have hu:=bN 1 l.length (by omega);have hup:=iJ l.length;have hpc:=gX hf (by omega) hok l.length;rw[List.take_length]at hpc;have hvl:(bD l pt).length≤50000000:=by unfold bD;simp only[List.length_append];omega
 have hub:=bN 4 (bD l pt).length (by omega);refine cC 27 [0,1,2,3,8,9,12] Tryz.func133 ?_;refine fV ?_;refine rC ?_;refine aB rfl (fun g1=> ?_) (fun g1=> ?_)
 ·obtain rfl:l=[]:=by cases l with|nil=>rfl|cons x t=>simp at g1;omega
  refine fN ?_;rw[show vs++bL no ([]:List Im) pt=vs by simp[bL]];apply aF;exact aG
  ·exact⟨q,rfl,rfl⟩
  ·exact aA
 have hs:bL no l pt=[no]++uB (bD l pt).length++bD l pt:=by unfold bL;rw[if_neg (by intro e;rw[List.isEmpty_iff.1 e]at g1;simp at g1)];simp
 rw[hs];refine cL ?_;refine cw [] Tryz.call238 (aBS hf hB l hok hl hb) rfl aC aA ?_;rintro _ σ' ⟨r16,rfl,rfl⟩ h16
 replace h16:=iC h16;repeat rcases h16 with⟨_,h16⟩
 refine eP ?_;generalize bD l pt=P at hvl hub⊢;refine mK ?_;refine z0 ?_;refine z1 ?_;refine aD fun r20 h20=> ?_;repeat rcases h20 with⟨_,h20⟩
 refine jY ((vs++ [no]).map aH) (vs++ [no]).length ?_;refine bM fun r21 h21=> ?_;repeat rcases h21 with⟨_,h21⟩
 refine xQ ?_;refine cw [(r21,.arr 5 1 ((vs++ [no]).map aH))] Tryz.call135 (eH r21 (vs++ [no]) (by simp;omega) P.length (by omega)) rfl aC aA ?_;rintro _ σ' ⟨r24,rfl,rfl⟩ h24;have k24:=bC h24;repeat rcases k24 with⟨_,k24⟩
 refine wK ?_;refine jY ((vs++ [no]++uB P.length++P).map aH) (vs++ [no]++uB P.length++P).length ?_;refine bM fun r26 h26=> ?_;repeat rcases h26 with⟨_,h26⟩
 refine dG ?_;rw[show vs++ [no]++uB P.length++P=vs++([no]++uB P.length++P) by simp];apply aF;exact aG
 ·exact⟨r26,rfl,rfl⟩
 ·exact aA
theorem YS{f:FuncId}{pt:Li→List Nat}{ok:Li→Prop}{c B:Nat}(hf:iV Tryz.prog 5 f (fun x=>.agg (iI x)) pt ok c B)(hB:B≤50000000)(q:Nat)(vs:List Nat)(no:Nat)(hno:no<256)(l:List Li)(hok:∀x∈l,ok x)(hl:l.length≤1000)(hvs:vs.length≤10000000)(hb:10+l.length*c≤B):
  SCall Tryz.prog 138 [.own q 0 vs.length,.int .i64 no,.ro 3 (l.map iI) .any,.fn (.func f) [] []] [(q,.arr 5 1 (vs.map aH))] (fun y σ=>∃r,y=.own r 0 (vs++bL no l pt).length∧σ=[(r,.arr 5 1 ((vs++bL no l pt).map aH))]):=by
 have hu:=bN 1 l.length (by omega);have hup:=iJ l.length;have hpc:=gX hf (by omega) hok l.length;rw[List.take_length]at hpc;have hvl:(bD l pt).length≤50000000:=by unfold bD;simp only[List.length_append];omega
 have hub:=bN 4 (bD l pt).length (by omega);refine cC 27 [0,1,2,3,8,9,12] Tryz.func138 ?_;refine fV ?_;refine rC ?_;refine aB rfl (fun g1=> ?_) (fun g1=> ?_)
 ·obtain rfl:l=[]:=by cases l with|nil=>rfl|cons x t=>simp at g1;omega
  refine fN ?_;rw[show vs++bL no ([]:List Li) pt=vs by simp[bL]];apply aF;exact aG
  ·exact⟨q,rfl,rfl⟩
  ·exact aA
 have hs:bL no l pt=[no]++uB (bD l pt).length++bD l pt:=by unfold bL;rw[if_neg (by intro e;rw[List.isEmpty_iff.1 e]at g1;simp at g1)];simp
 rw[hs];refine cL ?_;refine cw [] Tryz.call240 (aBT hf hB l hok hl hb) rfl aC aA ?_;rintro _ σ' ⟨r16,rfl,rfl⟩ h16
 replace h16:=iC h16;repeat rcases h16 with⟨_,h16⟩
 refine eP ?_;generalize bD l pt=P at hvl hub⊢;refine mK ?_;refine z0 ?_;refine z1 ?_;refine aD fun r20 h20=> ?_;repeat rcases h20 with⟨_,h20⟩
 refine jY ((vs++ [no]).map aH) (vs++ [no]).length ?_;refine bM fun r21 h21=> ?_;repeat rcases h21 with⟨_,h21⟩
 refine xQ ?_;refine cw [(r21,.arr 5 1 ((vs++ [no]).map aH))] Tryz.call135 (eH r21 (vs++ [no]) (by simp;omega) P.length (by omega)) rfl aC aA ?_;rintro _ σ' ⟨r24,rfl,rfl⟩ h24;have k24:=bC h24;repeat rcases k24 with⟨_,k24⟩
 refine wK ?_;refine jY ((vs++ [no]++uB P.length++P).map aH) (vs++ [no]++uB P.length++P).length ?_;refine bM fun r26 h26=> ?_;repeat rcases h26 with⟨_,h26⟩
 refine dG ?_;rw[show vs++ [no]++uB P.length++P=vs++([no]++uB P.length++P) by simp];apply aF;exact aG
 ·exact⟨r26,rfl,rfl⟩
 ·exact aA
theorem aE2{f:FuncId}{pt:Gl→List Nat}{ok:Gl→Prop}{c B:Nat}(hf:iV Tryz.prog 5 f (fun x=>.agg (fP x)) pt ok c B)(hB:B≤50000000)(q:Nat)(vs:List Nat)(no:Nat)(hno:no<256)(l:List Gl)(hok:∀x∈l,ok x)(hl:l.length≤1000)(hvs:vs.length≤10000000)(hb:10+l.length*c≤B):
  SCall Tryz.prog 142 [.own q 0 vs.length,.int .i64 no,.ro 3 (l.map fP) .any,.fn (.func f) [] []] [(q,.arr 5 1 (vs.map aH))] (fun y σ=>∃r,y=.own r 0 (vs++bL no l pt).length∧σ=[(r,.arr 5 1 ((vs++bL no l pt).map aH))]):=by
 have hu:=bN 1 l.length (by omega);have hup:=iJ l.length;have hpc:=gX hf (by omega) hok l.length;rw[List.take_length]at hpc;have hvl:(bD l pt).length≤50000000:=by unfold bD;simp only[List.length_append];omega
 have hub:=bN 4 (bD l pt).length (by omega);refine cC 27 [0,1,2,3,8,9,12] Tryz.func142 ?_;refine fV ?_;refine rC ?_;refine aB rfl (fun g1=> ?_) (fun g1=> ?_)
 ·obtain rfl:l=[]:=by cases l with|nil=>rfl|cons x t=>simp at g1;omega
  refine fN ?_;rw[show vs++bL no ([]:List Gl) pt=vs by simp[bL]];apply aF;exact aG
  ·exact⟨q,rfl,rfl⟩
  ·exact aA
 have hs:bL no l pt=[no]++uB (bD l pt).length++bD l pt:=by unfold bL;rw[if_neg (by intro e;rw[List.isEmpty_iff.1 e]at g1;simp at g1)];simp
 rw[hs];refine cL ?_;refine cw [] Tryz.call241 (aBU hf hB l hok hl hb) rfl aC aA ?_;rintro _ σ' ⟨r16,rfl,rfl⟩ h16
 replace h16:=iC h16;repeat rcases h16 with⟨_,h16⟩
 refine eP ?_;generalize bD l pt=P at hvl hub⊢;refine mK ?_;refine z0 ?_;refine z1 ?_;refine aD fun r20 h20=> ?_;repeat rcases h20 with⟨_,h20⟩
 refine jY ((vs++ [no]).map aH) (vs++ [no]).length ?_;refine bM fun r21 h21=> ?_;repeat rcases h21 with⟨_,h21⟩
 refine xQ ?_;refine cw [(r21,.arr 5 1 ((vs++ [no]).map aH))] Tryz.call135 (eH r21 (vs++ [no]) (by simp;omega) P.length (by omega)) rfl aC aA ?_;rintro _ σ' ⟨r24,rfl,rfl⟩ h24;have k24:=bC h24;repeat rcases k24 with⟨_,k24⟩
 refine wK ?_;refine jY ((vs++ [no]++uB P.length++P).map aH) (vs++ [no]++uB P.length++P).length ?_;refine bM fun r26 h26=> ?_;repeat rcases h26 with⟨_,h26⟩
 refine dG ?_;rw[show vs++ [no]++uB P.length++P=vs++([no]++uB P.length++P) by simp];apply aF;exact aG
 ·exact⟨r26,rfl,rfl⟩
 ·exact aA
theorem aE3{f:FuncId}{pt:Ex→List Nat}{ok:Ex→Prop}{c B:Nat}(hf:iV Tryz.prog 5 f (fun x=>.agg (fQ x)) pt ok c B)(hB:B≤50000000)(q:Nat)(vs:List Nat)(no:Nat)(hno:no<256)(l:List Ex)(hok:∀x∈l,ok x)(hl:l.length≤1000)(hvs:vs.length≤10000000)(hb:10+l.length*c≤B):
  SCall Tryz.prog 145 [.own q 0 vs.length,.int .i64 no,.ro 2 (l.map fQ) .any,.fn (.func f) [] []] [(q,.arr 5 1 (vs.map aH))] (fun y σ=>∃r,y=.own r 0 (vs++bL no l pt).length∧σ=[(r,.arr 5 1 ((vs++bL no l pt).map aH))]):=by
 have hu:=bN 1 l.length (by omega);have hup:=iJ l.length;have hpc:=gX hf (by omega) hok l.length;rw[List.take_length]at hpc;have hvl:(bD l pt).length≤50000000:=by unfold bD;simp only[List.length_append];omega
 have hub:=bN 4 (bD l pt).length (by omega);refine cC 27 [0,1,2,3,8,9,12] Tryz.func145 ?_;refine fV ?_;refine rC ?_;refine aB rfl (fun g1=> ?_) (fun g1=> ?_)
 ·obtain rfl:l=[]:=by cases l with|nil=>rfl|cons x t=>simp at g1;omega
  refine fN ?_;rw[show vs++bL no ([]:List Ex) pt=vs by simp[bL]];apply aF;exact aG
  ·exact⟨q,rfl,rfl⟩
  ·exact aA
 have hs:bL no l pt=[no]++uB (bD l pt).length++bD l pt:=by unfold bL;rw[if_neg (by intro e;rw[List.isEmpty_iff.1 e]at g1;simp at g1)];simp
 rw[hs];refine cL ?_;refine cw [] Tryz.call243 (aBV hf hB l hok hl hb) rfl aC aA ?_;rintro _ σ' ⟨r16,rfl,rfl⟩ h16
 replace h16:=iC h16;repeat rcases h16 with⟨_,h16⟩
 refine eP ?_;generalize bD l pt=P at hvl hub⊢;refine mK ?_;refine z0 ?_;refine z1 ?_;refine aD fun r20 h20=> ?_;repeat rcases h20 with⟨_,h20⟩
 refine jY ((vs++ [no]).map aH) (vs++ [no]).length ?_;refine bM fun r21 h21=> ?_;repeat rcases h21 with⟨_,h21⟩
 refine xQ ?_;refine cw [(r21,.arr 5 1 ((vs++ [no]).map aH))] Tryz.call135 (eH r21 (vs++ [no]) (by simp;omega) P.length (by omega)) rfl aC aA ?_;rintro _ σ' ⟨r24,rfl,rfl⟩ h24;have k24:=bC h24;repeat rcases k24 with⟨_,k24⟩
 refine wK ?_;refine jY ((vs++ [no]++uB P.length++P).map aH) (vs++ [no]++uB P.length++P).length ?_;refine bM fun r26 h26=> ?_;repeat rcases h26 with⟨_,h26⟩
 refine dG ?_;rw[show vs++ [no]++uB P.length++P=vs++([no]++uB P.length++P) by simp];apply aF;exact aG
 ·exact⟨r26,rfl,rfl⟩
 ·exact aA
theorem aE4{f:FuncId}{pt:El→List Nat}{ok:El→Prop}{c B:Nat}(hf:iV Tryz.prog 5 f (fun x=>.agg (fK x)) pt ok c B)(hB:B≤50000000)(q:Nat)(vs:List Nat)(no:Nat)(hno:no<256)(l:List El)(hok:∀x∈l,ok x)(hl:l.length≤1000)(hvs:vs.length≤10000000)(hb:10+l.length*c≤B):
  SCall Tryz.prog 147 [.own q 0 vs.length,.int .i64 no,.ro 2 (l.map fK) .any,.fn (.func f) [] []] [(q,.arr 5 1 (vs.map aH))] (fun y σ=>∃r,y=.own r 0 (vs++bL no l pt).length∧σ=[(r,.arr 5 1 ((vs++bL no l pt).map aH))]):=by
 have hu:=bN 1 l.length (by omega);have hup:=iJ l.length;have hpc:=gX hf (by omega) hok l.length;rw[List.take_length]at hpc;have hvl:(bD l pt).length≤50000000:=by unfold bD;simp only[List.length_append];omega
 have hub:=bN 4 (bD l pt).length (by omega);refine cC 27 [0,1,2,3,8,9,12] Tryz.func147 ?_;refine fV ?_;refine rC ?_;refine aB rfl (fun g1=> ?_) (fun g1=> ?_)
 ·obtain rfl:l=[]:=by cases l with|nil=>rfl|cons x t=>simp at g1;omega
  refine fN ?_;rw[show vs++bL no ([]:List El) pt=vs by simp[bL]];apply aF;exact aG
  ·exact⟨q,rfl,rfl⟩
  ·exact aA
 have hs:bL no l pt=[no]++uB (bD l pt).length++bD l pt:=by unfold bL;rw[if_neg (by intro e;rw[List.isEmpty_iff.1 e]at g1;simp at g1)];simp
 rw[hs];refine cL ?_;refine cw [] Tryz.call244 (aBW hf hB l hok hl hb) rfl aC aA ?_;rintro _ σ' ⟨r16,rfl,rfl⟩ h16
 replace h16:=iC h16;repeat rcases h16 with⟨_,h16⟩
 refine eP ?_;generalize bD l pt=P at hvl hub⊢;refine mK ?_;refine z0 ?_;refine z1 ?_;refine aD fun r20 h20=> ?_;repeat rcases h20 with⟨_,h20⟩
 refine jY ((vs++ [no]).map aH) (vs++ [no]).length ?_;refine bM fun r21 h21=> ?_;repeat rcases h21 with⟨_,h21⟩
 refine xQ ?_;refine cw [(r21,.arr 5 1 ((vs++ [no]).map aH))] Tryz.call135 (eH r21 (vs++ [no]) (by simp;omega) P.length (by omega)) rfl aC aA ?_;rintro _ σ' ⟨r24,rfl,rfl⟩ h24;have k24:=bC h24;repeat rcases k24 with⟨_,k24⟩
 refine wK ?_;refine jY ((vs++ [no]++uB P.length++P).map aH) (vs++ [no]++uB P.length++P).length ?_;refine bM fun r26 h26=> ?_;repeat rcases h26 with⟨_,h26⟩
 refine dG ?_;rw[show vs++ [no]++uB P.length++P=vs++([no]++uB P.length++P) by simp];apply aF;exact aG
 ·exact⟨r26,rfl,rfl⟩
 ·exact aA
theorem aE5{f:FuncId}{pt:Co→List Nat}{ok:Co→Prop}{c B:Nat}(hf:iV Tryz.prog 5 f (fun x=>.agg (eS x)) pt ok c B)(hB:B≤50000000)(q:Nat)(vs:List Nat)(no:Nat)(hno:no<256)(l:List Co)(hok:∀x∈l,ok x)(hl:l.length≤1000)(hvs:vs.length≤10000000)(hb:10+l.length*c≤B):
  SCall Tryz.prog 150 [.own q 0 vs.length,.int .i64 no,.ro 2 (l.map eS) .any,.fn (.func f) [] []] [(q,.arr 5 1 (vs.map aH))] (fun y σ=>∃r,y=.own r 0 (vs++bL no l pt).length∧σ=[(r,.arr 5 1 ((vs++bL no l pt).map aH))]):=by
 have hu:=bN 1 l.length (by omega);have hup:=iJ l.length;have hpc:=gX hf (by omega) hok l.length;rw[List.take_length]at hpc;have hvl:(bD l pt).length≤50000000:=by unfold bD;simp only[List.length_append];omega
 have hub:=bN 4 (bD l pt).length (by omega);refine cC 27 [0,1,2,3,8,9,12] Tryz.func150 ?_;refine fV ?_;refine rC ?_;refine aB rfl (fun g1=> ?_) (fun g1=> ?_)
 ·obtain rfl:l=[]:=by cases l with|nil=>rfl|cons x t=>simp at g1;omega
  refine fN ?_;rw[show vs++bL no ([]:List Co) pt=vs by simp[bL]];apply aF;exact aG
  ·exact⟨q,rfl,rfl⟩
  ·exact aA
 have hs:bL no l pt=[no]++uB (bD l pt).length++bD l pt:=by unfold bL;rw[if_neg (by intro e;rw[List.isEmpty_iff.1 e]at g1;simp at g1)];simp
 rw[hs];refine cL ?_;refine cw [] Tryz.call245 (aBX hf hB l hok hl hb) rfl aC aA ?_;rintro _ σ' ⟨r16,rfl,rfl⟩ h16
 replace h16:=iC h16;repeat rcases h16 with⟨_,h16⟩
 refine eP ?_;generalize bD l pt=P at hvl hub⊢;refine mK ?_;refine z0 ?_;refine z1 ?_;refine aD fun r20 h20=> ?_;repeat rcases h20 with⟨_,h20⟩
 refine jY ((vs++ [no]).map aH) (vs++ [no]).length ?_;refine bM fun r21 h21=> ?_;repeat rcases h21 with⟨_,h21⟩
 refine xQ ?_;refine cw [(r21,.arr 5 1 ((vs++ [no]).map aH))] Tryz.call135 (eH r21 (vs++ [no]) (by simp;omega) P.length (by omega)) rfl aC aA ?_;rintro _ σ' ⟨r24,rfl,rfl⟩ h24;have k24:=bC h24;repeat rcases k24 with⟨_,k24⟩
 refine wK ?_;refine jY ((vs++ [no]++uB P.length++P).map aH) (vs++ [no]++uB P.length++P).length ?_;refine bM fun r26 h26=> ?_;repeat rcases h26 with⟨_,h26⟩
 refine dG ?_;rw[show vs++ [no]++uB P.length++P=vs++([no]++uB P.length++P) by simp];apply aF;exact aG
 ·exact⟨r26,rfl,rfl⟩
 ·exact aA
theorem aE6{f:FuncId}{pt:Da→List Nat}{ok:Da→Prop}{c B:Nat}(hf:iV Tryz.prog 5 f (fun x=>.agg (fL x)) pt ok c B)(hB:B≤50000000)(q:Nat)(vs:List Nat)(no:Nat)(hno:no<256)(l:List Da)(hok:∀x∈l,ok x)(hl:l.length≤1000)(hvs:vs.length≤10000000)(hb:10+l.length*c≤B):
  SCall Tryz.prog 152 [.own q 0 vs.length,.int .i64 no,.ro 2 (l.map fL) .any,.fn (.func f) [] []] [(q,.arr 5 1 (vs.map aH))] (fun y σ=>∃r,y=.own r 0 (vs++bL no l pt).length∧σ=[(r,.arr 5 1 ((vs++bL no l pt).map aH))]):=by
 have hu:=bN 1 l.length (by omega);have hup:=iJ l.length;have hpc:=gX hf (by omega) hok l.length;rw[List.take_length]at hpc;have hvl:(bD l pt).length≤50000000:=by unfold bD;simp only[List.length_append];omega
 have hub:=bN 4 (bD l pt).length (by omega);refine cC 27 [0,1,2,3,8,9,12] Tryz.func152 ?_;refine fV ?_;refine rC ?_;refine aB rfl (fun g1=> ?_) (fun g1=> ?_)
 ·obtain rfl:l=[]:=by cases l with|nil=>rfl|cons x t=>simp at g1;omega
  refine fN ?_;rw[show vs++bL no ([]:List Da) pt=vs by simp[bL]];apply aF;exact aG
  ·exact⟨q,rfl,rfl⟩
  ·exact aA
 have hs:bL no l pt=[no]++uB (bD l pt).length++bD l pt:=by unfold bL;rw[if_neg (by intro e;rw[List.isEmpty_iff.1 e]at g1;simp at g1)];simp
 rw[hs];refine cL ?_;refine cw [] Tryz.call249 (aBY hf hB l hok hl hb) rfl aC aA ?_;rintro _ σ' ⟨r16,rfl,rfl⟩ h16
 replace h16:=iC h16;repeat rcases h16 with⟨_,h16⟩
 refine eP ?_;generalize bD l pt=P at hvl hub⊢;refine mK ?_;refine z0 ?_;refine z1 ?_;refine aD fun r20 h20=> ?_;repeat rcases h20 with⟨_,h20⟩
 refine jY ((vs++ [no]).map aH) (vs++ [no]).length ?_;refine bM fun r21 h21=> ?_;repeat rcases h21 with⟨_,h21⟩
 refine xQ ?_;refine cw [(r21,.arr 5 1 ((vs++ [no]).map aH))] Tryz.call135 (eH r21 (vs++ [no]) (by simp;omega) P.length (by omega)) rfl aC aA ?_;rintro _ σ' ⟨r24,rfl,rfl⟩ h24;have k24:=bC h24;repeat rcases k24 with⟨_,k24⟩
 refine wK ?_;refine jY ((vs++ [no]++uB P.length++P).map aH) (vs++ [no]++uB P.length++P).length ?_;refine bM fun r26 h26=> ?_;repeat rcases h26 with⟨_,h26⟩
 refine dG ?_;rw[show vs++ [no]++uB P.length++P=vs++([no]++uB P.length++P) by simp];apply aF;exact aG
 ·exact⟨r26,rfl,rfl⟩
 ·exact aA
end Go.Proofs.YtjpdadobblffmaaGreat
namespace Go.Proofs.YtjpdadobblffmaaGreat
open Go.RowKit Go.ChangeShapes Go.WideShapes Go.ChangeAt Go.Deep
attribute [local irreducible] SW RS RD gJ fA
theorem lF{α:Type}{pt:α→List Nat}{l:List α}{c:Nat}(h:∀x∈l,(pt x).length≤c)(hl:l.length≤1000):(bD l pt).length≤2+l.length*c:=by
 have hu:=bN 1 l.length (by omega);have h1:∀(l:List α),(∀x∈l,(pt x).length≤c)→(l.flatMap pt).length≤l.length*c:=by
  intro l
  induction l with
  |nil=>simp
  |cons x l ih=>
   intro h;have:=ih fun y hy=>h y (List.mem_cons_of_mem _ hy)
   have hx:=h x List.mem_cons_self;rw[List.flatMap_cons,List.length_append,List.length_cons,Nat.add_mul];omega
 have:=h1 l h;unfold bD;rw[List.length_append];omega
theorem mX(k:Int):(kB k).length=1:=by unfold kB;split<;>rfl
theorem JW{n:Int}(h:iK n=true):(cB n).length≤2:=by
 have:0≤n∧n≤1000:=by
  unfold iK at h;by_cases h0:0≤n
  ·rw[if_pos (by simpa using h0)]at h;exact⟨h0,by simpa using h⟩
  ·rw[if_neg (by simpa using h0)]at h;cases h
 exact bN 1 _ (by omega)
theorem HI:iV Tryz.prog 5 132 (fun k:Int=>.int .i64 k) kB (fun _=>True) 1 20000000:=
 ⟨Tryz.call132,fun q vs x _ _ hvs=>⟨Nat.le_of_eq (mX x),sE q vs (by omega) x⟩⟩
theorem oJ(q:Nat)(vs:List Nat)(hvs:vs.length≤50000000)(n:Int)(h0:0≤n)(h1:n<9223372036854775808):SCall Tryz.prog 135 [.own q 0 vs.length,.int .i64 n] [(q,.arr 5 1 (vs.map aH))]
  (fun y σ=>∃r,y=.own r 0 (vs++cB n).length∧σ=[(r,.arr 5 1 ((vs++cB n).map aH))]):=by
 obtain⟨m,rfl⟩:=Int.eq_ofNat_of_zero_le h0;exact eH q vs hvs m (by omega)
theorem sX{n:Int}(h:iK n=true):0≤n∧n≤1000:=by
 unfold iK at h;by_cases h0:0≤n
 ·rw[if_pos (by simpa using h0)]at h;exact⟨h0,by simpa using h⟩
 ·rw[if_neg (by simpa using h0)]at h;cases h
theorem DF:iV Tryz.prog 5 135 (fun n:Int=>.int .i64 n) cB (fun n=>iK n=true) 2 20000000:=
 ⟨Tryz.call135,fun q vs n h _ hvs=>⟨JW h,oJ q vs (by omega) n (sX h).1 (by have:=(sX h).2;omega)⟩⟩
theorem aI4(q:Nat)(vs:List Nat)(hvs:vs.length≤10000000)(pr rs:List Int)(h1:pr.length≤32)(h2:rs.length≤1):SCall Tryz.prog 130 [.own q 0 vs.length,.agg (eF ⟨pr,rs⟩)] [(q,.arr 5 1 (vs.map aH))]
  (fun y σ=>∃r,y=.own r 0 (vs++uJ ⟨pr,rs⟩).length∧σ=[(r,.arr 5 1 ((vs++uJ ⟨pr,rs⟩).map aH))]):=by
 have l1:=lF (pt:=kB) (l:=pr) (c:=1) (fun x _=>Nat.le_of_eq (mX x)) (by omega);refine cC 14 [0,1,3,4] Tryz.func130 ?_;unfold eF;refine dW ?_;apply bx;rfl;rfl;(exact dM);rfl;refine aD fun r3 h3=> ?_;repeat rcases h3 with⟨_,h3⟩
 refine dG ?_;refine gI [(0,true),(3,true),(4,true),(6,true),(7,true),(1,false),(2,false),(5,false),(8,false),(9,true)] ?_;refine EZ ?_;refine jE ?_;refine GO ?_;refine aD fun r6 h6=> ?_;repeat rcases h6 with⟨_,h6⟩
 refine fJ rfl ((vs++ [96]).map aH) (vs++ [96]).length ?_;refine bM fun r7 h7=> ?_;repeat rcases h7 with⟨_,h7⟩
 refine qT [(r7,.arr 5 1 ((vs++ [96]).map aH))] rfl Tryz.call131 (BM HI (by decide) r7 (vs++ [96]) pr (fun _ _=>trivial) (by omega) (by simp;omega)) rfl aC aA gE ?_;rintro _ σ' ⟨r10,rfl,rfl⟩ h10;have k10:=bC h10;repeat rcases k10 with⟨_,k10⟩
 apply bZ;(exact bF);refine qT [(r10,.arr 5 1 ((vs++ [96]++bD pr kB).map aH))] rfl Tryz.call131 (BM HI (by decide) r10 (vs++ [96]++bD pr kB) rs (fun _ _=>trivial) (by omega) (by simp;omega)) rfl aC aA gE ?_;rintro _ σ' ⟨r13,rfl,rfl⟩ h13;have k13:=bC h13;repeat rcases k13 with⟨_,k13⟩
 refine sL ?_;rw[show vs++ [96]++bD pr kB++bD rs kB=vs++uJ ⟨pr,rs⟩ by unfold uJ;simp];apply aF;exact aG
 ·exact⟨r13,rfl,rfl⟩
 ·exact aA
theorem SC:iV Tryz.prog 5 130 (fun x=>.agg (eF x)) uJ (fun t=>(cP t.pr 32 yC&&cP t.rs 1 yC)=true) 100 10000000:=
 ⟨Tryz.call130,fun q vs x h _ hvs=>by
  obtain⟨pr,rs⟩:=x;have h1:pr.length≤32:=by simp[cP]at h;omega
  have h2:rs.length≤1:=by simp[cP]at h;omega
  have l1:=lF (pt:=kB) (l:=pr) (c:=1) (fun x _=>Nat.le_of_eq (mX x)) (by omega);have l2:=lF (pt:=kB) (l:=rs) (c:=1) (fun x _=>Nat.le_of_eq (mX x)) (by omega);exact⟨by unfold uJ;simp;omega,aI4 q vs hvs pr rs h1 h2⟩⟩
theorem kO{s:List Nat}(h:sW s=true):s.length≤16∧(∀c∈s,c<256)∧(bO s).length≤18:=by
 unfold sW at h;split at h
 ·simp only[Bool.and_eq_true,decide_eq_true_eq,List.all_eq_true]at h;refine⟨h.1,fun c hc=>by have:=(h.2 c hc).2;omega, ?_⟩;have:=bN 1 s.length (by omega);unfold bO;rw[List.length_append];omega
 ·cases h
theorem aI5(q:Nat)(vs:List Nat)(hp:0<vs.length)(hvs:vs.length≤10000000)(md nm:List Nat)(ty:Int)(m1:sW md=true)(m2:sW nm=true)(m3:iK ty=true):SCall Tryz.prog 134 [.own q 0 vs.length,.agg (fT ⟨md,nm,ty⟩)] [(q,.arr 5 1 (vs.map aH))]
  (fun y σ=>∃r,y=.own r 0 (vs++jC ⟨md,nm,ty⟩).length∧σ=[(r,.arr 5 1 ((vs++jC ⟨md,nm,ty⟩).map aH))]):=by
 obtain⟨a1,a2,a3⟩:=kO m1;obtain⟨b1,b2,b3⟩:=kO m2;refine cC 17 [0,1,3,4] Tryz.func134 ?_;unfold fT;refine dW ?_;apply bx;rfl;rfl;(exact dM);rfl;refine aD fun r3 h3=> ?_;repeat rcases h3 with⟨_,h3⟩
 refine dG ?_;refine gI [(0,true),(1,true),(2,true),(4,true),(5,true),(9,true),(10,true),(13,false),(13,false),(13,false),(13,false),(13,false),(13,false)] ?_;refine EZ ?_;refine jE ?_;refine jE ?_;refine jR 3 7 [(13,false),(13,false),(13,false),(13,false),(13,false)] [(3,false),(6,false),(8,false),(11,false),(12,true)] (f1:=[q]) (f2:=[]) (by kernel_rfl) rfl rfl ?_ ?_ (.inr ⟨by simp,gE⟩) (.inl rfl)
 ·refine qR (σ1:=[(q,.arr 5 1 (vs.map aH))]) Tryz.call136 (mW q vs hp (by omega) md (by omega) a2) (dF rfl) aC aA ?_;rintro _ σ' ⟨r8,rfl,rfl⟩ h8;have k8:=bC h8;repeat rcases k8 with⟨_,k8⟩
  apply bZ;(exact bF);refine jR 6 7 [(7,false),(8,false),(11,false),(12,true)] [(6,false),(8,false),(11,false),(12,true)] (f1:=[r8]) (f2:=[]) (by kernel_rfl) rfl rfl ?_ ?_ (.inr ⟨by simp,gE⟩) (.inl rfl)
  ·refine qR (σ1:=[(r8,.arr 5 1 ((vs++bO md).map aH))]) Tryz.call136 (mW r8 (vs++bO md) (by simp;omega) (by simp;omega) nm (by omega) b2) (dF rfl) aC aA ?_;rintro _ σ' ⟨r11,rfl,rfl⟩ h11;have k11:=bC h11;repeat rcases k11 with⟨_,k11⟩
   apply bZ;(exact bF);refine GO ?_;refine aD fun r12 h12=> ?_;repeat rcases h12 with⟨_,h12⟩
   refine fJ rfl ((vs++bO md++bO nm++ [0]).map aH) (vs++bO md++bO nm++ [0]).length ?_;refine bM fun r13 h13=> ?_;repeat rcases h13 with⟨_,h13⟩
   refine qT [(r13,.arr 5 1 ((vs++bO md++bO nm++ [0]).map aH))] rfl Tryz.call135 (oJ r13 (vs++bO md++bO nm++ [0]) (by simp;omega) ty (sX m3).1 (by have:=(sX m3).2;omega)) rfl aC aA gE ?_;rintro _ σ' ⟨r16,rfl,rfl⟩ h16;have k16:=bC h16;repeat rcases k16 with⟨_,k16⟩
   refine sL ?_;rw[show vs++bO md++bO nm++ [0]++cB ty=vs++jC ⟨md,nm,ty⟩ by unfold jC;simp];apply aF;exact aG
   ·exact⟨r16,rfl,rfl⟩
   ·exact aA
  ·apply wC;infer_instance;infer_instance;(exact qU);rfl;rfl;rfl;rfl;(exact dM);rfl;refine aD fun r12 h12=> ?_;repeat rcases h12 with⟨_,h12⟩
   refine qT [(r8,.arr 5 1 ((vs++bO md).map aH))] rfl Tryz.call136 (mW r8 (vs++bO md) (by simp;omega) (by simp;omega) nm (by omega) b2) rfl aC aA gE ?_;rintro _ σ' ⟨r11,rfl,rfl⟩ h11;have k11:=bC h11;repeat rcases k11 with⟨_,k11⟩
   apply bZ;(exact bF);refine fJ rfl ((vs++bO md++bO nm++ [0]).map aH) (vs++bO md++bO nm++ [0]).length ?_;refine bM fun r13 h13=> ?_;repeat rcases h13 with⟨_,h13⟩
   refine qT [(r13,.arr 5 1 ((vs++bO md++bO nm++ [0]).map aH))] rfl Tryz.call135 (oJ r13 (vs++bO md++bO nm++ [0]) (by simp;omega) ty (sX m3).1 (by have:=(sX m3).2;omega)) rfl aC aA gE ?_;rintro _ σ' ⟨r16,rfl,rfl⟩ h16;have k16:=bC h16;repeat rcases k16 with⟨_,k16⟩
   refine sL ?_;rw[show vs++bO md++bO nm++ [0]++cB ty=vs++jC ⟨md,nm,ty⟩ by unfold jC;simp];apply aF;exact aG
   ·exact⟨r16,rfl,rfl⟩
   ·exact aA
 ·apply wC;infer_instance;infer_instance;(exact qU);rfl;rfl;rfl;rfl;(exact dM);rfl;refine aD fun r12 h12=> ?_;repeat rcases h12 with⟨_,h12⟩
  refine qT [(q,.arr 5 1 (vs.map aH))] rfl Tryz.call136 (mW q vs hp (by omega) md (by omega) a2) rfl aC aA gE ?_;rintro _ σ' ⟨r8,rfl,rfl⟩ h8;have k8:=bC h8;repeat rcases k8 with⟨_,k8⟩
  apply bZ;(exact bF);refine qT [(r8,.arr 5 1 ((vs++bO md).map aH))] rfl Tryz.call136 (mW r8 (vs++bO md) (by simp;omega) (by simp;omega) nm (by omega) b2) rfl aC aA gE ?_;rintro _ σ' ⟨r11,rfl,rfl⟩ h11;have k11:=bC h11;repeat rcases k11 with⟨_,k11⟩
  apply bZ;(exact bF);refine fJ rfl ((vs++bO md++bO nm++ [0]).map aH) (vs++bO md++bO nm++ [0]).length ?_;refine bM fun r13 h13=> ?_;repeat rcases h13 with⟨_,h13⟩
  refine qT [(r13,.arr 5 1 ((vs++bO md++bO nm++ [0]).map aH))] rfl Tryz.call135 (oJ r13 (vs++bO md++bO nm++ [0]) (by simp;omega) ty (sX m3).1 (by have:=(sX m3).2;omega)) rfl aC aA gE ?_;rintro _ σ' ⟨r16,rfl,rfl⟩ h16;have k16:=bC h16;repeat rcases k16 with⟨_,k16⟩
  refine sL ?_;rw[show vs++bO md++bO nm++ [0]++cB ty=vs++jC ⟨md,nm,ty⟩ by unfold jC;simp];apply aF;exact aG
  ·exact⟨r16,rfl,rfl⟩
  ·exact aA
theorem aI6(q:Nat)(vs:List Nat)(hp:0<vs.length)(hvs:vs.length≤10000000)(nm:List Nat)(fn:Int)(m2:sW nm=true)(m3:iK fn=true):SCall Tryz.prog 146 [.own q 0 vs.length,.agg (fQ ⟨nm,fn⟩)] [(q,.arr 5 1 (vs.map aH))]
  (fun y σ=>∃r,y=.own r 0 (vs++mL ⟨nm,fn⟩).length∧σ=[(r,.arr 5 1 ((vs++mL ⟨nm,fn⟩).map aH))]):=by
 obtain⟨b1,b2,b3⟩:=kO m2;refine cC 14 [0,1,3,4] Tryz.func146 ?_;unfold fQ;refine dW ?_;apply bx;rfl;rfl;(exact dM);rfl;refine aD fun r3 h3=> ?_;repeat rcases h3 with⟨_,h3⟩
 refine dG ?_;refine gI [(0,true),(1,true),(2,true),(6,true),(7,true),(10,false),(10,false),(10,false),(10,false),(10,false)] ?_;refine EZ ?_;refine jE ?_;refine jR 3 4 [(4,false),(5,false),(8,false),(9,true)] [(3,false),(5,false),(8,false),(9,true)] (f1:=[q]) (f2:=[]) (by kernel_rfl) rfl rfl ?_ ?_ (.inr ⟨by simp,gE⟩) (.inl rfl)
 ·refine qR (σ1:=[(q,.arr 5 1 (vs.map aH))]) Tryz.call136 (mW q vs hp (by omega) nm (by omega) b2) (dF rfl) aC aA ?_;rintro _ σ' ⟨r8,rfl,rfl⟩ h8;have k8:=bC h8;repeat rcases k8 with⟨_,k8⟩
  apply bZ;(exact bF);refine GO ?_;refine aD fun r9 h9=> ?_;repeat rcases h9 with⟨_,h9⟩
  refine fJ rfl ((vs++bO nm++ [0]).map aH) (vs++bO nm++ [0]).length ?_;refine bM fun r10 h10=> ?_;repeat rcases h10 with⟨_,h10⟩
  refine qT [(r10,.arr 5 1 ((vs++bO nm++ [0]).map aH))] rfl Tryz.call135 (oJ r10 (vs++bO nm++ [0]) (by simp;omega) fn (sX m3).1 (by have:=(sX m3).2;omega)) rfl aC aA gE ?_;rintro _ σ' ⟨r13,rfl,rfl⟩ h13;have k13:=bC h13;repeat rcases k13 with⟨_,k13⟩
  refine sL ?_;rw[show vs++bO nm++ [0]++cB fn=vs++mL ⟨nm,fn⟩ by unfold mL;simp];apply aF;exact aG
  ·exact⟨r13,rfl,rfl⟩
  ·exact aA
 ·apply wC;infer_instance;infer_instance;(exact qU);rfl;rfl;rfl;rfl;(exact dM);rfl;refine aD fun r9 h9=> ?_;repeat rcases h9 with⟨_,h9⟩
  refine qT [(q,.arr 5 1 (vs.map aH))] rfl Tryz.call136 (mW q vs hp (by omega) nm (by omega) b2) rfl aC aA gE ?_;rintro _ σ' ⟨r8,rfl,rfl⟩ h8;have k8:=bC h8;repeat rcases k8 with⟨_,k8⟩
  apply bZ;(exact bF);refine fJ rfl ((vs++bO nm++ [0]).map aH) (vs++bO nm++ [0]).length ?_;refine bM fun r10 h10=> ?_;repeat rcases h10 with⟨_,h10⟩
  refine qT [(r10,.arr 5 1 ((vs++bO nm++ [0]).map aH))] rfl Tryz.call135 (oJ r10 (vs++bO nm++ [0]) (by simp;omega) fn (sX m3).1 (by have:=(sX m3).2;omega)) rfl aC aA gE ?_;rintro _ σ' ⟨r13,rfl,rfl⟩ h13;have k13:=bC h13;repeat rcases k13 with⟨_,k13⟩
  refine sL ?_;rw[show vs++bO nm++ [0]++cB fn=vs++mL ⟨nm,fn⟩ by unfold mL;simp];apply aF;exact aG
  ·exact⟨r13,rfl,rfl⟩
  ·exact aA
theorem uN(q:Nat)(vs:List Nat)(hvs:vs.length≤10000000)(l:Li)(h0:0≤l.mn)(h1:l.mn≤100000)(h2:l.mx≤100000):SCall Tryz.prog 141 [.own q 0 vs.length,.agg (iI l)] [(q,.arr 5 1 (vs.map aH))]
  (fun y σ=>∃r,y=.own r 0 (vs++eK l).length∧σ=[(r,.arr 5 1 ((vs++eK l).map aH))]):=by
 obtain⟨has,mn,mx⟩:=l;dsimp only at h0 h1 h2;have hu:=bN 2 mn.toNat (by omega);refine cC 23 [0,1,3,4,7] Tryz.func141 ?_;unfold iI;refine dW ?_;apply bx;rfl;rfl;(exact dM);rfl;refine aD fun r3 h3=> ?_;repeat rcases h3 with⟨_,h3⟩
 refine jF ?_;refine xM ?_;refine aB rfl (fun g1=> ?_) (fun g1=> ?_)
 ·refine aP ?_;refine gI [(0,true),(3,true),(4,true),(1,false),(2,false),(5,false),(6,true)] ?_;refine EZ ?_;refine GO ?_;refine aD fun r9 h9=> ?_;repeat rcases h9 with⟨_,h9⟩
  refine fJ rfl ((vs++ [0]).map aH) (vs++ [0]).length ?_;refine bM fun r10 h10=> ?_;repeat rcases h10 with⟨_,h10⟩
  refine qT [(r10,.arr 5 1 ((vs++ [0]).map aH))] rfl Tryz.call135 (oJ r10 (vs++ [0]) (by simp;omega) mn h0 (by omega)) rfl aC aA gE ?_;rintro _ σ' ⟨r13,rfl,rfl⟩ h13;have k13:=bC h13;repeat rcases k13 with⟨_,k13⟩
  refine sL ?_;rw[show vs++ [0]++cB mn=vs++eK ⟨has,mn,mx⟩ by unfold eK;rw[if_pos g1];simp];apply aF;exact aG
  ·exact⟨r13,rfl,rfl⟩
  ·exact aA
 refine aP ?_;refine gI [(0,true),(3,true),(4,true),(6,true),(7,true),(1,false),(2,false),(5,false),(8,false),(9,true)] ?_;refine EZ ?_;refine jE ?_;refine GO ?_;refine aD fun r15 h15=> ?_;repeat rcases h15 with⟨_,h15⟩
 refine fJ rfl ((vs++ [1]).map aH) (vs++ [1]).length ?_;refine bM fun r16 h16=> ?_;repeat rcases h16 with⟨_,h16⟩
 refine qT [(r16,.arr 5 1 ((vs++ [1]).map aH))] rfl Tryz.call135 (oJ r16 (vs++ [1]) (by simp;omega) mn h0 (by omega)) rfl aC aA gE ?_;rintro _ σ' ⟨r19,rfl,rfl⟩ h19;have k19:=bC h19;repeat rcases k19 with⟨_,k19⟩
 apply bZ;(exact bF);refine qT [(r19,.arr 5 1 ((vs++ [1]++cB mn).map aH))] rfl Tryz.call135 (oJ r19 (vs++ [1]++cB mn) (by simp[cB];omega) mx (by simp at g1;omega) (by omega)) rfl aC aA gE ?_;rintro _ σ' ⟨r22,rfl,rfl⟩ h22;have k22:=bC h22;repeat rcases k22 with⟨_,k22⟩
 refine sL ?_;rw[show vs++ [1]++cB mn++cB mx=vs++eK ⟨has,mn,mx⟩ by unfold eK;rw[if_neg (by simp[g1])];simp];apply aF;exact aG
 ·exact⟨r22,rfl,rfl⟩
 ·exact aA
theorem aI7(q:Nat)(vs:List Nat)(hvs:vs.length≤9000000)(l:Li)(h0:0≤l.mn)(h1:l.mn≤100000)(h2:l.mx≤100000):SCall Tryz.prog 140 [.own q 0 vs.length,.agg (iI l)] [(q,.arr 5 1 (vs.map aH))]
  (fun y σ=>∃r,y=.own r 0 (vs++112::eK l).length∧σ=[(r,.arr 5 1 ((vs++112::eK l).map aH))]):=by
 refine cC 10 [0,1,3,4] Tryz.func140 ?_;refine dW ?_;apply bx;rfl;rfl;(exact dM);rfl;refine aD fun r3 h3=> ?_;repeat rcases h3 with⟨_,h3⟩
 refine dG ?_;refine gI [(0,true),(3,true),(1,false),(2,false),(4,false),(5,true)] ?_;refine gD rfl (aI (E rfl)) rfl ?_;refine OY ?_;refine GO ?_;refine aD fun r6 h6=> ?_;repeat rcases h6 with⟨_,h6⟩
 refine fJ rfl ((vs++ [112]).map aH) (vs++ [112]).length ?_;refine bM fun r7 h7=> ?_;repeat rcases h7 with⟨_,h7⟩
 refine qT [(r7,.arr 5 1 ((vs++ [112]).map aH))] rfl Tryz.call141 (uN r7 (vs++ [112]) (by simp;omega) l h0 h1 h2) rfl aC aA gE ?_;rintro _ σ' ⟨r9,rfl,rfl⟩ h9;have k9:=bC h9;repeat rcases k9 with⟨_,k9⟩
 refine sL ?_;rw[show vs++ [112]++eK l=vs++112::eK l by simp];apply aF;exact aG
 ·exact⟨r9,rfl,rfl⟩
 ·exact aA
theorem DG(q:Nat)(vs:List Nat)(hvs:vs.length≤10000000)(n:Int)(h:kE n=true):SCall Tryz.prog 149 [.own q 0 vs.length,.int .i64 n] [(q,.arr 5 1 (vs.map aH))]
  (fun y σ=>∃r,y=.own r 0 (vs++pD n).length∧σ=[(r,.arr 5 1 ((vs++pD n).map aH))]):=by
 have hr:-2147483648≤n∧n≤2147483647:=by unfold kE at h;simpa using h
 refine cC 11 [0,1,4] Tryz.func149 ?_;refine fV ?_;refine z1 ?_;refine aD fun r6 h6=> ?_;repeat rcases h6 with⟨_,h6⟩
 refine jY ((vs++ [0]).map aH) (vs++ [0]).length ?_;refine bM fun r7 h7=> ?_;repeat rcases h7 with⟨_,h7⟩
 refine lo (aI (E rfl)) rfl ?_;refine nF ?_;refine cw [(r7,.arr 5 1 ((vs++ [0]).map aH))] Tryz.call144 (qM r7 (vs++ [0]) (by simp;omega) 1 n (by unfold lW;simp;omega) (by omega)) rfl aC aA ?_;rintro _ σ' ⟨r10,rfl,rfl⟩ h10;have k10:=bC h10;repeat rcases k10 with⟨_,k10⟩
 refine eP ?_;rw[show vs++ [0]++lL 1 n=vs++pD n by unfold pD;simp];apply aF;exact aG
 ·exact⟨r10,rfl,rfl⟩
 ·exact aA
theorem aI8(q:Nat)(vs:List Nat)(hvs:vs.length≤9000000)(o:Int)(fs:List Int)(h:kE o=true)(h1:fs.length≤50)(h2:∀n∈fs,iK n=true)(hc:(pD o).length≤300):SCall Tryz.prog 148 [.own q 0 vs.length,.agg (fK ⟨o,fs⟩)] [(q,.arr 5 1 (vs.map aH))]
  (fun y σ=>∃r,y=.own r 0 (vs++tH ⟨o,fs⟩).length∧σ=[(r,.arr 5 1 ((vs++tH ⟨o,fs⟩).map aH))]):=by
 refine cC 12 [0,1,3,4] Tryz.func148 ?_;unfold fK;refine dW ?_;apply bx;rfl;rfl;(exact dM);rfl;refine aD fun r3 h3=> ?_;repeat rcases h3 with⟨_,h3⟩
 refine dG ?_;refine gI [(0,true),(1,true),(2,true),(4,true),(5,true),(3,false),(6,false),(7,true)] ?_;refine EZ ?_;refine jE ?_;refine qT [(q,.arr 5 1 (vs.map aH))] rfl Tryz.call149 (DG q vs (by omega) o h) rfl aC aA gE ?_;rintro _ σ' ⟨r8,rfl,rfl⟩ h8;have k8:=bC h8;repeat rcases k8 with⟨_,k8⟩
 apply bZ;(exact bF);refine qT [(r8,.arr 5 1 ((vs++pD o).map aH))] rfl Tryz.call131 (BM DF (by decide) r8 (vs++pD o) fs h2 (by omega) (by simp;omega)) rfl aC aA gE ?_;rintro _ σ' ⟨r11,rfl,rfl⟩ h11;have k11:=bC h11;repeat rcases k11 with⟨_,k11⟩
 refine sL ?_;rw[show vs++pD o++bD fs cB=vs++tH ⟨o,fs⟩ by unfold tH;simp];apply aF;exact aG
 ·exact⟨r11,rfl,rfl⟩
 ·exact aA
theorem aI9(q:Nat)(vs:List Nat)(hvs:vs.length≤9000000)(o:Int)(bs:List Nat)(h:kE o=true)(h1:bs.length≤1000)(hc:(pD o).length≤300):SCall Tryz.prog 153 [.own q 0 vs.length,.agg (fL ⟨o,bs⟩)] [(q,.arr 5 1 (vs.map aH))]
  (fun y σ=>∃r,y=.own r 0 (vs++vG ⟨o,bs⟩).length∧σ=[(r,.arr 5 1 ((vs++vG ⟨o,bs⟩).map aH))]):=by
 have hu:=bN 1 bs.length (by omega);refine cC 16 [0,1,3,4] Tryz.func153 ?_;unfold fL;refine dW ?_;apply bx;rfl;rfl;(exact dM);rfl;refine aD fun r3 h3=> ?_;repeat rcases h3 with⟨_,h3⟩
 refine dG ?_;refine gI [(0,true),(1,true),(2,true),(4,true),(5,true),(6,true),(8,true),(9,true),(3,false),(7,false),(10,false),(11,true)] ?_;refine EZ ?_;refine jE ?_;refine IQ ?_;refine jE ?_;refine qT [(q,.arr 5 1 (vs.map aH))] rfl Tryz.call149 (DG q vs (by omega) o h) rfl aC aA gE ?_;rintro _ σ' ⟨r8,rfl,rfl⟩ h8;have k8:=bC h8;repeat rcases k8 with⟨_,k8⟩
 apply bZ;(exact bF);refine qT [(r8,.arr 5 1 ((vs++pD o).map aH))] rfl Tryz.call135 (eH r8 (vs++pD o) (by simp;omega) bs.length (by omega)) rfl aC aA gE ?_;rintro _ σ' ⟨r12,rfl,rfl⟩ h12;have k12:=bC h12;repeat rcases k12 with⟨_,k12⟩
 apply bZ;(exact bF);refine fJ rfl ((vs++pD o++uB bs.length++bs).map aH) (vs++pD o++uB bs.length++bs).length ?_;refine bM fun r15 h15=> ?_;repeat rcases h15 with⟨_,h15⟩
 refine tV ?_;rw[show vs++pD o++uB bs.length++bs=vs++vG ⟨o,bs⟩ by unfold vG;simp];apply aF;exact aG
 ·exact⟨r15,rfl,rfl⟩
 ·exact aA
theorem NH(l:Li):SCall Tryz.prog 139 [.agg (iI l)] [] (fun y σ=>∃q,y=.own q 0 (gW l).length∧σ=[(q,.arr 26 3 ((gW l).map iI))]):=by
 obtain⟨has,mn,mx⟩:=l;refine cC 8 [0,1,2,5] Tryz.func139 ?_;unfold iI;refine dW ?_;apply bx;rfl;rfl;(exact dM);rfl;refine aD fun r1 h1=> ?_;repeat rcases h1 with⟨_,h1⟩
 refine jF ?_;refine tU ?_;refine aB rfl (fun g1=> ?_) (fun g1=> ?_)
 ·obtain rfl:has=false:=by simpa using g1
  refine dW ?_;refine vQ ?_;refine bU 2 26 3 (by decide) rfl (by decide) (aD fun q2 hq2=> ?_);repeat rcases hq2 with⟨_,hq2⟩
  refine aP ?_;apply aF;exact aG
  ·exact⟨q2,rfl,rfl⟩
  ·exact aA
 obtain rfl:has=true:=by simpa using g1
 refine pY ?_;refine z1 ?_;refine aD fun r7 h7=> ?_;repeat rcases h7 with⟨_,h7⟩
 refine dG ?_;apply aF;exact aG
 ·exact⟨r7,rfl,rfl⟩
 ·exact aA
theorem vH{k n:Int}(hv:lW k n=true)(hn:-9223372036854775808≤n∧n≤9223372036854775807):(lL k n).length≤201:=by
 obtain⟨ho,hm,-⟩:=CY hv hn;have:=uG ho hm;unfold lL;rw[List.length_append,List.length_singleton];omega
theorem BN{n:Int}(h:kE n=true):(pD n).length≤202:=by
 have hr:-2147483648≤n∧n≤2147483647:=by unfold kE at h;simpa using h
 have:=vH (k:=1) (n:=n) (by unfold lW;simp;omega) (by omega);unfold pD;simp;omega
theorem SD:iV Tryz.prog 5 134 (fun x=>.agg (fT x)) jC (fun x=>(sW x.mod&&sW x.nm&&iK x.ty)=true) 50 10000000:=
 ⟨Tryz.call134,fun q vs x h hp hvs=>by
  obtain⟨a,b,n⟩:=x;simp only[Bool.and_eq_true]at h;obtain⟨⟨h1,h2⟩,h3⟩:=h;have l1:=(kO h1).2.2;have l2:=(kO h2).2.2;have l3:=JW h3;exact⟨by unfold jC;simp;omega,aI5 q vs hp hvs a b n h1 h2 h3⟩⟩
theorem SE:iV Tryz.prog 5 146 (fun x=>.agg (fQ x)) mL (fun x=>(sW x.nm&&iK x.fn)=true) 50 10000000:=
 ⟨Tryz.call146,fun q vs x h hp hvs=>by
  obtain⟨b,n⟩:=x;simp only[Bool.and_eq_true]at h;have l2:=(kO h.1).2.2;have l3:=JW h.2;exact⟨by unfold mL;simp;omega,aI6 q vs hp hvs b n h.1 h.2⟩⟩
def NJ (l:Li):Prop:=0≤l.mn∧l.mn≤100000∧l.mx≤100000
theorem vI{l:Li}(h:NJ l):(eK l).length≤7:=by
 have h1:=bN 2 l.mn.toNat (by have:=h.2.1;omega);have h2:=bN 2 l.mx.toNat (by have:=h.2.2;omega);unfold eK cB;split
 ·simp;omega
 ·simp;omega
theorem SF:iV Tryz.prog 5 141 (fun x=>.agg (iI x)) eK NJ 10 9000000:=
 ⟨Tryz.call141,fun q vs x h _ hvs=>⟨by have:=vI h;omega,uN q vs (by omega) x h.1 h.2.1 h.2.2⟩⟩
theorem SG:iV Tryz.prog 5 140 (fun x=>.agg (iI x)) (fun l=>112::eK l) NJ 10 9000000:=
 ⟨Tryz.call140,fun q vs x h _ hvs=>⟨by have:=vI h;simp;omega,aI7 q vs (by omega) x h.1 h.2.1 h.2.2⟩⟩
theorem SH:iV Tryz.prog 5 148 (fun x=>.agg (fK x)) tH (fun x=>(kE x.off&&cP x.fs 50 iK)=true) 400 9000000:=
 ⟨Tryz.call148,fun q vs x h _ hvs=>by
  obtain⟨o,fs⟩:=x;simp only[Bool.and_eq_true]at h;have h1:fs.length≤50∧∀n∈fs,iK n=true:=by have:=h.2;unfold cP at this;simp at this;exact⟨by omega,this.2⟩
  have l1:=BN h.1;have l2:=lF (pt:=cB) (l:=fs) (c:=2) (fun x hx=>JW (h1.2 x hx)) (by omega);exact⟨by unfold tH;simp;omega,aI8 q vs hvs o fs h.1 h1.1 h1.2 (by omega)⟩⟩
theorem aB0:iV Tryz.prog 5 153 (fun x=>.agg (fL x)) vG (fun x=>(kE x.off&&decide (x.bs.length≤1000))=true) 2000 9000000:=
 ⟨Tryz.call153,fun q vs x h _ hvs=>by
  obtain⟨o,bs⟩:=x;simp only[Bool.and_eq_true,decide_eq_true_eq]at h;have l1:=BN h.1;have l2:=bN 1 bs.length (by omega);exact⟨by unfold vG;simp;omega,aI9 q vs hvs o bs h.1 h.2 (by omega)⟩⟩
theorem YT{l:List Nat}{a b:Nat}:((l++ [a]).map aH).set (((l++ [a]).length:Int)-1).toNat [.int .u8 (b:Int)]=(l++ [b]).map aH:=by
 rw[show(((l++ [a]).length:Int)-1).toNat=l.length by simp,List.map_append,List.map_append,List.set_append,if_neg (by simp)];simp[aH]
theorem aB1{l:List Nat}{a:Nat}:(l++ [a])[(((l++ [a]).length:Nat)-1:Int).toNat]? =some a:=by
 rw[show(((l++ [a]).length:Nat)-1:Int).toNat=l.length by simp];simp
theorem aJa(q:Nat)(vs:List Nat)(hvs:vs.length≤9000000)(mu:Bool)(k n:Int)(hv:lW k n=true)(hn:-9223372036854775808≤n∧n≤9223372036854775807):SCall Tryz.prog 143 [.own q 0 vs.length,.agg (fP ⟨mu,k,n⟩)] [(q,.arr 5 1 (vs.map aH))]
  (fun y σ=>∃r,y=.own r 0 (vs++tG ⟨mu,k,n⟩).length∧σ=[(r,.arr 5 1 ((vs++tG ⟨mu,k,n⟩).map aH))]):=by
 have hkl:=mX k;refine cC 23 [0,1,3,4,13] Tryz.func143 ?_;unfold fP;refine dW ?_;apply bx;rfl;rfl;(exact dM);rfl;refine aD fun r3 h3=> ?_;repeat rcases h3 with⟨_,h3⟩
 refine iE ?_;refine wI ?_;refine gF ?_;refine cw [(q,.arr 5 1 (vs.map aH))] Tryz.call132 (sE q vs (by omega) k) rfl aC aA ?_;rintro _ σ' ⟨r9,rfl,rfl⟩ h9;have k9:=bC h9;repeat rcases k9 with⟨_,k9⟩
 apply aT;(exact bF);refine z1 ?_;refine aD fun r10 h10=> ?_;repeat rcases h10 with⟨_,h10⟩
 refine jY ((vs++kB k++ [0]).map aH) (vs++kB k++ [0]).length ?_;refine bM fun r11 h11=> ?_;repeat rcases h11 with⟨_,h11⟩
 refine dG ?_;have hl:(vs++kB k++ [0]).length=vs.length+2:=by simp[hkl]
 refine kZ ?_;refine jP ?_;refine aB rfl (fun g2=> ?_) (fun g2=> ?_)
 ·obtain⟨z,hz⟩:∃z:Nat,z=1:=⟨_,rfl⟩
  have hat:=aB1 (l:=vs++kB k) (a:=0);refine cL ?_;refine lU ?_;refine rP ?_;refine VZ ?_;refine PG ?_;refine jP ?_;have hle:(vs++kB k++ [0]).length=(vs++kB k++ [1]).length:=by simp
  have hz1:vs++kB k++ [1]=vs++kB k++ [z]:=by rw[hz]
  have hset:=YT (l:=vs++kB k) (a:=0) (b:=1);rw[show(cW (.int .u8 1))=AV.int .u8 ((1:Nat):Int)from rfl,hset,hle,hz1];refine gK ?_;refine wI ?_;refine oV ?_;refine cw [(r11,.arr 5 1 ((vs++kB k++ [z]).map aH))] Tryz.call144 (qM r11 (vs++kB k++ [z]) (by simp;omega) k n hv hn) rfl aC aA ?_;rintro _ σ' ⟨r22,rfl,rfl⟩ h22;have k22:=bC h22;repeat rcases k22 with⟨_,k22⟩
  refine eP ?_;rw[show vs++kB k++ [z]++lL k n=vs++tG ⟨mu,k,n⟩ by unfold tG;rw[hz,g2];simp];apply aF;exact aG
  ·exact⟨r22,rfl,rfl⟩
  ·exact aA
 obtain⟨z,hz⟩:∃z:Nat,z=0:=⟨_,rfl⟩
 rw[show vs++kB k++ [0]=vs++kB k++ [z] by rw[hz]];refine dX ?_;refine wI ?_;refine oV ?_;refine cw [(r11,.arr 5 1 ((vs++kB k++ [z]).map aH))] Tryz.call144 (qM r11 (vs++kB k++ [z]) (by simp;omega) k n hv hn) rfl aC aA ?_;rintro _ σ' ⟨r22,rfl,rfl⟩ h22;have k22:=bC h22;repeat rcases k22 with⟨_,k22⟩
 refine eP ?_;rw[show vs++kB k++ [z]++lL k n=vs++tG ⟨mu,k,n⟩ by unfold tG;rw[hz,g2];simp];apply aF;exact aG
 ·exact⟨r22,rfl,rfl⟩
 ·exact aA
theorem SI:iV Tryz.prog 5 143 (fun x=>.agg (fP x)) tG (fun g=>lW g.kd g.n=true∧ -9223372036854775808≤g.n∧g.n≤9223372036854775807) 300 9000000:=
 ⟨Tryz.call143,fun q vs x h _ hvs=>by
  obtain⟨mu,k,n⟩:=x;have l1:=vH h.1 h.2;have l2:=mX k;exact⟨by unfold tG;simp;dsimp only at l1;omega,aJa q vs hvs mu k n h.1 h.2⟩⟩
end Go.Proofs.YtjpdadobblffmaaGreat
namespace Go.Proofs.YtjpdadobblffmaaGreat
open Go.RowKit Go.ChangeShapes Go.WideShapes Go.ChangeAt Go.Deep
abbrev St:=List Nat×Bool
def tI (s:St) (n:Int) (ok:Bool):St:=let bad:=s.2|| !ok||decide ((s.1.length:Int)<n);(if bad then s.1 else s.1.drop n.toNat,bad)
def gR (s:St):Nat×St:=let s':=tI s (lB s.1).2.1 ((lB s.1).2.2==0);(if s'.2 then 0 else(lB s.1).1,s')
def kP (s:St):Nat×St:=if s.2||s.1.isEmpty then(0,(s.1,true))else(s.1[0]!,(s.1.drop 1,false))
def yI (s:St):List Nat×St:=let r:=gR s;let s':=tI r.2 r.1 true;(if s'.2 then []else r.2.1.take r.1,s')
def jV {α:Type} (get:St→α×St):Nat→St→List α×St
 |0,s=>([],s)
 |n+1,s=>if s.2 then([],s)else let r:=get s;let t:=jV get n r.2;(r.1::t.1,t.2)
def fW {α:Type} (get:St→α×St) (s:St):List α×St:=let r:=gR s;jV get r.1 r.2
def uO (s:St):Int×St:=let r:=kP s;if(r.1==127)=true then(1,r.2)else if(r.1==126)=true then(2,r.2)else(0,(r.2.1,true))
def LG (s:St):(Int×Int)×St:=
 let g:=fG s.1
 let s1:=tI s g.2.1 ((g.2.2==0)&&(g.1.op==65||g.1.op==66))
 let s2:=(kP s1).2
 (if(g.1.op==66)=true then(2,g.1.a)else(1,g.1.a),s2)
def LH (s:St):Int×St:=let r:=LG (kP s).2;(r.1.2,r.2)
def SJ (s:St):Li×St:=
 let b:=kP s
 let r:=gR b.2
 if(b.1 !=0)=true then let t:=gR r.2;(⟨true,r.1,t.1⟩,t.2)else(⟨true,r.1,-1⟩,r.2)
def QB:Nat→St→List Int→List Int×St
 |0,s,l=>(l,s)
 |n+1,s,l=>if s.2 then(l,s)else
  let m:=gR s
  let k:=uO m.2
  if 32<m.1 then([],(k.2.1,true))else QB n k.2 (l++List.replicate m.1 k.1)
def wV (s:St):List Int×St:=let r:=gR s;QB r.1 r.2 []
def JX (s:St):Co×St:=
 let r:=wV (gR s).2
 if r.2.2 then(⟨r.1,[]⟩,r.2)else
  let g:=kW r.2.1
  (⟨r.1,g.1⟩,tI r.2 g.2.1 (g.2.2==0))
def UQ (s:St):FT×St:=let p:=fW uO (kP s).2;let r:=fW uO p.2;(⟨p.1,r.1⟩,r.2)
def UR (s:St):Int×St:=let r:=gR s;(r.1,r.2)
def WE (s:St):Im×St:=let a:=yI s;let b:=yI a.2;let t:=gR (kP b.2).2;(⟨a.1,b.1,t.1⟩,t.2)
def WF (s:St):Gl×St:=let k:=uO s;let m:=kP k.2;let c:=LG m.2;(⟨m.1 !=0,c.1.1,c.1.2⟩,c.2)
def WG (s:St):Ex×St:=let a:=yI s;let t:=gR (kP a.2).2;(⟨a.1,t.1⟩,t.2)
def YU (before:Bool) (s:St):Li×St:=SJ (if before then(kP s).2 else s)
def NK (before:Bool) (s:St):Li×St:=let r:=fW (YU before) s;(r.1.headD HE,r.2)
def YV (s:St):El×St:=let o:=LH s;let l:=fW UR o.2;(⟨o.1,l.1⟩,l.2)
def YW (s:St):Da×St:=let o:=LH s;let l:=yI o.2;(⟨o.1,l.1⟩,l.2)
def tF (no:Nat) (m:Md) (s:St):Md×St:=
 if no=1 then({ m with ty:=(fW UQ s).1 },(fW UQ s).2)
 else if no=2 then({ m with im:=(fW WE s).1 },(fW WE s).2)
 else if no=3 then({ m with fn:=(fW UR s).1 },(fW UR s).2)
 else if no=4 then({ m with tb:=(NK true s).1 },(NK true s).2)
 else if no=5 then({ m with me:=(NK false s).1 },(NK false s).2)
 else if no=6 then({ m with gl:=(fW WF s).1 },(fW WF s).2)
 else if no=7 then({ m with ex:=(fW WG s).1 },(fW WG s).2)
 else if no=9 then({ m with el:=(fW YV s).1 },(fW YV s).2)
 else if no=10 then({ m with co:=(fW JX s).1 },(fW JX s).2)
 else if no=11 then({ m with da:=(fW YW s).1 },(fW YW s).2)
 else(m,(s.1,true))
def YX:Nat→Md→St→Md×St
 |0,m,s=>(m,s)
 |f+1,m,s=>if s.1.isEmpty||s.2 then(m,s)else
  let b:=kP s
  let t:=tF b.1 m (gR b.2).2
  YX f t.1 t.2
def vU (b:List Nat):Md×St:=YX (b.length+1) md0 (tI (b, !decide (b.take 8=headB)) 8 true)
def wW (b:List Nat):Md×Int:=
 if 8000<b.length then(md0,4)
 else if(vU b).2.2=true then(md0,1)
 else if pS (vU b).1=true∧fH (vU b).1=b then((vU b).1,0)else(md0,1)
def WH {α:Type} (get:St→α×St) (pt:α→List Nat) (ok:α→Prop):Prop:=∀x,ok x→∀r,get (pt x++r,false)=(x,(r,false))
theorem NL{p r:List Nat}{n:Int}(hn:n=(p.length:Int)):tI (p++r,false) n true=(r,false):=by
 subst hn;unfold tI;have:decide ((((p++r,false):St).1.length:Int)<(p.length:Int))=false:=by simp;omega
 simp only[this];simp
theorem AI{v:Nat}(hv:v<4294967296)(r:List Nat):gR (uB v++r,false)=(v,(r,false)):=by
 unfold gR;dsimp only;rw[RM hv];dsimp only;rw[show((0:Int)==0)=true from rfl,NL rfl];rfl
theorem rH(c:Nat)(r:List Nat):kP (c::r,false)=(c,(r,false)):=by
 unfold kP;simp
theorem aDB{s:List Nat}(hs:s.length<4294967296)(r:List Nat):yI (uB s.length++s++r,false)=(s,(r,false)):=by
 unfold yI;rw[List.append_assoc,AI hs];dsimp only;rw[NL rfl];simp
theorem aDC{α:Type}{get:St→α×St}{pt:α→List Nat}{ok:α→Prop}(h:WH get pt ok):∀ {l:List α},(∀x∈l,ok x)→∀r,jV get l.length (l.flatMap pt++r,false)=(l,(r,false))
 |[],_,r=>rfl
 |x::l,hl,r=>by
  rw[List.length_cons,jV,if_neg (by simp),List.flatMap_cons,List.append_assoc,h x (hl x List.mem_cons_self)];dsimp only;rw[aDC h (fun y hy=>hl y (List.mem_cons_of_mem _ hy))]
theorem sY{α:Type}{get:St→α×St}{pt:α→List Nat}{ok:α→Prop}(h:WH get pt ok){l:List α}(hl:∀x∈l,ok x)(hn:l.length<4294967296)(r:List Nat):fW get (bD l pt++r,false)=(l,(r,false)):=by
 unfold fW bD;rw[List.append_assoc,AI hn];exact aDC h hl r
theorem SK:WH uO kB (fun k=>yC k=true):=by
 intro k hk r;have:k=1∨k=2:=by
  unfold yC at hk;by_cases h:k=1
  ·exact .inl h
  ·rw[if_neg (by simpa using h)]at hk;exact .inr (by simpa using hk)
 rcases this with rfl|rfl
 ·show uO (127::r,false)=_;unfold uO;rw[rH];rfl
 ·show uO (126::r,false)=_;unfold uO;rw[rH];rfl
theorem aDD:WH UR cB (fun n=>iK n=true):=by
 intro n hn r;have h0:0≤n∧n≤1000:=by
  unfold iK at hn;by_cases h:0≤n
  ·rw[if_pos (by simpa using h)]at hn;exact⟨h,by simpa using hn⟩
  ·rw[if_neg (by simpa using h)]at hn;cases hn
 unfold UR cB;rw[AI (by omega)];simp;omega
theorem zP{n:Int}(h0:0≤n)(h1:n<4294967296)(r:List Nat):gR (cB n++r,false)=(n.toNat,(r,false)):=AI (by omega) r
theorem aDE{k n:Int}(h:lW k n=true)(hn:-9223372036854775808≤n∧n≤9223372036854775807)(r:List Nat):LG (lL k n++r,false)=((k,n),(r,false)):=by
 obtain⟨ho,hm,hk⟩:=CY h hn;have key:∀op:Int,(⟨op,n,0,[]⟩:Ins).Ok→dC ⟨op,n,0,[]⟩=true→(op=65∨op=66)→LG (gP ⟨op,n,0,[]⟩++ [11]++r,false)=(if(op==66)=true then(2,n)else(1,n),(r,false)):=by
  intro op ho hm hop;unfold LG;dsimp only;rw[List.append_assoc,JG ho hm];dsimp only;rw[show(((0:Int)==0)&&((op==65)||(op==66)))=true by rcases hop with rfl|rfl<;>rfl,NL rfl];show(_,(kP (11::r,false)).2)=_;rw[rH]
 unfold lL;rcases hk with rfl|rfl
 ·exact key 65 ho hm (.inl rfl)
 ·exact key 66 ho hm (.inr rfl)
theorem aDF{n:Int}(h:kE n=true)(r:List Nat):LH (pD n++r,false)=(n,(r,false)):=by
 unfold kE at h;simp only[Bool.and_eq_true,decide_eq_true_eq]at h;unfold LH pD;rw[List.cons_append,rH];dsimp only;rw[aDE (by unfold lW;simp;omega) (by omega)]
theorem aDG{l:Li}{a c:Int}(h:lC l a c=true)(hh:l.has=true)(ha:a≤100000)(hc:c≤100000)(r:List Nat):SJ (eK l++r,false)=(l,(r,false)):=by
 obtain⟨has,mn,mx⟩:=l;dsimp only at hh;subst hh;unfold lC at h;simp only[if_true,Bool.and_eq_true,decide_eq_true_eq]at h;obtain⟨⟨⟨h1,h2⟩,h3⟩,h4⟩:=h;by_cases hx:mx<0
 ·rw[show eK ⟨true,mn,mx⟩=0::cB mn by unfold eK;rw[if_pos (by simpa using hx)]];unfold SJ;rw[List.cons_append,rH];dsimp only;rw[zP h1 (by omega)];simp;omega
 ·rw[show eK ⟨true,mn,mx⟩=1::(cB mn++cB mx) by unfold eK;rw[if_neg (by simpa using hx)]];unfold SJ;rw[List.cons_append,rH];dsimp only;rw[List.append_assoc,zP h1 (by omega)];dsimp only;rw[if_pos (by decide),zP (by omega) (by omega)];simp;omega
theorem zQ(l:List Int)(k:Int):bX (l++ [k])=match(bX l).getLast? with
 |some (x::xs)=>if x==k then(bX l).dropLast++ [(x::xs)++ [k]]else bX l++ [[k]]
 | _=>bX l++ [[k]]:=by
 unfold bX;rw[List.foldl_append];rfl
theorem yJ:∀(n:Nat) (l:List Int),l.length=n→(bX l).flatten=l∧∀r∈bX l,∃k m,r=List.replicate (m+1) k∧k∈l∧m+1≤l.length
 |0,l,h=>by
  obtain rfl:l=[]:=List.length_eq_zero_iff.1 h;exact⟨rfl,by simp[bX]⟩
 |n+1,l,h=>by
  obtain⟨t,k,rfl⟩:∃t k,l=t++ [k]:=by
   have:l≠ []:=by intro e;subst e;simp at h
   exact⟨l.dropLast,l.getLast this,(List.dropLast_concat_getLast this).symm⟩
  obtain⟨h1,h2⟩:=yJ n t (by simpa using h);rw[zQ];have hnew:(bX t++ [[k]]).flatten=t++ [k]∧∀r∈bX t++ [[k]],∃k' m,r=List.replicate (m+1) k'∧k'∈t++ [k]∧m+1≤(t++ [k]).length:=by
   refine⟨by rw[List.flatten_append,h1];rfl,fun r hr=> ?_⟩;rcases List.mem_append.1 hr with hr|hr
   ·obtain⟨k',m,e1,e2,e3⟩:=h2 r hr;exact⟨k',m,e1,List.mem_append_left _ e2,by simp;omega⟩
   ·exact⟨k,0,by simpa using hr,by simp,by simp⟩
  split
  ·next x xs hl=>
   split
   ·next hx=>
    obtain rfl:x=k:=by simpa using hx
    have hne:bX t≠ []:=by intro e;rw[e]at hl;cases hl
    have hd:bX t=(bX t).dropLast++ [x::xs]:=by
     have:=List.dropLast_concat_getLast hne;rw[List.getLast?_eq_some_getLast hne]at hl;rw[Option.some.inj hl]at this;exact this.symm
    obtain⟨k',m,e1,e2,e3⟩:=h2 (x::xs) (by rw[hd];simp);obtain rfl:x=k':=by rw[List.replicate_succ]at e1;exact(List.cons.inj e1).1
    refine⟨?_,fun r hr=> ?_⟩
    ·rw[List.flatten_append]
     conv=>rhs;rw[←h1,hd]
     simp
    ·rcases List.mem_append.1 hr with hr|hr
     ·obtain⟨k',m,e1,e2,e3⟩:=h2 r (List.dropLast_sublist _ |>.subset hr);exact⟨k',m,e1,List.mem_append_left _ e2,by simp;omega⟩
     ·refine⟨x,m+1, ?_,by simp,by simp;omega⟩;rw[show r=x::xs++ [x] by simpa using hr,e1];exact List.replicate_succ'.symm
   ·exact hnew
  ·exact hnew
theorem aDH{l:List Int}(hk:∀k∈l,yC k=true):∀ {rs:List (List Int)},(∀r∈rs,∃k m,r=List.replicate (m+1) k∧k∈l∧m+1≤32)→∀(acc:List Int) (t:List Nat),QB rs.length (rs.flatMap iG++t,false) acc=(acc++rs.flatten,(t,false))
 |[],_,acc,t=>by simp[QB]
 |r::rs,h,acc,t=>by
  obtain⟨k,m,rfl,hkl,hm⟩:=h r List.mem_cons_self;rw[List.length_cons,QB,if_neg (by simp),List.flatMap_cons,List.append_assoc];have h1:iG (List.replicate (m+1) k)=cB ((m+1:Nat):Int)++kB k:=by unfold iG;rw[List.length_replicate,List.replicate_succ];rfl
  rw[h1,List.append_assoc,zP (by omega) (by omega)];dsimp only;rw[SK k (hk k hkl)];dsimp only;rw[Int.toNat_natCast,if_neg (by omega),aDH hk (fun r hr=>h r (List.mem_cons_of_mem _ hr))];simp
theorem aHg{l:List Int}(hk:∀k∈l,yC k=true)(hl:l.length≤32)(t:List Nat):wV (bD (bX l) iG++t,false)=(l,(t,false)):=by
 obtain⟨h1,h2⟩:=yJ _ l rfl;have hr:∀(rs:List (List Int)),(∀r∈rs,∃k m,r=List.replicate (m+1) k∧k∈l∧m+1≤l.length)→rs.length≤rs.flatten.length:=by
  intro rs
  induction rs with
  |nil=>simp
  |cons r rs ih=>
   intro h;obtain⟨k,m,rfl,-,-⟩:=h r List.mem_cons_self;have:=ih fun r hr=>h r (List.mem_cons_of_mem _ hr)
   simp at this⊢;omega
 have hn:=hr _ h2;rw[h1]at hn;unfold wV bD;rw[List.append_assoc,AI (by omega)];dsimp only;rw[aDH hk (fun r hr=>by obtain⟨k,m,a,b,c⟩:=h2 r hr;exact⟨k,m,a,b,by omega⟩),h1];rfl
theorem bW{α:Type}{l:List α}{most:Int}{p:α→Bool}(h:cP l most p=true):(l.length:Int)≤most∧∀x∈l,p x=true:=by
 unfold cP at h;simpa using h
def OkC (c:Co):Prop:=sA c=true∧(∀x∈c.bd,x.Ok)∧(bD (bX c.ls) iG++iU c.bd).length<4294967296
theorem aHh:WH JX kA OkC:=by
 rintro⟨ls,bd⟩ ⟨h,hO,hlen⟩ t;unfold sA at h;simp only[Bool.and_eq_true]at h;obtain⟨⟨h1,h2⟩,h3⟩:=h;obtain⟨k1,k2⟩:=bW h2;obtain⟨k3,k4⟩:=bW h3;have hm:∀x∈bd,x.Ok∧dC x=true:=fun x hx=>⟨hO x hx,k4 x hx⟩
 unfold JX kA;dsimp only;rw[List.append_assoc,AI hlen];dsimp only;rw[List.append_assoc,aHg k2 (by omega)];dsimp only;rw[if_neg (by simp),UL hm h1];dsimp only;rw[show((0:Int)==0)=true from rfl,NL rfl]
theorem aHi:WH UQ uJ (fun t=>(cP t.pr 32 yC&&cP t.rs 1 yC)=true):=by
 rintro⟨pr,rs⟩ h t;simp only[Bool.and_eq_true]at h;obtain⟨k1,k2⟩:=bW h.1;obtain⟨k3,k4⟩:=bW h.2;unfold UQ uJ;rw[List.cons_append,rH];dsimp only;rw[List.append_assoc,sY SK k2 (by omega)];dsimp only;rw[sY SK k4 (by omega)]
theorem aE7{s:List Nat}(h:sW s=true):s.length≤16:=by
 unfold sW at h;split at h
 ·simp only[Bool.and_eq_true,decide_eq_true_eq]at h;exact h.1
 ·cases h
theorem JY{n:Int}(h:iK n=true):0≤n∧n≤1000:=by
 unfold iK at h;by_cases h0:0≤n
 ·rw[if_pos (by simpa using h0)]at h;exact⟨h0,by simpa using h⟩
 ·rw[if_neg (by simpa using h0)]at h;cases h
theorem YY{s:List Nat}(h:sW s=true)(t:List Nat):yI (bO s++t,false)=(s,(t,false)):=aDB (by have:=aE7 h;omega) t
theorem aHj:WH WE jC (fun x=>(sW x.mod&&sW x.nm&&iK x.ty)=true):=by
 rintro⟨a,b,n⟩ h t;simp only[Bool.and_eq_true]at h;obtain⟨⟨h1,h2⟩,h3⟩:=h;have h3:=JY h3;unfold WE jC;dsimp only;rw[List.append_assoc,List.append_assoc,List.append_assoc,YY h1];dsimp only;rw[YY h2];dsimp only;rw[List.cons_append,rH];dsimp only[List.nil_append];rw[zP h3.1 (by omega)];simp;omega
theorem aHk:WH WG mL (fun x=>(sW x.nm&&iK x.fn)=true):=by
 rintro⟨a,n⟩ h t;simp only[Bool.and_eq_true]at h;have h3:=JY h.2;unfold WG mL;dsimp only;rw[List.append_assoc,List.append_assoc,YY h.1];dsimp only;rw[List.cons_append,rH];dsimp only[List.nil_append];rw[zP h3.1 (by omega)];simp;omega
theorem US{k n:Int}(h:lW k n=true):yC k=true:=by
 unfold lW at h;simp only[Bool.or_eq_true,Bool.and_eq_true,beq_iff_eq,decide_eq_true_eq]at h;rcases h with⟨⟨rfl,-⟩,-⟩|rfl<;>rfl
theorem aHl:WH WF tG (fun g=>lW g.kd g.n=true∧ -9223372036854775808≤g.n∧g.n≤9223372036854775807):=by
 rintro⟨mu,k,n⟩ ⟨h,hn⟩ t;dsimp only at h hn;unfold WF tG;dsimp only;rw[List.append_assoc,List.append_assoc,SK k (US h)];dsimp only;rw[List.cons_append,rH];dsimp only[List.nil_append];rw[aDE h hn];cases mu<;>rfl
theorem aHm:WH YV tH (fun x=>(kE x.off&&cP x.fs 50 iK)=true):=by
 rintro⟨o,fs⟩ h t;simp only[Bool.and_eq_true]at h;obtain⟨k1,k2⟩:=bW h.2;unfold YV tH;dsimp only;rw[List.append_assoc,aDF h.1];dsimp only;rw[sY aDD k2 (by omega)]
theorem aHn:WH YW vG (fun x=>(kE x.off&&decide (x.bs.length≤1000))=true):=by
 rintro⟨o,bs⟩ h t;simp only[Bool.and_eq_true,decide_eq_true_eq]at h;unfold YW vG;dsimp only;rw[List.append_assoc,List.append_assoc,aDF h.1];dsimp only;rw[←List.append_assoc,aDB (by omega)]
def NI {α:Type} (get:St→α×St):Prop:=∀s,(get s).2.1.length≤s.1.length
theorem NM(s:St)(n:Int)(ok:Bool):(tI s n ok).1.length≤s.1.length:=by
 unfold tI;dsimp only;split
 ·exact Nat.le_refl _
 ·simp
theorem pH:NI gR:=fun s=>by unfold gR;exact NM _ _ _
theorem sZ:NI kP:=fun s=>by
 unfold kP;split
 ·exact Nat.le_refl _
 ·simp
theorem aDI(s:St)(h:s.1≠ [])(hb:s.2=false):(kP s).2.1.length<s.1.length:=by
 obtain⟨l,b⟩:=s;dsimp only at h hb;subst hb;cases l with
 |nil=>exact absurd rfl h
 |cons c l=>rw[rH];simp
theorem SM:NI yI:=fun s=>by unfold yI;exact Nat.le_trans (NM _ _ _) (pH s)
theorem aDJ{α:Type}{get:St→α×St}(h:NI get):∀n s,(jV get n s).2.1.length≤s.1.length
 |0,s=>Nat.le_refl _
 |n+1,s=>by
  rw[jV];split
  ·exact Nat.le_refl _
  ·exact Nat.le_trans (aDJ h n _) (h s)
theorem tA{α:Type}{get:St→α×St}(h:NI get):NI (fW get):=fun s=>Nat.le_trans (aDJ h _ _) (pH s)
theorem NN:NI uO:=fun s=>by
 unfold uO;dsimp only;split
 ·exact sZ s
 ·split
  ·exact sZ s
  ·exact sZ s
theorem aDK:NI LG:=fun s=>by unfold LG;exact Nat.le_trans (sZ _) (NM _ _ _)
theorem aDL:NI LH:=fun s=>by unfold LH;exact Nat.le_trans (aDK _) (sZ s)
theorem aDM:NI SJ:=fun s=>by
 unfold SJ;dsimp only;split
 ·exact Nat.le_trans (pH _) (Nat.le_trans (pH _) (sZ s))
 ·exact Nat.le_trans (pH _) (sZ s)
theorem aDN:∀n s l,(QB n s l).2.1.length≤s.1.length
 |0,s,l=>Nat.le_refl _
 |n+1,s,l=>by
  rw[QB];split
  ·exact Nat.le_refl _
  ·dsimp only;split
   ·exact Nat.le_trans (NN _) (pH s)
   ·exact Nat.le_trans (aDN n _ _) (Nat.le_trans (NN _) (pH s))
theorem aDO:NI wV:=fun s=>by unfold wV;exact Nat.le_trans (aDN _ _ _) (pH s)
theorem aHo:NI JX:=fun s=>by
 unfold JX;dsimp only;split
 ·exact Nat.le_trans (aDO _) (pH s)
 ·exact Nat.le_trans (NM _ _ _) (Nat.le_trans (aDO _) (pH s))
theorem aHp:NI UQ:=fun s=>by unfold UQ;exact Nat.le_trans (tA NN _) (Nat.le_trans (tA NN _) (sZ s))
theorem aDP:NI UR:=fun s=>pH s
theorem aHq:NI WE:=fun s=>by unfold WE;exact Nat.le_trans (pH _) (Nat.le_trans (sZ _) (Nat.le_trans (SM _) (SM s)))
theorem aHr:NI WF:=fun s=>by unfold WF;exact Nat.le_trans (aDK _) (Nat.le_trans (sZ _) (NN s))
theorem aHs:NI WG:=fun s=>by unfold WG;exact Nat.le_trans (pH _) (Nat.le_trans (sZ _) (SM s))
theorem aHt(b:Bool):NI (YU b):=fun s=>by
 unfold YU;split
 ·exact Nat.le_trans (aDM _) (sZ s)
 ·exact aDM s
theorem aDQ(b:Bool):NI (NK b):=fun s=>tA (aHt b) s
theorem aHu:NI YV:=fun s=>by unfold YV;exact Nat.le_trans (tA aDP _) (aDL s)
theorem aHv:NI YW:=fun s=>by unfold YW;exact Nat.le_trans (SM _) (aDL s)
theorem aDR(no:Nat)(m:Md)(s:St):(tF no m s).2.1.length≤s.1.length:=by
 unfold tF;repeat' split
 ·exact tA aHp s
 ·exact tA aHq s
 ·exact tA aDP s
 ·exact aDQ true s
 ·exact aDQ false s
 ·exact tA aHr s
 ·exact tA aHs s
 ·exact tA aHu s
 ·exact tA aHo s
 ·exact tA aHv s
 ·exact Nat.le_refl _
theorem yK:∀(f f':Nat) (m:Md) (s:St),s.1.length<f→s.1.length<f'→YX f m s=YX f' m s
 |0,_,_,s,h,_=>absurd h (Nat.not_lt_zero _)
 | _ +1,0,_,s,_,h=>absurd h (Nat.not_lt_zero _)
 |f+1,f'+1,m,s,h,h'=>by
  rw[YX,YX];split
  ·rfl
  ·next hc=>
   simp only[Bool.or_eq_true,not_or,Bool.not_eq_true]at hc;have h1:=aDI s (by intro e;rw[e]at hc;simp at hc) hc.2;have h2:=pH (kP s).2;have h3:=aDR (kP s).1 m (gR (kP s).2).2;exact yK f f' _ _ (by omega) (by omega)
def DN (m:Md) (s:St):Md×St:=YX (s.1.length+1) m s
theorem aE8(m:Md):DN m ([],false)=(m,([],false)):=rfl
theorem qN{α:Type}{no:Nat}{l:List α}{pt:α→List Nat}{m m':Md}{r:List Nat}(h0:l=[]→m'=m)(hv:(bD l pt).length<4294967296)
  (hs:tF no m (bD l pt++r,false)=(m',(r,false))):DN m (bL no l pt++r,false)=DN m' (r,false):=by
 unfold bL;by_cases hl:l=[]
 ·subst hl;rw[h0 rfl];rfl
 ·rw[if_neg (by simpa using hl)];unfold DN;rw[YX,if_neg (by simp)];dsimp only;rw[List.cons_append,rH];dsimp only;rw[List.append_assoc,AI hv];dsimp only;rw[hs];dsimp only;exact yK _ _ _ _ (by simp;omega) (by simp)
theorem NO{α:Type}{pt:α→List Nat}:∀ {l:List α} {x:α},x∈l→(pt x).length≤(l.flatMap pt).length
 |y::l,x,h=>by
  rw[List.flatMap_cons,List.length_append];rcases List.mem_cons.1 h with rfl|h
  ·omega
  ·have:=NO (pt:=pt) h;omega
theorem YZ{α:Type}{no:Nat}{l:List α}{pt:α→List Nat}:(l≠ []→(bD l pt).length≤(bL no l pt).length):=by
 intro h;unfold bL;rw[if_neg (by simpa using h)];simp;omega
def Md.Ok (m:Md):Prop:=(∀c∈m.co,∀x∈c.bd,x.Ok)∧∀g∈m.gl,-9223372036854775808≤g.n∧g.n≤9223372036854775807
theorem aB2{α:Type}{l:List α}{pt:α→List Nat}(h:l=[]):(bD l pt).length<4294967296:=by subst h;unfold bD;rw[List.length_nil,sV (by omega)];simp
theorem qO{α:Type}{no:Nat}{l:List α}{pt:α→List Nat}(h:(bL no l pt).length≤8000):(bD l pt).length<4294967296:=by
 by_cases hl:l=[]
 ·exact aB2 hl
 ·have:=YZ (no:=no) (pt:=pt) hl;omega
theorem QC{l:Li}{a c:Int}(h:lC l a c=true)(hh:l.has=false):l=HE:=by
 obtain⟨has,mn,mx⟩:=l;dsimp only at hh;subst hh;unfold lC at h;simp at h;obtain⟨rfl,rfl⟩:=h;rfl
theorem aDS{l:Li}{a c:Int}{pt:Li→List Nat}(before:Bool)(hpt:pt=fun l=>if before then 112::eK l else eK l)(h:lC l a c=true)(ha:a≤100000)(hc:c≤100000)(r:List Nat):NK before (bD (gW l) pt++r,false)=(l,(r,false)):=by
 subst hpt;unfold NK gW;cases hh:l.has with
 |false=>
  rw[if_neg (by decide),show bD ([]:List Li) (fun l=>if before=true then 112::eK l else eK l)=uB 0 by unfold bD;simp];unfold fW;rw[AI (by decide),QC h hh];rfl
 |true=>
  have hb:WH (YU before) (fun l=>if before then 112::eK l else eK l) (fun l=>lC l a c=true∧l.has=true):=by
   rintro x ⟨h1,h2⟩ t;unfold YU;cases before
   ·exact aDG h1 h2 ha hc t
   ·show SJ (kP (112::(eK x++t),false)).2=_;rw[rH];exact aDG h1 h2 ha hc t
  rw[if_pos rfl,sY hb (by simp;exact⟨h,hh⟩) (by simp)];rfl
theorem ZA{m:Md}(h:pS m=true)(hO:m.Ok):vU (fH m)=(m,([],false)):=by
 obtain⟨ty,im,fn,tb,me,gl,ex,el,co,da⟩:=m;unfold pS at h;simp only[Bool.and_eq_true,decide_eq_true_eq]at h;obtain⟨⟨⟨⟨⟨-,hco⟩,hls⟩,htb⟩,hme⟩,hw⟩:=h;unfold pE at hls;simp only[Bool.and_eq_true]at hls;obtain⟨⟨⟨⟨⟨⟨hty,him⟩,hfn⟩,hgl⟩,hex⟩,hel⟩,hda⟩:=hls;obtain⟨hO1,hO2⟩:=hO;dsimp only at*;unfold fH at hw;dsimp only at hw;simp only[List.length_append]at hw;unfold vU;have hbd:tI (fH ⟨ty,im,fn,tb,me,gl,ex,el,co,da⟩, !decide ((fH ⟨ty,im,fn,tb,me,gl,ex,el,co,da⟩).take 8=headB)) 8 true=(bL 1 ty uJ++(bL 2 im jC++(bL 3 fn cB++(bL 4 (gW tb) (fun l=>112::eK l)++(bL 5 (gW me) eK++(bL 6 gl tG++(bL 7 ex mL++(bL 9 el tH++(bL 10 co kA++(bL 11 da vG++ []))))))))),false):=by
  have hsp:fH ⟨ty,im,fn,tb,me,gl,ex,el,co,da⟩=headB++(bL 1 ty uJ++(bL 2 im jC++(bL 3 fn cB++(bL 4 (gW tb) (fun l=>112::eK l)++(bL 5 (gW me) eK++(bL 6 gl tG++(bL 7 ex mL++(bL 9 el tH++(bL 10 co kA++(bL 11 da vG++ [])))))))))):=by
   unfold fH;simp only[List.append_assoc,List.append_nil]
  rw[hsp,show(headB++ _).take 8=headB from List.take_left' rfl,decide_eq_true rfl];exact NL rfl
 rw[hbd];have hfuel:∀(s:St) (m:Md),s.1.length≤(fH ⟨ty,im,fn,tb,me,gl,ex,el,co,da⟩).length→YX ((fH ⟨ty,im,fn,tb,me,gl,ex,el,co,da⟩).length+1) m s=DN m s:=fun s m hs=>yK _ _ _ _ (by omega) (by omega)
 rw[hfuel _ _ (by unfold fH;simp only[List.length_append,List.length_nil];omega)];have hoc:∀c∈co,OkC c:=fun c hc=>⟨(bW hco).2 c hc,hO1 c hc,by
  have h1:=NO (pt:=kA) hc;have h2:(bD co kA).length≤(bL 10 co kA).length:=YZ (by intro e;rw[e]at hc;cases hc);unfold bD at h2;have h3:(bD (bX c.ls) iG++iU c.bd).length≤(kA c).length:=by unfold kA;simp
  rw[List.length_append]at h2;omega⟩
 rw[qN (m':=⟨ty,[],[],HE,HE,[],[],[],[],[]⟩) (fun e=>by rw[e];rfl) (qO (no:=1) (by omega)) (by unfold tF;rw[if_pos rfl,sY aHi (bW hty).2 (by have:=(bW hty).1;omega)];rfl)];rw[qN (m':=⟨ty,im,[],HE,HE,[],[],[],[],[]⟩) (fun e=>by rw[e]) (qO (no:=2) (by omega)) (by unfold tF;rw[if_neg (by decide),if_pos rfl,sY aHj (bW him).2 (by have:=(bW him).1;omega)])];rw[qN (m':=⟨ty,im,fn,HE,HE,[],[],[],[],[]⟩) (fun e=>by rw[e]) (qO (no:=3) (by omega)) (by unfold tF;rw[if_neg (by decide),if_neg (by decide),if_pos rfl,sY aDD (bW hfn).2 (by have:=(bW hfn).1;omega)])];have e4:gW tb=[]→tb=HE:=fun e=>QC htb (by unfold gW at e;cases hh:tb.has;rfl;rw[hh]at e;cases e)
 have e5:gW me=[]→me=HE:=fun e=>QC hme (by unfold gW at e;cases hh:me.has;rfl;rw[hh]at e;cases e)
 rw[qN (m':=⟨ty,im,fn,tb,HE,[],[],[],[],[]⟩) (fun e=>by rw[e4 e]) (qO (no:=4) (by omega)) (by unfold tF;rw[if_neg (by decide),if_neg (by decide),if_neg (by decide),if_pos rfl,aDS (pt:=fun l=>112::eK l) true rfl htb (by decide) (by decide)])];rw[qN (m':=⟨ty,im,fn,tb,me,[],[],[],[],[]⟩) (fun e=>by rw[e5 e]) (qO (no:=5) (by omega)) (by unfold tF;rw[if_neg (by decide),if_neg (by decide),if_neg (by decide),if_neg (by decide),if_pos rfl,aDS (pt:=eK) false rfl hme (by decide) (by decide)])];rw[qN (m':=⟨ty,im,fn,tb,me,gl,[],[],[],[]⟩) (fun e=>by rw[e]) (qO (no:=6) (by omega)) (by unfold tF;rw[if_neg (by decide),if_neg (by decide),if_neg (by decide),if_neg (by decide),if_neg (by decide),if_pos rfl,sY aHl (fun g hg=>⟨(bW hgl).2 g hg,hO2 g hg⟩) (by have:=(bW hgl).1;omega)])];rw[qN (m':=⟨ty,im,fn,tb,me,gl,ex,[],[],[]⟩) (fun e=>by rw[e]) (qO (no:=7) (by omega)) (by unfold tF;rw[if_neg (by decide),if_neg (by decide),if_neg (by decide),if_neg (by decide),if_neg (by decide),if_neg (by decide),if_pos rfl,sY aHk (bW hex).2 (by have:=(bW hex).1;omega)])];rw[qN (m':=⟨ty,im,fn,tb,me,gl,ex,el,[],[]⟩) (fun e=>by rw[e]) (qO (no:=9) (by omega)) (by unfold tF;rw[if_neg (by decide),if_neg (by decide),if_neg (by decide),if_neg (by decide),if_neg (by decide),if_neg (by decide),if_neg (by decide),if_pos rfl,sY aHm (bW hel).2 (by have:=(bW hel).1;omega)])]
 rw[qN (m':=⟨ty,im,fn,tb,me,gl,ex,el,co,[]⟩) (fun e=>by rw[e]) (qO (no:=10) (by omega)) (by unfold tF;rw[if_neg (by decide),if_neg (by decide),if_neg (by decide),if_neg (by decide),if_neg (by decide),if_neg (by decide),if_neg (by decide),if_neg (by decide),if_pos rfl,sY aHh hoc (by have:=(bW hco).1;omega)])];rw[qN (m':=⟨ty,im,fn,tb,me,gl,ex,el,co,da⟩) (fun e=>by rw[e]) (qO (no:=11) (by omega)) (by unfold tF;rw[if_neg (by decide),if_neg (by decide),if_neg (by decide),if_neg (by decide),if_neg (by decide),if_neg (by decide),if_neg (by decide),if_neg (by decide),if_neg (by decide),if_pos rfl,sY aHn (bW hda).2 (by have:=(bW hda).1;omega)])];exact aE8 _
theorem ZB{m:Md}(h:pS m=true)(hO:m.Ok):wW (fH m)=(m,0):=by
 have h1:=ZA h hO;have h2:(fH m).length≤8000:=by
  unfold pS at h;simp only[Bool.and_eq_true,decide_eq_true_eq]at h;exact h.2
 unfold wW;rw[if_neg (by omega),h1,if_neg (by simp),if_pos ⟨h,rfl⟩]
end Go.Proofs.YtjpdadobblffmaaGreat
namespace Go.Proofs.YtjpdadobblffmaaGreat
open Go.RowKit Go.ChangeShapes Go.WideShapes Go.ChangeAt Go.Deep
attribute [local irreducible] SW RS RD gJ fA
theorem UT{l:List Int}{j:Nat}{k:Int}(h:l[j]? =some k):∃(init:List (List Int)) (m:Nat),bX (l.take (j+1))=init++ [List.replicate (m+1) k]∧init.length+1≤j+1∧m+1≤j+1:=by
 have hj:=(List.getElem?_eq_some_iff.1 h).1;obtain⟨h1,h2⟩:=yJ _ (l.take (j+1)) rfl;have hlen:(l.take (j+1)).length=j+1:=by simp;omega
 rw[hlen]at h2;have hr:∀(rs:List (List Int)),(∀r∈rs,∃k m,r=List.replicate (m+1) k∧k∈l.take (j+1)∧m+1≤j+1)→rs.length≤rs.flatten.length:=by
  intro rs
  induction rs with
  |nil=>simp
  |cons r rs ih=>
   intro h;obtain⟨k,m,rfl,-,-⟩:=h r List.mem_cons_self;have:=ih fun r hr=>h r (List.mem_cons_of_mem _ hr)
   simp at this⊢;omega
 have hn:=hr _ h2;rw[h1,hlen]at hn;rcases List.eq_nil_or_concat (bX (l.take (j+1)))with e|⟨init,r,e⟩
 ·rw[e]at h1;have:=congrArg List.length h1;rw[hlen]at this;simp at this
 ·rw[List.concat_eq_append]at e;rw[e]at h1 h2 hn;obtain⟨k',m,rfl,-,hm⟩:=h2 r (by simp);have hk:k'=k:=by
   have e2:=congrArg (fun t=>t[j]?) h1;rw[List.take_add_one,h]at h1;rw[List.flatten_append,List.replicate_succ']at h1;simp only[List.flatten_cons,List.flatten_nil,List.append_nil,Option.toList,←List.append_assoc]at h1;exact(List.append_inj' h1 rfl).2|>List.cons.inj|>.1
  subst hk;exact⟨init,m,e,by simpa using hn,hm⟩
theorem HJ{l:List Int}{j:Nat}{x:Int}{init:List (List Int)}{m:Nat}(h:bX (l.take j)=init++ [List.replicate (m+1) x])(hx:l[j]? =some x):bX (l.take (j+1))=init++ [List.replicate (m+1) x++ [x]]:=by
 rw[List.take_add_one,hx];show bX (l.take j++ [x])=_;rw[zQ,h,List.getLast?_append];simp[List.replicate_succ]
theorem NP{l:List Int}{j:Nat}{x k:Int}{init:List (List Int)}{m:Nat}(h:bX (l.take j)=init++ [List.replicate (m+1) k])(hx:l[j]? =some x)(hk:k≠x):bX (l.take (j+1))=init++ [List.replicate (m+1) k]++ [[x]]:=by
 rw[List.take_add_one,hx];show bX (l.take j++ [x])=_;rw[zQ,h,List.getLast?_append];simp[List.replicate_succ,hk]
theorem NQ{l:List Int}{x:Int}(hx:l[0]? =some x):bX (l.take 1)=[[x]]:=by
 rw[List.take_add_one,hx];rfl
theorem DH{r:List Int}(h:r.length≤1000):(iG r).length≤3:=by
 have:=bN 1 r.length (by omega);unfold iG cB;rw[List.length_append,mX,Int.toNat_natCast];omega
theorem aHw(q:Nat)(vs:List Nat)(hvs:vs.length≤10000000)(r:List Int)(h1:0<r.length)(h2:r.length≤1000):SCall Tryz.prog 247 [.own q 0 vs.length,.ro 1 (r.map aX) .any] [(q,.arr 5 1 (vs.map aH))]
  (fun y σ=>∃p,y=.own p 0 (vs++iG r).length∧σ=[(p,.arr 5 1 ((vs++iG r).map aH))]):=by
 have hu:=bN 1 r.length (by omega);obtain⟨k,hk⟩:∃k,r[(0:Int).toNat]? =some k:=⟨_,List.getElem?_eq_getElem (by simpa using h1)⟩
 refine cC 13 [0,1,4] Tryz.func247 ?_;refine bQ ?_;refine gI [(0,true),(1,true),(2,true),(4,true),(5,true),(6,true),(3,false),(7,false),(8,true)] ?_;refine xN ?_;refine MJ ?_;refine MC ?_;refine LD ?_;refine qT [(q,.arr 5 1 (vs.map aH))] rfl Tryz.call135 (eH q vs (by omega) r.length (by omega)) rfl aC aA gE ?_;rintro _ σ' ⟨r8,rfl,rfl⟩ h8;have k8:=bC h8;repeat rcases k8 with⟨_,k8⟩
 apply bZ;(exact bF);refine qT [(r8,.arr 5 1 ((vs++uB r.length).map aH))] rfl Tryz.call132 (sE r8 (vs++uB r.length) (by simp;omega) k) rfl aC aA gE ?_;rintro _ σ' ⟨r12,rfl,rfl⟩ h12;have k12:=bC h12;repeat rcases k12 with⟨_,k12⟩
 refine sL ?_;rw[show vs++uB r.length++kB k=vs++iG r by unfold iG cB;rw[Int.toNat_natCast,List.append_assoc,show r.headD 0=k by cases r with|nil=>simp at h1|cons a t=>simpa using hk]];apply aF;exact aG
 ·exact⟨r12,rfl,rfl⟩
 ·exact aA
theorem NR:iV Tryz.prog 5 247 (fun r:List Int=>.ro 1 (r.map aX) .any) iG (fun r=>0<r.length∧r.length≤1000) 3 9000000:=
 ⟨Tryz.call247,fun q vs x h _ hvs=>⟨DH h.2,aHw q vs (by omega) x h.1 h.2⟩⟩
def wX (R q q0 r3:Nat) (vs:List Nat) (ls:List Int) (bd:List Ins) (init:List (List Int)) (last:List Int) (j:Nat):ASt:=
 ⟨[(0,.own q0 0 vs.length),(3,.ptr r3 0),(5,.own R 0 (init.length+1)),(10,.ro 1 (ls.map aX) .any),(11,.int .i64 ls.length),(12,.int .i64 j)],
  [(R,.arr 24 1 (init.map kM++ [[.own q 0 last.length]])),(q,.arr 3 1 (last.map aX)),(r3,.box 44 [.ro 1 (ls.map aX) .any,.ro 4 (bd.map (iv .any)) .any]),(q0,.arr 5 1 (vs.map aH))]⟩
def JZ (R q0 r3:Nat) (vs:List Nat) (ls:List Int) (bd:List Ins):ASt:=
 ⟨[(0,.own q0 0 vs.length),(3,.ptr r3 0),(5,.own R 0 0),(10,.ro 1 (ls.map aX) .any),(11,.int .i64 ls.length),(12,.int .i64 (0:Nat))],
  [(R,.arr 24 1 []),(r3,.box 44 [.ro 1 (ls.map aX) .any,.ro 4 (bd.map (iv .any)) .any]),(q0,.arr 5 1 (vs.map aH))]⟩
structure RS_ where
 R:Nat
 q:Nat
 init:List (List Int)
 k:Int
 m:Nat
 j:Nat
def rSt (q0 r3:Nat) (vs:List Nat) (ls:List Int) (bd:List Ins):Sum Nat RS_→ASt
 | .inl R=>JZ R q0 r3 vs ls bd
 | .inr s=>wX s.R s.q q0 r3 vs ls bd s.init (List.replicate (s.m+1) s.k) (s.j+1)
def rOk (q0 r3:Nat) (ls:List Int):Sum Nat RS_→Prop
 | .inl R=>Nq R r3∧Nq R q0
 | .inr s=>((Nq s.R s.q∧Nq s.R r3∧Nq s.R q0)∧Nq s.q r3∧Nq s.q q0)∧(s.init.length≤s.j∧s.m≤s.j)∧ls[s.j]? =some s.k∧bX (ls.take (s.j+1))=s.init++ [List.replicate (s.m+1) s.k]
def rMs (ls:List Int):Sum Nat RS_→Nat
 | .inl _=>ls.length
 | .inr s=>ls.length-(s.j+1)
theorem rI{l:List (List AV)}{x:List AV}{n:Nat}(h:n=l.length):(l++ [x])[(((n+1:Nat):Int)-1).toNat]? =some x:=by
 subst h;rw[show(((l.length+1:Nat):Int)-1).toNat=l.length by omega];simp
theorem HK{l:List (List AV)}{x y:List AV}{n:Nat}(h:n=l.length):(l++ [x]).set (((n+1:Nat):Int)-1).toNat y=l++ [y]:=by
 subst h;rw[show(((l.length+1:Nat):Int)-1).toNat=l.length by omega,List.set_append,if_neg (by omega)];simp
theorem NS{σ:dY}{q:Nat}{et:TypeId}{init:List (List Int)}{last:List Int}(hg:gU σ q=some (.arr et 1 (last.map aX))):∀(i:Nat) (x x':List AV),(init.map kM++ [[AV.own q 0 last.length]])[i]? =some x→((init++ [last]).map kM)[i]? =some x'→BorL σ [q] x x':=by
 intro i x x' h1 h2;rw[List.map_append]at h2;rcases Nat.lt_or_ge i (init.map kM).length with hlt|hge
 ·rw[List.getElem?_append_left hlt]at h1 h2;obtain rfl:=Option.some.inj (h1.symm.trans h2);obtain⟨r,-,rfl⟩:=List.mem_map.1 (List.mem_of_getElem? h1);exact .cons (.refl _) .nil
 ·rw[List.getElem?_append_right hge]at h1 h2;cases hi:i-(init.map kM).length with
  |zero=>
   rw[hi]at h1 h2;cases h1;cases h2
   exact .cons (aR hg (by simp)) .nil
  |succ n=>rw[hi]at h1;cases h1
theorem HL(rs:List (List Int)):iT 1 (rs.map kM):=by
 intro x hx;obtain⟨r,-,rfl⟩:=List.mem_map.1 hx;exact⟨rfl,by simp[kM,AV.cell]⟩
theorem NT(l:List Int)(hl:l.length≤32):(∀r∈bX l,0<r.length∧r.length≤1000)∧(bX l).length≤32∧(bD (bX l) iG).length≤98:=by
 obtain⟨h1,h2⟩:=yJ _ l rfl;have hr:∀(rs:List (List Int)),(∀r∈rs,∃k m,r=List.replicate (m+1) k∧k∈l∧m+1≤l.length)→rs.length≤rs.flatten.length:=by
  intro rs
  induction rs with
  |nil=>simp
  |cons r rs ih=>
   intro h;obtain⟨k,m,rfl,-,-⟩:=h r List.mem_cons_self;have:=ih fun r hr=>h r (List.mem_cons_of_mem _ hr)
   simp at this⊢;omega
 have hn:=hr _ h2;rw[h1]at hn;have h3:∀r∈bX l,0<r.length∧r.length≤1000:=fun r hr=>by
  obtain⟨k,m,rfl,-,hm⟩:=h2 r hr;simp;omega
 have:=lF (pt:=iG) (l:=bX l) (c:=3) (fun r hr=>DH (h3 r hr).2) (by omega);exact⟨h3,by omega,by omega⟩
theorem aJb(q0:Nat)(vs:List Nat)(hvs:vs.length≤9000000)(ls:List Int)(bd:List Ins)(hl:ls.length≤32)(hb:bd.length≤300)(hm:∀x∈bd,x.Ok∧dC x=true):SCall Tryz.prog 151 [.own q0 0 vs.length,.agg (eS ⟨ls,bd⟩)] [(q0,.arr 5 1 (vs.map aH))]
  (fun y σ=>∃p,y=.own p 0 (vs++kA ⟨ls,bd⟩).length∧σ=[(p,.arr 5 1 ((vs++kA ⟨ls,bd⟩).map aH))]):=by
 obtain⟨hv1,hv2,hv3⟩:=NT ls hl;have hpl:=yB hm;have hub:=bN 4 (bD (bX ls) iG++iU bd).length (by simp;omega);refine cC 61 [0,1,3,4,5,6,7,8,10,11,12,13,28] Tryz.func151 ?_;unfold eS;dsimp only;refine dW ?_;apply bx;rfl;rfl;(exact dM);rfl;refine aD fun r3 h3=> ?_;repeat rcases h3 with⟨_,h3⟩
 refine kY ?_;refine dG ?_;refine bU 5 24 1 (by decide) rfl (by decide) (aD fun R0 hR0=> ?_);repeat rcases hR0 with⟨_,hR0⟩
 refine kZ ?_;refine nI ?_;refine lp (β:=Sum Nat RS_) (rSt q0 r3 vs ls bd) (rOk q0 r3 ls) (rMs ls) (.inl R0) (by unfold rSt JZ;(exact aK)) (by unfold rOk;exact⟨by(exact cF),by(exact cF)⟩) ?_;intro st hst;refine aP ?_;rcases st with R|⟨R,q,init,k,m,j⟩
 ·obtain⟨hR1,hR2⟩:=hst;unfold rSt JZ;refine BG ?_;refine xM ?_;refine aB rfl (fun g3=> ?_) (fun g3=> ?_)
  ·obtain⟨x,hx⟩:∃x,ls[0]? =some x:=⟨_,List.getElem?_eq_getElem (by simp at g3;omega)⟩
   have h0:0<ls.length:=(List.getElem?_eq_some_iff.1 hx).1;have hx':ls[(((0:Nat)):Int).toNat]? =some x:=hx;refine dX ?_;refine qY ?_;refine mN ?_;refine lo (lE (E rfl) (E rfl)) rfl ?_;rw[show decide ((0:Int)<((0:Nat):Int))=false from rfl];refine qZ ?_;refine aEk ?_;refine AP ?_;refine AQ ?_;refine qV ?_;refine aEm ?_;refine tW ?_;refine mK ?_;refine z1 ?_;refine aD fun r45 h45=> ?_;repeat rcases h45 with⟨_,h45⟩
   refine z1 ?_;refine aD fun r46 h46=> ?_;repeat rcases h46 with⟨_,h46⟩
   refine jY [[AV.own r45 0 1]] 1 ?_;refine bM fun r47 h47=> ?_;repeat rcases h47 with⟨_,h47⟩
   refine kY ?_;refine aBl ?_;refine⟨.inr ⟨r47,r45,[],x,0,0⟩,⟨⟨⟨by show Nq r47 r45;(exact cF),by show Nq r47 r3;(exact cF),by show Nq r47 q0;(exact cF)⟩,by show Nq r45 r3;(exact cF),by show Nq r45 q0;(exact cF)⟩,⟨Nat.zero_le _,Nat.le_refl _⟩,hx,NQ hx⟩,by show ls.length-(0+1)<ls.length;have:=(List.getElem?_eq_some_iff.1 hx).1;omega, ?_⟩;dsimp only;unfold wX;exact aK
  have hls:ls=[]:=by cases ls with|nil=>rfl|cons a t=>simp at g3
  refine YD (j:=5) (v':=.ro 1 ((bX ls).map kM) .any) rfl bP (by rw[hls];exact aR bH rfl) ?_;refine dX ?_;refine cw [] Tryz.call246 (NG NR (by decide) (bX ls) hv1 (by omega) (by omega)) rfl aC aA ?_;rintro _ σ' ⟨r50,rfl,rfl⟩ h50
  replace h50:=iC h50;repeat rcases h50 with⟨_,h50⟩
  refine eP ?_;refine kL ?_;refine cw [(r50,.arr 5 1 ((bD (bX ls) iG).map aH))] Tryz.call248 (NA r50 (bD (bX ls) iG) (by omega) bd (by omega) hm) rfl aC aA ?_;rintro _ σ' ⟨r54,rfl,rfl⟩ h54;have k54:=bC h54;repeat rcases k54 with⟨_,k54⟩
  refine eP ?_;have hPl:(bD (bX ls) iG++iU bd).length≤61000:=by simp;omega
  have hcd:kA ⟨ls,bd⟩=uB (bD (bX ls) iG++iU bd).length++(bD (bX ls) iG++iU bd):=rfl;rw[hcd];generalize bD (bX ls) iG++iU bd=P at hPl hub⊢;refine mK ?_;refine lU ?_;refine cw [(q0,.arr 5 1 (vs.map aH))] Tryz.call135 (eH q0 vs (by omega) P.length (by omega)) rfl aC aA ?_;rintro _ σ' ⟨r58,rfl,rfl⟩ h58;have k58:=bC h58;repeat rcases k58 with⟨_,k58⟩
  refine wK ?_;refine jY ((vs++uB P.length++P).map aH) (vs++uB P.length++P).length ?_;refine bM fun r60 h60=> ?_;repeat rcases h60 with⟨_,h60⟩
  refine dG ?_;rw[List.append_assoc];apply aF;exact aG
  ·exact⟨r60,rfl,rfl⟩
  ·exact aA
 ·obtain⟨⟨⟨hq1,hq2,hq3⟩,hq4,hq5⟩,⟨hij,hmj⟩,hkj,hru⟩:=hst;dsimp only at hq1 hq2 hq3 hq4 hq5 hkj hru hij hmj;have hrl:(List.replicate (m+1) k).length=m+1:=List.length_replicate;unfold rSt wX;dsimp only;refine BG ?_;refine xM ?_;refine aB rfl (fun g3=> ?_) (fun g3=> ?_)
  ·have hlt:j+1<ls.length:=by simp at g3;omega
   obtain⟨x,hx⟩:∃x,ls[j+1]? =some x:=⟨_,List.getElem?_eq_getElem hlt⟩
   have hkj':ls[(((j+1:Nat):Int)-1).toNat]? =some k:=by rw[show(((j+1:Nat):Int)-1).toNat=j by omega];exact hkj
   refine dX ?_;refine qY ?_;refine mN ?_;refine lo (lE (E rfl) (E rfl)) rfl ?_;refine qZ ?_;refine aEk ?_;refine AP ?_;refine AQ ?_;refine qV ?_;refine aEm ?_;refine tW ?_;refine aB rfl (fun g5=> ?_) (fun g5=> ?_)
   ·obtain rfl:k=x:=by simpa using g5
    have hel:=rI (l:=init.map kM) (x:=[AV.own q 0 (List.replicate (m+1) k).length]) (n:=init.length) (by simp);have hsn:=HJ hru hx;refine cL ?_;refine lU ?_;refine rP ?_;refine PM ?_;refine lU ?_;refine rP ?_;refine qY ?_;refine lo (aI (E rfl)) rfl ?_;refine z1 ?_;refine aD fun r40 h40=> ?_;repeat rcases h40 with⟨_,h40⟩
    refine jY ((List.replicate (m+1) k++ [k]).map aX) (List.replicate (m+1) k++ [k]).length ?_;refine bM fun r41 h41=> ?_;repeat rcases h41 with⟨_,h41⟩
    refine VZ ?_;refine PG ?_;refine jP ?_;have hse:=fun y=>HK (l:=init.map kM) (x:=[AV.own q 0 (List.replicate (m+1) k).length]) (y:=y) (n:=init.length) (by simp)
    rw[hse];refine MH ?_;first|(refine⟨.inr ⟨R,r41,init,k,m+1,j+1⟩,⟨⟨⟨by show Nq R r41;(exact cF),hq2,hq3⟩,by show Nq r41 r3;(exact cF),by show Nq r41 q0;(exact cF)⟩,⟨by show init.length≤j+1;omega,by show m+1≤j+1;omega⟩,hx,by rw[List.replicate_succ'];exact hsn⟩,by show ls.length-(j+1+1)<ls.length-(j+1);omega, ?_⟩;dsimp only;(try unfold wX);(try dsimp only);rw[List.replicate_succ' (n:=m+1)];(exact aK))|(refine⟨.inr ⟨r47,r45,init++ [List.replicate (m+1) k],x,0,j+1⟩,⟨⟨⟨by show Nq r47 r45;(exact cF),by show Nq r47 r3;(exact cF),by show Nq r47 q0;(exact cF)⟩,by show Nq r45 r3;(exact cF),by show Nq r45 q0;(exact cF)⟩,⟨by show(init++ [List.replicate (m+1) k]).length≤j+1;simp;omega,Nat.zero_le _⟩,hx,hsn⟩,by show ls.length-(j+1+1)<ls.length-(j+1);omega, ?_⟩;dsimp only;(try unfold wX);(try dsimp only);rw[show(init++ [List.replicate (m+1) k]).length=init.length+1 by simp];(exact aK))
   have hkx:k≠x:=by intro e;subst e;simp at g5
   have hsn:=NP hru hx hkx;refine eU (SA (r:=R) (q:=q) (es':=(init++ [List.replicate (m+1) k]).map kM) cZ bP (by simp) (HL _) (NS bH)) ?_;refine cL ?_;refine z1 ?_;refine aD fun r45 h45=> ?_;repeat rcases h45 with⟨_,h45⟩
   refine z1 ?_;refine aD fun r46 h46=> ?_;repeat rcases h46 with⟨_,h46⟩
   refine jY ((init++ [List.replicate (m+1) k]).map kM++ [[AV.own r45 0 1]]) (init.length+1+1) ?_ (hby:=by omega);refine bM fun r47 h47=> ?_;repeat rcases h47 with⟨_,h47⟩
   refine kY ?_;refine aBl ?_;first|(refine⟨.inr ⟨R,r41,init,k,m+1,j+1⟩,⟨⟨⟨by show Nq R r41;(exact cF),hq2,hq3⟩,by show Nq r41 r3;(exact cF),by show Nq r41 q0;(exact cF)⟩,⟨by show init.length≤j+1;omega,by show m+1≤j+1;omega⟩,hx,by rw[List.replicate_succ'];exact hsn⟩,by show ls.length-(j+1+1)<ls.length-(j+1);omega, ?_⟩;dsimp only;(try unfold wX);(try dsimp only);rw[List.replicate_succ' (n:=m+1)];(exact aK))|(refine⟨.inr ⟨r47,r45,init++ [List.replicate (m+1) k],x,0,j+1⟩,⟨⟨⟨by show Nq r47 r45;(exact cF),by show Nq r47 r3;(exact cF),by show Nq r47 q0;(exact cF)⟩,by show Nq r45 r3;(exact cF),by show Nq r45 q0;(exact cF)⟩,⟨by show(init++ [List.replicate (m+1) k]).length≤j+1;simp;omega,Nat.zero_le _⟩,hx,hsn⟩,by show ls.length-(j+1+1)<ls.length-(j+1);omega, ?_⟩;dsimp only;(try unfold wX);(try dsimp only);rw[show(init++ [List.replicate (m+1) k]).length=init.length+1 by simp];(exact aK))
  have hjl:j+1=ls.length:=by have:=(List.getElem?_eq_some_iff.1 hkj).1;simp at g3;omega
  rw[hjl,List.take_length]at hru;refine eU (SA (r:=R) (q:=q) (es':=(bX ls).map kM) cZ bP (by rw[hru];simp) (HL _) (by rw[hru];exact NS bH)) ?_;refine YD (j:=5) (v':=.ro 1 ((bX ls).map kM) .any) rfl bP (aR bH (by rw[hru];simp)) ?_;refine dX ?_;refine cw [] Tryz.call246 (NG NR (by decide) (bX ls) hv1 (by omega) (by omega)) rfl aC aA ?_;rintro _ σ' ⟨r50,rfl,rfl⟩ h50
  replace h50:=iC h50;repeat rcases h50 with⟨_,h50⟩
  refine eP ?_;refine kL ?_;refine cw [(r50,.arr 5 1 ((bD (bX ls) iG).map aH))] Tryz.call248 (NA r50 (bD (bX ls) iG) (by omega) bd (by omega) hm) rfl aC aA ?_;rintro _ σ' ⟨r54,rfl,rfl⟩ h54;have k54:=bC h54;repeat rcases k54 with⟨_,k54⟩
  refine eP ?_;have hPl:(bD (bX ls) iG++iU bd).length≤61000:=by simp;omega
  have hcd:kA ⟨ls,bd⟩=uB (bD (bX ls) iG++iU bd).length++(bD (bX ls) iG++iU bd):=rfl;rw[hcd];generalize bD (bX ls) iG++iU bd=P at hPl hub⊢;refine mK ?_;refine lU ?_;refine cw [(q0,.arr 5 1 (vs.map aH))] Tryz.call135 (eH q0 vs (by omega) P.length (by omega)) rfl aC aA ?_;rintro _ σ' ⟨r58,rfl,rfl⟩ h58;have k58:=bC h58;repeat rcases k58 with⟨_,k58⟩
  refine wK ?_;refine jY ((vs++uB P.length++P).map aH) (vs++uB P.length++P).length ?_;refine bM fun r60 h60=> ?_;repeat rcases h60 with⟨_,h60⟩
  refine dG ?_;rw[List.append_assoc];apply aF;exact aG
  ·exact⟨r60,rfl,rfl⟩
  ·exact aA
theorem SN:iV Tryz.prog 5 151 (fun x=>.agg (eS x)) kA (fun c=>sA c=true∧∀x∈c.bd,x.Ok) 61000 9000000:=
 ⟨Tryz.call151,fun q vs x h _ hvs=>by
  obtain⟨ls,bd⟩:=x;obtain⟨h,hO⟩:=h;unfold sA at h;simp only[Bool.and_eq_true]at h;obtain⟨⟨h1,h2⟩,h3⟩:=h;obtain⟨k1,k2⟩:=bW h2;obtain⟨k3,k4⟩:=bW h3;have hm:∀x∈bd,x.Ok∧dC x=true:=fun x hx=>⟨hO x hx,k4 x hx⟩
  obtain⟨hv1,hv2,hv3⟩:=NT ls (by omega);have hpl:=yB hm;have hb:bd.length≤300:=by omega
  have hub:=bN 4 (bD (bX ls) iG++iU bd).length (by simp;omega);exact⟨by unfold kA;simp at hub⊢;omega,aJb q vs hvs ls bd (by omega) hb hm⟩⟩
theorem oK{P:Program}{t8:TypeId}{f:FuncId}{α:Type}{ar:α→AV}{pt:α→List Nat}{ok:α→Prop}{c B:Nat}(hf:iV P t8 f ar pt ok c B)(hB:1≤B){l:List α}(hl:∀x∈l,ok x)(hn:l.length≤16)(hc:c≤100000)(no:Nat):(bL no l pt).length≤10+16*c:=by
 have h1:=lF (pt:=pt) (l:=l) (c:=c) (fun x hx=>(hf.2 0 [0] x (hl x hx) (by simp) hB).1) (by omega);have h2:l.length*c≤16*c:=Nat.mul_le_mul_right c hn;have h3:=bN 4 (bD l pt).length (by omega);unfold bL;split
 ·simp
 ·simp;omega
def pT (m:Md):Bool:=(m.co.length==m.fn.length&&cP m.co 16 sA)&&pE m&&lC m.tb 16 1000&&lC m.me 16 65536
theorem vJ(m:Md):pS m=(pT m&&decide ((fH m).length≤8000)):=rfl
theorem KA{l:Li}{a c:Int}(h:lC l a c=true)(ha:a≤100000)(hc:c≤100000):(∀x∈gW l,NJ x)∧(gW l).length≤1:=by
 obtain⟨has,mn,mx⟩:=l;cases has with
 |false=>exact⟨by simp[gW],by simp[gW]⟩
 |true=>
  unfold lC at h;simp only[if_true,Bool.and_eq_true,decide_eq_true_eq]at h;refine⟨fun x hx=> ?_,by simp[gW]⟩;obtain rfl:x=⟨true,mn,mx⟩:=by simpa[gW]using hx
  unfold NJ;dsimp only;omega
theorem yL(m:Md)(h:pT m=true)(hO:m.Ok):SCall Tryz.prog 56 [.agg (cK m)] [] (fun y σ=>∃r,y=.own r 0 (fH m).length∧σ=[(r,.arr 5 1 ((fH m).map aH))]):=by
 obtain⟨ty,im,fn,tb,me,gl,ex,el,co,da⟩:=m;unfold pT at h;simp only[Bool.and_eq_true]at h;obtain⟨⟨⟨⟨-,hco⟩,hls⟩,htb⟩,hme⟩:=h;unfold pE at hls;simp only[Bool.and_eq_true]at hls;obtain⟨⟨⟨⟨⟨⟨hty,him⟩,hfn⟩,hgl⟩,hex⟩,hel⟩,hda⟩:=hls;obtain⟨hO1,hO2⟩:=hO;dsimp only at*;obtain⟨a1,a2⟩:=bW hty;obtain⟨b1,b2⟩:=bW him;obtain⟨c1,c2⟩:=bW hfn;obtain⟨d1,d2⟩:=bW hgl;obtain⟨e1,e2⟩:=bW hex;obtain⟨f1,f2⟩:=bW hel;obtain⟨g1,g2⟩:=bW hda;obtain⟨i1,i2⟩:=bW hco;obtain⟨t2,t1⟩:=KA htb (by decide) (by decide);obtain⟨u2,u1⟩:=KA hme (by decide) (by decide);have d2':∀g∈gl,lW g.kd g.n=true∧ -9223372036854775808≤g.n∧g.n≤9223372036854775807:=fun g hg=>⟨d2 g hg,hO2 g hg⟩
 have i2':∀c∈co,sA c=true∧∀x∈c.bd,x.Ok:=fun c hc=>⟨i2 c hc,hO1 c hc⟩
 have L1:=oK SC (by decide) a2 (by omega) (by decide) 1;have L2:=oK SD (by decide) b2 (by omega) (by decide) 2;have L3:=oK DF (by decide) c2 (by omega) (by decide) 3;have L4:=oK SG (by decide) t2 (by omega) (by decide) 4;have L5:=oK SF (by decide) u2 (by omega) (by decide) 5;have L6:=oK SI (by decide) d2' (by omega) (by decide) 6;have L7:=oK SE (by decide) e2 (by omega) (by decide) 7;have L9:=oK SH (by decide) f2 (by omega) (by decide) 9;have L10:=oK SN (by decide) i2' (by omega) (by decide) 10;have hW:fH ⟨ty,im,fn,tb,me,gl,ex,el,co,da⟩=headB++bL 1 ty uJ++bL 2 im jC++bL 3 fn cB++bL 4 (gW tb) (fun l=>112::eK l)++bL 5 (gW me) eK++bL 6 gl tG++bL 7 ex mL++bL 9 el tH++bL 10 co kA++bL 11 da vG:=rfl;rw[hW];have hH:headB.length=8:=rfl;refine cC 48 [0,1,2,3] Tryz.func56 ?_;unfold cK;dsimp only;refine dW ?_;apply bx;rfl;rfl;(exact dM);rfl;refine aD fun r1 h1=> ?_;repeat rcases h1 with⟨_,h1⟩
 refine kY ?_;refine z1 ?_;refine aD fun r4 h4=> ?_;repeat rcases h4 with⟨_,h4⟩
 refine cvm (len:=8) cZ (by decide) ?_;refine dG ?_;rw[show([[.int .u8 0],[.int .u8 97],[.int .u8 115],[.int .u8 109],[.int .u8 1],[.int .u8 0],[.int .u8 0],[.int .u8 0]]:List (List AV))=headB.map aH from rfl,show AV.own r4 0 8=AV.own r4 0 headB.length from rfl];refine kL ?_;refine cw [(r4,.arr 5 1 (headB.map aH))] Tryz.call129 (aE0 SC (by decide) r4 headB 1 (by decide) ty a2 (by omega) (by omega) (by omega)) rfl aC aA ?_;rintro _ σ' ⟨r9,rfl,rfl⟩ h9;have k9:=bC h9;repeat rcases k9 with⟨_,k9⟩
 refine eP ?_;generalize bL 1 ty uJ=S1 at L1⊢;refine kL ?_;refine cw [(r9,.arr 5 1 ((headB++S1).map aH))] Tryz.call133 (aE1 SD (by decide) r9 (headB++S1) 2 (by decide) im b2 (by omega) (by simp;omega) (by omega)) rfl aC aA ?_;rintro _ σ' ⟨r13,rfl,rfl⟩ h13;have k13:=bC h13;repeat rcases k13 with⟨_,k13⟩
 refine eP ?_;generalize bL 2 im jC=S2 at L2⊢;refine kL ?_;refine cw [(r13,.arr 5 1 ((headB++S1++S2).map aH))] Tryz.call137 (aBZ DF (by decide) r13 (headB++S1++S2) 3 (by decide) fn c2 (by omega) (by simp;omega) (by omega)) rfl aC aA ?_;rintro _ σ' ⟨r17,rfl,rfl⟩ h17;have k17:=bC h17;repeat rcases k17 with⟨_,k17⟩
 refine eP ?_;generalize bL 3 fn cB=S3 at L3⊢;refine gK ?_;refine wI ?_;refine oV ?_;refine cw [] Tryz.call139 (NH tb) rfl aC aA ?_;rintro _ σ' ⟨q21,rfl,rfl⟩ h21
 replace h21:=iC h21;repeat rcases h21 with⟨_,h21⟩
 apply aT;(exact bF);refine jB (j:=21) rfl bP (aR bH (by simp)) ?_;refine cw [(r17,.arr 5 1 ((headB++S1++S2++S3).map aH))] Tryz.call138 (YS SG (by decide) r17 (headB++S1++S2++S3) 4 (by decide) (gW tb) t2 (by omega) (by simp;omega) (by omega)) rfl aC aA ?_;rintro _ σ' ⟨r22,rfl,rfl⟩ h22;have k22:=bC h22;repeat rcases k22 with⟨_,k22⟩
 refine eP ?_;generalize bL 4 (gW tb) (fun l=>112::eK l)=S4 at L4⊢;refine gK ?_;refine wI ?_;refine oV ?_;refine cw [] Tryz.call139 (NH me) rfl aC aA ?_;rintro _ σ' ⟨q26,rfl,rfl⟩ h26
 replace h26:=iC h26;repeat rcases h26 with⟨_,h26⟩
 apply aT;(exact bF);refine jB (j:=26) rfl bP (aR bH (by simp)) ?_;refine cw [(r22,.arr 5 1 ((headB++S1++S2++S3++S4).map aH))] Tryz.call138 (YS SF (by decide) r22 (headB++S1++S2++S3++S4) 5 (by decide) (gW me) u2 (by omega) (by simp;omega) (by omega)) rfl aC aA ?_;rintro _ σ' ⟨r27,rfl,rfl⟩ h27;have k27:=bC h27;repeat rcases k27 with⟨_,k27⟩
 refine eP ?_;generalize bL 5 (gW me) eK=S5 at L5⊢;refine kL ?_;refine cw [(r27,.arr 5 1 ((headB++S1++S2++S3++S4++S5).map aH))] Tryz.call142 (aE2 SI (by decide) r27 (headB++S1++S2++S3++S4++S5) 6 (by decide) gl d2' (by omega) (by simp;omega) (by omega)) rfl aC aA ?_;rintro _ σ' ⟨r31,rfl,rfl⟩ h31;have k31:=bC h31;repeat rcases k31 with⟨_,k31⟩
 refine eP ?_;generalize bL 6 gl tG=S6 at L6⊢;refine kL ?_;refine cw [(r31,.arr 5 1 ((headB++S1++S2++S3++S4++S5++S6).map aH))] Tryz.call145 (aE3 SE (by decide) r31 (headB++S1++S2++S3++S4++S5++S6) 7 (by decide) ex e2 (by omega) (by simp;omega) (by omega)) rfl aC aA ?_;rintro _ σ' ⟨r35,rfl,rfl⟩ h35;have k35:=bC h35;repeat rcases k35 with⟨_,k35⟩
 refine eP ?_;generalize bL 7 ex mL=S7 at L7⊢;refine kL ?_;refine cw [(r35,.arr 5 1 ((headB++S1++S2++S3++S4++S5++S6++S7).map aH))] Tryz.call147 (aE4 SH (by decide) r35 (headB++S1++S2++S3++S4++S5++S6++S7) 9 (by decide) el f2 (by omega) (by simp;omega) (by omega)) rfl aC aA ?_;rintro _ σ' ⟨r39,rfl,rfl⟩ h39;have k39:=bC h39;repeat rcases k39 with⟨_,k39⟩
 refine eP ?_;generalize bL 9 el tH=S9 at L9⊢;refine kL ?_;refine cw [(r39,.arr 5 1 ((headB++S1++S2++S3++S4++S5++S6++S7++S9).map aH))] Tryz.call150 (aE5 SN (by decide) r39 (headB++S1++S2++S3++S4++S5++S6++S7++S9) 10 (by decide) co i2' (by omega) (by simp;omega) (by omega)) rfl aC aA ?_;rintro _ σ' ⟨r43,rfl,rfl⟩ h43;have k43:=bC h43;repeat rcases k43 with⟨_,k43⟩
 refine eP ?_;generalize bL 10 co kA=S10 at L10⊢;refine kL ?_;refine cw [(r43,.arr 5 1 ((headB++S1++S2++S3++S4++S5++S6++S7++S9++S10).map aH))] Tryz.call152 (aE6 aB0 (by decide) r43 (headB++S1++S2++S3++S4++S5++S6++S7++S9++S10) 11 (by decide) da g2 (by omega) (by simp;omega) (by omega)) rfl aC aA ?_;rintro _ σ' ⟨r47,rfl,rfl⟩ h47;have k47:=bC h47;repeat rcases k47 with⟨_,k47⟩
 refine eP ?_;apply aF;exact aG
 ·exact⟨r47,rfl,rfl⟩
 ·exact aA
def fO (m:Md) (lv:AV) (p q:Nat) (vs:List Int) (cs:List Ct) (b:Bool):List AV:=[.ro 2 (m.ty.map eF) .any,.ro 3 (m.im.map fT) .any,.ro 1 (m.fn.map aX) .any,.bool m.tb.has,.int .i64 m.tb.mn,.int .i64 m.tb.mx,.bool m.me.has,.int .i64 m.me.mn,.int .i64 m.me.mx,
 .ro 3 (m.gl.map fP) .any,.ro 2 (m.ex.map fQ) .any,.ro 2 (m.el.map fK) .any,.ro 2 (m.co.map eS) .any,.ro 2 (m.da.map fL) .any,lv,.own p 0 vs.length,.own q 0 cs.length,.bool b]
def cI (r p q:Nat) (m:Md) (lv:AV) (s:PS):dY:=[(r,.box 128 (fO m lv p q s.vs s.cs s.bad)),(p,.arr 3 1 (s.vs.map aX)),(q,.arr 137 4 (s.cs.map lR))]
structure PS.Gd (s:PS):Prop extends s.Ok where
 bv:s.vs.length≤1000000
 bc:s.cs.length≤1000000
theorem PS.Gd.need {s:PS}(h:s.Gd)(b:Bool):(dB s b).Gd:=⟨h.toOk.need b,h.bv,h.bc⟩
theorem PS.Gd.pop {s:PS}(h:s.Gd)(w:Int):(cQ s w).2.Gd:=⟨h.toOk.pop w,Nat.le_trans (sD s w) h.bv,by rw[wU];exact h.bc⟩
theorem PS.Gd.pops {s:PS}(h:s.Gd)(ks:List Int):(dL s ks).Gd:=⟨h.toOk.pops ks,Nat.le_trans (nN s ks) h.bv,by rw[oH];exact h.bc⟩
def Nm (r p q:Nat):Prop:=Nq p r∧Nq q r∧Nq q p
theorem cA{P:Prop}(h:P:=by(try unfold cI fO);(try dsimp only);exact aA):P:=h
theorem ZC{P:Prop}(h:P:=by(try unfold cI fO);(try dsimp only);exact gE):P:=h
section
variable {r p q : Nat} {m : Md} {lv : AV}
theorem jZ(hN:Nm r p q)(s:PS)(ok:Bool):SCall Tryz.prog 189 [.ptr r 0,.bool ok] (cI r p q m lv s) (fun _ σ=>σ=cI r p q m lv (dB s ok)):=by
 obtain⟨vs,zs,b⟩:=s;obtain⟨n1,n2,n3⟩:=hN;refine cC 15 [0,1] Tryz.func189 ?_;unfold cI fO;dsimp only;refine cL ?_;refine nT ?_;refine jK ?_;refine tT ?_;refine qG ?_;refine oW ?_;refine bR ?_;apply aF;exact aG
 ·rfl
 ·exact aA
theorem lG(hN:Nm r p q)(s:PS)(hs:s.vs.length≤1000000)(ks:List Int)(hk:ks.length≤1000):SCall Tryz.prog 190 [.ptr r 0,.ro 1 (ks.map aX) .any] (cI r p q m lv s) (fun _ σ=>∃e,Nm r e q∧σ=cI r e q m lv (fU s ks)):=by
 obtain⟨vs,zs,b⟩:=s;obtain⟨n1,n2,n3⟩:=hN;dsimp only at hs;refine cC 13 [0,1] Tryz.func190 ?_;unfold cI fO;dsimp only;refine cL ?_;refine GS ?_;refine jY ((vs++ks).map aX) (vs++ks).length ?_;refine bM fun r10 h10=> ?_;repeat rcases h10 with⟨_,h10⟩
 refine oW ?_;refine bR ?_;apply aF;exact aG
 ·exact⟨r10,⟨by(exact cF),by(exact cF),by(exact cF)⟩,rfl⟩
 ·exact aA
theorem sF(k:Int):SCall Tryz.prog 191 [.int .i64 k] [] (fun y σ=>y=.ro 1 ((bB k).map aX) .any∧σ=[]):=by
 refine cC 7 [0,2,4] Tryz.func191 ?_;refine fV ?_;refine qI ?_;refine aB rfl (fun g1=> ?_) (fun g1=> ?_)
 ·rw[show bB k=[]from if_pos g1];refine dW ?_;refine vQ ?_;refine eU (fY (j:=2) (y:=.ro 1 (([]:List Int).map aX) .any) rfl VLe.empty) ?_;refine aP ?_;apply aF;exact aG
  ·exact⟨rfl,rfl⟩
  ·exact aA
 rw[show bB k=[k]from if_neg (by simp[g1])];refine dX ?_;refine z1 ?_;refine aD fun r6 h6=> ?_;repeat rcases h6 with⟨_,h6⟩
 refine vQ ?_;refine YD (j:=2) rfl bP (aR bH (by simp)) ?_;refine aP ?_;apply aF;exact aG
 ·exact⟨rfl,rfl⟩
 ·exact aA
theorem uP(i:List Ct)(t:Ct):(i++ [t]).length=i.length+1:=by simp
theorem DI(i:List Ct)(t:Ct):(i++ [t]).map lR=i.map lR++ [lR t]:=by simp
theorem KB(i:List Int)(t:Int):(i++ [t]).length=i.length+1:=by simp
theorem ZD(i:List Int)(t:Int):(i++ [t]).map aX=i.map aX++ [aX t]:=by simp
theorem pI{n:Nat}:(((n+1:Nat):Int)-1).toNat-0=n:=by omega
theorem nV(hN:Nm r p q)(s:PS)(h:s.Gd)(w:Int):SCall Tryz.prog 188 [.ptr r 0,.int .i64 w] (cI r p q m lv s) (fun y σ=>y=.int .i64 (cQ s w).1∧σ=cI r p q m lv (cQ s w).2):=by
 obtain⟨i,hi⟩:=h.cut;have h0:=h.toOk0;have hbv:=h.bv;have hbc:=h.bc;obtain⟨vs,zs,b⟩:=s;dsimp only at hi hbv hbc;generalize PS.top ⟨vs,zs,b⟩=t at hi;subst hi;rw[uP]at hbc;obtain⟨-,hh,-⟩:=h0.split;obtain⟨n1,n2,n3⟩:=hN;have hel:=rI (l:=i.map lR) (x:=lR t) (n:=i.length) (by simp);refine cC 71 [0,1,4,5,6,26,59] Tryz.func188 ?_;unfold cI fO;dsimp only;rw[uP,DI];refine bQ ?_;refine gI [(0,true),(1,true),(2,true),(3,true),(4,true),(5,true),(6,true),(7,true),(8,true),(9,true),(10,true),(11,true),(12,false),(13,false)] ?_;refine wL ?_;refine rD ?_;refine MC ?_;refine zH ?_;apply dal;rfl;infer_instance;rfl;(exact dM);refine aD fun r5 h5=> ?_;repeat rcases h5 with⟨_,h5⟩
 refine WZ ?_;refine kK ?_;refine gI [(0,true),(1,true),(2,true),(3,true),(4,true),(5,true),(6,true),(7,true)] ?_;refine CJ ?_;refine IQ ?_;refine jE ?_;refine z79 ?_;refine kK ?_;refine aB rfl (fun g2=> ?_) (fun g2=> ?_)
 ·have hP:cQ ⟨vs,i++ [t],b⟩ w=(w,dB ⟨vs,i++ [t],b⟩ t.dd):=by unfold cQ;rw[DA,if_pos g2]
  rw[hP];refine qW ?_;refine cw (cI r p q m lv ⟨vs,i++ [t],b⟩) Tryz.call189 (jZ ⟨n1,n2,n3⟩ _ t.dd) rfl aC cA ?_;rintro _ σ' rfl h30;unfold cI fO;(try dsimp only);refine mO ?_;refine dG ?_;apply aF;exact aG
  ·exact⟨rfl,rfl⟩
  ·exact aA
 have hl:vs.length≠t.ht:=by intro e;rw[e]at g2;simp at g2
 obtain⟨ws,g,rfl⟩:∃ws g,vs=ws++ [g]:=by
  rcases List.eq_nil_or_concat vs with e|⟨ws,g,e⟩
  ·subst e;simp at hh hl;omega
  ·exact⟨ws,g,by rw[e,List.concat_eq_append]⟩
 have hel2:=rI (l:=ws.map aX) (x:=aX g) (n:=ws.length) (by simp);rw[KB]at hbv;rw[KB,ZD];refine aP ?_;refine gI [(0,true),(1,true),(2,true),(3,true),(4,true),(5,true),(6,true),(7,true),(8,true),(9,true),(10,true),(11,true),(12,true)] ?_;refine wL ?_;refine rD ?_;refine MC ?_;refine LD ?_;refine tV ?_;refine gI [(0,true),(1,true),(2,true),(3,true),(4,true),(5,true),(6,true),(7,true),(8,true),(9,true),(10,true),(11,true),(12,true),(13,true),(14,false)] ?_;refine CO ?_;refine rD ?_;refine WA ?_;refine WB ?_;refine rB ?_;refine kK ?_;rw[pI];refine eU (nB (o:=p) ws.length cZ) ?_;rw[show List.take ws.length (ws.map aX++ [aX g])=ws.map aX by rw[List.take_left' (by simp)]];refine gK ?_;refine qI ?_;refine aB rfl (fun g7=> ?_) (fun g7=> ?_)
 ·have hP:cQ ⟨ws++ [g],i++ [t],b⟩ w=(w,⟨ws,i++ [t],b⟩):=by unfold cQ;rw[DA,if_neg (by simpa using g2)];simp at g7;simp[g7]
  rw[hP];refine fN ?_;apply aF;exact aG
  ·exact⟨rfl,rfl⟩
  ·exact aA
 have hP:cQ ⟨ws++ [g],i++ [t],b⟩ w=(g,dB ⟨ws,i++ [t],b⟩ (if(w==0)=true then true else(g==w))):=by unfold cQ;rw[DA,if_neg (by simpa using g2)];simp at g7;simp[g7]
 rw[hP];refine cL ?_;refine lo (dD (E rfl) (E rfl)) rfl ?_;refine jK ?_;refine qV ?_;refine aEm ?_;refine qG ?_;refine cw (cI r p q m lv ⟨ws,i++ [t],b⟩) Tryz.call189 (jZ ⟨n1,n2,n3⟩ _ (if(w==0)=true then true else(g==w))) rfl aC cA ?_;rintro _ σ' rfl h69;unfold cI fO;(try dsimp only);refine mO ?_;refine dG ?_;apply aF;exact aG
 ·exact⟨rfl,rfl⟩
 ·exact aA
theorem kQ(hN:Nm r p q)(s:PS)(h:s.Gd)(ks:List Int)(hkl:ks.length≤100000):SCall Tryz.prog 192 [.ptr r 0,.ro 1 (ks.map aX) .any] (cI r p q m lv s) (fun _ σ=>σ=cI r p q m lv (dL s ks)):=by
 obtain⟨n1,n2,n3⟩:=hN;refine cC 18 [0,1,4,9] Tryz.func192 ?_;unfold cI fO
 (try dsimp only);refine dX ?_;refine lU ?_;refine rP ?_;refine dG ?_;refine lp (β:=Nat×PS) (fun b=>⟨[(0,.ptr r 0),(1,.ro 1 (ks.map aX) .any),(4,.int .i64 ((b.1:Int)-1))],cI r p q m lv b.2⟩) (fun b=>b.1≤ks.length∧b.2.Gd∧dL b.2 (ks.take b.1)=dL s ks) (fun b=>b.1) (ks.length,s) (by unfold cI fO;(try dsimp only);(exact aK)) ⟨Nat.le_refl _,h,by rw[List.take_length]⟩ ?_;rintro⟨j,S⟩ ⟨hj,hS,hP⟩;dsimp only at hj hS hP⊢;unfold cI fO
 (try dsimp only);refine dX ?_;refine IV ?_;refine aB rfl (fun g1=> ?_) (fun g1=> ?_)
 ·obtain⟨j,rfl⟩:∃j',j=j'+1:=⟨j-1,by simp at g1;omega⟩
  obtain⟨k,hk⟩:∃k,ks[j]? =some k:=⟨_,List.getElem?_eq_getElem (by omega)⟩
  have hk':ks[(((j+1:Nat):Int)-1).toNat]? =some k:=by rw[show(((j+1:Nat):Int)-1).toNat=j by omega];exact hk
  refine cL ?_;refine nJ ?_;refine cw (cI r p q m lv S) Tryz.call188 (nV ⟨n1,n2,n3⟩ S hS k) rfl aC cA ?_;rintro _ σ' ⟨rfl,rfl⟩ h17;unfold cI fO;(try dsimp only);refine mO ?_;refine rP ?_;refine dG ?_;refine⟨(j,(cQ S k).2),⟨by show j≤ _;omega,hS.pop k,by rw[←hP,List.take_add_one,hk];show _=dL S (ks.take j++ [k]);rw[UM]⟩,by show j<j+1;omega, ?_⟩;dsimp only;rw[show(((j+1:Nat):Int)-1-1)=(j:Int)-1 by omega];exact aK
 obtain rfl:j=0:=by simp at g1;omega
 rw[show dL s ks=S by rw[←hP];rfl];refine aP ?_;refine bR ?_;apply aF;exact aG
 ·rfl
 ·exact aA
end
end Go.Proofs.YtjpdadobblffmaaGreat
namespace Go.Proofs.YtjpdadobblffmaaGreat
open Go.RowKit Go.ChangeShapes Go.WideShapes Go.ChangeAt Go.Deep
def cE (P:Program) (f:FuncId) (caps:List AV) (σ:dY) {α:Type} (ar:α→AV) (p:α→Bool) (ok:α→Prop):Prop:=
 (∀args w,(callFunc f args).run P w=.ok (.enter f args) w)∧∀x,ok x→SCall P f ([]++ [ar x]++caps) σ (fun r σ'=>r=.bool (p x)∧σ'=σ)
theorem aE9{f:FuncId}{caps:List AV}{σ:dY}{p:FT→Bool}{ok:FT→Prop}(hp:cE Tryz.prog f caps σ (fun x=>.agg (eF x)) p ok)(l:List FT)(hok:∀x∈l,ok x):SCall Tryz.prog 309 [.ro 2 (l.map eF) .any,.fn (.func f) [] caps] σ (fun x σ'=>∃m:Int,x=.int .i64 m∧decide (0≤m)=l.any p∧σ'=σ):=by
 refine cC 19 [0,1,4,5,7,8,9,16] Tryz.func309 ?_;refine iB (i:=0) rfl fun hm=> ?_
 rw[List.length_map]at hm;unfold maxLen at hm;refine rA ?_;refine lp (β:=Nat) (fun j=>⟨[(0,.ro 2 (l.map eF) .any),(1,.fn (.func f) [] caps),(7,.int .i64 l.length),(8,.int .i64 j)],σ⟩) (fun j=>j≤l.length∧(l.take j).any p=false) (fun j=>l.length-j) 0 ?_ ⟨Nat.zero_le _,rfl⟩ ?_
 ·exact aK
 rintro j ⟨hj,ht⟩;refine jQ ?_;refine aB rfl (fun h1=> ?_) (fun h1=> ?_)
 ·have hlt:j<l.length:=by simp at h1;omega
  obtain⟨x,hx⟩:∃x,l[j]? =some x:=⟨_,List.getElem?_eq_getElem hlt⟩
  refine sN ?_;refine mB ?_;refine pR σ rfl hp.1 (hp.2 x (hok x (List.mem_of_getElem? hx))) rfl ?_ ?_ ?_
  ·exact aC
  ·exact fun _ h=>h
  rintro r σ' ⟨rfl,rfl⟩-;rw[eC,List.append_nil];refine jP ?_;refine aB rfl (fun h2=> ?_) (fun h2=> ?_)
  ·refine fN ?_;apply aF;exact aG
   ·refine⟨j,rfl, ?_,rfl⟩;rw[decide_eq_true (by omega)];exact(List.any_eq_true.2 ⟨x,List.mem_of_getElem? hx,h2⟩).symm
   ·exact aA
  ·refine lV ?_;refine⟨j+1,⟨by omega, ?_⟩,by omega, ?_⟩
   ·rw[List.take_add_one,hx,List.any_append,ht];simp[h2]
   ·exact aK
 ·refine bQ ?_;apply aF;exact aG
  ·simp at h1;rw[List.take_of_length_le (by omega)]at ht;exact⟨-1,rfl,by rw[ht];rfl,rfl⟩
  ·exact aA
theorem aFa{f:FuncId}{caps:List AV}{σ:dY}{p:FT→Bool}{ok:FT→Prop}(hp:cE Tryz.prog f caps σ (fun x=>.agg (eF x)) p ok)(l:List FT)(hok:∀x∈l,ok x):SCall Tryz.prog 285 [.ro 2 (l.map eF) .any,.fn (.func f) [] caps] σ (fun x σ'=>x=.bool (l.any p)∧σ'=σ):=by
 refine cC 9 [0,1,4] Tryz.func285 ?_;refine mA ?_;refine cw σ Tryz.call309 (aE9 hp l hok) rfl ?_ ?_ ?_
 ·exact aC
 ·exact fun _ h=>h
 rintro x σ' ⟨m,rfl,hm,rfl⟩-;rw[eC,List.append_nil];refine AT ?_;apply aF;exact aG
 ·exact⟨by simp only[iH];rw[←hm],rfl⟩
 ·exact aA
theorem aHx{f:FuncId}{p:FT→Bool}{ok:FT→Prop}(hp:cE Tryz.prog f [] [] (fun x=>.agg (eF x)) p ok)(r:Nat):cE Tryz.prog 286 [.ptr r 0] [(r,.box 277 [.fn (.func f) [] []])] (fun x=>.agg (eF x)) (fun x=> !p x) ok:=by
  refine⟨Tryz.call286,fun x hx=> ?_⟩;refine cC 8 [0,1,2,3] Tryz.func286 ?_;refine dW ?_;apply bx;rfl;rfl;(exact dM);rfl;refine aD fun r2 h2=> ?_;repeat rcases h2 with⟨_,h2⟩
  refine kY ?_;refine vC ?_;refine oV ?_;refine pR [] rfl hp.1 (hp.2 x hx) rfl aC aA ?_;rintro _ σ' ⟨rfl,rfl⟩ h6;refine EX ?_;refine dG ?_;apply aF;exact aG
  ·exact⟨rfl,rfl⟩
  ·exact aA
theorem aFb{f:FuncId}{p:FT→Bool}{ok:FT→Prop}(hp:cE Tryz.prog f [] [] (fun x=>.agg (eF x)) p ok)(l:List FT)(hok:∀x∈l,ok x)(most:Int):SCall Tryz.prog 221 [.ro 2 (l.map eF) .any,.int .i64 most,.fn (.func f) [] []] [] (fun x σ'=>x=.bool (cP l most p)∧σ'=[]):=by
 refine cC 17 [0,1,2,5,6] Tryz.func221 ?_;refine dW ?_;apply bx;rfl;rfl;(exact dM);rfl;refine aD fun r5 h5=> ?_;repeat rcases h5 with⟨_,h5⟩
 refine dG ?_;by_cases hl:(l.length:Int)≤most
 ·have hE:cP l most p= !(l.any fun x=> !p x):=by unfold cP;rw[decide_eq_true hl,List.any_eq_not_all_not];simp
  have hd:decide ((l.length:Int)≤most)=true:=by simpa using hl
  refine qX ?_;rw[hd];refine vZ ?_;refine cw [(r5,.box 277 [.fn (.func f) [] []])] Tryz.call285 (aFa (aHx hp r5) l hok) rfl aC aA ?_;rintro _ σ' ⟨rfl,rfl⟩ h14;refine vY ?_;apply aF;exact aG
  ·exact⟨by rw[hE];rfl,rfl⟩
  ·exact aA
 ·have hE:cP l most p=false:=by unfold cP;rw[decide_eq_false hl];rfl
  have hd:decide ((l.length:Int)≤most)=false:=by simpa using hl
  refine qX ?_;rw[hd];refine wA ?_;apply aF;exact aG
  ·exact⟨by rw[hE];rfl,rfl⟩
  ·exact aA
theorem aB3{f:FuncId}{caps:List AV}{σ:dY}{p:Int→Bool}{ok:Int→Prop}(hp:cE Tryz.prog f caps σ (fun n=>.int .i64 n) p ok)(l:List Int)(hok:∀x∈l,ok x):SCall Tryz.prog 205 [.ro 1 (l.map aX) .any,.fn (.func f) [] caps] σ (fun x σ'=>∃m:Int,x=.int .i64 m∧decide (0≤m)=l.any p∧σ'=σ):=by
 refine cC 19 [0,1,4,5,7,8,9,16] Tryz.func205 ?_;refine iB (i:=0) rfl fun hm=> ?_
 rw[List.length_map]at hm;unfold maxLen at hm;refine rA ?_;refine lp (β:=Nat) (fun j=>⟨[(0,.ro 1 (l.map aX) .any),(1,.fn (.func f) [] caps),(7,.int .i64 l.length),(8,.int .i64 j)],σ⟩) (fun j=>j≤l.length∧(l.take j).any p=false) (fun j=>l.length-j) 0 ?_ ⟨Nat.zero_le _,rfl⟩ ?_
 ·exact aK
 rintro j ⟨hj,ht⟩;refine jQ ?_;refine aB rfl (fun h1=> ?_) (fun h1=> ?_)
 ·have hlt:j<l.length:=by simp at h1;omega
  obtain⟨x,hx⟩:∃x,l[j]? =some x:=⟨_,List.getElem?_eq_getElem hlt⟩
  refine sN ?_;refine nJ ?_;refine pR σ rfl hp.1 (hp.2 x (hok x (List.mem_of_getElem? hx))) rfl ?_ ?_ ?_
  ·exact aC
  ·exact fun _ h=>h
  rintro r σ' ⟨rfl,rfl⟩-;rw[eC,List.append_nil];refine jP ?_;refine aB rfl (fun h2=> ?_) (fun h2=> ?_)
  ·refine fN ?_;apply aF;exact aG
   ·refine⟨j,rfl, ?_,rfl⟩;rw[decide_eq_true (by omega)];exact(List.any_eq_true.2 ⟨x,List.mem_of_getElem? hx,h2⟩).symm
   ·exact aA
  ·refine lV ?_;refine⟨j+1,⟨by omega, ?_⟩,by omega, ?_⟩
   ·rw[List.take_add_one,hx,List.any_append,ht];simp[h2]
   ·exact aK
 ·refine bQ ?_;apply aF;exact aG
  ·simp at h1;rw[List.take_of_length_le (by omega)]at ht;exact⟨-1,rfl,by rw[ht];rfl,rfl⟩
  ·exact aA
theorem aB4{f:FuncId}{caps:List AV}{σ:dY}{p:Int→Bool}{ok:Int→Prop}(hp:cE Tryz.prog f caps σ (fun n=>.int .i64 n) p ok)(l:List Int)(hok:∀x∈l,ok x):SCall Tryz.prog 89 [.ro 1 (l.map aX) .any,.fn (.func f) [] caps] σ (fun x σ'=>x=.bool (l.any p)∧σ'=σ):=by
 refine cC 9 [0,1,4] Tryz.func89 ?_;refine mA ?_;refine cw σ Tryz.call205 (aB3 hp l hok) rfl ?_ ?_ ?_
 ·exact aC
 ·exact fun _ h=>h
 rintro x σ' ⟨m,rfl,hm,rfl⟩-;rw[eC,List.append_nil];refine AT ?_;apply aF;exact aG
 ·exact⟨by simp only[iH];rw[←hm],rfl⟩
 ·exact aA
theorem aFc{f:FuncId}{p:Int→Bool}{ok:Int→Prop}(hp:cE Tryz.prog f [] [] (fun n=>.int .i64 n) p ok)(r:Nat):cE Tryz.prog 214 [.ptr r 0] [(r,.box 83 [.fn (.func f) [] []])] (fun n=>.int .i64 n) (fun x=> !p x) ok:=by
  refine⟨Tryz.call214,fun x hx=> ?_⟩;refine cC 8 [0,1,3] Tryz.func214 ?_;refine sU ?_;refine vC ?_;refine lo (aI (E rfl)) rfl ?_;refine pR [] rfl hp.1 (hp.2 x hx) rfl aC aA ?_;rintro _ σ' ⟨rfl,rfl⟩ h6;refine EX ?_;refine dG ?_;apply aF;exact aG
  ·exact⟨rfl,rfl⟩
  ·exact aA
theorem yM{f:FuncId}{p:Int→Bool}{ok:Int→Prop}(hp:cE Tryz.prog f [] [] (fun n=>.int .i64 n) p ok)(l:List Int)(hok:∀x∈l,ok x)(most:Int):SCall Tryz.prog 108 [.ro 1 (l.map aX) .any,.int .i64 most,.fn (.func f) [] []] [] (fun x σ'=>x=.bool (cP l most p)∧σ'=[]):=by
 refine cC 17 [0,1,2,5,6] Tryz.func108 ?_;refine dW ?_;apply bx;rfl;rfl;(exact dM);rfl;refine aD fun r5 h5=> ?_;repeat rcases h5 with⟨_,h5⟩
 refine dG ?_;by_cases hl:(l.length:Int)≤most
 ·have hE:cP l most p= !(l.any fun x=> !p x):=by unfold cP;rw[decide_eq_true hl,List.any_eq_not_all_not];simp
  have hd:decide ((l.length:Int)≤most)=true:=by simpa using hl
  refine qX ?_;rw[hd];refine vZ ?_;refine cw [(r5,.box 83 [.fn (.func f) [] []])] Tryz.call89 (aB4 (aFc hp r5) l hok) rfl aC aA ?_;rintro _ σ' ⟨rfl,rfl⟩ h14;refine vY ?_;apply aF;exact aG
  ·exact⟨by rw[hE];rfl,rfl⟩
  ·exact aA
 ·have hE:cP l most p=false:=by unfold cP;rw[decide_eq_false hl];rfl
  have hd:decide ((l.length:Int)≤most)=false:=by simpa using hl
  refine qX ?_;rw[hd];refine wA ?_;apply aF;exact aG
  ·exact⟨by rw[hE];rfl,rfl⟩
  ·exact aA
theorem aFd{f:FuncId}{caps:List AV}{σ:dY}{p:Nat→Bool}{ok:Nat→Prop}(hp:cE Tryz.prog f caps σ (fun(n:Nat)=>.int .u8 n) p ok)(l:List Nat)(hok:∀x∈l,ok x):SCall Tryz.prog 320 [.ro 1 (l.map aH) .any,.fn (.func f) [] caps] σ (fun x σ'=>∃m:Int,x=.int .i64 m∧decide (0≤m)=l.any p∧σ'=σ):=by
 refine cC 19 [0,1,4,5,7,8,9,16] Tryz.func320 ?_;refine iB (i:=0) rfl fun hm=> ?_
 rw[List.length_map]at hm;unfold maxLen at hm;refine rA ?_;refine lp (β:=Nat) (fun j=>⟨[(0,.ro 1 (l.map aH) .any),(1,.fn (.func f) [] caps),(7,.int .i64 l.length),(8,.int .i64 j)],σ⟩) (fun j=>j≤l.length∧(l.take j).any p=false) (fun j=>l.length-j) 0 ?_ ⟨Nat.zero_le _,rfl⟩ ?_
 ·exact aK
 rintro j ⟨hj,ht⟩;refine jQ ?_;refine aB rfl (fun h1=> ?_) (fun h1=> ?_)
 ·have hlt:j<l.length:=by simp at h1;omega
  obtain⟨x,hx⟩:∃x,l[j]? =some x:=⟨_,List.getElem?_eq_getElem hlt⟩
  refine sN ?_;refine nJ ?_;refine pR σ rfl hp.1 (hp.2 x (hok x (List.mem_of_getElem? hx))) rfl ?_ ?_ ?_
  ·exact aC
  ·exact fun _ h=>h
  rintro r σ' ⟨rfl,rfl⟩-;rw[eC,List.append_nil];refine jP ?_;refine aB rfl (fun h2=> ?_) (fun h2=> ?_)
  ·refine fN ?_;apply aF;exact aG
   ·refine⟨j,rfl, ?_,rfl⟩;rw[decide_eq_true (by omega)];exact(List.any_eq_true.2 ⟨x,List.mem_of_getElem? hx,h2⟩).symm
   ·exact aA
  ·refine lV ?_;refine⟨j+1,⟨by omega, ?_⟩,by omega, ?_⟩
   ·rw[List.take_add_one,hx,List.any_append,ht];simp[h2]
   ·exact aK
 ·refine bQ ?_;apply aF;exact aG
  ·simp at h1;rw[List.take_of_length_le (by omega)]at ht;exact⟨-1,rfl,by rw[ht];rfl,rfl⟩
  ·exact aA
theorem aFe{f:FuncId}{caps:List AV}{σ:dY}{p:Nat→Bool}{ok:Nat→Prop}(hp:cE Tryz.prog f caps σ (fun(n:Nat)=>.int .u8 n) p ok)(l:List Nat)(hok:∀x∈l,ok x):SCall Tryz.prog 310 [.ro 1 (l.map aH) .any,.fn (.func f) [] caps] σ (fun x σ'=>x=.bool (l.any p)∧σ'=σ):=by
 refine cC 9 [0,1,4] Tryz.func310 ?_;refine mA ?_;refine cw σ Tryz.call320 (aFd hp l hok) rfl ?_ ?_ ?_
 ·exact aC
 ·exact fun _ h=>h
 rintro x σ' ⟨m,rfl,hm,rfl⟩-;rw[eC,List.append_nil];refine AT ?_;apply aF;exact aG
 ·exact⟨by simp only[iH];rw[←hm],rfl⟩
 ·exact aA
theorem aHy{f:FuncId}{p:Nat→Bool}{ok:Nat→Prop}(hp:cE Tryz.prog f [] [] (fun(n:Nat)=>.int .u8 n) p ok)(r:Nat):cE Tryz.prog 311 [.ptr r 0] [(r,.box 325 [.fn (.func f) [] []])] (fun(n:Nat)=>.int .u8 n) (fun x=> !p x) ok:=by
  refine⟨Tryz.call311,fun x hx=> ?_⟩;refine cC 8 [0,1,3] Tryz.func311 ?_;refine sU ?_;refine vC ?_;refine lo (aI (E rfl)) rfl ?_;refine pR [] rfl hp.1 (hp.2 x hx) rfl aC aA ?_;rintro _ σ' ⟨rfl,rfl⟩ h6;refine EX ?_;refine dG ?_;apply aF;exact aG
  ·exact⟨rfl,rfl⟩
  ·exact aA
theorem aFf{f:FuncId}{p:Nat→Bool}{ok:Nat→Prop}(hp:cE Tryz.prog f [] [] (fun(n:Nat)=>.int .u8 n) p ok)(l:List Nat)(hok:∀x∈l,ok x)(most:Int):SCall Tryz.prog 288 [.ro 1 (l.map aH) .any,.int .i64 most,.fn (.func f) [] []] [] (fun x σ'=>x=.bool (cP l most p)∧σ'=[]):=by
 refine cC 17 [0,1,2,5,6] Tryz.func288 ?_;refine dW ?_;apply bx;rfl;rfl;(exact dM);rfl;refine aD fun r5 h5=> ?_;repeat rcases h5 with⟨_,h5⟩
 refine dG ?_;by_cases hl:(l.length:Int)≤most
 ·have hE:cP l most p= !(l.any fun x=> !p x):=by unfold cP;rw[decide_eq_true hl,List.any_eq_not_all_not];simp
  have hd:decide ((l.length:Int)≤most)=true:=by simpa using hl
  refine qX ?_;rw[hd];refine vZ ?_;refine cw [(r5,.box 325 [.fn (.func f) [] []])] Tryz.call310 (aFe (aHy hp r5) l hok) rfl aC aA ?_;rintro _ σ' ⟨rfl,rfl⟩ h14;refine vY ?_;apply aF;exact aG
  ·exact⟨by rw[hE];rfl,rfl⟩
  ·exact aA
 ·have hE:cP l most p=false:=by unfold cP;rw[decide_eq_false hl];rfl
  have hd:decide ((l.length:Int)≤most)=false:=by simpa using hl
  refine qX ?_;rw[hd];refine wA ?_;apply aF;exact aG
  ·exact⟨by rw[hE];rfl,rfl⟩
  ·exact aA
theorem aFg{f:FuncId}{caps:List AV}{σ:dY}{p:Im→Bool}{ok:Im→Prop}(hp:cE Tryz.prog f caps σ (fun x=>.agg (fT x)) p ok)(l:List Im)(hok:∀x∈l,ok x):SCall Tryz.prog 204 [.ro 3 (l.map fT) .any,.fn (.func f) [] caps] σ (fun x σ'=>∃m:Int,x=.int .i64 m∧decide (0≤m)=l.any p∧σ'=σ):=by
 refine cC 19 [0,1,4,5,7,8,9,16] Tryz.func204 ?_;refine iB (i:=0) rfl fun hm=> ?_
 rw[List.length_map]at hm;unfold maxLen at hm;refine rA ?_;refine lp (β:=Nat) (fun j=>⟨[(0,.ro 3 (l.map fT) .any),(1,.fn (.func f) [] caps),(7,.int .i64 l.length),(8,.int .i64 j)],σ⟩) (fun j=>j≤l.length∧(l.take j).any p=false) (fun j=>l.length-j) 0 ?_ ⟨Nat.zero_le _,rfl⟩ ?_
 ·exact aK
 rintro j ⟨hj,ht⟩;refine jQ ?_;refine aB rfl (fun h1=> ?_) (fun h1=> ?_)
 ·have hlt:j<l.length:=by simp at h1;omega
  obtain⟨x,hx⟩:∃x,l[j]? =some x:=⟨_,List.getElem?_eq_getElem hlt⟩
  refine sN ?_;refine mB ?_;refine pR σ rfl hp.1 (hp.2 x (hok x (List.mem_of_getElem? hx))) rfl ?_ ?_ ?_
  ·exact aC
  ·exact fun _ h=>h
  rintro r σ' ⟨rfl,rfl⟩-;rw[eC,List.append_nil];refine jP ?_;refine aB rfl (fun h2=> ?_) (fun h2=> ?_)
  ·refine fN ?_;apply aF;exact aG
   ·refine⟨j,rfl, ?_,rfl⟩;rw[decide_eq_true (by omega)];exact(List.any_eq_true.2 ⟨x,List.mem_of_getElem? hx,h2⟩).symm
   ·exact aA
  ·refine lV ?_;refine⟨j+1,⟨by omega, ?_⟩,by omega, ?_⟩
   ·rw[List.take_add_one,hx,List.any_append,ht];simp[h2]
   ·exact aK
 ·refine bQ ?_;apply aF;exact aG
  ·simp at h1;rw[List.take_of_length_le (by omega)]at ht;exact⟨-1,rfl,by rw[ht];rfl,rfl⟩
  ·exact aA
theorem aFh{f:FuncId}{caps:List AV}{σ:dY}{p:Im→Bool}{ok:Im→Prop}(hp:cE Tryz.prog f caps σ (fun x=>.agg (fT x)) p ok)(l:List Im)(hok:∀x∈l,ok x):SCall Tryz.prog 87 [.ro 3 (l.map fT) .any,.fn (.func f) [] caps] σ (fun x σ'=>x=.bool (l.any p)∧σ'=σ):=by
 refine cC 9 [0,1,4] Tryz.func87 ?_;refine mA ?_;refine cw σ Tryz.call204 (aFg hp l hok) rfl ?_ ?_ ?_
 ·exact aC
 ·exact fun _ h=>h
 rintro x σ' ⟨m,rfl,hm,rfl⟩-;rw[eC,List.append_nil];refine AT ?_;apply aF;exact aG
 ·exact⟨by simp only[iH];rw[←hm],rfl⟩
 ·exact aA
theorem aHz{f:FuncId}{p:Im→Bool}{ok:Im→Prop}(hp:cE Tryz.prog f [] [] (fun x=>.agg (fT x)) p ok)(r:Nat):cE Tryz.prog 287 [.ptr r 0] [(r,.box 148 [.fn (.func f) [] []])] (fun x=>.agg (fT x)) (fun x=> !p x) ok:=by
  refine⟨Tryz.call287,fun x hx=> ?_⟩;refine cC 8 [0,1,2,3] Tryz.func287 ?_;refine dW ?_;apply bx;rfl;rfl;(exact dM);rfl;refine aD fun r2 h2=> ?_;repeat rcases h2 with⟨_,h2⟩
  refine kY ?_;refine vC ?_;refine oV ?_;refine pR [] rfl hp.1 (hp.2 x hx) rfl aC aA ?_;rintro _ σ' ⟨rfl,rfl⟩ h6;refine EX ?_;refine dG ?_;apply aF;exact aG
  ·exact⟨rfl,rfl⟩
  ·exact aA
theorem aFi{f:FuncId}{p:Im→Bool}{ok:Im→Prop}(hp:cE Tryz.prog f [] [] (fun x=>.agg (fT x)) p ok)(l:List Im)(hok:∀x∈l,ok x)(most:Int):SCall Tryz.prog 223 [.ro 3 (l.map fT) .any,.int .i64 most,.fn (.func f) [] []] [] (fun x σ'=>x=.bool (cP l most p)∧σ'=[]):=by
 refine cC 17 [0,1,2,5,6] Tryz.func223 ?_;refine dW ?_;apply bx;rfl;rfl;(exact dM);rfl;refine aD fun r5 h5=> ?_;repeat rcases h5 with⟨_,h5⟩
 refine dG ?_;by_cases hl:(l.length:Int)≤most
 ·have hE:cP l most p= !(l.any fun x=> !p x):=by unfold cP;rw[decide_eq_true hl,List.any_eq_not_all_not];simp
  have hd:decide ((l.length:Int)≤most)=true:=by simpa using hl
  refine qX ?_;rw[hd];refine vZ ?_;refine cw [(r5,.box 148 [.fn (.func f) [] []])] Tryz.call87 (aFh (aHz hp r5) l hok) rfl aC aA ?_;rintro _ σ' ⟨rfl,rfl⟩ h14;refine vY ?_;apply aF;exact aG
  ·exact⟨by rw[hE];rfl,rfl⟩
  ·exact aA
 ·have hE:cP l most p=false:=by unfold cP;rw[decide_eq_false hl];rfl
  have hd:decide ((l.length:Int)≤most)=false:=by simpa using hl
  refine qX ?_;rw[hd];refine wA ?_;apply aF;exact aG
  ·exact⟨by rw[hE];rfl,rfl⟩
  ·exact aA
theorem aFj{f:FuncId}{caps:List AV}{σ:dY}{p:Gl→Bool}{ok:Gl→Prop}(hp:cE Tryz.prog f caps σ (fun x=>.agg (fP x)) p ok)(l:List Gl)(hok:∀x∈l,ok x):SCall Tryz.prog 312 [.ro 3 (l.map fP) .any,.fn (.func f) [] caps] σ (fun x σ'=>∃m:Int,x=.int .i64 m∧decide (0≤m)=l.any p∧σ'=σ):=by
 refine cC 19 [0,1,4,5,7,8,9,16] Tryz.func312 ?_;refine iB (i:=0) rfl fun hm=> ?_
 rw[List.length_map]at hm;unfold maxLen at hm;refine rA ?_;refine lp (β:=Nat) (fun j=>⟨[(0,.ro 3 (l.map fP) .any),(1,.fn (.func f) [] caps),(7,.int .i64 l.length),(8,.int .i64 j)],σ⟩) (fun j=>j≤l.length∧(l.take j).any p=false) (fun j=>l.length-j) 0 ?_ ⟨Nat.zero_le _,rfl⟩ ?_
 ·exact aK
 rintro j ⟨hj,ht⟩;refine jQ ?_;refine aB rfl (fun h1=> ?_) (fun h1=> ?_)
 ·have hlt:j<l.length:=by simp at h1;omega
  obtain⟨x,hx⟩:∃x,l[j]? =some x:=⟨_,List.getElem?_eq_getElem hlt⟩
  refine sN ?_;refine mB ?_;refine pR σ rfl hp.1 (hp.2 x (hok x (List.mem_of_getElem? hx))) rfl ?_ ?_ ?_
  ·exact aC
  ·exact fun _ h=>h
  rintro r σ' ⟨rfl,rfl⟩-;rw[eC,List.append_nil];refine jP ?_;refine aB rfl (fun h2=> ?_) (fun h2=> ?_)
  ·refine fN ?_;apply aF;exact aG
   ·refine⟨j,rfl, ?_,rfl⟩;rw[decide_eq_true (by omega)];exact(List.any_eq_true.2 ⟨x,List.mem_of_getElem? hx,h2⟩).symm
   ·exact aA
  ·refine lV ?_;refine⟨j+1,⟨by omega, ?_⟩,by omega, ?_⟩
   ·rw[List.take_add_one,hx,List.any_append,ht];simp[h2]
   ·exact aK
 ·refine bQ ?_;apply aF;exact aG
  ·simp at h1;rw[List.take_of_length_le (by omega)]at ht;exact⟨-1,rfl,by rw[ht];rfl,rfl⟩
  ·exact aA
theorem aFk{f:FuncId}{caps:List AV}{σ:dY}{p:Gl→Bool}{ok:Gl→Prop}(hp:cE Tryz.prog f caps σ (fun x=>.agg (fP x)) p ok)(l:List Gl)(hok:∀x∈l,ok x):SCall Tryz.prog 290 [.ro 3 (l.map fP) .any,.fn (.func f) [] caps] σ (fun x σ'=>x=.bool (l.any p)∧σ'=σ):=by
 refine cC 9 [0,1,4] Tryz.func290 ?_;refine mA ?_;refine cw σ Tryz.call312 (aFj hp l hok) rfl ?_ ?_ ?_
 ·exact aC
 ·exact fun _ h=>h
 rintro x σ' ⟨m,rfl,hm,rfl⟩-;rw[eC,List.append_nil];refine AT ?_;apply aF;exact aG
 ·exact⟨by simp only[iH];rw[←hm],rfl⟩
 ·exact aA
theorem aHA{f:FuncId}{p:Gl→Bool}{ok:Gl→Prop}(hp:cE Tryz.prog f [] [] (fun x=>.agg (fP x)) p ok)(r:Nat):cE Tryz.prog 291 [.ptr r 0] [(r,.box 280 [.fn (.func f) [] []])] (fun x=>.agg (fP x)) (fun x=> !p x) ok:=by
  refine⟨Tryz.call291,fun x hx=> ?_⟩;refine cC 8 [0,1,2,3] Tryz.func291 ?_;refine dW ?_;apply bx;rfl;rfl;(exact dM);rfl;refine aD fun r2 h2=> ?_;repeat rcases h2 with⟨_,h2⟩
  refine kY ?_;refine vC ?_;refine oV ?_;refine pR [] rfl hp.1 (hp.2 x hx) rfl aC aA ?_;rintro _ σ' ⟨rfl,rfl⟩ h6;refine EX ?_;refine dG ?_;apply aF;exact aG
  ·exact⟨rfl,rfl⟩
  ·exact aA
theorem aFl{f:FuncId}{p:Gl→Bool}{ok:Gl→Prop}(hp:cE Tryz.prog f [] [] (fun x=>.agg (fP x)) p ok)(l:List Gl)(hok:∀x∈l,ok x)(most:Int):SCall Tryz.prog 227 [.ro 3 (l.map fP) .any,.int .i64 most,.fn (.func f) [] []] [] (fun x σ'=>x=.bool (cP l most p)∧σ'=[]):=by
 refine cC 17 [0,1,2,5,6] Tryz.func227 ?_;refine dW ?_;apply bx;rfl;rfl;(exact dM);rfl;refine aD fun r5 h5=> ?_;repeat rcases h5 with⟨_,h5⟩
 refine dG ?_;by_cases hl:(l.length:Int)≤most
 ·have hE:cP l most p= !(l.any fun x=> !p x):=by unfold cP;rw[decide_eq_true hl,List.any_eq_not_all_not];simp
  have hd:decide ((l.length:Int)≤most)=true:=by simpa using hl
  refine qX ?_;rw[hd];refine vZ ?_;refine cw [(r5,.box 280 [.fn (.func f) [] []])] Tryz.call290 (aFk (aHA hp r5) l hok) rfl aC aA ?_;rintro _ σ' ⟨rfl,rfl⟩ h14;refine vY ?_;apply aF;exact aG
  ·exact⟨by rw[hE];rfl,rfl⟩
  ·exact aA
 ·have hE:cP l most p=false:=by unfold cP;rw[decide_eq_false hl];rfl
  have hd:decide ((l.length:Int)≤most)=false:=by simpa using hl
  refine qX ?_;rw[hd];refine wA ?_;apply aF;exact aG
  ·exact⟨by rw[hE];rfl,rfl⟩
  ·exact aA
theorem aFm{f:FuncId}{caps:List AV}{σ:dY}{p:Ex→Bool}{ok:Ex→Prop}(hp:cE Tryz.prog f caps σ (fun x=>.agg (fQ x)) p ok)(l:List Ex)(hok:∀x∈l,ok x):SCall Tryz.prog 203 [.ro 2 (l.map fQ) .any,.fn (.func f) [] caps] σ (fun x σ'=>∃m:Int,x=.int .i64 m∧decide (0≤m)=l.any p∧σ'=σ):=by
 refine cC 19 [0,1,4,5,7,8,9,16] Tryz.func203 ?_;refine iB (i:=0) rfl fun hm=> ?_
 rw[List.length_map]at hm;unfold maxLen at hm;refine rA ?_;refine lp (β:=Nat) (fun j=>⟨[(0,.ro 2 (l.map fQ) .any),(1,.fn (.func f) [] caps),(7,.int .i64 l.length),(8,.int .i64 j)],σ⟩) (fun j=>j≤l.length∧(l.take j).any p=false) (fun j=>l.length-j) 0 ?_ ⟨Nat.zero_le _,rfl⟩ ?_
 ·exact aK
 rintro j ⟨hj,ht⟩;refine jQ ?_;refine aB rfl (fun h1=> ?_) (fun h1=> ?_)
 ·have hlt:j<l.length:=by simp at h1;omega
  obtain⟨x,hx⟩:∃x,l[j]? =some x:=⟨_,List.getElem?_eq_getElem hlt⟩
  refine sN ?_;refine mB ?_;refine pR σ rfl hp.1 (hp.2 x (hok x (List.mem_of_getElem? hx))) rfl ?_ ?_ ?_
  ·exact aC
  ·exact fun _ h=>h
  rintro r σ' ⟨rfl,rfl⟩-;rw[eC,List.append_nil];refine jP ?_;refine aB rfl (fun h2=> ?_) (fun h2=> ?_)
  ·refine fN ?_;apply aF;exact aG
   ·refine⟨j,rfl, ?_,rfl⟩;rw[decide_eq_true (by omega)];exact(List.any_eq_true.2 ⟨x,List.mem_of_getElem? hx,h2⟩).symm
   ·exact aA
  ·refine lV ?_;refine⟨j+1,⟨by omega, ?_⟩,by omega, ?_⟩
   ·rw[List.take_add_one,hx,List.any_append,ht];simp[h2]
   ·exact aK
 ·refine bQ ?_;apply aF;exact aG
  ·simp at h1;rw[List.take_of_length_le (by omega)]at ht;exact⟨-1,rfl,by rw[ht];rfl,rfl⟩
  ·exact aA
theorem aFn{f:FuncId}{caps:List AV}{σ:dY}{p:Ex→Bool}{ok:Ex→Prop}(hp:cE Tryz.prog f caps σ (fun x=>.agg (fQ x)) p ok)(l:List Ex)(hok:∀x∈l,ok x):SCall Tryz.prog 85 [.ro 2 (l.map fQ) .any,.fn (.func f) [] caps] σ (fun x σ'=>x=.bool (l.any p)∧σ'=σ):=by
 refine cC 9 [0,1,4] Tryz.func85 ?_;refine mA ?_;refine cw σ Tryz.call203 (aFm hp l hok) rfl ?_ ?_ ?_
 ·exact aC
 ·exact fun _ h=>h
 rintro x σ' ⟨m,rfl,hm,rfl⟩-;rw[eC,List.append_nil];refine AT ?_;apply aF;exact aG
 ·exact⟨by simp only[iH];rw[←hm],rfl⟩
 ·exact aA
theorem aHB{f:FuncId}{p:Ex→Bool}{ok:Ex→Prop}(hp:cE Tryz.prog f [] [] (fun x=>.agg (fQ x)) p ok)(r:Nat):cE Tryz.prog 292 [.ptr r 0] [(r,.box 146 [.fn (.func f) [] []])] (fun x=>.agg (fQ x)) (fun x=> !p x) ok:=by
  refine⟨Tryz.call292,fun x hx=> ?_⟩;refine cC 8 [0,1,2,3] Tryz.func292 ?_;refine dW ?_;apply bx;rfl;rfl;(exact dM);rfl;refine aD fun r2 h2=> ?_;repeat rcases h2 with⟨_,h2⟩
  refine kY ?_;refine vC ?_;refine oV ?_;refine pR [] rfl hp.1 (hp.2 x hx) rfl aC aA ?_;rintro _ σ' ⟨rfl,rfl⟩ h6;refine EX ?_;refine dG ?_;apply aF;exact aG
  ·exact⟨rfl,rfl⟩
  ·exact aA
theorem aFo{f:FuncId}{p:Ex→Bool}{ok:Ex→Prop}(hp:cE Tryz.prog f [] [] (fun x=>.agg (fQ x)) p ok)(l:List Ex)(hok:∀x∈l,ok x)(most:Int):SCall Tryz.prog 230 [.ro 2 (l.map fQ) .any,.int .i64 most,.fn (.func f) [] []] [] (fun x σ'=>x=.bool (cP l most p)∧σ'=[]):=by
 refine cC 17 [0,1,2,5,6] Tryz.func230 ?_;refine dW ?_;apply bx;rfl;rfl;(exact dM);rfl;refine aD fun r5 h5=> ?_;repeat rcases h5 with⟨_,h5⟩
 refine dG ?_;by_cases hl:(l.length:Int)≤most
 ·have hE:cP l most p= !(l.any fun x=> !p x):=by unfold cP;rw[decide_eq_true hl,List.any_eq_not_all_not];simp
  have hd:decide ((l.length:Int)≤most)=true:=by simpa using hl
  refine qX ?_;rw[hd];refine vZ ?_;refine cw [(r5,.box 146 [.fn (.func f) [] []])] Tryz.call85 (aFn (aHB hp r5) l hok) rfl aC aA ?_;rintro _ σ' ⟨rfl,rfl⟩ h14;refine vY ?_;apply aF;exact aG
  ·exact⟨by rw[hE];rfl,rfl⟩
  ·exact aA
 ·have hE:cP l most p=false:=by unfold cP;rw[decide_eq_false hl];rfl
  have hd:decide ((l.length:Int)≤most)=false:=by simpa using hl
  refine qX ?_;rw[hd];refine wA ?_;apply aF;exact aG
  ·exact⟨by rw[hE];rfl,rfl⟩
  ·exact aA
theorem aFp{f:FuncId}{caps:List AV}{σ:dY}{p:El→Bool}{ok:El→Prop}(hp:cE Tryz.prog f caps σ (fun x=>.agg (fK x)) p ok)(l:List El)(hok:∀x∈l,ok x):SCall Tryz.prog 206 [.ro 2 (l.map fK) .any,.fn (.func f) [] caps] σ (fun x σ'=>∃m:Int,x=.int .i64 m∧decide (0≤m)=l.any p∧σ'=σ):=by
 refine cC 19 [0,1,4,5,7,8,9,16] Tryz.func206 ?_;refine iB (i:=0) rfl fun hm=> ?_
 rw[List.length_map]at hm;unfold maxLen at hm;refine rA ?_;refine lp (β:=Nat) (fun j=>⟨[(0,.ro 2 (l.map fK) .any),(1,.fn (.func f) [] caps),(7,.int .i64 l.length),(8,.int .i64 j)],σ⟩) (fun j=>j≤l.length∧(l.take j).any p=false) (fun j=>l.length-j) 0 ?_ ⟨Nat.zero_le _,rfl⟩ ?_
 ·exact aK
 rintro j ⟨hj,ht⟩;refine jQ ?_;refine aB rfl (fun h1=> ?_) (fun h1=> ?_)
 ·have hlt:j<l.length:=by simp at h1;omega
  obtain⟨x,hx⟩:∃x,l[j]? =some x:=⟨_,List.getElem?_eq_getElem hlt⟩
  refine sN ?_;refine mB ?_;refine pR σ rfl hp.1 (hp.2 x (hok x (List.mem_of_getElem? hx))) rfl ?_ ?_ ?_
  ·exact aC
  ·exact fun _ h=>h
  rintro r σ' ⟨rfl,rfl⟩-;rw[eC,List.append_nil];refine jP ?_;refine aB rfl (fun h2=> ?_) (fun h2=> ?_)
  ·refine fN ?_;apply aF;exact aG
   ·refine⟨j,rfl, ?_,rfl⟩;rw[decide_eq_true (by omega)];exact(List.any_eq_true.2 ⟨x,List.mem_of_getElem? hx,h2⟩).symm
   ·exact aA
  ·refine lV ?_;refine⟨j+1,⟨by omega, ?_⟩,by omega, ?_⟩
   ·rw[List.take_add_one,hx,List.any_append,ht];simp[h2]
   ·exact aK
 ·refine bQ ?_;apply aF;exact aG
  ·simp at h1;rw[List.take_of_length_le (by omega)]at ht;exact⟨-1,rfl,by rw[ht];rfl,rfl⟩
  ·exact aA
theorem aFq{f:FuncId}{caps:List AV}{σ:dY}{p:El→Bool}{ok:El→Prop}(hp:cE Tryz.prog f caps σ (fun x=>.agg (fK x)) p ok)(l:List El)(hok:∀x∈l,ok x):SCall Tryz.prog 91 [.ro 2 (l.map fK) .any,.fn (.func f) [] caps] σ (fun x σ'=>x=.bool (l.any p)∧σ'=σ):=by
 refine cC 9 [0,1,4] Tryz.func91 ?_;refine mA ?_;refine cw σ Tryz.call206 (aFp hp l hok) rfl ?_ ?_ ?_
 ·exact aC
 ·exact fun _ h=>h
 rintro x σ' ⟨m,rfl,hm,rfl⟩-;rw[eC,List.append_nil];refine AT ?_;apply aF;exact aG
 ·exact⟨by simp only[iH];rw[←hm],rfl⟩
 ·exact aA
theorem aHC{f:FuncId}{p:El→Bool}{ok:El→Prop}(hp:cE Tryz.prog f [] [] (fun x=>.agg (fK x)) p ok)(r:Nat):cE Tryz.prog 293 [.ptr r 0] [(r,.box 152 [.fn (.func f) [] []])] (fun x=>.agg (fK x)) (fun x=> !p x) ok:=by
  refine⟨Tryz.call293,fun x hx=> ?_⟩;refine cC 8 [0,1,2,3] Tryz.func293 ?_;refine dW ?_;apply bx;rfl;rfl;(exact dM);rfl;refine aD fun r2 h2=> ?_;repeat rcases h2 with⟨_,h2⟩
  refine kY ?_;refine vC ?_;refine oV ?_;refine pR [] rfl hp.1 (hp.2 x hx) rfl aC aA ?_;rintro _ σ' ⟨rfl,rfl⟩ h6;refine EX ?_;refine dG ?_;apply aF;exact aG
  ·exact⟨rfl,rfl⟩
  ·exact aA
theorem aFr{f:FuncId}{p:El→Bool}{ok:El→Prop}(hp:cE Tryz.prog f [] [] (fun x=>.agg (fK x)) p ok)(l:List El)(hok:∀x∈l,ok x)(most:Int):SCall Tryz.prog 232 [.ro 2 (l.map fK) .any,.int .i64 most,.fn (.func f) [] []] [] (fun x σ'=>x=.bool (cP l most p)∧σ'=[]):=by
 refine cC 17 [0,1,2,5,6] Tryz.func232 ?_;refine dW ?_;apply bx;rfl;rfl;(exact dM);rfl;refine aD fun r5 h5=> ?_;repeat rcases h5 with⟨_,h5⟩
 refine dG ?_;by_cases hl:(l.length:Int)≤most
 ·have hE:cP l most p= !(l.any fun x=> !p x):=by unfold cP;rw[decide_eq_true hl,List.any_eq_not_all_not];simp
  have hd:decide ((l.length:Int)≤most)=true:=by simpa using hl
  refine qX ?_;rw[hd];refine vZ ?_;refine cw [(r5,.box 152 [.fn (.func f) [] []])] Tryz.call91 (aFq (aHC hp r5) l hok) rfl aC aA ?_;rintro _ σ' ⟨rfl,rfl⟩ h14;refine vY ?_;apply aF;exact aG
  ·exact⟨by rw[hE];rfl,rfl⟩
  ·exact aA
 ·have hE:cP l most p=false:=by unfold cP;rw[decide_eq_false hl];rfl
  have hd:decide ((l.length:Int)≤most)=false:=by simpa using hl
  refine qX ?_;rw[hd];refine wA ?_;apply aF;exact aG
  ·exact⟨by rw[hE];rfl,rfl⟩
  ·exact aA
theorem aFs{f:FuncId}{caps:List AV}{σ:dY}{p:Co→Bool}{ok:Co→Prop}(hp:cE Tryz.prog f caps σ (fun x=>.agg (eS x)) p ok)(l:List Co)(hok:∀x∈l,ok x):SCall Tryz.prog 283 [.ro 2 (l.map eS) .any,.fn (.func f) [] caps] σ (fun x σ'=>∃m:Int,x=.int .i64 m∧decide (0≤m)=l.any p∧σ'=σ):=by
 refine cC 19 [0,1,4,5,7,8,9,16] Tryz.func283 ?_;refine iB (i:=0) rfl fun hm=> ?_
 rw[List.length_map]at hm;unfold maxLen at hm;refine rA ?_;refine lp (β:=Nat) (fun j=>⟨[(0,.ro 2 (l.map eS) .any),(1,.fn (.func f) [] caps),(7,.int .i64 l.length),(8,.int .i64 j)],σ⟩) (fun j=>j≤l.length∧(l.take j).any p=false) (fun j=>l.length-j) 0 ?_ ⟨Nat.zero_le _,rfl⟩ ?_
 ·exact aK
 rintro j ⟨hj,ht⟩;refine jQ ?_;refine aB rfl (fun h1=> ?_) (fun h1=> ?_)
 ·have hlt:j<l.length:=by simp at h1;omega
  obtain⟨x,hx⟩:∃x,l[j]? =some x:=⟨_,List.getElem?_eq_getElem hlt⟩
  refine sN ?_;refine mB ?_;refine pR σ rfl hp.1 (hp.2 x (hok x (List.mem_of_getElem? hx))) rfl ?_ ?_ ?_
  ·exact aC
  ·exact fun _ h=>h
  rintro r σ' ⟨rfl,rfl⟩-;rw[eC,List.append_nil];refine jP ?_;refine aB rfl (fun h2=> ?_) (fun h2=> ?_)
  ·refine fN ?_;apply aF;exact aG
   ·refine⟨j,rfl, ?_,rfl⟩;rw[decide_eq_true (by omega)];exact(List.any_eq_true.2 ⟨x,List.mem_of_getElem? hx,h2⟩).symm
   ·exact aA
  ·refine lV ?_;refine⟨j+1,⟨by omega, ?_⟩,by omega, ?_⟩
   ·rw[List.take_add_one,hx,List.any_append,ht];simp[h2]
   ·exact aK
 ·refine bQ ?_;apply aF;exact aG
  ·simp at h1;rw[List.take_of_length_le (by omega)]at ht;exact⟨-1,rfl,by rw[ht];rfl,rfl⟩
  ·exact aA
theorem aFt{f:FuncId}{caps:List AV}{σ:dY}{p:Co→Bool}{ok:Co→Prop}(hp:cE Tryz.prog f caps σ (fun x=>.agg (eS x)) p ok)(l:List Co)(hok:∀x∈l,ok x):SCall Tryz.prog 212 [.ro 2 (l.map eS) .any,.fn (.func f) [] caps] σ (fun x σ'=>x=.bool (l.any p)∧σ'=σ):=by
 refine cC 9 [0,1,4] Tryz.func212 ?_;refine mA ?_;refine cw σ Tryz.call283 (aFs hp l hok) rfl ?_ ?_ ?_
 ·exact aC
 ·exact fun _ h=>h
 rintro x σ' ⟨m,rfl,hm,rfl⟩-;rw[eC,List.append_nil];refine AT ?_;apply aF;exact aG
 ·exact⟨by simp only[iH];rw[←hm],rfl⟩
 ·exact aA
theorem aHD{f:FuncId}{p:Co→Bool}{ok:Co→Prop}(hp:cE Tryz.prog f [] [] (fun x=>.agg (eS x)) p ok)(r:Nat):cE Tryz.prog 213 [.ptr r 0] [(r,.box 182 [.fn (.func f) [] []])] (fun x=>.agg (eS x)) (fun x=> !p x) ok:=by
  refine⟨Tryz.call213,fun x hx=> ?_⟩;refine cC 8 [0,1,2,3] Tryz.func213 ?_;refine dW ?_;apply bx;rfl;rfl;(exact dM);rfl;refine aD fun r2 h2=> ?_;repeat rcases h2 with⟨_,h2⟩
  refine kY ?_;refine vC ?_;refine oV ?_;refine pR [] rfl hp.1 (hp.2 x hx) rfl aC aA ?_;rintro _ σ' ⟨rfl,rfl⟩ h6;refine EX ?_;refine dG ?_;apply aF;exact aG
  ·exact⟨rfl,rfl⟩
  ·exact aA
theorem aFu{f:FuncId}{p:Co→Bool}{ok:Co→Prop}(hp:cE Tryz.prog f [] [] (fun x=>.agg (eS x)) p ok)(l:List Co)(hok:∀x∈l,ok x)(most:Int):SCall Tryz.prog 106 [.ro 2 (l.map eS) .any,.int .i64 most,.fn (.func f) [] []] [] (fun x σ'=>x=.bool (cP l most p)∧σ'=[]):=by
 refine cC 17 [0,1,2,5,6] Tryz.func106 ?_;refine dW ?_;apply bx;rfl;rfl;(exact dM);rfl;refine aD fun r5 h5=> ?_;repeat rcases h5 with⟨_,h5⟩
 refine dG ?_;by_cases hl:(l.length:Int)≤most
 ·have hE:cP l most p= !(l.any fun x=> !p x):=by unfold cP;rw[decide_eq_true hl,List.any_eq_not_all_not];simp
  have hd:decide ((l.length:Int)≤most)=true:=by simpa using hl
  refine qX ?_;rw[hd];refine vZ ?_;refine cw [(r5,.box 182 [.fn (.func f) [] []])] Tryz.call212 (aFt (aHD hp r5) l hok) rfl aC aA ?_;rintro _ σ' ⟨rfl,rfl⟩ h14;refine vY ?_;apply aF;exact aG
  ·exact⟨by rw[hE];rfl,rfl⟩
  ·exact aA
 ·have hE:cP l most p=false:=by unfold cP;rw[decide_eq_false hl];rfl
  have hd:decide ((l.length:Int)≤most)=false:=by simpa using hl
  refine qX ?_;rw[hd];refine wA ?_;apply aF;exact aG
  ·exact⟨by rw[hE];rfl,rfl⟩
  ·exact aA
theorem aFv{f:FuncId}{caps:List AV}{σ:dY}{p:Da→Bool}{ok:Da→Prop}(hp:cE Tryz.prog f caps σ (fun x=>.agg (fL x)) p ok)(l:List Da)(hok:∀x∈l,ok x):SCall Tryz.prog 313 [.ro 2 (l.map fL) .any,.fn (.func f) [] caps] σ (fun x σ'=>∃m:Int,x=.int .i64 m∧decide (0≤m)=l.any p∧σ'=σ):=by
 refine cC 19 [0,1,4,5,7,8,9,16] Tryz.func313 ?_;refine iB (i:=0) rfl fun hm=> ?_
 rw[List.length_map]at hm;unfold maxLen at hm;refine rA ?_;refine lp (β:=Nat) (fun j=>⟨[(0,.ro 2 (l.map fL) .any),(1,.fn (.func f) [] caps),(7,.int .i64 l.length),(8,.int .i64 j)],σ⟩) (fun j=>j≤l.length∧(l.take j).any p=false) (fun j=>l.length-j) 0 ?_ ⟨Nat.zero_le _,rfl⟩ ?_
 ·exact aK
 rintro j ⟨hj,ht⟩;refine jQ ?_;refine aB rfl (fun h1=> ?_) (fun h1=> ?_)
 ·have hlt:j<l.length:=by simp at h1;omega
  obtain⟨x,hx⟩:∃x,l[j]? =some x:=⟨_,List.getElem?_eq_getElem hlt⟩
  refine sN ?_;refine mB ?_;refine pR σ rfl hp.1 (hp.2 x (hok x (List.mem_of_getElem? hx))) rfl ?_ ?_ ?_
  ·exact aC
  ·exact fun _ h=>h
  rintro r σ' ⟨rfl,rfl⟩-;rw[eC,List.append_nil];refine jP ?_;refine aB rfl (fun h2=> ?_) (fun h2=> ?_)
  ·refine fN ?_;apply aF;exact aG
   ·refine⟨j,rfl, ?_,rfl⟩;rw[decide_eq_true (by omega)];exact(List.any_eq_true.2 ⟨x,List.mem_of_getElem? hx,h2⟩).symm
   ·exact aA
  ·refine lV ?_;refine⟨j+1,⟨by omega, ?_⟩,by omega, ?_⟩
   ·rw[List.take_add_one,hx,List.any_append,ht];simp[h2]
   ·exact aK
 ·refine bQ ?_;apply aF;exact aG
  ·simp at h1;rw[List.take_of_length_le (by omega)]at ht;exact⟨-1,rfl,by rw[ht];rfl,rfl⟩
  ·exact aA
theorem aFw{f:FuncId}{caps:List AV}{σ:dY}{p:Da→Bool}{ok:Da→Prop}(hp:cE Tryz.prog f caps σ (fun x=>.agg (fL x)) p ok)(l:List Da)(hok:∀x∈l,ok x):SCall Tryz.prog 294 [.ro 2 (l.map fL) .any,.fn (.func f) [] caps] σ (fun x σ'=>x=.bool (l.any p)∧σ'=σ):=by
 refine cC 9 [0,1,4] Tryz.func294 ?_;refine mA ?_;refine cw σ Tryz.call313 (aFv hp l hok) rfl ?_ ?_ ?_
 ·exact aC
 ·exact fun _ h=>h
 rintro x σ' ⟨m,rfl,hm,rfl⟩-;rw[eC,List.append_nil];refine AT ?_;apply aF;exact aG
 ·exact⟨by simp only[iH];rw[←hm],rfl⟩
 ·exact aA
theorem aHE{f:FuncId}{p:Da→Bool}{ok:Da→Prop}(hp:cE Tryz.prog f [] [] (fun x=>.agg (fL x)) p ok)(r:Nat):cE Tryz.prog 295 [.ptr r 0] [(r,.box 284 [.fn (.func f) [] []])] (fun x=>.agg (fL x)) (fun x=> !p x) ok:=by
  refine⟨Tryz.call295,fun x hx=> ?_⟩;refine cC 8 [0,1,2,3] Tryz.func295 ?_;refine dW ?_;apply bx;rfl;rfl;(exact dM);rfl;refine aD fun r2 h2=> ?_;repeat rcases h2 with⟨_,h2⟩
  refine kY ?_;refine vC ?_;refine oV ?_;refine pR [] rfl hp.1 (hp.2 x hx) rfl aC aA ?_;rintro _ σ' ⟨rfl,rfl⟩ h6;refine EX ?_;refine dG ?_;apply aF;exact aG
  ·exact⟨rfl,rfl⟩
  ·exact aA
theorem aFx{f:FuncId}{p:Da→Bool}{ok:Da→Prop}(hp:cE Tryz.prog f [] [] (fun x=>.agg (fL x)) p ok)(l:List Da)(hok:∀x∈l,ok x)(most:Int):SCall Tryz.prog 235 [.ro 2 (l.map fL) .any,.int .i64 most,.fn (.func f) [] []] [] (fun x σ'=>x=.bool (cP l most p)∧σ'=[]):=by
 refine cC 17 [0,1,2,5,6] Tryz.func235 ?_;refine dW ?_;apply bx;rfl;rfl;(exact dM);rfl;refine aD fun r5 h5=> ?_;repeat rcases h5 with⟨_,h5⟩
 refine dG ?_;by_cases hl:(l.length:Int)≤most
 ·have hE:cP l most p= !(l.any fun x=> !p x):=by unfold cP;rw[decide_eq_true hl,List.any_eq_not_all_not];simp
  have hd:decide ((l.length:Int)≤most)=true:=by simpa using hl
  refine qX ?_;rw[hd];refine vZ ?_;refine cw [(r5,.box 284 [.fn (.func f) [] []])] Tryz.call294 (aFw (aHE hp r5) l hok) rfl aC aA ?_;rintro _ σ' ⟨rfl,rfl⟩ h14;refine vY ?_;apply aF;exact aG
  ·exact⟨by rw[hE];rfl,rfl⟩
  ·exact aA
 ·have hE:cP l most p=false:=by unfold cP;rw[decide_eq_false hl];rfl
  have hd:decide ((l.length:Int)≤most)=false:=by simpa using hl
  refine qX ?_;rw[hd];refine wA ?_;apply aF;exact aG
  ·exact⟨by rw[hE];rfl,rfl⟩
  ·exact aA
theorem aB5{f:FuncId}{caps:List AV}{σ:dY}{p:Ins→Bool}{ok:Ins→Prop}(hp:cE Tryz.prog f caps σ (fun x=>.agg (iv .any x)) p ok)(l:List Ins)(hok:∀x∈l,ok x):SCall Tryz.prog 284 [.ro 4 (l.map (iv .any)) .any,.fn (.func f) [] caps] σ (fun x σ'=>∃m:Int,x=.int .i64 m∧decide (0≤m)=l.any p∧σ'=σ):=by
 refine cC 19 [0,1,4,5,7,8,9,16] Tryz.func284 ?_;refine iB (i:=0) rfl fun hm=> ?_
 rw[List.length_map]at hm;unfold maxLen at hm;refine rA ?_;refine lp (β:=Nat) (fun j=>⟨[(0,.ro 4 (l.map (iv .any)) .any),(1,.fn (.func f) [] caps),(7,.int .i64 l.length),(8,.int .i64 j)],σ⟩) (fun j=>j≤l.length∧(l.take j).any p=false) (fun j=>l.length-j) 0 ?_ ⟨Nat.zero_le _,rfl⟩ ?_
 ·exact aK
 rintro j ⟨hj,ht⟩;refine jQ ?_;refine aB rfl (fun h1=> ?_) (fun h1=> ?_)
 ·have hlt:j<l.length:=by simp at h1;omega
  obtain⟨x,hx⟩:∃x,l[j]? =some x:=⟨_,List.getElem?_eq_getElem hlt⟩
  refine sN ?_;refine mB ?_;refine pR σ rfl hp.1 (hp.2 x (hok x (List.mem_of_getElem? hx))) rfl ?_ ?_ ?_
  ·exact aC
  ·exact fun _ h=>h
  rintro r σ' ⟨rfl,rfl⟩-;rw[eC,List.append_nil];refine jP ?_;refine aB rfl (fun h2=> ?_) (fun h2=> ?_)
  ·refine fN ?_;apply aF;exact aG
   ·refine⟨j,rfl, ?_,rfl⟩;rw[decide_eq_true (by omega)];exact(List.any_eq_true.2 ⟨x,List.mem_of_getElem? hx,h2⟩).symm
   ·exact aA
  ·refine lV ?_;refine⟨j+1,⟨by omega, ?_⟩,by omega, ?_⟩
   ·rw[List.take_add_one,hx,List.any_append,ht];simp[h2]
   ·exact aK
 ·refine bQ ?_;apply aF;exact aG
  ·simp at h1;rw[List.take_of_length_le (by omega)]at ht;exact⟨-1,rfl,by rw[ht];rfl,rfl⟩
  ·exact aA
theorem aB6{f:FuncId}{caps:List AV}{σ:dY}{p:Ins→Bool}{ok:Ins→Prop}(hp:cE Tryz.prog f caps σ (fun x=>.agg (iv .any x)) p ok)(l:List Ins)(hok:∀x∈l,ok x):SCall Tryz.prog 215 [.ro 4 (l.map (iv .any)) .any,.fn (.func f) [] caps] σ (fun x σ'=>x=.bool (l.any p)∧σ'=σ):=by
 refine cC 9 [0,1,4] Tryz.func215 ?_;refine mA ?_;refine cw σ Tryz.call284 (aB5 hp l hok) rfl ?_ ?_ ?_
 ·exact aC
 ·exact fun _ h=>h
 rintro x σ' ⟨m,rfl,hm,rfl⟩-;rw[eC,List.append_nil];refine AT ?_;apply aF;exact aG
 ·exact⟨by simp only[iH];rw[←hm],rfl⟩
 ·exact aA
theorem aFy{f:FuncId}{p:Ins→Bool}{ok:Ins→Prop}(hp:cE Tryz.prog f [] [] (fun x=>.agg (iv .any x)) p ok)(r:Nat):cE Tryz.prog 216 [.ptr r 0] [(r,.box 134 [.fn (.func f) [] []])] (fun x=>.agg (iv .any x)) (fun x=> !p x) ok:=by
  refine⟨Tryz.call216,fun x hx=> ?_⟩;refine cC 8 [0,1,2,3] Tryz.func216 ?_;refine dW ?_;apply bx;rfl;rfl;(exact dM);rfl;refine aD fun r2 h2=> ?_;repeat rcases h2 with⟨_,h2⟩
  refine kY ?_;refine vC ?_;refine oV ?_;refine pR [] rfl hp.1 (hp.2 x hx) rfl aC aA ?_;rintro _ σ' ⟨rfl,rfl⟩ h6;refine EX ?_;refine dG ?_;apply aF;exact aG
  ·exact⟨rfl,rfl⟩
  ·exact aA
theorem aB7{f:FuncId}{p:Ins→Bool}{ok:Ins→Prop}(hp:cE Tryz.prog f [] [] (fun x=>.agg (iv .any x)) p ok)(l:List Ins)(hok:∀x∈l,ok x)(most:Int):SCall Tryz.prog 110 [.ro 4 (l.map (iv .any)) .any,.int .i64 most,.fn (.func f) [] []] [] (fun x σ'=>x=.bool (cP l most p)∧σ'=[]):=by
 refine cC 17 [0,1,2,5,6] Tryz.func110 ?_;refine dW ?_;apply bx;rfl;rfl;(exact dM);rfl;refine aD fun r5 h5=> ?_;repeat rcases h5 with⟨_,h5⟩
 refine dG ?_;by_cases hl:(l.length:Int)≤most
 ·have hE:cP l most p= !(l.any fun x=> !p x):=by unfold cP;rw[decide_eq_true hl,List.any_eq_not_all_not];simp
  have hd:decide ((l.length:Int)≤most)=true:=by simpa using hl
  refine qX ?_;rw[hd];refine vZ ?_;refine cw [(r5,.box 134 [.fn (.func f) [] []])] Tryz.call215 (aB6 (aFy hp r5) l hok) rfl aC aA ?_;rintro _ σ' ⟨rfl,rfl⟩ h14;refine vY ?_;apply aF;exact aG
  ·exact⟨by rw[hE];rfl,rfl⟩
  ·exact aA
 ·have hE:cP l most p=false:=by unfold cP;rw[decide_eq_false hl];rfl
  have hd:decide ((l.length:Int)≤most)=false:=by simpa using hl
  refine qX ?_;rw[hd];refine wA ?_;apply aF;exact aG
  ·exact⟨by rw[hE];rfl,rfl⟩
  ·exact aA
end Go.Proofs.YtjpdadobblffmaaGreat
namespace Go.Proofs.YtjpdadobblffmaaGreat
open Go.RowKit Go.ChangeShapes Go.WideShapes Go.ChangeAt Go.Deep
attribute [local irreducible] SW RS RD gJ fA
theorem KC:cE Tryz.prog 109 [] [] (fun n=>.int .i64 n) yC (fun _=>True):=by
 refine⟨Tryz.call109,fun k _=> ?_⟩;refine cC 9 [0,2] Tryz.func109 ?_;refine fV ?_;refine lo (dD (E rfl) (E rfl)) rfl ?_;refine jK ?_;refine wJ ?_;refine qG ?_;refine dG ?_;apply aF;exact aG
 ·exact⟨rfl,rfl⟩
 ·exact aA
theorem wY(n:Int):SCall Tryz.prog 226 [.int .i64 n] [] (fun r σ'=>r=.bool (iK n)∧σ'=[]):=by
 refine cC 9 [0,2] Tryz.func226 ?_;refine fV ?_;refine GP ?_;refine IS ?_;refine kD ?_;apply aF;exact aG
 ·exact⟨rfl,rfl⟩
 ·exact aA
theorem NU:cE Tryz.prog 226 [] [] (fun n=>.int .i64 n) iK (fun _=>True):=⟨Tryz.call226,fun n _=>wY n⟩
theorem NV(n:Int):SCall Tryz.prog 234 [.int .i64 n] [] (fun r σ'=>r=.bool (kE n)∧σ'=[]):=by
 refine cC 9 [0,2] Tryz.func234 ?_;refine fV ?_;refine GP ?_;refine IS ?_;refine kD ?_;apply aF;exact aG
 ·exact⟨by unfold kE;cases h:decide (-2147483648≤n)<;>simp_all [iH],rfl⟩
 ·exact aA
def chN (c:Nat):Bool:=decide (32≤c)&&decide (c≤126)
theorem aB8:cE Tryz.prog 289 [] [] (fun(n:Nat)=>.int .u8 n) chN (fun _=>True):=by
 refine⟨Tryz.call289,fun k _=> ?_⟩;refine cC 9 [0,2] Tryz.func289 ?_;refine fV ?_;refine GP ?_;refine IS ?_;refine kD ?_;apply aF;exact aG
 ·exact⟨by unfold chN;rw[show decide (32≤k)=decide ((32:Int)≤(k:Int))from decide_eq_decide.2 (by omega),show decide (k≤126)=decide ((k:Int)≤(126:Int))from decide_eq_decide.2 (by omega)];cases h:decide ((32:Int)≤(k:Int))<;>simp_all [iH],rfl⟩
 ·exact aA
theorem pZ(l:Li)(a c:Int):SCall Tryz.prog 113 [.agg (iI l),.int .i64 a,.int .i64 c] [] (fun r σ'=>r=.bool (lC l a c)∧σ'=[]):=by
 obtain⟨has,mn,mx⟩:=l;refine cC 38 [0,1,2,3,6,9] Tryz.func113 ?_;unfold iI;refine dW ?_;apply bx;rfl;rfl;(exact dM);rfl;refine aD fun r3 h3=> ?_;repeat rcases h3 with⟨_,h3⟩
 refine jF ?_;refine tU ?_;refine aB rfl (fun g1=> ?_) (fun g1=> ?_)
 ·have hE:lC ⟨has,mn,mx⟩ a c=if(mn==0)=true then(mx==0)else false:=by obtain rfl:has=false:=(by simpa using g1);unfold lC;cases h:mn==0<;>simp_all
  refine fS ?_;refine AF ?_;refine wJ ?_;refine kD ?_;apply aF;exact aG
  ·exact⟨by rw[hE];rfl,rfl⟩
  ·exact aA
 have hE:lC ⟨has,mn,mx⟩ a c=if(if(if decide (0≤mn)=true then decide (mn≤a)else false)=true then decide (-1≤mx)else false)=true then decide (mx≤c)else false:=by obtain rfl:has=true:=(by simpa using g1);unfold lC;rw[if_pos rfl];cases h:decide (0≤mn)<;>cases h2:decide (mn≤a)<;>cases h3:decide (-1≤mx)<;>rfl
 refine fS ?_;refine lo (fI (E rfl) (E rfl)) rfl ?_;refine qZ ?_;refine XA ?_;refine rS ?_;refine nH ?_;refine aBe ?_;refine rS ?_;refine qZ ?_;refine XA ?_;refine kD ?_;apply aF;exact aG
 ·exact⟨by rw[hE];rfl,rfl⟩
 ·exact aA
theorem ZE(s:List Nat):sW s=if(!decide (s=[]))=true then cP s 16 chN else false:=by
 unfold sW cP chN;rcases s with _ |⟨x,s⟩
 ·rfl
 ·rw[if_pos (by simp),if_pos (by simp),show decide ((x::s).length≤16)=decide (((x::s).length:Int)≤16)from decide_eq_decide.2 (by omega)]
theorem zR(s:List Nat)(hs:s.length≤100000)(hlt:∀c∈s,c<256):SCall Tryz.prog 225 [.str (dV s)] [] (fun r σ'=>r=.bool (sW s)∧σ'=[]):=by
 have hz:((dV s).toList==(⟨#[]⟩:ByteArray).toList)=decide (s=[]):=oU (m:=[]) hlt (by simp);refine cC 10 [0,2] Tryz.func225 ?_;refine bQ ?_;by_cases hs:s=[]
 ·have hd:(!decide (s=[]))=false:=by rw[decide_eq_true hs];rfl
  refine gK ?_;refine lo (LL (E rfl) (E rfl)) rfl ?_;rw[hz,hd];refine jK ?_;refine ln rfl rfl rfl rfl ?_;refine ln rfl rfl rfl rfl ?_;refine kD ?_;apply aF;exact aG
  ·exact⟨by rw[ZE,hd];rfl,rfl⟩
  ·exact aA
 ·have hd:(!decide (s=[]))=true:=by rw[decide_eq_false hs];rfl
  refine gK ?_;refine lo (LL (E rfl) (E rfl)) rfl ?_;rw[hz,hd];refine jK ?_;refine gy rfl rfl ?_;refine cvb hlt ?_ (by simp[maxLen];omega);refine gy rfl rfl ?_;refine oE Tryz.call288 (aFf aB8 s (fun _ _=>True.intro) 16) rfl bG bK ?_;refine kD ?_;apply aF;exact aG
  ·exact⟨by rw[ZE,hd];rfl,rfl⟩
  ·exact aA
def kU (s:List Nat):Prop:=s.length≤100000∧∀c∈s,c<256
structure Md.W (m:Md):Prop where
 im:∀x∈m.im,kU x.mod∧kU x.nm
 ex:∀x∈m.ex,kU x.nm
 co:∀x∈m.co,x.bd.length≤100000
 il:m.im.length≤4294967296
 da:∀x∈m.da,∀c∈x.bs,c<256
theorem mI(a b:Bool):(if a=true then b else false)=(a&&b):=by cases a<;>rfl
theorem ZF(k n:Int):SCall Tryz.prog 229 [.agg [.int .i64 k,.int .i64 n]] [] (fun r σ'=>r=.bool (lW k n)∧σ'=[]):=by
 refine cC 21 [0,1,2] Tryz.func229 ?_;refine dW ?_;apply bx;rfl;rfl;(exact dM);rfl;refine aD fun r1 h1=> ?_;repeat rcases h1 with⟨_,h1⟩
 refine jF ?_;refine AF ?_;refine wJ ?_;refine XB ?_;refine XC ?_;refine XD ?_;refine aGO ?_;refine aBf ?_;refine XB ?_;refine XC ?_;refine XD ?_;refine aII ?_;refine aBf ?_;refine qG ?_;refine dG ?_;apply aF;exact aG
 ·exact⟨by unfold lW;cases h:(k==2)<;>cases h1:(k==1)<;>cases h2:decide (-2147483648≤n)<;>cases h3:decide (n≤2147483647)<;>rfl,rfl⟩
 ·exact aA
theorem aHF:cE Tryz.prog 222 [] [] (fun x=>.agg (eF x)) (fun t=>cP t.pr 32 yC&&cP t.rs 1 yC) (fun _=>True):=by
 refine⟨Tryz.call222,fun t _=> ?_⟩;obtain⟨pr,rs⟩:=t;refine cC 11 [0,1,2] Tryz.func222 ?_;unfold eF;refine dW ?_;apply bx;rfl;rfl;(exact dM);rfl;refine aD fun r1 h1=> ?_;repeat rcases h1 with⟨_,h1⟩
 refine jF ?_;refine oE Tryz.call108 (yM KC pr (fun _ _=>True.intro) 32) rfl bG bK ?_;refine nH ?_;refine kV rfl rfl Tryz.call108 (fun _=>(yM KC rs (fun _ _=>True.intro) 1)) rfl bG bK ?_;refine kD ?_;apply aF;exact aG
 ·exact⟨by simp only[iH];rw[mI],rfl⟩
 ·exact aA
theorem aHG:cE Tryz.prog 224 [] [] (fun x=>.agg (fT x)) (fun x=>sW x.mod&&sW x.nm&&iK x.ty) (fun x=>kU x.mod∧kU x.nm):=by
 refine⟨Tryz.call224,fun t ht=> ?_⟩;obtain⟨md,nm,ty⟩:=t;obtain⟨⟨h1,h2⟩,h3,h4⟩:=ht;refine cC 16 [0,1,2] Tryz.func224 ?_;unfold fT;refine dW ?_;apply bx;rfl;rfl;(exact dM);rfl;refine aD fun r1 h1=> ?_;repeat rcases h1 with⟨_,h1⟩
 refine jF ?_;refine oE Tryz.call225 (zR md h1 h2) rfl bG bK ?_;refine nH ?_;refine kV rfl rfl Tryz.call225 (fun _=>(zR nm h3 h4)) rfl bG bK ?_;refine rS ?_;refine nH ?_;refine kV rfl rfl Tryz.call226 (fun _=>(wY ty)) rfl bG bK ?_;refine kD ?_;apply aF;exact aG
 ·exact⟨by dsimp only;cases sW md<;>cases sW nm<;>rfl,rfl⟩
 ·exact aA
theorem aHH:cE Tryz.prog 228 [] [] (fun x=>.agg (fP x)) (fun g=>lW g.kd g.n) (fun _=>True):=by
 refine⟨Tryz.call228,fun t _=> ?_⟩;obtain⟨mu,k,n⟩:=t;refine cC 6 [0,1,2] Tryz.func228 ?_;unfold fP;refine dW ?_;apply bx;rfl;rfl;(exact dM);rfl;refine aD fun r1 h1=> ?_;repeat rcases h1 with⟨_,h1⟩
 refine kY ?_;refine wI ?_;refine oV ?_;refine oE Tryz.call229 (ZF k n) rfl bG bK ?_;refine dG ?_;apply aF;exact aG
 ·exact⟨rfl,rfl⟩
 ·exact aA
theorem aHI:cE Tryz.prog 231 [] [] (fun x=>.agg (fQ x)) (fun x=>sW x.nm&&iK x.fn) (fun x=>kU x.nm):=by
 refine⟨Tryz.call231,fun t ht=> ?_⟩;obtain⟨nm,fn⟩:=t;obtain⟨h3,h4⟩:=ht;refine cC 11 [0,1,2] Tryz.func231 ?_;unfold fQ;refine dW ?_;apply bx;rfl;rfl;(exact dM);rfl;refine aD fun r1 h1=> ?_;repeat rcases h1 with⟨_,h1⟩
 refine jF ?_;refine oE Tryz.call225 (zR nm h3 h4) rfl bG bK ?_;refine nH ?_;refine kV rfl rfl Tryz.call226 (fun _=>(wY fn)) rfl bG bK ?_;refine kD ?_;apply aF;exact aG
 ·exact⟨by simp only[iH];rw[mI],rfl⟩
 ·exact aA
theorem aHJ:cE Tryz.prog 233 [] [] (fun x=>.agg (fK x)) (fun x=>kE x.off&&cP x.fs 50 iK) (fun _=>True):=by
 refine⟨Tryz.call233,fun t _=> ?_⟩;obtain⟨o,fs⟩:=t;refine cC 11 [0,1,2] Tryz.func233 ?_;unfold fK;refine dW ?_;apply bx;rfl;rfl;(exact dM);rfl;refine aD fun r1 h1=> ?_;repeat rcases h1 with⟨_,h1⟩
 refine jF ?_;refine oE Tryz.call234 (NV o) rfl bG bK ?_;refine nH ?_;refine kV rfl rfl Tryz.call108 (fun _=>(yM NU fs (fun _ _=>True.intro) 50)) rfl bG bK ?_;refine kD ?_;apply aF;exact aG
 ·exact⟨by simp only[iH];rw[mI],rfl⟩
 ·exact aA
theorem aHK:cE Tryz.prog 236 [] [] (fun x=>.agg (fL x)) (fun x=>kE x.off&&decide (x.bs.length≤1000)) (fun _=>True):=by
 refine⟨Tryz.call236,fun t _=> ?_⟩;obtain⟨o,bs⟩:=t;refine cC 12 [0,1,2] Tryz.func236 ?_;unfold fL;refine dW ?_;apply bx;rfl;rfl;(exact dM);rfl;refine aD fun r1 h1=> ?_;repeat rcases h1 with⟨_,h1⟩
 refine jF ?_;refine oE Tryz.call234 (NV o) rfl bG bK ?_;refine nH ?_;refine pP ?_;refine IS ?_;refine kD ?_;apply aF;exact aG
 ·exact⟨by dsimp only;rw[show decide (bs.length≤1000)=decide ((bs.length:Int)≤1000)from decide_eq_decide.2 (by omega)];cases h:kE o<;>simp[iH],rfl⟩
 ·exact aA
theorem aFz:cE Tryz.prog 111 [] [] (fun x=>.agg (iv .any x)) dC (fun _=>True):=⟨Tryz.call111,fun x _=>UH .any x⟩
theorem aHL:cE Tryz.prog 107 [] [] (fun x=>.agg (eS x)) sA (fun x=>x.bd.length≤100000):=by
 refine⟨Tryz.call107,fun t hb=> ?_⟩;obtain⟨ls,bd⟩:=t;dsimp only at hb;refine cC 22 [0,1,2,4] Tryz.func107 ?_;unfold eS;refine dW ?_;apply bx;rfl;rfl;(exact dM);rfl;refine aD fun r1 h1=> ?_;repeat rcases h1 with⟨_,h1⟩
 refine jF ?_;refine qQ Tryz.call75 (pC bd hb) rfl bS kI ?_;rintro _ σ' ⟨q4,rfl,rfl⟩ h8
 replace h8:=cO h8;repeat rcases h8 with⟨_,h8⟩
 refine pU ?_;refine kJ ?_;refine mK ?_;refine mD ?_;refine kV rfl rfl Tryz.call108 (fun _=>(yM KC ls (fun _ _=>True.intro) 32)) rfl bG bK ?_;refine rS ?_;refine nH ?_;refine kV rfl rfl Tryz.call110 (fun _=>(aB7 aFz bd (fun _ _=>True.intro) 300)) rfl bG bK ?_;refine kD ?_;apply aF;exact aG
 ·exact⟨by unfold sA;dsimp only;cases vS (cV bd)<;>cases cP ls 32 yC<;>rfl,rfl⟩
 ·exact aA
theorem QD(m:Md)(hw:m.W):SCall Tryz.prog 112 [.agg (cK m)] [] (fun r σ'=>r=.bool (pE m)∧σ'=[]):=by
 obtain⟨h1,h2,h3,h4,hd5⟩:=hw;obtain⟨ty,im,fn,tb,me,gl,ex,el,co,da⟩:=m;dsimp only at h1 h2 h3 h4;have hE:∀(a b c d e f g:Bool),(if(if(if(if(if(if a=true then b else false)=true then c else false)=true then d else false)=true then e else false)=true then f else false)=true then g else false)=(a&&b&&c&&d&&e&&f&&g):=by
  intro a b c d e f g;cases a<;>cases b<;>cases c<;>cases d<;>cases e<;>cases f<;>rfl
 refine cC 54 [0,1,2,3,4,5,6,7,8,9] Tryz.func112 ?_;unfold cK;refine dW ?_;apply bx;rfl;rfl;(exact dM);rfl;refine aD fun r1 h1=> ?_;repeat rcases h1 with⟨_,h1⟩
 refine jF ?_;refine oE Tryz.call221 (aFb aHF ty (fun _ _=>True.intro) 16) rfl bG bK ?_;refine jF ?_;refine oE Tryz.call223 (aFi aHG im h1 16) rfl bG bK ?_;refine jF ?_;refine gF ?_;refine lU ?_;refine rP ?_;refine oE Tryz.call108 (yM NU fn (fun _ _=>True.intro) _) rfl bG bK ?_;refine jF ?_;refine oE Tryz.call227 (aFl aHH gl (fun _ _=>True.intro) 16) rfl bG bK ?_;refine jF ?_;refine oE Tryz.call230 (aFo aHI ex h2 16) rfl bG bK ?_;refine jF ?_;refine oE Tryz.call232 (aFr aHJ el (fun _ _=>True.intro) 16) rfl bG bK ?_;refine jF ?_;refine oE Tryz.call235 (aFx aHK da (fun _ _=>True.intro) 16) rfl bG bK ?_;refine nK ?_;refine qV ?_;refine rS ?_;refine jK ?_;refine rS ?_;refine jK ?_;refine rS ?_;refine jK ?_;refine rS ?_;refine jK ?_;refine rS ?_;refine jK ?_;refine kD ?_;apply aF;exact aG
 ·exact⟨by simp only[iH];rw[hE];rfl,rfl⟩
 ·exact aA
structure Md.WO (m:Md):Prop where
 w:m.W
 ok:m.Ok
theorem DJ(m:Md)(h:m.WO):SCall Tryz.prog 51 [.agg (cK m)] [] (fun r σ'=>r=.bool (pS m)∧σ'=[]):=by
 have hM:=vJ m;have hA:pT m=((if((m.co.length:Int)==(m.fn.length:Int))=true then cP m.co 16 sA else false)&&pE m&&lC m.tb 16 1000&&lC m.me 16 65536):=by
  unfold pT;rw[mI,show((m.co.length:Int)==(m.fn.length:Int))=(m.co.length==m.fn.length) by rw[Bool.eq_iff_iff];simp only[beq_iff_eq];omega]
 have hL:decide ((fH m).length≤8000)=decide (((fH m).length:Int)≤8000):=decide_eq_decide.2 (by omega);rw[hL]at hM;refine cC 37 [0,1,2,3] Tryz.func51 ?_;refine dW ?_;apply bx;rfl;rfl;(exact dM);rfl;refine aD fun r1 h1=> ?_;repeat rcases h1 with⟨_,h1⟩
 refine dG ?_;have hwr:=fun h'=>yL m h' h.ok
 obtain⟨⟨h1,h2,h3,h4,hd5⟩,h5⟩:=h;obtain⟨ty,im,fn,tb,me,gl,ex,el,co,da⟩:=m;have hli:=QD ⟨ty,im,fn,tb,me,gl,ex,el,co,da⟩ ⟨h1,h2,h3,h4,hd5⟩;dsimp only at h1 h2 h3 h4 hA hM;refine kZ ?_;refine lU ?_;refine gF ?_;refine lU ?_;refine AF ?_;refine kV rfl rfl Tryz.call106 (fun _=>(aFu aHL co h3 16)) rfl bG bK ?_;refine kD ?_;by_cases hc:pT ⟨ty,im,fn,tb,me,gl,ex,el,co,da⟩=true
 ·have hc2:=hc;rw[hA]at hc2;simp only[Bool.and_eq_true]at hc2;obtain⟨⟨⟨e1,e2⟩,e3⟩,e4⟩:=hc2;rw[e2]at hli;have hl1:=pZ tb 16 1000;have hl2:=pZ me 16 65536;rw[e3]at hl1;rw[e4]at hl2;have hE:pS ⟨ty,im,fn,tb,me,gl,ex,el,co,da⟩=decide (((fH ⟨ty,im,fn,tb,me,gl,ex,el,co,da⟩).length:Int)≤8000):=by rw[hM,hc];rfl
  rw[e1];refine mK ?_;refine aBg ?_;refine gy rfl rfl ?_;refine oE Tryz.call112 hli rfl bG bK ?_;refine rS ?_;refine IU ?_;refine EW ?_;refine gy rfl rfl ?_;refine oE Tryz.call113 hl1 rfl bG bK ?_;refine rS ?_;refine IU ?_;refine EW ?_;refine gy rfl rfl ?_;refine oE Tryz.call113 hl2 rfl bG bK ?_;refine rS ?_;refine xP ?_;refine gy rfl rfl ?_;refine qQ Tryz.call56 (hwr hc) rfl bS kI ?_;rintro _ σ' ⟨q33,rfl,rfl⟩ h33
  replace h33:=cO h33;repeat rcases h33 with⟨_,h33⟩
  apply aT;(exact bF);refine pP ?_;refine IS ?_;refine kD ?_;apply aF;exact aG
  ·exact⟨by rw[hE];rfl,rfl⟩
  ·exact aA
 ·rw[Bool.not_eq_true]at hc;have hE:pS ⟨ty,im,fn,tb,me,gl,ex,el,co,da⟩=false:=by rw[hM,hc];rfl
  rw[hc]at hA;simp only[←mI]at hA;refine mK ?_;refine aBg ?_;refine kV rfl rfl Tryz.call112 (fun _=>hli) rfl bG bK ?_;refine rS ?_;refine IU ?_;refine EW ?_;refine kV rfl rfl Tryz.call113 (fun _=>(pZ tb 16 1000)) rfl bG bK ?_;refine rS ?_;refine IU ?_;refine EW ?_;refine kV rfl rfl Tryz.call113 (fun _=>(pZ me 16 65536)) rfl bG bK ?_;refine rS ?_;rw[←hA];refine xP ?_;refine ln rfl rfl rfl rfl ?_;refine pP ?_;refine IS ?_;refine kD ?_;apply aF;exact aG
  ·exact⟨by rw[hE];rfl,rfl⟩
  ·exact aA
def nO (m:Md):List Nat:=if pS m=true then fH m else []
theorem ZG{m:Md}(h:pS m=true):pT m=true∧(fH m).length≤8000:=by
 rw[vJ]at h;simpa using h
theorem uQ(m:Md)(h:m.WO):SCall Tryz.prog 18 [.agg (cK m)] [] (fun y σ=>∃r,y=.own r 0 (nO m).length∧σ=[(r,.arr 5 1 ((nO m).map aH))]):=by
 have hm:=DJ m h;have hw:=fun h'=>yL m h' h.ok
 refine cC 8 [0,1,2,5] Tryz.func18 ?_;refine dW ?_;apply bx;rfl;rfl;(exact dM);rfl;refine aD fun r1 h1=> ?_;repeat rcases h1 with⟨_,h1⟩
 refine dG ?_;obtain⟨ty,im,fn,tb,me,gl,ex,el,co,da⟩:=m;refine BG ?_;refine oV ?_;refine oE Tryz.call51 hm rfl bG bK ?_;refine tU ?_;refine aB rfl (fun g1=> ?_) (fun g1=> ?_)
 ·refine dW ?_;refine vQ ?_;have hE:nO ⟨ty,im,fn,tb,me,gl,ex,el,co,da⟩=[]:=by unfold nO;rw[if_neg];intro e;rw[e]at g1;cases g1
  refine bU 2 5 1 (by decide) rfl (by decide) (aD fun q2 hq2=> ?_);repeat rcases hq2 with⟨_,hq2⟩
  refine aP ?_;apply aF;exact aG
  ·exact⟨q2,by rw[hE];rfl,by rw[hE]⟩
  ·exact aA
 have hy:pS ⟨ty,im,fn,tb,me,gl,ex,el,co,da⟩=true:=by simpa using g1
 have hE:nO ⟨ty,im,fn,tb,me,gl,ex,el,co,da⟩=fH ⟨ty,im,fn,tb,me,gl,ex,el,co,da⟩:=by unfold nO;rw[if_pos hy]
 refine pY ?_;refine qQ Tryz.call56 (hw (ZG hy).1) rfl bS kI ?_;rintro _ σ' ⟨r7,rfl,rfl⟩ h7
 replace h7:=cO h7;repeat rcases h7 with⟨_,h7⟩
 refine eP ?_;apply aF;exact aG
 ·exact⟨r7,by rw[hE];rfl,by rw[hE]⟩
 ·exact aA
theorem aFA(n:Nat)(hn:n<4294967296):IntKind.u64.wrap ↑(BitVec.ofInt IntKind.u64.bits (n:Int)&&&BitVec.ofInt IntKind.u64.bits 4294967295).toNat=n:=by
 have h1:(BitVec.ofInt IntKind.u64.bits (n:Int)).toNat=n:=by
  rw[BitVec.toNat_ofInt];simp[IntKind.bits];omega
 have h2:(BitVec.ofInt IntKind.u64.bits 4294967295).toNat=2^32-1:=by decide
 rw[BitVec.toNat_and,h1,h2,Nat.and_two_pow_sub_one_eq_mod,Nat.mod_eq_of_lt (by omega),IntKind.wrap_u64];omega
theorem aHM(n:Nat)(hn:n<4294967296):((n:Int)).fdiv (2^min (Int.toNat 32) IntKind.u64.bits)=0:=by
 have:(2:Int)^min (Int.toNat 32) IntKind.u64.bits=4294967296:=by decide
 rw[this,Int.fdiv_eq_ediv_of_nonneg _ (by omega)];omega
theorem ZH(n:Nat)(hn:n<18446744073709551616):IntKind.u64.wrap (n:Int)=n:=by rw[IntKind.wrap_u64];omega
theorem HM(n:Nat)(hn:n<4294967296):SCall Tryz.prog 306 [.int .u64 1,.int .u64 n] [] (fun x σ=>x=.tup [.int .u64 0,.int .u64 n]∧σ=[]):=by
 refine cC 51 [0,1,4,5,6,7,8,9,10,11,12,13] Tryz.func306 ?_;refine dW ?_;refine mN ?_;refine lo (jJ (E rfl) (E rfl)) rfl ?_;refine iE ?_;refine z2 ?_;refine iE ?_;refine lo (jJ (E rfl) (E rfl)) rfl ?_;refine iE ?_;refine z2 ?_;refine nK ?_;refine lo (xD (E rfl) (E rfl)) rfl ?_;refine nK ?_;refine lo (xD (E rfl) (E rfl)) rfl ?_;refine lo (aI (E rfl)) rfl ?_;refine z2 ?_;refine lo (lX (E rfl) (E rfl)) rfl ?_;refine iE ?_;refine lo (jJ (E rfl) (E rfl)) rfl ?_;refine iE ?_;refine z2 ?_;refine dG ?_;refine FD ?_;refine lo (xD (E rfl) (E rfl)) rfl ?_;refine lo (lX (E rfl) (E rfl)) rfl ?_;refine nK ?_;refine lo (xD (E rfl) (E rfl)) rfl ?_;refine lo (aI (E rfl)) rfl ?_;refine lo (lX (E rfl) (E rfl)) rfl ?_;refine lo (aI (E rfl)) rfl ?_;refine z2 ?_;refine lo (lX (E rfl) (E rfl)) rfl ?_;refine nK ?_;refine lo (xD (E rfl) (E rfl)) rfl ?_;refine dG ?_;have e0:=aFA n hn;have e1:IntKind.u64.wrap ↑(BitVec.ofInt IntKind.u64.bits 1&&&BitVec.ofInt IntKind.u64.bits 4294967295).toNat=1:=aFA 1 (by decide);have e2:=aHM n hn;have e3:Int.fdiv 1 (2^min (Int.toNat 32) IntKind.u64.bits)=0:=aHM 1 (by decide);have e4:=ZH n (by omega);have e5:IntKind.u64.wrap 0=0:=by decide
 have e6:Int.fdiv 0 (2^min (Int.toNat 32) IntKind.u64.bits)=0:=by decide
 have e7:IntKind.u64.wrap ↑(BitVec.ofInt IntKind.u64.bits 0&&&BitVec.ofInt IntKind.u64.bits 4294967295).toNat=0:=aFA 0 (by decide);apply aF;exact aG;refine⟨?_,rfl⟩;simp only[iH,e0,e1,e2,e3,e4,e5,e6,e7,Int.zero_mul,Int.mul_zero,Int.one_mul,Int.add_zero,Int.zero_add];exact aA
theorem SO(n:Nat)(hn:n<4294967296):SCall Tryz.prog 278 [.int .u64 1,.int .u64 n] [] (fun x σ=>x=.tup [.int .u64 0,.int .u64 n]∧σ=[]):=by
 refine cC 30 [0,1,4,5,6,7,8,9] Tryz.func278 ?_;refine dW ?_;refine kJ ?_;refine mK ?_
 (first|refine pu [] Tryz.call306 (HM n hn) rfl cD bK ?_ |refine xJ [] rfl rfl Tryz.call306 (fun _=>(HM n hn)) rfl cD bK ?_);refine FC ?_;refine kJ ?_;refine mK ?_;refine kJ ?_;apply aF;exact aG;exact⟨rfl,rfl⟩;exact aA
theorem ZI{α:Type}(a z:α)(n k:Nat)(hk:k≤n):List.replicate (k+min k (n-k)) a++List.replicate (n-(k+min k (n-k))) z=
  List.take (0+k) (List.replicate k a++List.replicate (n-k) z)++List.take (min k (n-k)) (List.take (k-0) (List.drop (0+0) (List.replicate k a++List.replicate (n-k) z)))++List.drop (0+k+min k (n-k)) (List.replicate k a++List.replicate (n-k) z):=by
 generalize hm:min k (n-k)=m;have h1:m≤k:=by omega
 have h2:k+m≤n:=by omega
 have t1:List.take k (List.replicate k a++List.replicate (n-k) z)=List.replicate k a:=by rw[List.take_append_of_le_length (by simp)];simp
 have t2:List.drop (k+m) (List.replicate k a++List.replicate (n-k) z)=List.replicate (n-(k+m)) z:=by
  rw[List.drop_append,List.drop_of_length_le (by simp),List.nil_append,List.length_replicate,List.drop_replicate]
  congr 1
  omega
 rw[Nat.zero_add,Nat.sub_zero,Nat.add_zero,List.drop_zero,t1,t2,List.take_replicate,Nat.min_eq_left h1,List.replicate_append_replicate]
theorem DK{v:AV}(hv:v.cell=true)(n:Nat)(hn:n≤100000):SCall Tryz.prog 207 [.ro 1 [[v]] .any,.int .i64 n] [] (fun x σ=>∃r,x=.own r 0 n∧σ=[(r,.arr 3 1 (List.replicate n [v]))]):=by
 refine cC 48 [0,1,4,5,6,7,8,10,26,37] Tryz.func207 ?_;refine fV ?_;refine xM ?_;refine gK ?_;refine lU ?_;refine PE ?_;refine lo (aI (E rfl)) rfl ?_;refine PE ?_
 (first|refine pu [] Tryz.call278 (SO n (by omega)) rfl cD bK ?_ |refine xJ [] rfl rfl Tryz.call278 (fun _=>(SO n (by omega))) rfl cD bK ?_);refine FC ?_;refine mN ?_;refine lo (lE (E rfl) (E rfl)) rfl ?_;refine vX ?_;refine z18 ?_;refine z13 ?_;refine jP ?_;refine aB rfl (fun h=> ?_) (fun _=> ?_)
 ·simp at h;omega
 refine dX ?_;refine z44 ?_;apply mk;rfl;rfl;rfl;rfl;omega;(simp[maxLen];omega);(exact dM);rfl;refine aD fun r30 h30=> ?_;repeat rcases h30 with⟨_,h30⟩
 refine nK ?_;apply cp (m:=min 1 n) (es':=List.replicate (min 1 n) [v]++List.replicate (n-min 1 n) [.int .i64 0]);rfl;(exact cZ);simp;exact .inl ⟨_,rfl⟩;rfl
 ·rcases n with _ |n<;>simp[List.replicate_succ]
 ·rfl
 refine dG ?_;refine lp (β:=Nat×Nat) (fun b=>⟨[(7,.own b.1 0 n),(8,.int .i64 b.2)],[(b.1,.arr 3 1 (List.replicate b.2 [v]++List.replicate (n-b.2) [.int .i64 0]))]⟩) (fun b=>b.2≤n∧(0<n→0<b.2)) (fun b=>n-b.2) (r30,min 1 n) ?_ ⟨by show min 1 n≤n;omega,fun h=>by show 0<min 1 n;omega⟩ ?_
 ·exact aK
 rintro⟨r,k⟩ ⟨hk,hk0⟩;simp only at hk hk0⊢;refine cL ?_;refine CL ?_;refine aB rfl (fun h1=> ?_) (fun h1=> ?_)
 ·simp at h1;refine aP ?_;refine gI [(0,true),(1,true),(2,true),(3,true),(4,true),(5,true),(6,true),(7,false),(8,true),(9,true)] ?_;refine xN ?_;refine gD rfl (aI (E rfl)) rfl ?_;refine z84 ?_;refine xN ?_;refine WA ?_;apply dcp (m:=min k (n-k)) (es':=List.replicate (k+min k (n-k)) [v]++List.replicate (n-(k+min k (n-k))) [.int .i64 0]);rfl;infer_instance;infer_instance;rfl;(exact cZ)
  ·first|(simp;done)|(simp;omega)
  ·exact .inr (.inr ⟨_,_,_,_,_,rfl,bH,by simp,rfl⟩)
  ·first|(simp;done)|(simp;omega)
  ·exact ZI _ _ _ _ hk
  ·rfl
  ·exact gE
  refine aEn ?_;refine tV ?_;refine⟨(r,k+min k (n-k)),⟨by show k+min k (n-k)≤n;omega,fun h=>by show 0<k+min k (n-k);omega⟩,by show n-(k+min k (n-k))<n-k;omega, ?_⟩;exact aK
 ·obtain rfl:k=n:=by simp at h1;omega
  refine fN ?_;apply aF;exact aG
  ·exact⟨r,rfl,rfl⟩
  ·exact aA
theorem DL{es:List (List AV)}(hn:es.length≤1000000):SCall Tryz.prog 267 [.ro 1 es .any] [] (fun x σ=>∃r,x=.own r 0 es.length∧σ=[(r,.arr 5 1 es)]):=by
 refine cC 8 [0,2,4] Tryz.func267 ?_;refine fV ?_;refine ne rfl rfl rfl fun b hb _=> ?_
 refine EU ?_;cases b
 ·refine dW ?_;refine z1 ?_;refine aD fun r5 h5=> ?_;repeat rcases h5 with⟨_,h5⟩
  refine lo (aI (E rfl)) rfl ?_;apply ap;rfl;rfl;(exact bH);rfl;exact .inl ⟨_,rfl⟩;exact List.nil_append _;exact(Nat.zero_add _).symm;(simp[maxLen];omega);omega;rfl;refine bM fun r7 h7=> ?_;repeat rcases h7 with⟨_,h7⟩
  refine dG ?_;apply aF;exact aG
  ·exact⟨_,rfl,rfl⟩
  ·exact aA
 ·obtain rfl:=hb rfl;refine dW ?_;refine vQ ?_;refine bU (ks:=[0,2,4]) 2 5 1 (by decide) rfl (by decide) fun r hr=> ?_
  refine aP ?_;apply aF;exact aG
  ·exact⟨_,rfl,rfl⟩
  ·exact aA
def SOk (s:St):Prop:=s.1.length≤100000∧∀x∈s.1,x<256
theorem SOk.drop {s:St}(h:SOk s)(n:Nat)(b:Bool):SOk (s.1.drop n,b):=⟨by simp;have:=h.1;omega,fun x hx=>h.2 x (List.mem_of_mem_drop hx)⟩
theorem SOk.bad {s:St}(h:SOk s)(b:Bool):SOk (s.1,b):=h
def Kp {α:Type} (get:St→α×St):Prop:=∀s,SOk s→SOk (get s).2
theorem HN{s:St}(h:SOk s)(n:Int)(ok:Bool):SOk (tI s n ok):=by
 unfold tI;dsimp only;split
 ·exact h.bad _
 ·exact h.drop _ _
theorem iP:Kp gR:=fun s h=>HN h _ _
theorem mJ:Kp kP:=fun s h=>by
 unfold kP;split
 ·exact h.bad _
 ·exact h.drop _ _
theorem AJ:Kp yI:=fun s h=>HN (iP s h) _ _
theorem aDU{α:Type}{get:St→α×St}(hg:Kp get):∀n s,SOk s→SOk (jV get n s).2
 |0,s,h=>h
 |n+1,s,h=>by
  rw[jV];split
  ·exact h
  ·exact aDU hg n _ (hg s h)
theorem rJ{α:Type}{get:St→α×St}(hg:Kp get):Kp (fW get):=fun s h=>aDU hg _ _ (iP s h)
theorem wE:Kp uO:=fun s h=>by
 have:=mJ s h;unfold uO;dsimp only;split
 ·exact this
 ·split
  ·exact this
  ·exact this.bad _
theorem aDV:Kp LG:=fun s h=>by unfold LG;exact mJ _ (HN h _ _)
theorem NW:Kp LH:=fun s h=>by unfold LH;exact aDV _ (mJ s h)
theorem aDW:Kp SJ:=fun s h=>by
 have h1:=iP _ (mJ s h);unfold SJ;dsimp only;split
 ·exact iP _ h1
 ·exact h1
theorem aDX:∀n s l,SOk s→SOk (QB n s l).2
 |0,s,l,h=>h
 |n+1,s,l,h=>by
  rw[QB];split
  ·exact h
  ·dsimp only;split
   ·exact(wE _ (iP s h)).bad _
   ·exact aDX n _ _ (wE _ (iP s h))
theorem ZJ:Kp wV:=fun s h=>aDX _ _ _ (iP s h)
theorem ZK:Kp JX:=fun s h=>by
 have h1:=ZJ _ (iP s h);unfold JX;dsimp only;split
 ·exact h1
 ·exact HN h1 _ _
theorem aDY:Kp UQ:=fun s h=>rJ wE _ (rJ wE _ (mJ s h))
theorem ZL:Kp UR:=fun s h=>iP s h
theorem ZM:Kp WE:=fun s h=>iP _ (mJ _ (AJ _ (AJ s h)))
theorem ZN:Kp WF:=fun s h=>aDV _ (mJ _ (wE s h))
theorem ZO:Kp WG:=fun s h=>iP _ (mJ _ (AJ s h))
theorem aDZ(b:Bool):Kp (YU b):=fun s h=>by
 unfold YU;cases b
 ·exact aDW _ h
 ·exact aDW _ (mJ s h)
theorem aD0(b:Bool):Kp (NK b):=fun s h=>rJ (aDZ b) s h
theorem aD1:Kp YV:=fun s h=>rJ ZL _ (NW s h)
theorem ZP:Kp YW:=fun s h=>AJ _ (NW s h)
def dI (s:St):List AV:=[.ro 1 (s.1.map aH) .any,.bool s.2]
theorem yN(r:Nat)(s:St)(hs:SOk s)(n:Nat)(ok:Bool):SCall Tryz.prog 66 [.ptr r 0,.int .i64 n,.bool ok] [(r,.box 117 (dI s))]
  (fun x σ=>x=.tup []∧σ=[(r,.box 117 (dI (tI s n ok)))]):=by
 obtain⟨l,bad⟩:=s;obtain⟨hl,hlt⟩:=hs;dsimp only at hl hlt;have hB:(if(if bad=true then true else !ok)=true then true else decide ((l.length:Int)<n))=(bad|| !ok||decide ((l.length:Int)<n)):=by cases bad<;>cases ok<;>rfl
 refine cC 40 [0,1,2,30] Tryz.func66 ?_;unfold dI;dsimp only;refine cL ?_;refine nT ?_;refine jK ?_;refine tT ?_;refine qG ?_;refine jK ?_;refine qV ?_;refine RJ ?_;refine pP ?_;refine aIK ?_;refine qG ?_;refine z76 ?_;rw[hB];refine wI ?_;refine iD ?_;generalize hb:(bad|| !ok||decide ((l.length:Int)<n))=B;refine oY ?_;refine tU ?_;refine aB rfl (fun g1=> ?_) (fun g1=> ?_)
 ·obtain rfl:B=false:=by simpa using g1
  have hn:n≤l.length:=by simp at hb;omega
  have hE:tI (l,bad) n ok=(l.drop n,false):=by unfold tI;dsimp only;rw[hb];rfl
  refine cL ?_;refine GS ?_;refine aEl ?_;refine xO ?_;rw[MZ];refine iD ?_;refine bR ?_;apply aF;exact aG
  ·exact⟨rfl,by rw[hE]⟩
  ·exact aA
 obtain rfl:B=true:=by simpa using g1
 have hE:tI (l,bad) n ok=(l,true):=by unfold tI;dsimp only;rw[hb];rfl
 refine aP ?_;refine bR ?_;apply aF;exact aG
 ·exact⟨rfl,by rw[hE]⟩
 ·exact aA
theorem jM(r:Nat)(s:St)(hs:SOk s):SCall Tryz.prog 68 [.ptr r 0] [(r,.box 117 (dI s))]
  (fun x σ=>x=.int .i64 ((gR s).1:Nat)∧σ=[(r,.box 117 (dI (gR s).2))]):=by
 have hgb:=xT s.1;have hsk:=fun n ok=>yN r s hs n ok
 obtain⟨l,bad⟩:=s;obtain⟨hl,hlt⟩:=hs;dsimp only at hl hlt hgb;refine cC 26 [0,2,3,4,5,23] Tryz.func68 ?_;unfold dI;dsimp only;refine fV ?_;refine nT ?_;refine oE Tryz.call166 (aDu l (by omega) hlt) rfl bG bK ?_;refine FC ?_;refine lo (lN (E rfl) rfl) rfl ?_;refine nG ?_;refine FD ?_;refine lo (dD (E rfl) (E rfl)) rfl ?_;refine cw [(r,.box 117 (dI (l,bad)))] Tryz.call66 (hsk (lB l).2.1 ((lB l).2.2==0)) rfl aC aA ?_;rintro _ σ' ⟨rfl,rfl⟩ h19;refine dQ ?_;have hN:gR (l,bad)=(if(tI (l,bad) (lB l).2.1 ((lB l).2.2==0)).2 then 0 else(lB l).1,tI (l,bad) (lB l).2.1 ((lB l).2.2==0)):=rfl;generalize tI (l,bad) (lB l).2.1 ((lB l).2.2==0)=s2 at hN⊢;obtain⟨l2,b2⟩:=s2;unfold dI;dsimp only at hN⊢;refine oY ?_;refine jP ?_;refine aB rfl (fun g3=> ?_) (fun g3=> ?_)
 ·have hE:gR (l,bad)=(0,(l2,true)):=by rw[hN,g3];rfl
  rw[g3];refine bQ ?_;apply aF;exact aG
  ·exact⟨by rw[hE];rfl,by rw[hE]⟩
  ·exact aA
 have hE:gR (l,bad)=((lB l).1,(l2,false)):=by rw[hN,g3];rfl
 rw[g3];refine dX ?_;refine z44 ?_;refine dG ?_;apply aF;exact aG
 ·exact⟨by rw[hE];rfl,by rw[hE]⟩
 ·exact aA
theorem nD(r:Nat)(s:St)(hs:SOk s):SCall Tryz.prog 67 [.ptr r 0] [(r,.box 117 (dI s))]
  (fun x σ=>x=.int .u8 ((kP s).1:Nat)∧σ=[(r,.box 117 (dI (kP s).2))]):=by
 obtain⟨l,bad⟩:=s;obtain⟨hl,hlt⟩:=hs;dsimp only at hl hlt;refine cC 34 [0,2,3,15] Tryz.func67 ?_;unfold dI;dsimp only;refine fV ?_;refine nT ?_;refine jK ?_;refine RJ ?_;refine pP ?_;refine wJ ?_;refine qJ ?_;refine aB rfl (fun g1=> ?_) (fun g1=> ?_)
 ·have hE:kP (l,bad)=(0,(l,true)):=by unfold kP;rw[if_pos];cases bad;(cases l with|nil=>rfl|cons x t=>simp at g1;omega);rfl
  refine sO ?_;refine nS ?_;refine bQ ?_;apply aF;exact aG
  ·exact⟨by rw[hE];rfl,by rw[hE]⟩
  ·exact aA
 obtain⟨c,t,rfl⟩:∃c t,l=c::t:=by cases l with|nil=>(cases bad<;>simp at g1)|cons c t=>exact⟨c,t,rfl⟩
 obtain rfl:bad=false:=by cases bad with|false=>rfl|true=>simp at g1
 have hE:kP (c::t,false)=(c,(t,false)):=rfl;have hpos:0<(c::t).length:=Nat.succ_pos _;have hx:(c::t)[(0:Int).toNat]? =some c:=rfl;refine dX ?_;refine nT ?_;refine qY ?_;refine nK ?_;refine nT ?_;refine aEl ?_;refine xO ?_;rw[show List.take (((c::t).map aH).length-1) (List.drop 1 ((c::t).map aH))=t.map aH by rw[List.map_cons,List.drop_one,List.tail_cons];exact List.take_of_length_le (by simp)];refine sR ?_;refine dG ?_;apply aF;exact aG
 ·exact⟨by rw[hE];rfl,by rw[hE]⟩
 ·exact aA
theorem ZQ(r:Nat)(s:St)(hs:SOk s):SCall Tryz.prog 184 [.ptr r 0] [(r,.box 117 (dI s))]
  (fun x σ=>∃q,Nq q r∧x=.own q 0 (yI s).1.length∧σ=[(q,.arr 5 1 ((yI s).1.map aH)),(r,.box 117 (dI (yI s).2))]):=by
 have h1:=jM r s hs;have k1:=iP s hs;have hR:yI s=(if(tI (gR s).2 (gR s).1 true).2 then []else(gR s).2.1.take (gR s).1,tI (gR s).2 (gR s).1 true):=rfl;generalize gR s=p at h1 k1 hR;obtain⟨n,s1⟩:=p;dsimp only at h1 k1 hR;have h2:=yN r s1 k1 n true;have hk:(tI s1 n true).2=false→n≤s1.1.length:=fun h=>by unfold tI at h;dsimp only at h;simp at h;omega
 generalize tI s1 n true=s2 at h2 hR hk;obtain⟨l1,b1⟩:=s1;obtain⟨l2,b2⟩:=s2;have hl1:l1.length≤100000:=k1.1;dsimp only at hR hk;rw[hR];refine cC 22 [0,2,3,4,17] Tryz.func184 ?_;refine fV ?_;refine cw [(r,.box 117 (dI s))] Tryz.call68 h1 rfl aC aA ?_;rintro _ σ' ⟨rfl,rfl⟩ h6;refine eP ?_;unfold dI;dsimp only;refine oY ?_;refine nK ?_;refine cw [(r,.box 117 (dI (l1,b1)))] Tryz.call66 h2 rfl aC aA ?_;rintro _ σ' ⟨rfl,rfl⟩ h13;refine dQ ?_;unfold dI;dsimp only;refine oY ?_;refine jP ?_;refine aB rfl (fun g4=> ?_) (fun g4=> ?_)
 ·have hE:(if b2=true then []else l1.take n)=[]:=if_pos g4;rw[hE,g4];refine dW ?_;refine vQ ?_;refine bU 2 5 1 (by decide) rfl (by decide) (aD fun q hq=> ?_);repeat rcases hq with⟨_,hq⟩
  refine aP ?_;apply aF;exact aG
  ·exact⟨q,by(exact cF),rfl,rfl⟩
  ·exact aA
 have hE:(if b2=true then []else l1.take n)=l1.take n:=if_neg (by rw[g4];simp);have hn:=hk g4;rw[hE,g4];refine cL ?_;refine aEh ?_;rw[show List.take (n-0) (List.drop 0 (l1.map aH))=(l1.take n).map aH by rw[List.drop_zero,Nat.sub_zero,List.map_take]];refine qQ Tryz.call267 (DL (es:=(l1.take n).map aH) (by simp;omega)) rfl bS kI ?_;rintro _ σ' ⟨q,rfl,rfl⟩ h21
 replace h21:=cO h21;repeat rcases h21 with⟨_,h21⟩
 refine eP ?_;rw[List.length_map];apply aF;exact aG
 ·exact⟨q,by(exact cF),rfl,rfl⟩
 ·exact aA
end Go.Proofs.YtjpdadobblffmaaGreat
