/-
  A module that has all, its rows nobody else's; a module with a part turned.
-/
import Derived.Test.YtjpdadobblffmaaGreatVA7
namespace Go.Proofs.YtjpdadobblffmaaGreat
open Go.RowKit Go.ChangeShapes Go.WideShapes Go.ChangeAt Go.Deep
set_option linter.unusedSimpArgs false
set_option linter.unusedVariables false
attribute [local irreducible] SW RS RD fH eH
def Nd:List Nat→Prop
 |[]=>True
 |a::l=>(∀b∈l,Nq a b)∧Nd l
theorem aLw{a b:Nat}(h:Nq a b):Nq b a:=fun e=>h e.symm
def aDE (pr rs:List Int) (q1 q2 q3 q4 q5 q7:Nat):List AV:=[.ro 2 ((SV pr rs []).ty.map cP) .any,.own q1 0 2,.own q2 0 2,.bool true,.int .i64 4,.int .i64 (-1),.bool true,.int .i64 1,.int .i64 3,.own q3 0 2,.own q4 0 1,.own q5 0 1,.own q7 0 2,.ro 2 ([].map eB) .any]
def aLo (q1 q2 q3 q4 q5 q6 q7:Nat):dU:=[(q7,.arr 44 2 [dP ⟨[],[]⟩,dP ⟨[],YV⟩]),(q5,.arr 69 2 [[.int .i64 0,.own q6 0 3]]),(q6,.arr 3 1 ([0,2,3].map aR)),(q4,.arr 66 2 [dH ⟨[109,97,105,110],2⟩]),(q3,.arr 73 3 [eA ⟨true,1,0⟩,eA ⟨false,2,5⟩]),(q2,.arr 3 1 ([0,3].map aR)),(q1,.arr 64 3 [eE ⟨[119],[102],2⟩,eE ⟨[119],[103],1⟩])]
theorem aDF:VLe (.agg [.ro 0 [] .nil,.ro 0 [] .nil]) (.agg (dP ⟨[],[]⟩)):=by
 refine VLe.agg rfl fun j a a' ha ha'=> ?_
 match j with
 |0=>cases ha;cases ha';exact VLe.empty
 |1=>cases ha;cases ha';exact VLe.empty
 | _ +2=>cases ha
theorem jA{fr:Fr}{σ:dU}{r:Nat}{bt:TypeId}{cs cs':List AV}(ts:List Nat)(hg:gJ σ r=some (.box bt cs))(hr:r∉ts)(hb:BorL σ ts cs cs')(fr':Fr)(hf:∀i x,dY fr' i=some x→dY fr i=some x):SGo ⟨fr,σ⟩ ⟨fr',[(r,.box bt cs')]⟩:=by
 refine qL ts (fun i x' hi=>⟨x',hf i x' hi,.refl _⟩) (fun p hp=> ?_);obtain rfl:=List.mem_singleton.1 hp;exact⟨hr,_,cE hg,.box (aBn hb)⟩
theorem bO{σ:dU}{ts:List Nat}{q len sz:Nat}{et:TypeId}{es:List (List AV)}(ht:q∈ts)(hg:gJ σ q=some (.arr et sz es))(hl:len=es.length):Bor σ ts (.own q 0 len) (.ro sz es .any):=
 aBl ht hg (by omega) (by subst hl;simp)
theorem jV{σ:dU}{ts:List Nat}{q p:Nat}{et et':TypeId}{sz' n:Nat}{es':List (List AV)}{x:AV}(hq:q∈ts)(hp0:p∈ts)(hx:x.cell=true)(hg:gJ σ q=some (.arr et 2 [[x,.own p 0 n]]))(hp:gJ σ p=some (.arr et' sz' es'))(hn:n=es'.length):Bor σ ts (.own q 0 1) (.ro 2 [[x,.ro sz' es' .any]] .any):=by
 refine .ownR (fun i j=>if j=0 then x else .own p 0 n) hq hg (by simp) rfl (fun z hz=> ?_) (fun i e j a h1 h2=> ?_) (fun i e j a h1 h2=> ?_)
 ·obtain rfl:=List.mem_singleton.1 hz;exact⟨rfl,fun a ha=>by
   simp only[List.mem_cons,List.not_mem_nil,or_false]at ha;rcases ha with rfl|rfl
   ·exact hx
   ·rfl⟩
 ·match i with
  |0=>
   cases h1
   match j with
   |0=>cases h2;rfl
   |1=>cases h2;rfl
   | _ +2=>cases h2
  | _ +1=>cases h1
 ·match i with
  |0=>
   cases h1
   match j with
   |0=>cases h2;exact .refl _
   |1=>cases h2;exact bO hp0 hp hn
   | _ +2=>cases h2
  | _ +1=>cases h1
set_option maxRecDepth 100000 in
set_option maxHeartbeats 2000000 in
theorem aA1(ps:List Int)(r:Int):SCall Tryz.prog 25 [.ro 1 (ps.map aR) .any,.int .i64 r] [] (fun y σ=>∃q1 q2 q3 q4 q5 q6 q7,Nd [q7,q5,q6,q4,q3,q2,q1]∧y=.agg (aDE (IX ps) (IY r) q1 q2 q3 q4 q5 q7)∧σ=aLo q1 q2 q3 q4 q5 q6 q7):=by
 refine cC 72 [0,1,4,5,6,15,36] Tryz.func25 ?_;(refine aI ?_);refine jH ?_;refine jZ fun r4 h4=> ?_;intros
 refine kU ?_;(refine aI ?_);refine jH ?_;refine jY ?_;refine jZ fun r5 h5=> ?_;intros
 apply HW;rfl;rfl;rfl;rfl;exact jU;refine kU ?_;(refine aI ?_);refine cO (ks:=[0,1,4,5,6,15,36]) r5 0 3 1 (by decide) aO rfl (by decide) fun p0 hp0=> ?_
 simp only[aP,aX,and_true]at hp0;(repeat(rcases hp0 with⟨_,hp0⟩));apply Exists.intro;apply And.intro;exact cJ;refine jH ?_;refine lo (bU (E rfl)) rfl ?_;refine kU ?_;(refine aI ?_);refine lp (β:=Nat×Nat) (fun b=>⟨[(0,.ro 1 (ps.map aR) .any),(1,.int .i64 r),(4,.ptr r4 0),(5,.ptr r5 0),(6,.int .i64 b.1)],[(r5,.box 50 [.own b.2 0 ((ps.take b.1).map fun p=>1+b1 p).length,.ro 0 [] .nil]),(b.2,.arr 3 1 (((ps.take b.1).map fun p=>1+b1 p).map aR)),(r4,.box 33 [.ro 0 [] .nil,.ro 0 [] .nil,.ro 0 [] .nil,.bool false,.int .i64 0,.int .i64 0,.bool false,.int .i64 0,.int .i64 0,.ro 0 [] .nil,.ro 0 [] .nil,.ro 0 [] .nil,.ro 0 [] .nil,.ro 0 [] .nil])]⟩) (fun b=>b.1≤ps.length∧b.1≤5∧Nq b.2 r5∧Nq b.2 r4) (fun b=>5-b.1) (0,p0) aJ ⟨Nat.zero_le _,Nat.zero_le _,by show Nq p0 r5;(exact bA),by show Nq p0 r4;(exact bA)⟩ ?_;rintro⟨j,p⟩ ⟨hj,hj5,n1,n2⟩;dsimp only at hj hj5 n1 n2⊢;have hpl:((ps.take j).map fun p=>1+b1 p).length=j:=by simp;omega
 (refine aI ?_);refine jH ?_;refine lo (aF (E rfl)) rfl ?_;refine lo (aF (E rfl)) rfl ?_;refine pH ?_;refine lo (iL (E rfl) (E rfl)) rfl ?_;refine lo (aF (E rfl)) rfl ?_;refine nW ?_;refine FN ?_;refine uX ?_;refine kU ?_;(refine aI ?_);refine aB rfl (fun g3=> ?_) (fun g3=> ?_)
 ·have hlt:j<ps.length∧j<5:=tV g3;obtain⟨w,hw⟩:∃w,ps[j]? =some w:=⟨_,List.getElem?_eq_getElem hlt.1⟩
  have hb:=WB w;unfold b1 at hb;(refine aI ?_);refine fK [(0,true),(1,true),(2,true),(3,true),(4,true),(5,true),(6,true),(7,true),(8,false),(9,false),(10,true),(11,false)] ?_;refine zP ?_;refine z74 ?_;refine fY rfl (aF (E rfl)) rfl ?_;refine fY rfl (aF (E rfl)) rfl ?_;refine HY ?_;refine JP ?_;refine fY rfl (gM (E rfl) (E rfl)) rfl ?_;refine aJ9 ?_;refine CA fun r26 h26=> ?_;intros
  refine eX rfl (((ps.take j).map (fun p=>1+b1 p)++ [1+b1 w]).map aR) ((ps.take j).map (fun p=>1+b1 p)++ [1+b1 w]).length ?_;refine bL fun r27 h27=> ?_;intros
  refine zP ?_;refine HZ ?_;refine yR ?_;(refine aI ?_);refine jH ?_;refine lo (aF (E rfl)) rfl ?_;refine PR ?_;refine lo (bU (E rfl)) rfl ?_;refine kU ?_;(refine aI ?_);refine⟨(j+1,r27),⟨hlt.1,hlt.2,by show Nq r27 r5;(exact bA),by show Nq r27 r4;(exact bA)⟩,by show 5-(j+1)<5-j;omega, ?_⟩;dsimp only;rw[←aC2 hw];exact aJ
 rw[show(ps.take j).map (fun p=>1+b1 p)=IX ps by
   unfold IX;rcases Nat.lt_or_ge j 5 with h5j|h5j
   ·have:j=ps.length:=by
     rcases Nat.lt_or_ge j ps.length with h|h
     ·rw[decide_eq_true (by omega),if_pos rfl,decide_eq_true (by omega)]at g3;cases g3
     ·omega
    subst this;rw[List.take_length,List.take_of_length_le (by omega)]
   ·obtain rfl:j=5:=by omega
    rfl]
 refine dZ (iD (r:=r5) (q:=p) cJ bH (.cons (aM aO (by simp)) (.cons (.refl _) .nil))) ?_;(refine aI ?_);refine jH ?_;refine lo (aF (E rfl)) rfl ?_;refine lo (gM (E rfl) (E rfl)) rfl ?_;refine lo (jM (E rfl) (E rfl)) rfl ?_;refine lo (aF (E rfl)) rfl ?_;refine nW ?_;first|refine ln rfl rfl rfl rfl ?_ |(refine gy rfl rfl ?_;refine lo (gM (by first|exact W rfl id|exact E rfl) (E rfl)) rfl ?_)|refine lg rfl rfl (gM (by first|exact W rfl id|exact E rfl) (E rfl)) rfl ?_
 refine FN ?_;refine uX ?_;refine kU ?_;(refine aI ?_);refine UO (β:=Unit) (fun _=>⟨[(4,.ptr r4 0),(5,.ptr r5 0)],[(r5,.box 50 [.ro 1 ((IX ps).map aR) .any,.ro 1 ((IY r).map aR) .any]),(r4,.box 33 [.ro 0 [] .nil,.ro 0 [] .nil,.ro 0 [] .nil,.bool false,.int .i64 0,.int .i64 0,.bool false,.int .i64 0,.int .i64 0,.ro 0 [] .nil,.ro 0 [] .nil,.ro 0 [] .nil,.ro 0 [] .nil,.ro 0 [] .nil])]⟩) (fun _=>True) ?_ ?_
 ·refine aB rfl (fun g6=> ?_) (fun g6=> ?_)
  ·rw[show IY r=[b3 r]from if_pos g6];(refine aI ?_);refine jH ?_;refine lo (aF (E rfl)) rfl ?_;refine lo (gM (E rfl) (E rfl)) rfl ?_;refine eS fun r39 h39=> ?_;intros
   refine oI ?_;refine iR (j:=39) rfl bH (aM aO (by simp)) ?_;apply HW;rfl;rfl;rfl;rfl;exact jU;refine kU ?_;(refine aI ?_);exact⟨(),trivial,aJ⟩
  rw[show IY r=[] by unfold IY;exact if_neg (fun e=>by rw[show(if decide (0<b3 r)=true then decide (b3 r<3)else false)=false from g6]at e;cases e)];refine dZ (iE (r:=r5) (cs':=[.ro 1 ((IX ps).map aR) .any,.ro 1 (([]:List Int).map aR) .any]) cJ (.cons (.refl _) (.cons (.le VLe.empty) .nil))) ?_;(refine aI ?_);exact⟨(),trivial,aJ⟩
 rintro⟨⟩-;(refine aI ?_);refine jH ?_;refine mP ?_;refine jY ?_;refine jT (eK (j:=42) rfl aFK) ?_;refine eS fun r43 h43=> ?_;intros
 refine eS fun r44 h44=> ?_;intros
 refine iR (j:=43) rfl bH (aM aO (by simp)) ?_;refine iR (j:=44) rfl bH (aM aO (by simp)) ?_;refine jY ?_;refine eS fun r46 h46=> ?_;intros
 refine eS fun r47 h47=> ?_;intros
 refine iR (j:=46) rfl bH (aM aO (by simp)) ?_;refine iR (j:=47) rfl bH (aM aO (by simp)) ?_;refine jY ?_;refine eS fun r49 h49=> ?_;intros
 refine iR (j:=49) rfl bH (aM aO (by simp)) ?_;refine jY ?_;refine jY ?_;refine eS fun r52 h52=> ?_;intros
 refine eS fun r53 h53=> ?_;intros
 refine jY ?_;refine jY ?_;refine jY ?_;refine jY ?_;refine jY ?_;refine jY ?_;refine eS fun r60 h60=> ?_;intros
 refine jY ?_;refine eS fun r62 h62=> ?_;intros
 refine eS fun r63 h63=> ?_;intros
 refine jY ?_;refine eS fun r65 h65=> ?_;intros
 refine jY ?_;refine jY ?_;refine eS fun r68 h68=> ?_;intros
 refine iR (j:=68) rfl bH (aM aO (by simp)) ?_;refine jT (eK (j:=68) rfl (zJ (l:=YV) (by simp[YV]))) ?_;refine jY ?_;refine jT (eK (j:=66) rfl aDF) ?_;refine jT (eK (j:=69) rfl NC) ?_;refine eS fun r70 h70=> ?_;intros
 refine jY ?_;apply HW;rfl;rfl;rfl;rfl;exact jU;refine kU ?_;refine an ?_;have hnd:Nd [r70,r65,r63,r62,r60,r53,r52]:=by
  refine⟨?_, ?_, ?_, ?_, ?_, ?_, ?_,True.intro⟩<;>intro b hb<;>simp only[List.mem_cons,List.not_mem_nil,or_false]at hb
  ·rcases hb with rfl|rfl|rfl|rfl|rfl|rfl<;>(exact bA)
  ·rcases hb with rfl|rfl|rfl|rfl|rfl<;>(exact bA)
  ·rcases hb with rfl|rfl|rfl|rfl<;>(exact bA)
  ·rcases hb with rfl|rfl|rfl<;>(exact bA)
  ·rcases hb with rfl|rfl<;>(exact bA)
  ·rcases hb with rfl<;>(exact bA)
 refine dZ (iE (r:=r4) (cs':=aDE (IX ps) (IY r) r52 r53 r60 r62 r65 r70) cJ (.cons (.refl _) (.cons (.refl _) (.cons (.refl _) (.cons (.refl _) (.cons (.refl _) (.cons (.refl _) (.cons (.refl _) (.cons (.refl _) (.cons (.refl _) (.cons (.refl _) (.cons (.refl _) (.cons (.refl _) (.cons (.refl _) (.cons (.le VLe.empty) .nil))))))))))))))) ?_;(refine aI ?_);(apply aD;(exact aE))
 ·exact⟨r52,r53,r60,r62,r65,r63,r70,hnd,rfl,rfl⟩
 ·exact aA
end Go.Proofs.YtjpdadobblffmaaGreat
