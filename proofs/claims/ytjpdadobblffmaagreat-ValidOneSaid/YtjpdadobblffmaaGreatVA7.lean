import Derived.Test.YtjpdadobblffmaaGreatVA6
import Derived.Test.YtjpdadobblffmaaGreatVA4
import Derived.Test.YtjpdadobblffmaaGreatVA5
set_option linter.unusedSimpArgs false
set_option linter.unusedVariables false
set_option maxRecDepth 100000
set_option maxHeartbeats 4000000
namespace Go.Proofs.YtjpdadobblffmaaGreat
open Go.RowKit Go.ChangeShapes Go.WideShapes Go.ChangeAt Go.Deep
def Sta (t q:RT):Prop:=q.a=t.a
theorem Sta.refl (t:RT):Sta t t:=rfl
theorem Sta.take {t q:RT}(h:Sta t q)(ks:List Int):Sta t (aT q ks):=(zM q ks).trans h
theorem Sta.one {t q:RT}(h:Sta t q)(k:Int):Sta t (jF q k).2:=(YZ q k).trans h
theorem Sta.put {t q:RT}(h:Sta t q)(ks:List Int):Sta t (gR q ks):=h
theorem Sta.ends {t q:RT}(h:Sta t q):Sta t (rG q):=h
theorem Sta.bad {t q:RT}(h:Sta t q):Sta t (eG q):=h
theorem Sta.label {t q:RT}(h:Sta t q)(x:Int):Sta t (dA q x).2:=(NH q x).trans h
theorem Sta.tabs {t q:RT}(h:Sta t q)(w l:List Int):Sta t (l.foldl (oW w) q):=by
 induction l generalizing q with
 |nil=>exact h
 |cons a l ih=>exact ih (aK (p:=Sta t) (fun _=>(h.label a).bad) (fun _=>h.label a))
theorem aAG(res:List Int)(x:Ins)(t:RT):Sta t (fU res x t):=by
 have h:=Sta.refl t;unfold fU;refine aK (fun _=>((h.label _).take _).ends) (fun _=> ?_);refine aK (fun _=>(((h.take _).label _).take _).put _) (fun _=> ?_);refine aK (fun _=>((((h.take _).label _).tabs _ _).take _).ends) (fun _=> ?_);exact aK (fun _=>(h.take _).ends) (fun _=>h.ends)
theorem aFP(m:Md)(x:Ins)(t:RT):Sta t (rI m x t):=by
 have h:=Sta.refl t;unfold rI;refine aK (fun _=>aK (p:=Sta t) (fun _=>h.bad) (fun _=>(h.take _).put _)) (fun _=> ?_);exact aK (fun _=>h.bad) (fun _=>((h.take _).take _).put _)
theorem WN{t q:RT}(h:Sta t q)(x:Ins)(c k:Int):Sta t (tZ x c k q):=by
 have ha:Sta t (if decide (c<x.a)=true then eG q else q):=aK (fun _=>h.bad) (fun _=>h);exact aK (fun _=>ha.take _) (fun _=>(ha.take _).put _)
theorem aI5(m:Md)(x:Ins)(t:RT):Sta t (ED m x t):=by
 have h:Sta t (if(!m.me.has)=true then eG t else t):=aK (fun _=>(Sta.refl t).bad) (fun _=>Sta.refl t);unfold ED;generalize(if(!m.me.has)=true then eG t else t)=q at h;unfold BP;refine aK (fun _=>WN h x _ _) (fun _=> ?_);refine aK (fun _=>WN h x _ _) (fun _=> ?_);refine aK (fun _=>h.put _) (fun _=> ?_);exact aK (fun _=>(h.take _).put _) (fun _=>WN h x _ _)
theorem aAH(m:Md)(ls:List Int)(x:Ins)(t:RT):Sta t (gF m ls x t):=by
 have h:=Sta.refl t;unfold gF;refine aK (fun _=>h.put _) (fun _=> ?_);refine aK (fun _=>h.put _) (fun _=> ?_);refine aK (fun _=>aK (fun _=>h.bad) (fun _=> ?_)) (fun _=> ?_)
 ·have hq:Sta t (if(x.op !=32)=true then aT t [ls.getD x.a.toNat 0]else t):=aK (fun _=>h.take _) (fun _=>h);exact aK (fun _=>hq.put _) (fun _=>hq)
 refine aK (fun _=>aK (fun _=>h.bad) (fun _=>aK (fun _=>h.put _) (fun _=>h.take _))) (fun _=>aI5 m x t)
theorem aFQ(m:Md)(ls res:List Int)(x:Ins)(t:RT):Sta t (gL m ls res x t):=by
 have h:=Sta.refl t;unfold gL;refine aK (fun _=>aAG _ _ _) (fun _=> ?_);refine aK (fun _=>aFP _ _ _) (fun _=> ?_);refine aK (fun _=>h.one 0) (fun _=> ?_);refine aK (fun _=>(((h.take _).one _).one _).put _) (fun _=> ?_);refine aK (fun _=>h) (fun _=> ?_);exact aK (fun _=>(h.take _).put _) (fun _=>aAH _ _ _ _)
def nT (lp:RT→RT) (bd:List Ins) (x:Ins) (t:RT):RT:=
 if(x.op==4)=true then(if(eP bd t 5).1=true then dS lp (aY x.a) (aY x.a) (eP bd t 5).2 else if decide ((0:Int)<(aY x.a).length)=true then eG (eP bd t 5).2 else(eP bd t 5).2)else t
def EE (bd:List Ins) (x:Ins) (t:RT):RT:=gR (if(!(eP bd t 11).1)=true then eG (eP bd t 11).2 else(eP bd t 11).2) (aY x.a)
def ZA (x:Ins):List Int:=if(x.op==3)=true then []else aY x.a
theorem FB(lp:RT→RT)(bd:List Ins)(x:Ins)(t:RT):tA lp bd x t=EE bd x (nT lp bd x (dS lp (aY x.a) (ZA x) (if(x.op==4)=true then aT t [1]else t))):=by
 unfold tA ZA;cases h:x.op==3<;>simp only[if_true,if_false,Bool.false_eq_true]<;>rfl
theorem HF{bd:List Ins}{t:RT}{y:Ins}(hy:bd[t.a]? =some y):eP bd t y.op=(true,⟨t.a+1,t.lb,t.bad,t.l,t.dd⟩):=by
 have:=(List.getElem?_eq_some_iff.1 hy).1;unfold eP;rw[List.getD_eq_getElem?_getD,hy,decide_eq_true (by omega),if_pos rfl,if_pos (by simp)]
theorem aFR{bd:List Ins}{t:RT}{y:Ins}{op:Int}(hy:bd[t.a]? =some y)(ho:y.op≠op):eP bd t op=(false,t):=by
 unfold eP;rw[List.getD_eq_getElem?_getD,hy,if_neg];split
 ·simpa using ho
 ·simp
theorem BT{bd:List Ins}{x:Ins}{t:RT}(h:t.bad=true):(EE bd x t).bad=true:=by
 have:=(tC bd t 11).2 h;exact aK (p:=fun r:RT=>(gR r (aY x.a)).bad=true) (fun _=>rfl) (fun _=>this)
theorem KZ{lp:RT→RT}(hl:∀q,Adv q 0 (lp q)){bd:List Ins}{x:Ins}{t:RT}(h:t.bad=true):(nT lp bd x t).bad=true:=by
 have h1:=(tC bd t 5).2 h;refine aK (p:=fun r:RT=>r.bad=true) (fun _=> ?_) (fun _=>h);refine aK (p:=fun r:RT=>r.bad=true) (fun _=>(lH hl _ _ _).2 h1) (fun _=> ?_);exact aK (p:=fun r:RT=>r.bad=true) (fun _=>rfl) (fun _=>h1)
theorem HG{m:Md}{ls res:List Int}{bd:List Ins}{t:RT}(h:t.bad=true):LR m ls res bd t=t:=by
 rw[SX,if_neg];rw[h];split<;>simp
theorem HI{t:RT}(res l:List Int)(dd:Bool)(h:t.bad=true):(rH t res l dd).bad=true:=by
 show(if _ then true else(aT t res).bad)=true;rw[HC _ _ h];simp
theorem TB{o:List Ct}{op kd op' kd':Int}{base l:List Int}{dd:Bool}{t:RT}{s:PS}(hb:t.bad=false)(hb':s.bad=false)(h:Cor (o++ [⟨op,kd,base.length,dd⟩]) op' kd' (base++l) t s):qH o op kd base (rH t (aY kd') l dd) (fX s):=by
 have h1:=fL (ks:=aY kd') (ks':=aY kd') (.inr ⟨hb,hb',h⟩) fun _=>rfl
 have ht:=h.top;have hs:fX s=⟨(dR s (aY kd')).vs,(dR s (aY kd')).cs.dropLast,(dD (dR s (aY kd')) (((dR s (aY kd')).vs.length:Int)==(base++l).length)).bad⟩:=by
  unfold fX;rw[ht];rfl
 rw[hs];unfold rH;dsimp only;rcases h1 with⟨e1,e2⟩|⟨e1,e2,e3⟩
 ·refine .inl ⟨?_, ?_⟩
  ·show(if _ then true else(aT t (aY kd')).bad)=true;rw[e1];simp
  ·exact oG _ _ e2
 ·have hl:((dR s (aY kd')).vs.length:Int)=(base++l).length+(aT t (aY kd')).l.length:=by rw[e3.vs];simp;omega
  cases hz:(aT t (aY kd')).l with
  |nil=>
   rw[hz]at hl;refine .inr ⟨?_, ?_,⟨?_, ?_, ?_⟩⟩
   ·show(if decide ((0:Int)<(([]:List Int).length:Int))=true then true else(aT t (aY kd')).bad)=false;rw[e1];rfl
   ·unfold dD;dsimp only;rw[e2,hl];simp
   ·show(dR s (aY kd')).vs=base++l;rw[e3.vs,hz];simp
   ·show(dR s (aY kd')).cs.dropLast=_;rw[e3.cs];simp
   ·show(aT t (aY kd')).lb.dropLast=((dR s (aY kd')).cs.dropLast).map lbC;rw[e3.lb,List.map_dropLast]
  |cons y ys=>
   rw[hz]at hl;refine .inl ⟨?_, ?_⟩
   ·show(if decide ((0:Int)<((y::ys).length:Int))=true then true else(aT t (aY kd')).bad)=true;rw[if_pos (by simp only[List.length_cons,decide_eq_true_eq];omega)]
   ·unfold dD;dsimp only;rw[e2,hl];simp;omega
theorem WP(t:RT)(res l:List Int)(dd:Bool):(rH t res l dd).a=t.a:=zM t res
section
variable {m : Md} {ls res : List Int} {bd : List Ins}
theorem FC{a:Nat}{x:Ins}(h:bd[a]? =some x):bd.drop a=x::bd.drop (a+1):=by
 obtain⟨h1,rfl⟩:=List.getElem?_eq_some_iff.1 h;exact List.drop_eq_getElem_cons h1
theorem NL{a:Nat}{x:Ins}(h:bd[a]? =some x):(cW bd).drop a=x.op::(cW bd).drop (a+1):=by
 unfold cW;rw[←List.map_drop,FC h,List.map_cons,List.map_drop]
def aLe (m:Md) (ls:List Int) (bd:List Ins) (o:List Ct) (op kd:Int) (base:List Int) (S:List Bool) (a:Nat) (s:PS) (r:RT):Prop:=
 (r.bad=true∧(zQ m ls (bd.drop a) s).bad=true)∨
 (r.bad=false∧a≤r.a∧r.a≤bd.length∧∃s',zQ m ls (bd.drop a) s=zQ m ls (bd.drop r.a) s'∧s'.bad=false∧Cor o op kd base r s'∧mE 40 ((cW bd).drop r.a) S=some []∧(r.a=bd.length∨∃x,bd[r.a]? =some x∧(x.op=11∨x.op=5)))
theorem aDg(o:List Ct)(op kd kd':Int)(h:Nat)(d:Bool):rkd (o++ [⟨op,kd,h,d⟩]) kd'=rkd o kd:=by cases o<;>rfl
theorem aDh{x:Ins}(h:qV x.op=true)(s:PS):gE m ls s x=openP (if(x.op==4)=true then(cR s 1).2 else s) x.op x.a:=by
 obtain⟨xo,a,b,l⟩:=x;have h':xo=2∨xo=3∨xo=4:=by unfold qV at h;simpa[or_assoc]using h
 rcases h' with rfl|rfl|rfl<;>rfl
theorem aAI{y:Ins}(h:y.op=5)(s:PS):gE m ls s y=openP (fX s) 5 s.top.kd:=by
 obtain⟨yo,a,b,l⟩:=y;dsimp only at h;subst h;rfl
theorem TC{y:Ins}(h:y.op=11)(s:PS):gE m ls s y=fO (dD (fX s) (if(s.top.op !=4)=true then true else(s.top.kd==0))) (aY s.top.kd):=by
 obtain⟨yo,a,b,l⟩:=y;dsimp only at h;subst h;rfl
theorem TD{o:List Ct}{op kd:Int}{base:List Int}{t:RT}{s:PS}(h:Cor o op kd base t s)(op' kd':Int)(a:Nat):Cor (o++ [⟨op,kd,base.length,t.dd⟩]) op' kd' (base++t.l) ⟨a,t.lb++ [lbC ⟨op',kd',0,false⟩],false,[],false⟩ (openP s op' kd'):=by
 refine⟨?_, ?_, ?_⟩
 ·show s.vs=base++t.l++ [];rw[h.vs,List.append_nil]
 ·show s.cs++ [⟨op',kd',s.vs.length,false⟩]=_;rw[h.cs,h.vs]
 ·show t.lb++ [lbC ⟨op',kd',0,false⟩]=(s.cs++ [(⟨op',kd',s.vs.length,false⟩:Ct)]).map lbC;rw[h.lb,List.map_append];rfl
theorem BU(hm:∀x∈bd,dB x=true):∀(n:Nat) (o:List Ct) (op kd:Int) (base:List Int) (S:List Bool) (t:RT) (s:PS),bd.length-t.a<n→t.a≤bd.length→t.bad=false→s.bad=false→Cor o op kd base t s→res=aY (rkd o kd)→mE 40 ((cW bd).drop t.a) S=some []→aLe m ls bd o op kd base S t.a s (LR m ls res bd t)
 |0,_,_,_,_,_,t,_,h,_,_,_,_,_,_=>absurd h (Nat.not_lt_zero _)
 |n+1,o,op,kd,base,S,t,s,hn,ha,hb,hb',hC,hr,hS=>by
  rw[SX];by_cases hlt:t.a<bd.length
  case neg=>
   rw[if_neg (by rw[decide_eq_false (by omega)];simp)];exact .inr ⟨hb,Nat.le_refl _,ha,s,rfl,hb',hC,hS,.inl (by omega)⟩
  obtain⟨x,hx⟩:∃x,bd[t.a]? =some x:=⟨_,List.getElem?_eq_getElem hlt⟩
  have hxm:=hm x (List.mem_of_getElem? hx);rw[if_pos (by rw[decide_eq_true (by omega),hb];rfl),List.getD_eq_getElem?_getD,hx,Option.getD_some];by_cases hend:x.op=11∨x.op=5
  ·rw[if_pos (by rcases hend with e|e<;>rw[e]<;>rfl)];exact .inr ⟨hb,Nat.le_refl _,ha,s,rfl,hb',hC,hS,.inr ⟨x,hx,hend⟩⟩
  have h11:x.op≠11:=fun e=>hend (.inl e)
  have h5:x.op≠5:=fun e=>hend (.inr e)
  rw[if_neg (by simp[h11,h5])];rw[NL hx,mE]at hS;have nG:∀(q:RT) (r:PS),qH o op kd base q r→t.a<q.a→q.a≤bd.length→mE 40 ((cW bd).drop q.a) S=some []→(zQ m ls (bd.drop t.a) s=if r.bad=true then r else zQ m ls (bd.drop q.a) r)→aLe m ls bd o op kd base S t.a s (LR m ls res bd q):=by
   intro q r hs hqa hql hqS hgo;rcases hs with⟨e1,e2⟩|⟨e1,e2,e3⟩
   ·rw[HG e1];exact .inl ⟨e1,by rw[hgo,if_pos e2];exact e2⟩
   ·have hg:zQ m ls (bd.drop t.a) s=zQ m ls (bd.drop q.a) r:=by rw[hgo,if_neg (by simp[e2])]
    rcases BU hm n o op kd base S q r (by omega) hql e1 e2 e3 hr hqS with⟨f1,f2⟩|⟨f1,f2,f3,s',f4,f5⟩
    ·exact .inl ⟨f1,by rw[hg];exact f2⟩
    ·exact .inr ⟨f1,by omega,f3,s',hg.trans f4,f5⟩
  have hgo1:zQ m ls (bd.drop t.a) s=if(gE m ls s x).bad=true then gE m ls s x else zQ m ls (bd.drop (t.a+1)) (gE m ls s x):=by rw[FC hx];rfl
  have hC1:qH o op kd base ⟨t.a+1,t.lb,t.bad,t.l,t.dd⟩ s:=.inr ⟨hb,hb',⟨hC.vs,hC.cs,hC.lb⟩⟩;cases hO:qV x.op with
  |false=>
   have hst:iW 40 S x.op=some S:=by unfold iW;rw[if_neg (by simp[hO]),if_pos ⟨h5,h11⟩]
   rw[hst]at hS;have hq:=aDf (m:=m) (ls:=ls) (res:=res) hC1 hr hxm hO h5 h11;have hqa:(gL m ls res x ⟨t.a+1,t.lb,t.bad,t.l,t.dd⟩).a=t.a+1:=aFQ m ls res x _;have hi:fC m ls res bd (LR m ls res bd) x t=gL m ls res x ⟨t.a+1,t.lb,t.bad,t.l,t.dd⟩:=if_neg (by simp[hO]);rw[hi];exact nG _ _ hq (by omega) (by omega) (by rw[hqa];exact hS) (by rw[hqa];exact hgo1)
  |true=>
   have hi:fC m ls res bd (LR m ls res bd) x t=tA (LR m ls res bd) bd x ⟨t.a+1,t.lb,t.bad,t.l,t.dd⟩:=if_pos hO;rw[hi,FB];have hst:∃S',iW 40 S x.op=some S'∧S'=S++ [x.op==4]:=by
    have:iW 40 S x.op=if 40≤S.length then none else some (S++ [x.op==4]):=by unfold iW;rw[if_pos hO]
    rw[this]at hS⊢;split
    ·next h40=>rw[if_pos h40]at hS;cases hS
    ·exact⟨_,rfl,rfl⟩
   obtain⟨S',hst,rfl⟩:=hst;rw[hst]at hS;rw[aDh hO]at hgo1;have h2:qH o op kd base (if(x.op==4)=true then aT ⟨t.a+1,t.lb,t.bad,t.l,t.dd⟩ [1]else⟨t.a+1,t.lb,t.bad,t.l,t.dd⟩) (if(x.op==4)=true then(cR s 1).2 else s):=by
    split
    ·exact fL (ks:=[1]) (ks':=[1]) hC1 fun _=>rfl
    ·exact hC1
   have h2a:(if(x.op==4)=true then aT ⟨t.a+1,t.lb,t.bad,t.l,t.dd⟩ [1]else⟨t.a+1,t.lb,t.bad,t.l,t.dd⟩).a=t.a+1:=aK (p:=fun r:RT=>r.a=t.a+1) (fun _=>zM _ _) (fun _=>rfl);generalize(if(x.op==4)=true then aT ⟨t.a+1,t.lb,t.bad,t.l,t.dd⟩ [1]else⟨t.a+1,t.lb,t.bad,t.l,t.dd⟩)=t2 at h2 h2a⊢;generalize(if(x.op==4)=true then(cR s 1).2 else s)=s2 at h2 hgo1;have hAd:=HE m ls res bd;rcases h2 with⟨e1,e2⟩|⟨e1,e2,e3⟩
   ·have hbad:(EE bd x (nT (LR m ls res bd) bd x (dS (LR m ls res bd) (aY x.a) (ZA x) t2))).bad=true:=BT (KZ hAd ((lH hAd _ _ _).2 e1));rw[HG hbad];have:(openP s2 x.op x.a).bad=true:=e2;exact .inl ⟨hbad,by rw[hgo1,if_pos this];exact this⟩
   have hgo2:zQ m ls (bd.drop t.a) s=zQ m ls (bd.drop (t.a+1)) (openP s2 x.op x.a):=by rw[hgo1,if_neg (by show¬s2.bad=true;simp[e2])]
   have hC3:=TD e3 x.op x.a t2.a;rw[show lbC ⟨x.op,x.a,0,false⟩=ZA x from rfl]at hC3;have hbl:dS (LR m ls res bd) (aY x.a) (ZA x) t2=rH (LR m ls res bd ⟨t2.a,t2.lb++ [ZA x],false,[],false⟩) (aY x.a) t2.l t2.dd:=by unfold dS;rw[e1]
   rw[hbl];have hI:=BU hm n (o++ [⟨op,kd,base.length,t2.dd⟩]) x.op x.a (base++t2.l) (S++ [x.op==4]) ⟨t2.a,t2.lb++ [ZA x],false,[],false⟩ (openP s2 x.op x.a) (by show bd.length-t2.a<n;omega) (by show t2.a≤ _;omega) rfl e2 hC3 (hr.trans (by rw[aDg])) (by show mE 40 ((cW bd).drop t2.a) _=_;rw[h2a];exact hS);generalize LR m ls res bd ⟨t2.a,t2.lb++ [ZA x],false,[],false⟩=r3 at hI⊢;rcases hI with⟨f1,f2⟩|⟨f1,f2,f3,s4,f4,f5,f6,f7,f8⟩
   ·have hbad:(EE bd x (nT (LR m ls res bd) bd x (rH r3 (aY x.a) t2.l t2.dd))).bad=true:=BT (KZ hAd (HI _ _ _ f1));rw[HG hbad];exact .inl ⟨hbad,by rw[hgo2];dsimp only at f2;rw[h2a]at f2;exact f2⟩
   dsimp only at f2 f4;rw[h2a]at f2 f4;obtain⟨y,hy,hyo⟩:∃y,bd[r3.a]? =some y∧(y.op=11∨y.op=5):=by
    rcases f8 with e|h
    ·rw[List.drop_of_length_le (by unfold cW;rw[List.length_map];omega),mE]at f7;simp at f7
    ·exact h
   have hya:=(List.getElem?_eq_some_iff.1 hy).1;rw[NL hy,mE]at f7;have hgl:(S++ [x.op==4]).getLast? =some (x.op==4):=by simp
   have hsh:=TB f1 f5 f6;have hsa:=WP r3 (aY x.a) t2.l t2.dd;have htop:=f6.top;have hgo3:zQ m ls (bd.drop t.a) s=if(gE m ls s4 y).bad=true then gE m ls s4 y else zQ m ls (bd.drop (r3.a+1)) (gE m ls s4 y):=by rw[hgo2,f4,FC hy];rfl
   generalize rH r3 (aY x.a) t2.l t2.dd=t5 at hsh hsa⊢;rw[←hsa]at hy;rcases hyo with hyo|hyo
   ·--the end
    have hst:iW 40 (S++ [x.op==4]) y.op=some S:=by
     rw[hyo];unfold iW;rw[if_neg (by decide),if_neg (by decide),hgl];simp
    rw[hst]at f7;rw[TC hyo,htop]at hgo3;dsimp only at hgo3;have hE:nT (LR m ls res bd) bd x t5=if(if(x.op !=4)=true then true else(x.a==0))=true then t5 else eG t5:=by
     unfold nT;rw[aFR hy (by rw[hyo];decide)];cases h4:x.op==4 with
     |false=>simp[bne,h4]
     |true=>
      simp only[bne,h4,Bool.not_true,Bool.false_eq_true,if_true,if_false];by_cases hz:x.a=0
      ·simp[aY,hz]
      ·simp[aY,hz]
    have h6:=rJ hsh (b:=(if(x.op !=4)=true then true else(x.a==0))) fun _=>rfl
    rw[hE];have h6a:(if(if(x.op !=4)=true then true else(x.a==0))=true then t5 else eG t5).a=r3.a:=aK (p:=fun r:RT=>r.a=r3.a) (fun _=>hsa) (fun _=>hsa);generalize(if(if(x.op !=4)=true then true else(x.a==0))=true then t5 else eG t5)=t6 at h6 h6a⊢;generalize dD (fX s4) (if(x.op !=4)=true then true else(x.a==0))=s6 at h6 hgo3;have hN:EE bd x t6=gR ⟨t6.a+1,t6.lb,t6.bad,t6.l,t6.dd⟩ (aY x.a):=by
     unfold EE;have:=HF (bd:=bd) (t:=t6) (y:=y) (by rw[h6a,←hsa];exact hy);rw[hyo]at this;rw[this];rfl
    rw[hN];have h7:qH o op kd base (⟨t6.a+1,t6.lb,t6.bad,t6.l,t6.dd⟩:RT) s6:=by
     rcases h6 with⟨g1,g2⟩|⟨g1,g2,g3⟩
     ·exact .inl ⟨g1,g2⟩
     ·exact .inr ⟨g1,g2,⟨g3.vs,g3.cs,g3.lb⟩⟩
    refine nG _ _ (jS h7 fun _=>rfl) (by show t.a<t6.a+1;omega) (by show t6.a+1≤ _;omega) (by show mE 40 ((cW bd).drop (t6.a+1)) S=_;rw[h6a];exact f7) ?_;show _=if _ then _ else zQ m ls (bd.drop (t6.a+1)) _
    rw[h6a];exact hgo3
   ·--the else
    have hst:iW 40 (S++ [x.op==4]) y.op=if(x.op==4)=true then some (S++ [false])else none:=by
     rw[hyo];unfold iW;rw[if_neg (by decide),if_neg (by decide),hgl];simp
    rw[hst]at f7;have h4:(x.op==4)=true:=by
     cases h4:x.op==4 with
     |true=>rfl
     |false=>rw[h4]at f7;simp at f7
    rw[if_pos h4]at f7;dsimp only at f7;rw[aAI hyo,htop]at hgo3;dsimp only at hgo3;have hE:nT (LR m ls res bd) bd x t5=dS (LR m ls res bd) (aY x.a) (aY x.a) ⟨t5.a+1,t5.lb,t5.bad,t5.l,t5.dd⟩:=by
     unfold nT;have:=HF (bd:=bd) (t:=t5) (y:=y) hy;rw[hyo]at this;rw[this,if_pos h4,if_pos rfl]
    rw[hE];rcases hsh with⟨g1,g2⟩|⟨g1,g2,g3⟩
    ·have hbad:(EE bd x (dS (LR m ls res bd) (aY x.a) (aY x.a) ⟨t5.a+1,t5.lb,t5.bad,t5.l,t5.dd⟩)).bad=true:=BT ((lH hAd _ _ _).2 g1);rw[HG hbad];have:(openP (fX s4) 5 x.a).bad=true:=g2;exact .inl ⟨hbad,by rw[hgo3,if_pos this];exact this⟩
    have hgo4:zQ m ls (bd.drop t.a) s=zQ m ls (bd.drop (r3.a+1)) (openP (fX s4) 5 x.a):=by rw[hgo3,if_neg (by show¬(fX s4).bad=true;simp[g2])]
    have hC6:=TD g3 5 x.a (t5.a+1);rw[show lbC ⟨5,x.a,0,false⟩=aY x.a from rfl]at hC6;have hbl2:dS (LR m ls res bd) (aY x.a) (aY x.a) ⟨t5.a+1,t5.lb,t5.bad,t5.l,t5.dd⟩=rH (LR m ls res bd ⟨t5.a+1,t5.lb++ [aY x.a],false,[],false⟩) (aY x.a) t5.l t5.dd:=by unfold dS;rw[g1]
    rw[hbl2];have hI:=BU hm n (o++ [⟨op,kd,base.length,t5.dd⟩]) 5 x.a (base++t5.l) (S++ [false]) ⟨t5.a+1,t5.lb++ [aY x.a],false,[],false⟩ (openP (fX s4) 5 x.a) (by show bd.length-(t5.a+1)<n;omega) (by show t5.a+1≤ _;omega) rfl g2 hC6 (hr.trans (by rw[aDg])) (by show mE 40 ((cW bd).drop (t5.a+1)) _=_;rw[hsa];exact f7);generalize LR m ls res bd ⟨t5.a+1,t5.lb++ [aY x.a],false,[],false⟩=r6 at hI⊢;rcases hI with⟨k1,k2⟩|⟨k1,k2,k3,s7,k4,k5,k6,k7,k8⟩
    ·have hbad:(EE bd x (rH r6 (aY x.a) t5.l t5.dd)).bad=true:=BT (HI _ _ _ k1);rw[HG hbad];exact .inl ⟨hbad,by rw[hgo4];dsimp only at k2;rw[hsa]at k2;exact k2⟩
    dsimp only at k2 k4;rw[hsa]at k2 k4;obtain⟨z,hz,hzo⟩:∃z,bd[r6.a]? =some z∧(z.op=11∨z.op=5):=by
     rcases k8 with e|h
     ·rw[List.drop_of_length_le (by unfold cW;rw[List.length_map];omega),mE]at k7;simp at k7
     ·exact h
    have hza:=(List.getElem?_eq_some_iff.1 hz).1;rw[NL hz,mE]at k7;have hgl2:(S++ [false]).getLast? =some false:=by simp
    have hz11:z.op=11:=by
     rcases hzo with e|e
     ·exact e
     ·have:iW 40 (S++ [false]) z.op=none:=by
       rw[e];unfold iW;rw[if_neg (by decide),if_neg (by decide),hgl2];simp
      rw[this]at k7;cases k7
    have hst2:iW 40 (S++ [false]) z.op=some S:=by
     rw[hz11];unfold iW;rw[if_neg (by decide),if_neg (by decide),hgl2];simp
    rw[hst2]at k7;have hsh2:=TB k1 k5 k6;have hsa2:=WP r6 (aY x.a) t5.l t5.dd;have htop2:=k6.top;have hgo5:zQ m ls (bd.drop t.a) s=if(gE m ls s7 z).bad=true then gE m ls s7 z else zQ m ls (bd.drop (r6.a+1)) (gE m ls s7 z):=by rw[hgo4,k4,FC hz];rfl
    generalize rH r6 (aY x.a) t5.l t5.dd=t8 at hsh2 hsa2⊢;rw[TC hz11,htop2]at hgo5;dsimp only at hgo5;rw[show(if((5:Int) !=4)=true then true else(x.a==0))=true from rfl,KY]at hgo5;have hN:EE bd x t8=gR ⟨t8.a+1,t8.lb,t8.bad,t8.l,t8.dd⟩ (aY x.a):=by
     unfold EE;have:=HF (bd:=bd) (t:=t8) (y:=z) (by rw[hsa2];exact hz);rw[hz11]at this;rw[this];rfl
    rw[hN];have h7:qH o op kd base (⟨t8.a+1,t8.lb,t8.bad,t8.l,t8.dd⟩:RT) (fX s7):=by
     rcases hsh2 with⟨g1,g2⟩|⟨g1,g2,g3⟩
     ·exact .inl ⟨g1,g2⟩
     ·exact .inr ⟨g1,g2,⟨g3.vs,g3.cs,g3.lb⟩⟩
    refine nG _ _ (jS h7 fun _=>rfl) (by show t.a<t8.a+1;omega) (by show t8.a+1≤ _;omega) (by show mE 40 ((cW bd).drop (t8.a+1)) S=_;rw[hsa2];exact k7) ?_;show _=if _ then _ else zQ m ls (bd.drop (t8.a+1)) _
    rw[hsa2];exact hgo5
end
theorem aFS{o:List Ct}{op kd:Int}{base:List Int}{t:RT}{s:PS}(hb:t.bad=false)(hb':s.bad=false)(h:Cor o op kd base t s)(l:List Int)(dd:Bool):(rH t (aY kd) l dd).bad=(fX s).bad:=by
 have h1:=fL (ks:=aY kd) (ks':=aY kd) (.inr ⟨hb,hb',h⟩) fun _=>rfl
 have ht:=h.top;have hs:(fX s).bad=(dD (dR s (aY kd)) (((dR s (aY kd)).vs.length:Int)==base.length)).bad:=by
  unfold fX;rw[ht]
 rw[hs];show(if decide ((0:Int)<(aT t (aY kd)).l.length)=true then true else(aT t (aY kd)).bad)=_;rcases h1 with⟨e1,e2⟩|⟨e1,e2,e3⟩
 ·rw[e1,oG _ _ e2];simp
 ·have hl:((dR s (aY kd)).vs.length:Int)=base.length+(aT t (aY kd)).l.length:=by rw[e3.vs];simp
  unfold dD;dsimp only;rw[e1,e2,hl];cases hz:(aT t (aY kd)).l with
  |nil=>simp
  |cons y ys=>
   have h0:((base.length:Int)+((y::ys).length:Int)==base.length)=false:=by simp only[List.length_cons,beq_eq_false_iff_ne];omega
   have h1:decide ((0:Int)<((y::ys).length:Int))=true:=by simp only[List.length_cons,decide_eq_true_eq];omega
   rw[h0,h1];rfl
theorem aI6{m:Md}(hm:qZ m=true)(k:Int):EB m k=WJ m k:=by
 unfold qZ at hm;simp only[Bool.and_eq_true]at hm;obtain⟨⟨⟨⟨-,hco⟩,hls⟩,-⟩,-⟩:=hm;unfold pE at hls;simp only[Bool.and_eq_true]at hls;obtain⟨⟨⟨⟨⟨⟨hty,-⟩,-⟩,-⟩,-⟩,-⟩,-⟩:=hls;unfold EB WJ;by_cases h1:(if(if decide (k<0)=true then true else decide ((m.co.length:Int)≤k))=true then true else decide ((m.fn.length:Int)≤k))=true
 ·rw[if_pos h1,if_pos];rw[if_pos h1];simp
 rw[if_neg h1];have h1':0≤k∧k<m.co.length∧k<m.fn.length:=by
  refine⟨?_, ?_, ?_⟩
  ·rcases Int.lt_or_le k 0 with h|h
   ·exact absurd (by simp[h]) h1
   ·exact h
  ·rcases Int.lt_or_le k m.co.length with h|h
   ·exact h
   ·exact absurd (by simp[h]) h1
  ·rcases Int.lt_or_le k m.fn.length with h|h
   ·exact h
   ·exact absurd (by simp[h]) h1
 rw[if_neg h1];generalize hf:m.fn.getD k.toNat 0=f;by_cases h2:f<0∨(m.ty.length:Int)≤f
 ·have hc2:(if decide (f<0)=true then true else decide ((m.ty.length:Int)≤f))=true:=by rcases h2 with h|h<;>simp[h]
  have:cM m f=(sF,false):=if_pos hc2;rw[if_pos hc2,this];rfl
 have hf0:¬f<0:=fun h=>h2 (.inl h)
 have hfl:¬(m.ty.length:Int)≤f:=fun h=>h2 (.inr h)
 have hc2:¬(if decide (f<0)=true then true else decide ((m.ty.length:Int)≤f))=true:=by rw[decide_eq_false hf0,if_neg (by simp),decide_eq_false hfl];simp
 have:cM m f=(m.ty.getD f.toNat sF,true):=if_neg hc2;rw[if_neg hc2,this];dsimp only;obtain⟨c,hc⟩:∃c,m.co[k.toNat]? =some c:=⟨_,List.getElem?_eq_getElem (by omega)⟩
 obtain⟨t,ht⟩:∃t,m.ty[f.toNat]? =some t:=⟨_,List.getElem?_eq_getElem (by omega)⟩
 rw[List.getD_eq_getElem?_getD,List.getD_eq_getElem?_getD,hc,ht,Option.getD_some,Option.getD_some];have hcn:=(cA hco).2 c (List.mem_of_getElem? hc);unfold tR at hcn;simp only[Bool.and_eq_true]at hcn;obtain⟨⟨hok,-⟩,hbd⟩:=hcn;have hmay:=(cA hbd).2;have htn:=(cA hty).2 t (List.mem_of_getElem? ht);simp only[Bool.and_eq_true]at htn;have hr1:=(cA htn.2).1;have hr2:=(cA htn.2).2;rw[hok];rw[if_neg (c:=(if(!true)=true then true else !true)=true) (by simp)];have hkd:t.rs=aY (if decide ((0:Int)<t.rs.length)=true then t.rs.headD 0 else 0):=by
  match hrs:t.rs with
  |[]=>rfl
  |[r]=>
   have:AU r=true:=hr2 r (by rw[hrs];exact List.mem_singleton.2 rfl);have hr0:r≠0:=by rintro rfl;exact absurd this (by decide)
   simp[aY,hr0]
  | _:: _:: _=>rw[hrs]at hr1;simp at hr1;omega
 generalize(if decide ((0:Int)<t.rs.length)=true then t.rs.headD 0 else 0)=kd at hkd;have hS:=(NF.1 hok).2;have hG:=BU (m:=m) (ls:=t.pr++c.ls) (res:=t.rs) (bd:=c.bd) hmay (c.bd.length+1) [] 2 kd [] [] ⟨0,[]++ [t.rs],false,[],false⟩ (openP ⟨[],[],false⟩ 2 kd) (Nat.lt_succ_self _) (Nat.zero_le _) rfl rfl ⟨rfl,rfl,by rw[hkd];rfl⟩ hkd hS;show(if(zQ m (t.pr++c.ls) c.bd (openP ⟨[],[],false⟩ 2 kd)).bad=true then false else if(!(fX (zQ m (t.pr++c.ls) c.bd (openP ⟨[],[],false⟩ 2 kd))).bad)=true then decide (((t.pr++c.ls).length:Int)≤32)else false)=
  if decide ((32:Int)<(t.pr++c.ls).length)=true then false else if(!(rH (LR m (t.pr++c.ls) t.rs c.bd ⟨0,[]++ [t.rs],false,[],false⟩) t.rs [] false).bad)=true then(((rH (LR m (t.pr++c.ls) t.rs c.bd ⟨0,[]++ [t.rs],false,[],false⟩) t.rs [] false).a:Int)==c.bd.length)else false
 generalize LR m (t.pr++c.ls) t.rs c.bd ⟨0,[]++ [t.rs],false,[],false⟩=r at hG⊢;rcases hG with⟨e1,e2⟩|⟨e1,-,e3,s',e4,e5,e6,e7,e8⟩
 ·rw[if_pos (by simpa using e2)];have:=HI t.rs [] false e1;rw[this];split<;>simp
 ·have hl:r.a=c.bd.length:=by
   rcases e8 with e|⟨y,hy,hyo⟩
   ·exact e
   ·rw[NL hy,mE]at e7;have:iW 40 [] y.op=none:=by
     unfold iW;rcases hyo with e|e<;>rw[e]<;>simp[qV]
    rw[this]at e7;cases e7
  have hg:zQ m (t.pr++c.ls) c.bd (openP ⟨[],[],false⟩ 2 kd)=s':=by
   have:=e4;rw[List.drop_zero,hl,List.drop_length]at this;exact this
  have hsb:=aFS e1 e5 e6 [] false;rw[←hkd]at hsb;have hsa:(rH r t.rs [] false).a=c.bd.length:=(WP r t.rs [] false).trans hl;rw[hg,hsb,hsa,if_neg (by simp[e5])];by_cases h32:((t.pr++c.ls).length:Int)≤32
  ·rw[decide_eq_true h32,decide_eq_false (by omega)];cases(fX s').bad<;>simp
  ·rw[decide_eq_false h32,decide_eq_true (by omega)];cases(fX s').bad<;>simp
end Go.Proofs.YtjpdadobblffmaaGreat
namespace Go.Proofs.YtjpdadobblffmaaGreat
open Go.RowKit Go.ChangeShapes Go.WideShapes Go.ChangeAt Go.Deep
attribute [local irreducible] SW RS RD fH eH
structure Env where
 m:Md
 ls:List Int
 res:List Int
 bd:List Ins
def nJ (E0:Env) (p a n:Nat) (b:Bool):List AV:=[.ro 2 (E0.m.ty.map cP) .any,.ro 3 (E0.m.im.map eE) .any,.ro 1 (E0.m.fn.map aR) .any,.bool E0.m.tb.has,.int .i64 E0.m.tb.mn,.int .i64 E0.m.tb.mx,.bool E0.m.me.has,.int .i64 E0.m.me.mn,.int .i64 E0.m.me.mx,
 .ro 3 (E0.m.gl.map eA) .any,.ro 2 (E0.m.ex.map dH) .any,.ro 2 (E0.m.el.map dX) .any,.ro 2 (E0.m.co.map dP) .any,.ro 2 (E0.m.da.map eB) .any,.ro 4 (E0.bd.map (iv .any)) .any,.ro 1 (E0.ls.map aR) .any,.ro 1 (E0.res.map aR) .any,.int .i64 a,.own p 0 n,.bool b]
def kD (E0:Env) (r p:Nat) (t:RT):dU:=[(r,.box 142 (nJ E0 p t.a t.lb.length t.bad)),(p,.arr 24 1 (t.lb.map lC))]
theorem aI7{e:Nat}{σ1 σ:dU}{C G:Prop}(h:(∃q∈σ1,q.1=e)∨Fresh e σ)(k:C)(g:Hold C→Fresh e (eO (σ1.map (·.1)) σ)→G:=by intro k q;unfold kD at q;simp(disch:=(first|(simp only[List.mem_cons,List.not_mem_nil,true_or,or_true,or_false];done)|(focus (simp only[List.mem_cons,List.not_mem_nil,or_false,not_or];(repeat' (first|apply And.intro|(exact bA)));done))|omega)) only[List.map_cons,List.map_nil,lY,nU,qI,nV,aP,aX,and_true]at q;revert q;(repeat refine aBp ?_);exact k.h):G:=g ⟨k⟩ (tJ h)
def jG (z q:Nat) (t:RT):dU:=[(z,.box 261 [.own q 0 t.l.length,.bool t.dd]),(q,.arr 3 1 (t.l.map aR))]
theorem tE{e:Nat}{σ1 σ:dU}{C G:Prop}(h:(∃q∈σ1,q.1=e)∨Fresh e σ)(k:C)(g:Hold C→Fresh e (eO (σ1.map (·.1)) σ)→G:=by intro k q;unfold jG at q;simp(disch:=(first|(simp only[List.mem_cons,List.not_mem_nil,true_or,or_true,or_false];done)|(focus (simp only[List.mem_cons,List.not_mem_nil,or_false,not_or];(repeat' (first|apply And.intro|(exact bA)));done))|omega)) only[List.map_cons,List.map_nil,lY,nU,qI,nV,aP,aX,and_true]at q;revert q;(repeat refine aBp ?_);exact k.h):G:=g ⟨k⟩ (tJ h)
def fM (E0:Env) (r p z q:Nat) (t:RT):dU:=kD E0 r p t++jG z q t
structure Nr (r p z q:Nat):Prop where
 pr:Nq p r
 zr:Nq z r
 zp:Nq z p
 qr:Nq q r
 qp:Nq q p
 qz:Nq q z
theorem dI{P:Prop}(h:P:=by(try unfold fM);(try unfold kD);(try unfold jG);(try unfold nJ);(try dsimp only[List.cons_append,List.nil_append]);exact aA):P:=h
theorem aLf{P:Prop}(h:P:=by(try unfold fM);(try unfold kD);(try unfold jG);(try unfold nJ);(try dsimp only[List.cons_append,List.nil_append]);exact fS):P:=h
section
variable {r p z q : Nat} {E0 : Env}
theorem BV(hN:Nr r p z q)(t:RT)(hl:t.l.length≤1000000)(k:Int):SCall Tryz.prog 274 [.ptr r 0,.ptr z 0,.int .i64 k] (fM E0 r p z q t) (fun y σ=>y=.int .i64 (jF t k).1∧σ=fM E0 r p z q (jF t k).2):=by
 obtain⟨ta,tl,tb,l,dd⟩:=t;obtain⟨n1,n2,n3,n4,n5,n6⟩:=hN;dsimp only at hl;refine cC 67 [0,1,2,6,7,13,18,59,64] Tryz.func274 ?_;unfold fM kD jG nJ;dsimp only[List.cons_append,List.nil_append];refine gX ?_;refine z76 ?_;refine nL ?_;refine rL ?_;refine aB rfl (fun g1=> ?_) (fun g1=> ?_)
 ·have hP:jF ⟨ta,tl,tb,l,dd⟩ k=(k,if(!dd)=true then eG ⟨ta,tl,tb,l,dd⟩else⟨ta,tl,tb,l,dd⟩):=if_pos g1;rw[hP];refine dO ?_;refine nN ?_;refine nZ ?_;refine aB rfl (fun g2=> ?_) (fun g2=> ?_)
  ·rw[if_pos g2];refine nP ?_;refine eU ?_;refine cZ ?_;exact aD aE ⟨by rfl,rfl⟩ aA
  rw[if_neg (by simp[g2])];refine fF ?_;exact aD aE ⟨by rfl,rfl⟩ aA
 obtain⟨ws,g,rfl⟩:∃ws g,l=ws++ [g]:=by
  rcases List.eq_nil_or_concat l with e|⟨ws,g,e⟩
  ·subst e;simp at g1
  ·exact⟨ws,g,by rw[e,List.concat_eq_append]⟩
 have hP:jF ⟨ta,tl,tb,ws++ [g],dd⟩ k=(if(g==0)=true then k else g,⟨ta,tl,if NG g k=true then true else tb,ws,dd⟩):=by unfold jF;rw[if_neg (fun e=>by rw[g1]at e;cases e)];simp
 rw[hP];have hel2:=sW (l:=ws.map aR) (x:=aR g) (n:=ws.length) (by simp);rw[ND]at hl;rw[ND,aCU];refine aI ?_;refine fK [(0,true),(1,true),(2,true),(3,true),(4,true),(5,true),(6,true),(7,true),(8,true),(9,true),(10,true),(11,true),(12,true)] ?_;refine pV ?_;refine sP ?_;refine HY ?_;refine JP ?_;refine yV ?_;refine fK [(0,true),(1,true),(2,true),(3,true),(4,true),(5,true),(6,true),(7,true),(8,true),(9,true),(10,true),(11,true),(12,true),(13,true),(14,false)] ?_;refine AH ?_;refine sP ?_;refine UD ?_;refine z77 ?_;refine nC ?_;refine kF ?_;rw[rE];refine dZ (oJ (o:=q) ws.length cJ) ?_;rw[show List.take ws.length (ws.map aR++ [aR g])=ws.map aR by rw[List.take_left' (by simp)]];refine kL ?_;refine lo (gA (E rfl) (E rfl)) rfl ?_;refine lM ?_;refine aD2 ?_;refine qT ?_;refine aD2 ?_;refine vB ?_;refine aB rfl (fun g7=> ?_) (fun g7=> ?_)
 ·have hnf:NG g k=true:=g7;rw[show(if NG g k=true then true else tb)=true by rw[hnf];rfl];refine nP ?_;refine eU ?_;refine rL ?_;refine aB rfl (fun g9=> ?_) (fun g9=> ?_)
  ·rw[if_pos (c:=(g==0)=true) g9];refine fF ?_;exact aD aE ⟨by rfl,rfl⟩ aA
  rw[if_neg (c:=(g==0)=true) (fun e=>by rw[g9]at e;cases e)];refine fF ?_;exact aD aE ⟨by rfl,rfl⟩ aA
 have hnf:NG g k=false:=g7;rw[show(if NG g k=true then true else tb)=tb by rw[hnf];rfl];refine dO ?_;refine rL ?_;refine aB rfl (fun g9=> ?_) (fun g9=> ?_)
 ·rw[if_pos (c:=(g==0)=true) g9];refine fF ?_;exact aD aE ⟨by rfl,rfl⟩ aA
 rw[if_neg (c:=(g==0)=true) (fun e=>by rw[g9]at e;cases e)];refine fF ?_;exact aD aE ⟨by rfl,rfl⟩ aA
theorem iZ(hz:Nq q z)(t:RT)(hl:t.l.length≤1000000)(ks:List Int)(hk:ks.length≤1000):SCall Tryz.prog 275 [.ptr z 0,.ro 1 (ks.map aR) .any] (jG z q t) (fun _ σ=>∃e,Nq e z∧σ=jG z e (gR t ks)):=by
 obtain⟨ta,tl,tb,l,dd⟩:=t;dsimp only at hl;refine cC 13 [0,1] Tryz.func275 ?_;unfold jG;dsimp only;refine dF ?_;refine JT ?_;refine kI ((l++ks).map aR) (l++ks).length ?_;refine bL fun r10 h10=> ?_;intros
 refine qO ?_;refine bY ?_;exact aD aE ⟨r10,by(exact bA),rfl⟩ aA
theorem aI8(k:Int):SCall Tryz.prog 299 [.int .i64 k] [] (fun y σ=>y=.ro 1 ((aY k).map aR) .any∧σ=[]):=by
 refine cC 7 [0,2,4] Tryz.func299 ?_;refine gX ?_;refine rL ?_;refine aB rfl (fun g1=> ?_) (fun g1=> ?_)
 ·rw[show aY k=[]from if_pos g1];refine dG ?_;refine pI ?_;refine dZ (eK (j:=2) (y:=.ro 1 (([]:List Int).map aR) .any) rfl VLe.empty) ?_;refine aI ?_;exact aD aE ⟨by rfl,rfl⟩ aA
 rw[show aY k=[k]from if_neg (by simp[g1])];refine dO ?_;refine eS fun r6 h6=> ?_;intros
 refine pI ?_;refine aAc (j:=2) rfl bH (aM aO (by simp)) ?_;refine aI ?_;exact aD aE ⟨by rfl,rfl⟩ aA
theorem BW(hz:Nq q z)(t:RT):SCall Tryz.prog 302 [.ptr z 0] (jG z q t) (fun _ σ=>∃e,Nq e z∧σ=jG z e (rG t)):=by
 obtain⟨ta,tl,tb,l,dd⟩:=t;refine cC 8 [0] Tryz.func302 ?_;unfold jG;dsimp only;refine dF ?_;refine AF ?_;apply HW;rfl;rfl;rfl;rfl;exact jU;refine QG z 0 3 1 (by decide) aO rfl (by decide) fun e he=> ?_
 simp only[aP,aX,and_true]at he;repeat rcases he with⟨_,he⟩
 apply Exists.intro;apply And.intro;exact cJ;refine qO ?_;refine bY ?_;exact aD aE ⟨e,by(exact bA),rfl⟩ aA
theorem xP(hp:Nq p r)(t:RT)(hl:t.lb.length≤1000000)(n:Int)(hn:-9000000000000000000≤n∧n≤9000000000000000000):SCall Tryz.prog 301 [.ptr r 0,.int .i64 n] (kD E0 r p t) (fun y σ=>∃b,y=.tup [.ro 1 ((dA t n).1.map aR) .any,.bool b]∧σ=kD E0 r p (dA t n).2):=by
 obtain⟨ta,tl,tb,l,dd⟩:=t;dsimp only at hl;refine cC 31 [0,1,4,5,6,20] Tryz.func301 ?_;unfold kD nJ;dsimp only;refine dG ?_;refine mK ?_;refine z76 ?_;refine nL ?_;refine sK ?_;refine lo (aF (E rfl)) rfl ?_;refine sK ?_;refine iF ?_;refine xT ?_;refine FN ?_;refine lP ?_;refine aB rfl (fun g2=> ?_) (fun g2=> ?_)
 ·have hP:dA ⟨ta,tl,tb,l,dd⟩ n=([],eG ⟨ta,tl,tb,l,dd⟩):=if_pos g2;rw[hP];refine uJ ?_;refine nY ?_;refine wB ?_;refine dZ (eK (j:=4) (y:=.ro 1 (([]:List Int).map aR) .any) rfl VLe.empty) ?_;refine aI ?_;exact aD aE ⟨_,by rfl,rfl⟩ aA
 have h2:0≤n∧0≤(tl.length:Int)-1-n:=by
  have:∀p q:Bool,(if p=true then true else q)=false→p=false∧q=false:=by intro p q;cases p<;>cases q<;>simp
  obtain⟨h1,h2⟩:=this _ _ g2;simp only[decide_eq_false_iff_not]at h1 h2;exact⟨by omega,by omega⟩
 obtain⟨w,hw⟩:∃w,tl[((tl.length:Int)-1-n).toNat]? =some w:=⟨_,List.getElem?_eq_getElem (by omega)⟩
 have hP:dA ⟨ta,tl,tb,l,dd⟩ n=(w,⟨ta,tl,tb,l,dd⟩):=by unfold dA;rw[if_neg (fun e=>by rw[g2]at e;cases e)];rw[List.getD_eq_getElem?_getD,hw];rfl
 rw[hP];refine dO ?_;refine nN ?_;refine nA ?_;refine jK ?_;exact aD aE ⟨_,by rfl,rfl⟩ aA
theorem TE(hp:Nq p r)(t:RT)(ha:t.a≤1000000)(op:Int):SCall Tryz.prog 300 [.ptr r 0,.int .i64 op] (kD E0 r p t) (fun y σ=>y=.bool (eP E0.bd t op).1∧σ=kD E0 r p (eP E0.bd t op).2):=by
 obtain⟨ta,tl,tb,l,dd⟩:=t;dsimp only at ha;have hu:∀b:Bool,(if decide ((ta:Int)<E0.bd.length)=true then((E0.bd.getD ta ⟨0,0,0,[]⟩).op==op)else false)=b→eP E0.bd ⟨ta,tl,tb,l,dd⟩ op=if b=true then(true,⟨ta+1,tl,tb,l,dd⟩)else(false,⟨ta,tl,tb,l,dd⟩):=fun b e=>by unfold eP;rw[e]
 refine cC 37 [0,1,4,29] Tryz.func300 ?_;unfold kD nJ;dsimp only;refine bP ?_;by_cases hlt:ta<E0.bd.length
 ·obtain⟨x,hx⟩:∃x,E0.bd[ta]? =some x:=⟨_,List.getElem?_eq_getElem hlt⟩
  rw[List.getD_eq_getElem?_getD,hx,decide_eq_true (by omega)]at hu;refine fK [(0,true),(1,true),(2,true),(3,true),(4,true),(5,true),(6,true),(7,true),(8,true),(9,true),(10,true),(11,true),(12,true),(13,true),(14,true),(15,true),(16,true),(17,true),(18,true),(19,true),(20,true),(21,true),(22,true),(23,true),(24,true)] ?_;refine pV ?_;refine DI ?_;refine z46 ?_;rw[show decide ((ta:Int)<(E0.bd.length:Int))=true from decide_eq_true (by omega)];refine CH ?_;refine sq7 ?_;refine rV ?_;refine AC ?_;refine sq7 ?_;refine rV ?_;refine QL ?_;refine aKc ?_;refine UT ?_;refine AC ?_;refine aD6 ?_;refine ZN ?_;refine kF ?_;refine aB rfl (fun g1=> ?_) (fun g1=> ?_)
  ·rw[hu true g1];refine dO ?_;refine nN ?_;refine PR ?_;refine AF ?_;refine nY ?_;refine bP ?_;exact aD aE ⟨by rfl,rfl⟩ aA
  rw[hu false g1];refine bP ?_;exact aD aE ⟨by rfl,rfl⟩ aA
 ·rw[decide_eq_false (by omega)]at hu;rw[hu false rfl];refine fK [(0,true),(1,true),(2,true),(3,true),(4,true),(5,true),(6,true),(7,true),(8,true),(9,true),(10,true),(11,true),(12,true),(13,true),(14,true),(15,true),(16,true),(17,true),(18,true),(19,true),(20,true),(21,true),(22,true),(23,true),(24,true)] ?_;refine pV ?_;refine DI ?_;refine z46 ?_;rw[show decide ((ta:Int)<(E0.bd.length:Int))=false from decide_eq_false (by omega)];refine CH ?_;refine sq7 ?_;refine rV ?_;refine AC ?_;refine sq7 ?_;refine rV ?_;refine QL ?_;refine aKc ?_;refine UT ?_;refine AC ?_;refine aD6 ?_;refine ZN ?_;refine yR ?_;refine bP ?_;exact aD aE ⟨by rfl,rfl⟩ aA
end
theorem aAJ(t:RT)(ks:List Int)(k:Int):aT t (ks++ [k])=aT (jF t k).2 ks:=by simp[aT]
theorem BX(t:RT)(k:Int):(jF t k).2.l.length≤t.l.length:=by
 unfold jF;refine aK (p:=fun r:Int×RT=>r.2.l.length≤t.l.length) (fun _=> ?_) (fun _=>by simp);exact aK (p:=fun r:RT=>r.l.length≤t.l.length) (fun _=>Nat.le_refl _) (fun _=>Nat.le_refl _)
theorem iQ(t:RT)(ks:List Int):(aT t ks).l.length≤t.l.length:=BQ (p:=fun q=>q.l.length≤t.l.length) (fun q w h=>Nat.le_trans (BX q w) h) ks t (Nat.le_refl _)
section
variable {r p z q : Nat} {E0 : Env}
theorem fB(hN:Nr r p z q)(t:RT)(hl:t.l.length≤1000000)(ks:List Int)(hkl:ks.length≤100000):SCall Tryz.prog 202 [.ptr r 0,.ptr z 0,.ro 1 (ks.map aR) .any] (fM E0 r p z q t) (fun _ σ=>σ=fM E0 r p z q (aT t ks)):=by
 have hN0:=hN;obtain⟨n1,n2,n3,n4,n5,n6⟩:=hN;refine cC 21 [0,1,2,6,11] Tryz.func202 ?_;unfold fM kD jG nJ
 (try dsimp only[List.cons_append,List.nil_append]);refine dO ?_;refine pH ?_;refine sK ?_;refine cZ ?_;refine lp (β:=Nat×RT) (fun b=>⟨[(0,.ptr r 0),(1,.ptr z 0),(2,.ro 1 (ks.map aR) .any),(6,.int .i64 ((b.1:Int)-1))],fM E0 r p z q b.2⟩) (fun b=>b.1≤ks.length∧b.2.l.length≤1000000∧aT b.2 (ks.take b.1)=aT t ks) (fun b=>b.1) (ks.length,t) (by unfold fM kD jG nJ;(try dsimp only[List.cons_append,List.nil_append]);(exact aJ)) ⟨Nat.le_refl _,hl,by rw[List.take_length]⟩ ?_;rintro⟨j,S⟩ ⟨hj,hS,hP⟩;dsimp only at hj hS hP⊢;unfold fM kD jG nJ
 (try dsimp only[List.cons_append,List.nil_append]);refine dO ?_;refine FQ ?_;refine aB rfl (fun g1=> ?_) (fun g1=> ?_)
 ·obtain⟨j,rfl⟩:∃j',j=j'+1:=⟨j-1,by simp at g1;omega⟩
  obtain⟨k,hk⟩:∃k,ks[j]? =some k:=⟨_,List.getElem?_eq_getElem (by omega)⟩
  have hk':ks[(((j+1:Nat):Int)-1).toNat]? =some k:=by rw[show(((j+1:Nat):Int)-1).toNat=j by omega];exact hk
  refine uZ ?_;refine nA ?_;refine cw (fM E0 r p z q S) Tryz.call274 (BV hN0 S hS k) rfl aC dI ?_;rintro _ σ' ⟨rfl,rfl⟩ h20;refine mQ ?_;refine eU ?_;refine sK ?_;refine cZ ?_;refine⟨(j,(jF S k).2),⟨by show j≤ _;omega,Nat.le_trans (BX S k) hS,by rw[←hP,List.take_add_one,hk];show _=aT S (ks.take j++ [k]);rw[aAJ]⟩,by show j<j+1;omega, ?_⟩
  (try dsimp only);rw[show(((j+1:Nat):Int)-1-1)=(j:Int)-1 by omega];exact aJ
 obtain rfl:j=0:=by simp at g1;omega
 rw[show aT t ks=S by rw[←hP];rfl];refine aI ?_;refine bY ?_;apply aD;exact aE
 ·rfl
 ·exact aA
theorem HJ(m:Md)(hi:m.im.length≤1000000)(f:Int)(hf:0≤f∧f≤9223372036854775807):SCall Tryz.prog 46 [.agg (aS m),.int .i64 f] [] (fun y σ=>y=.tup [.agg (cP (iP m f).1),.bool (iP m f).2]∧σ=[]):=by
 rw[xO hf.1];obtain⟨hf1,hf2⟩:=hf;refine cC 59 [0,1,2,4,5,6,15,34,52] Tryz.func46 ?_;unfold aS;refine dG ?_;refine iG fun r2 h2=> ?_;intros
 refine jZ fun r4 h4=> ?_;intros
 refine jC ?_;refine iF ?_;refine lo (gN (E rfl) (E rfl)) rfl ?_;rw[show decide ((0:Int)≤f)=true from decide_eq_true hf1];refine lM ?_;refine qR ?_;refine rK ?_;refine UR ?_;refine vB ?_;refine aB rfl (fun g2=> ?_) (fun g2=> ?_)
 ·have g2':decide (f<m.im.length)=true:=by simpa using g2
  obtain⟨x,hx⟩:∃x,m.im[f.toNat]? =some x:=⟨_,List.getElem?_eq_getElem (by simp at g2';omega)⟩
  have hlt:f<m.im.length:=by simpa using g2'
  rw[show kZ m f=x.ty by unfold kZ;rw[if_pos g2',List.getD_eq_getElem?_getD,hx];rfl];refine fE ?_;refine sO ?_;refine cZ ?_;generalize x.ty=kk;refine eU ?_;refine xT ?_;refine qR ?_;refine ZO ?_;refine lP ?_;refine aB rfl (fun g6=> ?_) (fun g6=> ?_)
  ·rw[show cM m kk=(sF,false)from if_pos g6];refine dG ?_;refine jY ?_;refine FS ?_;refine dZ (iE (r:=r4) (cs':=cP sF) cJ (.cons (.le VLe.empty) (.cons (.le VLe.empty) .nil))) ?_;refine aI ?_;exact aD aE ⟨by rfl,rfl⟩ aA
  have h2:0≤kk∧kk<m.ty.length:=by constructor<;>(apply Int.not_lt.1;intro hc;apply Bool.false_ne_true;rw[←g6];simp;omega)
  obtain⟨t,ht⟩:∃t,m.ty[kk.toNat]? =some t:=⟨_,List.getElem?_eq_getElem (by omega)⟩
  rw[show cM m kk=(t,true) by unfold cM;rw[if_neg (by simpa using g6)];rw[List.getD_eq_getElem?_getD,ht];rfl];refine fE ?_;refine mZ ?_;refine DG ?_;exact aD aE ⟨by rfl,rfl⟩ aA
 have g2':decide (f<m.im.length)=false:=by simpa using g2
 have hge:¬f<m.im.length:=by simpa using g2'
 refine dO ?_;refine lo (gN (E rfl) (E rfl)) rfl ?_;rw[show decide ((0:Int)≤f)=true from decide_eq_true hf1];refine lM ?_;refine qR ?_;refine rK ?_;first|refine ln rfl rfl rfl rfl ?_ |(refine gy rfl rfl ?_;(first|refine lo (sI (by first|exact W rfl id|exact E rfl) (by first|exact W rfl id|exact E rfl) (by omega) (by omega)) rfl ?_ |refine lo (EK (by first|exact W rfl id|exact E rfl) (by first|exact W rfl id|exact E rfl)) rfl ?_))|refine lg rfl rfl (sI (by first|exact W rfl id|exact E rfl) (by first|exact W rfl id|exact E rfl) (by omega) (by omega)) rfl ?_ |refine lg rfl rfl (lop_sub64c (by first|exact W rfl id|exact E rfl) (by first|exact W rfl id|exact E rfl) (fun hc=>by simp at hc<;>first|omega|(have hov:=hov hc;omega))) rfl ?_ |refine lg rfl rfl (EK (by first|exact W rfl id|exact E rfl) (by first|exact W rfl id|exact E rfl)) rfl ?_
 refine qR ?_;refine rK ?_;refine UR ?_;refine vB ?_;refine aB rfl (fun g4=> ?_) (fun g4=> ?_)
 ·have g4':decide (f-m.im.length<m.fn.length)=true:=by simpa using g4
  obtain⟨kk,hx⟩:∃x,m.fn[(f-m.im.length).toNat]? =some x:=⟨_,List.getElem?_eq_getElem (by simp at g4';omega)⟩
  have hlt:f-m.im.length<m.fn.length:=by simpa using g4'
  rw[show kZ m f=kk by unfold kZ;rw[if_neg (by simpa using g2'),if_pos g4',List.getD_eq_getElem?_getD,hx];rfl];refine fE ?_;refine lo (aF (E rfl)) rfl ?_;refine nL ?_;refine sK ?_;refine mJ ?_;refine iF ?_;refine xT ?_;refine qR ?_;refine ZO ?_;refine lP ?_;refine aB rfl (fun g6=> ?_) (fun g6=> ?_)
  ·rw[show cM m kk=(sF,false)from if_pos g6];refine dG ?_;refine jY ?_;refine FS ?_;refine dZ (iE (r:=r4) (cs':=cP sF) cJ (.cons (.le VLe.empty) (.cons (.le VLe.empty) .nil))) ?_;refine aI ?_;exact aD aE ⟨by rfl,rfl⟩ aA
  have h2:0≤kk∧kk<m.ty.length:=by constructor<;>(apply Int.not_lt.1;intro hc;apply Bool.false_ne_true;rw[←g6];simp;omega)
  obtain⟨t,ht⟩:∃t,m.ty[kk.toNat]? =some t:=⟨_,List.getElem?_eq_getElem (by omega)⟩
  rw[show cM m kk=(t,true) by unfold cM;rw[if_neg (by simpa using g6)];rw[List.getD_eq_getElem?_getD,ht];rfl];refine fE ?_;refine mZ ?_;refine DG ?_;exact aD aE ⟨by rfl,rfl⟩ aA
 have g4':decide (f-m.im.length<m.fn.length)=false:=by simpa using g4
 obtain⟨kk,hkk⟩:∃kk:Int,kk=-1:=⟨_,rfl⟩
 rw[show kZ m f=kk by rw[hkk];unfold kZ;rw[if_neg (by simpa using g2'),if_neg (by simpa using g4')],show cX (Value.int .i64 (-1))=AV.int .i64 kk by rw[hkk];rfl];refine dO ?_;refine xT ?_;refine qR ?_;refine ZO ?_;refine lP ?_;refine aB rfl (fun g6=> ?_) (fun g6=> ?_)
 ·rw[show cM m kk=(sF,false)from if_pos g6];refine dG ?_;refine jY ?_;refine FS ?_;refine dZ (iE (r:=r4) (cs':=cP sF) cJ (.cons (.le VLe.empty) (.cons (.le VLe.empty) .nil))) ?_;refine aI ?_;exact aD aE ⟨by rfl,rfl⟩ aA
 have h2:0≤kk∧kk<m.ty.length:=by constructor<;>(apply Int.not_lt.1;intro hc;apply Bool.false_ne_true;rw[←g6];simp;omega)
 obtain⟨t,ht⟩:∃t,m.ty[kk.toNat]? =some t:=⟨_,List.getElem?_eq_getElem (by omega)⟩
 rw[show cM m kk=(t,true) by unfold cM;rw[if_neg (by simpa using g6)];rw[List.getD_eq_getElem?_getD,ht];rfl];refine fE ?_;refine mZ ?_;refine DG ?_;exact aD aE ⟨by rfl,rfl⟩ aA
end
section
variable {r p z q : Nat} {E0 : Env}
theorem WQ(hN:Nr r p z q)(t:RT)(hl:t.l.length≤900000)(x:Ins):SCall Tryz.prog 304 [.ptr r 0,.agg (iv .any x),.ptr z 0] (fM E0 r p z q t) (fun _ σ=>∃e,Nr r p z e∧σ=fM E0 r p z e (ED E0.m x t)):=by
 have hN0:=hN;obtain⟨n1,n2,n3,n4,n5,n6⟩:=hN;have hl1:(if(!E0.m.me.has)=true then eG t else t).l.length≤900000:=aK (p:=fun r:RT=>r.l.length≤900000) (fun _=>hl) (fun _=>hl);unfold ED;unfold iv;refine cC 63 [0,1,2,4,6,7,14,19,20,23,26,31,43,49] Tryz.func304 ?_;unfold fM kD jG nJ
 (try dsimp only[List.cons_append,List.nil_append]);refine dG ?_;refine iG fun r4 h4=> ?_;intros
 refine jI ?_;refine eU ?_;refine AF ?_;refine oI ?_;refine oO ?_;refine nZ ?_;refine UO (β:=Unit) (fun _=>⟨[(0,.ptr r 0),(2,.ptr z 0),(4,.ptr r4 0)],(r4,.box 46 [.int .i64 x.op,.int .i64 x.a,.int .i64 x.b,.ro 1 (x.l.map aR) .any])::fM E0 r p z q (if(!E0.m.me.has)=true then eG t else t)⟩) (fun _=>True) ?_ ?_
 ·refine aB rfl (fun g1=> ?_) (fun g1=> ?_)
  ·rw[if_pos (c:=(!E0.m.me.has)=true) g1];refine nP ?_;exact⟨(),trivial,aJ⟩
  rw[if_neg (c:=(!E0.m.me.has)=true) (fun e=>by rw[g1]at e;cases e)];refine aI ?_;exact⟨(),trivial,aJ⟩
 rintro⟨⟩-;generalize(if(!E0.m.me.has)=true then eG t else t)=t1 at hl1⊢;unfold fM kD jG nJ
 (try dsimp only[List.cons_append,List.nil_append]);refine sR ?_;refine iX ?_;refine qS ?_;apply fD rfl;exact cT
 ·intro _;(refine aI ?_);refine eV ?_;exact aJ
 refine aI ?_;refine aB rfl (fun g6=> ?_) (fun g6=> ?_)
 ·rw[show BP x t1=tZ x 2 1 t1 from if_pos g6];refine bP ?_;obtain⟨c,k,hc,hk⟩:∃c k:Int,c=2∧k=1:=⟨_,_,rfl,rfl⟩
  rw[show tZ x 2 1 t1=tZ x c k t1 by rw[hc,hk],show cX (Value.int .i64 2)=AV.int .i64 c by rw[hc];rfl,show cX (Value.int .i64 1)=AV.int .i64 k by rw[hk];rfl];rw[show tZ x c k t1=if decide (54≤x.op)=true then aT (if decide (c<x.a)=true then eG t1 else t1) [1,k]else gR (aT (if decide (c<x.a)=true then eG t1 else t1) [1]) [k]from rfl];have hl2:(if decide (c<x.a)=true then eG t1 else t1).l.length≤900000:=aK (p:=fun r:RT=>r.l.length≤900000) (fun _=>hl1) (fun _=>hl1);refine nE ?_;refine lo (aF (E rfl)) rfl ?_;refine sN ?_;refine UO (β:=Unit) (fun _=>⟨[(0,.ptr r 0),(2,.ptr z 0),(4,.ptr r4 0),(7,.int .i64 k)],(r4,.box 46 [.int .i64 x.op,.int .i64 x.a,.int .i64 x.b,.ro 1 (x.l.map aR) .any])::fM E0 r p z q (if decide (c<x.a)=true then eG t1 else t1)⟩) (fun _=>True) ?_ ?_
  ·refine aB rfl (fun g17=> ?_) (fun g17=> ?_)
   ·rw[if_pos (c:=decide (c<x.a)=true) g17];refine nP ?_;exact⟨(),trivial,aJ⟩
   rw[if_neg (c:=decide (c<x.a)=true) (fun e=>by rw[g17]at e;cases e)];refine aI ?_;exact⟨(),trivial,aJ⟩
  rintro⟨⟩-;generalize(if decide (c<x.a)=true then eG t1 else t1)=t2 at hl2⊢;unfold fM kD jG nJ
  (try dsimp only[List.cons_append,List.nil_append]);have htl2:=iQ t2 [1];refine fE ?_;refine FQ ?_;refine aB rfl (fun g19=> ?_) (fun g19=> ?_)
  ·rw[if_pos (c:=decide (54≤x.op)=true) g19];have hL:=hN0;refine uZ ?_;refine eS fun r53 h53=> ?_;intros
   refine iR (j:=53) rfl bH (aM aO (by simp)) ?_;refine cw (fM E0 r p z q t2) Tryz.call202 (fB hN0 t2 (by omega) [1,k] (by simp)) rfl aC dI ?_;rintro _ σ' rfl h54;refine mQ ?_;exact aD aE ⟨_,hL,rfl⟩ aA
  rw[if_neg (c:=decide (54≤x.op)=true) (fun e=>by rw[g19]at e;cases e)];refine dF ?_;refine eS fun r57 h57=> ?_;intros
  refine iR (j:=57) rfl bH (aM aO (by simp)) ?_;refine cw (fM E0 r p z q t2) Tryz.call202 (fB hN0 t2 (by omega) [1] (by simp)) rfl aC dI ?_;rintro _ σ' rfl h58;refine mQ ?_;refine kL ?_;refine eS fun r61 h61=> ?_;intros
  refine iR (j:=61) rfl bH (aM aO (by simp)) ?_;refine cw (jG z q (aT t2 [1])) Tryz.call275 (iZ hN0.qz _ (by omega) [k] (by simp)) rfl aC dI ?_;rintro _ σ' ⟨e,he,rfl⟩ h62
  (try unfold fM);(try unfold kD);(try unfold jG);(try unfold nJ);(try dsimp only[List.cons_append,List.nil_append]);refine tE (h62 _ (List.mem_cons_of_mem _ List.mem_cons_self)) fun k62=> ?_;intros
  have hL:Nr r p z e:=⟨hN0.pr,hN0.zr,hN0.zp,by(exact bA),by(exact bA),by(exact bA)⟩
  refine fN ?_;refine bY ?_;exact aD aE ⟨_,hL,rfl⟩ aA
 refine dC ?_;apply fD rfl;exact cT
 ·intro _;(refine aI ?_);refine eV ?_;exact aJ
 refine aI ?_;refine aB rfl (fun g9=> ?_) (fun g9=> ?_)
 ·rw[show BP x t1=tZ x 3 2 t1 by unfold BP;simp only[g6,g9,if_true,if_false,Bool.false_eq_true]];refine dG ?_;refine jK ?_;obtain⟨c,k,hc,hk⟩:∃c k:Int,c=3∧k=2:=⟨_,_,rfl,rfl⟩
  rw[show tZ x 3 2 t1=tZ x c k t1 by rw[hc,hk],show cX (Value.int .i64 3)=AV.int .i64 c by rw[hc];rfl,show cX (Value.int .i64 2)=AV.int .i64 k by rw[hk];rfl];rw[show tZ x c k t1=if decide (54≤x.op)=true then aT (if decide (c<x.a)=true then eG t1 else t1) [1,k]else gR (aT (if decide (c<x.a)=true then eG t1 else t1) [1]) [k]from rfl];have hl2:(if decide (c<x.a)=true then eG t1 else t1).l.length≤900000:=aK (p:=fun r:RT=>r.l.length≤900000) (fun _=>hl1) (fun _=>hl1);refine nE ?_;refine lo (aF (E rfl)) rfl ?_;refine sN ?_;refine UO (β:=Unit) (fun _=>⟨[(0,.ptr r 0),(2,.ptr z 0),(4,.ptr r4 0),(7,.int .i64 k)],(r4,.box 46 [.int .i64 x.op,.int .i64 x.a,.int .i64 x.b,.ro 1 (x.l.map aR) .any])::fM E0 r p z q (if decide (c<x.a)=true then eG t1 else t1)⟩) (fun _=>True) ?_ ?_
  ·refine aB rfl (fun g17=> ?_) (fun g17=> ?_)
   ·rw[if_pos (c:=decide (c<x.a)=true) g17];refine nP ?_;exact⟨(),trivial,aJ⟩
   rw[if_neg (c:=decide (c<x.a)=true) (fun e=>by rw[g17]at e;cases e)];refine aI ?_;exact⟨(),trivial,aJ⟩
  rintro⟨⟩-;generalize(if decide (c<x.a)=true then eG t1 else t1)=t2 at hl2⊢;unfold fM kD jG nJ
  (try dsimp only[List.cons_append,List.nil_append]);have htl2:=iQ t2 [1];refine fE ?_;refine FQ ?_;refine aB rfl (fun g19=> ?_) (fun g19=> ?_)
  ·rw[if_pos (c:=decide (54≤x.op)=true) g19];have hL:=hN0;refine uZ ?_;refine z1 ?_;refine bI fun r53 h53=> ?_;repeat rcases h53 with⟨_,h53⟩
   refine iR (j:=53) rfl bH (aM aO (by simp)) ?_;refine cw (fM E0 r p z q t2) Tryz.call202 (fB hN0 t2 (by omega) [1,k] (by simp)) rfl aC dI ?_;rintro _ σ' rfl h54;refine mQ ?_;exact aD aE ⟨_,hL,rfl⟩ aA
  rw[if_neg (c:=decide (54≤x.op)=true) (fun e=>by rw[g19]at e;cases e)];refine dF ?_;refine z1 ?_;refine bI fun r57 h57=> ?_;repeat rcases h57 with⟨_,h57⟩
  refine iR (j:=57) rfl bH (aM aO (by simp)) ?_;refine cw (fM E0 r p z q t2) Tryz.call202 (fB hN0 t2 (by omega) [1] (by simp)) rfl aC dI ?_;rintro _ σ' rfl h58;refine mQ ?_;refine kL ?_;refine z1 ?_;refine bI fun r61 h61=> ?_;repeat rcases h61 with⟨_,h61⟩
  refine iR (j:=61) rfl bH (aM aO (by simp)) ?_;refine cw (jG z q (aT t2 [1])) Tryz.call275 (iZ hN0.qz _ (by omega) [k] (by simp)) rfl aC dI ?_;rintro _ σ' ⟨e,he,rfl⟩ h62
  (try unfold fM);(try unfold kD);(try unfold jG);(try unfold nJ);(try dsimp only[List.cons_append,List.nil_append]);refine tE (h62 _ (List.mem_cons_of_mem _ List.mem_cons_self)) fun k62=> ?_;intros
  have hL:Nr r p z e:=⟨hN0.pr,hN0.zr,hN0.zp,by(exact bA),by(exact bA),by(exact bA)⟩
  refine fN ?_;refine bY ?_;exact aD aE ⟨_,hL,rfl⟩ aA
 refine dC ?_;refine aB rfl (fun g12=> ?_) (fun g12=> ?_)
 ·rw[show BP x t1=gR t1 [1] by unfold BP;simp only[g6,g9,g12,if_true,if_false,Bool.false_eq_true]];refine dO ?_;refine eS fun r29 h29=> ?_;intros
  refine iR (j:=29) rfl bH (aM aO (by simp)) ?_;refine cw (jG z q t1) Tryz.call275 (iZ hN0.qz t1 (by omega) [1] (by simp)) rfl aC dI ?_;rintro _ σ' ⟨e,he,rfl⟩ h30
  (try unfold fM);(try unfold kD);(try unfold jG);(try unfold nJ);(try dsimp only[List.cons_append,List.nil_append]);refine tE (h30 _ (List.mem_cons_of_mem _ List.mem_cons_self)) fun k30=> ?_;intros
  have hL:Nr r p z e:=⟨hN0.pr,hN0.zr,hN0.zp,by(exact bA),by(exact bA),by(exact bA)⟩
  refine fN ?_;exact aD aE ⟨_,hL,rfl⟩ aA
 refine dC ?_;refine aB rfl (fun g14=> ?_) (fun g14=> ?_)
 ·rw[show BP x t1=gR (aT t1 [1]) [1] by unfold BP;simp only[g6,g9,g12,g14,if_true,if_false,Bool.false_eq_true]];have htl:=iQ t1 [1];refine dF ?_;refine eS fun r35 h35=> ?_;intros
  refine iR (j:=35) rfl bH (aM aO (by simp)) ?_;refine cw (fM E0 r p z q t1) Tryz.call202 (fB hN0 t1 (by omega) [1] (by simp)) rfl aC dI ?_;rintro _ σ' rfl h36;refine mQ ?_;refine eU ?_;refine eS fun r38 h38=> ?_;intros
  refine iR (j:=38) rfl bH (aM aO (by simp)) ?_;refine cw (jG z q (aT t1 [1])) Tryz.call275 (iZ hN0.qz _ (by omega) [1] (by simp)) rfl aC dI ?_;rintro _ σ' ⟨e,he,rfl⟩ h39
  (try unfold fM);(try unfold kD);(try unfold jG);(try unfold nJ);(try dsimp only[List.cons_append,List.nil_append]);refine tE (h39 _ (List.mem_cons_of_mem _ List.mem_cons_self)) fun k39=> ?_;intros
  have hL:Nr r p z e:=⟨hN0.pr,hN0.zr,hN0.zp,by(exact bA),by(exact bA),by(exact bA)⟩
  refine fN ?_;exact aD aE ⟨_,hL,rfl⟩ aA
 rw[show BP x t1=tZ x 0 1 t1 by unfold BP;simp only[g6,g9,g12,g14,if_true,if_false,Bool.false_eq_true]];obtain⟨c,k,hc,hk⟩:∃c k:Int,c=0∧k=1:=⟨_,_,rfl,rfl⟩
 rw[show tZ x 0 1 t1=tZ x c k t1 by rw[hc,hk],show cX (Value.int .i64 0)=AV.int .i64 c by rw[hc];rfl,show cX (Value.int .i64 1)=AV.int .i64 k by rw[hk];rfl];refine aI ?_;rw[show tZ x c k t1=if decide (54≤x.op)=true then aT (if decide (c<x.a)=true then eG t1 else t1) [1,k]else gR (aT (if decide (c<x.a)=true then eG t1 else t1) [1]) [k]from rfl];have hl2:(if decide (c<x.a)=true then eG t1 else t1).l.length≤900000:=aK (p:=fun r:RT=>r.l.length≤900000) (fun _=>hl1) (fun _=>hl1);refine nE ?_;refine lo (aF (E rfl)) rfl ?_;refine sN ?_;refine UO (β:=Unit) (fun _=>⟨[(0,.ptr r 0),(2,.ptr z 0),(4,.ptr r4 0),(7,.int .i64 k)],(r4,.box 46 [.int .i64 x.op,.int .i64 x.a,.int .i64 x.b,.ro 1 (x.l.map aR) .any])::fM E0 r p z q (if decide (c<x.a)=true then eG t1 else t1)⟩) (fun _=>True) ?_ ?_
 ·refine aB rfl (fun g17=> ?_) (fun g17=> ?_)
  ·rw[if_pos (c:=decide (c<x.a)=true) g17];refine nP ?_;exact⟨(),trivial,aJ⟩
  rw[if_neg (c:=decide (c<x.a)=true) (fun e=>by rw[g17]at e;cases e)];refine aI ?_;exact⟨(),trivial,aJ⟩
 rintro⟨⟩-;generalize(if decide (c<x.a)=true then eG t1 else t1)=t2 at hl2⊢;unfold fM kD jG nJ
 (try dsimp only[List.cons_append,List.nil_append]);have htl2:=iQ t2 [1];refine fE ?_;refine FQ ?_;refine aB rfl (fun g19=> ?_) (fun g19=> ?_)
 ·rw[if_pos (c:=decide (54≤x.op)=true) g19];have hL:=hN0;refine uZ ?_;refine z1 ?_;refine bI fun r53 h53=> ?_;repeat rcases h53 with⟨_,h53⟩
  refine iR (j:=53) rfl bH (aM aO (by simp)) ?_;refine cw (fM E0 r p z q t2) Tryz.call202 (fB hN0 t2 (by omega) [1,k] (by simp)) rfl aC dI ?_;rintro _ σ' rfl h54;refine mQ ?_;exact aD aE ⟨_,hL,rfl⟩ aA
 rw[if_neg (c:=decide (54≤x.op)=true) (fun e=>by rw[g19]at e;cases e)];refine dF ?_;refine z1 ?_;refine bI fun r57 h57=> ?_;repeat rcases h57 with⟨_,h57⟩
 refine iR (j:=57) rfl bH (aM aO (by simp)) ?_;refine cw (fM E0 r p z q t2) Tryz.call202 (fB hN0 t2 (by omega) [1] (by simp)) rfl aC dI ?_;rintro _ σ' rfl h58;refine mQ ?_;refine kL ?_;refine z1 ?_;refine bI fun r61 h61=> ?_;repeat rcases h61 with⟨_,h61⟩
 refine iR (j:=61) rfl bH (aM aO (by simp)) ?_;refine cw (jG z q (aT t2 [1])) Tryz.call275 (iZ hN0.qz _ (by omega) [k] (by simp)) rfl aC dI ?_;rintro _ σ' ⟨e,he,rfl⟩ h62
 (try unfold fM);(try unfold kD);(try unfold jG);(try unfold nJ);(try dsimp only[List.cons_append,List.nil_append]);refine tE (h62 _ (List.mem_cons_of_mem _ List.mem_cons_self)) fun k62=> ?_;intros
 have hL:Nr r p z e:=⟨hN0.pr,hN0.zr,hN0.zp,by(exact bA),by(exact bA),by(exact bA)⟩
 refine fN ?_;refine bY ?_;exact aD aE ⟨_,hL,rfl⟩ aA
end
section
variable {r p z q : Nat} {E0 : Env}
theorem aAK(hN:Nr r p z q)(t:RT)(hl:t.l.length≤900000)(x:Ins)(hx:x.Ck):SCall Tryz.prog 277 [.ptr r 0,.agg (iv .any x),.ptr z 0] (fM E0 r p z q t) (fun _ σ=>∃e,Nr r p z e∧σ=fM E0 r p z e (gF E0.m E0.ls x t)):=by
  have hN0:=hN;obtain⟨n1,n2,n3,n4,n5,n6⟩:=hN;have htl:=fun k=>iQ t [k]
  unfold iv;refine cC 118 [0,1,2,4,6,7,9,14,19,24,35,49,57,62,91,108] Tryz.func277 ?_;unfold fM kD jG nJ
  (try dsimp only[List.cons_append,List.nil_append]);refine dG ?_;refine iG fun r4 h4=> ?_;intros
  refine kU ?_;refine fE ?_;refine qS ?_;refine aB rfl (fun g3=> ?_) (fun g3=> ?_)
  · rw[show gF E0.m E0.ls x t=gR t [1]from if_pos g3];refine dO ?_;refine eS fun r17 h17=> ?_;intros
    refine iR (j:=17) rfl bH (aM aO (by simp)) ?_;refine cw (jG z q t) Tryz.call275 (iZ hN0.qz t (by omega) [1] (by simp)) rfl aC dI ?_;rintro _ σ' ⟨e,he,rfl⟩ h18
    (try unfold fM);(try unfold kD);(try unfold jG);(try unfold nJ);(try dsimp only[List.cons_append,List.nil_append]);refine tE (h18 _ (List.mem_cons_of_mem _ List.mem_cons_self)) fun k18=> ?_;intros
    have hL:Nr r p z e:=⟨hN0.pr,hN0.zr,hN0.zp,by(exact bA),by(exact bA),by(exact bA)⟩
    refine fN ?_;refine bY ?_;exact aD aE ⟨_,hL,rfl⟩ aA
  refine dC ?_;refine aB rfl (fun g5=> ?_) (fun g5=> ?_)
  · rw[show gF E0.m E0.ls x t=gR t [2] by unfold gF;simp only[g3,g5,if_true,if_false,Bool.false_eq_true]];refine dO ?_;refine eS fun r22 h22=> ?_;intros
    refine iR (j:=22) rfl bH (aM aO (by simp)) ?_;refine cw (jG z q t) Tryz.call275 (iZ hN0.qz t (by omega) [2] (by simp)) rfl aC dI ?_;rintro _ σ' ⟨e,he,rfl⟩ h23
    (try unfold fM);(try unfold kD);(try unfold jG);(try unfold nJ);(try dsimp only[List.cons_append,List.nil_append]);refine tE (h23 _ (List.mem_cons_of_mem _ List.mem_cons_self)) fun k23=> ?_;intros
    have hL:Nr r p z e:=⟨hN0.pr,hN0.zr,hN0.zp,by(exact bA),by(exact bA),by(exact bA)⟩
    refine fN ?_;refine bY ?_;exact aD aE ⟨_,hL,rfl⟩ aA
  refine dC ?_;apply fD rfl;exact cT
  · intro _;(refine aI ?_);refine eV ?_;apply eD rfl;exact cT
    · intro _;(refine aI ?_);refine eV ?_;exact aJ
    exact aJ
  refine aI ?_;refine aB rfl (fun g7=> ?_) (fun g7=> ?_)
  · have ha:0≤x.a:=hx.nn (by simp only[Bool.or_eq_true,beq_iff_eq]at g7;omega);rw[show gF E0.m E0.ls x t=if decide ((E0.ls.length:Int)≤x.a)=true then eG t else if(x.op !=33)=true then gR (if(x.op !=32)=true then aT t [E0.ls.getD x.a.toNat 0]else t) [E0.ls.getD x.a.toNat 0]else(if(x.op !=32)=true then aT t [E0.ls.getD x.a.toNat 0]else t) by unfold gF;simp only[g3,g5,g7,if_true,if_false,Bool.false_eq_true]];refine aI ?_;refine fK [(0,true),(1,true),(2,true),(3,true),(4,true),(5,true),(6,true),(7,true)] ?_;refine fZ ?_;refine DI ?_;refine fY rfl (gN (E rfl) (E rfl)) rfl ?_;refine kF ?_;refine aB rfl (fun g10=> ?_) (fun g10=> ?_)
    · rw[if_pos (c:=decide ((E0.ls.length:Int)≤x.a)=true) g10];have hL:=hN0;refine nP ?_;exact aD aE ⟨_,hL,rfl⟩ aA
    rw[if_neg (c:=decide ((E0.ls.length:Int)≤x.a)=true) (fun e=>by rw[g10]at e;cases e)];have hlt:x.a<E0.ls.length:=by simpa using g10
    obtain⟨k,hk⟩:∃k,E0.ls[x.a.toNat]? =some k:=⟨_,List.getElem?_eq_getElem (by omega)⟩
    rw[show E0.ls.getD x.a.toNat 0=k by rw[List.getD_eq_getElem?_getD,hk];rfl];refine aI ?_;refine fK [(0,true),(1,true),(2,true),(3,true),(4,true),(5,true),(6,true),(7,true),(8,true)] ?_;refine pV ?_;refine fZ ?_;refine HY ?_;refine JP ?_;refine yV ?_;have hl2:(if(x.op !=32)=true then aT t [k]else t).l.length≤900000:=aK (p:=fun r:RT=>r.l.length≤900000) (fun _=>Nat.le_trans (htl k) hl) (fun _=>hl);refine nE ?_;refine sM ?_;refine UO (β:=Unit) (fun _=>⟨[(0,.ptr r 0),(2,.ptr z 0),(4,.ptr r4 0),(6,.int .i64 k)],(r4,.box 46 [.int .i64 x.op,.int .i64 x.a,.int .i64 x.b,.ro 1 (x.l.map aR) .any])::fM E0 r p z q (if(x.op !=32)=true then aT t [k]else t)⟩) (fun _=>True) ?_ ?_
    · refine aB rfl (fun g13=> ?_) (fun g13=> ?_)
      · rw[if_pos (c:=(x.op !=32)=true) g13];refine uZ ?_;refine eS fun r53 h53=> ?_;intros
        refine iR (j:=53) rfl bH (aM aO (by simp)) ?_;refine cw (fM E0 r p z q t) Tryz.call202 (fB hN0 t (by omega) [k] (by simp)) rfl aC dI ?_;rintro _ σ' rfl h54;refine mQ ?_;exact⟨(),trivial,aJ⟩
      rw[if_neg (c:=(x.op !=32)=true) (fun e=>by rw[g13]at e;cases e)];refine aI ?_;exact⟨(),trivial,aJ⟩
    rintro⟨⟩-;generalize(if(x.op !=32)=true then aT t [k]else t)=t2 at hl2⊢;unfold fM kD jG nJ
    (try dsimp only[List.cons_append,List.nil_append]);refine fE ?_;refine sM ?_;refine aB rfl (fun g15=> ?_) (fun g15=> ?_)
    · rw[if_pos (c:=(x.op !=33)=true) g15];refine dF ?_;refine eS fun r60 h60=> ?_;intros
      refine iR (j:=60) rfl bH (aM aO (by simp)) ?_;refine cw (jG z q t2) Tryz.call275 (iZ hN0.qz t2 (by omega) [k] (by simp)) rfl aC dI ?_;rintro _ σ' ⟨e,he,rfl⟩ h61
      (try unfold fM);(try unfold kD);(try unfold jG);(try unfold nJ);(try dsimp only[List.cons_append,List.nil_append]);refine tE (h61 _ (List.mem_cons_of_mem _ List.mem_cons_self)) fun k61=> ?_;intros
      have hL:Nr r p z e:=⟨hN0.pr,hN0.zr,hN0.zp,by(exact bA),by(exact bA),by(exact bA)⟩
      refine fN ?_;refine bY ?_;exact aD aE ⟨_,hL,rfl⟩ aA
    rw[if_neg (c:=(x.op !=33)=true) (fun e=>by rw[g15]at e;cases e)];have hL:=hN0;refine aI ?_;refine bY ?_;exact aD aE ⟨_,hL,rfl⟩ aA
  refine dC ?_;apply fD rfl;exact cT
  · intro _;(refine aI ?_);refine eV ?_;exact aJ
  refine aI ?_;refine aB rfl (fun g17=> ?_) (fun g17=> ?_)
  · have ha:0≤x.a:=hx.nn (by simp only[Bool.or_eq_true,beq_iff_eq]at g17;omega);rw[show gF E0.m E0.ls x t=if(if decide ((E0.m.gl.length:Int)≤x.a)=true then true else if(x.op==36)=true then !(E0.m.gl.getD x.a.toNat KR).mu else false)=true then eG t else if(x.op==35)=true then gR t [(E0.m.gl.getD x.a.toNat KR).kd]else aT t [(E0.m.gl.getD x.a.toNat KR).kd] by unfold gF;simp only[g3,g5,g7,g17,if_true,if_false,Bool.false_eq_true]];refine aI ?_;by_cases hlt:(E0.m.gl.length:Int)≤x.a
    · rw[if_pos (c:=(if decide ((E0.m.gl.length:Int)≤x.a)=true then true else if(x.op==36)=true then !(E0.m.gl.getD x.a.toNat KR).mu else false)=true) (by rw[decide_eq_true hlt];rfl)];have hL:=hN0;refine fK [(0,true),(1,true),(2,true),(3,true),(4,true),(5,true),(6,true),(7,true),(8,true),(9,true),(10,true),(11,true),(12,true),(13,true),(14,true),(15,true),(16,true),(17,true),(18,true),(19,true),(20,true),(21,true),(22,true),(23,true),(24,true),(25,true),(26,true)] ?_;refine fZ ?_;refine FO ?_;refine zP ?_;refine fZ ?_;refine QQ ?_;rw[show decide ((E0.m.gl.length:Int)≤x.a)=true from decide_eq_true hlt];refine FV ?_;refine rV ?_;refine aKf ?_;first|refine kK rfl rfl rfl rfl rfl ?_ |(refine eZ rfl rfl rfl (aF (E rfl)) rfl ?_)|refine eQ rfl rfl rfl (aF (E rfl)) rfl ?_ |refine eL rfl rfl rfl (aF (E rfl)) rfl ?_ |refine eL rfl rfl rfl (bV (v:=.bool false)) rfl ?_
      first|refine kK rfl rfl rfl rfl rfl ?_ |(first|refine eZ rfl rfl rfl (bF (by first|exact W rfl id|exact E rfl) (.inl ⟨_,_,rfl⟩)) rfl ?_ |refine eZ rfl rfl rfl (bF (by first|exact W rfl id|exact E rfl) (.inr (.inl ⟨_,_,_,rfl⟩))) rfl ?_ |refine eZ rfl rfl rfl (bF (by first|exact W rfl id|exact E rfl) (.inr (.inr ⟨_,_,_,_,rfl⟩))) rfl ?_)|refine eQ rfl rfl rfl (bF (by first|exact W rfl (by first|exact id|simp)|exact E rfl) (.inl ⟨_,_,rfl⟩)) rfl ?_ |refine eQ rfl rfl rfl (bF (by first|exact W rfl (by first|exact id|simp)|exact E rfl) (.inr (.inl ⟨_,_,_,rfl⟩))) rfl ?_ |refine eQ rfl rfl rfl (bF (by first|exact W rfl (by first|exact id|simp)|exact E rfl) (.inr (.inr ⟨_,_,_,_,rfl⟩))) rfl ?_ |refine eL rfl rfl rfl (bF (by first|exact W rfl (by first|exact id|simp)|exact E rfl) (.inl ⟨_,_,rfl⟩)) rfl ?_ |refine eL rfl rfl rfl (bF (by first|exact W rfl (by first|exact id|simp)|exact E rfl) (.inr (.inl ⟨_,_,_,rfl⟩))) rfl ?_ |refine eL rfl rfl rfl (bF (by first|exact W rfl (by first|exact id|simp)|exact E rfl) (.inr (.inr ⟨_,_,_,_,rfl⟩))) rfl ?_ |refine eL rfl rfl rfl (bV (v:=.bool false)) rfl ?_
      first|refine kK rfl rfl rfl rfl rfl ?_ |(first|refine eZ rfl rfl rfl (bE (by first|exact W rfl id|exact E rfl) rfl (by decide)) rfl ?_ |refine eZ rfl rfl rfl (bM (by first|exact W rfl id|exact E rfl) rfl (by decide)) rfl ?_)|refine eQ rfl rfl rfl (bE (by first|exact W rfl (by first|exact id|simp)|exact E rfl) rfl (by decide)) rfl ?_ |refine eQ rfl rfl rfl (bM (by first|exact W rfl (by first|exact id|simp)|exact E rfl) rfl (by decide)) rfl ?_ |refine eL rfl rfl rfl (bE (by first|exact W rfl (by first|exact id|simp)|exact E rfl) rfl (by decide)) rfl ?_ |refine eL rfl rfl rfl (bM (by first|exact W rfl (by first|exact id|simp)|exact E rfl) rfl (by decide)) rfl ?_ |refine eL rfl rfl rfl (bV (v:=.bool false)) rfl ?_
      first|refine kK rfl rfl rfl rfl rfl ?_ |(first|refine eZ rfl rfl rfl (bE (by first|exact W rfl id|exact E rfl) rfl (by decide)) rfl ?_ |refine eZ rfl rfl rfl (bM (by first|exact W rfl id|exact E rfl) rfl (by decide)) rfl ?_)|refine eQ rfl rfl rfl (bE (by first|exact W rfl (by first|exact id|simp)|exact E rfl) rfl (by decide)) rfl ?_ |refine eQ rfl rfl rfl (bM (by first|exact W rfl (by first|exact id|simp)|exact E rfl) rfl (by decide)) rfl ?_ |refine eL rfl rfl rfl (bE (by first|exact W rfl (by first|exact id|simp)|exact E rfl) rfl (by decide)) rfl ?_ |refine eL rfl rfl rfl (bM (by first|exact W rfl (by first|exact id|simp)|exact E rfl) rfl (by decide)) rfl ?_ |refine eL rfl rfl rfl (bV (v:=.bool false)) rfl ?_
      first
        |refine kK rfl rfl rfl rfl rfl ?_
        |(
          first
           |refine eZ rfl rfl rfl (aL (by
            first
             |exact W rfl id
             |exact E rfl) rfl aO (fun _=>rfl)) rfl ?_
           |refine eZ rfl rfl rfl (aL (by
            first
             |exact W rfl id
             |exact E rfl) rfl aO (fun _=>by assumption)) rfl ?_
           |refine eZ rfl rfl rfl (aN (by
            first
             |exact W rfl id
             |exact E rfl) rfl (fun hc=>by
            first
             |rfl
             |exact aG (by assumption)
             |assumption
             |exact aG (aQ (by omega))) (fun _=>rfl)) rfl ?_)
        |refine eQ rfl rfl rfl (aL (by
           first
            |exact W rfl (by
            first
             |exact id
             |simp)
            |exact E rfl) rfl aO (fun _=>rfl)) rfl ?_
        |refine eQ rfl rfl rfl (aL (by
           first
            |exact W rfl (by
            first
             |exact id
             |simp)
            |exact E rfl) rfl aO (fun _=>by assumption)) rfl ?_
        |refine eQ rfl rfl rfl (aN (by
           first
            |exact W rfl (by
            first
             |exact id
             |simp)
            |exact E rfl) rfl (fun hc=>by
           first
            |rfl
            |exact aG (by assumption)
            |assumption
            |exact aG (aQ (by(try simp at hc)<;>omega))) (fun _=>rfl)) rfl ?_
        |refine eL rfl rfl rfl (aL (by
           first
            |exact W rfl (by
            first
             |exact id
             |simp)
            |exact E rfl) rfl aO (fun _=>rfl)) rfl ?_
        |refine eL rfl rfl rfl (aL (by
           first
            |exact W rfl (by
            first
             |exact id
             |simp)
            |exact E rfl) rfl aO (fun _=>by assumption)) rfl ?_
        |refine eL rfl rfl rfl (aN (by
           first
            |exact W rfl (by
            first
             |exact id
             |simp)
            |exact E rfl) rfl (fun hc=>by
           first
            |rfl
            |exact aG (by assumption)
            |assumption
            |exact aG (aQ (by(try simp at hc)<;>omega))) (fun _=>rfl)) rfl ?_
        |refine eL rfl rfl rfl (bV (v:=.bool false)) rfl ?_
      first|refine kK rfl rfl rfl rfl rfl ?_ |(first|refine eZ rfl rfl rfl (bE (E rfl) rfl (by decide)) rfl ?_ |refine eZ rfl rfl rfl (bM (E rfl) rfl (by decide)) rfl ?_)|refine eQ rfl rfl rfl (bE (E rfl) rfl (by decide)) rfl ?_ |refine eQ rfl rfl rfl (bM (E rfl) rfl (by decide)) rfl ?_ |refine eL rfl rfl rfl (bE (E rfl) rfl (by decide)) rfl ?_ |refine eL rfl rfl rfl (bM (E rfl) rfl (by decide)) rfl ?_ |refine eL rfl rfl rfl (bV (v:=.bool false)) rfl ?_
      first
        |refine kK rfl rfl rfl rfl rfl ?_
        |(
          first
           |refine eZ rfl rfl rfl (aL (by
            first
             |exact W rfl id
             |exact E rfl) rfl aO (fun _=>rfl)) rfl ?_
           |refine eZ rfl rfl rfl (aL (by
            first
             |exact W rfl id
             |exact E rfl) rfl aO (fun _=>by assumption)) rfl ?_
           |refine eZ rfl rfl rfl (aN (by
            first
             |exact W rfl id
             |exact E rfl) rfl (fun hc=>by
            first
             |rfl
             |exact aG (by assumption)
             |assumption
             |exact aG (aQ (by omega))) (fun _=>rfl)) rfl ?_)
        |refine eQ rfl rfl rfl (aL (by
           first
            |exact W rfl (by
            first
             |exact id
             |simp)
            |exact E rfl) rfl aO (fun _=>rfl)) rfl ?_
        |refine eQ rfl rfl rfl (aL (by
           first
            |exact W rfl (by
            first
             |exact id
             |simp)
            |exact E rfl) rfl aO (fun _=>by assumption)) rfl ?_
        |refine eQ rfl rfl rfl (aN (by
           first
            |exact W rfl (by
            first
             |exact id
             |simp)
            |exact E rfl) rfl (fun hc=>by
           first
            |rfl
            |exact aG (by assumption)
            |assumption
            |exact aG (aQ (by(try simp at hc)<;>omega))) (fun _=>rfl)) rfl ?_
        |refine eL rfl rfl rfl (aL (by
           first
            |exact W rfl (by
            first
             |exact id
             |simp)
            |exact E rfl) rfl aO (fun _=>rfl)) rfl ?_
        |refine eL rfl rfl rfl (aL (by
           first
            |exact W rfl (by
            first
             |exact id
             |simp)
            |exact E rfl) rfl aO (fun _=>by assumption)) rfl ?_
        |refine eL rfl rfl rfl (aN (by
           first
            |exact W rfl (by
            first
             |exact id
             |simp)
            |exact E rfl) rfl (fun hc=>by
           first
            |rfl
            |exact aG (by assumption)
            |assumption
            |exact aG (aQ (by(try simp at hc)<;>omega))) (fun _=>rfl)) rfl ?_
        |refine eL rfl rfl rfl (bV (v:=.bool false)) rfl ?_
      first
        |refine kK rfl rfl rfl rfl rfl ?_
        |(
          first
           |refine eZ rfl rfl rfl (bG (by
            first
             |exact W rfl id
             |exact E rfl) (by
            first
             |exact W rfl id
             |exact E rfl) (fun hc=>by(simp only[List.length_map];omega))) rfl ?_
           |refine eZ rfl rfl rfl (aV (by
            first
             |exact W rfl id
             |exact E rfl) aO (by
            first
             |exact W rfl id
             |exact E rfl) (fun hc=>by omega)) rfl ?_
           |refine eZ rfl rfl rfl (bK (by
            first
             |exact W rfl id
             |exact E rfl) aO (by
            first
             |exact W rfl id
             |exact E rfl) (fun hc=>by omega)) rfl ?_)
        |refine eQ rfl rfl rfl (bG (by
           first
            |exact W rfl (by
            first
             |exact id
             |simp)
            |exact E rfl) (by
           first
            |exact W rfl (by
            first
             |exact id
             |simp)
            |exact E rfl) (fun hc=>by(try simp at hc)<;>(simp only[List.length_map];omega))) rfl ?_
        |refine eQ rfl rfl rfl (aV (by
           first
            |exact W rfl (by
            first
             |exact id
             |simp)
            |exact E rfl) aO (by
           first
            |exact W rfl (by
            first
             |exact id
             |simp)
            |exact E rfl) (fun hc=>by(try simp at hc)<;>omega)) rfl ?_
        |refine eQ rfl rfl rfl (bK (by
           first
            |exact W rfl (by
            first
             |exact id
             |simp)
            |exact E rfl) aO (by
           first
            |exact W rfl (by
            first
             |exact id
             |simp)
            |exact E rfl) (fun hc=>by(try simp at hc)<;>omega)) rfl ?_
        |refine eL rfl rfl rfl (bG (by
           first
            |exact W rfl (by
            first
             |exact id
             |simp)
            |exact E rfl) (by
           first
            |exact W rfl (by
            first
             |exact id
             |simp)
            |exact E rfl) (fun hc=>by(try simp at hc)<;>(simp only[List.length_map];omega))) rfl ?_
        |refine eL rfl rfl rfl (aV (by
           first
            |exact W rfl (by
            first
             |exact id
             |simp)
            |exact E rfl) aO (by
           first
            |exact W rfl (by
            first
             |exact id
             |simp)
            |exact E rfl) (fun hc=>by(try simp at hc)<;>omega)) rfl ?_
        |refine eL rfl rfl rfl (bK (by
           first
            |exact W rfl (by
            first
             |exact id
             |simp)
            |exact E rfl) aO (by
           first
            |exact W rfl (by
            first
             |exact id
             |simp)
            |exact E rfl) (fun hc=>by(try simp at hc)<;>omega)) rfl ?_
        |refine eL rfl rfl rfl (bV (v:=.bool false)) rfl ?_
      first|refine kK rfl rfl rfl rfl rfl ?_ |(first|refine eZ rfl rfl rfl (bM (by first|exact W rfl id|exact E rfl) rfl (by decide)) rfl ?_ |refine eZ rfl rfl rfl (fJ (by first|exact W rfl id|exact E rfl) rfl (by decide)) rfl ?_)|refine eQ rfl rfl rfl (bM (by first|exact W rfl (by first|exact id|simp)|exact E rfl) rfl (by decide)) rfl ?_ |refine eQ rfl rfl rfl (fJ (by first|exact W rfl (by first|exact id|simp)|exact E rfl) rfl (by decide)) rfl ?_ |refine eL rfl rfl rfl (bM (by first|exact W rfl (by first|exact id|simp)|exact E rfl) rfl (by decide)) rfl ?_ |refine eL rfl rfl rfl (fJ (by first|exact W rfl (by first|exact id|simp)|exact E rfl) rfl (by decide)) rfl ?_ |refine eL rfl rfl rfl (bV (v:=.bool false)) rfl ?_
      first
        |refine kK rfl rfl rfl rfl rfl ?_
        |(
          first
           |refine eZ rfl rfl rfl (aN (by
            first
             |exact W rfl id
             |exact E rfl) rfl (fun hc=>by
            first
             |rfl
             |exact aG (by assumption)
             |assumption
             |exact aG (aQ (by omega))) (fun _=>rfl)) rfl ?_
           |refine eZ rfl rfl rfl (bQ (by
            first
             |exact W rfl id
             |exact E rfl) rfl aO (fun hc=>by
            first
             |rfl
             |exact aG (by assumption)
             |assumption
             |exact aG (aQ (by omega))) (fun _=>rfl)) rfl ?_)
        |refine eQ rfl rfl rfl (aN (by
           first
            |exact W rfl (by
            first
             |exact id
             |simp)
            |exact E rfl) rfl (fun hc=>by
           first
            |rfl
            |exact aG (by assumption)
            |assumption
            |exact aG (aQ (by(try simp at hc)<;>omega))) (fun _=>rfl)) rfl ?_
        |refine eQ rfl rfl rfl (bQ (by
           first
            |exact W rfl (by
            first
             |exact id
             |simp)
            |exact E rfl) rfl aO (fun hc=>by
           first
            |rfl
            |exact aG (by assumption)
            |assumption
            |exact aG (aQ (by(try simp at hc)<;>omega))) (fun _=>rfl)) rfl ?_
        |refine eL rfl rfl rfl (aN (by
           first
            |exact W rfl (by
            first
             |exact id
             |simp)
            |exact E rfl) rfl (fun hc=>by
           first
            |rfl
            |exact aG (by assumption)
            |assumption
            |exact aG (aQ (by(try simp at hc)<;>omega))) (fun _=>rfl)) rfl ?_
        |refine eL rfl rfl rfl (bQ (by
           first
            |exact W rfl (by
            first
             |exact id
             |simp)
            |exact E rfl) rfl aO (fun hc=>by
           first
            |rfl
            |exact aG (by assumption)
            |assumption
            |exact aG (aQ (by(try simp at hc)<;>omega))) (fun _=>rfl)) rfl ?_
        |refine eL rfl rfl rfl (bV (v:=.bool false)) rfl ?_
      first|refine kK rfl rfl rfl rfl rfl ?_ |(refine eZ rfl rfl rfl (eJ (by first|exact W rfl id|exact E rfl)) rfl ?_)|refine eQ rfl rfl rfl (eJ (by first|exact W rfl (by first|exact id|simp)|exact E rfl)) rfl ?_ |refine eL rfl rfl rfl (eJ (by first|exact W rfl (by first|exact id|simp)|exact E rfl)) rfl ?_ |refine eL rfl rfl rfl (bV (v:=.bool false)) rfl ?_
      refine aKd ?_;refine yR ?_;refine nP ?_;exact aD aE ⟨_,hL,rfl⟩ aA
    · obtain⟨g,hg⟩:∃g,E0.m.gl[x.a.toNat]? =some g:=⟨_,List.getElem?_eq_getElem (by omega)⟩
      have hlt2:x.a<E0.m.gl.length:=by omega
      rw[show E0.m.gl.getD x.a.toNat KR=g by rw[List.getD_eq_getElem?_getD,hg];rfl,show(if decide ((E0.m.gl.length:Int)≤x.a)=true then true else if(x.op==36)=true then !g.mu else false)=(if(x.op==36)=true then !g.mu else false) by rw[decide_eq_false hlt];rfl];refine fK [(0,true),(1,true),(2,true),(3,true),(4,true),(5,true),(6,true),(7,true),(8,true),(9,true),(10,true),(11,true),(12,true),(13,true),(14,true),(15,true),(16,true),(17,true),(18,true),(19,true),(20,true),(21,true),(22,true),(23,true),(24,true),(25,true),(26,true)] ?_;refine fZ ?_;refine FO ?_;refine zP ?_;refine fZ ?_;refine QQ ?_;rw[show decide ((E0.m.gl.length:Int)≤x.a)=false from decide_eq_false hlt];refine FV ?_;refine rV ?_;refine aKf ?_;first|refine kK rfl rfl rfl rfl rfl ?_ |(refine eZ rfl rfl rfl (aF (E rfl)) rfl ?_)|refine eQ rfl rfl rfl (aF (E rfl)) rfl ?_ |refine eL rfl rfl rfl (aF (E rfl)) rfl ?_ |refine eL rfl rfl rfl (bV (v:=.bool false)) rfl ?_
      first|refine kK rfl rfl rfl rfl rfl ?_ |(first|refine eZ rfl rfl rfl (bF (by first|exact W rfl id|exact E rfl) (.inl ⟨_,_,rfl⟩)) rfl ?_ |refine eZ rfl rfl rfl (bF (by first|exact W rfl id|exact E rfl) (.inr (.inl ⟨_,_,_,rfl⟩))) rfl ?_ |refine eZ rfl rfl rfl (bF (by first|exact W rfl id|exact E rfl) (.inr (.inr ⟨_,_,_,_,rfl⟩))) rfl ?_)|refine eQ rfl rfl rfl (bF (by first|exact W rfl (by first|exact id|simp)|exact E rfl) (.inl ⟨_,_,rfl⟩)) rfl ?_ |refine eQ rfl rfl rfl (bF (by first|exact W rfl (by first|exact id|simp)|exact E rfl) (.inr (.inl ⟨_,_,_,rfl⟩))) rfl ?_ |refine eQ rfl rfl rfl (bF (by first|exact W rfl (by first|exact id|simp)|exact E rfl) (.inr (.inr ⟨_,_,_,_,rfl⟩))) rfl ?_ |refine eL rfl rfl rfl (bF (by first|exact W rfl (by first|exact id|simp)|exact E rfl) (.inl ⟨_,_,rfl⟩)) rfl ?_ |refine eL rfl rfl rfl (bF (by first|exact W rfl (by first|exact id|simp)|exact E rfl) (.inr (.inl ⟨_,_,_,rfl⟩))) rfl ?_ |refine eL rfl rfl rfl (bF (by first|exact W rfl (by first|exact id|simp)|exact E rfl) (.inr (.inr ⟨_,_,_,_,rfl⟩))) rfl ?_ |refine eL rfl rfl rfl (bV (v:=.bool false)) rfl ?_
      first|refine kK rfl rfl rfl rfl rfl ?_ |(first|refine eZ rfl rfl rfl (bE (by first|exact W rfl id|exact E rfl) rfl (by decide)) rfl ?_ |refine eZ rfl rfl rfl (bM (by first|exact W rfl id|exact E rfl) rfl (by decide)) rfl ?_)|refine eQ rfl rfl rfl (bE (by first|exact W rfl (by first|exact id|simp)|exact E rfl) rfl (by decide)) rfl ?_ |refine eQ rfl rfl rfl (bM (by first|exact W rfl (by first|exact id|simp)|exact E rfl) rfl (by decide)) rfl ?_ |refine eL rfl rfl rfl (bE (by first|exact W rfl (by first|exact id|simp)|exact E rfl) rfl (by decide)) rfl ?_ |refine eL rfl rfl rfl (bM (by first|exact W rfl (by first|exact id|simp)|exact E rfl) rfl (by decide)) rfl ?_ |refine eL rfl rfl rfl (bV (v:=.bool false)) rfl ?_
      first|refine kK rfl rfl rfl rfl rfl ?_ |(first|refine eZ rfl rfl rfl (bE (by first|exact W rfl id|exact E rfl) rfl (by decide)) rfl ?_ |refine eZ rfl rfl rfl (bM (by first|exact W rfl id|exact E rfl) rfl (by decide)) rfl ?_)|refine eQ rfl rfl rfl (bE (by first|exact W rfl (by first|exact id|simp)|exact E rfl) rfl (by decide)) rfl ?_ |refine eQ rfl rfl rfl (bM (by first|exact W rfl (by first|exact id|simp)|exact E rfl) rfl (by decide)) rfl ?_ |refine eL rfl rfl rfl (bE (by first|exact W rfl (by first|exact id|simp)|exact E rfl) rfl (by decide)) rfl ?_ |refine eL rfl rfl rfl (bM (by first|exact W rfl (by first|exact id|simp)|exact E rfl) rfl (by decide)) rfl ?_ |refine eL rfl rfl rfl (bV (v:=.bool false)) rfl ?_
      first
        |refine kK rfl rfl rfl rfl rfl ?_
        |(
          first
           |refine eZ rfl rfl rfl (aL (by
            first
             |exact W rfl id
             |exact E rfl) rfl aO (fun _=>rfl)) rfl ?_
           |refine eZ rfl rfl rfl (aL (by
            first
             |exact W rfl id
             |exact E rfl) rfl aO (fun _=>by assumption)) rfl ?_
           |refine eZ rfl rfl rfl (aN (by
            first
             |exact W rfl id
             |exact E rfl) rfl (fun hc=>by
            first
             |rfl
             |exact aG (by assumption)
             |assumption
             |exact aG (aQ (by omega))) (fun _=>rfl)) rfl ?_)
        |refine eQ rfl rfl rfl (aL (by
           first
            |exact W rfl (by
            first
             |exact id
             |simp)
            |exact E rfl) rfl aO (fun _=>rfl)) rfl ?_
        |refine eQ rfl rfl rfl (aL (by
           first
            |exact W rfl (by
            first
             |exact id
             |simp)
            |exact E rfl) rfl aO (fun _=>by assumption)) rfl ?_
        |refine eQ rfl rfl rfl (aN (by
           first
            |exact W rfl (by
            first
             |exact id
             |simp)
            |exact E rfl) rfl (fun hc=>by
           first
            |rfl
            |exact aG (by assumption)
            |assumption
            |exact aG (aQ (by(try simp at hc)<;>omega))) (fun _=>rfl)) rfl ?_
        |refine eL rfl rfl rfl (aL (by
           first
            |exact W rfl (by
            first
             |exact id
             |simp)
            |exact E rfl) rfl aO (fun _=>rfl)) rfl ?_
        |refine eL rfl rfl rfl (aL (by
           first
            |exact W rfl (by
            first
             |exact id
             |simp)
            |exact E rfl) rfl aO (fun _=>by assumption)) rfl ?_
        |refine eL rfl rfl rfl (aN (by
           first
            |exact W rfl (by
            first
             |exact id
             |simp)
            |exact E rfl) rfl (fun hc=>by
           first
            |rfl
            |exact aG (by assumption)
            |assumption
            |exact aG (aQ (by(try simp at hc)<;>omega))) (fun _=>rfl)) rfl ?_
        |refine eL rfl rfl rfl (bV (v:=.bool false)) rfl ?_
      first|refine kK rfl rfl rfl rfl rfl ?_ |(first|refine eZ rfl rfl rfl (bE (E rfl) rfl (by decide)) rfl ?_ |refine eZ rfl rfl rfl (bM (E rfl) rfl (by decide)) rfl ?_)|refine eQ rfl rfl rfl (bE (E rfl) rfl (by decide)) rfl ?_ |refine eQ rfl rfl rfl (bM (E rfl) rfl (by decide)) rfl ?_ |refine eL rfl rfl rfl (bE (E rfl) rfl (by decide)) rfl ?_ |refine eL rfl rfl rfl (bM (E rfl) rfl (by decide)) rfl ?_ |refine eL rfl rfl rfl (bV (v:=.bool false)) rfl ?_
      first
        |refine kK rfl rfl rfl rfl rfl ?_
        |(
          first
           |refine eZ rfl rfl rfl (aL (by
            first
             |exact W rfl id
             |exact E rfl) rfl aO (fun _=>rfl)) rfl ?_
           |refine eZ rfl rfl rfl (aL (by
            first
             |exact W rfl id
             |exact E rfl) rfl aO (fun _=>by assumption)) rfl ?_
           |refine eZ rfl rfl rfl (aN (by
            first
             |exact W rfl id
             |exact E rfl) rfl (fun hc=>by
            first
             |rfl
             |exact aG (by assumption)
             |assumption
             |exact aG (aQ (by omega))) (fun _=>rfl)) rfl ?_)
        |refine eQ rfl rfl rfl (aL (by
           first
            |exact W rfl (by
            first
             |exact id
             |simp)
            |exact E rfl) rfl aO (fun _=>rfl)) rfl ?_
        |refine eQ rfl rfl rfl (aL (by
           first
            |exact W rfl (by
            first
             |exact id
             |simp)
            |exact E rfl) rfl aO (fun _=>by assumption)) rfl ?_
        |refine eQ rfl rfl rfl (aN (by
           first
            |exact W rfl (by
            first
             |exact id
             |simp)
            |exact E rfl) rfl (fun hc=>by
           first
            |rfl
            |exact aG (by assumption)
            |assumption
            |exact aG (aQ (by(try simp at hc)<;>omega))) (fun _=>rfl)) rfl ?_
        |refine eL rfl rfl rfl (aL (by
           first
            |exact W rfl (by
            first
             |exact id
             |simp)
            |exact E rfl) rfl aO (fun _=>rfl)) rfl ?_
        |refine eL rfl rfl rfl (aL (by
           first
            |exact W rfl (by
            first
             |exact id
             |simp)
            |exact E rfl) rfl aO (fun _=>by assumption)) rfl ?_
        |refine eL rfl rfl rfl (aN (by
           first
            |exact W rfl (by
            first
             |exact id
             |simp)
            |exact E rfl) rfl (fun hc=>by
           first
            |rfl
            |exact aG (by assumption)
            |assumption
            |exact aG (aQ (by(try simp at hc)<;>omega))) (fun _=>rfl)) rfl ?_
        |refine eL rfl rfl rfl (bV (v:=.bool false)) rfl ?_
      first
        |refine kK rfl rfl rfl rfl rfl ?_
        |(
          first
           |refine eZ rfl rfl rfl (bG (by
            first
             |exact W rfl id
             |exact E rfl) (by
            first
             |exact W rfl id
             |exact E rfl) (fun hc=>by(simp only[List.length_map];omega))) rfl ?_
           |refine eZ rfl rfl rfl (aV (by
            first
             |exact W rfl id
             |exact E rfl) aO (by
            first
             |exact W rfl id
             |exact E rfl) (fun hc=>by omega)) rfl ?_
           |refine eZ rfl rfl rfl (bK (by
            first
             |exact W rfl id
             |exact E rfl) aO (by
            first
             |exact W rfl id
             |exact E rfl) (fun hc=>by omega)) rfl ?_)
        |refine eQ rfl rfl rfl (bG (by
           first
            |exact W rfl (by
            first
             |exact id
             |simp)
            |exact E rfl) (by
           first
            |exact W rfl (by
            first
             |exact id
             |simp)
            |exact E rfl) (fun hc=>by(try simp at hc)<;>(simp only[List.length_map];omega))) rfl ?_
        |refine eQ rfl rfl rfl (aV (by
           first
            |exact W rfl (by
            first
             |exact id
             |simp)
            |exact E rfl) aO (by
           first
            |exact W rfl (by
            first
             |exact id
             |simp)
            |exact E rfl) (fun hc=>by(try simp at hc)<;>omega)) rfl ?_
        |refine eQ rfl rfl rfl (bK (by
           first
            |exact W rfl (by
            first
             |exact id
             |simp)
            |exact E rfl) aO (by
           first
            |exact W rfl (by
            first
             |exact id
             |simp)
            |exact E rfl) (fun hc=>by(try simp at hc)<;>omega)) rfl ?_
        |refine eL rfl rfl rfl (bG (by
           first
            |exact W rfl (by
            first
             |exact id
             |simp)
            |exact E rfl) (by
           first
            |exact W rfl (by
            first
             |exact id
             |simp)
            |exact E rfl) (fun hc=>by(try simp at hc)<;>(simp only[List.length_map];omega))) rfl ?_
        |refine eL rfl rfl rfl (aV (by
           first
            |exact W rfl (by
            first
             |exact id
             |simp)
            |exact E rfl) aO (by
           first
            |exact W rfl (by
            first
             |exact id
             |simp)
            |exact E rfl) (fun hc=>by(try simp at hc)<;>omega)) rfl ?_
        |refine eL rfl rfl rfl (bK (by
           first
            |exact W rfl (by
            first
             |exact id
             |simp)
            |exact E rfl) aO (by
           first
            |exact W rfl (by
            first
             |exact id
             |simp)
            |exact E rfl) (fun hc=>by(try simp at hc)<;>omega)) rfl ?_
        |refine eL rfl rfl rfl (bV (v:=.bool false)) rfl ?_
      first|refine kK rfl rfl rfl rfl rfl ?_ |(first|refine eZ rfl rfl rfl (bM (by first|exact W rfl id|exact E rfl) rfl (by decide)) rfl ?_ |refine eZ rfl rfl rfl (fJ (by first|exact W rfl id|exact E rfl) rfl (by decide)) rfl ?_)|refine eQ rfl rfl rfl (bM (by first|exact W rfl (by first|exact id|simp)|exact E rfl) rfl (by decide)) rfl ?_ |refine eQ rfl rfl rfl (fJ (by first|exact W rfl (by first|exact id|simp)|exact E rfl) rfl (by decide)) rfl ?_ |refine eL rfl rfl rfl (bM (by first|exact W rfl (by first|exact id|simp)|exact E rfl) rfl (by decide)) rfl ?_ |refine eL rfl rfl rfl (fJ (by first|exact W rfl (by first|exact id|simp)|exact E rfl) rfl (by decide)) rfl ?_ |refine eL rfl rfl rfl (bV (v:=.bool false)) rfl ?_
      first
        |refine kK rfl rfl rfl rfl rfl ?_
        |(
          first
           |refine eZ rfl rfl rfl (aN (by
            first
             |exact W rfl id
             |exact E rfl) rfl (fun hc=>by
            first
             |rfl
             |exact aG (by assumption)
             |assumption
             |exact aG (aQ (by omega))) (fun _=>rfl)) rfl ?_
           |refine eZ rfl rfl rfl (bQ (by
            first
             |exact W rfl id
             |exact E rfl) rfl aO (fun hc=>by
            first
             |rfl
             |exact aG (by assumption)
             |assumption
             |exact aG (aQ (by omega))) (fun _=>rfl)) rfl ?_)
        |refine eQ rfl rfl rfl (aN (by
           first
            |exact W rfl (by
            first
             |exact id
             |simp)
            |exact E rfl) rfl (fun hc=>by
           first
            |rfl
            |exact aG (by assumption)
            |assumption
            |exact aG (aQ (by(try simp at hc)<;>omega))) (fun _=>rfl)) rfl ?_
        |refine eQ rfl rfl rfl (bQ (by
           first
            |exact W rfl (by
            first
             |exact id
             |simp)
            |exact E rfl) rfl aO (fun hc=>by
           first
            |rfl
            |exact aG (by assumption)
            |assumption
            |exact aG (aQ (by(try simp at hc)<;>omega))) (fun _=>rfl)) rfl ?_
        |refine eL rfl rfl rfl (aN (by
           first
            |exact W rfl (by
            first
             |exact id
             |simp)
            |exact E rfl) rfl (fun hc=>by
           first
            |rfl
            |exact aG (by assumption)
            |assumption
            |exact aG (aQ (by(try simp at hc)<;>omega))) (fun _=>rfl)) rfl ?_
        |refine eL rfl rfl rfl (bQ (by
           first
            |exact W rfl (by
            first
             |exact id
             |simp)
            |exact E rfl) rfl aO (fun hc=>by
           first
            |rfl
            |exact aG (by assumption)
            |assumption
            |exact aG (aQ (by(try simp at hc)<;>omega))) (fun _=>rfl)) rfl ?_
        |refine eL rfl rfl rfl (bV (v:=.bool false)) rfl ?_
      first|refine kK rfl rfl rfl rfl rfl ?_ |(refine eZ rfl rfl rfl (eJ (by first|exact W rfl id|exact E rfl)) rfl ?_)|refine eQ rfl rfl rfl (eJ (by first|exact W rfl (by first|exact id|simp)|exact E rfl)) rfl ?_ |refine eL rfl rfl rfl (eJ (by first|exact W rfl (by first|exact id|simp)|exact E rfl)) rfl ?_ |refine eL rfl rfl rfl (bV (v:=.bool false)) rfl ?_
      refine aKd ?_;refine kF ?_;refine aB rfl (fun g19=> ?_) (fun g19=> ?_)
      · rw[if_pos (c:=(if(x.op==36)=true then !g.mu else false)=true) g19];have hL:=hN0;refine nP ?_;exact aD aE ⟨_,hL,rfl⟩ aA
      rw[if_neg (c:=(if(x.op==36)=true then !g.mu else false)=true) (fun e=>by rw[g19]at e;cases e)];refine aI ?_;refine fK [(0,true),(1,true),(2,true),(3,true),(4,true),(5,true),(6,true),(7,true),(8,true),(9,true),(10,true),(11,true)] ?_;refine FO ?_;refine zP ?_;refine fZ ?_;refine fZ ?_;refine HY ?_;refine aHB ?_;refine aD8 ?_;refine UW ?_;refine fE ?_;refine rL ?_;refine aB rfl (fun g22=> ?_) (fun g22=> ?_)
      · rw[if_pos (c:=(x.op==35)=true) g22];refine dF ?_;refine eS fun r111 h111=> ?_;intros
        refine iR (j:=111) rfl bH (aM aO (by simp)) ?_;refine cw (jG z q t) Tryz.call275 (iZ hN0.qz t (by omega) [g.kd] (by simp)) rfl aC dI ?_;rintro _ σ' ⟨e,he,rfl⟩ h112
        (try unfold fM);(try unfold kD);(try unfold jG);(try unfold nJ);(try dsimp only[List.cons_append,List.nil_append]);refine tE (h112 _ (List.mem_cons_of_mem _ List.mem_cons_self)) fun k112=> ?_;intros
        have hL:Nr r p z e:=⟨hN0.pr,hN0.zr,hN0.zp,by(exact bA),by(exact bA),by(exact bA)⟩
        refine fN ?_;refine bY ?_;exact aD aE ⟨_,hL,rfl⟩ aA
      rw[if_neg (c:=(x.op==35)=true) (fun e=>by rw[g22]at e;cases e)];refine uZ ?_;refine eS fun r116 h116=> ?_;intros
      refine iR (j:=116) rfl bH (aM aO (by simp)) ?_;refine cw (fM E0 r p z q t) Tryz.call202 (fB hN0 t (by omega) [g.kd] (by simp)) rfl aC dI ?_;rintro _ σ' rfl h117
      (try unfold fM);(try unfold kD);(try unfold jG);(try unfold nJ);(try dsimp only[List.cons_append,List.nil_append]);have hL:=hN0;refine fN ?_;refine bY ?_;exact aD aE ⟨_,hL,rfl⟩ aA
  rw[show gF E0.m E0.ls x t=ED E0.m x t by unfold gF;simp only[g3,g5,g7,g17,if_true,if_false,Bool.false_eq_true]];refine dO ?_;refine DX ?_;refine cw (fM E0 r p z q t) Tryz.call304 (WQ hN0 t hl x) rfl aC dI ?_;rintro _ σ' ⟨e,hL,rfl⟩ h13
  (try unfold fM);(try unfold kD);(try unfold jG);(try unfold nJ);(try dsimp only[List.cons_append,List.nil_append]);obtain⟨m1,m2,m3,m4,m5,m6⟩:=id hL;refine fN ?_;refine bY ?_;exact aD aE ⟨_,hL,rfl⟩ aA
end
theorem HK{m:Md}(h:m.TS){f:Int}(hf:0≤f):(iP m f).1.Sm:=by rw[xO hf];exact qG h _
section
variable {r p z q : Nat} {E0 : Env}
theorem aDi(hN:Nr r p z q)(hm:E0.m.Ck)(t:RT)(hl:t.l.length≤900000)(x:Ins)(ha:0≤x.a)(ha2:x.a≤9223372036854775807):SCall Tryz.prog 273 [.ptr r 0,.agg (iv .any x),.ptr z 0] (fM E0 r p z q t) (fun _ σ=>∃e,Nr r p z e∧σ=fM E0 r p z e (rI E0.m x t)):=by
 have hN0:=hN;obtain⟨n1,n2,n3,n4,n5,n6⟩:=hN;have hts:=HK hm.ts ha;unfold iv;refine cC 71 [0,1,2,4,6,7,8,11,23,45] Tryz.func273 ?_;unfold fM kD jG nJ
 (try dsimp only[List.cons_append,List.nil_append]);refine dG ?_;refine iG fun r4 h4=> ?_;intros
 refine kU ?_;refine dG ?_;refine jZ fun r6 h6=> ?_;intros
 refine kU ?_;refine fE ?_;refine rL ?_;refine aB rfl (fun g2=> ?_) (fun g2=> ?_)
 ·rw[show rI E0.m x t=if(!(iP E0.m x.a).2)=true then eG t else gR (aT t (iP E0.m x.a).1.pr) (iP E0.m x.a).1.rs from if_pos g2];refine aI ?_;refine UO (β:=Nat) (fun a7=>⟨[(0,.ptr r 0),(2,.ptr z 0),(4,.ptr r4 0),(6,.ptr r6 0),(7,.ptr a7 0),(8,.bool (iP E0.m x.a).2)],(a7,.box 50 (cP (iP E0.m x.a).1))::(r6,.box 50 [.ro 0 [] .nil,.ro 0 [] .nil])::(r4,.box 46 [.int .i64 x.op,.int .i64 x.a,.int .i64 x.b,.ro 1 (x.l.map aR) .any])::fM E0 r p z q t⟩) (fun a7=>Nq a7 r6∧Nq a7 r4∧Nq a7 r∧Nq a7 p∧Nq a7 z∧Nq a7 q) ?_ ?_
  ·refine fK [(0,true),(1,true),(2,true),(3,true),(4,true),(5,true),(13,false),(13,false),(13,false),(13,false),(13,false),(13,false),(13,false)] ?_;refine FO ?_;refine zP ?_;refine UE ?_;refine fZ ?_;refine iC 6 10 [(7,true),(8,true),(9,true),(10,false),(11,false),(12,true)] [(6,false),(7,true),(8,true),(9,true),(11,false),(12,true)] (f1:=[]) (f2:=[]) (by kernel_rfl) rfl rfl ?_ ?_ (.inl rfl) (.inl rfl)
   ·refine sH (σ1:=[]) Tryz.call46 (HJ E0.m hm.im x.a ⟨ha,ha2⟩) (dL rfl) aC aA ?_;rintro _ σ' ⟨rfl,rfl⟩ h19;apply bZ;exact bN;refine fY rfl (aF (E rfl)) rfl ?_;refine z85 ?_;refine z85 ?_;apply dal;rfl;infer_instance;rfl;exact wA;refine kE fun r7 h7=> ?_;intros
    refine HZ ?_;refine UW ?_;refine an ?_;exact⟨r7,⟨by(exact bA),by(exact bA),by(exact bA),by(exact bA),by(exact bA),by(exact bA)⟩,aJ⟩
   ·apply aHd;infer_instance;rfl;exact wA;refine bI fun r7 h7=> ?_;repeat rcases h7 with⟨_,h7⟩
    refine sD [] rfl Tryz.call46 (HJ E0.m hm.im x.a ⟨ha,ha2⟩) rfl aC aA fS ?_;rintro _ σ' ⟨rfl,rfl⟩ h19;apply bZ;exact bN;refine fY rfl (aF (E rfl)) rfl ?_;refine z85 ?_;refine z85 ?_;refine HZ ?_;refine UW ?_;refine an ?_;exact⟨r7,⟨by(exact bA),by(exact bA),by(exact bA),by(exact bA),by(exact bA),by(exact bA)⟩,aJ⟩
  rintro a7 ⟨u1,u2,u3,u4,u5,u6⟩;unfold fM kD jG nJ
  (try dsimp only[List.cons_append,List.nil_append]);refine dO ?_;refine nZ ?_;refine aB rfl (fun g4=> ?_) (fun g4=> ?_)
  ·rw[if_pos g4];have hL:=hN0;refine nP ?_;exact aD aE ⟨_,hL,rfl⟩ aA
  rw[if_neg (c:=(!(iP E0.m x.a).2)=true) (fun e=>by rw[g4]at e;cases e)];generalize(iP E0.m x.a).1=y at hts⊢;obtain⟨T,hT⟩:∃T:RT,T=t:=⟨_,rfl⟩
  rw[←hT];have hTl:T.l.length≤900000:=by rw[hT];exact hl
  refine pM ?_;refine jJ ?_;obtain⟨pr,rs⟩:=y;obtain⟨ht1,ht2⟩:=hts;dsimp only at ht1 ht2⊢;have htk:=iQ T pr;refine kL ?_;refine oO ?_;refine cw (fM E0 r p z q T) Tryz.call202 (fB hN0 T (by omega) pr (by omega)) rfl aC dI ?_;rintro _ σ' rfl h66;refine mQ ?_;refine lO ?_;refine cw (jG z q (aT T pr)) Tryz.call275 (iZ hN0.qz _ (by omega) rs (by omega)) rfl aC dI ?_;rintro _ σ' ⟨e,he,rfl⟩ h70
  (try unfold fM);(try unfold kD);(try unfold jG);(try unfold nJ);(try dsimp only[List.cons_append,List.nil_append]);refine tE (h70 _ (List.mem_cons_of_mem _ List.mem_cons_self)) fun k70=> ?_;intros
  have hL:Nr r p z e:=⟨hN0.pr,hN0.zr,hN0.zp,by(exact bA),by(exact bA),by(exact bA)⟩
  refine fN ?_;refine bY ?_;exact aD aE ⟨_,hL,rfl⟩ aA
 rw[show rI E0.m x t=if(if(!E0.m.tb.has)=true then true else decide ((E0.m.ty.length:Int)≤x.a))=true then eG t else gR (aT (aT t [1]) (E0.m.ty.getD x.a.toNat sF).pr) (E0.m.ty.getD x.a.toNat sF).rs by unfold rI;rw[g2];rfl];refine aI ?_;refine fK [(0,true),(1,true),(2,true),(3,true),(4,true),(5,true),(6,true),(7,true),(8,true),(9,true),(10,true),(11,true),(12,true),(13,true),(14,true),(15,true),(16,true),(17,true)] ?_;refine FO ?_;refine zP ?_;refine zP ?_;refine fZ ?_;refine fY rfl (eJ (E rfl)) rfl ?_;refine FV ?_;refine rV ?_;refine AC ?_;refine sq7 ?_
 (first|refine kK rfl rfl rfl rfl rfl ?_ |(first|refine eZ rfl rfl rfl (bE (by first|exact W rfl id|exact E rfl) rfl (by decide)) rfl ?_ |refine eZ rfl rfl rfl (bM (by first|exact W rfl id|exact E rfl) rfl (by decide)) rfl ?_)|refine eQ rfl rfl rfl (bE (by first|exact W rfl id|exact E rfl) rfl (by decide)) rfl ?_ |refine eQ rfl rfl rfl (bM (by first|exact W rfl id|exact E rfl) rfl (by decide)) rfl ?_);refine rV ?_;refine UV ?_;refine IL ?_;refine kF ?_;refine aB rfl (fun g7=> ?_) (fun g7=> ?_)
 ·rw[if_pos g7];have hL:=hN0;refine nP ?_;exact aD aE ⟨_,hL,rfl⟩ aA
 rw[if_neg (c:=(if(!E0.m.tb.has)=true then true else decide ((E0.m.ty.length:Int)≤x.a))=true) (fun e=>by rw[g7]at e;cases e)];have hlt:x.a<E0.m.ty.length:=by
  have:∀p q:Bool,(if p=true then true else q)=false→p=false∧q=false:=by intro p q;cases p<;>cases q<;>simp
  have h2:=(this _ _ g7).2;simp only[decide_eq_false_iff_not]at h2;omega
 obtain⟨y,hy⟩:∃y,E0.m.ty[x.a.toNat]? =some y:=⟨_,List.getElem?_eq_getElem (by omega)⟩
 have hts:=hm.ts y (List.mem_of_getElem? hy);rw[show E0.m.ty.getD x.a.toNat sF=y by rw[List.getD_eq_getElem?_getD,hy];rfl];have htl:=iQ t [1];refine dF ?_;refine eS fun r51 h51=> ?_;intros
 refine iR (j:=51) rfl bH (aM aO (by simp)) ?_;refine cw (fM E0 r p z q t) Tryz.call202 (fB hN0 t (by omega) [1] (by simp)) rfl aC dI ?_;rintro _ σ' rfl h52;refine mQ ?_;have hTl:(aT t [1]).l.length≤900000:=by omega
 generalize aT t [1]=T at hTl⊢;refine fK [(0,true),(1,true),(2,true),(3,true),(4,true),(5,true),(6,true),(7,true),(8,true),(9,false)] ?_;refine FO ?_;refine zP ?_;refine fZ ?_;refine fZ ?_;refine HY ?_;refine xR ?_;refine HZ ?_;refine kF ?_;obtain⟨pr,rs⟩:=y;obtain⟨ht1,ht2⟩:=hts;dsimp only at ht1 ht2⊢;have htk:=iQ T pr;refine kL ?_;refine oO ?_;refine cw (fM E0 r p z q T) Tryz.call202 (fB hN0 T (by omega) pr (by omega)) rfl aC dI ?_;rintro _ σ' rfl h66;refine mQ ?_;refine lO ?_;refine cw (jG z q (aT T pr)) Tryz.call275 (iZ hN0.qz _ (by omega) rs (by omega)) rfl aC dI ?_;rintro _ σ' ⟨e,he,rfl⟩ h70
 (try unfold fM);(try unfold kD);(try unfold jG);(try unfold nJ);(try dsimp only[List.cons_append,List.nil_append]);refine tE (h70 _ (List.mem_cons_of_mem _ List.mem_cons_self)) fun k70=> ?_;intros
 have hL:Nr r p z e:=⟨hN0.pr,hN0.zr,hN0.zp,by(exact bA),by(exact bA),by(exact bA)⟩
 refine fN ?_;refine bY ?_;exact aD aE ⟨_,hL,rfl⟩ aA
end
theorem mF(t:RT)(n:Int):(dA t n).2.l=t.l∧(dA t n).2.dd=t.dd∧(dA t n).2.lb=t.lb:=by
 unfold dA;exact aK (p:=fun r:List Int×RT=>r.2.l=t.l∧r.2.dd=t.dd∧r.2.lb=t.lb) (fun _=>⟨rfl,rfl,rfl⟩) (fun _=>⟨rfl,rfl,rfl⟩)
def Sh (t:RT):Prop:=∀l∈t.lb,l.length≤1000
theorem BY{t:RT}(h:Sh t)(n:Int):(dA t n).1.length≤1000:=by
 unfold dA;refine aK (p:=fun r:List Int×RT=>r.1.length≤1000) (fun _=>by simp) (fun _=> ?_);show(t.lb.getD _ []).length≤1000;rw[List.getD_eq_getElem?_getD];cases hg:t.lb[((t.lb.length:Int)-1-n).toNat]? with
 |none=>simp
 |some l=>exact h l (List.mem_of_getElem? hg)
theorem aDj(w:List Int)(t:RT)(n:Int):(oW w t n).l=t.l∧(oW w t n).dd=t.dd∧(oW w t n).lb=t.lb:=by
 obtain⟨h1,h2,h3⟩:=mF t n;unfold oW;exact aK (p:=fun r:RT=>r.l=t.l∧r.dd=t.dd∧r.lb=t.lb) (fun _=>⟨h1,h2,h3⟩) (fun _=>⟨h1,h2,h3⟩)
theorem aAL(w l:List Int)(t:RT):(l.foldl (oW w) t).l=t.l∧(l.foldl (oW w) t).dd=t.dd∧(l.foldl (oW w) t).lb=t.lb:=by
 induction l generalizing t with
 |nil=>exact⟨rfl,rfl,rfl⟩
 |cons a l ih=>
  obtain⟨h1,h2,h3⟩:=aDj w t a;obtain⟨k1,k2,k3⟩:=ih (oW w t a);exact⟨k1.trans h1,k2.trans h2,k3.trans h3⟩
theorem aAM{w l:List Int}{t:RT}{j:Nat}{n:Int}(h:l[j]? =some n):(l.take (j+1)).foldl (oW w) t=oW w ((l.take j).foldl (oW w) t) n:=by
 rw[List.take_add_one,h,List.foldl_append];rfl
theorem TF(t:RT)(ks:List Int):Sh t→Sh (aT t ks):=fun h=>by unfold Sh;rw[rS];exact h
section
variable {r p z q : Nat} {E0 : Env}
theorem WR(hN:Nr r p z q)(hres:E0.res.length≤1000)(t:RT)(hl:t.l.length≤900000)(hsh:Sh t)(hlb:t.lb.length≤1000000)(x:Ins)(hx:x.Ck)(hop:PV x.op=true)(ha:-9000000000000000000≤x.a∧x.a≤9000000000000000000)(hxl:∀n∈x.l,-9000000000000000000≤n∧n≤9000000000000000000):SCall Tryz.prog 272 [.ptr r 0,.agg (iv .any x),.ptr z 0] (fM E0 r p z q t) (fun _ σ=>∃e,Nr r p z e∧σ=fM E0 r p z e (fU E0.res x t)):=by
 have hN0:=hN;obtain⟨n1,n2,n3,n4,n5,n6⟩:=hN;have hxll:=hx.ll;have htl1:=iQ t [1];have hts1:=TF t [1] hsh;have htb1:(aT t [1]).lb.length≤1000000:=by rw[rS];exact hlb
 unfold iv;refine cC 102 [0,1,2,4,6,8,10,12,13,16,17,30,50,67,83,91] Tryz.func272 ?_;unfold fM kD jG nJ
 (try dsimp only[List.cons_append,List.nil_append]);refine dG ?_;refine iG fun r4 h4=> ?_;intros
 refine kU ?_;refine fE ?_;refine qS ?_;refine aB rfl (fun g2=> ?_) (fun g2=> ?_)
 ·rw[show fU E0.res x t=rG (aT (dA t x.a).2 (dA t x.a).1)from if_pos g2];have hk:=mF t x.a;have hw:=BY hsh x.a;refine nD ?_;refine cw (kD E0 r p t) Tryz.call301 (xP hN0.pr t hlb x.a ha) rfl aC dI ?_;rintro _ σ' ⟨b,rfl,rfl⟩ h23;refine QN ?_;refine vA ?_;refine jK ?_;rw[←hk.1,←hk.2.1];generalize(dA t x.a).1=w at hw⊢;have hul:(dA t x.a).2.l.length≤900000:=by rw[hk.1];exact hl
  generalize(dA t x.a).2=u at hul hk⊢;refine yD ?_;refine cw (fM E0 r p z q u) Tryz.call202 (fB hN0 u (by omega) w (by omega)) rfl aC dI ?_;rintro _ σ' rfl h29;refine mQ ?_;generalize aT u w=T;refine eU ?_;refine cw (jG z q T) Tryz.call302 (BW hN0.qz T) rfl aC dI ?_;rintro _ σ' ⟨e,he,rfl⟩ h101
  (try unfold fM);(try unfold kD);(try unfold jG);(try unfold nJ);(try dsimp only[List.cons_append,List.nil_append]);refine tE (h101 _ (List.mem_cons_of_mem _ List.mem_cons_self)) fun k101=> ?_;intros
  have hL:Nr r p z e:=⟨hN0.pr,hN0.zr,hN0.zp,by(exact bA),by(exact bA),by(exact bA)⟩
  refine fN ?_;refine bY ?_;exact aD aE ⟨_,hL,rfl⟩ aA
 refine dC ?_;refine aB rfl (fun g5=> ?_) (fun g5=> ?_)
 ·rw[show fU E0.res x t=gR (aT (dA (aT t [1]) x.a).2 (dA (aT t [1]) x.a).1) (dA (aT t [1]) x.a).1 by unfold fU;simp only[g2,g5,if_true,if_false,Bool.false_eq_true]];refine dF ?_;refine eS fun r34 h34=> ?_;intros
  refine iR (j:=34) rfl bH (aM aO (by simp)) ?_;refine cw (fM E0 r p z q t) Tryz.call202 (fB hN0 t (by omega) [1] (by simp)) rfl aC dI ?_;rintro _ σ' rfl h35;refine mQ ?_;generalize aT t [1]=t1 at htl1 hts1 htb1⊢;have hk:=mF t1 x.a;have hw:=BY hts1 x.a;refine lO ?_;refine cw (kD E0 r p t1) Tryz.call301 (xP hN0.pr t1 htb1 x.a ha) rfl aC dI ?_;rintro _ σ' ⟨b,rfl,rfl⟩ h40;refine QN ?_;refine vA ?_;refine jK ?_;rw[←hk.1,←hk.2.1];generalize(dA t1 x.a).1=w at hw⊢;have hul:(dA t1 x.a).2.l.length≤900000:=by rw[hk.1];omega
  generalize(dA t1 x.a).2=u at hul hk⊢;refine yD ?_;refine cw (fM E0 r p z q u) Tryz.call202 (fB hN0 u (by omega) w (by omega)) rfl aC dI ?_;rintro _ σ' rfl h46;refine mQ ?_;have htl2:=iQ u w;generalize aT u w=T at htl2⊢;refine kL ?_;refine cw (jG z q T) Tryz.call275 (iZ hN0.qz T (by omega) w hw) rfl aC dI ?_;rintro _ σ' ⟨e,he,rfl⟩ h49
  (try unfold fM);(try unfold kD);(try unfold jG);(try unfold nJ);(try dsimp only[List.cons_append,List.nil_append]);refine tE (h49 _ (List.mem_cons_of_mem _ List.mem_cons_self)) fun k49=> ?_;intros
  have hL:Nr r p z e:=⟨hN0.pr,hN0.zr,hN0.zp,by(exact bA),by(exact bA),by(exact bA)⟩
  refine fN ?_;exact aD aE ⟨_,hL,rfl⟩ aA
 refine dC ?_;refine aB rfl (fun g10=> ?_) (fun g10=> ?_)
 ·rw[show fU E0.res x t=rG (aT (x.l.foldl (oW (dA (aT t [1]) x.a).1) (dA (aT t [1]) x.a).2) (dA (aT t [1]) x.a).1) by unfold fU;simp only[g2,g5,g10,if_true,if_false,Bool.false_eq_true]];refine dF ?_;refine eS fun r54 h54=> ?_;intros
  refine iR (j:=54) rfl bH (aM aO (by simp)) ?_;refine cw (fM E0 r p z q t) Tryz.call202 (fB hN0 t (by omega) [1] (by simp)) rfl aC dI ?_;rintro _ σ' rfl h55;refine mQ ?_;generalize aT t [1]=t1 at htl1 hts1 htb1⊢;have hk:=mF t1 x.a;have hw:=BY hts1 x.a;refine lO ?_;refine cw (kD E0 r p t1) Tryz.call301 (xP hN0.pr t1 htb1 x.a ha) rfl aC dI ?_;rintro _ σ' ⟨b,rfl,rfl⟩ h60;refine QN ?_;refine vA ?_;refine jK ?_;rw[←hk.1,←hk.2.1];generalize(dA t1 x.a).1=w at hw⊢;have hul:(dA t1 x.a).2.l.length≤900000:=by rw[hk.1];omega
  have hub:(dA t1 x.a).2.lb.length≤1000000:=by rw[hk.2.2];exact htb1
  generalize(dA t1 x.a).2=u at hul hub hk⊢;refine kO ?_;refine lp (β:=Nat) (fun j=>⟨[(0,.ptr r 0),(2,.ptr z 0),(4,.ptr r4 0),(10,.ro 1 (w.map aR) .any),(12,.int .i64 j)],(r4,.box 46 [.int .i64 x.op,.int .i64 x.a,.int .i64 x.b,.ro 1 (x.l.map aR) .any])::fM E0 r p z q ((x.l.take j).foldl (oW w) u)⟩) (fun j=>j≤x.l.length) (fun j=>x.l.length-j) 0 (by unfold fM kD jG nJ;(try dsimp only[List.cons_append,List.nil_append]);(exact aJ)) (Nat.zero_le _) ?_;intro j hj
  (try dsimp only);have hS:=aAL w (x.l.take j) u;generalize hSe:(x.l.take j).foldl (oW w) u=S at hS⊢;unfold fM kD jG nJ
  (try dsimp only[List.cons_append,List.nil_append]);refine pC ?_;refine aB rfl (fun g14=> ?_) (fun g14=> ?_)
  ·obtain⟨n,hn⟩:∃n,x.l[j]? =some n:=⟨_,List.getElem?_eq_getElem (by simp at g14;omega)⟩
   have hlt:j<x.l.length:=(List.getElem?_eq_some_iff.1 hn).1;have hn0:=hxl n (List.mem_of_getElem? hn);have hnx:=aAM (w:=w) (t:=u) hn;rw[hSe]at hnx;have hSb:S.lb.length≤1000000:=by rw[hS.2.2];exact hub
   have hv:=mF S n;refine nD ?_;refine nA ?_;refine cw (kD E0 r p S) Tryz.call301 (xP hN0.pr S hSb n hn0) rfl aC dI ?_;rintro _ σ' ⟨b2,rfl,rfl⟩ h77;refine QN ?_;refine vA ?_;refine jK ?_;rw[←hv.1,←hv.2.1];refine kL ?_;refine lS Tryz.call47 (VA w (dA S n).1) rfl aU bC ?_;refine nZ ?_;refine aB rfl (fun g17=> ?_) (fun g17=> ?_)
   ·have htab:oW w S n=eG (dA S n).2:=if_pos g17;refine nP ?_;refine eU ?_;refine AE ?_;refine⟨j+1,hlt,by show x.l.length-(j+1)<x.l.length-j;omega, ?_⟩
    (try dsimp only);rw[hnx,htab];exact aJ
   have htab:oW w S n=(dA S n).2:=by unfold oW;exact if_neg (fun e=>by rw[g17]at e;cases e)
   refine lI ?_;refine⟨j+1,hlt,by show x.l.length-(j+1)<x.l.length-j;omega, ?_⟩
   (try dsimp only);rw[hnx,htab];exact aJ
  obtain rfl:j=x.l.length:=by simp at g14;omega
  rw[List.take_length]at hSe;rw[hSe];have hSl:S.l.length≤900000:=by rw[hS.1];exact hul
  refine uZ ?_;refine cw (fM E0 r p z q S) Tryz.call202 (fB hN0 S (by omega) w (by omega)) rfl aC dI ?_;rintro _ σ' rfl h90;refine mQ ?_;generalize aT S w=T;refine eU ?_;refine cw (jG z q T) Tryz.call302 (BW hN0.qz T) rfl aC dI ?_;rintro _ σ' ⟨e,he,rfl⟩ h101
  (try unfold fM);(try unfold kD);(try unfold jG);(try unfold nJ);(try dsimp only[List.cons_append,List.nil_append]);refine tE (h101 _ (List.mem_cons_of_mem _ List.mem_cons_self)) fun k101=> ?_;intros
  have hL:Nr r p z e:=⟨hN0.pr,hN0.zr,hN0.zp,by(exact bA),by(exact bA),by(exact bA)⟩
  refine fN ?_;refine bY ?_;exact aD aE ⟨_,hL,rfl⟩ aA
 refine dC ?_;refine aB rfl (fun g20=> ?_) (fun g20=> ?_)
 ·rw[show fU E0.res x t=rG (aT t E0.res) by unfold fU;simp only[g2,g5,g10,g20,if_true,if_false,Bool.false_eq_true]];refine uZ ?_;refine nN ?_;refine cw (fM E0 r p z q t) Tryz.call202 (fB hN0 t (by omega) E0.res (by omega)) rfl aC dI ?_;rintro _ σ' rfl h99;refine mQ ?_;generalize aT t E0.res=T;refine eU ?_;refine cw (jG z q T) Tryz.call302 (BW hN0.qz T) rfl aC dI ?_;rintro _ σ' ⟨e,he,rfl⟩ h101
  (try unfold fM);(try unfold kD);(try unfold jG);(try unfold nJ);(try dsimp only[List.cons_append,List.nil_append]);refine tE (h101 _ (List.mem_cons_of_mem _ List.mem_cons_self)) fun k101=> ?_;intros
  have hL:Nr r p z e:=⟨hN0.pr,hN0.zr,hN0.zp,by(exact bA),by(exact bA),by(exact bA)⟩
  refine fN ?_;refine bY ?_;exact aD aE ⟨_,hL,rfl⟩ aA
 rw[show fU E0.res x t=rG t by unfold fU;simp only[g2,g5,g10,g20,if_true,if_false,Bool.false_eq_true]];obtain⟨T,hT⟩:∃T:RT,T=t:=⟨_,rfl⟩
 rw[←hT];refine dO ?_;refine cw (jG z q T) Tryz.call302 (BW hN0.qz T) rfl aC dI ?_;rintro _ σ' ⟨e,he,rfl⟩ h101
 (try unfold fM);(try unfold kD);(try unfold jG);(try unfold nJ);(try dsimp only[List.cons_append,List.nil_append]);refine tE (h101 _ (List.mem_cons_of_mem _ List.mem_cons_self)) fun k101=> ?_;intros
 have hL:Nr r p z e:=⟨hN0.pr,hN0.zr,hN0.zp,by(exact bA),by(exact bA),by(exact bA)⟩
 refine fN ?_;refine bY ?_;exact aD aE ⟨_,hL,rfl⟩ aA
end
end Go.Proofs.YtjpdadobblffmaaGreat
namespace Go.Proofs.YtjpdadobblffmaaGreat
open Go.RowKit Go.ChangeShapes Go.WideShapes Go.ChangeAt Go.Deep
theorem LA{P:Program}{n d:Nat}{fr:Fr}{σ:dU}{K:ASt→Prop}{op:Op}{ty:TypeId}{v:AV}{rs:List Nat}(h:Lop P op ty ⟨fr,σ⟩ true v rs)(hd:Nat.ble (d+1) n=true)(hK:K ⟨(d,v)::fr,σ⟩):Hop P n op ty (some d) ⟨fr,σ⟩ [] K:=YS h (dL hd) hK
structure Env.Ok (E0:Env):Prop where
 m:E0.m.Ck
 res:E0.res.length≤1000
 bl:E0.bd.length≤400
 bd:∀x∈E0.bd,x.Ck∧(0≤x.a∨PV x.op=false∧x.op≠16∧x.op≠17)∧(PV x.op=true→(-9000000000000000000≤x.a∧x.a≤9000000000000000000)∧∀n∈x.l,-9000000000000000000≤n∧n≤9000000000000000000)
def LE (E0:Env):RT→RT:=LR E0.m E0.ls E0.res E0.bd
structure In (E0:Env) (t:RT):Prop where
 a:t.a≤E0.bd.length
 lb:t.lb.length≤t.a
 sh:Sh t
structure Wi (E0:Env) (t:RT):Prop where
 a:t.a≤E0.bd.length
 lb:t.lb.length≤t.a+1
 sh:Sh t
 l:t.l.length≤1001*t.a
def aFT (E0:Env) (n:Nat):Prop:=∀(r p:Nat) (t:RT) (res br:List Int),Nq p r→In E0 t→E0.bd.length-t.a≤n→res.length≤1000→br.length≤1000→
 SCall Tryz.prog 80 [.ptr r 0,.ro 1 (res.map aR) .any,.ro 1 (br.map aR) .any] (kD E0 r p t) (fun _ σ=>∃e,Nq e r∧σ=kD E0 r e (dS (LE E0) res br t))
def aLg (E0:Env) (n:Nat):Prop:=∀(r p z q:Nat) (t:RT) (x:Ins),Nr r p z q→Wi E0 t→E0.bd[t.a]? =some x→E0.bd.length-t.a≤n→
 SCall Tryz.prog 201 [.ptr r 0,.agg (iv .any x),.ptr z 0] (fM E0 r p z q t) (fun _ σ=>∃e f,Nr r e z f∧σ=fM E0 r e z f (fC E0.m E0.ls E0.res E0.bd (LE E0) x t))
def Kpt (bd:List Ins) (t q:RT):Prop:=(t.a≤bd.length→q.a≤bd.length)∧q.lb=t.lb
section
variable {bd : List Ins} {t q s : RT}
theorem Kpt.refl:Kpt bd t t:=⟨id,rfl⟩
theorem Kpt.trans (h:Kpt bd t q)(h':Kpt bd q s):Kpt bd t s:=⟨fun e=>h'.1 (h.1 e),h'.2.trans h.2⟩
theorem Kpt.take (h:Kpt bd t q)(ks:List Int):Kpt bd t (aT q ks):=⟨fun e=>by rw[zM];exact h.1 e,(rS q ks).trans h.2⟩
theorem Kpt.one (h:Kpt bd t q)(k:Int):Kpt bd t (jF q k).2:=⟨fun e=>by rw[YZ];exact h.1 e,(aC4 q k).trans h.2⟩
theorem Kpt.put (h:Kpt bd t q)(ks:List Int):Kpt bd t (gR q ks):=h
theorem Kpt.ends (h:Kpt bd t q):Kpt bd t (rG q):=h
theorem Kpt.bad (h:Kpt bd t q):Kpt bd t (eG q):=h
theorem Kpt.label (h:Kpt bd t q)(n:Int):Kpt bd t (dA q n).2:=⟨fun e=>by rw[NH];exact h.1 e,(mF q n).2.2.trans h.2⟩
theorem Kpt.tabs (h:Kpt bd t q)(w l:List Int):Kpt bd t (l.foldl (oW w) q):=by
 induction l generalizing q with
 |nil=>exact h
 |cons a l ih=>exact ih (aK (p:=Kpt bd t) (fun _=>(h.label a).bad) (fun _=>h.label a))
theorem Kpt.pass (h:Kpt bd t q)(op:Int):Kpt bd t (eP bd q op).2:=by
 unfold eP;refine aK (p:=fun r:Bool×RT=>Kpt bd t r.2) (fun e=>⟨fun _=> ?_,h.2⟩) (fun _=>h);show q.a+1≤bd.length;rcases Nat.lt_or_ge q.a bd.length with hlt|hge
 ·exact hlt
 ·rw[decide_eq_false (by omega)]at e;simp at e
theorem HL{lp:RT→RT}(hl:∀q,Kpt bd q (lp q))(res br:List Int)(t:RT):Kpt bd t (dS lp res br t):=by
 have h:=(hl ⟨t.a,t.lb++ [br],t.bad,[],false⟩).take res;refine⟨h.1, ?_⟩;show(aT _ res).lb.dropLast=t.lb;rw[h.2];simp
theorem aAN(res:List Int)(x:Ins)(t:RT):Kpt bd t (fU res x t):=by
 have h:=(Kpt.refl (bd:=bd) (t:=t))
 unfold fU;refine aK (fun _=>((h.label _).take _).ends) (fun _=> ?_);refine aK (fun _=>(((h.take _).label _).take _).put _) (fun _=> ?_);refine aK (fun _=>((((h.take _).label _).tabs _ _).take _).ends) (fun _=> ?_);exact aK (fun _=>(h.take _).ends) (fun _=>h.ends)
theorem aFU(m:Md)(x:Ins)(t:RT):Kpt bd t (rI m x t):=by
 have h:=(Kpt.refl (bd:=bd) (t:=t))
 unfold rI;refine aK (fun _=>aK (p:=Kpt bd t) (fun _=>h.bad) (fun _=>(h.take _).put _)) (fun _=> ?_);exact aK (fun _=>h.bad) (fun _=>((h.take _).take _).put _)
theorem WS{t q:RT}(h:Kpt bd t q)(x:Ins)(c k:Int):Kpt bd t (tZ x c k q):=by
 have ha:Kpt bd t (if decide (c<x.a)=true then eG q else q):=aK (fun _=>h.bad) (fun _=>h);exact aK (fun _=>ha.take _) (fun _=>(ha.take _).put _)
theorem aI9(m:Md)(x:Ins)(t:RT):Kpt bd t (ED m x t):=by
 have h:Kpt bd t (if(!m.me.has)=true then eG t else t):=aK (fun _=>(Kpt.refl (bd:=bd) (t:=t)).bad) (fun _=>(Kpt.refl (bd:=bd) (t:=t)));unfold ED;generalize(if(!m.me.has)=true then eG t else t)=q at h;unfold BP;refine aK (fun _=>WS h x _ _) (fun _=> ?_);refine aK (fun _=>WS h x _ _) (fun _=> ?_);refine aK (fun _=>h.put _) (fun _=> ?_);exact aK (fun _=>(h.take _).put _) (fun _=>WS h x _ _)
theorem aAO(m:Md)(ls:List Int)(x:Ins)(t:RT):Kpt bd t (gF m ls x t):=by
 have h:=(Kpt.refl (bd:=bd) (t:=t))
 unfold gF;refine aK (fun _=>h.put _) (fun _=> ?_);refine aK (fun _=>h.put _) (fun _=> ?_);refine aK (fun _=>aK (fun _=>h.bad) (fun _=> ?_)) (fun _=> ?_)
 ·have hq:Kpt bd t (if(x.op !=32)=true then aT t [ls.getD x.a.toNat 0]else t):=aK (fun _=>h.take _) (fun _=>h);exact aK (fun _=>hq.put _) (fun _=>hq)
 refine aK (fun _=>aK (fun _=>h.bad) (fun _=>aK (fun _=>h.put _) (fun _=>h.take _))) (fun _=>aI9 m x t)
theorem aFV(m:Md)(ls res:List Int)(x:Ins)(t:RT):Kpt bd t (gL m ls res x t):=by
 have h:=(Kpt.refl (bd:=bd) (t:=t))
 unfold gL;refine aK (fun _=>aAN _ _ _) (fun _=> ?_);refine aK (fun _=>aFU _ _ _) (fun _=> ?_);refine aK (fun _=>h.one 0) (fun _=> ?_);refine aK (fun _=>(((h.take _).one _).one _).put _) (fun _=> ?_);refine aK (fun _=>h) (fun _=> ?_);exact aK (fun _=>(h.take _).put _) (fun _=>aAO _ _ _ _)
theorem aFW{lp:RT→RT}(hl:∀q,Kpt bd q (lp q))(x:Ins)(t:RT):Kpt bd t (tA lp bd x t):=by
 rw[FB];have h1:Kpt bd t (if(x.op==4)=true then aT t [1]else t):=aK (fun _=>Kpt.refl.take _) (fun _=>Kpt.refl);have h2:=h1.trans (HL hl (aY x.a) (ZA x) _);have h3:∀q,Kpt bd t q→Kpt bd t (nT lp bd x q):=fun q h=>aK (fun _=>aK (fun _=>(h.pass 5).trans (HL hl _ _ _)) (fun _=>aK (fun _=>(h.pass 5).bad) (fun _=>h.pass 5))) (fun _=>h)
 have h4:∀q,Kpt bd t q→Kpt bd t (EE bd x q):=fun q h=>Kpt.put (aK (fun _=>(h.pass 11).bad) (fun _=>h.pass 11)) _
 exact h4 _ (h3 _ h2)
theorem TG(m:Md)(ls res:List Int){lp:RT→RT}(hl:∀q,Kpt bd q (lp q))(x:Ins)(t:RT)(ha:t.a<bd.length):(fC m ls res bd lp x t).a≤bd.length∧(fC m ls res bd lp x t).lb=t.lb:=by
 unfold fC;refine aK (p:=fun r:RT=>r.a≤bd.length∧r.lb=t.lb) (fun _=> ?_) (fun _=> ?_)
 ·obtain⟨h1,h2⟩:=aFW hl x ⟨t.a+1,t.lb,t.bad,t.l,t.dd⟩;exact⟨h1 ha,h2⟩
 ·obtain⟨h1,h2⟩:=aFV (bd:=bd) m ls res x ⟨t.a+1,t.lb,t.bad,t.l,t.dd⟩;exact⟨h1 ha,h2⟩
theorem NM(m:Md)(ls res:List Int):∀(f:Nat) (t:RT),Kpt bd t (mO m ls res bd f t)
 |0,t=>Kpt.refl
 |f+1,t=>by
  rw[mO];refine aK (fun e=> ?_) (fun _=>Kpt.refl);refine aK (p:=Kpt bd t) (fun _=>Kpt.refl) (fun _=> ?_);have ha:t.a<bd.length:=by
   rcases Nat.lt_or_ge t.a bd.length with h|h
   ·exact h
   ·rw[decide_eq_false (by omega)]at e;simp at e
  obtain⟨h1,h2⟩:=TG m ls res (NM m ls res f) (bd.getD t.a ⟨0,0,0,[]⟩) t ha;obtain⟨k1,k2⟩:=NM m ls res f (fC m ls res bd (mO m ls res bd f) (bd.getD t.a ⟨0,0,0,[]⟩) t);exact⟨fun _=>k1 h1,k2.trans h2⟩
end
theorem aHe(E0:Env)(t:RT):Kpt E0.bd t (LE E0 t):=NM _ _ _ _ t
def Ln (l n:Nat) (q:RT):Prop:=q.l.length≤l+n
theorem Ln.take {l n:Nat}{q:RT}(h:Ln l n q)(ks:List Int):Ln l n (aT q ks):=Nat.le_trans (iQ q ks) h
theorem Ln.one {l n:Nat}{q:RT}(h:Ln l n q)(k:Int):Ln l n (jF q k).2:=Nat.le_trans (BX q k) h
theorem Ln.bad {l n:Nat}{q:RT}(h:Ln l n q):Ln l n (eG q):=h
theorem Ln.ends {l n:Nat}{q:RT}:Ln l n (rG q):=Nat.zero_le _
theorem Ln.label {l n:Nat}{q:RT}(h:Ln l n q)(k:Int):Ln l n (dA q k).2:=by unfold Ln;rw[(mF q k).1];exact h
theorem Ln.put {l n:Nat}{q:RT}(h:Ln l n q)(ks:List Int)(m:Nat)(hm:n+ks.length≤m):Ln l m (gR q ks):=by
 unfold Ln at h⊢;show(q.l++ks).length≤ _;rw[List.length_append];omega
theorem Ln.up {l n m:Nat}{q:RT}(h:Ln l n q)(hm:n≤m):Ln l m q:=by unfold Ln at h⊢;omega
theorem Ln.refl (t:RT):Ln t.l.length 0 t:=Nat.le_refl _
theorem aAP{t:RT}(hsh:Sh t)(res:List Int)(x:Ins):Ln t.l.length 1000 (fU res x t):=by
 have h:=Ln.refl t;unfold fU;refine aK (fun _=>Ln.ends) (fun _=> ?_);refine aK (fun _=>(((h.take _).label _).take _).put _ 1000 (by have:=BY (TF t [1] hsh) x.a;omega)) (fun _=> ?_);refine aK (fun _=>Ln.ends) (fun _=> ?_);exact aK (fun _=>Ln.ends) (fun _=>Ln.ends)
theorem aFX{m:Md}(hT:m.TS)(x:Ins)(t:RT)(ha:0≤x.a):Ln t.l.length 1000 (rI m x t):=by
 have h:=Ln.refl t;have h1:=(HK hT ha).2;have h2:(m.ty.getD x.a.toNat sF).rs.length≤100:=by
  rw[List.getD_eq_getElem?_getD];cases hg:m.ty[x.a.toNat]? with
  |none=>simp[sF]
  |some y=>exact(hT y (List.mem_of_getElem? hg)).2
 unfold rI;refine aK (fun _=>aK (p:=Ln t.l.length 1000) (fun _=>h.bad.up (by omega)) (fun _=>(h.take _).put _ 1000 (by omega))) (fun _=> ?_);exact aK (fun _=>h.bad.up (by omega)) (fun _=>((h.take _).take _).put _ 1000 (by omega))
theorem aJa(m:Md)(x:Ins)(t:RT):Ln t.l.length 1000 (ED m x t):=by
 have h:Ln t.l.length 0 (if(!m.me.has)=true then eG t else t):=aK (fun _=>(Ln.refl t).bad) (fun _=>Ln.refl t);unfold ED;generalize(if(!m.me.has)=true then eG t else t)=q at h;have hb:∀c k:Int,Ln t.l.length 1000 (tZ x c k q):=fun c k=>by
  have ha:Ln t.l.length 0 (if decide (c<x.a)=true then eG q else q):=aK (fun _=>h.bad) (fun _=>h);exact aK (fun _=>(ha.take _).up (by omega)) (fun _=>(ha.take _).put _ 1000 (by simp))
 unfold BP;refine aK (fun _=>hb _ _) (fun _=> ?_);refine aK (fun _=>hb _ _) (fun _=> ?_);refine aK (fun _=>h.put _ 1000 (by simp)) (fun _=> ?_);exact aK (fun _=>(h.take _).put _ 1000 (by simp)) (fun _=>hb _ _)
theorem aAQ(m:Md)(ls:List Int)(x:Ins)(t:RT):Ln t.l.length 1000 (gF m ls x t):=by
 have h:=Ln.refl t;unfold gF;refine aK (fun _=>h.put _ 1000 (by simp)) (fun _=> ?_);refine aK (fun _=>h.put _ 1000 (by simp)) (fun _=> ?_);refine aK (fun _=>aK (fun _=>h.bad.up (by omega)) (fun _=> ?_)) (fun _=> ?_)
 ·have hq:Ln t.l.length 0 (if(x.op !=32)=true then aT t [ls.getD x.a.toNat 0]else t):=aK (fun _=>h.take _) (fun _=>h);exact aK (fun _=>hq.put _ 1000 (by simp)) (fun _=>hq.up (by omega))
 refine aK (fun _=>aK (fun _=>h.bad.up (by omega)) (fun _=>aK (fun _=>h.put _ 1000 (by simp)) (fun _=>(h.take _).up (by omega)))) (fun _=>aJa m x t)
theorem aFY{m:Md}(hT:m.TS)(ls res:List Int)(x:Ins)(t:RT)(hsh:Sh t)(ha:(x.op==16||x.op==17)=true→0≤x.a):Ln t.l.length 1000 (gL m ls res x t):=by
 have h:=Ln.refl t;unfold gL;refine aK (fun _=>aAP hsh _ _) (fun _=> ?_);refine aK (fun e=>aFX hT _ _ (ha e)) (fun _=> ?_);refine aK (fun _=>(h.one 0).up (by omega)) (fun _=> ?_);refine aK (fun _=>(((h.take _).one _).one _).put _ 1000 (by simp)) (fun _=> ?_);refine aK (fun _=>h.up (by omega)) (fun _=> ?_);exact aK (fun _=>(h.take _).put _ 1000 (by simp)) (fun _=>aAQ _ _ _ _)
theorem aFZ(lp:RT→RT)(bd:List Ins)(x:Ins)(t:RT):Ln t.l.length 1000 (tA lp bd x t):=by
 rw[FB];have h1:Ln t.l.length 0 (if(x.op==4)=true then aT t [1]else t):=aK (fun _=>(Ln.refl t).take _) (fun _=>Ln.refl t);have hb:∀(q:RT) (a b:List Int),Ln t.l.length 0 q→Ln t.l.length 0 (dS lp a b q):=fun q a b h=>h
 have hp:∀(q:RT) (o:Int),Ln t.l.length 0 q→Ln t.l.length 0 (eP bd q o).2:=fun q o h=>by
  unfold eP;exact aK (p:=fun r:Bool×RT=>Ln t.l.length 0 r.2) (fun _=>h) (fun _=>h)
 have h3:∀q,Ln t.l.length 0 q→Ln t.l.length 0 (nT lp bd x q):=fun q h=>aK (fun _=>aK (fun _=>hb _ _ _ (hp _ _ h)) (fun _=>aK (fun _=>(hp _ _ h).bad) (fun _=>hp _ _ h))) (fun _=>h)
 exact Ln.put (aK (p:=Ln t.l.length 0) (fun _=>(hp _ _ (h3 _ (hb _ _ _ h1))).bad) (fun _=>hp _ _ (h3 _ (hb _ _ _ h1)))) _ 1000 (by have:=rD x.a;omega)
theorem aDk{E0:Env}(hE0:E0.Ok){t:RT}(h:Wi E0 t){x:Ins}(hx:E0.bd[t.a]? =some x):Wi E0 (fC E0.m E0.ls E0.res E0.bd (LE E0) x t)∧t.a<(fC E0.m E0.ls E0.res E0.bd (LE E0) x t).a∧(fC E0.m E0.ls E0.res E0.bd (LE E0) x t).lb=t.lb:=by
 have hlt:t.a<E0.bd.length:=(List.getElem?_eq_some_iff.1 hx).1;obtain⟨k1,k2⟩:=TG E0.m E0.ls E0.res (aHe E0) x t hlt;have k3:=(xL E0.m E0.ls E0.res E0.bd (HE E0.m E0.ls E0.res E0.bd) x t).1;have k4:Ln t.l.length 1000 (fC E0.m E0.ls E0.res E0.bd (LE E0) x t):=by
  unfold fC;refine aK (fun _=>aFZ (LE E0) E0.bd x ⟨t.a+1,t.lb,t.bad,t.l,t.dd⟩) (fun _=> ?_);refine aFY hE0.m.ts E0.ls E0.res x ⟨t.a+1,t.lb,t.bad,t.l,t.dd⟩ h.sh fun e=> ?_
  rcases(hE0.bd x (List.mem_of_getElem? hx)).2.1 with h0|⟨-,h1,h2⟩
  ·exact h0
  ·simp only[Bool.or_eq_true,beq_iff_eq]at e;omega
 have k3':t.a+1≤(fC E0.m E0.ls E0.res E0.bd (LE E0) x t).a:=k3;refine⟨⟨k1,by rw[k2];have:=h.lb;omega,by unfold Sh;rw[k2];exact h.sh, ?_⟩,by omega,k2⟩;have:=h.l;unfold Ln at k4;omega
end Go.Proofs.YtjpdadobblffmaaGreat
namespace Go.Proofs.YtjpdadobblffmaaGreat
open Go.RowKit Go.ChangeShapes Go.WideShapes Go.ChangeAt Go.Deep
attribute [local irreducible] SW RS RD fH eH
theorem NN(l:List (List Int))(b:List Int):(l++ [b]).length=l.length+1:=by simp
theorem NO(l:List (List Int))(b:List Int):(l++ [b]).map lC=l.map lC++ [lC b]:=by simp
theorem aF0{E0:Env}{T:RT}(h:(if decide ((T.a:Int)<E0.bd.length)=true then !T.bad else false)=false):LE E0 T=T:=by
 unfold LE;rw[SX,if_neg (fun e=>by rw[h]at e;cases e)]
theorem aJb{E0:Env}{T:RT}{x:Ins}(hx:E0.bd[T.a]? =some x)(h:(if(x.op==11)=true then true else(x.op==5))=true):LE E0 T=T:=by
 unfold LE;rw[SX,List.getD_eq_getElem?_getD,hx,Option.getD_some,if_pos h];exact aK (p:=fun r:RT=>r=T) (fun _=>rfl) (fun _=>rfl)
theorem aF1{E0:Env}{T:RT}{x:Ins}(hc:(if decide ((T.a:Int)<E0.bd.length)=true then !T.bad else false)=true)(hx:E0.bd[T.a]? =some x)(h:(if(x.op==11)=true then true else(x.op==5))=false):LE E0 T=LE E0 (fC E0.m E0.ls E0.res E0.bd (LE E0) x T):=by
 unfold LE
 conv=>lhs;rw[SX]
 rw[if_pos hc,List.getD_eq_getElem?_getD,hx,Option.getD_some,if_neg (fun e=>by rw[h]at e;cases e)]
theorem LB{E0:Env}(hE0:E0.Ok)(n:Nat)(hI:aLg E0 n):aFT E0 n:=by
 intro r p t res br hpr hIn hn hres hbr;obtain⟨ha,hlb,hsh⟩:=hIn;have hbl:=hE0.bl;refine cC 94 [0,1,2,6,7,36,53,76] Tryz.func80 ?_;unfold kD nJ
 (try dsimp only);refine dF ?_;refine JT ?_;refine eS fun r14 h14=> ?_;intros
 refine kI ((t.lb++ [br]).map lC) (t.lb++ [br]).length ?_;refine bL fun r15 h15=> ?_;intros
 refine AF ?_;refine nY ?_;refine dG ?_;refine jY ?_;refine iG fun r19 h19=> ?_;intros
 refine cZ ?_;refine cO (ks:=[0,1,2,6,7,36,53,76]) r19 0 3 1 (by decide) aO rfl (by decide) fun q0 hq0=> ?_
 simp only[aP,aX,and_true]at hq0;repeat rcases hq0 with⟨_,hq0⟩
 apply Exists.intro;apply And.intro;exact cJ;have hN0:Nr r r15 r19 q0:=⟨by(exact bA),by(exact bA),by(exact bA),by(exact bA),by(exact bA),by(exact bA)⟩
 have hW0:Wi E0 ⟨t.a,t.lb++ [br],t.bad,[],false⟩:=⟨ha,by simp;omega,fun l hl=>by rcases List.mem_append.1 hl with hl|hl;exact hsh l hl;obtain rfl:=List.mem_singleton.1 hl;exact hbr,by simp⟩
 refine lp (β:=Nat×Nat×RT) (fun b=>⟨[(0,.ptr r 0),(1,.ro 1 (res.map aR) .any),(6,.ptr r19 0)],fM E0 r b.1 r19 b.2.1 b.2.2⟩) (fun b=>Nr r b.1 r19 b.2.1∧Wi E0 b.2.2∧LE E0 b.2.2=LE E0 ⟨t.a,t.lb++ [br],t.bad,[],false⟩∧b.2.2.lb=t.lb++ [br]∧t.a≤b.2.2.a) (fun b=>E0.bd.length-b.2.2.a) (r15,q0,⟨t.a,t.lb++ [br],t.bad,[],false⟩) (by unfold fM kD jG nJ;(try dsimp only[List.cons_append,List.nil_append]);(exact aJ)) ⟨hN0,hW0,rfl,rfl,Nat.le_refl _⟩ ?_;rintro⟨p',q',T⟩ ⟨hN1,hW,hLE,hTl,hTa⟩;dsimp only at hN1 hW hLE hTl hTa⊢;obtain⟨m1,m2,m3,m4,m5,m6⟩:=id hN1;have hWa:=hW.a;have hWl:=hW.l;unfold fM kD jG nJ
 (try dsimp only[List.cons_append,List.nil_append]);refine aI ?_;refine fK [(0,true),(1,true),(2,true),(3,true),(4,true),(5,true),(6,true),(7,true),(8,true),(9,true),(10,true),(11,true),(12,true),(13,true),(14,true),(15,true),(16,true)] ?_;refine pV ?_;refine DI ?_;refine z46 ?_;refine CH ?_;refine sq7 ?_;refine rV ?_;refine aMf ?_;refine ZN ?_;refine kF ?_;refine aB rfl (fun g2=> ?_) (fun g2=> ?_)
 ·have hlt:T.a<E0.bd.length:=by
   rcases Nat.lt_or_ge T.a E0.bd.length with h|h
   ·exact h
   ·rw[decide_eq_false (by omega)]at g2;simp at g2
  obtain⟨x,hx⟩:∃x,E0.bd[T.a]? =some x:=⟨_,List.getElem?_eq_getElem hlt⟩
  refine aI ?_;refine fK [(0,true),(1,true),(2,true),(3,true),(4,true),(5,true),(6,true),(7,true),(8,true),(9,true),(10,true),(11,true)] ?_;refine pV ?_;refine pV ?_;refine HY ?_;refine aD8 ?_;refine UW ?_;refine dO ?_;refine lo (cI (E rfl) (E rfl)) rfl ?_;refine lM ?_;refine sL ?_;refine lP ?_;refine aB rfl (fun g4=> ?_) (fun g4=> ?_)
  ·have hTe:=aJb hx g4;refine uZ ?_;refine cw (fM E0 r p' r19 q' T) Tryz.call202 (fB hN1 T (by omega) res (by omega)) rfl aC dI ?_;rintro _ σ' rfl h70;refine mQ ?_;have hB:dS (LE E0) res br t=⟨(aT T res).a,t.lb,if decide ((0:Int)<(aT T res).l.length)=true then true else(aT T res).bad,t.l,t.dd⟩:=by
    unfold dS;rw[←hLE,hTe];show(⟨_,(aT T res).lb.dropLast,_,_,_⟩:RT)=_;rw[rS,hTl,List.dropLast_concat]
   rw[hB];have h2l:(aT T res).lb=t.lb++ [br]:=(rS T res).trans hTl;generalize aT T res=T2 at h2l⊢;rw[h2l];refine eU ?_;refine z76 ?_;refine nL ?_;refine sN ?_;refine aB rfl (fun g7=> ?_) (fun g7=> ?_)
   ·rw[show(if decide ((0:Int)<T2.l.length)=true then true else T2.bad)=true from if_pos g7];refine nP ?_;rw[NN,NO];have hfin:Nq p' r:=m1;refine fK [(0,true),(1,true),(2,true),(3,true),(4,true),(5,true),(6,true),(7,true),(8,true),(9,true),(10,true),(11,true),(12,true),(13,true),(14,false)] ?_;refine AH ?_;refine sP ?_;refine UD ?_;refine z77 ?_;refine nC ?_;refine kF ?_;rw[rE];refine BM (oJ (o:=p') t.lb.length cJ) ?_;rw[show List.take t.lb.length (t.lb.map lC++ [lC br])=t.lb.map lC by rw[List.take_left' (by simp)]];refine bY ?_;exact aD aE ⟨_,hfin,rfl⟩ aA
   rw[show(if decide ((0:Int)<T2.l.length)=true then true else T2.bad)=T2.bad from if_neg (fun e=>by rw[g7]at e;cases e)];refine aI ?_;rw[NN,NO];have hfin:Nq p' r:=m1;refine fK [(0,true),(1,true),(2,true),(3,true),(4,true),(5,true),(6,true),(7,true),(8,true),(9,true),(10,true),(11,true),(12,true),(13,true),(14,false)] ?_;refine AH ?_;refine sP ?_;refine UD ?_;refine z77 ?_;refine nC ?_;refine kF ?_;rw[rE];refine BM (oJ (o:=p') t.lb.length cJ) ?_;rw[show List.take t.lb.length (t.lb.map lC++ [lC br])=t.lb.map lC by rw[List.take_left' (by simp)]];refine bY ?_;exact aD aE ⟨_,hfin,rfl⟩ aA
  have hnx:=aF1 g2 hx g4;obtain⟨w1,w2,w3⟩:=aDk hE0 hW hx;refine aI ?_;refine fK [(0,true),(1,true),(2,true),(3,true),(5,true),(6,true),(7,true),(11,true),(13,false),(13,false),(13,false),(13,false),(13,false)] ?_;refine fY rfl (aF (E rfl)) rfl ?_;refine FO ?_;refine zP ?_;refine FO ?_;refine zP ?_;refine fY rfl (aF (E rfl)) rfl ?_;refine iC 4 8 [(8,false),(9,true),(10,true),(12,false)] [(4,false),(9,true),(10,true),(12,false)] (f1:=[]) (f2:=[]) (by kernel_rfl) rfl rfl ?_ ?_ (.inl rfl) (.inl rfl)
  ·first|refine LA (aL (E rfl) rfl aO (fun _=>rfl)) rfl ?_ |refine LA (aL (E rfl) rfl aO (fun _=>by assumption)) rfl ?_ |refine LA (aN (E rfl) rfl (fun hc=>by first|rfl|exact aG (by assumption)|assumption|exact aG (aQ (by omega))) (fun _=>rfl)) rfl ?_
   first|refine dhl rfl (aL (E rfl) rfl aO (fun _=>rfl)) rfl ?_ |refine dhl rfl (aL (E rfl) rfl aO (fun _=>by assumption)) rfl ?_ |refine dhl rfl (aN (E rfl) rfl (fun hc=>by first|rfl|exact aG (by assumption)|assumption|exact aG (aQ (by omega))) (fun _=>rfl)) rfl ?_
   refine HY ?_;refine xR ?_;refine sD (fM E0 r p' r19 q' T) rfl Tryz.call201 (hI r p' r19 q' T x hN1 hW hx (by omega)) rfl aC dI aLf ?_;rintro _ σ' ⟨e,f,hE,rfl⟩ h66
   (try unfold fM);(try unfold kD);(try unfold jG);(try unfold nJ);(try dsimp only[List.cons_append,List.nil_append]);obtain⟨e1,e2,e3,e4,e5,e6⟩:=id hE;apply bZ;exact bN;refine kF ?_;refine⟨(e,f,fC E0.m E0.ls E0.res E0.bd (LE E0) x T),⟨hE,w1,by rw[←hnx];exact hLE,w3.trans hTl,by show t.a≤(fC E0.m E0.ls E0.res E0.bd (LE E0) x T).a;omega⟩,by show E0.bd.length-(fC E0.m E0.ls E0.res E0.bd (LE E0) x T).a<E0.bd.length-T.a;omega, ?_⟩
   (try dsimp only);exact aJ
  ·first|refine LA (aL (E rfl) rfl aO (fun _=>rfl)) rfl ?_ |refine LA (aL (E rfl) rfl aO (fun _=>by assumption)) rfl ?_ |refine LA (aN (E rfl) rfl (fun hc=>by first|rfl|exact aG (by assumption)|assumption|exact aG (aQ (by omega))) (fun _=>rfl)) rfl ?_
   first|refine dhl rfl (aL (E rfl) rfl aO (fun _=>rfl)) rfl ?_ |refine dhl rfl (aL (E rfl) rfl aO (fun _=>by assumption)) rfl ?_ |refine dhl rfl (aN (E rfl) rfl (fun hc=>by first|rfl|exact aG (by assumption)|assumption|exact aG (aQ (by omega))) (fun _=>rfl)) rfl ?_
   refine HY ?_;refine xR ?_;refine sD (fM E0 r p' r19 q' T) rfl Tryz.call201 (hI r p' r19 q' T x hN1 hW hx (by omega)) rfl aC dI aLf ?_;rintro _ σ' ⟨e,f,hE,rfl⟩ h66
   (try unfold fM);(try unfold kD);(try unfold jG);(try unfold nJ);(try dsimp only[List.cons_append,List.nil_append]);obtain⟨e1,e2,e3,e4,e5,e6⟩:=id hE;apply bZ;exact bN;refine kF ?_;refine⟨(e,f,fC E0.m E0.ls E0.res E0.bd (LE E0) x T),⟨hE,w1,by rw[←hnx];exact hLE,w3.trans hTl,by show t.a≤(fC E0.m E0.ls E0.res E0.bd (LE E0) x T).a;omega⟩,by show E0.bd.length-(fC E0.m E0.ls E0.res E0.bd (LE E0) x T).a<E0.bd.length-T.a;omega, ?_⟩
   (try dsimp only);exact aJ
 have hTe:=aF0 (E0:=E0) g2;refine uZ ?_;refine cw (fM E0 r p' r19 q' T) Tryz.call202 (fB hN1 T (by omega) res (by omega)) rfl aC dI ?_;rintro _ σ' rfl h70;refine mQ ?_;have hB:dS (LE E0) res br t=⟨(aT T res).a,t.lb,if decide ((0:Int)<(aT T res).l.length)=true then true else(aT T res).bad,t.l,t.dd⟩:=by
  unfold dS;rw[←hLE,hTe];show(⟨_,(aT T res).lb.dropLast,_,_,_⟩:RT)=_;rw[rS,hTl,List.dropLast_concat]
 rw[hB];have h2l:(aT T res).lb=t.lb++ [br]:=(rS T res).trans hTl;generalize aT T res=T2 at h2l⊢;rw[h2l];refine eU ?_;refine z76 ?_;refine nL ?_;refine sN ?_;refine aB rfl (fun g7=> ?_) (fun g7=> ?_)
 ·rw[show(if decide ((0:Int)<T2.l.length)=true then true else T2.bad)=true from if_pos g7];refine nP ?_;rw[NN,NO];have hfin:Nq p' r:=m1;refine fK [(0,true),(1,true),(2,true),(3,true),(4,true),(5,true),(6,true),(7,true),(8,true),(9,true),(10,true),(11,true),(12,true),(13,true),(14,false)] ?_;refine AH ?_;refine sP ?_;refine UD ?_;refine z77 ?_;refine nC ?_;refine kF ?_;rw[rE];refine BM (oJ (o:=p') t.lb.length cJ) ?_;rw[show List.take t.lb.length (t.lb.map lC++ [lC br])=t.lb.map lC by rw[List.take_left' (by simp)]];refine bY ?_;exact aD aE ⟨_,hfin,rfl⟩ aA
 rw[show(if decide ((0:Int)<T2.l.length)=true then true else T2.bad)=T2.bad from if_neg (fun e=>by rw[g7]at e;cases e)];refine aI ?_;rw[NN,NO];have hfin:Nq p' r:=m1;refine fK [(0,true),(1,true),(2,true),(3,true),(4,true),(5,true),(6,true),(7,true),(8,true),(9,true),(10,true),(11,true),(12,true),(13,true),(14,false)] ?_;refine AH ?_;refine sP ?_;refine UD ?_;refine z77 ?_;refine nC ?_;refine kF ?_;rw[rE];refine BM (oJ (o:=p') t.lb.length cJ) ?_;rw[show List.take t.lb.length (t.lb.map lC++ [lC br])=t.lb.map lC by rw[List.take_left' (by simp)]];refine bY ?_;exact aD aE ⟨_,hfin,rfl⟩ aA
theorem DA(bd:List Ins)(t:RT)(op:Int):(eP bd t op).2.l=t.l∧(eP bd t op).2.dd=t.dd∧(eP bd t op).2.lb=t.lb:=by
 unfold eP;exact aK (p:=fun r:Bool×RT=>r.2.l=t.l∧r.2.dd=t.dd∧r.2.lb=t.lb) (fun _=>⟨rfl,rfl,rfl⟩) (fun _=>⟨rfl,rfl,rfl⟩)
structure At (E0:Env) (a0 l0:Nat) (lb0:List (List Int)) (t:RT):Prop where
 a:t.a≤E0.bd.length
 ge:a0≤t.a
 lb:t.lb=lb0
 l:t.l.length≤l0
theorem At.take {E0:Env}{a0 l0:Nat}{lb0:List (List Int)}{t:RT}(h:At E0 a0 l0 lb0 t)(ks:List Int):At E0 a0 l0 lb0 (aT t ks):=⟨by rw[zM];exact h.a,by rw[zM];exact h.ge,(rS t ks).trans h.lb,Nat.le_trans (iQ t ks) h.l⟩
theorem At.bad {E0:Env}{a0 l0:Nat}{lb0:List (List Int)}{t:RT}(h:At E0 a0 l0 lb0 t):At E0 a0 l0 lb0 (eG t):=⟨h.a,h.ge,h.lb,h.l⟩
theorem At.block {E0:Env}{a0 l0:Nat}{lb0:List (List Int)}{t:RT}(h:At E0 a0 l0 lb0 t)(res br:List Int):At E0 a0 l0 lb0 (dS (LE E0) res br t):=by
 obtain⟨h1,h2⟩:=HL (bd:=E0.bd) (aHe E0) res br t;have h3:=(lH (HE E0.m E0.ls E0.res E0.bd) res br t).1;have h3':t.a+0≤(dS (LE E0) res br t).a:=h3;exact⟨h1 h.a,by have:=h.ge;omega,h2.trans h.lb,h.l⟩
theorem At.pass {E0:Env}{a0 l0:Nat}{lb0:List (List Int)}{t:RT}(h:At E0 a0 l0 lb0 t)(op:Int):At E0 a0 l0 lb0 (eP E0.bd t op).2:=by
 obtain⟨k1,k2,k3⟩:=DA E0.bd t op;have h1:=(Kpt.refl (bd:=E0.bd) (t:=t)).pass op;have h2:=(tC E0.bd t op).1;exact⟨h1.1 h.a,by have:=h.ge;omega,k3.trans h.lb,by rw[k1];exact h.l⟩
theorem At.els {E0:Env}{a0 l0:Nat}{lb0:List (List Int)}{t:RT}(h:At E0 a0 l0 lb0 t)(x:Ins):At E0 a0 l0 lb0 (nT (LE E0) E0.bd x t):=
 aK (fun _=>aK (fun _=>(h.pass 5).block _ _) (fun _=>aK (fun _=>(h.pass 5).bad) (fun _=>h.pass 5))) (fun _=>h)
theorem aDl{E0:Env}(hE0:E0.Ok)(n:Nat)(hB:aFT E0 n){r p z q:Nat}(hN:Nr r p z q)(t:RT)(ha:t.a≤E0.bd.length)(hlb:t.lb.length≤t.a)(hsh:Sh t)(hl:t.l.length≤900000)(hn:E0.bd.length-t.a≤n)(x:Ins):
  SCall Tryz.prog 271 [.ptr r 0,.agg (iv .any x),.ptr z 0] (fM E0 r p z q t) (fun _ σ=>∃e f,Nr r e z f∧σ=fM E0 r e z f (tA (LE E0) E0.bd x t)):=by
 have hN0:=hN;obtain⟨n1,n2,n3,n4,n5,n6⟩:=hN;have hbl:=hE0.bl;have hll:=rD x.a;have hA0:At E0 t.a t.l.length t.lb t:=⟨ha,Nat.le_refl _,rfl,Nat.le_refl _⟩
 rw[FB];unfold iv;refine cC 51 [0,1,2,4,6,12,19,29,31,38,44] Tryz.func271 ?_;unfold fM kD jG nJ
 (try dsimp only[List.cons_append,List.nil_append]);refine dG ?_;refine iG fun r4 h4=> ?_;intros
 refine kU ?_;refine fE ?_;refine cw [] Tryz.call299 (aI8 x.a) rfl aC aA ?_;rintro _ σ' ⟨rfl,rfl⟩ h9;refine eR ?_;have hA1:At E0 t.a t.l.length t.lb (if(x.op==4)=true then aT t [1]else t):=aK (fun _=>hA0.take [1]) (fun _=>hA0);refine nE ?_;refine rL ?_;refine UO (β:=Unit) (fun _=>⟨[(0,.ptr r 0),(2,.ptr z 0),(4,.ptr r4 0),(6,.ro 1 ((aY x.a).map aR) .any)],(r4,.box 46 [.int .i64 x.op,.int .i64 x.a,.int .i64 x.b,.ro 1 (x.l.map aR) .any])::fM E0 r p z q (if(x.op==4)=true then aT t [1]else t)⟩) (fun _=>True) ?_ ?_
 ·refine aB rfl (fun g2=> ?_) (fun g2=> ?_)
  ·rw[if_pos (c:=(x.op==4)=true) g2];refine dF ?_;refine eS fun r15 h15=> ?_;intros
   refine iR (j:=15) rfl bH (aM aO (by simp)) ?_;refine cw (fM E0 r p z q t) Tryz.call202 (fB hN0 t (by omega) [1] (by simp)) rfl aC dI ?_;rintro _ σ' rfl h16;refine mQ ?_;exact⟨(),trivial,aJ⟩
  rw[if_neg (c:=(x.op==4)=true) (fun e=>by rw[g2]at e;cases e)];refine aI ?_;exact⟨(),trivial,aJ⟩
 rintro⟨⟩-;generalize(if(x.op==4)=true then aT t [1]else t)=t1 at hA1⊢;unfold fM kD jG nJ
 (try dsimp only[List.cons_append,List.nil_append]);refine aI ?_;have hA2:=hA1.block (aY x.a) (ZA x);have hIn:In E0 t1:=⟨hA1.a,by rw[hA1.lb];have:=hA1.ge;omega,by unfold Sh;rw[hA1.lb];exact hsh⟩
 have hn1:E0.bd.length-t1.a≤n:=by have:=hA1.ge;omega
 refine nE ?_;refine rL ?_;refine UO (β:=Nat) (fun e=>⟨[(0,.ptr r 0),(2,.ptr z 0),(4,.ptr r4 0),(6,.ro 1 ((aY x.a).map aR) .any)],(r4,.box 46 [.int .i64 x.op,.int .i64 x.a,.int .i64 x.b,.ro 1 (x.l.map aR) .any])::fM E0 r e z q (dS (LE E0) (aY x.a) (ZA x) t1)⟩) (fun e=>Nr r e z q∧Nq e r4) ?_ ?_
 ·refine aB rfl (fun g4=> ?_) (fun g4=> ?_)
  ·have hb0:ZA x=[]:=if_pos g4;rw[hb0];refine dF ?_;refine cw (kD E0 r p t1) Tryz.call80 (hB r p t1 (aY x.a) [] n1 hIn hn1 (by omega) (by simp)) rfl aC dI ?_;rintro _ σ' ⟨e,he,rfl⟩ h22
   (try unfold fM);(try unfold kD);(try unfold jG);(try unfold nJ);(try dsimp only[List.cons_append,List.nil_append]);refine aI7 (h22 _ (List.mem_cons_of_mem _ List.mem_cons_self)) fun k22=> ?_;intros
   refine fN ?_;exact⟨e,⟨⟨he,n2,by(exact bA),n4,by(exact bA),n6⟩,by(exact bA)⟩,aJ⟩
  have hb0:ZA x=aY x.a:=if_neg (fun e=>by rw[g4]at e;cases e);rw[hb0];refine uZ ?_;refine cw (kD E0 r p t1) Tryz.call80 (hB r p t1 (aY x.a) (aY x.a) n1 hIn hn1 (by omega) (by omega)) rfl aC dI ?_;rintro _ σ' ⟨e,he,rfl⟩ h26
  (try unfold fM);(try unfold kD);(try unfold jG);(try unfold nJ);(try dsimp only[List.cons_append,List.nil_append]);refine aI7 (h26 _ (List.mem_cons_of_mem _ List.mem_cons_self)) fun k26=> ?_;intros
  refine fN ?_;exact⟨e,⟨⟨he,n2,by(exact bA),n4,by(exact bA),n6⟩,by(exact bA)⟩,aJ⟩
 rintro p1 ⟨hN1,hp14⟩;generalize dS (LE E0) (aY x.a) (ZA x) t1=T2 at hA2⊢;obtain⟨m1,m2,m3,m4,m5,m6⟩:=id hN1;unfold fM kD jG nJ
 (try dsimp only[List.cons_append,List.nil_append]);refine aI ?_;have hA3:=hA2.els x;have hAp:=hA2.pass 5;refine nE ?_;refine rL ?_;refine UO (β:=Nat) (fun e=>⟨[(0,.ptr r 0),(2,.ptr z 0),(4,.ptr r4 0),(6,.ro 1 ((aY x.a).map aR) .any)],(r4,.box 46 [.int .i64 x.op,.int .i64 x.a,.int .i64 x.b,.ro 1 (x.l.map aR) .any])::fM E0 r e z q (nT (LE E0) E0.bd x T2)⟩) (fun e=>Nr r e z q∧Nq e r4) ?_ ?_
 ·refine aB rfl (fun g7=> ?_) (fun g7=> ?_)
  ·refine dO ?_;refine cw (kD E0 r p1 T2) Tryz.call300 (TE m1 T2 (by have:=hA2.a;omega) 5) rfl aC dI ?_;rintro _ σ' ⟨rfl,rfl⟩ h31;refine mQ ?_;have hk:=DA E0.bd T2 5;rw[←hk.1,←hk.2.1];refine aB rfl (fun g8=> ?_) (fun g8=> ?_)
   ·rw[show nT (LE E0) E0.bd x T2=dS (LE E0) (aY x.a) (aY x.a) (eP E0.bd T2 5).2 by unfold nT;rw[if_pos g7,if_pos g8]];generalize(eP E0.bd T2 5).2=T4 at hAp⊢;refine uZ ?_;refine cw (kD E0 r p1 T4) Tryz.call80 (hB r p1 T4 (aY x.a) (aY x.a) m1 ⟨hAp.a,by rw[hAp.lb];have:=hAp.ge;omega,by unfold Sh;rw[hAp.lb];exact hsh⟩ (by have:=hAp.ge;omega) (by omega) (by omega)) rfl aC dI ?_;rintro _ σ' ⟨e2,he2,rfl⟩ h35
    (try unfold fM);(try unfold kD);(try unfold jG);(try unfold nJ);(try dsimp only[List.cons_append,List.nil_append]);refine aI7 (h35 _ (List.mem_cons_of_mem _ List.mem_cons_self)) fun k35=> ?_;intros
    obtain⟨P,hP,rfl⟩:∃P,(Nr r P z q∧Nq P r4)∧P=e2:=⟨_,⟨⟨he2,m2,by(exact bA),m4,by(exact bA),m6⟩,by(exact bA)⟩,rfl⟩
    refine fN ?_;exact⟨P,hP,aJ⟩
   rw[show nT (LE E0) E0.bd x T2=if decide ((0:Int)<(aY x.a).length)=true then eG (eP E0.bd T2 5).2 else(eP E0.bd T2 5).2 by unfold nT;rw[if_pos g7,g8];rfl];generalize(eP E0.bd T2 5).2=T4 at hAp⊢;obtain⟨P,hP,rfl⟩:∃P,(Nr r P z q∧Nq P r4)∧P=p1:=⟨_,⟨hN1,hp14⟩,rfl⟩
   refine dO ?_;refine pH ?_;refine sN ?_;refine aB rfl (fun g10=> ?_) (fun g10=> ?_)
   ·rw[if_pos (c:=decide ((0:Int)<(aY x.a).length)=true) g10];refine nP ?_;exact⟨P,hP,aJ⟩
   rw[if_neg (c:=decide ((0:Int)<(aY x.a).length)=true) (fun e=>by rw[g10]at e;cases e)];refine aI ?_;exact⟨P,hP,aJ⟩
  rw[show nT (LE E0) E0.bd x T2=T2 from if_neg (fun e=>by rw[g7]at e;cases e)];refine aI ?_;exact⟨p1,⟨hN1,hp14⟩,aJ⟩
 rintro p2 ⟨hN2,hp24⟩;generalize nT (LE E0) E0.bd x T2=T3 at hA3⊢;obtain⟨u1,u2,u3,u4,u5,u6⟩:=id hN2;unfold fM kD jG nJ
 (try dsimp only[List.cons_append,List.nil_append]);refine dO ?_;refine cw (kD E0 r p2 T3) Tryz.call300 (TE u1 T3 (by have:=hA3.a;omega) 11) rfl aC dI ?_;rintro _ σ' ⟨rfl,rfl⟩ h43;refine QN ?_;refine nZ ?_;have hk3:=DA E0.bd T3 11;rw[←hk3.1,←hk3.2.1];have hA4:=hA3.pass 11;have hTl:=hA4.l;have hen:EE E0.bd x T3=gR (if(!(eP E0.bd T3 11).1)=true then eG (eP E0.bd T3 11).2 else(eP E0.bd T3 11).2) (aY x.a):=rfl;rw[hen];refine aB rfl (fun g12=> ?_) (fun g12=> ?_)
 ·rw[if_pos (c:=(!(eP E0.bd T3 11).1)=true) g12];generalize(eP E0.bd T3 11).2=T5 at hTl⊢;refine nP ?_;refine kL ?_;refine cw (jG z q T5) Tryz.call275 (iZ m6 T5 (by omega) (aY x.a) (by omega)) rfl aC dI ?_;rintro _ σ' ⟨f,hf,rfl⟩ h50
  (try unfold fM);(try unfold kD);(try unfold jG);(try unfold nJ);(try dsimp only[List.cons_append,List.nil_append]);refine tE (h50 _ (List.mem_cons_of_mem _ List.mem_cons_self)) fun k50=> ?_;intros
  apply aZ;exact bN;have hL2:Nr r p2 z f:=⟨u1,u2,u3,by(exact bA),by(exact bA),hf⟩
  refine jI ?_;refine bY ?_;exact aD aE ⟨_,_,hL2,rfl⟩ aA
 rw[if_neg (c:=(!(eP E0.bd T3 11).1)=true) (fun e=>by rw[g12]at e;cases e)];generalize(eP E0.bd T3 11).2=T5 at hTl⊢;refine dF ?_;refine cw (jG z q T5) Tryz.call275 (iZ m6 T5 (by omega) (aY x.a) (by omega)) rfl aC dI ?_;rintro _ σ' ⟨f,hf,rfl⟩ h50
 (try unfold fM);(try unfold kD);(try unfold jG);(try unfold nJ);(try dsimp only[List.cons_append,List.nil_append]);refine tE (h50 _ (List.mem_cons_of_mem _ List.mem_cons_self)) fun k50=> ?_;intros
 apply aZ;exact bN;have hL2:Nr r p2 z f:=⟨u1,u2,u3,by(exact bA),by(exact bA),hf⟩
 refine jI ?_;refine bY ?_;exact aD aE ⟨_,_,hL2,rfl⟩ aA
theorem aAR(t:RT)(k:Int)(j:Nat):aT t (List.replicate (j+1) k)=(jF (aT t (List.replicate j k)) k).2:=by
 unfold aT;rw[List.reverse_replicate,List.reverse_replicate,List.replicate_succ',List.foldl_append];rfl
theorem aLh(op:Int):0≤(oY op).1∧(oY op).1≤2:=by
 unfold oY;refine aK (p:=fun r:Int×Int×Int×Bool=>0≤r.1∧r.1≤2) (fun _=>by decide) (fun _=> ?_);refine aK (p:=fun r:Int×Int×Int×Bool=>0≤r.1∧r.1≤2) (fun _=>by simp) (fun _=> ?_);refine aK (p:=fun r:Int×Int×Int×Bool=>0≤r.1∧r.1≤2) (fun _=>by simp) (fun _=> ?_);refine aK (p:=fun r:Int×Int×Int×Bool=>0≤r.1∧r.1≤2) (fun _=>by simp) (fun _=> ?_);refine aK (p:=fun r:Int×Int×Int×Bool=>0≤r.1∧r.1≤2) (fun _=>by simp) (fun _=> ?_);exact aK (p:=fun r:Int×Int×Int×Bool=>0≤r.1∧r.1≤2) (fun _=>by simp) (fun _=>by simp)
theorem aAS{E0:Env}(hE0:E0.Ok)(n:Nat)(hB:aFT E0 n):aLg E0 (n+1):=by
 intro r p z q t0 x hN hW hx hn;obtain⟨ta,tl,tb,l,dd⟩:=t0;have hN0:=hN;obtain⟨n1,n2,n3,n4,n5,n6⟩:=hN;have hbl:=hE0.bl;have hlt:ta<E0.bd.length:=(List.getElem?_eq_some_iff.1 hx).1;obtain⟨hxc,hx1,hx23⟩:=hE0.bd x (List.mem_of_getElem? hx);have hta:(⟨ta+1,tl,tb,l,dd⟩:RT).a≤E0.bd.length:=hlt;have htb:(⟨ta+1,tl,tb,l,dd⟩:RT).lb.length≤(⟨ta+1,tl,tb,l,dd⟩:RT).a:=hW.lb;have hts:Sh ⟨ta+1,tl,tb,l,dd⟩:=hW.sh;have htl:(⟨ta+1,tl,tb,l,dd⟩:RT).l.length≤900000:=by have:=hW.l;show l.length≤ _;dsimp only at this;omega
 have htn:E0.bd.length-(⟨ta+1,tl,tb,l,dd⟩:RT).a≤n:=by show E0.bd.length-(ta+1)≤n;dsimp only at hn;omega
 have hbig:(⟨ta+1,tl,tb,l,dd⟩:RT).lb.length≤1000000:=by have:=hW.lb;show tl.length≤ _;dsimp only at this;omega
 have hI:fC E0.m E0.ls E0.res E0.bd (LE E0) x ⟨ta,tl,tb,l,dd⟩=if qV x.op=true then tA (LE E0) E0.bd x ⟨ta+1,tl,tb,l,dd⟩else gL E0.m E0.ls E0.res x ⟨ta+1,tl,tb,l,dd⟩:=rfl
 rw[hI];have hrk:=aLh x.op;unfold iv;refine cC 97 [0,1,2,4,6,7,8,9,10,11,12,21,22,30,40,47,52,69,79,82] Tryz.func201 ?_;unfold fM kD jG nJ
 (try dsimp only[List.cons_append,List.nil_append]);refine dG ?_;refine iG fun r4 h4=> ?_;intros
 refine jI ?_;refine eU ?_;refine nN ?_;refine PR ?_;refine qO ?_;rw[show((ta:Int)+1)=((ta+1:Nat):Int) by omega];refine nE ?_;refine qS ?_;apply fD rfl;exact cT
 ·intro _;(refine aI ?_);refine eV ?_;apply eD rfl;exact cT
  ·intro _;(refine aI ?_);refine eV ?_;exact aJ
  exact aJ
 refine aI ?_;refine aB rfl (fun g3=> ?_) (fun g3=> ?_)
 ·have hO:qV x.op=true:=by unfold qV;rw[Bool.or_assoc];exact g3
  rw[if_pos hO];refine dO ?_;refine DX ?_;refine cw (fM E0 r p z q ⟨ta+1,tl,tb,l,dd⟩) Tryz.call271 (aDl hE0 n hB hN0 ⟨ta+1,tl,tb,l,dd⟩ hta htb hts htl htn x) rfl aC dI ?_;rintro _ σ' ⟨e,f,hL2,rfl⟩ h29;refine mQ ?_;exact aD aE ⟨_,_,hL2,rfl⟩ aA
 have hO:qV x.op=false:=by unfold qV;rw[Bool.or_assoc];exact g3
 rw[if_neg (by rw[hO];simp)];refine dC ?_;apply fD rfl;exact cT
 ·intro _;(refine aI ?_);refine eV ?_;apply eD rfl;exact cT
  ·intro _;(refine aI ?_);refine eV ?_;apply eD rfl;exact cT
   ·intro _;(refine aI ?_);refine eV ?_;apply eD rfl;exact cT
    ·intro _;(refine aI ?_);refine eV ?_;exact aJ
    exact aJ
   exact aJ
  exact aJ
 refine aI ?_;refine aB rfl (fun g7=> ?_) (fun g7=> ?_)
 ·have hb:PV x.op=true:=g7;obtain⟨hx2,hx3⟩:=hx23 hb;rw[show gL E0.m E0.ls E0.res x ⟨ta+1,tl,tb,l,dd⟩=fU E0.res x ⟨ta+1,tl,tb,l,dd⟩from if_pos hb];refine dO ?_;refine DX ?_;refine cw (fM E0 r p z q ⟨ta+1,tl,tb,l,dd⟩) Tryz.call272 (WR hN0 hE0.res ⟨ta+1,tl,tb,l,dd⟩ htl hts hbig x hxc hb hx2 hx3) rfl aC dI ?_;rintro _ σ' ⟨f,hL2,rfl⟩ h39;refine mQ ?_;exact aD aE ⟨_,_,hL2,rfl⟩ aA
 have hb:PV x.op=false:=g7;refine dC ?_;apply fD rfl;exact cT
 ·intro _;(refine aI ?_);refine eV ?_;exact aJ
 refine aI ?_;refine aB rfl (fun g13=> ?_) (fun g13=> ?_)
 ·have h0:0≤x.a:=by
   rcases hx1 with h|⟨-,h1,h2⟩
   ·exact h
   ·simp only[Bool.or_eq_true,beq_iff_eq]at g13;omega
  rw[show gL E0.m E0.ls E0.res x ⟨ta+1,tl,tb,l,dd⟩=rI E0.m x ⟨ta+1,tl,tb,l,dd⟩ by unfold gL;rw[hb,g13];rfl];refine dO ?_;refine DX ?_;refine cw (fM E0 r p z q ⟨ta+1,tl,tb,l,dd⟩) Tryz.call273 (aDi hN0 hE0.m ⟨ta+1,tl,tb,l,dd⟩ htl x h0 hxc.hi) rfl aC dI ?_;rintro _ σ' ⟨f,hL2,rfl⟩ h46;refine mQ ?_;exact aD aE ⟨_,_,hL2,rfl⟩ aA
 refine dC ?_;refine aB rfl (fun g16=> ?_) (fun g16=> ?_)
 ·rw[show gL E0.m E0.ls E0.res x ⟨ta+1,tl,tb,l,dd⟩=(jF ⟨ta+1,tl,tb,l,dd⟩ 0).2 by unfold gL;rw[hb,g13,g16];rfl];have hL2:=hN0;refine dF ?_;refine cw (fM E0 r p z q ⟨ta+1,tl,tb,l,dd⟩) Tryz.call274 (BV hN0 ⟨ta+1,tl,tb,l,dd⟩ (by omega) 0) rfl aC dI ?_;rintro _ σ' ⟨rfl,rfl⟩ h51;refine mQ ?_;exact aD aE ⟨_,_,hL2,rfl⟩ aA
 refine dC ?_;refine aB rfl (fun g18=> ?_) (fun g18=> ?_)
 ·rw[show gL E0.m E0.ls E0.res x ⟨ta+1,tl,tb,l,dd⟩=gR (jF (jF (aT ⟨ta+1,tl,tb,l,dd⟩ [1]) 0).2 (jF (aT ⟨ta+1,tl,tb,l,dd⟩ [1]) 0).1).2 [(jF (jF (aT ⟨ta+1,tl,tb,l,dd⟩ [1]) 0).2 (jF (aT ⟨ta+1,tl,tb,l,dd⟩ [1]) 0).1).1] by unfold gL;rw[hb,g13,g16,g18];rfl];have l1:=iQ ⟨ta+1,tl,tb,l,dd⟩ [1];refine dF ?_;refine eS fun r56 h56=> ?_;intros
  refine iR (j:=56) rfl bH (aM aO (by simp)) ?_;refine cw (fM E0 r p z q ⟨ta+1,tl,tb,l,dd⟩) Tryz.call202 (fB hN0 ⟨ta+1,tl,tb,l,dd⟩ (by omega) [1] (by simp)) rfl aC dI ?_;rintro _ σ' rfl h57;refine mQ ?_;generalize aT ⟨ta+1,tl,tb,l,dd⟩ [1]=t1 at l1⊢;have l2:=BX t1 0;refine kL ?_;refine cw (fM E0 r p z q t1) Tryz.call274 (BV hN0 t1 (by omega) 0) rfl aC dI ?_;rintro _ σ' ⟨rfl,rfl⟩ h60;refine QN ?_;refine cZ ?_;generalize(jF t1 0).1=k1;generalize(jF t1 0).2=t2 at l2⊢;have l3:=BX t2 k1;refine yD ?_;refine cw (fM E0 r p z q t2) Tryz.call274 (BV hN0 t2 (by omega) k1) rfl aC dI ?_;rintro _ σ' ⟨rfl,rfl⟩ h64;refine QN ?_;refine cZ ?_;generalize(jF t2 k1).1=k2;generalize(jF t2 k1).2=t3 at l3⊢;refine kL ?_;refine eS fun r67 h67=> ?_;intros
  refine iR (j:=67) rfl bH (aM aO (by simp)) ?_;refine cw (jG z q t3) Tryz.call275 (iZ hN0.qz t3 (by omega) [k2] (by simp)) rfl aC dI ?_;rintro _ σ' ⟨e,he,rfl⟩ h68
  (try unfold fM);(try unfold kD);(try unfold jG);(try unfold nJ);(try dsimp only[List.cons_append,List.nil_append]);refine tE (h68 _ (List.mem_cons_of_mem _ List.mem_cons_self)) fun k68=> ?_;intros
  have hL2:Nr r p z e:=⟨hN0.pr,hN0.zr,hN0.zp,by(exact bA),by(exact bA),by(exact bA)⟩
  refine fN ?_;exact aD aE ⟨_,_,hL2,rfl⟩ aA
 refine dC ?_;refine aB rfl (fun g23=> ?_) (fun g23=> ?_)
 ·rw[show gL E0.m E0.ls E0.res x ⟨ta+1,tl,tb,l,dd⟩=⟨ta+1,tl,tb,l,dd⟩ by unfold gL;rw[hb,g13,g16,g18,g23];rfl];have hL2:=hN0;refine aI ?_;exact aD aE ⟨_,_,hL2,rfl⟩ aA
 refine fE ?_;refine lS Tryz.call276 (xF x.op) rfl aU bC ?_;refine vA ?_;refine LP ?_;refine yC ?_;refine eU ?_;refine jI ?_;refine aB rfl (fun g25=> ?_) (fun g25=> ?_)
 ·rw[show gL E0.m E0.ls E0.res x ⟨ta+1,tl,tb,l,dd⟩=gR (aT ⟨ta+1,tl,tb,l,dd⟩ (List.replicate (oY x.op).1.toNat (oY x.op).2.1)) [(oY x.op).2.2.1] by unfold gL;rw[hb,g13,g16,g18,g23,g25];rfl];refine bP ?_;refine lp (β:=Nat) (fun j=>⟨[(0,.ptr r 0),(2,.ptr z 0),(8,.int .i64 (oY x.op).1),(9,.int .i64 (oY x.op).2.1),(10,.int .i64 (oY x.op).2.2.1),(12,.int .i64 j)],fM E0 r p z q (aT ⟨ta+1,tl,tb,l,dd⟩ (List.replicate j (oY x.op).2.1))⟩) (fun j=>j≤(oY x.op).1.toNat) (fun j=>(oY x.op).1.toNat-j) 0 (by unfold fM kD jG nJ;(try dsimp only[List.cons_append,List.nil_append]);(exact aJ)) (Nat.zero_le _) ?_;intro j hj;have hnx:=aAR ⟨ta+1,tl,tb,l,dd⟩ (oY x.op).2.1 j;have hSl:(aT ⟨ta+1,tl,tb,l,dd⟩ (List.replicate j (oY x.op).2.1)).l.length≤900000:=Nat.le_trans (iQ _ _) htl;generalize hSe:aT ⟨ta+1,tl,tb,l,dd⟩ (List.replicate j (oY x.op).2.1)=S at hnx hSl⊢;unfold fM kD jG nJ
  (try dsimp only[List.cons_append,List.nil_append]);refine dF ?_;refine oP ?_;refine aB rfl (fun g27=> ?_) (fun g27=> ?_)
  ·have hlt2:(j:Int)<(oY x.op).1:=by simpa using g27
   refine uZ ?_;refine cw (fM E0 r p z q S) Tryz.call274 (BV hN0 S (by omega) (oY x.op).2.1) rfl aC dI ?_;rintro _ σ' ⟨rfl,rfl⟩ h88;refine mQ ?_;refine eU ?_;refine AE ?_;refine⟨j+1,by show j+1≤ _;omega,by show(oY x.op).1.toNat-(j+1)<(oY x.op).1.toNat-j;omega, ?_⟩
   (try dsimp only);rw[hnx];exact aJ
  have hge:¬(j:Int)<(oY x.op).1:=by simpa using g27
  obtain rfl:j=(oY x.op).1.toNat:=by omega
  rw[hSe];refine dF ?_;refine eS fun r91 h91=> ?_;intros
  refine iR (j:=91) rfl bH (aM aO (by simp)) ?_;refine cw (jG z q S) Tryz.call275 (iZ hN0.qz S (by omega) [(oY x.op).2.2.1] (by simp)) rfl aC dI ?_;rintro _ σ' ⟨e,he,rfl⟩ h92
  (try unfold fM);(try unfold kD);(try unfold jG);(try unfold nJ);(try dsimp only[List.cons_append,List.nil_append]);refine tE (h92 _ (List.mem_cons_of_mem _ List.mem_cons_self)) fun k92=> ?_;intros
  have hL2:Nr r p z e:=⟨hN0.pr,hN0.zr,hN0.zp,by(exact bA),by(exact bA),by(exact bA)⟩
  refine fN ?_;exact aD aE ⟨_,_,hL2,rfl⟩ aA
 rw[show gL E0.m E0.ls E0.res x ⟨ta+1,tl,tb,l,dd⟩=gF E0.m E0.ls x ⟨ta+1,tl,tb,l,dd⟩ by unfold gL;rw[hb,g13,g16,g18,g23,g25];rfl];refine dO ?_;refine DX ?_;refine cw (fM E0 r p z q ⟨ta+1,tl,tb,l,dd⟩) Tryz.call277 (aAK hN0 ⟨ta+1,tl,tb,l,dd⟩ htl x hxc) rfl aC dI ?_;rintro _ σ' ⟨f,hL2,rfl⟩ h96;refine mQ ?_;refine bY ?_;exact aD aE ⟨_,_,hL2,rfl⟩ aA
theorem ZB{E0:Env}(hE0:E0.Ok):∀n,aFT E0 n
 |0=>LB hE0 0 (fun r p z q t x hN hW hx hn=>absurd (List.getElem?_eq_some_iff.1 hx).1 (by omega))
 |n+1=>LB hE0 (n+1) (aAS hE0 n (ZB hE0 n))
structure Md.RFn (m:Md):Prop extends m.Ck where
 bd:∀c∈m.co,c.bd.length≤400∧∀x∈c.bd,x.Ck∧(0≤x.a∨PV x.op=false∧x.op≠16∧x.op≠17)∧(PV x.op=true→(-9000000000000000000≤x.a∧x.a≤9000000000000000000)∧∀n∈x.l,-9000000000000000000≤n∧n≤9000000000000000000)
 lc:∀c∈m.co,c.ls.length≤1000
theorem aF2{m:Md}{k:Int}(h:(if(if decide (k<0)=true then true else decide ((m.co.length:Int)≤k))=true then true else decide ((m.fn.length:Int)≤k))=true):WJ m k=false:=by
 unfold WJ;rw[if_pos];rw[h];simp
theorem aF3{m:Md}{k:Int}{c:Co}{f:Int}(h:(if(if decide (k<0)=true then true else decide ((m.co.length:Int)≤k))=true then true else decide ((m.fn.length:Int)≤k))=false)(hc:m.co[k.toNat]? =some c)(hf:m.fn[k.toNat]? =some f):
  WJ m k=if(if decide (f<0)=true then true else decide ((m.ty.length:Int)≤f))=true then false
   else if decide ((32:Int)<((m.ty.getD f.toNat sF).pr++c.ls).length)=true then false
   else if(!(dS (LE ⟨m,(m.ty.getD f.toNat sF).pr++c.ls,(m.ty.getD f.toNat sF).rs,c.bd⟩) (m.ty.getD f.toNat sF).rs (m.ty.getD f.toNat sF).rs ⟨0,[],false,[],false⟩).bad)=true then(((dS (LE ⟨m,(m.ty.getD f.toNat sF).pr++c.ls,(m.ty.getD f.toNat sF).rs,c.bd⟩) (m.ty.getD f.toNat sF).rs (m.ty.getD f.toNat sF).rs ⟨0,[],false,[],false⟩).a:Int)==c.bd.length)else false:=by
 have e1:m.co.getD k.toNat ⟨[],[]⟩=c:=by rw[List.getD_eq_getElem?_getD,hc];rfl
 have e2:m.fn.getD k.toNat 0=f:=by rw[List.getD_eq_getElem?_getD,hf];rfl
 unfold WJ;rw[h,e2,e1];rfl
theorem aDm(m:Md)(hm:m.RFn)(k:Int):SCall Tryz.prog 24 [.agg (aS m),.int .i64 k] [] (fun y σ=>y=.bool (WJ m k)∧σ=[]):=by
 refine cC 101 [0,1,2,4,5,6,41,77] Tryz.func24 ?_;unfold aS;refine dG ?_;refine iG fun r2 h2=> ?_;intros
 refine cZ ?_;rcases hC:(if(if decide (k<0)=true then true else decide ((m.co.length:Int)≤k))=true then true else decide ((m.fn.length:Int)≤k))with _ | _
 ·obtain⟨t1,t2,t3⟩:=aC1 hC;simp only[decide_eq_false_iff_not]at t1 t2 t3;obtain⟨c,hc⟩:∃c,m.co[k.toNat]? =some c:=⟨_,List.getElem?_eq_getElem (by omega)⟩
  obtain⟨f,hf⟩:∃f,m.fn[k.toNat]? =some f:=⟨_,List.getElem?_eq_getElem (by omega)⟩
  have hcm:=List.mem_of_getElem? hc;obtain⟨hb1,hb2⟩:=hm.bd c hcm;have hlc:=hm.lc c hcm;rw[aF3 hC hc hf];refine fK [(0,true),(1,true),(2,true),(3,true),(4,true),(5,true),(6,true),(7,true),(8,true),(9,true),(10,true),(11,true),(12,true),(13,true),(14,true),(15,true),(16,true),(17,true),(18,true),(19,true),(20,true),(21,true),(22,true),(23,true),(24,true),(25,true),(26,true),(27,true),(28,true),(29,true),(30,true),(31,true),(32,true),(33,true),(34,true)] ?_;refine fY rfl (aF (E rfl)) rfl ?_;refine z46 ?_;refine CH ?_;refine UU ?_;refine rV ?_;refine UV ?_;refine IL ?_;refine CH ?_;refine UU ?_;refine rV ?_;refine UV ?_;refine IL ?_;rw[hC];refine FV ?_;refine rV ?_;refine AC ?_;refine QL ?_;refine aGA ?_;refine IL ?_;refine FV ?_;refine rV ?_;refine AC ?_;refine QL ?_;refine UT ?_;refine UU ?_;refine rV ?_;refine UV ?_;refine IL ?_;refine kF ?_;refine aB rfl (fun g1=> ?_) (fun g1=> ?_)
  ·rw[if_pos g1];refine bP ?_;exact aD aE ⟨by rfl,rfl⟩ aA
  rw[if_neg (c:=(if decide (f<0)=true then true else decide ((m.ty.length:Int)≤f))=true) (fun e=>by rw[g1]at e;cases e)];have hf2:0≤f∧f<m.ty.length:=by
   have:∀p q:Bool,(if p=true then true else q)=false→p=false∧q=false:=by intro p q;cases p<;>cases q<;>simp
   obtain⟨h1,h2⟩:=this _ _ g1;simp only[decide_eq_false_iff_not]at h1 h2;omega
  obtain⟨ty,hty⟩:∃ty,m.ty[f.toNat]? =some ty:=⟨_,List.getElem?_eq_getElem (by omega)⟩
  have hts:=hm.ts ty (List.mem_of_getElem? hty);rw[show m.ty.getD f.toNat sF=ty by rw[List.getD_eq_getElem?_getD,hty];rfl];obtain⟨pr,rs⟩:=ty;obtain⟨hp1,hp2⟩:=hts;dsimp only at hp1 hp2⊢;refine aI ?_;refine fK [(0,true),(1,true),(2,true),(3,true),(4,true),(5,true),(6,true),(7,true),(8,true),(9,false),(10,false)] ?_;refine fZ ?_;refine ZP ?_;refine JP ?_;refine HY ?_;refine xR ?_;apply dal;rfl;infer_instance;rfl;exact wA;refine kE fun r5 h5=> ?_;intros
  refine HZ ?_;refine kF ?_;refine fK [(0,true),(1,true),(2,true),(3,true),(4,true),(5,true),(6,true),(7,true),(8,true),(10,true),(11,true),(12,true),(13,true),(14,true),(15,true),(17,true),(18,true),(9,false),(16,false),(19,true),(20,false),(21,true)] ?_;refine UE ?_;refine lN ?_;refine fZ ?_;refine lN ?_;refine fZ ?_;refine aHV rfl (pr.map aR) pr.length ?_ (hby:=by omega);refine kE fun r60 h60=> ?_;intros
  refine eX rfl ((pr++c.ls).map aR) (pr++c.ls).length ?_;refine bL fun r67 h67=> ?_;intros
  refine VY (j:=67) rfl bH (aM aO (by simp)) ?_;refine IJ ?_;refine fz5 fun r71 h71=> ?_;intros
  refine yV ?_;have hll:(pr++c.ls).length≤2000:=by simp;omega
  generalize pr++c.ls=ls at hll⊢;refine eU ?_;refine z76 ?_;refine nL ?_;refine sN ?_;refine aB rfl (fun g5=> ?_) (fun g5=> ?_)
  ·rw[if_pos g5];refine bP ?_;exact aD aE ⟨by rfl,rfl⟩ aA
  rw[if_neg (c:=decide ((32:Int)<(ls.length:Int))=true) (fun e=>by rw[g5]at e;cases e)];have hE0:Env.Ok ⟨m,ls,rs,c.bd⟩:=⟨hm.toCk,by show rs.length≤ _;omega,hb1,hb2⟩
  refine aI ?_;refine cO (ks:=[0,1,2,4,5,6,41,77]) r71 18 24 1 (by decide) aO rfl (by decide) fun p hp=> ?_
  simp only[aP,aX,and_true]at hp;repeat rcases hp with⟨_,hp⟩
  apply Exists.intro;apply And.intro;exact cJ;refine lO ?_;refine oO ?_;refine cw (kD ⟨m,ls,rs,c.bd⟩ r71 p ⟨0,[],false,[],false⟩) Tryz.call80 (ZB hE0 c.bd.length r71 p ⟨0,[],false,[],false⟩ rs rs (by(exact bA)) ⟨Nat.zero_le _,Nat.le_refl _,fun l hl=>by simp at hl⟩ (Nat.sub_le _ _) (by omega) (by omega)) rfl aC dI ?_;rintro _ σ' ⟨e,he,rfl⟩ h83;refine mQ ?_;generalize dS (LE ⟨m,ls,rs,c.bd⟩) rs rs ⟨0,[],false,[],false⟩=T;refine fK [(0,true),(1,true),(2,true),(3,true),(4,true),(5,true),(6,true),(7,true),(8,true),(9,true),(10,true),(11,true),(12,true),(13,true),(14,true),(15,true),(16,true),(17,true)] ?_;refine pV ?_;refine fY rfl (eJ (E rfl)) rfl ?_;refine CH ?_;refine sq7 ?_;refine rV ?_;refine AC ?_;refine sq7 ?_;refine rV ?_
  (first|refine kK rfl rfl rfl rfl rfl ?_ |(first|refine eZ rfl rfl rfl (fV (by first|exact W rfl id|exact E rfl)) rfl ?_ |refine eZ rfl rfl rfl (kQ (by first|exact W rfl id|exact E rfl)) rfl ?_ |refine eZ rfl rfl rfl (gS (by first|exact W rfl id|exact E rfl)) rfl ?_)|refine eQ rfl rfl rfl (fV (by first|exact W rfl id|exact E rfl)) rfl ?_ |refine eQ rfl rfl rfl (kQ (by first|exact W rfl id|exact E rfl)) rfl ?_ |refine eQ rfl rfl rfl (gS (by first|exact W rfl id|exact E rfl)) rfl ?_);refine aD6 ?_;refine ZN ?_;refine yV ?_;exact aD aE ⟨by rfl,rfl⟩ aA
 ·rw[aF2 hC];refine fK [(0,true),(1,true),(2,true),(3,true),(4,true),(5,true),(6,true),(7,true),(8,true),(9,true),(10,true),(11,true),(12,true),(13,true),(14,true),(15,true),(16,true),(17,true),(18,true),(19,true),(20,true),(21,true),(22,true),(23,true),(24,true),(25,true),(26,true),(27,true),(28,true),(29,true),(30,true),(31,true),(32,true),(33,true),(34,true)] ?_;refine fY rfl (aF (E rfl)) rfl ?_;refine z46 ?_;refine CH ?_;refine UU ?_;refine rV ?_;refine UV ?_;refine IL ?_;refine CH ?_;refine UU ?_;refine rV ?_;refine UV ?_;refine IL ?_;rw[hC];refine FV ?_;refine rV ?_;refine AC ?_;refine QL ?_;refine aGA ?_;refine IL ?_;refine FV ?_;refine rV ?_;refine AC ?_;refine QL ?_;refine UT ?_;refine UU ?_;refine rV ?_;refine UV ?_;refine IL ?_;refine yR ?_;refine bP ?_;exact aD aE ⟨by rfl,rfl⟩ aA
end Go.Proofs.YtjpdadobblffmaaGreat
namespace Go.Proofs.YtjpdadobblffmaaGreat
open Go.RowKit Go.ChangeShapes Go.WideShapes Go.ChangeAt Go.Deep
theorem aJc{x:Ins}(h:dB x=true):x.l.length≤50∧(aW x.op≠4→x.l=[]):=by
 unfold dB at h;have h0:jD x (aW x.op)=false:=by
  cases hp:jD x (aW x.op)with
  |false=>rfl
  |true=>rw[hp]at h;simp at h
 by_cases h4:aW x.op=4
 ·refine⟨?_,fun e=>absurd h4 e⟩;rw[h0,h4]at h;simp only[Bool.false_eq_true,if_false,show((4:Int)==1||(4:Int)==7)=false from rfl,show((4:Int)==2)=false from rfl,show((4:Int)==3||(4:Int)==5)=false from rfl,show((4:Int)==4)=true from rfl,if_true]at h;cases ha:pW x.a 0 1000 with
  |false=>rw[ha]at h;simp at h
  |true=>
   rw[ha]at h;simp only[if_true]at h;split at h
   ·next e=>have:=of_decide_eq_true e;omega
   ·cases h
 ·have:x.l=[]:=by
   unfold jD at h0;cases hl:x.l with
   |nil=>rfl
   |cons a l=>rw[hl]at h0;simp[h4]at h0
  exact⟨by rw[this];simp,fun _=>this⟩
theorem NP{x:Ins}(h:dB x=true)(hf:aW x.op=3∨aW x.op=4∨aW x.op=5∨aW x.op=6):x.a≤1000∧(aW x.op=4→∀n∈x.l,n≤1000):=by
 unfold dB at h;have h0:jD x (aW x.op)=false:=by
  cases hp:jD x (aW x.op)with
  |false=>rfl
  |true=>rw[hp]at h;simp at h
 rw[h0]at h;simp only[Bool.false_eq_true,if_false]at h;rcases hf with e|e|e|e<;>rw[e]at h⊢
 ·simp only[show((3:Int)==1||(3:Int)==7)=false from rfl,show((3:Int)==2)=false from rfl,show((3:Int)==3||(3:Int)==5)=true from rfl,Bool.false_eq_true,if_false,if_true]at h;exact⟨(oM h).2,fun e=>by simp at e⟩
 ·simp only[show((4:Int)==1||(4:Int)==7)=false from rfl,show((4:Int)==2)=false from rfl,show((4:Int)==3||(4:Int)==5)=false from rfl,show((4:Int)==4)=true from rfl,Bool.false_eq_true,if_false,if_true]at h;cases ha:pW x.a 0 1000 with
  |false=>rw[ha]at h;simp at h
  |true=>
   refine⟨(oM ha).2,fun _ n hn=> ?_⟩;rw[ha]at h;simp only[if_true]at h;split at h
   ·simp only[Bool.not_eq_true',List.any_eq_false,Bool.not_eq_true',Bool.not_eq_false]at h;have:=h n hn;have:pW n 0 1000=true:=by simpa using this
    exact(oM this).2
   ·cases h
 ·simp only[show((5:Int)==1||(5:Int)==7)=false from rfl,show((5:Int)==2)=false from rfl,show((5:Int)==3||(5:Int)==5)=true from rfl,Bool.false_eq_true,if_false,if_true]at h;exact⟨(oM h).2,fun e=>by simp at e⟩
 ·simp only[show((6:Int)==1||(6:Int)==7)=false from rfl,show((6:Int)==2)=false from rfl,show((6:Int)==3||(6:Int)==5)=false from rfl,show((6:Int)==4)=false from rfl,show((6:Int)==6)=true from rfl,Bool.false_eq_true,if_false,if_true]at h;cases ha:pW x.a 0 3 with
  |false=>rw[ha]at h;simp at h
  |true=>exact⟨Int.le_trans (oM ha).2 (by decide),fun e=>by simp at e⟩
theorem aDn{x:Ins}(h:dB x=true)(ho:x.Ok):x.Ck∧(0≤x.a∨PV x.op=false∧x.op≠16∧x.op≠17)∧(PV x.op=true→(-9000000000000000000≤x.a∧x.a≤9000000000000000000)∧∀n∈x.l,-9000000000000000000≤n∧n≤9000000000000000000):=by
 obtain⟨hl1,hl2⟩:=aJc h;have f3:x.op=12∨x.op=13∨x.op=16∨x.op=32∨x.op=33∨x.op=34∨x.op=35∨x.op=36→aW x.op=3:=fun e=>by rcases e with e|e|e|e|e|e|e|e<;>rw[e]<;>decide
 have f4:x.op=14→aW x.op=4:=fun e=>by rw[e];decide
 have f5:x.op=17→aW x.op=5:=fun e=>by rw[e];decide
 have f1:x.op=15∨x.op=0→aW x.op=1:=fun e=>by rcases e with e|e<;>rw[e]<;>decide
 have hB:PV x.op=true→x.op=12∨x.op=13∨x.op=14∨x.op=15∨x.op=0:=fun e=>by unfold PV at e;simpa using e
 refine⟨⟨fun e=> ?_,fun e=>(lA h (.inr (.inl (f4 e)))).2 (f4 e),by omega,ho.2.2.2.1⟩, ?_,fun e=> ?_⟩
 ·by_cases e14:x.op=14
  ·exact(lA h (.inr (.inl (f4 e14)))).1
  ·exact(lA h (.inl (f3 (by omega)))).1
 ·by_cases hb:PV x.op=true
  ·left;rcases hB hb with e|e|e|e|e
   ·exact(lA h (.inl (f3 (by omega)))).1
   ·exact(lA h (.inl (f3 (by omega)))).1
   ·exact(lA h (.inr (.inl (f4 e)))).1
   ·rw[tD h (.inl (f1 (by omega)))];decide
   ·rw[tD h (.inl (f1 (by omega)))];decide
  ·by_cases e16:x.op=16
   ·exact .inl (lA h (.inl (f3 (by omega)))).1
   ·by_cases e17:x.op=17
    ·exact .inl (lA h (.inr (.inr (.inl (f5 e17))))).1
    ·exact .inr ⟨by simpa using hb,e16,e17⟩
 ·have key:(-9000000000000000000≤x.a∧x.a≤9000000000000000000):=by
   rcases hB e with e|e|e|e|e
   ·have:=(lA h (.inl (f3 (by omega)))).1;have:=(NP h (.inl (f3 (by omega)))).1;omega
   ·have:=(lA h (.inl (f3 (by omega)))).1;have:=(NP h (.inl (f3 (by omega)))).1;omega
   ·have:=(lA h (.inr (.inl (f4 e)))).1;have:=(NP h (.inr (.inl (f4 e)))).1;omega
   ·rw[tD h (.inl (f1 (by omega)))];decide
   ·rw[tD h (.inl (f1 (by omega)))];decide
  refine⟨key,fun n hn=> ?_⟩;by_cases h4:aW x.op=4
  ·have h1:=(lA h (.inr (.inl h4))).2 h4 n hn;have h2:=(NP h (.inr (.inl h4))).2 h4 n hn;omega
  ·rw[hl2 h4]at hn;simp at hn
theorem aDo{m:Md}(hm:qZ m=true)(hw:m.WO):m.Fn∧m.RFn:=by
 have hwo:=hw.ok;unfold qZ at hm;simp only[Bool.and_eq_true]at hm;obtain⟨⟨⟨⟨-,hco⟩,hls⟩,-⟩,-⟩:=hm;unfold pE at hls;simp only[Bool.and_eq_true]at hls;obtain⟨⟨⟨⟨⟨⟨hty,him⟩,-⟩,-⟩,-⟩,-⟩,-⟩:=hls;have hck:m.Ck:=⟨fun t ht=>by
  have:=(cA hty).2 t ht;simp only[Bool.and_eq_true]at this;have h1:=(cA this.1).1;have h2:=(cA this.2).1;exact⟨by omega,by omega⟩,by have:=(cA him).1;omega⟩
 have hc:∀c∈m.co,c.bd.length≤300∧c.ls.length≤32∧∀x∈c.bd,dB x=true:=fun c hcm=>by
  have:=(cA hco).2 c hcm;unfold tR at this;simp only[Bool.and_eq_true]at this;have h1:=(cA this.1.2).1;have h2:=(cA this.2).1;exact⟨by omega,by omega,(cA this.2).2⟩
 exact⟨⟨hck,fun c hcm=>⟨by have:=(hc c hcm).1;omega,fun x hx=>(aDn ((hc c hcm).2.2 x hx) (hwo.1 c hcm x hx)).1⟩,fun c hcm=>by have:=(hc c hcm).2.1;omega⟩,
  ⟨hck,fun c hcm=>⟨by have:=(hc c hcm).1;omega,fun x hx=>aDn ((hc c hcm).2.2 x hx) (hwo.1 c hcm x hx)⟩,fun c hcm=>by have:=(hc c hcm).2.1;omega⟩⟩
theorem aLi(w:Int){k:Int}(hk:0<k):(-k<w.tmod k∧w.tmod k<k)∧(0≤(w.tmod k+k).tmod k∧(w.tmod k+k).tmod k<k):=by
 have h1:-k<w.tmod k∧w.tmod k<k:=⟨Int.lt_tmod_of_pos w hk,Int.tmod_lt_of_pos w hk⟩
 have h2:=Int.tmod_nonneg (a:=w.tmod k+k) k (by omega);have h3:=Int.tmod_lt_of_pos (w.tmod k+k) hk;exact⟨h1,h2,h3⟩
def aDp (x:Ins):Bool:=decide (-9223372036854775808≤x.op)&&decide (x.op≤9223372036854775807)&&decide (-9223372036854775808≤x.a)&&decide (x.a≤9223372036854775807)&&decide (x.l.length≤9223372036854775807)
theorem aLj{x:Ins}(h:aDp x=true):x.Ok:=by
 unfold aDp at h;simp only[Bool.and_eq_true,decide_eq_true_eq]at h;exact⟨h.1.1.1.1,h.1.1.1.2,h.1.1.2,h.1.2,h.2⟩
theorem aJd(ps:List Int):(IX ps).length≤5:=by unfold IX;simp;omega
theorem aJe(r:Int):(IY r).length≤1:=by unfold IY;exact aK (p:=fun l:List Int=>l.length≤1) (fun _=>by simp) (fun _=>by simp)
def NQ (m:Md) (t:Int):Bool:=decide ((m.ty.length:Int)≤t)
def UF (m:Md) (f:Int):Bool:=decide ((m.im.length:Int)+(m.fn.length:Int)≤f)
def nmQ (a b:List Nat):Bool:=(dE a).toList==(dE b).toList
def aDq (nf:Int→Bool) (pre:List Ex) (x:Ex):Bool:=nf x.fn||pre.any fun y=>nmQ x.nm y.nm
def twN (nf:Int→Bool) (l:List Ex):Nat→Bool
 |0=>false
 |j+1=>twN nf l j||aDq nf (l.take j) (l.getD j ⟨[],0⟩)
def WT (l:Li):Bool:=l.has&&decide (0≤l.mx)&&decide (l.mx<l.mn)
def IZ (m:Md) (x:El):Bool:=x.fs.any (UF m)|| !m.tb.has
def sC (m:Md):Nat→Bool
 |0=>true
 |j+1=>sC m j&&EB m j
def gY (m:Md):Int:=
 if mT m=false then 0
 else if m.im.any (fun x=>NQ m x.ty)=true then 2
 else if m.fn.any (NQ m)=true then 3
 else if WT m.tb=true then 4
 else if WT m.me=true then 5
 else if twN (UF m) m.ex m.ex.length=true then 7
 else if m.el.any (IZ m)=true then 9
 else if sC m m.co.length=false then 10
 else if(!m.da.isEmpty&& !m.me.has)=true then 11
 else-1
theorem aJw{nf:Int→Bool}{l:List Ex}{n:Nat}(h:twN nf l n=false):∀j<n,aDq nf (l.take j) (l.getD j ⟨[],0⟩)=false:=by
 induction n with
 |zero=>intro j hj;omega
 |succ n ih=>
  unfold twN at h;rw[Bool.or_eq_false_iff]at h;intro j hj;rcases Nat.lt_or_ge j n with hlt|hge
  ·exact ih h.1 j hlt
  ·rw[show j=n by omega];exact h.2
theorem TH{nf:Int→Bool}{l:List Ex}{n j:Nat}(hj:j<n)(h:aDq nf (l.take j) (l.getD j ⟨[],0⟩)=true):twN nf l n=true:=by
 induction n with
 |zero=>omega
 |succ n ih=>
  unfold twN;rw[Bool.or_eq_true];rcases Nat.lt_or_ge j n with hlt|hge
  ·exact .inl (ih hlt)
  ·rw[show n=j by omega];exact .inr h
theorem BZ{m:Md}{n j:Nat}(hj:j<n)(h:EB m j=false):sC m n=false:=by
 induction n with
 |zero=>omega
 |succ n ih=>
  unfold sC;rw[Bool.and_eq_false_iff];rcases Nat.lt_or_ge j n with hlt|hge
  ·exact .inl (ih hlt)
  ·rw[show n=j by omega];exact .inr h
theorem TI{nf:Int→Bool}{l:List Ex}{j:Nat}{x:Ex}(hx:l[j]? =some x):twN nf l (j+1)=(twN nf l j||(nf x.fn||(l.take j).any fun y=>nmQ x.nm y.nm)):=by
 show(twN nf l j||aDq nf (l.take j) (l.getD j ⟨[],0⟩))=_;rw[List.getD_eq_getElem?_getD,hx];rfl
theorem aDr{m:Md}:((if decide ((0:Int)<(m.el.length:Int))=true then !m.tb.has else false)||m.el.any fun x=>x.fs.any (UF m))=m.el.any (IZ m):=by
 rw[Bool.eq_iff_iff];simp only[Bool.or_eq_true,List.any_eq_true,IZ];constructor
 ·rintro(h|⟨x,hx,h⟩)
  ·split at h
   ·next h1=>
    have:0<m.el.length:=by have:=of_decide_eq_true h1;omega
    exact⟨m.el[0],List.getElem_mem this,.inr h⟩
   ·cases h
  ·exact⟨x,hx,.inl h⟩
 ·rintro⟨x,hx,h|h⟩
  ·exact .inr ⟨x,hx,h⟩
  ·left;rw[if_pos (decide_eq_true (by have:=List.length_pos_of_mem hx;omega))];exact h
theorem NR{m:Md}:(if decide ((0:Int)<(m.da.length:Int))=true then !m.me.has else false)=(!m.da.isEmpty&& !m.me.has):=by
 cases m.da with
 |nil=>rfl
 |cons x l=>rw[if_pos (decide_eq_true (by simp))];rfl
theorem aMy(a b:Bool):a=true∨(a=false∧b=true)∨(a=false∧b=false):=by cases a<;>cases b<;>simp
end Go.Proofs.YtjpdadobblffmaaGreat
namespace Go.Proofs.YtjpdadobblffmaaGreat
open Go.RowKit Go.ChangeShapes Go.WideShapes Go.ChangeAt Go.Deep
attribute [local irreducible] SW RS RD fH eH
theorem WU(m:Md)(r:Nat):cB Tryz.prog 83 [.ptr r 0] [(r,.box 33 (aS m))] (fun n=>.int .i64 n) (NQ m) (fun _=>True):=by
 refine⟨Tryz.call83,fun n _=> ?_⟩;refine cC 9 [0,1,3] Tryz.func83 ?_;unfold aS;refine gX ?_;refine nL ?_;refine AG ?_;exact aD aE ⟨by rfl,rfl⟩ aA
theorem HM(m:Md)(hl:m.im.length≤1000000∧m.fn.length≤1000000)(r:Nat):cB Tryz.prog 84 [.ptr r 0] [(r,.box 33 (aS m))] (fun n=>.int .i64 n) (UF m) (fun _=>True):=by
 obtain⟨l1,l2⟩:=hl;refine⟨Tryz.call84,fun n _=> ?_⟩;refine cC 13 [0,1,3] Tryz.func84 ?_;unfold aS;refine gX ?_;refine nL ?_;refine nL ?_;refine PR ?_;refine AG ?_;exact aD aE ⟨by rfl,rfl⟩ aA
theorem aLk(x:Ex)(r:Nat):cB Tryz.prog 86 [.ptr r 0] [(r,.box 66 (dH x))] (fun y=>.agg (dH y)) (fun y=>nmQ x.nm y.nm) (fun _=>True):=by
 refine⟨Tryz.call86,fun n _=> ?_⟩;refine cC 9 [0,1,2,3] Tryz.func86 ?_;unfold dH;refine dG ?_;refine iG fun r2 h2=> ?_;intros
 refine iX ?_;refine oO ?_;refine lo (vU (E rfl) (E rfl)) rfl ?_;refine cZ ?_;exact aD aE ⟨by rfl,rfl⟩ aA
theorem aLl(m:Md)(r s:Nat)(hN:Nq r s):cB Tryz.prog 88 [.ptr s 0] [(s,.box 83 [.fn (.func 83) [] [.ptr r 0]]),(r,.box 33 (aS m))] (fun x=>.agg (eE x)) (fun x=>NQ m x.ty) (fun _=>True):=by
 refine⟨Tryz.call88,fun x _=> ?_⟩;obtain⟨a,b,ty⟩:=x;refine cC 8 [0,1,2,3] Tryz.func88 ?_;unfold eE;refine dG ?_;refine iG fun r2 h2=> ?_;intros
 refine jC ?_;refine rN ?_;refine oO ?_;refine qE [(r,.box 33 (aS m))] rfl (WU m r).1 ((WU m r).2 ty True.intro) rfl aC aA ?_;rintro _ σ' ⟨rfl,rfl⟩ h7;refine eR ?_;exact aD aE ⟨by rfl,rfl⟩ aA
theorem aLm(m:Md)(hl:m.im.length≤1000000∧m.fn.length≤1000000)(r s:Nat)(hN:Nq r s):cB Tryz.prog 92 [.ptr s 0] [(s,.box 83 [.fn (.func 84) [] [.ptr r 0]]),(r,.box 33 (aS m))] (fun x=>.agg (dX x)) (fun x=>x.fs.any (UF m)) (fun _=>True):=by
 refine⟨Tryz.call92,fun x _=> ?_⟩;obtain⟨o,fs⟩:=x;refine cC 8 [0,1,2,3] Tryz.func92 ?_;unfold dX;refine dG ?_;refine iG fun r2 h2=> ?_;intros
 refine iX ?_;refine rN ?_;refine cw [(r,.box 33 (aS m))] Tryz.call89 (MU (HM m hl r) fs (fun _ _=>True.intro)) rfl aC aA ?_;rintro _ σ' ⟨rfl,rfl⟩ h7;refine eR ?_;exact aD aE ⟨by rfl,rfl⟩ aA
theorem DR(l:Li):SCall Tryz.prog 90 [.agg (fA l)] [] (fun y σ=>y=.bool (WT l)∧σ=[]):=by
 obtain⟨h,a,b⟩:=l;have hB:WT ⟨h,a,b⟩=(if(if h=true then decide (0≤b)else false)=true then decide (b<a)else false):=by rw[jQ,jQ];rfl
 rw[hB];refine cC 17 [0,1,2] Tryz.func90 ?_;unfold fA;refine dG ?_;refine iG fun r1 h1=> ?_;intros
 refine iX ?_;refine nM ?_;refine US ?_;refine uX ?_;refine nM ?_;refine qR ?_;refine UR ?_;refine kM ?_;exact aD aE ⟨by rfl,rfl⟩ aA
theorem nK(m:Md)(hw:m.WO)(hz:m.Z):SCall Tryz.prog 28 [.agg (aS m)] [] (fun y σ=>y=.tup [.int .i64 (gY m),.bool (gY m==-1)]∧σ=[]):=by
 have hl:m.im.length≤1000000∧m.fn.length≤1000000:=⟨hz.im,hz.fn⟩
 have hzx:=hz.ex;have hzc:=hz.co.1;have hF:=fun(h:mT m=true) k=>rF m (aDo (KI h).1 hw).1 k
 refine cC 96 [0,1,2,3,4,5,6,7,8,9,13,14,15,16,36,40,45,50,54,58,60,77,78,79,84,95] Tryz.func28 ?_;refine dG ?_;refine iG fun r1 h1=> ?_;intros
 refine jK ?_;refine jH ?_;refine ZM ?_;refine jZ fun r4 h4=> ?_;intros
 refine nY ?_;refine dG ?_;refine ZM ?_;refine jZ fun r5 h5=> ?_;intros
 refine nY ?_;refine sR ?_;refine nL ?_;refine QO ?_;refine lp (β:=Nat) (fun j=>⟨[(1,.ptr r1 0),(2,.int .i64 0),(3,.bool false),(4,.ptr r4 0),(5,.ptr r5 0),(6,.bool (twN (UF m) m.ex j)),(13,.ro 2 (m.ex.map dH) .any),(14,.int .i64 m.ex.length),(15,.int .i64 j)],[(r5,.box 83 [.fn (.func 84) [] [.ptr r1 0]]),(r4,.box 83 [.fn (.func 83) [] [.ptr r1 0]]),(r1,.box 33 (aS m))]⟩) (fun j=>j≤m.ex.length) (fun j=>m.ex.length-j) 0 aJ (Nat.zero_le _) ?_;rintro j hj;refine jL ?_;refine aB rfl (fun g5=> ?_) (fun g5=> ?_)
 ·have hlt:j<m.ex.length:=by simpa using g5
  obtain⟨x,hx⟩:∃x,m.ex[j]? =some x:=⟨_,List.getElem?_eq_getElem hlt⟩
  have hnx:=TI (nf:=UF m) hx;refine dO ?_;refine qQ ?_;refine jZ fun r8 h8=> ?_;intros
  refine JS ?_;rcases aMy (twN (UF m) m.ex j) (UF m x.fn)with hT|⟨hT,hB⟩|⟨hT,hB⟩
  ·rw[hT];refine kL ?_;first|refine ln rfl rfl rfl rfl ?_ |(refine gy rfl rfl ?_;(first|refine lo (aL (E rfl) rfl aO (fun _=>rfl)) rfl ?_ |refine lo (aL (E rfl) rfl aO (fun _=>by assumption)) rfl ?_ |refine lo (aN (E rfl) rfl (fun hc=>by first|rfl|exact aG (by assumption)|assumption|exact aG (aQ (by omega))) (fun _=>rfl)) rfl ?_))|refine lg rfl rfl (aL (E rfl) rfl aO (fun _=>rfl)) rfl ?_ |refine lg rfl rfl (aL (E rfl) rfl aO (fun _=>by assumption)) rfl ?_ |refine lg rfl rfl (aN (E rfl) rfl (fun hc=>by first|rfl|exact aG (by assumption)|assumption|exact aG (aQ (by(try simp at hc)<;>omega))) (fun _=>rfl)) rfl ?_
   refine qR ?_;refine ln rfl rfl rfl rfl ?_;refine nX ?_;refine pL ?_;first|refine ln rfl rfl rfl rfl ?_ |(refine gy rfl rfl ?_;(first|refine lo (fQ (by first|exact W rfl id|exact E rfl) OB.none (OB.some (by first|exact W rfl id|exact E rfl) (fun _=>by first|rfl|exact(Int.toNat_of_nonneg (by omega)).symm)) (fun _=>by first|(simp only[List.length_map];omega)|omega)) rfl ?_ |refine lo (fR (by first|exact W rfl id|exact E rfl) aO OB.none (OB.some (by first|exact W rfl id|exact E rfl) (fun _=>by first|rfl|exact(Int.toNat_of_nonneg (by omega)).symm)) (fun _=>by first|(simp only[List.length_map];omega)|omega)) rfl ?_))|refine lg rfl rfl (fQ (by first|exact W rfl id|exact E rfl) OB.none (OB.some (by first|exact W rfl id|exact E rfl) (fun _=>by first|rfl|exact(Int.toNat_of_nonneg (by omega)).symm)) (fun _=>by first|(simp only[List.length_map];omega)|omega)) rfl ?_ |refine lg rfl rfl (fR (by first|exact W rfl id|exact E rfl) aO OB.none (OB.some (by first|exact W rfl id|exact E rfl) (fun _=>by first|rfl|exact(Int.toNat_of_nonneg (by omega)).symm)) (fun _=>by first|(simp only[List.length_map];omega)|omega)) rfl ?_
   refine aBv ?_;refine nX ?_;refine jC ?_;refine UX ?_;refine⟨j+1,by show j+1≤m.ex.length;omega,by show m.ex.length-(j+1)<m.ex.length-j;omega, ?_⟩;rw[hnx,hT];exact aJ
  ·rw[hT];refine kL ?_;first|refine ln rfl rfl rfl rfl ?_ |(refine gy rfl rfl ?_;(first|refine lo (aL (E rfl) rfl aO (fun _=>rfl)) rfl ?_ |refine lo (aL (E rfl) rfl aO (fun _=>by assumption)) rfl ?_ |refine lo (aN (E rfl) rfl (fun hc=>by first|rfl|exact aG (by assumption)|assumption|exact aG (aQ (by omega))) (fun _=>rfl)) rfl ?_))|refine lg rfl rfl (aL (E rfl) rfl aO (fun _=>rfl)) rfl ?_ |refine lg rfl rfl (aL (E rfl) rfl aO (fun _=>by assumption)) rfl ?_ |refine lg rfl rfl (aN (E rfl) rfl (fun hc=>by first|rfl|exact aG (by assumption)|assumption|exact aG (aQ (by(try simp at hc)<;>omega))) (fun _=>rfl)) rfl ?_
   refine qR ?_;refine gy rfl rfl ?_;refine qE [(r1,.box 33 (aS m))] rfl (HM m hl r1).1 ((HM m hl r1).2 x.fn True.intro) rfl aC aA ?_;rintro _ σ' ⟨rfl,rfl⟩ h25;apply aZ;exact bN;rw[hB];refine nX ?_;refine pL ?_;first|refine ln rfl rfl rfl rfl ?_ |(refine gy rfl rfl ?_;(first|refine lo (fQ (by first|exact W rfl id|exact E rfl) OB.none (OB.some (by first|exact W rfl id|exact E rfl) (fun _=>by first|rfl|exact(Int.toNat_of_nonneg (by omega)).symm)) (fun _=>by first|(simp only[List.length_map];omega)|omega)) rfl ?_ |refine lo (fR (by first|exact W rfl id|exact E rfl) aO OB.none (OB.some (by first|exact W rfl id|exact E rfl) (fun _=>by first|rfl|exact(Int.toNat_of_nonneg (by omega)).symm)) (fun _=>by first|(simp only[List.length_map];omega)|omega)) rfl ?_))|refine lg rfl rfl (fQ (by first|exact W rfl id|exact E rfl) OB.none (OB.some (by first|exact W rfl id|exact E rfl) (fun _=>by first|rfl|exact(Int.toNat_of_nonneg (by omega)).symm)) (fun _=>by first|(simp only[List.length_map];omega)|omega)) rfl ?_ |refine lg rfl rfl (fR (by first|exact W rfl id|exact E rfl) aO OB.none (OB.some (by first|exact W rfl id|exact E rfl) (fun _=>by first|rfl|exact(Int.toNat_of_nonneg (by omega)).symm)) (fun _=>by first|(simp only[List.length_map];omega)|omega)) rfl ?_
   refine aBv ?_;refine nX ?_;refine jC ?_;refine UX ?_;refine⟨j+1,by show j+1≤m.ex.length;omega,by show m.ex.length-(j+1)<m.ex.length-j;omega, ?_⟩;rw[hnx,hT,hB];exact aJ
  ·rw[hT];refine kL ?_;first|refine ln rfl rfl rfl rfl ?_ |(refine gy rfl rfl ?_;(first|refine lo (aL (E rfl) rfl aO (fun _=>rfl)) rfl ?_ |refine lo (aL (E rfl) rfl aO (fun _=>by assumption)) rfl ?_ |refine lo (aN (E rfl) rfl (fun hc=>by first|rfl|exact aG (by assumption)|assumption|exact aG (aQ (by omega))) (fun _=>rfl)) rfl ?_))|refine lg rfl rfl (aL (E rfl) rfl aO (fun _=>rfl)) rfl ?_ |refine lg rfl rfl (aL (E rfl) rfl aO (fun _=>by assumption)) rfl ?_ |refine lg rfl rfl (aN (E rfl) rfl (fun hc=>by first|rfl|exact aG (by assumption)|assumption|exact aG (aQ (by(try simp at hc)<;>omega))) (fun _=>rfl)) rfl ?_
   refine qR ?_;refine gy rfl rfl ?_;refine qE [(r1,.box 33 (aS m))] rfl (HM m hl r1).1 ((HM m hl r1).2 x.fn True.intro) rfl aC aA ?_;rintro _ σ' ⟨rfl,rfl⟩ h25;apply aZ;exact bN;rw[hB];refine nX ?_;refine pL ?_;first|refine ln rfl rfl rfl rfl ?_ |(refine gy rfl rfl ?_;(first|refine lo (fQ (by first|exact W rfl id|exact E rfl) OB.none (OB.some (by first|exact W rfl id|exact E rfl) (fun _=>by first|rfl|exact(Int.toNat_of_nonneg (by omega)).symm)) (fun _=>by first|(simp only[List.length_map];omega)|omega)) rfl ?_ |refine lo (fR (by first|exact W rfl id|exact E rfl) aO OB.none (OB.some (by first|exact W rfl id|exact E rfl) (fun _=>by first|rfl|exact(Int.toNat_of_nonneg (by omega)).symm)) (fun _=>by first|(simp only[List.length_map];omega)|omega)) rfl ?_))|refine lg rfl rfl (fQ (by first|exact W rfl id|exact E rfl) OB.none (OB.some (by first|exact W rfl id|exact E rfl) (fun _=>by first|rfl|exact(Int.toNat_of_nonneg (by omega)).symm)) (fun _=>by first|(simp only[List.length_map];omega)|omega)) rfl ?_ |refine lg rfl rfl (fR (by first|exact W rfl id|exact E rfl) aO OB.none (OB.some (by first|exact W rfl id|exact E rfl) (fun _=>by first|rfl|exact(Int.toNat_of_nonneg (by omega)).symm)) (fun _=>by first|(simp only[List.length_map];omega)|omega)) rfl ?_
   rw[show List.take (j-0) (List.drop 0 (m.ex.map dH))=(m.ex.take j).map dH by simp[List.map_take]];refine aGz ?_;refine HX [(r8,.box 66 (dH x))] Tryz.call85 (aCj (aLk x r8) (m.ex.take j) (fun _ _=>True.intro)) ?_;refine nX ?_;refine jC ?_;refine UX ?_;refine⟨j+1,by show j+1≤m.ex.length;omega,by show m.ex.length-(j+1)<m.ex.length-j;omega, ?_⟩;rw[hnx,hT,hB,Bool.false_or,Bool.false_or];exact aJ
 obtain rfl:j=m.ex.length:=by simp at g5;omega
 refine pM ?_;refine lS Tryz.call51 (BB m hw) rfl aU bC ?_;refine lo (eJ (E rfl)) rfl ?_;refine cZ ?_;refine aB rfl (fun g9=> ?_) (fun g9=> ?_)
 ·refine aI ?_;have hE:gY m=0:=by unfold gY;rw[if_pos (by simpa using g9)]
  refine uH ?_;exact aD aE ⟨by rw[hE];rfl,rfl⟩ aA
 refine aI ?_;have h0:¬mT m=false:=by simpa using g9
 refine nE ?_;refine ZM ?_;refine cw [(r4,.box 83 [.fn (.func 83) [] [.ptr r1 0]]),(r1,.box 33 (aS m))] Tryz.call87 (aCi (aLl m r1 r4 h4) m.im (fun _ _=>True.intro)) rfl aC aA ?_;rintro _ σ' ⟨rfl,rfl⟩ h44;refine eR ?_;refine aB rfl (fun g11=> ?_) (fun g11=> ?_)
 ·refine aI ?_;have hE:gY m=2:=by unfold gY;rw[if_neg h0,if_pos g11]
  refine uH ?_;exact aD aE ⟨by rw[hE];rfl,rfl⟩ aA
 refine fE ?_;refine rN ?_;refine cw [(r1,.box 33 (aS m))] Tryz.call89 (MU (WU m r1) m.fn (fun _ _=>True.intro)) rfl aC aA ?_;rintro _ σ' ⟨rfl,rfl⟩ h49;refine eR ?_;refine aB rfl (fun g13=> ?_) (fun g13=> ?_)
 ·refine aI ?_;have hE:gY m=3:=by unfold gY;rw[if_neg h0,if_neg (by simp[g11]),if_pos g13]
  refine uH ?_;exact aD aE ⟨by rw[hE];rfl,rfl⟩ aA
 refine dG ?_;refine oI ?_;refine mP ?_;refine lS Tryz.call90 (DR m.tb) rfl aU bC ?_;refine cZ ?_;refine aB rfl (fun g15=> ?_) (fun g15=> ?_)
 ·refine aI ?_;have hE:gY m=4:=by unfold gY;rw[if_neg h0,if_neg (by simp[g11]),if_neg (by simp[g13]),if_pos g15]
  refine uH ?_;exact aD aE ⟨by rw[hE];rfl,rfl⟩ aA
 refine dG ?_;refine oI ?_;refine mP ?_;refine lS Tryz.call90 (DR m.me) rfl aU bC ?_;refine cZ ?_;refine aB rfl (fun g17=> ?_) (fun g17=> ?_)
 ·refine aI ?_;have hE:gY m=5:=by unfold gY;rw[if_neg h0,if_neg (by simp[g11]),if_neg (by simp[g13]),if_neg (by simp[g15]),if_pos g17]
  refine uH ?_;exact aD aE ⟨by rw[hE];rfl,rfl⟩ aA
 refine fF ?_;refine aB rfl (fun g19=> ?_) (fun g19=> ?_)
 ·refine aI ?_;have hE:gY m=7:=by unfold gY;rw[if_neg h0,if_neg (by simp[g11]),if_neg (by simp[g13]),if_neg (by simp[g15]),if_neg (by simp[g17]),if_pos g19]
  refine uH ?_;exact aD aE ⟨by rw[hE];rfl,rfl⟩ aA
 refine fE ?_;refine pH ?_;refine lo (jM (E rfl) (E rfl)) rfl ?_;refine xS ?_;refine FR ?_;refine ZQ ?_;apply fD rfl;exact cT
 ·intro _;(refine aI ?_);refine nE ?_;refine ZM ?_;refine cw [(r5,.box 83 [.fn (.func 84) [] [.ptr r1 0]]),(r1,.box 33 (aS m))] Tryz.call91 (aCk (aLm m hl r1 r5 h5) m.el (fun _ _=>True.intro)) rfl aC aA ?_;rintro _ σ' ⟨rfl,rfl⟩ h74;refine eR ?_;exact aJ
 refine aI ?_;refine aB rfl (fun g21=> ?_) (fun g21=> ?_)
 ·refine aI ?_;have h9:m.el.any (IZ m)=true:=by rw[←aDr];exact g21
  have hE:gY m=9:=by unfold gY;rw[if_neg h0,if_neg (by simp[g11]),if_neg (by simp[g13]),if_neg (by simp[g15]),if_neg (by simp[g17]),if_neg (by simp[g19]),if_pos h9]
  refine uH ?_;exact aD aE ⟨by rw[hE];rfl,rfl⟩ aA
 refine aI ?_;have h9:m.el.any (IZ m)=false:=by rw[←aDr];exact g21
 have hV:gY m=if sC m m.co.length=false then 10 else if(!m.da.isEmpty&& !m.me.has)=true then 11 else-1:=by unfold gY;rw[if_neg h0,if_neg (by simp[g11]),if_neg (by simp[g13]),if_neg (by simp[g15]),if_neg (by simp[g17]),if_neg (by simp[g19]),if_neg (by simp[h9])]
 refine jH ?_;refine nL ?_;refine QO ?_;refine lp (β:=Nat) (fun j=>⟨[(1,.ptr r1 0),(2,.int .i64 0),(3,.bool false),(77,.int .i64 m.co.length),(78,.int .i64 j)],[(r1,.box 33 (aS m))]⟩) (fun j=>j≤m.co.length∧sC m j=true) (fun j=>m.co.length-j) 0 aJ ⟨Nat.zero_le _,rfl⟩ ?_;rintro j ⟨hj,hc⟩;refine jL ?_;refine aB rfl (fun g25=> ?_) (fun g25=> ?_)
 ·have hlt:j<m.co.length:=by simpa using g25
  refine dO ?_;refine jC ?_;refine DX ?_;refine lS Tryz.call23 (hF (by simpa using h0) j) rfl aU bC ?_;refine nZ ?_;refine aB rfl (fun g27=> ?_) (fun g27=> ?_)
  ·refine aI ?_;have hE:gY m=10:=by rw[hV,if_pos (BZ hlt (by simpa using g27))]
   refine uH ?_;exact aD aE ⟨by rw[hE];rfl,rfl⟩ aA
  refine lZ ?_;refine⟨j+1,⟨by omega,by unfold sC;rw[hc];simpa using g27⟩,by show m.co.length-(j+1)<m.co.length-j;omega, ?_⟩;exact aJ
 obtain rfl:j=m.co.length:=by simp at g25;omega
 refine fE ?_;refine pH ?_;refine lo (jM (E rfl) (E rfl)) rfl ?_;refine xS ?_;refine FR ?_;refine aBw ?_;refine aB rfl (fun g30=> ?_) (fun g30=> ?_)
 ·refine aI ?_;have hE:gY m=11:=by rw[hV,if_neg (by simp[hc]),if_pos (by rw[←NR];exact g30)]
  refine uH ?_;exact aD aE ⟨by rw[hE];rfl,rfl⟩ aA
 refine aI ?_;have hE:gY m=-1:=by rw[hV,if_neg (by simp[hc]),if_neg (by rw[←NR,g30];simp)]
 refine uH ?_;exact aD aE ⟨by rw[hE];rfl,rfl⟩ aA
theorem tF{α:Type}{l:List α}{p:α→Bool}{j:Nat}{x:α}(hx:l[j]? =some x):(l.take (j+1)).any p=((l.take j).any p||p x):=by
 rw[List.take_add_one,hx,List.any_append];simp
theorem zN{α:Type}{l:List α}{p:α→Bool}{j:Nat}{x:α}(hx:l[j]? =some x)(h:p x=true):l.any p=true:=List.any_eq_true.2 ⟨x,List.mem_of_getElem? hx,h⟩
theorem TJ(a b:List Nat):nmQ a b=nmQ b a:=by unfold nmQ;exact Bool.beq_comm
def tyL (m:Md) (t:Int):FT:=m.ty.getD t.toNat sF
def imL (m:Md) (j:Nat):List FT:=(m.im.take j).map fun x=>tyL m x.ty
def fnL (m:Md) (j:Nat):List FT:=imL m m.im.length++(m.fn.take j).map (tyL m)
def UG (m:Md):Bool:= !(m.im.any fun x=>NQ m x.ty)&& !(m.fn.any (NQ m))
def aAV (m:Md):AV:=if UG m then .ro 2 ((fnL m m.fn.length).map cP) .any else .ro 0 [] .nil
def NS (m:Md):List FT:=if UG m then fnL m m.fn.length else []
theorem aDs{m:Md}{j:Nat}{x:Im}(hx:m.im[j]? =some x):imL m (j+1)=imL m j++ [tyL m x.ty]:=by
 unfold imL;rw[List.take_add_one,hx,List.map_append];rfl
theorem aDt{m:Md}{j:Nat}{t:Int}(hx:m.fn[j]? =some t):fnL m (j+1)=fnL m j++ [tyL m t]:=by
 unfold fnL;rw[List.take_add_one,hx,List.map_append,List.append_assoc];rfl
theorem aF5(m:Md)(j:Nat)(h:j≤m.im.length):(imL m j).length=j:=by simp[imL];omega
theorem ZC(m:Md)(j:Nat)(h:j≤m.fn.length):(fnL m j).length=m.im.length+j:=by simp[fnL,imL];omega
theorem aDu(m:Md):fnL m 0=imL m m.im.length:=by simp[fnL]
structure Md.Nn (m:Md):Prop where
 im:∀x∈m.im,0≤x.ty
 fn:∀t∈m.fn,0≤t
theorem aF6{m:Md}(h:mT m=true):m.Nn:=by
 have hm:=(KI h).1;unfold qZ at hm;simp only[Bool.and_eq_true]at hm;obtain⟨⟨⟨-,hls⟩,-⟩,-⟩:=hm;unfold pE at hls;simp only[Bool.and_eq_true]at hls;obtain⟨⟨⟨⟨⟨⟨-,him⟩,hfn⟩,-⟩,-⟩,-⟩,-⟩:=hls;have h0:∀n,iB n=true→0≤n:=fun n hn=>by
  unfold iB at hn;by_cases h:0≤n
  ·exact h
  ·rw[if_neg (by simpa using h)]at hn;cases hn
 refine⟨fun x hx=> ?_,fun t ht=>h0 t ((cA hfn).2 t ht)⟩;have:=(cA him).2 x hx;simp only[Bool.and_eq_true]at this;exact h0 _ this.2
theorem aDv{m:Md}{t:Int}(h:NQ m t=false)(h0:0≤t):m.ty[t.toNat]? =some (tyL m t):=by
 have:t.toNat<m.ty.length:=by unfold NQ at h;simp only[decide_eq_false_iff_not]at h;omega
 unfold tyL;rw[List.getD_eq_getElem?_getD,List.getElem?_eq_getElem this];rfl
theorem aAW(m:Md)(hz:m.Z)(hn:m.Nn):SCall Tryz.prog 93 [.agg (aS m)] [] (fun y σ=>y=.tup [aAV m,.bool (UG m)]∧σ=[]):=by
 have hi:=hz.im;have hf:=hz.fn;obtain⟨n1,n2⟩:=hn;refine cC 66 [0,1,2,3,4,5,6,11,23,41,52] Tryz.func93 ?_;refine dG ?_;refine iG fun r1 h1=> ?_;intros
 refine jK ?_;refine kO ?_;refine bX 4 50 2 (by decide) rfl (by decide) (bI fun q0 hq0=> ?_);repeat rcases hq0 with⟨_,hq0⟩
 refine kO ?_;refine lp (β:=Nat×Nat) (fun b=>⟨[(1,.ptr r1 0),(4,.own b.2 0 (imL m b.1).length),(5,.int .i64 b.1)],[(b.2,.arr 50 2 ((imL m b.1).map cP)),(r1,.box 33 (aS m))]⟩) (fun b=>b.1≤m.im.length∧((m.im.take b.1).any fun x=>NQ m x.ty)=false∧Nq b.2 r1) (fun b=>m.im.length-b.1) (0,q0) aJ ⟨Nat.zero_le _,rfl,by show Nq q0 r1;(exact bA)⟩ ?_;rintro⟨j,q⟩ ⟨hj,ha,hq⟩;dsimp only at hj ha hq⊢;refine pC ?_;refine aB rfl (fun g3=> ?_) (fun g3=> ?_)
 ·have hlt:j<m.im.length:=by simpa using g3
  obtain⟨x,hx⟩:∃x,m.im[j]? =some x:=⟨_,List.getElem?_eq_getElem hlt⟩
  have hx0:=n1 x (List.mem_of_getElem? hx);have hnx:=aDs hx;have hlen:=aF5 m j hj;refine aI ?_;refine fK [(0,true),(1,true),(2,true),(3,true),(4,true),(5,true),(6,true),(7,true),(8,true),(9,true)] ?_;refine lN ?_;refine fZ ?_;refine QQ ?_;refine kF ?_;refine aB rfl (fun g5=> ?_) (fun g5=> ?_)
  ·refine aI ?_;have hE:UG m=false:=by unfold UG;rw[zN (p:=fun x:Im=>NQ m x.ty) hx g5];rfl
   refine uH ?_;exact aD aE ⟨by unfold aAV;rw[hE];rfl,rfl⟩ aA
  refine aI ?_;have hty:=aDv g5 hx0;have hty2:0≤x.ty∧x.ty<(m.ty.length:Int):=⟨hx0,by simpa using g5⟩
  refine fK [(0,true),(1,true),(2,true),(3,true),(4,true),(5,true),(6,true),(7,true),(8,true),(9,true),(10,true),(11,false),(12,false),(13,true)] ?_;refine DW ?_;refine lN ?_;refine HY ?_;refine xR ?_;refine CA fun r35 h35=> ?_;intros
  refine eX rfl ((imL m j++ [tyL m x.ty]).map cP) (imL m j++ [tyL m x.ty]).length ?_;refine bL fun r36 h36=> ?_;intros
  refine pK ?_;refine⟨(j+1,r36),⟨hlt,by rw[tF hx,ha];exact g5,by show Nq r36 r1;(exact bA)⟩,by show m.im.length-(j+1)<m.im.length-j;omega, ?_⟩;dsimp only;rw[hnx];exact aJ
 obtain rfl:j=m.im.length:=by simp at g3;omega
 rw[List.take_length]at ha;rw[←aDu];refine bP ?_;refine lp (β:=Nat×Nat) (fun b=>⟨[(1,.ptr r1 0),(4,.own b.2 0 (fnL m b.1).length),(6,.int .i64 b.1)],[(b.2,.arr 50 2 ((fnL m b.1).map cP)),(r1,.box 33 (aS m))]⟩) (fun b=>b.1≤m.fn.length∧((m.fn.take b.1).any (NQ m))=false∧Nq b.2 r1) (fun b=>m.fn.length-b.1) (0,q) aJ ⟨Nat.zero_le _,rfl,hq⟩ ?_;rintro⟨j,p⟩ ⟨hj2,hb,hp⟩;dsimp only at hj2 hb hp⊢;refine pC ?_;refine aB rfl (fun g9=> ?_) (fun g9=> ?_)
 ·have hlt:j<m.fn.length:=by simpa using g9
  obtain⟨t,ht⟩:∃t,m.fn[j]? =some t:=⟨_,List.getElem?_eq_getElem hlt⟩
  have ht0:=n2 t (List.mem_of_getElem? ht);have hnx:=aDt ht;have hlen:=ZC m j hj2;refine aI ?_;refine fK [(0,true),(1,true),(2,true),(3,true),(4,true),(5,true),(6,true),(7,true),(8,true)] ?_;refine ZP ?_;refine JP ?_;refine fZ ?_;refine QQ ?_;refine kF ?_;refine aB rfl (fun g11=> ?_) (fun g11=> ?_)
  ·refine aI ?_;have hE:UG m=false:=by unfold UG;rw[zN (p:=NQ m) ht g11];simp
   refine uH ?_;exact aD aE ⟨by unfold aAV;rw[hE];rfl,rfl⟩ aA
  refine aI ?_;have hty:=aDv g11 ht0;have hty2:0≤t∧t<(m.ty.length:Int):=⟨ht0,by simpa using g11⟩
  refine fK [(0,true),(1,true),(2,true),(3,true),(4,true),(5,true),(6,true),(7,true),(8,true),(9,true),(10,false),(11,false),(12,true)] ?_;refine DW ?_;refine ZP ?_;refine JP ?_;refine HY ?_;refine xR ?_;refine CA fun r63 h63=> ?_;intros
  refine eX rfl ((fnL m j++ [tyL m t]).map cP) (fnL m j++ [tyL m t]).length ?_;refine bL fun r64 h64=> ?_;intros
  refine pK ?_;refine⟨(j+1,r64),⟨hlt,by rw[tF ht,hb];exact g11,by show Nq r64 r1;(exact bA)⟩,by show m.fn.length-(j+1)<m.fn.length-j;omega, ?_⟩;dsimp only;rw[hnx];exact aJ
 obtain rfl:j=m.fn.length:=by simp at g9;omega
 rw[List.take_length]at hb;have hE:UG m=true:=by unfold UG;rw[ha,hb];rfl
 refine aAc (j:=4) rfl bH (aM aO (by simp)) ?_;refine dO ?_;refine jK ?_;exact aD aE ⟨by unfold aAV;rw[hE];rfl,rfl⟩ aA
theorem NT(l:Li):(if(if l.has=true then decide (0≤l.mx)else false)=true then decide (l.mx<l.mn)else false)=WT l:=by rw[jQ,jQ];rfl
theorem aF7{m:Md}(h:UG m=true):((NS m).length:Int)=(m.im.length:Int)+(m.fn.length:Int):=by
 unfold NS;rw[if_pos h,ZC m _ (Nat.le_refl _)];omega
theorem aJf{m:Md}{f:Int}(h:UG m=true):decide (((NS m).length:Int)≤f)=UF m f:=by rw[aF7 h];rfl
theorem aAX{m:Md}(h:(m.im.any fun x=>NQ m x.ty)=false)(h2:UG m=false):m.fn.any (NQ m)=true:=by
 unfold UG at h2;rw[h]at h2;simpa using h2
theorem aDw{m:Md}(h2:UG m=true):m.fn.any (NQ m)=false:=by
 unfold UG at h2;simp only[Bool.and_eq_true,Bool.not_eq_true']at h2;exact h2.2
structure Vp (m:Md):Prop where
 a:¬mT m=false
 b:¬(m.im.any fun x=>NQ m x.ty)=true
 c:¬m.fn.any (NQ m)=true
theorem Vp.to {m:Md}(h:Vp m)(h1:WT m.tb=false)(h2:WT m.me=false):gY m=if twN (UF m) m.ex m.ex.length=true then 7
 else if m.el.any (IZ m)=true then 9 else if sC m m.co.length=false then 10 else if(!m.da.isEmpty&& !m.me.has)=true then 11 else-1:=by
 unfold gY;rw[if_neg h.a,if_neg h.b,if_neg h.c,if_neg (by simp[h1]),if_neg (by simp[h2])]
theorem HN(m:Md)(hw:m.WO)(hz:m.Z):SCall Tryz.prog 29 [.agg (aS m)] [] (fun y σ=>y=.int .i64 (gY m)∧σ=[]):=by
 have hzi:=hz.im;have hzx:=hz.ex;have hzc:=hz.co.1;have hze:=hz.el.1;have hF:=fun(h:mT m=true) k=>aDm m (aDo (KI h).1 hw).2 k
 have hT:=fun(h:mT m=true)=>aAW m hz (aF6 h)
 have hC:=fun(h:mT m=true)=>aI6 (KI h).1
 refine cC 163 [0,1,2,3,4,5,6,7,8,9,10,13,18,30,37,55,73,78,89,92,107,112,123,137,141,146,152,162] Tryz.func29 ?_;refine dG ?_;refine iG fun r1 h1=> ?_;intros
 refine jC ?_;refine mP ?_;refine lS Tryz.call19 (aFu m hw hz) rfl aU bC ?_;refine nZ ?_;refine aB rfl (fun g1=> ?_) (fun g1=> ?_)
 ·refine aI ?_;have hE:gY m=0:=by unfold gY;rw[if_pos (by simpa using g1)]
  refine kO ?_;exact aD aE ⟨by rw[hE];rfl,rfl⟩ aA
 refine aI ?_;have h0:¬mT m=false:=by simpa using g1
 have hm:mT m=true:=by simpa using h0
 clear g1;refine kO ?_;refine lp (β:=Nat) (fun j=>⟨[(1,.ptr r1 0),(3,.int .i64 j)],[(r1,.box 33 (aS m))]⟩) (fun j=>j≤m.im.length∧((m.im.take j).any fun x=>NQ m x.ty)=false) (fun j=>m.im.length-j) 0 aJ ⟨Nat.zero_le _,rfl⟩ ?_;rintro j ⟨hj,ha⟩;refine pC ?_;refine aB rfl (fun g4=> ?_) (fun g4=> ?_)
 ·have hlt:j<m.im.length:=by simpa using g4
  obtain⟨x,hx⟩:∃x,m.im[j]? =some x:=⟨_,List.getElem?_eq_getElem hlt⟩
  refine aI ?_;refine fK [(0,true),(1,true),(2,true),(3,true),(4,true),(5,true),(6,true),(7,true),(8,true),(9,true)] ?_;refine lN ?_;refine fZ ?_;refine QQ ?_;refine kF ?_;refine aB rfl (fun g6=> ?_) (fun g6=> ?_)
  ·refine aI ?_;have hE:gY m=2:=by unfold gY;rw[if_neg h0,if_pos (zN (p:=fun x:Im=>NQ m x.ty) hx g6)]
   refine kO ?_;exact aD aE ⟨by rw[hE];rfl,rfl⟩ aA
  refine lI ?_;refine⟨j+1,⟨hlt,by rw[tF hx,ha];exact g6⟩,by show m.im.length-(j+1)<m.im.length-j;omega, ?_⟩;exact aJ
 obtain rfl:j=m.im.length:=by simp at g4;omega
 rw[List.take_length]at ha;refine pM ?_;refine cw [] Tryz.call93 (hT hm) rfl aC aA ?_;rintro _ σ' ⟨rfl,rfl⟩ h33;refine yG ?_;refine mK ?_;refine nZ ?_;refine aB rfl (fun g9=> ?_) (fun g9=> ?_)
 ·refine aI ?_;have hE:gY m=3:=by unfold gY;rw[if_neg h0,if_neg (by simp[ha]),if_pos (aAX ha (by simpa using g9))]
  refine kO ?_;exact aD aE ⟨by rw[hE];rfl,rfl⟩ aA
 refine aI ?_;have hok:UG m=true:=by simpa using g9
 have htv:aAV m=.ro 2 ((NS m).map cP) .any:=by unfold aAV NS;rw[if_pos hok,if_pos hok]
 rw[htv];have hV:Vp m:=⟨h0,by simp[ha],by simp[aDw hok]⟩
 have hnF:=fun f=>aJf (f:=f) hok
 clear g9;refine jH ?_;refine oI ?_;refine oO ?_;refine xS ?_;refine FR ?_;refine US ?_;refine uX ?_;refine xS ?_;refine FR ?_;refine ZL ?_;refine FR ?_;refine UR ?_;refine vB ?_;refine aB rfl (fun g11=> ?_) (fun g11=> ?_)
 ·refine aI ?_;rw[NT]at g11;have hE:gY m=4:=by unfold gY;rw[if_neg hV.a,if_neg hV.b,if_neg hV.c,if_pos g11]
  refine kO ?_;exact aD aE ⟨by rw[hE];rfl,rfl⟩ aA
 refine aI ?_;rw[NT]at g11;refine jH ?_;refine oI ?_;refine oO ?_;refine xS ?_;refine FR ?_;refine US ?_;refine uX ?_;refine xS ?_;refine FR ?_;refine ZL ?_;refine FR ?_;refine UR ?_;refine vB ?_;refine aB rfl (fun g13=> ?_) (fun g13=> ?_)
 ·refine aI ?_;rw[NT]at g13;have hE:gY m=5:=by unfold gY;rw[if_neg hV.a,if_neg hV.b,if_neg hV.c,if_neg (by simp[g11]),if_pos g13]
  refine kO ?_;exact aD aE ⟨by rw[hE];rfl,rfl⟩ aA
 refine aI ?_;rw[NT]at g13;have hV2:=hV.to g11 g13;refine kO ?_;refine lp (β:=Nat) (fun j=>⟨[(1,.ptr r1 0),(4,.ro 2 ((NS m).map cP) .any),(6,.int .i64 j)],[(r1,.box 33 (aS m))]⟩) (fun j=>j≤m.ex.length∧twN (UF m) m.ex j=false) (fun j=>m.ex.length-j) 0 aJ ⟨Nat.zero_le _,rfl⟩ ?_;rintro j ⟨hj,hb⟩;refine pC ?_;refine aB rfl (fun g16=> ?_) (fun g16=> ?_)
 ·have hlt:j<m.ex.length:=by simpa using g16
  obtain⟨x,hx⟩:∃x,m.ex[j]? =some x:=⟨_,List.getElem?_eq_getElem hlt⟩
  have hnx:=TI (nf:=UF m) hx;have hup:∀b,(UF m x.fn||(m.ex.take j).any fun y=>nmQ x.nm y.nm)=b→aDq (UF m) (m.ex.take j) (m.ex.getD j ⟨[],0⟩)=b:=by intro b h;rw[List.getD_eq_getElem?_getD,hx];exact h
  refine fE ?_;refine sO ?_;refine DY ?_;refine FQ ?_;refine aB rfl (fun g18=> ?_) (fun g18=> ?_)
  ·refine aI ?_;rw[hnF]at g18;have hE:gY m=7:=by rw[hV2,if_pos (TH hlt (hup true (by rw[g18];rfl)))]
   refine kO ?_;exact aD aE ⟨by rw[hE];rfl,rfl⟩ aA
  refine aI ?_;rw[hnF]at g18;refine kO ?_;refine lp (β:=Nat) (fun k=>⟨[(1,.ptr r1 0),(4,.ro 2 ((NS m).map cP) .any),(6,.int .i64 j),(7,.int .i64 k)],[(r1,.box 33 (aS m))]⟩) (fun k=>k≤j∧((m.ex.take k).any fun y=>nmQ x.nm y.nm)=false) (fun k=>j-k) 0 aJ ⟨Nat.zero_le _,rfl⟩ ?_;rintro k ⟨hk,hc⟩;refine dF ?_;refine oP ?_;refine aB rfl (fun g21=> ?_) (fun g21=> ?_)
  ·have hklt:k<j:=by simpa using g21
   obtain⟨y,hy⟩:∃y,m.ex[k]? =some y:=⟨_,List.getElem?_eq_getElem (by omega)⟩
   refine aI ?_;refine fK [(0,true),(1,true),(2,true),(3,true),(4,true),(5,true),(6,true),(7,true),(8,true),(9,true),(10,true),(11,true),(12,true)] ?_;refine lN ?_;refine lN ?_;refine fY rfl (vU (E rfl) (E rfl)) rfl ?_;refine kF ?_;refine aB rfl (fun g23=> ?_) (fun g23=> ?_)
   ·refine aI ?_;have hE:gY m=7:=by rw[hV2,if_pos (TH hlt (hup true (by rw[zN (j:=k) (x:=y) (p:=fun y=>nmQ x.nm y.nm) (by rw[List.getElem?_take_of_lt hklt];exact hy) (by rw[TJ];exact g23)];simp)))]
    refine kO ?_;exact aD aE ⟨by rw[hE];rfl,rfl⟩ aA
   refine lI ?_;refine⟨k+1,⟨hklt,by rw[tF hy,hc,TJ];exact g23⟩,by show j-(k+1)<j-k;omega, ?_⟩;exact aJ
  obtain rfl:k=j:=by simp at g21;omega
  refine lI ?_;refine⟨k+1,⟨hlt,by rw[hnx,hb,g18,hc];rfl⟩,by show m.ex.length-(k+1)<m.ex.length-k;omega, ?_⟩;exact aJ
 obtain rfl:j=m.ex.length:=by simp at g16;omega
 rw[if_neg (by simp[hb])]at hV2;refine bP ?_;refine lp (β:=Nat) (fun j=>⟨[(1,.ptr r1 0),(4,.ro 2 ((NS m).map cP) .any),(8,.int .i64 j)],[(r1,.box 33 (aS m))]⟩) (fun j=>j≤m.el.length∧(m.el.take j).any (IZ m)=false) (fun j=>m.el.length-j) 0 aJ ⟨Nat.zero_le _,rfl⟩ ?_;rintro j ⟨hj,hd⟩;refine pC ?_;refine aB rfl (fun g26=> ?_) (fun g26=> ?_)
 ·have hlt:j<m.el.length:=by simpa using g26
  obtain⟨x,hx⟩:∃x,m.el[j]? =some x:=⟨_,List.getElem?_eq_getElem hlt⟩
  have hzf:=hz.el.2 x (List.mem_of_getElem? hx);refine bP ?_;refine lp (β:=Nat) (fun k=>⟨[(1,.ptr r1 0),(4,.ro 2 ((NS m).map cP) .any),(8,.int .i64 j),(9,.int .i64 k)],[(r1,.box 33 (aS m))]⟩) (fun k=>k≤x.fs.length∧(x.fs.take k).any (UF m)=false) (fun k=>x.fs.length-k) 0 aJ ⟨Nat.zero_le _,rfl⟩ ?_;rintro k ⟨hk,he⟩;refine nD ?_;refine sO ?_;refine pH ?_;refine oP ?_;refine aB rfl (fun g29=> ?_) (fun g29=> ?_)
  ·have hklt:k<x.fs.length:=by simpa using g29
   obtain⟨t,ht⟩:∃t,x.fs[k]? =some t:=⟨_,List.getElem?_eq_getElem hklt⟩
   refine fE ?_;refine sO ?_;refine nA ?_;refine DY ?_;refine FQ ?_;refine aB rfl (fun g31=> ?_) (fun g31=> ?_)
   ·refine aI ?_;rw[hnF]at g31;have hE:gY m=9:=by rw[hV2,if_pos (zN hx (by unfold IZ;rw[zN ht g31];rfl))]
    refine kO ?_;exact aD aE ⟨by rw[hE];rfl,rfl⟩ aA
   refine aI ?_;rw[hnF]at g31;refine eU ?_;refine AE ?_;refine⟨k+1,⟨hklt,by rw[tF ht,he,g31];rfl⟩,by show x.fs.length-(k+1)<x.fs.length-k;omega, ?_⟩;exact aJ
  obtain rfl:k=x.fs.length:=by simp at g29;omega
  rw[List.take_length]at he;refine dG ?_;refine oI ?_;refine oO ?_;refine nZ ?_;refine aB rfl (fun g33=> ?_) (fun g33=> ?_)
  ·refine aI ?_;have hE:gY m=9:=by rw[hV2,if_pos (zN hx (by unfold IZ;rw[g33];simp))]
   refine kO ?_;exact aD aE ⟨by rw[hE];rfl,rfl⟩ aA
  refine lI ?_;refine⟨j+1,⟨hlt,by rw[tF hx,hd];unfold IZ;rw[he,g33];rfl⟩,by show m.el.length-(j+1)<m.el.length-j;omega, ?_⟩;exact aJ
 obtain rfl:j=m.el.length:=by simp at g26;omega
 rw[List.take_length]at hd;rw[if_neg (by simp[hd])]at hV2;refine bP ?_;refine lp (β:=Nat) (fun j=>⟨[(1,.ptr r1 0),(10,.int .i64 j)],[(r1,.box 33 (aS m))]⟩) (fun j=>j≤m.co.length∧sC m j=true) (fun j=>m.co.length-j) 0 aJ ⟨Nat.zero_le _,rfl⟩ ?_;rintro j ⟨hj,hc⟩;refine pC ?_;refine aB rfl (fun g36=> ?_) (fun g36=> ?_)
 ·have hlt:j<m.co.length:=by simpa using g36
  refine dG ?_;refine DX ?_;refine lS Tryz.call24 (hF hm j) rfl aU bC ?_;rw[←hC hm j];refine nZ ?_;refine aB rfl (fun g38=> ?_) (fun g38=> ?_)
  ·refine aI ?_;have hE:gY m=10:=by rw[hV2,if_pos (BZ hlt (by simpa using g38))]
   refine kO ?_;exact aD aE ⟨by rw[hE];rfl,rfl⟩ aA
  refine lI ?_;refine⟨j+1,⟨hlt,by unfold sC;rw[hc];simpa using g38⟩,by show m.co.length-(j+1)<m.co.length-j;omega, ?_⟩;exact aJ
 obtain rfl:j=m.co.length:=by simp at g36;omega
 rw[if_neg (by simp[hc])]at hV2;refine fE ?_;refine pH ?_;refine lo (jM (E rfl) (E rfl)) rfl ?_;refine xS ?_;refine FR ?_;refine aBw ?_;refine aB rfl (fun g40=> ?_) (fun g40=> ?_)
 ·refine aI ?_;have hE:gY m=11:=by rw[hV2,if_pos (by rw[←NR];exact g40)]
  refine kO ?_;exact aD aE ⟨by rw[hE];rfl,rfl⟩ aA
 refine aI ?_;have hE:gY m=-1:=by rw[hV2,if_neg (by rw[←NR,g40];simp)]
 refine kO ?_;exact aD aE ⟨by rw[hE];rfl,rfl⟩ aA
def aDx (q:Nat):List AV:=[.ro 2 (smallM.ty.map cP) .any,.ro 3 [] .any,.ro 1 (smallM.fn.map aR) .any,.bool false,.int .i64 0,.int .i64 0,.bool false,.int .i64 0,.int .i64 0,.ro 3 [] .any,.own q 0 1,.ro 2 [] .any,.ro 2 (smallM.co.map dP) .any,.ro 2 [] .any]
theorem WV:SCall Tryz.prog 50 [] [] (fun y σ=>∃q,y=.agg (aDx q)∧σ=[(q,.arr 66 2 (smallM.ex.map dH))]):=by
 refine cC 15 [0] Tryz.func50 ?_;refine dG ?_;refine jZ fun r0 h0=> ?_;intros
 refine kU ?_;refine dG ?_;refine eS fun r1 h1=> ?_;intros
 refine iR (j:=1) rfl bH (aM aO (by simp)) ?_;refine eS fun r2 h2=> ?_;intros
 refine iR (j:=2) rfl bH (aM aO (by simp)) ?_;refine jY ?_;refine eS fun r4 h4=> ?_;intros
 refine iR (j:=4) rfl bH (aM aO (by simp)) ?_;refine eS fun r5 h5=> ?_;intros
 refine iR (j:=5) rfl bH (aM aO (by simp)) ?_;refine jY ?_;refine eS fun r7 h7=> ?_;intros
 refine jY ?_;refine jY ?_;refine jY ?_;refine eS fun r11 h11=> ?_;intros
 refine iR (j:=11) rfl bH (aM aO (by simp)) ?_;refine jT (eK (j:=11) rfl (zJ (l:=smallIs) (by simp[smallIs]))) ?_;refine jY ?_;refine jT (eK (j:=12) rfl NC) ?_;refine eS fun r13 h13=> ?_;intros
 refine iR (j:=13) rfl bH (aM aO (by simp)) ?_;refine jY ?_;refine nY ?_;refine an ?_;refine dZ (iE (r:=r0) (cs':=aDx r7) cJ (.cons (.refl _) (.cons (.le VLe.empty) (.cons (.refl _) (.cons (.refl _) (.cons (.refl _) (.cons (.refl _) (.cons (.refl _) (.cons (.refl _) (.cons (.refl _) (.cons (.le VLe.empty) (.cons (.refl _) (.cons (.le VLe.empty) (.cons (.refl _) (.cons (.le VLe.empty) .nil))))))))))))))) ?_;refine aI ?_;exact aD aE ⟨r7,by rfl,rfl⟩ aA
def smallX:Md:= { smallM with ex:=[⟨(smallM.ex.headD ⟨[],0⟩).nm,1⟩] }
theorem aAY:smallX.WO:=⟨⟨small_wo.w.im,fun x hx=>by
  obtain rfl:=List.mem_singleton.1 hx;exact small_wo.w.ex ⟨[97,100,100],0⟩ (by simp[smallM]),small_wo.w.co,small_wo.w.il,small_wo.w.da⟩,⟨small_wo.ok.1,small_wo.ok.2⟩⟩
theorem aF8:smallM.Z:=by constructor<;>decide
theorem aDy:smallX.Z:=by constructor<;>decide
theorem aJg:fun0.Z:=by constructor<;>decide
theorem aDz:gY smallM=-1:=by decide+kernel
theorem aAZ:gY smallX=7:=by decide+kernel
theorem aF9:gY fun0=0:=by decide+kernel
theorem WW:SCall Tryz.prog 82 [] [] (fun y σ=>y=.bool true∧σ=[]):=by
 refine cC 2 [0] Tryz.func82 ?_;refine sR ?_;refine lS Tryz.call22 WF rfl aU bC ?_;refine cZ ?_;exact aD aE ⟨by rfl,rfl⟩ aA
theorem HO:SCall Tryz.prog 27 [] [] (fun y σ=>y=.bool true∧σ=[]):=by
 have w1:=nK smallM small_wo aF8;have w2:=nK smallX aAY aDy;have w3:=nK fun0 YO aJg;rw[aDz,show((-1:Int)==-1)=true from rfl]at w1;rw[aAZ,show((7:Int)==-1)=false from rfl]at w2;rw[aF9,show((0:Int)==-1)=false from rfl]at w3;refine cC 53 [0,1,2,3,4,5,6,7] Tryz.func27 ?_;refine sR ?_;refine HX [] Tryz.call50 CZ ?_;refine lS Tryz.call28 w1 rfl aU bC ?_;refine vA ?_;refine jK ?_;refine jH ?_;refine cw [] Tryz.call50 WV rfl aC aA ?_;rintro _ σ' ⟨q1,rfl,rfl⟩ h13
 replace h13:=gU h13;repeat rcases h13 with⟨_,h13⟩
 unfold aDx;apply aZ;exact bN;refine jZ fun r3 h3=> ?_;intros
 refine nY ?_;refine fE ?_;refine II ?_;refine yS ?_;refine yT ?_;refine jI ?_;refine dZ (iD (r:=r3) (q:=q1) cJ bH (.cons (.refl _) (.cons (.refl _) (.cons (.refl _) (.cons (.refl _) (.cons (.refl _) (.cons (.refl _) (.cons (.refl _) (.cons (.refl _) (.cons (.refl _) (.cons (.refl _) (.cons (aM aO (by simp[smallM])) (.cons (.refl _) (.cons (.refl _) (.cons (.refl _) .nil))))))))))))))) ?_;refine dZ (iE (r:=r3) (cs':=aS smallX) cJ (.cons (.refl _) (.cons (.refl _) (.cons (.refl _) (.cons (.refl _) (.cons (.refl _) (.cons (.refl _) (.cons (.refl _) (.cons (.refl _) (.cons (.refl _) (.cons (.refl _) (.cons (.refl _) (.cons (.refl _) (.cons (.refl _) (.cons (.refl _) .nil))))))))))))))) ?_;refine jH ?_;refine mP ?_;refine lS Tryz.call28 w2 rfl aU bC ?_;refine vA ?_;refine jK ?_;refine jH ?_;refine eS fun r24 h24=> ?_;intros
 refine iR (j:=24) rfl bH (aM aO (by simp)) ?_;refine jY ?_;refine jT (eK (j:=25) rfl SM) ?_;refine lS Tryz.call28 w3 rfl aU bC ?_;refine vA ?_;refine jK ?_;refine jH ?_;refine lS Tryz.call82 WW rfl aU bC ?_;refine lM ?_;refine sL ?_;rw[show((-1:Int)==-1)=true from rfl];refine qT ?_;refine qT ?_;refine sL ?_;rw[show((7:Int)==7)=true from rfl];refine qT ?_;refine uY ?_;refine qT ?_;refine sL ?_;rw[show((0:Int)==0)=true from rfl];refine qT ?_;refine ZQ ?_;exact aD aE ⟨by rfl,rfl⟩ aA
end Go.Proofs.YtjpdadobblffmaaGreat
