import Derived.Test.YtjpdadobblffmaaGreatCC6
import Derived.Test.YtjpdadobblffmaaGreatCC4
set_option linter.unusedSimpArgs false
set_option linter.unusedVariables false
set_option maxRecDepth 100000
set_option maxHeartbeats 4000000
namespace Go.Proofs.YtjpdadobblffmaaGreat
open Go.RowKit Go.ChangeShapes Go.WideShapes Go.ChangeAt Go.Deep
def aLE (n:Nat):Bool:= !(TY n)||decide ((kN n).1=List.replicate (oT n).1.toNat (oT n).2.1∧(kN n).2.1=(oT n).2.2.1∧(kN n).2.2=true∧(oT n).2.2.2=true)
theorem aGg:((List.range 174).all aLE)=true:=by decide+kernel
theorem aJw{op:Int}(h:TY op=true):(kN op).1=List.replicate (oT op).1.toNat (oT op).2.1∧(kN op).2.1=(oT op).2.2.1∧(kN op).2.2=true∧(oT op).2.2.2=true:=by
 have h0:0≤op∧op<174:=by unfold TY at h;have:=of_decide_eq_true h;omega
 obtain⟨n,rfl⟩:∃n:Nat,op=n:=⟨op.toNat,by omega⟩
 have h1:=List.all_eq_true.1 aGg n (List.mem_range.2 (by omega));unfold aLE at h1;rw[h]at h1;simpa using h1
theorem aDM{op:Int}(h:aW op≠0):op∈([0,1,5,11,15,26,27,2,3,4,12,13,16,32,33,34,35,36,14,17,40,41,44,45,54,55,58,63,64,65,66]:List Int)∨TY op=true:=by
 unfold aW iU at h;cases hk:TY op with
 |true=>exact .inr rfl
 |false=>
  left;rw[hk]at h;simp only[List.mem_cons,List.not_mem_nil,or_false];simp only[Bool.or_eq_true,beq_iff_eq,Bool.false_eq_true,if_false]at h;repeat' split at h
  all_goals first|omega|exact absurd rfl h
theorem aDN{x:Ins}(h:cY x=true):aW x.op≠0:=by
 intro e;unfold cY at h;rw[e]at h;revert h;refine aI (p:=fun b:Bool=>b=true→False) (fun _=>by simp) (fun _=> ?_);simp
theorem oC{n a b:Int}(h:pF n a b=true):a≤n∧n≤b:=by rw[kC]at h;exact of_decide_eq_true h
theorem kS{x:Ins}(h:cY x=true)(hf:aW x.op=3∨aW x.op=4∨aW x.op=5∨aW x.op=6):0≤x.a∧(aW x.op=4→∀n∈x.l,0≤n):=by
 unfold cY at h;have h0:jB x (aW x.op)=false:=by
  cases hp:jB x (aW x.op)with
  |false=>rfl
  |true=>rw[hp]at h;simp at h
 rw[h0]at h;simp only[Bool.false_eq_true,if_false]at h;rcases hf with e|e|e|e<;>rw[e]at h⊢
 ·simp only[show((3:Int)==1||(3:Int)==7)=false from rfl,show((3:Int)==2)=false from rfl,show((3:Int)==3||(3:Int)==5)=true from rfl,Bool.false_eq_true,if_false,if_true]at h;exact⟨(oC h).1,fun e=>by simp at e⟩
 ·simp only[show((4:Int)==1||(4:Int)==7)=false from rfl,show((4:Int)==2)=false from rfl,show((4:Int)==3||(4:Int)==5)=false from rfl,show((4:Int)==4)=true from rfl,Bool.false_eq_true,if_false,if_true]at h;cases ha:pF x.a 0 1000 with
  |false=>rw[ha]at h;simp at h
  |true=>
   refine⟨(oC ha).1,fun _ n hn=> ?_⟩;rw[ha]at h;simp only[if_true]at h;split at h
   ·simp only[Bool.not_eq_true',List.any_eq_false,Bool.not_eq_true',Bool.not_eq_false]at h;have:=h n hn;have:pF n 0 1000=true:=by simpa using this
    exact(oC this).1
   ·cases h
 ·simp only[show((5:Int)==1||(5:Int)==7)=false from rfl,show((5:Int)==2)=false from rfl,show((5:Int)==3||(5:Int)==5)=true from rfl,Bool.false_eq_true,if_false,if_true]at h;exact⟨(oC h).1,fun e=>by simp at e⟩
 ·simp only[show((6:Int)==1||(6:Int)==7)=false from rfl,show((6:Int)==2)=false from rfl,show((6:Int)==3||(6:Int)==5)=false from rfl,show((6:Int)==4)=false from rfl,show((6:Int)==6)=true from rfl,Bool.false_eq_true,if_false,if_true]at h;cases ha:pF x.a 0 3 with
  |false=>rw[ha]at h;simp at h
  |true=>exact⟨(oC ha).1,fun e=>by simp at e⟩
theorem sX{x:Ins}(h:cY x=true)(hf:aW x.op=1∨aW x.op=7):x.a=0:=by
 unfold cY at h;have h0:jB x (aW x.op)=false:=by
  cases hp:jB x (aW x.op)with
  |false=>rfl
  |true=>rw[hp]at h;simp at h
 rw[h0]at h;rcases hf with e|e<;>rw[e]at h<;>simpa using h
def rkd (o:List Ct) (kd:Int):Int:=match o with|[]=>kd|c:: _=>c.kd
theorem aJx(o:List Ct)(op kd:Int)(h:Nat)(d:Bool):((o++ [(⟨op,kd,h,d⟩:Ct)]).getD 0 ct0).kd=rkd o kd:=by cases o<;>rfl
section
variable {o : List Ct} {op kd : Int} {base : List Int} {t : RT} {s : PS} {m : Md} {ls res : List Int}
theorem YM(h:pQ o op kd base t s)(hr:res=aX (rkd o kd)){x:Ins}(hx:cY x=true)(hb:SS x.op=true):pQ o op kd base (fS res x t) (gE m ls s x):=by
 obtain⟨xo,a,b,l⟩:=x;have hb':xo=12∨xo=13∨xo=14∨xo=15∨xo=0:=by unfold SS at hb;simpa[or_assoc]using hb
 rcases hb' with rfl|rfl|rfl|rfl|rfl
 ·have ha:=(kS hx (.inl (show aW 12=3 by decide))).1;obtain⟨h1,h2⟩:=wV h ha;exact AX (fK h1 h2)
 ·have ha:=(kS hx (.inl (show aW 13=3 by decide))).1;obtain⟨h1,h2⟩:=wV (fK (ks:=[1]) h fun _=>rfl) ha;have h3:=fK h1 h2;exact jO h3 (aDL ((Adv.refl _).take _) h2)
 ·have ha:=kS hx (.inr (.inl (show aW 14=4 by decide)));obtain⟨h1,h2⟩:=wV (fK (ks:=[1]) h fun _=>rfl) ha.1;have h3:=VW (w:=(cX (aS t [1]) a).1) (nV _ a) (l:=l) (ha.2 (show aW 14=4 by decide)) h1 h2;exact AX (fK h3 (aDL ((Adv.refl _).tabs _ _) h2))
 ·refine AX (fK h fun e=> ?_);rcases h with⟨h1,-⟩|⟨-,-,h3⟩
  ·rw[h1]at e;cases e
  ·rw[h3.cs,aJx,hr]
 ·exact AX h
theorem wW{m:Md}{f:Int}(hf:0≤f):iO m f=cK m (kQ m f):=by
 unfold iO cK kQ;rw[decide_eq_true hf];simp only[if_true]
theorem YN{m:Md}{f:Int}(hf:0≤f):cK m f=if decide ((m.ty.length:Int)≤f)=true then(sR,false)else(m.ty.getD f.toNat sR,true):=by
 unfold cK;rw[decide_eq_false (by omega:¬f<0)];simp only[Bool.false_eq_true,if_false]
theorem OD(h:pQ o op kd base t s)(y:FT×Bool):pQ o op kd base (if(!y.2)=true then eG t else gS (aS t y.1.pr) y.1.rs) (qL s y.1 y.2):=by
 obtain⟨y,b⟩:=y;cases b with
 |true=>
  have h1:=qR h (b:=true) (b':=true) fun _=>rfl
  exact jO (fK h1 fun _=>rfl) fun _=>rfl
 |false=>exact .inl ⟨rfl,by show(dP _ _).bad=true;exact wJ _ _ (by simp[dB])⟩
theorem aDO(h:pQ o op kd base t s){x:Ins}(hx:cY x=true)(hb:(x.op==16||x.op==17)=true):pQ o op kd base (qQ m x t) (gE m ls s x):=by
 obtain⟨xo,a,b,l⟩:=x;have hb':xo=16∨xo=17:=by simpa using hb
 rcases hb' with rfl|rfl
 ·have ha:0≤a:=(kS hx (.inl (show aW 16=3 by decide))).1;have:=OD h (iO m a);rw[wW ha]at this;show pQ _ _ _ _ (if(!(iO m a).2)=true then eG t else gS (aS t (iO m a).1.pr) (iO m a).1.rs) _;rw[wW ha];exact this
 ·have ha:0≤a:=(kS hx (.inr (.inr (.inl (show aW 17=5 by decide))))).1;have h1:=qR h (b:=m.tb.has) fun _=>rfl
  have h2:=fK (ks:=[1]) (ks':=[1]) h1 fun _=>rfl
  have h3:=OD h2 (cK m a);show pQ _ _ _ _ (if(if(!m.tb.has)=true then true else decide ((m.ty.length:Int)≤a))=true then eG t else gS (aS (aS t [1]) (m.ty.getD a.toNat sR).pr) (m.ty.getD a.toNat sR).rs) (qL (dP (dB s m.tb.has) [1]) (cK m a).1 (cK m a).2);rw[YN ha]at h3⊢;cases hh:m.tb.has with
  |false=>
   refine .inl ⟨rfl, ?_⟩;show(dP _ _).bad=true;exact wJ _ _ (nW _ _ (wJ _ _ (by simp[dB])))
  |true=>
   rw[hh]at h3;simp only[Bool.not_true,Bool.false_eq_true,if_false,if_true]at h3⊢;cases hl:decide ((m.ty.length:Int)≤a)with
   |true=>
    rw[hl]at h3;refine .inl ⟨rfl, ?_⟩;show(dP _ _).bad=true;exact wJ _ _ (by simp[dB])
   |false=>rw[hl]at h3;exact h3
theorem aBs{n:Int}(h:¬(ls.length:Int)≤n):cR ls s n=(ls.getD n.toNat 0,s):=if_neg (by simpa using h)
theorem OE{n:Int}(h:(ls.length:Int)≤n):cR ls s n=(0,⟨s.vs,s.cs,true⟩):=if_pos (by simpa using h)
theorem QU(h:pQ o op kd base t s){a b:Int}{l:List Int}(xo:Int)(ho:xo=32∨xo=33∨xo=34):pQ o op kd base (gM m ls res ⟨xo,a,b,l⟩ t) (gE m ls s ⟨xo,a,b,l⟩):=by
 by_cases hl:(ls.length:Int)≤a
 ·have e:=OE (s:=s) hl;refine .inl ⟨?_, ?_⟩
  ·rcases ho with rfl|rfl|rfl<;>
   ·show(if decide ((ls.length:Int)≤a)=true then eG t else _).bad=true;rw[if_pos (by simpa using hl)];rfl
  ·rcases ho with rfl|rfl|rfl
   ·show(fO (cR ls s a).2 _).bad=true;rw[e];rfl
   ·show(cP (cR ls s a).2 _).2.bad=true;rw[e];exact AW _ _ rfl
   ·show(fO (cR ls (cP (cR ls s a).2 (cR ls s a).1).2 a).2 _).bad=true;rw[OE hl];rfl
 ·have e:=fun s:PS=>aBs (s:=s) hl
  rcases ho with rfl|rfl|rfl
  ·show pQ _ _ _ _ (if decide ((ls.length:Int)≤a)=true then eG t else gS t [ls.getD a.toNat 0]) (fO (cR ls s a).2 [(cR ls s a).1]);rw[if_neg (by simpa using hl),e];exact jO h fun _=>rfl
  ·show pQ _ _ _ _ (if decide ((ls.length:Int)≤a)=true then eG t else aS t [ls.getD a.toNat 0]) (cP (cR ls s a).2 (cR ls s a).1).2;rw[if_neg (by simpa using hl),e];exact fK h fun _=>rfl
  ·show pQ _ _ _ _ (if decide ((ls.length:Int)≤a)=true then eG t else gS (aS t [ls.getD a.toNat 0]) [ls.getD a.toNat 0]) (fO (cR ls (cP (cR ls s a).2 (cR ls s a).1).2 a).2 [(cR ls (cP (cR ls s a).2 (cR ls s a).1).2 a).1]);rw[if_neg (by simpa using hl),e,e];exact jO (fK (ks:=[ls.getD a.toNat 0]) (ks':=[ls.getD a.toNat 0]) h fun _=>rfl) fun _=>rfl
theorem VX(h:pQ o op kd base t s){a b:Int}{l:List Int}(xo:Int)(ho:xo=35∨xo=36):pQ o op kd base (gM m ls res ⟨xo,a,b,l⟩ t) (gE m ls s ⟨xo,a,b,l⟩):=by
 by_cases hl:(m.gl.length:Int)≤a
 ·have e:eC m s a=(NX,⟨s.vs,s.cs,true⟩):=if_pos (by simpa using hl);refine .inl ⟨?_, ?_⟩
  ·have:∀c,(if(if decide ((m.gl.length:Int)≤a)=true then true else c)=true then eG t else if(xo==35)=true then gS t [(m.gl.getD a.toNat NX).kd]else aS t [(m.gl.getD a.toNat NX).kd]).bad=true:=fun c=>by rw[if_pos (by rw[if_pos (by simpa using hl)])];rfl
   rcases ho with rfl|rfl<;>exact this _
  ·rcases ho with rfl|rfl
   ·show(fO (eC m s a).2 _).bad=true;rw[e];rfl
   ·show(cP (dB (eC m s a).2 _) _).2.bad=true;rw[e];exact AW _ _ (nW _ _ rfl)
 ·have e:eC m s a=(m.gl.getD a.toNat NX,s):=if_neg (by simpa using hl);rcases ho with rfl|rfl
  ·show pQ _ _ _ _ (if(if decide ((m.gl.length:Int)≤a)=true then true else false)=true then eG t else gS t [(m.gl.getD a.toNat NX).kd]) (fO (eC m s a).2 [(eC m s a).1.kd]);rw[e,if_neg (by rw[if_neg (by simpa using hl)];simp)];exact jO h fun _=>rfl
  ·show pQ _ _ _ _ (if(if decide ((m.gl.length:Int)≤a)=true then true else !(m.gl.getD a.toNat NX).mu)=true then eG t else aS t [(m.gl.getD a.toNat NX).kd]) (cP (dB (eC m s a).2 (eC m s a).1.mu) (eC m s a).1.kd).2;rw[e,if_neg (by simpa using hl:¬decide ((m.gl.length:Int)≤a)=true)];have h1:=qR h (b:=(m.gl.getD a.toNat NX).mu) fun _=>rfl
   cases hm:(m.gl.getD a.toNat NX).mu with
   |true=>rw[hm]at h1;exact fK h1 fun _=>rfl
   |false=>exact .inl ⟨rfl,by exact AW _ _ (by simp[dB,hm])⟩
theorem aDP{op c:Int}(h:TY op=true)(hc:TY c=false):(op==c)=false:=by
 cases he:op==c with
 |false=>rfl
 |true=>rw[eq_of_beq he,hc]at h;cases h
theorem aDQ{x:Ins}(h:TY x.op=true):gE m ls s x=fO (dP (dB s (kN x.op).2.2) (kN x.op).1) [(kN x.op).2.1]:=by
 have hc:=fun c hc=>aDP (c:=c) h hc
 unfold gE cJ dV;simp only[hc 0 (by decide),hc 1 (by decide),hc 2 (by decide),hc 3 (by decide),hc 4 (by decide),hc 5 (by decide),hc 11 (by decide),hc 12 (by decide),hc 13 (by decide),hc 14 (by decide),hc 15 (by decide),hc 16 (by decide),hc 17 (by decide),hc 26 (by decide),hc 27 (by decide),hc 32 (by decide),hc 33 (by decide),hc 34 (by decide),hc 35 (by decide),hc 36 (by decide),hc 40 (by decide),hc 41 (by decide),hc 44 (by decide),hc 45 (by decide),hc 54 (by decide),hc 55 (by decide),hc 58 (by decide),hc 63 (by decide),hc 64 (by decide),hc 65 (by decide),hc 66 (by decide),Bool.or_self,Bool.false_eq_true,if_false]
theorem aDR{x:Ins}{t:RT}(h:TY x.op=true)(h':(oT x.op).2.2.2=true):gM m ls res x t=gS (aS t (List.replicate (oT x.op).1.toNat (oT x.op).2.1)) [(oT x.op).2.2.1]:=by
 have hc:=fun c hc=>aDP (c:=c) h hc
 unfold gM SS;simp only[hc 0 (by decide),hc 1 (by decide),hc 12 (by decide),hc 13 (by decide),hc 14 (by decide),hc 15 (by decide),hc 16 (by decide),hc 17 (by decide),hc 26 (by decide),hc 27 (by decide),h',Bool.or_false,Bool.false_eq_true,if_false,if_true];rfl
theorem OF(s:PS):dB s true=s:=by obtain⟨vs,cs,b⟩:=s;cases b<;>rfl
theorem tU(h:pQ o op kd base t s){x:Ins}(al k:Int)(st:Bool):
  pQ o op kd base (let t:=if(!m.me.has)=true then eG t else t;let t:=if decide (al<x.a)=true then eG t else t;if st=true then aS t [1,k]else gS (aS t [1]) [k])
   (gD m s x al (if st=true then [1,k]else [1]) (if st=true then []else [k])):=by
 have hn:pQ o op kd base (let t:=if(!m.me.has)=true then eG t else t;if decide (al<x.a)=true then eG t else t) (dB s (if m.me.has=true then decide (x.a≤al)else false)):=by
  have h1:=qR h (b:=if m.me.has=true then decide (x.a≤al)else false) fun _=>rfl
  cases hh:m.me.has with
  |false=>
   refine .inl ⟨?_,by simp[dB]⟩;dsimp only;exact aI (p:=fun r:RT=>r.bad=true) (fun _=>rfl) (fun _=>rfl)
  |true=>
   rw[hh]at h1;by_cases hl:x.a≤al
   ·simpa[hl,show¬al<x.a by omega]using h1
   ·simpa[hl,show al<x.a by omega]using h1
 dsimp only at hn⊢;cases st with
 |true=>
  have:=jO (fK (ks:=[1,k]) hn fun _=>rfl) (ks:=[]) (ks':=[]) fun _=>rfl
  unfold gD;simp only[if_true];have e:∀q:RT,gS q []=q:=fun q=>by unfold gS;rw[List.append_nil]
  rw[e]at this;exact this
 |false=>exact jO (fK (ks:=[1]) hn fun _=>rfl) fun _=>rfl
theorem VY(h:pQ o op kd base t s){a:Int}(ha:a=0):pQ o op kd base (if(!m.me.has)=true then eG t else t) (dB s (if m.me.has=true then decide (a≤0)else false)):=by
 subst ha;have h1:=qR h (b:=m.me.has) fun _=>rfl
 cases hh:m.me.has with
 |false=>rw[hh]at h1;exact h1
 |true=>rw[hh]at h1;exact h1
theorem aBt(h:pQ o op kd base t s){x:Ins}(hx:cY x=true)(hb:SS x.op=false)(hc:(x.op==16||x.op==17)=false)(hO:qD x.op=false)(h5:x.op≠5)(h11:x.op≠11):pQ o op kd base (gM m ls res x t) (gE m ls s x):=by
 rcases aDM (aDN hx)with hm|hk
 ·obtain⟨xo,a,b,l⟩:=x;dsimp only at hm hb hc hO h5 h11;simp only[List.mem_cons,List.not_mem_nil,or_false]at hm;rcases hm with rfl|rfl|rfl|rfl|rfl|rfl|rfl|rfl|rfl|rfl|rfl|rfl|rfl|rfl|rfl|rfl|rfl|rfl|rfl|rfl|rfl|rfl|rfl|rfl|rfl|rfl|rfl|rfl|rfl|rfl|rfl
  ·cases hb
  ·exact h
  ·exact absurd rfl h5
  ·exact absurd rfl h11
  ·cases hb
  ·exact(FY h (k:=0) fun _=>rfl).1
  ·obtain⟨h1,h2⟩:=FY (fK (ks:=[1]) (ks':=[1]) h fun _=>rfl) (k:=0) (k':=0) fun _=>rfl
   obtain⟨h3,h4⟩:=FY h1 h2;exact jO h3 fun e=>by rw[h4 e];rfl
  ·cases hO
  ·cases hO
  ·cases hO
  ·cases hb
  ·cases hb
  ·cases hc
  ·exact QU h 32 (.inl rfl)
  ·exact QU h 33 (.inr (.inl rfl))
  ·exact QU h 34 (.inr (.inr rfl))
  ·exact VX h 35 (.inl rfl)
  ·exact VX h 36 (.inr rfl)
  ·cases hb
  ·cases hc
  ·exact tU h 2 1 false
  ·exact tU h 3 2 false
  ·exact tU h 0 1 false
  ·exact tU h 0 1 false
  ·exact tU h 2 1 true
  ·exact tU h 3 2 true
  ·exact tU h 0 1 true
  ·exact jO (VY h (sX hx (.inr (show aW 63=7 by decide)))) fun _=>rfl
  ·exact jO (fK (ks:=[1]) (VY h (sX hx (.inr (show aW 64=7 by decide)))) fun _=>rfl) fun _=>rfl
  ·exact jO h fun _=>rfl
  ·exact jO h fun _=>rfl
 ·obtain⟨k1,k2,k3,k4⟩:=aJw hk;rw[aDQ hk,aDR hk k4,k1,k2,k3,OF];exact jO (fK h fun _=>rfl) fun _=>rfl
theorem aDS(h:pQ o op kd base t s)(hr:res=aX (rkd o kd)){x:Ins}(hx:cY x=true)(hO:qD x.op=false)(h5:x.op≠5)(h11:x.op≠11):pQ o op kd base (gM m ls res x t) (gE m ls s x):=by
 cases hb:SS x.op with
 |true=>
  have:=YM (m:=m) (ls:=ls) h hr hx hb;unfold gM;rw[if_pos hb];exact this
 |false=>
  cases hc:(x.op==16||x.op==17)with
  |true=>
   have:=aDO (m:=m) (ls:=ls) h hx hc;unfold gM;rw[if_neg (by simp[hb]),if_pos hc];exact this
  |false=>exact aBt h hx hb hc hO h5 h11
end
def Sta (t q:RT):Prop:=q.a=t.a
theorem Sta.refl (t:RT):Sta t t:=rfl
theorem Sta.take {t q:RT}(h:Sta t q)(ks:List Int):Sta t (aS q ks):=(yQ q ks).trans h
theorem Sta.one {t q:RT}(h:Sta t q)(k:Int):Sta t (jE q k).2:=(aAx q k).trans h
theorem Sta.put {t q:RT}(h:Sta t q)(ks:List Int):Sta t (gS q ks):=h
theorem Sta.ends {t q:RT}(h:Sta t q):Sta t (qO q):=h
theorem Sta.bad {t q:RT}(h:Sta t q):Sta t (eG q):=h
theorem Sta.label {t q:RT}(h:Sta t q)(x:Int):Sta t (cX q x).2:=(QS q x).trans h
theorem Sta.tabs {t q:RT}(h:Sta t q)(w l:List Int):Sta t (l.foldl (oQ w) q):=by
 induction l generalizing q with
 |nil=>exact h
 |cons a l ih=>exact ih (aI (p:=Sta t) (fun _=>(h.label a).bad) (fun _=>h.label a))
theorem aBu(res:List Int)(x:Ins)(t:RT):Sta t (fS res x t):=by
 have h:=Sta.refl t;unfold fS;refine aI (fun _=>((h.label _).take _).ends) (fun _=> ?_);refine aI (fun _=>(((h.take _).label _).take _).put _) (fun _=> ?_);refine aI (fun _=>((((h.take _).label _).tabs _ _).take _).ends) (fun _=> ?_);exact aI (fun _=>(h.take _).ends) (fun _=>h.ends)
theorem aGh(m:Md)(x:Ins)(t:RT):Sta t (qQ m x t):=by
 have h:=Sta.refl t;unfold qQ;refine aI (fun _=>aI (p:=Sta t) (fun _=>h.bad) (fun _=>(h.take _).put _)) (fun _=> ?_);exact aI (fun _=>h.bad) (fun _=>((h.take _).take _).put _)
theorem YO{t q:RT}(h:Sta t q)(x:Ins)(c k:Int):Sta t (tT x c k q):=by
 have ha:Sta t (if decide (c<x.a)=true then eG q else q):=aI (fun _=>h.bad) (fun _=>h);exact aI (fun _=>ha.take _) (fun _=>(ha.take _).put _)
theorem aJy(m:Md)(x:Ins)(t:RT):Sta t (DV m x t):=by
 have h:Sta t (if(!m.me.has)=true then eG t else t):=aI (fun _=>(Sta.refl t).bad) (fun _=>Sta.refl t);unfold DV;generalize(if(!m.me.has)=true then eG t else t)=q at h;unfold AT;refine aI (fun _=>YO h x _ _) (fun _=> ?_);refine aI (fun _=>YO h x _ _) (fun _=> ?_);refine aI (fun _=>h.put _) (fun _=> ?_);exact aI (fun _=>(h.take _).put _) (fun _=>YO h x _ _)
theorem aBv(m:Md)(ls:List Int)(x:Ins)(t:RT):Sta t (gF m ls x t):=by
 have h:=Sta.refl t;unfold gF;refine aI (fun _=>h.put _) (fun _=> ?_);refine aI (fun _=>h.put _) (fun _=> ?_);refine aI (fun _=>aI (fun _=>h.bad) (fun _=> ?_)) (fun _=> ?_)
 ·have hq:Sta t (if(x.op !=32)=true then aS t [ls.getD x.a.toNat 0]else t):=aI (fun _=>h.take _) (fun _=>h);exact aI (fun _=>hq.put _) (fun _=>hq)
 refine aI (fun _=>aI (fun _=>h.bad) (fun _=>aI (fun _=>h.put _) (fun _=>h.take _))) (fun _=>aJy m x t)
theorem aGi(m:Md)(ls res:List Int)(x:Ins)(t:RT):Sta t (gM m ls res x t):=by
 have h:=Sta.refl t;unfold gM;refine aI (fun _=>aBu _ _ _) (fun _=> ?_);refine aI (fun _=>aGh _ _ _) (fun _=> ?_);refine aI (fun _=>h.one 0) (fun _=> ?_);refine aI (fun _=>(((h.take _).one _).one _).put _) (fun _=> ?_);refine aI (fun _=>h) (fun _=> ?_);exact aI (fun _=>(h.take _).put _) (fun _=>aBv _ _ _ _)
def nL (lp:RT→RT) (bd:List Ins) (x:Ins) (t:RT):RT:=
 if(x.op==4)=true then(if(eP bd t 5).1=true then dR lp (aX x.a) (aX x.a) (eP bd t 5).2 else if decide ((0:Int)<(aX x.a).length)=true then eG (eP bd t 5).2 else(eP bd t 5).2)else t
def DW (bd:List Ins) (x:Ins) (t:RT):RT:=gS (if(!(eP bd t 11).1)=true then eG (eP bd t 11).2 else(eP bd t 11).2) (aX x.a)
def brN (x:Ins):List Int:=if(x.op==3)=true then []else aX x.a
theorem FZ(lp:RT→RT)(bd:List Ins)(x:Ins)(t:RT):sU lp bd x t=DW bd x (nL lp bd x (dR lp (aX x.a) (brN x) (if(x.op==4)=true then aS t [1]else t))):=by
 unfold sU brN;cases h:x.op==3<;>simp only[if_true,if_false,Bool.false_eq_true]<;>rfl
theorem IG{bd:List Ins}{t:RT}{y:Ins}(hy:bd[t.a]? =some y):eP bd t y.op=(true,⟨t.a+1,t.lb,t.bad,t.l,t.dd⟩):=by
 have:=(List.getElem?_eq_some_iff.1 hy).1;unfold eP;rw[List.getD_eq_getElem?_getD,hy,decide_eq_true (by omega),if_pos rfl,if_pos (by simp)]
theorem aGj{bd:List Ins}{t:RT}{y:Ins}{op:Int}(hy:bd[t.a]? =some y)(ho:y.op≠op):eP bd t op=(false,t):=by
 unfold eP;rw[List.getD_eq_getElem?_getD,hy,if_neg];split
 ·simpa using ho
 ·simp
theorem AY{bd:List Ins}{x:Ins}{t:RT}(h:t.bad=true):(DW bd x t).bad=true:=by
 have:=(sW bd t 11).2 h;exact aI (p:=fun r:RT=>(gS r (aX x.a)).bad=true) (fun _=>rfl) (fun _=>this)
theorem OG{lp:RT→RT}(hl:∀q,Adv q 0 (lp q)){bd:List Ins}{x:Ins}{t:RT}(h:t.bad=true):(nL lp bd x t).bad=true:=by
 have h1:=(sW bd t 5).2 h;refine aI (p:=fun r:RT=>r.bad=true) (fun _=> ?_) (fun _=>h);refine aI (p:=fun r:RT=>r.bad=true) (fun _=>(lB hl _ _ _).2 h1) (fun _=> ?_);exact aI (p:=fun r:RT=>r.bad=true) (fun _=>rfl) (fun _=>h1)
theorem IH{m:Md}{ls res:List Int}{bd:List Ins}{t:RT}(h:t.bad=true):LR m ls res bd t=t:=by
 rw[VU,if_neg];rw[h];split<;>simp
theorem II{t:RT}(res l:List Int)(dd:Bool)(h:t.bad=true):(qP t res l dd).bad=true:=by
 show(if _ then true else(aS t res).bad)=true;rw[ID _ _ h];simp
theorem VZ{o:List Ct}{op kd op' kd':Int}{base l:List Int}{dd:Bool}{t:RT}{s:PS}(hb:t.bad=false)(hb':s.bad=false)(h:Cor (o++ [⟨op,kd,base.length,dd⟩]) op' kd' (base++l) t s):pQ o op kd base (qP t (aX kd') l dd) (fY s):=by
 have h1:=fK (ks:=aX kd') (ks':=aX kd') (.inr ⟨hb,hb',h⟩) fun _=>rfl
 have ht:=h.top;have hs:fY s=⟨(dP s (aX kd')).vs,(dP s (aX kd')).cs.dropLast,(dB (dP s (aX kd')) (((dP s (aX kd')).vs.length:Int)==(base++l).length)).bad⟩:=by
  unfold fY;rw[ht];rfl
 rw[hs];unfold qP;dsimp only;rcases h1 with⟨e1,e2⟩|⟨e1,e2,e3⟩
 ·refine .inl ⟨?_, ?_⟩
  ·show(if _ then true else(aS t (aX kd')).bad)=true;rw[e1];simp
  ·exact nW _ _ e2
 ·have hl:((dP s (aX kd')).vs.length:Int)=(base++l).length+(aS t (aX kd')).l.length:=by rw[e3.vs];simp;omega
  cases hz:(aS t (aX kd')).l with
  |nil=>
   rw[hz]at hl;refine .inr ⟨?_, ?_,⟨?_, ?_, ?_⟩⟩
   ·show(if decide ((0:Int)<(([]:List Int).length:Int))=true then true else(aS t (aX kd')).bad)=false;rw[e1];rfl
   ·unfold dB;dsimp only;rw[e2,hl];simp
   ·show(dP s (aX kd')).vs=base++l;rw[e3.vs,hz];simp
   ·show(dP s (aX kd')).cs.dropLast=_;rw[e3.cs];simp
   ·show(aS t (aX kd')).lb.dropLast=((dP s (aX kd')).cs.dropLast).map lbC;rw[e3.lb,List.map_dropLast]
  |cons y ys=>
   rw[hz]at hl;refine .inl ⟨?_, ?_⟩
   ·show(if decide ((0:Int)<((y::ys).length:Int))=true then true else(aS t (aX kd')).bad)=true;rw[if_pos (by simp only[List.length_cons,decide_eq_true_eq];omega)]
   ·unfold dB;dsimp only;rw[e2,hl];simp;omega
theorem YP(t:RT)(res l:List Int)(dd:Bool):(qP t res l dd).a=t.a:=yQ t res
section
variable {m : Md} {ls res : List Int} {bd : List Ins}
theorem GA{a:Nat}{x:Ins}(h:bd[a]? =some x):bd.drop a=x::bd.drop (a+1):=by
 obtain⟨h1,rfl⟩:=List.getElem?_eq_some_iff.1 h;exact List.drop_eq_getElem_cons h1
theorem QV{a:Nat}{x:Ins}(h:bd[a]? =some x):(cU bd).drop a=x.op::(cU bd).drop (a+1):=by
 unfold cU;rw[←List.map_drop,GA h,List.map_cons,List.map_drop]
def aLF (m:Md) (ls:List Int) (bd:List Ins) (o:List Ct) (op kd:Int) (base:List Int) (S:List Bool) (a:Nat) (s:PS) (r:RT):Prop:=
 (r.bad=true∧(yT m ls (bd.drop a) s).bad=true)∨
 (r.bad=false∧a≤r.a∧r.a≤bd.length∧∃s',yT m ls (bd.drop a) s=yT m ls (bd.drop r.a) s'∧s'.bad=false∧Cor o op kd base r s'∧mD 40 ((cU bd).drop r.a) S=some []∧(r.a=bd.length∨∃x,bd[r.a]? =some x∧(x.op=11∨x.op=5)))
theorem aDT(o:List Ct)(op kd kd':Int)(h:Nat)(d:Bool):rkd (o++ [⟨op,kd,h,d⟩]) kd'=rkd o kd:=by cases o<;>rfl
theorem aDU{x:Ins}(h:qD x.op=true)(s:PS):gE m ls s x=openP (if(x.op==4)=true then(cP s 1).2 else s) x.op x.a:=by
 obtain⟨xo,a,b,l⟩:=x;have h':xo=2∨xo=3∨xo=4:=by unfold qD at h;simpa[or_assoc]using h
 rcases h' with rfl|rfl|rfl<;>rfl
theorem aBw{y:Ins}(h:y.op=5)(s:PS):gE m ls s y=openP (fY s) 5 s.top.kd:=by
 obtain⟨yo,a,b,l⟩:=y;dsimp only at h;subst h;rfl
theorem WA{y:Ins}(h:y.op=11)(s:PS):gE m ls s y=fO (dB (fY s) (if(s.top.op !=4)=true then true else(s.top.kd==0))) (aX s.top.kd):=by
 obtain⟨yo,a,b,l⟩:=y;dsimp only at h;subst h;rfl
theorem WB{o:List Ct}{op kd:Int}{base:List Int}{t:RT}{s:PS}(h:Cor o op kd base t s)(op' kd':Int)(a:Nat):Cor (o++ [⟨op,kd,base.length,t.dd⟩]) op' kd' (base++t.l) ⟨a,t.lb++ [lbC ⟨op',kd',0,false⟩],false,[],false⟩ (openP s op' kd'):=by
 refine⟨?_, ?_, ?_⟩
 ·show s.vs=base++t.l++ [];rw[h.vs,List.append_nil]
 ·show s.cs++ [⟨op',kd',s.vs.length,false⟩]=_;rw[h.cs,h.vs]
 ·show t.lb++ [lbC ⟨op',kd',0,false⟩]=(s.cs++ [(⟨op',kd',s.vs.length,false⟩:Ct)]).map lbC;rw[h.lb,List.map_append];rfl
theorem AZ(hm:∀x∈bd,cY x=true):∀(n:Nat) (o:List Ct) (op kd:Int) (base:List Int) (S:List Bool) (t:RT) (s:PS),bd.length-t.a<n→t.a≤bd.length→t.bad=false→s.bad=false→Cor o op kd base t s→res=aX (rkd o kd)→mD 40 ((cU bd).drop t.a) S=some []→aLF m ls bd o op kd base S t.a s (LR m ls res bd t)
 |0,_,_,_,_,_,t,_,h,_,_,_,_,_,_=>absurd h (Nat.not_lt_zero _)
 |n+1,o,op,kd,base,S,t,s,hn,ha,hb,hb',hC,hr,hS=>by
  rw[VU];by_cases hlt:t.a<bd.length
  case neg=>
   rw[if_neg (by rw[decide_eq_false (by omega)];simp)];exact .inr ⟨hb,Nat.le_refl _,ha,s,rfl,hb',hC,hS,.inl (by omega)⟩
  obtain⟨x,hx⟩:∃x,bd[t.a]? =some x:=⟨_,List.getElem?_eq_getElem hlt⟩
  have hxm:=hm x (List.mem_of_getElem? hx);rw[if_pos (by rw[decide_eq_true (by omega),hb];rfl),List.getD_eq_getElem?_getD,hx,Option.getD_some];by_cases hend:x.op=11∨x.op=5
  ·rw[if_pos (by rcases hend with e|e<;>rw[e]<;>rfl)];exact .inr ⟨hb,Nat.le_refl _,ha,s,rfl,hb',hC,hS,.inr ⟨x,hx,hend⟩⟩
  have h11:x.op≠11:=fun e=>hend (.inl e)
  have h5:x.op≠5:=fun e=>hend (.inr e)
  rw[if_neg (by simp[h11,h5])];rw[QV hx,mD]at hS;have nC:∀(q:RT) (r:PS),pQ o op kd base q r→t.a<q.a→q.a≤bd.length→mD 40 ((cU bd).drop q.a) S=some []→(yT m ls (bd.drop t.a) s=if r.bad=true then r else yT m ls (bd.drop q.a) r)→aLF m ls bd o op kd base S t.a s (LR m ls res bd q):=by
   intro q r hs hqa hql hqS hgo;rcases hs with⟨e1,e2⟩|⟨e1,e2,e3⟩
   ·rw[IH e1];exact .inl ⟨e1,by rw[hgo,if_pos e2];exact e2⟩
   ·have hg:yT m ls (bd.drop t.a) s=yT m ls (bd.drop q.a) r:=by rw[hgo,if_neg (by simp[e2])]
    rcases AZ hm n o op kd base S q r (by omega) hql e1 e2 e3 hr hqS with⟨f1,f2⟩|⟨f1,f2,f3,s',f4,f5⟩
    ·exact .inl ⟨f1,by rw[hg];exact f2⟩
    ·exact .inr ⟨f1,by omega,f3,s',hg.trans f4,f5⟩
  have hgo1:yT m ls (bd.drop t.a) s=if(gE m ls s x).bad=true then gE m ls s x else yT m ls (bd.drop (t.a+1)) (gE m ls s x):=by rw[GA hx];rfl
  have hC1:pQ o op kd base ⟨t.a+1,t.lb,t.bad,t.l,t.dd⟩ s:=.inr ⟨hb,hb',⟨hC.vs,hC.cs,hC.lb⟩⟩;cases hO:qD x.op with
  |false=>
   have hst:iV 40 S x.op=some S:=by unfold iV;rw[if_neg (by simp[hO]),if_pos ⟨h5,h11⟩]
   rw[hst]at hS;have hq:=aDS (m:=m) (ls:=ls) (res:=res) hC1 hr hxm hO h5 h11;have hqa:(gM m ls res x ⟨t.a+1,t.lb,t.bad,t.l,t.dd⟩).a=t.a+1:=aGi m ls res x _;have hi:fD m ls res bd (LR m ls res bd) x t=gM m ls res x ⟨t.a+1,t.lb,t.bad,t.l,t.dd⟩:=if_neg (by simp[hO]);rw[hi];exact nC _ _ hq (by omega) (by omega) (by rw[hqa];exact hS) (by rw[hqa];exact hgo1)
  |true=>
   have hi:fD m ls res bd (LR m ls res bd) x t=sU (LR m ls res bd) bd x ⟨t.a+1,t.lb,t.bad,t.l,t.dd⟩:=if_pos hO;rw[hi,FZ];have hst:∃S',iV 40 S x.op=some S'∧S'=S++ [x.op==4]:=by
    have:iV 40 S x.op=if 40≤S.length then none else some (S++ [x.op==4]):=by unfold iV;rw[if_pos hO]
    rw[this]at hS⊢;split
    ·next h40=>rw[if_pos h40]at hS;cases hS
    ·exact⟨_,rfl,rfl⟩
   obtain⟨S',hst,rfl⟩:=hst;rw[hst]at hS;rw[aDU hO]at hgo1;have h2:pQ o op kd base (if(x.op==4)=true then aS ⟨t.a+1,t.lb,t.bad,t.l,t.dd⟩ [1]else⟨t.a+1,t.lb,t.bad,t.l,t.dd⟩) (if(x.op==4)=true then(cP s 1).2 else s):=by
    split
    ·exact fK (ks:=[1]) (ks':=[1]) hC1 fun _=>rfl
    ·exact hC1
   have h2a:(if(x.op==4)=true then aS ⟨t.a+1,t.lb,t.bad,t.l,t.dd⟩ [1]else⟨t.a+1,t.lb,t.bad,t.l,t.dd⟩).a=t.a+1:=aI (p:=fun r:RT=>r.a=t.a+1) (fun _=>yQ _ _) (fun _=>rfl);generalize(if(x.op==4)=true then aS ⟨t.a+1,t.lb,t.bad,t.l,t.dd⟩ [1]else⟨t.a+1,t.lb,t.bad,t.l,t.dd⟩)=t2 at h2 h2a⊢;generalize(if(x.op==4)=true then(cP s 1).2 else s)=s2 at h2 hgo1;have hAd:=IF m ls res bd;rcases h2 with⟨e1,e2⟩|⟨e1,e2,e3⟩
   ·have hbad:(DW bd x (nL (LR m ls res bd) bd x (dR (LR m ls res bd) (aX x.a) (brN x) t2))).bad=true:=AY (OG hAd ((lB hAd _ _ _).2 e1));rw[IH hbad];have:(openP s2 x.op x.a).bad=true:=e2;exact .inl ⟨hbad,by rw[hgo1,if_pos this];exact this⟩
   have hgo2:yT m ls (bd.drop t.a) s=yT m ls (bd.drop (t.a+1)) (openP s2 x.op x.a):=by rw[hgo1,if_neg (by show¬s2.bad=true;simp[e2])]
   have hC3:=WB e3 x.op x.a t2.a;rw[show lbC ⟨x.op,x.a,0,false⟩=brN x from rfl]at hC3;have hbl:dR (LR m ls res bd) (aX x.a) (brN x) t2=qP (LR m ls res bd ⟨t2.a,t2.lb++ [brN x],false,[],false⟩) (aX x.a) t2.l t2.dd:=by unfold dR;rw[e1]
   rw[hbl];have hI:=AZ hm n (o++ [⟨op,kd,base.length,t2.dd⟩]) x.op x.a (base++t2.l) (S++ [x.op==4]) ⟨t2.a,t2.lb++ [brN x],false,[],false⟩ (openP s2 x.op x.a) (by show bd.length-t2.a<n;omega) (by show t2.a≤ _;omega) rfl e2 hC3 (hr.trans (by rw[aDT])) (by show mD 40 ((cU bd).drop t2.a) _=_;rw[h2a];exact hS);generalize LR m ls res bd ⟨t2.a,t2.lb++ [brN x],false,[],false⟩=r3 at hI⊢;rcases hI with⟨f1,f2⟩|⟨f1,f2,f3,s4,f4,f5,f6,f7,f8⟩
   ·have hbad:(DW bd x (nL (LR m ls res bd) bd x (qP r3 (aX x.a) t2.l t2.dd))).bad=true:=AY (OG hAd (II _ _ _ f1));rw[IH hbad];exact .inl ⟨hbad,by rw[hgo2];dsimp only at f2;rw[h2a]at f2;exact f2⟩
   dsimp only at f2 f4;rw[h2a]at f2 f4;obtain⟨y,hy,hyo⟩:∃y,bd[r3.a]? =some y∧(y.op=11∨y.op=5):=by
    rcases f8 with e|h
    ·rw[List.drop_of_length_le (by unfold cU;rw[List.length_map];omega),mD]at f7;simp at f7
    ·exact h
   have hya:=(List.getElem?_eq_some_iff.1 hy).1;rw[QV hy,mD]at f7;have hgl:(S++ [x.op==4]).getLast? =some (x.op==4):=by simp
   have hsh:=VZ f1 f5 f6;have hsa:=YP r3 (aX x.a) t2.l t2.dd;have htop:=f6.top;have hgo3:yT m ls (bd.drop t.a) s=if(gE m ls s4 y).bad=true then gE m ls s4 y else yT m ls (bd.drop (r3.a+1)) (gE m ls s4 y):=by rw[hgo2,f4,GA hy];rfl
   generalize qP r3 (aX x.a) t2.l t2.dd=t5 at hsh hsa⊢;rw[←hsa]at hy;rcases hyo with hyo|hyo
   ·--the end
    have hst:iV 40 (S++ [x.op==4]) y.op=some S:=by
     rw[hyo];unfold iV;rw[if_neg (by decide),if_neg (by decide),hgl];simp
    rw[hst]at f7;rw[WA hyo,htop]at hgo3;dsimp only at hgo3;have hE:nL (LR m ls res bd) bd x t5=if(if(x.op !=4)=true then true else(x.a==0))=true then t5 else eG t5:=by
     unfold nL;rw[aGj hy (by rw[hyo];decide)];cases h4:x.op==4 with
     |false=>simp[bne,h4]
     |true=>
      simp only[bne,h4,Bool.not_true,Bool.false_eq_true,if_true,if_false];by_cases hz:x.a=0
      ·simp[aX,hz]
      ·simp[aX,hz]
    have h6:=qR hsh (b:=(if(x.op !=4)=true then true else(x.a==0))) fun _=>rfl
    rw[hE];have h6a:(if(if(x.op !=4)=true then true else(x.a==0))=true then t5 else eG t5).a=r3.a:=aI (p:=fun r:RT=>r.a=r3.a) (fun _=>hsa) (fun _=>hsa);generalize(if(if(x.op !=4)=true then true else(x.a==0))=true then t5 else eG t5)=t6 at h6 h6a⊢;generalize dB (fY s4) (if(x.op !=4)=true then true else(x.a==0))=s6 at h6 hgo3;have hN:DW bd x t6=gS ⟨t6.a+1,t6.lb,t6.bad,t6.l,t6.dd⟩ (aX x.a):=by
     unfold DW;have:=IG (bd:=bd) (t:=t6) (y:=y) (by rw[h6a,←hsa];exact hy);rw[hyo]at this;rw[this];rfl
    rw[hN];have h7:pQ o op kd base (⟨t6.a+1,t6.lb,t6.bad,t6.l,t6.dd⟩:RT) s6:=by
     rcases h6 with⟨g1,g2⟩|⟨g1,g2,g3⟩
     ·exact .inl ⟨g1,g2⟩
     ·exact .inr ⟨g1,g2,⟨g3.vs,g3.cs,g3.lb⟩⟩
    refine nC _ _ (jO h7 fun _=>rfl) (by show t.a<t6.a+1;omega) (by show t6.a+1≤ _;omega) (by show mD 40 ((cU bd).drop (t6.a+1)) S=_;rw[h6a];exact f7) ?_;show _=if _ then _ else yT m ls (bd.drop (t6.a+1)) _
    rw[h6a];exact hgo3
   ·--the else
    have hst:iV 40 (S++ [x.op==4]) y.op=if(x.op==4)=true then some (S++ [false])else none:=by
     rw[hyo];unfold iV;rw[if_neg (by decide),if_neg (by decide),hgl];simp
    rw[hst]at f7;have h4:(x.op==4)=true:=by
     cases h4:x.op==4 with
     |true=>rfl
     |false=>rw[h4]at f7;simp at f7
    rw[if_pos h4]at f7;dsimp only at f7;rw[aBw hyo,htop]at hgo3;dsimp only at hgo3;have hE:nL (LR m ls res bd) bd x t5=dR (LR m ls res bd) (aX x.a) (aX x.a) ⟨t5.a+1,t5.lb,t5.bad,t5.l,t5.dd⟩:=by
     unfold nL;have:=IG (bd:=bd) (t:=t5) (y:=y) hy;rw[hyo]at this;rw[this,if_pos h4,if_pos rfl]
    rw[hE];rcases hsh with⟨g1,g2⟩|⟨g1,g2,g3⟩
    ·have hbad:(DW bd x (dR (LR m ls res bd) (aX x.a) (aX x.a) ⟨t5.a+1,t5.lb,t5.bad,t5.l,t5.dd⟩)).bad=true:=AY ((lB hAd _ _ _).2 g1);rw[IH hbad];have:(openP (fY s4) 5 x.a).bad=true:=g2;exact .inl ⟨hbad,by rw[hgo3,if_pos this];exact this⟩
    have hgo4:yT m ls (bd.drop t.a) s=yT m ls (bd.drop (r3.a+1)) (openP (fY s4) 5 x.a):=by rw[hgo3,if_neg (by show¬(fY s4).bad=true;simp[g2])]
    have hC6:=WB g3 5 x.a (t5.a+1);rw[show lbC ⟨5,x.a,0,false⟩=aX x.a from rfl]at hC6;have hbl2:dR (LR m ls res bd) (aX x.a) (aX x.a) ⟨t5.a+1,t5.lb,t5.bad,t5.l,t5.dd⟩=qP (LR m ls res bd ⟨t5.a+1,t5.lb++ [aX x.a],false,[],false⟩) (aX x.a) t5.l t5.dd:=by unfold dR;rw[g1]
    rw[hbl2];have hI:=AZ hm n (o++ [⟨op,kd,base.length,t5.dd⟩]) 5 x.a (base++t5.l) (S++ [false]) ⟨t5.a+1,t5.lb++ [aX x.a],false,[],false⟩ (openP (fY s4) 5 x.a) (by show bd.length-(t5.a+1)<n;omega) (by show t5.a+1≤ _;omega) rfl g2 hC6 (hr.trans (by rw[aDT])) (by show mD 40 ((cU bd).drop (t5.a+1)) _=_;rw[hsa];exact f7);generalize LR m ls res bd ⟨t5.a+1,t5.lb++ [aX x.a],false,[],false⟩=r6 at hI⊢;rcases hI with⟨k1,k2⟩|⟨k1,k2,k3,s7,k4,k5,k6,k7,k8⟩
    ·have hbad:(DW bd x (qP r6 (aX x.a) t5.l t5.dd)).bad=true:=AY (II _ _ _ k1);rw[IH hbad];exact .inl ⟨hbad,by rw[hgo4];dsimp only at k2;rw[hsa]at k2;exact k2⟩
    dsimp only at k2 k4;rw[hsa]at k2 k4;obtain⟨z,hz,hzo⟩:∃z,bd[r6.a]? =some z∧(z.op=11∨z.op=5):=by
     rcases k8 with e|h
     ·rw[List.drop_of_length_le (by unfold cU;rw[List.length_map];omega),mD]at k7;simp at k7
     ·exact h
    have hza:=(List.getElem?_eq_some_iff.1 hz).1;rw[QV hz,mD]at k7;have hgl2:(S++ [false]).getLast? =some false:=by simp
    have hz11:z.op=11:=by
     rcases hzo with e|e
     ·exact e
     ·have:iV 40 (S++ [false]) z.op=none:=by
       rw[e];unfold iV;rw[if_neg (by decide),if_neg (by decide),hgl2];simp
      rw[this]at k7;cases k7
    have hst2:iV 40 (S++ [false]) z.op=some S:=by
     rw[hz11];unfold iV;rw[if_neg (by decide),if_neg (by decide),hgl2];simp
    rw[hst2]at k7;have hsh2:=VZ k1 k5 k6;have hsa2:=YP r6 (aX x.a) t5.l t5.dd;have htop2:=k6.top;have hgo5:yT m ls (bd.drop t.a) s=if(gE m ls s7 z).bad=true then gE m ls s7 z else yT m ls (bd.drop (r6.a+1)) (gE m ls s7 z):=by rw[hgo4,k4,GA hz];rfl
    generalize qP r6 (aX x.a) t5.l t5.dd=t8 at hsh2 hsa2⊢;rw[WA hz11,htop2]at hgo5;dsimp only at hgo5;rw[show(if((5:Int) !=4)=true then true else(x.a==0))=true from rfl,OF]at hgo5;have hN:DW bd x t8=gS ⟨t8.a+1,t8.lb,t8.bad,t8.l,t8.dd⟩ (aX x.a):=by
     unfold DW;have:=IG (bd:=bd) (t:=t8) (y:=z) (by rw[hsa2];exact hz);rw[hz11]at this;rw[this];rfl
    rw[hN];have h7:pQ o op kd base (⟨t8.a+1,t8.lb,t8.bad,t8.l,t8.dd⟩:RT) (fY s7):=by
     rcases hsh2 with⟨g1,g2⟩|⟨g1,g2,g3⟩
     ·exact .inl ⟨g1,g2⟩
     ·exact .inr ⟨g1,g2,⟨g3.vs,g3.cs,g3.lb⟩⟩
    refine nC _ _ (jO h7 fun _=>rfl) (by show t.a<t8.a+1;omega) (by show t8.a+1≤ _;omega) (by show mD 40 ((cU bd).drop (t8.a+1)) S=_;rw[hsa2];exact k7) ?_;show _=if _ then _ else yT m ls (bd.drop (t8.a+1)) _
    rw[hsa2];exact hgo5
end
theorem aGk{o:List Ct}{op kd:Int}{base:List Int}{t:RT}{s:PS}(hb:t.bad=false)(hb':s.bad=false)(h:Cor o op kd base t s)(l:List Int)(dd:Bool):(qP t (aX kd) l dd).bad=(fY s).bad:=by
 have h1:=fK (ks:=aX kd) (ks':=aX kd) (.inr ⟨hb,hb',h⟩) fun _=>rfl
 have ht:=h.top;have hs:(fY s).bad=(dB (dP s (aX kd)) (((dP s (aX kd)).vs.length:Int)==base.length)).bad:=by
  unfold fY;rw[ht]
 rw[hs];show(if decide ((0:Int)<(aS t (aX kd)).l.length)=true then true else(aS t (aX kd)).bad)=_;rcases h1 with⟨e1,e2⟩|⟨e1,e2,e3⟩
 ·rw[e1,nW _ _ e2];simp
 ·have hl:((dP s (aX kd)).vs.length:Int)=base.length+(aS t (aX kd)).l.length:=by rw[e3.vs];simp
  unfold dB;dsimp only;rw[e1,e2,hl];cases hz:(aS t (aX kd)).l with
  |nil=>simp
  |cons y ys=>
   have h0:((base.length:Int)+((y::ys).length:Int)==base.length)=false:=by simp only[List.length_cons,beq_eq_false_iff_ne];omega
   have h1:decide ((0:Int)<((y::ys).length:Int))=true:=by simp only[List.length_cons,decide_eq_true_eq];omega
   rw[h0,h1];rfl
theorem aDV{m:Md}(hm:qZ m=true)(k:Int):HU m k=VV m k:=by
 unfold qZ at hm;simp only[Bool.and_eq_true]at hm;obtain⟨⟨⟨⟨-,hco⟩,hls⟩,-⟩,-⟩:=hm;unfold qG at hls;simp only[Bool.and_eq_true]at hls;obtain⟨⟨⟨⟨⟨⟨hty,-⟩,-⟩,-⟩,-⟩,-⟩,-⟩:=hls;unfold HU VV;by_cases h1:(if(if decide (k<0)=true then true else decide ((m.co.length:Int)≤k))=true then true else decide ((m.fn.length:Int)≤k))=true
 ·rw[if_pos h1,if_pos];rw[if_pos h1];simp
 rw[if_neg h1];have h1':0≤k∧k<m.co.length∧k<m.fn.length:=by
  refine⟨?_, ?_, ?_⟩
  ·rcases Int.lt_or_le k 0 with h|h
   ·exact absurd (by simp[h]) h1
   ·exact h
  ·rcases Int.lt_or_le k m.co.length with h|h
   ·exact h
   ·exact absurd (by simp[h]) h1
  ·rcases Int.lt_or_le k m.fn.length with h|h
   ·exact h
   ·exact absurd (by simp[h]) h1
 rw[if_neg h1];generalize hf:m.fn.getD k.toNat 0=f;by_cases h2:f<0∨(m.ty.length:Int)≤f
 ·have hc2:(if decide (f<0)=true then true else decide ((m.ty.length:Int)≤f))=true:=by rcases h2 with h|h<;>simp[h]
  have:cK m f=(sR,false):=if_pos hc2;rw[if_pos hc2,this];rfl
 have hf0:¬f<0:=fun h=>h2 (.inl h)
 have hfl:¬(m.ty.length:Int)≤f:=fun h=>h2 (.inr h)
 have hc2:¬(if decide (f<0)=true then true else decide ((m.ty.length:Int)≤f))=true:=by rw[decide_eq_false hf0,if_neg (by simp),decide_eq_false hfl];simp
 have:cK m f=(m.ty.getD f.toNat sR,true):=if_neg hc2;rw[if_neg hc2,this];dsimp only;obtain⟨c,hc⟩:∃c,m.co[k.toNat]? =some c:=⟨_,List.getElem?_eq_getElem (by omega)⟩
 obtain⟨t,ht⟩:∃t,m.ty[f.toNat]? =some t:=⟨_,List.getElem?_eq_getElem (by omega)⟩
 rw[List.getD_eq_getElem?_getD,List.getD_eq_getElem?_getD,hc,ht,Option.getD_some,Option.getD_some];have hcn:=(cB hco).2 c (List.mem_of_getElem? hc);unfold tK at hcn;simp only[Bool.and_eq_true]at hcn;obtain⟨⟨hok,-⟩,hbd⟩:=hcn;have hmay:=(cB hbd).2;have htn:=(cB hty).2 t (List.mem_of_getElem? ht);simp only[Bool.and_eq_true]at htn;have hr1:=(cB htn.2).1;have hr2:=(cB htn.2).2;rw[hok];rw[if_neg (c:=(if(!true)=true then true else !true)=true) (by simp)];have hkd:t.rs=aX (if decide ((0:Int)<t.rs.length)=true then t.rs.headD 0 else 0):=by
  match hrs:t.rs with
  |[]=>rfl
  |[r]=>
   have:zZ r=true:=hr2 r (by rw[hrs];exact List.mem_singleton.2 rfl);have hr0:r≠0:=by rintro rfl;exact absurd this (by decide)
   simp[aX,hr0]
  | _:: _:: _=>rw[hrs]at hr1;simp at hr1;omega
 generalize(if decide ((0:Int)<t.rs.length)=true then t.rs.headD 0 else 0)=kd at hkd;have hS:=(QP.1 hok).2;have hG:=AZ (m:=m) (ls:=t.pr++c.ls) (res:=t.rs) (bd:=c.bd) hmay (c.bd.length+1) [] 2 kd [] [] ⟨0,[]++ [t.rs],false,[],false⟩ (openP ⟨[],[],false⟩ 2 kd) (Nat.lt_succ_self _) (Nat.zero_le _) rfl rfl ⟨rfl,rfl,by rw[hkd];rfl⟩ hkd hS;show(if(yT m (t.pr++c.ls) c.bd (openP ⟨[],[],false⟩ 2 kd)).bad=true then false else if(!(fY (yT m (t.pr++c.ls) c.bd (openP ⟨[],[],false⟩ 2 kd))).bad)=true then decide (((t.pr++c.ls).length:Int)≤32)else false)=
  if decide ((32:Int)<(t.pr++c.ls).length)=true then false else if(!(qP (LR m (t.pr++c.ls) t.rs c.bd ⟨0,[]++ [t.rs],false,[],false⟩) t.rs [] false).bad)=true then(((qP (LR m (t.pr++c.ls) t.rs c.bd ⟨0,[]++ [t.rs],false,[],false⟩) t.rs [] false).a:Int)==c.bd.length)else false
 generalize LR m (t.pr++c.ls) t.rs c.bd ⟨0,[]++ [t.rs],false,[],false⟩=r at hG⊢;rcases hG with⟨e1,e2⟩|⟨e1,-,e3,s',e4,e5,e6,e7,e8⟩
 ·rw[if_pos (by simpa using e2)];have:=II t.rs [] false e1;rw[this];split<;>simp
 ·have hl:r.a=c.bd.length:=by
   rcases e8 with e|⟨y,hy,hyo⟩
   ·exact e
   ·rw[QV hy,mD]at e7;have:iV 40 [] y.op=none:=by
     unfold iV;rcases hyo with e|e<;>rw[e]<;>simp[qD]
    rw[this]at e7;cases e7
  have hg:yT m (t.pr++c.ls) c.bd (openP ⟨[],[],false⟩ 2 kd)=s':=by
   have:=e4;rw[List.drop_zero,hl,List.drop_length]at this;exact this
  have hsb:=aGk e1 e5 e6 [] false;rw[←hkd]at hsb;have hsa:(qP r t.rs [] false).a=c.bd.length:=(YP r t.rs [] false).trans hl;rw[hg,hsb,hsa,if_neg (by simp[e5])];by_cases h32:((t.pr++c.ls).length:Int)≤32
  ·rw[decide_eq_true h32,decide_eq_false (by omega)];cases(fY s').bad<;>simp
  ·rw[decide_eq_false h32,decide_eq_true (by omega)];cases(fY s').bad<;>simp
end Go.Proofs.YtjpdadobblffmaaGreat
namespace Go.Proofs.YtjpdadobblffmaaGreat
open Go.RowKit Go.ChangeShapes Go.WideShapes Go.ChangeAt Go.Deep
attribute [local irreducible] SW RS RD fG eH
structure Env where
 m:Md
 ls:List Int
 res:List Int
 bd:List Ins
def nG (E0:Env) (p a n:Nat) (b:Bool):List AV:=[.ro 2 (E0.m.ty.map dD) .any,.ro 3 (E0.m.im.map eM) .any,.ro 1 (E0.m.fn.map aP) .any,.bool E0.m.tb.has,.int .i64 E0.m.tb.mn,.int .i64 E0.m.tb.mx,.bool E0.m.me.has,.int .i64 E0.m.me.mn,.int .i64 E0.m.me.mx,
 .ro 3 (E0.m.gl.map dZ) .any,.ro 2 (E0.m.ex.map eA) .any,.ro 2 (E0.m.el.map dY) .any,.ro 2 (E0.m.co.map dA) .any,.ro 2 (E0.m.da.map eB) .any,.ro 4 (E0.bd.map (iv .any)) .any,.ro 1 (E0.ls.map aP) .any,.ro 1 (E0.res.map aP) .any,.int .i64 a,.own p 0 n,.bool b]
def jX (E0:Env) (r p:Nat) (t:RT):dS:=[(r,.box 142 (nG E0 p t.a t.lb.length t.bad)),(p,.arr 24 1 (t.lb.map kW))]
theorem aJz{e:Nat}{σ1 σ:dS}{C G:Prop}(h:(∃q∈σ1,q.1=e)∨Fresh e σ)(k:C)(g:Hold C→Fresh e (eO (σ1.map (·.1)) σ)→G:=by intro k q;unfold jX at q;simp(disch:=(first|(simp only[List.mem_cons,List.not_mem_nil,true_or,or_true,or_false];done)|(focus (simp only[List.mem_cons,List.not_mem_nil,or_false,not_or];(repeat' (first|apply And.intro|(exact bV)));done))|omega)) only[List.map_cons,List.map_nil,lV,nM,pR,nN,aO,aT,and_true]at q;revert q;(repeat refine aB7 ?_);exact k.h):G:=g ⟨k⟩ (tB h)
def jF (z q:Nat) (t:RT):dS:=[(z,.box 261 [.own q 0 t.l.length,.bool t.dd]),(q,.arr 3 1 (t.l.map aP))]
theorem sY{e:Nat}{σ1 σ:dS}{C G:Prop}(h:(∃q∈σ1,q.1=e)∨Fresh e σ)(k:C)(g:Hold C→Fresh e (eO (σ1.map (·.1)) σ)→G:=by intro k q;unfold jF at q;simp(disch:=(first|(simp only[List.mem_cons,List.not_mem_nil,true_or,or_true,or_false];done)|(focus (simp only[List.mem_cons,List.not_mem_nil,or_false,not_or];(repeat' (first|apply And.intro|(exact bV)));done))|omega)) only[List.map_cons,List.map_nil,lV,nM,pR,nN,aO,aT,and_true]at q;revert q;(repeat refine aB7 ?_);exact k.h):G:=g ⟨k⟩ (tB h)
def fL (E0:Env) (r p z q:Nat) (t:RT):dS:=jX E0 r p t++jF z q t
structure Nr (r p z q:Nat):Prop where
 pr:Nq p r
 zr:Nq z r
 zp:Nq z p
 qr:Nq q r
 qp:Nq q p
 qz:Nq q z
theorem dG{P:Prop}(h:P:=by(try unfold fL);(try unfold jX);(try unfold jF);(try unfold nG);(try dsimp only[List.cons_append,List.nil_append]);exact aA):P:=h
theorem aLG{P:Prop}(h:P:=by(try unfold fL);(try unfold jX);(try unfold jF);(try unfold nG);(try dsimp only[List.cons_append,List.nil_append]);exact fV):P:=h
section
variable {r p z q : Nat} {E0 : Env}
theorem BA(hN:Nr r p z q)(t:RT)(hl:t.l.length≤1000000)(k:Int):SCall Tryz.prog 274 [.ptr r 0,.ptr z 0,.int .i64 k] (fL E0 r p z q t) (fun y σ=>y=.int .i64 (jE t k).1∧σ=fL E0 r p z q (jE t k).2):=by
 obtain⟨ta,tl,tb,l,dd⟩:=t;obtain⟨n1,n2,n3,n4,n5,n6⟩:=hN;dsimp only at hl;refine cF 67 [0,1,2,6,7,13,18,59,64] Tryz.func274 ?_;unfold fL jX jF nG;dsimp only[List.cons_append,List.nil_append];refine iD ?_;refine kG ?_;refine sK ?_;refine aB rfl (fun g1=> ?_) (fun g1=> ?_)
 ·have hP:jE ⟨ta,tl,tb,l,dd⟩ k=(k,if(!dd)=true then eG ⟨ta,tl,tb,l,dd⟩else⟨ta,tl,tb,l,dd⟩):=if_pos g1;rw[hP];refine oK ?_;refine qV ?_;refine aB rfl (fun g2=> ?_) (fun g2=> ?_)
  ·rw[if_pos g2];refine xP ?_;refine fA ?_;exact aE aF ⟨by rfl,rfl⟩ aA
  rw[if_neg (by simp[g2])];refine fA ?_;exact aE aF ⟨by rfl,rfl⟩ aA
 obtain⟨ws,g,rfl⟩:∃ws g,l=ws++ [g]:=by
  rcases List.eq_nil_or_concat l with e|⟨ws,g,e⟩
  ·subst e;simp at g1
  ·exact⟨ws,g,by rw[e,List.concat_eq_append]⟩
 have hP:jE ⟨ta,tl,tb,ws++ [g],dd⟩ k=(if(g==0)=true then k else g,⟨ta,tl,if QR g k=true then true else tb,ws,dd⟩):=by unfold jE;rw[if_neg (fun e=>by rw[g1]at e;cases e)];simp
 rw[hP];have hel2:=sO (l:=ws.map aP) (x:=aP g) (n:=ws.length) (by simp);rw[QN]at hl;rw[QN,aDx];refine aJ ?_;refine fM [(0,true),(1,true),(2,true),(3,true),(4,true),(5,true),(6,true),(7,true),(8,true),(9,true),(10,true),(11,true),(12,true)] ?_;refine pC ?_;refine sI ?_;refine MT ?_;refine WR ?_;refine yB ?_;refine fM [(0,true),(1,true),(2,true),(3,true),(4,true),(5,true),(6,true),(7,true),(8,true),(9,true),(10,true),(11,true),(12,true),(13,true),(14,false)] ?_;refine zK ?_;refine sI ?_;refine z25 ?_;refine z77 ?_;refine mJ ?_;refine lF ?_;rw[qN];refine dQ (nZ (o:=q) ws.length cA) ?_;rw[show List.take ws.length (ws.map aP++ [aP g])=ws.map aP by rw[List.take_left' (by simp)]];refine kK ?_;refine lo (gA (E rfl) (E rfl)) rfl ?_;refine jL ?_;refine aEs ?_;refine rX ?_;refine jL ?_;refine aEs ?_;refine vH ?_;refine aB rfl (fun g7=> ?_) (fun g7=> ?_)
 ·have hnf:QR g k=true:=g7;rw[show(if QR g k=true then true else tb)=true by rw[hnf];rfl];refine KM ?_;refine pD ?_;refine rO ?_;refine aB rfl (fun g9=> ?_) (fun g9=> ?_)
  ·rw[if_pos (c:=(g==0)=true) g9];refine fA ?_;exact aE aF ⟨by rfl,rfl⟩ aA
  rw[if_neg (c:=(g==0)=true) (fun e=>by rw[g9]at e;cases e)];refine fA ?_;exact aE aF ⟨by rfl,rfl⟩ aA
 have hnf:QR g k=false:=g7;rw[show(if QR g k=true then true else tb)=tb by rw[hnf];rfl];refine dM ?_;refine rO ?_;refine aB rfl (fun g9=> ?_) (fun g9=> ?_)
 ·rw[if_pos (c:=(g==0)=true) g9];refine fA ?_;exact aE aF ⟨by rfl,rfl⟩ aA
 rw[if_neg (c:=(g==0)=true) (fun e=>by rw[g9]at e;cases e)];refine fA ?_;exact aE aF ⟨by rfl,rfl⟩ aA
theorem jA(hz:Nq q z)(t:RT)(hl:t.l.length≤1000000)(ks:List Int)(hk:ks.length≤1000):SCall Tryz.prog 275 [.ptr z 0,.ro 1 (ks.map aP) .any] (jF z q t) (fun _ σ=>∃e,Nq e z∧σ=jF z e (gS t ks)):=by
 obtain⟨ta,tl,tb,l,dd⟩:=t;dsimp only at hl;refine cF 13 [0,1] Tryz.func275 ?_;unfold jF;dsimp only;refine eX ?_;refine kG ?_;refine lo (aD (E rfl)) rfl ?_;refine iY ((l++ks).map aP) (l++ks).length ?_;refine bH fun r10 h10=> ?_;intros
 refine oI ?_;refine bY ?_;exact aE aF ⟨r10,by(exact bV),rfl⟩ aA
theorem aJA(k:Int):SCall Tryz.prog 299 [.int .i64 k] [] (fun y σ=>y=.ro 1 ((aX k).map aP) .any∧σ=[]):=by
 refine cF 7 [0,2,4] Tryz.func299 ?_;refine iD ?_;refine rO ?_;refine aB rfl (fun g1=> ?_) (fun g1=> ?_)
 ·rw[show aX k=[]from if_pos g1];refine dX ?_;refine oZ ?_;refine dQ (eF (j:=2) (y:=.ro 1 (([]:List Int).map aP) .any) rfl VLe.empty) ?_;refine aJ ?_;exact aE aF ⟨by rfl,rfl⟩ aA
 rw[show aX k=[k]from if_neg (by simp[g1])];refine dM ?_;refine eN fun r6 h6=> ?_;intros
 refine oZ ?_;refine aCC (j:=2) rfl aU (aK bA (by simp)) ?_;refine aJ ?_;exact aE aF ⟨by rfl,rfl⟩ aA
theorem BB(hz:Nq q z)(t:RT):SCall Tryz.prog 302 [.ptr z 0] (jF z q t) (fun _ σ=>∃e,Nq e z∧σ=jF z e (qO t)):=by
 obtain⟨ta,tl,tb,l,dd⟩:=t;refine cF 8 [0] Tryz.func302 ?_;unfold jF;dsimp only;refine eX ?_;refine uO ?_;apply SO;rfl;rfl;rfl;rfl;exact mU;refine TF z 0 3 1 (by decide) bA rfl (by decide) fun e he=> ?_
 simp only[aO,aT,and_true]at he;repeat rcases he with⟨_,he⟩
 apply Exists.intro;apply And.intro;exact cA;refine oI ?_;refine bY ?_;exact aE aF ⟨e,by(exact bV),rfl⟩ aA
theorem wX(hp:Nq p r)(t:RT)(hl:t.lb.length≤1000000)(n:Int)(hn:-9000000000000000000≤n∧n≤9000000000000000000):SCall Tryz.prog 301 [.ptr r 0,.int .i64 n] (jX E0 r p t) (fun y σ=>∃b,y=.tup [.ro 1 ((cX t n).1.map aP) .any,.bool b]∧σ=jX E0 r p (cX t n).2):=by
 obtain⟨ta,tl,tb,l,dd⟩:=t;dsimp only at hl;refine cF 31 [0,1,4,5,6,20] Tryz.func301 ?_;unfold jX nG;dsimp only;refine dX ?_;refine mZ ?_;refine kG ?_;refine kU ?_;refine tA ?_;refine lo (aD (E rfl)) rfl ?_;refine tA ?_;refine hZ ?_;refine vG ?_;refine DM ?_;refine lL ?_;refine aB rfl (fun g2=> ?_) (fun g2=> ?_)
 ·have hP:cX ⟨ta,tl,tb,l,dd⟩ n=([],eG ⟨ta,tl,tb,l,dd⟩):=if_pos g2;rw[hP];refine xP ?_;refine vI ?_;refine dQ (eF (j:=4) (y:=.ro 1 (([]:List Int).map aP) .any) rfl VLe.empty) ?_;refine aJ ?_;exact aE aF ⟨_,by rfl,rfl⟩ aA
 have h2:0≤n∧0≤(tl.length:Int)-1-n:=by
  have:∀p q:Bool,(if p=true then true else q)=false→p=false∧q=false:=by intro p q;cases p<;>cases q<;>simp
  obtain⟨h1,h2⟩:=this _ _ g2;simp only[decide_eq_false_iff_not]at h1 h2;exact⟨by omega,by omega⟩
 obtain⟨w,hw⟩:∃w,tl[((tl.length:Int)-1-n).toNat]? =some w:=⟨_,List.getElem?_eq_getElem (by omega)⟩
 have hP:cX ⟨ta,tl,tb,l,dd⟩ n=(w,⟨ta,tl,tb,l,dd⟩):=by unfold cX;rw[if_neg (fun e=>by rw[g2]at e;cases e)];rw[List.getD_eq_getElem?_getD,hw];rfl
 rw[hP];refine oK ?_;refine nJ ?_;refine lE ?_;exact aE aF ⟨_,by rfl,rfl⟩ aA
theorem WC(hp:Nq p r)(t:RT)(ha:t.a≤1000000)(op:Int):SCall Tryz.prog 300 [.ptr r 0,.int .i64 op] (jX E0 r p t) (fun y σ=>y=.bool (eP E0.bd t op).1∧σ=jX E0 r p (eP E0.bd t op).2):=by
 obtain⟨ta,tl,tb,l,dd⟩:=t;dsimp only at ha;have hu:∀b:Bool,(if decide ((ta:Int)<E0.bd.length)=true then((E0.bd.getD ta ⟨0,0,0,[]⟩).op==op)else false)=b→eP E0.bd ⟨ta,tl,tb,l,dd⟩ op=if b=true then(true,⟨ta+1,tl,tb,l,dd⟩)else(false,⟨ta,tl,tb,l,dd⟩):=fun b e=>by unfold eP;rw[e]
 refine cF 37 [0,1,4,29] Tryz.func300 ?_;unfold jX nG;dsimp only;refine bM ?_;by_cases hlt:ta<E0.bd.length
 ·obtain⟨x,hx⟩:∃x,E0.bd[ta]? =some x:=⟨_,List.getElem?_eq_getElem hlt⟩
  rw[List.getD_eq_getElem?_getD,hx,decide_eq_true (by omega)]at hu;refine fM [(0,true),(1,true),(2,true),(3,true),(4,true),(5,true),(6,true),(7,true),(8,true),(9,true),(10,true),(11,true),(12,true),(13,true),(14,true),(15,true),(16,true),(17,true),(18,true),(19,true),(20,true),(21,true),(22,true),(23,true),(24,true)] ?_;refine pC ?_;refine CY ?_;refine z46 ?_;rw[show decide ((ta:Int)<(E0.bd.length:Int))=true from decide_eq_true (by omega)];refine BQ ?_;refine sq7 ?_;refine rN ?_;refine zF ?_;refine sq7 ?_;refine rN ?_;refine TL ?_;refine aKA ?_;refine XC ?_;refine zF ?_;refine aEy ?_;refine aAM ?_;refine lF ?_;refine aB rfl (fun g1=> ?_) (fun g1=> ?_)
  ·rw[hu true g1];refine oK ?_;refine FH ?_;refine uO ?_;refine pX ?_;refine bM ?_;exact aE aF ⟨by rfl,rfl⟩ aA
  rw[hu false g1];refine bM ?_;exact aE aF ⟨by rfl,rfl⟩ aA
 ·rw[decide_eq_false (by omega)]at hu;rw[hu false rfl];refine fM [(0,true),(1,true),(2,true),(3,true),(4,true),(5,true),(6,true),(7,true),(8,true),(9,true),(10,true),(11,true),(12,true),(13,true),(14,true),(15,true),(16,true),(17,true),(18,true),(19,true),(20,true),(21,true),(22,true),(23,true),(24,true)] ?_;refine pC ?_;refine CY ?_;refine z46 ?_;rw[show decide ((ta:Int)<(E0.bd.length:Int))=false from decide_eq_false (by omega)];refine BQ ?_;refine sq7 ?_;refine rN ?_;refine zF ?_;refine sq7 ?_;refine rN ?_;refine TL ?_;refine aKA ?_;refine XC ?_;refine zF ?_;refine aEy ?_;refine aAM ?_;refine xA ?_;refine bM ?_;exact aE aF ⟨by rfl,rfl⟩ aA
end
theorem aBx(t:RT)(ks:List Int)(k:Int):aS t (ks++ [k])=aS (jE t k).2 ks:=by simp[aS]
theorem BC(t:RT)(k:Int):(jE t k).2.l.length≤t.l.length:=by
 unfold jE;refine aI (p:=fun r:Int×RT=>r.2.l.length≤t.l.length) (fun _=> ?_) (fun _=>by simp);exact aI (p:=fun r:RT=>r.l.length≤t.l.length) (fun _=>Nat.le_refl _) (fun _=>Nat.le_refl _)
theorem iP(t:RT)(ks:List Int):(aS t ks).l.length≤t.l.length:=AU (p:=fun q=>q.l.length≤t.l.length) (fun q w h=>Nat.le_trans (BC q w) h) ks t (Nat.le_refl _)
section
variable {r p z q : Nat} {E0 : Env}
theorem eY(hN:Nr r p z q)(t:RT)(hl:t.l.length≤1000000)(ks:List Int)(hkl:ks.length≤100000):SCall Tryz.prog 202 [.ptr r 0,.ptr z 0,.ro 1 (ks.map aP) .any] (fL E0 r p z q t) (fun _ σ=>σ=fL E0 r p z q (aS t ks)):=by
 have hN0:=hN;obtain⟨n1,n2,n3,n4,n5,n6⟩:=hN;refine cF 21 [0,1,2,6,11] Tryz.func202 ?_;unfold fL jX jF nG
 (try dsimp only[List.cons_append,List.nil_append]);refine dM ?_;refine kU ?_;refine tA ?_;refine dE ?_;refine lp (β:=Nat×RT) (fun b=>⟨[(0,.ptr r 0),(1,.ptr z 0),(2,.ro 1 (ks.map aP) .any),(6,.int .i64 ((b.1:Int)-1))],fL E0 r p z q b.2⟩) (fun b=>b.1≤ks.length∧b.2.l.length≤1000000∧aS b.2 (ks.take b.1)=aS t ks) (fun b=>b.1) (ks.length,t) (by unfold fL jX jF nG;(try dsimp only[List.cons_append,List.nil_append]);(exact aL)) ⟨Nat.le_refl _,hl,by rw[List.take_length]⟩ ?_;rintro⟨j,S⟩ ⟨hj,hS,hP⟩;dsimp only at hj hS hP⊢;unfold fL jX jF nG
 (try dsimp only[List.cons_append,List.nil_append]);refine dM ?_;refine zJ ?_;refine aB rfl (fun g1=> ?_) (fun g1=> ?_)
 ·obtain⟨j,rfl⟩:∃j',j=j'+1:=⟨j-1,by simp at g1;omega⟩
  obtain⟨k,hk⟩:∃k,ks[j]? =some k:=⟨_,List.getElem?_eq_getElem (by omega)⟩
  have hk':ks[(((j+1:Nat):Int)-1).toNat]? =some k:=by rw[show(((j+1:Nat):Int)-1).toNat=j by omega];exact hk
  refine tD ?_;refine nJ ?_;refine cw (fL E0 r p z q S) Tryz.call274 (BA hN0 S hS k) rfl aC dG ?_;rintro _ σ' ⟨rfl,rfl⟩ h20;refine xD ?_;refine iF ?_;refine dM ?_;refine tA ?_;refine dE ?_;refine⟨(j,(jE S k).2),⟨by show j≤ _;omega,Nat.le_trans (BC S k) hS,by rw[←hP,List.take_add_one,hk];show _=aS S (ks.take j++ [k]);rw[aBx]⟩,by show j<j+1;omega, ?_⟩
  (try dsimp only);rw[show(((j+1:Nat):Int)-1-1)=(j:Int)-1 by omega];exact aL
 obtain rfl:j=0:=by simp at g1;omega
 rw[show aS t ks=S by rw[←hP];rfl];refine aJ ?_;refine bY ?_;apply aE;exact aF
 ·rfl
 ·exact aA
theorem IJ(m:Md)(hi:m.im.length≤1000000)(f:Int)(hf:0≤f∧f≤9223372036854775807):SCall Tryz.prog 46 [.agg (bR m),.int .i64 f] [] (fun y σ=>y=.tup [.agg (dD (iO m f).1),.bool (iO m f).2]∧σ=[]):=by
 rw[wW hf.1];obtain⟨hf1,hf2⟩:=hf;refine cF 59 [0,1,2,4,5,6,15,34,52] Tryz.func46 ?_;unfold bR;refine dX ?_;refine iQ fun r2 h2=> ?_;intros
 refine jU fun r4 h4=> ?_;intros
 refine lJ ?_;refine hZ ?_;refine lo (gB (E rfl) (E rfl)) rfl ?_;rw[show decide ((0:Int)≤f)=true from decide_eq_true hf1];refine jL ?_;refine nA ?_;refine qU ?_;refine aEp ?_;refine vH ?_;refine aB rfl (fun g2=> ?_) (fun g2=> ?_)
 ·have g2':decide (f<m.im.length)=true:=by simpa using g2
  obtain⟨x,hx⟩:∃x,m.im[f.toNat]? =some x:=⟨_,List.getElem?_eq_getElem (by simp at g2';omega)⟩
  have hlt:f<m.im.length:=by simpa using g2'
  rw[show kQ m f=x.ty by unfold kQ;rw[if_pos g2',List.getD_eq_getElem?_getD,hx];rfl];refine fN ?_;refine pZ ?_;refine OV ?_;refine dE ?_;generalize x.ty=kk;refine iC ?_;refine vG ?_;refine nA ?_;refine aAP ?_;refine lL ?_;refine aB rfl (fun g6=> ?_) (fun g6=> ?_)
  ·rw[show cK m kk=(sR,false)from if_pos g6];refine uE ?_;refine GP ?_;refine dQ (gR (r:=r4) (cs':=dD sR) cA (.cons (.le VLe.empty) (.cons (.le VLe.empty) .nil))) ?_;refine aJ ?_;exact aE aF ⟨by rfl,rfl⟩ aA
  have h2:0≤kk∧kk<m.ty.length:=by constructor<;>(apply Int.not_lt.1;intro hc;apply Bool.false_ne_true;rw[←g6];simp;omega)
  obtain⟨t,ht⟩:∃t,m.ty[kk.toNat]? =some t:=⟨_,List.getElem?_eq_getElem (by omega)⟩
  rw[show cK m kk=(t,true) by unfold cK;rw[if_neg (by simpa using g6)];rw[List.getD_eq_getElem?_getD,ht];rfl];refine fN ?_;refine mX ?_;refine CW ?_;exact aE aF ⟨by rfl,rfl⟩ aA
 have g2':decide (f<m.im.length)=false:=by simpa using g2
 have hge:¬f<m.im.length:=by simpa using g2'
 refine dM ?_;refine lo (gB (E rfl) (E rfl)) rfl ?_;rw[show decide ((0:Int)≤f)=true from decide_eq_true hf1];refine jL ?_;refine nA ?_;refine qU ?_;first|refine ln rfl rfl rfl rfl ?_ |(refine gy rfl rfl ?_;(first|refine lo (sC (by first|exact W rfl id|exact E rfl) (by first|exact W rfl id|exact E rfl) (by omega) (by omega)) rfl ?_ |refine lo (FF (by first|exact W rfl id|exact E rfl) (by first|exact W rfl id|exact E rfl)) rfl ?_))|refine lg rfl rfl (sC (by first|exact W rfl id|exact E rfl) (by first|exact W rfl id|exact E rfl) (by omega) (by omega)) rfl ?_ |refine lg rfl rfl (lop_sub64c (by first|exact W rfl id|exact E rfl) (by first|exact W rfl id|exact E rfl) (fun hc=>by simp at hc<;>first|omega|(have hov:=hov hc;omega))) rfl ?_ |refine lg rfl rfl (FF (by first|exact W rfl id|exact E rfl) (by first|exact W rfl id|exact E rfl)) rfl ?_
 refine nA ?_;refine qU ?_;refine aEp ?_;refine vH ?_;refine aB rfl (fun g4=> ?_) (fun g4=> ?_)
 ·have g4':decide (f-m.im.length<m.fn.length)=true:=by simpa using g4
  obtain⟨kk,hx⟩:∃x,m.fn[(f-m.im.length).toNat]? =some x:=⟨_,List.getElem?_eq_getElem (by simp at g4';omega)⟩
  have hlt:f-m.im.length<m.fn.length:=by simpa using g4'
  rw[show kQ m f=kk by unfold kQ;rw[if_neg (by simpa using g2'),if_pos g4',List.getD_eq_getElem?_getD,hx];rfl];refine fN ?_;refine lo (aD (E rfl)) rfl ?_;refine fW ?_;refine kU ?_;refine tA ?_;refine mI ?_;refine hZ ?_;refine vG ?_;refine nA ?_;refine aAP ?_;refine lL ?_;refine aB rfl (fun g6=> ?_) (fun g6=> ?_)
  ·rw[show cK m kk=(sR,false)from if_pos g6];refine uE ?_;refine GP ?_;refine dQ (gR (r:=r4) (cs':=dD sR) cA (.cons (.le VLe.empty) (.cons (.le VLe.empty) .nil))) ?_;refine aJ ?_;exact aE aF ⟨by rfl,rfl⟩ aA
  have h2:0≤kk∧kk<m.ty.length:=by constructor<;>(apply Int.not_lt.1;intro hc;apply Bool.false_ne_true;rw[←g6];simp;omega)
  obtain⟨t,ht⟩:∃t,m.ty[kk.toNat]? =some t:=⟨_,List.getElem?_eq_getElem (by omega)⟩
  rw[show cK m kk=(t,true) by unfold cK;rw[if_neg (by simpa using g6)];rw[List.getD_eq_getElem?_getD,ht];rfl];refine fN ?_;refine mX ?_;refine CW ?_;exact aE aF ⟨by rfl,rfl⟩ aA
 have g4':decide (f-m.im.length<m.fn.length)=false:=by simpa using g4
 obtain⟨kk,hkk⟩:∃kk:Int,kk=-1:=⟨_,rfl⟩
 rw[show kQ m f=kk by rw[hkk];unfold kQ;rw[if_neg (by simpa using g2'),if_neg (by simpa using g4')],show cV (Value.int .i64 (-1))=AV.int .i64 kk by rw[hkk];rfl];refine dM ?_;refine vG ?_;refine nA ?_;refine aAP ?_;refine lL ?_;refine aB rfl (fun g6=> ?_) (fun g6=> ?_)
 ·rw[show cK m kk=(sR,false)from if_pos g6];refine uE ?_;refine GP ?_;refine dQ (gR (r:=r4) (cs':=dD sR) cA (.cons (.le VLe.empty) (.cons (.le VLe.empty) .nil))) ?_;refine aJ ?_;exact aE aF ⟨by rfl,rfl⟩ aA
 have h2:0≤kk∧kk<m.ty.length:=by constructor<;>(apply Int.not_lt.1;intro hc;apply Bool.false_ne_true;rw[←g6];simp;omega)
 obtain⟨t,ht⟩:∃t,m.ty[kk.toNat]? =some t:=⟨_,List.getElem?_eq_getElem (by omega)⟩
 rw[show cK m kk=(t,true) by unfold cK;rw[if_neg (by simpa using g6)];rw[List.getD_eq_getElem?_getD,ht];rfl];refine fN ?_;refine mX ?_;refine CW ?_;exact aE aF ⟨by rfl,rfl⟩ aA
end
section
variable {r p z q : Nat} {E0 : Env}
theorem YQ(hN:Nr r p z q)(t:RT)(hl:t.l.length≤900000)(x:Ins):SCall Tryz.prog 304 [.ptr r 0,.agg (iv .any x),.ptr z 0] (fL E0 r p z q t) (fun _ σ=>∃e,Nr r p z e∧σ=fL E0 r p z e (DV E0.m x t)):=by
 have hN0:=hN;obtain⟨n1,n2,n3,n4,n5,n6⟩:=hN;have hl1:(if(!E0.m.me.has)=true then eG t else t).l.length≤900000:=aI (p:=fun r:RT=>r.l.length≤900000) (fun _=>hl) (fun _=>hl);unfold DV;unfold iv;refine cF 63 [0,1,2,4,6,7,14,19,20,23,26,31,43,49] Tryz.func304 ?_;unfold fL jX jF nG
 (try dsimp only[List.cons_append,List.nil_append]);refine dX ?_;refine iQ fun r4 h4=> ?_;intros
 refine iF ?_;refine KM ?_;refine wL ?_;refine fW ?_;refine qV ?_;refine WZ (β:=Unit) (fun _=>⟨[(0,.ptr r 0),(2,.ptr z 0),(4,.ptr r4 0)],(r4,.box 46 [.int .i64 x.op,.int .i64 x.a,.int .i64 x.b,.ro 1 (x.l.map aP) .any])::fL E0 r p z q (if(!E0.m.me.has)=true then eG t else t)⟩) (fun _=>True) ?_ ?_
 ·refine aB rfl (fun g1=> ?_) (fun g1=> ?_)
  ·rw[if_pos (c:=(!E0.m.me.has)=true) g1];refine sG ?_;exact⟨(),trivial,aL⟩
  rw[if_neg (c:=(!E0.m.me.has)=true) (fun e=>by rw[g1]at e;cases e)];refine aJ ?_;exact⟨(),trivial,aL⟩
 rintro⟨⟩-;generalize(if(!E0.m.me.has)=true then eG t else t)=t1 at hl1⊢;unfold fL jX jF nG
 (try dsimp only[List.cons_append,List.nil_append]);refine bM ?_;refine jQ ?_;refine iW ?_;refine qA ?_;apply fE rfl;exact cT
 ·intro _;(refine aJ ?_);refine eU ?_;exact aL
 refine aJ ?_;refine aB rfl (fun g6=> ?_) (fun g6=> ?_)
 ·rw[show AT x t1=tT x 2 1 t1 from if_pos g6];refine bM ?_;obtain⟨c,k,hc,hk⟩:∃c k:Int,c=2∧k=1:=⟨_,_,rfl,rfl⟩
  rw[show tT x 2 1 t1=tT x c k t1 by rw[hc,hk],show cV (Value.int .i64 2)=AV.int .i64 c by rw[hc];rfl,show cV (Value.int .i64 1)=AV.int .i64 k by rw[hk];rfl];rw[show tT x c k t1=if decide (54≤x.op)=true then aS (if decide (c<x.a)=true then eG t1 else t1) [1,k]else gS (aS (if decide (c<x.a)=true then eG t1 else t1) [1]) [k]from rfl];have hl2:(if decide (c<x.a)=true then eG t1 else t1).l.length≤900000:=aI (p:=fun r:RT=>r.l.length≤900000) (fun _=>hl1) (fun _=>hl1);refine mK ?_;refine lo (aD (E rfl)) rfl ?_;refine PC ?_;refine WZ (β:=Unit) (fun _=>⟨[(0,.ptr r 0),(2,.ptr z 0),(4,.ptr r4 0),(7,.int .i64 k)],(r4,.box 46 [.int .i64 x.op,.int .i64 x.a,.int .i64 x.b,.ro 1 (x.l.map aP) .any])::fL E0 r p z q (if decide (c<x.a)=true then eG t1 else t1)⟩) (fun _=>True) ?_ ?_
  ·refine aB rfl (fun g17=> ?_) (fun g17=> ?_)
   ·rw[if_pos (c:=decide (c<x.a)=true) g17];refine sG ?_;exact⟨(),trivial,aL⟩
   rw[if_neg (c:=decide (c<x.a)=true) (fun e=>by rw[g17]at e;cases e)];refine aJ ?_;exact⟨(),trivial,aL⟩
  rintro⟨⟩-;generalize(if decide (c<x.a)=true then eG t1 else t1)=t2 at hl2⊢;unfold fL jX jF nG
  (try dsimp only[List.cons_append,List.nil_append]);have htl2:=iP t2 [1];refine fN ?_;refine zJ ?_;refine aB rfl (fun g19=> ?_) (fun g19=> ?_)
  ·rw[if_pos (c:=decide (54≤x.op)=true) g19];have hL:=hN0;refine tD ?_;refine eN fun r53 h53=> ?_;intros
   refine gJ (j:=53) rfl aU (aK bA (by simp)) ?_;refine cw (fL E0 r p z q t2) Tryz.call202 (eY hN0 t2 (by omega) [1,k] (by simp)) rfl aC dG ?_;rintro _ σ' rfl h54;refine qW ?_;exact aE aF ⟨_,hL,rfl⟩ aA
  rw[if_neg (c:=decide (54≤x.op)=true) (fun e=>by rw[g19]at e;cases e)];refine eX ?_;refine eN fun r57 h57=> ?_;intros
  refine gJ (j:=57) rfl aU (aK bA (by simp)) ?_;refine cw (fL E0 r p z q t2) Tryz.call202 (eY hN0 t2 (by omega) [1] (by simp)) rfl aC dG ?_;rintro _ σ' rfl h58;refine xD ?_;refine iF ?_;refine eX ?_;refine eN fun r61 h61=> ?_;intros
  refine gJ (j:=61) rfl aU (aK bA (by simp)) ?_;refine cw (jF z q (aS t2 [1])) Tryz.call275 (jA hN0.qz _ (by omega) [k] (by simp)) rfl aC dG ?_;rintro _ σ' ⟨e,he,rfl⟩ h62
  (try unfold fL);(try unfold jX);(try unfold jF);(try unfold nG);(try dsimp only[List.cons_append,List.nil_append]);refine sY (h62 _ (List.mem_cons_of_mem _ List.mem_cons_self)) fun k62=> ?_;intros
  have hL:Nr r p z e:=⟨hN0.pr,hN0.zr,hN0.zp,by(exact bV),by(exact bV),by(exact bV)⟩
  refine gX ?_;refine bY ?_;exact aE aF ⟨_,hL,rfl⟩ aA
 refine cZ ?_;apply fE rfl;exact cT
 ·intro _;(refine aJ ?_);refine eU ?_;exact aL
 refine aJ ?_;refine aB rfl (fun g9=> ?_) (fun g9=> ?_)
 ·rw[show AT x t1=tT x 3 2 t1 by unfold AT;simp only[g6,g9,if_true,if_false,Bool.false_eq_true]];refine dX ?_;refine lE ?_;obtain⟨c,k,hc,hk⟩:∃c k:Int,c=3∧k=2:=⟨_,_,rfl,rfl⟩
  rw[show tT x 3 2 t1=tT x c k t1 by rw[hc,hk],show cV (Value.int .i64 3)=AV.int .i64 c by rw[hc];rfl,show cV (Value.int .i64 2)=AV.int .i64 k by rw[hk];rfl];rw[show tT x c k t1=if decide (54≤x.op)=true then aS (if decide (c<x.a)=true then eG t1 else t1) [1,k]else gS (aS (if decide (c<x.a)=true then eG t1 else t1) [1]) [k]from rfl];have hl2:(if decide (c<x.a)=true then eG t1 else t1).l.length≤900000:=aI (p:=fun r:RT=>r.l.length≤900000) (fun _=>hl1) (fun _=>hl1);refine mK ?_;refine lo (aD (E rfl)) rfl ?_;refine PC ?_;refine WZ (β:=Unit) (fun _=>⟨[(0,.ptr r 0),(2,.ptr z 0),(4,.ptr r4 0),(7,.int .i64 k)],(r4,.box 46 [.int .i64 x.op,.int .i64 x.a,.int .i64 x.b,.ro 1 (x.l.map aP) .any])::fL E0 r p z q (if decide (c<x.a)=true then eG t1 else t1)⟩) (fun _=>True) ?_ ?_
  ·refine aB rfl (fun g17=> ?_) (fun g17=> ?_)
   ·rw[if_pos (c:=decide (c<x.a)=true) g17];refine sG ?_;exact⟨(),trivial,aL⟩
   rw[if_neg (c:=decide (c<x.a)=true) (fun e=>by rw[g17]at e;cases e)];refine aJ ?_;exact⟨(),trivial,aL⟩
  rintro⟨⟩-;generalize(if decide (c<x.a)=true then eG t1 else t1)=t2 at hl2⊢;unfold fL jX jF nG
  (try dsimp only[List.cons_append,List.nil_append]);have htl2:=iP t2 [1];refine fN ?_;refine zJ ?_;refine aB rfl (fun g19=> ?_) (fun g19=> ?_)
  ·rw[if_pos (c:=decide (54≤x.op)=true) g19];have hL:=hN0;refine tD ?_;refine z1 ?_;refine bL fun r53 h53=> ?_;repeat rcases h53 with⟨_,h53⟩
   refine gJ (j:=53) rfl aU (aK bA (by simp)) ?_;refine cw (fL E0 r p z q t2) Tryz.call202 (eY hN0 t2 (by omega) [1,k] (by simp)) rfl aC dG ?_;rintro _ σ' rfl h54;refine qW ?_;exact aE aF ⟨_,hL,rfl⟩ aA
  rw[if_neg (c:=decide (54≤x.op)=true) (fun e=>by rw[g19]at e;cases e)];refine eX ?_;refine z1 ?_;refine bL fun r57 h57=> ?_;repeat rcases h57 with⟨_,h57⟩
  refine gJ (j:=57) rfl aU (aK bA (by simp)) ?_;refine cw (fL E0 r p z q t2) Tryz.call202 (eY hN0 t2 (by omega) [1] (by simp)) rfl aC dG ?_;rintro _ σ' rfl h58;refine xD ?_;refine iF ?_;refine eX ?_;refine z1 ?_;refine bL fun r61 h61=> ?_;repeat rcases h61 with⟨_,h61⟩
  refine gJ (j:=61) rfl aU (aK bA (by simp)) ?_;refine cw (jF z q (aS t2 [1])) Tryz.call275 (jA hN0.qz _ (by omega) [k] (by simp)) rfl aC dG ?_;rintro _ σ' ⟨e,he,rfl⟩ h62
  (try unfold fL);(try unfold jX);(try unfold jF);(try unfold nG);(try dsimp only[List.cons_append,List.nil_append]);refine sY (h62 _ (List.mem_cons_of_mem _ List.mem_cons_self)) fun k62=> ?_;intros
  have hL:Nr r p z e:=⟨hN0.pr,hN0.zr,hN0.zp,by(exact bV),by(exact bV),by(exact bV)⟩
  refine gX ?_;refine bY ?_;exact aE aF ⟨_,hL,rfl⟩ aA
 refine cZ ?_;refine aB rfl (fun g12=> ?_) (fun g12=> ?_)
 ·rw[show AT x t1=gS t1 [1] by unfold AT;simp only[g6,g9,g12,if_true,if_false,Bool.false_eq_true]];refine dM ?_;refine eN fun r29 h29=> ?_;intros
  refine gJ (j:=29) rfl aU (aK bA (by simp)) ?_;refine cw (jF z q t1) Tryz.call275 (jA hN0.qz t1 (by omega) [1] (by simp)) rfl aC dG ?_;rintro _ σ' ⟨e,he,rfl⟩ h30
  (try unfold fL);(try unfold jX);(try unfold jF);(try unfold nG);(try dsimp only[List.cons_append,List.nil_append]);refine sY (h30 _ (List.mem_cons_of_mem _ List.mem_cons_self)) fun k30=> ?_;intros
  have hL:Nr r p z e:=⟨hN0.pr,hN0.zr,hN0.zp,by(exact bV),by(exact bV),by(exact bV)⟩
  refine gX ?_;exact aE aF ⟨_,hL,rfl⟩ aA
 refine cZ ?_;refine aB rfl (fun g14=> ?_) (fun g14=> ?_)
 ·rw[show AT x t1=gS (aS t1 [1]) [1] by unfold AT;simp only[g6,g9,g12,g14,if_true,if_false,Bool.false_eq_true]];have htl:=iP t1 [1];refine eX ?_;refine eN fun r35 h35=> ?_;intros
  refine gJ (j:=35) rfl aU (aK bA (by simp)) ?_;refine cw (fL E0 r p z q t1) Tryz.call202 (eY hN0 t1 (by omega) [1] (by simp)) rfl aC dG ?_;rintro _ σ' rfl h36;refine xD ?_;refine iF ?_;refine dM ?_;refine eN fun r38 h38=> ?_;intros
  refine gJ (j:=38) rfl aU (aK bA (by simp)) ?_;refine cw (jF z q (aS t1 [1])) Tryz.call275 (jA hN0.qz _ (by omega) [1] (by simp)) rfl aC dG ?_;rintro _ σ' ⟨e,he,rfl⟩ h39
  (try unfold fL);(try unfold jX);(try unfold jF);(try unfold nG);(try dsimp only[List.cons_append,List.nil_append]);refine sY (h39 _ (List.mem_cons_of_mem _ List.mem_cons_self)) fun k39=> ?_;intros
  have hL:Nr r p z e:=⟨hN0.pr,hN0.zr,hN0.zp,by(exact bV),by(exact bV),by(exact bV)⟩
  refine gX ?_;exact aE aF ⟨_,hL,rfl⟩ aA
 rw[show AT x t1=tT x 0 1 t1 by unfold AT;simp only[g6,g9,g12,g14,if_true,if_false,Bool.false_eq_true]];obtain⟨c,k,hc,hk⟩:∃c k:Int,c=0∧k=1:=⟨_,_,rfl,rfl⟩
 rw[show tT x 0 1 t1=tT x c k t1 by rw[hc,hk],show cV (Value.int .i64 0)=AV.int .i64 c by rw[hc];rfl,show cV (Value.int .i64 1)=AV.int .i64 k by rw[hk];rfl];refine aJ ?_;rw[show tT x c k t1=if decide (54≤x.op)=true then aS (if decide (c<x.a)=true then eG t1 else t1) [1,k]else gS (aS (if decide (c<x.a)=true then eG t1 else t1) [1]) [k]from rfl];have hl2:(if decide (c<x.a)=true then eG t1 else t1).l.length≤900000:=aI (p:=fun r:RT=>r.l.length≤900000) (fun _=>hl1) (fun _=>hl1);refine mK ?_;refine lo (aD (E rfl)) rfl ?_;refine PC ?_;refine WZ (β:=Unit) (fun _=>⟨[(0,.ptr r 0),(2,.ptr z 0),(4,.ptr r4 0),(7,.int .i64 k)],(r4,.box 46 [.int .i64 x.op,.int .i64 x.a,.int .i64 x.b,.ro 1 (x.l.map aP) .any])::fL E0 r p z q (if decide (c<x.a)=true then eG t1 else t1)⟩) (fun _=>True) ?_ ?_
 ·refine aB rfl (fun g17=> ?_) (fun g17=> ?_)
  ·rw[if_pos (c:=decide (c<x.a)=true) g17];refine sG ?_;exact⟨(),trivial,aL⟩
  rw[if_neg (c:=decide (c<x.a)=true) (fun e=>by rw[g17]at e;cases e)];refine aJ ?_;exact⟨(),trivial,aL⟩
 rintro⟨⟩-;generalize(if decide (c<x.a)=true then eG t1 else t1)=t2 at hl2⊢;unfold fL jX jF nG
 (try dsimp only[List.cons_append,List.nil_append]);have htl2:=iP t2 [1];refine fN ?_;refine zJ ?_;refine aB rfl (fun g19=> ?_) (fun g19=> ?_)
 ·rw[if_pos (c:=decide (54≤x.op)=true) g19];have hL:=hN0;refine tD ?_;refine z1 ?_;refine bL fun r53 h53=> ?_;repeat rcases h53 with⟨_,h53⟩
  refine gJ (j:=53) rfl aU (aK bA (by simp)) ?_;refine cw (fL E0 r p z q t2) Tryz.call202 (eY hN0 t2 (by omega) [1,k] (by simp)) rfl aC dG ?_;rintro _ σ' rfl h54;refine qW ?_;exact aE aF ⟨_,hL,rfl⟩ aA
 rw[if_neg (c:=decide (54≤x.op)=true) (fun e=>by rw[g19]at e;cases e)];refine eX ?_;refine z1 ?_;refine bL fun r57 h57=> ?_;repeat rcases h57 with⟨_,h57⟩
 refine gJ (j:=57) rfl aU (aK bA (by simp)) ?_;refine cw (fL E0 r p z q t2) Tryz.call202 (eY hN0 t2 (by omega) [1] (by simp)) rfl aC dG ?_;rintro _ σ' rfl h58;refine xD ?_;refine iF ?_;refine eX ?_;refine z1 ?_;refine bL fun r61 h61=> ?_;repeat rcases h61 with⟨_,h61⟩
 refine gJ (j:=61) rfl aU (aK bA (by simp)) ?_;refine cw (jF z q (aS t2 [1])) Tryz.call275 (jA hN0.qz _ (by omega) [k] (by simp)) rfl aC dG ?_;rintro _ σ' ⟨e,he,rfl⟩ h62
 (try unfold fL);(try unfold jX);(try unfold jF);(try unfold nG);(try dsimp only[List.cons_append,List.nil_append]);refine sY (h62 _ (List.mem_cons_of_mem _ List.mem_cons_self)) fun k62=> ?_;intros
 have hL:Nr r p z e:=⟨hN0.pr,hN0.zr,hN0.zp,by(exact bV),by(exact bV),by(exact bV)⟩
 refine gX ?_;refine bY ?_;exact aE aF ⟨_,hL,rfl⟩ aA
end
section
variable {r p z q : Nat} {E0 : Env}
theorem aBy(hN:Nr r p z q)(t:RT)(hl:t.l.length≤900000)(x:Ins)(hx:x.Ck):SCall Tryz.prog 277 [.ptr r 0,.agg (iv .any x),.ptr z 0] (fL E0 r p z q t) (fun _ σ=>∃e,Nr r p z e∧σ=fL E0 r p z e (gF E0.m E0.ls x t)):=by
  have hN0:=hN;obtain⟨n1,n2,n3,n4,n5,n6⟩:=hN;have htl:=fun k=>iP t [k]
  unfold iv;refine cF 118 [0,1,2,4,6,7,9,14,19,24,35,49,57,62,91,108] Tryz.func277 ?_;unfold fL jX jF nG
  (try dsimp only[List.cons_append,List.nil_append]);refine dX ?_;refine iQ fun r4 h4=> ?_;intros
  refine iF ?_;refine fN ?_;refine qA ?_;refine aB rfl (fun g3=> ?_) (fun g3=> ?_)
  · rw[show gF E0.m E0.ls x t=gS t [1]from if_pos g3];refine dM ?_;refine eN fun r17 h17=> ?_;intros
    refine gJ (j:=17) rfl aU (aK bA (by simp)) ?_;refine cw (jF z q t) Tryz.call275 (jA hN0.qz t (by omega) [1] (by simp)) rfl aC dG ?_;rintro _ σ' ⟨e,he,rfl⟩ h18
    (try unfold fL);(try unfold jX);(try unfold jF);(try unfold nG);(try dsimp only[List.cons_append,List.nil_append]);refine sY (h18 _ (List.mem_cons_of_mem _ List.mem_cons_self)) fun k18=> ?_;intros
    have hL:Nr r p z e:=⟨hN0.pr,hN0.zr,hN0.zp,by(exact bV),by(exact bV),by(exact bV)⟩
    refine gX ?_;refine bY ?_;exact aE aF ⟨_,hL,rfl⟩ aA
  refine cZ ?_;refine aB rfl (fun g5=> ?_) (fun g5=> ?_)
  · rw[show gF E0.m E0.ls x t=gS t [2] by unfold gF;simp only[g3,g5,if_true,if_false,Bool.false_eq_true]];refine dM ?_;refine eN fun r22 h22=> ?_;intros
    refine gJ (j:=22) rfl aU (aK bA (by simp)) ?_;refine cw (jF z q t) Tryz.call275 (jA hN0.qz t (by omega) [2] (by simp)) rfl aC dG ?_;rintro _ σ' ⟨e,he,rfl⟩ h23
    (try unfold fL);(try unfold jX);(try unfold jF);(try unfold nG);(try dsimp only[List.cons_append,List.nil_append]);refine sY (h23 _ (List.mem_cons_of_mem _ List.mem_cons_self)) fun k23=> ?_;intros
    have hL:Nr r p z e:=⟨hN0.pr,hN0.zr,hN0.zp,by(exact bV),by(exact bV),by(exact bV)⟩
    refine gX ?_;refine bY ?_;exact aE aF ⟨_,hL,rfl⟩ aA
  refine cZ ?_;apply fE rfl;exact cT
  · intro _;(refine aJ ?_);refine eU ?_;apply eD rfl;exact cT
    · intro _;(refine aJ ?_);refine eU ?_;exact aL
    exact aL
  refine aJ ?_;refine aB rfl (fun g7=> ?_) (fun g7=> ?_)
  · have ha:0≤x.a:=hx.nn (by simp only[Bool.or_eq_true,beq_iff_eq]at g7;omega);rw[show gF E0.m E0.ls x t=if decide ((E0.ls.length:Int)≤x.a)=true then eG t else if(x.op !=33)=true then gS (if(x.op !=32)=true then aS t [E0.ls.getD x.a.toNat 0]else t) [E0.ls.getD x.a.toNat 0]else(if(x.op !=32)=true then aS t [E0.ls.getD x.a.toNat 0]else t) by unfold gF;simp only[g3,g5,g7,if_true,if_false,Bool.false_eq_true]];refine aJ ?_;refine fM [(0,true),(1,true),(2,true),(3,true),(4,true),(5,true),(6,true),(7,true)] ?_;refine fX ?_;refine CY ?_;refine fI rfl (gB (E rfl) (E rfl)) rfl ?_;refine lF ?_;refine aB rfl (fun g10=> ?_) (fun g10=> ?_)
    · rw[if_pos (c:=decide ((E0.ls.length:Int)≤x.a)=true) g10];have hL:=hN0;refine sG ?_;exact aE aF ⟨_,hL,rfl⟩ aA
    rw[if_neg (c:=decide ((E0.ls.length:Int)≤x.a)=true) (fun e=>by rw[g10]at e;cases e)];have hlt:x.a<E0.ls.length:=by simpa using g10
    obtain⟨k,hk⟩:∃k,E0.ls[x.a.toNat]? =some k:=⟨_,List.getElem?_eq_getElem (by omega)⟩
    rw[show E0.ls.getD x.a.toNat 0=k by rw[List.getD_eq_getElem?_getD,hk];rfl];refine aJ ?_;refine fM [(0,true),(1,true),(2,true),(3,true),(4,true),(5,true),(6,true),(7,true),(8,true)] ?_;refine pC ?_;refine fX ?_;refine MT ?_;refine WR ?_;refine yB ?_;have hl2:(if(x.op !=32)=true then aS t [k]else t).l.length≤900000:=aI (p:=fun r:RT=>r.l.length≤900000) (fun _=>Nat.le_trans (htl k) hl) (fun _=>hl);refine mK ?_;refine lX ?_;refine WZ (β:=Unit) (fun _=>⟨[(0,.ptr r 0),(2,.ptr z 0),(4,.ptr r4 0),(6,.int .i64 k)],(r4,.box 46 [.int .i64 x.op,.int .i64 x.a,.int .i64 x.b,.ro 1 (x.l.map aP) .any])::fL E0 r p z q (if(x.op !=32)=true then aS t [k]else t)⟩) (fun _=>True) ?_ ?_
    · refine aB rfl (fun g13=> ?_) (fun g13=> ?_)
      · rw[if_pos (c:=(x.op !=32)=true) g13];refine tD ?_;refine eN fun r53 h53=> ?_;intros
        refine gJ (j:=53) rfl aU (aK bA (by simp)) ?_;refine cw (fL E0 r p z q t) Tryz.call202 (eY hN0 t (by omega) [k] (by simp)) rfl aC dG ?_;rintro _ σ' rfl h54;refine qW ?_;exact⟨(),trivial,aL⟩
      rw[if_neg (c:=(x.op !=32)=true) (fun e=>by rw[g13]at e;cases e)];refine aJ ?_;exact⟨(),trivial,aL⟩
    rintro⟨⟩-;generalize(if(x.op !=32)=true then aS t [k]else t)=t2 at hl2⊢;unfold fL jX jF nG
    (try dsimp only[List.cons_append,List.nil_append]);refine fN ?_;refine lX ?_;refine aB rfl (fun g15=> ?_) (fun g15=> ?_)
    · rw[if_pos (c:=(x.op !=33)=true) g15];refine eX ?_;refine eN fun r60 h60=> ?_;intros
      refine gJ (j:=60) rfl aU (aK bA (by simp)) ?_;refine cw (jF z q t2) Tryz.call275 (jA hN0.qz t2 (by omega) [k] (by simp)) rfl aC dG ?_;rintro _ σ' ⟨e,he,rfl⟩ h61
      (try unfold fL);(try unfold jX);(try unfold jF);(try unfold nG);(try dsimp only[List.cons_append,List.nil_append]);refine sY (h61 _ (List.mem_cons_of_mem _ List.mem_cons_self)) fun k61=> ?_;intros
      have hL:Nr r p z e:=⟨hN0.pr,hN0.zr,hN0.zp,by(exact bV),by(exact bV),by(exact bV)⟩
      refine gX ?_;refine bY ?_;exact aE aF ⟨_,hL,rfl⟩ aA
    rw[if_neg (c:=(x.op !=33)=true) (fun e=>by rw[g15]at e;cases e)];have hL:=hN0;refine aJ ?_;refine bY ?_;exact aE aF ⟨_,hL,rfl⟩ aA
  refine cZ ?_;apply fE rfl;exact cT
  · intro _;(refine aJ ?_);refine eU ?_;exact aL
  refine aJ ?_;refine aB rfl (fun g17=> ?_) (fun g17=> ?_)
  · have ha:0≤x.a:=hx.nn (by simp only[Bool.or_eq_true,beq_iff_eq]at g17;omega);rw[show gF E0.m E0.ls x t=if(if decide ((E0.m.gl.length:Int)≤x.a)=true then true else if(x.op==36)=true then !(E0.m.gl.getD x.a.toNat NX).mu else false)=true then eG t else if(x.op==35)=true then gS t [(E0.m.gl.getD x.a.toNat NX).kd]else aS t [(E0.m.gl.getD x.a.toNat NX).kd] by unfold gF;simp only[g3,g5,g7,g17,if_true,if_false,Bool.false_eq_true]];refine aJ ?_;by_cases hlt:(E0.m.gl.length:Int)≤x.a
    · rw[if_pos (c:=(if decide ((E0.m.gl.length:Int)≤x.a)=true then true else if(x.op==36)=true then !(E0.m.gl.getD x.a.toNat NX).mu else false)=true) (by rw[decide_eq_true hlt];rfl)];have hL:=hN0;refine fM [(0,true),(1,true),(2,true),(3,true),(4,true),(5,true),(6,true),(7,true),(8,true),(9,true),(10,true),(11,true),(12,true),(13,true),(14,true),(15,true),(16,true),(17,true),(18,true),(19,true),(20,true),(21,true),(22,true),(23,true),(24,true),(25,true),(26,true)] ?_;refine fX ?_;refine GL ?_;refine OW ?_;refine fX ?_;refine WS ?_;refine fI rfl (gB (E rfl) (E rfl)) rfl ?_;rw[show decide ((E0.m.gl.length:Int)≤x.a)=true from decide_eq_true hlt];refine GQ ?_;refine rN ?_;refine aKC ?_;first|refine jY rfl rfl rfl rfl rfl ?_ |(refine eS rfl rfl rfl (aD (E rfl)) rfl ?_)|refine eQ rfl rfl rfl (aD (E rfl)) rfl ?_ |refine eJ rfl rfl rfl (aD (E rfl)) rfl ?_ |refine eJ rfl rfl rfl (bS (v:=.bool false)) rfl ?_
      first|refine jY rfl rfl rfl rfl rfl ?_ |(first|refine eS rfl rfl rfl (bE (by first|exact W rfl id|exact E rfl) (.inl ⟨_,_,rfl⟩)) rfl ?_ |refine eS rfl rfl rfl (bE (by first|exact W rfl id|exact E rfl) (.inr (.inl ⟨_,_,_,rfl⟩))) rfl ?_ |refine eS rfl rfl rfl (bE (by first|exact W rfl id|exact E rfl) (.inr (.inr ⟨_,_,_,_,rfl⟩))) rfl ?_)|refine eQ rfl rfl rfl (bE (by first|exact W rfl (by first|exact id|simp)|exact E rfl) (.inl ⟨_,_,rfl⟩)) rfl ?_ |refine eQ rfl rfl rfl (bE (by first|exact W rfl (by first|exact id|simp)|exact E rfl) (.inr (.inl ⟨_,_,_,rfl⟩))) rfl ?_ |refine eQ rfl rfl rfl (bE (by first|exact W rfl (by first|exact id|simp)|exact E rfl) (.inr (.inr ⟨_,_,_,_,rfl⟩))) rfl ?_ |refine eJ rfl rfl rfl (bE (by first|exact W rfl (by first|exact id|simp)|exact E rfl) (.inl ⟨_,_,rfl⟩)) rfl ?_ |refine eJ rfl rfl rfl (bE (by first|exact W rfl (by first|exact id|simp)|exact E rfl) (.inr (.inl ⟨_,_,_,rfl⟩))) rfl ?_ |refine eJ rfl rfl rfl (bE (by first|exact W rfl (by first|exact id|simp)|exact E rfl) (.inr (.inr ⟨_,_,_,_,rfl⟩))) rfl ?_ |refine eJ rfl rfl rfl (bS (v:=.bool false)) rfl ?_
      first|refine jY rfl rfl rfl rfl rfl ?_ |(first|refine eS rfl rfl rfl (bD (by first|exact W rfl id|exact E rfl) rfl (by decide)) rfl ?_ |refine eS rfl rfl rfl (bK (by first|exact W rfl id|exact E rfl) rfl (by decide)) rfl ?_)|refine eQ rfl rfl rfl (bD (by first|exact W rfl (by first|exact id|simp)|exact E rfl) rfl (by decide)) rfl ?_ |refine eQ rfl rfl rfl (bK (by first|exact W rfl (by first|exact id|simp)|exact E rfl) rfl (by decide)) rfl ?_ |refine eJ rfl rfl rfl (bD (by first|exact W rfl (by first|exact id|simp)|exact E rfl) rfl (by decide)) rfl ?_ |refine eJ rfl rfl rfl (bK (by first|exact W rfl (by first|exact id|simp)|exact E rfl) rfl (by decide)) rfl ?_ |refine eJ rfl rfl rfl (bS (v:=.bool false)) rfl ?_
      first|refine jY rfl rfl rfl rfl rfl ?_ |(first|refine eS rfl rfl rfl (bD (by first|exact W rfl id|exact E rfl) rfl (by decide)) rfl ?_ |refine eS rfl rfl rfl (bK (by first|exact W rfl id|exact E rfl) rfl (by decide)) rfl ?_)|refine eQ rfl rfl rfl (bD (by first|exact W rfl (by first|exact id|simp)|exact E rfl) rfl (by decide)) rfl ?_ |refine eQ rfl rfl rfl (bK (by first|exact W rfl (by first|exact id|simp)|exact E rfl) rfl (by decide)) rfl ?_ |refine eJ rfl rfl rfl (bD (by first|exact W rfl (by first|exact id|simp)|exact E rfl) rfl (by decide)) rfl ?_ |refine eJ rfl rfl rfl (bK (by first|exact W rfl (by first|exact id|simp)|exact E rfl) rfl (by decide)) rfl ?_ |refine eJ rfl rfl rfl (bS (v:=.bool false)) rfl ?_
      first
        |refine jY rfl rfl rfl rfl rfl ?_
        |(
          first
           |refine eS rfl rfl rfl (aM (by
            first
             |exact W rfl id
             |exact E rfl) rfl bA (fun _=>rfl)) rfl ?_
           |refine eS rfl rfl rfl (aM (by
            first
             |exact W rfl id
             |exact E rfl) rfl bA (fun _=>by assumption)) rfl ?_
           |refine eS rfl rfl rfl (aN (by
            first
             |exact W rfl id
             |exact E rfl) rfl (fun hc=>by
            first
             |rfl
             |exact aH (by assumption)
             |assumption
             |exact aH (aQ (by omega))) (fun _=>rfl)) rfl ?_)
        |refine eQ rfl rfl rfl (aM (by
           first
            |exact W rfl (by
            first
             |exact id
             |simp)
            |exact E rfl) rfl bA (fun _=>rfl)) rfl ?_
        |refine eQ rfl rfl rfl (aM (by
           first
            |exact W rfl (by
            first
             |exact id
             |simp)
            |exact E rfl) rfl bA (fun _=>by assumption)) rfl ?_
        |refine eQ rfl rfl rfl (aN (by
           first
            |exact W rfl (by
            first
             |exact id
             |simp)
            |exact E rfl) rfl (fun hc=>by
           first
            |rfl
            |exact aH (by assumption)
            |assumption
            |exact aH (aQ (by(try simp at hc)<;>omega))) (fun _=>rfl)) rfl ?_
        |refine eJ rfl rfl rfl (aM (by
           first
            |exact W rfl (by
            first
             |exact id
             |simp)
            |exact E rfl) rfl bA (fun _=>rfl)) rfl ?_
        |refine eJ rfl rfl rfl (aM (by
           first
            |exact W rfl (by
            first
             |exact id
             |simp)
            |exact E rfl) rfl bA (fun _=>by assumption)) rfl ?_
        |refine eJ rfl rfl rfl (aN (by
           first
            |exact W rfl (by
            first
             |exact id
             |simp)
            |exact E rfl) rfl (fun hc=>by
           first
            |rfl
            |exact aH (by assumption)
            |assumption
            |exact aH (aQ (by(try simp at hc)<;>omega))) (fun _=>rfl)) rfl ?_
        |refine eJ rfl rfl rfl (bS (v:=.bool false)) rfl ?_
      first|refine jY rfl rfl rfl rfl rfl ?_ |(first|refine eS rfl rfl rfl (bD (E rfl) rfl (by decide)) rfl ?_ |refine eS rfl rfl rfl (bK (E rfl) rfl (by decide)) rfl ?_)|refine eQ rfl rfl rfl (bD (E rfl) rfl (by decide)) rfl ?_ |refine eQ rfl rfl rfl (bK (E rfl) rfl (by decide)) rfl ?_ |refine eJ rfl rfl rfl (bD (E rfl) rfl (by decide)) rfl ?_ |refine eJ rfl rfl rfl (bK (E rfl) rfl (by decide)) rfl ?_ |refine eJ rfl rfl rfl (bS (v:=.bool false)) rfl ?_
      first
        |refine jY rfl rfl rfl rfl rfl ?_
        |(
          first
           |refine eS rfl rfl rfl (aM (by
            first
             |exact W rfl id
             |exact E rfl) rfl bA (fun _=>rfl)) rfl ?_
           |refine eS rfl rfl rfl (aM (by
            first
             |exact W rfl id
             |exact E rfl) rfl bA (fun _=>by assumption)) rfl ?_
           |refine eS rfl rfl rfl (aN (by
            first
             |exact W rfl id
             |exact E rfl) rfl (fun hc=>by
            first
             |rfl
             |exact aH (by assumption)
             |assumption
             |exact aH (aQ (by omega))) (fun _=>rfl)) rfl ?_)
        |refine eQ rfl rfl rfl (aM (by
           first
            |exact W rfl (by
            first
             |exact id
             |simp)
            |exact E rfl) rfl bA (fun _=>rfl)) rfl ?_
        |refine eQ rfl rfl rfl (aM (by
           first
            |exact W rfl (by
            first
             |exact id
             |simp)
            |exact E rfl) rfl bA (fun _=>by assumption)) rfl ?_
        |refine eQ rfl rfl rfl (aN (by
           first
            |exact W rfl (by
            first
             |exact id
             |simp)
            |exact E rfl) rfl (fun hc=>by
           first
            |rfl
            |exact aH (by assumption)
            |assumption
            |exact aH (aQ (by(try simp at hc)<;>omega))) (fun _=>rfl)) rfl ?_
        |refine eJ rfl rfl rfl (aM (by
           first
            |exact W rfl (by
            first
             |exact id
             |simp)
            |exact E rfl) rfl bA (fun _=>rfl)) rfl ?_
        |refine eJ rfl rfl rfl (aM (by
           first
            |exact W rfl (by
            first
             |exact id
             |simp)
            |exact E rfl) rfl bA (fun _=>by assumption)) rfl ?_
        |refine eJ rfl rfl rfl (aN (by
           first
            |exact W rfl (by
            first
             |exact id
             |simp)
            |exact E rfl) rfl (fun hc=>by
           first
            |rfl
            |exact aH (by assumption)
            |assumption
            |exact aH (aQ (by(try simp at hc)<;>omega))) (fun _=>rfl)) rfl ?_
        |refine eJ rfl rfl rfl (bS (v:=.bool false)) rfl ?_
      first
        |refine jY rfl rfl rfl rfl rfl ?_
        |(
          first
           |refine eS rfl rfl rfl (bF (by
            first
             |exact W rfl id
             |exact E rfl) (by
            first
             |exact W rfl id
             |exact E rfl) (fun hc=>by(simp only[List.length_map];omega))) rfl ?_
           |refine eS rfl rfl rfl (aV (by
            first
             |exact W rfl id
             |exact E rfl) bA (by
            first
             |exact W rfl id
             |exact E rfl) (fun hc=>by omega)) rfl ?_
           |refine eS rfl rfl rfl (bJ (by
            first
             |exact W rfl id
             |exact E rfl) bA (by
            first
             |exact W rfl id
             |exact E rfl) (fun hc=>by omega)) rfl ?_)
        |refine eQ rfl rfl rfl (bF (by
           first
            |exact W rfl (by
            first
             |exact id
             |simp)
            |exact E rfl) (by
           first
            |exact W rfl (by
            first
             |exact id
             |simp)
            |exact E rfl) (fun hc=>by(try simp at hc)<;>(simp only[List.length_map];omega))) rfl ?_
        |refine eQ rfl rfl rfl (aV (by
           first
            |exact W rfl (by
            first
             |exact id
             |simp)
            |exact E rfl) bA (by
           first
            |exact W rfl (by
            first
             |exact id
             |simp)
            |exact E rfl) (fun hc=>by(try simp at hc)<;>omega)) rfl ?_
        |refine eQ rfl rfl rfl (bJ (by
           first
            |exact W rfl (by
            first
             |exact id
             |simp)
            |exact E rfl) bA (by
           first
            |exact W rfl (by
            first
             |exact id
             |simp)
            |exact E rfl) (fun hc=>by(try simp at hc)<;>omega)) rfl ?_
        |refine eJ rfl rfl rfl (bF (by
           first
            |exact W rfl (by
            first
             |exact id
             |simp)
            |exact E rfl) (by
           first
            |exact W rfl (by
            first
             |exact id
             |simp)
            |exact E rfl) (fun hc=>by(try simp at hc)<;>(simp only[List.length_map];omega))) rfl ?_
        |refine eJ rfl rfl rfl (aV (by
           first
            |exact W rfl (by
            first
             |exact id
             |simp)
            |exact E rfl) bA (by
           first
            |exact W rfl (by
            first
             |exact id
             |simp)
            |exact E rfl) (fun hc=>by(try simp at hc)<;>omega)) rfl ?_
        |refine eJ rfl rfl rfl (bJ (by
           first
            |exact W rfl (by
            first
             |exact id
             |simp)
            |exact E rfl) bA (by
           first
            |exact W rfl (by
            first
             |exact id
             |simp)
            |exact E rfl) (fun hc=>by(try simp at hc)<;>omega)) rfl ?_
        |refine eJ rfl rfl rfl (bS (v:=.bool false)) rfl ?_
      first|refine jY rfl rfl rfl rfl rfl ?_ |(first|refine eS rfl rfl rfl (bK (by first|exact W rfl id|exact E rfl) rfl (by decide)) rfl ?_ |refine eS rfl rfl rfl (fJ (by first|exact W rfl id|exact E rfl) rfl (by decide)) rfl ?_)|refine eQ rfl rfl rfl (bK (by first|exact W rfl (by first|exact id|simp)|exact E rfl) rfl (by decide)) rfl ?_ |refine eQ rfl rfl rfl (fJ (by first|exact W rfl (by first|exact id|simp)|exact E rfl) rfl (by decide)) rfl ?_ |refine eJ rfl rfl rfl (bK (by first|exact W rfl (by first|exact id|simp)|exact E rfl) rfl (by decide)) rfl ?_ |refine eJ rfl rfl rfl (fJ (by first|exact W rfl (by first|exact id|simp)|exact E rfl) rfl (by decide)) rfl ?_ |refine eJ rfl rfl rfl (bS (v:=.bool false)) rfl ?_
      first
        |refine jY rfl rfl rfl rfl rfl ?_
        |(
          first
           |refine eS rfl rfl rfl (aN (by
            first
             |exact W rfl id
             |exact E rfl) rfl (fun hc=>by
            first
             |rfl
             |exact aH (by assumption)
             |assumption
             |exact aH (aQ (by omega))) (fun _=>rfl)) rfl ?_
           |refine eS rfl rfl rfl (bO (by
            first
             |exact W rfl id
             |exact E rfl) rfl bA (fun hc=>by
            first
             |rfl
             |exact aH (by assumption)
             |assumption
             |exact aH (aQ (by omega))) (fun _=>rfl)) rfl ?_)
        |refine eQ rfl rfl rfl (aN (by
           first
            |exact W rfl (by
            first
             |exact id
             |simp)
            |exact E rfl) rfl (fun hc=>by
           first
            |rfl
            |exact aH (by assumption)
            |assumption
            |exact aH (aQ (by(try simp at hc)<;>omega))) (fun _=>rfl)) rfl ?_
        |refine eQ rfl rfl rfl (bO (by
           first
            |exact W rfl (by
            first
             |exact id
             |simp)
            |exact E rfl) rfl bA (fun hc=>by
           first
            |rfl
            |exact aH (by assumption)
            |assumption
            |exact aH (aQ (by(try simp at hc)<;>omega))) (fun _=>rfl)) rfl ?_
        |refine eJ rfl rfl rfl (aN (by
           first
            |exact W rfl (by
            first
             |exact id
             |simp)
            |exact E rfl) rfl (fun hc=>by
           first
            |rfl
            |exact aH (by assumption)
            |assumption
            |exact aH (aQ (by(try simp at hc)<;>omega))) (fun _=>rfl)) rfl ?_
        |refine eJ rfl rfl rfl (bO (by
           first
            |exact W rfl (by
            first
             |exact id
             |simp)
            |exact E rfl) rfl bA (fun hc=>by
           first
            |rfl
            |exact aH (by assumption)
            |assumption
            |exact aH (aQ (by(try simp at hc)<;>omega))) (fun _=>rfl)) rfl ?_
        |refine eJ rfl rfl rfl (bS (v:=.bool false)) rfl ?_
      first|refine jY rfl rfl rfl rfl rfl ?_ |(refine eS rfl rfl rfl (dF (by first|exact W rfl id|exact E rfl)) rfl ?_)|refine eQ rfl rfl rfl (dF (by first|exact W rfl (by first|exact id|simp)|exact E rfl)) rfl ?_ |refine eJ rfl rfl rfl (dF (by first|exact W rfl (by first|exact id|simp)|exact E rfl)) rfl ?_ |refine eJ rfl rfl rfl (bS (v:=.bool false)) rfl ?_
      refine aKB ?_;refine xA ?_;refine sG ?_;exact aE aF ⟨_,hL,rfl⟩ aA
    · obtain⟨g,hg⟩:∃g,E0.m.gl[x.a.toNat]? =some g:=⟨_,List.getElem?_eq_getElem (by omega)⟩
      have hlt2:x.a<E0.m.gl.length:=by omega
      rw[show E0.m.gl.getD x.a.toNat NX=g by rw[List.getD_eq_getElem?_getD,hg];rfl,show(if decide ((E0.m.gl.length:Int)≤x.a)=true then true else if(x.op==36)=true then !g.mu else false)=(if(x.op==36)=true then !g.mu else false) by rw[decide_eq_false hlt];rfl];refine fM [(0,true),(1,true),(2,true),(3,true),(4,true),(5,true),(6,true),(7,true),(8,true),(9,true),(10,true),(11,true),(12,true),(13,true),(14,true),(15,true),(16,true),(17,true),(18,true),(19,true),(20,true),(21,true),(22,true),(23,true),(24,true),(25,true),(26,true)] ?_;refine fX ?_;refine GL ?_;refine OW ?_;refine fX ?_;refine WS ?_;refine fI rfl (gB (E rfl) (E rfl)) rfl ?_;rw[show decide ((E0.m.gl.length:Int)≤x.a)=false from decide_eq_false hlt];refine GQ ?_;refine rN ?_;refine aKC ?_;first|refine jY rfl rfl rfl rfl rfl ?_ |(refine eS rfl rfl rfl (aD (E rfl)) rfl ?_)|refine eQ rfl rfl rfl (aD (E rfl)) rfl ?_ |refine eJ rfl rfl rfl (aD (E rfl)) rfl ?_ |refine eJ rfl rfl rfl (bS (v:=.bool false)) rfl ?_
      first|refine jY rfl rfl rfl rfl rfl ?_ |(first|refine eS rfl rfl rfl (bE (by first|exact W rfl id|exact E rfl) (.inl ⟨_,_,rfl⟩)) rfl ?_ |refine eS rfl rfl rfl (bE (by first|exact W rfl id|exact E rfl) (.inr (.inl ⟨_,_,_,rfl⟩))) rfl ?_ |refine eS rfl rfl rfl (bE (by first|exact W rfl id|exact E rfl) (.inr (.inr ⟨_,_,_,_,rfl⟩))) rfl ?_)|refine eQ rfl rfl rfl (bE (by first|exact W rfl (by first|exact id|simp)|exact E rfl) (.inl ⟨_,_,rfl⟩)) rfl ?_ |refine eQ rfl rfl rfl (bE (by first|exact W rfl (by first|exact id|simp)|exact E rfl) (.inr (.inl ⟨_,_,_,rfl⟩))) rfl ?_ |refine eQ rfl rfl rfl (bE (by first|exact W rfl (by first|exact id|simp)|exact E rfl) (.inr (.inr ⟨_,_,_,_,rfl⟩))) rfl ?_ |refine eJ rfl rfl rfl (bE (by first|exact W rfl (by first|exact id|simp)|exact E rfl) (.inl ⟨_,_,rfl⟩)) rfl ?_ |refine eJ rfl rfl rfl (bE (by first|exact W rfl (by first|exact id|simp)|exact E rfl) (.inr (.inl ⟨_,_,_,rfl⟩))) rfl ?_ |refine eJ rfl rfl rfl (bE (by first|exact W rfl (by first|exact id|simp)|exact E rfl) (.inr (.inr ⟨_,_,_,_,rfl⟩))) rfl ?_ |refine eJ rfl rfl rfl (bS (v:=.bool false)) rfl ?_
      first|refine jY rfl rfl rfl rfl rfl ?_ |(first|refine eS rfl rfl rfl (bD (by first|exact W rfl id|exact E rfl) rfl (by decide)) rfl ?_ |refine eS rfl rfl rfl (bK (by first|exact W rfl id|exact E rfl) rfl (by decide)) rfl ?_)|refine eQ rfl rfl rfl (bD (by first|exact W rfl (by first|exact id|simp)|exact E rfl) rfl (by decide)) rfl ?_ |refine eQ rfl rfl rfl (bK (by first|exact W rfl (by first|exact id|simp)|exact E rfl) rfl (by decide)) rfl ?_ |refine eJ rfl rfl rfl (bD (by first|exact W rfl (by first|exact id|simp)|exact E rfl) rfl (by decide)) rfl ?_ |refine eJ rfl rfl rfl (bK (by first|exact W rfl (by first|exact id|simp)|exact E rfl) rfl (by decide)) rfl ?_ |refine eJ rfl rfl rfl (bS (v:=.bool false)) rfl ?_
      first|refine jY rfl rfl rfl rfl rfl ?_ |(first|refine eS rfl rfl rfl (bD (by first|exact W rfl id|exact E rfl) rfl (by decide)) rfl ?_ |refine eS rfl rfl rfl (bK (by first|exact W rfl id|exact E rfl) rfl (by decide)) rfl ?_)|refine eQ rfl rfl rfl (bD (by first|exact W rfl (by first|exact id|simp)|exact E rfl) rfl (by decide)) rfl ?_ |refine eQ rfl rfl rfl (bK (by first|exact W rfl (by first|exact id|simp)|exact E rfl) rfl (by decide)) rfl ?_ |refine eJ rfl rfl rfl (bD (by first|exact W rfl (by first|exact id|simp)|exact E rfl) rfl (by decide)) rfl ?_ |refine eJ rfl rfl rfl (bK (by first|exact W rfl (by first|exact id|simp)|exact E rfl) rfl (by decide)) rfl ?_ |refine eJ rfl rfl rfl (bS (v:=.bool false)) rfl ?_
      first
        |refine jY rfl rfl rfl rfl rfl ?_
        |(
          first
           |refine eS rfl rfl rfl (aM (by
            first
             |exact W rfl id
             |exact E rfl) rfl bA (fun _=>rfl)) rfl ?_
           |refine eS rfl rfl rfl (aM (by
            first
             |exact W rfl id
             |exact E rfl) rfl bA (fun _=>by assumption)) rfl ?_
           |refine eS rfl rfl rfl (aN (by
            first
             |exact W rfl id
             |exact E rfl) rfl (fun hc=>by
            first
             |rfl
             |exact aH (by assumption)
             |assumption
             |exact aH (aQ (by omega))) (fun _=>rfl)) rfl ?_)
        |refine eQ rfl rfl rfl (aM (by
           first
            |exact W rfl (by
            first
             |exact id
             |simp)
            |exact E rfl) rfl bA (fun _=>rfl)) rfl ?_
        |refine eQ rfl rfl rfl (aM (by
           first
            |exact W rfl (by
            first
             |exact id
             |simp)
            |exact E rfl) rfl bA (fun _=>by assumption)) rfl ?_
        |refine eQ rfl rfl rfl (aN (by
           first
            |exact W rfl (by
            first
             |exact id
             |simp)
            |exact E rfl) rfl (fun hc=>by
           first
            |rfl
            |exact aH (by assumption)
            |assumption
            |exact aH (aQ (by(try simp at hc)<;>omega))) (fun _=>rfl)) rfl ?_
        |refine eJ rfl rfl rfl (aM (by
           first
            |exact W rfl (by
            first
             |exact id
             |simp)
            |exact E rfl) rfl bA (fun _=>rfl)) rfl ?_
        |refine eJ rfl rfl rfl (aM (by
           first
            |exact W rfl (by
            first
             |exact id
             |simp)
            |exact E rfl) rfl bA (fun _=>by assumption)) rfl ?_
        |refine eJ rfl rfl rfl (aN (by
           first
            |exact W rfl (by
            first
             |exact id
             |simp)
            |exact E rfl) rfl (fun hc=>by
           first
            |rfl
            |exact aH (by assumption)
            |assumption
            |exact aH (aQ (by(try simp at hc)<;>omega))) (fun _=>rfl)) rfl ?_
        |refine eJ rfl rfl rfl (bS (v:=.bool false)) rfl ?_
      first|refine jY rfl rfl rfl rfl rfl ?_ |(first|refine eS rfl rfl rfl (bD (E rfl) rfl (by decide)) rfl ?_ |refine eS rfl rfl rfl (bK (E rfl) rfl (by decide)) rfl ?_)|refine eQ rfl rfl rfl (bD (E rfl) rfl (by decide)) rfl ?_ |refine eQ rfl rfl rfl (bK (E rfl) rfl (by decide)) rfl ?_ |refine eJ rfl rfl rfl (bD (E rfl) rfl (by decide)) rfl ?_ |refine eJ rfl rfl rfl (bK (E rfl) rfl (by decide)) rfl ?_ |refine eJ rfl rfl rfl (bS (v:=.bool false)) rfl ?_
      first
        |refine jY rfl rfl rfl rfl rfl ?_
        |(
          first
           |refine eS rfl rfl rfl (aM (by
            first
             |exact W rfl id
             |exact E rfl) rfl bA (fun _=>rfl)) rfl ?_
           |refine eS rfl rfl rfl (aM (by
            first
             |exact W rfl id
             |exact E rfl) rfl bA (fun _=>by assumption)) rfl ?_
           |refine eS rfl rfl rfl (aN (by
            first
             |exact W rfl id
             |exact E rfl) rfl (fun hc=>by
            first
             |rfl
             |exact aH (by assumption)
             |assumption
             |exact aH (aQ (by omega))) (fun _=>rfl)) rfl ?_)
        |refine eQ rfl rfl rfl (aM (by
           first
            |exact W rfl (by
            first
             |exact id
             |simp)
            |exact E rfl) rfl bA (fun _=>rfl)) rfl ?_
        |refine eQ rfl rfl rfl (aM (by
           first
            |exact W rfl (by
            first
             |exact id
             |simp)
            |exact E rfl) rfl bA (fun _=>by assumption)) rfl ?_
        |refine eQ rfl rfl rfl (aN (by
           first
            |exact W rfl (by
            first
             |exact id
             |simp)
            |exact E rfl) rfl (fun hc=>by
           first
            |rfl
            |exact aH (by assumption)
            |assumption
            |exact aH (aQ (by(try simp at hc)<;>omega))) (fun _=>rfl)) rfl ?_
        |refine eJ rfl rfl rfl (aM (by
           first
            |exact W rfl (by
            first
             |exact id
             |simp)
            |exact E rfl) rfl bA (fun _=>rfl)) rfl ?_
        |refine eJ rfl rfl rfl (aM (by
           first
            |exact W rfl (by
            first
             |exact id
             |simp)
            |exact E rfl) rfl bA (fun _=>by assumption)) rfl ?_
        |refine eJ rfl rfl rfl (aN (by
           first
            |exact W rfl (by
            first
             |exact id
             |simp)
            |exact E rfl) rfl (fun hc=>by
           first
            |rfl
            |exact aH (by assumption)
            |assumption
            |exact aH (aQ (by(try simp at hc)<;>omega))) (fun _=>rfl)) rfl ?_
        |refine eJ rfl rfl rfl (bS (v:=.bool false)) rfl ?_
      first
        |refine jY rfl rfl rfl rfl rfl ?_
        |(
          first
           |refine eS rfl rfl rfl (bF (by
            first
             |exact W rfl id
             |exact E rfl) (by
            first
             |exact W rfl id
             |exact E rfl) (fun hc=>by(simp only[List.length_map];omega))) rfl ?_
           |refine eS rfl rfl rfl (aV (by
            first
             |exact W rfl id
             |exact E rfl) bA (by
            first
             |exact W rfl id
             |exact E rfl) (fun hc=>by omega)) rfl ?_
           |refine eS rfl rfl rfl (bJ (by
            first
             |exact W rfl id
             |exact E rfl) bA (by
            first
             |exact W rfl id
             |exact E rfl) (fun hc=>by omega)) rfl ?_)
        |refine eQ rfl rfl rfl (bF (by
           first
            |exact W rfl (by
            first
             |exact id
             |simp)
            |exact E rfl) (by
           first
            |exact W rfl (by
            first
             |exact id
             |simp)
            |exact E rfl) (fun hc=>by(try simp at hc)<;>(simp only[List.length_map];omega))) rfl ?_
        |refine eQ rfl rfl rfl (aV (by
           first
            |exact W rfl (by
            first
             |exact id
             |simp)
            |exact E rfl) bA (by
           first
            |exact W rfl (by
            first
             |exact id
             |simp)
            |exact E rfl) (fun hc=>by(try simp at hc)<;>omega)) rfl ?_
        |refine eQ rfl rfl rfl (bJ (by
           first
            |exact W rfl (by
            first
             |exact id
             |simp)
            |exact E rfl) bA (by
           first
            |exact W rfl (by
            first
             |exact id
             |simp)
            |exact E rfl) (fun hc=>by(try simp at hc)<;>omega)) rfl ?_
        |refine eJ rfl rfl rfl (bF (by
           first
            |exact W rfl (by
            first
             |exact id
             |simp)
            |exact E rfl) (by
           first
            |exact W rfl (by
            first
             |exact id
             |simp)
            |exact E rfl) (fun hc=>by(try simp at hc)<;>(simp only[List.length_map];omega))) rfl ?_
        |refine eJ rfl rfl rfl (aV (by
           first
            |exact W rfl (by
            first
             |exact id
             |simp)
            |exact E rfl) bA (by
           first
            |exact W rfl (by
            first
             |exact id
             |simp)
            |exact E rfl) (fun hc=>by(try simp at hc)<;>omega)) rfl ?_
        |refine eJ rfl rfl rfl (bJ (by
           first
            |exact W rfl (by
            first
             |exact id
             |simp)
            |exact E rfl) bA (by
           first
            |exact W rfl (by
            first
             |exact id
             |simp)
            |exact E rfl) (fun hc=>by(try simp at hc)<;>omega)) rfl ?_
        |refine eJ rfl rfl rfl (bS (v:=.bool false)) rfl ?_
      first|refine jY rfl rfl rfl rfl rfl ?_ |(first|refine eS rfl rfl rfl (bK (by first|exact W rfl id|exact E rfl) rfl (by decide)) rfl ?_ |refine eS rfl rfl rfl (fJ (by first|exact W rfl id|exact E rfl) rfl (by decide)) rfl ?_)|refine eQ rfl rfl rfl (bK (by first|exact W rfl (by first|exact id|simp)|exact E rfl) rfl (by decide)) rfl ?_ |refine eQ rfl rfl rfl (fJ (by first|exact W rfl (by first|exact id|simp)|exact E rfl) rfl (by decide)) rfl ?_ |refine eJ rfl rfl rfl (bK (by first|exact W rfl (by first|exact id|simp)|exact E rfl) rfl (by decide)) rfl ?_ |refine eJ rfl rfl rfl (fJ (by first|exact W rfl (by first|exact id|simp)|exact E rfl) rfl (by decide)) rfl ?_ |refine eJ rfl rfl rfl (bS (v:=.bool false)) rfl ?_
      first
        |refine jY rfl rfl rfl rfl rfl ?_
        |(
          first
           |refine eS rfl rfl rfl (aN (by
            first
             |exact W rfl id
             |exact E rfl) rfl (fun hc=>by
            first
             |rfl
             |exact aH (by assumption)
             |assumption
             |exact aH (aQ (by omega))) (fun _=>rfl)) rfl ?_
           |refine eS rfl rfl rfl (bO (by
            first
             |exact W rfl id
             |exact E rfl) rfl bA (fun hc=>by
            first
             |rfl
             |exact aH (by assumption)
             |assumption
             |exact aH (aQ (by omega))) (fun _=>rfl)) rfl ?_)
        |refine eQ rfl rfl rfl (aN (by
           first
            |exact W rfl (by
            first
             |exact id
             |simp)
            |exact E rfl) rfl (fun hc=>by
           first
            |rfl
            |exact aH (by assumption)
            |assumption
            |exact aH (aQ (by(try simp at hc)<;>omega))) (fun _=>rfl)) rfl ?_
        |refine eQ rfl rfl rfl (bO (by
           first
            |exact W rfl (by
            first
             |exact id
             |simp)
            |exact E rfl) rfl bA (fun hc=>by
           first
            |rfl
            |exact aH (by assumption)
            |assumption
            |exact aH (aQ (by(try simp at hc)<;>omega))) (fun _=>rfl)) rfl ?_
        |refine eJ rfl rfl rfl (aN (by
           first
            |exact W rfl (by
            first
             |exact id
             |simp)
            |exact E rfl) rfl (fun hc=>by
           first
            |rfl
            |exact aH (by assumption)
            |assumption
            |exact aH (aQ (by(try simp at hc)<;>omega))) (fun _=>rfl)) rfl ?_
        |refine eJ rfl rfl rfl (bO (by
           first
            |exact W rfl (by
            first
             |exact id
             |simp)
            |exact E rfl) rfl bA (fun hc=>by
           first
            |rfl
            |exact aH (by assumption)
            |assumption
            |exact aH (aQ (by(try simp at hc)<;>omega))) (fun _=>rfl)) rfl ?_
        |refine eJ rfl rfl rfl (bS (v:=.bool false)) rfl ?_
      first|refine jY rfl rfl rfl rfl rfl ?_ |(refine eS rfl rfl rfl (dF (by first|exact W rfl id|exact E rfl)) rfl ?_)|refine eQ rfl rfl rfl (dF (by first|exact W rfl (by first|exact id|simp)|exact E rfl)) rfl ?_ |refine eJ rfl rfl rfl (dF (by first|exact W rfl (by first|exact id|simp)|exact E rfl)) rfl ?_ |refine eJ rfl rfl rfl (bS (v:=.bool false)) rfl ?_
      refine aKB ?_;refine lF ?_;refine aB rfl (fun g19=> ?_) (fun g19=> ?_)
      · rw[if_pos (c:=(if(x.op==36)=true then !g.mu else false)=true) g19];have hL:=hN0;refine sG ?_;exact aE aF ⟨_,hL,rfl⟩ aA
      rw[if_neg (c:=(if(x.op==36)=true then !g.mu else false)=true) (fun e=>by rw[g19]at e;cases e)];refine aJ ?_;refine fM [(0,true),(1,true),(2,true),(3,true),(4,true),(5,true),(6,true),(7,true),(8,true),(9,true),(10,true),(11,true)] ?_;refine GL ?_;refine OW ?_;refine fX ?_;refine fX ?_;refine MT ?_;refine aEz ?_;refine aEC ?_;refine XE ?_;refine fN ?_;refine rO ?_;refine aB rfl (fun g22=> ?_) (fun g22=> ?_)
      · rw[if_pos (c:=(x.op==35)=true) g22];refine eX ?_;refine eN fun r111 h111=> ?_;intros
        refine gJ (j:=111) rfl aU (aK bA (by simp)) ?_;refine cw (jF z q t) Tryz.call275 (jA hN0.qz t (by omega) [g.kd] (by simp)) rfl aC dG ?_;rintro _ σ' ⟨e,he,rfl⟩ h112
        (try unfold fL);(try unfold jX);(try unfold jF);(try unfold nG);(try dsimp only[List.cons_append,List.nil_append]);refine sY (h112 _ (List.mem_cons_of_mem _ List.mem_cons_self)) fun k112=> ?_;intros
        have hL:Nr r p z e:=⟨hN0.pr,hN0.zr,hN0.zp,by(exact bV),by(exact bV),by(exact bV)⟩
        refine gX ?_;refine bY ?_;exact aE aF ⟨_,hL,rfl⟩ aA
      rw[if_neg (c:=(x.op==35)=true) (fun e=>by rw[g22]at e;cases e)];refine tD ?_;refine eN fun r116 h116=> ?_;intros
      refine gJ (j:=116) rfl aU (aK bA (by simp)) ?_;refine cw (fL E0 r p z q t) Tryz.call202 (eY hN0 t (by omega) [g.kd] (by simp)) rfl aC dG ?_;rintro _ σ' rfl h117
      (try unfold fL);(try unfold jX);(try unfold jF);(try unfold nG);(try dsimp only[List.cons_append,List.nil_append]);have hL:=hN0;refine gX ?_;refine bY ?_;exact aE aF ⟨_,hL,rfl⟩ aA
  rw[show gF E0.m E0.ls x t=DV E0.m x t by unfold gF;simp only[g3,g5,g7,g17,if_true,if_false,Bool.false_eq_true]];refine MV ?_;refine cw (fL E0 r p z q t) Tryz.call304 (YQ hN0 t hl x) rfl aC dG ?_;rintro _ σ' ⟨e,hL,rfl⟩ h13
  (try unfold fL);(try unfold jX);(try unfold jF);(try unfold nG);(try dsimp only[List.cons_append,List.nil_append]);obtain⟨m1,m2,m3,m4,m5,m6⟩:=id hL;refine gX ?_;refine bY ?_;exact aE aF ⟨_,hL,rfl⟩ aA
end
theorem IK{m:Md}(h:m.TS){f:Int}(hf:0≤f):(iO m f).1.Sm:=by rw[wW hf];exact pP h _
section
variable {r p z q : Nat} {E0 : Env}
theorem aDW(hN:Nr r p z q)(hm:E0.m.Ck)(t:RT)(hl:t.l.length≤900000)(x:Ins)(ha:0≤x.a)(ha2:x.a≤9223372036854775807):SCall Tryz.prog 273 [.ptr r 0,.agg (iv .any x),.ptr z 0] (fL E0 r p z q t) (fun _ σ=>∃e,Nr r p z e∧σ=fL E0 r p z e (qQ E0.m x t)):=by
 have hN0:=hN;obtain⟨n1,n2,n3,n4,n5,n6⟩:=hN;have hts:=IK hm.ts ha;unfold iv;refine cF 71 [0,1,2,4,6,7,8,11,23,45] Tryz.func273 ?_;unfold fL jX jF nG
 (try dsimp only[List.cons_append,List.nil_append]);refine dX ?_;refine iQ fun r4 h4=> ?_;intros
 refine iF ?_;refine dX ?_;refine jU fun r6 h6=> ?_;intros
 refine iF ?_;refine fN ?_;refine rO ?_;refine aB rfl (fun g2=> ?_) (fun g2=> ?_)
 ·rw[show qQ E0.m x t=if(!(iO E0.m x.a).2)=true then eG t else gS (aS t (iO E0.m x.a).1.pr) (iO E0.m x.a).1.rs from if_pos g2];refine aJ ?_;refine WZ (β:=Nat) (fun a7=>⟨[(0,.ptr r 0),(2,.ptr z 0),(4,.ptr r4 0),(6,.ptr r6 0),(7,.ptr a7 0),(8,.bool (iO E0.m x.a).2)],(a7,.box 50 (dD (iO E0.m x.a).1))::(r6,.box 50 [.ro 0 [] .nil,.ro 0 [] .nil])::(r4,.box 46 [.int .i64 x.op,.int .i64 x.a,.int .i64 x.b,.ro 1 (x.l.map aP) .any])::fL E0 r p z q t⟩) (fun a7=>Nq a7 r6∧Nq a7 r4∧Nq a7 r∧Nq a7 p∧Nq a7 z∧Nq a7 q) ?_ ?_
  ·refine fM [(0,true),(1,true),(2,true),(3,true),(4,true),(5,true),(13,false),(13,false),(13,false),(13,false),(13,false),(13,false),(13,false)] ?_;refine GL ?_;refine OW ?_;refine DJ ?_;refine fX ?_;refine jD 6 10 [(7,true),(8,true),(9,true),(10,false),(11,false),(12,true)] [(6,false),(7,true),(8,true),(9,true),(11,false),(12,true)] (f1:=[]) (f2:=[]) (by kernel_rfl) rfl rfl ?_ ?_ (.inl rfl) (.inl rfl)
   ·refine sA (σ1:=[]) Tryz.call46 (IJ E0.m hm.im x.a ⟨ha,ha2⟩) (cW rfl) aC aA ?_;rintro _ σ' ⟨rfl,rfl⟩ h19;apply bZ;exact bN;refine fI rfl (aD (E rfl)) rfl ?_;refine z85 ?_;refine z85 ?_;apply dal;rfl;infer_instance;rfl;exact wY;refine jZ fun r7 h7=> ?_;intros
    refine z95 ?_;refine XE ?_;refine an ?_;exact⟨r7,⟨by(exact bV),by(exact bV),by(exact bV),by(exact bV),by(exact bV),by(exact bV)⟩,aL⟩
   ·apply aHA;infer_instance;rfl;exact wY;refine bL fun r7 h7=> ?_;repeat rcases h7 with⟨_,h7⟩
    refine rW [] rfl Tryz.call46 (IJ E0.m hm.im x.a ⟨ha,ha2⟩) rfl aC aA fV ?_;rintro _ σ' ⟨rfl,rfl⟩ h19;apply bZ;exact bN;refine fI rfl (aD (E rfl)) rfl ?_;refine z85 ?_;refine z85 ?_;refine z95 ?_;refine XE ?_;refine an ?_;exact⟨r7,⟨by(exact bV),by(exact bV),by(exact bV),by(exact bV),by(exact bV),by(exact bV)⟩,aL⟩
  rintro a7 ⟨u1,u2,u3,u4,u5,u6⟩;unfold fL jX jF nG
  (try dsimp only[List.cons_append,List.nil_append]);refine dM ?_;refine qV ?_;refine aB rfl (fun g4=> ?_) (fun g4=> ?_)
  ·rw[if_pos g4];have hL:=hN0;refine sG ?_;exact aE aF ⟨_,hL,rfl⟩ aA
  rw[if_neg (c:=(!(iO E0.m x.a).2)=true) (fun e=>by rw[g4]at e;cases e)];generalize(iO E0.m x.a).1=y at hts⊢;obtain⟨T,hT⟩:∃T:RT,T=t:=⟨_,rfl⟩
  rw[←hT];have hTl:T.l.length≤900000:=by rw[hT];exact hl
  refine qB ?_;refine lW ?_;obtain⟨pr,rs⟩:=y;obtain⟨ht1,ht2⟩:=hts;dsimp only at ht1 ht2⊢;have htk:=iP T pr;refine kK ?_;refine fW ?_;refine cw (fL E0 r p z q T) Tryz.call202 (eY hN0 T (by omega) pr (by omega)) rfl aC dG ?_;rintro _ σ' rfl h66;refine xD ?_;refine iF ?_;refine kA ?_;refine cw (jF z q (aS T pr)) Tryz.call275 (jA hN0.qz _ (by omega) rs (by omega)) rfl aC dG ?_;rintro _ σ' ⟨e,he,rfl⟩ h70
  (try unfold fL);(try unfold jX);(try unfold jF);(try unfold nG);(try dsimp only[List.cons_append,List.nil_append]);refine sY (h70 _ (List.mem_cons_of_mem _ List.mem_cons_self)) fun k70=> ?_;intros
  have hL:Nr r p z e:=⟨hN0.pr,hN0.zr,hN0.zp,by(exact bV),by(exact bV),by(exact bV)⟩
  refine gX ?_;refine bY ?_;exact aE aF ⟨_,hL,rfl⟩ aA
 rw[show qQ E0.m x t=if(if(!E0.m.tb.has)=true then true else decide ((E0.m.ty.length:Int)≤x.a))=true then eG t else gS (aS (aS t [1]) (E0.m.ty.getD x.a.toNat sR).pr) (E0.m.ty.getD x.a.toNat sR).rs by unfold qQ;rw[g2];rfl];refine aJ ?_;refine fM [(0,true),(1,true),(2,true),(3,true),(4,true),(5,true),(6,true),(7,true),(8,true),(9,true),(10,true),(11,true),(12,true),(13,true),(14,true),(15,true),(16,true),(17,true)] ?_;refine GL ?_;refine OW ?_;refine OW ?_;refine fX ?_;refine fI rfl (dF (E rfl)) rfl ?_;refine GQ ?_;refine rN ?_;refine zF ?_;refine sq7 ?_
 (first|refine jY rfl rfl rfl rfl rfl ?_ |(first|refine eS rfl rfl rfl (bD (by first|exact W rfl id|exact E rfl) rfl (by decide)) rfl ?_ |refine eS rfl rfl rfl (bK (by first|exact W rfl id|exact E rfl) rfl (by decide)) rfl ?_)|refine eQ rfl rfl rfl (bD (by first|exact W rfl id|exact E rfl) rfl (by decide)) rfl ?_ |refine eQ rfl rfl rfl (bK (by first|exact W rfl id|exact E rfl) rfl (by decide)) rfl ?_);refine rN ?_;refine sq9 ?_;refine xC ?_;refine lF ?_;refine aB rfl (fun g7=> ?_) (fun g7=> ?_)
 ·rw[if_pos g7];have hL:=hN0;refine sG ?_;exact aE aF ⟨_,hL,rfl⟩ aA
 rw[if_neg (c:=(if(!E0.m.tb.has)=true then true else decide ((E0.m.ty.length:Int)≤x.a))=true) (fun e=>by rw[g7]at e;cases e)];have hlt:x.a<E0.m.ty.length:=by
  have:∀p q:Bool,(if p=true then true else q)=false→p=false∧q=false:=by intro p q;cases p<;>cases q<;>simp
  have h2:=(this _ _ g7).2;simp only[decide_eq_false_iff_not]at h2;omega
 obtain⟨y,hy⟩:∃y,E0.m.ty[x.a.toNat]? =some y:=⟨_,List.getElem?_eq_getElem (by omega)⟩
 have hts:=hm.ts y (List.mem_of_getElem? hy);rw[show E0.m.ty.getD x.a.toNat sR=y by rw[List.getD_eq_getElem?_getD,hy];rfl];have htl:=iP t [1];refine eX ?_;refine eN fun r51 h51=> ?_;intros
 refine gJ (j:=51) rfl aU (aK bA (by simp)) ?_;refine cw (fL E0 r p z q t) Tryz.call202 (eY hN0 t (by omega) [1] (by simp)) rfl aC dG ?_;rintro _ σ' rfl h52;refine qW ?_;have hTl:(aS t [1]).l.length≤900000:=by omega
 generalize aS t [1]=T at hTl⊢;refine fM [(0,true),(1,true),(2,true),(3,true),(4,true),(5,true),(6,true),(7,true),(8,true),(9,false)] ?_;refine GL ?_;refine OW ?_;refine fX ?_;refine fX ?_;refine MT ?_;refine xB ?_;refine z95 ?_;refine lF ?_;obtain⟨pr,rs⟩:=y;obtain⟨ht1,ht2⟩:=hts;dsimp only at ht1 ht2⊢;have htk:=iP T pr;refine kK ?_;refine fW ?_;refine cw (fL E0 r p z q T) Tryz.call202 (eY hN0 T (by omega) pr (by omega)) rfl aC dG ?_;rintro _ σ' rfl h66;refine xD ?_;refine iF ?_;refine kA ?_;refine cw (jF z q (aS T pr)) Tryz.call275 (jA hN0.qz _ (by omega) rs (by omega)) rfl aC dG ?_;rintro _ σ' ⟨e,he,rfl⟩ h70
 (try unfold fL);(try unfold jX);(try unfold jF);(try unfold nG);(try dsimp only[List.cons_append,List.nil_append]);refine sY (h70 _ (List.mem_cons_of_mem _ List.mem_cons_self)) fun k70=> ?_;intros
 have hL:Nr r p z e:=⟨hN0.pr,hN0.zr,hN0.zp,by(exact bV),by(exact bV),by(exact bV)⟩
 refine gX ?_;refine bY ?_;exact aE aF ⟨_,hL,rfl⟩ aA
end
theorem mE(t:RT)(n:Int):(cX t n).2.l=t.l∧(cX t n).2.dd=t.dd∧(cX t n).2.lb=t.lb:=by
 unfold cX;exact aI (p:=fun r:List Int×RT=>r.2.l=t.l∧r.2.dd=t.dd∧r.2.lb=t.lb) (fun _=>⟨rfl,rfl,rfl⟩) (fun _=>⟨rfl,rfl,rfl⟩)
def Sh (t:RT):Prop:=∀l∈t.lb,l.length≤1000
theorem BD{t:RT}(h:Sh t)(n:Int):(cX t n).1.length≤1000:=by
 unfold cX;refine aI (p:=fun r:List Int×RT=>r.1.length≤1000) (fun _=>by simp) (fun _=> ?_);show(t.lb.getD _ []).length≤1000;rw[List.getD_eq_getElem?_getD];cases hg:t.lb[((t.lb.length:Int)-1-n).toNat]? with
 |none=>simp
 |some l=>exact h l (List.mem_of_getElem? hg)
theorem aDX(w:List Int)(t:RT)(n:Int):(oQ w t n).l=t.l∧(oQ w t n).dd=t.dd∧(oQ w t n).lb=t.lb:=by
 obtain⟨h1,h2,h3⟩:=mE t n;unfold oQ;exact aI (p:=fun r:RT=>r.l=t.l∧r.dd=t.dd∧r.lb=t.lb) (fun _=>⟨h1,h2,h3⟩) (fun _=>⟨h1,h2,h3⟩)
theorem aBz(w l:List Int)(t:RT):(l.foldl (oQ w) t).l=t.l∧(l.foldl (oQ w) t).dd=t.dd∧(l.foldl (oQ w) t).lb=t.lb:=by
 induction l generalizing t with
 |nil=>exact⟨rfl,rfl,rfl⟩
 |cons a l ih=>
  obtain⟨h1,h2,h3⟩:=aDX w t a;obtain⟨k1,k2,k3⟩:=ih (oQ w t a);exact⟨k1.trans h1,k2.trans h2,k3.trans h3⟩
theorem aBA{w l:List Int}{t:RT}{j:Nat}{n:Int}(h:l[j]? =some n):(l.take (j+1)).foldl (oQ w) t=oQ w ((l.take j).foldl (oQ w) t) n:=by
 rw[List.take_add_one,h,List.foldl_append];rfl
theorem WD(t:RT)(ks:List Int):Sh t→Sh (aS t ks):=fun h=>by unfold Sh;rw[rH];exact h
section
variable {r p z q : Nat} {E0 : Env}
theorem YR(hN:Nr r p z q)(hres:E0.res.length≤1000)(t:RT)(hl:t.l.length≤900000)(hsh:Sh t)(hlb:t.lb.length≤1000000)(x:Ins)(hx:x.Ck)(hop:SS x.op=true)(ha:-9000000000000000000≤x.a∧x.a≤9000000000000000000)(hxl:∀n∈x.l,-9000000000000000000≤n∧n≤9000000000000000000):SCall Tryz.prog 272 [.ptr r 0,.agg (iv .any x),.ptr z 0] (fL E0 r p z q t) (fun _ σ=>∃e,Nr r p z e∧σ=fL E0 r p z e (fS E0.res x t)):=by
 have hN0:=hN;obtain⟨n1,n2,n3,n4,n5,n6⟩:=hN;have hxll:=hx.ll;have htl1:=iP t [1];have hts1:=WD t [1] hsh;have htb1:(aS t [1]).lb.length≤1000000:=by rw[rH];exact hlb
 unfold iv;refine cF 102 [0,1,2,4,6,8,10,12,13,16,17,30,50,67,83,91] Tryz.func272 ?_;unfold fL jX jF nG
 (try dsimp only[List.cons_append,List.nil_append]);refine dX ?_;refine iQ fun r4 h4=> ?_;intros
 refine iF ?_;refine fN ?_;refine qA ?_;refine aB rfl (fun g2=> ?_) (fun g2=> ?_)
 ·rw[show fS E0.res x t=qO (aS (cX t x.a).2 (cX t x.a).1)from if_pos g2];have hk:=mE t x.a;have hw:=BD hsh x.a;refine kA ?_;refine cw (jX E0 r p t) Tryz.call301 (wX hN0.pr t hlb x.a ha) rfl aC dG ?_;rintro _ σ' ⟨b,rfl,rfl⟩ h23;refine xD ?_;refine yA ?_;refine lE ?_;rw[←hk.1,←hk.2.1];generalize(cX t x.a).1=w at hw⊢;have hul:(cX t x.a).2.l.length≤900000:=by rw[hk.1];exact hl
  generalize(cX t x.a).2=u at hul hk⊢;refine MW ?_;refine cw (fL E0 r p z q u) Tryz.call202 (eY hN0 u (by omega) w (by omega)) rfl aC dG ?_;rintro _ σ' rfl h29;refine qW ?_;generalize aS u w=T;refine iC ?_;refine cw (jF z q T) Tryz.call302 (BB hN0.qz T) rfl aC dG ?_;rintro _ σ' ⟨e,he,rfl⟩ h101
  (try unfold fL);(try unfold jX);(try unfold jF);(try unfold nG);(try dsimp only[List.cons_append,List.nil_append]);refine sY (h101 _ (List.mem_cons_of_mem _ List.mem_cons_self)) fun k101=> ?_;intros
  have hL:Nr r p z e:=⟨hN0.pr,hN0.zr,hN0.zp,by(exact bV),by(exact bV),by(exact bV)⟩
  refine gX ?_;refine bY ?_;exact aE aF ⟨_,hL,rfl⟩ aA
 refine cZ ?_;refine aB rfl (fun g5=> ?_) (fun g5=> ?_)
 ·rw[show fS E0.res x t=gS (aS (cX (aS t [1]) x.a).2 (cX (aS t [1]) x.a).1) (cX (aS t [1]) x.a).1 by unfold fS;simp only[g2,g5,if_true,if_false,Bool.false_eq_true]];refine eX ?_;refine eN fun r34 h34=> ?_;intros
  refine gJ (j:=34) rfl aU (aK bA (by simp)) ?_;refine cw (fL E0 r p z q t) Tryz.call202 (eY hN0 t (by omega) [1] (by simp)) rfl aC dG ?_;rintro _ σ' rfl h35;refine qW ?_;generalize aS t [1]=t1 at htl1 hts1 htb1⊢;have hk:=mE t1 x.a;have hw:=BD hts1 x.a;refine pE ?_;refine cw (jX E0 r p t1) Tryz.call301 (wX hN0.pr t1 htb1 x.a ha) rfl aC dG ?_;rintro _ σ' ⟨b,rfl,rfl⟩ h40;refine xD ?_;refine yA ?_;refine lE ?_;rw[←hk.1,←hk.2.1];generalize(cX t1 x.a).1=w at hw⊢;have hul:(cX t1 x.a).2.l.length≤900000:=by rw[hk.1];omega
  generalize(cX t1 x.a).2=u at hul hk⊢;refine MW ?_;refine cw (fL E0 r p z q u) Tryz.call202 (eY hN0 u (by omega) w (by omega)) rfl aC dG ?_;rintro _ σ' rfl h46;refine qW ?_;have htl2:=iP u w;generalize aS u w=T at htl2⊢;refine kK ?_;refine cw (jF z q T) Tryz.call275 (jA hN0.qz T (by omega) w hw) rfl aC dG ?_;rintro _ σ' ⟨e,he,rfl⟩ h49
  (try unfold fL);(try unfold jX);(try unfold jF);(try unfold nG);(try dsimp only[List.cons_append,List.nil_append]);refine sY (h49 _ (List.mem_cons_of_mem _ List.mem_cons_self)) fun k49=> ?_;intros
  have hL:Nr r p z e:=⟨hN0.pr,hN0.zr,hN0.zp,by(exact bV),by(exact bV),by(exact bV)⟩
  refine gX ?_;exact aE aF ⟨_,hL,rfl⟩ aA
 refine cZ ?_;refine aB rfl (fun g10=> ?_) (fun g10=> ?_)
 ·rw[show fS E0.res x t=qO (aS (x.l.foldl (oQ (cX (aS t [1]) x.a).1) (cX (aS t [1]) x.a).2) (cX (aS t [1]) x.a).1) by unfold fS;simp only[g2,g5,g10,if_true,if_false,Bool.false_eq_true]];refine eX ?_;refine eN fun r54 h54=> ?_;intros
  refine gJ (j:=54) rfl aU (aK bA (by simp)) ?_;refine cw (fL E0 r p z q t) Tryz.call202 (eY hN0 t (by omega) [1] (by simp)) rfl aC dG ?_;rintro _ σ' rfl h55;refine qW ?_;generalize aS t [1]=t1 at htl1 hts1 htb1⊢;have hk:=mE t1 x.a;have hw:=BD hts1 x.a;refine pE ?_;refine cw (jX E0 r p t1) Tryz.call301 (wX hN0.pr t1 htb1 x.a ha) rfl aC dG ?_;rintro _ σ' ⟨b,rfl,rfl⟩ h60;refine xD ?_;refine yA ?_;refine lE ?_;rw[←hk.1,←hk.2.1];generalize(cX t1 x.a).1=w at hw⊢;have hul:(cX t1 x.a).2.l.length≤900000:=by rw[hk.1];omega
  have hub:(cX t1 x.a).2.lb.length≤1000000:=by rw[hk.2.2];exact htb1
  generalize(cX t1 x.a).2=u at hul hub hk⊢;refine sF ?_;refine lp (β:=Nat) (fun j=>⟨[(0,.ptr r 0),(2,.ptr z 0),(4,.ptr r4 0),(10,.ro 1 (w.map aP) .any),(12,.int .i64 j)],(r4,.box 46 [.int .i64 x.op,.int .i64 x.a,.int .i64 x.b,.ro 1 (x.l.map aP) .any])::fL E0 r p z q ((x.l.take j).foldl (oQ w) u)⟩) (fun j=>j≤x.l.length) (fun j=>x.l.length-j) 0 (by unfold fL jX jF nG;(try dsimp only[List.cons_append,List.nil_append]);(exact aL)) (Nat.zero_le _) ?_;intro j hj
  (try dsimp only);have hS:=aBz w (x.l.take j) u;generalize hSe:(x.l.take j).foldl (oQ w) u=S at hS⊢;unfold fL jX jF nG
  (try dsimp only[List.cons_append,List.nil_append]);refine mY ?_;refine aB rfl (fun g14=> ?_) (fun g14=> ?_)
  ·obtain⟨n,hn⟩:∃n,x.l[j]? =some n:=⟨_,List.getElem?_eq_getElem (by simp at g14;omega)⟩
   have hlt:j<x.l.length:=(List.getElem?_eq_some_iff.1 hn).1;have hn0:=hxl n (List.mem_of_getElem? hn);have hnx:=aBA (w:=w) (t:=u) hn;rw[hSe]at hnx;have hSb:S.lb.length≤1000000:=by rw[hS.2.2];exact hub
   have hv:=mE S n;refine kA ?_;refine nJ ?_;refine cw (jX E0 r p S) Tryz.call301 (wX hN0.pr S hSb n hn0) rfl aC dG ?_;rintro _ σ' ⟨b2,rfl,rfl⟩ h77;refine xD ?_;refine yA ?_;refine lE ?_;rw[←hv.1,←hv.2.1];refine kK ?_;refine oL Tryz.call47 (XI w (cX S n).1) rfl aR bB ?_;refine qV ?_;refine aB rfl (fun g17=> ?_) (fun g17=> ?_)
   ·have htab:oQ w S n=eG (cX S n).2:=if_pos g17;refine xP ?_;refine lY ?_;refine⟨j+1,hlt,by show x.l.length-(j+1)<x.l.length-j;omega, ?_⟩
    (try dsimp only);rw[hnx,htab];exact aL
   have htab:oQ w S n=(cX S n).2:=by unfold oQ;exact if_neg (fun e=>by rw[g17]at e;cases e)
   refine lY ?_;refine⟨j+1,hlt,by show x.l.length-(j+1)<x.l.length-j;omega, ?_⟩
   (try dsimp only);rw[hnx,htab];exact aL
  obtain rfl:j=x.l.length:=by simp at g14;omega
  rw[List.take_length]at hSe;rw[hSe];have hSl:S.l.length≤900000:=by rw[hS.1];exact hul
  refine tD ?_;refine cw (fL E0 r p z q S) Tryz.call202 (eY hN0 S (by omega) w (by omega)) rfl aC dG ?_;rintro _ σ' rfl h90;refine qW ?_;generalize aS S w=T;refine iC ?_;refine cw (jF z q T) Tryz.call302 (BB hN0.qz T) rfl aC dG ?_;rintro _ σ' ⟨e,he,rfl⟩ h101
  (try unfold fL);(try unfold jX);(try unfold jF);(try unfold nG);(try dsimp only[List.cons_append,List.nil_append]);refine sY (h101 _ (List.mem_cons_of_mem _ List.mem_cons_self)) fun k101=> ?_;intros
  have hL:Nr r p z e:=⟨hN0.pr,hN0.zr,hN0.zp,by(exact bV),by(exact bV),by(exact bV)⟩
  refine gX ?_;refine bY ?_;exact aE aF ⟨_,hL,rfl⟩ aA
 refine cZ ?_;refine aB rfl (fun g20=> ?_) (fun g20=> ?_)
 ·rw[show fS E0.res x t=qO (aS t E0.res) by unfold fS;simp only[g2,g5,g10,g20,if_true,if_false,Bool.false_eq_true]];refine tD ?_;refine kG ?_;refine cw (fL E0 r p z q t) Tryz.call202 (eY hN0 t (by omega) E0.res (by omega)) rfl aC dG ?_;rintro _ σ' rfl h99;refine qW ?_;generalize aS t E0.res=T;refine iC ?_;refine cw (jF z q T) Tryz.call302 (BB hN0.qz T) rfl aC dG ?_;rintro _ σ' ⟨e,he,rfl⟩ h101
  (try unfold fL);(try unfold jX);(try unfold jF);(try unfold nG);(try dsimp only[List.cons_append,List.nil_append]);refine sY (h101 _ (List.mem_cons_of_mem _ List.mem_cons_self)) fun k101=> ?_;intros
  have hL:Nr r p z e:=⟨hN0.pr,hN0.zr,hN0.zp,by(exact bV),by(exact bV),by(exact bV)⟩
  refine gX ?_;refine bY ?_;exact aE aF ⟨_,hL,rfl⟩ aA
 rw[show fS E0.res x t=qO t by unfold fS;simp only[g2,g5,g10,g20,if_true,if_false,Bool.false_eq_true]];obtain⟨T,hT⟩:∃T:RT,T=t:=⟨_,rfl⟩
 rw[←hT];refine dM ?_;refine cw (jF z q T) Tryz.call302 (BB hN0.qz T) rfl aC dG ?_;rintro _ σ' ⟨e,he,rfl⟩ h101
 (try unfold fL);(try unfold jX);(try unfold jF);(try unfold nG);(try dsimp only[List.cons_append,List.nil_append]);refine sY (h101 _ (List.mem_cons_of_mem _ List.mem_cons_self)) fun k101=> ?_;intros
 have hL:Nr r p z e:=⟨hN0.pr,hN0.zr,hN0.zp,by(exact bV),by(exact bV),by(exact bV)⟩
 refine gX ?_;refine bY ?_;exact aE aF ⟨_,hL,rfl⟩ aA
end
end Go.Proofs.YtjpdadobblffmaaGreat
namespace Go.Proofs.YtjpdadobblffmaaGreat
open Go.RowKit Go.ChangeShapes Go.WideShapes Go.ChangeAt Go.Deep
theorem OH{P:Program}{n d:Nat}{fr:Fr}{σ:dS}{K:ASt→Prop}{op:Op}{ty:TypeId}{v:AV}{rs:List Nat}(h:Lop P op ty ⟨fr,σ⟩ true v rs)(hd:Nat.ble (d+1) n=true)(hK:K ⟨(d,v)::fr,σ⟩):Hop P n op ty (some d) ⟨fr,σ⟩ [] K:=aAs h (cW hd) hK
structure Env.Ok (E0:Env):Prop where
 m:E0.m.Ck
 res:E0.res.length≤1000
 bl:E0.bd.length≤400
 bd:∀x∈E0.bd,x.Ck∧(0≤x.a∨SS x.op=false∧x.op≠16∧x.op≠17)∧(SS x.op=true→(-9000000000000000000≤x.a∧x.a≤9000000000000000000)∧∀n∈x.l,-9000000000000000000≤n∧n≤9000000000000000000)
def LE (E0:Env):RT→RT:=LR E0.m E0.ls E0.res E0.bd
structure In (E0:Env) (t:RT):Prop where
 a:t.a≤E0.bd.length
 lb:t.lb.length≤t.a
 sh:Sh t
structure Wi (E0:Env) (t:RT):Prop where
 a:t.a≤E0.bd.length
 lb:t.lb.length≤t.a+1
 sh:Sh t
 l:t.l.length≤1001*t.a
def aGl (E0:Env) (n:Nat):Prop:=∀(r p:Nat) (t:RT) (res br:List Int),Nq p r→In E0 t→E0.bd.length-t.a≤n→res.length≤1000→br.length≤1000→
 SCall Tryz.prog 80 [.ptr r 0,.ro 1 (res.map aP) .any,.ro 1 (br.map aP) .any] (jX E0 r p t) (fun _ σ=>∃e,Nq e r∧σ=jX E0 r e (dR (LE E0) res br t))
def aLH (E0:Env) (n:Nat):Prop:=∀(r p z q:Nat) (t:RT) (x:Ins),Nr r p z q→Wi E0 t→E0.bd[t.a]? =some x→E0.bd.length-t.a≤n→
 SCall Tryz.prog 201 [.ptr r 0,.agg (iv .any x),.ptr z 0] (fL E0 r p z q t) (fun _ σ=>∃e f,Nr r e z f∧σ=fL E0 r e z f (fD E0.m E0.ls E0.res E0.bd (LE E0) x t))
def Kpt (bd:List Ins) (t q:RT):Prop:=(t.a≤bd.length→q.a≤bd.length)∧q.lb=t.lb
section
variable {bd : List Ins} {t q s : RT}
theorem Kpt.refl:Kpt bd t t:=⟨id,rfl⟩
theorem Kpt.trans (h:Kpt bd t q)(h':Kpt bd q s):Kpt bd t s:=⟨fun e=>h'.1 (h.1 e),h'.2.trans h.2⟩
theorem Kpt.take (h:Kpt bd t q)(ks:List Int):Kpt bd t (aS q ks):=⟨fun e=>by rw[yQ];exact h.1 e,(rH q ks).trans h.2⟩
theorem Kpt.one (h:Kpt bd t q)(k:Int):Kpt bd t (jE q k).2:=⟨fun e=>by rw[aAx];exact h.1 e,(aDH q k).trans h.2⟩
theorem Kpt.put (h:Kpt bd t q)(ks:List Int):Kpt bd t (gS q ks):=h
theorem Kpt.ends (h:Kpt bd t q):Kpt bd t (qO q):=h
theorem Kpt.bad (h:Kpt bd t q):Kpt bd t (eG q):=h
theorem Kpt.label (h:Kpt bd t q)(n:Int):Kpt bd t (cX q n).2:=⟨fun e=>by rw[QS];exact h.1 e,(mE q n).2.2.trans h.2⟩
theorem Kpt.tabs (h:Kpt bd t q)(w l:List Int):Kpt bd t (l.foldl (oQ w) q):=by
 induction l generalizing q with
 |nil=>exact h
 |cons a l ih=>exact ih (aI (p:=Kpt bd t) (fun _=>(h.label a).bad) (fun _=>h.label a))
theorem Kpt.pass (h:Kpt bd t q)(op:Int):Kpt bd t (eP bd q op).2:=by
 unfold eP;refine aI (p:=fun r:Bool×RT=>Kpt bd t r.2) (fun e=>⟨fun _=> ?_,h.2⟩) (fun _=>h);show q.a+1≤bd.length;rcases Nat.lt_or_ge q.a bd.length with hlt|hge
 ·exact hlt
 ·rw[decide_eq_false (by omega)]at e;simp at e
theorem IL{lp:RT→RT}(hl:∀q,Kpt bd q (lp q))(res br:List Int)(t:RT):Kpt bd t (dR lp res br t):=by
 have h:=(hl ⟨t.a,t.lb++ [br],t.bad,[],false⟩).take res;refine⟨h.1, ?_⟩;show(aS _ res).lb.dropLast=t.lb;rw[h.2];simp
theorem aBB(res:List Int)(x:Ins)(t:RT):Kpt bd t (fS res x t):=by
 have h:=(Kpt.refl (bd:=bd) (t:=t))
 unfold fS;refine aI (fun _=>((h.label _).take _).ends) (fun _=> ?_);refine aI (fun _=>(((h.take _).label _).take _).put _) (fun _=> ?_);refine aI (fun _=>((((h.take _).label _).tabs _ _).take _).ends) (fun _=> ?_);exact aI (fun _=>(h.take _).ends) (fun _=>h.ends)
theorem aGm(m:Md)(x:Ins)(t:RT):Kpt bd t (qQ m x t):=by
 have h:=(Kpt.refl (bd:=bd) (t:=t))
 unfold qQ;refine aI (fun _=>aI (p:=Kpt bd t) (fun _=>h.bad) (fun _=>(h.take _).put _)) (fun _=> ?_);exact aI (fun _=>h.bad) (fun _=>((h.take _).take _).put _)
theorem YS{t q:RT}(h:Kpt bd t q)(x:Ins)(c k:Int):Kpt bd t (tT x c k q):=by
 have ha:Kpt bd t (if decide (c<x.a)=true then eG q else q):=aI (fun _=>h.bad) (fun _=>h);exact aI (fun _=>ha.take _) (fun _=>(ha.take _).put _)
theorem aJB(m:Md)(x:Ins)(t:RT):Kpt bd t (DV m x t):=by
 have h:Kpt bd t (if(!m.me.has)=true then eG t else t):=aI (fun _=>(Kpt.refl (bd:=bd) (t:=t)).bad) (fun _=>(Kpt.refl (bd:=bd) (t:=t)));unfold DV;generalize(if(!m.me.has)=true then eG t else t)=q at h;unfold AT;refine aI (fun _=>YS h x _ _) (fun _=> ?_);refine aI (fun _=>YS h x _ _) (fun _=> ?_);refine aI (fun _=>h.put _) (fun _=> ?_);exact aI (fun _=>(h.take _).put _) (fun _=>YS h x _ _)
theorem aBC(m:Md)(ls:List Int)(x:Ins)(t:RT):Kpt bd t (gF m ls x t):=by
 have h:=(Kpt.refl (bd:=bd) (t:=t))
 unfold gF;refine aI (fun _=>h.put _) (fun _=> ?_);refine aI (fun _=>h.put _) (fun _=> ?_);refine aI (fun _=>aI (fun _=>h.bad) (fun _=> ?_)) (fun _=> ?_)
 ·have hq:Kpt bd t (if(x.op !=32)=true then aS t [ls.getD x.a.toNat 0]else t):=aI (fun _=>h.take _) (fun _=>h);exact aI (fun _=>hq.put _) (fun _=>hq)
 refine aI (fun _=>aI (fun _=>h.bad) (fun _=>aI (fun _=>h.put _) (fun _=>h.take _))) (fun _=>aJB m x t)
theorem aGn(m:Md)(ls res:List Int)(x:Ins)(t:RT):Kpt bd t (gM m ls res x t):=by
 have h:=(Kpt.refl (bd:=bd) (t:=t))
 unfold gM;refine aI (fun _=>aBB _ _ _) (fun _=> ?_);refine aI (fun _=>aGm _ _ _) (fun _=> ?_);refine aI (fun _=>h.one 0) (fun _=> ?_);refine aI (fun _=>(((h.take _).one _).one _).put _) (fun _=> ?_);refine aI (fun _=>h) (fun _=> ?_);exact aI (fun _=>(h.take _).put _) (fun _=>aBC _ _ _ _)
theorem aGo{lp:RT→RT}(hl:∀q,Kpt bd q (lp q))(x:Ins)(t:RT):Kpt bd t (sU lp bd x t):=by
 rw[FZ];have h1:Kpt bd t (if(x.op==4)=true then aS t [1]else t):=aI (fun _=>Kpt.refl.take _) (fun _=>Kpt.refl);have h2:=h1.trans (IL hl (aX x.a) (brN x) _);have h3:∀q,Kpt bd t q→Kpt bd t (nL lp bd x q):=fun q h=>aI (fun _=>aI (fun _=>(h.pass 5).trans (IL hl _ _ _)) (fun _=>aI (fun _=>(h.pass 5).bad) (fun _=>h.pass 5))) (fun _=>h)
 have h4:∀q,Kpt bd t q→Kpt bd t (DW bd x q):=fun q h=>Kpt.put (aI (fun _=>(h.pass 11).bad) (fun _=>h.pass 11)) _
 exact h4 _ (h3 _ h2)
theorem WE(m:Md)(ls res:List Int){lp:RT→RT}(hl:∀q,Kpt bd q (lp q))(x:Ins)(t:RT)(ha:t.a<bd.length):(fD m ls res bd lp x t).a≤bd.length∧(fD m ls res bd lp x t).lb=t.lb:=by
 unfold fD;refine aI (p:=fun r:RT=>r.a≤bd.length∧r.lb=t.lb) (fun _=> ?_) (fun _=> ?_)
 ·obtain⟨h1,h2⟩:=aGo hl x ⟨t.a+1,t.lb,t.bad,t.l,t.dd⟩;exact⟨h1 ha,h2⟩
 ·obtain⟨h1,h2⟩:=aGn (bd:=bd) m ls res x ⟨t.a+1,t.lb,t.bad,t.l,t.dd⟩;exact⟨h1 ha,h2⟩
theorem QW(m:Md)(ls res:List Int):∀(f:Nat) (t:RT),Kpt bd t (mO m ls res bd f t)
 |0,t=>Kpt.refl
 |f+1,t=>by
  rw[mO];refine aI (fun e=> ?_) (fun _=>Kpt.refl);refine aI (p:=Kpt bd t) (fun _=>Kpt.refl) (fun _=> ?_);have ha:t.a<bd.length:=by
   rcases Nat.lt_or_ge t.a bd.length with h|h
   ·exact h
   ·rw[decide_eq_false (by omega)]at e;simp at e
  obtain⟨h1,h2⟩:=WE m ls res (QW m ls res f) (bd.getD t.a ⟨0,0,0,[]⟩) t ha;obtain⟨k1,k2⟩:=QW m ls res f (fD m ls res bd (mO m ls res bd f) (bd.getD t.a ⟨0,0,0,[]⟩) t);exact⟨fun _=>k1 h1,k2.trans h2⟩
end
theorem aHC(E0:Env)(t:RT):Kpt E0.bd t (LE E0 t):=QW _ _ _ _ t
def Ln (l n:Nat) (q:RT):Prop:=q.l.length≤l+n
theorem Ln.take {l n:Nat}{q:RT}(h:Ln l n q)(ks:List Int):Ln l n (aS q ks):=Nat.le_trans (iP q ks) h
theorem Ln.one {l n:Nat}{q:RT}(h:Ln l n q)(k:Int):Ln l n (jE q k).2:=Nat.le_trans (BC q k) h
theorem Ln.bad {l n:Nat}{q:RT}(h:Ln l n q):Ln l n (eG q):=h
theorem Ln.ends {l n:Nat}{q:RT}:Ln l n (qO q):=Nat.zero_le _
theorem Ln.label {l n:Nat}{q:RT}(h:Ln l n q)(k:Int):Ln l n (cX q k).2:=by unfold Ln;rw[(mE q k).1];exact h
theorem Ln.put {l n:Nat}{q:RT}(h:Ln l n q)(ks:List Int)(m:Nat)(hm:n+ks.length≤m):Ln l m (gS q ks):=by
 unfold Ln at h⊢;show(q.l++ks).length≤ _;rw[List.length_append];omega
theorem Ln.up {l n m:Nat}{q:RT}(h:Ln l n q)(hm:n≤m):Ln l m q:=by unfold Ln at h⊢;omega
theorem Ln.refl (t:RT):Ln t.l.length 0 t:=Nat.le_refl _
theorem aBD{t:RT}(hsh:Sh t)(res:List Int)(x:Ins):Ln t.l.length 1000 (fS res x t):=by
 have h:=Ln.refl t;unfold fS;refine aI (fun _=>Ln.ends) (fun _=> ?_);refine aI (fun _=>(((h.take _).label _).take _).put _ 1000 (by have:=BD (WD t [1] hsh) x.a;omega)) (fun _=> ?_);refine aI (fun _=>Ln.ends) (fun _=> ?_);exact aI (fun _=>Ln.ends) (fun _=>Ln.ends)
theorem aGp{m:Md}(hT:m.TS)(x:Ins)(t:RT)(ha:0≤x.a):Ln t.l.length 1000 (qQ m x t):=by
 have h:=Ln.refl t;have h1:=(IK hT ha).2;have h2:(m.ty.getD x.a.toNat sR).rs.length≤100:=by
  rw[List.getD_eq_getElem?_getD];cases hg:m.ty[x.a.toNat]? with
  |none=>simp[sR]
  |some y=>exact(hT y (List.mem_of_getElem? hg)).2
 unfold qQ;refine aI (fun _=>aI (p:=Ln t.l.length 1000) (fun _=>h.bad.up (by omega)) (fun _=>(h.take _).put _ 1000 (by omega))) (fun _=> ?_);exact aI (fun _=>h.bad.up (by omega)) (fun _=>((h.take _).take _).put _ 1000 (by omega))
theorem aJC(m:Md)(x:Ins)(t:RT):Ln t.l.length 1000 (DV m x t):=by
 have h:Ln t.l.length 0 (if(!m.me.has)=true then eG t else t):=aI (fun _=>(Ln.refl t).bad) (fun _=>Ln.refl t);unfold DV;generalize(if(!m.me.has)=true then eG t else t)=q at h;have hb:∀c k:Int,Ln t.l.length 1000 (tT x c k q):=fun c k=>by
  have ha:Ln t.l.length 0 (if decide (c<x.a)=true then eG q else q):=aI (fun _=>h.bad) (fun _=>h);exact aI (fun _=>(ha.take _).up (by omega)) (fun _=>(ha.take _).put _ 1000 (by simp))
 unfold AT;refine aI (fun _=>hb _ _) (fun _=> ?_);refine aI (fun _=>hb _ _) (fun _=> ?_);refine aI (fun _=>h.put _ 1000 (by simp)) (fun _=> ?_);exact aI (fun _=>(h.take _).put _ 1000 (by simp)) (fun _=>hb _ _)
theorem aBE(m:Md)(ls:List Int)(x:Ins)(t:RT):Ln t.l.length 1000 (gF m ls x t):=by
 have h:=Ln.refl t;unfold gF;refine aI (fun _=>h.put _ 1000 (by simp)) (fun _=> ?_);refine aI (fun _=>h.put _ 1000 (by simp)) (fun _=> ?_);refine aI (fun _=>aI (fun _=>h.bad.up (by omega)) (fun _=> ?_)) (fun _=> ?_)
 ·have hq:Ln t.l.length 0 (if(x.op !=32)=true then aS t [ls.getD x.a.toNat 0]else t):=aI (fun _=>h.take _) (fun _=>h);exact aI (fun _=>hq.put _ 1000 (by simp)) (fun _=>hq.up (by omega))
 refine aI (fun _=>aI (fun _=>h.bad.up (by omega)) (fun _=>aI (fun _=>h.put _ 1000 (by simp)) (fun _=>(h.take _).up (by omega)))) (fun _=>aJC m x t)
theorem aGq{m:Md}(hT:m.TS)(ls res:List Int)(x:Ins)(t:RT)(hsh:Sh t)(ha:(x.op==16||x.op==17)=true→0≤x.a):Ln t.l.length 1000 (gM m ls res x t):=by
 have h:=Ln.refl t;unfold gM;refine aI (fun _=>aBD hsh _ _) (fun _=> ?_);refine aI (fun e=>aGp hT _ _ (ha e)) (fun _=> ?_);refine aI (fun _=>(h.one 0).up (by omega)) (fun _=> ?_);refine aI (fun _=>(((h.take _).one _).one _).put _ 1000 (by simp)) (fun _=> ?_);refine aI (fun _=>h.up (by omega)) (fun _=> ?_);exact aI (fun _=>(h.take _).put _ 1000 (by simp)) (fun _=>aBE _ _ _ _)
theorem aGr(lp:RT→RT)(bd:List Ins)(x:Ins)(t:RT):Ln t.l.length 1000 (sU lp bd x t):=by
 rw[FZ];have h1:Ln t.l.length 0 (if(x.op==4)=true then aS t [1]else t):=aI (fun _=>(Ln.refl t).take _) (fun _=>Ln.refl t);have hb:∀(q:RT) (a b:List Int),Ln t.l.length 0 q→Ln t.l.length 0 (dR lp a b q):=fun q a b h=>h
 have hp:∀(q:RT) (o:Int),Ln t.l.length 0 q→Ln t.l.length 0 (eP bd q o).2:=fun q o h=>by
  unfold eP;exact aI (p:=fun r:Bool×RT=>Ln t.l.length 0 r.2) (fun _=>h) (fun _=>h)
 have h3:∀q,Ln t.l.length 0 q→Ln t.l.length 0 (nL lp bd x q):=fun q h=>aI (fun _=>aI (fun _=>hb _ _ _ (hp _ _ h)) (fun _=>aI (fun _=>(hp _ _ h).bad) (fun _=>hp _ _ h))) (fun _=>h)
 exact Ln.put (aI (p:=Ln t.l.length 0) (fun _=>(hp _ _ (h3 _ (hb _ _ _ h1))).bad) (fun _=>hp _ _ (h3 _ (hb _ _ _ h1)))) _ 1000 (by have:=qM x.a;omega)
theorem aDY{E0:Env}(hE0:E0.Ok){t:RT}(h:Wi E0 t){x:Ins}(hx:E0.bd[t.a]? =some x):Wi E0 (fD E0.m E0.ls E0.res E0.bd (LE E0) x t)∧t.a<(fD E0.m E0.ls E0.res E0.bd (LE E0) x t).a∧(fD E0.m E0.ls E0.res E0.bd (LE E0) x t).lb=t.lb:=by
 have hlt:t.a<E0.bd.length:=(List.getElem?_eq_some_iff.1 hx).1;obtain⟨k1,k2⟩:=WE E0.m E0.ls E0.res (aHC E0) x t hlt;have k3:=(wT E0.m E0.ls E0.res E0.bd (IF E0.m E0.ls E0.res E0.bd) x t).1;have k4:Ln t.l.length 1000 (fD E0.m E0.ls E0.res E0.bd (LE E0) x t):=by
  unfold fD;refine aI (fun _=>aGr (LE E0) E0.bd x ⟨t.a+1,t.lb,t.bad,t.l,t.dd⟩) (fun _=> ?_);refine aGq hE0.m.ts E0.ls E0.res x ⟨t.a+1,t.lb,t.bad,t.l,t.dd⟩ h.sh fun e=> ?_
  rcases(hE0.bd x (List.mem_of_getElem? hx)).2.1 with h0|⟨-,h1,h2⟩
  ·exact h0
  ·simp only[Bool.or_eq_true,beq_iff_eq]at e;omega
 have k3':t.a+1≤(fD E0.m E0.ls E0.res E0.bd (LE E0) x t).a:=k3;refine⟨⟨k1,by rw[k2];have:=h.lb;omega,by unfold Sh;rw[k2];exact h.sh, ?_⟩,by omega,k2⟩;have:=h.l;unfold Ln at k4;omega
end Go.Proofs.YtjpdadobblffmaaGreat
namespace Go.Proofs.YtjpdadobblffmaaGreat
open Go.RowKit Go.ChangeShapes Go.WideShapes Go.ChangeAt Go.Deep
attribute [local irreducible] SW RS RD fG eH
theorem QX(l:List (List Int))(b:List Int):(l++ [b]).length=l.length+1:=by simp
theorem QY(l:List (List Int))(b:List Int):(l++ [b]).map kW=l.map kW++ [kW b]:=by simp
theorem aGs{E0:Env}{T:RT}(h:(if decide ((T.a:Int)<E0.bd.length)=true then !T.bad else false)=false):LE E0 T=T:=by
 unfold LE;rw[VU,if_neg (fun e=>by rw[h]at e;cases e)]
theorem aJD{E0:Env}{T:RT}{x:Ins}(hx:E0.bd[T.a]? =some x)(h:(if(x.op==11)=true then true else(x.op==5))=true):LE E0 T=T:=by
 unfold LE;rw[VU,List.getD_eq_getElem?_getD,hx,Option.getD_some,if_pos h];exact aI (p:=fun r:RT=>r=T) (fun _=>rfl) (fun _=>rfl)
theorem aGt{E0:Env}{T:RT}{x:Ins}(hc:(if decide ((T.a:Int)<E0.bd.length)=true then !T.bad else false)=true)(hx:E0.bd[T.a]? =some x)(h:(if(x.op==11)=true then true else(x.op==5))=false):LE E0 T=LE E0 (fD E0.m E0.ls E0.res E0.bd (LE E0) x T):=by
 unfold LE
 conv=>lhs;rw[VU]
 rw[if_pos hc,List.getD_eq_getElem?_getD,hx,Option.getD_some,if_neg (fun e=>by rw[h]at e;cases e)]
theorem OI{E0:Env}(hE0:E0.Ok)(n:Nat)(hI:aLH E0 n):aGl E0 n:=by
 intro r p t res br hpr hIn hn hres hbr;obtain⟨ha,hlb,hsh⟩:=hIn;have hbl:=hE0.bl;refine cF 94 [0,1,2,6,7,36,53,76] Tryz.func80 ?_;unfold jX nG
 (try dsimp only);refine eX ?_;refine kG ?_;refine lo (aD (E rfl)) rfl ?_;refine eN fun r14 h14=> ?_;intros
 refine iY ((t.lb++ [br]).map kW) (t.lb++ [br]).length ?_;refine bH fun r15 h15=> ?_;intros
 refine uO ?_;refine pX ?_;refine uE ?_;refine iQ fun r19 h19=> ?_;intros
 refine dE ?_;refine cM (ks:=[0,1,2,6,7,36,53,76]) r19 0 3 1 (by decide) bA rfl (by decide) fun q0 hq0=> ?_
 simp only[aO,aT,and_true]at hq0;repeat rcases hq0 with⟨_,hq0⟩
 apply Exists.intro;apply And.intro;exact cA;have hN0:Nr r r15 r19 q0:=⟨by(exact bV),by(exact bV),by(exact bV),by(exact bV),by(exact bV),by(exact bV)⟩
 have hW0:Wi E0 ⟨t.a,t.lb++ [br],t.bad,[],false⟩:=⟨ha,by simp;omega,fun l hl=>by rcases List.mem_append.1 hl with hl|hl;exact hsh l hl;obtain rfl:=List.mem_singleton.1 hl;exact hbr,by simp⟩
 refine lp (β:=Nat×Nat×RT) (fun b=>⟨[(0,.ptr r 0),(1,.ro 1 (res.map aP) .any),(6,.ptr r19 0)],fL E0 r b.1 r19 b.2.1 b.2.2⟩) (fun b=>Nr r b.1 r19 b.2.1∧Wi E0 b.2.2∧LE E0 b.2.2=LE E0 ⟨t.a,t.lb++ [br],t.bad,[],false⟩∧b.2.2.lb=t.lb++ [br]∧t.a≤b.2.2.a) (fun b=>E0.bd.length-b.2.2.a) (r15,q0,⟨t.a,t.lb++ [br],t.bad,[],false⟩) (by unfold fL jX jF nG;(try dsimp only[List.cons_append,List.nil_append]);(exact aL)) ⟨hN0,hW0,rfl,rfl,Nat.le_refl _⟩ ?_;rintro⟨p',q',T⟩ ⟨hN1,hW,hLE,hTl,hTa⟩;dsimp only at hN1 hW hLE hTl hTa⊢;obtain⟨m1,m2,m3,m4,m5,m6⟩:=id hN1;have hWa:=hW.a;have hWl:=hW.l;unfold fL jX jF nG
 (try dsimp only[List.cons_append,List.nil_append]);refine aJ ?_;refine fM [(0,true),(1,true),(2,true),(3,true),(4,true),(5,true),(6,true),(7,true),(8,true),(9,true),(10,true),(11,true),(12,true),(13,true),(14,true),(15,true),(16,true)] ?_;refine pC ?_;refine CY ?_;refine z46 ?_;refine BQ ?_;refine sq7 ?_;refine rN ?_;refine aMI ?_;refine aAM ?_;refine lF ?_;refine aB rfl (fun g2=> ?_) (fun g2=> ?_)
 ·have hlt:T.a<E0.bd.length:=by
   rcases Nat.lt_or_ge T.a E0.bd.length with h|h
   ·exact h
   ·rw[decide_eq_false (by omega)]at g2;simp at g2
  obtain⟨x,hx⟩:∃x,E0.bd[T.a]? =some x:=⟨_,List.getElem?_eq_getElem hlt⟩
  refine aJ ?_;refine fM [(0,true),(1,true),(2,true),(3,true),(4,true),(5,true),(6,true),(7,true),(8,true),(9,true),(10,true),(11,true)] ?_;refine pC ?_;refine pC ?_;refine MT ?_;refine aEC ?_;refine XE ?_;refine dM ?_;refine lo (dI (E rfl) (E rfl)) rfl ?_;refine jL ?_;refine xY ?_;refine lL ?_;refine aB rfl (fun g4=> ?_) (fun g4=> ?_)
  ·have hTe:=aJD hx g4;refine tD ?_;refine cw (fL E0 r p' r19 q' T) Tryz.call202 (eY hN1 T (by omega) res (by omega)) rfl aC dG ?_;rintro _ σ' rfl h70;refine qW ?_;have hB:dR (LE E0) res br t=⟨(aS T res).a,t.lb,if decide ((0:Int)<(aS T res).l.length)=true then true else(aS T res).bad,t.l,t.dd⟩:=by
    unfold dR;rw[←hLE,hTe];show(⟨_,(aS T res).lb.dropLast,_,_,_⟩:RT)=_;rw[rH,hTl,List.dropLast_concat]
   rw[hB];have h2l:(aS T res).lb=t.lb++ [br]:=(rH T res).trans hTl;generalize aS T res=T2 at h2l⊢;rw[h2l];refine iC ?_;refine kG ?_;refine uC ?_;refine aB rfl (fun g7=> ?_) (fun g7=> ?_)
   ·rw[show(if decide ((0:Int)<T2.l.length)=true then true else T2.bad)=true from if_pos g7];refine sG ?_;rw[QX,QY];have hfin:Nq p' r:=m1;refine fM [(0,true),(1,true),(2,true),(3,true),(4,true),(5,true),(6,true),(7,true),(8,true),(9,true),(10,true),(11,true),(12,true),(13,true),(14,false)] ?_;refine zK ?_;refine sI ?_;refine z25 ?_;refine z77 ?_;refine mJ ?_;refine lF ?_;rw[qN];refine AP (nZ (o:=p') t.lb.length cA) ?_;rw[show List.take t.lb.length (t.lb.map kW++ [kW br])=t.lb.map kW by rw[List.take_left' (by simp)]];refine bY ?_;exact aE aF ⟨_,hfin,rfl⟩ aA
   rw[show(if decide ((0:Int)<T2.l.length)=true then true else T2.bad)=T2.bad from if_neg (fun e=>by rw[g7]at e;cases e)];refine aJ ?_;rw[QX,QY];have hfin:Nq p' r:=m1;refine fM [(0,true),(1,true),(2,true),(3,true),(4,true),(5,true),(6,true),(7,true),(8,true),(9,true),(10,true),(11,true),(12,true),(13,true),(14,false)] ?_;refine zK ?_;refine sI ?_;refine z25 ?_;refine z77 ?_;refine mJ ?_;refine lF ?_;rw[qN];refine AP (nZ (o:=p') t.lb.length cA) ?_;rw[show List.take t.lb.length (t.lb.map kW++ [kW br])=t.lb.map kW by rw[List.take_left' (by simp)]];refine bY ?_;exact aE aF ⟨_,hfin,rfl⟩ aA
  have hnx:=aGt g2 hx g4;obtain⟨w1,w2,w3⟩:=aDY hE0 hW hx;refine aJ ?_;refine fM [(0,true),(1,true),(2,true),(3,true),(5,true),(6,true),(7,true),(11,true),(13,false),(13,false),(13,false),(13,false),(13,false)] ?_;refine fI rfl (aD (E rfl)) rfl ?_;refine GL ?_;refine OW ?_;refine GL ?_;refine OW ?_;refine fI rfl (aD (E rfl)) rfl ?_;refine jD 4 8 [(8,false),(9,true),(10,true),(12,false)] [(4,false),(9,true),(10,true),(12,false)] (f1:=[]) (f2:=[]) (by kernel_rfl) rfl rfl ?_ ?_ (.inl rfl) (.inl rfl)
  ·first|refine OH (aM (E rfl) rfl bA (fun _=>rfl)) rfl ?_ |refine OH (aM (E rfl) rfl bA (fun _=>by assumption)) rfl ?_ |refine OH (aN (E rfl) rfl (fun hc=>by first|rfl|exact aH (by assumption)|assumption|exact aH (aQ (by omega))) (fun _=>rfl)) rfl ?_
   first|refine dhl rfl (aM (E rfl) rfl bA (fun _=>rfl)) rfl ?_ |refine dhl rfl (aM (E rfl) rfl bA (fun _=>by assumption)) rfl ?_ |refine dhl rfl (aN (E rfl) rfl (fun hc=>by first|rfl|exact aH (by assumption)|assumption|exact aH (aQ (by omega))) (fun _=>rfl)) rfl ?_
   refine MT ?_;refine xB ?_;refine rW (fL E0 r p' r19 q' T) rfl Tryz.call201 (hI r p' r19 q' T x hN1 hW hx (by omega)) rfl aC dG aLG ?_;rintro _ σ' ⟨e,f,hE,rfl⟩ h66
   (try unfold fL);(try unfold jX);(try unfold jF);(try unfold nG);(try dsimp only[List.cons_append,List.nil_append]);obtain⟨e1,e2,e3,e4,e5,e6⟩:=id hE;apply bZ;exact bN;refine lF ?_;refine⟨(e,f,fD E0.m E0.ls E0.res E0.bd (LE E0) x T),⟨hE,w1,by rw[←hnx];exact hLE,w3.trans hTl,by show t.a≤(fD E0.m E0.ls E0.res E0.bd (LE E0) x T).a;omega⟩,by show E0.bd.length-(fD E0.m E0.ls E0.res E0.bd (LE E0) x T).a<E0.bd.length-T.a;omega, ?_⟩
   (try dsimp only);exact aL
  ·first|refine OH (aM (E rfl) rfl bA (fun _=>rfl)) rfl ?_ |refine OH (aM (E rfl) rfl bA (fun _=>by assumption)) rfl ?_ |refine OH (aN (E rfl) rfl (fun hc=>by first|rfl|exact aH (by assumption)|assumption|exact aH (aQ (by omega))) (fun _=>rfl)) rfl ?_
   first|refine dhl rfl (aM (E rfl) rfl bA (fun _=>rfl)) rfl ?_ |refine dhl rfl (aM (E rfl) rfl bA (fun _=>by assumption)) rfl ?_ |refine dhl rfl (aN (E rfl) rfl (fun hc=>by first|rfl|exact aH (by assumption)|assumption|exact aH (aQ (by omega))) (fun _=>rfl)) rfl ?_
   refine MT ?_;refine xB ?_;refine rW (fL E0 r p' r19 q' T) rfl Tryz.call201 (hI r p' r19 q' T x hN1 hW hx (by omega)) rfl aC dG aLG ?_;rintro _ σ' ⟨e,f,hE,rfl⟩ h66
   (try unfold fL);(try unfold jX);(try unfold jF);(try unfold nG);(try dsimp only[List.cons_append,List.nil_append]);obtain⟨e1,e2,e3,e4,e5,e6⟩:=id hE;apply bZ;exact bN;refine lF ?_;refine⟨(e,f,fD E0.m E0.ls E0.res E0.bd (LE E0) x T),⟨hE,w1,by rw[←hnx];exact hLE,w3.trans hTl,by show t.a≤(fD E0.m E0.ls E0.res E0.bd (LE E0) x T).a;omega⟩,by show E0.bd.length-(fD E0.m E0.ls E0.res E0.bd (LE E0) x T).a<E0.bd.length-T.a;omega, ?_⟩
   (try dsimp only);exact aL
 have hTe:=aGs (E0:=E0) g2;refine tD ?_;refine cw (fL E0 r p' r19 q' T) Tryz.call202 (eY hN1 T (by omega) res (by omega)) rfl aC dG ?_;rintro _ σ' rfl h70;refine qW ?_;have hB:dR (LE E0) res br t=⟨(aS T res).a,t.lb,if decide ((0:Int)<(aS T res).l.length)=true then true else(aS T res).bad,t.l,t.dd⟩:=by
  unfold dR;rw[←hLE,hTe];show(⟨_,(aS T res).lb.dropLast,_,_,_⟩:RT)=_;rw[rH,hTl,List.dropLast_concat]
 rw[hB];have h2l:(aS T res).lb=t.lb++ [br]:=(rH T res).trans hTl;generalize aS T res=T2 at h2l⊢;rw[h2l];refine iC ?_;refine kG ?_;refine uC ?_;refine aB rfl (fun g7=> ?_) (fun g7=> ?_)
 ·rw[show(if decide ((0:Int)<T2.l.length)=true then true else T2.bad)=true from if_pos g7];refine sG ?_;rw[QX,QY];have hfin:Nq p' r:=m1;refine fM [(0,true),(1,true),(2,true),(3,true),(4,true),(5,true),(6,true),(7,true),(8,true),(9,true),(10,true),(11,true),(12,true),(13,true),(14,false)] ?_;refine zK ?_;refine sI ?_;refine z25 ?_;refine z77 ?_;refine mJ ?_;refine lF ?_;rw[qN];refine AP (nZ (o:=p') t.lb.length cA) ?_;rw[show List.take t.lb.length (t.lb.map kW++ [kW br])=t.lb.map kW by rw[List.take_left' (by simp)]];refine bY ?_;exact aE aF ⟨_,hfin,rfl⟩ aA
 rw[show(if decide ((0:Int)<T2.l.length)=true then true else T2.bad)=T2.bad from if_neg (fun e=>by rw[g7]at e;cases e)];refine aJ ?_;rw[QX,QY];have hfin:Nq p' r:=m1;refine fM [(0,true),(1,true),(2,true),(3,true),(4,true),(5,true),(6,true),(7,true),(8,true),(9,true),(10,true),(11,true),(12,true),(13,true),(14,false)] ?_;refine zK ?_;refine sI ?_;refine z25 ?_;refine z77 ?_;refine mJ ?_;refine lF ?_;rw[qN];refine AP (nZ (o:=p') t.lb.length cA) ?_;rw[show List.take t.lb.length (t.lb.map kW++ [kW br])=t.lb.map kW by rw[List.take_left' (by simp)]];refine bY ?_;exact aE aF ⟨_,hfin,rfl⟩ aA
theorem CI(bd:List Ins)(t:RT)(op:Int):(eP bd t op).2.l=t.l∧(eP bd t op).2.dd=t.dd∧(eP bd t op).2.lb=t.lb:=by
 unfold eP;exact aI (p:=fun r:Bool×RT=>r.2.l=t.l∧r.2.dd=t.dd∧r.2.lb=t.lb) (fun _=>⟨rfl,rfl,rfl⟩) (fun _=>⟨rfl,rfl,rfl⟩)
structure At (E0:Env) (a0 l0:Nat) (lb0:List (List Int)) (t:RT):Prop where
 a:t.a≤E0.bd.length
 ge:a0≤t.a
 lb:t.lb=lb0
 l:t.l.length≤l0
theorem At.take {E0:Env}{a0 l0:Nat}{lb0:List (List Int)}{t:RT}(h:At E0 a0 l0 lb0 t)(ks:List Int):At E0 a0 l0 lb0 (aS t ks):=⟨by rw[yQ];exact h.a,by rw[yQ];exact h.ge,(rH t ks).trans h.lb,Nat.le_trans (iP t ks) h.l⟩
theorem At.bad {E0:Env}{a0 l0:Nat}{lb0:List (List Int)}{t:RT}(h:At E0 a0 l0 lb0 t):At E0 a0 l0 lb0 (eG t):=⟨h.a,h.ge,h.lb,h.l⟩
theorem At.block {E0:Env}{a0 l0:Nat}{lb0:List (List Int)}{t:RT}(h:At E0 a0 l0 lb0 t)(res br:List Int):At E0 a0 l0 lb0 (dR (LE E0) res br t):=by
 obtain⟨h1,h2⟩:=IL (bd:=E0.bd) (aHC E0) res br t;have h3:=(lB (IF E0.m E0.ls E0.res E0.bd) res br t).1;have h3':t.a+0≤(dR (LE E0) res br t).a:=h3;exact⟨h1 h.a,by have:=h.ge;omega,h2.trans h.lb,h.l⟩
theorem At.pass {E0:Env}{a0 l0:Nat}{lb0:List (List Int)}{t:RT}(h:At E0 a0 l0 lb0 t)(op:Int):At E0 a0 l0 lb0 (eP E0.bd t op).2:=by
 obtain⟨k1,k2,k3⟩:=CI E0.bd t op;have h1:=(Kpt.refl (bd:=E0.bd) (t:=t)).pass op;have h2:=(sW E0.bd t op).1;exact⟨h1.1 h.a,by have:=h.ge;omega,k3.trans h.lb,by rw[k1];exact h.l⟩
theorem At.els {E0:Env}{a0 l0:Nat}{lb0:List (List Int)}{t:RT}(h:At E0 a0 l0 lb0 t)(x:Ins):At E0 a0 l0 lb0 (nL (LE E0) E0.bd x t):=
 aI (fun _=>aI (fun _=>(h.pass 5).block _ _) (fun _=>aI (fun _=>(h.pass 5).bad) (fun _=>h.pass 5))) (fun _=>h)
theorem aDZ{E0:Env}(hE0:E0.Ok)(n:Nat)(hB:aGl E0 n){r p z q:Nat}(hN:Nr r p z q)(t:RT)(ha:t.a≤E0.bd.length)(hlb:t.lb.length≤t.a)(hsh:Sh t)(hl:t.l.length≤900000)(hn:E0.bd.length-t.a≤n)(x:Ins):
  SCall Tryz.prog 271 [.ptr r 0,.agg (iv .any x),.ptr z 0] (fL E0 r p z q t) (fun _ σ=>∃e f,Nr r e z f∧σ=fL E0 r e z f (sU (LE E0) E0.bd x t)):=by
 have hN0:=hN;obtain⟨n1,n2,n3,n4,n5,n6⟩:=hN;have hbl:=hE0.bl;have hll:=qM x.a;have hA0:At E0 t.a t.l.length t.lb t:=⟨ha,Nat.le_refl _,rfl,Nat.le_refl _⟩
 rw[FZ];unfold iv;refine cF 51 [0,1,2,4,6,12,19,29,31,38,44] Tryz.func271 ?_;unfold fL jX jF nG
 (try dsimp only[List.cons_append,List.nil_append]);refine dX ?_;refine iQ fun r4 h4=> ?_;intros
 refine iF ?_;refine fN ?_;refine cw [] Tryz.call299 (aJA x.a) rfl aC aA ?_;rintro _ σ' ⟨rfl,rfl⟩ h9;refine eZ ?_;have hA1:At E0 t.a t.l.length t.lb (if(x.op==4)=true then aS t [1]else t):=aI (fun _=>hA0.take [1]) (fun _=>hA0);refine mK ?_;refine rO ?_;refine WZ (β:=Unit) (fun _=>⟨[(0,.ptr r 0),(2,.ptr z 0),(4,.ptr r4 0),(6,.ro 1 ((aX x.a).map aP) .any)],(r4,.box 46 [.int .i64 x.op,.int .i64 x.a,.int .i64 x.b,.ro 1 (x.l.map aP) .any])::fL E0 r p z q (if(x.op==4)=true then aS t [1]else t)⟩) (fun _=>True) ?_ ?_
 ·refine aB rfl (fun g2=> ?_) (fun g2=> ?_)
  ·rw[if_pos (c:=(x.op==4)=true) g2];refine eX ?_;refine eN fun r15 h15=> ?_;intros
   refine gJ (j:=15) rfl aU (aK bA (by simp)) ?_;refine cw (fL E0 r p z q t) Tryz.call202 (eY hN0 t (by omega) [1] (by simp)) rfl aC dG ?_;rintro _ σ' rfl h16;refine qW ?_;exact⟨(),trivial,aL⟩
  rw[if_neg (c:=(x.op==4)=true) (fun e=>by rw[g2]at e;cases e)];refine aJ ?_;exact⟨(),trivial,aL⟩
 rintro⟨⟩-;generalize(if(x.op==4)=true then aS t [1]else t)=t1 at hA1⊢;unfold fL jX jF nG
 (try dsimp only[List.cons_append,List.nil_append]);refine aJ ?_;have hA2:=hA1.block (aX x.a) (brN x);have hIn:In E0 t1:=⟨hA1.a,by rw[hA1.lb];have:=hA1.ge;omega,by unfold Sh;rw[hA1.lb];exact hsh⟩
 have hn1:E0.bd.length-t1.a≤n:=by have:=hA1.ge;omega
 refine mK ?_;refine rO ?_;refine WZ (β:=Nat) (fun e=>⟨[(0,.ptr r 0),(2,.ptr z 0),(4,.ptr r4 0),(6,.ro 1 ((aX x.a).map aP) .any)],(r4,.box 46 [.int .i64 x.op,.int .i64 x.a,.int .i64 x.b,.ro 1 (x.l.map aP) .any])::fL E0 r e z q (dR (LE E0) (aX x.a) (brN x) t1)⟩) (fun e=>Nr r e z q∧Nq e r4) ?_ ?_
 ·refine aB rfl (fun g4=> ?_) (fun g4=> ?_)
  ·have hb0:brN x=[]:=if_pos g4;rw[hb0];refine eX ?_;refine cw (jX E0 r p t1) Tryz.call80 (hB r p t1 (aX x.a) [] n1 hIn hn1 (by omega) (by simp)) rfl aC dG ?_;rintro _ σ' ⟨e,he,rfl⟩ h22
   (try unfold fL);(try unfold jX);(try unfold jF);(try unfold nG);(try dsimp only[List.cons_append,List.nil_append]);refine aJz (h22 _ (List.mem_cons_of_mem _ List.mem_cons_self)) fun k22=> ?_;intros
   refine gX ?_;exact⟨e,⟨⟨he,n2,by(exact bV),n4,by(exact bV),n6⟩,by(exact bV)⟩,aL⟩
  have hb0:brN x=aX x.a:=if_neg (fun e=>by rw[g4]at e;cases e);rw[hb0];refine tD ?_;refine cw (jX E0 r p t1) Tryz.call80 (hB r p t1 (aX x.a) (aX x.a) n1 hIn hn1 (by omega) (by omega)) rfl aC dG ?_;rintro _ σ' ⟨e,he,rfl⟩ h26
  (try unfold fL);(try unfold jX);(try unfold jF);(try unfold nG);(try dsimp only[List.cons_append,List.nil_append]);refine aJz (h26 _ (List.mem_cons_of_mem _ List.mem_cons_self)) fun k26=> ?_;intros
  refine gX ?_;exact⟨e,⟨⟨he,n2,by(exact bV),n4,by(exact bV),n6⟩,by(exact bV)⟩,aL⟩
 rintro p1 ⟨hN1,hp14⟩;generalize dR (LE E0) (aX x.a) (brN x) t1=T2 at hA2⊢;obtain⟨m1,m2,m3,m4,m5,m6⟩:=id hN1;unfold fL jX jF nG
 (try dsimp only[List.cons_append,List.nil_append]);refine aJ ?_;have hA3:=hA2.els x;have hAp:=hA2.pass 5;refine mK ?_;refine rO ?_;refine WZ (β:=Nat) (fun e=>⟨[(0,.ptr r 0),(2,.ptr z 0),(4,.ptr r4 0),(6,.ro 1 ((aX x.a).map aP) .any)],(r4,.box 46 [.int .i64 x.op,.int .i64 x.a,.int .i64 x.b,.ro 1 (x.l.map aP) .any])::fL E0 r e z q (nL (LE E0) E0.bd x T2)⟩) (fun e=>Nr r e z q∧Nq e r4) ?_ ?_
 ·refine aB rfl (fun g7=> ?_) (fun g7=> ?_)
  ·refine dM ?_;refine cw (jX E0 r p1 T2) Tryz.call300 (WC m1 T2 (by have:=hA2.a;omega) 5) rfl aC dG ?_;rintro _ σ' ⟨rfl,rfl⟩ h31;refine qW ?_;have hk:=CI E0.bd T2 5;rw[←hk.1,←hk.2.1];refine aB rfl (fun g8=> ?_) (fun g8=> ?_)
   ·rw[show nL (LE E0) E0.bd x T2=dR (LE E0) (aX x.a) (aX x.a) (eP E0.bd T2 5).2 by unfold nL;rw[if_pos g7,if_pos g8]];generalize(eP E0.bd T2 5).2=T4 at hAp⊢;refine tD ?_;refine cw (jX E0 r p1 T4) Tryz.call80 (hB r p1 T4 (aX x.a) (aX x.a) m1 ⟨hAp.a,by rw[hAp.lb];have:=hAp.ge;omega,by unfold Sh;rw[hAp.lb];exact hsh⟩ (by have:=hAp.ge;omega) (by omega) (by omega)) rfl aC dG ?_;rintro _ σ' ⟨e2,he2,rfl⟩ h35
    (try unfold fL);(try unfold jX);(try unfold jF);(try unfold nG);(try dsimp only[List.cons_append,List.nil_append]);refine aJz (h35 _ (List.mem_cons_of_mem _ List.mem_cons_self)) fun k35=> ?_;intros
    obtain⟨P,hP,rfl⟩:∃P,(Nr r P z q∧Nq P r4)∧P=e2:=⟨_,⟨⟨he2,m2,by(exact bV),m4,by(exact bV),m6⟩,by(exact bV)⟩,rfl⟩
    refine gX ?_;exact⟨P,hP,aL⟩
   rw[show nL (LE E0) E0.bd x T2=if decide ((0:Int)<(aX x.a).length)=true then eG (eP E0.bd T2 5).2 else(eP E0.bd T2 5).2 by unfold nL;rw[if_pos g7,g8];rfl];generalize(eP E0.bd T2 5).2=T4 at hAp⊢;obtain⟨P,hP,rfl⟩:∃P,(Nr r P z q∧Nq P r4)∧P=p1:=⟨_,⟨hN1,hp14⟩,rfl⟩
   refine dM ?_;refine uC ?_;refine aB rfl (fun g10=> ?_) (fun g10=> ?_)
   ·rw[if_pos (c:=decide ((0:Int)<(aX x.a).length)=true) g10];refine sG ?_;exact⟨P,hP,aL⟩
   rw[if_neg (c:=decide ((0:Int)<(aX x.a).length)=true) (fun e=>by rw[g10]at e;cases e)];refine aJ ?_;exact⟨P,hP,aL⟩
  rw[show nL (LE E0) E0.bd x T2=T2 from if_neg (fun e=>by rw[g7]at e;cases e)];refine aJ ?_;exact⟨p1,⟨hN1,hp14⟩,aL⟩
 rintro p2 ⟨hN2,hp24⟩;generalize nL (LE E0) E0.bd x T2=T3 at hA3⊢;obtain⟨u1,u2,u3,u4,u5,u6⟩:=id hN2;unfold fL jX jF nG
 (try dsimp only[List.cons_append,List.nil_append]);refine dM ?_;refine cw (jX E0 r p2 T3) Tryz.call300 (WC u1 T3 (by have:=hA3.a;omega) 11) rfl aC dG ?_;rintro _ σ' ⟨rfl,rfl⟩ h43;refine xD ?_;refine qV ?_;have hk3:=CI E0.bd T3 11;rw[←hk3.1,←hk3.2.1];have hA4:=hA3.pass 11;have hTl:=hA4.l;have hen:DW E0.bd x T3=gS (if(!(eP E0.bd T3 11).1)=true then eG (eP E0.bd T3 11).2 else(eP E0.bd T3 11).2) (aX x.a):=rfl;rw[hen];refine aB rfl (fun g12=> ?_) (fun g12=> ?_)
 ·rw[if_pos (c:=(!(eP E0.bd T3 11).1)=true) g12];generalize(eP E0.bd T3 11).2=T5 at hTl⊢;refine KM ?_;refine xM ?_;refine cw (jF z q T5) Tryz.call275 (jA m6 T5 (by omega) (aX x.a) (by omega)) rfl aC dG ?_;rintro _ σ' ⟨f,hf,rfl⟩ h50
  (try unfold fL);(try unfold jX);(try unfold jF);(try unfold nG);(try dsimp only[List.cons_append,List.nil_append]);refine sY (h50 _ (List.mem_cons_of_mem _ List.mem_cons_self)) fun k50=> ?_;intros
  apply aY;exact bN;have hL2:Nr r p2 z f:=⟨u1,u2,u3,by(exact bV),by(exact bV),hf⟩
  refine lD ?_;refine bY ?_;exact aE aF ⟨_,_,hL2,rfl⟩ aA
 rw[if_neg (c:=(!(eP E0.bd T3 11).1)=true) (fun e=>by rw[g12]at e;cases e)];generalize(eP E0.bd T3 11).2=T5 at hTl⊢;refine eX ?_;refine cw (jF z q T5) Tryz.call275 (jA m6 T5 (by omega) (aX x.a) (by omega)) rfl aC dG ?_;rintro _ σ' ⟨f,hf,rfl⟩ h50
 (try unfold fL);(try unfold jX);(try unfold jF);(try unfold nG);(try dsimp only[List.cons_append,List.nil_append]);refine sY (h50 _ (List.mem_cons_of_mem _ List.mem_cons_self)) fun k50=> ?_;intros
 apply aY;exact bN;have hL2:Nr r p2 z f:=⟨u1,u2,u3,by(exact bV),by(exact bV),hf⟩
 refine lD ?_;refine bY ?_;exact aE aF ⟨_,_,hL2,rfl⟩ aA
theorem aBF(t:RT)(k:Int)(j:Nat):aS t (List.replicate (j+1) k)=(jE (aS t (List.replicate j k)) k).2:=by
 unfold aS;rw[List.reverse_replicate,List.reverse_replicate,List.replicate_succ',List.foldl_append];rfl
theorem aLI(op:Int):0≤(oT op).1∧(oT op).1≤2:=by
 unfold oT;refine aI (p:=fun r:Int×Int×Int×Bool=>0≤r.1∧r.1≤2) (fun _=>by decide) (fun _=> ?_);refine aI (p:=fun r:Int×Int×Int×Bool=>0≤r.1∧r.1≤2) (fun _=>by simp) (fun _=> ?_);refine aI (p:=fun r:Int×Int×Int×Bool=>0≤r.1∧r.1≤2) (fun _=>by simp) (fun _=> ?_);refine aI (p:=fun r:Int×Int×Int×Bool=>0≤r.1∧r.1≤2) (fun _=>by simp) (fun _=> ?_);refine aI (p:=fun r:Int×Int×Int×Bool=>0≤r.1∧r.1≤2) (fun _=>by simp) (fun _=> ?_);exact aI (p:=fun r:Int×Int×Int×Bool=>0≤r.1∧r.1≤2) (fun _=>by simp) (fun _=>by simp)
theorem aBG{E0:Env}(hE0:E0.Ok)(n:Nat)(hB:aGl E0 n):aLH E0 (n+1):=by
 intro r p z q t0 x hN hW hx hn;obtain⟨ta,tl,tb,l,dd⟩:=t0;have hN0:=hN;obtain⟨n1,n2,n3,n4,n5,n6⟩:=hN;have hbl:=hE0.bl;have hlt:ta<E0.bd.length:=(List.getElem?_eq_some_iff.1 hx).1;obtain⟨hxc,hx1,hx23⟩:=hE0.bd x (List.mem_of_getElem? hx);have hta:(⟨ta+1,tl,tb,l,dd⟩:RT).a≤E0.bd.length:=hlt;have htb:(⟨ta+1,tl,tb,l,dd⟩:RT).lb.length≤(⟨ta+1,tl,tb,l,dd⟩:RT).a:=hW.lb;have hts:Sh ⟨ta+1,tl,tb,l,dd⟩:=hW.sh;have htl:(⟨ta+1,tl,tb,l,dd⟩:RT).l.length≤900000:=by have:=hW.l;show l.length≤ _;dsimp only at this;omega
 have htn:E0.bd.length-(⟨ta+1,tl,tb,l,dd⟩:RT).a≤n:=by show E0.bd.length-(ta+1)≤n;dsimp only at hn;omega
 have hbig:(⟨ta+1,tl,tb,l,dd⟩:RT).lb.length≤1000000:=by have:=hW.lb;show tl.length≤ _;dsimp only at this;omega
 have hI:fD E0.m E0.ls E0.res E0.bd (LE E0) x ⟨ta,tl,tb,l,dd⟩=if qD x.op=true then sU (LE E0) E0.bd x ⟨ta+1,tl,tb,l,dd⟩else gM E0.m E0.ls E0.res x ⟨ta+1,tl,tb,l,dd⟩:=rfl
 rw[hI];have hrk:=aLI x.op;unfold iv;refine cF 97 [0,1,2,4,6,7,8,9,10,11,12,21,22,30,40,47,52,69,79,82] Tryz.func201 ?_;unfold fL jX jF nG
 (try dsimp only[List.cons_append,List.nil_append]);refine dX ?_;refine iQ fun r4 h4=> ?_;intros
 refine iF ?_;refine oK ?_;refine FH ?_;refine oI ?_;rw[show((ta:Int)+1)=((ta+1:Nat):Int) by omega];refine mK ?_;refine qA ?_;apply fE rfl;exact cT
 ·intro _;(refine aJ ?_);refine eU ?_;apply eD rfl;exact cT
  ·intro _;(refine aJ ?_);refine eU ?_;exact aL
  exact aL
 refine aJ ?_;refine aB rfl (fun g3=> ?_) (fun g3=> ?_)
 ·have hO:qD x.op=true:=by unfold qD;rw[Bool.or_assoc];exact g3
  rw[if_pos hO];refine MV ?_;refine cw (fL E0 r p z q ⟨ta+1,tl,tb,l,dd⟩) Tryz.call271 (aDZ hE0 n hB hN0 ⟨ta+1,tl,tb,l,dd⟩ hta htb hts htl htn x) rfl aC dG ?_;rintro _ σ' ⟨e,f,hL2,rfl⟩ h29;refine qW ?_;exact aE aF ⟨_,_,hL2,rfl⟩ aA
 have hO:qD x.op=false:=by unfold qD;rw[Bool.or_assoc];exact g3
 rw[if_neg (by rw[hO];simp)];refine cZ ?_;apply fE rfl;exact cT
 ·intro _;(refine aJ ?_);refine eU ?_;apply eD rfl;exact cT
  ·intro _;(refine aJ ?_);refine eU ?_;apply eD rfl;exact cT
   ·intro _;(refine aJ ?_);refine eU ?_;apply eD rfl;exact cT
    ·intro _;(refine aJ ?_);refine eU ?_;exact aL
    exact aL
   exact aL
  exact aL
 refine aJ ?_;refine aB rfl (fun g7=> ?_) (fun g7=> ?_)
 ·have hb:SS x.op=true:=g7;obtain⟨hx2,hx3⟩:=hx23 hb;rw[show gM E0.m E0.ls E0.res x ⟨ta+1,tl,tb,l,dd⟩=fS E0.res x ⟨ta+1,tl,tb,l,dd⟩from if_pos hb];refine MV ?_;refine cw (fL E0 r p z q ⟨ta+1,tl,tb,l,dd⟩) Tryz.call272 (YR hN0 hE0.res ⟨ta+1,tl,tb,l,dd⟩ htl hts hbig x hxc hb hx2 hx3) rfl aC dG ?_;rintro _ σ' ⟨f,hL2,rfl⟩ h39;refine qW ?_;exact aE aF ⟨_,_,hL2,rfl⟩ aA
 have hb:SS x.op=false:=g7;refine cZ ?_;apply fE rfl;exact cT
 ·intro _;(refine aJ ?_);refine eU ?_;exact aL
 refine aJ ?_;refine aB rfl (fun g13=> ?_) (fun g13=> ?_)
 ·have h0:0≤x.a:=by
   rcases hx1 with h|⟨-,h1,h2⟩
   ·exact h
   ·simp only[Bool.or_eq_true,beq_iff_eq]at g13;omega
  rw[show gM E0.m E0.ls E0.res x ⟨ta+1,tl,tb,l,dd⟩=qQ E0.m x ⟨ta+1,tl,tb,l,dd⟩ by unfold gM;rw[hb,g13];rfl];refine MV ?_;refine cw (fL E0 r p z q ⟨ta+1,tl,tb,l,dd⟩) Tryz.call273 (aDW hN0 hE0.m ⟨ta+1,tl,tb,l,dd⟩ htl x h0 hxc.hi) rfl aC dG ?_;rintro _ σ' ⟨f,hL2,rfl⟩ h46;refine qW ?_;exact aE aF ⟨_,_,hL2,rfl⟩ aA
 refine cZ ?_;refine aB rfl (fun g16=> ?_) (fun g16=> ?_)
 ·rw[show gM E0.m E0.ls E0.res x ⟨ta+1,tl,tb,l,dd⟩=(jE ⟨ta+1,tl,tb,l,dd⟩ 0).2 by unfold gM;rw[hb,g13,g16];rfl];have hL2:=hN0;refine eX ?_;refine cw (fL E0 r p z q ⟨ta+1,tl,tb,l,dd⟩) Tryz.call274 (BA hN0 ⟨ta+1,tl,tb,l,dd⟩ (by omega) 0) rfl aC dG ?_;rintro _ σ' ⟨rfl,rfl⟩ h51;refine qW ?_;exact aE aF ⟨_,_,hL2,rfl⟩ aA
 refine cZ ?_;refine aB rfl (fun g18=> ?_) (fun g18=> ?_)
 ·rw[show gM E0.m E0.ls E0.res x ⟨ta+1,tl,tb,l,dd⟩=gS (jE (jE (aS ⟨ta+1,tl,tb,l,dd⟩ [1]) 0).2 (jE (aS ⟨ta+1,tl,tb,l,dd⟩ [1]) 0).1).2 [(jE (jE (aS ⟨ta+1,tl,tb,l,dd⟩ [1]) 0).2 (jE (aS ⟨ta+1,tl,tb,l,dd⟩ [1]) 0).1).1] by unfold gM;rw[hb,g13,g16,g18];rfl];have l1:=iP ⟨ta+1,tl,tb,l,dd⟩ [1];refine eX ?_;refine eN fun r56 h56=> ?_;intros
  refine gJ (j:=56) rfl aU (aK bA (by simp)) ?_;refine cw (fL E0 r p z q ⟨ta+1,tl,tb,l,dd⟩) Tryz.call202 (eY hN0 ⟨ta+1,tl,tb,l,dd⟩ (by omega) [1] (by simp)) rfl aC dG ?_;rintro _ σ' rfl h57;refine qW ?_;generalize aS ⟨ta+1,tl,tb,l,dd⟩ [1]=t1 at l1⊢;have l2:=BC t1 0;refine kK ?_;refine cw (fL E0 r p z q t1) Tryz.call274 (BA hN0 t1 (by omega) 0) rfl aC dG ?_;rintro _ σ' ⟨rfl,rfl⟩ h60;refine xD ?_;refine dE ?_;generalize(jE t1 0).1=k1;generalize(jE t1 0).2=t2 at l2⊢;have l3:=BC t2 k1;refine MW ?_;refine cw (fL E0 r p z q t2) Tryz.call274 (BA hN0 t2 (by omega) k1) rfl aC dG ?_;rintro _ σ' ⟨rfl,rfl⟩ h64;refine xD ?_;refine dE ?_;generalize(jE t2 k1).1=k2;generalize(jE t2 k1).2=t3 at l3⊢;refine kK ?_;refine eN fun r67 h67=> ?_;intros
  refine gJ (j:=67) rfl aU (aK bA (by simp)) ?_;refine cw (jF z q t3) Tryz.call275 (jA hN0.qz t3 (by omega) [k2] (by simp)) rfl aC dG ?_;rintro _ σ' ⟨e,he,rfl⟩ h68
  (try unfold fL);(try unfold jX);(try unfold jF);(try unfold nG);(try dsimp only[List.cons_append,List.nil_append]);refine sY (h68 _ (List.mem_cons_of_mem _ List.mem_cons_self)) fun k68=> ?_;intros
  have hL2:Nr r p z e:=⟨hN0.pr,hN0.zr,hN0.zp,by(exact bV),by(exact bV),by(exact bV)⟩
  refine gX ?_;exact aE aF ⟨_,_,hL2,rfl⟩ aA
 refine cZ ?_;refine aB rfl (fun g23=> ?_) (fun g23=> ?_)
 ·rw[show gM E0.m E0.ls E0.res x ⟨ta+1,tl,tb,l,dd⟩=⟨ta+1,tl,tb,l,dd⟩ by unfold gM;rw[hb,g13,g16,g18,g23];rfl];have hL2:=hN0;refine aJ ?_;exact aE aF ⟨_,_,hL2,rfl⟩ aA
 refine fN ?_;refine oL Tryz.call276 (wN x.op) rfl aR bB ?_;refine yA ?_;refine PA ?_;refine KP ?_;refine iC ?_;refine lD ?_;refine aB rfl (fun g25=> ?_) (fun g25=> ?_)
 ·rw[show gM E0.m E0.ls E0.res x ⟨ta+1,tl,tb,l,dd⟩=gS (aS ⟨ta+1,tl,tb,l,dd⟩ (List.replicate (oT x.op).1.toNat (oT x.op).2.1)) [(oT x.op).2.2.1] by unfold gM;rw[hb,g13,g16,g18,g23,g25];rfl];refine bM ?_;refine lp (β:=Nat) (fun j=>⟨[(0,.ptr r 0),(2,.ptr z 0),(8,.int .i64 (oT x.op).1),(9,.int .i64 (oT x.op).2.1),(10,.int .i64 (oT x.op).2.2.1),(12,.int .i64 j)],fL E0 r p z q (aS ⟨ta+1,tl,tb,l,dd⟩ (List.replicate j (oT x.op).2.1))⟩) (fun j=>j≤(oT x.op).1.toNat) (fun j=>(oT x.op).1.toNat-j) 0 (by unfold fL jX jF nG;(try dsimp only[List.cons_append,List.nil_append]);(exact aL)) (Nat.zero_le _) ?_;intro j hj;have hnx:=aBF ⟨ta+1,tl,tb,l,dd⟩ (oT x.op).2.1 j;have hSl:(aS ⟨ta+1,tl,tb,l,dd⟩ (List.replicate j (oT x.op).2.1)).l.length≤900000:=Nat.le_trans (iP _ _) htl;generalize hSe:aS ⟨ta+1,tl,tb,l,dd⟩ (List.replicate j (oT x.op).2.1)=S at hnx hSl⊢;unfold fL jX jF nG
  (try dsimp only[List.cons_append,List.nil_append]);refine eX ?_;refine BO ?_;refine aB rfl (fun g27=> ?_) (fun g27=> ?_)
  ·have hlt2:(j:Int)<(oT x.op).1:=by simpa using g27
   refine tD ?_;refine cw (fL E0 r p z q S) Tryz.call274 (BA hN0 S (by omega) (oT x.op).2.1) rfl aC dG ?_;rintro _ σ' ⟨rfl,rfl⟩ h88;refine xD ?_;refine iF ?_;refine lY ?_;refine⟨j+1,by show j+1≤ _;omega,by show(oT x.op).1.toNat-(j+1)<(oT x.op).1.toNat-j;omega, ?_⟩
   (try dsimp only);rw[hnx];exact aL
  have hge:¬(j:Int)<(oT x.op).1:=by simpa using g27
  obtain rfl:j=(oT x.op).1.toNat:=by omega
  rw[hSe];refine eX ?_;refine eN fun r91 h91=> ?_;intros
  refine gJ (j:=91) rfl aU (aK bA (by simp)) ?_;refine cw (jF z q S) Tryz.call275 (jA hN0.qz S (by omega) [(oT x.op).2.2.1] (by simp)) rfl aC dG ?_;rintro _ σ' ⟨e,he,rfl⟩ h92
  (try unfold fL);(try unfold jX);(try unfold jF);(try unfold nG);(try dsimp only[List.cons_append,List.nil_append]);refine sY (h92 _ (List.mem_cons_of_mem _ List.mem_cons_self)) fun k92=> ?_;intros
  have hL2:Nr r p z e:=⟨hN0.pr,hN0.zr,hN0.zp,by(exact bV),by(exact bV),by(exact bV)⟩
  refine gX ?_;exact aE aF ⟨_,_,hL2,rfl⟩ aA
 rw[show gM E0.m E0.ls E0.res x ⟨ta+1,tl,tb,l,dd⟩=gF E0.m E0.ls x ⟨ta+1,tl,tb,l,dd⟩ by unfold gM;rw[hb,g13,g16,g18,g23,g25];rfl];refine MV ?_;refine cw (fL E0 r p z q ⟨ta+1,tl,tb,l,dd⟩) Tryz.call277 (aBy hN0 ⟨ta+1,tl,tb,l,dd⟩ htl x hxc) rfl aC dG ?_;rintro _ σ' ⟨f,hL2,rfl⟩ h96;refine qW ?_;refine bY ?_;exact aE aF ⟨_,_,hL2,rfl⟩ aA
theorem aAz{E0:Env}(hE0:E0.Ok):∀n,aGl E0 n
 |0=>OI hE0 0 (fun r p z q t x hN hW hx hn=>absurd (List.getElem?_eq_some_iff.1 hx).1 (by omega))
 |n+1=>OI hE0 (n+1) (aBG hE0 n (aAz hE0 n))
structure Md.RFn (m:Md):Prop extends m.Ck where
 bd:∀c∈m.co,c.bd.length≤400∧∀x∈c.bd,x.Ck∧(0≤x.a∨SS x.op=false∧x.op≠16∧x.op≠17)∧(SS x.op=true→(-9000000000000000000≤x.a∧x.a≤9000000000000000000)∧∀n∈x.l,-9000000000000000000≤n∧n≤9000000000000000000)
 lc:∀c∈m.co,c.ls.length≤1000
theorem aGu{m:Md}{k:Int}(h:(if(if decide (k<0)=true then true else decide ((m.co.length:Int)≤k))=true then true else decide ((m.fn.length:Int)≤k))=true):VV m k=false:=by
 unfold VV;rw[if_pos];rw[h];simp
theorem aGv{m:Md}{k:Int}{c:Co}{f:Int}(h:(if(if decide (k<0)=true then true else decide ((m.co.length:Int)≤k))=true then true else decide ((m.fn.length:Int)≤k))=false)(hc:m.co[k.toNat]? =some c)(hf:m.fn[k.toNat]? =some f):
  VV m k=if(if decide (f<0)=true then true else decide ((m.ty.length:Int)≤f))=true then false
   else if decide ((32:Int)<((m.ty.getD f.toNat sR).pr++c.ls).length)=true then false
   else if(!(dR (LE ⟨m,(m.ty.getD f.toNat sR).pr++c.ls,(m.ty.getD f.toNat sR).rs,c.bd⟩) (m.ty.getD f.toNat sR).rs (m.ty.getD f.toNat sR).rs ⟨0,[],false,[],false⟩).bad)=true then(((dR (LE ⟨m,(m.ty.getD f.toNat sR).pr++c.ls,(m.ty.getD f.toNat sR).rs,c.bd⟩) (m.ty.getD f.toNat sR).rs (m.ty.getD f.toNat sR).rs ⟨0,[],false,[],false⟩).a:Int)==c.bd.length)else false:=by
 have e1:m.co.getD k.toNat ⟨[],[]⟩=c:=by rw[List.getD_eq_getElem?_getD,hc];rfl
 have e2:m.fn.getD k.toNat 0=f:=by rw[List.getD_eq_getElem?_getD,hf];rfl
 unfold VV;rw[h,e2,e1];rfl
theorem BE(m:Md)(hm:m.RFn)(k:Int):SCall Tryz.prog 24 [.agg (bR m),.int .i64 k] [] (fun y σ=>y=.bool (VV m k)∧σ=[]):=by
 refine cF 101 [0,1,2,4,5,6,41,77] Tryz.func24 ?_;unfold bR;refine dX ?_;refine iQ fun r2 h2=> ?_;intros
 refine dE ?_;rcases hC:(if(if decide (k<0)=true then true else decide ((m.co.length:Int)≤k))=true then true else decide ((m.fn.length:Int)≤k))with _ | _
 ·obtain⟨t1,t2,t3⟩:=aDE hC;simp only[decide_eq_false_iff_not]at t1 t2 t3;obtain⟨c,hc⟩:∃c,m.co[k.toNat]? =some c:=⟨_,List.getElem?_eq_getElem (by omega)⟩
  obtain⟨f,hf⟩:∃f,m.fn[k.toNat]? =some f:=⟨_,List.getElem?_eq_getElem (by omega)⟩
  have hcm:=List.mem_of_getElem? hc;obtain⟨hb1,hb2⟩:=hm.bd c hcm;have hlc:=hm.lc c hcm;rw[aGv hC hc hf];refine fM [(0,true),(1,true),(2,true),(3,true),(4,true),(5,true),(6,true),(7,true),(8,true),(9,true),(10,true),(11,true),(12,true),(13,true),(14,true),(15,true),(16,true),(17,true),(18,true),(19,true),(20,true),(21,true),(22,true),(23,true),(24,true),(25,true),(26,true),(27,true),(28,true),(29,true),(30,true),(31,true),(32,true),(33,true),(34,true)] ?_;refine fI rfl (aD (E rfl)) rfl ?_;refine z46 ?_;refine BQ ?_;refine XD ?_;refine rN ?_;refine sq9 ?_;refine xC ?_;refine BQ ?_;refine XD ?_;refine rN ?_;refine sq9 ?_;refine xC ?_;rw[hC];refine GQ ?_;refine rN ?_;refine zF ?_;refine TL ?_;refine aGW ?_;refine xC ?_;refine GQ ?_;refine rN ?_;refine zF ?_;refine TL ?_;refine XC ?_;refine XD ?_;refine rN ?_;refine sq9 ?_;refine xC ?_;refine lF ?_;refine aB rfl (fun g1=> ?_) (fun g1=> ?_)
  ·rw[if_pos g1];refine bM ?_;exact aE aF ⟨by rfl,rfl⟩ aA
  rw[if_neg (c:=(if decide (f<0)=true then true else decide ((m.ty.length:Int)≤f))=true) (fun e=>by rw[g1]at e;cases e)];have hf2:0≤f∧f<m.ty.length:=by
   have:∀p q:Bool,(if p=true then true else q)=false→p=false∧q=false:=by intro p q;cases p<;>cases q<;>simp
   obtain⟨h1,h2⟩:=this _ _ g1;simp only[decide_eq_false_iff_not]at h1 h2;omega
  obtain⟨ty,hty⟩:∃ty,m.ty[f.toNat]? =some ty:=⟨_,List.getElem?_eq_getElem (by omega)⟩
  have hts:=hm.ts ty (List.mem_of_getElem? hty);rw[show m.ty.getD f.toNat sR=ty by rw[List.getD_eq_getElem?_getD,hty];rfl];obtain⟨pr,rs⟩:=ty;obtain⟨hp1,hp2⟩:=hts;dsimp only at hp1 hp2⊢;refine aJ ?_;refine fM [(0,true),(1,true),(2,true),(3,true),(4,true),(5,true),(6,true),(7,true),(8,true),(9,false),(10,false)] ?_;refine fX ?_;refine fX ?_;refine aAO ?_;refine WR ?_;refine MT ?_;refine xB ?_;apply dal;rfl;infer_instance;rfl;exact wY;refine jZ fun r5 h5=> ?_;intros
  refine z95 ?_;refine lF ?_;refine fM [(0,true),(1,true),(2,true),(3,true),(4,true),(5,true),(6,true),(7,true),(8,true),(10,true),(11,true),(12,true),(13,true),(14,true),(15,true),(17,true),(18,true),(9,false),(16,false),(19,true),(20,false),(21,true)] ?_;refine DJ ?_;refine pY ?_;refine fX ?_;refine pY ?_;refine fX ?_;refine aIk rfl (pr.map aP) pr.length ?_ (hby:=by omega);refine jZ fun r60 h60=> ?_;intros
  refine fB rfl ((pr++c.ls).map aP) (pr++c.ls).length ?_;refine bH fun r67 h67=> ?_;intros
  refine VL (j:=67) rfl aU (aK bA (by simp)) ?_;refine XB ?_;refine fz5 fun r71 h71=> ?_;intros
  refine yB ?_;have hll:(pr++c.ls).length≤2000:=by simp;omega
  generalize pr++c.ls=ls at hll⊢;refine iC ?_;refine kG ?_;refine uC ?_;refine aB rfl (fun g5=> ?_) (fun g5=> ?_)
  ·rw[if_pos g5];refine bM ?_;exact aE aF ⟨by rfl,rfl⟩ aA
  rw[if_neg (c:=decide ((32:Int)<(ls.length:Int))=true) (fun e=>by rw[g5]at e;cases e)];have hE0:Env.Ok ⟨m,ls,rs,c.bd⟩:=⟨hm.toCk,by show rs.length≤ _;omega,hb1,hb2⟩
  refine aJ ?_;refine cM (ks:=[0,1,2,4,5,6,41,77]) r71 18 24 1 (by decide) bA rfl (by decide) fun p hp=> ?_
  simp only[aO,aT,and_true]at hp;repeat rcases hp with⟨_,hp⟩
  apply Exists.intro;apply And.intro;exact cA;refine pE ?_;refine fW ?_;refine cw (jX ⟨m,ls,rs,c.bd⟩ r71 p ⟨0,[],false,[],false⟩) Tryz.call80 (aAz hE0 c.bd.length r71 p ⟨0,[],false,[],false⟩ rs rs (by(exact bV)) ⟨Nat.zero_le _,Nat.le_refl _,fun l hl=>by simp at hl⟩ (Nat.sub_le _ _) (by omega) (by omega)) rfl aC dG ?_;rintro _ σ' ⟨e,he,rfl⟩ h83;refine qW ?_;generalize dR (LE ⟨m,ls,rs,c.bd⟩) rs rs ⟨0,[],false,[],false⟩=T;refine fM [(0,true),(1,true),(2,true),(3,true),(4,true),(5,true),(6,true),(7,true),(8,true),(9,true),(10,true),(11,true),(12,true),(13,true),(14,true),(15,true),(16,true),(17,true)] ?_;refine pC ?_;refine fI rfl (dF (E rfl)) rfl ?_;refine BQ ?_;refine sq7 ?_;refine rN ?_;refine zF ?_;refine sq7 ?_;refine rN ?_
  (first|refine jY rfl rfl rfl rfl rfl ?_ |(first|refine eS rfl rfl rfl (fT (by first|exact W rfl id|exact E rfl)) rfl ?_ |refine eS rfl rfl rfl (kI (by first|exact W rfl id|exact E rfl)) rfl ?_ |refine eS rfl rfl rfl (gT (by first|exact W rfl id|exact E rfl)) rfl ?_)|refine eQ rfl rfl rfl (fT (by first|exact W rfl id|exact E rfl)) rfl ?_ |refine eQ rfl rfl rfl (kI (by first|exact W rfl id|exact E rfl)) rfl ?_ |refine eQ rfl rfl rfl (gT (by first|exact W rfl id|exact E rfl)) rfl ?_);refine aEy ?_;refine aAM ?_;refine yB ?_;exact aE aF ⟨by rfl,rfl⟩ aA
 ·rw[aGu hC];refine fM [(0,true),(1,true),(2,true),(3,true),(4,true),(5,true),(6,true),(7,true),(8,true),(9,true),(10,true),(11,true),(12,true),(13,true),(14,true),(15,true),(16,true),(17,true),(18,true),(19,true),(20,true),(21,true),(22,true),(23,true),(24,true),(25,true),(26,true),(27,true),(28,true),(29,true),(30,true),(31,true),(32,true),(33,true),(34,true)] ?_;refine fI rfl (aD (E rfl)) rfl ?_;refine z46 ?_;refine BQ ?_;refine XD ?_;refine rN ?_;refine sq9 ?_;refine xC ?_;refine BQ ?_;refine XD ?_;refine rN ?_;refine sq9 ?_;refine xC ?_;rw[hC];refine GQ ?_;refine rN ?_;refine zF ?_;refine TL ?_;refine aGW ?_;refine xC ?_;refine GQ ?_;refine rN ?_;refine zF ?_;refine TL ?_;refine XC ?_;refine XD ?_;refine rN ?_;refine sq9 ?_;refine xC ?_;refine xA ?_;refine bM ?_;exact aE aF ⟨by rfl,rfl⟩ aA
end Go.Proofs.YtjpdadobblffmaaGreat
namespace Go.Proofs.YtjpdadobblffmaaGreat
open Go.RowKit Go.ChangeShapes Go.WideShapes Go.ChangeAt Go.Deep
theorem aJE{x:Ins}(h:cY x=true):x.l.length≤50∧(aW x.op≠4→x.l=[]):=by
 unfold cY at h;have h0:jB x (aW x.op)=false:=by
  cases hp:jB x (aW x.op)with
  |false=>rfl
  |true=>rw[hp]at h;simp at h
 by_cases h4:aW x.op=4
 ·refine⟨?_,fun e=>absurd h4 e⟩;rw[h0,h4]at h;simp only[Bool.false_eq_true,if_false,show((4:Int)==1||(4:Int)==7)=false from rfl,show((4:Int)==2)=false from rfl,show((4:Int)==3||(4:Int)==5)=false from rfl,show((4:Int)==4)=true from rfl,if_true]at h;cases ha:pF x.a 0 1000 with
  |false=>rw[ha]at h;simp at h
  |true=>
   rw[ha]at h;simp only[if_true]at h;split at h
   ·next e=>have:=of_decide_eq_true e;omega
   ·cases h
 ·have:x.l=[]:=by
   unfold jB at h0;cases hl:x.l with
   |nil=>rfl
   |cons a l=>rw[hl]at h0;simp[h4]at h0
  exact⟨by rw[this];simp,fun _=>this⟩
theorem QZ{x:Ins}(h:cY x=true)(hf:aW x.op=3∨aW x.op=4∨aW x.op=5∨aW x.op=6):x.a≤1000∧(aW x.op=4→∀n∈x.l,n≤1000):=by
 unfold cY at h;have h0:jB x (aW x.op)=false:=by
  cases hp:jB x (aW x.op)with
  |false=>rfl
  |true=>rw[hp]at h;simp at h
 rw[h0]at h;simp only[Bool.false_eq_true,if_false]at h;rcases hf with e|e|e|e<;>rw[e]at h⊢
 ·simp only[show((3:Int)==1||(3:Int)==7)=false from rfl,show((3:Int)==2)=false from rfl,show((3:Int)==3||(3:Int)==5)=true from rfl,Bool.false_eq_true,if_false,if_true]at h;exact⟨(oC h).2,fun e=>by simp at e⟩
 ·simp only[show((4:Int)==1||(4:Int)==7)=false from rfl,show((4:Int)==2)=false from rfl,show((4:Int)==3||(4:Int)==5)=false from rfl,show((4:Int)==4)=true from rfl,Bool.false_eq_true,if_false,if_true]at h;cases ha:pF x.a 0 1000 with
  |false=>rw[ha]at h;simp at h
  |true=>
   refine⟨(oC ha).2,fun _ n hn=> ?_⟩;rw[ha]at h;simp only[if_true]at h;split at h
   ·simp only[Bool.not_eq_true',List.any_eq_false,Bool.not_eq_true',Bool.not_eq_false]at h;have:=h n hn;have:pF n 0 1000=true:=by simpa using this
    exact(oC this).2
   ·cases h
 ·simp only[show((5:Int)==1||(5:Int)==7)=false from rfl,show((5:Int)==2)=false from rfl,show((5:Int)==3||(5:Int)==5)=true from rfl,Bool.false_eq_true,if_false,if_true]at h;exact⟨(oC h).2,fun e=>by simp at e⟩
 ·simp only[show((6:Int)==1||(6:Int)==7)=false from rfl,show((6:Int)==2)=false from rfl,show((6:Int)==3||(6:Int)==5)=false from rfl,show((6:Int)==4)=false from rfl,show((6:Int)==6)=true from rfl,Bool.false_eq_true,if_false,if_true]at h;cases ha:pF x.a 0 3 with
  |false=>rw[ha]at h;simp at h
  |true=>exact⟨Int.le_trans (oC ha).2 (by decide),fun e=>by simp at e⟩
theorem aD0{x:Ins}(h:cY x=true)(ho:x.Ok):x.Ck∧(0≤x.a∨SS x.op=false∧x.op≠16∧x.op≠17)∧(SS x.op=true→(-9000000000000000000≤x.a∧x.a≤9000000000000000000)∧∀n∈x.l,-9000000000000000000≤n∧n≤9000000000000000000):=by
 obtain⟨hl1,hl2⟩:=aJE h;have f3:x.op=12∨x.op=13∨x.op=16∨x.op=32∨x.op=33∨x.op=34∨x.op=35∨x.op=36→aW x.op=3:=fun e=>by rcases e with e|e|e|e|e|e|e|e<;>rw[e]<;>decide
 have f4:x.op=14→aW x.op=4:=fun e=>by rw[e];decide
 have f5:x.op=17→aW x.op=5:=fun e=>by rw[e];decide
 have f1:x.op=15∨x.op=0→aW x.op=1:=fun e=>by rcases e with e|e<;>rw[e]<;>decide
 have hB:SS x.op=true→x.op=12∨x.op=13∨x.op=14∨x.op=15∨x.op=0:=fun e=>by unfold SS at e;simpa using e
 refine⟨⟨fun e=> ?_,fun e=>(kS h (.inr (.inl (f4 e)))).2 (f4 e),by omega,ho.2.2.2.1⟩, ?_,fun e=> ?_⟩
 ·by_cases e14:x.op=14
  ·exact(kS h (.inr (.inl (f4 e14)))).1
  ·exact(kS h (.inl (f3 (by omega)))).1
 ·by_cases hb:SS x.op=true
  ·left;rcases hB hb with e|e|e|e|e
   ·exact(kS h (.inl (f3 (by omega)))).1
   ·exact(kS h (.inl (f3 (by omega)))).1
   ·exact(kS h (.inr (.inl (f4 e)))).1
   ·rw[sX h (.inl (f1 (by omega)))];decide
   ·rw[sX h (.inl (f1 (by omega)))];decide
  ·by_cases e16:x.op=16
   ·exact .inl (kS h (.inl (f3 (by omega)))).1
   ·by_cases e17:x.op=17
    ·exact .inl (kS h (.inr (.inr (.inl (f5 e17))))).1
    ·exact .inr ⟨by simpa using hb,e16,e17⟩
 ·have key:(-9000000000000000000≤x.a∧x.a≤9000000000000000000):=by
   rcases hB e with e|e|e|e|e
   ·have:=(kS h (.inl (f3 (by omega)))).1;have:=(QZ h (.inl (f3 (by omega)))).1;omega
   ·have:=(kS h (.inl (f3 (by omega)))).1;have:=(QZ h (.inl (f3 (by omega)))).1;omega
   ·have:=(kS h (.inr (.inl (f4 e)))).1;have:=(QZ h (.inr (.inl (f4 e)))).1;omega
   ·rw[sX h (.inl (f1 (by omega)))];decide
   ·rw[sX h (.inl (f1 (by omega)))];decide
  refine⟨key,fun n hn=> ?_⟩;by_cases h4:aW x.op=4
  ·have h1:=(kS h (.inr (.inl h4))).2 h4 n hn;have h2:=(QZ h (.inr (.inl h4))).2 h4 n hn;omega
  ·rw[hl2 h4]at hn;simp at hn
theorem aD1{m:Md}(hm:qZ m=true)(hw:m.WO):m.Fn∧m.RFn:=by
 have hwo:=hw.ok;unfold qZ at hm;simp only[Bool.and_eq_true]at hm;obtain⟨⟨⟨⟨-,hco⟩,hls⟩,-⟩,-⟩:=hm;unfold qG at hls;simp only[Bool.and_eq_true]at hls;obtain⟨⟨⟨⟨⟨⟨hty,him⟩,-⟩,-⟩,-⟩,-⟩,-⟩:=hls;have hck:m.Ck:=⟨fun t ht=>by
  have:=(cB hty).2 t ht;simp only[Bool.and_eq_true]at this;have h1:=(cB this.1).1;have h2:=(cB this.2).1;exact⟨by omega,by omega⟩,by have:=(cB him).1;omega⟩
 have hc:∀c∈m.co,c.bd.length≤300∧c.ls.length≤32∧∀x∈c.bd,cY x=true:=fun c hcm=>by
  have:=(cB hco).2 c hcm;unfold tK at this;simp only[Bool.and_eq_true]at this;have h1:=(cB this.1.2).1;have h2:=(cB this.2).1;exact⟨by omega,by omega,(cB this.2).2⟩
 exact⟨⟨hck,fun c hcm=>⟨by have:=(hc c hcm).1;omega,fun x hx=>(aD0 ((hc c hcm).2.2 x hx) (hwo.1 c hcm x hx)).1⟩,fun c hcm=>by have:=(hc c hcm).2.1;omega⟩,
  ⟨hck,fun c hcm=>⟨by have:=(hc c hcm).1;omega,fun x hx=>aD0 ((hc c hcm).2.2 x hx) (hwo.1 c hcm x hx)⟩,fun c hcm=>by have:=(hc c hcm).2.1;omega⟩⟩
end Go.Proofs.YtjpdadobblffmaaGreat
