import Derived.Test.YtjpdadobblffmaaGreatIA4
import Derived.Test.YtjpdadobblffmaaGreatIA3
import Derived.ChangeKeysEq
import Derived.Laws.StructEq
import Derived.MapKept
import Derived.Carry
set_option linter.unusedSimpArgs false
set_option linter.unusedVariables false
set_option maxRecDepth 100000
set_option maxHeartbeats 4000000
namespace Go.Proofs.YtjpdadobblffmaaGreat
open Go.RowKit Go.ChangeShapes Go.WideShapes Go.ChangeAt Go.Deep
attribute [local irreducible] SW RS RD eM dR
theorem gI{fr:Fr}{σ σ':cR}{r:Nat}{bt:TypeId}{cs cs':List AV}(hs:SSet σ r (.box bt cs) r (.box bt cs') σ')(hb:BorL σ [] cs cs'):SGo ⟨fr,σ⟩ ⟨fr,σ'⟩:=by
 refine pD [] (fun i x' hi=>⟨x',hi,.refl _⟩) (fun p hp=> ?_);refine⟨by simp, ?_⟩;rcases List.mem_cons.1 (hs.sub p hp)with rfl|h
 ·exact⟨_,bI hs.get,.box (ZX hb)⟩
 ·exact⟨p.2,(eH h).1,.refl _⟩
theorem uY{σ:cR}{ts:List Nat}:BorL σ ts [.ro 0 [] .nil,.ro 0 [] .nil,.ro 0 [] .nil,.bool false,.int .i64 0,.int .i64 0,.bool false,.int .i64 0,.int .i64 0,.ro 0 [] .nil,.ro 0 [] .nil,.ro 0 [] .nil,.ro 0 [] .nil,.ro 0 [] .nil] (cQ md0):=
 .cons (.le VLe.empty) (.cons (.le VLe.empty) (.cons (.le VLe.empty) (.cons (.refl _) (.cons (.refl _) (.cons (.refl _) (.cons (.refl _) (.cons (.refl _) (.cons (.refl _) (.cons (.le VLe.empty) (.cons (.le VLe.empty) (.cons (.le VLe.empty) (.cons (.le VLe.empty) (.cons (.le VLe.empty) .nil)))))))))))))
theorem aBr:(sK []).2.2=true:=by decide
theorem aBs{b:List Nat}{m:Md}{z:Bool}(h80:¬8000<b.length)(hB:(sK b).2.2=false)(hM:(sK b).1=m)(hz:z=true→(kP m).map aH=[])(hbn:b≠ [])(g:(if z=true then true else !decide (kP m=b))=true):sL b=(md0,1):=by
 unfold sL;rw[if_neg h80,if_neg (by rw[hB];simp),hM,if_neg];rintro⟨e1,e2⟩;have e3:kP m=b:=by unfold kP;rw[if_pos e1,e2]
 rw[e3]at g hz;cases z with
 |true=>exact hbn (by simpa using hz rfl)
 |false=>simp at g
theorem XT{b:List Nat}{m:Md}{z:Bool}(h80:¬8000<b.length)(hB:(sK b).2.2=false)(hM:(sK b).1=m)(hbn:b≠ [])(g:(if z=true then true else !decide (kP m=b))=false):sL b=(m,0):=by
 have hb:kP m=b:=by cases z with
  |true=>simp at g
  |false=>simpa using g
 have hy:lC m=true:=by
  cases hh:lC m with
  |true=>rfl
  |false=>unfold kP at hb;rw[hh]at hb;exact absurd hb.symm hbn
 unfold kP at hb;rw[if_pos hy]at hb;unfold sL;rw[if_neg h80,if_neg (by rw[hB];simp),hM,if_pos ⟨hy,hb⟩]
theorem uZ{a c:List Nat}(h1:∀x∈a,x<256)(h2:∀x∈c,x<256):∀x∈a++c,x<256:=fun x hx=>(List.mem_append.1 hx).elim (h1 x) (h2 x)
theorem AD{α:Type}{l:List α}{pt:α→List Nat}(h:∀x∈l,∀c∈pt x,c<256):∀c∈aZ l pt,c<256:=uZ (jG _) fun c hc=>by
 obtain⟨x,hx,hc⟩:=List.mem_flatMap.1 hc;exact h x hx c hc
theorem oB{α:Type}{no:Nat}{l:List α}{pt:α→List Nat}(hno:no<256)(h:∀x∈l,∀c∈pt x,c<256):∀c∈bP no l pt,c<256:=by
 unfold bP;split
 ·simp
 ·intro c hc;rcases List.mem_cons.1 hc with rfl|hc
  ·exact hno
  ·exact uZ (jG _) (AD h) c hc
theorem RF(k:Int):∀c∈kB k,c<256:=by unfold kB;split<;>simp
theorem XU{k n:Int}(hv:nW k n=true)(hn:-9223372036854775808≤n∧n≤9223372036854775807):∀c∈vV k n,c<256:=by
 obtain⟨ho,hm,-⟩:=GB hv hn;exact uZ (QF hm) (by simp)
theorem XV{n:Int}(h:iT n=true):∀c∈nV n,c<256:=by
 have hr:-2147483648≤n∧n≤2147483647:=by unfold iT at h;simpa using h
 intro c hc;rcases List.mem_cons.1 hc with rfl|hc
 ·decide
 ·exact XU (k:=1) (n:=n) (by unfold nW;simp;omega) (by omega) c hc
theorem XW(l:Li):∀c∈gO l,c<256:=by
 unfold gO gC;split
 ·intro c hc;rcases List.mem_cons.1 hc with rfl|hc
  ·decide
  ·exact jG _ c hc
 ·intro c hc;rcases List.mem_cons.1 hc with rfl|hc
  ·decide
  ·exact uZ (jG _) (jG _) c hc
theorem OU{s:List Nat}(h:vW s=true):∀c∈eL s,c<256:=uZ (jG _) (iU h).2.1
theorem aEc{x:Co}(h:tN x=true)(hO:∀i∈x.bd,i.Ok):∀c∈oN x,c<256:=by
 unfold tN at h;simp only[Bool.and_eq_true]at h;refine uZ (jG _) (uZ (AD fun r _=>uZ (jG _) (RF _)) (aAG fun i hi=>⟨hO i hi,(bQ h.2).2 i hi⟩))
theorem aBt{m:Md}(h:oA m=true)(hw:m.WO):∀c∈eN m,c<256:=by
 obtain⟨hw,hO1,hO2⟩:=hw;unfold oA at h;simp only[Bool.and_eq_true]at h;obtain⟨⟨⟨⟨-,hco⟩,hls⟩,htb⟩,hme⟩:=h;unfold lB at hls;simp only[Bool.and_eq_true]at hls;obtain⟨⟨⟨⟨⟨⟨hty,him⟩,hfn⟩,hgl⟩,hex⟩,hel⟩,hda⟩:=hls;unfold eN;refine uZ (uZ (uZ (uZ (uZ (uZ (uZ (uZ (uZ (uZ ?_ ?_) ?_) ?_) ?_) ?_) ?_) ?_) ?_) ?_) ?_
 ·decide
 ·refine oB (by decide) fun x _ c hc=> ?_
  rcases List.mem_cons.1 hc with rfl|hc
  ·decide
  ·exact uZ (AD fun k _=>RF k) (AD fun k _=>RF k) c hc
 ·refine oB (by decide) fun x hx=> ?_
  have:=(bQ him).2 x hx;simp only[Bool.and_eq_true]at this;exact uZ (uZ (uZ (OU this.1.1) (OU this.1.2)) (by simp)) (jG _)
 ·exact oB (by decide) fun x _=>jG _
 ·refine oB (by decide) fun x _ c hc=> ?_
  rcases List.mem_cons.1 hc with rfl|hc
  ·decide
  ·exact XW x c hc
 ·exact oB (by decide) fun x _=>XW x
 ·refine oB (by decide) fun x hx=> ?_
  exact uZ (uZ (RF _) (by intro c hc;rw[List.mem_singleton.1 hc];split<;>decide)) (XU ((bQ hgl).2 x hx) (hO2 x hx))
 ·refine oB (by decide) fun x hx=> ?_
  have:=(bQ hex).2 x hx;simp only[Bool.and_eq_true]at this;exact uZ (uZ (OU this.1) (by simp)) (jG _)
 ·refine oB (by decide) fun x hx=> ?_
  have:=(bQ hel).2 x hx;simp only[Bool.and_eq_true]at this;exact uZ (XV this.1) (AD fun n _=>jG _)
 ·exact oB (by decide) fun x hx=>aEc ((bQ hco).2 x hx) (hO1 x hx)
 ·refine oB (by decide) fun x hx=> ?_
  have:=(bQ hda).2 x hx;simp only[Bool.and_eq_true]at this;exact uZ (uZ (XV this.1) (jG _)) (hw.da x hx)
theorem GO{m:Md}(h:m.WO):∀c∈kP m,c<256:=by
 unfold kP;split
 ·next hy=>exact aBt (uV hy).1 h
 ·simp
theorem rT(b:List Nat)(hb:b.length≤100000)(hlt:∀c∈b,c<256):SCall Tryz.prog 20 [.ro 1 (b.map aH) .any] []
  (fun y σ=>y=.tup [.agg (cQ (sL b).1),.int .i64 (sL b).2]∧σ=[]):=by
 have hs0:SOk (b, !decide (b.take headB.length=headB)):=⟨hb,hlt⟩
 have k0:=EH hs0 8 true;have hP:=aEb b;have wsk:=fun r=>uW r (b, !decide (b.take headB.length=headB)) hs0 8 true
 refine bO 59 [0,2,3,4,5,6,7,10,33,45,56] Tryz.func20 ?_;refine cV ?_;refine gF fun r2 h2=> ?_;intros
 refine cI ?_;refine dM (gI (r:=r2) bW uY) ?_;refine vP ?_;refine KI ?_;refine aC rfl (fun g1=> ?_) (fun g1=> ?_)
 ·have hE:sL b=(md0,4):=by unfold sL;rw[if_pos (by simp at g1;omega)]
  refine cV ?_;refine iA ?_;apply zB;rfl;rfl;rfl;rfl;exact iC;refine lZ ?_;refine dM (gI (r:=r2) bW uY) ?_;refine aJ ?_;exact aE aF ⟨by rw[hE];rfl,rfl⟩ aA
 have h80:¬8000<b.length:=by simp at g1;omega
 refine cV ?_;refine gF fun r4 h4=> ?_;intros
 refine gQ ?_;refine dM (gI (r:=r4) bW uY) ?_;refine jX ?_;refine aAk ?_;refine jK Tryz.call65 (CA b headB (by omega) (by decide) hlt (by decide)) rfl aQ aW ?_;refine lo (fA (E rfl)) rfl ?_;refine iA ?_;refine gM fun r18 h18=> ?_;intros
 refine mV ?_;refine cw [(r18,.box 117 (bZ (b, !decide (b.take headB.length=headB))))] Tryz.call66 (wsk r18) rfl aB aA ?_;rintro _ σ' ⟨rfl,rfl⟩ h20;refine iB ?_;rw[show qK (b, !decide (b.take headB.length=headB)) ((8:Nat):Int) true=qK (b, !decide (b.take 8=headB)) 8 true from rfl];rw[show qK (b, !decide (b.take headB.length=headB)) 8 true=qK (b, !decide (b.take 8=headB)) 8 true from rfl]at k0;generalize qK (b, !decide (b.take 8=headB)) 8 true=s0 at k0 hP⊢;refine lp (β:=Md×St) (fun x=>⟨[(0,.ro 1 (b.map aH) .any),(2,.ptr r2 0),(4,.ptr r4 0),(5,.ptr r18 0)],[(r18,.box 117 (bZ x.2)),(r4,.box 33 (cQ x.1)),(r2,.box 33 (cQ md0))]⟩) (fun x=>x.1.WO∧SOk x.2∧DN x.1 x.2=sK b) (fun x=>x.2.1.length) (md0,s0) aN ⟨wo0,k0,hP.symm⟩ ?_;rintro⟨m,⟨l,bad⟩⟩ ⟨hwo,hs,hD⟩;dsimp only at hwo hs hD⊢;unfold bZ;dsimp only;refine bH ?_;refine iJ ?_;refine oG ?_;refine lo (fQ (E rfl) (E rfl)) rfl ?_;refine rB ?_;refine aC rfl (fun g6=> ?_) (fun g6=> ?_)
 ·obtain rfl:bad=false:=by cases bad with|false=>rfl|true=>simp at g6
  have hne:l≠ []:=by intro e;subst e;simp at g6
  have wb:=lG r18 (l,false) hs;have kb:=kQ (l,false) hs;have wn:=gV r18 _ kb;have kn:=fX _ kb;have hbl:(iV (l,false)).1<256:=by cases l with|nil=>exact absurd rfl hne|cons x t=>exact hs.2 x List.mem_cons_self
  have ws:=OT r18 r4 (by(exact dP)) _ kn m (iV (l,false)).1;have hst:=aBq (m:=m) (s:=(l,false)) hne rfl;have kw:=aGl (iV (l,false)).1 hwo kn;have ks:=aGm (iV (l,false)).1 m kn;refine bH ?_;refine nK [(r18,.box 117 (bZ (l,false)))] Tryz.call67 wb ?_;refine z44 ?_;refine mV ?_;refine cw [(r18,.box 117 (bZ (iV (l,false)).2))] Tryz.call68 wn rfl aB aA ?_;rintro _ σ' ⟨rfl,rfl⟩ h38;refine iB ?_;refine jX ?_;refine cw [(r18,.box 117 (bZ (eY (iV (l,false)).2).2)),(r4,.box 33 (cQ m))] Tryz.call69 ws rfl aB aA ?_;rintro _ σ' ⟨rfl,rfl⟩ h41;refine iB ?_;refine⟨qI (iV (l,false)).1 m (eY (iV (l,false)).2).2,⟨kw,ks,hst.1.symm.trans hD⟩,hst.2, ?_⟩;exact aN
 have hz:DN m (l,bad)=(m,(l,bad)):=aBp (by cases bad with|true=>simp|false=>(cases l with|nil=>rfl|cons x t=>(simp at g6<;>omega)));rw[hz]at hD;refine bH ?_;refine iJ ?_;refine gQ ?_;refine aC rfl (fun g10=> ?_) (fun g10=> ?_)
 ·have hE:sL b=(md0,1):=by unfold sL;rw[if_neg h80,if_pos (by rw[←hD];exact g10)]
  refine cV ?_;refine iA ?_;apply zB;rfl;rfl;rfl;rfl;exact iC;refine lZ ?_;refine dM (gI (r:=r2) bW uY) ?_;refine aJ ?_;exact aE aF ⟨by rw[hE];rfl,rfl⟩ aA
 refine aJ ?_;obtain⟨ty,im,fn,tb,me,gl,ex,el,co,da⟩:=m;refine iD ?_;refine jN ?_;refine SV Tryz.call18 (nP ⟨ty,im,fn,tb,me,gl,ex,el,co,da⟩ hwo) rfl kJ SU ?_;rintro _ σ' ⟨q48,rfl,rfl⟩ h48
 replace h48:=jE h48;repeat rcases h48 with⟨_,h48⟩
 apply bE;exact bX;refine gX (j:=48) rfl bD (aK bF (by simp)) ?_;refine cI ?_;have hB:(sK b).2.2=false:=by rw[←hD];exact g10
 have hM:(sK b).1=⟨ty,im,fn,tb,me,gl,ex,el,co,da⟩:=by rw[←hD]
 have hbn:b≠ []:=by intro e;rw[e,aBr]at hB;cases hB
 refine hX ?_;refine ne rfl rfl rfl fun z hz _=> ?_
 refine gA ?_;refine eJ ?_;refine mE rfl rfl Tryz.call70 (fun _=>(AC (kP ⟨ty,im,fn,tb,me,gl,ex,el,co,da⟩) b (GO hwo) hlt)) rfl aQ aW ?_;refine uA ?_;refine gK ?_;refine gQ ?_;refine aC rfl (fun g13=> ?_) (fun g13=> ?_)
 ·have hE:=aBs h80 hB hM hz hbn g13;refine cV ?_;refine iA ?_;apply zB;rfl;rfl;rfl;rfl;exact iC;refine lZ ?_;refine dM (gI (r:=r2) bW uY) ?_;refine aJ ?_;exact aE aF ⟨by rw[hE];rfl,rfl⟩ aA
 have hE:=XT h80 hB hM hbn g13;refine oM ?_;refine KH ?_;exact aE aF ⟨by rw[hE];rfl,rfl⟩ aA
section
variable {r p q : Nat} {m : Md} {lv : AV}
theorem yL(hN:Nm r p q)(s:PS)(hs:s.cs.length≤1000000)(op kd:Int):SCall Tryz.prog 76 [.ptr r 0,.int .i64 op,.int .i64 kd] (cG r p q m lv s) (fun _ σ=>∃e,Nm r p e∧σ=cG r p e m lv (openP s op kd)):=by
 obtain⟨vs,zs,b⟩:=s;obtain⟨n1,n2,n3⟩:=hN;dsimp only at hs;refine bO 23 [0,1,2] Tryz.func76 ?_;unfold cG kD;dsimp only;refine aJ ?_;refine hU [(0,true),(1,true),(2,true),(3,true),(4,true),(5,true),(6,true),(7,true),(8,true),(9,true),(10,true),(11,true),(12,true),(13,false),(14,false),(15,true),(16,true),(17,false)] ?_;refine DO ?_;refine sH ?_;refine kK ?_;refine JM ?_;refine z94 ?_;refine ZM fun r19 h19=> ?_;intros
 refine vS rfl ((zs++ [(⟨op,kd,vs.length,false⟩:Ct)]).map jY) (zs++ [(⟨op,kd,vs.length,false⟩:Ct)]).length ?_;refine dG fun r20 h20=> ?_;intros
 refine z77 ?_;refine KD ?_;refine NL ?_;refine qH ?_;refine cK ?_;exact aE aF ⟨r20,by exact⟨by(exact dP),by(exact dP),by(exact dP)⟩,rfl⟩ aA
theorem GP(hN:Nm r p q)(s:PS)(h:s.Gd):SCall Tryz.prog 79 [.ptr r 0] (cG r p q m lv s) (fun y σ=>y=.agg (jY s.top)∧σ=cG r p q m lv (kU s)):=by
 have hd:kU s=⟨(dZ s (iF s.top.kd)).vs,(dZ s (iF s.top.kd)).cs.dropLast,(dX (dZ s (iF s.top.kd)) (((dZ s (iF s.top.kd)).vs.length:Int)==s.top.ht)).bad⟩:=rfl;have hp:=h.pops (iF s.top.kd);have hcs:=mF s (iF s.top.kd);rw[hd];obtain⟨i,hi⟩:=h.cut;generalize s.top=t at hi hcs hp⊢;have hpa:=fun(hN:Nm r p q)=>iW (m:=m) (lv:=lv) hN s h (iF t.kd) (by have:=rL t.kd;omega)
 generalize dZ s (iF t.kd)=s1 at hcs hp hpa⊢;have hbc:=h.bc;have hbv:=h.bv;have hbv1:=hp.bv;obtain⟨vs,zs,b⟩:=s;obtain⟨vs1,zs1,b1⟩:=s1;dsimp only at hi hcs hbc hbv hbv1;subst hi hcs;rw[rR]at hbc;obtain⟨n1,n2,n3⟩:=hN;have hel:=rQ (l:=i.map jY) (x:=jY t) (n:=i.length) (by simp);refine bO 46 [0,2,3] Tryz.func79 ?_;unfold cG kD;dsimp only;rw[rR,zX];refine cV ?_;refine gF fun r2 h2=> ?_;intros
 refine gQ ?_;refine hU [(0,true),(1,true),(2,true),(3,true),(4,true),(5,true),(6,true),(7,true),(8,true),(9,true),(10,true),(11,true),(12,false),(13,false)] ?_;refine kK ?_;refine kK ?_;refine JM ?_;refine ZL ?_;refine NV ?_;refine BM ?_;apply dal;rfl;infer_instance;rfl;exact FJ;refine jM fun r3 h3=> ?_;intros
 refine NL ?_;refine FK ?_;refine bH ?_;refine dL ?_;refine nK [] Tryz.call191 (pP t.kd) ?_;refine cw (cG r p q m lv ⟨vs,i++ [t],b⟩) Tryz.call192 (hpa ⟨n1,n2,n3⟩) rfl aB bL ?_;rintro _ σ' rfl h20;refine nA ?_;refine hU [(0,true),(1,true),(2,true),(3,true),(6,true),(7,true),(4,false),(5,true),(8,true),(9,false)] ?_;refine fO rfl (aD (E rfl)) rfl ?_;refine SK ?_;refine KD ?_;refine kX ?_;first|refine dhl rfl (aU (E rfl) rfl bF (fun _=>rfl)) rfl ?_ |refine dhl rfl (aU (E rfl) rfl bF (fun _=>by assumption)) rfl ?_ |refine dhl rfl (aP (E rfl) rfl (fun hc=>by first|rfl|exact aG (by assumption)|assumption|exact aG (aX (by omega))) (fun _=>rfl)) rfl ?_
 refine JM ?_;refine z79 ?_;refine nR (cG r p q m lv ⟨vs1,i++ [t],b1⟩) rfl Tryz.call189 (iG ⟨n1,n2,n3⟩ _ ((vs1.length:Int)==t.ht)) rfl aB bL XC ?_;rintro _ σ' rfl h30;refine KL ?_;refine qH ?_;dsimp only[dX];rw[rR,zX];refine hU [(0,true),(1,true),(2,true),(3,true),(4,true),(5,true),(6,true),(7,true),(8,true),(9,true),(10,true),(11,true),(12,true),(13,true),(14,false)] ?_;refine DO ?_;refine kK ?_;refine JM ?_;refine ZL ?_;refine z25 ?_;refine z77 ?_;refine KD ?_;refine NL ?_;refine qH ?_;rw[LW];refine dM (yD (o:=q) i.length bW) ?_;rw[show List.take i.length (i.map jY++ [jY t])=i.map jY by rw[List.take_left' (by simp)]];rw[List.dropLast_concat];refine iD ?_;refine jN ?_;refine gL ?_;exact aE aF ⟨by rfl,rfl⟩ aA
theorem yM(hN:Nm r p q)(s:PS)(h:s.Gd):SCall Tryz.prog 187 [.ptr r 0] (cG r p q m lv s) (fun _ σ=>σ=cG r p q m lv (mB s)):=by
 have hd:mB s=⟨s.vs.take s.top.ht,s.cs.dropLast++ [⟨s.top.op,s.top.kd,s.top.ht,true⟩],s.bad⟩:=rfl;rw[hd];obtain⟨i,hi⟩:=h.cut;have h0:=h.toOk0;generalize s.top=t at hi⊢;have hbc:=h.bc;have hbv:=h.bv;obtain⟨vs,zs,b⟩:=s;dsimp only at hi hbc hbv;subst hi;rw[rR]at hbc;obtain⟨-,hh,-⟩:=h0.split;obtain⟨n1,n2,n3⟩:=hN;have hel:=rQ (l:=i.map jY) (x:=jY t) (n:=i.length) (by simp);refine bO 29 [0,2] Tryz.func187 ?_;unfold cG kD;dsimp only;rw[rR,zX];refine aJ ?_;refine hU [(0,true),(1,true),(2,true),(3,true),(4,true),(5,true),(6,true),(7,true),(8,true),(9,true),(10,true),(11,true)] ?_;refine kK ?_;refine kK ?_;refine JM ?_;refine ZL ?_;refine NV ?_;refine BO ?_;refine hU [(0,true),(1,true),(2,true),(3,true),(4,true),(5,true),(6,true),(7,true),(8,true),(9,true),(10,true),(11,true),(12,true),(13,false),(14,true),(15,true),(16,false)] ?_;refine sH ?_;refine kK ?_;refine SK ?_;refine fO rfl (kI (E rfl) rfl (by decide)) rfl ?_;refine fO rfl (bG (E rfl) rfl bF (fun _=>hel) (fun _=>rfl)) rfl ?_;refine z25 ?_;refine z77 ?_;refine KD ?_;refine NL ?_;refine z77 ?_;refine fO rfl (kI (E rfl) rfl (by decide)) rfl ?_;apply ZY;rfl;infer_instance;rfl;rfl;rfl;rfl;exact bW;exact atT;exact wO;rfl;exact eU;refine qH ?_;rw[EE (by simp)]
 refine aAJ (yD (o:=p) t.ht bW) ?_;rw[←List.map_take,List.dropLast_concat,rR,zX,show t.ht-0=(vs.take t.ht).length by rw[List.length_take];omega];refine cK ?_;apply aE;exact aF
 ·rfl
 ·exact aA
theorem vA(hN:Nm r p q)(s:PS)(hs:s.cs.length≤1000000)(n:Int)(hn:0≤n):SCall Tryz.prog 193 [.ptr r 0,.int .i64 n] (cG r p q m lv s) (fun y σ=>y=.ro 1 ((cA s n).1.map aL) .any∧σ=cG r p q m lv (cA s n).2):=by
 obtain⟨vs,zs,b⟩:=s;obtain⟨n1,n2,n3⟩:=hN;dsimp only at hs;refine bO 36 [0,1,4,5,12,32] Tryz.func193 ?_;unfold cG kD;dsimp only;refine jF ?_;refine iJ ?_;refine oG ?_;refine KO ?_;refine aC rfl (fun g1=> ?_) (fun g1=> ?_)
 ·have hP:cA ⟨vs,zs,b⟩ n=([],⟨vs,zs,true⟩):=if_pos g1;rw[hP];refine mX ?_;refine kY ?_;refine cV ?_;refine lZ ?_;refine dM (eS (j:=4) (y:=.ro 1 (([]:List Int).map aL) .any) rfl VLe.empty) ?_;refine aJ ?_;exact aE aF ⟨by rfl,rfl⟩ aA
 have hlt:n<zs.length:=by simp at g1;omega
 obtain⟨t,ht⟩:∃t,zs[zs.length-1-n.toNat]? =some t:=⟨_,List.getElem?_eq_getElem (by omega)⟩
 have hP:cA ⟨vs,zs,b⟩ n=(if(t.op==3)=true then []else iF t.kd,⟨vs,zs,b⟩):=by unfold cA;rw[if_neg (by simpa using g1)];dsimp only;rw[List.getD_eq_getElem?_getD,ht];rfl
 rw[hP];have hel:(zs.map jY)[(((zs.length:Nat):Int)-1-n).toNat]? =some (jY t):=by rw[show(((zs.length:Nat):Int)-1-n).toNat=zs.length-1-n.toNat by omega,List.getElem?_map,ht];rfl
 refine aJ ?_;refine hU [(0,true),(1,true),(2,true),(3,true),(4,true),(5,true),(6,true),(7,true),(8,true),(9,true),(10,true),(11,true),(12,true),(13,true),(14,false),(15,false)] ?_;refine kK ?_;refine kK ?_;refine JM ?_;refine ZL ?_;refine fO rfl (aD (E rfl)) rfl ?_;refine ZL ?_;refine NV ?_;refine BM ?_;apply dal;rfl;infer_instance;rfl;exact FJ;refine jM fun r5 h5=> ?_;intros
 refine NL ?_;refine FK ?_;refine kC ?_;refine pF ?_;refine aC rfl (fun g5=> ?_) (fun g5=> ?_)
 ·rw[if_pos g5];refine cV ?_;refine lZ ?_;refine dM (eS (j:=4) (y:=.ro 1 (([]:List Int).map aL) .any) rfl VLe.empty) ?_;refine aJ ?_;exact aE aF ⟨by rfl,rfl⟩ aA
 rw[if_neg (by simp[g5])];refine kC ?_;refine cw [] Tryz.call191 (pP t.kd) rfl aB aA ?_;rintro _ σ' ⟨rfl,rfl⟩ h35;refine dS ?_;exact aE aF ⟨by rfl,rfl⟩ aA
theorem oS(hN:Nm r p q)(s:PS)(n:Int):SCall Tryz.prog 74 [.ptr r 0,.int .i64 n] (cG r p q m lv s) (fun y σ=>y=.tup [.agg (dF (dD m n).1),.bool (dD m n).2]∧σ=cG r p q m lv s):=by
 obtain⟨vs,zs,b⟩:=s;obtain⟨n1,n2,n3⟩:=hN;refine bO 27 [0,1,4,5,17] Tryz.func74 ?_;unfold cG kD;dsimp only;refine cV ?_;refine gF fun r4 h4=> ?_;intros
 refine mV ?_;refine lo (fJ (E rfl) (E rfl)) rfl ?_;refine gA ?_;refine eJ ?_;refine aAi ?_;refine aAj ?_;refine SL ?_;refine aDb ?_;refine gK ?_;refine gQ ?_;refine aC rfl (fun g1=> ?_) (fun g1=> ?_)
 ·have hP:dD m n=(ft0,false):=if_pos g1;rw[hP];refine cV ?_;refine iA ?_;apply zB;rfl;rfl;rfl;rfl;exact iC;refine lZ ?_;refine dM (gI (r:=r4) (cs':=dF ft0) bW (.cons (.le VLe.empty) (.cons (.le VLe.empty) .nil))) ?_;refine aJ ?_;exact aE aF ⟨by rfl,rfl⟩ aA
 have hlt:0≤n∧n<m.ty.length:=by constructor<;>(apply Int.not_lt.1;intro hc;apply Bool.false_ne_true;rw[←g1];simp;omega)
 obtain⟨t,ht⟩:∃t,m.ty[n.toNat]? =some t:=⟨_,List.getElem?_eq_getElem (by omega)⟩
 have hP:dD m n=(t,true):=by unfold dD;rw[if_neg (by simpa using g1)];rw[List.getD_eq_getElem?_getD,ht];rfl
 rw[hP];refine mX ?_;refine dL ?_;refine tC ?_;refine xH ?_;refine KH ?_;exact aE aF ⟨by rfl,rfl⟩ aA
theorem vB{ls:List Int}(hN:Nm r p q)(s:PS)(n:Int)(hn:0≤n):SCall Tryz.prog 197 [.ptr r 0,.int .i64 n] (cG r p q m (.ro 1 (ls.map aL) .any) s) (fun y σ=>y=.int .i64 (dI ls s n).1∧σ=cG r p q m (.ro 1 (ls.map aL) .any) (dI ls s n).2):=by
 obtain⟨vs,zs,b⟩:=s;obtain⟨n1,n2,n3⟩:=hN;refine bO 22 [0,1,4,11] Tryz.func197 ?_;unfold cG kD;dsimp only;refine jF ?_;refine iJ ?_;refine oG ?_;refine KO ?_;refine aC rfl (fun g1=> ?_) (fun g1=> ?_)
 ·have hP:dI ls ⟨vs,zs,b⟩ n=(0,⟨vs,zs,true⟩):=if_pos g1;rw[hP];refine mX ?_;refine kY ?_;refine bV ?_;exact aE aF ⟨by rfl,rfl⟩ aA
 obtain⟨t,ht⟩:∃t,ls[n.toNat]? =some t:=⟨_,List.getElem?_eq_getElem (by simp at g1;omega)⟩
 have hlt:n<ls.length:=by simp at g1;omega
 have hP:dI ls ⟨vs,zs,b⟩ n=(t,⟨vs,zs,b⟩):=by unfold dI;rw[if_neg (by simpa using g1)];rw[List.getD_eq_getElem?_getD,ht];rfl
 rw[hP];refine bH ?_;refine iJ ?_;refine tC ?_;refine KC ?_;refine cI ?_;exact aE aF ⟨by rfl,rfl⟩ aA
theorem EK(hN:Nm r p q)(s:PS)(n:Int)(hn:0≤n):SCall Tryz.prog 198 [.ptr r 0,.int .i64 n] (cG r p q m lv s) (fun y σ=>y=.agg (eF (eG m s n).1)∧σ=cG r p q m lv (eG m s n).2):=by
 obtain⟨vs,zs,b⟩:=s;obtain⟨n1,n2,n3⟩:=hN;refine bO 25 [0,1,4,12] Tryz.func198 ?_;unfold cG kD;dsimp only;refine cV ?_;refine gF fun r4 h4=> ?_;intros
 refine gQ ?_;refine jX ?_;refine nH ?_;refine dL ?_;refine oG ?_;refine KO ?_;refine aC rfl (fun g1=> ?_) (fun g1=> ?_)
 ·have hP:eG m ⟨vs,zs,b⟩ n=(gl0,⟨vs,zs,true⟩):=if_pos g1;rw[hP];refine mX ?_;refine kY ?_;refine cV ?_;refine iA ?_;refine gL ?_;exact aE aF ⟨by rfl,rfl⟩ aA
 obtain⟨t,ht⟩:∃t,m.gl[n.toNat]? =some t:=⟨_,List.getElem?_eq_getElem (by simp at g1;omega)⟩
 have hlt:n<m.gl.length:=by simp at g1;omega
 have hP:eG m ⟨vs,zs,b⟩ n=(t,⟨vs,zs,b⟩):=by unfold eG;rw[if_neg (by simpa using g1)];rw[List.getD_eq_getElem?_getD,ht];rfl
 rw[hP];refine mX ?_;refine dL ?_;refine tC ?_;refine xH ?_;refine gL ?_;exact aE aF ⟨by rfl,rfl⟩ aA
end
section
variable {r p q : Nat} {m : Md} {lv : AV}
theorem MD(hN:Nm r p q)(s:PS)(hi:m.im.length≤1000000)(f:Int)(hf:0≤f)(hf2:f≤9223372036854775807):SCall Tryz.prog 196 [.ptr r 0,.int .i64 f] (cG r p q m lv s) (fun y σ=>y=.tup [.agg (dF (dD m (nE m f)).1),.bool (dD m (nE m f)).2]∧σ=cG r p q m lv s):=by
 obtain⟨vs,zs,b⟩:=s;have hN0:=hN;obtain⟨n1,n2,n3⟩:=hN;refine bO 51 [0,1,4,5,6,7,16,35] Tryz.func196 ?_;unfold cG kD;dsimp only;refine cV ?_;refine gF fun r4 h4=> ?_;intros
 refine lL ?_;refine mV ?_;refine nH ?_;refine dL ?_;refine oG ?_;refine nT ?_;refine tB ?_;refine aC rfl (fun g3=> ?_) (fun g3=> ?_)
 ·have hlt:f<m.im.length:=by simpa using g3
  obtain⟨x,hx⟩:∃x,m.im[f.toNat]? =some x:=⟨_,List.getElem?_eq_getElem (by omega)⟩
  have hP:nE m f=x.ty:=by unfold nE;rw[if_pos g3,List.getD_eq_getElem?_getD,hx];rfl
  rw[hP];refine mX ?_;refine dL ?_;refine tC ?_;refine BL ?_;refine KC ?_;refine nT ?_;refine cw (cG r p q m lv ⟨vs,zs,b⟩) Tryz.call74 (oS hN0 _ _) rfl aB bL ?_;rintro _ σ' ⟨rfl,rfl⟩ h48;refine lK ?_;refine NY ?_;refine KH ?_;exact aE aF ⟨by rfl,rfl⟩ aA
 have hge:¬f<m.im.length:=by simpa using g3
 refine dB ?_;refine zD ?_;refine lo (aD (E rfl)) rfl ?_;refine nH ?_;refine dL ?_;refine oG ?_;refine tB ?_;refine aC rfl (fun g5=> ?_) (fun g5=> ?_)
 ·have hlt:f-m.im.length<m.fn.length:=by simpa using g5
  obtain⟨x,hx⟩:∃x,m.fn[(f-m.im.length).toNat]? =some x:=⟨_,List.getElem?_eq_getElem (by omega)⟩
  have hP:nE m f=x:=by unfold nE;rw[if_neg (by simpa using g3),if_pos g5,List.getD_eq_getElem?_getD,hx];rfl
  rw[hP];refine mX ?_;refine dL ?_;refine FM ?_;refine zD ?_;refine qG ?_;refine nT ?_;refine cw (cG r p q m lv ⟨vs,zs,b⟩) Tryz.call74 (oS hN0 _ _) rfl aB bL ?_;rintro _ σ' ⟨rfl,rfl⟩ h48;refine lK ?_;refine NY ?_;refine KH ?_;exact aE aF ⟨by rfl,rfl⟩ aA
 have hP:nE m f=-1:=by unfold nE;rw[if_neg (by simpa using g3),if_neg (by simpa using g5)]
 rw[hP];refine dB ?_;refine cw (cG r p q m lv ⟨vs,zs,b⟩) Tryz.call74 (oS hN0 _ _) rfl aB bL ?_;rintro _ σ' ⟨rfl,rfl⟩ h48;refine lK ?_;refine NY ?_;refine KH ?_;exact aE aF ⟨by rfl,rfl⟩ aA
theorem ME(hN:Nm r p q)(s:PS)(h:s.Gd)(t:FT)(ht:t.Sm)(ok:Bool):SCall Tryz.prog 195 [.ptr r 0,.agg (dF t),.bool ok] (cG r p q m lv s) (fun _ σ=>∃e,Nm r e q∧σ=cG r e q m lv (pL s t ok)):=by
 obtain⟨pr,rs⟩:=t;obtain⟨ht1,ht2⟩:=ht;dsimp only at ht1 ht2;have hN0:=hN;obtain⟨n1,n2,n3⟩:=hN;have h1:=h.need ok;have h2:=h1.pops pr;refine bO 17 [0,1,2,4] Tryz.func195 ?_;unfold cG kD
 (try dsimp only);refine cV ?_;refine gM fun r4 h4=> ?_;intros
 refine gQ ?_;refine jX ?_;refine cw (cG r p q m lv s) Tryz.call189 (iG hN0 s ok) rfl aB bL ?_;rintro _ σ' rfl h8;refine mY ?_;refine dL ?_;refine cw (cG r p q m lv (dX s ok)) Tryz.call192 (iW hN0 _ h1 pr (by omega)) rfl aB bL ?_;rintro _ σ' rfl h12;refine mY ?_;refine dL ?_;refine cw (cG r p q m lv (dZ (dX s ok) pr)) Tryz.call190 (jL hN0 _ h2.bv rs (by omega)) rfl aB bL ?_;rintro _ σ' ⟨e,hE,rfl⟩ h16;unfold cG kD;(try dsimp only);obtain⟨e1,e2,e3⟩:=id hE;refine iB ?_;refine cK ?_;exact aE aF ⟨e,hE,rfl⟩ aA
theorem jZ(hN:Nm r p q)(s:PS)(h:s.Gd)(x:Ins)(al:Int)(tk mk:List Int)(ht:tk.length≤1000)(hm:mk.length≤1000):SCall Tryz.prog 199 [.ptr r 0,.agg (iv .any x),.int .i64 al,.ro 1 (tk.map aL) .any,.ro 1 (mk.map aL) .any] (cG r p q m lv s) (fun _ σ=>∃e,Nm r e q∧σ=cG r e q m lv (fK m s x al tk mk)):=by
 have hN0:=hN;obtain⟨n1,n2,n3⟩:=hN;have h1:=h.need (if m.me.has=true then decide (x.a≤al)else false);have h2:=h1.pops tk;unfold iv;refine bO 30 [0,1,2,3,4,6] Tryz.func199 ?_;unfold cG kD
 (try dsimp only);refine cV ?_;refine gM fun r6 h6=> ?_;intros
 refine gQ ?_;refine jX ?_;refine nH ?_;refine sG ?_;refine dL ?_;refine kS ?_;refine eJ ?_;refine aCZ ?_;refine mT ?_;refine cw (cG r p q m lv s) Tryz.call189 (iG hN0 s (if m.me.has=true then decide (x.a≤al)else false)) rfl aB bL ?_;rintro _ σ' rfl h23;refine nA ?_;refine jX ?_;refine cw (cG r p q m lv (dX s (if m.me.has=true then decide (x.a≤al)else false))) Tryz.call192 (iW hN0 _ h1 tk (by omega)) rfl aB bL ?_;rintro _ σ' rfl h26;refine nA ?_;refine jX ?_;refine cw (cG r p q m lv (dZ (dX s (if m.me.has=true then decide (x.a≤al)else false)) tk)) Tryz.call190 (jL hN0 _ h2.bv mk hm) rfl aB bL ?_;rintro _ σ' ⟨e,hE,rfl⟩ h29;unfold cG kD;(try dsimp only);obtain⟨e1,e2,e3⟩:=id hE;refine iB ?_;refine cK ?_;exact aE aF ⟨e,hE,rfl⟩ aA
theorem PS.Gd.label {s:PS}(h:s.Gd)(n:Int):(cA s n).2.Gd:=⟨h.toOk.label n,by rw[rK];exact h.bv,by rw[rJ];exact h.bc⟩
theorem PS.Gd.tabs {s:PS}(h:s.Gd)(w l:List Int):(l.foldl (vX w) s).Gd:=by
 obtain⟨h1,h2,h3⟩:=uO w l s;exact⟨h3 h.toOk,by rw[h2];exact h.bv,by rw[h1];exact h.bc⟩
theorem aEd{a b:List Int}(ha:a.length≤1)(hb:b.length≤1):(a=[]∧b=[])∨(a=[]∧∃v,b=[v])∨((∃g,a=[g])∧b=[])∨∃g v,a=[g]∧b=[v]:=by
 match a,b,ha,hb with
 |[],[],_,_=>exact .inl ⟨rfl,rfl⟩
 |[],[v],_,_=>exact .inr (.inl ⟨rfl,v,rfl⟩)
 |[g],[],_,_=>exact .inr (.inr (.inl ⟨⟨g,rfl⟩,rfl⟩))
 |[g],[v],_,_=>exact .inr (.inr (.inr ⟨g,v,rfl,rfl⟩))
theorem XX{w l:List Int}{s:PS}{j:Nat}{n:Int}(h:l[j]? =some n):(l.take (j+1)).foldl (vX w) s=dX (cA ((l.take j).foldl (vX w) s) n).2 (eq1 (cA ((l.take j).foldl (vX w) s) n).1 w):=by
 rw[List.take_add_one,h,List.foldl_append];rfl
theorem XY(hN:Nm r p q)(s:PS)(h:s.Gd)(x:Ins)(ha:0≤x.a)(hl:∀n∈x.l,0≤n)(hll:x.l.length≤1000000):SCall Tryz.prog 194 [.ptr r 0,.agg (iv .any x)] (cG r p q m lv s) (fun _ σ=>σ=cG r p q m lv (pM s x)):=by
  have hN0:=hN;obtain⟨n1,n2,n3⟩:=hN;have h1:=h.pop 1;have h2:=h1.label x.a;have hw:=oO (cF s 1).2 x.a;have hT:pM s x=mB (dZ (x.l.foldl (vX (cA (cF s 1).2 x.a).1) (cA (cF s 1).2 x.a).2) (cA (cF s 1).2 x.a).1):=rfl;rw[hT];have cl:=vA (m:=m) (lv:=lv) hN0 (cF s 1).2 h1.bc x.a ha;generalize(cA (cF s 1).2 x.a).2=s2 at h2 cl⊢;generalize(cA (cF s 1).2 x.a).1=w at hw cl⊢;obtain⟨xo,xa,xb,xl⟩:=x;dsimp only at ha hl hll cl⊢;unfold iv;refine bO 51 [0,1,3,4,6,7,15,16,17,18] Tryz.func194 ?_;unfold cG kD
  (try dsimp only);refine cV ?_;refine gM fun r3 h3=> ?_;intros
  refine pG ?_;refine cw (cG r p q m lv s) Tryz.call188 (lV hN0 s h 1) rfl aB bL ?_;rintro _ σ' ⟨rfl,rfl⟩ h9;refine mY ?_;refine dL ?_;refine cw (cG r p q m lv (cF s 1).2) Tryz.call193 cl rfl aB bL ?_;rintro _ σ' ⟨rfl,rfl⟩ h13;refine lK ?_;refine gT ?_;refine lT ?_;refine lp (β:=Nat) (fun j=>⟨[(0,.ptr r 0),(3,.ptr r3 0),(4,.ro 1 (w.map aL) .any),(15,.ro 1 (xl.map aL) .any),(16,.int .i64 xl.length),(17,.int .i64 j)],(r3,.box 46 [.int .i64 xo,.int .i64 xa,.int .i64 xb,.ro 1 (xl.map aL) .any])::cG r p q m lv ((xl.take j).foldl (vX w) s2)⟩) (fun j=>j≤xl.length) (fun j=>xl.length-j) 0 (by unfold cG kD;(try dsimp only);(exact aN)) (Nat.zero_le _) ?_;intro j hj
  (try dsimp only);have hS:=h2.tabs w (xl.take j);refine eV ?_;refine aC rfl (fun g4=> ?_) (fun g4=> ?_)
  · obtain⟨n,hn⟩:∃n,xl[j]? =some n:=⟨_,List.getElem?_eq_getElem (by simp at g4;omega)⟩
    have hlt:j<xl.length:=(List.getElem?_eq_some_iff.1 hn).1;have hn0:=hl n (List.mem_of_getElem? hn);have hnx:=XX (w:=w) (s:=s2) hn;generalize(xl.take j).foldl (vX w) s2=S at hS hnx⊢;unfold cG kD
    (try dsimp only);refine cV ?_;refine qG ?_;refine nT ?_;refine cw (cG r p q m lv S) Tryz.call193 (vA hN0 S hS.bc n hn0) rfl aB bL ?_;rintro _ σ' ⟨rfl,rfl⟩ h23;refine lK ?_;refine cI ?_;obtain⟨ea,eb⟩|⟨ea,v,eb⟩|⟨⟨g,ea⟩,eb⟩|⟨g,v,ea,eb⟩:=aEd (oO S n) hw
    · rw[ea];subst eb;rw[ea,show eq1 [] []=true from rfl]at hnx;refine hU [(0,true),(1,true),(2,true),(3,true),(4,true),(5,true),(6,true),(7,true),(8,true),(9,true),(10,true),(11,true),(12,true),(13,true),(14,true),(15,true),(16,true),(17,true),(18,true),(19,true),(20,false)] ?_;refine sH ?_;refine KN ?_;refine JM ?_;refine z79 ?_;rw[show((([]:List Int).length:Int)==(([]:List Int).length:Int))=true from rfl];refine OA ?_;refine aC7 ?_;rw[show((([]:List Int).length:Int)==0)=true from rfl]
      (first|refine mN rfl rfl rfl rfl rfl ?_ |(refine gE rfl rfl rfl (aD (by first|exact W rfl id|exact E rfl)) rfl ?_)|refine fI rfl rfl rfl (aD (by first|exact W rfl id|exact E rfl)) rfl ?_);first|refine mN rfl rfl rfl rfl rfl ?_ |(refine gE rfl rfl rfl (aD (E rfl)) rfl ?_)|refine fI rfl rfl rfl (aD (E rfl)) rfl ?_ |refine gJ rfl rfl rfl (aD (E rfl)) rfl ?_ |refine gJ rfl rfl rfl (bN (v:=.bool false)) rfl ?_
      first
        |refine mN rfl rfl rfl rfl rfl ?_
        |(
          first
           |refine gE rfl rfl rfl (aY (by
            first
             |exact W rfl id
             |exact E rfl) (E rfl) (fun hc=>by(simp only[List.length_map];omega))) rfl ?_
           |refine gE rfl rfl rfl (aR (by
            first
             |exact W rfl id
             |exact E rfl) bF (E rfl) (fun hc=>by omega)) rfl ?_
           |refine gE rfl rfl rfl (bA (by
            first
             |exact W rfl id
             |exact E rfl) bF (E rfl) (fun hc=>by omega)) rfl ?_)
        |refine fI rfl rfl rfl (aY (by
           first
            |exact W rfl (by
            first
             |exact id
             |simp)
            |exact E rfl) (E rfl) (fun hc=>by(try simp at hc)<;>(simp only[List.length_map];omega))) rfl ?_
        |refine fI rfl rfl rfl (aR (by
           first
            |exact W rfl (by
            first
             |exact id
             |simp)
            |exact E rfl) bF (E rfl) (fun hc=>by(try simp at hc)<;>omega)) rfl ?_
        |refine fI rfl rfl rfl (bA (by
           first
            |exact W rfl (by
            first
             |exact id
             |simp)
            |exact E rfl) bF (E rfl) (fun hc=>by(try simp at hc)<;>omega)) rfl ?_
        |refine gJ rfl rfl rfl (aY (by
           first
            |exact W rfl (by
            first
             |exact id
             |simp)
            |exact E rfl) (E rfl) (fun hc=>by(try simp at hc)<;>(simp only[List.length_map];omega))) rfl ?_
        |refine gJ rfl rfl rfl (aR (by
           first
            |exact W rfl (by
            first
             |exact id
             |simp)
            |exact E rfl) bF (E rfl) (fun hc=>by(try simp at hc)<;>omega)) rfl ?_
        |refine gJ rfl rfl rfl (bA (by
           first
            |exact W rfl (by
            first
             |exact id
             |simp)
            |exact E rfl) bF (E rfl) (fun hc=>by(try simp at hc)<;>omega)) rfl ?_
        |refine gJ rfl rfl rfl (bN (v:=.bool false)) rfl ?_
      first
        |refine mN rfl rfl rfl rfl rfl ?_
        |(
          first
           |refine gE rfl rfl rfl (aP (by
            first
             |exact W rfl id
             |exact E rfl) rfl (fun hc=>by
            first
             |rfl
             |exact aG (by assumption)
             |assumption
             |exact aG (aX (by omega))) (fun _=>rfl)) rfl ?_
           |refine gE rfl rfl rfl (bG (by
            first
             |exact W rfl id
             |exact E rfl) rfl bF (fun hc=>by
            first
             |rfl
             |exact aG (by assumption)
             |assumption
             |exact aG (aX (by omega))) (fun _=>rfl)) rfl ?_)
        |refine fI rfl rfl rfl (aP (by
           first
            |exact W rfl (by
            first
             |exact id
             |simp)
            |exact E rfl) rfl (fun hc=>by
           first
            |rfl
            |exact aG (by assumption)
            |assumption
            |exact aG (aX (by(try simp at hc)<;>omega))) (fun _=>rfl)) rfl ?_
        |refine fI rfl rfl rfl (bG (by
           first
            |exact W rfl (by
            first
             |exact id
             |simp)
            |exact E rfl) rfl bF (fun hc=>by
           first
            |rfl
            |exact aG (by assumption)
            |assumption
            |exact aG (aX (by(try simp at hc)<;>omega))) (fun _=>rfl)) rfl ?_
        |refine gJ rfl rfl rfl (aP (by
           first
            |exact W rfl (by
            first
             |exact id
             |simp)
            |exact E rfl) rfl (fun hc=>by
           first
            |rfl
            |exact aG (by assumption)
            |assumption
            |exact aG (aX (by(try simp at hc)<;>omega))) (fun _=>rfl)) rfl ?_
        |refine gJ rfl rfl rfl (bG (by
           first
            |exact W rfl (by
            first
             |exact id
             |simp)
            |exact E rfl) rfl bF (fun hc=>by
           first
            |rfl
            |exact aG (by assumption)
            |assumption
            |exact aG (aX (by(try simp at hc)<;>omega))) (fun _=>rfl)) rfl ?_
        |refine gJ rfl rfl rfl (bN (v:=.bool false)) rfl ?_
      first|refine mN rfl rfl rfl rfl rfl ?_ |(refine gE rfl rfl rfl (aD (E rfl)) rfl ?_)|refine fI rfl rfl rfl (aD (E rfl)) rfl ?_ |refine gJ rfl rfl rfl (aD (E rfl)) rfl ?_ |refine gJ rfl rfl rfl (bN (v:=.bool false)) rfl ?_
      first
        |refine mN rfl rfl rfl rfl rfl ?_
        |(
          first
           |refine gE rfl rfl rfl (aY (by
            first
             |exact W rfl id
             |exact E rfl) (E rfl) (fun hc=>by(simp only[List.length_map];omega))) rfl ?_
           |refine gE rfl rfl rfl (aR (by
            first
             |exact W rfl id
             |exact E rfl) bF (E rfl) (fun hc=>by omega)) rfl ?_
           |refine gE rfl rfl rfl (bA (by
            first
             |exact W rfl id
             |exact E rfl) bF (E rfl) (fun hc=>by omega)) rfl ?_)
        |refine fI rfl rfl rfl (aY (by
           first
            |exact W rfl (by
            first
             |exact id
             |simp)
            |exact E rfl) (E rfl) (fun hc=>by(try simp at hc)<;>(simp only[List.length_map];omega))) rfl ?_
        |refine fI rfl rfl rfl (aR (by
           first
            |exact W rfl (by
            first
             |exact id
             |simp)
            |exact E rfl) bF (E rfl) (fun hc=>by(try simp at hc)<;>omega)) rfl ?_
        |refine fI rfl rfl rfl (bA (by
           first
            |exact W rfl (by
            first
             |exact id
             |simp)
            |exact E rfl) bF (E rfl) (fun hc=>by(try simp at hc)<;>omega)) rfl ?_
        |refine gJ rfl rfl rfl (aY (by
           first
            |exact W rfl (by
            first
             |exact id
             |simp)
            |exact E rfl) (E rfl) (fun hc=>by(try simp at hc)<;>(simp only[List.length_map];omega))) rfl ?_
        |refine gJ rfl rfl rfl (aR (by
           first
            |exact W rfl (by
            first
             |exact id
             |simp)
            |exact E rfl) bF (E rfl) (fun hc=>by(try simp at hc)<;>omega)) rfl ?_
        |refine gJ rfl rfl rfl (bA (by
           first
            |exact W rfl (by
            first
             |exact id
             |simp)
            |exact E rfl) bF (E rfl) (fun hc=>by(try simp at hc)<;>omega)) rfl ?_
        |refine gJ rfl rfl rfl (bN (v:=.bool false)) rfl ?_
      first
        |refine mN rfl rfl rfl rfl rfl ?_
        |(
          first
           |refine gE rfl rfl rfl (aP (by
            first
             |exact W rfl id
             |exact E rfl) rfl (fun hc=>by
            first
             |rfl
             |exact aG (by assumption)
             |assumption
             |exact aG (aX (by omega))) (fun _=>rfl)) rfl ?_
           |refine gE rfl rfl rfl (bG (by
            first
             |exact W rfl id
             |exact E rfl) rfl bF (fun hc=>by
            first
             |rfl
             |exact aG (by assumption)
             |assumption
             |exact aG (aX (by omega))) (fun _=>rfl)) rfl ?_)
        |refine fI rfl rfl rfl (aP (by
           first
            |exact W rfl (by
            first
             |exact id
             |simp)
            |exact E rfl) rfl (fun hc=>by
           first
            |rfl
            |exact aG (by assumption)
            |assumption
            |exact aG (aX (by(try simp at hc)<;>omega))) (fun _=>rfl)) rfl ?_
        |refine fI rfl rfl rfl (bG (by
           first
            |exact W rfl (by
            first
             |exact id
             |simp)
            |exact E rfl) rfl bF (fun hc=>by
           first
            |rfl
            |exact aG (by assumption)
            |assumption
            |exact aG (aX (by(try simp at hc)<;>omega))) (fun _=>rfl)) rfl ?_
        |refine gJ rfl rfl rfl (aP (by
           first
            |exact W rfl (by
            first
             |exact id
             |simp)
            |exact E rfl) rfl (fun hc=>by
           first
            |rfl
            |exact aG (by assumption)
            |assumption
            |exact aG (aX (by(try simp at hc)<;>omega))) (fun _=>rfl)) rfl ?_
        |refine gJ rfl rfl rfl (bG (by
           first
            |exact W rfl (by
            first
             |exact id
             |simp)
            |exact E rfl) rfl bF (fun hc=>by
           first
            |rfl
            |exact aG (by assumption)
            |assumption
            |exact aG (aX (by(try simp at hc)<;>omega))) (fun _=>rfl)) rfl ?_
        |refine gJ rfl rfl rfl (bN (v:=.bool false)) rfl ?_
      first|refine mN rfl rfl rfl rfl rfl ?_ |(refine gE rfl rfl rfl (bY (by first|exact W rfl id|exact E rfl) (by first|exact W rfl id|exact E rfl)) rfl ?_)|refine fI rfl rfl rfl (bY (by first|exact W rfl (by first|exact id|simp)|exact E rfl) (by first|exact W rfl (by first|exact id|simp)|exact E rfl)) rfl ?_ |refine gJ rfl rfl rfl (bY (by first|exact W rfl (by first|exact id|simp)|exact E rfl) (by first|exact W rfl (by first|exact id|simp)|exact E rfl)) rfl ?_ |refine gJ rfl rfl rfl (bN (v:=.bool false)) rfl ?_
      refine aAn ?_;refine nR (cG r p q m lv (cA S n).2) rfl Tryz.call189 (iG hN0 _ true) rfl aB bL XC ?_;rintro _ σ' rfl h44;refine KL ?_;refine FK ?_;refine gS ?_;refine⟨j+1,hlt,by show xl.length-(j+1)<xl.length-j;omega, ?_⟩
      (try dsimp only);rw[hnx];exact aN
    · rw[ea];subst eb;rw[ea,show eq1 [] [v]=false by simp[eq1]]at hnx;refine hU [(0,true),(1,true),(2,true),(3,true),(4,true),(5,true),(6,true),(7,true),(8,true),(9,true),(10,true),(11,true),(12,true),(13,true),(14,true),(15,true),(16,true),(17,true),(18,true),(19,true),(20,false)] ?_;refine sH ?_;refine KN ?_;refine JM ?_;refine z79 ?_;rw[show((([]:List Int).length:Int)==(([v]:List Int).length:Int))=false from rfl];refine OA ?_;refine aB3 ?_;first|refine mN rfl rfl rfl rfl rfl ?_ |(refine gE rfl rfl rfl (aD (E rfl)) rfl ?_)|refine fI rfl rfl rfl (aD (E rfl)) rfl ?_ |refine gJ rfl rfl rfl (aD (E rfl)) rfl ?_ |refine gJ rfl rfl rfl (bN (v:=.bool false)) rfl ?_
      first
        |refine mN rfl rfl rfl rfl rfl ?_
        |(
          first
           |refine gE rfl rfl rfl (aY (by
            first
             |exact W rfl id
             |exact E rfl) (E rfl) (fun hc=>by(simp only[List.length_map];omega))) rfl ?_
           |refine gE rfl rfl rfl (aR (by
            first
             |exact W rfl id
             |exact E rfl) bF (E rfl) (fun hc=>by omega)) rfl ?_
           |refine gE rfl rfl rfl (bA (by
            first
             |exact W rfl id
             |exact E rfl) bF (E rfl) (fun hc=>by omega)) rfl ?_)
        |refine fI rfl rfl rfl (aY (by
           first
            |exact W rfl (by
            first
             |exact id
             |simp)
            |exact E rfl) (E rfl) (fun hc=>by(try simp at hc)<;>(simp only[List.length_map];omega))) rfl ?_
        |refine fI rfl rfl rfl (aR (by
           first
            |exact W rfl (by
            first
             |exact id
             |simp)
            |exact E rfl) bF (E rfl) (fun hc=>by(try simp at hc)<;>omega)) rfl ?_
        |refine fI rfl rfl rfl (bA (by
           first
            |exact W rfl (by
            first
             |exact id
             |simp)
            |exact E rfl) bF (E rfl) (fun hc=>by(try simp at hc)<;>omega)) rfl ?_
        |refine gJ rfl rfl rfl (aY (by
           first
            |exact W rfl (by
            first
             |exact id
             |simp)
            |exact E rfl) (E rfl) (fun hc=>by(try simp at hc)<;>(simp only[List.length_map];omega))) rfl ?_
        |refine gJ rfl rfl rfl (aR (by
           first
            |exact W rfl (by
            first
             |exact id
             |simp)
            |exact E rfl) bF (E rfl) (fun hc=>by(try simp at hc)<;>omega)) rfl ?_
        |refine gJ rfl rfl rfl (bA (by
           first
            |exact W rfl (by
            first
             |exact id
             |simp)
            |exact E rfl) bF (E rfl) (fun hc=>by(try simp at hc)<;>omega)) rfl ?_
        |refine gJ rfl rfl rfl (bN (v:=.bool false)) rfl ?_
      first
        |refine mN rfl rfl rfl rfl rfl ?_
        |(
          first
           |refine gE rfl rfl rfl (aP (by
            first
             |exact W rfl id
             |exact E rfl) rfl (fun hc=>by
            first
             |rfl
             |exact aG (by assumption)
             |assumption
             |exact aG (aX (by omega))) (fun _=>rfl)) rfl ?_
           |refine gE rfl rfl rfl (bG (by
            first
             |exact W rfl id
             |exact E rfl) rfl bF (fun hc=>by
            first
             |rfl
             |exact aG (by assumption)
             |assumption
             |exact aG (aX (by omega))) (fun _=>rfl)) rfl ?_)
        |refine fI rfl rfl rfl (aP (by
           first
            |exact W rfl (by
            first
             |exact id
             |simp)
            |exact E rfl) rfl (fun hc=>by
           first
            |rfl
            |exact aG (by assumption)
            |assumption
            |exact aG (aX (by(try simp at hc)<;>omega))) (fun _=>rfl)) rfl ?_
        |refine fI rfl rfl rfl (bG (by
           first
            |exact W rfl (by
            first
             |exact id
             |simp)
            |exact E rfl) rfl bF (fun hc=>by
           first
            |rfl
            |exact aG (by assumption)
            |assumption
            |exact aG (aX (by(try simp at hc)<;>omega))) (fun _=>rfl)) rfl ?_
        |refine gJ rfl rfl rfl (aP (by
           first
            |exact W rfl (by
            first
             |exact id
             |simp)
            |exact E rfl) rfl (fun hc=>by
           first
            |rfl
            |exact aG (by assumption)
            |assumption
            |exact aG (aX (by(try simp at hc)<;>omega))) (fun _=>rfl)) rfl ?_
        |refine gJ rfl rfl rfl (bG (by
           first
            |exact W rfl (by
            first
             |exact id
             |simp)
            |exact E rfl) rfl bF (fun hc=>by
           first
            |rfl
            |exact aG (by assumption)
            |assumption
            |exact aG (aX (by(try simp at hc)<;>omega))) (fun _=>rfl)) rfl ?_
        |refine gJ rfl rfl rfl (bN (v:=.bool false)) rfl ?_
      first|refine mN rfl rfl rfl rfl rfl ?_ |(refine gE rfl rfl rfl (aD (E rfl)) rfl ?_)|refine fI rfl rfl rfl (aD (E rfl)) rfl ?_ |refine gJ rfl rfl rfl (aD (E rfl)) rfl ?_ |refine gJ rfl rfl rfl (bN (v:=.bool false)) rfl ?_
      first
        |refine mN rfl rfl rfl rfl rfl ?_
        |(
          first
           |refine gE rfl rfl rfl (aY (by
            first
             |exact W rfl id
             |exact E rfl) (E rfl) (fun hc=>by(simp only[List.length_map];omega))) rfl ?_
           |refine gE rfl rfl rfl (aR (by
            first
             |exact W rfl id
             |exact E rfl) bF (E rfl) (fun hc=>by omega)) rfl ?_
           |refine gE rfl rfl rfl (bA (by
            first
             |exact W rfl id
             |exact E rfl) bF (E rfl) (fun hc=>by omega)) rfl ?_)
        |refine fI rfl rfl rfl (aY (by
           first
            |exact W rfl (by
            first
             |exact id
             |simp)
            |exact E rfl) (E rfl) (fun hc=>by(try simp at hc)<;>(simp only[List.length_map];omega))) rfl ?_
        |refine fI rfl rfl rfl (aR (by
           first
            |exact W rfl (by
            first
             |exact id
             |simp)
            |exact E rfl) bF (E rfl) (fun hc=>by(try simp at hc)<;>omega)) rfl ?_
        |refine fI rfl rfl rfl (bA (by
           first
            |exact W rfl (by
            first
             |exact id
             |simp)
            |exact E rfl) bF (E rfl) (fun hc=>by(try simp at hc)<;>omega)) rfl ?_
        |refine gJ rfl rfl rfl (aY (by
           first
            |exact W rfl (by
            first
             |exact id
             |simp)
            |exact E rfl) (E rfl) (fun hc=>by(try simp at hc)<;>(simp only[List.length_map];omega))) rfl ?_
        |refine gJ rfl rfl rfl (aR (by
           first
            |exact W rfl (by
            first
             |exact id
             |simp)
            |exact E rfl) bF (E rfl) (fun hc=>by(try simp at hc)<;>omega)) rfl ?_
        |refine gJ rfl rfl rfl (bA (by
           first
            |exact W rfl (by
            first
             |exact id
             |simp)
            |exact E rfl) bF (E rfl) (fun hc=>by(try simp at hc)<;>omega)) rfl ?_
        |refine gJ rfl rfl rfl (bN (v:=.bool false)) rfl ?_
      first
        |refine mN rfl rfl rfl rfl rfl ?_
        |(
          first
           |refine gE rfl rfl rfl (aP (by
            first
             |exact W rfl id
             |exact E rfl) rfl (fun hc=>by
            first
             |rfl
             |exact aG (by assumption)
             |assumption
             |exact aG (aX (by omega))) (fun _=>rfl)) rfl ?_
           |refine gE rfl rfl rfl (bG (by
            first
             |exact W rfl id
             |exact E rfl) rfl bF (fun hc=>by
            first
             |rfl
             |exact aG (by assumption)
             |assumption
             |exact aG (aX (by omega))) (fun _=>rfl)) rfl ?_)
        |refine fI rfl rfl rfl (aP (by
           first
            |exact W rfl (by
            first
             |exact id
             |simp)
            |exact E rfl) rfl (fun hc=>by
           first
            |rfl
            |exact aG (by assumption)
            |assumption
            |exact aG (aX (by(try simp at hc)<;>omega))) (fun _=>rfl)) rfl ?_
        |refine fI rfl rfl rfl (bG (by
           first
            |exact W rfl (by
            first
             |exact id
             |simp)
            |exact E rfl) rfl bF (fun hc=>by
           first
            |rfl
            |exact aG (by assumption)
            |assumption
            |exact aG (aX (by(try simp at hc)<;>omega))) (fun _=>rfl)) rfl ?_
        |refine gJ rfl rfl rfl (aP (by
           first
            |exact W rfl (by
            first
             |exact id
             |simp)
            |exact E rfl) rfl (fun hc=>by
           first
            |rfl
            |exact aG (by assumption)
            |assumption
            |exact aG (aX (by(try simp at hc)<;>omega))) (fun _=>rfl)) rfl ?_
        |refine gJ rfl rfl rfl (bG (by
           first
            |exact W rfl (by
            first
             |exact id
             |simp)
            |exact E rfl) rfl bF (fun hc=>by
           first
            |rfl
            |exact aG (by assumption)
            |assumption
            |exact aG (aX (by(try simp at hc)<;>omega))) (fun _=>rfl)) rfl ?_
        |refine gJ rfl rfl rfl (bN (v:=.bool false)) rfl ?_
      first|refine mN rfl rfl rfl rfl rfl ?_ |(refine gE rfl rfl rfl (bY (by first|exact W rfl id|exact E rfl) (by first|exact W rfl id|exact E rfl)) rfl ?_)|refine fI rfl rfl rfl (bY (by first|exact W rfl (by first|exact id|simp)|exact E rfl) (by first|exact W rfl (by first|exact id|simp)|exact E rfl)) rfl ?_ |refine gJ rfl rfl rfl (bY (by first|exact W rfl (by first|exact id|simp)|exact E rfl) (by first|exact W rfl (by first|exact id|simp)|exact E rfl)) rfl ?_ |refine gJ rfl rfl rfl (bN (v:=.bool false)) rfl ?_
      refine aAn ?_;refine nR (cG r p q m lv (cA S n).2) rfl Tryz.call189 (iG hN0 _ false) rfl aB bL XC ?_;rintro _ σ' rfl h44;refine KL ?_;refine FK ?_;refine gS ?_;refine⟨j+1,hlt,by show xl.length-(j+1)<xl.length-j;omega, ?_⟩
      (try dsimp only);rw[hnx];exact aN
    · rw[ea];subst eb;rw[ea,show eq1 [g] []=false by simp[eq1]]at hnx;refine hU [(0,true),(1,true),(2,true),(3,true),(4,true),(5,true),(6,true),(7,true),(8,true),(9,true),(10,true),(11,true),(12,true),(13,true),(14,true),(15,true),(16,true),(17,true),(18,true),(19,true),(20,false)] ?_;refine sH ?_;refine KN ?_;refine JM ?_;refine z79 ?_;rw[show((([g]:List Int).length:Int)==(([]:List Int).length:Int))=false from rfl];refine OA ?_;refine aB3 ?_;first|refine mN rfl rfl rfl rfl rfl ?_ |(refine gE rfl rfl rfl (aD (E rfl)) rfl ?_)|refine fI rfl rfl rfl (aD (E rfl)) rfl ?_ |refine gJ rfl rfl rfl (aD (E rfl)) rfl ?_ |refine gJ rfl rfl rfl (bN (v:=.bool false)) rfl ?_
      first
        |refine mN rfl rfl rfl rfl rfl ?_
        |(
          first
           |refine gE rfl rfl rfl (aY (by
            first
             |exact W rfl id
             |exact E rfl) (E rfl) (fun hc=>by(simp only[List.length_map];omega))) rfl ?_
           |refine gE rfl rfl rfl (aR (by
            first
             |exact W rfl id
             |exact E rfl) bF (E rfl) (fun hc=>by omega)) rfl ?_
           |refine gE rfl rfl rfl (bA (by
            first
             |exact W rfl id
             |exact E rfl) bF (E rfl) (fun hc=>by omega)) rfl ?_)
        |refine fI rfl rfl rfl (aY (by
           first
            |exact W rfl (by
            first
             |exact id
             |simp)
            |exact E rfl) (E rfl) (fun hc=>by(try simp at hc)<;>(simp only[List.length_map];omega))) rfl ?_
        |refine fI rfl rfl rfl (aR (by
           first
            |exact W rfl (by
            first
             |exact id
             |simp)
            |exact E rfl) bF (E rfl) (fun hc=>by(try simp at hc)<;>omega)) rfl ?_
        |refine fI rfl rfl rfl (bA (by
           first
            |exact W rfl (by
            first
             |exact id
             |simp)
            |exact E rfl) bF (E rfl) (fun hc=>by(try simp at hc)<;>omega)) rfl ?_
        |refine gJ rfl rfl rfl (aY (by
           first
            |exact W rfl (by
            first
             |exact id
             |simp)
            |exact E rfl) (E rfl) (fun hc=>by(try simp at hc)<;>(simp only[List.length_map];omega))) rfl ?_
        |refine gJ rfl rfl rfl (aR (by
           first
            |exact W rfl (by
            first
             |exact id
             |simp)
            |exact E rfl) bF (E rfl) (fun hc=>by(try simp at hc)<;>omega)) rfl ?_
        |refine gJ rfl rfl rfl (bA (by
           first
            |exact W rfl (by
            first
             |exact id
             |simp)
            |exact E rfl) bF (E rfl) (fun hc=>by(try simp at hc)<;>omega)) rfl ?_
        |refine gJ rfl rfl rfl (bN (v:=.bool false)) rfl ?_
      first
        |refine mN rfl rfl rfl rfl rfl ?_
        |(
          first
           |refine gE rfl rfl rfl (aP (by
            first
             |exact W rfl id
             |exact E rfl) rfl (fun hc=>by
            first
             |rfl
             |exact aG (by assumption)
             |assumption
             |exact aG (aX (by omega))) (fun _=>rfl)) rfl ?_
           |refine gE rfl rfl rfl (bG (by
            first
             |exact W rfl id
             |exact E rfl) rfl bF (fun hc=>by
            first
             |rfl
             |exact aG (by assumption)
             |assumption
             |exact aG (aX (by omega))) (fun _=>rfl)) rfl ?_)
        |refine fI rfl rfl rfl (aP (by
           first
            |exact W rfl (by
            first
             |exact id
             |simp)
            |exact E rfl) rfl (fun hc=>by
           first
            |rfl
            |exact aG (by assumption)
            |assumption
            |exact aG (aX (by(try simp at hc)<;>omega))) (fun _=>rfl)) rfl ?_
        |refine fI rfl rfl rfl (bG (by
           first
            |exact W rfl (by
            first
             |exact id
             |simp)
            |exact E rfl) rfl bF (fun hc=>by
           first
            |rfl
            |exact aG (by assumption)
            |assumption
            |exact aG (aX (by(try simp at hc)<;>omega))) (fun _=>rfl)) rfl ?_
        |refine gJ rfl rfl rfl (aP (by
           first
            |exact W rfl (by
            first
             |exact id
             |simp)
            |exact E rfl) rfl (fun hc=>by
           first
            |rfl
            |exact aG (by assumption)
            |assumption
            |exact aG (aX (by(try simp at hc)<;>omega))) (fun _=>rfl)) rfl ?_
        |refine gJ rfl rfl rfl (bG (by
           first
            |exact W rfl (by
            first
             |exact id
             |simp)
            |exact E rfl) rfl bF (fun hc=>by
           first
            |rfl
            |exact aG (by assumption)
            |assumption
            |exact aG (aX (by(try simp at hc)<;>omega))) (fun _=>rfl)) rfl ?_
        |refine gJ rfl rfl rfl (bN (v:=.bool false)) rfl ?_
      first|refine mN rfl rfl rfl rfl rfl ?_ |(refine gE rfl rfl rfl (aD (E rfl)) rfl ?_)|refine fI rfl rfl rfl (aD (E rfl)) rfl ?_ |refine gJ rfl rfl rfl (aD (E rfl)) rfl ?_ |refine gJ rfl rfl rfl (bN (v:=.bool false)) rfl ?_
      first
        |refine mN rfl rfl rfl rfl rfl ?_
        |(
          first
           |refine gE rfl rfl rfl (aY (by
            first
             |exact W rfl id
             |exact E rfl) (E rfl) (fun hc=>by(simp only[List.length_map];omega))) rfl ?_
           |refine gE rfl rfl rfl (aR (by
            first
             |exact W rfl id
             |exact E rfl) bF (E rfl) (fun hc=>by omega)) rfl ?_
           |refine gE rfl rfl rfl (bA (by
            first
             |exact W rfl id
             |exact E rfl) bF (E rfl) (fun hc=>by omega)) rfl ?_)
        |refine fI rfl rfl rfl (aY (by
           first
            |exact W rfl (by
            first
             |exact id
             |simp)
            |exact E rfl) (E rfl) (fun hc=>by(try simp at hc)<;>(simp only[List.length_map];omega))) rfl ?_
        |refine fI rfl rfl rfl (aR (by
           first
            |exact W rfl (by
            first
             |exact id
             |simp)
            |exact E rfl) bF (E rfl) (fun hc=>by(try simp at hc)<;>omega)) rfl ?_
        |refine fI rfl rfl rfl (bA (by
           first
            |exact W rfl (by
            first
             |exact id
             |simp)
            |exact E rfl) bF (E rfl) (fun hc=>by(try simp at hc)<;>omega)) rfl ?_
        |refine gJ rfl rfl rfl (aY (by
           first
            |exact W rfl (by
            first
             |exact id
             |simp)
            |exact E rfl) (E rfl) (fun hc=>by(try simp at hc)<;>(simp only[List.length_map];omega))) rfl ?_
        |refine gJ rfl rfl rfl (aR (by
           first
            |exact W rfl (by
            first
             |exact id
             |simp)
            |exact E rfl) bF (E rfl) (fun hc=>by(try simp at hc)<;>omega)) rfl ?_
        |refine gJ rfl rfl rfl (bA (by
           first
            |exact W rfl (by
            first
             |exact id
             |simp)
            |exact E rfl) bF (E rfl) (fun hc=>by(try simp at hc)<;>omega)) rfl ?_
        |refine gJ rfl rfl rfl (bN (v:=.bool false)) rfl ?_
      first
        |refine mN rfl rfl rfl rfl rfl ?_
        |(
          first
           |refine gE rfl rfl rfl (aP (by
            first
             |exact W rfl id
             |exact E rfl) rfl (fun hc=>by
            first
             |rfl
             |exact aG (by assumption)
             |assumption
             |exact aG (aX (by omega))) (fun _=>rfl)) rfl ?_
           |refine gE rfl rfl rfl (bG (by
            first
             |exact W rfl id
             |exact E rfl) rfl bF (fun hc=>by
            first
             |rfl
             |exact aG (by assumption)
             |assumption
             |exact aG (aX (by omega))) (fun _=>rfl)) rfl ?_)
        |refine fI rfl rfl rfl (aP (by
           first
            |exact W rfl (by
            first
             |exact id
             |simp)
            |exact E rfl) rfl (fun hc=>by
           first
            |rfl
            |exact aG (by assumption)
            |assumption
            |exact aG (aX (by(try simp at hc)<;>omega))) (fun _=>rfl)) rfl ?_
        |refine fI rfl rfl rfl (bG (by
           first
            |exact W rfl (by
            first
             |exact id
             |simp)
            |exact E rfl) rfl bF (fun hc=>by
           first
            |rfl
            |exact aG (by assumption)
            |assumption
            |exact aG (aX (by(try simp at hc)<;>omega))) (fun _=>rfl)) rfl ?_
        |refine gJ rfl rfl rfl (aP (by
           first
            |exact W rfl (by
            first
             |exact id
             |simp)
            |exact E rfl) rfl (fun hc=>by
           first
            |rfl
            |exact aG (by assumption)
            |assumption
            |exact aG (aX (by(try simp at hc)<;>omega))) (fun _=>rfl)) rfl ?_
        |refine gJ rfl rfl rfl (bG (by
           first
            |exact W rfl (by
            first
             |exact id
             |simp)
            |exact E rfl) rfl bF (fun hc=>by
           first
            |rfl
            |exact aG (by assumption)
            |assumption
            |exact aG (aX (by(try simp at hc)<;>omega))) (fun _=>rfl)) rfl ?_
        |refine gJ rfl rfl rfl (bN (v:=.bool false)) rfl ?_
      first|refine mN rfl rfl rfl rfl rfl ?_ |(refine gE rfl rfl rfl (bY (by first|exact W rfl id|exact E rfl) (by first|exact W rfl id|exact E rfl)) rfl ?_)|refine fI rfl rfl rfl (bY (by first|exact W rfl (by first|exact id|simp)|exact E rfl) (by first|exact W rfl (by first|exact id|simp)|exact E rfl)) rfl ?_ |refine gJ rfl rfl rfl (bY (by first|exact W rfl (by first|exact id|simp)|exact E rfl) (by first|exact W rfl (by first|exact id|simp)|exact E rfl)) rfl ?_ |refine gJ rfl rfl rfl (bN (v:=.bool false)) rfl ?_
      refine aAn ?_;refine nR (cG r p q m lv (cA S n).2) rfl Tryz.call189 (iG hN0 _ false) rfl aB bL XC ?_;rintro _ σ' rfl h44;refine KL ?_;refine FK ?_;refine gS ?_;refine⟨j+1,hlt,by show xl.length-(j+1)<xl.length-j;omega, ?_⟩
      (try dsimp only);rw[hnx];exact aN
    · rw[ea];subst eb;rw[ea,show eq1 [g] [v]=(g==v) by simp[eq1]]at hnx;have hg1:[g].length=1:=rfl;have hv1:[v].length=1:=rfl;refine hU [(0,true),(1,true),(2,true),(3,true),(4,true),(5,true),(6,true),(7,true),(8,true),(9,true),(10,true),(11,true),(12,true),(13,true),(14,true),(15,true),(16,true),(17,true),(18,true),(19,true),(20,false)] ?_;refine sH ?_;refine KN ?_;refine JM ?_;refine z79 ?_;rw[show((([g]:List Int).length:Int)==(([v]:List Int).length:Int))=true from rfl];refine OA ?_;refine aC7 ?_;rw[show((([g]:List Int).length:Int)==0)=false from rfl]
      (first|refine mN rfl rfl rfl rfl rfl ?_ |(refine gE rfl rfl rfl (aD (by first|exact W rfl id|exact E rfl)) rfl ?_)|refine fI rfl rfl rfl (aD (by first|exact W rfl id|exact E rfl)) rfl ?_);first|refine mN rfl rfl rfl rfl rfl ?_ |(refine gE rfl rfl rfl (aD (E rfl)) rfl ?_)|refine fI rfl rfl rfl (aD (E rfl)) rfl ?_ |refine gJ rfl rfl rfl (aD (E rfl)) rfl ?_ |refine gJ rfl rfl rfl (bN (v:=.bool false)) rfl ?_
      first
        |refine mN rfl rfl rfl rfl rfl ?_
        |(
          first
           |refine gE rfl rfl rfl (aY (by
            first
             |exact W rfl id
             |exact E rfl) (E rfl) (fun hc=>by(simp only[List.length_map];omega))) rfl ?_
           |refine gE rfl rfl rfl (aR (by
            first
             |exact W rfl id
             |exact E rfl) bF (E rfl) (fun hc=>by omega)) rfl ?_
           |refine gE rfl rfl rfl (bA (by
            first
             |exact W rfl id
             |exact E rfl) bF (E rfl) (fun hc=>by omega)) rfl ?_)
        |refine fI rfl rfl rfl (aY (by
           first
            |exact W rfl (by
            first
             |exact id
             |simp)
            |exact E rfl) (E rfl) (fun hc=>by(try simp at hc)<;>(simp only[List.length_map];omega))) rfl ?_
        |refine fI rfl rfl rfl (aR (by
           first
            |exact W rfl (by
            first
             |exact id
             |simp)
            |exact E rfl) bF (E rfl) (fun hc=>by(try simp at hc)<;>omega)) rfl ?_
        |refine fI rfl rfl rfl (bA (by
           first
            |exact W rfl (by
            first
             |exact id
             |simp)
            |exact E rfl) bF (E rfl) (fun hc=>by(try simp at hc)<;>omega)) rfl ?_
        |refine gJ rfl rfl rfl (aY (by
           first
            |exact W rfl (by
            first
             |exact id
             |simp)
            |exact E rfl) (E rfl) (fun hc=>by(try simp at hc)<;>(simp only[List.length_map];omega))) rfl ?_
        |refine gJ rfl rfl rfl (aR (by
           first
            |exact W rfl (by
            first
             |exact id
             |simp)
            |exact E rfl) bF (E rfl) (fun hc=>by(try simp at hc)<;>omega)) rfl ?_
        |refine gJ rfl rfl rfl (bA (by
           first
            |exact W rfl (by
            first
             |exact id
             |simp)
            |exact E rfl) bF (E rfl) (fun hc=>by(try simp at hc)<;>omega)) rfl ?_
        |refine gJ rfl rfl rfl (bN (v:=.bool false)) rfl ?_
      first
        |refine mN rfl rfl rfl rfl rfl ?_
        |(
          first
           |refine gE rfl rfl rfl (aP (by
            first
             |exact W rfl id
             |exact E rfl) rfl (fun hc=>by
            first
             |rfl
             |exact aG (by assumption)
             |assumption
             |exact aG (aX (by omega))) (fun _=>rfl)) rfl ?_
           |refine gE rfl rfl rfl (bG (by
            first
             |exact W rfl id
             |exact E rfl) rfl bF (fun hc=>by
            first
             |rfl
             |exact aG (by assumption)
             |assumption
             |exact aG (aX (by omega))) (fun _=>rfl)) rfl ?_)
        |refine fI rfl rfl rfl (aP (by
           first
            |exact W rfl (by
            first
             |exact id
             |simp)
            |exact E rfl) rfl (fun hc=>by
           first
            |rfl
            |exact aG (by assumption)
            |assumption
            |exact aG (aX (by(try simp at hc)<;>omega))) (fun _=>rfl)) rfl ?_
        |refine fI rfl rfl rfl (bG (by
           first
            |exact W rfl (by
            first
             |exact id
             |simp)
            |exact E rfl) rfl bF (fun hc=>by
           first
            |rfl
            |exact aG (by assumption)
            |assumption
            |exact aG (aX (by(try simp at hc)<;>omega))) (fun _=>rfl)) rfl ?_
        |refine gJ rfl rfl rfl (aP (by
           first
            |exact W rfl (by
            first
             |exact id
             |simp)
            |exact E rfl) rfl (fun hc=>by
           first
            |rfl
            |exact aG (by assumption)
            |assumption
            |exact aG (aX (by(try simp at hc)<;>omega))) (fun _=>rfl)) rfl ?_
        |refine gJ rfl rfl rfl (bG (by
           first
            |exact W rfl (by
            first
             |exact id
             |simp)
            |exact E rfl) rfl bF (fun hc=>by
           first
            |rfl
            |exact aG (by assumption)
            |assumption
            |exact aG (aX (by(try simp at hc)<;>omega))) (fun _=>rfl)) rfl ?_
        |refine gJ rfl rfl rfl (bN (v:=.bool false)) rfl ?_
      first|refine mN rfl rfl rfl rfl rfl ?_ |(refine gE rfl rfl rfl (aD (E rfl)) rfl ?_)|refine fI rfl rfl rfl (aD (E rfl)) rfl ?_ |refine gJ rfl rfl rfl (aD (E rfl)) rfl ?_ |refine gJ rfl rfl rfl (bN (v:=.bool false)) rfl ?_
      first
        |refine mN rfl rfl rfl rfl rfl ?_
        |(
          first
           |refine gE rfl rfl rfl (aY (by
            first
             |exact W rfl id
             |exact E rfl) (E rfl) (fun hc=>by(simp only[List.length_map];omega))) rfl ?_
           |refine gE rfl rfl rfl (aR (by
            first
             |exact W rfl id
             |exact E rfl) bF (E rfl) (fun hc=>by omega)) rfl ?_
           |refine gE rfl rfl rfl (bA (by
            first
             |exact W rfl id
             |exact E rfl) bF (E rfl) (fun hc=>by omega)) rfl ?_)
        |refine fI rfl rfl rfl (aY (by
           first
            |exact W rfl (by
            first
             |exact id
             |simp)
            |exact E rfl) (E rfl) (fun hc=>by(try simp at hc)<;>(simp only[List.length_map];omega))) rfl ?_
        |refine fI rfl rfl rfl (aR (by
           first
            |exact W rfl (by
            first
             |exact id
             |simp)
            |exact E rfl) bF (E rfl) (fun hc=>by(try simp at hc)<;>omega)) rfl ?_
        |refine fI rfl rfl rfl (bA (by
           first
            |exact W rfl (by
            first
             |exact id
             |simp)
            |exact E rfl) bF (E rfl) (fun hc=>by(try simp at hc)<;>omega)) rfl ?_
        |refine gJ rfl rfl rfl (aY (by
           first
            |exact W rfl (by
            first
             |exact id
             |simp)
            |exact E rfl) (E rfl) (fun hc=>by(try simp at hc)<;>(simp only[List.length_map];omega))) rfl ?_
        |refine gJ rfl rfl rfl (aR (by
           first
            |exact W rfl (by
            first
             |exact id
             |simp)
            |exact E rfl) bF (E rfl) (fun hc=>by(try simp at hc)<;>omega)) rfl ?_
        |refine gJ rfl rfl rfl (bA (by
           first
            |exact W rfl (by
            first
             |exact id
             |simp)
            |exact E rfl) bF (E rfl) (fun hc=>by(try simp at hc)<;>omega)) rfl ?_
        |refine gJ rfl rfl rfl (bN (v:=.bool false)) rfl ?_
      first
        |refine mN rfl rfl rfl rfl rfl ?_
        |(
          first
           |refine gE rfl rfl rfl (aP (by
            first
             |exact W rfl id
             |exact E rfl) rfl (fun hc=>by
            first
             |rfl
             |exact aG (by assumption)
             |assumption
             |exact aG (aX (by omega))) (fun _=>rfl)) rfl ?_
           |refine gE rfl rfl rfl (bG (by
            first
             |exact W rfl id
             |exact E rfl) rfl bF (fun hc=>by
            first
             |rfl
             |exact aG (by assumption)
             |assumption
             |exact aG (aX (by omega))) (fun _=>rfl)) rfl ?_)
        |refine fI rfl rfl rfl (aP (by
           first
            |exact W rfl (by
            first
             |exact id
             |simp)
            |exact E rfl) rfl (fun hc=>by
           first
            |rfl
            |exact aG (by assumption)
            |assumption
            |exact aG (aX (by(try simp at hc)<;>omega))) (fun _=>rfl)) rfl ?_
        |refine fI rfl rfl rfl (bG (by
           first
            |exact W rfl (by
            first
             |exact id
             |simp)
            |exact E rfl) rfl bF (fun hc=>by
           first
            |rfl
            |exact aG (by assumption)
            |assumption
            |exact aG (aX (by(try simp at hc)<;>omega))) (fun _=>rfl)) rfl ?_
        |refine gJ rfl rfl rfl (aP (by
           first
            |exact W rfl (by
            first
             |exact id
             |simp)
            |exact E rfl) rfl (fun hc=>by
           first
            |rfl
            |exact aG (by assumption)
            |assumption
            |exact aG (aX (by(try simp at hc)<;>omega))) (fun _=>rfl)) rfl ?_
        |refine gJ rfl rfl rfl (bG (by
           first
            |exact W rfl (by
            first
             |exact id
             |simp)
            |exact E rfl) rfl bF (fun hc=>by
           first
            |rfl
            |exact aG (by assumption)
            |assumption
            |exact aG (aX (by(try simp at hc)<;>omega))) (fun _=>rfl)) rfl ?_
        |refine gJ rfl rfl rfl (bN (v:=.bool false)) rfl ?_
      first|refine mN rfl rfl rfl rfl rfl ?_ |(refine gE rfl rfl rfl (bY (by first|exact W rfl id|exact E rfl) (by first|exact W rfl id|exact E rfl)) rfl ?_)|refine fI rfl rfl rfl (bY (by first|exact W rfl (by first|exact id|simp)|exact E rfl) (by first|exact W rfl (by first|exact id|simp)|exact E rfl)) rfl ?_ |refine gJ rfl rfl rfl (bY (by first|exact W rfl (by first|exact id|simp)|exact E rfl) (by first|exact W rfl (by first|exact id|simp)|exact E rfl)) rfl ?_ |refine gJ rfl rfl rfl (bN (v:=.bool false)) rfl ?_
      refine aAn ?_;refine nR (cG r p q m lv (cA S n).2) rfl Tryz.call189 (iG hN0 _ (g==v)) rfl aB bL XC ?_;rintro _ σ' rfl h44;refine KL ?_;refine FK ?_;refine gS ?_;refine⟨j+1,hlt,by show xl.length-(j+1)<xl.length-j;omega, ?_⟩
      (try dsimp only);rw[hnx];exact aN
  obtain rfl:j=xl.length:=by simp at g4;omega
  rw[List.take_length]at hS⊢;generalize xl.foldl (vX w) s2=S at hS⊢;have h5:=hS.pops w;unfold cG kD
  (try dsimp only);refine dB ?_;refine cw (cG r p q m lv S) Tryz.call192 (iW hN0 S hS w (by omega)) rfl aB bL ?_;rintro _ σ' rfl h48;refine mY ?_;refine cw (cG r p q m lv (dZ S w)) Tryz.call187 (yM hN0 _ h5) rfl aB bL ?_;rintro _ σ' rfl h50;refine nA ?_;refine cK ?_;apply aE;exact aF
  · rfl
  · exact aA
end
structure Ins.Ck (x:Ins):Prop where
 nn:x.op=12∨x.op=13∨x.op=14∨x.op=16∨x.op=32∨x.op=33∨x.op=34∨x.op=35∨x.op=36→0≤x.a
 ln:x.op=14→∀n∈x.l,0≤n
 ll:x.l.length≤1000000
 hi:x.a≤9223372036854775807
structure Md.Ck (m:Md):Prop where
 ts:m.TS
 im:m.im.length≤1000000
section
variable {r p q : Nat} {m : Md} {lv : AV}
theorem OV(hN:Nm r p q)(hm:m.Ck)(s:PS)(h:s.Gd)(hv:s.vs.length≤900000)(hc:s.cs.length≤900000)(x:Ins)(hx:x.Ck)(h11:x.op=11→2≤s.cs.length):SCall Tryz.prog 77 [.ptr r 0,.agg (iv .any x)] (cG r p q m lv s)
  (fun y σ=>∃e f,Nm r e f∧y=.bool (bU m s x).1∧σ=cG r e f m lv (bU m s x).2):=by
 have hN0:=hN;obtain⟨n1,n2,n3⟩:=hN;unfold iv;refine bO 133 [0,1,3,4,5,6,8,9,13,15,24,34,41,60,70,84,89,103,113] Tryz.func77 ?_;unfold cG kD
 (try dsimp only);refine cV ?_;refine gM fun r3 h3=> ?_;intros
 refine gT ?_;refine iI ?_;refine dH ?_;refine aC rfl (fun g3=> ?_) (fun g3=> ?_)
 ·rw[show bU m s x=(true,mB s) by unfold bU;simp only[g3,if_true]];have hL:=hN0;refine bH ?_;refine cw (cG r p q m lv s) Tryz.call187 (yM hN0 s h) rfl aB bL ?_;rintro _ σ' rfl h12;refine lK ?_;refine iI ?_;refine bV ?_;exact aE aF ⟨_,_,hL,by rfl,rfl⟩ aA
 refine dH ?_;refine aC rfl (fun g5=> ?_) (fun g5=> ?_)
 ·rw[show bU m s x=(true,s) by unfold bU;simp only[g3,g5,if_true,if_false,Bool.false_eq_true]];have hL:=hN0;refine bV ?_;exact aE aF ⟨_,_,hL,by rfl,rfl⟩ aA
 refine dH ?_;apply kW rfl;exact fL
 ·intro _;(refine aJ ?_);refine kL ?_;exact aN
 refine aJ ?_;refine aC rfl (fun g6=> ?_) (fun g6=> ?_)
 ·refine aJ ?_;rw[show bU m s x=(true,openP s x.op x.a) by unfold bU;simp only[g3,g5,g6,if_true,if_false,Bool.false_eq_true]];refine nB ?_;refine dL ?_;refine cw (cG r p q m lv s) Tryz.call76 (yL hN0 s h.bc x.op x.a) rfl aB bL ?_;rintro _ σ' ⟨f,hL,rfl⟩ h23;unfold cG kD;(try dsimp only);obtain⟨e1,e2,e3⟩:=id hL;refine sQ ?_;refine bV ?_;exact aE aF ⟨_,_,hL,by rfl,rfl⟩ aA
 refine dH ?_;refine aC rfl (fun g9=> ?_) (fun g9=> ?_)
 ·have h1:=h.pop 1;rw[show bU m s x=(true,openP (cF s 1).2 x.op x.a) by unfold bU;simp only[g3,g5,g6,g9,if_true,if_false,Bool.false_eq_true]];refine bH ?_;refine cw (cG r p q m lv s) Tryz.call188 (lV hN0 s h 1) rfl aB bL ?_;rintro _ σ' ⟨rfl,rfl⟩ h27;refine mY ?_;refine dL ?_;refine dL ?_;refine cw (cG r p q m lv (cF s 1).2) Tryz.call76 (yL hN0 _ h1.bc x.op x.a) rfl aB bL ?_;rintro _ σ' ⟨f,hL,rfl⟩ h33;unfold cG kD;(try dsimp only);obtain⟨e1,e2,e3⟩:=id hL;refine sQ ?_;refine bV ?_;exact aE aF ⟨_,_,hL,by rfl,rfl⟩ aA
 refine dH ?_;refine aC rfl (fun g12=> ?_) (fun g12=> ?_)
 ·rw[show bU m s x=(true,openP (kU s) 5 s.top.kd) by unfold bU;simp only[g3,g5,g6,g9,g12,if_true,if_false,Bool.false_eq_true]];refine dB ?_;refine cw (cG r p q m lv s) Tryz.call79 (GP hN0 s h) rfl aB bL ?_;rintro _ σ' ⟨rfl,rfl⟩ h38;refine lK ?_;refine aC3 ?_;refine cw (cG r p q m lv (kU s)) Tryz.call76 (yL hN0 (kU s) (by rw[yG,mG];omega) 5 s.top.kd) rfl aB bL ?_;rintro _ σ' ⟨f,hL,rfl⟩ h40;unfold cG kD;(try dsimp only);obtain⟨e1,e2,e3⟩:=id hL;refine sQ ?_;refine bV ?_;exact aE aF ⟨_,_,hL,by rfl,rfl⟩ aA
 refine dH ?_;refine aC rfl (fun g14=> ?_) (fun g14=> ?_)
 ·have h2:=h11 (by simpa using g14);have hsl:=zQ s;have hll:=rL s.top.kd;rw[show bU m s x=(true,gH (dX (kU s) (if(s.top.op !=4)=true then true else(s.top.kd==0))) (iF s.top.kd)) by unfold bU;simp only[g3,g5,g6,g9,g12,g14,if_true,if_false,Bool.false_eq_true]];refine bH ?_;refine cw (cG r p q m lv s) Tryz.call79 (GP hN0 s h) rfl aB bL ?_;rintro _ σ' ⟨rfl,rfl⟩ h44;refine lK ?_;refine gF fun r5 h5=> ?_;intros
  refine lM ?_;refine dL ?_;refine lo (eA (E rfl) (E rfl)) rfl ?_;refine kS ?_;refine lJ ?_;refine gK ?_;refine cw (cG r p q m lv (kU s)) Tryz.call189 (iG hN0 (kU s) (if(s.top.op !=4)=true then true else(s.top.kd==0))) rfl aB bL ?_;rintro _ σ' rfl h54;refine mY ?_;refine dL ?_;refine nK [] Tryz.call191 (pP s.top.kd) ?_;refine cw (cG r p q m lv (dX (kU s) (if(s.top.op !=4)=true then true else(s.top.kd==0)))) Tryz.call190 (jL hN0 _ (by rw[yF];omega) (iF s.top.kd) (by omega)) rfl aB bL ?_;rintro _ σ' ⟨e,hL,rfl⟩ h59;unfold cG kD;(try dsimp only);obtain⟨e1,e2,e3⟩:=id hL;refine sQ ?_;refine bV ?_;exact aE aF ⟨_,_,hL,by rfl,rfl⟩ aA
 refine dH ?_;refine aC rfl (fun g18=> ?_) (fun g18=> ?_)
 ·have ha:=hx.nn (.inl (by simpa using g18));have h1:=h.label x.a;have hll:=oO s x.a;rw[show bU m s x=(true,mB (dZ (cA s x.a).2 (cA s x.a).1)) by unfold bU;simp only[g3,g5,g6,g9,g12,g14,g18,if_true,if_false,Bool.false_eq_true]];have hL:=hN0;refine dB ?_;refine dL ?_;refine cw (cG r p q m lv s) Tryz.call193 (vA hN0 s h.bc x.a ha) rfl aB bL ?_;rintro _ σ' ⟨rfl,rfl⟩ h66;refine lK ?_;refine cw (cG r p q m lv (cA s x.a).2) Tryz.call192 (iW hN0 _ h1 (cA s x.a).1 (by omega)) rfl aB bL ?_;rintro _ σ' rfl h67;refine mY ?_;refine cw (cG r p q m lv (dZ (cA s x.a).2 (cA s x.a).1)) Tryz.call187 (yM hN0 _ (h1.pops _)) rfl aB bL ?_;rintro _ σ' rfl h69;refine lK ?_;refine iI ?_;refine bV ?_;exact aE aF ⟨_,_,hL,by rfl,rfl⟩ aA
 refine dH ?_;refine aC rfl (fun g21=> ?_) (fun g21=> ?_)
 ·have ha:=hx.nn (.inr (.inl (by simpa using g21)));have h1:=h.pop 1;have h2:=h1.label x.a;have hll:=oO (cF s 1).2 x.a;rw[show bU m s x=(true,gH (dZ (cA (cF s 1).2 x.a).2 (cA (cF s 1).2 x.a).1) (cA (cF s 1).2 x.a).1) by unfold bU;simp only[g3,g5,g6,g9,g12,g14,g18,g21,if_true,if_false,Bool.false_eq_true]];refine bH ?_;refine cw (cG r p q m lv s) Tryz.call188 (lV hN0 s h 1) rfl aB bL ?_;rintro _ σ' ⟨rfl,rfl⟩ h73;refine mY ?_;refine dL ?_;refine cw (cG r p q m lv (cF s 1).2) Tryz.call193 (vA hN0 _ h1.bc x.a ha) rfl aB bL ?_;rintro _ σ' ⟨rfl,rfl⟩ h77;refine lK ?_;refine nT ?_;refine cw (cG r p q m lv (cA (cF s 1).2 x.a).2) Tryz.call192 (iW hN0 _ h2 (cA (cF s 1).2 x.a).1 (by omega)) rfl aB bL ?_;rintro _ σ' rfl h80;refine nA ?_;refine jX ?_;refine cw (cG r p q m lv (dZ (cA (cF s 1).2 x.a).2 (cA (cF s 1).2 x.a).1)) Tryz.call190 (jL hN0 _ (h2.pops _).bv (cA (cF s 1).2 x.a).1 (by omega)) rfl aB bL ?_;rintro _ σ' ⟨e,hL,rfl⟩ h83;unfold cG kD;(try dsimp only);obtain⟨e1,e2,e3⟩:=id hL;refine sQ ?_;refine bV ?_;exact aE aF ⟨_,_,hL,by rfl,rfl⟩ aA
 refine dH ?_;refine aC rfl (fun g26=> ?_) (fun g26=> ?_)
 ·have h14:x.op=14:=by simpa using g26
  have ha:=hx.nn (.inr (.inr (.inl h14)));rw[show bU m s x=(true,pM s x) by unfold bU;simp only[g3,g5,g6,g9,g12,g14,g18,g21,g26,if_true,if_false,Bool.false_eq_true]];have hL:=hN0;refine bH ?_;refine jN ?_;refine cw (cG r p q m lv s) Tryz.call194 (XY hN0 s h x ha (hx.ln h14) hx.ll) rfl aB bL ?_;rintro _ σ' rfl h88;refine lK ?_;refine iI ?_;refine bV ?_;exact aE aF ⟨_,_,hL,by rfl,rfl⟩ aA
 refine dH ?_;refine aC rfl (fun g28=> ?_) (fun g28=> ?_)
 ·obtain⟨c0,hc0⟩:∃c0,s.cs[0]? =some c0:=⟨_,List.getElem?_eq_getElem (List.length_pos_iff.2 h.ne)⟩
  have hlp:0<s.cs.length:=List.length_pos_iff.2 h.ne;have hel:(s.cs.map jY)[(0:Int).toNat]? =some (jY c0):=by rw[List.getElem?_map];show(s.cs[0]?).map jY=_;rw[hc0];rfl
  have hll:=rL c0.kd;have h1:=h.pops (iF c0.kd);rw[show bU m s x=(true,mB (dZ s (iF c0.kd))) by unfold bU;simp only[g3,g5,g6,g9,g12,g14,g18,g21,g26,g28,if_true,if_false,Bool.false_eq_true];rw[List.getD_eq_getElem?_getD,hc0];rfl];have hL:=hN0;refine dB ?_;refine iJ ?_;refine ZK ?_;refine BL ?_;refine KC ?_;refine nK [] Tryz.call191 (pP c0.kd) ?_;refine cw (cG r p q m lv s) Tryz.call192 (iW hN0 s h (iF c0.kd) (by omega)) rfl aB bL ?_;rintro _ σ' rfl h100;refine mY ?_;refine cw (cG r p q m lv (dZ s (iF c0.kd))) Tryz.call187 (yM hN0 _ h1) rfl aB bL ?_;rintro _ σ' rfl h102;refine lK ?_;refine iI ?_;refine bV ?_;exact aE aF ⟨_,_,hL,by rfl,rfl⟩ aA
 refine dH ?_;refine aC rfl (fun g31=> ?_) (fun g31=> ?_)
 ·have ha:=hx.nn (.inr (.inr (.inr (.inl (by simpa using g31)))));have hts:=oP hm.ts (nE m x.a);rw[show bU m s x=(true,pL s (dD m (nE m x.a)).1 (dD m (nE m x.a)).2) by unfold bU;simp only[g3,g5,g6,g9,g12,g14,g18,g21,g26,g28,g31,if_true,if_false,Bool.false_eq_true]];refine dB ?_;refine dL ?_;refine cw (cG r p q m lv s) Tryz.call196 (MD hN0 s hm.im x.a ha hx.hi) rfl aB bL ?_;rintro _ σ' ⟨rfl,rfl⟩ h109;refine lK ?_;refine NY ?_;refine cw (cG r p q m lv s) Tryz.call195 (ME hN0 s h _ hts _) rfl aB bL ?_;rintro _ σ' ⟨e,hL,rfl⟩ h112;unfold cG kD;(try dsimp only);obtain⟨e1,e2,e3⟩:=id hL;refine sQ ?_;refine bV ?_;exact aE aF ⟨_,_,hL,by rfl,rfl⟩ aA
 refine dH ?_;refine aC rfl (fun g33=> ?_) (fun g33=> ?_)
 ·have hts:=oP hm.ts x.a;have h1:=h.need m.tb.has;have h2:=h1.pop 1;rw[show bU m s x=(true,pL (cF (dX s m.tb.has) 1).2 (dD m x.a).1 (dD m x.a).2) by unfold bU;simp only[g3,g5,g6,g9,g12,g14,g18,g21,g26,g28,g31,g33,if_true,if_false,Bool.false_eq_true]];refine dB ?_;refine nH ?_;refine sG ?_;refine dL ?_;refine cw (cG r p q m lv s) Tryz.call189 (iG hN0 s m.tb.has) rfl aB bL ?_;rintro _ σ' rfl h122;refine mY ?_;refine cw (cG r p q m lv (dX s m.tb.has)) Tryz.call188 (lV hN0 _ h1 1) rfl aB bL ?_;rintro _ σ' ⟨rfl,rfl⟩ h124;refine nA ?_;refine jX ?_;refine dL ?_;refine cw (cG r p q m lv (cF (dX s m.tb.has) 1).2) Tryz.call74 (oS hN0 _ x.a) rfl aB bL ?_;rintro _ σ' ⟨rfl,rfl⟩ h129;refine lK ?_;refine NY ?_;refine cw (cG r p q m lv (cF (dX s m.tb.has) 1).2) Tryz.call195 (ME hN0 _ h2 _ hts _) rfl aB bL ?_;rintro _ σ' ⟨e,hL,rfl⟩ h132;unfold cG kD;(try dsimp only);obtain⟨e1,e2,e3⟩:=id hL;refine sQ ?_;refine bV ?_;exact aE aF ⟨_,_,hL,by rfl,rfl⟩ aA
 rw[show bU m s x=(false,s) by unfold bU;simp only[g3,g5,g6,g9,g12,g14,g18,g21,g26,g28,g31,g33,if_true,if_false,Bool.false_eq_true]];have hL:=hN0;refine bV ?_;exact aE aF ⟨_,_,hL,by rfl,rfl⟩ aA
end
theorem aGn{op:Int}(h:(kN op).2.2=false):kN op=([],0,false):=by
 revert h;unfold kN;refine cO (p:=fun r:List Int×Int×Bool=>r.2.2=false→r=([],0,false)) (fun _ h=>by cases h) (fun _=> ?_);refine cO (p:=fun r:List Int×Int×Bool=>r.2.2=false→r=([],0,false)) (fun _ h=>by cases h) (fun _=> ?_);refine cO (p:=fun r:List Int×Int×Bool=>r.2.2=false→r=([],0,false)) (fun _ _=>rfl) (fun _=> ?_);refine cO (p:=fun r:List Int×Int×Bool=>r.2.2=false→r=([],0,false)) (fun _ h=>by cases h) (fun _=> ?_);refine cO (p:=fun r:List Int×Int×Bool=>r.2.2=false→r=([],0,false)) (fun _ h=>by cases h) (fun _=> ?_);exact cO (p:=fun r:List Int×Int×Bool=>r.2.2=false→r=([],0,false)) (fun _ h=>by cases h) (fun _ h=>by cases h)
theorem aEe(op:Int):(kN op).1.length≤2:=by
 unfold kN;refine cO (p:=fun r:List Int×Int×Bool=>r.1.length≤2) (fun _=>by simp) (fun _=> ?_);refine cO (p:=fun r:List Int×Int×Bool=>r.1.length≤2) (fun _=>by simp) (fun _=> ?_);refine cO (p:=fun r:List Int×Int×Bool=>r.1.length≤2) (fun _=>by simp) (fun _=> ?_);refine cO (p:=fun r:List Int×Int×Bool=>r.1.length≤2) (fun _=>by simp) (fun _=> ?_);refine cO (p:=fun r:List Int×Int×Bool=>r.1.length≤2) (fun _=>by simp) (fun _=> ?_);exact cO (p:=fun r:List Int×Int×Bool=>r.1.length≤2) (fun _=>by simp) (fun _=>by simp)
theorem TM{op:Int}(h:(kN op).2.2=true):SCall Tryz.prog 200 [.int .i64 op] [] (fun y σ=>∃q,y=.tup [.own q 0 (kN op).1.length,.int .i64 (kN op).2.1,.bool true]∧σ=[(q,.arr 3 1 ((kN op).1.map aL))]):=
 (tG op).mono fun x σ hk=>by unfold rF at hk;rw[if_pos h]at hk;exact hk
theorem XZ{op:Int}(h:(kN op).2.2=false):SCall Tryz.prog 200 [.int .i64 op] [] (fun y σ=>y=.tup [.ro 0 [] .nil,.int .i64 0,.bool false]∧σ=[]):=
 (tG op).mono fun x σ hk=>by unfold rF at hk;rw[if_neg (by simp[h])]at hk;exact hk
theorem PS.Gd.loc {s:PS}(h:s.Gd)(ls:List Int)(n:Int):(dI ls s n).2.Gd:=by
 unfold dI;exact cO (p:=fun r:Int×PS=>r.2.Gd) (fun _=>⟨⟨⟨h.le,h.up⟩,h.ne⟩,h.bv,h.bc⟩) (fun _=>h)
theorem PS.Gd.glob {s:PS}(h:s.Gd)(m:Md)(n:Int):(eG m s n).2.Gd:=by
 unfold eG;exact cO (p:=fun r:Gl×PS=>r.2.Gd) (fun _=>⟨⟨⟨h.le,h.up⟩,h.ne⟩,h.bv,h.bc⟩) (fun _=>h)
section
variable {r p q : Nat} {m : Md} {ls : List Int}
theorem YA(hN:Nm r p q)(s:PS)(h:s.Gd)(x:Ins)(hx:x.Ck):SCall Tryz.prog 78 [.ptr r 0,.agg (iv .any x)] (cG r p q m (.ro 1 (ls.map aL) .any) s) (fun _ σ=>∃e,Nm r e q∧σ=cG r e q m (.ro 1 (ls.map aL) .any) (cP m ls s x)):=by
 have hN0:=hN;obtain⟨n1,n2,n3⟩:=hN;unfold iv;refine bO 167 [0,1,3,4,5,6,7,8,9,13,31,35,46,55,63,78,89,104,111,118,126,132,138,144,150,157,162] Tryz.func78 ?_;unfold cG kD
 (try dsimp only);refine cV ?_;refine gM fun r3 h3=> ?_;intros
 refine iI ?_;refine cV ?_;refine eP fun r10 h10=> ?_;intros
 refine eP fun r11 h11=> ?_;intros
 refine gX (j:=10) rfl bD (aK bF (by simp)) ?_;refine gX (j:=11) rfl bD (aK bF (by simp)) ?_;refine rZ ?_;refine nL ?_;refine iI ?_;refine dH ?_;refine aC rfl (fun g7=> ?_) (fun g7=> ?_)
 ·rw[show cP m ls s x=(cF s 0).2 by unfold cP;simp only[g7,if_true,if_false,Bool.false_eq_true]];have hL:=hN0;refine bH ?_;refine cw (cG r p q m (.ro 1 (ls.map aL) .any) s) Tryz.call188 (lV hN0 s h 0) rfl aB bL ?_;rintro _ σ' ⟨rfl,rfl⟩ h34;refine nA ?_;refine cK ?_;exact aE aF ⟨_,hL,rfl⟩ aA
 refine dH ?_;refine aC rfl (fun g9=> ?_) (fun g9=> ?_)
 ·have h1:=h.pop 1;have h2:=h1.pop 0;have h3:=h2.pop (cF (cF s 1).2 0).1;rw[show cP m ls s x=gH (cF (cF (cF s 1).2 0).2 (cF (cF s 1).2 0).1).2 [(cF (cF (cF s 1).2 0).2 (cF (cF s 1).2 0).1).1] by unfold cP;simp only[g7,g9,if_true,if_false,Bool.false_eq_true]];refine bH ?_;refine cw (cG r p q m (.ro 1 (ls.map aL) .any) s) Tryz.call188 (lV hN0 s h 1) rfl aB bL ?_;rintro _ σ' ⟨rfl,rfl⟩ h38;refine nA ?_;refine DP ?_;refine cw (cG r p q m (.ro 1 (ls.map aL) .any) (cF s 1).2) Tryz.call188 (lV hN0 _ h1 0) rfl aB bL ?_;rintro _ σ' ⟨rfl,rfl⟩ h42;refine lK ?_;refine cw (cG r p q m (.ro 1 (ls.map aL) .any) (cF (cF s 1).2 0).2) Tryz.call188 (lV hN0 _ h2 _) rfl aB bL ?_;rintro _ σ' ⟨rfl,rfl⟩ h43;refine lK ?_;refine eP fun r44 h44=> ?_;intros
  refine gX (j:=44) rfl bD (aK bF (by simp)) ?_;refine cw (cG r p q m (.ro 1 (ls.map aL) .any) (cF (cF (cF s 1).2 0).2 (cF (cF s 1).2 0).1).2) Tryz.call190 (jL hN0 _ h3.bv [(cF (cF (cF s 1).2 0).2 (cF (cF s 1).2 0).1).1] (by simp)) rfl aB bL ?_;rintro _ σ' ⟨e,hL,rfl⟩ h45;unfold cG kD;(try dsimp only);obtain⟨e1,e2,e3⟩:=id hL;refine iB ?_;refine cK ?_;exact aE aF ⟨_,hL,rfl⟩ aA
 refine dH ?_;refine aC rfl (fun g12=> ?_) (fun g12=> ?_)
 ·have ha:=hx.nn (.inr (.inr (.inr (.inr (.inl (by simpa using g12))))));have h1:=h.loc ls x.a;rw[show cP m ls s x=gH (dI ls s x.a).2 [(dI ls s x.a).1] by unfold cP;simp only[g7,g9,g12,if_true,if_false,Bool.false_eq_true]];refine dB ?_;refine dL ?_;refine cw (cG r p q m (.ro 1 (ls.map aL) .any) s) Tryz.call197 (vB hN0 s x.a ha) rfl aB bL ?_;rintro _ σ' ⟨rfl,rfl⟩ h52;refine lK ?_;refine eP fun r53 h53=> ?_;intros
  refine gX (j:=53) rfl bD (aK bF (by simp)) ?_;refine cw (cG r p q m (.ro 1 (ls.map aL) .any) (dI ls s x.a).2) Tryz.call190 (jL hN0 _ h1.bv [(dI ls s x.a).1] (by simp)) rfl aB bL ?_;rintro _ σ' ⟨e,hL,rfl⟩ h54;unfold cG kD;(try dsimp only);obtain⟨e1,e2,e3⟩:=id hL;refine iB ?_;refine cK ?_;exact aE aF ⟨_,hL,rfl⟩ aA
 refine dH ?_;refine aC rfl (fun g14=> ?_) (fun g14=> ?_)
 ·have ha:=hx.nn (.inr (.inr (.inr (.inr (.inr (.inl (by simpa using g14)))))));have h1:=h.loc ls x.a;have hL:=hN0;rw[show cP m ls s x=(cF (dI ls s x.a).2 (dI ls s x.a).1).2 by unfold cP;simp only[g7,g9,g12,g14,if_true,if_false,Bool.false_eq_true]];refine dB ?_;refine dL ?_;refine cw (cG r p q m (.ro 1 (ls.map aL) .any) s) Tryz.call197 (vB hN0 s x.a ha) rfl aB bL ?_;rintro _ σ' ⟨rfl,rfl⟩ h61;refine lK ?_;refine cw (cG r p q m (.ro 1 (ls.map aL) .any) (dI ls s x.a).2) Tryz.call188 (lV hN0 _ h1 _) rfl aB bL ?_;rintro _ σ' ⟨rfl,rfl⟩ h62;refine nA ?_;refine cK ?_;exact aE aF ⟨_,hL,rfl⟩ aA
 refine dH ?_;refine aC rfl (fun g16=> ?_) (fun g16=> ?_)
 ·have ha:=hx.nn (.inr (.inr (.inr (.inr (.inr (.inr (.inl (by simpa using g16))))))));have h1:=h.loc ls x.a;have h2:=h1.pop (dI ls s x.a).1;have h3:=h2.loc ls x.a;rw[show cP m ls s x=gH (dI ls (cF (dI ls s x.a).2 (dI ls s x.a).1).2 x.a).2 [(dI ls (cF (dI ls s x.a).2 (dI ls s x.a).1).2 x.a).1] by unfold cP;simp only[g7,g9,g12,g14,g16,if_true,if_false,Bool.false_eq_true]];refine dB ?_;refine dL ?_;refine cw (cG r p q m (.ro 1 (ls.map aL) .any) s) Tryz.call197 (vB hN0 s x.a ha) rfl aB bL ?_;rintro _ σ' ⟨rfl,rfl⟩ h69;refine lK ?_;refine cw (cG r p q m (.ro 1 (ls.map aL) .any) (dI ls s x.a).2) Tryz.call188 (lV hN0 _ h1 _) rfl aB bL ?_;rintro _ σ' ⟨rfl,rfl⟩ h70;refine nA ?_;refine jX ?_;refine dL ?_;refine cw (cG r p q m (.ro 1 (ls.map aL) .any) (cF (dI ls s x.a).2 (dI ls s x.a).1).2) Tryz.call197 (vB hN0 _ x.a ha) rfl aB bL ?_;rintro _ σ' ⟨rfl,rfl⟩ h75;refine lK ?_;refine eP fun r76 h76=> ?_;intros
  refine gX (j:=76) rfl bD (aK bF (by simp)) ?_;refine cw (cG r p q m (.ro 1 (ls.map aL) .any) (dI ls (cF (dI ls s x.a).2 (dI ls s x.a).1).2 x.a).2) Tryz.call190 (jL hN0 _ h3.bv [(dI ls (cF (dI ls s x.a).2 (dI ls s x.a).1).2 x.a).1] (by simp)) rfl aB bL ?_;rintro _ σ' ⟨e,hL,rfl⟩ h77;unfold cG kD;(try dsimp only);obtain⟨e1,e2,e3⟩:=id hL;refine iB ?_;refine cK ?_;exact aE aF ⟨_,hL,rfl⟩ aA
 refine dH ?_;refine aC rfl (fun g19=> ?_) (fun g19=> ?_)
 ·have ha:=hx.nn (.inr (.inr (.inr (.inr (.inr (.inr (.inr (.inl (by simpa using g19)))))))));have h1:=h.glob m x.a;rw[show cP m ls s x=gH (eG m s x.a).2 [(eG m s x.a).1.kd] by unfold cP;simp only[g7,g9,g12,g14,g16,g19,if_true,if_false,Bool.false_eq_true]];refine dB ?_;refine dL ?_;refine cw (cG r p q m (.ro 1 (ls.map aL) .any) s) Tryz.call198 (EK hN0 s x.a ha) rfl aB bL ?_;rintro _ σ' ⟨rfl,rfl⟩ h84;refine lK ?_;refine lo (JX (E rfl) rfl rfl (fun _=>Nat.le_of_ble_eq_true rfl)) rfl ?_;refine aC3 ?_;refine eP fun r87 h87=> ?_;intros
  refine gX (j:=87) rfl bD (aK bF (by simp)) ?_;refine cw (cG r p q m (.ro 1 (ls.map aL) .any) (eG m s x.a).2) Tryz.call190 (jL hN0 _ h1.bv [(eG m s x.a).1.kd] (by simp)) rfl aB bL ?_;rintro _ σ' ⟨e,hL,rfl⟩ h88;unfold cG kD;(try dsimp only);obtain⟨e1,e2,e3⟩:=id hL;refine iB ?_;refine cK ?_;exact aE aF ⟨_,hL,rfl⟩ aA
 refine dH ?_;refine aC rfl (fun g21=> ?_) (fun g21=> ?_)
 ·have ha:=hx.nn (.inr (.inr (.inr (.inr (.inr (.inr (.inr (.inr (by simpa using g21)))))))));have h1:=h.glob m x.a;have h2:=h1.need (eG m s x.a).1.mu;have hL:=hN0;rw[show cP m ls s x=(cF (dX (eG m s x.a).2 (eG m s x.a).1.mu) (eG m s x.a).1.kd).2 by unfold cP;simp only[g7,g9,g12,g14,g16,g19,g21,if_true,if_false,Bool.false_eq_true]];refine bH ?_;refine dL ?_;refine cw (cG r p q m (.ro 1 (ls.map aL) .any) s) Tryz.call198 (EK hN0 s x.a ha) rfl aB bL ?_;rintro _ σ' ⟨rfl,rfl⟩ h94;refine lK ?_;refine gF fun r6 h6=> ?_;intros
  refine lM ?_;refine dL ?_;refine cw (cG r p q m (.ro 1 (ls.map aL) .any) (eG m s x.a).2) Tryz.call189 (iG hN0 _ (eG m s x.a).1.mu) rfl aB bL ?_;rintro _ σ' rfl h98;refine mY ?_;refine sG ?_;refine dL ?_;refine cw (cG r p q m (.ro 1 (ls.map aL) .any) (dX (eG m s x.a).2 (eG m s x.a).1.mu)) Tryz.call188 (lV hN0 _ h2 _) rfl aB bL ?_;rintro _ σ' ⟨rfl,rfl⟩ h103;refine nA ?_;refine cK ?_;exact aE aF ⟨_,hL,rfl⟩ aA
 refine dH ?_;refine aC rfl (fun g25=> ?_) (fun g25=> ?_)
 ·rw[show cP m ls s x=fK m s x 2 [1] [1] by unfold cP;simp only[g7,g9,g12,g14,g16,g19,g21,g25,if_true,if_false,Bool.false_eq_true]];refine bH ?_;refine jN ?_;refine FM ?_;refine cw (cG r p q m (.ro 1 (ls.map aL) .any) s) Tryz.call199 (jZ hN0 s h x 2 [1] [1] (by simp) (by simp)) rfl aB bL ?_;rintro _ σ' ⟨e,hL,rfl⟩ h110;unfold cG kD;(try dsimp only);obtain⟨e1,e2,e3⟩:=id hL;refine iB ?_;refine cK ?_;exact aE aF ⟨_,hL,rfl⟩ aA
 refine dH ?_;refine aC rfl (fun g27=> ?_) (fun g27=> ?_)
 ·rw[show cP m ls s x=fK m s x 3 [1] [2] by unfold cP;simp only[g7,g9,g12,g14,g16,g19,g21,g25,g27,if_true,if_false,Bool.false_eq_true]];refine bH ?_;refine jN ?_;refine FM ?_;refine cw (cG r p q m (.ro 1 (ls.map aL) .any) s) Tryz.call199 (jZ hN0 s h x 3 [1] [2] (by simp) (by simp)) rfl aB bL ?_;rintro _ σ' ⟨e,hL,rfl⟩ h117;unfold cG kD;(try dsimp only);obtain⟨e1,e2,e3⟩:=id hL;refine iB ?_;refine cK ?_;exact aE aF ⟨_,hL,rfl⟩ aA
 refine dH ?_;apply kW rfl;exact fL
 ·intro _;(refine aJ ?_);refine kL ?_;exact aN
 refine aJ ?_;refine aC rfl (fun g29=> ?_) (fun g29=> ?_)
 ·refine aJ ?_;rw[show cP m ls s x=fK m s x 0 [1] [1] by unfold cP;simp only[g7,g9,g12,g14,g16,g19,g21,g25,g27,g29,if_true,if_false,Bool.false_eq_true]];refine hX ?_;refine jN ?_;refine FM ?_;refine cw (cG r p q m (.ro 1 (ls.map aL) .any) s) Tryz.call199 (jZ hN0 s h x 0 [1] [1] (by simp) (by simp)) rfl aB bL ?_;rintro _ σ' ⟨e,hL,rfl⟩ h125;unfold cG kD;(try dsimp only);obtain⟨e1,e2,e3⟩:=id hL;refine iB ?_;refine cK ?_;exact aE aF ⟨_,hL,rfl⟩ aA
 refine dH ?_;refine aC rfl (fun g32=> ?_) (fun g32=> ?_)
 ·rw[show cP m ls s x=fK m s x 2 [1,1] [] by unfold cP;simp only[g7,g9,g12,g14,g16,g19,g21,g25,g27,g29,g32,if_true,if_false,Bool.false_eq_true]];refine bH ?_;refine jN ?_;refine eP fun r130 h130=> ?_;intros
  refine gX (j:=130) rfl bD (aK bF (by simp)) ?_;refine cw (cG r p q m (.ro 1 (ls.map aL) .any) s) Tryz.call199 (jZ hN0 s h x 2 [1,1] [] (by simp) (by simp)) rfl aB bL ?_;rintro _ σ' ⟨e,hL,rfl⟩ h131;unfold cG kD;(try dsimp only);obtain⟨e1,e2,e3⟩:=id hL;refine iB ?_;refine cK ?_;exact aE aF ⟨_,hL,rfl⟩ aA
 refine dH ?_;refine aC rfl (fun g34=> ?_) (fun g34=> ?_)
 ·rw[show cP m ls s x=fK m s x 3 [1,2] [] by unfold cP;simp only[g7,g9,g12,g14,g16,g19,g21,g25,g27,g29,g32,g34,if_true,if_false,Bool.false_eq_true]];refine bH ?_;refine jN ?_;refine eP fun r136 h136=> ?_;intros
  refine gX (j:=136) rfl bD (aK bF (by simp)) ?_;refine cw (cG r p q m (.ro 1 (ls.map aL) .any) s) Tryz.call199 (jZ hN0 s h x 3 [1,2] [] (by simp) (by simp)) rfl aB bL ?_;rintro _ σ' ⟨e,hL,rfl⟩ h137;unfold cG kD;(try dsimp only);obtain⟨e1,e2,e3⟩:=id hL;refine iB ?_;refine cK ?_;exact aE aF ⟨_,hL,rfl⟩ aA
 refine dH ?_;refine aC rfl (fun g36=> ?_) (fun g36=> ?_)
 ·rw[show cP m ls s x=fK m s x 0 [1,1] [] by unfold cP;simp only[g7,g9,g12,g14,g16,g19,g21,g25,g27,g29,g32,g34,g36,if_true,if_false,Bool.false_eq_true]];refine bH ?_;refine jN ?_;refine eP fun r142 h142=> ?_;intros
  refine gX (j:=142) rfl bD (aK bF (by simp)) ?_;refine cw (cG r p q m (.ro 1 (ls.map aL) .any) s) Tryz.call199 (jZ hN0 s h x 0 [1,1] [] (by simp) (by simp)) rfl aB bL ?_;rintro _ σ' ⟨e,hL,rfl⟩ h143;unfold cG kD;(try dsimp only);obtain⟨e1,e2,e3⟩:=id hL;refine iB ?_;refine cK ?_;exact aE aF ⟨_,hL,rfl⟩ aA
 refine dH ?_;refine aC rfl (fun g38=> ?_) (fun g38=> ?_)
 ·rw[show cP m ls s x=fK m s x 0 [] [1] by unfold cP;simp only[g7,g9,g12,g14,g16,g19,g21,g25,g27,g29,g32,g34,g36,g38,if_true,if_false,Bool.false_eq_true]];refine bH ?_;refine jN ?_;refine lo (aD (E rfl)) rfl ?_;refine cw (cG r p q m (.ro 1 (ls.map aL) .any) s) Tryz.call199 (jZ hN0 s h x 0 [] [1] (by simp) (by simp)) rfl aB bL ?_;rintro _ σ' ⟨e,hL,rfl⟩ h149;unfold cG kD;(try dsimp only);obtain⟨e1,e2,e3⟩:=id hL;refine iB ?_;refine cK ?_;exact aE aF ⟨_,hL,rfl⟩ aA
 refine dH ?_;refine aC rfl (fun g40=> ?_) (fun g40=> ?_)
 ·rw[show cP m ls s x=fK m s x 0 [1] [1] by unfold cP;simp only[g7,g9,g12,g14,g16,g19,g21,g25,g27,g29,g32,g34,g36,g38,g40,if_true,if_false,Bool.false_eq_true]];refine bH ?_;refine jN ?_;refine FM ?_;refine cw (cG r p q m (.ro 1 (ls.map aL) .any) s) Tryz.call199 (jZ hN0 s h x 0 [1] [1] (by simp) (by simp)) rfl aB bL ?_;rintro _ σ' ⟨e,hL,rfl⟩ h156;unfold cG kD;(try dsimp only);obtain⟨e1,e2,e3⟩:=id hL;refine iB ?_;refine cK ?_;exact aE aF ⟨_,hL,rfl⟩ aA
 refine dH ?_;refine aC rfl (fun g42=> ?_) (fun g42=> ?_)
 ·rw[show cP m ls s x=gH s [1] by unfold cP;simp only[g7,g9,g12,g14,g16,g19,g21,g25,g27,g29,g32,g34,g36,g38,g40,g42,if_true,if_false,Bool.false_eq_true]];refine bH ?_;refine eP fun r160 h160=> ?_;intros
  refine gX (j:=160) rfl bD (aK bF (by simp)) ?_;refine cw (cG r p q m (.ro 1 (ls.map aL) .any) s) Tryz.call190 (jL hN0 s h.bv [1] (by simp)) rfl aB bL ?_;rintro _ σ' ⟨e,hL,rfl⟩ h161;unfold cG kD;(try dsimp only);obtain⟨e1,e2,e3⟩:=id hL;refine iB ?_;refine cK ?_;exact aE aF ⟨_,hL,rfl⟩ aA
 refine dH ?_;refine aC rfl (fun g44=> ?_) (fun g44=> ?_)
 ·rw[show cP m ls s x=gH s [2] by unfold cP;simp only[g7,g9,g12,g14,g16,g19,g21,g25,g27,g29,g32,g34,g36,g38,g40,g42,g44,if_true,if_false,Bool.false_eq_true]];refine bH ?_;refine eP fun r165 h165=> ?_;intros
  refine gX (j:=165) rfl bD (aK bF (by simp)) ?_;refine cw (cG r p q m (.ro 1 (ls.map aL) .any) s) Tryz.call190 (jL hN0 s h.bv [2] (by simp)) rfl aB bL ?_;rintro _ σ' ⟨e,hL,rfl⟩ h166;unfold cG kD;(try dsimp only);obtain⟨e1,e2,e3⟩:=id hL;refine iB ?_;refine cK ?_;exact aE aF ⟨_,hL,rfl⟩ aA
 have hkl:=aEe x.op;have h1:=h.need (kN x.op).2.2;have h2:=h1.pops (kN x.op).1;rw[show cP m ls s x=gH (dZ (dX s (kN x.op).2.2) (kN x.op).1) [(kN x.op).2.1] by unfold cP;simp only[g7,g9,g12,g14,g16,g19,g21,g25,g27,g29,g32,g34,g36,g38,g40,g42,g44,if_true,if_false,Bool.false_eq_true]];refine aJ ?_;cases hk:(kN x.op).2.2
 ·rw[aGn hk]at h1 h2⊢;refine nL ?_;refine cw [] Tryz.call200 (XZ hk) rfl aB aA ?_;rintro _ σ' ⟨rfl,rfl⟩ h17;refine KM ?_;refine lS ?_;refine dM (eS (j:=7) (y:=.ro 1 (([]:List Int).map aL) .any) rfl VLe.empty) ?_;refine jX ?_;refine cw (cG r p q m (.ro 1 (ls.map aL) .any) s) Tryz.call189 (iG hN0 s false) rfl aB bL ?_;rintro _ σ' rfl h23;refine nA ?_;refine jX ?_;refine cw (cG r p q m (.ro 1 (ls.map aL) .any) (dX s false)) Tryz.call192 (iW hN0 _ h1 [] (by simp)) rfl aB bL ?_;rintro _ σ' rfl h26;refine nA ?_;refine jX ?_;refine eP fun r29 h29=> ?_;intros
  refine gX (j:=29) rfl bD (aK bF (by simp)) ?_;refine cw (cG r p q m (.ro 1 (ls.map aL) .any) (dZ (dX s false) [])) Tryz.call190 (jL hN0 _ h2.bv [0] (by simp)) rfl aB bL ?_;rintro _ σ' ⟨e,hL,rfl⟩ h30;unfold cG kD;(try dsimp only);obtain⟨e1,e2,e3⟩:=id hL;refine iB ?_;refine cK ?_;exact aE aF ⟨_,hL,rfl⟩ aA
 ·rw[hk]at h1 h2;refine nL ?_;refine cw [] Tryz.call200 (TM hk) rfl aB aA ?_;rintro _ σ' ⟨q1,rfl,rfl⟩ h17
  replace h17:=fU h17;repeat rcases h17 with⟨_,h17⟩
  refine KM ?_;refine lS ?_;refine aAB (j:=7) rfl bD (aK bF (by simp)) ?_;refine jX ?_;refine cw (cG r p q m (.ro 1 (ls.map aL) .any) s) Tryz.call189 (iG hN0 s true) rfl aB bL ?_;rintro _ σ' rfl h23;refine nA ?_;refine jX ?_;refine cw (cG r p q m (.ro 1 (ls.map aL) .any) (dX s true)) Tryz.call192 (iW hN0 _ h1 (kN x.op).1 (by omega)) rfl aB bL ?_;rintro _ σ' rfl h26;refine nA ?_;refine jX ?_;refine z1 ?_;refine cT fun r29 h29=> ?_;repeat rcases h29 with⟨_,h29⟩
  refine gX (j:=29) rfl bD (aK bF (by simp)) ?_;refine cw (cG r p q m (.ro 1 (ls.map aL) .any) (dZ (dX s true) (kN x.op).1)) Tryz.call190 (jL hN0 _ h2.bv [(kN x.op).2.1] (by simp)) rfl aB bL ?_;rintro _ σ' ⟨e,hL,rfl⟩ h30;unfold cG kD;(try dsimp only);obtain⟨e1,e2,e3⟩:=id hL;refine iB ?_;refine cK ?_;exact aE aF ⟨_,hL,rfl⟩ aA
end
end Go.Proofs.YtjpdadobblffmaaGreat
namespace Go.Proofs.YtjpdadobblffmaaGreat
open Go.RowKit Go.ChangeShapes Go.WideShapes Go.ChangeAt Go.Deep
def oT (L:Nat) (S:List Bool) (op:Int):Option (List Bool):=
 if tK op=true then(if L≤S.length then none else some (S++ [op==4]))
 else if op≠5∧op≠11 then some S
 else match S.getLast? with
  |none=>none
  |some c=>if op=11 then some S.dropLast else if c=true then some (S.dropLast++ [false])else none
def qJ (L:Nat):List Int→List Bool→Option (List Bool)
 |[],S=>some S
 |op::w,S=>match oT L S op with
  |none=>none
  |some S'=>qJ L w S'
theorem MF{L:Nat}:∀ {u v:List Int} {S T:List Bool},qJ L u S=some T→qJ L (u++v) S=qJ L v T
 |[],_,_,_,h=>by cases h;rfl
 |op::u,v,S,T,h=>by
  rw[List.cons_append,qJ];rw[qJ]at h;cases hs:oT L S op with
  |none=>rw[hs]at h;cases h
  |some S'=>rw[hs]at h;exact MF h
theorem EL{L:Nat}:∀ {u v:List Int} {S:List Bool},qJ L u S=none→qJ L (u++v) S=none
 |[],_,_,h=>by cases h
 |op::u,v,S,h=>by
  rw[List.cons_append,qJ];rw[qJ]at h;cases hs:oT L S op with
  |none=>rfl
  |some S'=>rw[hs]at h;exact EL h
theorem YB{L:Nat}{S:List Bool}{op:Int}:qJ L [op] S=oT L S op:=by
 rw[qJ];cases oT L S op<;>rfl
def TN (ops:List Int) (all:List Bk) (k:Nat):Bool:=
 match all[k]? with
 |some b=>(ops[b.at_]? ==some 4)&&decide (b.els<0)
 |none=>false
def xO (ops:List Int) (s:MS):List Bool:=s.opn.map (TN ops s.all)
theorem aBu{ops:List Int}{all:List Bk}{k:Nat}(h:k<all.length)(x:Bk):TN ops (all++ [x]) k=TN ops all k:=by
 unfold TN;rw[List.getElem?_append_left h]
theorem RG{ops:List Int}{all:List Bk}{k n:Nat}(h:k≠n)(x:Bk):TN ops (all.set n x) k=TN ops all k:=by
 unfold TN;rw[List.getElem?_set_ne (Ne.symm h)]
structure MOk2 (s:MS):Prop where
 inc:s.opn.Pairwise (· < ·)
theorem TO{ops:List Int}{j:Nat}{s s':MS}{op:Int}(h1:MOk j s)(h:MOk2 s)(hs:lN ops s j op=some s'):MOk2 s':=by
 unfold lN at hs;split at hs
 ·split at hs
  ·cases hs
  ·obtain rfl:=Option.some.inj hs;refine⟨List.pairwise_append.2 ⟨h.inc,by simp,fun a ha b hb=> ?_⟩⟩;rw[List.mem_singleton.1 hb];exact h1.opn a ha
 split at hs
 ·obtain rfl:=Option.some.inj hs;exact h
 unfold xM at hs;split at hs
 ·cases hs
 split at hs
 ·cases hs
 split at hs
 ·obtain rfl:=Option.some.inj hs;exact⟨h.inc.sublist (List.dropLast_sublist _)⟩
 split at hs
 ·cases hs
 ·obtain rfl:=Option.some.inj hs;exact⟨h.inc⟩
theorem MG{ops:List Int}:∀ {j:Nat} {s:MS},nD ops j=some s→MOk2 s
 |0,s,h=>by obtain rfl:=Option.some.inj h;exact⟨List.Pairwise.nil⟩
 |j+1,s,h=>by
  rw[nD]at h;split at h
  ·next s0 op h1 h2=>exact TO (yE h1) (MG h1) h
  ·cases h
theorem YC{ops:List Int}{j:Nat}{s:MS}{op:Int}(h1:MOk j s)(h2:MOk2 s)(ho:ops[j]? =some op):(lN ops s j op).map (xO ops)=oT 40 (xO ops s) op:=by
 obtain⟨all,opn⟩:=s;have hk:=h1.opn;have hlen:=h1.len;have hinc:=h2.inc;dsimp only at hk hlen hinc;by_cases hO:tK op=true
 ·by_cases h40:opn.length=40
  ·rw[DZ hO h40];unfold oT xO;rw[if_pos hO,if_pos (by simp;omega)];rfl
  ·rw[DY hO h40];unfold oT xO;rw[if_pos hO,if_neg (by simp;omega)];dsimp only[Option.map];rw[List.map_append,List.map_congr_left fun k hkk=>aBu (hk k hkk) _];simp[TN,ho]
 have hO:tK op=false:=by simpa using hO
 by_cases h5:op≠5∧op≠11
 ·rw[EA hO h5.1 h5.2];unfold oT;rw[if_neg (by simp[hO]),if_pos h5];rfl
 rw[KZ hO (by omega)];unfold oT;rw[if_neg (by simp[hO]),if_neg h5];rcases List.eq_nil_or_concat opn with rfl|⟨pre,k,rfl⟩
 ·rfl
 have hkl:=hk k (by simp);obtain⟨b,hb⟩:∃b,all[k]? =some b:=⟨_,List.getElem?_eq_getElem hkl⟩
 have hpre:∀x∈pre,x≠k:=fun x hx=>by
  have:=(List.pairwise_append.1 (by simpa using hinc)).2.2 x hx k (by simp);omega
 have hab:xO ops ⟨all,pre.concat k⟩=pre.map (TN ops all)++ [TN ops all k]:=by unfold xO;simp
 have hfk:TN ops all k=((ops[b.at_]? ==some 4)&&decide (b.els<0)):=by unfold TN;rw[hb]
 rw[hab,List.getLast?_append];dsimp only[List.getLast?_singleton,Option.some_or];rw[List.concat_eq_append];rcases(show op=11∨op=5 by omega)with rfl|rfl
 ·rw[QH hb,if_pos rfl];unfold xO;dsimp only[Option.map];rw[List.map_congr_left fun x hx=>RG (hpre x hx) _];simp
 ·rw[if_neg (by decide),hfk];by_cases hc:ops[b.at_]? =some 4∧¬0≤b.els
  ·rw[LA hb hc.1 hc.2,if_pos (by simp[hc.1];omega)];unfold xO;dsimp only[Option.map];rw[List.map_append,List.map_congr_left fun x hx=>RG (hpre x hx) _];simp[TN,hkl]
  ·have hc':ops[b.at_]? ≠some 4∨0≤b.els:=by
    by_cases h4:ops[b.at_]? =some 4
    ·exact .inr (by by_cases h0:0≤b.els;exact h0;exact absurd ⟨h4,h0⟩ hc)
    ·exact .inl h4
   rw[QI hb hc',if_neg (by rcases hc' with h|h;simp[h];simp;intro _;exact h)];rfl
theorem RH{ops:List Int}:∀ {j:Nat},j≤ops.length→qJ 40 (ops.take j) []=(nD ops j).map (xO ops)
 |0,_=>by simp[qJ,nD,xO]
 |j+1,hj=>by
  have ih:=RH (ops:=ops) (j:=j) (by omega);obtain⟨op,ho⟩:∃op,ops[j]? =some op:=⟨_,List.getElem?_eq_getElem hj⟩
  rw[List.take_add_one,ho];dsimp only[Option.toList];cases hm:nD ops j with
  |none=>
   rw[hm]at ih;rw[EL ih,nD,hm];rfl
  |some s=>
   rw[hm]at ih;rw[MF ih,YB,vT hm ho];exact(YC (yE hm) (MG hm) ho).symm
theorem RI{ops:List Int}:wT ops=true↔ops.length≤300∧qJ 40 ops []=some []:=by
 have h:=RH (ops:=ops) (Nat.le_refl _);rw[List.take_length]at h;rw[h];unfold wT iP;by_cases hl:300<ops.length
 ·rw[if_pos hl];simp;omega
 rw[if_neg hl];cases hm:nD ops ops.length with
 |none=>simp
 |some s=>
  obtain⟨all,opn⟩:=s;cases opn with
  |nil=>simp[xO];omega
  |cons k r=>simp[xO]
structure Md.Fn (m:Md):Prop extends m.Ck where
 bd:∀c∈m.co,c.bd.length≤100000∧∀x∈c.bd,x.Ck
 lc:∀c∈m.co,c.ls.length≤1000
theorem tU{m:Md}{s:PS}{x:Ins}(h:(bU m s x).1=false):(bU m s x).2=s∧tK x.op=false∧x.op≠5∧x.op≠11:=by
 have key:∀r:Bool×PS,r.1=true→r.1=false→r.2=s∧tK x.op=false∧x.op≠5∧x.op≠11:=fun r h1 h2=>by rw[h1]at h2;cases h2
 revert h;unfold bU;refine cO (p:=fun r:Bool×PS=>r.1=false→r.2=s∧tK x.op=false∧x.op≠5∧x.op≠11) (fun _=>key _ rfl) (fun _=> ?_);refine cO (p:=fun r:Bool×PS=>r.1=false→r.2=s∧tK x.op=false∧x.op≠5∧x.op≠11) (fun _=>key _ rfl) (fun _=> ?_);refine cO (p:=fun r:Bool×PS=>r.1=false→r.2=s∧tK x.op=false∧x.op≠5∧x.op≠11) (fun _=>key _ rfl) (fun a1=> ?_);refine cO (p:=fun r:Bool×PS=>r.1=false→r.2=s∧tK x.op=false∧x.op≠5∧x.op≠11) (fun _=>key _ rfl) (fun a2=> ?_);refine cO (p:=fun r:Bool×PS=>r.1=false→r.2=s∧tK x.op=false∧x.op≠5∧x.op≠11) (fun _=>key _ rfl) (fun a3=> ?_);refine cO (p:=fun r:Bool×PS=>r.1=false→r.2=s∧tK x.op=false∧x.op≠5∧x.op≠11) (fun _=>key _ rfl) (fun a4=> ?_);refine cO (p:=fun r:Bool×PS=>r.1=false→r.2=s∧tK x.op=false∧x.op≠5∧x.op≠11) (fun _=>key _ rfl) (fun _=> ?_);refine cO (p:=fun r:Bool×PS=>r.1=false→r.2=s∧tK x.op=false∧x.op≠5∧x.op≠11) (fun _=>key _ rfl) (fun _=> ?_);refine cO (p:=fun r:Bool×PS=>r.1=false→r.2=s∧tK x.op=false∧x.op≠5∧x.op≠11) (fun _=>key _ rfl) (fun _=> ?_);refine cO (p:=fun r:Bool×PS=>r.1=false→r.2=s∧tK x.op=false∧x.op≠5∧x.op≠11) (fun _=>key _ rfl) (fun _=> ?_)
 refine cO (p:=fun r:Bool×PS=>r.1=false→r.2=s∧tK x.op=false∧x.op≠5∧x.op≠11) (fun _=>key _ rfl) (fun _=> ?_);refine cO (p:=fun r:Bool×PS=>r.1=false→r.2=s∧tK x.op=false∧x.op≠5∧x.op≠11) (fun _=>key _ rfl) (fun _=> ?_);intro _;refine⟨rfl, ?_,by simpa using a3,by simpa using a4⟩;unfold tK;rw[Bool.not_eq_true]at a1 a2;rw[a1,a2];rfl
structure LOk (m:Md) (ls:List Int) (bd:List Ins) (s0:PS) (j:Nat) (s:PS) (F:List Bool):Prop where
 gd:s.Ok
 vl:s.vs.length≤101*j
 fl:F.length+1=s.cs.length
 f40:F.length≤40
 rn:qJ 40 ((dQ bd).drop j) F=some []
 go:goP m ls bd s0=goP m ls (bd.drop j) s
 nb:s.bad=false
theorem LOk.ge {m:Md}{ls:List Int}{bd:List Ins}{s0 s:PS}{j:Nat}{F:List Bool}(h:LOk m ls bd s0 j s F)(hj:j≤300):s.Gd:=⟨h.gd,by have:=h.vl;omega,by have:=h.fl;have:=h.f40;omega⟩
theorem MH{bd:List Ins}{a:Nat}{x:Ins}(h:bd[a]? =some x):(dQ bd).drop a=x.op::(dQ bd).drop (a+1)∧bd.drop a=x::bd.drop (a+1):=by
 obtain⟨h1,rfl⟩:=List.getElem?_eq_some_iff.1 h;refine⟨?_,List.drop_eq_getElem_cons h1⟩;unfold dQ;rw[←List.map_drop,List.drop_eq_getElem_cons h1,List.map_cons,List.map_drop]
theorem LOk.two {m:Md}{ls:List Int}{bd:List Ins}{s0 s:PS}{j:Nat}{F:List Bool}(h:LOk m ls bd s0 j s F){x:Ins}(hx:bd[j]? =some x)(h11:x.op=11):2≤s.cs.length:=by
 have hr:=h.rn;rw[(MH hx).1,h11,qJ]at hr;have:=h.fl;cases F with
 |nil=>unfold oT at hr;simp[tK]at hr
 |cons a F=>simp at this;omega
theorem LOk.step {m:Md}{ls:List Int}{bd:List Ins}{s0 s:PS}{j:Nat}{F:List Bool}(hT:m.TS)(h:LOk m ls bd s0 j s F){x:Ins}(hx:bd[j]? =some x):
  (nM m ls s x).Ok∧(nM m ls s x).vs.length≤101*(j+1)∧((nM m ls s x).bad=true→(goP m ls bd s0).bad=true)∧((nM m ls s x).bad=false→∃F',LOk m ls bd s0 (j+1) (nM m ls s x) F'):=by
 obtain⟨hc1,hc2,hc3⟩:=LI (m:=m) h.gd (fun e=>h.two hx e) hT;have hvl:=h.vl;have key:(nM m ls s x).Ok∧(nM m ls s x).vs.length≤101*(j+1)∧((nM m ls s x).cs.length:Int)=s.cs.length+dK x.op:=by
  unfold nM;dsimp only;cases hc:(bU m s x).1 with
  |true=>
   rw[if_pos rfl];rw[hc,if_pos rfl]at hc3;exact⟨hc1,by omega,hc3⟩
  |false=>
   obtain⟨e1,e2,e3,e4⟩:=tU hc;rw[if_neg (by simp),e1];obtain⟨p1,p2,p3⟩:=TC (m:=m) (ls:=ls) (x:=x) h.gd;refine⟨p1,by omega, ?_⟩;rw[p3];have:dK x.op=0:=by
    unfold dK;unfold tK at e2;rw[e2,if_neg (by simp),if_neg (by simpa using e4)]
   omega
 obtain⟨k1,k2,k3⟩:=key;obtain⟨o1,o2⟩:=MH hx;refine⟨k1,k2,fun hb=> ?_,fun hb=> ?_⟩
 ·rw[h.go,o2];show(if _ then _ else _:PS).bad=true;rw[if_pos hb];exact hb
 ·have hr:=h.rn;rw[o1,qJ]at hr;cases hs:oT 40 F x.op with
  |none=>rw[hs]at hr;cases hr
  |some F'=>
   rw[hs]at hr;have hF:(F'.length:Int)=F.length+dK x.op∧F'.length≤40:=by
    have h40:=h.f40;unfold oT at hs;split at hs
    ·next hO=>
     split at hs
     ·cases hs
     ·obtain rfl:=Option.some.inj hs;unfold tK at hO;unfold dK;rw[if_pos hO];simp;omega
    ·next hO=>
     have hd0:∀n:Int,(x.op==11)=false→dK x.op=0:=fun _ e=>by
      unfold dK;unfold tK at hO;rw[if_neg (by simpa using hO),if_neg (by simp[e])]
     split at hs
     ·next h2=>
      obtain rfl:=Option.some.inj hs;rw[hd0 0 (by simpa using h2.2)];omega
     ·split at hs
      ·cases hs
      ·next c hl=>
       have hp:0<F.length:=List.length_pos_iff.2 (by rintro rfl;cases hl);split at hs
       ·next h11=>
        obtain rfl:=Option.some.inj hs;rw[h11];simp[dK];omega
       ·next h11=>
        split at hs
        ·obtain rfl:=Option.some.inj hs;rw[hd0 0 (by simpa using h11)];simp;omega
        ·cases hs
   have hfl:=h.fl;refine⟨F',k1,k2,by omega,hF.2,hr, ?_,hb⟩;rw[h.go,o2];show(if _ then _ else _:PS)=_;rw[if_neg (by simp[hb])]
theorem LOk.init {m:Md}{ls:List Int}{bd:List Ins}{kd:Int}(h:wT (dQ bd)=true):LOk m ls bd (openP ⟨[],[],false⟩ 2 kd) 0 (openP ⟨[],[],false⟩ 2 kd) []:=
 ⟨PS.Ok0.openP ⟨by simp,by simp⟩ 2 kd,by simp[openP],by simp[openP],by simp,(RI.1 h).2,rfl,rfl⟩
end Go.Proofs.YtjpdadobblffmaaGreat
namespace Go.Proofs.YtjpdadobblffmaaGreat
open Go.RowKit Go.ChangeShapes Go.WideShapes Go.ChangeAt Go.Deep
attribute [local irreducible] SW RS RD eM dR
theorem aEf{a b c:Bool}(h:(if(if a=true then true else b)=true then true else c)=false):a=false∧b=false∧c=false:=by cases a<;>cases b<;>cases c<;>simp at h⊢
theorem aEg{a b:Bool}(h:(if(!a)=true then true else !b)=false):a=true∧b=true:=by cases a<;>cases b<;>simp at h⊢
theorem aEh{m:Md}{k:Int}{c:Co}{f:Int}(h:(if(if decide (k<0)=true then true else decide ((m.co.length:Int)≤k))=true then true else decide ((m.fn.length:Int)≤k))=false)(hc:m.co[k.toNat]? =some c)(hf:m.fn[k.toNat]? =some f):
  BW m k=if(if(!(dD m f).2)=true then true else !(wT (dQ c.bd)))=true then false
   else if(goP m ((dD m f).1.pr++c.ls) c.bd (openP ⟨[],[],false⟩ 2 (if decide ((0:Int)<(dD m f).1.rs.length)=true then(dD m f).1.rs.headD 0 else 0))).bad=true then false
   else if(!(kU (goP m ((dD m f).1.pr++c.ls) c.bd (openP ⟨[],[],false⟩ 2 (if decide ((0:Int)<(dD m f).1.rs.length)=true then(dD m f).1.rs.headD 0 else 0)))).bad)=true then decide ((((dD m f).1.pr++c.ls).length:Int)≤32)else false:=by
 unfold BW;rw[if_neg (fun e=>by rw[h]at e;cases e)];dsimp only;rw[List.getD_eq_getElem?_getD,List.getD_eq_getElem?_getD,hc,hf];rfl
theorem nG(m:Md)(hm:m.Fn)(k:Int):SCall Tryz.prog 23 [.agg (cQ m),.int .i64 k] [] (fun y σ=>y=.bool (BW m k)∧σ=[]):=by
 refine bO 124 [0,1,2,4,5,6,7,9,10,12,31,57,78,91,92,93,94,100,107] Tryz.func23 ?_;unfold cQ;refine cV ?_;refine gM fun r2 h2=> ?_;intros
 refine lL ?_;refine jN ?_;refine iA ?_;refine gM fun r15 h15=> ?_;intros
 refine cI ?_;refine cE (ks:=[0,1,2,4,5,6,7,9,10,12,31,57,78,91,92,93,94,100,107]) r15 15 3 1 (by decide) bF rfl (by decide) fun p hp=> ?_
 simp only[aM,aT,and_true]at hp;repeat rcases hp with⟨_,hp⟩
 apply Exists.intro;apply And.intro;exact bW;refine cE (ks:=[0,1,2,4,5,6,7,9,10,12,31,57,78,91,92,93,94,100,107]) r15 16 137 4 (by decide) bF rfl (by decide) fun q hq=> ?_
 simp only[aM,aT,and_true]at hq;repeat rcases hq with⟨_,hq⟩
 apply Exists.intro;apply And.intro;exact bW;refine dM (gI (r:=r15) (cs':=kD m (.ro 0 [] .nil) p q [] [] false) bW (.cons (.refl _) (.cons (.refl _) (.cons (.refl _) (.cons (.refl _) (.cons (.refl _) (.cons (.refl _) (.cons (.refl _) (.cons (.refl _) (.cons (.refl _) (.cons (.refl _) (.cons (.refl _) (.cons (.refl _) (.cons (.refl _) (.cons (.refl _) (.cons (.refl _) (.cons (.refl _) (.cons (.refl _) (.cons (.refl _) .nil))))))))))))))))))) ?_;have hN0:Nm r15 p q:=⟨by(exact dP),by(exact dP),by(exact dP)⟩
 unfold kD
 (try dsimp only);refine hX ?_;refine lo (fJ (E rfl) (E rfl)) rfl ?_;refine gA ?_;refine mZ ?_;refine aDb ?_;refine gK ?_;refine gA ?_;refine mZ ?_;refine aDb ?_;refine gK ?_;refine gQ ?_;refine aC rfl (fun g2=> ?_) (fun g2=> ?_)
 ·rw[show BW m k=false from if_pos g2];refine bV ?_;exact aE aF ⟨by rfl,rfl⟩ aA
 obtain⟨t1,t2,t3⟩:=aEf g2;simp only[decide_eq_false_iff_not]at t1 t2 t3;obtain⟨c,hc⟩:∃c,m.co[k.toNat]? =some c:=⟨_,List.getElem?_eq_getElem (by omega)⟩
 obtain⟨f,hf⟩:∃f,m.fn[k.toNat]? =some f:=⟨_,List.getElem?_eq_getElem (by omega)⟩
 rw[aEh g2 hc hf];have hcm:=List.mem_of_getElem? hc;obtain⟨hb1,hb2⟩:=hm.bd c hcm;have hlc:=hm.lc c hcm;refine bH ?_;refine dL ?_;refine tC ?_;refine KC ?_;refine cw (cG r15 p q m (.ro 0 [] .nil) ⟨[],[],false⟩) Tryz.call74 (oS hN0 ⟨[],[],false⟩ f) rfl aB bL ?_;rintro _ σ' ⟨rfl,rfl⟩ h39;refine lK ?_;refine qX ?_;refine gF fun r6 h6=> ?_;intros
 apply zB;rfl;rfl;rfl;rfl;exact iC;refine gT ?_;refine tC ?_;refine BL ?_;refine KC ?_;refine SV Tryz.call75 (jR c.bd hb1) rfl kJ SU ?_;rintro _ σ' ⟨q1,rfl,rfl⟩ h49
 replace h49:=jE h49;repeat rcases h49 with⟨_,h49⟩
 refine qY ?_;refine nI ?_;refine lo (fA (E rfl)) rfl ?_;refine gA ?_;refine uA ?_;refine gK ?_;refine gQ ?_;refine aC rfl (fun g6=> ?_) (fun g6=> ?_)
 ·rw[if_pos g6];refine bV ?_;exact aE aF ⟨by rfl,rfl⟩ aA
 obtain⟨hty,hok⟩:=aEg g6;rw[if_neg (c:=(if(!(dD m f).2)=true then true else !(wT (dQ c.bd)))=true) (fun e=>by rw[g6]at e;cases e)];have hts:=oP hm.ts f;generalize(dD m f).1=t at hts⊢;obtain⟨pr,rs⟩:=t;obtain⟨hp1,hp2⟩:=hts;unfold dF;dsimp only at hp1 hp2⊢;have h300:=(RI.1 hok).1;have h300:c.bd.length≤300:=by simpa[dQ]using h300
 refine aJ ?_;refine hU [(0,true),(1,true),(2,true),(3,true),(4,true),(5,true),(6,true),(8,true),(9,true),(10,true),(11,true),(12,true),(13,true),(7,false),(14,false),(15,true),(16,true),(17,false)] ?_;refine DO ?_;refine kX ?_;refine kX ?_;refine fO rfl (aD (E rfl)) rfl ?_;refine NV ?_;refine aC4 ?_;refine UW ?_;refine aHI rfl (pr.map aL) pr.length ?_ (hby:=by omega);refine jM fun r65 h65=> ?_;intros
 refine vS rfl ((pr++c.ls).map aL) (pr++c.ls).length ?_;refine dG fun r72 h72=> ?_;intros
 refine z77 ?_;refine KD ?_;refine NL ?_;refine qH ?_;refine dM (iE (r:=r15) (q:=r72) bW bD (.cons (.refl _) (.cons (.refl _) (.cons (.refl _) (.cons (.refl _) (.cons (.refl _) (.cons (.refl _) (.cons (.refl _) (.cons (.refl _) (.cons (.refl _) (.cons (.refl _) (.cons (.refl _) (.cons (.refl _) (.cons (.refl _) (.cons (.refl _) (.cons (aK bF (by simp)) (.cons (.refl _) (.cons (.refl _) (.cons (.refl _) .nil))))))))))))))))))) ?_;have hll:(pr++c.ls).length≤2000:=by simp;omega
 generalize pr++c.ls=ls at hll⊢;obtain⟨kd,hkd⟩:∃kd,kd=(if decide ((0:Int)<(rs.length:Int))=true then rs.headD 0 else 0):=⟨_,rfl⟩
 rw[←hkd];refine iD ?_;refine gT ?_;refine oG ?_;refine KI ?_;refine sja (β:=Unit) (fun _=>⟨[(0,.agg (cQ m)),(1,.int .i64 k),(2,.ptr r2 0),(4,.bool false),(5,.ptr r15 0),(10,.int .i64 kd)],(r2,.box 33 (cQ m))::cG r15 p q m (.ro 1 (ls.map aL) .any) ⟨[],[],false⟩⟩) (fun _=>True) ?_ ?_
 ·refine aC rfl (fun g10=> ?_) (fun g10=> ?_)
  ·obtain⟨v,rs',rfl⟩:∃v rs',rs=v::rs':=by cases rs with|nil=>simp at g10|cons v rs'=>exact⟨v,rs',rfl⟩
   obtain rfl:kd=v:=by rw[hkd,if_pos g10];rfl
   have hv0:0<(kd::rs').length:=by simp
   refine kC ?_;refine qG ?_;refine cI ?_;exact⟨(),trivial,aN⟩
  obtain rfl:kd=0:=by rw[hkd,g10];rfl
  refine aJ ?_;exact⟨(),trivial,aN⟩
 rintro⟨⟩-;unfold cQ cG kD
 (try dsimp only);refine dB ?_;refine cw (cG r15 p q m (.ro 1 (ls.map aL) .any) ⟨[],[],false⟩) Tryz.call76 (yL hN0 ⟨[],[],false⟩ (by simp) 2 kd) rfl aB bL ?_;rintro _ σ' ⟨q2,hE,rfl⟩ h85;unfold cG kD;(try dsimp only);obtain⟨e1,e2,e3⟩:=id hE;refine aDJ (h85 _ (List.mem_cons_of_mem _ (List.mem_cons_of_mem _ List.mem_cons_self))) fun k85=> ?_;intros
 refine iB ?_;have hI:=LOk.init (m:=m) (ls:=ls) (kd:=kd) hok;generalize openP ⟨[],[],false⟩ 2 kd=s0 at hI⊢;refine nL ?_;refine tC ?_;refine BL ?_;refine KC ?_;refine lT ?_;refine lp (β:=Nat×Nat×Nat×PS) (fun b=>⟨[(4,.bool false),(5,.ptr r15 0),(91,.ro 4 (c.bd.map (iv .any)) .any),(92,.int .i64 c.bd.length),(93,.int .i64 b.1)],cG r15 b.2.1 b.2.2.1 m (.ro 1 (ls.map aL) .any) b.2.2.2⟩) (fun b=>b.1≤c.bd.length∧Nm r15 b.2.1 b.2.2.1∧∃F,LOk m ls c.bd s0 b.1 b.2.2.2 F) (fun b=>c.bd.length-b.1) (0,p,q2,s0) (by unfold cG kD;(try dsimp only);(exact aN)) ⟨Nat.zero_le _,hE,[],hI⟩ ?_;rintro⟨j,e,f',S⟩ ⟨hj,hN1,F,hL⟩;dsimp only at hj hN1 hL⊢;obtain⟨m1,m2,m3⟩:=id hN1;have hG:=hL.ge (by omega);have hbv:=hL.vl;have hbc:S.cs.length≤41:=by have:=hL.fl;have:=hL.f40;omega
 unfold cG kD
 (try dsimp only);refine eV ?_;refine aC rfl (fun g14=> ?_) (fun g14=> ?_)
 ·obtain⟨x,hx⟩:∃x,c.bd[j]? =some x:=⟨_,List.getElem?_eq_getElem (by simp at g14;omega)⟩
  have hlt:j<c.bd.length:=(List.getElem?_eq_some_iff.1 hx).1;have hxk:=hb2 x (List.mem_of_getElem? hx);have hst:=hL.step hm.ts hx;refine lY ?_;refine gF fun r12 h12=> ?_;intros
  refine lM ?_;refine jN ?_;refine cw (cG r15 e f' m (.ro 1 (ls.map aL) .any) S) Tryz.call77 (OV hN1 hm.toCk S hG (by omega) (by omega) x hxk (fun h=>hL.two hx h)) rfl aB bL ?_;rintro _ σ' ⟨e1,f1,hE1,rfl,rfl⟩ h99;unfold cG kD;(try dsimp only);obtain⟨m4,m5,m6⟩:=id hE1;refine aDJ (h99 _ (List.mem_cons_of_mem _ List.mem_cons_self)) fun k99=> ?_;intros
  refine aDJ (h99 _ (List.mem_cons_of_mem _ (List.mem_cons_of_mem _ List.mem_cons_self))) fun l99=> ?_;intros
  refine sI ?_;refine gQ ?_;refine aC rfl (fun g16=> ?_) (fun g16=> ?_)
  ·have hc0:(bU m S x).1=false:=by simpa using g16
   rw[(tU hc0).1];rw[show nM m ls S x=cP m ls S x by unfold nM;dsimp only;rw[hc0,(tU hc0).1];rfl]at hst;refine bH ?_;refine jN ?_;refine cw (cG r15 e1 f1 m (.ro 1 (ls.map aL) .any) S) Tryz.call78 (YA hE1 S hG x hxk) rfl aB bL ?_;rintro _ σ' ⟨e2,hE2,rfl⟩ h103;unfold cG kD;(try dsimp only);obtain⟨m7,m8,m9⟩:=id hE2;refine iB ?_;obtain⟨A,O,hAO,rfl,rfl⟩:∃A O,Nm r15 A O∧A=e2∧O=f1:=⟨_,_,hE2,rfl,rfl⟩
   generalize cP m ls S x=S' at hst⊢;refine hX ?_;refine iJ ?_;refine gQ ?_;refine aC rfl (fun g18=> ?_) (fun g18=> ?_)
   ·rw[if_pos (hst.2.2.1 g18)];refine bV ?_;exact aE aF ⟨by rfl,rfl⟩ aA
   obtain⟨F',hL'⟩:=hst.2.2.2 g18;refine gS ?_;refine⟨(j+1,A,O,S'),⟨hlt,hAO,F',hL'⟩,by show c.bd.length-(j+1)<c.bd.length-j;omega, ?_⟩
   (try dsimp only);exact aN
  have hc1:(bU m S x).1=true:=by simpa using g16
  rw[show nM m ls S x=(bU m S x).2 by unfold nM;dsimp only;rw[if_pos hc1]]at hst;obtain⟨A,O,hAO,rfl,rfl⟩:∃A O,Nm r15 A O∧A=e1∧O=f1:=⟨_,_,hE1,rfl,rfl⟩
  generalize(bU m S x).2=S' at hst⊢;refine bH ?_;refine iJ ?_;refine gQ ?_;refine aC rfl (fun g18=> ?_) (fun g18=> ?_)
  ·rw[if_pos (hst.2.2.1 g18)];refine bV ?_;exact aE aF ⟨by rfl,rfl⟩ aA
  obtain⟨F',hL'⟩:=hst.2.2.2 g18;refine gS ?_;refine⟨(j+1,A,O,S'),⟨hlt,hAO,F',hL'⟩,by show c.bd.length-(j+1)<c.bd.length-j;omega, ?_⟩
  (try dsimp only);exact aN
 obtain rfl:j=c.bd.length:=by simp at g14;omega
 rw[show goP m ls c.bd s0=S by rw[hL.go,List.drop_length];rfl,if_neg (by simp[hL.nb])];refine bH ?_;refine cw (cG r15 e f' m (.ro 1 (ls.map aL) .any) S) Tryz.call79 (GP hN1 S hG) rfl aB bL ?_;rintro _ σ' ⟨rfl,rfl⟩ h110;refine mY ?_;refine iJ ?_;refine lo (fA (E rfl)) rfl ?_;refine VE ?_;refine vO ?_;refine NW ?_;refine iS ?_;exact aE aF ⟨by rfl,rfl⟩ aA
def aBv (s:List Nat):Prop:=s.length≤1000∧∀c∈s,c<256
def SmI (n:Int):Prop:=0≤n∧n≤100000
structure Md.G (m:Md):Prop where
 ty:m.ty.length≤100∧∀x∈m.ty,x.pr.length≤1000∧x.rs.length≤1000
 im:m.im.length≤100∧∀x∈m.im,aBv x.mod∧aBv x.nm∧SmI x.ty
 fn:m.fn.length≤100∧∀n∈m.fn,SmI n
 tb:m.tb.has=true→OP m.tb
 me:m.me.has=true→OP m.me
 gl:m.gl.length≤100∧∀g∈m.gl,nW g.kd g.n=true∧ -9223372036854775808≤g.n∧g.n≤9223372036854775807
 ex:m.ex.length≤100∧∀x∈m.ex,aBv x.nm∧SmI x.fn
 el:m.el.length≤100∧∀x∈m.el,iT x.off=true∧x.fs.length≤1000∧∀n∈x.fs,SmI n
 co:m.co.length≤100∧∀x∈m.co,x.ls.length≤1000∧x.bd.length≤310∧∀i∈x.bd,i.Ok∧cW i=true
 da:m.da.length≤100∧∀x∈m.da,iT x.off=true∧x.bs.length≤1000
theorem aEi{n:Int}(h:SmI n):(gC n).length≤5:=bS 4 n.toNat (by have:=h.2;have:=h.1;omega)
structure Md.Z (m:Md):Prop where
 ty:m.ty.length≤1000000∧∀x∈m.ty,x.pr.length≤1000000∧x.rs.length≤1000000
 im:m.im.length≤1000000
 fn:m.fn.length≤1000000
 gl:m.gl.length≤1000000
 ex:m.ex.length≤1000000
 el:m.el.length≤1000000∧∀x∈m.el,x.fs.length≤1000000
 co:m.co.length≤1000000∧∀x∈m.co,x.ls.length≤1000000
 da:m.da.length≤1000000∧∀x∈m.da,x.bs.length≤1000000
theorem YD{s:List Nat}(h:vW s=true):aBv s:=⟨by have:=(iU h).1;omega,(iU h).2.1⟩
theorem aBw{n:Int}(h:jD n=true):SmI n:=⟨(GG h).1,by have:=(GG h).2;omega⟩
theorem aCG{m:Md}(h:oA m=true)(hw:m.WO):m.G:=by
 obtain⟨-,hO1,hO2⟩:=hw;have hw2:=h;unfold oA at h;simp only[Bool.and_eq_true]at h;obtain⟨⟨⟨⟨-,hco⟩,hls⟩,htb⟩,hme⟩:=h;unfold lB at hls;simp only[Bool.and_eq_true]at hls;obtain⟨⟨⟨⟨⟨⟨hty,him⟩,hfn⟩,hgl⟩,hex⟩,hel⟩,hda⟩:=hls;obtain⟨a1,a2⟩:=bQ hty;obtain⟨b1,b2⟩:=bQ him;obtain⟨c1,c2⟩:=bQ hfn;obtain⟨d1,d2⟩:=bQ hgl;obtain⟨e1,e2⟩:=bQ hex;obtain⟨f1,f2⟩:=bQ hel;obtain⟨g1,g2⟩:=bQ hda;obtain⟨i1,i2⟩:=bQ hco;simp only[Bool.and_eq_true]at a2 b2 e2 f2 g2;refine⟨⟨by omega,fun x hx=> ?_⟩,⟨by omega,fun x hx=> ?_⟩,⟨by omega,fun x hx=>aBw (c2 x hx)⟩,fun hh=> ?_,fun hh=> ?_,⟨by omega,fun x hx=>⟨d2 x hx,hO2 x hx⟩⟩,⟨by omega,fun x hx=> ?_⟩,⟨by omega,fun x hx=> ?_⟩,⟨by omega,fun x hx=> ?_⟩,⟨by omega,fun x hx=> ?_⟩⟩
 ·have h1:=(bQ (a2 x hx).1).1;have h2:=(bQ (a2 x hx).2).1;omega
 ·exact⟨YD (b2 x hx).1.1,YD (b2 x hx).1.2,aBw (b2 x hx).2⟩
 ·exact(GI htb (by decide) (by decide)).1 m.tb (by unfold jT;rw[hh];simp)
 ·exact(GI hme (by decide) (by decide)).1 m.me (by unfold jT;rw[hh];simp)
 ·exact⟨YD (e2 x hx).1,aBw (e2 x hx).2⟩
 ·exact⟨(f2 x hx).1,by have:=(bQ (f2 x hx).2).1;omega,fun n hn=>aBw ((bQ (f2 x hx).2).2 n hn)⟩
 ·have h1:=i2 x hx;unfold tN at h1;simp only[Bool.and_eq_true]at h1;exact⟨by have:=(bQ h1.1.2).1;omega,by have:=(bQ h1.2).1;omega,fun i hi=>⟨hO1 x hx i hi,(bQ h1.2).2 i hi⟩⟩
 ·exact⟨(g2 x hx).1,by simpa using(g2 x hx).2⟩
end Go.Proofs.YtjpdadobblffmaaGreat
namespace Go.Proofs.YtjpdadobblffmaaGreat
open Go.RowKit Go.ChangeShapes Go.WideShapes Go.ChangeAt Go.Deep
theorem YE{M:Mp}{F:Nat→Prop}{w:World}{a b:AV}{x y u:Value}(ha:∀u,VR M F w a u→u=x)(hb:∀u,VR M F w b u→u=y)(h:VR M F w (.agg [a,b]) u):u=.agg #[x,y]:=by
 cases h with
 |@agg _ vs hl h=>
  obtain⟨l⟩:=vs
  match l,hl with
  |[p,q],_=>rw[ha p (h 0 _ p rfl rfl),hb q (h 1 _ q rfl rfl)]
theorem wC{M:Mp}{F:Nat→Prop}{w:World}{a b c:AV}{x y z u:Value}(ha:∀u,VR M F w a u→u=x)(hb:∀u,VR M F w b u→u=y)(hc:∀u,VR M F w c u→u=z)(h:VR M F w (.agg [a,b,c]) u):u=.agg #[x,y,z]:=by
 cases h with
 |@agg _ vs hl h=>
  obtain⟨l⟩:=vs
  match l,hl with
  |[p,q,r],_=>rw[ha p (h 0 _ p rfl rfl),hb q (h 1 _ q rfl rfl),hc r (h 2 _ r rfl rfl)]
theorem lW{M:Mp}{F:Nat→Prop}{w:World}{k:IntKind}{n:Int}:∀u,VR M F w (.int k n) u→u=.int k n:=fun u h=>by cases h;rfl
theorem yN{M:Mp}{F:Nat→Prop}{w:World}{b:Bool}:∀u,VR M F w (.bool b) u→u=.bool b:=fun u h=>by cases h;rfl
theorem wD{M:Mp}{F:Nat→Prop}{w:World}{b:ByteArray}:∀u,VR M F w (.str b) u→u=.string b:=fun u h=>by cases h;rfl
theorem aGo(w:World)(a d:Bool)(b c e f:Int):(Op.equal 26 (.agg #[.bool a,.int .i64 b,.int .i64 c]) (.agg #[.bool d,.int .i64 e,.int .i64 f])).run Tryz.prog w=.ok (a==d&&b==e&&c==f) w:=by
 have hs:Tryz.prog.stoodInHeld 26=false:=by kernel_rfl
 have hf:Tryz.prog.underlying 26=some (.struct (Tryz.prog.fieldsOf 26)):=by unfold Program.fieldsOf;rw[Tryz.underlying26]
 have p1:Tryz.prog.plainKey 4=true:=by kernel_rfl
 have p2:Tryz.prog.plainKey 3=true:=by kernel_rfl
 have h:(Op.equalIn (9999+1) 26 (.agg #[.bool a,.int .i64 b,.int .i64 c]) (.agg #[.bool d,.int .i64 e,.int .i64 f])).run Tryz.prog w=.ok (a==d&&b==e&&c==f) w:=by
  rw[run_equalIn_struct w 9999 _ _ _ hf hs];unfold Program.fieldsOf;rw[Tryz.underlying26];simp only[Op.eqFields];cases h1:(a==d)<;>cases h2:(b==e)<;>cases h3:(c==f)<;>simp[run_part_plain w p1 (xs:=#[.bool a,.int .i64 b,.int .i64 c]) (off:=0) rfl,run_part_plain w p1 (xs:=#[.bool d,.int .i64 e,.int .i64 f]) (off:=0) rfl,run_part_plain w p2 (xs:=#[.bool a,.int .i64 b,.int .i64 c]) (off:=1) rfl,run_part_plain w p2 (xs:=#[.bool d,.int .i64 e,.int .i64 f]) (off:=1) rfl,run_part_plain w p2 (xs:=#[.bool a,.int .i64 b,.int .i64 c]) (off:=2) rfl,run_part_plain w p2 (xs:=#[.bool d,.int .i64 e,.int .i64 f]) (off:=2) rfl,run_equalIn_int w _ _ _ _ _ _ Tryz.underlying3,run_equalIn_bool' w _ _ _ _ Tryz.underlying4,h1,h2,h3]
 exact h
theorem aGp(w:World)(a b d e:ByteArray)(c f:Int):(Op.equal 64 (.agg #[.string a,.string b,.int .i64 c]) (.agg #[.string d,.string e,.int .i64 f])).run Tryz.prog w=.ok (a.toList==d.toList&&b.toList==e.toList&&c==f) w:=by
 have hs:Tryz.prog.stoodInHeld 64=false:=by kernel_rfl
 have hf:Tryz.prog.underlying 64=some (.struct (Tryz.prog.fieldsOf 64)):=by unfold Program.fieldsOf;rw[Tryz.underlying64]
 have p1:Tryz.prog.plainKey 9=true:=by kernel_rfl
 have p2:Tryz.prog.plainKey 3=true:=by kernel_rfl
 have h:(Op.equalIn (9999+1) 64 (.agg #[.string a,.string b,.int .i64 c]) (.agg #[.string d,.string e,.int .i64 f])).run Tryz.prog w=.ok (a.toList==d.toList&&b.toList==e.toList&&c==f) w:=by
  rw[run_equalIn_struct w 9999 _ _ _ hf hs];unfold Program.fieldsOf;rw[Tryz.underlying64];simp only[Op.eqFields];cases h1:(a.toList==d.toList)<;>cases h2:(b.toList==e.toList)<;>cases h3:(c==f)<;>simp[run_part_plain w p1 (xs:=#[.string a,.string b,.int .i64 c]) (off:=0) rfl,run_part_plain w p1 (xs:=#[.string d,.string e,.int .i64 f]) (off:=0) rfl,run_part_plain w p1 (xs:=#[.string a,.string b,.int .i64 c]) (off:=1) rfl,run_part_plain w p1 (xs:=#[.string d,.string e,.int .i64 f]) (off:=1) rfl,run_part_plain w p2 (xs:=#[.string a,.string b,.int .i64 c]) (off:=2) rfl,run_part_plain w p2 (xs:=#[.string d,.string e,.int .i64 f]) (off:=2) rfl,run_equalIn_int w _ _ _ _ _ _ Tryz.underlying3,run_equalIn_string w _ _ _ _ Tryz.underlying9,h1,h2,h3]
 exact h
theorem aGq(w:World)(a d:ByteArray)(c f:Int):(Op.equal 66 (.agg #[.string a,.int .i64 c]) (.agg #[.string d,.int .i64 f])).run Tryz.prog w=.ok (a.toList==d.toList&&c==f) w:=by
 have hs:Tryz.prog.stoodInHeld 66=false:=by kernel_rfl
 have hf:Tryz.prog.underlying 66=some (.struct (Tryz.prog.fieldsOf 66)):=by unfold Program.fieldsOf;rw[Tryz.underlying66]
 have p1:Tryz.prog.plainKey 9=true:=by kernel_rfl
 have p2:Tryz.prog.plainKey 3=true:=by kernel_rfl
 have h:(Op.equalIn (9999+1) 66 (.agg #[.string a,.int .i64 c]) (.agg #[.string d,.int .i64 f])).run Tryz.prog w=.ok (a.toList==d.toList&&c==f) w:=by
  rw[run_equalIn_struct w 9999 _ _ _ hf hs];unfold Program.fieldsOf;rw[Tryz.underlying66];simp only[Op.eqFields];cases h1:(a.toList==d.toList)<;>cases h3:(c==f)<;>simp[run_part_plain w p1 (xs:=#[.string a,.int .i64 c]) (off:=0) rfl,run_part_plain w p1 (xs:=#[.string d,.int .i64 f]) (off:=0) rfl,run_part_plain w p2 (xs:=#[.string a,.int .i64 c]) (off:=1) rfl,run_part_plain w p2 (xs:=#[.string d,.int .i64 f]) (off:=1) rfl,run_equalIn_int w _ _ _ _ _ _ Tryz.underlying3,run_equalIn_string w _ _ _ _ Tryz.underlying9,h1,h3]
 exact h
theorem aBx(n:Nat)(w:World)(a b c d:Int):(Op.equalIn (n+2) 71 (.agg #[.int .i64 a,.int .i64 b]) (.agg #[.int .i64 c,.int .i64 d])).run Tryz.prog w=.ok (a==c&&b==d) w:=by
 have hs:Tryz.prog.stoodInHeld 71=false:=by kernel_rfl
 have hf:Tryz.prog.underlying 71=some (.struct (Tryz.prog.fieldsOf 71)):=by unfold Program.fieldsOf;rw[Tryz.underlying71]
 have p1:Tryz.prog.plainKey 3=true:=by kernel_rfl
 have p2:Tryz.prog.plainKey 2=true:=by kernel_rfl
 rw[run_equalIn_struct w (n+1) _ _ _ hf hs];unfold Program.fieldsOf;rw[Tryz.underlying71];simp only[Op.eqFields];cases h1:(a==c)<;>cases h2:(b==d)<;>simp[run_part_plain w p1 (xs:=#[.int .i64 a,.int .i64 b]) (off:=0) rfl,run_part_plain w p1 (xs:=#[.int .i64 c,.int .i64 d]) (off:=0) rfl,run_part_plain w p2 (xs:=#[.int .i64 a,.int .i64 b]) (off:=1) rfl,run_part_plain w p2 (xs:=#[.int .i64 c,.int .i64 d]) (off:=1) rfl,run_equalIn_int w _ _ _ _ _ _ Tryz.underlying3,run_equalIn_int w _ _ _ _ _ _ Tryz.underlying2,h1,h2]
theorem aGr(w:World)(a d:Bool)(b c e f:Int):(Op.equal 73 (.agg #[.bool a,.int .i64 b,.int .i64 c]) (.agg #[.bool d,.int .i64 e,.int .i64 f])).run Tryz.prog w=.ok (a==d&&(b==e&&c==f)) w:=by
 have hs:Tryz.prog.stoodInHeld 73=false:=by kernel_rfl
 have hf:Tryz.prog.underlying 73=some (.struct (Tryz.prog.fieldsOf 73)):=by unfold Program.fieldsOf;rw[Tryz.underlying73]
 have p1:Tryz.prog.plainKey 4=true:=by kernel_rfl
 have q1:∀a b c,(part 71 #[.bool a,.int .i64 b,.int .i64 c] 1).run Tryz.prog w=.ok (.agg #[.int .i64 b,.int .i64 c]) w:=fun a b c=>by
  obtain⟨i,hi,hz,hs,_⟩:=Tz.parts Tryz.prog 71;simp[part,isAgg,run_underlying Tryz.underlying71,sizeOf,typeInfo,hi,hs]
 have h:(Op.equalIn (9999+1) 73 (.agg #[.bool a,.int .i64 b,.int .i64 c]) (.agg #[.bool d,.int .i64 e,.int .i64 f])).run Tryz.prog w=.ok (a==d&&(b==e&&c==f)) w:=by
  rw[run_equalIn_struct w 9999 _ _ _ hf hs];unfold Program.fieldsOf;rw[Tryz.underlying73];simp only[Op.eqFields];cases h1:(a==d)<;>cases h2:(b==e&&c==f)<;>simp[run_part_plain w p1 (xs:=#[.bool a,.int .i64 b,.int .i64 c]) (off:=0) rfl,run_part_plain w p1 (xs:=#[.bool d,.int .i64 e,.int .i64 f]) (off:=0) rfl,q1,run_equalIn_bool' w _ _ _ _ Tryz.underlying4,aBx 9997,h1,h2]
 exact h
instance : DecidableEq FT := fun a b => decidable_of_iff (a.pr = b.pr ∧ a.rs = b.rs) ⟨fun h => by cases a; cases b; simp_all, fun h => by subst h; exact ⟨rfl, rfl⟩⟩
instance : DecidableEq Im := fun a b => decidable_of_iff (a.mod = b.mod ∧ a.nm = b.nm ∧ a.ty = b.ty) ⟨fun h => by cases a; cases b; simp_all, fun h => by subst h; exact ⟨rfl, rfl, rfl⟩⟩
instance : DecidableEq Gl := fun a b => decidable_of_iff (a.mu = b.mu ∧ a.kd = b.kd ∧ a.n = b.n) ⟨fun h => by cases a; cases b; simp_all, fun h => by subst h; exact ⟨rfl, rfl, rfl⟩⟩
instance : DecidableEq Ex := fun a b => decidable_of_iff (a.nm = b.nm ∧ a.fn = b.fn) ⟨fun h => by cases a; cases b; simp_all, fun h => by subst h; exact ⟨rfl, rfl⟩⟩
instance : DecidableEq El := fun a b => decidable_of_iff (a.off = b.off ∧ a.fs = b.fs) ⟨fun h => by cases a; cases b; simp_all, fun h => by subst h; exact ⟨rfl, rfl⟩⟩
instance : DecidableEq Co := fun a b => decidable_of_iff (a.ls = b.ls ∧ a.bd = b.bd) ⟨fun h => by cases a; cases b; simp_all, fun h => by subst h; exact ⟨rfl, rfl⟩⟩
instance : DecidableEq Da := fun a b => decidable_of_iff (a.off = b.off ∧ a.bs = b.bs) ⟨fun h => by cases a; cases b; simp_all, fun h => by subst h; exact ⟨rfl, rfl⟩⟩
instance : DecidableEq Li := fun a b => decidable_of_iff (a.has = b.has ∧ a.mn = b.mn ∧ a.mx = b.mx) ⟨fun h => by cases a; cases b; simp_all, fun h => by subst h; exact ⟨rfl, rfl, rfl⟩⟩
section
variable {s : ASt} {c : Bool} {x y : Operand} {ty t t' : TypeId}
theorem MI{xs ys:Array Value}{cx cy:List AV}{b:Bool}(hg:Tryz.prog.eqGuardType Tryz.prog.depth t=false)(hx:∀(M:Mp) (F:Nat→Prop) (w:World) (u:Value),VR M F w (.agg cx) u→u=.agg xs)(hy:∀(M:Mp) (F:Nat→Prop) (w:World) (u:Value),VR M F w (.agg cy) u→u=.agg ys)
  (he:∀w:World,(Op.equal t (.agg xs) (.agg ys)).run Tryz.prog w=.ok b w) (h:Ev s c x (.agg cx)) (h':Ev s c y (.agg cy)):Lop Tryz.prog (.binOp .eql t x y t') ty s c (.bool b) []:=
 Lop.pure_ fun M F N n ac w hr hc=>⟨_,.bool _,fun w' o ho _=>by
  have e1:=hx _ _ _ _ (h.vr hr hc);have e2:=hy _ _ _ _ (h'.vr hr hc);refine oD ho ?_ ?_
  ·rw[e1,e2];exact run_eqGuard_agg w' .eql _ x y _ _ hg
  ·rw[e1,e2];simp only[binOp,Sem.run_bind,he,Result.andThen_ok,Sem.run_pure]⟩
theorem rU{xs ys:Array Value}{cx cy:List AV}{b:Bool}(hg:Tryz.prog.eqGuardType Tryz.prog.depth t=false)(hx:∀(M:Mp) (F:Nat→Prop) (w:World) (u:Value),VR M F w (.agg cx) u→u=.agg xs)(hy:∀(M:Mp) (F:Nat→Prop) (w:World) (u:Value),VR M F w (.agg cy) u→u=.agg ys)
  (he:∀w:World,(Op.equal t (.agg xs) (.agg ys)).run Tryz.prog w=.ok b w) (h:Ev s c x (.agg cx)) (h':Ev s c y (.agg cy)):Lop Tryz.prog (.binOp .neq t x y t') ty s c (.bool (!b)) []:=
 Lop.pure_ fun M F N n ac w hr hc=>⟨_,.bool _,fun w' o ho _=>by
  have e1:=hx _ _ _ _ (h.vr hr hc);have e2:=hy _ _ _ _ (h'.vr hr hc);refine oD ho ?_ ?_
  ·rw[e1,e2];exact run_eqGuard_agg w' .neq _ x y _ _ hg
  ·rw[e1,e2];simp only[binOp,Sem.run_bind,he,Result.andThen_ok,Sem.run_pure]⟩
theorem AE{a b:Li}(h:Ev s c x (.agg (gG a)))(h':Ev s c y (.agg (gG b))):Lop Tryz.prog (.binOp .eql 26 x y t') ty s c (.bool (decide (a=b))) []:=by
 have he:decide (a=b)=(a.has==b.has&&a.mn==b.mn&&a.mx==b.mx):=by rw[Bool.eq_iff_iff];cases a;cases b;simp[and_assoc]
 rw[he];exact MI (by kernel_rfl) (fun _ _ _ _=>wC yN lW lW) (fun _ _ _ _=>wC yN lW lW) (fun w=>aGo w _ _ _ _ _ _) h h'
theorem OW{a b:Im}(ha:iZ a.mod∧iZ a.nm)(hb:iZ b.mod∧iZ b.nm)(h:Ev s c x (.agg (eE a)))(h':Ev s c y (.agg (eE b))):Lop Tryz.prog (.binOp .neq 64 x y t') ty s c (.bool (!decide (a=b))) []:=by
 have he:decide (a=b)=((cU a.mod).toList==(cU b.mod).toList&&(cU a.nm).toList==(cU b.nm).toList&&a.ty==b.ty):=by rw[mS ha.1.2 hb.1.2,mS ha.2.2 hb.2.2,Bool.eq_iff_iff];cases a;cases b;simp[and_assoc]
 rw[he];exact rU (by kernel_rfl) (fun _ _ _ _=>wC wD wD lW) (fun _ _ _ _=>wC wD wD lW) (fun w=>aGp w _ _ _ _ _ _) h h'
theorem OX{a b:Ex}(ha:iZ a.nm)(hb:iZ b.nm)(h:Ev s c x (.agg (dJ a)))(h':Ev s c y (.agg (dJ b))):Lop Tryz.prog (.binOp .neq 66 x y t') ty s c (.bool (!decide (a=b))) []:=by
 have he:decide (a=b)=((cU a.nm).toList==(cU b.nm).toList&&a.fn==b.fn):=by rw[mS ha.2 hb.2,Bool.eq_iff_iff];cases a;cases b;simp
 rw[he];exact rU (by kernel_rfl) (fun _ _ _ _=>YE wD lW) (fun _ _ _ _=>YE wD lW) (fun w=>aGq w _ _ _ _) h h'
theorem OY{a b:Gl}(h:Ev s c x (.agg (eF a)))(h':Ev s c y (.agg (eF b))):Lop Tryz.prog (.binOp .neq 73 x y t') ty s c (.bool (!decide (a=b))) []:=by
 have he:decide (a=b)=(a.mu==b.mu&&(a.kd==b.kd&&a.n==b.n)):=by rw[Bool.eq_iff_iff];cases a;cases b;simp
 rw[he];exact rU (by kernel_rfl) (fun _ _ _ _=>wC yN lW lW) (fun _ _ _ _=>wC yN lW lW) (fun w=>aGr w _ _ _ _ _ _) h h'
end
theorem aEj(xs ys:List Im)(hox:∀x∈xs,(fun x:Im=>iZ x.mod∧iZ x.nm) x)(hoy:∀y∈ys,(fun x:Im=>iZ x.mod∧iZ x.nm) y):SCall Tryz.prog 126 [.ro 3 (xs.map eE) .any,.ro 3 (ys.map eE) .any] [] (fun r σ=>r=.bool (decide (xs=ys))∧σ=[]):=by
 refine bO 26 [0,1,4,5,10,12,13,14,24] Tryz.func126 ?_;refine fN (i:=0) rfl fun hm=> ?_
 rw[List.length_map]at hm;unfold maxLen at hm;refine oI ?_;refine oH ?_;refine qF ?_;refine aC rfl (fun g1=> ?_) (fun g1=> ?_)
 ·have hE:decide (xs=ys)=false:=decide_eq_false (by rintro rfl;simp at g1);refine bV ?_;exact aE aF ⟨by rw[hE];rfl,rfl⟩ aA
 have hl:xs.length=ys.length:=by simp at g1;omega
 refine bH ?_;refine lT ?_;refine lp (β:=Nat) (fun k=>⟨[(0,.ro 3 (xs.map eE) .any),(1,.ro 3 (ys.map eE) .any),(12,.int .i64 xs.length),(13,.int .i64 k)],[]⟩) (fun k=>k≤xs.length∧xs.take k=ys.take k) (fun k=>xs.length-k) 0 aN ⟨Nat.zero_le _,rfl⟩ ?_;rintro k ⟨hk,ht⟩;refine eV ?_;refine aC rfl (fun g4=> ?_) (fun g4=> ?_)
 ·have hlt:k<xs.length:=by simp at g4;omega
  obtain⟨x,hx⟩:∃x,xs[k]? =some x:=⟨_,List.getElem?_eq_getElem hlt⟩
  obtain⟨y,hy⟩:∃y,ys[k]? =some y:=⟨_,List.getElem?_eq_getElem (by omega)⟩
  have hox1:=hox x (List.mem_of_getElem? hx);have hoy1:=hoy y (List.mem_of_getElem? hy);refine eK ?_;refine hU [(0,true),(1,true),(2,true),(3,true),(4,true),(5,true),(6,true),(7,true),(8,true)] ?_;refine rC ?_;refine BM ?_;refine rC ?_;refine BM ?_;refine fO rfl (OW hox1 hoy1 (E rfl) (E rfl)) rfl ?_;refine qH ?_;refine aC rfl (fun g6=> ?_) (fun g6=> ?_)
  ·have hne:x≠y:=by intro e;subst e;simp at g6
   have hE:decide (xs=ys)=false:=decide_eq_false (by rintro rfl;rw[hx]at hy;exact hne (Option.some.inj hy));refine bV ?_;exact aE aF ⟨by rw[hE];rfl,rfl⟩ aA
  refine gS ?_;have hxy:x=y:=by first|simpa using g6|(simp at g6;omega)
  refine⟨k+1,⟨hlt,by rw[List.take_add_one,List.take_add_one,ht,hx,hy,hxy]⟩,by show xs.length-(k+1)<xs.length-k;omega, ?_⟩;exact aN
 have hE:decide (xs=ys)=true:=decide_eq_true (by simp at g4;rwa [List.take_of_length_le (by omega),List.take_of_length_le (by omega)]at ht);refine bV ?_;exact aE aF ⟨by rw[hE];rfl,rfl⟩ aA
theorem aEk(xs ys:List Ex)(hox:∀x∈xs,(fun x:Ex=>iZ x.nm) x)(hoy:∀y∈ys,(fun x:Ex=>iZ x.nm) y):SCall Tryz.prog 128 [.ro 2 (xs.map dJ) .any,.ro 2 (ys.map dJ) .any] [] (fun r σ=>r=.bool (decide (xs=ys))∧σ=[]):=by
 refine bO 26 [0,1,4,5,10,12,13,14,24] Tryz.func128 ?_;refine fN (i:=0) rfl fun hm=> ?_
 rw[List.length_map]at hm;unfold maxLen at hm;refine oI ?_;refine oH ?_;refine qF ?_;refine aC rfl (fun g1=> ?_) (fun g1=> ?_)
 ·have hE:decide (xs=ys)=false:=decide_eq_false (by rintro rfl;simp at g1);refine bV ?_;exact aE aF ⟨by rw[hE];rfl,rfl⟩ aA
 have hl:xs.length=ys.length:=by simp at g1;omega
 refine bH ?_;refine lT ?_;refine lp (β:=Nat) (fun k=>⟨[(0,.ro 2 (xs.map dJ) .any),(1,.ro 2 (ys.map dJ) .any),(12,.int .i64 xs.length),(13,.int .i64 k)],[]⟩) (fun k=>k≤xs.length∧xs.take k=ys.take k) (fun k=>xs.length-k) 0 aN ⟨Nat.zero_le _,rfl⟩ ?_;rintro k ⟨hk,ht⟩;refine eV ?_;refine aC rfl (fun g4=> ?_) (fun g4=> ?_)
 ·have hlt:k<xs.length:=by simp at g4;omega
  obtain⟨x,hx⟩:∃x,xs[k]? =some x:=⟨_,List.getElem?_eq_getElem hlt⟩
  obtain⟨y,hy⟩:∃y,ys[k]? =some y:=⟨_,List.getElem?_eq_getElem (by omega)⟩
  have hox1:=hox x (List.mem_of_getElem? hx);have hoy1:=hoy y (List.mem_of_getElem? hy);refine eK ?_;refine hU [(0,true),(1,true),(2,true),(3,true),(4,true),(5,true),(6,true),(7,true),(8,true)] ?_;refine rC ?_;refine BM ?_;refine rC ?_;refine BM ?_;refine fO rfl (OX hox1 hoy1 (E rfl) (E rfl)) rfl ?_;refine qH ?_;refine aC rfl (fun g6=> ?_) (fun g6=> ?_)
  ·have hne:x≠y:=by intro e;subst e;simp at g6
   have hE:decide (xs=ys)=false:=decide_eq_false (by rintro rfl;rw[hx]at hy;exact hne (Option.some.inj hy));refine bV ?_;exact aE aF ⟨by rw[hE];rfl,rfl⟩ aA
  refine gS ?_;have hxy:x=y:=by first|simpa using g6|(simp at g6;omega)
  refine⟨k+1,⟨hlt,by rw[List.take_add_one,List.take_add_one,ht,hx,hy,hxy]⟩,by show xs.length-(k+1)<xs.length-k;omega, ?_⟩;exact aN
 have hE:decide (xs=ys)=true:=decide_eq_true (by simp at g4;rwa [List.take_of_length_le (by omega),List.take_of_length_le (by omega)]at ht);refine bV ?_;exact aE aF ⟨by rw[hE];rfl,rfl⟩ aA
theorem aEl(xs ys:List Gl)(hox:∀x∈xs,(fun _:Gl=>True) x)(hoy:∀y∈ys,(fun _:Gl=>True) y):SCall Tryz.prog 127 [.ro 3 (xs.map eF) .any,.ro 3 (ys.map eF) .any] [] (fun r σ=>r=.bool (decide (xs=ys))∧σ=[]):=by
 refine bO 26 [0,1,4,5,10,12,13,14,24] Tryz.func127 ?_;refine fN (i:=0) rfl fun hm=> ?_
 rw[List.length_map]at hm;unfold maxLen at hm;refine oI ?_;refine oH ?_;refine qF ?_;refine aC rfl (fun g1=> ?_) (fun g1=> ?_)
 ·have hE:decide (xs=ys)=false:=decide_eq_false (by rintro rfl;simp at g1);refine bV ?_;exact aE aF ⟨by rw[hE];rfl,rfl⟩ aA
 have hl:xs.length=ys.length:=by simp at g1;omega
 refine bH ?_;refine lT ?_;refine lp (β:=Nat) (fun k=>⟨[(0,.ro 3 (xs.map eF) .any),(1,.ro 3 (ys.map eF) .any),(12,.int .i64 xs.length),(13,.int .i64 k)],[]⟩) (fun k=>k≤xs.length∧xs.take k=ys.take k) (fun k=>xs.length-k) 0 aN ⟨Nat.zero_le _,rfl⟩ ?_;rintro k ⟨hk,ht⟩;refine eV ?_;refine aC rfl (fun g4=> ?_) (fun g4=> ?_)
 ·have hlt:k<xs.length:=by simp at g4;omega
  obtain⟨x,hx⟩:∃x,xs[k]? =some x:=⟨_,List.getElem?_eq_getElem hlt⟩
  obtain⟨y,hy⟩:∃y,ys[k]? =some y:=⟨_,List.getElem?_eq_getElem (by omega)⟩
  have hox1:=hox x (List.mem_of_getElem? hx);have hoy1:=hoy y (List.mem_of_getElem? hy);refine eK ?_;refine hU [(0,true),(1,true),(2,true),(3,true),(4,true),(5,true),(6,true),(7,true),(8,true)] ?_;refine rC ?_;refine BM ?_;refine rC ?_;refine BM ?_;refine fO rfl (OY (E rfl) (E rfl)) rfl ?_;refine qH ?_;refine aC rfl (fun g6=> ?_) (fun g6=> ?_)
  ·have hne:x≠y:=by intro e;subst e;simp at g6
   have hE:decide (xs=ys)=false:=decide_eq_false (by rintro rfl;rw[hx]at hy;exact hne (Option.some.inj hy));refine bV ?_;exact aE aF ⟨by rw[hE];rfl,rfl⟩ aA
  refine gS ?_;have hxy:x=y:=by first|simpa using g6|(simp at g6;omega)
  refine⟨k+1,⟨hlt,by rw[List.take_add_one,List.take_add_one,ht,hx,hy,hxy]⟩,by show xs.length-(k+1)<xs.length-k;omega, ?_⟩;exact aN
 have hE:decide (xs=ys)=true:=decide_eq_true (by simp at g4;rwa [List.take_of_length_le (by omega),List.take_of_length_le (by omega)]at ht);refine bV ?_;exact aE aF ⟨by rw[hE];rfl,rfl⟩ aA
theorem aEm(xs ys:List Nat)(hox:∀x∈xs,(fun _:Nat=>True) x)(hoy:∀y∈ys,(fun _:Nat=>True) y):SCall Tryz.prog 125 [.ro 1 (xs.map aH) .any,.ro 1 (ys.map aH) .any] [] (fun r σ=>r=.bool (decide (xs=ys))∧σ=[]):=by
 refine bO 26 [0,1,4,5,10,12,13,14,24] Tryz.func125 ?_;refine fN (i:=0) rfl fun hm=> ?_
 rw[List.length_map]at hm;unfold maxLen at hm;refine oI ?_;refine oH ?_;refine qF ?_;refine aC rfl (fun g1=> ?_) (fun g1=> ?_)
 ·have hE:decide (xs=ys)=false:=decide_eq_false (by rintro rfl;simp at g1);refine bV ?_;exact aE aF ⟨by rw[hE];rfl,rfl⟩ aA
 have hl:xs.length=ys.length:=by simp at g1;omega
 refine bH ?_;refine lT ?_;refine lp (β:=Nat) (fun k=>⟨[(0,.ro 1 (xs.map aH) .any),(1,.ro 1 (ys.map aH) .any),(12,.int .i64 xs.length),(13,.int .i64 k)],[]⟩) (fun k=>k≤xs.length∧xs.take k=ys.take k) (fun k=>xs.length-k) 0 aN ⟨Nat.zero_le _,rfl⟩ ?_;rintro k ⟨hk,ht⟩;refine eV ?_;refine aC rfl (fun g4=> ?_) (fun g4=> ?_)
 ·have hlt:k<xs.length:=by simp at g4;omega
  obtain⟨x,hx⟩:∃x,xs[k]? =some x:=⟨_,List.getElem?_eq_getElem hlt⟩
  obtain⟨y,hy⟩:∃y,ys[k]? =some y:=⟨_,List.getElem?_eq_getElem (by omega)⟩
  have hox1:=hox x (List.mem_of_getElem? hx);have hoy1:=hoy y (List.mem_of_getElem? hy);refine eK ?_;refine hU [(0,true),(1,true),(2,true),(3,true),(4,true),(5,true),(6,true),(7,true),(8,true)] ?_;refine rC ?_;refine UW ?_;refine rC ?_;refine UW ?_;refine z58 ?_;refine qH ?_;refine aC rfl (fun g6=> ?_) (fun g6=> ?_)
  ·have hz:True:=True.intro;have hne:x≠y:=by intro e;subst e;simp at g6
   have hE:decide (xs=ys)=false:=decide_eq_false (by rintro rfl;rw[hx]at hy;exact hne (Option.some.inj hy));refine bV ?_;exact aE aF ⟨by rw[hE];rfl,rfl⟩ aA
  refine gS ?_;have hxy:x=y:=by first|simpa using g6|(simp at g6;omega)
  refine⟨k+1,⟨hlt,by rw[List.take_add_one,List.take_add_one,ht,hx,hy,hxy]⟩,by show xs.length-(k+1)<xs.length-k;omega, ?_⟩;exact aN
 have hE:decide (xs=ys)=true:=decide_eq_true (by simp at g4;rwa [List.take_of_length_le (by omega),List.take_of_length_le (by omega)]at ht);refine bV ?_;exact aE aF ⟨by rw[hE];rfl,rfl⟩ aA
theorem aEn{f:FuncId}{ok:FT→Prop}(hf:(∀args w,(callFunc f args).run Tryz.prog w=.ok (.enter f args) w)∧∀x y,ok x→ok y→SCall Tryz.prog f ([]++ [.agg (dF x),.agg (dF y)]++ []) [] (fun r σ=>r=.bool (decide (x=y))∧σ=[]))(xs ys:List FT)(hox:∀x∈xs,ok x)(hoy:∀y∈ys,ok y):SCall Tryz.prog 114 [.ro 2 (xs.map dF) .any,.ro 2 (ys.map dF) .any,.fn (.func f) [] []] [] (fun r σ=>r=.bool (decide (xs=ys))∧σ=[]):=by
 refine bO 32 [0,1,2,6,7,8,9,14,15,16,17,18,30] Tryz.func114 ?_;refine fN (i:=0) rfl fun hm=> ?_
 rw[List.length_map]at hm;unfold maxLen at hm;refine oI ?_;refine oH ?_;refine qF ?_;refine aC rfl (fun g1=> ?_) (fun g1=> ?_)
 ·have hE:decide (xs=ys)=false:=decide_eq_false (by rintro rfl;simp at g1);refine bV ?_;exact aE aF ⟨by rw[hE];rfl,rfl⟩ aA
 have hl:xs.length=ys.length:=by simp at g1;omega
 refine bH ?_;refine lT ?_;refine lp (β:=Nat) (fun k=>⟨[(1,.ro 2 (ys.map dF) .any),(2,.fn (.func f) [] []),(15,.ro 2 (xs.map dF) .any),(16,.int .i64 xs.length),(17,.int .i64 k)],[]⟩) (fun k=>k≤xs.length∧xs.take k=ys.take k) (fun k=>xs.length-k) 0 aN ⟨Nat.zero_le _,rfl⟩ ?_;rintro k ⟨hk,ht⟩;refine eV ?_;refine aC rfl (fun g4=> ?_) (fun g4=> ?_)
 ·have hlt:k<xs.length:=by simp at g4;omega
  obtain⟨x,hx⟩:∃x,xs[k]? =some x:=⟨_,List.getElem?_eq_getElem hlt⟩
  obtain⟨y,hy⟩:∃y,ys[k]? =some y:=⟨_,List.getElem?_eq_getElem (by omega)⟩
  refine bH ?_;refine uE ?_;refine gF fun r8 h8=> ?_;intros
  refine zF ?_;refine jX ?_;refine uE ?_;refine gF fun r9 h9=> ?_;intros
  refine lM ?_;refine jN ?_;refine jN ?_;refine mO [] rfl hf.1 (hf.2 x y (hox x (List.mem_of_getElem? hx)) (hoy y (List.mem_of_getElem? hy))) rfl aB aA ?_;rintro _ σ' ⟨rfl,rfl⟩ h29;refine sI ?_;refine gQ ?_;refine aC rfl (fun g7=> ?_) (fun g7=> ?_)
  ·have hne:x≠y:=by simpa using g7
   have hE:decide (xs=ys)=false:=decide_eq_false (by rintro rfl;rw[hx]at hy;exact hne (Option.some.inj hy));refine bV ?_;exact aE aF ⟨by rw[hE];rfl,rfl⟩ aA
  refine gS ?_;have hxy:x=y:=by simpa using g7
  refine⟨k+1,⟨hlt,by rw[List.take_add_one,List.take_add_one,ht,hx,hy,hxy]⟩,by show xs.length-(k+1)<xs.length-k;omega, ?_⟩;exact aN
 have hE:decide (xs=ys)=true:=decide_eq_true (by simp at g4;rwa [List.take_of_length_le (by omega),List.take_of_length_le (by omega)]at ht);refine bV ?_;exact aE aF ⟨by rw[hE];rfl,rfl⟩ aA
theorem aEo{f:FuncId}{ok:El→Prop}(hf:(∀args w,(callFunc f args).run Tryz.prog w=.ok (.enter f args) w)∧∀x y,ok x→ok y→SCall Tryz.prog f ([]++ [.agg (dV x),.agg (dV y)]++ []) [] (fun r σ=>r=.bool (decide (x=y))∧σ=[]))(xs ys:List El)(hox:∀x∈xs,ok x)(hoy:∀y∈ys,ok y):SCall Tryz.prog 117 [.ro 2 (xs.map dV) .any,.ro 2 (ys.map dV) .any,.fn (.func f) [] []] [] (fun r σ=>r=.bool (decide (xs=ys))∧σ=[]):=by
 refine bO 32 [0,1,2,6,7,8,9,14,15,16,17,18,30] Tryz.func117 ?_;refine fN (i:=0) rfl fun hm=> ?_
 rw[List.length_map]at hm;unfold maxLen at hm;refine oI ?_;refine oH ?_;refine qF ?_;refine aC rfl (fun g1=> ?_) (fun g1=> ?_)
 ·have hE:decide (xs=ys)=false:=decide_eq_false (by rintro rfl;simp at g1);refine bV ?_;exact aE aF ⟨by rw[hE];rfl,rfl⟩ aA
 have hl:xs.length=ys.length:=by simp at g1;omega
 refine bH ?_;refine lT ?_;refine lp (β:=Nat) (fun k=>⟨[(1,.ro 2 (ys.map dV) .any),(2,.fn (.func f) [] []),(15,.ro 2 (xs.map dV) .any),(16,.int .i64 xs.length),(17,.int .i64 k)],[]⟩) (fun k=>k≤xs.length∧xs.take k=ys.take k) (fun k=>xs.length-k) 0 aN ⟨Nat.zero_le _,rfl⟩ ?_;rintro k ⟨hk,ht⟩;refine eV ?_;refine aC rfl (fun g4=> ?_) (fun g4=> ?_)
 ·have hlt:k<xs.length:=by simp at g4;omega
  obtain⟨x,hx⟩:∃x,xs[k]? =some x:=⟨_,List.getElem?_eq_getElem hlt⟩
  obtain⟨y,hy⟩:∃y,ys[k]? =some y:=⟨_,List.getElem?_eq_getElem (by omega)⟩
  refine bH ?_;refine uE ?_;refine gF fun r8 h8=> ?_;intros
  refine zF ?_;refine jX ?_;refine uE ?_;refine gF fun r9 h9=> ?_;intros
  refine lM ?_;refine jN ?_;refine jN ?_;refine mO [] rfl hf.1 (hf.2 x y (hox x (List.mem_of_getElem? hx)) (hoy y (List.mem_of_getElem? hy))) rfl aB aA ?_;rintro _ σ' ⟨rfl,rfl⟩ h29;refine sI ?_;refine gQ ?_;refine aC rfl (fun g7=> ?_) (fun g7=> ?_)
  ·have hne:x≠y:=by simpa using g7
   have hE:decide (xs=ys)=false:=decide_eq_false (by rintro rfl;rw[hx]at hy;exact hne (Option.some.inj hy));refine bV ?_;exact aE aF ⟨by rw[hE];rfl,rfl⟩ aA
  refine gS ?_;have hxy:x=y:=by simpa using g7
  refine⟨k+1,⟨hlt,by rw[List.take_add_one,List.take_add_one,ht,hx,hy,hxy]⟩,by show xs.length-(k+1)<xs.length-k;omega, ?_⟩;exact aN
 have hE:decide (xs=ys)=true:=decide_eq_true (by simp at g4;rwa [List.take_of_length_le (by omega),List.take_of_length_le (by omega)]at ht);refine bV ?_;exact aE aF ⟨by rw[hE];rfl,rfl⟩ aA
theorem aEp{f:FuncId}{ok:Co→Prop}(hf:(∀args w,(callFunc f args).run Tryz.prog w=.ok (.enter f args) w)∧∀x y,ok x→ok y→SCall Tryz.prog f ([]++ [.agg (cZ x),.agg (cZ y)]++ []) [] (fun r σ=>r=.bool (decide (x=y))∧σ=[]))(xs ys:List Co)(hox:∀x∈xs,ok x)(hoy:∀y∈ys,ok y):SCall Tryz.prog 119 [.ro 2 (xs.map cZ) .any,.ro 2 (ys.map cZ) .any,.fn (.func f) [] []] [] (fun r σ=>r=.bool (decide (xs=ys))∧σ=[]):=by
 refine bO 32 [0,1,2,6,7,8,9,14,15,16,17,18,30] Tryz.func119 ?_;refine fN (i:=0) rfl fun hm=> ?_
 rw[List.length_map]at hm;unfold maxLen at hm;refine oI ?_;refine oH ?_;refine qF ?_;refine aC rfl (fun g1=> ?_) (fun g1=> ?_)
 ·have hE:decide (xs=ys)=false:=decide_eq_false (by rintro rfl;simp at g1);refine bV ?_;exact aE aF ⟨by rw[hE];rfl,rfl⟩ aA
 have hl:xs.length=ys.length:=by simp at g1;omega
 refine bH ?_;refine lT ?_;refine lp (β:=Nat) (fun k=>⟨[(1,.ro 2 (ys.map cZ) .any),(2,.fn (.func f) [] []),(15,.ro 2 (xs.map cZ) .any),(16,.int .i64 xs.length),(17,.int .i64 k)],[]⟩) (fun k=>k≤xs.length∧xs.take k=ys.take k) (fun k=>xs.length-k) 0 aN ⟨Nat.zero_le _,rfl⟩ ?_;rintro k ⟨hk,ht⟩;refine eV ?_;refine aC rfl (fun g4=> ?_) (fun g4=> ?_)
 ·have hlt:k<xs.length:=by simp at g4;omega
  obtain⟨x,hx⟩:∃x,xs[k]? =some x:=⟨_,List.getElem?_eq_getElem hlt⟩
  obtain⟨y,hy⟩:∃y,ys[k]? =some y:=⟨_,List.getElem?_eq_getElem (by omega)⟩
  refine bH ?_;refine uE ?_;refine gF fun r8 h8=> ?_;intros
  refine zF ?_;refine jX ?_;refine uE ?_;refine gF fun r9 h9=> ?_;intros
  refine lM ?_;refine jN ?_;refine jN ?_;refine mO [] rfl hf.1 (hf.2 x y (hox x (List.mem_of_getElem? hx)) (hoy y (List.mem_of_getElem? hy))) rfl aB aA ?_;rintro _ σ' ⟨rfl,rfl⟩ h29;refine sI ?_;refine gQ ?_;refine aC rfl (fun g7=> ?_) (fun g7=> ?_)
  ·have hne:x≠y:=by simpa using g7
   have hE:decide (xs=ys)=false:=decide_eq_false (by rintro rfl;rw[hx]at hy;exact hne (Option.some.inj hy));refine bV ?_;exact aE aF ⟨by rw[hE];rfl,rfl⟩ aA
  refine gS ?_;have hxy:x=y:=by simpa using g7
  refine⟨k+1,⟨hlt,by rw[List.take_add_one,List.take_add_one,ht,hx,hy,hxy]⟩,by show xs.length-(k+1)<xs.length-k;omega, ?_⟩;exact aN
 have hE:decide (xs=ys)=true:=decide_eq_true (by simp at g4;rwa [List.take_of_length_le (by omega),List.take_of_length_le (by omega)]at ht);refine bV ?_;exact aE aF ⟨by rw[hE];rfl,rfl⟩ aA
theorem aEq{f:FuncId}{ok:Da→Prop}(hf:(∀args w,(callFunc f args).run Tryz.prog w=.ok (.enter f args) w)∧∀x y,ok x→ok y→SCall Tryz.prog f ([]++ [.agg (dW x),.agg (dW y)]++ []) [] (fun r σ=>r=.bool (decide (x=y))∧σ=[]))(xs ys:List Da)(hox:∀x∈xs,ok x)(hoy:∀y∈ys,ok y):SCall Tryz.prog 123 [.ro 2 (xs.map dW) .any,.ro 2 (ys.map dW) .any,.fn (.func f) [] []] [] (fun r σ=>r=.bool (decide (xs=ys))∧σ=[]):=by
 refine bO 32 [0,1,2,6,7,8,9,14,15,16,17,18,30] Tryz.func123 ?_;refine fN (i:=0) rfl fun hm=> ?_
 rw[List.length_map]at hm;unfold maxLen at hm;refine oI ?_;refine oH ?_;refine qF ?_;refine aC rfl (fun g1=> ?_) (fun g1=> ?_)
 ·have hE:decide (xs=ys)=false:=decide_eq_false (by rintro rfl;simp at g1);refine bV ?_;exact aE aF ⟨by rw[hE];rfl,rfl⟩ aA
 have hl:xs.length=ys.length:=by simp at g1;omega
 refine bH ?_;refine lT ?_;refine lp (β:=Nat) (fun k=>⟨[(1,.ro 2 (ys.map dW) .any),(2,.fn (.func f) [] []),(15,.ro 2 (xs.map dW) .any),(16,.int .i64 xs.length),(17,.int .i64 k)],[]⟩) (fun k=>k≤xs.length∧xs.take k=ys.take k) (fun k=>xs.length-k) 0 aN ⟨Nat.zero_le _,rfl⟩ ?_;rintro k ⟨hk,ht⟩;refine eV ?_;refine aC rfl (fun g4=> ?_) (fun g4=> ?_)
 ·have hlt:k<xs.length:=by simp at g4;omega
  obtain⟨x,hx⟩:∃x,xs[k]? =some x:=⟨_,List.getElem?_eq_getElem hlt⟩
  obtain⟨y,hy⟩:∃y,ys[k]? =some y:=⟨_,List.getElem?_eq_getElem (by omega)⟩
  refine bH ?_;refine uE ?_;refine gF fun r8 h8=> ?_;intros
  refine zF ?_;refine jX ?_;refine uE ?_;refine gF fun r9 h9=> ?_;intros
  refine lM ?_;refine jN ?_;refine jN ?_;refine mO [] rfl hf.1 (hf.2 x y (hox x (List.mem_of_getElem? hx)) (hoy y (List.mem_of_getElem? hy))) rfl aB aA ?_;rintro _ σ' ⟨rfl,rfl⟩ h29;refine sI ?_;refine gQ ?_;refine aC rfl (fun g7=> ?_) (fun g7=> ?_)
  ·have hne:x≠y:=by simpa using g7
   have hE:decide (xs=ys)=false:=decide_eq_false (by rintro rfl;rw[hx]at hy;exact hne (Option.some.inj hy));refine bV ?_;exact aE aF ⟨by rw[hE];rfl,rfl⟩ aA
  refine gS ?_;have hxy:x=y:=by simpa using g7
  refine⟨k+1,⟨hlt,by rw[List.take_add_one,List.take_add_one,ht,hx,hy,hxy]⟩,by show xs.length-(k+1)<xs.length-k;omega, ?_⟩;exact aN
 have hE:decide (xs=ys)=true:=decide_eq_true (by simp at g4;rwa [List.take_of_length_le (by omega),List.take_of_length_le (by omega)]at ht);refine bV ?_;exact aE aF ⟨by rw[hE];rfl,rfl⟩ aA
theorem aBy{f:FuncId}{ok:Ins→Prop}(hf:(∀args w,(callFunc f args).run Tryz.prog w=.ok (.enter f args) w)∧∀x y,ok x→ok y→SCall Tryz.prog f ([]++ [.agg ((iv .any) x),.agg ((iv .any) y)]++ []) [] (fun r σ=>r=.bool (decide (x=y))∧σ=[]))(xs ys:List Ins)(hox:∀x∈xs,ok x)(hoy:∀y∈ys,ok y):SCall Tryz.prog 121 [.ro 4 (xs.map (iv .any)) .any,.ro 4 (ys.map (iv .any)) .any,.fn (.func f) [] []] [] (fun r σ=>r=.bool (decide (xs=ys))∧σ=[]):=by
 refine bO 32 [0,1,2,6,7,8,9,14,15,16,17,18,30] Tryz.func121 ?_;refine fN (i:=0) rfl fun hm=> ?_
 rw[List.length_map]at hm;unfold maxLen at hm;refine oI ?_;refine oH ?_;refine qF ?_;refine aC rfl (fun g1=> ?_) (fun g1=> ?_)
 ·have hE:decide (xs=ys)=false:=decide_eq_false (by rintro rfl;simp at g1);refine bV ?_;exact aE aF ⟨by rw[hE];rfl,rfl⟩ aA
 have hl:xs.length=ys.length:=by simp at g1;omega
 refine bH ?_;refine lT ?_;refine lp (β:=Nat) (fun k=>⟨[(1,.ro 4 (ys.map (iv .any)) .any),(2,.fn (.func f) [] []),(15,.ro 4 (xs.map (iv .any)) .any),(16,.int .i64 xs.length),(17,.int .i64 k)],[]⟩) (fun k=>k≤xs.length∧xs.take k=ys.take k) (fun k=>xs.length-k) 0 aN ⟨Nat.zero_le _,rfl⟩ ?_;rintro k ⟨hk,ht⟩;refine eV ?_;refine aC rfl (fun g4=> ?_) (fun g4=> ?_)
 ·have hlt:k<xs.length:=by simp at g4;omega
  obtain⟨x,hx⟩:∃x,xs[k]? =some x:=⟨_,List.getElem?_eq_getElem hlt⟩
  obtain⟨y,hy⟩:∃y,ys[k]? =some y:=⟨_,List.getElem?_eq_getElem (by omega)⟩
  refine bH ?_;refine uE ?_;refine gF fun r8 h8=> ?_;intros
  refine zF ?_;refine jX ?_;refine uE ?_;refine gF fun r9 h9=> ?_;intros
  refine lM ?_;refine jN ?_;refine jN ?_;refine mO [] rfl hf.1 (hf.2 x y (hox x (List.mem_of_getElem? hx)) (hoy y (List.mem_of_getElem? hy))) rfl aB aA ?_;rintro _ σ' ⟨rfl,rfl⟩ h29;refine sI ?_;refine gQ ?_;refine aC rfl (fun g7=> ?_) (fun g7=> ?_)
  ·have hne:x≠y:=by simpa using g7
   have hE:decide (xs=ys)=false:=decide_eq_false (by rintro rfl;rw[hx]at hy;exact hne (Option.some.inj hy));refine bV ?_;exact aE aF ⟨by rw[hE];rfl,rfl⟩ aA
  refine gS ?_;have hxy:x=y:=by simpa using g7
  refine⟨k+1,⟨hlt,by rw[List.take_add_one,List.take_add_one,ht,hx,hy,hxy]⟩,by show xs.length-(k+1)<xs.length-k;omega, ?_⟩;exact aN
 have hE:decide (xs=ys)=true:=decide_eq_true (by simp at g4;rwa [List.take_of_length_le (by omega),List.take_of_length_le (by omega)]at ht);refine bV ?_;exact aE aF ⟨by rw[hE];rfl,rfl⟩ aA
end Go.Proofs.YtjpdadobblffmaaGreat
namespace Go.Proofs.YtjpdadobblffmaaGreat
open Go.RowKit Go.ChangeShapes Go.WideShapes Go.ChangeAt Go.Deep
attribute [local irreducible] SW RS RD eM dR
def eqM (a b:Md):Bool:=decide (a.ty=b.ty)&&decide (a.el=b.el)&&decide (a.co=b.co)&&decide (a.da=b.da)&&decide (a.im=b.im)&&decide (a.fn=b.fn)&&decide (a.tb=b.tb)&&decide (a.me=b.me)&&decide (a.gl=b.gl)&&decide (a.ex=b.ex)
theorem aBz{a b:Md}:eqM a b=true↔a=b:=by
 unfold eqM;simp only[Bool.and_eq_true,decide_eq_true_eq];constructor
 ·rintro⟨⟨⟨⟨⟨⟨⟨⟨⟨h1,h2⟩,h3⟩,h4⟩,h5⟩,h6⟩,h7⟩,h8⟩,h9⟩,h10⟩;cases a;cases b;simp_all
 ·rintro rfl;simp
theorem YF(a:Md):eqM a a=true:=aBz.2 rfl
theorem aBA(x y:Ins):eqN x y=decide (x=y):=by
 rw[Bool.eq_iff_iff,FW,decide_eq_true_iff]
theorem YG:(∀args w,(callFunc 122 args).run Tryz.prog w=.ok (.enter 122 args) w)∧∀x y:Ins,True→True→SCall Tryz.prog 122 ([]++ [.agg (iv .any x),.agg (iv .any y)]++ []) [] (fun r σ=>r=.bool (decide (x=y))∧σ=[]):=
 ⟨Tryz.call122,fun x y _ _=>by rw[←aBA];exact VS .any .any x y⟩
theorem aBB:(∀args w,(callFunc 115 args).run Tryz.prog w=.ok (.enter 115 args) w)∧∀x y:FT,True→True→SCall Tryz.prog 115 ([]++ [.agg (dF x),.agg (dF y)]++ []) [] (fun r σ=>r=.bool (decide (x=y))∧σ=[]):=by
 refine⟨Tryz.call115,fun x y _ _=> ?_⟩;obtain⟨p1,v1⟩:=x;obtain⟨p2,v2⟩:=y;have hE:decide ((⟨p1,v1⟩:FT)=⟨p2,v2⟩)=if decide (p1=p2)=true then decide (v1=v2)else false:=by rw[iX,Bool.eq_iff_iff];simp
 refine bO 17 [0,1,2,3,4] Tryz.func115 ?_;unfold dF;refine cV ?_;refine gM fun r2 h2=> ?_;intros
 refine gM fun r3 h3=> ?_;intros
 refine gT ?_;refine dL ?_;refine jK Tryz.call116 (fF p1 p2) rfl aQ aW ?_;refine kS ?_;refine mZ ?_;refine mE rfl rfl Tryz.call116 (fun _=>(fF v1 v2)) rfl aQ aW ?_;refine iS ?_;exact aE aF ⟨by rw[hE];rfl,rfl⟩ aA
theorem aBC:(∀args w,(callFunc 118 args).run Tryz.prog w=.ok (.enter 118 args) w)∧∀x y:El,True→True→SCall Tryz.prog 118 ([]++ [.agg (dV x),.agg (dV y)]++ []) [] (fun r σ=>r=.bool (decide (x=y))∧σ=[]):=by
 refine⟨Tryz.call118,fun x y _ _=> ?_⟩;obtain⟨p1,v1⟩:=x;obtain⟨p2,v2⟩:=y;have hE:decide ((⟨p1,v1⟩:El)=⟨p2,v2⟩)=if(p1==p2)=true then decide (v1=v2)else false:=by rw[iX,Bool.eq_iff_iff];simp
 refine bO 17 [0,1,2,3,4] Tryz.func118 ?_;unfold dV;refine cV ?_;refine gM fun r2 h2=> ?_;intros
 refine gM fun r3 h3=> ?_;intros
 refine gT ?_;refine dL ?_;refine DM ?_;refine mZ ?_;refine mE rfl rfl Tryz.call116 (fun _=>(fF v1 v2)) rfl aQ aW ?_;refine iS ?_;exact aE aF ⟨by rw[hE];rfl,rfl⟩ aA
theorem aBD:(∀args w,(callFunc 120 args).run Tryz.prog w=.ok (.enter 120 args) w)∧∀x y:Co,True→True→SCall Tryz.prog 120 ([]++ [.agg (cZ x),.agg (cZ y)]++ []) [] (fun r σ=>r=.bool (decide (x=y))∧σ=[]):=by
 refine⟨Tryz.call120,fun x y _ _=> ?_⟩;obtain⟨p1,v1⟩:=x;obtain⟨p2,v2⟩:=y;have hE:decide ((⟨p1,v1⟩:Co)=⟨p2,v2⟩)=if decide (p1=p2)=true then decide (v1=v2)else false:=by rw[iX,Bool.eq_iff_iff];simp
 refine bO 17 [0,1,2,3,4] Tryz.func120 ?_;unfold cZ;refine cV ?_;refine gM fun r2 h2=> ?_;intros
 refine gM fun r3 h3=> ?_;intros
 refine gT ?_;refine dL ?_;refine jK Tryz.call116 (fF p1 p2) rfl aQ aW ?_;refine kS ?_;refine mZ ?_;refine mE rfl rfl Tryz.call121 (fun _=>(aBy YG v1 v2 (fun _ _=>True.intro) (fun _ _=>True.intro))) rfl aQ aW ?_;refine iS ?_;exact aE aF ⟨by rw[hE];rfl,rfl⟩ aA
theorem aBE:(∀args w,(callFunc 124 args).run Tryz.prog w=.ok (.enter 124 args) w)∧∀x y:Da,True→True→SCall Tryz.prog 124 ([]++ [.agg (dW x),.agg (dW y)]++ []) [] (fun r σ=>r=.bool (decide (x=y))∧σ=[]):=by
 refine⟨Tryz.call124,fun x y _ _=> ?_⟩;obtain⟨p1,v1⟩:=x;obtain⟨p2,v2⟩:=y;have hE:decide ((⟨p1,v1⟩:Da)=⟨p2,v2⟩)=if(p1==p2)=true then decide (v1=v2)else false:=by rw[iX,Bool.eq_iff_iff];simp
 refine bO 17 [0,1,2,3,4] Tryz.func124 ?_;unfold dW;refine cV ?_;refine gM fun r2 h2=> ?_;intros
 refine gM fun r3 h3=> ?_;intros
 refine gT ?_;refine dL ?_;refine DM ?_;refine mZ ?_;refine mE rfl rfl Tryz.call125 (fun _=>(aEm v1 v2 (fun _ _=>True.intro) (fun _ _=>True.intro))) rfl aQ aW ?_;refine iS ?_;exact aE aF ⟨by rw[hE];rfl,rfl⟩ aA
theorem RJ(a c:Md)(ha:a.W)(hc:c.W):SCall Tryz.prog 52 [.agg (cQ a),.agg (cQ c)] [] (fun r σ=>r=.bool (eqM a c)∧σ=[]):=by
 obtain⟨a1,a2,-,-,-⟩:=ha;obtain⟨c1,c2,-,-,-⟩:=hc;obtain⟨ty,im,fn,tb,me,gl,ex,el,co,da⟩:=a;obtain⟨ty',im',fn',tb',me',gl',ex',el',co',da'⟩:=c;dsimp only at a1 a2 c1 c2;have hE:∀(a b c d e f g h i j:Bool),(if(if(if(if(if(if(if(if(if a=true then b else false)=true then c else false)=true then d else false)=true then e else false)=true then f else false)=true then g else false)=true then h else false)=true then i else false)=true then j else false)=(a&&b&&c&&d&&e&&f&&g&&h&&i&&j):=by
  intro a b c d e f g h i j;simp only[iX]
 refine bO 81 [0,1,2,3,4,5,6,7,8] Tryz.func52 ?_;unfold cQ;dsimp only;refine cV ?_;refine gM fun r2 h2=> ?_;intros
 refine gM fun r3 h3=> ?_;intros
 refine gT ?_;refine dL ?_;refine jK Tryz.call114 (aEn aBB ty ty' (fun _ _=>True.intro) (fun _ _=>True.intro)) rfl aQ aW ?_;refine gT ?_;refine dL ?_;refine jK Tryz.call117 (aEo aBC el el' (fun _ _=>True.intro) (fun _ _=>True.intro)) rfl aQ aW ?_;refine gT ?_;refine dL ?_;refine jK Tryz.call119 (aEp aBD co co' (fun _ _=>True.intro) (fun _ _=>True.intro)) rfl aQ aW ?_;refine gT ?_;refine dL ?_;refine jK Tryz.call123 (aEq aBE da da' (fun _ _=>True.intro) (fun _ _=>True.intro)) rfl aQ aW ?_;refine nT ?_;refine eJ ?_;refine mW ?_;refine mW ?_;refine mT ?_;refine kS ?_;refine mZ ?_;refine mE rfl rfl Tryz.call126 (fun _=>(aEj im im' a1 c1)) rfl aQ aW ?_;refine mT ?_;refine kS ?_;refine mZ ?_;refine mE rfl rfl Tryz.call116 (fun _=>(fF fn fn')) rfl aQ aW ?_;refine mT ?_;refine FL ?_;refine KE ?_;refine UY ?_;refine KE ?_;refine lg rfl rfl (AE (a:=tb) (b:=tb') (W rfl id) (W rfl id)) rfl ?_;refine mT ?_;refine FL ?_;refine KE ?_;refine UY ?_;refine KE ?_;refine lg rfl rfl (AE (a:=me) (b:=me') (W rfl id) (W rfl id)) rfl ?_;refine mT ?_;refine kS ?_;refine mZ ?_;refine mE rfl rfl Tryz.call127 (fun _=>(aEl gl gl' (fun _ _=>True.intro) (fun _ _=>True.intro))) rfl aQ aW ?_;refine mT ?_;refine kS ?_;refine mZ ?_;refine mE rfl rfl Tryz.call128 (fun _=>(aEk ex ex' a2 c2)) rfl aQ aW ?_
 refine iS ?_;exact aE aF ⟨by simp only[dU];rw[hE];rfl,rfl⟩ aA
theorem aEr{a b:Nat}{x:Nat}(h:(if decide ((x:Int)<(a:Nat))=true then decide ((x:Int)<(b:Nat))else false)=true):x<a∧x<b:=by
 rw[iX]at h;simp only[Bool.and_eq_true,decide_eq_true_eq]at h;omega
end Go.Proofs.YtjpdadobblffmaaGreat
namespace Go.Proofs.YtjpdadobblffmaaGreat
open Go.RowKit Go.ChangeShapes Go.WideShapes Go.ChangeAt Go.Deep
def smallM:Md:=⟨[⟨[1,1],[1]⟩],[],[0],BV,BV,[],[⟨[97,100,100],0⟩],[],[⟨[],[⟨32,0,0,[]⟩,⟨32,1,0,[]⟩,⟨106,0,0,[]⟩]⟩],[]⟩
def fun0:Md:= { md0 with fn:=[0] }
theorem small_wo:smallM.WO:=by
 refine⟨⟨by simp[smallM], ?_, ?_,by simp[smallM],by simp[smallM]⟩, ?_,by simp[smallM]⟩
 ·intro x hx;obtain rfl:x=⟨[97,100,100],0⟩:=by simpa[smallM]using hx
  exact⟨by decide,by decide⟩
 ·intro x hx;obtain rfl:x=⟨[],[⟨32,0,0,[]⟩,⟨32,1,0,[]⟩,⟨106,0,0,[]⟩]⟩:=by simpa[smallM]using hx
  decide
 ·intro x hx;obtain rfl:x=⟨[],[⟨32,0,0,[]⟩,⟨32,1,0,[]⟩,⟨106,0,0,[]⟩]⟩:=by simpa[smallM]using hx
  intro i hi;simp only[List.mem_cons,List.not_mem_nil,or_false]at hi;rcases hi with rfl|rfl|rfl<;>exact⟨by decide,by decide,by decide,by decide,by decide⟩
theorem aBF:oA smallM=true:=by decide
theorem RK:(eN smallM).length≤8000∧8<(eN smallM).length:=by
 have h1:gN ⟨32,0,0,[]⟩=[32,0]:=by
  have f:aS 32=3:=by decide
  simp[gN,gW,f,rE]
 have h2:gN ⟨32,1,0,[]⟩=[32,1]:=by
  have f:aS 32=3:=by decide
  simp[gN,gW,f,rE]
 have h3:gN ⟨106,0,0,[]⟩=[106]:=by
  have f:aS 106=1:=by decide
  simp[gN,gW,f]
 have:(eN smallM).length=41:=by
  simp[eN,smallM,headB,bP,aZ,rE,QM,kB,gC,NM,eL,oN,dA,jB,h1,h2,h3,jT,BV]
 omega
theorem wG:lC smallM=true:=by
 rw[sD,aBF,Bool.true_and];exact decide_eq_true RK.1
theorem EM:kP smallM=eN smallM:=if_pos wG
theorem TP:sL (kP smallM)=(smallM,0):=by rw[EM];exact LR wG small_wo.ok
theorem YH:∀c∈kP smallM,c<256:=GO small_wo
theorem aBG:lC md0=true:=by
 have h:(eN md0).length=8:=by simp[eN,md0,headB,bP,jT,BV]
 rw[sD,show oA md0=true by decide,Bool.true_and,h];decide
theorem aBH:(kP md0).length=8:=by
 unfold kP;rw[if_pos aBG];simp[eN,md0,headB,bP,jT,BV]
theorem GQ:fun0.WO:=⟨⟨by simp[fun0,md0],by simp[fun0,md0],by simp[fun0,md0],by simp[fun0,md0],by simp[fun0,md0]⟩,by simp[fun0,md0],by simp[fun0,md0]⟩
theorem YI:lC fun0=false:=by rw[sD,show oA fun0=false by decide];rfl
theorem aGt:sL [120]=(md0,1):=by
 unfold sL;rw[if_neg (by decide),if_pos (by decide)]
theorem YJ:eqM smallM md0=false:=by decide
end Go.Proofs.YtjpdadobblffmaaGreat
namespace Go.Proofs.YtjpdadobblffmaaGreat
open Go.RowKit Go.ChangeShapes Go.WideShapes Go.ChangeAt Go.Deep
attribute [local irreducible] SW RS RD eM dR
def aGu (x:Ins):List AV:=[.int .i64 x.op,.int .i64 x.a,.int .i64 x.b,.ro 0 [] .nil]
theorem AF{l:List Ins}(h:∀x∈l,x.l=[]){k:Rk}:VLe (.ro 4 (l.map aGu) k) (.ro 4 (l.map (iv .any)) k):=by
 refine VLe.ro (by simp) ?_ ?_
 ·intro x hx;simp only[List.mem_map]at hx;obtain⟨o,-,rfl⟩:=hx;exact⟨rfl,by simp[iv,AV.cell]⟩
 ·intro i e e' h1 h2;simp only[List.getElem?_map,Option.map_eq_some_iff]at h1 h2;obtain⟨o,ho,rfl⟩:=h1;obtain⟨o',ho',rfl⟩:=h2;obtain rfl:=Option.some.inj (ho.symm.trans ho');have hl:=h o (List.mem_of_getElem? ho);refine⟨rfl,fun j a a' ha ha'=> ?_⟩;unfold iv at ha';rw[hl]at ha'
  match j with
  |0=>cases ha;cases ha';exact VLe.refl _
  |1=>cases ha;cases ha';exact VLe.refl _
  |2=>cases ha;cases ha';exact VLe.refl _
  |3=>cases ha;cases ha';exact VLe.empty
  | _ +4=>cases ha
theorem GR{es:List (List AV)}:VLe (.agg [.ro 0 [] .nil,.ro 4 es .any]) (.agg [.ro 1 ([].map aL) .any,.ro 4 es .any]):=by
 refine VLe.agg rfl fun j a a' ha ha'=> ?_
 match j with
 |0=>cases ha;cases ha';exact VLe.empty
 |1=>cases ha;cases ha';exact VLe.refl _
 | _ +2=>cases ha
theorem RL:VLe (.agg [.ro 0 [] .nil,.ro 0 [] .nil,.ro 0 [] .nil,.bool false,.int .i64 0,.int .i64 0,.bool false,.int .i64 0,.int .i64 0,.ro 0 [] .nil,.ro 0 [] .nil,.ro 0 [] .nil,.ro 0 [] .nil,.ro 0 [] .nil]) (.agg (cQ md0)):=by
 refine VLe.agg rfl fun j a a' ha ha'=> ?_
 match j with
 |0=>cases ha;cases ha';exact VLe.empty
 |1=>cases ha;cases ha';exact VLe.empty
 |2=>cases ha;cases ha';exact VLe.empty
 |3=>cases ha;cases ha';exact VLe.refl _
 |4=>cases ha;cases ha';exact VLe.refl _
 |5=>cases ha;cases ha';exact VLe.refl _
 |6=>cases ha;cases ha';exact VLe.refl _
 |7=>cases ha;cases ha';exact VLe.refl _
 |8=>cases ha;cases ha';exact VLe.refl _
 |9=>cases ha;cases ha';exact VLe.empty
 |10=>cases ha;cases ha';exact VLe.empty
 |11=>cases ha;cases ha';exact VLe.empty
 |12=>cases ha;cases ha';exact VLe.empty
 |13=>cases ha;cases ha';exact VLe.empty
 | _ +14=>cases ha
theorem AG:VLe (.agg [.ro 0 [] .nil,.ro 0 [] .nil,.ro 1 [[.int .i64 0]] .any,.bool false,.int .i64 0,.int .i64 0,.bool false,.int .i64 0,.int .i64 0,.ro 0 [] .nil,.ro 0 [] .nil,.ro 0 [] .nil,.ro 0 [] .nil,.ro 0 [] .nil]) (.agg (cQ fun0)):=by
 refine VLe.agg rfl fun j a a' ha ha'=> ?_
 match j with
 |0=>cases ha;cases ha';exact VLe.empty
 |1=>cases ha;cases ha';exact VLe.empty
 |2=>cases ha;cases ha';exact VLe.refl _
 |3=>cases ha;cases ha';exact VLe.refl _
 |4=>cases ha;cases ha';exact VLe.refl _
 |5=>cases ha;cases ha';exact VLe.refl _
 |6=>cases ha;cases ha';exact VLe.refl _
 |7=>cases ha;cases ha';exact VLe.refl _
 |8=>cases ha;cases ha';exact VLe.refl _
 |9=>cases ha;cases ha';exact VLe.empty
 |10=>cases ha;cases ha';exact VLe.empty
 |11=>cases ha;cases ha';exact VLe.empty
 |12=>cases ha;cases ha';exact VLe.empty
 |13=>cases ha;cases ha';exact VLe.empty
 | _ +14=>cases ha
def smallIs:List Ins:=[⟨32,0,0,[]⟩,⟨32,1,0,[]⟩,⟨106,0,0,[]⟩]
theorem sE:SCall Tryz.prog 50 [] [] (fun y σ=>y=.agg (cQ smallM)∧σ=[]):=by
 refine bO 15 [0] Tryz.func50 ?_;refine cV ?_;refine gF fun r0 h0=> ?_;intros
 refine iI ?_;refine cV ?_;refine eP fun r1 h1=> ?_;intros
 refine gX (j:=1) rfl bD (aK bF (by simp)) ?_;refine eP fun r2 h2=> ?_;intros
 refine gX (j:=2) rfl bD (aK bF (by simp)) ?_;refine iA ?_;refine eP fun r4 h4=> ?_;intros
 refine gX (j:=4) rfl bD (aK bF (by simp)) ?_;refine eP fun r5 h5=> ?_;intros
 refine gX (j:=5) rfl bD (aK bF (by simp)) ?_;refine iA ?_;refine eP fun r7 h7=> ?_;intros
 refine gX (j:=7) rfl bD (aK bF (by simp)) ?_;refine iA ?_;refine iA ?_;refine iA ?_;refine eP fun r11 h11=> ?_;intros
 refine gX (j:=11) rfl bD (aK bF (by simp)) ?_;refine jW (eS (j:=11) rfl (AF (l:=smallIs) (by simp[smallIs]))) ?_;refine iA ?_;refine jW (eS (j:=12) rfl GR) ?_;refine eP fun r13 h13=> ?_;intros
 refine gX (j:=13) rfl bD (aK bF (by simp)) ?_;refine iA ?_;refine kY ?_;refine an ?_;refine dM (gI (r:=r0) (cs':=cQ smallM) bW (.cons (.refl _) (.cons (.le VLe.empty) (.cons (.refl _) (.cons (.refl _) (.cons (.refl _) (.cons (.refl _) (.cons (.refl _) (.cons (.refl _) (.cons (.refl _) (.cons (.le VLe.empty) (.cons (.refl _) (.cons (.le VLe.empty) (.cons (.refl _) (.cons (.le VLe.empty) .nil))))))))))))))) ?_;refine aJ ?_;exact aE aF ⟨by rfl,rfl⟩ aA
theorem EN:(kP smallM).length≤8000∧8<(kP smallM).length:=by rw[EM];exact RK
theorem OZ:SCall Tryz.prog 16 [] [] (fun y σ=>y=.bool true∧σ=[]):=by
 have w1:=rT (kP smallM) (by have:=EN.1;omega) YH;rw[TP]at w1;have w2:=rT [120] (by decide) (by decide);rw[aGt]at w2;have w3:=uU smallM small_wo;rw[wG]at w3;have w4:=RJ smallM smallM small_wo.w small_wo.w;rw[YF]at w4;have w5:=RJ smallM md0 small_wo.w wo0.w;rw[YJ]at w5;have w6:=nP md0 wo0;have w7:=uU fun0 GQ;rw[YI]at w7;have h8:=EN.2;refine bO 59 [0,1,2,3,4,6] Tryz.func16 ?_;refine nS ?_;refine nK [] Tryz.call50 sE ?_;refine gF fun r1 h1=> ?_;intros
 refine kY ?_;refine oM ?_;refine SV Tryz.call18 (nP smallM small_wo) rfl kJ SU ?_;rintro _ σ' ⟨q9,rfl,rfl⟩ h9
 replace h9:=jE h9;repeat rcases h9 with⟨_,h9⟩
 apply bE;exact bX;refine gX (j:=9) rfl bD (aK bF (by simp)) ?_;refine mV ?_;refine cw [] Tryz.call20 w1 rfl aB aA ?_;rintro _ σ' ⟨rfl,rfl⟩ h12;refine qY ?_;refine gF fun r3 h3=> ?_;intros
 apply zB;rfl;rfl;rfl;rfl;exact iC;refine lL ?_;refine eP fun r16 h16=> ?_;intros
 refine cvm (len:=1) bW (by decide) ?_;refine gX (j:=17) rfl bD (aK bF (by simp)) ?_;refine cw [] Tryz.call20 w2 rfl aB aA ?_;rintro _ σ' ⟨rfl,rfl⟩ h18;refine qY ?_;refine gF fun r5 h5=> ?_;intros
 apply zB;rfl;rfl;rfl;rfl;exact iC;refine lL ?_;refine jN ?_;refine jK Tryz.call51 w3 rfl aQ aW ?_;refine gA ?_;refine vO ?_;refine SG ?_;rw[show decide ((8:Int)<((kP smallM).length:Int))=true from decide_eq_true (by omega)];refine mW ?_;refine lJ ?_;rw[show((0:Int)==0)=true from rfl];refine mT ?_;refine wQ ?_;refine aAh ?_;refine gy rfl rfl ?_;refine jK Tryz.call52 w4 rfl aQ aW ?_;refine mT ?_;refine wQ ?_;refine aC6 ?_;refine jW (eS (j:=39) rfl RL) ?_;refine gy rfl rfl ?_;refine jK Tryz.call52 w5 rfl aQ aW ?_;refine uA ?_;rw[show(!false)=true from rfl];refine mW ?_;refine lJ ?_;rw[show((1:Int)==1)=true from rfl];refine mT ?_;refine lo (aD (E rfl)) rfl ?_;refine aC6 ?_;refine jW (eS (j:=48) rfl RL) ?_;refine gy rfl rfl ?_;refine SV Tryz.call18 w6 rfl kJ SU ?_;rintro _ σ' ⟨q49,rfl,rfl⟩ h49
 replace h49:=jE h49;repeat rcases h49 with⟨_,h49⟩
 apply bE;exact bX;refine vO ?_;refine lJ ?_;rw[aBH,show(((8:Nat):Int)==8)=true from rfl];refine mT ?_;refine lo (aD (E rfl)) rfl ?_;refine fz4 fun r54 h54=> ?_;intros
 refine gX (j:=54) rfl bD (aK bF (by simp)) ?_;refine aC6 ?_;refine jW (eS (j:=55) rfl AG) ?_;refine gy rfl rfl ?_;refine jK Tryz.call51 w7 rfl aQ aW ?_;refine tD ?_;exact aE aF ⟨by rfl,rfl⟩ aA
def b1 (w:Int):Int:=IntKind.wrap .i64 ((BitVec.ofInt (IntKind.bits .i64) w&&&BitVec.ofInt (IntKind.bits .i64) 1).toNat:Int)
def b3 (w:Int):Int:=IntKind.wrap .i64 ((BitVec.ofInt (IntKind.bits .i64) w&&&BitVec.ofInt (IntKind.bits .i64) 3).toNat:Int)
theorem aEs(w:Int):b1 w=0∨b1 w=1:=by
 have h:(BitVec.ofInt (IntKind.bits .i64) w&&&BitVec.ofInt (IntKind.bits .i64) 1).toNat≤1:=by
  rw[BitVec.toNat_and];exact Nat.and_le_right
 unfold b1;rw[fT (by omega) (by omega)];omega
def xP (ps:List Int):List Int:=(ps.take 5).map fun p=>1+b1 p
def xQ (r:Int):List Int:=if(if decide (0<b3 r)=true then decide (b3 r<3)else false)=true then [b3 r]else []
def vC:List Ins:=[⟨32,0,0,[]⟩]
def fM (pr rs:List Int) (co:List Co):Md:=⟨[⟨pr,rs⟩,⟨[],[]⟩,⟨[1],[1]⟩,⟨[2,1],[2]⟩],[⟨[119],[102],2⟩,⟨[119],[103],1⟩],[0,3],⟨true,4,-1⟩,⟨true,1,3⟩,[⟨true,1,0⟩,⟨false,2,5⟩],[⟨[109,97,105,110],2⟩],[⟨0,[0,2,3]⟩],co,[]⟩
def aEt (pr rs:List Int) (q:Nat):List AV:=[.ro 2 ((fM pr rs []).ty.map dF) .any,.ro 3 ((fM pr rs []).im.map eE) .any,.ro 1 ([0,3].map aL) .any,.bool true,.int .i64 4,.int .i64 (-1),.bool true,.int .i64 1,.int .i64 3,
 .ro 3 ((fM pr rs []).gl.map eF) .any,.ro 2 ((fM pr rs []).ex.map dJ) .any,.ro 2 ((fM pr rs []).el.map dV) .any,.own q 0 2,.ro 2 ([].map dW) .any]
theorem aBI:VLe (.agg [.ro 0 [] .nil,.ro 0 [] .nil]) (.agg (dF ⟨[],[]⟩)):=by
 refine VLe.agg rfl fun j a a' ha ha'=> ?_
 match j with
 |0=>cases ha;cases ha';exact VLe.empty
 |1=>cases ha;cases ha';exact VLe.empty
 | _ +2=>cases ha
theorem YK{ps:List Int}{j:Nat}{w:Int}(h:ps[j]? =some w):(ps.take j).map (fun p=>1+b1 p)++ [1+b1 w]=(ps.take (j+1)).map (fun p=>1+b1 p):=by
 rw[List.take_add_one,h];simp
theorem AH(ps:List Int)(r:Int):SCall Tryz.prog 25 [.ro 1 (ps.map aL) .any,.int .i64 r] [] (fun y σ=>∃q,y=.agg (aEt (xP ps) (xQ r) q)∧σ=[(q,.arr 44 2 [[.ro 0 [] .nil,.ro 0 [] .nil],cZ ⟨[],vC⟩])]):=by
 refine bO 72 [0,1,4,5,6,15,36] Tryz.func25 ?_;refine cV ?_;refine gF fun r4 h4=> ?_;intros
 refine iI ?_;refine cV ?_;refine iA ?_;refine gF fun r5 h5=> ?_;intros
 refine gL ?_;refine cE (ks:=[0,1,4,5,6,15,36]) r5 0 3 1 (by decide) bF rfl (by decide) fun p0 hp0=> ?_
 simp only[aM,aT,and_true]at hp0;repeat rcases hp0 with⟨_,hp0⟩
 apply Exists.intro;apply And.intro;exact bW;refine iD ?_;refine cI ?_;refine lp (β:=Nat×Nat) (fun b=>⟨[(0,.ro 1 (ps.map aL) .any),(1,.int .i64 r),(4,.ptr r4 0),(5,.ptr r5 0),(6,.int .i64 b.1)],[(r5,.box 50 [.own b.2 0 ((ps.take b.1).map fun p=>1+b1 p).length,.ro 0 [] .nil]),(b.2,.arr 3 1 (((ps.take b.1).map fun p=>1+b1 p).map aL)),(r4,.box 33 [.ro 0 [] .nil,.ro 0 [] .nil,.ro 0 [] .nil,.bool false,.int .i64 0,.int .i64 0,.bool false,.int .i64 0,.int .i64 0,.ro 0 [] .nil,.ro 0 [] .nil,.ro 0 [] .nil,.ro 0 [] .nil,.ro 0 [] .nil])]⟩) (fun b=>b.1≤ps.length∧b.1≤5∧Nq b.2 r5∧Nq b.2 r4) (fun b=>5-b.1) (0,p0) aN ⟨Nat.zero_le _,Nat.zero_le _,by show Nq p0 r5;(exact dP),by show Nq p0 r4;(exact dP)⟩ ?_;rintro⟨j,p⟩ ⟨hj,hj5,n1,n2⟩;dsimp only at hj hj5 n1 n2⊢;have hpl:((ps.take j).map fun p=>1+b1 p).length=j:=by simp;omega
 refine dB ?_;refine oG ?_;refine lo (fJ (E rfl) (E rfl)) rfl ?_;refine gA ?_;refine SJ ?_;refine KK ?_;refine aC rfl (fun g3=> ?_) (fun g3=> ?_)
 ·have hlt:j<ps.length∧j<5:=aEr g3;obtain⟨w,hw⟩:∃w,ps[j]? =some w:=⟨_,List.getElem?_eq_getElem hlt.1⟩
  have hb:=aEs w;unfold b1 at hb;refine aJ ?_;refine hU [(0,true),(1,true),(2,true),(3,true),(4,true),(5,true),(6,true),(7,true),(8,false),(9,false),(10,true),(11,false)] ?_;refine kX ?_;refine rC ?_;refine UW ?_;refine fO rfl (kF (E rfl) (E rfl)) rfl ?_;refine VC ?_;refine ZM fun r26 h26=> ?_;intros
  refine vS rfl (((ps.take j).map (fun p=>1+b1 p)++ [1+b1 w]).map aL) ((ps.take j).map (fun p=>1+b1 p)++ [1+b1 w]).length ?_;refine dG fun r27 h27=> ?_;intros
  refine KD ?_;refine NL ?_;refine FK ?_;refine bH ?_;refine DL ?_;refine cI ?_;refine⟨(j+1,r27),⟨hlt.1,hlt.2,by show Nq r27 r5;(exact dP),by show Nq r27 r4;(exact dP)⟩,by show 5-(j+1)<5-j;omega, ?_⟩;dsimp only;rw[←YK hw];exact aN
 rw[show(ps.take j).map (fun p=>1+b1 p)=xP ps by
   unfold xP;rcases Nat.lt_or_ge j 5 with h5j|h5j
   ·have:j=ps.length:=by
     rcases Nat.lt_or_ge j ps.length with h|h
     ·rw[decide_eq_true (by omega),if_pos rfl,decide_eq_true (by omega)]at g3;cases g3
     ·omega
    subst this;rw[List.take_length,List.take_of_length_le (by omega)]
   ·obtain rfl:j=5:=by omega
    rfl]
 refine dM (iE (r:=r5) (q:=p) bW bD (.cons (aK bF (by simp)) (.cons (.refl _) .nil))) ?_;refine bH ?_;refine lo (kF (E rfl) (E rfl)) rfl ?_;refine lo (fQ (E rfl) (E rfl)) rfl ?_;refine gA ?_
 (first|refine ln rfl rfl rfl rfl ?_ |(refine gy rfl rfl ?_;refine lo (kF (by first|exact W rfl id|exact E rfl) (E rfl)) rfl ?_)|refine lg rfl rfl (kF (by first|exact W rfl id|exact E rfl) (E rfl)) rfl ?_);refine SJ ?_;refine KK ?_;refine sja (β:=Unit) (fun _=>⟨[(4,.ptr r4 0),(5,.ptr r5 0)],[(r5,.box 50 [.ro 1 ((xP ps).map aL) .any,.ro 1 ((xQ r).map aL) .any]),(r4,.box 33 [.ro 0 [] .nil,.ro 0 [] .nil,.ro 0 [] .nil,.bool false,.int .i64 0,.int .i64 0,.bool false,.int .i64 0,.int .i64 0,.ro 0 [] .nil,.ro 0 [] .nil,.ro 0 [] .nil,.ro 0 [] .nil,.ro 0 [] .nil])]⟩) (fun _=>True) ?_ ?_
 ·refine aC rfl (fun g6=> ?_) (fun g6=> ?_)
  ·rw[show xQ r=[b3 r]from if_pos g6];refine bH ?_;refine lo (kF (E rfl) (E rfl)) rfl ?_;refine eP fun r39 h39=> ?_;intros
   refine sG ?_;refine gX (j:=39) rfl bD (aK bF (by simp)) ?_;refine gL ?_;exact⟨(),trivial,aN⟩
  rw[show xQ r=[] by unfold xQ;exact if_neg (fun e=>by rw[show(if decide (0<b3 r)=true then decide (b3 r<3)else false)=false from g6]at e;cases e)];refine dM (gI (r:=r5) (cs':=[.ro 1 ((xP ps).map aL) .any,.ro 1 (([]:List Int).map aL) .any]) bW (.cons (.refl _) (.cons (.le VLe.empty) .nil))) ?_;refine aJ ?_;exact⟨(),trivial,aN⟩
 rintro⟨⟩-;refine oM ?_;refine iA ?_;refine jW (eS (j:=42) rfl aBI) ?_;refine eP fun r43 h43=> ?_;intros
 refine eP fun r44 h44=> ?_;intros
 refine gX (j:=43) rfl bD (aK bF (by simp)) ?_;refine gX (j:=44) rfl bD (aK bF (by simp)) ?_;refine iA ?_;refine eP fun r46 h46=> ?_;intros
 refine eP fun r47 h47=> ?_;intros
 refine gX (j:=46) rfl bD (aK bF (by simp)) ?_;refine gX (j:=47) rfl bD (aK bF (by simp)) ?_;refine iA ?_;refine eP fun r49 h49=> ?_;intros
 refine gX (j:=49) rfl bD (aK bF (by simp)) ?_;refine iA ?_;refine iA ?_;refine eP fun r52 h52=> ?_;intros
 refine gX (j:=52) rfl bD (aK bF (by simp)) ?_;refine eP fun r53 h53=> ?_;intros
 refine gX (j:=53) rfl bD (aK bF (by simp)) ?_;refine iA ?_;refine iA ?_;refine iA ?_;refine iA ?_;refine iA ?_;refine iA ?_;refine eP fun r60 h60=> ?_;intros
 refine gX (j:=60) rfl bD (aK bF (by simp)) ?_;refine iA ?_;refine eP fun r62 h62=> ?_;intros
 refine gX (j:=62) rfl bD (aK bF (by simp)) ?_;refine eP fun r63 h63=> ?_;intros
 refine gX (j:=63) rfl bD (aK bF (by simp)) ?_;refine iA ?_;refine eP fun r65 h65=> ?_;intros
 refine gX (j:=65) rfl bD (aK bF (by simp)) ?_;refine iA ?_;refine iA ?_;refine eP fun r68 h68=> ?_;intros
 refine gX (j:=68) rfl bD (aK bF (by simp)) ?_;refine jW (eS (j:=68) rfl (AF (l:=vC) (by simp[vC]))) ?_;refine iA ?_;refine jW (eS (j:=69) rfl GR) ?_;refine eP fun r70 h70=> ?_;intros
 refine iA ?_;refine kY ?_;refine an ?_;refine dM (gI (r:=r4) (cs':=aEt (xP ps) (xQ r) r70) bW (.cons (.refl _) (.cons (.refl _) (.cons (.refl _) (.cons (.refl _) (.cons (.refl _) (.cons (.refl _) (.cons (.refl _) (.cons (.refl _) (.cons (.refl _) (.cons (.refl _) (.cons (.refl _) (.cons (.refl _) (.cons (.refl _) (.cons (.le VLe.empty) .nil))))))))))))))) ?_;refine aJ ?_;exact aE aF ⟨r70,by rfl,rfl⟩ aA
def RM (q:Nat):List AV:=[.ro 2 (smallM.ty.map dF) .any,.ro 3 [] .any,.ro 1 (smallM.fn.map aL) .any,.bool false,.int .i64 0,.int .i64 0,.bool false,.int .i64 0,.int .i64 0,.ro 3 [] .any,.ro 2 (smallM.ex.map dJ) .any,.ro 2 [] .any,.own q 0 1,.ro 2 [] .any]
theorem AI:SCall Tryz.prog 50 [] [] (fun y σ=>∃q,y=.agg (RM q)∧σ=[(q,.arr 44 2 [[.ro 0 [] .nil,.ro 4 (smallIs.map (iv .any)) .any]])]):=by
 refine bO 15 [0] Tryz.func50 ?_;refine cV ?_;refine gF fun r0 h0=> ?_;intros
 refine iI ?_;refine cV ?_;refine eP fun r1 h1=> ?_;intros
 refine gX (j:=1) rfl bD (aK bF (by simp)) ?_;refine eP fun r2 h2=> ?_;intros
 refine gX (j:=2) rfl bD (aK bF (by simp)) ?_;refine iA ?_;refine eP fun r4 h4=> ?_;intros
 refine gX (j:=4) rfl bD (aK bF (by simp)) ?_;refine eP fun r5 h5=> ?_;intros
 refine gX (j:=5) rfl bD (aK bF (by simp)) ?_;refine iA ?_;refine eP fun r7 h7=> ?_;intros
 refine gX (j:=7) rfl bD (aK bF (by simp)) ?_;refine iA ?_;refine iA ?_;refine iA ?_;refine eP fun r11 h11=> ?_;intros
 refine gX (j:=11) rfl bD (aK bF (by simp)) ?_;refine jW (eS (j:=11) rfl (AF (l:=smallIs) (by simp[smallIs]))) ?_;refine iA ?_;refine eP fun r13 h13=> ?_;intros
 refine iA ?_;refine kY ?_;refine an ?_;refine dM (gI (r:=r0) (cs':=RM r13) bW (.cons (.refl _) (.cons (.le VLe.empty) (.cons (.refl _) (.cons (.refl _) (.cons (.refl _) (.cons (.refl _) (.cons (.refl _) (.cons (.refl _) (.cons (.refl _) (.cons (.le VLe.empty) (.cons (.refl _) (.cons (.le VLe.empty) (.cons (.refl _) (.cons (.le VLe.empty) .nil))))))))))))))) ?_;refine aJ ?_;exact aE aF ⟨r13,by rfl,rfl⟩ aA
theorem RN{x x' y:AV}(h:VLe x x')(hx:x'.cell=true)(hy:y.cell=true){es:List (List AV)}(hes:fZ 2 es):VLe (.ro 2 ([x,y]::es) .any) (.ro 2 ([x',y]::es) .any):=by
 refine VLe.ro (by simp) ?_ ?_
 ·intro e he;rcases List.mem_cons.1 he with rfl|he
  ·exact⟨rfl,fun a ha=>by
    simp only[List.mem_cons,List.not_mem_nil,or_false]at ha;rcases ha with rfl|rfl<;>assumption⟩
  ·exact hes e he
 ·intro i e e' h1 h2;cases i with
  |zero=>
   cases h1;cases h2
   refine⟨rfl,fun j a a' ha ha'=> ?_⟩
   match j with
   |0=>cases ha;cases ha';exact h
   |1=>cases ha;cases ha';exact VLe.refl _
   | _ +2=>cases ha
  |succ i=>
   obtain rfl:=Option.some.inj (h1.symm.trans h2);exact⟨rfl,fun j a a' ha ha'=>by obtain rfl:=Option.some.inj (ha.symm.trans ha');exact VLe.refl _⟩
theorem EO:fZ 2 []:=fun x hx=>by simp at hx
def PA:Md:= { smallM with co:=[⟨[],[⟨32,0,0,[]⟩,⟨32,1,0,[]⟩]⟩] }
def uIs:List Ins:=[⟨0,0,0,[]⟩,⟨106,0,0,[]⟩]
def PB:Md:= { smallM with co:=[⟨[],uIs⟩] }
def YL (x:Ins):Bool:=decide (0≤x.a)&&decide (x.a≤9223372036854775807)&&x.l.all (fun n=>decide (0≤n))&&decide (x.l.length≤1000000)
theorem aGv{x:Ins}(h:YL x=true):x.Ck:=by
 unfold YL at h;simp only[Bool.and_eq_true,decide_eq_true_eq,List.all_eq_true]at h;exact⟨fun _=>h.1.1.1,fun _=>h.1.2,h.2,h.1.1.2⟩
def aGw (m:Md):Bool:=m.ty.all (fun t=>decide (t.pr.length≤100)&&decide (t.rs.length≤100))&&decide (m.im.length≤1000000)&&m.co.all (fun c=>decide (c.bd.length≤100000)&&c.bd.all YL&&decide (c.ls.length≤1000))
theorem RO{m:Md}(h:aGw m=true):m.Fn:=by
 unfold aGw at h;simp only[Bool.and_eq_true,decide_eq_true_eq,List.all_eq_true]at h;obtain⟨⟨h1,h2⟩,h3⟩:=h;exact⟨⟨fun t ht=>h1 t ht,h2⟩,fun c hc=>⟨(h3 c hc).1.1,fun x hx=>aGv ((h3 c hc).1.2 x hx)⟩,fun c hc=>(h3 c hc).2⟩
theorem aEu:BW smallM 0=true:=by decide+kernel
theorem aEv:BW smallM 1=false:=by decide+kernel
theorem aEw:BW PA 0=false:=by decide+kernel
theorem aEx:BW PB 0=true:=by decide+kernel
theorem PC:SCall Tryz.prog 73 [] [] (fun y σ=>y=.bool true∧σ=[]):=by
 refine bO 2 [0] Tryz.func73 ?_;refine nS ?_;refine jK Tryz.call16 OZ rfl aQ aW ?_;refine cI ?_;exact aE aF ⟨by rfl,rfl⟩ aA
theorem PD:SCall Tryz.prog 22 [] [] (fun y σ=>y=.bool true∧σ=[]):=by
 have hs3:smallIs.length=3:=rfl;have w1:=nG smallM (RO (by decide)) 0;have w2:=nG PA (RO (by decide)) 0;have w3:=nG PB (RO (by decide)) 0;have w4:=nG smallM (RO (by decide)) 1;rw[aEu]at w1;rw[aEw]at w2;rw[aEx]at w3;rw[aEv]at w4;refine bO 43 [0,1,2,3] Tryz.func22 ?_;refine nS ?_;refine nK [] Tryz.call50 sE ?_;refine gF fun r1 h1=> ?_;intros
 refine kY ?_;refine cV ?_;refine cw [] Tryz.call50 AI rfl aB aA ?_;rintro _ σ' ⟨q1,rfl,rfl⟩ h5
 replace h5:=fU h5;repeat rcases h5 with⟨_,h5⟩
 unfold RM;apply bE;exact bX;refine gF fun r2 h2=> ?_;intros
 refine gL ?_;refine hU [(0,true),(1,true),(2,true),(3,true),(4,true),(5,true),(6,true),(7,true),(8,true),(9,true),(10,false)] ?_;refine kX ?_;refine kX ?_;refine NV ?_;refine aC4 ?_;refine UW ?_;refine z25 ?_;refine NV ?_;refine aC4 ?_;apply ZY;rfl;infer_instance;rfl;rfl;rfl;rfl;exact bW;exact atT;exact wO;rfl;exact eU;refine qH ?_;refine dM (iE (r:=r2) (q:=q1) bW bD (.cons (.refl _) (.cons (.refl _) (.cons (.refl _) (.cons (.refl _) (.cons (.refl _) (.cons (.refl _) (.cons (.refl _) (.cons (.refl _) (.cons (.refl _) (.cons (.refl _) (.cons (.refl _) (.cons (.refl _) (.cons (aK bF (by simp)) (.cons (.refl _) .nil))))))))))))))) ?_;refine dM (gI (r:=r2) (cs':=cQ PA) bW (.cons (.refl _) (.cons (.refl _) (.cons (.refl _) (.cons (.refl _) (.cons (.refl _) (.cons (.refl _) (.cons (.refl _) (.cons (.refl _) (.cons (.refl _) (.cons (.refl _) (.cons (.refl _) (.cons (.refl _) (.cons (.le (RN VLe.empty rfl rfl EO)) (.cons (.refl _) .nil))))))))))))))) ?_;refine iD ?_;refine cw [] Tryz.call50 AI rfl aB aA ?_;rintro _ σ' ⟨q2,rfl,rfl⟩ h16
 replace h16:=fU h16;repeat rcases h16 with⟨_,h16⟩
 unfold RM;apply bE;exact bX;refine gF fun r3 h3=> ?_;intros
 refine kY ?_;refine kC ?_;refine iA ?_;refine iA ?_;refine eP fun r21 h21=> ?_;intros
 refine ZK ?_;refine BL ?_;refine gX (j:=21) rfl bD (aK bF (by simp)) ?_;refine jW (eS (j:=21) rfl (AF (l:=uIs) (by simp[uIs]))) ?_;refine SF ?_;refine gQ ?_;refine dM (iE (r:=r3) (q:=q2) bW bD (.cons (.refl _) (.cons (.refl _) (.cons (.refl _) (.cons (.refl _) (.cons (.refl _) (.cons (.refl _) (.cons (.refl _) (.cons (.refl _) (.cons (.refl _) (.cons (.refl _) (.cons (.refl _) (.cons (.refl _) (.cons (aK bF (by simp)) (.cons (.refl _) .nil))))))))))))))) ?_;refine dM (gI (r:=r3) (cs':=cQ PB) bW (.cons (.refl _) (.cons (.refl _) (.cons (.refl _) (.cons (.refl _) (.cons (.refl _) (.cons (.refl _) (.cons (.refl _) (.cons (.refl _) (.cons (.refl _) (.cons (.refl _) (.cons (.refl _) (.cons (.refl _) (.cons (.le (RN VLe.empty rfl rfl EO)) (.cons (.refl _) .nil))))))))))))))) ?_;refine iD ?_;refine jK Tryz.call73 PC rfl aQ aW ?_;refine wQ ?_;refine mE rfl rfl Tryz.call23 (fun _=>w1) rfl aQ aW ?_;refine mT ?_;refine wQ ?_;refine mE rfl rfl Tryz.call23 (fun _=>w2) rfl aQ aW ?_;refine uA ?_;refine mT ?_;refine wQ ?_;refine mE rfl rfl Tryz.call23 (fun _=>w3) rfl aQ aW ?_;refine mT ?_;refine wQ ?_;refine mE rfl rfl Tryz.call23 (fun _=>w4) rfl aQ aW ?_;refine tD ?_;exact aE aF ⟨by rfl,rfl⟩ aA
def TQ:Co:=⟨[],vC⟩
end Go.Proofs.YtjpdadobblffmaaGreat
namespace Go.Proofs.YtjpdadobblffmaaGreat
open Go.RowKit Go.ChangeShapes Go.WideShapes Go.ChangeAt Go.Deep
def isB (op:Int):Bool:=op==12||(op==13||(op==14||(op==15||op==0)))
theorem lH{n a b:Int}(h:vI n a b=true):a≤n∧n≤b:=by rw[jA]at h;exact of_decide_eq_true h
theorem lX{x:Ins}(h:cW x=true)(hf:aS x.op=3∨aS x.op=4∨aS x.op=5∨aS x.op=6):0≤x.a∧(aS x.op=4→∀n∈x.l,0≤n):=by
 unfold cW at h;have h0:jI x (aS x.op)=false:=by
  cases hp:jI x (aS x.op)with
  |false=>rfl
  |true=>rw[hp]at h;simp at h
 rw[h0]at h;simp only[Bool.false_eq_true,if_false]at h;rcases hf with e|e|e|e<;>rw[e]at h⊢
 ·simp only[show((3:Int)==1||(3:Int)==7)=false from rfl,show((3:Int)==2)=false from rfl,show((3:Int)==3||(3:Int)==5)=true from rfl,Bool.false_eq_true,if_false,if_true]at h;exact⟨(lH h).1,fun e=>by simp at e⟩
 ·simp only[show((4:Int)==1||(4:Int)==7)=false from rfl,show((4:Int)==2)=false from rfl,show((4:Int)==3||(4:Int)==5)=false from rfl,show((4:Int)==4)=true from rfl,Bool.false_eq_true,if_false,if_true]at h;cases ha:vI x.a 0 1000 with
  |false=>rw[ha]at h;simp at h
  |true=>
   refine⟨(lH ha).1,fun _ n hn=> ?_⟩;rw[ha]at h;simp only[if_true]at h;split at h
   ·simp only[Bool.not_eq_true',List.any_eq_false,Bool.not_eq_true',Bool.not_eq_false]at h;have:=h n hn;have:vI n 0 1000=true:=by simpa using this
    exact(lH this).1
   ·cases h
 ·simp only[show((5:Int)==1||(5:Int)==7)=false from rfl,show((5:Int)==2)=false from rfl,show((5:Int)==3||(5:Int)==5)=true from rfl,Bool.false_eq_true,if_false,if_true]at h;exact⟨(lH h).1,fun e=>by simp at e⟩
 ·simp only[show((6:Int)==1||(6:Int)==7)=false from rfl,show((6:Int)==2)=false from rfl,show((6:Int)==3||(6:Int)==5)=false from rfl,show((6:Int)==4)=false from rfl,show((6:Int)==6)=true from rfl,Bool.false_eq_true,if_false,if_true]at h;cases ha:vI x.a 0 3 with
  |false=>rw[ha]at h;simp at h
  |true=>exact⟨(lH ha).1,fun e=>by simp at e⟩
theorem vD{x:Ins}(h:cW x=true)(hf:aS x.op=1∨aS x.op=7):x.a=0:=by
 unfold cW at h;have h0:jI x (aS x.op)=false:=by
  cases hp:jI x (aS x.op)with
  |false=>rfl
  |true=>rw[hp]at h;simp at h
 rw[h0]at h;rcases hf with e|e<;>rw[e]at h<;>simpa using h
end Go.Proofs.YtjpdadobblffmaaGreat
namespace Go.Proofs.YtjpdadobblffmaaGreat
open Go.RowKit Go.ChangeShapes Go.WideShapes Go.ChangeAt Go.Deep
attribute [local irreducible] SW RS RD eM dR
structure Md.RFn (m:Md):Prop extends m.Ck where
 bd:∀c∈m.co,c.bd.length≤400∧∀x∈c.bd,x.Ck∧(0≤x.a∨isB x.op=false∧x.op≠16∧x.op≠17)∧(isB x.op=true→(-9000000000000000000≤x.a∧x.a≤9000000000000000000)∧∀n∈x.l,-9000000000000000000≤n∧n≤9000000000000000000)
 lc:∀c∈m.co,c.ls.length≤1000
end Go.Proofs.YtjpdadobblffmaaGreat
namespace Go.Proofs.YtjpdadobblffmaaGreat
open Go.RowKit Go.ChangeShapes Go.WideShapes Go.ChangeAt Go.Deep
theorem aEz{x:Ins}(h:cW x=true):x.l.length≤50∧(aS x.op≠4→x.l=[]):=by
 unfold cW at h;have h0:jI x (aS x.op)=false:=by
  cases hp:jI x (aS x.op)with
  |false=>rfl
  |true=>rw[hp]at h;simp at h
 by_cases h4:aS x.op=4
 ·refine⟨?_,fun e=>absurd h4 e⟩;rw[h0,h4]at h;simp only[Bool.false_eq_true,if_false,show((4:Int)==1||(4:Int)==7)=false from rfl,show((4:Int)==2)=false from rfl,show((4:Int)==3||(4:Int)==5)=false from rfl,show((4:Int)==4)=true from rfl,if_true]at h;cases ha:vI x.a 0 1000 with
  |false=>rw[ha]at h;simp at h
  |true=>
   rw[ha]at h;simp only[if_true]at h;split at h
   ·next e=>have:=of_decide_eq_true e;omega
   ·cases h
 ·have:x.l=[]:=by
   unfold jI at h0;cases hl:x.l with
   |nil=>rfl
   |cons a l=>rw[hl]at h0;simp[h4]at h0
  exact⟨by rw[this];simp,fun _=>this⟩
theorem GS{x:Ins}(h:cW x=true)(hf:aS x.op=3∨aS x.op=4∨aS x.op=5∨aS x.op=6):x.a≤1000∧(aS x.op=4→∀n∈x.l,n≤1000):=by
 unfold cW at h;have h0:jI x (aS x.op)=false:=by
  cases hp:jI x (aS x.op)with
  |false=>rfl
  |true=>rw[hp]at h;simp at h
 rw[h0]at h;simp only[Bool.false_eq_true,if_false]at h;rcases hf with e|e|e|e<;>rw[e]at h⊢
 ·simp only[show((3:Int)==1||(3:Int)==7)=false from rfl,show((3:Int)==2)=false from rfl,show((3:Int)==3||(3:Int)==5)=true from rfl,Bool.false_eq_true,if_false,if_true]at h;exact⟨(lH h).2,fun e=>by simp at e⟩
 ·simp only[show((4:Int)==1||(4:Int)==7)=false from rfl,show((4:Int)==2)=false from rfl,show((4:Int)==3||(4:Int)==5)=false from rfl,show((4:Int)==4)=true from rfl,Bool.false_eq_true,if_false,if_true]at h;cases ha:vI x.a 0 1000 with
  |false=>rw[ha]at h;simp at h
  |true=>
   refine⟨(lH ha).2,fun _ n hn=> ?_⟩;rw[ha]at h;simp only[if_true]at h;split at h
   ·simp only[Bool.not_eq_true',List.any_eq_false,Bool.not_eq_true',Bool.not_eq_false]at h;have:=h n hn;have:vI n 0 1000=true:=by simpa using this
    exact(lH this).2
   ·cases h
 ·simp only[show((5:Int)==1||(5:Int)==7)=false from rfl,show((5:Int)==2)=false from rfl,show((5:Int)==3||(5:Int)==5)=true from rfl,Bool.false_eq_true,if_false,if_true]at h;exact⟨(lH h).2,fun e=>by simp at e⟩
 ·simp only[show((6:Int)==1||(6:Int)==7)=false from rfl,show((6:Int)==2)=false from rfl,show((6:Int)==3||(6:Int)==5)=false from rfl,show((6:Int)==4)=false from rfl,show((6:Int)==6)=true from rfl,Bool.false_eq_true,if_false,if_true]at h;cases ha:vI x.a 0 3 with
  |false=>rw[ha]at h;simp at h
  |true=>exact⟨Int.le_trans (lH ha).2 (by decide),fun e=>by simp at e⟩
theorem YM{x:Ins}(h:cW x=true)(ho:x.Ok):x.Ck∧(0≤x.a∨isB x.op=false∧x.op≠16∧x.op≠17)∧(isB x.op=true→(-9000000000000000000≤x.a∧x.a≤9000000000000000000)∧∀n∈x.l,-9000000000000000000≤n∧n≤9000000000000000000):=by
 obtain⟨hl1,hl2⟩:=aEz h;have f3:x.op=12∨x.op=13∨x.op=16∨x.op=32∨x.op=33∨x.op=34∨x.op=35∨x.op=36→aS x.op=3:=fun e=>by rcases e with e|e|e|e|e|e|e|e<;>rw[e]<;>decide
 have f4:x.op=14→aS x.op=4:=fun e=>by rw[e];decide
 have f5:x.op=17→aS x.op=5:=fun e=>by rw[e];decide
 have f1:x.op=15∨x.op=0→aS x.op=1:=fun e=>by rcases e with e|e<;>rw[e]<;>decide
 have hB:isB x.op=true→x.op=12∨x.op=13∨x.op=14∨x.op=15∨x.op=0:=fun e=>by unfold isB at e;simpa using e
 refine⟨⟨fun e=> ?_,fun e=>(lX h (.inr (.inl (f4 e)))).2 (f4 e),by omega,ho.2.2.2.1⟩, ?_,fun e=> ?_⟩
 ·by_cases e14:x.op=14
  ·exact(lX h (.inr (.inl (f4 e14)))).1
  ·exact(lX h (.inl (f3 (by omega)))).1
 ·by_cases hb:isB x.op=true
  ·left;rcases hB hb with e|e|e|e|e
   ·exact(lX h (.inl (f3 (by omega)))).1
   ·exact(lX h (.inl (f3 (by omega)))).1
   ·exact(lX h (.inr (.inl (f4 e)))).1
   ·rw[vD h (.inl (f1 (by omega)))];decide
   ·rw[vD h (.inl (f1 (by omega)))];decide
  ·by_cases e16:x.op=16
   ·exact .inl (lX h (.inl (f3 (by omega)))).1
   ·by_cases e17:x.op=17
    ·exact .inl (lX h (.inr (.inr (.inl (f5 e17))))).1
    ·exact .inr ⟨by simpa using hb,e16,e17⟩
 ·have key:(-9000000000000000000≤x.a∧x.a≤9000000000000000000):=by
   rcases hB e with e|e|e|e|e
   ·have:=(lX h (.inl (f3 (by omega)))).1;have:=(GS h (.inl (f3 (by omega)))).1;omega
   ·have:=(lX h (.inl (f3 (by omega)))).1;have:=(GS h (.inl (f3 (by omega)))).1;omega
   ·have:=(lX h (.inr (.inl (f4 e)))).1;have:=(GS h (.inr (.inl (f4 e)))).1;omega
   ·rw[vD h (.inl (f1 (by omega)))];decide
   ·rw[vD h (.inl (f1 (by omega)))];decide
  refine⟨key,fun n hn=> ?_⟩;by_cases h4:aS x.op=4
  ·have h1:=(lX h (.inr (.inl h4))).2 h4 n hn;have h2:=(GS h (.inr (.inl h4))).2 h4 n hn;omega
  ·rw[hl2 h4]at hn;simp at hn
theorem aEA{m:Md}(hm:oA m=true)(hw:m.WO):m.Fn∧m.RFn:=by
 have hwo:=hw.ok;unfold oA at hm;simp only[Bool.and_eq_true]at hm;obtain⟨⟨⟨⟨-,hco⟩,hls⟩,-⟩,-⟩:=hm;unfold lB at hls;simp only[Bool.and_eq_true]at hls;obtain⟨⟨⟨⟨⟨⟨hty,him⟩,-⟩,-⟩,-⟩,-⟩,-⟩:=hls;have hck:m.Ck:=⟨fun t ht=>by
  have:=(bQ hty).2 t ht;simp only[Bool.and_eq_true]at this;have h1:=(bQ this.1).1;have h2:=(bQ this.2).1;exact⟨by omega,by omega⟩,by have:=(bQ him).1;omega⟩
 have hc:∀c∈m.co,c.bd.length≤300∧c.ls.length≤32∧∀x∈c.bd,cW x=true:=fun c hcm=>by
  have:=(bQ hco).2 c hcm;unfold tN at this;simp only[Bool.and_eq_true]at this;have h1:=(bQ this.1.2).1;have h2:=(bQ this.2).1;exact⟨by omega,by omega,(bQ this.2).2⟩
 exact⟨⟨hck,fun c hcm=>⟨by have:=(hc c hcm).1;omega,fun x hx=>(YM ((hc c hcm).2.2 x hx) (hwo.1 c hcm x hx)).1⟩,fun c hcm=>by have:=(hc c hcm).2.1;omega⟩,
  ⟨hck,fun c hcm=>⟨by have:=(hc c hcm).1;omega,fun x hx=>YM ((hc c hcm).2.2 x hx) (hwo.1 c hcm x hx)⟩,fun c hcm=>by have:=(hc c hcm).2.1;omega⟩⟩
theorem aEB(ps:List Int):(xP ps).length≤5:=by unfold xP;simp;omega
theorem aEC(r:Int):(xQ r).length≤1:=by unfold xQ;exact cO (p:=fun l:List Int=>l.length≤1) (fun _=>by simp) (fun _=>by simp)
theorem aBJ(ps:List Int)(r:Int)(lo:List Int)(l:List Ins)(hl:l.length≤100000)(hi:∀x∈l,x.Ok):(fM (xP ps) (xQ r) [⟨lo,l⟩,TQ]).WO:=by
 refine⟨⟨fun x hx=> ?_,fun x hx=> ?_,fun x hx=> ?_,by simp[fM],by simp[fM]⟩,fun c hc=> ?_,fun g hg=> ?_⟩
 ·simp only[fM,List.mem_cons,List.not_mem_nil,or_false]at hx;rcases hx with rfl|rfl<;>exact⟨⟨by decide,by decide⟩,by decide,by decide⟩
 ·simp only[fM,List.mem_cons,List.not_mem_nil,or_false]at hx;subst hx;exact⟨by decide,by decide⟩
 ·simp only[fM,List.mem_cons,List.not_mem_nil,or_false]at hx;rcases hx with rfl|rfl
  ·exact hl
  ·decide
 ·simp only[fM,List.mem_cons,List.not_mem_nil,or_false]at hc;rcases hc with rfl|rfl
  ·exact hi
  ·intro x hx;simp only[TQ,vC,List.mem_cons,List.not_mem_nil,or_false]at hx;subst hx;exact⟨by decide,by decide,by decide,by decide,by decide⟩
 ·simp only[fM,List.mem_cons,List.not_mem_nil,or_false]at hg;rcases hg with rfl|rfl<;>exact⟨by decide,by decide⟩
theorem aED(ps:List Int)(r:Int)(lo:List Int)(l:List Ins)(hlo:lo.length≤5):(fM (xP ps) (xQ r) [⟨lo,l⟩,TQ]).Z:=by
 have h1:=aEB ps;have h2:=aEC r;refine⟨⟨by simp[fM],fun x hx=> ?_⟩,by simp[fM],by simp[fM],by simp[fM],by simp[fM],⟨by simp[fM],fun x hx=> ?_⟩,⟨by simp[fM],fun x hx=> ?_⟩,⟨by simp[fM],fun x hx=> ?_⟩⟩
 ·simp only[fM,List.mem_cons,List.not_mem_nil,or_false]at hx;rcases hx with rfl|rfl|rfl|rfl<;>(constructor<;>simp<;>omega)
 ·simp only[fM,List.mem_cons,List.not_mem_nil,or_false]at hx;subst hx;simp
 ·simp only[fM,List.mem_cons,List.not_mem_nil,or_false]at hx;rcases hx with rfl|rfl
  ·show lo.length≤ _;omega
  ·decide
 ·simp[fM]at hx
def nTy (m:Md) (t:Int):Bool:=decide ((m.ty.length:Int)≤t)
def ZN (m:Md) (f:Int):Bool:=decide ((m.im.length:Int)+(m.fn.length:Int)≤f)
def YN (a b:List Nat):Bool:=(cU a).toList==(cU b).toList
def aGx (nf:Int→Bool) (pre:List Ex) (x:Ex):Bool:=nf x.fn||pre.any fun y=>YN x.nm y.nm
def twN (nf:Int→Bool) (l:List Ex):Nat→Bool
 |0=>false
 |j+1=>twN nf l j||aGx nf (l.take j) (l.getD j ⟨[],0⟩)
def aBK (l:Li):Bool:=l.has&&decide (0≤l.mx)&&decide (l.mx<l.mn)
def MJ (m:Md) (x:El):Bool:=x.fs.any (ZN m)|| !m.tb.has
def pQ (m:Md):Nat→Bool
 |0=>true
 |j+1=>pQ m j&&BW m j
def jJ (m:Md):Int:=
 if lC m=false then 0
 else if m.im.any (fun x=>nTy m x.ty)=true then 2
 else if m.fn.any (nTy m)=true then 3
 else if aBK m.tb=true then 4
 else if aBK m.me=true then 5
 else if twN (ZN m) m.ex m.ex.length=true then 7
 else if m.el.any (MJ m)=true then 9
 else if pQ m m.co.length=false then 10
 else if(!m.da.isEmpty&& !m.me.has)=true then 11
 else-1
theorem GT{m:Md}{n j:Nat}(hj:j<n)(h:BW m j=false):pQ m n=false:=by
 induction n with
 |zero=>omega
 |succ n ih=>
  unfold pQ;rw[Bool.and_eq_false_iff];rcases Nat.lt_or_ge j n with hlt|hge
  ·exact .inl (ih hlt)
  ·rw[show n=j by omega];exact .inr h
theorem YO{nf:Int→Bool}{l:List Ex}{j:Nat}{x:Ex}(hx:l[j]? =some x):twN nf l (j+1)=(twN nf l j||(nf x.fn||(l.take j).any fun y=>YN x.nm y.nm)):=by
 show(twN nf l j||aGx nf (l.take j) (l.getD j ⟨[],0⟩))=_;rw[List.getD_eq_getElem?_getD,hx];rfl
theorem YP{m:Md}:((if decide ((0:Int)<(m.el.length:Int))=true then !m.tb.has else false)||m.el.any fun x=>x.fs.any (ZN m))=m.el.any (MJ m):=by
 rw[Bool.eq_iff_iff];simp only[Bool.or_eq_true,List.any_eq_true,MJ];constructor
 ·rintro(h|⟨x,hx,h⟩)
  ·split at h
   ·next h1=>
    have:0<m.el.length:=by have:=of_decide_eq_true h1;omega
    exact⟨m.el[0],List.getElem_mem this,.inr h⟩
   ·cases h
  ·exact⟨x,hx,.inl h⟩
 ·rintro⟨x,hx,h|h⟩
  ·exact .inr ⟨x,hx,h⟩
  ·left;rw[if_pos (decide_eq_true (by have:=List.length_pos_of_mem hx;omega))];exact h
theorem YQ{m:Md}:(if decide ((0:Int)<(m.da.length:Int))=true then !m.me.has else false)=(!m.da.isEmpty&& !m.me.has):=by
 cases m.da with
 |nil=>rfl
 |cons x l=>rw[if_pos (decide_eq_true (by simp))];rfl
theorem aHU(a b:Bool):a=true∨(a=false∧b=true)∨(a=false∧b=false):=by cases a<;>cases b<;>simp
end Go.Proofs.YtjpdadobblffmaaGreat
namespace Go.Proofs.YtjpdadobblffmaaGreat
open Go.RowKit Go.ChangeShapes Go.WideShapes Go.ChangeAt Go.Deep
attribute [local irreducible] SW RS RD eM dR
theorem PE(m:Md)(r:Nat):bK Tryz.prog 83 [.ptr r 0] [(r,.box 33 (cQ m))] (fun n=>.int .i64 n) (nTy m) (fun _=>True):=by
 refine⟨Tryz.call83,fun n _=> ?_⟩;refine bO 9 [0,1,3] Tryz.func83 ?_;unfold cQ;refine kM ?_;refine dL ?_;refine oG ?_;refine uD ?_;exact aE aF ⟨by rfl,rfl⟩ aA
theorem AJ(m:Md)(hl:m.im.length≤1000000∧m.fn.length≤1000000)(r:Nat):bK Tryz.prog 84 [.ptr r 0] [(r,.box 33 (cQ m))] (fun n=>.int .i64 n) (ZN m) (fun _=>True):=by
 obtain⟨l1,l2⟩:=hl;refine⟨Tryz.call84,fun n _=> ?_⟩;refine bO 13 [0,1,3] Tryz.func84 ?_;unfold cQ;refine kM ?_;refine dL ?_;refine oG ?_;refine dL ?_;refine oG ?_;refine DL ?_;refine uD ?_;exact aE aF ⟨by rfl,rfl⟩ aA
theorem aGy(x:Ex)(r:Nat):bK Tryz.prog 86 [.ptr r 0] [(r,.box 66 (dJ x))] (fun y=>.agg (dJ y)) (fun y=>YN x.nm y.nm) (fun _=>True):=by
 refine⟨Tryz.call86,fun n _=> ?_⟩;refine bO 9 [0,1,2,3] Tryz.func86 ?_;unfold dJ;refine cV ?_;refine gM fun r2 h2=> ?_;intros
 refine gT ?_;refine dL ?_;refine lo (qP (E rfl) (E rfl)) rfl ?_;refine cI ?_;exact aE aF ⟨by rfl,rfl⟩ aA
theorem aGz(m:Md)(r s:Nat)(hN:Nq r s):bK Tryz.prog 88 [.ptr s 0] [(s,.box 83 [.fn (.func 83) [] [.ptr r 0]]),(r,.box 33 (cQ m))] (fun x=>.agg (eE x)) (fun x=>nTy m x.ty) (fun _=>True):=by
 refine⟨Tryz.call88,fun x _=> ?_⟩;obtain⟨a,b,ty⟩:=x;refine bO 8 [0,1,2,3] Tryz.func88 ?_;unfold eE;refine cV ?_;refine gM fun r2 h2=> ?_;intros
 refine lL ?_;refine qE ?_;refine dL ?_;refine mO [(r,.box 33 (cQ m))] rfl (PE m r).1 ((PE m r).2 ty True.intro) rfl aB aA ?_;rintro _ σ' ⟨rfl,rfl⟩ h7;refine dS ?_;exact aE aF ⟨by rfl,rfl⟩ aA
theorem aGA(m:Md)(hl:m.im.length≤1000000∧m.fn.length≤1000000)(r s:Nat)(hN:Nq r s):bK Tryz.prog 92 [.ptr s 0] [(s,.box 83 [.fn (.func 84) [] [.ptr r 0]]),(r,.box 33 (cQ m))] (fun x=>.agg (dV x)) (fun x=>x.fs.any (ZN m)) (fun _=>True):=by
 refine⟨Tryz.call92,fun x _=> ?_⟩;obtain⟨o,fs⟩:=x;refine bO 8 [0,1,2,3] Tryz.func92 ?_;unfold dV;refine cV ?_;refine gM fun r2 h2=> ?_;intros
 refine gT ?_;refine qE ?_;refine cw [(r,.box 33 (cQ m))] Tryz.call89 (GJ (AJ m hl r) fs (fun _ _=>True.intro)) rfl aB aA ?_;rintro _ σ' ⟨rfl,rfl⟩ h7;refine dS ?_;exact aE aF ⟨by rfl,rfl⟩ aA
theorem wY(l:Li):SCall Tryz.prog 90 [.agg (gG l)] [] (fun y σ=>y=.bool (aBK l)∧σ=[]):=by
 obtain⟨h,a,b⟩:=l;have hB:aBK ⟨h,a,b⟩=(if(if h=true then decide (0≤b)else false)=true then decide (b<a)else false):=by rw[iX,iX];rfl
 rw[hB];refine bO 17 [0,1,2] Tryz.func90 ?_;unfold gG;refine cV ?_;refine gM fun r1 h1=> ?_;intros
 refine gT ?_;refine kS ?_;refine UZ ?_;refine mT ?_;refine kS ?_;refine mZ ?_;refine aCX ?_;refine iS ?_;exact aE aF ⟨by rfl,rfl⟩ aA
theorem iY(m:Md)(hw:m.WO)(hz:m.Z):SCall Tryz.prog 28 [.agg (cQ m)] [] (fun y σ=>y=.tup [.int .i64 (jJ m),.bool (jJ m==-1)]∧σ=[]):=by
 have hl:m.im.length≤1000000∧m.fn.length≤1000000:=⟨hz.im,hz.fn⟩
 have hzx:=hz.ex;have hzc:=hz.co.1;have hF:=fun(h:lC m=true) k=>nG m (aEA (uV h).1 hw).1 k
 refine bO 96 [0,1,2,3,4,5,6,7,8,9,13,14,15,16,36,40,45,50,54,58,60,77,78,79,84,95] Tryz.func28 ?_;refine cV ?_;refine gM fun r1 h1=> ?_;intros
 refine rZ ?_;refine iD ?_;refine SH ?_;refine gF fun r4 h4=> ?_;intros
 refine kY ?_;refine cV ?_;refine SH ?_;refine gF fun r5 h5=> ?_;intros
 refine kY ?_;refine nS ?_;refine dL ?_;refine lT ?_;refine lp (β:=Nat) (fun j=>⟨[(1,.ptr r1 0),(2,.int .i64 0),(3,.bool false),(4,.ptr r4 0),(5,.ptr r5 0),(6,.bool (twN (ZN m) m.ex j)),(13,.ro 2 (m.ex.map dJ) .any),(14,.int .i64 m.ex.length),(15,.int .i64 j)],[(r5,.box 83 [.fn (.func 84) [] [.ptr r1 0]]),(r4,.box 83 [.fn (.func 83) [] [.ptr r1 0]]),(r1,.box 33 (cQ m))]⟩) (fun j=>j≤m.ex.length) (fun j=>m.ex.length-j) 0 aN (Nat.zero_le _) ?_;rintro j hj;refine eV ?_;refine aC rfl (fun g5=> ?_) (fun g5=> ?_)
 ·have hlt:j<m.ex.length:=by simpa using g5
  obtain⟨x,hx⟩:∃x,m.ex[j]? =some x:=⟨_,List.getElem?_eq_getElem hlt⟩
  have hnx:=YO (nf:=ZN m) hx;refine bH ?_;refine uE ?_;refine gF fun r8 h8=> ?_;intros
  refine zF ?_;rcases aHU (twN (ZN m) m.ex j) (ZN m x.fn)with hT|⟨hT,hB⟩|⟨hT,hB⟩
  ·rw[hT];refine jX ?_;first|refine ln rfl rfl rfl rfl ?_ |(refine gy rfl rfl ?_;(first|refine lo (aU (E rfl) rfl bF (fun _=>rfl)) rfl ?_ |refine lo (aU (E rfl) rfl bF (fun _=>by assumption)) rfl ?_ |refine lo (aP (E rfl) rfl (fun hc=>by first|rfl|exact aG (by assumption)|assumption|exact aG (aX (by omega))) (fun _=>rfl)) rfl ?_))|refine lg rfl rfl (aU (E rfl) rfl bF (fun _=>rfl)) rfl ?_ |refine lg rfl rfl (aU (E rfl) rfl bF (fun _=>by assumption)) rfl ?_ |refine lg rfl rfl (aP (E rfl) rfl (fun hc=>by first|rfl|exact aG (by assumption)|assumption|exact aG (aX (by(try simp at hc)<;>omega))) (fun _=>rfl)) rfl ?_
   refine mZ ?_;refine ln rfl rfl rfl rfl ?_;refine gK ?_;refine kS ?_;refine eJ ?_;first|refine ln rfl rfl rfl rfl ?_ |(refine gy rfl rfl ?_;(first|refine lo (eR (by first|exact W rfl id|exact E rfl) OB.none (OB.some (by first|exact W rfl id|exact E rfl) (fun _=>by first|rfl|exact(Int.toNat_of_nonneg (by omega)).symm)) (fun _=>by first|(simp only[List.length_map];omega)|omega)) rfl ?_ |refine lo (eC (by first|exact W rfl id|exact E rfl) bF OB.none (OB.some (by first|exact W rfl id|exact E rfl) (fun _=>by first|rfl|exact(Int.toNat_of_nonneg (by omega)).symm)) (fun _=>by first|(simp only[List.length_map];omega)|omega)) rfl ?_))|refine lg rfl rfl (eR (by first|exact W rfl id|exact E rfl) OB.none (OB.some (by first|exact W rfl id|exact E rfl) (fun _=>by first|rfl|exact(Int.toNat_of_nonneg (by omega)).symm)) (fun _=>by first|(simp only[List.length_map];omega)|omega)) rfl ?_ |refine lg rfl rfl (eC (by first|exact W rfl id|exact E rfl) bF OB.none (OB.some (by first|exact W rfl id|exact E rfl) (fun _=>by first|rfl|exact(Int.toNat_of_nonneg (by omega)).symm)) (fun _=>by first|(simp only[List.length_map];omega)|omega)) rfl ?_
   refine xK ?_;refine gK ?_;refine lL ?_;refine NZ ?_;refine⟨j+1,by show j+1≤m.ex.length;omega,by show m.ex.length-(j+1)<m.ex.length-j;omega, ?_⟩;rw[hnx,hT];exact aN
  ·rw[hT];refine jX ?_;first|refine ln rfl rfl rfl rfl ?_ |(refine gy rfl rfl ?_;(first|refine lo (aU (E rfl) rfl bF (fun _=>rfl)) rfl ?_ |refine lo (aU (E rfl) rfl bF (fun _=>by assumption)) rfl ?_ |refine lo (aP (E rfl) rfl (fun hc=>by first|rfl|exact aG (by assumption)|assumption|exact aG (aX (by omega))) (fun _=>rfl)) rfl ?_))|refine lg rfl rfl (aU (E rfl) rfl bF (fun _=>rfl)) rfl ?_ |refine lg rfl rfl (aU (E rfl) rfl bF (fun _=>by assumption)) rfl ?_ |refine lg rfl rfl (aP (E rfl) rfl (fun hc=>by first|rfl|exact aG (by assumption)|assumption|exact aG (aX (by(try simp at hc)<;>omega))) (fun _=>rfl)) rfl ?_
   refine mZ ?_;refine gy rfl rfl ?_;refine mO [(r1,.box 33 (cQ m))] rfl (AJ m hl r1).1 ((AJ m hl r1).2 x.fn True.intro) rfl aB aA ?_;rintro _ σ' ⟨rfl,rfl⟩ h25;apply bE;exact bX;rw[hB];refine gK ?_;refine kS ?_;refine eJ ?_;first|refine ln rfl rfl rfl rfl ?_ |(refine gy rfl rfl ?_;(first|refine lo (eR (by first|exact W rfl id|exact E rfl) OB.none (OB.some (by first|exact W rfl id|exact E rfl) (fun _=>by first|rfl|exact(Int.toNat_of_nonneg (by omega)).symm)) (fun _=>by first|(simp only[List.length_map];omega)|omega)) rfl ?_ |refine lo (eC (by first|exact W rfl id|exact E rfl) bF OB.none (OB.some (by first|exact W rfl id|exact E rfl) (fun _=>by first|rfl|exact(Int.toNat_of_nonneg (by omega)).symm)) (fun _=>by first|(simp only[List.length_map];omega)|omega)) rfl ?_))|refine lg rfl rfl (eR (by first|exact W rfl id|exact E rfl) OB.none (OB.some (by first|exact W rfl id|exact E rfl) (fun _=>by first|rfl|exact(Int.toNat_of_nonneg (by omega)).symm)) (fun _=>by first|(simp only[List.length_map];omega)|omega)) rfl ?_ |refine lg rfl rfl (eC (by first|exact W rfl id|exact E rfl) bF OB.none (OB.some (by first|exact W rfl id|exact E rfl) (fun _=>by first|rfl|exact(Int.toNat_of_nonneg (by omega)).symm)) (fun _=>by first|(simp only[List.length_map];omega)|omega)) rfl ?_
   refine xK ?_;refine gK ?_;refine lL ?_;refine NZ ?_;refine⟨j+1,by show j+1≤m.ex.length;omega,by show m.ex.length-(j+1)<m.ex.length-j;omega, ?_⟩;rw[hnx,hT,hB];exact aN
  ·rw[hT];refine jX ?_;first|refine ln rfl rfl rfl rfl ?_ |(refine gy rfl rfl ?_;(first|refine lo (aU (E rfl) rfl bF (fun _=>rfl)) rfl ?_ |refine lo (aU (E rfl) rfl bF (fun _=>by assumption)) rfl ?_ |refine lo (aP (E rfl) rfl (fun hc=>by first|rfl|exact aG (by assumption)|assumption|exact aG (aX (by omega))) (fun _=>rfl)) rfl ?_))|refine lg rfl rfl (aU (E rfl) rfl bF (fun _=>rfl)) rfl ?_ |refine lg rfl rfl (aU (E rfl) rfl bF (fun _=>by assumption)) rfl ?_ |refine lg rfl rfl (aP (E rfl) rfl (fun hc=>by first|rfl|exact aG (by assumption)|assumption|exact aG (aX (by(try simp at hc)<;>omega))) (fun _=>rfl)) rfl ?_
   refine mZ ?_;refine gy rfl rfl ?_;refine mO [(r1,.box 33 (cQ m))] rfl (AJ m hl r1).1 ((AJ m hl r1).2 x.fn True.intro) rfl aB aA ?_;rintro _ σ' ⟨rfl,rfl⟩ h25;apply bE;exact bX;rw[hB];refine gK ?_;refine kS ?_;refine eJ ?_;first|refine ln rfl rfl rfl rfl ?_ |(refine gy rfl rfl ?_;(first|refine lo (eR (by first|exact W rfl id|exact E rfl) OB.none (OB.some (by first|exact W rfl id|exact E rfl) (fun _=>by first|rfl|exact(Int.toNat_of_nonneg (by omega)).symm)) (fun _=>by first|(simp only[List.length_map];omega)|omega)) rfl ?_ |refine lo (eC (by first|exact W rfl id|exact E rfl) bF OB.none (OB.some (by first|exact W rfl id|exact E rfl) (fun _=>by first|rfl|exact(Int.toNat_of_nonneg (by omega)).symm)) (fun _=>by first|(simp only[List.length_map];omega)|omega)) rfl ?_))|refine lg rfl rfl (eR (by first|exact W rfl id|exact E rfl) OB.none (OB.some (by first|exact W rfl id|exact E rfl) (fun _=>by first|rfl|exact(Int.toNat_of_nonneg (by omega)).symm)) (fun _=>by first|(simp only[List.length_map];omega)|omega)) rfl ?_ |refine lg rfl rfl (eC (by first|exact W rfl id|exact E rfl) bF OB.none (OB.some (by first|exact W rfl id|exact E rfl) (fun _=>by first|rfl|exact(Int.toNat_of_nonneg (by omega)).symm)) (fun _=>by first|(simp only[List.length_map];omega)|omega)) rfl ?_
   rw[show List.take (j-0) (List.drop 0 (m.ex.map dJ))=(m.ex.take j).map dJ by simp[List.map_take]];refine aB0 ?_;refine nK [(r8,.box 66 (dJ x))] Tryz.call85 (XF (aGy x r8) (m.ex.take j) (fun _ _=>True.intro)) ?_;refine gK ?_;refine lL ?_;refine NZ ?_;refine⟨j+1,by show j+1≤m.ex.length;omega,by show m.ex.length-(j+1)<m.ex.length-j;omega, ?_⟩;rw[hnx,hT,hB,Bool.false_or,Bool.false_or];exact aN
 obtain rfl:j=m.ex.length:=by simp at g5;omega
 refine oM ?_;refine jK Tryz.call51 (uU m hw) rfl aQ aW ?_;refine lo (fA (E rfl)) rfl ?_;refine cI ?_;refine aC rfl (fun g9=> ?_) (fun g9=> ?_)
 ·refine aJ ?_;have hE:jJ m=0:=by unfold jJ;rw[if_pos (by simpa using g9)]
  refine pW ?_;exact aE aF ⟨by rw[hE];rfl,rfl⟩ aA
 refine aJ ?_;have h0:¬lC m=false:=by simpa using g9
 refine nL ?_;refine SH ?_;refine cw [(r4,.box 83 [.fn (.func 83) [] [.ptr r1 0]]),(r1,.box 33 (cQ m))] Tryz.call87 (XE (aGz m r1 r4 h4) m.im (fun _ _=>True.intro)) rfl aB aA ?_;rintro _ σ' ⟨rfl,rfl⟩ h44;refine dS ?_;refine aC rfl (fun g11=> ?_) (fun g11=> ?_)
 ·refine aJ ?_;have hE:jJ m=2:=by unfold jJ;rw[if_neg h0,if_pos g11]
  refine pW ?_;exact aE aF ⟨by rw[hE];rfl,rfl⟩ aA
 refine kC ?_;refine qE ?_;refine cw [(r1,.box 33 (cQ m))] Tryz.call89 (GJ (PE m r1) m.fn (fun _ _=>True.intro)) rfl aB aA ?_;rintro _ σ' ⟨rfl,rfl⟩ h49;refine dS ?_;refine aC rfl (fun g13=> ?_) (fun g13=> ?_)
 ·refine aJ ?_;have hE:jJ m=3:=by unfold jJ;rw[if_neg h0,if_neg (by simp[g11]),if_pos g13]
  refine pW ?_;exact aE aF ⟨by rw[hE];rfl,rfl⟩ aA
 refine cV ?_;refine sG ?_;refine jN ?_;refine jK Tryz.call90 (wY m.tb) rfl aQ aW ?_;refine cI ?_;refine aC rfl (fun g15=> ?_) (fun g15=> ?_)
 ·refine aJ ?_;have hE:jJ m=4:=by unfold jJ;rw[if_neg h0,if_neg (by simp[g11]),if_neg (by simp[g13]),if_pos g15]
  refine pW ?_;exact aE aF ⟨by rw[hE];rfl,rfl⟩ aA
 refine cV ?_;refine sG ?_;refine jN ?_;refine jK Tryz.call90 (wY m.me) rfl aQ aW ?_;refine cI ?_;refine aC rfl (fun g17=> ?_) (fun g17=> ?_)
 ·refine aJ ?_;have hE:jJ m=5:=by unfold jJ;rw[if_neg h0,if_neg (by simp[g11]),if_neg (by simp[g13]),if_neg (by simp[g15]),if_pos g17]
  refine pW ?_;exact aE aF ⟨by rw[hE];rfl,rfl⟩ aA
 refine eK ?_;refine aC rfl (fun g19=> ?_) (fun g19=> ?_)
 ·refine aJ ?_;have hE:jJ m=7:=by unfold jJ;rw[if_neg h0,if_neg (by simp[g11]),if_neg (by simp[g13]),if_neg (by simp[g15]),if_neg (by simp[g17]),if_pos g19]
  refine pW ?_;exact aE aF ⟨by rw[hE];rfl,rfl⟩ aA
 refine kC ?_;refine oG ?_;refine lo (fQ (E rfl) (E rfl)) rfl ?_;refine FL ?_;refine SL ?_;refine tD ?_;apply kW rfl;exact fL
 ·intro _;(refine aJ ?_);refine nL ?_;refine SH ?_;refine cw [(r5,.box 83 [.fn (.func 84) [] [.ptr r1 0]]),(r1,.box 33 (cQ m))] Tryz.call91 (XG (aGA m hl r1 r5 h5) m.el (fun _ _=>True.intro)) rfl aB aA ?_;rintro _ σ' ⟨rfl,rfl⟩ h74;refine dS ?_;exact aN
 refine aJ ?_;refine aC rfl (fun g21=> ?_) (fun g21=> ?_)
 ·refine aJ ?_;have h9:m.el.any (MJ m)=true:=by rw[←YP];exact g21
  have hE:jJ m=9:=by unfold jJ;rw[if_neg h0,if_neg (by simp[g11]),if_neg (by simp[g13]),if_neg (by simp[g15]),if_neg (by simp[g17]),if_neg (by simp[g19]),if_pos h9]
  refine pW ?_;exact aE aF ⟨by rw[hE];rfl,rfl⟩ aA
 refine aJ ?_;have h9:m.el.any (MJ m)=false:=by rw[←YP];exact g21
 have hV:jJ m=if pQ m m.co.length=false then 10 else if(!m.da.isEmpty&& !m.me.has)=true then 11 else-1:=by unfold jJ;rw[if_neg h0,if_neg (by simp[g11]),if_neg (by simp[g13]),if_neg (by simp[g15]),if_neg (by simp[g17]),if_neg (by simp[g19]),if_neg (by simp[h9])]
 refine nL ?_;refine lT ?_;refine lp (β:=Nat) (fun j=>⟨[(1,.ptr r1 0),(2,.int .i64 0),(3,.bool false),(77,.int .i64 m.co.length),(78,.int .i64 j)],[(r1,.box 33 (cQ m))]⟩) (fun j=>j≤m.co.length∧pQ m j=true) (fun j=>m.co.length-j) 0 aN ⟨Nat.zero_le _,rfl⟩ ?_;rintro j ⟨hj,hc⟩;refine eV ?_;refine aC rfl (fun g25=> ?_) (fun g25=> ?_)
 ·have hlt:j<m.co.length:=by simpa using g25
  refine eK ?_;refine iD ?_;refine jN ?_;refine lo (aD (E rfl)) rfl ?_;refine jK Tryz.call23 (hF (by simpa using h0) j) rfl aQ aW ?_;refine vQ ?_;refine aC rfl (fun g27=> ?_) (fun g27=> ?_)
  ·refine aJ ?_;have hE:jJ m=10:=by rw[hV,if_pos (GT hlt (by simpa using g27))]
   refine pW ?_;exact aE aF ⟨by rw[hE];rfl,rfl⟩ aA
  refine gS ?_;refine⟨j+1,⟨by omega,by unfold pQ;rw[hc];simpa using g27⟩,by show m.co.length-(j+1)<m.co.length-j;omega, ?_⟩;exact aN
 obtain rfl:j=m.co.length:=by simp at g25;omega
 refine kC ?_;refine oG ?_;refine lo (fQ (E rfl) (E rfl)) rfl ?_;refine FL ?_;refine SL ?_;refine aB5 ?_;refine aC rfl (fun g30=> ?_) (fun g30=> ?_)
 ·refine aJ ?_;have hE:jJ m=11:=by rw[hV,if_neg (by simp[hc]),if_pos (by rw[←YQ];exact g30)]
  refine pW ?_;exact aE aF ⟨by rw[hE];rfl,rfl⟩ aA
 refine aJ ?_;have hE:jJ m=-1:=by rw[hV,if_neg (by simp[hc]),if_neg (by rw[←YQ,g30];simp)]
 refine pW ?_;exact aE aF ⟨by rw[hE];rfl,rfl⟩ aA
end Go.Proofs.YtjpdadobblffmaaGreat
namespace Go.Proofs.YtjpdadobblffmaaGreat
open Go.RowKit Go.ChangeShapes Go.WideShapes Go.ChangeAt Go.Deep Go.MapKept
section
variable {P : Program} {n : Nat} {s : ASt} {K : ASt → Prop} {ty t kt et : TypeId} {d : Nat} {x y z : Operand}
theorem wZ(hd:d<n)(hK:∀r,Fresh r s.σ→K ⟨(d,.mp r)::s.fr,(r,.map [] [])::s.σ⟩):Hop P n (.makeMap t none) ty (some d) s [] K:=by
 intro M F N a w o ho _ hdst hr next Q hnext
 have hrun:(execOp a.eval o).run P w=.ok (.value (.map (some w.heap.size))) (w.alloc (.map #[] 0)):=by
  have:=run_makeMap (P:=P) t w;simp[execOp,ho,this]
 unfold Oper.wp;rw[hrun,Oper.upon_value,hdst];have hE:ER (eI M N (.row w.heap.size 0 0)) F (w.alloc (.map #[] 0)) N (.map [] []):=
  ⟨w.heap.size,#[],0,bJ _,heap_alloc_new w _,rfl,rfl,fun i k e hi=>by simp at hi,fun i x e hi=>by simp at hi⟩
 obtain⟨r1,e1,n1⟩:=hr.new_ (w':=w.alloc (.map #[] 0)) (.row w.heap.size 0 0) (.map [] []) (fun k hk=>Below.heap_alloc _ _ _ hk) ⟨rfl,rfl,rfl⟩ (by simp)
  (fun g hg=>by simp only[bB,bJ,Option.some.injEq]at hg;omega) hE
 exact hnext _ F (N+1) _ _ ⟨(d,.mp N)::s.fr,(N,.map [] [])::s.σ⟩ (r1.put hd (.mp (bJ _))) e1 ⟨rfl,rfl,rfl,by simp,fun k hk _=>Below.heap_alloc _ _ _ hk⟩ (hK N n1)
variable {c : Bool}
end
end Go.Proofs.YtjpdadobblffmaaGreat
namespace Go.Proofs.YtjpdadobblffmaaGreat
open Go.RowKit Go.ChangeShapes Go.WideShapes Go.ChangeAt Go.Deep
attribute [local irreducible] SW RS RD eM dR
theorem xA(m:Md)(wa:m.WO)(hm:lC m=true):SCall Tryz.prog 95 [.agg (cQ m)] [] (fun y σ=>y=.agg (cQ m)∧σ=[]):=by
 obtain⟨ty,im,fn,tb,me,gl,ex,el,co,da⟩:=m;have hen:kP ⟨ty,im,fn,tb,me,gl,ex,el,co,da⟩=eN ⟨ty,im,fn,tb,me,gl,ex,el,co,da⟩:=if_pos hm;have hdec:sL (kP ⟨ty,im,fn,tb,me,gl,ex,el,co,da⟩)=(⟨ty,im,fn,tb,me,gl,ex,el,co,da⟩,0):=by rw[hen];exact LR hm wa.ok
 have hw8:=(uV hm).2;have wd:=rT (kP ⟨ty,im,fn,tb,me,gl,ex,el,co,da⟩) (by rw[hen];omega) (GO wa);rw[hdec]at wd;refine bO 12 [0,1,2,3] Tryz.func95 ?_;refine cV ?_;refine gM fun r1 h1=> ?_;intros
 refine gF fun r2 h2=> ?_;intros
 refine iI ?_;refine oM ?_;refine SV Tryz.call18 (nP ⟨ty,im,fn,tb,me,gl,ex,el,co,da⟩ wa) rfl kJ SU ?_;rintro _ σ' ⟨q7,rfl,rfl⟩ h7
 replace h7:=jE h7;repeat rcases h7 with⟨_,h7⟩
 apply bE;exact bX;refine gX (j:=7) rfl bD (aK bF (by simp)) ?_;refine cw [] Tryz.call20 wd rfl aB aA ?_;rintro _ σ' ⟨rfl,rfl⟩ h8;refine qY ?_;refine gF fun r3 h3=> ?_;intros
 apply zB;rfl;rfl;rfl;rfl;exact iC;refine lL ?_;refine jN ?_;refine gL ?_;exact aE aF ⟨by rfl,rfl⟩ aA
end Go.Proofs.YtjpdadobblffmaaGreat
namespace Go.Proofs.YtjpdadobblffmaaGreat
open Go.RowKit Go.ChangeShapes Go.WideShapes Go.ChangeAt Go.Deep
end Go.Proofs.YtjpdadobblffmaaGreat
