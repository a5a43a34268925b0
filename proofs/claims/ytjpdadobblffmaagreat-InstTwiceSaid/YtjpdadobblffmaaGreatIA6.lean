import Derived.Test.YtjpdadobblffmaaGreatIA5
import Derived.Test.YtjpdadobblffmaaGreatIA2
import Derived.Test.YtjpdadobblffmaaGreatIA4
import Derived.Shelf.Spec.SlicesInsertGrow
set_option linter.unusedSimpArgs false
set_option linter.unusedVariables false
set_option maxRecDepth 100000
set_option maxHeartbeats 4000000
namespace Go.Proofs.YtjpdadobblffmaaGreat
open Go.RowKit Go.ChangeShapes Go.WideShapes Go.ChangeAt Go.Deep
attribute [local irreducible] SW RS RD eM dR
def MK (x:Gl):List AV:=[.int .i64 x.kd,.int .i64 x.n]
theorem PF{α β:Type}{f:α→β}{l:List α}{k:Nat}{x:α}(h:l[k]? =some x):(l.take (k+1)).map f=(l.take k).map f++ [f x]:=by
 rw[List.take_add_one,h];simp
theorem aBL{n:Nat}{m:Int}:∀e∈List.replicate n [AV.int .i64 m],∀x∈e,NoF x:=by
 intro e he x hx;obtain rfl:=List.eq_of_mem_replicate he;obtain rfl:=List.mem_singleton.1 hx;exact .int
def xR (m:Md):Nat:=if m.tb.has then m.tb.mn.toNat else 0
theorem AK(m:Md)(ht:m.tb.has=true→0≤m.tb.mn∧m.tb.mn≤1000)(hgs:m.gl.length≤1000):SCall Tryz.prog 97
  [.agg (cQ m)] []
  (fun x σ=>∃s t g,(Nq t s∧Nq g s∧Nq g t)∧x=.ptr s 0∧σ=[(s,.box 165 [.own t 0 (xR m),.own g 0 m.gl.length]),(t,.arr 3 1 (List.replicate (xR m) [.int .i64 (-1)])),(g,.arr 71 2 (m.gl.map MK))]):=by
 obtain⟨ty,im,fn,⟨has,mn,mx⟩,me,gl,ex,el,co,da⟩:=m;unfold xR cQ;dsimp only at ht hgs⊢;refine bO 40 [0,1,2,3,5,10,21,22,23,24] Tryz.func97 ?_;refine cs ?_;refine iD ?_;refine gM fun r1 h1=> ?_;intros
 refine lZ ?_;refine iD ?_;refine iA ?_;refine gM fun r7 h7=> ?_;intros
 refine sq0 ?_;refine sj (β:=Nat) (fun t=>⟨[(1,.ptr r1 0),(3,.ptr r7 0)],[(t,.arr 3 1 (List.replicate (if has then mn.toNat else 0) [.int .i64 (-1)])),(r7,.box 165 [.own t 0 (if has then mn.toNat else 0),.ro 0 [] .nil]),(r1,.box 33 [.ro 2 (ty.map dF) .any,.ro 3 (im.map eE) .any,.ro 1 (fn.map aL) .any,.bool has,.int .i64 mn,.int .i64 mx,.bool me.has,.int .i64 me.mn,.int .i64 me.mx,.ro 3 (gl.map eF) .any,.ro 2 (ex.map dJ) .any,.ro 2 (el.map dV) .any,.ro 2 (co.map cZ) .any,.ro 2 (da.map dW) .any])]⟩) (fun t=>Nq t r7∧Nq t r1) ?_ ?_
 ·cases has
  ·refine cV ?_;refine sG ?_;refine dL ?_;refine iI ?_;refine an ?_;refine cE (ks:=[0,1,2,3,5,10,21,22,23,24]) r7 0 3 1 (by decide) bF rfl (by decide) fun q hq=> ?_
   simp only[aM,aT,and_true]at hq;repeat rcases hq with⟨_,hq⟩
   apply Exists.intro;apply And.intro;exact bW;refine aJ ?_;refine⟨q,⟨by(exact dP),by(exact dP)⟩, ?_⟩;exact aN
  ·have hm:=ht rfl;refine cV ?_;refine sG ?_;refine dL ?_;refine pG ?_;refine eP fun r12 h12=> ?_;intros
   refine sG ?_;refine dL ?_;refine lo (yC (E rfl) (E rfl)) rfl ?_;refine cl [r12] Tryz.call207 (lib_repeat_int (v:=.int .i64 (-1)) rfl mn.toNat (by omega)) rfl ?_ ?_ ?_
   ·have e1:(if(0:Int)<mn then mn else 0)=(mn.toNat:Int):=by split<;>omega
    rw[e1];apply ArgsBor.cons;rfl
    ·apply UT
     ·exact List.mem_cons_self
     ·exact bF
     ·simp
     ·rfl
    exact kJ
   ·rintro x σ' ⟨r,rfl,rfl⟩;refine⟨NoF.own, ?_⟩;simp only[List.mem_singleton,forall_eq];exact aBL
   rintro x σ' ⟨r17,rfl,rfl⟩ h17
   replace h17:=jE h17;repeat rcases h17 with⟨_,h17⟩
   simp only[List.cons_append,List.nil_append];refine qZ ?_;refine⟨r17,⟨by(exact dP),by(exact dP)⟩, ?_⟩;exact aN
 rintro t ⟨ht1,ht2⟩;generalize(if has=true then mn.toNat else 0)=nn;refine cE (ks:=[0,1,2,3,5,10,21,22,23,24]) r7 1 71 2 (by decide) bF rfl (by decide) fun q hq=> ?_
 simp only[aM,aT,and_true]at hq;repeat rcases hq with⟨_,hq⟩
 apply Exists.intro;apply And.intro;exact bW;refine kC ?_;refine lT ?_;refine lp (β:=Nat×Nat) (fun b=>⟨[(3,.ptr r7 0),(21,.ro 3 (gl.map eF) .any),(22,.int .i64 gl.length),(23,.int .i64 b.2)],[(b.1,.arr 71 2 ((gl.take b.2).map MK)),(t,.arr 3 1 (List.replicate nn [.int .i64 (-1)])),(r7,.box 165 [.own t 0 nn,.own b.1 0 b.2])]⟩) (fun b=>(Nq t b.1∧Nq r7 b.1)∧b.2≤gl.length) (fun b=>gl.length-b.2) (q,0) ?_ ⟨⟨by show Nq t q;(exact dP),by show Nq r7 q;(exact dP)⟩,Nat.zero_le _⟩ ?_
 ·exact aN
 rintro⟨g,k⟩ ⟨⟨hg1,hg2⟩,hk⟩;simp only at hg1 hg2 hk⊢;refine eV ?_;refine aC rfl (fun h1=> ?_) (fun h1=> ?_)
 ·have hlt:k<gl.length:=by simp at h1;omega
  obtain⟨x,hx⟩:∃x,gl[k]? =some x:=⟨_,List.getElem?_eq_getElem hlt⟩
  refine lY ?_;refine gF fun r5 h5=> ?_;intros
  refine gL ?_;refine hU [(0,true),(1,true),(2,true),(3,true),(4,true),(5,true),(6,true),(7,false),(8,false),(9,true),(10,true),(11,false)] ?_;refine DO ?_;refine KD ?_;refine JN ?_;refine ZM fun r34 h34=> ?_;intros
  apply dap (es':=(gl.take (k+1)).map MK) (len':=k+1);rfl;infer_instance;infer_instance;rfl;rfl;exact bF
  ·simp;omega
  ·exact .inr (.inr ⟨_,_,_,_,_,rfl,bF,by simp,rfl⟩)
  ·rw[PF hx];simp[MK]
  ·simp
  ·simp[maxLen];omega
  ·omega
  ·rfl
  ·exact eU
  refine dG fun r35 h35=> ?_;intros
  refine z77 ?_;refine KD ?_;refine NL ?_;refine FK ?_;refine gS ?_;refine⟨(r35,k+1),⟨⟨?_, ?_⟩,hlt⟩,by show gl.length-(k+1)<gl.length-k;omega, ?_⟩
  ·show Nq t r35;exact dP
  ·show Nq r7 r35;exact dP
  exact aN
 ·obtain rfl:k=gl.length:=by simp at h1;omega
  refine eK ?_;apply aE;exact aF
  ·exact⟨r7,t,g,⟨by(exact dP),by(exact dP),by(exact dP)⟩,rfl,rfl⟩
  ·rw[List.take_length];exact aA
def fY (v:Int×Int):List AV:=[.int .i64 v.1,.int .i64 v.2]
instance : NoE fY := ⟨fun a x hx => by simp [fY] at hx; rcases hx with rfl | rfl <;> exact NoF.int⟩
def ML (tb:List Int) (off:Int) (n:Nat):Bool:=decide (0≤off)&&decide (off+n≤tb.length)
def xS (tb:List Int) (off:Int) (fs:List Int):List Int:=if ML tb off fs.length then tb.take off.toNat++fs++tb.drop (off.toNat+fs.length)else tb
theorem MM(tb:List Int)(off:Int)(fs:List Int):(xS tb off fs).length=tb.length:=by
 unfold xS;split
 ·next h=>
  simp[ML]at h;simp;omega
 ·rfl
section
variable {s t g : Nat}
theorem rV(h1:Nq t s)(h2:Nq g s)(h3:Nq g t)(tb:List Int)(gv:List (Int×Int))(htb:tb.length≤1000)(off:Int)(fs:List Int)(hfs:fs.length≤1000):SCall Tryz.prog 41 [.ptr s 0,.int .i64 off,.ro 1 (fs.map aL) .any] [(s,.box 165 [.own t 0 tb.length,.own g 0 gv.length]),(t,.arr 3 1 (tb.map aL)),(g,.arr 71 2 (gv.map fY))]
  (fun x σ=>x=.bool (ML tb off fs.length)∧σ=[(s,.box 165 [.own t 0 (xS tb off fs).length,.own g 0 gv.length]),(t,.arr 3 1 ((xS tb off fs).map aL)),(g,.arr 71 2 (gv.map fY))]):=by
 refine bO 33 [0,1,2,6,24] Tryz.func41 ?_;refine bV ?_;refine xI ?_;refine mU ?_;refine z69 ?_;refine JL ?_;refine mU ?_;refine z4 ?_;refine z91 ?_;refine z92 ?_;refine UX ?_;refine z63 ?_;refine z4 ?_;refine z63 ?_;first|refine ln rfl rfl rfl rfl ?_ |refine lg rfl rfl (jV (W rfl id) (W rfl id) (by omega) (by omega)) rfl ?_ |refine lg rfl rfl (sY (W rfl id) (W rfl id) (fun hc=>by simp at hc<;>first|omega|(have hov:=hov hc;omega))) rfl ?_ |refine lg rfl rfl (oZ (W rfl id) (W rfl id)) rfl ?_
 refine z81 ?_;refine JL ?_;refine gQ ?_;refine aC rfl (fun h=> ?_) (fun h=> ?_)
 ·refine bV ?_;apply aE;exact aF
  ·have:ML tb off fs.length=false:=by
    simp at h;simp[ML];omega
   refine⟨by simp[dU,this,cH], ?_⟩;simp only[xS,this,Bool.false_eq_true,if_false];rfl
  ·exact aA
 ·simp at h;refine bH ?_;refine wP ?_;refine aAf ?_;refine lo (aD (E rfl)) rfl ?_;have hb:ML tb off fs.length=true:=by
   simp[ML];omega
  apply cp (m:=fs.length) (es':=(xS tb off fs).map aL);rfl;exact bW
  ·simp;omega
  ·exact .inl ⟨_,rfl⟩
  ·simp;omega
  ·simp[xS,hb,List.map_take,List.map_drop,tZ]
  ·rfl
  refine iI ?_;refine bV ?_;apply aE;exact aF
  ·refine⟨by simp[dU,hb,cH], ?_⟩;rw[MM]
  ·exact aA
end
def sU (tb:List Int) (i:Int):Bool:=decide (0≤i)&&decide (i<tb.length)&&decide (0≤tb[i.toNat]!)
def xB (tb:List Int) (i:Int):Int:=if sU tb i then tb[i.toNat]! else 0
section
variable {s t g : Nat}
theorem tV(h1:Nq t s)(tb:List Int)(gv:List (Int×Int))(i:Int):SCall Tryz.prog 38 [.ptr s 0,.int .i64 i] [(s,.box 165 [.own t 0 tb.length,.own g 0 gv.length]),(t,.arr 3 1 (tb.map aL)),(g,.arr 71 2 (gv.map fY))]
  (fun x σ=>x=.tup [.int .i64 (xB tb i),.bool (sU tb i)]∧σ=[(s,.box 165 [.own t 0 tb.length,.own g 0 gv.length]),(t,.arr 3 1 (tb.map aL)),(g,.arr 71 2 (gv.map fY))]):=by
 refine bO 38 [0,1,4,5,30] Tryz.func38 ?_;refine mA ?_;refine xI ?_;refine mU ?_;refine z69 ?_;refine JL ?_;refine mU ?_;refine z4 ?_;refine z91 ?_;refine z92 ?_;refine UX ?_;refine z63 ?_
 (first|refine ln rfl rfl rfl rfl ?_ |refine lg rfl rfl (eW (W rfl id) (W rfl id)) rfl ?_);refine JL ?_;refine mU ?_;refine z91 ?_;refine z92 ?_;refine UX ?_;refine z4 ?_;refine z71 ?_;refine z72 ?_;refine z69 ?_;refine JL ?_;refine gQ ?_;refine aC rfl (fun h=> ?_) (fun h=> ?_)
 ·refine mA ?_;apply aE;exact aF
  ·refine⟨?_,rfl⟩;have:sU tb i=false:=by
    simp at h;simp[sU];omega
   simp[dU,xB,this,cH]
  ·exact aA
 ·simp at h;refine bH ?_;refine iJ ?_;refine tC ?_;refine KC ?_;refine rZ ?_;apply aE;exact aF
  ·refine⟨?_,rfl⟩;have:sU tb i=true:=by
    simp[sU];omega
   simp[dU,xB,this,aL,cH]
  ·exact aA
def xC (gv:List (Int×Int)) (i:Int):Bool:=decide (0≤i)&&decide (i<gv.length)
def EP (gv:List (Int×Int)) (i:Int):Int×Int:=if xC gv i then gv[i.toNat]! else(0,0)
theorem vE(h2:Nq g s)(h3:Nq g t)(tb:List Int)(gv:List (Int×Int))(i:Int):SCall Tryz.prog 43 [.ptr s 0,.int .i64 i] [(s,.box 165 [.own t 0 tb.length,.own g 0 gv.length]),(t,.arr 3 1 (tb.map aL)),(g,.arr 71 2 (gv.map fY))]
  (fun x σ=>x=.tup [.agg (fY (EP gv i)),.bool (xC gv i)]∧σ=[(s,.box 165 [.own t 0 tb.length,.own g 0 gv.length]),(t,.arr 3 1 (tb.map aL)),(g,.arr 71 2 (gv.map fY))]):=by
 refine bO 29 [0,1,4,5,20] Tryz.func43 ?_;refine cV ?_;refine gF fun r4 h4=> ?_;intros
 refine cI ?_;refine xI ?_;refine mU ?_;refine z69 ?_;refine JL ?_;refine mU ?_;refine z4 ?_;refine z91 ?_;refine z92 ?_;refine UX ?_;refine z63 ?_
 (first|refine ln rfl rfl rfl rfl ?_ |refine lg rfl rfl (eW (W rfl id) (W rfl id)) rfl ?_);refine JL ?_;refine gQ ?_;refine aC rfl (fun h=> ?_) (fun h=> ?_)
 ·refine cV ?_;refine iA ?_;refine KH ?_;apply aE;exact aF
  ·refine⟨?_,rfl⟩;have:xC gv i=false:=by
    simp at h;simp[xC];omega
   simp[dU,EP,this,fY,cH]
  ·exact aA
 ·simp at h;refine bH ?_;refine iJ ?_;refine tC ?_;refine xH ?_;refine KH ?_;apply aE;exact aF
  ·refine⟨?_,rfl⟩;have:xC gv i=true:=by
    simp[xC];omega
   simp[dU,EP,this,fY,cH]
  ·exact aA
def EQ (gv:List (Int×Int)) (i:Int) (v:Int×Int):Bool:=xC gv i&&gv[i.toNat]!.1==v.1
def RP (gv:List (Int×Int)) (i:Int) (v:Int×Int):List (Int×Int):=if EQ gv i v then gv.set i.toNat v else gv
theorem xT(h1:Nq t s)(h2:Nq g s)(h3:Nq g t)(tb:List Int)(gv:List (Int×Int))(i:Int)(v:Int×Int):SCall Tryz.prog 42 [.ptr s 0,.int .i64 i,.agg (fY v)] [(s,.box 165 [.own t 0 tb.length,.own g 0 gv.length]),(t,.arr 3 1 (tb.map aL)),(g,.arr 71 2 (gv.map fY))]
  (fun x σ=>x=.bool (EQ gv i v)∧σ=[(s,.box 165 [.own t 0 tb.length,.own g 0 (RP gv i v).length]),(t,.arr 3 1 (tb.map aL)),(g,.arr 71 2 ((RP gv i v).map fY))]):=by
 refine bO 31 [0,1,2,5,6,7,8,23] Tryz.func42 ?_;refine cV ?_;refine gM fun r5 h5=> ?_;intros
 refine nT ?_;refine cw [(s,.box 165 [.own t 0 tb.length,.own g 0 gv.length]),(t,.arr 3 1 (tb.map aL)),(g,.arr 71 2 (gv.map fY))] Tryz.call43 (vE h2 h3 tb gv i) rfl ?_ ?_ ?_
 ·exact aB
 ·exact aA
 rintro x σ' ⟨rfl,rfl⟩ _;refine qY ?_;refine gF fun r7 h7=> ?_;intros
 apply zB;rfl;rfl;rfl;rfl;exact iC;refine mV ?_;refine lo (fA (E rfl)) rfl ?_;refine pX ?_;refine z61 ?_;refine UX ?_
 (first|refine ln rfl rfl rfl rfl ?_ |refine lg rfl rfl (eA (W rfl id) (W rfl id)) rfl ?_);refine JL ?_;refine gQ ?_;refine aC rfl (fun h=> ?_) (fun h=> ?_)
 ·refine bV ?_;apply aE;exact aF
  ·have:EQ gv i v=false:=by
    simp at h;simp only[EQ,EP]at h⊢;split at h<;>simp_all
   refine⟨by simp[dU,this,cH], ?_⟩;simp only[RP,this,Bool.false_eq_true,if_false];rfl
  ·exact aA
 ·simp at h;obtain⟨hg,hv⟩:=h;have hi:0≤i∧i<gv.length:=by simpa[xC]using hg
  have hx:gv[i.toNat]? =some gv[i.toNat]! :=aX (by omega);have hb:EQ gv i v=true:=by
   simp only[EP,hg,if_true]at hv;simp only[EQ,hg,hv,beq_self_eq_true,Bool.and_self]
  refine aJ ?_;refine hU [(0,true),(1,true),(2,true),(3,true),(4,true),(5,true),(6,true),(7,false)] ?_;refine kK ?_;refine fO rfl (aD (E rfl)) rfl ?_;refine JN ?_;refine NV ?_;apply ZY;rfl;infer_instance;rfl;rfl;rfl;rfl;exact bW;exact atT;exact wO;rfl;exact eU;refine FK ?_;refine bV ?_;apply aE;exact aF
  ·refine⟨by simp[dU,hb,cH], ?_⟩;simp only[RP,hb,if_true,List.length_set];rfl
  ·exact aA
end
end Go.Proofs.YtjpdadobblffmaaGreat
namespace Go.Proofs.YtjpdadobblffmaaGreat
open Go.RowKit Go.ChangeShapes Go.WideShapes Go.ChangeAt Go.Deep
def rhoI:Go.Shelf.Ren:=⟨fun n=>if n=21 then 209 else if n=27 then 281 else if n=28 then 282 else if n=35 then 308 else if n=39 then 319 else n,
 fun t=>if t=22 then 24 else if t=3 then 3 else if t=4 then 4 else if t=0 then 0 else t,fun g=>g⟩
theorem vF:Lays2.n21 Tryz.prog rhoI where
 mixed:=PY
 f21:=(Tryz.func209).trans (by kernel_rfl)
 f27:=(Tryz.func281).trans (by kernel_rfl)
 f28:=(Tryz.func282).trans (by kernel_rfl)
 f35:=(Tryz.func308).trans (by kernel_rfl)
 f39:=(Tryz.func319).trans (by kernel_rfl)
 t0:=Tryz.underlying0
 a0:=Tryz.isAgg0
 z0:=Tryz.sizeOf0
 v0:=Tryz.zeroValue0
 t3:=Tryz.underlying3
 a3:=Tryz.isAgg3
 z3:=Tryz.sizeOf3
 v3:=Tryz.zeroValue3
 t4:=Tryz.underlying4
 a4:=Tryz.isAgg4
 z4:=Tryz.sizeOf4
 v4:=Tryz.zeroValue4
 t22:=Tryz.underlying24
 a22:=Tryz.isAgg24
 z22:=Tryz.sizeOf24
 v22:=Tryz.zeroValue24
 i3:=by kernel_rfl
section
variable {g : Nat} {e : TypeId}
theorem PG{w:World}{cur:Array Value}{o:Nat}{v:Value}(h:Cl w g e cur):Cl (w.setCell ⟨g,o,none⟩ v) g e (cur.setIfInBounds o v):=by
 have hlt:=h.lt;obtain⟨fz,h,hz⟩:=h;refine⟨fz, ?_,by simpa using hz⟩;simp only[World.setCell];rw[Array.getElem?_modify,if_pos rfl,h];rfl
theorem kA:∀(vs:List Value) (o:Nat) (w:World) (cur:Array Value),Cl w g e cur→∃cur',Cl (w.setCells g o vs) g e cur'∧cur'.size=cur.size∧∀j,j<cur.size→cur'[j]? =if o≤j∧j<o+vs.length then vs[j-o]? else cur[j]?
 |[],o,w,cur,h=>⟨cur,h,rfl,fun j _=>by rw[if_neg (by simp only[List.length_nil];omega)]⟩
 |v::r,o,w,cur,h=>by
  obtain⟨c2,h1,h2,h3⟩:=kA r (o+1) _ _ (PG (o:=o) (v:=v) h);simp only[Array.size_setIfInBounds]at h2 h3;refine⟨c2,h1,h2,fun j hj=> ?_⟩;rw[h3 j hj];by_cases hjo:j=o
  ·subst hjo;rw[if_neg (by omega),if_pos (by simp)];simp[hj]
  ·rw[Array.getElem?_setIfInBounds_ne (fun e=>hjo e.symm)];by_cases hin:o+1≤j∧j<o+1+r.length
   ·rw[if_pos hin,if_pos (by simp;omega),show j-o=(j-(o+1))+1 by omega,List.getElem?_cons_succ]
   ·rw[if_neg hin,if_neg (by simp;omega)]
theorem hZ:∀(vs:List Value) (o:Nat) (w:World),Only (fun k=>k=g) w (w.setCells g o vs)
 |[],_,w=>Only.refl _ _
 |v::r,o,w=>Only.trans ((Only.refl (fun k=>k=g) w).setCell (p:=⟨g,o,none⟩) (fun _=>rfl) v) (hZ r (o+1) _)
end
def sM (l:List Int) (i:Nat) (x:Int):List Int:=l.take i++x::l.drop i
theorem oU{l:List Int}{i:Nat}{x:Int}(h:i≤l.length):(sM l i x).length=l.length+1:=by simp[sM];omega
theorem YR{l:List Int}{x:Int}:sM l l.length x=l++ [x]:=by simp[sM]
theorem GU{l:List Int}{i:Nat}{x:Int}(h:i≤l.length)(j:Nat):(sM l i x)[j]? =if j<i then l[j]? else if j=i then some x else l[j-1]? :=by
 unfold sM;by_cases h1:j<i
 ·rw[if_pos h1,List.getElem?_append_left (by simp;omega),List.getElem?_take_of_lt h1]
 ·rw[if_neg h1,List.getElem?_append_right (by simp;omega)];have hl:(l.take i).length=i:=by simp;omega
  rw[hl];by_cases h2:j=i
  ·subst h2;simp
  ·rw[if_neg h2,show j-i=(j-i-1)+1 by omega,List.getElem?_cons_succ,List.getElem?_drop]
   congr 1;omega
theorem aGB{M:Mp}{F:Nat→Prop}{w:World}{l:List Int}{vs:Array Value}(h:∀(i:Nat) (x:List AV) (j:Nat) (a:AV) (u:Value),(l.map aL)[i]? =some x→x[j]? =some a→vs[i*1+j]? =some u→VR M F w a u)(hs:l.length≤vs.size)(j:Nat)(n:Int)(hj:l[j]? =some n):vs[j]? =some (.int .i64 n):=by
 have hlt:=(List.getElem?_eq_some_iff.1 hj).1;have h1:=h j (aL n) 0 (.int .i64 n) vs[j] (by rw[List.getElem?_map,hj];rfl) rfl (by simp);rw[Array.getElem?_eq_getElem (by omega)];generalize vs[j]=u at h1;cases h1
 rfl
theorem YS(l:List Int):fZ 1 (l.map aL):=by
 intro x hx;obtain⟨n,_,rfl⟩:=List.mem_map.1 hx;exact⟨rfl,fun a ha=>by obtain rfl:=List.mem_singleton.1 ha;rfl⟩
theorem AL{r v:Nat}(l:List Int)(i:Nat)(hi:i≤l.length)(x:Int)(hl:l.length≤1000000)(hrv:Nq v r):SCall Tryz.prog 209 [.own r 0 l.length,.int .i64 i,.own v 0 1] [(v,.arr 3 1 [aL x]),(r,.arr 3 1 (l.map aL))]
  (fun y σ'=>∃q,(Nq q r∧Nq q v)∧y=.own q 0 (l.length+1)∧σ'=[(q,.arr 3 1 ((sM l i x).map aL))]):=by
 intro M F N w vs hlen hv hs;obtain⟨u0,u1,u2,rfl⟩:∃u0 u1 u2,vs=[u0,u1,u2]:=by
  match vs,hlen with
  |[a,b,c],_=>exact⟨a,b,c,rfl⟩
 have h0:=hv 0 _ _ rfl rfl;have h1:=hv 1 _ _ rfl rfl;have h2:=hv 2 _ _ rfl rfl;cases h1
 have hnr:=hs.name (p:=(r,_)) (List.mem_cons_of_mem _ List.mem_cons_self);have hnv:=hs.name (p:=(v,_)) List.mem_cons_self;simp only at hnr hnv;have hmr:(r,Ent.arr 3 1 (l.map aL))∈ [(v,Ent.arr 3 1 [aL x]),(r,.arr 3 1 (l.map aL))]:=by simp
 obtain⟨_,_,hev⟩:=hs.ent _ (List.mem_cons_self);rcases hev with⟨_,hev⟩|⟨vb,vc,vv,hMv,hClv,hsv,hlv,hmv,hrv'⟩
 ·cases hev
 have hu2:∃c',u2=.slice (some ⟨vb,0,none⟩) 1 c':=by
  cases h2 with
  |own hM hle hm=>
   rw[hMv]at hM;cases hM
   exact⟨vc-0,by simp⟩
 obtain⟨vc',rfl⟩:=hu2;have hx0:vv[0]? =some (.int .i64 x):=by
  have hpos:0<vv.size:=by rw[hsv];simp at hlv;omega
  have:=hrv' 0 (aL x) 0 (.int .i64 x) vv[0] rfl rfl (by simp[hpos]);rw[Array.getElem?_eq_getElem hpos];generalize vv[0]=u at this;cases this
  rfl
 have hvs:∀(j:Nat) (u:Value),[Value.int .i64 x][j]? =some u→w.cell? ⟨vb,0+j,none⟩=some u:=by
  intro j u hj;have hj0:j=0:=by have:=(List.getElem?_eq_some_iff.1 hj).1;simpa using this
  subst hj0;simp at hj;subst hj;rw[hClv.cell];simpa using hx0
 have h1v:∀u∈ [Value.int .i64 x],u.oneCell'=true:=fun u hu=>by obtain rfl:=List.mem_singleton.1 hu;rfl
 have h1c:∀u∈l.map (Value.int .i64),u.oneCell'=true:=fun u hu=>by obtain⟨n,_,rfl⟩:=List.mem_map.1 hu;rfl
 have hbM:∀q b',M q=some b'→eI M N b' q=some b'→True:=fun _ _ _ _=>trivial
 --what is left,out of the new row
 have jQ:∀(g c:Nat) (cur:Array Value) (w':World),Only (fun k=>bB M r=some k) w w'→(bB M r=some g∨w.heap.size≤g)→Cl w' g 3 cur→cur.size=c→l.length+1≤c→c≤maxLen→(∀(j:Nat) (n:Int),(sM l i x)[j]? =some n→cur[j]? =some (Value.int .i64 n))→
   ∃v_1 x_1 M' F' N' σ',Ending.returned (Value.slice (some ⟨g,0,none⟩) (l.length+1) c)=.returned v_1∧Ext M F N w [(v,Ent.arr 3 1 [aL x]),(r,.arr 3 1 (l.map aL))] M' F' N' w' σ'∧VR M' F' w' x_1 v_1∧SR M' F' N' w' σ'∧
    ∃q,(Nq q r∧Nq q v)∧x_1=.own q 0 (l.length+1)∧σ'=[(q,.arr 3 1 ((sM l i x).map aL))]:=by
  intro g c cur w' honly hg hcl hsz hlc hcm hcur;have hr:Rel M F N 0 ⟨[],[(v,Ent.arr 3 1 [aL x]),(r,.arr 3 1 (l.map aL))]⟩ { tmps:=#[],defers:=[] } w:=⟨rfl,rfl,fun i x hi=>by simp[cN]at hi,hs⟩
  have hE:ER (eI M N (.row g c 1)) F w' N (.arr 3 1 ((sM l i x).map aL)):=by
   refine⟨Nat.one_pos,YS _,.inr ⟨g,c,cur,bJ _,hcl,by simpa using hsz,by rw[List.length_map,oU hi];exact hlc,hcm,fun i' x' j b u hi' hj hu=> ?_⟩⟩;rw[List.getElem?_map]at hi';obtain⟨n,hn,rfl⟩:=Option.map_eq_some_iff.1 hi';have hjs:=(List.getElem?_eq_some_iff.1 hj).1;simp[aL]at hjs;subst hjs;simp[aL]at hj;subst hj;rw[Nat.mul_one,Nat.add_zero,hcur i' n hn]at hu;obtain rfl:=Option.some.inj hu;exact .int _ _
  obtain⟨r1,e1,n1,o1⟩:=hr.move_ hmr (.row g c 1) honly (fun g' hg'=>by
   simp only[bB,bJ,Option.some.injEq]at hg';subst hg';exact hg) hE
  have hsub:∀p∈ [(N,Ent.arr 3 1 ((sM l i x).map aL))],p∈(N,Ent.arr 3 1 ((sM l i x).map aL))::dE [r] [(v,Ent.arr 3 1 [aL x]),(r,.arr 3 1 (l.map aL))]:=fun p hp=>by
   obtain rfl:=List.mem_singleton.1 hp;exact List.mem_cons_self
  have hvr:=VR.own (M:=eI M N (.row g c 1)) (F:=F) (w:=w') (t:=N) (off:=0) (len:=l.length+1) (bJ _) (by omega) hcm;simp only[Nat.zero_mul,Nat.sub_zero]at hvr;refine⟨_,.own N 0 (l.length+1),_,_,_,_,rfl,e1.sub hsub,hvr,r1.st.sub hsub,N,⟨?_, ?_⟩,rfl,rfl⟩
  ·show N≠r;omega
  ·show N≠v;omega
 have hbig:(l.length+1)*8≤140737488355328:=by omega
 have hlm:(l.map (Value.int .i64)).length=l.length:=List.length_map ..;have hends:∀(B:Option Addr) (c:Nat),i=l.length→l.length≤c→c<l.length+1→(B=none→l.length=0)→(∀a,B=some a→∀(j:Nat) (u:Value),(l.map (Value.int .i64))[j]? =some u→w.cell? (a.add j)=some u)→
   Calls Tryz.prog 209 #[.slice B l.length c,.int .i64 i,.slice (some ⟨vb,0,none⟩) 1 vc'] w fun e w'=>∃v_1 x_1 M' F' N' σ',e=.returned v_1∧Ext M F N w [(v,Ent.arr 3 1 [aL x]),(r,.arr 3 1 (l.map aL))] M' F' N' w' σ'∧VR M' F' w' x_1 v_1∧SR M' F' N' w' σ'∧
    ∃q,(Nq q r∧Nq q v)∧x_1=.own q 0 (l.length+1)∧σ'=[(q,.arr 3 1 ((sM l i x).map aL))]:=by
  intro B c hil hc1 hc2 hB hcells;subst hil;refine(Any2.slices_Insert_int_end_grow vF B l.length c vb 0 1 vc' (l.map (Value.int .i64)) [.int .i64 x] w Nat.one_pos hc1 hc2 hbig hlm rfl hB hcells hvs h1v).mono ?_;rintro e w' ⟨rfl,rfl⟩;have hge:=grownCap_ge w (l.length+1) c (rhoI.t 3);refine jQ w.heap.size _ _ _ ⟨rfl,rfl,rfl,by simp,fun q hq _=>heap_alloc_old w.drew _ hq⟩ (.inr (Nat.le_refl _)) (Cl.of (heap_alloc_new w.drew _)) ?_ hge (grownCap_le_maxLen w _ c _ (by simp[maxLen];omega)) (fun j n hj=> ?_)
  ·simp only[Array.size_append,List.size_toArray,List.length_append,hlm,List.length_singleton,size_zeroCells];simp only[Value.cells];simp;omega
  ·have hjl:=(List.getElem?_eq_some_iff.1 hj).1;rw[YR]at hj hjl;rw[Array.getElem?_append_left (by simpa using hjl)];simp only[List.getElem?_toArray];rw[show l.map (Value.int .i64)++ [Value.int .i64 x]=(l++ [x]).map (Value.int .i64) by simp,List.getElem?_map,hj];rfl
 obtain⟨_,_,her⟩:=hs.ent _ hmr;generalize hnl:l.length=n at h0;cases h0 with
 |@own0 _ _ A=>
  have hl0:l=[]:=List.eq_nil_of_length_eq_zero hnl;subst hl0;simp at hi;subst hi;exact hends A 0 rfl (Nat.le_refl _) (by simp) (fun _=>rfl) (fun a _ j u hj=>by simp at hj)
 |@own _ _ _ g cc sz0 hM hle hm=>
  subst hnl;rcases her with⟨hv',_⟩|⟨g',c',cur,hM',hcl,hsz,hlc,hcm,hvr⟩
  ·simp only at hv';rw[hM]at hv';cases hv'
  simp only at hM';rw[hM]at hM';cases hM'
  simp only[Nat.mul_one]at hsz;rw[List.length_map]at hlc;have hints:=aGB hvr (by omega);have hcs:∀(j:Nat) (u:Value),(l.map (Value.int .i64))[j]? =some u→w.cell? ⟨g,0+j,none⟩=some u:=fun j u hj=>by
   rw[List.getElem?_map]at hj;obtain⟨n,hn,rfl⟩:=Option.map_eq_some_iff.1 hj;rw[hcl.cell,Nat.zero_add];exact hints j n hn
  have hblk:bB M r=some g:=by simp[bB,hM]
  have hsub:∀k,k=g→bB M r=some k:=fun k hk=>by rw[hk];exact hblk
  have hmax:cc≤9223372036854775807:=by simp[maxLen]at hcm;omega
  by_cases hroom:l.length+1≤cc
  ·have hsome:∀j,j<l.length+1→(w.cell? ⟨g,0+j,none⟩).isSome=true:=fun j hj=>by
    rw[hcl.cell,Array.getElem?_eq_getElem (by omega)];rfl
   have hfz:∀j,w.frozen? ⟨g,j,none⟩=false:=fun j=>by obtain⟨fz,hc,hz⟩:=hcl;obtain rfl:=hz.2 rfl;simp[World.frozen?,hc]
   by_cases hil:i=l.length
   ·subst hil;refine(Any2.slices_Insert_int_end_room vF g 0 l.length cc vb 0 1 vc' [.int .i64 x] w Nat.one_pos hroom hmax rfl (fun j hj=> ?_) (fun j hj=>hfz _) hvs h1v).mono ?_
    ·rw[Nat.zero_add,hcl.cell,Array.getElem?_eq_getElem (by omega)];rfl
    rintro e w' ⟨rfl,rfl⟩;obtain⟨cur',h1,h2,h3⟩:=kA [.int .i64 x] (0+l.length) w cur hcl;refine jQ g cc cur' _ ((hZ _ _ _).mono fun k _ hk=>hsub k hk) (.inl hblk) h1 (h2.trans hsz) hroom hcm (fun j n hj=> ?_);have hjl:=(List.getElem?_eq_some_iff.1 hj).1;rw[oU hi]at hjl;rw[h3 j (by omega)];rw[GU hi]at hj;by_cases hjl2:j<l.length
    ·rw[if_pos hjl2]at hj;rw[if_neg (by omega)];exact hints j n hj
    ·have:j=l.length:=by omega
     subst this;simp at hj;subst hj;rw[if_pos (by simp)];simp
   ·refine(Any2.slices_Insert_int_shift vF g 0 l.length cc i vb 0 1 vc' (l.map (Value.int .i64)) [.int .i64 x] w (by omega) Nat.one_pos hroom hmax (fun e=> ?_) hlm rfl hcs hsome (fun j _=>hfz _) hvs h1c h1v 3 3 vv.size cur.size ?_ ?_ (by omega) ?_ ?_).mono ?_
    ·subst e;exact hrv (hs.inj _ List.mem_cons_self _ hmr vb (by simp[bB,hMv]) hblk)
    ·obtain⟨fz,hc,hz⟩:=hClv;simp[World.shape?,hc]
    ·obtain⟨fz,hc,hz⟩:=hcl;simp[World.shape?,hc]
    ·obtain⟨fz,hc,hz⟩:=hClv;obtain rfl:=hz.2 rfl;simp[World.frozen?,hc]
    ·obtain⟨fz,hc,hz⟩:=hClv;obtain rfl:=hz.2 rfl;simp[World.frozen?,hc]
    rintro e w' ⟨rfl,rfl⟩;obtain⟨cur1,h1,h2,h3⟩:=kA ((l.map (Value.int .i64)).drop i) (0+(i+1)) w.drew cur hcl;obtain⟨cur',k1,k2,k3⟩:=kA [.int .i64 x] (0+i) _ cur1 h1;refine jQ g cc cur' _ (((((Only.refl (fun k=>k=g) w).drew).trans (hZ (g:=g) _ _ _)).trans (hZ (g:=g) _ _ _)).mono fun k _ hk=>hsub k hk) (.inl hblk) k1 (by omega) hroom hcm (fun j n hj=> ?_);have hjl:=(List.getElem?_eq_some_iff.1 hj).1;rw[oU hi]at hjl;rw[k3 j (by omega),h3 j (by omega)];rw[GU hi]at hj;by_cases hji:j<i
    ·rw[if_pos hji]at hj;rw[if_neg (by omega),if_neg (by omega)];exact hints j n hj
    ·by_cases hji2:j=i
     ·subst hji2;simp at hj;subst hj;rw[if_pos (by simp)];simp
     ·rw[if_neg hji,if_neg hji2]at hj;rw[if_neg (by simp;omega),if_pos (by simp;omega),List.getElem?_drop,List.getElem?_map,show i+(j-(0+(i+1)))=j-1 by omega,hj];rfl
  ·by_cases hil:i=l.length
   ·exact hends _ _ hil (by omega) (by omega) (fun h=>by cases h) (fun a ha j u hj=>by
     cases ha
     have:=hcs j u hj;rw[Addr.add_lit];simpa using this)
   ·refine(Any2.slices_Insert_int_grow vF g 0 l.length cc i vb 0 1 vc' (l.map (Value.int .i64)) [.int .i64 x] w (by omega) Nat.one_pos (by omega) (by omega) hbig hlm rfl hcs hvs h1c h1v).mono ?_;rintro e w' ⟨rfl,rfl⟩;have hge:=grownCap_ge w (l.length+1) cc (rhoI.t 3);have hcl0:=heap_alloc_new w (.cells ((List.take i (l.map (Value.int .i64))).toArray++Builtin.zeroCells (Value.int .i64 0).cells (l.length+1-i)++Builtin.zeroCells (Value.int .i64 0).cells (grownCap w (l.length+1) cc (rhoI.t 3)-(l.length+1))) (rhoI.t 3));obtain⟨W0,hW0⟩:∃W0,W0=w.alloc (.cells ((List.take i (l.map (Value.int .i64))).toArray++Builtin.zeroCells (Value.int .i64 0).cells (l.length+1-i)++Builtin.zeroCells (Value.int .i64 0).cells (grownCap w (l.length+1) cc (rhoI.t 3)-(l.length+1))) (rhoI.t 3)):=⟨_,rfl⟩
    obtain⟨cur0,hcur0⟩:∃c:Array Value,c=(List.take i (l.map (Value.int .i64))).toArray++Builtin.zeroCells (Value.int .i64 0).cells (l.length+1-i)++Builtin.zeroCells (Value.int .i64 0).cells (grownCap w (l.length+1) cc (rhoI.t 3)-(l.length+1)):=⟨_,rfl⟩
    have ho0:Only (fun k=>bB M r=some k) w W0:=by rw[hW0];exact⟨rfl,rfl,rfl,by simp,fun q hq _=>heap_alloc_old w _ hq⟩
    rw[←hW0,←hcur0]at hcl0;rw[←hW0];have hs0:cur0.size=grownCap w (l.length+1) cc (rhoI.t 3):=by
     rw[hcur0];simp only[Array.size_append,List.size_toArray,List.length_take,hlm,size_zeroCells];simp only[Value.cells];simp;omega
    have ht0:∀j,j<i→cur0[j]? =(l.map (Value.int .i64))[j]? :=fun j hj=>by
     rw[hcur0,Array.getElem?_append_left (by simp;omega),Array.getElem?_append_left (by simp;omega)];simp only[List.getElem?_toArray];rw[List.getElem?_take_of_lt hj]
    obtain⟨cur1,h1,h2,h3⟩:=kA [.int .i64 x] i W0.drew cur0 (Cl.of hcl0:Cl W0.drew w.heap.size (rhoI.t 3) cur0);obtain⟨cur',k1,k2,k3⟩:=kA ((l.map (Value.int .i64)).drop i) (i+1) (W0.drew.setCells w.heap.size i [.int .i64 x]).drew cur1 h1;refine jQ w.heap.size _ cur' _ (ho0.trans' (((((Only.refl (fun k=>k=w.heap.size) W0).drew).trans (hZ (g:=w.heap.size) _ _ _)).drew).trans (hZ (g:=w.heap.size) _ _ _)) fun k hk h=>absurd hk (by omega)) (.inr (Nat.le_refl _)) k1 (by omega) hge (grownCap_le_maxLen w _ cc _ (by simp[maxLen];omega)) (fun j n hj=> ?_);have hjl:=(List.getElem?_eq_some_iff.1 hj).1;rw[oU hi]at hjl;rw[k3 j (by omega),h3 j (by omega)];rw[GU hi]at hj;by_cases hji:j<i
    ·rw[if_pos hji]at hj;rw[if_neg (by omega),if_neg (by omega),ht0 j hji,List.getElem?_map,hj];rfl
    ·by_cases hji2:j=i
     ·subst hji2;simp at hj;subst hj;rw[if_neg (by omega),if_pos (by simp)];simp
     ·rw[if_neg hji,if_neg hji2]at hj;rw[if_pos (by simp;omega),List.getElem?_drop,List.getElem?_map,show i+(j-(i+1))=j-1 by omega,hj];rfl
end Go.Proofs.YtjpdadobblffmaaGreat
namespace Go.Proofs.YtjpdadobblffmaaGreat
open Go.RowKit Go.ChangeShapes Go.WideShapes Go.ChangeAt Go.Deep
attribute [local irreducible] SW RS RD eM dR
theorem oV(a:Int):SCall Tryz.prog 280 [.int .i64 a] [] (fun x σ=>x=.bool false∧σ=[]):=by
 refine bO 6 [0,2] Tryz.func280 ?_;refine jF ?_;refine lo (eA (E rfl) (E rfl)) rfl ?_;refine cI ?_;apply aE;exact aF;exact⟨by simp[dU],rfl⟩;exact aA
theorem MN(a:Int):SCall Tryz.prog 307 [.int .i64 a] [] (fun x σ=>x=.bool false∧σ=[]):=by
 refine bO 6 [0,2] Tryz.func307 ?_;refine jF ?_;refine lo (eA (E rfl) (E rfl)) rfl ?_;refine cI ?_;apply aE;exact aF;exact⟨by simp[dU],rfl⟩;exact aA
theorem MO(a b:Int):SCall Tryz.prog 279 [.int .i64 a,.int .i64 b] [] (fun x σ=>x=.bool (decide (a<b))∧σ=[]):=by
 refine bO 17 [0,1,4] Tryz.func279 ?_;refine kM ?_
 (first|refine pu [] Tryz.call307 (MN a) rfl bM aW ?_ |refine sZ [] rfl rfl Tryz.call307 (fun _=>(MN a)) rfl bM aW ?_);refine mU ?_;refine ln rfl rfl rfl rfl ?_;refine z67 ?_;refine z7 ?_;refine mU ?_;refine z4 ?_;refine z21 ?_;refine JL ?_;refine cI ?_;apply aE;exact aF;exact⟨by simp[dU],rfl⟩;exact aA
def oW (l:List Int) (x:Int):Nat:=(l.takeWhile fun y=>decide (y<x)).length
theorem aBM{l:List Int}{x:Int}{i:Nat}(hi:i≤l.length)(h1:∀k y,k<i→l[k]? =some y→y<x)(h2:∀y,l[i]? =some y→x≤y):oW l x=i:=by
 unfold oW;have e:l=l.take i++l.drop i:=(List.take_append_drop i l).symm;rw[e,List.takeWhile_append_of_pos (fun y hy=>by
  obtain⟨k,hk,rfl⟩:=List.getElem_of_mem hy;simp at hk;have:=h1 k (l[k]) (by omega) (List.getElem?_eq_getElem (by omega));simpa using this)]
 have:(l.drop i).takeWhile (fun y=>decide (y<x))=[]:=by
  cases hd:l.drop i with
  |nil=>rfl
  |cons y t=>
   have:l[i]? =some y:=by
    have:=congrArg (·[0]?) hd;simpa using this
   have:=h2 y this;simp[List.takeWhile_cons];omega
 rw[this];simp;omega
theorem YT{l:List Int}{x:Int}{i:Nat}(h1:∀k y,k<i→l[k]? =some y→y<x)(h2:∀k y,i≤k→l[k]? =some y→x≤y)(hs:l.Pairwise (· < ·)):l.contains x=(decide (i<l.length)&&decide (l[i]! =x)):=by
 by_cases hi:i<l.length
 ·rw[decide_eq_true hi,Bool.true_and];by_cases he:l[i]! =x
  ·rw[decide_eq_true he];rw[←he,List.contains_iff_mem,getElem!_pos l i hi];exact List.getElem_mem hi
  ·rw[decide_eq_false he,←Bool.not_eq_true,List.contains_iff_mem];intro hm;obtain⟨k,hk,hx⟩:=List.getElem_of_mem hm;rcases Nat.lt_trichotomy k i with h|h|h
   ·have:=h1 k _ h (List.getElem?_eq_getElem hk);omega
   ·subst h;exact he (by rw[getElem!_pos l k hi];exact hx)
   ·have h3:=List.pairwise_iff_getElem.1 hs i k hi hk h;have:=h2 i _ (Nat.le_refl _) (List.getElem?_eq_getElem hi);omega
 ·rw[decide_eq_false hi,Bool.false_and,←Bool.not_eq_true,List.contains_iff_mem];intro hm;obtain⟨k,hk,hx⟩:=List.getElem_of_mem hm;have:=h1 k _ (by omega) (List.getElem?_eq_getElem hk);omega
theorem TR(m:Nat):((m:Int)).fdiv (2^min (Int.toNat 1) IntKind.u64.bits)=((m / 2:Nat):Int):=by
 have:(2:Int)^min (Int.toNat 1) IntKind.u64.bits=2:=by decide
 rw[this,Int.fdiv_eq_ediv_of_nonneg _ (by omega)];omega
theorem AM(l:List Int)(x:Int)(hl:l.length≤1000000)(hs:l.Pairwise (· < ·)):SCall Tryz.prog 208 [.ro 1 (l.map aL) .any,.int .i64 x] [] (fun y σ=>y=.tup [.int .i64 (oW l x),.bool (l.contains x)]∧σ=[]):=by
 refine bO 54 [0,1,4,5,6,7,8,9,15,27] Tryz.func208 ?_;refine mA ?_;refine vP ?_;refine mV ?_;refine rZ ?_;refine lp (β:=Nat×Nat) (fun b=>⟨[(0,.ro 1 (l.map aL) .any),(1,.int .i64 x),(4,.int .i64 0),(5,.bool false),(6,.int .i64 l.length),(7,.int .i64 b.1),(8,.int .i64 b.2)],[]⟩) (fun b=>b.1≤b.2∧b.2≤l.length∧(∀k y,k<b.1→l[k]? =some y→y<x)∧(∀k y,b.2≤k→l[k]? =some y→x≤y)) (fun b=>b.2-b.1) (0,l.length) ?_ ⟨Nat.zero_le _,Nat.le_refl _,fun k y h=>absurd h (Nat.not_lt_zero _),fun k y h e=>absurd (List.getElem?_eq_some_iff.1 e).1 (by simp only at h;omega)⟩ ?_
 ·exact aN
 rintro⟨i,j⟩ ⟨hij,hj,h1,h2⟩;simp only at hij hj h1 h2⊢;refine dB ?_;refine tB ?_;refine aC rfl (fun h3=> ?_) (fun h3=> ?_)
 ·have hlt:i<j:=by simp at h3;omega
  have e1:((i:Int)+(j:Int))=((i+j:Nat):Int):=by omega
  refine dB ?_;refine DL ?_;refine SE ?_;refine z2 ?_;rw[e1,TR];refine z44 ?_;refine cI ?_;obtain⟨y,hy⟩:∃y,l[(i+j) / 2]? =some y:=⟨_,List.getElem?_eq_getElem (by omega)⟩
  refine jX ?_;refine qG ?_;refine lo (aD (E rfl)) rfl ?_
  (first|refine pu [] Tryz.call279 (MO y x) rfl bM aW ?_ |refine sZ [] rfl rfl Tryz.call279 (fun _=>(MO y x)) rfl bM aW ?_);refine gQ ?_;refine aJ ?_;refine aC rfl (fun h4=> ?_) (fun h4=> ?_)
  ·have h5:y<x:=by simpa using h4
   refine bH ?_;refine DL ?_;refine cI ?_;refine⟨((i+j) / 2+1,j),⟨by show(i+j) / 2+1≤j;omega,hj,fun k z hk hz=> ?_,h2⟩,by show j-((i+j) / 2+1)<j-i;omega, ?_⟩
   ·by_cases hke:k=(i+j) / 2
    ·subst hke;rw[hy]at hz;cases hz
     exact h5
    ·have hlt2:=(List.getElem?_eq_some_iff.1 hy).1;have hk2:=(List.getElem?_eq_some_iff.1 hz).1;have h6:=List.pairwise_iff_getElem.1 hs k ((i+j) / 2) hk2 hlt2 (by simp only at hk;omega);rw[(List.getElem?_eq_some_iff.1 hz).2,(List.getElem?_eq_some_iff.1 hy).2]at h6;omega
   ·exact aN
  ·have h5:x≤y:=by simpa using h4
   refine eK ?_;refine⟨(i,(i+j) / 2),⟨by show i≤(i+j) / 2;omega,by show(i+j) / 2≤l.length;omega,h1,fun k z hk hz=> ?_⟩,by show(i+j) / 2-i<j-i;omega, ?_⟩
   ·by_cases hke:k=(i+j) / 2
    ·subst hke;rw[hy]at hz;cases hz
     exact h5
    ·have hlt2:=(List.getElem?_eq_some_iff.1 hy).1;have hk2:=(List.getElem?_eq_some_iff.1 hz).1;have h6:=List.pairwise_iff_getElem.1 hs ((i+j) / 2) k hlt2 hk2 (by simp only at hk;omega);rw[(List.getElem?_eq_some_iff.1 hz).2,(List.getElem?_eq_some_iff.1 hy).2]at h6;omega
   ·exact aN
 obtain rfl:i=j:=by simp at h3;omega
 have hrk:=aBM (i:=i) hj h1 (fun y hy=>h2 i y (Nat.le_refl _) hy);have hhas:=YT h1 h2 hs;rw[hrk,hhas];refine dB ?_;refine lo (aD (E rfl)) rfl ?_;refine lo (fJ (E rfl) (E rfl)) rfl ?_;refine mU ?_;refine z4 ?_;refine z71 ?_;refine z72 ?_;refine z4 ?_;refine z70 ?_;refine z8 ?_;refine z9 ?_;refine z9 ?_;first|refine ln rfl rfl rfl rfl ?_ |refine lg rfl rfl (aY (W rfl (by first|exact id|simp)) (W rfl (by first|exact id|simp)) (fun hc=>by(try simp at hc)<;>(simp only[List.length_map];omega))) rfl ?_ |refine lg rfl rfl (aR (W rfl (by first|exact id|simp)) bF (W rfl (by first|exact id|simp)) (fun hc=>by(try simp at hc)<;>omega)) rfl ?_ |refine lg rfl rfl (bA (W rfl (by first|exact id|simp)) bF (W rfl (by first|exact id|simp)) (fun hc=>by(try simp at hc)<;>omega)) rfl ?_ |refine lw rfl rfl (aY (W rfl (by first|exact id|simp)) (W rfl (by first|exact id|simp)) (fun hc=>by(try simp at hc)<;>(simp only[List.length_map];omega))) rfl ?_ |refine lw rfl rfl (aR (W rfl (by first|exact id|simp)) bF (W rfl (by first|exact id|simp)) (fun hc=>by(try simp at hc)<;>omega)) rfl ?_ |refine lw rfl rfl (bA (W rfl (by first|exact id|simp)) bF (W rfl (by first|exact id|simp)) (fun hc=>by(try simp at hc)<;>omega)) rfl ?_ |refine lw rfl rfl (bN (v:=.bool false)) rfl ?_
 first|refine ln rfl rfl rfl rfl ?_ |refine lg rfl rfl (aP (W rfl (by first|exact id|simp)) rfl (fun hc=>by first|rfl|exact aG (by assumption)|assumption|exact aG (aX (by(try simp at hc)<;>omega))) (fun _=>rfl)) rfl ?_ |refine lg rfl rfl (bG (W rfl (by first|exact id|simp)) rfl bF (fun hc=>by first|rfl|exact aG (by assumption)|assumption|exact aG (aX (by(try simp at hc)<;>omega))) (fun _=>rfl)) rfl ?_ |refine lw rfl rfl (aP (W rfl (by first|exact id|simp)) rfl (fun hc=>by first|rfl|exact aG (by assumption)|assumption|exact aG (aX (by(try simp at hc)<;>omega))) (fun _=>rfl)) rfl ?_ |refine lw rfl rfl (bG (W rfl (by first|exact id|simp)) rfl bF (fun hc=>by first|rfl|exact aG (by assumption)|assumption|exact aG (aX (by(try simp at hc)<;>omega))) (fun _=>rfl)) rfl ?_ |refine lw rfl rfl (bN (v:=.bool false)) rfl ?_
 (first|refine ln rfl rfl rfl rfl ?_ |refine lw rfl rfl (bN (v:=.bool false)) rfl ?_ |refine pu [] Tryz.call280 (oV _) rfl bM aW ?_ |refine sZ [] rfl rfl Tryz.call280 (fun _=>(oV _)) rfl bM aW ?_ |refine AZ [] rfl rfl Tryz.call280 (fun _=>(oV _)) rfl bM aW ?_);first|refine ln rfl rfl rfl rfl ?_ |refine lg rfl rfl (aD (by first|exact W rfl (by first|exact id|simp)|exact E rfl)) rfl ?_ |refine lw rfl rfl (aD (by first|exact W rfl (by first|exact id|simp)|exact E rfl)) rfl ?_ |refine lw rfl rfl (bN (v:=.bool false)) rfl ?_
 refine z9 ?_
 (first|refine ln rfl rfl rfl rfl ?_ |refine lw rfl rfl (bN (v:=.bool false)) rfl ?_ |refine pu [] Tryz.call280 (oV _) rfl bM aW ?_ |refine sZ [] rfl rfl Tryz.call280 (fun _=>(oV _)) rfl bM aW ?_ |refine AZ [] rfl rfl Tryz.call280 (fun _=>(oV _)) rfl bM aW ?_);first|refine ln rfl rfl rfl rfl ?_ |refine lg rfl rfl (eX (W rfl (by first|exact id|simp)) (by first|exact W rfl (by simp)|exact E rfl)) rfl ?_ |refine lg rfl rfl (eD (W rfl (by first|exact id|simp)) (E rfl)) rfl ?_ |refine lg rfl rfl (eO (W rfl (by first|exact id|simp)) (by first|exact W rfl (by simp)|exact E rfl) (E rfl)) rfl ?_ |refine lw rfl rfl (eX (W rfl (by first|exact id|simp)) (by first|exact W rfl (by simp)|exact E rfl)) rfl ?_ |refine lw rfl rfl (eD (W rfl (by first|exact id|simp)) (E rfl)) rfl ?_ |refine lw rfl rfl (eO (W rfl (by first|exact id|simp)) (by first|exact W rfl (by simp)|exact E rfl) (E rfl)) rfl ?_ |refine lw rfl rfl (bN (v:=.bool false)) rfl ?_
 refine aB1 ?_;refine rZ ?_;apply aE;exact aF
 ·refine⟨?_,rfl⟩;simp only[dU,Int.toNat_natCast];by_cases h5:i<l.length<;>by_cases h6:l[i]! =x<;>simp[h5,h6]
 ·exact aA
def xU (b:List Nat) (a n:Int):Bool:=(n==1||n==4||n==8)&&decide (0≤a)&&decide (a+n≤b.length)
theorem PH{n:Nat}(h:n≤100000000):IntKind.i64.wrap ((n:Int).tdiv 256)=((n / 256:Nat):Int):=by
 rw[Int.tdiv_eq_ediv_of_nonneg (by omega),IntKind.wrap_i64];omega
section
theorem GV(b:List Nat)(mo:Int)(dl:List Int)(hb:b.length≤1000000)(a n:Int):SCall Tryz.prog 100 [.el 3 [[.ro 1 ((b).map aH) .any,.int .i64 mo,.ro 1 ((dl).map aL) .any]] 0 0,.int .i64 a,.int .i64 n] []
  (fun x σ=>x=.bool (xU b a n)∧σ=[]):=by
 refine bO 36 [0,1,2,6] Tryz.func100 ?_;refine bV ?_;refine aDa ?_;refine mU ?_;refine z6 ?_;refine z8 ?_;refine z9 ?_;first|refine ln rfl rfl rfl rfl ?_ |refine lg rfl rfl (bY (W rfl (by first|exact id|simp)) (E rfl)) rfl ?_ |refine lw rfl rfl (bY (W rfl (by first|exact id|simp)) (E rfl)) rfl ?_ |refine lw rfl rfl (bN (v:=.bool false)) rfl ?_
 (first|refine ln rfl rfl rfl rfl ?_ |refine lg rfl rfl (eX (W rfl id) (E rfl)) rfl ?_ |refine lg rfl rfl (eD (W rfl id) (W rfl (by simp))) rfl ?_ |refine lg rfl rfl (eO (W rfl id) (E rfl) (W rfl (by simp))) rfl ?_);refine z8 ?_;refine z9 ?_;first|refine ln rfl rfl rfl rfl ?_ |refine lg rfl rfl (bY (W rfl (by first|exact id|simp)) (E rfl)) rfl ?_ |refine lw rfl rfl (bY (W rfl (by first|exact id|simp)) (E rfl)) rfl ?_ |refine lw rfl rfl (bN (v:=.bool false)) rfl ?_
 refine aB1 ?_;refine mU ?_;refine z34 ?_;refine z7 ?_;refine mU ?_;refine z4 ?_;refine z91 ?_;refine z92 ?_;refine UX ?_;refine z63 ?_;refine z4 ?_;first|refine ln rfl rfl rfl rfl ?_ |refine lg rfl rfl (jV (W rfl id) (W rfl id) (by omega) (by omega)) rfl ?_ |refine lg rfl rfl (sY (W rfl id) (W rfl id) (fun hc=>by simp at hc<;>first|omega|(have hov:=hov hc;omega))) rfl ?_ |refine lg rfl rfl (oZ (W rfl id) (W rfl id)) rfl ?_
 refine z54 ?_;refine z7 ?_;refine cI ?_;apply aE;exact aF
 ·refine⟨?_,rfl⟩;have h5:decide (a≤(b.length:Int)-n)=decide (a+n≤b.length):=by rw[decide_eq_decide];omega
  simp only[dU,xU,h5];by_cases h1:n=1<;>by_cases h2:n=4<;>by_cases h3:n=8<;>by_cases h4:0≤a<;>simp[h1,h2,h3,h4]
 ·exact aA
theorem TT(b:List Nat)(mo:Int)(dl:List Int)(hb:b.length≤1000000):SCall Tryz.prog 98 [.el 3 [[.ro 1 ((b).map aH) .any,.int .i64 mo,.ro 1 ((dl).map aL) .any]] 0 0] []
  (fun x σ=>x=.int .i64 ((b.length / 256:Nat):Int)∧σ=[]):=by
 refine bO 11 [0,2,4] Tryz.func98 ?_;refine bV ?_;refine xI ?_;refine pG ?_;refine iJ ?_;refine oG ?_;refine z20 ?_;refine cI ?_;apply aE;exact aF
 ·refine⟨?_,rfl⟩;rw[PH (by omega)];rfl
 ·exact aA
def YU (b:List Nat) (a:Nat):Nat→Nat
 |0=>0
 |k+1=>b[a]! +256*YU b (a+1) k
theorem YV{b:List Nat}(h:∀x∈b,x<256):∀(k a:Nat),YU b a k<256^k
 |0,_=>by simp[YU]
 |k+1,a=>by
  have ih:=YV h k (a+1);have h1:b[a]! <256:=by
   by_cases ha:a<b.length
   ·rw[getElem!_pos b a ha];exact h _ (List.getElem_mem ha)
   ·simp[ha]
  rw[YU,Nat.pow_succ];omega
theorem aHV{x:Nat}(h:x<256^7):IntKind.u64.wrap ((x:Int)*2^min (Int.toNat 8) IntKind.u64.bits)=((x*256:Nat):Int):=by
 have:(2:Int)^min (Int.toNat 8) IntKind.u64.bits=256:=by decide
 rw[this,IntKind.wrap_u64];omega
theorem aHW{x y:Nat}(h:x<256^7)(hy:y<256):IntKind.u64.wrap ↑(BitVec.ofInt IntKind.u64.bits ((x*256:Nat):Int)|||BitVec.ofInt IntKind.u64.bits (y:Int)).toNat=((y+256*x:Nat):Int):=by
 have h1:(BitVec.ofInt IntKind.u64.bits ((x*256:Nat):Int)).toNat=2^8*x:=by
  rw[BitVec.toNat_ofInt];simp[IntKind.bits];omega
 have h2:(BitVec.ofInt IntKind.u64.bits (y:Int)).toNat=y:=by
  rw[BitVec.toNat_ofInt];simp[IntKind.bits];omega
 rw[BitVec.toNat_or,h1,h2,←Nat.two_pow_add_eq_or_of_lt (by omega),IntKind.wrap_u64];omega
theorem RQ{b:List Nat}{a n:Int}(h:xU b a n=true):(n=1∨n=4∨n=8)∧0≤a∧a+n≤b.length:=by
 simp[xU]at h;omega
def ldV (b:List Nat) (a n:Int):AV:=if xU b a n then .tup [.int .u64 (YU b a.toNat n.toNat),.bool true]else .tup [.int .u64 0,.bool false]
theorem vG(b:List Nat)(mo:Int)(dl:List Int)(hb:b.length≤1000000)(hbb:∀x∈b,x<256)(a n:Int):SCall Tryz.prog 39 [.el 3 [[.ro 1 ((b).map aH) .any,.int .i64 mo,.ro 1 ((dl).map aL) .any]] 0 0,.int .i64 a,.int .i64 n] []
  (fun x σ=>x=ldV b a n∧σ=[]):=by
 refine bO 35 [0,1,2,6,7,8,9,14,18] Tryz.func39 ?_;refine mA ?_;refine DP ?_
 (first|refine pu [] Tryz.call100 (GV b mo dl hb a n) rfl bM aW ?_ |refine sZ [] rfl rfl Tryz.call100 (fun _=>(GV b mo dl hb a n)) rfl bM aW ?_);refine vQ ?_;refine aC rfl (fun h=> ?_) (fun h=> ?_)
 ·have h':xU b a n=false:=by simpa using h
  refine mA ?_;exact aE aF ⟨by simp[ldV,h',dU,cH],rfl⟩ aA
 have h':xU b a n=true:=by simpa using h
 have hbd:=RQ h';obtain⟨A,rfl⟩:=Int.eq_ofNat_of_zero_le hbd.2.1;obtain⟨n',rfl⟩:=Int.eq_ofNat_of_zero_le (show 0≤n by omega);have hn8:n'≤8:=by omega
 refine kM ?_;refine zD ?_;refine cI ?_;refine lp (β:=Nat) (fun k=>⟨[(0,.el 3 [[.ro 1 ((b).map aH) .any,.int .i64 mo,.ro 1 ((dl).map aL) .any]] 0 0),(1,.int .i64 A),(8,.int .u64 (YU b (A+k) (n'-k))),(9,.int .i64 ((k:Int)-1))],[]⟩) (fun k=>k≤n') (fun k=>k) n' ?_ (Nat.le_refl _) ?_
 ·rw[Nat.sub_self,show YU b (A+n') 0=0 from rfl];exact aN
 rintro k hk;refine bH ?_;refine KO ?_;refine aC rfl (fun h2=> ?_) (fun h2=> ?_)
 ·obtain⟨j,rfl⟩:∃j,k=j+1:=⟨k-1,by simp at h2;omega⟩
  have hlt:=YV hbb (n'-(j+1)) (A+(j+1));have hl7:YU b (A+(j+1)) (n'-(j+1))<256^7:=Nat.lt_of_lt_of_le hlt (Nat.pow_le_pow_right (by decide) (by omega));have hby:b[A+j]! <256:=by rw[getElem!_pos b _ (by omega)];exact hbb _ (List.getElem_mem _)
  have e1:((A:Int)+(((j+1:Nat):Int)-1)).toNat=A+j:=by omega
  refine bH ?_;refine z23 ?_;refine lo (aD (E rfl)) rfl ?_;refine iJ ?_;refine FM ?_;refine DL ?_;refine qG ?_;refine SE ?_;refine lo (vK (E rfl) (E rfl)) rfl ?_;refine rD ?_;refine cI ?_;refine⟨j,by omega,by omega, ?_⟩;rw[e1,qW (m:=((b[A+j]! :Nat):Int)) (by omega) (by omega),aHV hl7,aHW hl7 hby,show b[A+j]! +256*YU b (A+(j+1)) (n'-(j+1))=YU b (A+j) (n'-j) by rw[show n'-j=(n'-(j+1))+1 by omega,YU];congr 2];exact aN
 obtain rfl:k=0:=by simp at h2;omega
 refine bH ?_;refine rZ ?_;apply aE;exact aF
 ·refine⟨?_,rfl⟩;simp[ldV,h',dU,cH]
 ·exact aA
end
def kR (l:List Int) (i:Int):List Int:=if l.contains i then l else sM l (oW l i) i
theorem GW(l:List Int)(x:Int):oW l x≤l.length:=by unfold oW;exact(List.takeWhile_sublist _).length_le
theorem PI(l:List Int)(i:Int):(kR l i).length≤l.length+1:=by
 unfold kR;split
 ·omega
 ·rw[oU (GW l i)];omega
theorem GX(l:List Int)(x:Int):∀y∈l.take (oW l x),y<x:=by
 intro y hy;unfold oW at hy;rw[show l.take (l.takeWhile fun y=>decide (y<x)).length=l.takeWhile fun y=>decide (y<x)from(List.prefix_iff_eq_take.1 (List.takeWhile_prefix _)).symm]at hy;simpa using List.all_eq_true.1 (List.all_takeWhile (p:=fun y=>decide (y<x)) (l:=l)) y hy
theorem aBN{l:List Int}(hs:l.Pairwise (· < ·))(x:Int):∀y∈l.drop (oW l x),x≤y:=by
 induction l with
 |nil=>intro y hy;simp at hy
 |cons a t ih=>
  rw[List.pairwise_cons]at hs;intro y hy;unfold oW at hy ih;by_cases h:a<x
  ·simp[List.takeWhile_cons,h]at hy;exact ih hs.2 y hy
  ·simp[List.takeWhile_cons,h]at hy;rcases hy with rfl|hy
   ·omega
   ·have:=hs.1 y hy;omega
theorem CB{l:List Int}(hs:l.Pairwise (· < ·))(i:Int):(kR l i).Pairwise (· < ·):=by
 unfold kR;split
 ·exact hs
 ·next h=>
  unfold sM;have h1:=GX l i;have h2:=aBN hs i;have hni:∀y∈l.drop (oW l i),y≠i:=fun y hy e=>by subst e;exact h (List.contains_iff_mem.2 (List.mem_of_mem_drop hy))
  rw[List.pairwise_append,List.pairwise_cons];refine⟨hs.sublist (List.take_sublist _ _),⟨fun y hy=> ?_,hs.sublist (List.drop_sublist _ _)⟩,fun y hy z hz=> ?_⟩
  ·have:=h2 y hy;have:=hni y hy;omega
  ·have:=h1 y hy;rcases List.mem_cons.1 hz with rfl|hz
   ·exact this
   ·have:=h2 z hz;omega
section
variable {m q d : Nat}
theorem ES(hN:Nq q m∧Nq d m∧Nq d q)(b:List Nat)(mo:Int)(dl:List Int)(hdl:dl.length≤100000)(hs:dl.Pairwise (· < ·))(i:Int):SCall Tryz.prog 101 [.ptr m 0,.int .i64 i] [(m,.box 169 [.own q 0 (b).length,.int .i64 (mo),.own d 0 (dl).length]),(q,.arr 5 1 ((b).map aH)),(d,.arr 3 1 ((dl).map aL))]
  (fun x σ=>∃e,(Nq e m∧Nq e q)∧σ=[(m,.box 169 [.own q 0 (b).length,.int .i64 (mo),.own e 0 (kR dl i).length]),(q,.arr 5 1 ((b).map aH)),(e,.arr 3 1 ((kR dl i).map aL))]):=by
 obtain⟨hN1,hN2,hN3⟩:=hN;refine bO 28 [0,1,4,5,16] Tryz.func101 ?_;refine bH ?_;refine wP ?_;refine pu [d] Tryz.call208 (AM dl i (by omega) hs) rfl ?_ aW ?_
 ·exact aQ
 refine qX ?_;refine nI ?_;refine vQ ?_;refine aC rfl (fun h=> ?_) (fun h=> ?_)
 ·have h':dl.contains i=false:=by simpa using h
  have ht:kR dl i=sM dl (oW dl i) i:=by simp only[kR,h',Bool.false_eq_true,if_false]
  refine dB ?_;refine iJ ?_;refine FM ?_;refine eP fun r24 h24=> ?_;intros
  refine cw [(r24,.arr 3 1 [aL i]),(d,.arr 3 1 (dl.map aL))] Tryz.call209 (AL dl (oW dl i) (GW dl i) i (by omega) (by(exact dP))) rfl ?_ ?_ ?_
  ·exact aB
  ·exact aA
  rintro x σ' ⟨e,⟨he1,he2⟩,rfl,rfl⟩ hq
  replace hq:=fU hq;repeat rcases hq with⟨_,hq⟩
  apply bE;exact bX;refine qZ ?_;apply aE;exact aF
  ·exact⟨e,⟨by(exact dP),by(exact dP)⟩,rfl⟩
  ·rw[ht,oU (GW dl i)];exact aA
 ·have h':dl.contains i=true:=by simpa using h
  have ht:kR dl i=dl:=by simp only[kR,h',if_true]
  refine aCR (ks:=[0,1,4,5,16]) m 2 d bF rfl bF fun e he=> ?_
  simp only[aM,aT,and_true]at he;repeat rcases he with⟨_,he⟩
  apply Exists.intro;apply And.intro;exact bW;apply Exists.intro;apply And.intro;exact bW;refine aJ ?_;apply aE;exact aF
  ·exact⟨e,⟨by(exact dP),by(exact dP)⟩,rfl⟩
  ·rw[ht];exact aA
def ET (b:List Nat) (a x:Nat):Nat→List Nat
 |0=>b
 |k+1=>(ET b a x k).set (a+k) (x / 256^k%256)
theorem GY(b:List Nat)(a x:Nat):∀k,(ET b a x k).length=b.length
 |0=>rfl
 |k+1=>by rw[ET,List.length_set,GY]
theorem YW{l:List Nat}{i n:Nat}:(l.map aH).set i [.int .u8 n]=(l.set i n).map aH:=by rw[List.map_set];rfl
theorem aEF{x k:Nat}(hk:k<8)(hx:x<18446744073709551616):IntKind.u8.wrap (Int.fdiv (x:Int) (2^min (Int.toNat (8*(k:Int))) IntKind.u64.bits))=((x / 256^k%256:Nat):Int):=by
 have e1:min (Int.toNat (8*(k:Int))) IntKind.u64.bits=8*k:=by simp[IntKind.bits];omega
 have e2:(2:Int)^(8*k)=((256^k:Nat):Int):=by rw[show(256:Nat)=2^8 from rfl,←Nat.pow_mul];simp
 rw[e1,e2,Int.fdiv_eq_ediv_of_nonneg _ (Int.natCast_nonneg _),←Int.natCast_ediv,IntKind.wrap_u8];omega
def stD (dl:List Int) (a n:Nat):List Int:=kR (kR dl ((a / 256:Nat):Int)) (((a+n-1) / 256:Nat):Int)
theorem EU(hN:Nq q m∧Nq d m∧Nq d q)(b:List Nat)(mo:Int)(dl:List Int)(hb:b.length≤1000000)(hdl:dl.length≤10000)(hs:dl.Pairwise (· < ·))(a n:Nat)(x:Nat)(hx:x<18446744073709551616)(h':xU b a n=true):SCall Tryz.prog 40 [.ptr m 0,.int .i64 a,.int .i64 n,.int .u64 x] [(m,.box 169 [.own q 0 (b).length,.int .i64 (mo),.own d 0 (dl).length]),(q,.arr 5 1 ((b).map aH)),(d,.arr 3 1 ((dl).map aL))]
  (fun y σ=>∃e,(Nq e m∧Nq e q)∧y=.bool true∧σ=[(m,.box 169 [.own q 0 (ET b a x n).length,.int .i64 (mo),.own e 0 (stD dl a n).length]),(q,.arr 5 1 ((ET b a x n).map aH)),(e,.arr 3 1 ((stD dl a n).map aL))]):=by
 obtain⟨hN1,hN2,hN3⟩:=hN;have hbd:=RQ h';refine bO 44 [0,1,2,3,8,9,14,15,16,17] Tryz.func40 ?_;refine jF ?_;refine lo (aD (E rfl)) rfl ?_;refine pu [m,q,d] Tryz.call100 (GV b mo dl hb a n) rfl ?_ aW ?_
 ·exact aQ
 rw[h'];refine vQ ?_;refine dB ?_;refine gQ ?_;refine lp (β:=Nat) (fun k=>⟨[(0,.ptr m 0),(1,.int .i64 a),(2,.int .i64 n),(3,.int .u64 x),(8,.bool false),(15,.int .i64 n),(16,.int .i64 k)],[(m,.box 169 [.own q 0 (ET b a x k).length,.int .i64 (mo),.own d 0 (dl).length]),(q,.arr 5 1 ((ET b a x k).map aH)),(d,.arr 3 1 ((dl).map aL))]⟩) (fun k=>k≤n) (fun k=>n-k) 0 ?_ (Nat.zero_le _) ?_
 ·rw[show ET b a x 0=b from rfl];exact aN
 rintro k hk;refine eV ?_;have hsl:=GY b a x k;refine aC rfl (fun h2=> ?_) (fun h2=> ?_)
 ·have hlt:k<n:=by simp at h2;omega
  have e1:((a:Int)+(k:Int)).toNat=a+k:=by omega
  have e2:=aEF (x:=x) (k:=k) (by omega) hx;have e3:IntKind.i64.wrap (8*(k:Int))=8*k:=fT (by omega) (by omega);obtain⟨z,hz⟩:∃z,(ET b a x k)[((a:Int)+(k:Int)).toNat]? =some z:=⟨_,List.getElem?_eq_getElem (by omega)⟩
  refine eK ?_;refine hU [(0,true),(1,true),(2,true),(3,true),(4,true),(5,true),(6,true),(7,true),(8,true),(9,true),(10,true),(11,true),(12,true),(13,false)] ?_;refine kK ?_;refine sH ?_;refine VC ?_;refine sH ?_;refine fO rfl (mC (E rfl) (E rfl)) rfl ?_;refine fO rfl (EX (E rfl) (E rfl) (fun _=>by first|decide|omega)) rfl ?_;first|refine fO rfl (iN (E rfl) (zA (by omega) (by omega))) rfl ?_ |refine fO rfl (qM (E rfl)) rfl ?_
  refine NV ?_;apply ZY;rfl;infer_instance;rfl;rfl;rfl;rfl;exact bW;exact atT;exact wO;rfl;exact eU;refine FK ?_;refine gS ?_;refine⟨k+1,hlt,by show n-(k+1)<n-k;omega, ?_⟩;rw[e3,e2,e1,YW,←show ET b a x (k+1)=(ET b a x k).set (a+k) (x / 256^k%256)from rfl,hsl,←GY b a x (k+1)];exact aN
 obtain rfl:k=n:=by simp at h2;omega
 have hq1:=PH (n:=a) (by omega);have hq2:=PH (n:=a+k-1) (by omega);have hk1:((a:Int)+(k:Int)-1)=((a+k-1:Nat):Int):=by omega
 refine dB ?_;refine z20 ?_;rw[hq1];refine cw [(m,.box 169 [.own q 0 (ET b a x k).length,.int .i64 (mo),.own d 0 (dl).length]),(q,.arr 5 1 ((ET b a x k).map aH)),(d,.arr 3 1 ((dl).map aL))] Tryz.call101 (ES ⟨hN1,hN2,hN3⟩ (ET b a x k) mo dl (by omega) hs ((a / 256:Nat):Int)) rfl ?_ ?_ ?_
 ·exact aB
 ·exact aA
 rintro y σ' ⟨e,⟨he1,he2⟩,rfl⟩-;refine iB ?_;have htl:=PI dl ((a / 256:Nat):Int);have hts:=CB hs ((a / 256:Nat):Int);refine DP ?_;refine DL ?_;refine zD ?_;refine z20 ?_;rw[hk1,hq2];refine cw [(m,.box 169 [.own q 0 (ET b a x k).length,.int .i64 (mo),.own e 0 (kR dl ((a / 256:Nat):Int)).length]),(q,.arr 5 1 ((ET b a x k).map aH)),(e,.arr 3 1 ((kR dl ((a / 256:Nat):Int)).map aL))] Tryz.call101 (ES ⟨hN1,by(exact dP),by(exact dP)⟩ (ET b a x k) mo _ (by omega) hts (((a+k-1) / 256:Nat):Int)) rfl ?_ ?_ ?_
 ·exact aB
 ·exact aA
 rintro y2 σ2 ⟨e2,⟨k1,k2⟩,rfl⟩-;refine sQ ?_;refine bV ?_;exact aE aF ⟨e2,by exact⟨by(exact dP),by(exact dP)⟩,by rfl,rfl⟩ aA
theorem TU(hN:Nq q m∧Nq d m∧Nq d q)(b:List Nat)(mo:Int)(dl:List Int):SCall Tryz.prog 99 [.ptr m 0] [(m,.box 169 [.own q 0 (b).length,.int .i64 (mo),.own d 0 (dl).length]),(q,.arr 5 1 ((b).map aH)),(d,.arr 3 1 ((dl).map aL))]
  (fun x σ=>∃e,(Nq e m∧Nq e q)∧σ=[(m,.box 169 [.own q 0 (b).length,.int .i64 (mo),.own e 0 (([]:List Int)).length]),(q,.arr 5 1 ((b).map aH)),(e,.arr 3 1 ((([]:List Int)).map aL))]):=by
 obtain⟨hN1,hN2,hN3⟩:=hN;refine bO 7 [0,3] Tryz.func99 ?_;refine aFz ?_;refine pG ?_;refine nH ?_;apply zB;rfl;rfl;rfl;rfl;exact iC;refine JZ m 2 3 1 (by decide) bF rfl (by decide) fun e he=> ?_
 simp only[aM,aT,and_true]at he;repeat rcases he with⟨_,he⟩
 apply Exists.intro;apply And.intro;exact bW;refine gQ ?_;exact aE aF ⟨e,by exact⟨by(exact dP),by(exact dP)⟩,rfl⟩ aA
theorem TV:SCall Tryz.prog 99 [.nilp] [] (fun x σ=>σ=[]):=by
 refine bO 7 [0,3] Tryz.func99 ?_;refine aFz ?_;refine gQ ?_;apply aE;exact aF
 ·exact rfl
 ·exact aA
end
def iQ (mx:Int):Int:=if mx=-1 then 16 else max (min 16 mx) (-1)
theorem PJ(h:Bool)(mn mx:Int)(h':h=false∨mn<0∨16<mn):SCall Tryz.prog 96 [.agg [.bool h,.int .i64 mn,.int .i64 mx]] []
  (fun x σ=>x=.nilp∧σ=[]):=by
 refine bO 38 [0,1,2,3,16,25] Tryz.func96 ?_;refine cV ?_;refine gM fun r1 h1=> ?_;intros
 refine gT ?_;refine lo (fA (E rfl)) rfl ?_;refine pX ?_;refine z69 ?_;refine JL ?_;refine pX ?_;refine z18 ?_;refine JL ?_;refine gQ ?_;refine aC rfl (fun h2=> ?_) (fun h2=> ?_)
 ·refine bV ?_;exact aE aF ⟨by rfl,rfl⟩ aA
 ·exfalso;rcases h' with rfl|h'|h'
  ·simp at h2
  ·simp[h']at h2
  ·simp[h']at h2
theorem aBO(mn:Nat)(mx:Int)(h':mn≤16):SCall Tryz.prog 96 [.agg [.bool true,.int .i64 mn,.int .i64 mx]] []
  (fun x σ=>∃m q d,(Nq q m∧Nq d m∧Nq d q)∧x=.ptr m 0∧σ=[(m,.box 169 [.own q 0 (List.replicate (256*mn) 0).length,.int .i64 (iQ mx),.own d 0 (([]:List Int)).length]),(q,.arr 5 1 ((List.replicate (256*mn) 0).map aH)),(d,.arr 3 1 ((([]:List Int)).map aL))]):=by
 refine bO 38 [0,1,2,3,16,25] Tryz.func96 ?_;refine cV ?_;refine gM fun r1 h1=> ?_;intros
 refine gT ?_;refine lo (fA (E rfl)) rfl ?_;refine pX ?_;refine z69 ?_;refine JL ?_;refine pX ?_;refine z18 ?_;refine JL ?_;refine gQ ?_;refine aC rfl (fun h2=> ?_) (fun _=> ?_)
 ·exfalso;simp at h2;omega
 have e1:IntKind.i64.wrap ((mn:Int)*256)=((256*mn:Nat):Int):=by rw[fT (by omega) (by omega)];omega
 refine kC ?_;refine lo (mC (E rfl) (E rfl)) rfl ?_;rw[e1];apply mk (l:=256*mn) (z:=aH 0);rfl;rfl;rfl;rfl
 ·omega
 ·simp[maxLen];omega
 ·rfl
 ·rfl
 refine jM fun r20 h20=> ?_;intros
 rw[←show(List.replicate (256*mn) 0).map aH=List.replicate (256*mn) (aH 0) by simp];refine iA ?_;refine gM fun r22 h22=> ?_;intros
 refine lZ ?_;refine cE (ks:=[0,1,2,3,16,25]) r22 2 3 1 (by decide) bF rfl (by decide) fun d hd=> ?_
 simp only[aM,aT,and_true]at hd;repeat rcases hd with⟨_,hd⟩
 apply Exists.intro;apply And.intro;exact bW;refine kC ?_;refine qF ?_;refine aC rfl (fun h2=> ?_) (fun h2=> ?_)
 ·have hm:iQ mx=if(if mx<16 then mx else 16)< -1 then-1 else if mx<16 then mx else 16:=by
   unfold iQ;rw[if_neg (fun e=>by rw[e]at h2;simp at h2)];simp only[Int.max_def,Int.min_def]
   (repeat' split)<;>omega
  refine aJ ?_;refine hU [(0,true),(1,true),(2,true),(3,true),(4,true),(5,true),(6,true),(7,true),(8,true),(9,true),(10,true),(11,false)] ?_;refine DO ?_;refine kX ?_;refine fO rfl (ZV (E rfl) (E rfl)) rfl ?_;refine fO rfl (yC (E rfl) (E rfl)) rfl ?_;refine z77 ?_;refine KD ?_;refine NL ?_;refine FK ?_;refine eK ?_;apply aE;exact aF
  ·exact⟨r22,r20,d,⟨by(exact dP),by(exact dP),by(exact dP)⟩,rfl,rfl⟩
  ·rw[hm,List.length_replicate];exact aA
 ·have hm:iQ mx=16:=by
   unfold iQ;rw[if_pos];simpa using h2
  refine eK ?_;apply aE;exact aF
  ·exact⟨r22,r20,d,⟨by(exact dP),by(exact dP),by(exact dP)⟩,rfl,rfl⟩
  ·rw[hm,List.length_replicate];exact aA
end Go.Proofs.YtjpdadobblffmaaGreat
namespace Go.Proofs.YtjpdadobblffmaaGreat
open Go.RowKit Go.ChangeShapes Go.WideShapes Go.ChangeAt Go.Deep
def lE {σ α:Type} (f:σ→α→Option σ):σ→List α→Option σ
 |s,[]=>some s
 |s,a::l=>match f s a with|none=>none|some t=>lE f t l
theorem AN{σ α:Type}{f:σ→α→Option σ}:∀ {a b:List α} {s:σ},lE f s (a++b)=(lE f s a).bind fun t=>lE f t b
 |[],b,s=>rfl
 |x::a,b,s=>by
  simp only[List.cons_append,lE];cases h:f s x with
  |none=>rfl
  |some t=>exact AN
theorem EV{σ α:Type}{f:σ→α→Option σ}{l:List α}{s t u:σ}{j:Nat}{x:α}(h:lE f s (l.take j)=some t)(hx:l[j]? =some x)(hf:f t x=some u):lE f s (l.take (j+1))=some u:=by
 rw[List.take_add_one,hx,AN,h];show lE f t [x]=some u;simp[lE,hf]
theorem EW{σ α:Type}{f:σ→α→Option σ}{l:List α}{s t:σ}{j:Nat}{x:α}(h:lE f s (l.take j)=some t)(hx:l[j]? =some x)(hf:f t x=none):lE f s l=none:=by
 obtain⟨hlt,he⟩:=List.getElem?_eq_some_iff.1 hx;have hl:l=l.take j++x::l.drop (j+1):=by rw[←he,←List.drop_eq_getElem_cons hlt,List.take_append_drop]
 rw[hl,AN,h];show lE f t (x::l.drop (j+1))=none;simp[lE,hf]
def elO (t:List Int) (e:El):Option (List Int):=if ML t e.off e.fs.length=true then some (xS t e.off e.fs)else none
def iH:List Nat→Nat→List Nat→List Nat
 |b,_,[]=>b
 |b,o,c::l=>iH (b.set o c) (o+1) l
theorem mR:∀ {l b:List Nat} {o:Nat},(iH b o l).length=b.length
 |[],_,_=>rfl
 |c::l,b,o=>by rw[iH,mR,List.length_set]
theorem AO:∀ {l b:List Nat} {o c:Nat},iH b o (l++ [c])=(iH b o l).set (o+l.length) c
 |[],_,_,_=>rfl
 |x::l,b,o,c=>by rw[List.cons_append,iH,iH,AO,List.length_cons,show o+1+l.length=o+(l.length+1) by omega]
theorem PK{l b:List Nat}{o j c:Nat}(h:l[j]? =some c):iH b o (l.take (j+1))=(iH b o (l.take j)).set (o+j) c:=by
 have hj:(l.take j).length=j:=by have:=(List.getElem?_eq_some_iff.1 h).1;simp;omega
 rw[List.take_add_one,h,Option.toList_some,AO,hj]
def UI (b:List Nat) (d:Da):Option (List Nat):=if d.off<0∨(b.length:Int)-d.bs.length<d.off then none else some (iH b d.off.toNat d.bs)
theorem aBQ{b:List Nat}{a c:Nat}(h:c<256):ET b a c 1=b.set a c:=by
 show(ET b a c 0).set (a+0) (c / 256^0%256)=b.set a c;rw[show ET b a c 0=b from rfl,Nat.pow_zero,Nat.div_one,Nat.mod_eq_of_lt h,Nat.add_zero]
def dl1 (dl:List Int):Prop:=dl=[]∨dl=[0]
theorem aBR{dl:List Int}{a:Nat}(h:dl1 dl)(ha:a<256):stD dl a 1=[0]:=by
 unfold stD;rw[show a / 256=0 by omega,show(a+1-1) / 256=0 by omega];rcases h with rfl|rfl<;>rfl
theorem YX{dl:List Int}(h:dl1 dl):dl.length≤10000∧dl.Pairwise (· < ·):=by
 rcases h with rfl|rfl<;>simp
def gR (m:Md) (p s j:AV):List AV:=cQ m++ [p,s,j]
def GZ (k:Nat):List Nat:=List.replicate k 0
def vH (_:Nat):List AV:=[.mro [] []]
theorem RR{k:Nat}:(GZ k).length=k:=List.length_replicate
theorem MP{k:Nat}:GZ k++ [0]=GZ (k+1):=by unfold GZ;rw[List.replicate_succ']
def gY (m:Md) (p s:AV):List AV:=gR m p s (.ro 1 ((GZ m.co.length).map vH) .any)
theorem RT{σ:cR}{ts:List Nat}{m:Md}{p s x y:AV}(h:Bor σ ts x y):BorL σ ts (gR m p s x) (gR m p s y):=
 .cons (.refl _) (.cons (.refl _) (.cons (.refl _) (.cons (.refl _) (.cons (.refl _) (.cons (.refl _) (.cons (.refl _) (.cons (.refl _) (.cons (.refl _) (.cons (.refl _) (.cons (.refl _) (.cons (.refl _) (.cons (.refl _) (.cons (.refl _) (.cons (.refl _) (.cons (.refl _) (.cons h .nil))))))))))))))))
theorem YY{σ:cR}{r:Nat}{ks:List Int}{xs:List AV}(hg:fB σ r=some (.map ks xs)):Bor σ [r] (.mp r) (.mro ks xs):=
 .mp (fun j=>xs[j]?.getD .nilp) (List.mem_singleton.2 rfl) hg rfl (fun j a h=>by rw[h];rfl) (fun j a' h=>by rw[h];exact .refl _)
theorem AP{σ σ':cR}(h:∀p,p∈σ'→(∃q,q∈([]:cR)∧q.1=p.1)∨Fresh p.1 σ):∀p∈σ',Fresh p.1 σ:=fun p hp=>(h p hp).resolve_left fun⟨_,hq,_⟩=>absurd hq (List.not_mem_nil)
theorem RU{m:Md}(h:jJ m=-1):lC m=true:=by
 unfold jJ at h;cases hm:lC m with
 |true=>rfl
 |false=>rw[if_pos hm]at h;cases h
theorem PL{m:Md}(h:oA m=true):m.tb.has=true→0≤m.tb.mn∧m.tb.mn≤1000:=by
 intro hh;unfold oA at h;simp only[Bool.and_eq_true]at h;have h3:=h.1.2;unfold nJ at h3;rw[if_pos hh]at h3;simp only[Bool.and_eq_true,decide_eq_true_eq]at h3;omega
theorem aEG{m:Md}(h:oA m=true):xR m≤1000:=by
 unfold xR;split
 ·next hh=>have:=PL h hh;omega
 ·omega
def memZ:List Nat:=List.replicate 256 0
structure NX (x mm q d s t g:Nat):Prop where
 x1:Nq x mm
 x2:Nq x q
 x3:Nq x d
 x4:Nq x s
 x5:Nq x t
 x6:Nq x g
 m1:Nq q mm
 m2:Nq d mm
 m3:Nq d q
 s1:Nq t s
 s2:Nq g s
 s3:Nq g t
 a1:Nq s mm
 a2:Nq s q
 a3:Nq s d
 b1:Nq t mm
 b2:Nq t q
 b3:Nq t d
 c1:Nq g mm
 c2:Nq g q
 c3:Nq g d
def yO (m:Md):List (Int×Int):=m.gl.map fun x=>(x.kd,x.n)
def xV (m:Md) (tb:List Int) (b:List Nat) (x mm q d s t g:Nat):cR:=[(x,.box 157 (gY m (.ptr mm 0) (.ptr s 0))),(mm,.box 169 [.own q 0 (b).length,.int .i64 (iQ 3),.own d 0 (([]:List Int)).length]),(q,.arr 5 1 ((b).map aH)),(d,.arr 3 1 ((([]:List Int)).map aL)),(s,.box 165 [.own t 0 (tb).length,.own g 0 (yO m).length]),(t,.arr 3 1 ((tb).map aL)),(g,.arr 71 2 ((yO m).map fY))]
def aBS (m:Md) (y:AV) (σ:cR):Prop:=
 (lE elO (List.replicate (xR m) (-1)) m.el=none∧y=.tup [.nilp,.int .i64 3]∧σ=[])∨
 ∃tb,lE elO (List.replicate (xR m) (-1)) m.el=some tb∧
  ((lE UI memZ m.da=none∧y=.tup [.nilp,.int .i64 3]∧σ=[])∨
  ∃b,lE UI memZ m.da=some b∧∃x mm q d s t g,NX x mm q d s t g∧y=.tup [.ptr x 0,.int .i64 0]∧σ=xV m tb b x mm q d s t g)
end Go.Proofs.YtjpdadobblffmaaGreat
namespace Go.Proofs.YtjpdadobblffmaaGreat
open Go.RowKit Go.ChangeShapes Go.WideShapes Go.ChangeAt Go.Deep
attribute [local irreducible] SW RS RD eM dR
theorem YZ(m:Md)(wa:m.WO)(hz:m.Z)(hv:(jJ m==-1)=false):SCall Tryz.prog 37 [.agg (cQ m)] [] (fun y σ=>y=.tup [.nilp,.int .i64 6]∧σ=[]):=by
 have hvm:=iY m wa hz;rw[hv]at hvm;refine bO 151 [0,1,2,3,5,6,8,10,11,12,14,15,17,19,26,40,41,42,43,55,61,62,63,64,84,86,87,88,89,115,116,117,118,128,129,130,131] Tryz.func37 ?_;refine cV ?_;refine gM fun r1 h1=> ?_;intros
 refine rZ ?_;refine iD ?_;refine jN ?_;refine jK Tryz.call28 hvm rfl aQ aW ?_;refine qX ?_;refine nI ?_;refine lo (fA (E rfl)) rfl ?_;refine iI ?_;refine mA ?_;exact aE aF ⟨by rfl,rfl⟩ aA
theorem TW(m:Md)(wa:m.WO)(hz:m.Z)(hv:jJ m=-1)(hme:m.me=⟨true,1,3⟩)(hco:∀c∈m.co,WF (dQ c.bd)=[]):SCall Tryz.prog 37 [.agg (cQ m)] [] (aBS m):=by
 have hm:lC m=true:=RU hv;have hGG:=aCG (uV hm).1 wa;have hT4:=aEG (uV hm).1;have hq1:=hGG.el.1;have hq2:=hGG.da.1;have hq3:=hGG.co.1;have hcp:=xA m wa hm;have hvm:=iY m wa hz;rw[hv,show((-1:Int)==-1)=true from rfl]at hvm;have hsp:=AK m (PL (uV hm).1) (by have:=hGG.gl.1;omega);have hmn:SCall Tryz.prog 96 [.agg [.bool m.me.has,.int .i64 m.me.mn,.int .i64 m.me.mx]] []
   (fun x σ=>∃a q d,(Nq q a∧Nq d a∧Nq d q)∧x=.ptr a 0∧σ=[(a,.box 169 [.own q 0 (List.replicate (256*1) 0).length,.int .i64 (iQ 3),.own d 0 (([]:List Int)).length]),(q,.arr 5 1 ((List.replicate (256*1) 0).map aH)),(d,.arr 3 1 ((([]:List Int)).map aL))]):=by
  rw[hme];exact aBO 1 3 (by omega)
 refine bO 151 [0,1,2,3,5,6,8,10,11,12,14,15,17,19,26,40,41,42,43,55,61,62,63,64,84,86,87,88,89,115,116,117,118,128,129,130,131] Tryz.func37 ?_;refine cV ?_;refine gM fun r1 h1=> ?_;intros
 refine rZ ?_;refine iD ?_;refine jN ?_;refine jK Tryz.call28 hvm rfl aQ aW ?_;refine qX ?_;refine nI ?_;refine vQ ?_;refine hU [(0,true),(2,true),(3,true),(5,true),(1,false),(4,false),(6,false),(7,true),(8,false),(9,true)] ?_;refine JN ?_;refine KD ?_;refine JN ?_;refine JN ?_;refine nR [] rfl Tryz.call95 hcp rfl aB aA eU ?_;rintro _ σ' ⟨rfl,rfl⟩ h28;apply dY;exact bX;refine nR [] rfl Tryz.call96 hmn rfl aB aA eU ?_;rintro _ σ' ⟨mm,q,d,⟨n1,n2,n3⟩,rfl,rfl⟩ h31
 replace h31:=AP h31;replace h31:=jE h31;repeat rcases h31 with⟨_,h31⟩
 apply dY;exact bX;refine nR [] rfl Tryz.call97 hsp rfl aB aA eU ?_;rintro _ σ' ⟨s,t,g,⟨n4,n5,n6⟩,rfl,rfl⟩ h33
 replace h33:=AP h33;replace h33:=jE h33;repeat rcases h33 with⟨_,h33⟩
 apply dY;exact bX;refine z94 ?_;refine fz5 fun r35 h35=> ?_;intros
 refine BO ?_;obtain⟨T0,hT0,hT1,hT2⟩:∃T:List Int,T=List.replicate (xR m) (-1)∧T.length=xR m∧T.map aL=List.replicate (xR m) [AV.int .i64 (-1)]:=⟨_,rfl,by simp,by simp[aL]⟩
 obtain⟨G,hG0,hG1,hG2⟩:∃G:List (Int×Int),G=yO m∧G.length=m.gl.length∧G.map fY=m.gl.map MK:=⟨_,rfl,by simp[yO],by unfold yO;rw[List.map_map];rfl⟩
 obtain⟨B0,hB0,hB1⟩:∃B:List Nat,List.replicate (256*1) 0=B∧B.length=256:=⟨_,rfl,by simp⟩
 have hBZ:memZ=B0:=hB0;rw[←hT2,←hT1,←hG2,←hG1,hB0];refine hX ?_;refine nH ?_;refine dL ?_;refine lT ?_;refine lp (β:=Nat×List Int) (fun b=>⟨[(6,.ptr r35 0),(40,.ro 2 (m.el.map dV) .any),(41,.int .i64 m.el.length),(42,.int .i64 b.1)],[(r35,.box 157 (gR m (.ptr mm 0) (.ptr s 0) (.ro 0 [] .nil))),(mm,.box 169 [.own q 0 (B0).length,.int .i64 (iQ 3),.own d 0 (([]:List Int)).length]),(q,.arr 5 1 ((B0).map aH)),(d,.arr 3 1 ((([]:List Int)).map aL)),(s,.box 165 [.own t 0 (b.2).length,.own g 0 (G).length]),(t,.arr 3 1 ((b.2).map aL)),(g,.arr 71 2 ((G).map fY))]⟩) (fun b=>b.1≤m.el.length∧lE elO T0 (m.el.take b.1)=some b.2∧b.2.length=xR m) (fun b=>m.el.length-b.1) (0,T0) aN ⟨Nat.zero_le _,rfl,hT1⟩ ?_;rintro⟨j,tb⟩ ⟨hj,hr,hl⟩;dsimp only at hj hr hl⊢;refine eV ?_;refine aC rfl (fun g6=> ?_) (fun g6=> ?_)
 ·have hlt:j<m.el.length:=by simpa using g6
  obtain⟨⟨off,fs⟩,hx⟩:∃x,m.el[j]? =some x:=⟨_,List.getElem?_eq_getElem hlt⟩
  have hfl:=(hGG.el.2 _ (List.mem_of_getElem? hx)).2.1;dsimp only at hfl;refine lY ?_;refine gF fun r8 h8=> ?_;intros
  refine gL ?_;refine hU [(0,true),(1,true),(2,true),(3,true),(4,true),(5,true),(6,true),(7,true),(8,false),(9,true)] ?_;refine kK ?_;refine kX ?_;refine kX ?_;refine nR [(s,.box 165 [.own t 0 (tb).length,.own g 0 (G).length]),(t,.arr 3 1 ((tb).map aL)),(g,.arr 71 2 ((G).map fY))] rfl Tryz.call41 (rV n4 n5 n6 tb G (by omega) off fs (by omega)) rfl aB aA eU ?_;rintro _ σ' ⟨rfl,rfl⟩ h54;apply dY;exact bX;refine fO rfl (fA (E rfl)) rfl ?_;refine qH ?_;refine aC rfl (fun g8=> ?_) (fun g8=> ?_)
  ·refine aJ ?_;have hN:∀y σ,y=AV.tup [.nilp,.int .i64 3]→σ=[]→aBS m y σ:=fun _ _ h1 h2=>.inl ⟨by rw[←hT0];exact EW hr hx (by unfold elO;exact if_neg (by simpa using g8)),h1,h2⟩
   refine pW ?_;apply aE;exact aF
   ·exact hN _ _ rfl rfl
   ·exact aA
  refine gS ?_;refine⟨(j+1,xS tb off fs),⟨hlt,EV hr hx (by unfold elO;exact if_pos (by simpa using g8)),by rw[MM];exact hl⟩,by show m.el.length-(j+1)<m.el.length-j;omega, ?_⟩;dsimp only;exact aN
 obtain rfl:j=m.el.length:=by simp at g6;omega
 rw[List.take_length,hT0]at hr;refine mX ?_;refine dL ?_;refine lT ?_;refine lp (β:=Nat×List Nat×List Int×Nat) (fun b=>⟨[(6,.ptr r35 0),(61,.ro 2 (m.da.map dW) .any),(62,.int .i64 m.da.length),(63,.int .i64 b.1)],[(r35,.box 157 (gR m (.ptr mm 0) (.ptr s 0) (.ro 0 [] .nil))),(mm,.box 169 [.own q 0 (b.2.1).length,.int .i64 (iQ 3),.own b.2.2.2 0 (b.2.2.1).length]),(q,.arr 5 1 ((b.2.1).map aH)),(b.2.2.2,.arr 3 1 ((b.2.2.1).map aL)),(s,.box 165 [.own t 0 (tb).length,.own g 0 (G).length]),(t,.arr 3 1 ((tb).map aL)),(g,.arr 71 2 ((G).map fY))]⟩) (fun b=>b.1≤m.da.length∧lE UI B0 (m.da.take b.1)=some b.2.1∧b.2.1.length=256∧dl1 b.2.2.1∧Nq b.2.2.2 mm∧Nq b.2.2.2 q∧Nq b.2.2.2 r35∧Nq b.2.2.2 s∧Nq b.2.2.2 t∧Nq b.2.2.2 g) (fun b=>m.da.length-b.1) (0,B0,[],d) aN ⟨Nat.zero_le _,rfl,hB1,.inl rfl,n2,n3,by show Nq d r35;(exact dP),by show Nq d s;(exact dP),by show Nq d t;(exact dP),by show Nq d g;(exact dP)⟩ ?_;rintro⟨j,B,dl,e⟩ ⟨hj,hd,hb,hdl,k1,k2,k3,k4,k5,k6⟩;dsimp only at hj hd hb hdl k1 k2 k3 k4 k5 k6⊢;refine eV ?_;refine aC rfl (fun g12=> ?_) (fun g12=> ?_)
 ·have hlt:j<m.da.length:=by simpa using g12
  obtain⟨⟨off,us⟩,hx⟩:∃x,m.da[j]? =some x:=⟨_,List.getElem?_eq_getElem hlt⟩
  have hul:=hGG.da.2 _ (List.mem_of_getElem? hx);have huu:=wa.w.da _ (List.mem_of_getElem? hx);simp only[iT,Bool.and_eq_true,decide_eq_true_eq]at hul huu;refine lY ?_;refine gF fun r10 h10=> ?_;intros
  refine gL ?_;dsimp only;refine hU [(0,true),(1,true),(2,true),(3,true),(4,true),(5,true),(6,true),(7,true),(8,true),(9,true),(12,true),(13,true),(14,true),(10,false),(11,true),(15,true),(16,true),(17,true)] ?_;refine kX ?_;refine z46 ?_;refine fO rfl (aD (E rfl)) rfl ?_;refine aFt ?_;refine aC5 ?_;refine SI ?_;refine sq7 ?_;refine aC5 ?_;refine aFt ?_;refine aFw ?_;refine aFK rfl rfl rfl Tryz.call98 (fun _=>(TT B (iQ 3) dl (by omega))) rfl aQ aW ?_;rw[show((B.length / 256:Nat):Int)=1 by rw[hb];rfl]
  (first|refine mN rfl rfl rfl rfl rfl ?_ |(refine gE rfl rfl rfl (mC (by first|exact W rfl id|exact E rfl) (E rfl)) rfl ?_)|refine fI rfl rfl rfl (mC (by first|exact W rfl id|exact E rfl) (E rfl)) rfl ?_);rw[show IntKind.i64.wrap (1*256)=256 from rfl];first|refine mN rfl rfl rfl rfl rfl ?_ |(first|refine gE rfl rfl rfl (jV (by first|exact W rfl id|exact E rfl) (by first|exact W rfl id|exact E rfl) (by omega) (by omega)) rfl ?_ |refine gE rfl rfl rfl (oZ (by first|exact W rfl id|exact E rfl) (by first|exact W rfl id|exact E rfl)) rfl ?_)|refine fI rfl rfl rfl (jV (by first|exact W rfl id|exact E rfl) (by first|exact W rfl id|exact E rfl) (by omega) (by omega)) rfl ?_ |refine fI rfl rfl rfl (sY (by first|exact W rfl id|exact E rfl) (by first|exact W rfl id|exact E rfl) (fun hc=>by simp at hc<;>first|omega|(have hov:=hov hc;omega))) rfl ?_ |refine fI rfl rfl rfl (oZ (by first|exact W rfl id|exact E rfl) (by first|exact W rfl id|exact E rfl)) rfl ?_
  (first|refine mN rfl rfl rfl rfl rfl ?_ |(refine gE rfl rfl rfl (fQ (by first|exact W rfl id|exact E rfl) (by first|exact W rfl id|exact E rfl)) rfl ?_)|refine fI rfl rfl rfl (fQ (by first|exact W rfl id|exact E rfl) (by first|exact W rfl id|exact E rfl)) rfl ?_);refine aAl ?_;refine qH ?_;refine aC rfl (fun g14=> ?_) (fun g14=> ?_)
  ·have hf:off<0∨(256:Int)-us.length<off:=by
    by_cases h:off<0
    ·exact .inl h
    ·simp[h]at g14;exact .inr (by omega)
   refine aJ ?_;have hN:∀y σ,y=AV.tup [.nilp,.int .i64 3]→σ=[]→aBS m y σ:=fun _ _ h1 h2=>.inr ⟨tb,hr,.inl ⟨by rw[hBZ];exact EW hd hx (by unfold UI;exact if_pos (by rw[hb];exact hf)),h1,h2⟩⟩
   refine pW ?_;apply aE;exact aF
   ·exact hN _ _ rfl rfl
   ·exact aA
  have hf:0≤off∧off+us.length≤256:=by
   by_cases h:off<0
   ·simp[h]at g14
   ·simp[h]at g14;omega
  refine kC ?_;refine lT ?_;refine lp (β:=Nat×List Int×Nat) (fun b=>⟨[(6,.ptr r35 0),(10,.ptr r10 0),(61,.ro 2 (m.da.map dW) .any),(62,.int .i64 m.da.length),(63,.int .i64 j),(86,.ro 1 (us.map aH) .any),(87,.int .i64 us.length),(88,.int .i64 b.1)],[(r10,.box 48 (dW ⟨off,us⟩)),(r35,.box 157 (gR m (.ptr mm 0) (.ptr s 0) (.ro 0 [] .nil))),(mm,.box 169 [.own q 0 (iH B off.toNat (us.take b.1)).length,.int .i64 (iQ 3),.own b.2.2 0 (b.2.1).length]),(q,.arr 5 1 ((iH B off.toNat (us.take b.1)).map aH)),(b.2.2,.arr 3 1 ((b.2.1).map aL)),(s,.box 165 [.own t 0 (tb).length,.own g 0 (G).length]),(t,.arr 3 1 ((tb).map aL)),(g,.arr 71 2 ((G).map fY))]⟩) (fun b=>b.1≤us.length∧dl1 b.2.1∧Nq b.2.2 mm∧Nq b.2.2 q∧Nq b.2.2 r35∧Nq b.2.2 s∧Nq b.2.2 t∧Nq b.2.2 g∧Nq b.2.2 r10) (fun b=>us.length-b.1) (0,dl,e) aN ⟨Nat.zero_le _,hdl,k1,k2,k3,k4,k5,k6,by show Nq e r10;(exact dP)⟩ ?_;clear hdl k1 k2 k3 k4 k5 k6;rintro⟨k,dl,e⟩ ⟨hk,hdl,k1,k2,k3,k4,k5,k6,k7⟩;dsimp only at hk hdl k1 k2 k3 k4 k5 k6 k7⊢;refine eV ?_;refine aC rfl (fun g17=> ?_) (fun g17=> ?_)
  ·have hlk:k<us.length:=by simpa using g17
   obtain⟨c,hc⟩:∃c,us[k]? =some c:=⟨_,List.getElem?_eq_getElem hlk⟩
   have hc2:=huu c (List.mem_of_getElem? hc);have hbl:(iH B off.toNat (us.take k)).length=256:=by rw[mR];exact hb
   have hst:=EU ⟨n1,k1,k2⟩ (iH B off.toNat (us.take k)) (iQ 3) dl (by omega) (YX hdl).1 (YX hdl).2 (off.toNat+k) 1 c (by omega) (by unfold xU;rw[hbl];simp;omega);rw[aBQ hc2,aBR hdl (by omega),←PK hc]at hst;refine bH ?_;refine qG ?_;refine rZ ?_;refine hU [(0,true),(1,true),(2,true),(3,true),(4,true),(5,true),(6,true),(7,true),(8,true),(9,true),(10,false)] ?_;refine kK ?_;refine kX ?_;refine fO rfl (aD (E rfl)) rfl ?_;refine VC ?_;refine fO rfl (aD (E rfl)) rfl ?_;refine z75 ?_;rw[show IntKind.i64.wrap (off+(k:Int))=((off.toNat+k:Nat):Int) by rw[fT (by omega) (by omega)];omega];refine nR [(mm,.box 169 [.own q 0 (iH B off.toNat (us.take k)).length,.int .i64 (iQ 3),.own e 0 (dl).length]),(q,.arr 5 1 ((iH B off.toNat (us.take k)).map aH)),(e,.arr 3 1 ((dl).map aL))] rfl Tryz.call40 hst rfl aB aA eU ?_;rintro _ σ' ⟨e2,⟨j1,j2⟩,rfl,rfl⟩ h103;have k103:=NU h103;repeat rcases k103 with⟨_,k103⟩
   apply dY;exact bX;refine FK ?_;refine gS ?_;refine⟨(k+1,[0],e2),⟨hlk,.inr rfl,by show Nq e2 mm;(exact dP),by show Nq e2 q;(exact dP),by show Nq e2 r35;(exact dP),by show Nq e2 s;(exact dP),by show Nq e2 t;(exact dP),by show Nq e2 g;(exact dP),by show Nq e2 r10;(exact dP)⟩,by show us.length-(k+1)<us.length-k;omega, ?_⟩;dsimp only;exact aN
  obtain rfl:k=us.length:=by simp at g17;omega
  rw[List.take_length];refine gS ?_;refine⟨(j+1,iH B off.toNat us,dl,e),⟨hlt,EV hd hx (by unfold UI;exact if_neg (by rw[hb];show¬(off<0∨(256:Int)-us.length<off);omega)),by show(iH B off.toNat us).length=256;rw[mR];exact hb,hdl,k1,k2,k3,k4,k5,k6⟩,by show m.da.length-(j+1)<m.da.length-j;omega, ?_⟩;dsimp only;exact aN
 obtain rfl:j=m.da.length:=by simp at g12;omega
 rw[List.take_length]at hd;refine bH ?_;refine iJ ?_;refine cw [(mm,.box 169 [.own q 0 (B).length,.int .i64 (iQ 3),.own e 0 (dl).length]),(q,.arr 5 1 ((B).map aH)),(e,.arr 3 1 ((dl).map aL))] Tryz.call99 (TU ⟨n1,k1,k2⟩ B (iQ 3) dl) rfl aB aA ?_;rintro _ σ' ⟨e2,⟨j1,j2⟩,rfl⟩ h110;have k110:=NU h110;repeat rcases k110 with⟨_,k110⟩
 refine iB ?_;refine hX ?_;refine nH ?_;refine dL ?_;refine lT ?_;refine cE (ks:=[0,1,2,3,5,6,8,10,11,12,14,15,17,19,26,40,41,42,43,55,61,62,63,64,84,86,87,88,89,115,116,117,118,128,129,130,131]) r35 16 160 1 (by decide) bF rfl (by decide) fun jj hjj=> ?_
 simp only[aM,aT,and_true]at hjj;repeat rcases hjj with⟨_,hjj⟩
 apply Exists.intro;apply And.intro;exact bW;refine lp (β:=Nat×Nat) (fun b=>⟨[(6,.ptr r35 0),(115,.ro 2 (m.co.map cZ) .any),(116,.int .i64 m.co.length),(117,.int .i64 b.1)],[(b.2,.arr 160 1 ((GZ b.1).map vH)),(r35,.box 157 (gR m (.ptr mm 0) (.ptr s 0) (.own b.2 0 (GZ b.1).length))),(mm,.box 169 [.own q 0 (B).length,.int .i64 (iQ 3),.own e2 0 (([]:List Int)).length]),(q,.arr 5 1 ((B).map aH)),(e2,.arr 3 1 ((([]:List Int)).map aL)),(s,.box 165 [.own t 0 (tb).length,.own g 0 (G).length]),(t,.arr 3 1 ((tb).map aL)),(g,.arr 71 2 ((G).map fY))]⟩) (fun b=>b.1≤m.co.length∧Nq b.2 r35∧Nq b.2 mm∧Nq b.2 q∧Nq b.2 e2∧Nq b.2 s∧Nq b.2 t∧Nq b.2 g) (fun b=>m.co.length-b.1) (0,jj) aN ⟨Nat.zero_le _,by show Nq jj r35;(exact dP),by show Nq jj mm;(exact dP),by show Nq jj q;(exact dP),by show Nq jj e2;(exact dP),by show Nq jj s;(exact dP),by show Nq jj t;(exact dP),by show Nq jj g;(exact dP)⟩ ?_;rintro⟨k,jj⟩ ⟨hk,l1,l2,l3,l4,l5,l6,l7⟩;dsimp only at hk l1 l2 l3 l4 l5 l6 l7⊢;refine eV ?_;refine aC rfl (fun g24=> ?_) (fun g24=> ?_)
 ·have hlk:k<m.co.length:=by simpa using g24
  obtain⟨⟨ls,bd⟩,hx⟩:∃x,m.co[k]? =some x:=⟨_,List.getElem?_eq_getElem hlk⟩
  have hbd:=(hGG.co.2 _ (List.mem_of_getElem? hx)).2.1;have hbl:=hco _ (List.mem_of_getElem? hx);have hjl:=RR (k:=k);have hcl:=hGG.co.1;dsimp only at hbd hbl;have hcm:=jR bd (by omega);rw[hbl]at hcm;refine lY ?_;refine gF fun r14 h14=> ?_;intros
  refine kY ?_;refine kC ?_;refine cw [] Tryz.call75 hcm rfl aB aA ?_;rintro _ σ' ⟨q0,rfl,rfl⟩ h124
  replace h124:=fU h124;repeat rcases h124 with⟨_,h124⟩
  refine qY ?_;refine rZ ?_;refine iD ?_;refine eT (wZ (cL rfl) ?_);refine jM fun r127 h127=> ?_;intros
  refine cI ?_;refine oK ?_;refine lp (β:=Unit) (fun _=>⟨[(6,.ptr r35 0),(17,.mp r127),(115,.ro 2 (m.co.map cZ) .any),(116,.int .i64 m.co.length),(117,.int .i64 k),(129,.int .i64 0),(130,.int .i64 0)],[(r127,.map [] []),(jj,.arr 160 1 ((GZ k).map vH)),(r35,.box 157 (gR m (.ptr mm 0) (.ptr s 0) (.own jj 0 (GZ k).length))),(mm,.box 169 [.own q 0 (B).length,.int .i64 (iQ 3),.own e2 0 (([]:List Int)).length]),(q,.arr 5 1 ((B).map aH)),(e2,.arr 3 1 ((([]:List Int)).map aL)),(s,.box 165 [.own t 0 (tb).length,.own g 0 (G).length]),(t,.arr 3 1 ((tb).map aL)),(g,.arr 71 2 ((G).map fY))]⟩) (fun _=>True) (fun _=>0) () aN True.intro ?_;rintro⟨⟩-;refine eV ?_;refine jX ?_;refine wP ?_;refine gX (j:=144) rfl bD (YY bF) ?_;refine eP fun r145 h145=> ?_;intros
  refine mP ((GZ k++ [0]).map vH) (GZ k++ [0]).length ?_;refine dG fun r146 h146=> ?_;intros
  refine nH ?_;refine kY ?_;refine gS ?_;refine⟨(k+1,r146),⟨hlk,by show Nq r146 r35;(exact dP),by show Nq r146 mm;(exact dP),by show Nq r146 q;(exact dP),by show Nq r146 e2;(exact dP),by show Nq r146 s;(exact dP),by show Nq r146 t;(exact dP),by show Nq r146 g;(exact dP)⟩,by show m.co.length-(k+1)<m.co.length-k;omega, ?_⟩;dsimp only;rw[MP];exact aN
 obtain rfl:k=m.co.length:=by simp at g24;omega
 refine dM (iE (r:=r35) (q:=jj) bW bD (RT (aK bF (by simp)))) ?_;refine aJ ?_;have hN:∀y σ,y=AV.tup [.ptr r35 0,.int .i64 0]→σ=xV m tb B r35 mm q e2 s t g→aBS m y σ:=fun _ _ h1 h2=>.inr ⟨tb,hr,.inr ⟨B,by rw[hBZ];exact hd,r35,mm,q,e2,s,t,g,⟨by(exact dP),by(exact dP),by(exact dP),by(exact dP),by(exact dP),by(exact dP),n1,j1,j2,n4,n5,n6,by(exact dP),by(exact dP),by(exact dP),by(exact dP),by(exact dP),by(exact dP),by(exact dP),by(exact dP),by(exact dP)⟩,h1,h2⟩⟩
 unfold xV gY at hN;rw[←hG0]at hN;refine hX ?_;refine rZ ?_;apply aE;exact aF
 ·exact hN _ _ rfl rfl
 ·exact aA
section
set_option maxRecDepth 100000
theorem ZA(f:Int):SCall Tryz.prog 30 [.nilp,.int .i64 f] [] (fun y σ=>y=.tup [.agg [.ro 0 [] .nil,.ro 0 [] .nil],.bool false]∧σ=[]):=by
 refine bO 71 [0,1,4,5,28,32] Tryz.func30 ?_;refine cV ?_;refine gF fun r4 h4=> ?_;intros
 refine cI ?_;refine hU [(0,true),(1,true),(2,true),(3,true),(4,true),(5,true),(6,true),(7,true),(8,true),(9,true),(10,true),(11,true),(12,true),(13,true),(14,true),(15,true),(16,true),(17,true),(18,true),(19,true),(20,true),(21,true),(22,true)] ?_;refine aFy ?_;refine aB2 ?_;refine aAl ?_;refine OA ?_;refine SI ?_;refine sq7 ?_;refine aAo ?_;refine SI ?_;refine sq7 ?_;refine aAo ?_;first|refine mN rfl rfl rfl rfl rfl ?_ |(first|refine gE rfl rfl rfl (mM (by first|exact W rfl id|exact E rfl) (by first|exact W rfl id|exact E rfl) (by omega) (by omega)) rfl ?_ |refine gE rfl rfl rfl (kE (by first|exact W rfl id|exact E rfl) (by first|exact W rfl id|exact E rfl)) rfl ?_)|refine fI rfl rfl rfl (mM (by first|exact W rfl id|exact E rfl) (by first|exact W rfl id|exact E rfl) (by omega) (by omega)) rfl ?_ |refine fI rfl rfl rfl (lop_add64c (by first|exact W rfl id|exact E rfl) (by first|exact W rfl id|exact E rfl) (fun hc=>by simp at hc<;>first|omega|(have hov:=hov hc;omega))) rfl ?_ |refine fI rfl rfl rfl (kE (by first|exact W rfl id|exact E rfl) (by first|exact W rfl id|exact E rfl)) rfl ?_
 refine aFA ?_;refine FK ?_;refine cV ?_;refine iA ?_;refine KH ?_;exact aE aF ⟨by rfl,rfl⟩ aA
theorem PM(nm:List Nat):SCall Tryz.prog 31 [.nilp,.str (cU nm)] [] (fun y σ=>y=.tup [.int .i64 0,.bool false]∧σ=[]):=by
 refine bO 27 [0,1,4,5,7,9,14,15,16,17,23] Tryz.func31 ?_;refine mA ?_;refine xI ?_;refine iI ?_;refine mA ?_;exact aE aF ⟨by rfl,rfl⟩ aA
theorem PN(f:Int):SCall Tryz.prog 36 [.nilp,.int .i64 f] [] (fun y σ=>y=.bool false∧σ=[]):=by
 refine bO 21 [0,1,4] Tryz.func36 ?_;refine bV ?_;refine aDa ?_;refine gA ?_;refine UZ ?_;refine mW ?_;refine eJ ?_;refine aAi ?_;refine aAj ?_;refine SL ?_;refine vO ?_;refine aCX ?_;refine iS ?_;exact aE aF ⟨by rfl,rfl⟩ aA
theorem aBT:SCall Tryz.prog 34 [.nilp] [] (fun y σ=>y=.nilp∧σ=[]):=by
 refine bO 9 [0,2,4] Tryz.func34 ?_;refine bV ?_;refine xI ?_;refine iI ?_;refine bV ?_;exact aE aF ⟨by rfl,rfl⟩ aA
theorem TX:SCall Tryz.prog 35 [.nilp] [] (fun y σ=>y=.nilp∧σ=[]):=by
 refine bO 9 [0,2,4] Tryz.func35 ?_;refine bV ?_;refine xI ?_;refine iI ?_;refine bV ?_;exact aE aF ⟨by rfl,rfl⟩ aA
def aHX:List AV:=[.ro 0 [] .nil,.ro 0 [] .nil,.ro 0 [] .nil,.bool false,.int .i64 0,.int .i64 0,.bool false,.int .i64 0,.int .i64 0,.ro 0 [] .nil,.ro 0 [] .nil,.ro 0 [] .nil,.ro 0 [] .nil,.ro 0 [] .nil]
theorem PO:SCall Tryz.prog 33 [.nilp] [] (fun y σ=>y=.agg aHX∧σ=[]):=by
 refine bO 11 [0,2,4] Tryz.func33 ?_;refine cV ?_;refine gF fun r2 h2=> ?_;intros
 refine gQ ?_;refine xI ?_;refine iI ?_;refine cV ?_;refine iA ?_;refine gL ?_;exact aE aF ⟨by rfl,rfl⟩ aA
end
section
variable {x mm s : Nat} {m : Md}
set_option maxRecDepth 100000
theorem lP{j:AV}:SCall Tryz.prog 34 [.ptr x 0] [(x,.box 157 (gR m (.ptr mm 0) (.ptr s 0) j))] (fun y σ=>y=.ptr mm 0∧σ=[(x,.box 157 (gR m (.ptr mm 0) (.ptr s 0) j))]):=by
 refine bO 9 [0,2,4] Tryz.func34 ?_;refine bV ?_;refine xI ?_;refine pG ?_;refine iJ ?_;refine cI ?_;exact aE aF ⟨by rfl,rfl⟩ aA
theorem TY{j:AV}:SCall Tryz.prog 34 [.ptr x 0] [(x,.box 157 (gR m .nilp (.ptr s 0) j))] (fun y σ=>y=.nilp∧σ=[(x,.box 157 (gR m .nilp (.ptr s 0) j))]):=by
 refine bO 9 [0,2,4] Tryz.func34 ?_;refine bV ?_;refine xI ?_;refine pG ?_;refine iJ ?_;refine cI ?_;exact aE aF ⟨by rfl,rfl⟩ aA
theorem iR{p j:AV}:SCall Tryz.prog 35 [.ptr x 0] [(x,.box 157 (gR m p (.ptr s 0) j))] (fun y σ=>y=.ptr s 0∧σ=[(x,.box 157 (gR m p (.ptr s 0) j))]):=by
 refine bO 9 [0,2,4] Tryz.func35 ?_;refine bV ?_;refine xI ?_;refine pG ?_;refine iJ ?_;refine cI ?_;exact aE aF ⟨by rfl,rfl⟩ aA
def aGD (m:Md) (f:Int):Bool:=if decide (0≤f)=true then decide (f<(m.im.length:Int))else false
theorem rW{p j:AV}(f:Int):SCall Tryz.prog 36 [.ptr x 0,.int .i64 f] [(x,.box 157 (gR m p (.ptr s 0) j))] (fun y σ=>y=.bool (aGD m f)∧σ=[(x,.box 157 (gR m p (.ptr s 0) j))]):=by
 refine bO 21 [0,1,4] Tryz.func36 ?_;refine bV ?_;refine aDa ?_;refine gA ?_;refine UZ ?_;refine mW ?_;refine eJ ?_;refine aAi ?_;refine aAj ?_;refine SL ?_;refine vO ?_;refine aCX ?_;refine iS ?_;exact aE aF ⟨by rfl,rfl⟩ aA
def exV (l:List Ex) (nm:List Nat):Int×Bool:=match l.find? (fun x=>YN x.nm nm)with|some x=>(x.fn,true)|none=>(0,false)
theorem aBU{l:List Ex}{nm:List Nat}{k:Nat}{x:Ex}(h:(l.take k).all (fun x=> !YN x.nm nm)=true)(hx:l[k]? =some x)(hq:YN x.nm nm=true):exV l nm=(x.fn,true):=by
 obtain⟨hlt,he⟩:=List.getElem?_eq_some_iff.1 hx;have hl:l=l.take k++x::l.drop (k+1):=by rw[←he,←List.drop_eq_getElem_cons hlt,List.take_append_drop]
 have h0:(l.take k).find? (fun x=>YN x.nm nm)=none:=by
  rw[List.find?_eq_none];intro y hy;have:=List.all_eq_true.1 h y hy;simpa using this
 unfold exV;rw[hl,List.find?_append,h0,Option.none_or,List.find?_cons_of_pos (p:=fun x:Ex=>YN x.nm nm) hq]
theorem ZB{l:List Ex}{nm:List Nat}(h:l.all (fun x=> !YN x.nm nm)=true):exV l nm=(0,false):=by
 unfold exV;rw[List.find?_eq_none.2 (fun y hy=>by have:=List.all_eq_true.1 h y hy;simpa using this)]
theorem xD{p j:AV}(hl:m.ex.length≤1000)(nm:List Nat):SCall Tryz.prog 31 [.ptr x 0,.str (cU nm)] [(x,.box 157 (gR m p (.ptr s 0) j))] (fun y σ=>y=.tup [.int .i64 (exV m.ex nm).1,.bool (exV m.ex nm).2]∧σ=[(x,.box 157 (gR m p (.ptr s 0) j))]):=by
 refine bO 27 [0,1,4,5,7,9,14,15,16,17,23] Tryz.func31 ?_;refine mA ?_;refine xI ?_;refine pG ?_;refine nH ?_;refine dL ?_;refine lT ?_;refine lp (β:=Nat) (fun k=>⟨[(1,.str (cU nm)),(14,.ro 2 (m.ex.map dJ) .any),(15,.int .i64 m.ex.length),(16,.int .i64 k)],[(x,.box 157 (gR m p (.ptr s 0) j))]⟩) (fun k=>k≤m.ex.length∧(m.ex.take k).all (fun x=> !YN x.nm nm)=true) (fun k=>m.ex.length-k) 0 aN ⟨Nat.zero_le _,rfl⟩ ?_;rintro k ⟨hk,ha⟩;refine eV ?_;refine aC rfl (fun g4=> ?_) (fun g4=> ?_)
 ·have hlt:k<m.ex.length:=by simpa using g4
  obtain⟨⟨en,ef⟩,hx⟩:∃x,m.ex[k]? =some x:=⟨_,List.getElem?_eq_getElem hlt⟩
  refine lY ?_;refine gF fun r7 h7=> ?_;intros
  refine kY ?_;refine kC ?_;refine lo (aD (E rfl)) rfl ?_;refine lo (qP (E rfl) (E rfl)) rfl ?_;refine gQ ?_;refine aC rfl (fun g6=> ?_) (fun g6=> ?_)
  ·refine aJ ?_;have hE:=aBU ha hx g6;refine nL ?_;refine rZ ?_;exact aE aF ⟨by rw[hE];rfl,rfl⟩ aA
  refine gS ?_;have h6:YN en nm=false:=g6;refine⟨k+1,⟨hlt,by rw[List.take_add_one,hx,List.all_append,ha];simp[h6]⟩,by show m.ex.length-(k+1)<m.ex.length-k;omega, ?_⟩;exact aN
 obtain rfl:k=m.ex.length:=by simp at g4;omega
 rw[List.take_length]at ha;have hE:=ZB ha;refine mA ?_;exact aE aF ⟨by rw[hE];rfl,rfl⟩ aA
end
section
variable {x s : Nat}
set_option maxRecDepth 100000
theorem PP{p j:AV}:SCall Tryz.prog 30 [.ptr x 0,.int .i64 0] [(x,.box 157 (gR smallM p (.ptr s 0) j))] (fun y σ=>y=.tup [.agg (dF ⟨[1,1],[1]⟩),.bool true]∧σ=[(x,.box 157 (gR smallM p (.ptr s 0) j))]):=by
 have e1:smallM.fn[(0:Int).toNat]? =some 0:=rfl;have e2:smallM.ty[(0:Int).toNat]? =some ⟨[1,1],[1]⟩:=rfl;have e3:smallM.fn.length=1:=rfl;have e4:smallM.ty.length=1:=rfl;refine bO 71 [0,1,4,5,28,32] Tryz.func30 ?_;refine cV ?_;refine gF fun r4 h4=> ?_;intros
 refine cI ?_;refine hU [(0,true),(1,true),(2,true),(3,true),(4,true),(5,true),(6,true),(7,true),(8,true),(9,true),(10,true),(11,true),(12,true),(13,true),(14,true),(15,true),(16,true),(17,true),(18,true),(19,true),(20,true),(21,true),(22,true)] ?_;refine aFy ?_;refine aB2 ?_;refine aAl ?_;rw[show decide ((0:Int)<0)=false from rfl];refine OA ?_;refine SI ?_;refine sq7 ?_;refine aAo ?_;refine SI ?_;refine sq7 ?_;refine aAo ?_;first|refine mN rfl rfl rfl rfl rfl ?_ |(first|refine gE rfl rfl rfl (mM (by first|exact W rfl id|exact E rfl) (by first|exact W rfl id|exact E rfl) (by omega) (by omega)) rfl ?_ |refine gE rfl rfl rfl (kE (by first|exact W rfl id|exact E rfl) (by first|exact W rfl id|exact E rfl)) rfl ?_)|refine fI rfl rfl rfl (mM (by first|exact W rfl id|exact E rfl) (by first|exact W rfl id|exact E rfl) (by omega) (by omega)) rfl ?_ |refine fI rfl rfl rfl (lop_add64c (by first|exact W rfl id|exact E rfl) (by first|exact W rfl id|exact E rfl) (fun hc=>by simp at hc<;>first|omega|(have hov:=hov hc;omega))) rfl ?_ |refine fI rfl rfl rfl (kE (by first|exact W rfl id|exact E rfl) (by first|exact W rfl id|exact E rfl)) rfl ?_
 refine aFA ?_;refine FK ?_;refine dB ?_;refine nK [(x,.box 157 (gR smallM p (.ptr s 0) j))] Tryz.call36 (rW 0) ?_;rw[show aGD smallM 0=false from rfl];refine gQ ?_;refine hU [(0,true),(1,true),(2,true),(3,true),(4,true),(5,true),(6,true),(7,true),(8,true),(9,true),(10,true),(11,true),(12,true),(13,true),(14,true),(15,true),(16,true),(17,true),(18,true),(19,true),(20,true),(21,true),(22,false),(23,true)] ?_;refine SK ?_;refine KD ?_;refine kX ?_;refine SK ?_;refine KD ?_;refine kX ?_;refine fO rfl (aD (E rfl)) rfl ?_;refine SK ?_;refine KD ?_;refine kX ?_;refine JM ?_;refine ZL ?_;rw[show IntKind.i64.wrap (0-(smallM.im.length:Int))=0 from rfl];refine NV ?_;refine UW ?_;refine NV ?_;refine BM ?_;refine NL ?_;refine BO ?_;exact aE aF ⟨by rfl,rfl⟩ aA
end
theorem TZ(m:Md)(wa:m.WO)(hz:m.Z)(hv:jJ m=-1)(hme:m.me=BV)(hel:m.el=[])(hda:m.da=[])(hco:∀c∈m.co,WF (dQ c.bd)=[]):SCall Tryz.prog 37 [.agg (cQ m)] []
  (fun y σ=>∃x s,y=.tup [.ptr x 0,.int .i64 0]∧σ=[(x,.box 157 (gY m .nilp (.ptr s 0)))]):=by
 have hm:lC m=true:=RU hv;have hGG:=aCG (uV hm).1 wa;have hcp:=xA m wa hm;have hvm:=iY m wa hz;rw[hv,show((-1:Int)==-1)=true from rfl]at hvm;have hsp:=AK m (PL (uV hm).1) (by have:=hGG.gl.1;omega);have hmn:SCall Tryz.prog 96 [.agg [.bool m.me.has,.int .i64 m.me.mn,.int .i64 m.me.mx]] [] (fun x σ=>x=.nilp∧σ=[]):=by
  rw[hme];exact PJ false 0 0 (.inl rfl)
 refine bO 151 [0,1,2,3,5,6,8,10,11,12,14,15,17,19,26,40,41,42,43,55,61,62,63,64,84,86,87,88,89,115,116,117,118,128,129,130,131] Tryz.func37 ?_;refine cV ?_;refine gM fun r1 h1=> ?_;intros
 refine rZ ?_;refine iD ?_;refine jN ?_;refine jK Tryz.call28 hvm rfl aQ aW ?_;refine qX ?_;refine nI ?_;refine vQ ?_;refine hU [(0,true),(2,true),(3,true),(5,true),(1,false),(4,false),(6,false),(7,true),(8,false),(9,true)] ?_;refine JN ?_;refine KD ?_;refine JN ?_;refine JN ?_;refine nR [] rfl Tryz.call95 hcp rfl aB aA eU ?_;rintro _ σ' ⟨rfl,rfl⟩ h28;apply dY;exact bX;refine nR [] rfl Tryz.call96 hmn rfl aB aA eU ?_;rintro _ σ' ⟨rfl,rfl⟩ h31;apply dY;exact bX;refine nR [] rfl Tryz.call97 hsp rfl aB aA eU ?_;rintro _ σ' ⟨s,t,g,⟨n4,n5,n6⟩,rfl,rfl⟩ h33
 replace h33:=AP h33;replace h33:=jE h33;repeat rcases h33 with⟨_,h33⟩
 apply dY;exact bX;refine z94 ?_;refine fz5 fun r35 h35=> ?_;intros
 refine aC8 ?_;refine mX ?_;refine dL ?_;refine lT ?_;refine lp (β:=Unit) (fun _=>⟨[(6,.ptr r35 0),(41,.int .i64 m.el.length),(42,.int .i64 0)],[(r35,.box 157 (gR m .nilp (.ptr s 0) (.ro 0 [] .nil)))]⟩) (fun _=>True) (fun _=>0) () aN True.intro ?_;rintro⟨⟩-;refine eV ?_;refine aC rfl (fun g6=> ?_) (fun g6=> ?_)
 ·refine aJ ?_;exact absurd g6 (by rw[hel];decide)
 refine mX ?_;refine dL ?_;refine lT ?_;refine lp (β:=Unit) (fun _=>⟨[(6,.ptr r35 0),(62,.int .i64 m.da.length),(63,.int .i64 0)],[(r35,.box 157 (gR m .nilp (.ptr s 0) (.ro 0 [] .nil)))]⟩) (fun _=>True) (fun _=>0) () aN True.intro ?_;rintro⟨⟩-;refine eV ?_;refine aC rfl (fun g12=> ?_) (fun g12=> ?_)
 ·refine aJ ?_;exact absurd g12 (by rw[hda];decide)
 refine bH ?_;refine iJ ?_;refine cw [] Tryz.call99 TV rfl aB aA ?_;rintro _ σ' rfl h110;refine iB ?_;refine hX ?_;refine nH ?_;refine dL ?_;refine lT ?_;refine cE (ks:=[0,1,2,3,5,6,8,10,11,12,14,15,17,19,26,40,41,42,43,55,61,62,63,64,84,86,87,88,89,115,116,117,118,128,129,130,131]) r35 16 160 1 (by decide) bF rfl (by decide) fun jj hjj=> ?_
 simp only[aM,aT,and_true]at hjj;repeat rcases hjj with⟨_,hjj⟩
 apply Exists.intro;apply And.intro;exact bW;refine lp (β:=Nat×Nat) (fun b=>⟨[(6,.ptr r35 0),(115,.ro 2 (m.co.map cZ) .any),(116,.int .i64 m.co.length),(117,.int .i64 b.1)],[(b.2,.arr 160 1 ((GZ b.1).map vH)),(r35,.box 157 (gR m .nilp (.ptr s 0) (.own b.2 0 (GZ b.1).length)))]⟩) (fun b=>b.1≤m.co.length∧Nq b.2 r35) (fun b=>m.co.length-b.1) (0,jj) aN ⟨Nat.zero_le _,by show Nq jj r35;(exact dP)⟩ ?_;rintro⟨k,jj⟩ ⟨hk,l1⟩;dsimp only at hk l1⊢;refine eV ?_;refine aC rfl (fun g24=> ?_) (fun g24=> ?_)
 ·have hlk:k<m.co.length:=by simpa using g24
  obtain⟨⟨ls,bd⟩,hx⟩:∃x,m.co[k]? =some x:=⟨_,List.getElem?_eq_getElem hlk⟩
  have hbd:=(hGG.co.2 _ (List.mem_of_getElem? hx)).2.1;have hbl:=hco _ (List.mem_of_getElem? hx);have hjl:=RR (k:=k);have hcl:=hGG.co.1;dsimp only at hbd hbl;have hcm:=jR bd (by omega);rw[hbl]at hcm;refine lY ?_;refine gF fun r14 h14=> ?_;intros
  refine kY ?_;refine kC ?_;refine cw [] Tryz.call75 hcm rfl aB aA ?_;rintro _ σ' ⟨q0,rfl,rfl⟩ h124
  replace h124:=fU h124;repeat rcases h124 with⟨_,h124⟩
  refine qY ?_;refine rZ ?_;refine iD ?_;refine eT (wZ (cL rfl) ?_);refine jM fun r127 h127=> ?_;intros
  refine cI ?_;refine oK ?_;refine lp (β:=Unit) (fun _=>⟨[(6,.ptr r35 0),(17,.mp r127),(115,.ro 2 (m.co.map cZ) .any),(116,.int .i64 m.co.length),(117,.int .i64 k),(129,.int .i64 0),(130,.int .i64 0)],[(r127,.map [] []),(jj,.arr 160 1 ((GZ k).map vH)),(r35,.box 157 (gR m .nilp (.ptr s 0) (.own jj 0 (GZ k).length)))]⟩) (fun _=>True) (fun _=>0) () aN True.intro ?_;rintro⟨⟩-;refine eV ?_;refine jX ?_;refine wP ?_;refine gX (j:=144) rfl bD (YY bF) ?_;refine eP fun r145 h145=> ?_;intros
  refine mP ((GZ k++ [0]).map vH) (GZ k++ [0]).length ?_;refine dG fun r146 h146=> ?_;intros
  refine nH ?_;refine kY ?_;refine gS ?_;refine⟨(k+1,r146),⟨hlk,by show Nq r146 r35;(exact dP)⟩,by show m.co.length-(k+1)<m.co.length-k;omega, ?_⟩;rw[MP];exact aN
 obtain rfl:k=m.co.length:=by simp at g24;omega
 refine dM (iE (r:=r35) (q:=jj) bW bD (RT (aK bF (by simp)))) ?_;refine bH ?_;refine rZ ?_;exact aE aF ⟨r35,s,by rfl,rfl⟩ aA
def ZC (q:Nat):List AV:=[.ro 2 (smallM.ty.map dF) .any,.ro 3 [] .any,.ro 1 (smallM.fn.map aL) .any,.bool false,.int .i64 0,.int .i64 0,.bool false,.int .i64 0,.int .i64 0,.ro 3 [] .any,.own q 0 1,.ro 2 [] .any,.ro 2 (smallM.co.map cZ) .any,.ro 2 [] .any]
theorem PQ:SCall Tryz.prog 50 [] [] (fun y σ=>∃q,y=.agg (ZC q)∧σ=[(q,.arr 66 2 (smallM.ex.map dJ))]):=by
 refine bO 15 [0] Tryz.func50 ?_;refine cV ?_;refine gF fun r0 h0=> ?_;intros
 refine iI ?_;refine cV ?_;refine eP fun r1 h1=> ?_;intros
 refine gX (j:=1) rfl bD (aK bF (by simp)) ?_;refine eP fun r2 h2=> ?_;intros
 refine gX (j:=2) rfl bD (aK bF (by simp)) ?_;refine iA ?_;refine eP fun r4 h4=> ?_;intros
 refine gX (j:=4) rfl bD (aK bF (by simp)) ?_;refine eP fun r5 h5=> ?_;intros
 refine gX (j:=5) rfl bD (aK bF (by simp)) ?_;refine iA ?_;refine eP fun r7 h7=> ?_;intros
 refine iA ?_;refine iA ?_;refine iA ?_;refine eP fun r11 h11=> ?_;intros
 refine gX (j:=11) rfl bD (aK bF (by simp)) ?_;refine jW (eS (j:=11) rfl (AF (l:=smallIs) (by simp[smallIs]))) ?_;refine iA ?_;refine jW (eS (j:=12) rfl GR) ?_;refine eP fun r13 h13=> ?_;intros
 refine gX (j:=13) rfl bD (aK bF (by simp)) ?_;refine iA ?_;refine kY ?_;refine an ?_;refine dM (gI (r:=r0) (cs':=ZC r7) bW (.cons (.refl _) (.cons (.le VLe.empty) (.cons (.refl _) (.cons (.refl _) (.cons (.refl _) (.cons (.refl _) (.cons (.refl _) (.cons (.refl _) (.cons (.refl _) (.cons (.le VLe.empty) (.cons (.refl _) (.cons (.le VLe.empty) (.cons (.refl _) (.cons (.le VLe.empty) .nil))))))))))))))) ?_;refine aJ ?_;exact aE aF ⟨r7,by rfl,rfl⟩ aA
def smallX:Md:= { smallM with ex:=[⟨(smallM.ex.headD ⟨[],0⟩).nm,1⟩] }
theorem UA:smallX.WO:=⟨⟨small_wo.w.im,fun x hx=>by
  obtain rfl:=List.mem_singleton.1 hx;exact small_wo.w.ex ⟨[97,100,100],0⟩ (by simp[smallM]),small_wo.w.co,small_wo.w.il,small_wo.w.da⟩,⟨small_wo.ok.1,small_wo.ok.2⟩⟩
theorem RV:smallM.Z:=by constructor<;>decide
theorem ZD:smallX.Z:=by constructor<;>decide
theorem ZE:fun0.Z:=by constructor<;>decide
theorem MQ:jJ smallM=-1:=by decide+kernel
theorem UB:jJ smallX=7:=by decide+kernel
theorem RW:jJ fun0=0:=by decide+kernel
theorem PR:SCall Tryz.prog 82 [] [] (fun y σ=>y=.bool true∧σ=[]):=by
 refine bO 2 [0] Tryz.func82 ?_;refine nS ?_;refine jK Tryz.call22 PD rfl aQ aW ?_;refine cI ?_;exact aE aF ⟨by rfl,rfl⟩ aA
theorem PT:SCall Tryz.prog 27 [] [] (fun y σ=>y=.bool true∧σ=[]):=by
 have w1:=iY smallM small_wo RV;have w2:=iY smallX UA ZD;have w3:=iY fun0 GQ ZE;rw[MQ,show((-1:Int)==-1)=true from rfl]at w1;rw[UB,show((7:Int)==-1)=false from rfl]at w2;rw[RW,show((0:Int)==-1)=false from rfl]at w3;refine bO 53 [0,1,2,3,4,5,6,7] Tryz.func27 ?_;refine nS ?_;refine nK [] Tryz.call50 sE ?_;refine jK Tryz.call28 w1 rfl aQ aW ?_;refine qX ?_;refine rZ ?_;refine iD ?_;refine cw [] Tryz.call50 PQ rfl aB aA ?_;rintro _ σ' ⟨q1,rfl,rfl⟩ h13
 replace h13:=fU h13;repeat rcases h13 with⟨_,h13⟩
 unfold ZC;apply bE;exact bX;refine gF fun r3 h3=> ?_;intros
 refine kY ?_;refine kC ?_;refine ZK ?_;refine BL ?_;refine SF ?_;refine gQ ?_;refine dM (iE (r:=r3) (q:=q1) bW bD (.cons (.refl _) (.cons (.refl _) (.cons (.refl _) (.cons (.refl _) (.cons (.refl _) (.cons (.refl _) (.cons (.refl _) (.cons (.refl _) (.cons (.refl _) (.cons (.refl _) (.cons (aK bF (by simp[smallM])) (.cons (.refl _) (.cons (.refl _) (.cons (.refl _) .nil))))))))))))))) ?_;refine dM (gI (r:=r3) (cs':=cQ smallX) bW (.cons (.refl _) (.cons (.refl _) (.cons (.refl _) (.cons (.refl _) (.cons (.refl _) (.cons (.refl _) (.cons (.refl _) (.cons (.refl _) (.cons (.refl _) (.cons (.refl _) (.cons (.refl _) (.cons (.refl _) (.cons (.refl _) (.cons (.refl _) .nil))))))))))))))) ?_;refine iD ?_;refine jN ?_;refine jK Tryz.call28 w2 rfl aQ aW ?_;refine qX ?_;refine rZ ?_;refine iD ?_;refine eP fun r24 h24=> ?_;intros
 refine gX (j:=24) rfl bD (aK bF (by simp)) ?_;refine iA ?_;refine jW (eS (j:=25) rfl AG) ?_;refine jK Tryz.call28 w3 rfl aQ aW ?_;refine qX ?_;refine rZ ?_;refine iD ?_;refine jK Tryz.call82 PR rfl aQ aW ?_;refine gA ?_;refine lJ ?_;rw[show((-1:Int)==-1)=true from rfl];refine mW ?_;refine mW ?_;refine lJ ?_;rw[show((7:Int)==7)=true from rfl];refine mW ?_;refine uA ?_;refine mW ?_;refine lJ ?_;rw[show((0:Int)==0)=true from rfl];refine mW ?_;refine tD ?_;exact aE aF ⟨by rfl,rfl⟩ aA
def aBV (ps:List Int):Md:=fM (xP ps) (xQ 0) [⟨[],[]⟩,TQ]
end Go.Proofs.YtjpdadobblffmaaGreat
namespace Go.Proofs.YtjpdadobblffmaaGreat
open Go.RowKit Go.ChangeShapes Go.WideShapes Go.ChangeAt Go.Deep
def bR (el:List El) (da:List Da):Md:= { aBV []with el:=el,da:=da }
theorem RX{α:Type}{no:Nat}{l:List α}{pt:α→List Nat}{c:Nat}(hl:l.length≤2)(hc:c≤1000)(h:∀x∈l,(pt x).length≤c):(bP no l pt).length≤20+2*c:=by
 have h1:=nN h (by omega);have h2:l.length*c≤2*c:=Nat.mul_le_mul_right c hl;have h3:=bS 4 (aZ l pt).length (by omega);unfold bP;split
 ·simp
 ·simp only[List.length_cons,List.length_append];omega
structure XOk (el:List El) (da:List Da):Prop where
 el:el.length≤2∧∀x∈el,iT x.off=true∧x.fs.length≤5∧∀f∈x.fs,0≤f∧f≤3
 da:da.length≤2∧∀x∈da,iT x.off=true∧x.bs.length≤300∧∀c∈x.bs,c<256
section
variable {el : List El} {da : List Da}
theorem XOk.wo (h:XOk el da):(bR el da).WO:=by
 have h0:=aBJ [] 0 [] [] (by simp) (by simp);exact⟨⟨h0.w.im,h0.w.ex,h0.w.co,h0.w.il,fun x hx=>(h.da.2 x hx).2.2⟩,⟨h0.ok.1,h0.ok.2⟩⟩
theorem XOk.z (h:XOk el da):(bR el da).Z:=by
 have h0:=aED [] 0 [] [] (by simp);exact⟨h0.ty,h0.im,h0.fn,h0.gl,h0.ex,⟨by have:=h.el.1;show el.length≤ _;omega,fun x hx=>by have:=(h.el.2 x hx).2.1;omega⟩,h0.co,⟨by have:=h.da.1;show da.length≤ _;omega,fun x hx=>by have:=(h.da.2 x hx).2.1;omega⟩⟩
theorem XOk.may (h:XOk el da):lC (bR el da)=true:=by
 obtain⟨⟨l1,e1⟩,l2,d1⟩:=h;have hE:cD el 16 (fun x=>iT x.off&&cD x.fs 50 jD)=true:=by
  unfold cD;simp only[Bool.and_eq_true,decide_eq_true_eq,List.all_eq_true];refine⟨by omega,fun x hx=> ?_⟩;obtain⟨h1,h2,h3⟩:=e1 x hx;refine⟨h1,by omega,fun f hf=> ?_⟩;have:=h3 f hf;unfold jD;rw[if_pos (by simpa using this.1)];exact decide_eq_true (by omega)
 have hD:cD da 16 (fun x=>iT x.off&&decide (x.bs.length≤1000))=true:=by
  unfold cD;simp only[Bool.and_eq_true,decide_eq_true_eq,List.all_eq_true];refine⟨by omega,fun x hx=> ?_⟩;obtain⟨h1,h2,-⟩:=d1 x hx;exact⟨h1,by omega⟩
 have hA:oA (bR el da)=true:=by
  have hL:lB (bR el da)=(lB (bR [] [])&&cD el 16 (fun x=>iT x.off&&cD x.fs 50 jD)&&cD da 16 (fun x=>iT x.off&&decide (x.bs.length≤1000))):=by
   unfold lB;rw[show cD (bR [] []).el 16 (fun x=>iT x.off&&cD x.fs 50 jD)=true from rfl,show cD (bR [] []).da 16 (fun x=>iT x.off&&decide (x.bs.length≤1000))=true from rfl,Bool.and_true,Bool.and_true];rfl
  have h0:(((bR [] []).co.length==(bR [] []).fn.length&&cD (bR [] []).co 16 tN)&&lB (bR [] [])&&nJ (bR [] []).tb 16 1000&&nJ (bR [] []).me 16 65536)=true:=by decide+kernel
  simp only[Bool.and_eq_true]at h0;obtain⟨⟨⟨a1,a2⟩,a3⟩,a4⟩:=h0;unfold oA;rw[hL,a2,hE,hD];simp only[Bool.and_true];simp only[Bool.and_eq_true];exact⟨⟨a1,a3⟩,a4⟩
 have hw1:(bP 9 el LG).length≤20+2*300:=RX l1 (by omega) fun x hx=>by
  obtain⟨h1,h2,h3⟩:=e1 x hx;have p1:=yJ h1;have p2:=nN (pt:=gC) (l:=x.fs) (c:=5) (fun f hf=>aEi ⟨(h3 f hf).1,by have:=(h3 f hf).2;omega⟩) (by omega);unfold LG;rw[List.length_append];omega
 have hw2:(bP 11 da NN).length≤20+2*600:=RX l2 (by omega) fun x hx=>by
  obtain⟨h1,h2,-⟩:=d1 x hx;have p1:=yJ h1;have p2:=bS 4 x.bs.length (by omega);unfold NN;rw[List.length_append,List.length_append];omega
 have hw:(eN (bR el da)).length=(eN (bR [] [])).length+(bP 9 el LG).length+(bP 11 da NN).length:=by
  unfold eN;dsimp only[bR];simp only[List.length_append,show bP 9 ([]:List El) LG=[]from rfl,show bP 11 ([]:List Da) NN=[]from rfl,List.length_nil];omega
 have h0:(eN (bR [] [])).length≤1000:=by decide+kernel
 rw[sD,hA,Bool.true_and,decide_eq_true_eq];omega
theorem XOk.vl (h:XOk el da):jJ (bR el da)=-1:=by
 have v0:jJ (bR [] [])=-1:=by decide+kernel
 have c0:pQ (bR el da) (bR el da).co.length=pQ (bR [] []) (bR [] []).co.length:=by kernel_rfl
 have e0:(bR el da).el.any (MJ (bR el da))=false:=by
  rw[List.any_eq_false];intro x hx;have h3:=(h.el.2 x hx).2.2;unfold MJ;simp only[Bool.or_eq_true,Bool.not_eq_true',not_or,List.any_eq_true,not_exists,not_and];refine⟨fun f hf=> ?_,by simp[bR,aBV,fM]⟩;have:=(h3 f hf).2;simp[ZN,bR,aBV,fM];omega
 have d0:(!(bR el da).da.isEmpty&& !(bR el da).me.has)=false:=by simp[bR,aBV,fM]
 unfold jJ at v0⊢;rw[c0,e0,d0,h.may];rw[show lC (bR [] [])=true from XOk.may ⟨⟨by simp,by simp⟩,by simp,by simp⟩,show(bR [] []).el.any (MJ (bR [] []))=false from rfl,show(!(bR [] []).da.isEmpty&& !(bR [] []).me.has)=false from rfl]at v0;exact v0
end
end Go.Proofs.YtjpdadobblffmaaGreat
namespace Go.Proofs.YtjpdadobblffmaaGreat
open Go.RowKit Go.ChangeShapes Go.WideShapes Go.ChangeAt Go.Deep
attribute [local irreducible] SW RS RD eM dR
def yP:List El:=[⟨0,[0,2,3]⟩]
theorem ZF:XOk yP []:=⟨⟨by decide,by decide⟩,by decide,by decide⟩
theorem ZG(el:List El)(da:List Da):∀c∈(bR el da).co,WF (dQ c.bd)=[]:=by
 intro c hc;have hc':c∈ [(⟨[],[]⟩:Co),TQ]:=hc;simp only[List.mem_cons,List.not_mem_nil,or_false]at hc';rcases hc' with rfl|rfl<;>decide
theorem ZH:∀c∈smallM.co,WF (dQ c.bd)=[]:=by decide
theorem wH{el:List El}{da:List Da}(h:XOk el da){tb:List Int}{b:List Nat}(h1:lE elO [-1,-1,-1,-1] el=some tb)(h2:lE UI memZ da=some b):SCall Tryz.prog 37 [.agg (cQ (bR el da))] []
  (fun y σ=>∃x mm q d s t g,NX x mm q d s t g∧y=.tup [.ptr x 0,.int .i64 0]∧σ=xV (bR el da) tb b x mm q d s t g):=by
 refine(TW (bR el da) h.wo h.z h.vl rfl (ZG el da)).mono fun y σ hy=> ?_
 have k1:lE elO (List.replicate (xR (bR el da)) (-1)) (bR el da).el=some tb:=h1;have k2:lE UI memZ (bR el da).da=some b:=h2;rcases hy with⟨e,-⟩|⟨tb',e,⟨e2,-⟩|⟨b',e2,hr⟩⟩
 ·rw[k1]at e;cases e
 ·rw[k2]at e2;cases e2
 ·rw[k1]at e;rw[k2]at e2;cases e;cases e2
  exact hr
theorem wI{σ:cR}{q:Nat}{et:TypeId}(hg:fB σ q=some (.arr et 2 [[.ro 0 [] .nil,.ro 0 [] .nil],cZ ⟨[],vC⟩])):BorL σ [q] (aEt (xP []) (xQ 0) q) (cQ (bR yP [])):=by
 have h1:Bor σ [q] (.own q 0 2) (.ro 2 ([(⟨[],[]⟩:Co),TQ].map cZ) .any):=by
  refine .ownR (fun i j=>if i=0 then .ro 0 [] .nil else((cZ ⟨[],vC⟩)[j]?).getD .nilp) (List.mem_singleton.2 rfl) hg (by simp) rfl (fun z hz=> ?_) (fun i e j a h1 h2=> ?_) (fun i e j a h1 h2=> ?_)
  ·simp only[List.map_cons,List.map_nil,List.mem_cons,List.not_mem_nil,or_false]at hz;rcases hz with rfl|rfl<;>exact⟨rfl,fun a ha=>by
    simp only[cZ,List.mem_cons,List.not_mem_nil,or_false]at ha;rcases ha with rfl|rfl<;>rfl⟩
  ·match i with
   |0=>
    cases h1
    match j with
    |0=>cases h2;rfl
    |1=>cases h2;rfl
    | _ +2=>cases h2
   |1=>
    cases h1
    rw[if_neg (by decide),h2];rfl
   | _ +2=>cases h1
  ·match i with
   |0=>
    cases h1
    match j with
    |0=>cases h2;exact .le VLe.empty
    |1=>cases h2;exact .le VLe.empty
    | _ +2=>cases h2
   |1=>
    cases h1
    have h3:(cZ ⟨[],vC⟩)[j]? =some a:=h2;show Bor σ [q] (((cZ ⟨[],vC⟩)[j]?).getD .nilp) a;rw[h3];exact .refl _
   | _ +2=>cases h1
 exact .cons (.refl _) (.cons (.refl _) (.cons (.refl _) (.cons (.refl _) (.cons (.refl _) (.cons (.refl _) (.cons (.refl _) (.cons (.refl _) (.cons (.refl _) (.cons (.refl _) (.cons (.refl _) (.cons (.refl _) (.cons h1 (.cons (.refl _) .nil)))))))))))))
theorem HA{b:List Nat}{a:Int}(h0:0≤a)(h1:a+1≤b.length){v:Nat}(hv:b[a.toNat]! =v):ldV b a 1=.tup [.int .u64 (v:Int),.bool true]:=by
 unfold ldV xU;rw[if_pos (by simp;omega)];show AV.tup [.int .u64 ((b[a.toNat]! +256*0:Nat):Int),.bool true]=_;rw[hv];rfl
theorem lQ:memZ.length=256:=List.length_replicate
theorem PU:SCall Tryz.prog 94 [] [] (fun y σ=>y=.bool true∧σ=[]):=by
 refine bO 2 [0] Tryz.func94 ?_;refine nS ?_;refine jK Tryz.call27 PT rfl aQ aW ?_;refine cI ?_;exact aE aF ⟨by rfl,rfl⟩ aA
theorem rX:SCall Tryz.prog 32 [] [] (fun y σ=>y=.bool true∧σ=[]):=by
 have wS:=TZ smallM small_wo RV MQ rfl rfl rfl ZH;have wB:=YZ fun0 GQ ZE (by rw[RW];rfl);have wF:=wH ZF (tb:=[0,2,3,-1]) (b:=memZ) rfl rfl;have wE:=fun x s=>xD (x:=x) (s:=s) (m:=smallM) (p:=.nilp) (j:=.ro 1 ((GZ smallM.co.length).map vH) .any) (by decide) [97,100,100]
 have wX:=fun x s=>xD (x:=x) (s:=s) (m:=smallM) (p:=.nilp) (j:=.ro 1 ((GZ smallM.co.length).map vH) .any) (by decide) [120]
 rw[show exV smallM.ex [97,100,100]=(0,true) by kernel_rfl]at wE;rw[show exV smallM.ex [120]=(0,false) by kernel_rfl]at wX;dsimp only at wE wX;refine bO 104 [0,1,2,4,5,6,7,8,10,11,12,29,55] Tryz.func32 ?_;refine nS ?_;refine nK [] Tryz.call50 sE ?_;refine cw [] Tryz.call37 wS rfl aB aA ?_;rintro _ σ' ⟨x1,s1,rfl,rfl⟩ h15
 replace h15:=fU h15;repeat rcases h15 with⟨_,h15⟩
 refine qY ?_;refine rZ ?_;refine iD ?_;refine eP fun r19 h19=> ?_;intros
 refine gX (j:=19) rfl bD (aK bF (by simp)) ?_;refine iA ?_;refine jW (eS (j:=20) rfl AG) ?_;refine jK Tryz.call37 wB rfl aQ aW ?_;refine qX ?_;refine nI ?_;refine lo (eA (E rfl) (E rfl)) rfl ?_;rw[show((0:Int) !=0)=false from rfl];refine aFx ?_;refine gK ?_;refine pG ?_;refine cw [(x1,.box 157 (gY smallM .nilp (.ptr s1 0)))] Tryz.call30 PP rfl aB aA ?_;rintro _ σ' ⟨rfl,rfl⟩ h32;refine qY ?_;refine gF fun r5 h5=> ?_;intros
 apply zB;rfl;rfl;rfl;rfl;exact iC;refine mV ?_;refine cw [(x1,.box 157 (gY smallM .nilp (.ptr s1 0)))] Tryz.call31 (wE x1 s1) rfl aB aA ?_;rintro _ σ' ⟨rfl,rfl⟩ h37;refine qY ?_;refine nI ?_;refine cw [(x1,.box 157 (gY smallM .nilp (.ptr s1 0)))] Tryz.call31 (wX x1 s1) rfl aB aA ?_;rintro _ σ' ⟨rfl,rfl⟩ h42;refine qY ?_;refine rZ ?_;refine iD ?_;refine cw [] Tryz.call25 (AH [] 0) rfl aB aA ?_;rintro _ σ' ⟨q2,rfl,rfl⟩ h46
 replace h46:=fU h46;repeat rcases h46 with⟨_,h46⟩
 apply bE;exact bX;refine gX (j:=46) rfl bD (ZX (wI bF)) ?_;refine cw [] Tryz.call37 wF rfl aB aA ?_;rintro _ σ' ⟨x2,m2,q3,d2,s2,t2,g2,hn,rfl,rfl⟩ h47;unfold xV at h47
 replace h47:=AP h47;replace h47:=jE h47;repeat rcases h47 with⟨_,h47⟩
 unfold xV;obtain⟨y1,y2,y3,y4,y5,y6,y7,y8,y9,y10,y11,y12,y13,y14,y15,y16,y17,y18,y19,y20,y21⟩:=hn;refine qY ?_;refine nI ?_;refine lo (eA (E rfl) (E rfl)) rfl ?_;rw[show((0:Int) !=0)=false from rfl];refine gA ?_;refine aAc ?_;refine mT ?_;refine iI ?_;refine cV ?_;refine jK Tryz.call94 PU rfl aQ aW ?_;refine gA ?_;refine lJ ?_;rw[show((6:Int)==6)=true from rfl];refine mT ?_;refine kS ?_;refine vO ?_;refine lJ ?_;refine mW ?_;refine mW ?_;refine lJ ?_;refine mW ?_;refine mW ?_;refine uA ?_;refine mW ?_;refine gy rfl rfl ?_;refine nK [(x1,.box 157 (gY smallM .nilp (.ptr s1 0)))] Tryz.call34 TY ?_
 (first|refine ln rfl rfl rfl rfl ?_ |(refine gy rfl rfl ?_;(first|refine lo (aI (by first|exact W rfl id|exact E rfl) (E rfl) (.inl ⟨rfl,rfl⟩)) rfl ?_ |refine lo (aI (by first|exact W rfl id|exact E rfl) (E rfl) (.inr (.inl ⟨⟨_,_,rfl⟩,rfl⟩))) rfl ?_ |refine lo (aI (by first|exact W rfl id|exact E rfl) (E rfl) (.inr (.inr (.inl ⟨⟨_,_,_,rfl⟩,rfl⟩)))) rfl ?_ |refine lo (aI (by first|exact W rfl id|exact E rfl) (E rfl) (.inr (.inr (.inr ⟨⟨_,_,_,_,rfl⟩,rfl⟩)))) rfl ?_))|refine lg rfl rfl (aI (by first|exact W rfl id|exact E rfl) (E rfl) (.inl ⟨rfl,rfl⟩)) rfl ?_ |refine lg rfl rfl (aI (by first|exact W rfl id|exact E rfl) (E rfl) (.inr (.inl ⟨⟨_,_,rfl⟩,rfl⟩))) rfl ?_ |refine lg rfl rfl (aI (by first|exact W rfl id|exact E rfl) (E rfl) (.inr (.inr (.inl ⟨⟨_,_,_,rfl⟩,rfl⟩)))) rfl ?_ |refine lg rfl rfl (aI (by first|exact W rfl id|exact E rfl) (E rfl) (.inr (.inr (.inr ⟨⟨_,_,_,_,rfl⟩,rfl⟩)))) rfl ?_);refine mW ?_;refine gy rfl rfl ?_;refine nK [(x1,.box 157 (gY smallM .nilp (.ptr s1 0)))] Tryz.call35 iR ?_
 (first|refine ln rfl rfl rfl rfl ?_ |(refine gy rfl rfl ?_;(first|refine lo (eZ (by first|exact W rfl id|exact E rfl) (E rfl) (.inl ⟨rfl,rfl⟩)) rfl ?_ |refine lo (eZ (by first|exact W rfl id|exact E rfl) (E rfl) (.inr (.inl ⟨⟨_,_,rfl⟩,rfl⟩))) rfl ?_ |refine lo (eZ (by first|exact W rfl id|exact E rfl) (E rfl) (.inr (.inr (.inl ⟨⟨_,_,_,rfl⟩,rfl⟩)))) rfl ?_ |refine lo (eZ (by first|exact W rfl id|exact E rfl) (E rfl) (.inr (.inr (.inr ⟨⟨_,_,_,_,rfl⟩,rfl⟩)))) rfl ?_))|refine lg rfl rfl (eZ (by first|exact W rfl id|exact E rfl) (E rfl) (.inl ⟨rfl,rfl⟩)) rfl ?_ |refine lg rfl rfl (eZ (by first|exact W rfl id|exact E rfl) (E rfl) (.inr (.inl ⟨⟨_,_,rfl⟩,rfl⟩))) rfl ?_ |refine lg rfl rfl (eZ (by first|exact W rfl id|exact E rfl) (E rfl) (.inr (.inr (.inl ⟨⟨_,_,_,rfl⟩,rfl⟩)))) rfl ?_ |refine lg rfl rfl (eZ (by first|exact W rfl id|exact E rfl) (E rfl) (.inr (.inr (.inr ⟨⟨_,_,_,_,rfl⟩,rfl⟩)))) rfl ?_);refine mW ?_;refine gy rfl rfl ?_;refine nK [(x1,.box 157 (gY smallM .nilp (.ptr s1 0)))] Tryz.call36 (rW 0) ?_;refine uA ?_;refine mT ?_;refine aFx ?_;refine VA ?_;first|refine ln rfl rfl rfl rfl ?_ |(refine gy rfl rfl ?_;refine lo (aD (E rfl)) rfl ?_)|refine lg rfl rfl (aD (E rfl)) rfl ?_ |refine lw rfl rfl (aD (E rfl)) rfl ?_ |refine lw rfl rfl (bN (v:=.bool false)) rfl ?_
 refine gy rfl rfl ?_;refine nK [(x2,.box 157 (gY (bR yP []) (.ptr m2 0) (.ptr s2 0)))] Tryz.call36 (rW 0) ?_;refine aC2 ?_;refine iS ?_;exact aE aF ⟨by rfl,rfl⟩ aA
end Go.Proofs.YtjpdadobblffmaaGreat
