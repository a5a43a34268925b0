import Derived.Test.YtjpdadobblffmaaGreatCB6
import Derived.Test.YtjpdadobblffmaaGreatCB5
import Derived.Test.YtjpdadobblffmaaGreatCB3
import Derived.Test.YtjpdadobblffmaaGreatCB4
set_option linter.unusedSimpArgs false
set_option linter.unusedVariables false
set_option maxRecDepth 100000
set_option maxHeartbeats 4000000
namespace Go.Proofs.YtjpdadobblffmaaGreat
open Go.RowKit Go.ChangeShapes Go.WideShapes Go.ChangeAt Go.Deep
attribute [local irreducible] SW RS RD gJ fA
section
variable {r p z q : Nat} {E0 : Env}
theorem RA(hN:Nr r p z q)(t:RT)(hl:t.l.length≤900000)(x:Ins):SCall Tryz.prog 304 [.ptr r 0,.agg (iv .any x),.ptr z 0] (eJ E0 r p z q t) (fun _ σ=>∃e,Nr r p z e∧σ=eJ E0 r p z e (AZ E0.m x t)):=by
 have hN0:=hN;obtain⟨n1,n2,n3,n4,n5,n6⟩:=hN;have hl1:(if(!E0.m.me.has)=true then eD t else t).l.length≤900000:=aJ (p:=fun r:RT=>r.l.length≤900000) (fun _=>hl) (fun _=>hl);unfold AZ;unfold iv;refine cC 63 [0,1,2,4,6,7,14,19,20,23,26,31,43,49] Tryz.func304 ?_;unfold eJ fR eX iF
 (try dsimp only[List.cons_append,List.nil_append]);refine dW ?_;apply bx;rfl;rfl;(exact dM);rfl;refine aD fun r4 h4=> ?_;repeat rcases h4 with⟨_,h4⟩
 refine jP ?_;refine gK ?_;refine xO ?_;refine wI ?_;refine gF ?_;refine tU ?_;refine TU (β:=Unit) (fun _=>⟨[(0,.ptr r 0),(2,.ptr z 0),(4,.ptr r4 0)],(r4,.box 46 [.int .i64 x.op,.int .i64 x.a,.int .i64 x.b,.ro 1 (x.l.map aX) .any])::eJ E0 r p z q (if(!E0.m.me.has)=true then eD t else t)⟩) (fun _=>True) ?_ ?_
 ·refine aB rfl (fun g1=> ?_) (fun g1=> ?_)
  ·rw[if_pos (c:=(!E0.m.me.has)=true) g1];refine tE ?_;exact⟨(),trivial,aK⟩
  rw[if_neg (c:=(!E0.m.me.has)=true) (fun e=>by rw[g1]at e;cases e)];refine aP ?_;exact⟨(),trivial,aK⟩
 rintro⟨⟩-;generalize(if(!E0.m.me.has)=true then eD t else t)=t1 at hl1⊢;unfold eJ fR eX iF
 (try dsimp only[List.cons_append,List.nil_append]);refine sU ?_;refine jF ?_;refine pB ?_;apply fF rfl;exact cU
 ·intro _;(refine aP ?_);refine eV ?_;exact aK
 refine aP ?_;refine aB rfl (fun g6=> ?_) (fun g6=> ?_)
 ·rw[show yT x t1=sH x 2 1 t1 from if_pos g6];refine bQ ?_;obtain⟨c,k,hc,hk⟩:∃c k:Int,c=2∧k=1:=⟨_,_,rfl,rfl⟩
  rw[show sH x 2 1 t1=sH x c k t1 by rw[hc,hk],show cW (Value.int .i64 2)=AV.int .i64 c by rw[hc];rfl,show cW (Value.int .i64 1)=AV.int .i64 k by rw[hk];rfl];rw[show sH x c k t1=if decide (54≤x.op)=true then aV (if decide (c<x.a)=true then eD t1 else t1) [1,k]else gY (aV (if decide (c<x.a)=true then eD t1 else t1) [1]) [k]from rfl];have hl2:(if decide (c<x.a)=true then eD t1 else t1).l.length≤900000:=aJ (p:=fun r:RT=>r.l.length≤900000) (fun _=>hl1) (fun _=>hl1);refine kZ ?_;refine lo (aI (E rfl)) rfl ?_;refine PL ?_;refine TU (β:=Unit) (fun _=>⟨[(0,.ptr r 0),(2,.ptr z 0),(4,.ptr r4 0),(7,.int .i64 k)],(r4,.box 46 [.int .i64 x.op,.int .i64 x.a,.int .i64 x.b,.ro 1 (x.l.map aX) .any])::eJ E0 r p z q (if decide (c<x.a)=true then eD t1 else t1)⟩) (fun _=>True) ?_ ?_
  ·refine aB rfl (fun g17=> ?_) (fun g17=> ?_)
   ·rw[if_pos (c:=decide (c<x.a)=true) g17];refine tE ?_;exact⟨(),trivial,aK⟩
   rw[if_neg (c:=decide (c<x.a)=true) (fun e=>by rw[g17]at e;cases e)];refine aP ?_;exact⟨(),trivial,aK⟩
  rintro⟨⟩-;generalize(if decide (c<x.a)=true then eD t1 else t1)=t2 at hl2⊢;unfold eJ fR eX iF
  (try dsimp only[List.cons_append,List.nil_append]);have htl2:=iS t2 [1];refine fS ?_;refine IV ?_;refine aB rfl (fun g19=> ?_) (fun g19=> ?_)
  ·rw[if_pos (c:=decide (54≤x.op)=true) g19];have hL:=hN0;refine tD ?_;refine z1 ?_;refine aD fun r53 h53=> ?_;repeat rcases h53 with⟨_,h53⟩
   refine jB (j:=53) rfl bP (aR bH (by simp)) ?_;refine cw (eJ E0 r p z q t2) Tryz.call202 (eY hN0 t2 (by omega) [1,k] (by simp)) rfl aC dH ?_;rintro _ σ' rfl h54
   (try unfold eJ);(try unfold fR);(try unfold eX);(try unfold iF);(try dsimp only[List.cons_append,List.nil_append]);refine dQ ?_;apply aF;exact aG
   ·exact⟨_,hL,rfl⟩
   ·exact aA
  rw[if_neg (c:=decide (54≤x.op)=true) (fun e=>by rw[g19]at e;cases e)];refine cL ?_;refine z1 ?_;refine aD fun r57 h57=> ?_;repeat rcases h57 with⟨_,h57⟩
  refine jB (j:=57) rfl bP (aR bH (by simp)) ?_;refine cw (eJ E0 r p z q t2) Tryz.call202 (eY hN0 t2 (by omega) [1] (by simp)) rfl aC dH ?_;rintro _ σ' rfl h58
  (try unfold eJ);(try unfold fR);(try unfold eX);(try unfold iF);(try dsimp only[List.cons_append,List.nil_append]);refine pX ?_;refine z1 ?_;refine aD fun r61 h61=> ?_;repeat rcases h61 with⟨_,h61⟩
  refine jB (j:=61) rfl bP (aR bH (by simp)) ?_;refine cw (eX z q (aV t2 [1])) Tryz.call275 (jD hN0.qz _ (by omega) [k] (by simp)) rfl aC dH ?_;rintro _ σ' ⟨e,he,rfl⟩ h62
  (try unfold eJ);(try unfold fR);(try unfold eX);(try unfold iF);(try dsimp only[List.cons_append,List.nil_append]);have k62:=cM (h62 _ (List.mem_cons_of_mem _ List.mem_cons_self));unfold eX at k62;simp(disch:=(first|(simp only[List.mem_cons,List.not_mem_nil,true_or,or_true,or_false];done)|(focus (simp only[List.mem_cons,List.not_mem_nil,or_false,not_or];(repeat' (first|apply And.intro|(exact cF)));done))|omega)) only[List.map_cons,List.map_nil,cJ,cX,dO,cY,aM,aQ,and_true]at k62;repeat rcases k62 with⟨_,k62⟩
  have hL:Nr r p z e:=⟨hN0.pr,hN0.zr,hN0.zp,by(exact cF),by(exact cF),by(exact cF)⟩
  refine dQ ?_;refine bR ?_;apply aF;exact aG
  ·exact⟨_,hL,rfl⟩
  ·exact aA
 refine dE ?_;apply fF rfl;exact cU
 ·intro _;(refine aP ?_);refine eV ?_;exact aK
 refine aP ?_;refine aB rfl (fun g9=> ?_) (fun g9=> ?_)
 ·rw[show yT x t1=sH x 3 2 t1 by unfold yT;simp only[g6,g9,if_true,if_false,Bool.false_eq_true]];refine dW ?_;refine kJ ?_;obtain⟨c,k,hc,hk⟩:∃c k:Int,c=3∧k=2:=⟨_,_,rfl,rfl⟩
  rw[show sH x 3 2 t1=sH x c k t1 by rw[hc,hk],show cW (Value.int .i64 3)=AV.int .i64 c by rw[hc];rfl,show cW (Value.int .i64 2)=AV.int .i64 k by rw[hk];rfl];rw[show sH x c k t1=if decide (54≤x.op)=true then aV (if decide (c<x.a)=true then eD t1 else t1) [1,k]else gY (aV (if decide (c<x.a)=true then eD t1 else t1) [1]) [k]from rfl];have hl2:(if decide (c<x.a)=true then eD t1 else t1).l.length≤900000:=aJ (p:=fun r:RT=>r.l.length≤900000) (fun _=>hl1) (fun _=>hl1);refine kZ ?_;refine lo (aI (E rfl)) rfl ?_;refine PL ?_;refine TU (β:=Unit) (fun _=>⟨[(0,.ptr r 0),(2,.ptr z 0),(4,.ptr r4 0),(7,.int .i64 k)],(r4,.box 46 [.int .i64 x.op,.int .i64 x.a,.int .i64 x.b,.ro 1 (x.l.map aX) .any])::eJ E0 r p z q (if decide (c<x.a)=true then eD t1 else t1)⟩) (fun _=>True) ?_ ?_
  ·refine aB rfl (fun g17=> ?_) (fun g17=> ?_)
   ·rw[if_pos (c:=decide (c<x.a)=true) g17];refine tE ?_;exact⟨(),trivial,aK⟩
   rw[if_neg (c:=decide (c<x.a)=true) (fun e=>by rw[g17]at e;cases e)];refine aP ?_;exact⟨(),trivial,aK⟩
  rintro⟨⟩-;generalize(if decide (c<x.a)=true then eD t1 else t1)=t2 at hl2⊢;unfold eJ fR eX iF
  (try dsimp only[List.cons_append,List.nil_append]);have htl2:=iS t2 [1];refine fS ?_;refine IV ?_;refine aB rfl (fun g19=> ?_) (fun g19=> ?_)
  ·rw[if_pos (c:=decide (54≤x.op)=true) g19];have hL:=hN0;refine tD ?_;refine z1 ?_;refine aD fun r53 h53=> ?_;repeat rcases h53 with⟨_,h53⟩
   refine jB (j:=53) rfl bP (aR bH (by simp)) ?_;refine cw (eJ E0 r p z q t2) Tryz.call202 (eY hN0 t2 (by omega) [1,k] (by simp)) rfl aC dH ?_;rintro _ σ' rfl h54
   (try unfold eJ);(try unfold fR);(try unfold eX);(try unfold iF);(try dsimp only[List.cons_append,List.nil_append]);refine dQ ?_;apply aF;exact aG
   ·exact⟨_,hL,rfl⟩
   ·exact aA
  rw[if_neg (c:=decide (54≤x.op)=true) (fun e=>by rw[g19]at e;cases e)];refine cL ?_;refine z1 ?_;refine aD fun r57 h57=> ?_;repeat rcases h57 with⟨_,h57⟩
  refine jB (j:=57) rfl bP (aR bH (by simp)) ?_;refine cw (eJ E0 r p z q t2) Tryz.call202 (eY hN0 t2 (by omega) [1] (by simp)) rfl aC dH ?_;rintro _ σ' rfl h58
  (try unfold eJ);(try unfold fR);(try unfold eX);(try unfold iF);(try dsimp only[List.cons_append,List.nil_append]);refine pX ?_;refine z1 ?_;refine aD fun r61 h61=> ?_;repeat rcases h61 with⟨_,h61⟩
  refine jB (j:=61) rfl bP (aR bH (by simp)) ?_;refine cw (eX z q (aV t2 [1])) Tryz.call275 (jD hN0.qz _ (by omega) [k] (by simp)) rfl aC dH ?_;rintro _ σ' ⟨e,he,rfl⟩ h62
  (try unfold eJ);(try unfold fR);(try unfold eX);(try unfold iF);(try dsimp only[List.cons_append,List.nil_append]);have k62:=cM (h62 _ (List.mem_cons_of_mem _ List.mem_cons_self));unfold eX at k62;simp(disch:=(first|(simp only[List.mem_cons,List.not_mem_nil,true_or,or_true,or_false];done)|(focus (simp only[List.mem_cons,List.not_mem_nil,or_false,not_or];(repeat' (first|apply And.intro|(exact cF)));done))|omega)) only[List.map_cons,List.map_nil,cJ,cX,dO,cY,aM,aQ,and_true]at k62;repeat rcases k62 with⟨_,k62⟩
  have hL:Nr r p z e:=⟨hN0.pr,hN0.zr,hN0.zp,by(exact cF),by(exact cF),by(exact cF)⟩
  refine dQ ?_;refine bR ?_;apply aF;exact aG
  ·exact⟨_,hL,rfl⟩
  ·exact aA
 refine dE ?_;refine aB rfl (fun g12=> ?_) (fun g12=> ?_)
 ·rw[show yT x t1=gY t1 [1] by unfold yT;simp only[g6,g9,g12,if_true,if_false,Bool.false_eq_true]];refine dX ?_;refine z1 ?_;refine aD fun r29 h29=> ?_;repeat rcases h29 with⟨_,h29⟩
  refine jB (j:=29) rfl bP (aR bH (by simp)) ?_;refine cw (eX z q t1) Tryz.call275 (jD hN0.qz t1 (by omega) [1] (by simp)) rfl aC dH ?_;rintro _ σ' ⟨e,he,rfl⟩ h30
  (try unfold eJ);(try unfold fR);(try unfold eX);(try unfold iF);(try dsimp only[List.cons_append,List.nil_append]);have k30:=cM (h30 _ (List.mem_cons_of_mem _ List.mem_cons_self));unfold eX at k30;simp(disch:=(first|(simp only[List.mem_cons,List.not_mem_nil,true_or,or_true,or_false];done)|(focus (simp only[List.mem_cons,List.not_mem_nil,or_false,not_or];(repeat' (first|apply And.intro|(exact cF)));done))|omega)) only[List.map_cons,List.map_nil,cJ,cX,dO,cY,aM,aQ,and_true]at k30;repeat rcases k30 with⟨_,k30⟩
  have hL:Nr r p z e:=⟨hN0.pr,hN0.zr,hN0.zp,by(exact cF),by(exact cF),by(exact cF)⟩
  refine dQ ?_;apply aF;exact aG
  ·exact⟨_,hL,rfl⟩
  ·exact aA
 refine dE ?_;refine aB rfl (fun g14=> ?_) (fun g14=> ?_)
 ·rw[show yT x t1=gY (aV t1 [1]) [1] by unfold yT;simp only[g6,g9,g12,g14,if_true,if_false,Bool.false_eq_true]];have htl:=iS t1 [1];refine cL ?_;refine z1 ?_;refine aD fun r35 h35=> ?_;repeat rcases h35 with⟨_,h35⟩
  refine jB (j:=35) rfl bP (aR bH (by simp)) ?_;refine cw (eJ E0 r p z q t1) Tryz.call202 (eY hN0 t1 (by omega) [1] (by simp)) rfl aC dH ?_;rintro _ σ' rfl h36
  (try unfold eJ);(try unfold fR);(try unfold eX);(try unfold iF);(try dsimp only[List.cons_append,List.nil_append]);refine mO ?_;refine z1 ?_;refine aD fun r38 h38=> ?_;repeat rcases h38 with⟨_,h38⟩
  refine jB (j:=38) rfl bP (aR bH (by simp)) ?_;refine cw (eX z q (aV t1 [1])) Tryz.call275 (jD hN0.qz _ (by omega) [1] (by simp)) rfl aC dH ?_;rintro _ σ' ⟨e,he,rfl⟩ h39
  (try unfold eJ);(try unfold fR);(try unfold eX);(try unfold iF);(try dsimp only[List.cons_append,List.nil_append]);have k39:=cM (h39 _ (List.mem_cons_of_mem _ List.mem_cons_self));unfold eX at k39;simp(disch:=(first|(simp only[List.mem_cons,List.not_mem_nil,true_or,or_true,or_false];done)|(focus (simp only[List.mem_cons,List.not_mem_nil,or_false,not_or];(repeat' (first|apply And.intro|(exact cF)));done))|omega)) only[List.map_cons,List.map_nil,cJ,cX,dO,cY,aM,aQ,and_true]at k39;repeat rcases k39 with⟨_,k39⟩
  have hL:Nr r p z e:=⟨hN0.pr,hN0.zr,hN0.zp,by(exact cF),by(exact cF),by(exact cF)⟩
  refine dQ ?_;apply aF;exact aG
  ·exact⟨_,hL,rfl⟩
  ·exact aA
 rw[show yT x t1=sH x 0 1 t1 by unfold yT;simp only[g6,g9,g12,g14,if_true,if_false,Bool.false_eq_true]];obtain⟨c,k,hc,hk⟩:∃c k:Int,c=0∧k=1:=⟨_,_,rfl,rfl⟩
 rw[show sH x 0 1 t1=sH x c k t1 by rw[hc,hk],show cW (Value.int .i64 0)=AV.int .i64 c by rw[hc];rfl,show cW (Value.int .i64 1)=AV.int .i64 k by rw[hk];rfl];refine aP ?_;rw[show sH x c k t1=if decide (54≤x.op)=true then aV (if decide (c<x.a)=true then eD t1 else t1) [1,k]else gY (aV (if decide (c<x.a)=true then eD t1 else t1) [1]) [k]from rfl];have hl2:(if decide (c<x.a)=true then eD t1 else t1).l.length≤900000:=aJ (p:=fun r:RT=>r.l.length≤900000) (fun _=>hl1) (fun _=>hl1);refine kZ ?_;refine lo (aI (E rfl)) rfl ?_;refine PL ?_;refine TU (β:=Unit) (fun _=>⟨[(0,.ptr r 0),(2,.ptr z 0),(4,.ptr r4 0),(7,.int .i64 k)],(r4,.box 46 [.int .i64 x.op,.int .i64 x.a,.int .i64 x.b,.ro 1 (x.l.map aX) .any])::eJ E0 r p z q (if decide (c<x.a)=true then eD t1 else t1)⟩) (fun _=>True) ?_ ?_
 ·refine aB rfl (fun g17=> ?_) (fun g17=> ?_)
  ·rw[if_pos (c:=decide (c<x.a)=true) g17];refine tE ?_;exact⟨(),trivial,aK⟩
  rw[if_neg (c:=decide (c<x.a)=true) (fun e=>by rw[g17]at e;cases e)];refine aP ?_;exact⟨(),trivial,aK⟩
 rintro⟨⟩-;generalize(if decide (c<x.a)=true then eD t1 else t1)=t2 at hl2⊢;unfold eJ fR eX iF
 (try dsimp only[List.cons_append,List.nil_append]);have htl2:=iS t2 [1];refine fS ?_;refine IV ?_;refine aB rfl (fun g19=> ?_) (fun g19=> ?_)
 ·rw[if_pos (c:=decide (54≤x.op)=true) g19];have hL:=hN0;refine tD ?_;refine z1 ?_;refine aD fun r53 h53=> ?_;repeat rcases h53 with⟨_,h53⟩
  refine jB (j:=53) rfl bP (aR bH (by simp)) ?_;refine cw (eJ E0 r p z q t2) Tryz.call202 (eY hN0 t2 (by omega) [1,k] (by simp)) rfl aC dH ?_;rintro _ σ' rfl h54
  (try unfold eJ);(try unfold fR);(try unfold eX);(try unfold iF);(try dsimp only[List.cons_append,List.nil_append]);refine dQ ?_;apply aF;exact aG
  ·exact⟨_,hL,rfl⟩
  ·exact aA
 rw[if_neg (c:=decide (54≤x.op)=true) (fun e=>by rw[g19]at e;cases e)];refine cL ?_;refine z1 ?_;refine aD fun r57 h57=> ?_;repeat rcases h57 with⟨_,h57⟩
 refine jB (j:=57) rfl bP (aR bH (by simp)) ?_;refine cw (eJ E0 r p z q t2) Tryz.call202 (eY hN0 t2 (by omega) [1] (by simp)) rfl aC dH ?_;rintro _ σ' rfl h58
 (try unfold eJ);(try unfold fR);(try unfold eX);(try unfold iF);(try dsimp only[List.cons_append,List.nil_append]);refine pX ?_;refine z1 ?_;refine aD fun r61 h61=> ?_;repeat rcases h61 with⟨_,h61⟩
 refine jB (j:=61) rfl bP (aR bH (by simp)) ?_;refine cw (eX z q (aV t2 [1])) Tryz.call275 (jD hN0.qz _ (by omega) [k] (by simp)) rfl aC dH ?_;rintro _ σ' ⟨e,he,rfl⟩ h62
 (try unfold eJ);(try unfold fR);(try unfold eX);(try unfold iF);(try dsimp only[List.cons_append,List.nil_append]);have k62:=cM (h62 _ (List.mem_cons_of_mem _ List.mem_cons_self));unfold eX at k62;simp(disch:=(first|(simp only[List.mem_cons,List.not_mem_nil,true_or,or_true,or_false];done)|(focus (simp only[List.mem_cons,List.not_mem_nil,or_false,not_or];(repeat' (first|apply And.intro|(exact cF)));done))|omega)) only[List.map_cons,List.map_nil,cJ,cX,dO,cY,aM,aQ,and_true]at k62;repeat rcases k62 with⟨_,k62⟩
 have hL:Nr r p z e:=⟨hN0.pr,hN0.zr,hN0.zp,by(exact cF),by(exact cF),by(exact cF)⟩
 refine dQ ?_;refine bR ?_;apply aF;exact aG
 ·exact⟨_,hL,rfl⟩
 ·exact aA
end
section
variable {r p z q : Nat} {E0 : Env}
theorem VP(hN:Nr r p z q)(t:RT)(hl:t.l.length≤900000)(x:Ins)(hx:x.Ck):SCall Tryz.prog 277 [.ptr r 0,.agg (iv .any x),.ptr z 0] (eJ E0 r p z q t) (fun _ σ=>∃e,Nr r p z e∧σ=eJ E0 r p z e (gN E0.m E0.ls x t)):=by
  have hN0:=hN;obtain⟨n1,n2,n3,n4,n5,n6⟩:=hN;have htl:=fun k=>iS t [k]
  unfold iv;refine cC 118 [0,1,2,4,6,7,9,14,19,24,35,49,57,62,91,108] Tryz.func277 ?_;unfold eJ fR eX iF
  (try dsimp only[List.cons_append,List.nil_append]);refine dW ?_;apply bx;rfl;rfl;(exact dM);rfl;refine aD fun r4 h4=> ?_;repeat rcases h4 with⟨_,h4⟩
  refine EU ?_;refine fS ?_;refine pB ?_;refine aB rfl (fun g3=> ?_) (fun g3=> ?_)
  · rw[show gN E0.m E0.ls x t=gY t [1]from if_pos g3];refine dX ?_;refine z1 ?_;refine aD fun r17 h17=> ?_;repeat rcases h17 with⟨_,h17⟩
    refine jB (j:=17) rfl bP (aR bH (by simp)) ?_;refine cw (eX z q t) Tryz.call275 (jD hN0.qz t (by omega) [1] (by simp)) rfl aC dH ?_;rintro _ σ' ⟨e,he,rfl⟩ h18
    (try unfold eJ);(try unfold fR);(try unfold eX);(try unfold iF);(try dsimp only[List.cons_append,List.nil_append]);have k18:=cM (h18 _ (List.mem_cons_of_mem _ List.mem_cons_self));unfold eX at k18;simp(disch:=(first|(simp only[List.mem_cons,List.not_mem_nil,true_or,or_true,or_false];done)|(focus (simp only[List.mem_cons,List.not_mem_nil,or_false,not_or];(repeat' (first|apply And.intro|(exact cF)));done))|omega)) only[List.map_cons,List.map_nil,cJ,cX,dO,cY,aM,aQ,and_true]at k18;repeat rcases k18 with⟨_,k18⟩
    have hL:Nr r p z e:=⟨hN0.pr,hN0.zr,hN0.zp,by(exact cF),by(exact cF),by(exact cF)⟩
    refine dQ ?_;refine bR ?_;apply aF;exact aG
    · exact⟨_,hL,rfl⟩
    · exact aA
  refine dE ?_;refine aB rfl (fun g5=> ?_) (fun g5=> ?_)
  · rw[show gN E0.m E0.ls x t=gY t [2] by unfold gN;simp only[g3,g5,if_true,if_false,Bool.false_eq_true]];refine dX ?_;refine z1 ?_;refine aD fun r22 h22=> ?_;repeat rcases h22 with⟨_,h22⟩
    refine jB (j:=22) rfl bP (aR bH (by simp)) ?_;refine cw (eX z q t) Tryz.call275 (jD hN0.qz t (by omega) [2] (by simp)) rfl aC dH ?_;rintro _ σ' ⟨e,he,rfl⟩ h23
    (try unfold eJ);(try unfold fR);(try unfold eX);(try unfold iF);(try dsimp only[List.cons_append,List.nil_append]);have k23:=cM (h23 _ (List.mem_cons_of_mem _ List.mem_cons_self));unfold eX at k23;simp(disch:=(first|(simp only[List.mem_cons,List.not_mem_nil,true_or,or_true,or_false];done)|(focus (simp only[List.mem_cons,List.not_mem_nil,or_false,not_or];(repeat' (first|apply And.intro|(exact cF)));done))|omega)) only[List.map_cons,List.map_nil,cJ,cX,dO,cY,aM,aQ,and_true]at k23;repeat rcases k23 with⟨_,k23⟩
    have hL:Nr r p z e:=⟨hN0.pr,hN0.zr,hN0.zp,by(exact cF),by(exact cF),by(exact cF)⟩
    refine dQ ?_;refine bR ?_;apply aF;exact aG
    · exact⟨_,hL,rfl⟩
    · exact aA
  refine dE ?_;apply fF rfl;exact cU
  · intro _;(refine aP ?_);refine eV ?_;apply eB rfl;exact cU
    · intro _;(refine aP ?_);refine eV ?_;exact aK
    exact aK
  refine aP ?_;refine aB rfl (fun g7=> ?_) (fun g7=> ?_)
  · have ha:0≤x.a:=hx.nn (by simp only[Bool.or_eq_true,beq_iff_eq]at g7;omega);rw[show gN E0.m E0.ls x t=if decide ((E0.ls.length:Int)≤x.a)=true then eD t else if(x.op !=33)=true then gY (if(x.op !=32)=true then aV t [E0.ls.getD x.a.toNat 0]else t) [E0.ls.getD x.a.toNat 0]else(if(x.op !=32)=true then aV t [E0.ls.getD x.a.toNat 0]else t) by unfold gN;simp only[g3,g5,g7,if_true,if_false,Bool.false_eq_true]];refine aP ?_;refine gI [(0,true),(1,true),(2,true),(3,true),(4,true),(5,true),(6,true),(7,true)] ?_;refine jE ?_;refine CJ ?_;refine IQ ?_;refine gD rfl (fI (E rfl) (E rfl)) rfl ?_;refine kK ?_;refine aB rfl (fun g10=> ?_) (fun g10=> ?_)
    · rw[if_pos (c:=decide ((E0.ls.length:Int)≤x.a)=true) g10];have hL:=hN0;refine tE ?_;apply aF;exact aG
      · exact⟨_,hL,rfl⟩
      · exact aA
    rw[if_neg (c:=decide ((E0.ls.length:Int)≤x.a)=true) (fun e=>by rw[g10]at e;cases e)];have hlt:x.a<E0.ls.length:=by simpa using g10
    obtain⟨k,hk⟩:∃k,E0.ls[x.a.toNat]? =some k:=⟨_,List.getElem?_eq_getElem (by omega)⟩
    rw[show E0.ls.getD x.a.toNat 0=k by rw[List.getD_eq_getElem?_getD,hk];rfl];refine aP ?_;refine gI [(0,true),(1,true),(2,true),(3,true),(4,true),(5,true),(6,true),(7,true),(8,true)] ?_;refine CJ ?_;refine jE ?_;refine MC ?_;refine LD ?_;refine tV ?_;have hl2:(if(x.op !=32)=true then aV t [k]else t).l.length≤900000:=aJ (p:=fun r:RT=>r.l.length≤900000) (fun _=>Nat.le_trans (htl k) hl) (fun _=>hl);refine kZ ?_;refine lH ?_;refine TU (β:=Unit) (fun _=>⟨[(0,.ptr r 0),(2,.ptr z 0),(4,.ptr r4 0),(6,.int .i64 k)],(r4,.box 46 [.int .i64 x.op,.int .i64 x.a,.int .i64 x.b,.ro 1 (x.l.map aX) .any])::eJ E0 r p z q (if(x.op !=32)=true then aV t [k]else t)⟩) (fun _=>True) ?_ ?_
    · refine aB rfl (fun g13=> ?_) (fun g13=> ?_)
      · rw[if_pos (c:=(x.op !=32)=true) g13];refine tD ?_;refine z1 ?_;refine aD fun r53 h53=> ?_;repeat rcases h53 with⟨_,h53⟩
        refine jB (j:=53) rfl bP (aR bH (by simp)) ?_;refine cw (eJ E0 r p z q t) Tryz.call202 (eY hN0 t (by omega) [k] (by simp)) rfl aC dH ?_;rintro _ σ' rfl h54
        (try unfold eJ);(try unfold fR);(try unfold eX);(try unfold iF);(try dsimp only[List.cons_append,List.nil_append]);refine dQ ?_;exact⟨(),trivial,aK⟩
      rw[if_neg (c:=(x.op !=32)=true) (fun e=>by rw[g13]at e;cases e)];refine aP ?_;exact⟨(),trivial,aK⟩
    rintro⟨⟩-;generalize(if(x.op !=32)=true then aV t [k]else t)=t2 at hl2⊢;unfold eJ fR eX iF
    (try dsimp only[List.cons_append,List.nil_append]);refine fS ?_;refine lH ?_;refine aB rfl (fun g15=> ?_) (fun g15=> ?_)
    · rw[if_pos (c:=(x.op !=33)=true) g15];refine cL ?_;refine z1 ?_;refine aD fun r60 h60=> ?_;repeat rcases h60 with⟨_,h60⟩
      refine jB (j:=60) rfl bP (aR bH (by simp)) ?_;refine cw (eX z q t2) Tryz.call275 (jD hN0.qz t2 (by omega) [k] (by simp)) rfl aC dH ?_;rintro _ σ' ⟨e,he,rfl⟩ h61
      (try unfold eJ);(try unfold fR);(try unfold eX);(try unfold iF);(try dsimp only[List.cons_append,List.nil_append]);have k61:=cM (h61 _ (List.mem_cons_of_mem _ List.mem_cons_self));unfold eX at k61;simp(disch:=(first|(simp only[List.mem_cons,List.not_mem_nil,true_or,or_true,or_false];done)|(focus (simp only[List.mem_cons,List.not_mem_nil,or_false,not_or];(repeat' (first|apply And.intro|(exact cF)));done))|omega)) only[List.map_cons,List.map_nil,cJ,cX,dO,cY,aM,aQ,and_true]at k61;repeat rcases k61 with⟨_,k61⟩
      have hL:Nr r p z e:=⟨hN0.pr,hN0.zr,hN0.zp,by(exact cF),by(exact cF),by(exact cF)⟩
      refine dQ ?_;refine bR ?_;apply aF;exact aG
      · exact⟨_,hL,rfl⟩
      · exact aA
    rw[if_neg (c:=(x.op !=33)=true) (fun e=>by rw[g15]at e;cases e)];have hL:=hN0;refine aP ?_;refine bR ?_;apply aF;exact aG
    · exact⟨_,hL,rfl⟩
    · exact aA
  refine dE ?_;apply fF rfl;exact cU
  · intro _;(refine aP ?_);refine eV ?_;exact aK
  refine aP ?_;refine aB rfl (fun g17=> ?_) (fun g17=> ?_)
  · have ha:0≤x.a:=hx.nn (by simp only[Bool.or_eq_true,beq_iff_eq]at g17;omega);rw[show gN E0.m E0.ls x t=if(if decide ((E0.m.gl.length:Int)≤x.a)=true then true else if(x.op==36)=true then !(E0.m.gl.getD x.a.toNat HF).mu else false)=true then eD t else if(x.op==35)=true then gY t [(E0.m.gl.getD x.a.toNat HF).kd]else aV t [(E0.m.gl.getD x.a.toNat HF).kd] by unfold gN;simp only[g3,g5,g7,g17,if_true,if_false,Bool.false_eq_true]];refine aP ?_;by_cases hlt:(E0.m.gl.length:Int)≤x.a
    · rw[if_pos (c:=(if decide ((E0.m.gl.length:Int)≤x.a)=true then true else if(x.op==36)=true then !(E0.m.gl.getD x.a.toNat HF).mu else false)=true) (by rw[decide_eq_true hlt];rfl)];have hL:=hN0;refine gI [(0,true),(1,true),(2,true),(3,true),(4,true),(5,true),(6,true),(7,true),(8,true),(9,true),(10,true),(11,true),(12,true),(13,true),(14,true),(15,true),(16,true),(17,true),(18,true),(19,true),(20,true),(21,true),(22,true),(23,true),(24,true),(25,true),(26,true)] ?_;refine jE ?_;refine CI ?_;refine OX ?_;refine jE ?_;refine IQ ?_;refine gD rfl (fI (E rfl) (E rfl)) rfl ?_;rw[show decide ((E0.m.gl.length:Int)≤x.a)=true from decide_eq_true hlt];refine CN ?_;refine qH ?_;refine aGX ?_;first|refine jA rfl rfl rfl rfl rfl ?_ |(refine eN rfl rfl rfl (aI (E rfl)) rfl ?_)|refine eE rfl rfl rfl (aI (E rfl)) rfl ?_ |refine eG rfl rfl rfl (aI (E rfl)) rfl ?_ |refine eG rfl rfl rfl (bI (v:=.bool false)) rfl ?_
      first|refine jA rfl rfl rfl rfl rfl ?_ |(first|refine eN rfl rfl rfl (bA (by first|exact W rfl id|exact E rfl) (.inl ⟨_,_,rfl⟩)) rfl ?_ |refine eN rfl rfl rfl (bA (by first|exact W rfl id|exact E rfl) (.inr (.inl ⟨_,_,_,rfl⟩))) rfl ?_ |refine eN rfl rfl rfl (bA (by first|exact W rfl id|exact E rfl) (.inr (.inr ⟨_,_,_,_,rfl⟩))) rfl ?_)|refine eE rfl rfl rfl (bA (by first|exact W rfl (by first|exact id|simp)|exact E rfl) (.inl ⟨_,_,rfl⟩)) rfl ?_ |refine eE rfl rfl rfl (bA (by first|exact W rfl (by first|exact id|simp)|exact E rfl) (.inr (.inl ⟨_,_,_,rfl⟩))) rfl ?_ |refine eE rfl rfl rfl (bA (by first|exact W rfl (by first|exact id|simp)|exact E rfl) (.inr (.inr ⟨_,_,_,_,rfl⟩))) rfl ?_ |refine eG rfl rfl rfl (bA (by first|exact W rfl (by first|exact id|simp)|exact E rfl) (.inl ⟨_,_,rfl⟩)) rfl ?_ |refine eG rfl rfl rfl (bA (by first|exact W rfl (by first|exact id|simp)|exact E rfl) (.inr (.inl ⟨_,_,_,rfl⟩))) rfl ?_ |refine eG rfl rfl rfl (bA (by first|exact W rfl (by first|exact id|simp)|exact E rfl) (.inr (.inr ⟨_,_,_,_,rfl⟩))) rfl ?_ |refine eG rfl rfl rfl (bI (v:=.bool false)) rfl ?_
      first|refine jA rfl rfl rfl rfl rfl ?_ |(first|refine eN rfl rfl rfl (aY (by first|exact W rfl id|exact E rfl) rfl (by decide)) rfl ?_ |refine eN rfl rfl rfl (aS (by first|exact W rfl id|exact E rfl) rfl (by decide)) rfl ?_)|refine eE rfl rfl rfl (aY (by first|exact W rfl (by first|exact id|simp)|exact E rfl) rfl (by decide)) rfl ?_ |refine eE rfl rfl rfl (aS (by first|exact W rfl (by first|exact id|simp)|exact E rfl) rfl (by decide)) rfl ?_ |refine eG rfl rfl rfl (aY (by first|exact W rfl (by first|exact id|simp)|exact E rfl) rfl (by decide)) rfl ?_ |refine eG rfl rfl rfl (aS (by first|exact W rfl (by first|exact id|simp)|exact E rfl) rfl (by decide)) rfl ?_ |refine eG rfl rfl rfl (bI (v:=.bool false)) rfl ?_
      first|refine jA rfl rfl rfl rfl rfl ?_ |(first|refine eN rfl rfl rfl (aY (by first|exact W rfl id|exact E rfl) rfl (by decide)) rfl ?_ |refine eN rfl rfl rfl (aS (by first|exact W rfl id|exact E rfl) rfl (by decide)) rfl ?_)|refine eE rfl rfl rfl (aY (by first|exact W rfl (by first|exact id|simp)|exact E rfl) rfl (by decide)) rfl ?_ |refine eE rfl rfl rfl (aS (by first|exact W rfl (by first|exact id|simp)|exact E rfl) rfl (by decide)) rfl ?_ |refine eG rfl rfl rfl (aY (by first|exact W rfl (by first|exact id|simp)|exact E rfl) rfl (by decide)) rfl ?_ |refine eG rfl rfl rfl (aS (by first|exact W rfl (by first|exact id|simp)|exact E rfl) rfl (by decide)) rfl ?_ |refine eG rfl rfl rfl (bI (v:=.bool false)) rfl ?_
      first
        |refine jA rfl rfl rfl rfl rfl ?_
        |(
          first
           |refine eN rfl rfl rfl (aN (by
            first
             |exact W rfl id
             |exact E rfl) rfl bH (fun _=>rfl)) rfl ?_
           |refine eN rfl rfl rfl (aN (by
            first
             |exact W rfl id
             |exact E rfl) rfl bH (fun _=>by assumption)) rfl ?_
           |refine eN rfl rfl rfl (aL (by
            first
             |exact W rfl id
             |exact E rfl) rfl (fun hc=>by
            first
             |rfl
             |exact aE (by assumption)
             |assumption
             |exact aE (aO (by omega))) (fun _=>rfl)) rfl ?_)
        |refine eE rfl rfl rfl (aN (by
           first
            |exact W rfl (by
            first
             |exact id
             |simp)
            |exact E rfl) rfl bH (fun _=>rfl)) rfl ?_
        |refine eE rfl rfl rfl (aN (by
           first
            |exact W rfl (by
            first
             |exact id
             |simp)
            |exact E rfl) rfl bH (fun _=>by assumption)) rfl ?_
        |refine eE rfl rfl rfl (aL (by
           first
            |exact W rfl (by
            first
             |exact id
             |simp)
            |exact E rfl) rfl (fun hc=>by
           first
            |rfl
            |exact aE (by assumption)
            |assumption
            |exact aE (aO (by(try simp at hc)<;>omega))) (fun _=>rfl)) rfl ?_
        |refine eG rfl rfl rfl (aN (by
           first
            |exact W rfl (by
            first
             |exact id
             |simp)
            |exact E rfl) rfl bH (fun _=>rfl)) rfl ?_
        |refine eG rfl rfl rfl (aN (by
           first
            |exact W rfl (by
            first
             |exact id
             |simp)
            |exact E rfl) rfl bH (fun _=>by assumption)) rfl ?_
        |refine eG rfl rfl rfl (aL (by
           first
            |exact W rfl (by
            first
             |exact id
             |simp)
            |exact E rfl) rfl (fun hc=>by
           first
            |rfl
            |exact aE (by assumption)
            |assumption
            |exact aE (aO (by(try simp at hc)<;>omega))) (fun _=>rfl)) rfl ?_
        |refine eG rfl rfl rfl (bI (v:=.bool false)) rfl ?_
      first|refine jA rfl rfl rfl rfl rfl ?_ |(first|refine eN rfl rfl rfl (aY (E rfl) rfl (by decide)) rfl ?_ |refine eN rfl rfl rfl (aS (E rfl) rfl (by decide)) rfl ?_)|refine eE rfl rfl rfl (aY (E rfl) rfl (by decide)) rfl ?_ |refine eE rfl rfl rfl (aS (E rfl) rfl (by decide)) rfl ?_ |refine eG rfl rfl rfl (aY (E rfl) rfl (by decide)) rfl ?_ |refine eG rfl rfl rfl (aS (E rfl) rfl (by decide)) rfl ?_ |refine eG rfl rfl rfl (bI (v:=.bool false)) rfl ?_
      first
        |refine jA rfl rfl rfl rfl rfl ?_
        |(
          first
           |refine eN rfl rfl rfl (aN (by
            first
             |exact W rfl id
             |exact E rfl) rfl bH (fun _=>rfl)) rfl ?_
           |refine eN rfl rfl rfl (aN (by
            first
             |exact W rfl id
             |exact E rfl) rfl bH (fun _=>by assumption)) rfl ?_
           |refine eN rfl rfl rfl (aL (by
            first
             |exact W rfl id
             |exact E rfl) rfl (fun hc=>by
            first
             |rfl
             |exact aE (by assumption)
             |assumption
             |exact aE (aO (by omega))) (fun _=>rfl)) rfl ?_)
        |refine eE rfl rfl rfl (aN (by
           first
            |exact W rfl (by
            first
             |exact id
             |simp)
            |exact E rfl) rfl bH (fun _=>rfl)) rfl ?_
        |refine eE rfl rfl rfl (aN (by
           first
            |exact W rfl (by
            first
             |exact id
             |simp)
            |exact E rfl) rfl bH (fun _=>by assumption)) rfl ?_
        |refine eE rfl rfl rfl (aL (by
           first
            |exact W rfl (by
            first
             |exact id
             |simp)
            |exact E rfl) rfl (fun hc=>by
           first
            |rfl
            |exact aE (by assumption)
            |assumption
            |exact aE (aO (by(try simp at hc)<;>omega))) (fun _=>rfl)) rfl ?_
        |refine eG rfl rfl rfl (aN (by
           first
            |exact W rfl (by
            first
             |exact id
             |simp)
            |exact E rfl) rfl bH (fun _=>rfl)) rfl ?_
        |refine eG rfl rfl rfl (aN (by
           first
            |exact W rfl (by
            first
             |exact id
             |simp)
            |exact E rfl) rfl bH (fun _=>by assumption)) rfl ?_
        |refine eG rfl rfl rfl (aL (by
           first
            |exact W rfl (by
            first
             |exact id
             |simp)
            |exact E rfl) rfl (fun hc=>by
           first
            |rfl
            |exact aE (by assumption)
            |assumption
            |exact aE (aO (by(try simp at hc)<;>omega))) (fun _=>rfl)) rfl ?_
        |refine eG rfl rfl rfl (bI (v:=.bool false)) rfl ?_
      first
        |refine jA rfl rfl rfl rfl rfl ?_
        |(
          first
           |refine eN rfl rfl rfl (bE (by
            first
             |exact W rfl id
             |exact E rfl) (by
            first
             |exact W rfl id
             |exact E rfl) (fun hc=>by(simp only[List.length_map];omega))) rfl ?_
           |refine eN rfl rfl rfl (aU (by
            first
             |exact W rfl id
             |exact E rfl) bH (by
            first
             |exact W rfl id
             |exact E rfl) (fun hc=>by omega)) rfl ?_
           |refine eN rfl rfl rfl (aW (by
            first
             |exact W rfl id
             |exact E rfl) bH (by
            first
             |exact W rfl id
             |exact E rfl) (fun hc=>by omega)) rfl ?_)
        |refine eE rfl rfl rfl (bE (by
           first
            |exact W rfl (by
            first
             |exact id
             |simp)
            |exact E rfl) (by
           first
            |exact W rfl (by
            first
             |exact id
             |simp)
            |exact E rfl) (fun hc=>by(try simp at hc)<;>(simp only[List.length_map];omega))) rfl ?_
        |refine eE rfl rfl rfl (aU (by
           first
            |exact W rfl (by
            first
             |exact id
             |simp)
            |exact E rfl) bH (by
           first
            |exact W rfl (by
            first
             |exact id
             |simp)
            |exact E rfl) (fun hc=>by(try simp at hc)<;>omega)) rfl ?_
        |refine eE rfl rfl rfl (aW (by
           first
            |exact W rfl (by
            first
             |exact id
             |simp)
            |exact E rfl) bH (by
           first
            |exact W rfl (by
            first
             |exact id
             |simp)
            |exact E rfl) (fun hc=>by(try simp at hc)<;>omega)) rfl ?_
        |refine eG rfl rfl rfl (bE (by
           first
            |exact W rfl (by
            first
             |exact id
             |simp)
            |exact E rfl) (by
           first
            |exact W rfl (by
            first
             |exact id
             |simp)
            |exact E rfl) (fun hc=>by(try simp at hc)<;>(simp only[List.length_map];omega))) rfl ?_
        |refine eG rfl rfl rfl (aU (by
           first
            |exact W rfl (by
            first
             |exact id
             |simp)
            |exact E rfl) bH (by
           first
            |exact W rfl (by
            first
             |exact id
             |simp)
            |exact E rfl) (fun hc=>by(try simp at hc)<;>omega)) rfl ?_
        |refine eG rfl rfl rfl (aW (by
           first
            |exact W rfl (by
            first
             |exact id
             |simp)
            |exact E rfl) bH (by
           first
            |exact W rfl (by
            first
             |exact id
             |simp)
            |exact E rfl) (fun hc=>by(try simp at hc)<;>omega)) rfl ?_
        |refine eG rfl rfl rfl (bI (v:=.bool false)) rfl ?_
      first|refine jA rfl rfl rfl rfl rfl ?_ |(first|refine eN rfl rfl rfl (aS (by first|exact W rfl id|exact E rfl) rfl (by decide)) rfl ?_ |refine eN rfl rfl rfl (eM (by first|exact W rfl id|exact E rfl) rfl (by decide)) rfl ?_)|refine eE rfl rfl rfl (aS (by first|exact W rfl (by first|exact id|simp)|exact E rfl) rfl (by decide)) rfl ?_ |refine eE rfl rfl rfl (eM (by first|exact W rfl (by first|exact id|simp)|exact E rfl) rfl (by decide)) rfl ?_ |refine eG rfl rfl rfl (aS (by first|exact W rfl (by first|exact id|simp)|exact E rfl) rfl (by decide)) rfl ?_ |refine eG rfl rfl rfl (eM (by first|exact W rfl (by first|exact id|simp)|exact E rfl) rfl (by decide)) rfl ?_ |refine eG rfl rfl rfl (bI (v:=.bool false)) rfl ?_
      first
        |refine jA rfl rfl rfl rfl rfl ?_
        |(
          first
           |refine eN rfl rfl rfl (aL (by
            first
             |exact W rfl id
             |exact E rfl) rfl (fun hc=>by
            first
             |rfl
             |exact aE (by assumption)
             |assumption
             |exact aE (aO (by omega))) (fun _=>rfl)) rfl ?_
           |refine eN rfl rfl rfl (bJ (by
            first
             |exact W rfl id
             |exact E rfl) rfl bH (fun hc=>by
            first
             |rfl
             |exact aE (by assumption)
             |assumption
             |exact aE (aO (by omega))) (fun _=>rfl)) rfl ?_)
        |refine eE rfl rfl rfl (aL (by
           first
            |exact W rfl (by
            first
             |exact id
             |simp)
            |exact E rfl) rfl (fun hc=>by
           first
            |rfl
            |exact aE (by assumption)
            |assumption
            |exact aE (aO (by(try simp at hc)<;>omega))) (fun _=>rfl)) rfl ?_
        |refine eE rfl rfl rfl (bJ (by
           first
            |exact W rfl (by
            first
             |exact id
             |simp)
            |exact E rfl) rfl bH (fun hc=>by
           first
            |rfl
            |exact aE (by assumption)
            |assumption
            |exact aE (aO (by(try simp at hc)<;>omega))) (fun _=>rfl)) rfl ?_
        |refine eG rfl rfl rfl (aL (by
           first
            |exact W rfl (by
            first
             |exact id
             |simp)
            |exact E rfl) rfl (fun hc=>by
           first
            |rfl
            |exact aE (by assumption)
            |assumption
            |exact aE (aO (by(try simp at hc)<;>omega))) (fun _=>rfl)) rfl ?_
        |refine eG rfl rfl rfl (bJ (by
           first
            |exact W rfl (by
            first
             |exact id
             |simp)
            |exact E rfl) rfl bH (fun hc=>by
           first
            |rfl
            |exact aE (by assumption)
            |assumption
            |exact aE (aO (by(try simp at hc)<;>omega))) (fun _=>rfl)) rfl ?_
        |refine eG rfl rfl rfl (bI (v:=.bool false)) rfl ?_
      first|refine jA rfl rfl rfl rfl rfl ?_ |(refine eN rfl rfl rfl (eI (by first|exact W rfl id|exact E rfl)) rfl ?_)|refine eE rfl rfl rfl (eI (by first|exact W rfl (by first|exact id|simp)|exact E rfl)) rfl ?_ |refine eG rfl rfl rfl (eI (by first|exact W rfl (by first|exact id|simp)|exact E rfl)) rfl ?_ |refine eG rfl rfl rfl (bI (v:=.bool false)) rfl ?_
      refine aGW ?_;refine MA ?_;refine tE ?_;apply aF;exact aG
      · exact⟨_,hL,rfl⟩
      · exact aA
    · obtain⟨g,hg⟩:∃g,E0.m.gl[x.a.toNat]? =some g:=⟨_,List.getElem?_eq_getElem (by omega)⟩
      have hlt2:x.a<E0.m.gl.length:=by omega
      rw[show E0.m.gl.getD x.a.toNat HF=g by rw[List.getD_eq_getElem?_getD,hg];rfl,show(if decide ((E0.m.gl.length:Int)≤x.a)=true then true else if(x.op==36)=true then !g.mu else false)=(if(x.op==36)=true then !g.mu else false) by rw[decide_eq_false hlt];rfl];refine gI [(0,true),(1,true),(2,true),(3,true),(4,true),(5,true),(6,true),(7,true),(8,true),(9,true),(10,true),(11,true),(12,true),(13,true),(14,true),(15,true),(16,true),(17,true),(18,true),(19,true),(20,true),(21,true),(22,true),(23,true),(24,true),(25,true),(26,true)] ?_;refine jE ?_;refine CI ?_;refine OX ?_;refine jE ?_;refine IQ ?_;refine gD rfl (fI (E rfl) (E rfl)) rfl ?_;rw[show decide ((E0.m.gl.length:Int)≤x.a)=false from decide_eq_false hlt];refine CN ?_;refine qH ?_;refine aGX ?_;first|refine jA rfl rfl rfl rfl rfl ?_ |(refine eN rfl rfl rfl (aI (E rfl)) rfl ?_)|refine eE rfl rfl rfl (aI (E rfl)) rfl ?_ |refine eG rfl rfl rfl (aI (E rfl)) rfl ?_ |refine eG rfl rfl rfl (bI (v:=.bool false)) rfl ?_
      first|refine jA rfl rfl rfl rfl rfl ?_ |(first|refine eN rfl rfl rfl (bA (by first|exact W rfl id|exact E rfl) (.inl ⟨_,_,rfl⟩)) rfl ?_ |refine eN rfl rfl rfl (bA (by first|exact W rfl id|exact E rfl) (.inr (.inl ⟨_,_,_,rfl⟩))) rfl ?_ |refine eN rfl rfl rfl (bA (by first|exact W rfl id|exact E rfl) (.inr (.inr ⟨_,_,_,_,rfl⟩))) rfl ?_)|refine eE rfl rfl rfl (bA (by first|exact W rfl (by first|exact id|simp)|exact E rfl) (.inl ⟨_,_,rfl⟩)) rfl ?_ |refine eE rfl rfl rfl (bA (by first|exact W rfl (by first|exact id|simp)|exact E rfl) (.inr (.inl ⟨_,_,_,rfl⟩))) rfl ?_ |refine eE rfl rfl rfl (bA (by first|exact W rfl (by first|exact id|simp)|exact E rfl) (.inr (.inr ⟨_,_,_,_,rfl⟩))) rfl ?_ |refine eG rfl rfl rfl (bA (by first|exact W rfl (by first|exact id|simp)|exact E rfl) (.inl ⟨_,_,rfl⟩)) rfl ?_ |refine eG rfl rfl rfl (bA (by first|exact W rfl (by first|exact id|simp)|exact E rfl) (.inr (.inl ⟨_,_,_,rfl⟩))) rfl ?_ |refine eG rfl rfl rfl (bA (by first|exact W rfl (by first|exact id|simp)|exact E rfl) (.inr (.inr ⟨_,_,_,_,rfl⟩))) rfl ?_ |refine eG rfl rfl rfl (bI (v:=.bool false)) rfl ?_
      first|refine jA rfl rfl rfl rfl rfl ?_ |(first|refine eN rfl rfl rfl (aY (by first|exact W rfl id|exact E rfl) rfl (by decide)) rfl ?_ |refine eN rfl rfl rfl (aS (by first|exact W rfl id|exact E rfl) rfl (by decide)) rfl ?_)|refine eE rfl rfl rfl (aY (by first|exact W rfl (by first|exact id|simp)|exact E rfl) rfl (by decide)) rfl ?_ |refine eE rfl rfl rfl (aS (by first|exact W rfl (by first|exact id|simp)|exact E rfl) rfl (by decide)) rfl ?_ |refine eG rfl rfl rfl (aY (by first|exact W rfl (by first|exact id|simp)|exact E rfl) rfl (by decide)) rfl ?_ |refine eG rfl rfl rfl (aS (by first|exact W rfl (by first|exact id|simp)|exact E rfl) rfl (by decide)) rfl ?_ |refine eG rfl rfl rfl (bI (v:=.bool false)) rfl ?_
      first|refine jA rfl rfl rfl rfl rfl ?_ |(first|refine eN rfl rfl rfl (aY (by first|exact W rfl id|exact E rfl) rfl (by decide)) rfl ?_ |refine eN rfl rfl rfl (aS (by first|exact W rfl id|exact E rfl) rfl (by decide)) rfl ?_)|refine eE rfl rfl rfl (aY (by first|exact W rfl (by first|exact id|simp)|exact E rfl) rfl (by decide)) rfl ?_ |refine eE rfl rfl rfl (aS (by first|exact W rfl (by first|exact id|simp)|exact E rfl) rfl (by decide)) rfl ?_ |refine eG rfl rfl rfl (aY (by first|exact W rfl (by first|exact id|simp)|exact E rfl) rfl (by decide)) rfl ?_ |refine eG rfl rfl rfl (aS (by first|exact W rfl (by first|exact id|simp)|exact E rfl) rfl (by decide)) rfl ?_ |refine eG rfl rfl rfl (bI (v:=.bool false)) rfl ?_
      first
        |refine jA rfl rfl rfl rfl rfl ?_
        |(
          first
           |refine eN rfl rfl rfl (aN (by
            first
             |exact W rfl id
             |exact E rfl) rfl bH (fun _=>rfl)) rfl ?_
           |refine eN rfl rfl rfl (aN (by
            first
             |exact W rfl id
             |exact E rfl) rfl bH (fun _=>by assumption)) rfl ?_
           |refine eN rfl rfl rfl (aL (by
            first
             |exact W rfl id
             |exact E rfl) rfl (fun hc=>by
            first
             |rfl
             |exact aE (by assumption)
             |assumption
             |exact aE (aO (by omega))) (fun _=>rfl)) rfl ?_)
        |refine eE rfl rfl rfl (aN (by
           first
            |exact W rfl (by
            first
             |exact id
             |simp)
            |exact E rfl) rfl bH (fun _=>rfl)) rfl ?_
        |refine eE rfl rfl rfl (aN (by
           first
            |exact W rfl (by
            first
             |exact id
             |simp)
            |exact E rfl) rfl bH (fun _=>by assumption)) rfl ?_
        |refine eE rfl rfl rfl (aL (by
           first
            |exact W rfl (by
            first
             |exact id
             |simp)
            |exact E rfl) rfl (fun hc=>by
           first
            |rfl
            |exact aE (by assumption)
            |assumption
            |exact aE (aO (by(try simp at hc)<;>omega))) (fun _=>rfl)) rfl ?_
        |refine eG rfl rfl rfl (aN (by
           first
            |exact W rfl (by
            first
             |exact id
             |simp)
            |exact E rfl) rfl bH (fun _=>rfl)) rfl ?_
        |refine eG rfl rfl rfl (aN (by
           first
            |exact W rfl (by
            first
             |exact id
             |simp)
            |exact E rfl) rfl bH (fun _=>by assumption)) rfl ?_
        |refine eG rfl rfl rfl (aL (by
           first
            |exact W rfl (by
            first
             |exact id
             |simp)
            |exact E rfl) rfl (fun hc=>by
           first
            |rfl
            |exact aE (by assumption)
            |assumption
            |exact aE (aO (by(try simp at hc)<;>omega))) (fun _=>rfl)) rfl ?_
        |refine eG rfl rfl rfl (bI (v:=.bool false)) rfl ?_
      first|refine jA rfl rfl rfl rfl rfl ?_ |(first|refine eN rfl rfl rfl (aY (E rfl) rfl (by decide)) rfl ?_ |refine eN rfl rfl rfl (aS (E rfl) rfl (by decide)) rfl ?_)|refine eE rfl rfl rfl (aY (E rfl) rfl (by decide)) rfl ?_ |refine eE rfl rfl rfl (aS (E rfl) rfl (by decide)) rfl ?_ |refine eG rfl rfl rfl (aY (E rfl) rfl (by decide)) rfl ?_ |refine eG rfl rfl rfl (aS (E rfl) rfl (by decide)) rfl ?_ |refine eG rfl rfl rfl (bI (v:=.bool false)) rfl ?_
      first
        |refine jA rfl rfl rfl rfl rfl ?_
        |(
          first
           |refine eN rfl rfl rfl (aN (by
            first
             |exact W rfl id
             |exact E rfl) rfl bH (fun _=>rfl)) rfl ?_
           |refine eN rfl rfl rfl (aN (by
            first
             |exact W rfl id
             |exact E rfl) rfl bH (fun _=>by assumption)) rfl ?_
           |refine eN rfl rfl rfl (aL (by
            first
             |exact W rfl id
             |exact E rfl) rfl (fun hc=>by
            first
             |rfl
             |exact aE (by assumption)
             |assumption
             |exact aE (aO (by omega))) (fun _=>rfl)) rfl ?_)
        |refine eE rfl rfl rfl (aN (by
           first
            |exact W rfl (by
            first
             |exact id
             |simp)
            |exact E rfl) rfl bH (fun _=>rfl)) rfl ?_
        |refine eE rfl rfl rfl (aN (by
           first
            |exact W rfl (by
            first
             |exact id
             |simp)
            |exact E rfl) rfl bH (fun _=>by assumption)) rfl ?_
        |refine eE rfl rfl rfl (aL (by
           first
            |exact W rfl (by
            first
             |exact id
             |simp)
            |exact E rfl) rfl (fun hc=>by
           first
            |rfl
            |exact aE (by assumption)
            |assumption
            |exact aE (aO (by(try simp at hc)<;>omega))) (fun _=>rfl)) rfl ?_
        |refine eG rfl rfl rfl (aN (by
           first
            |exact W rfl (by
            first
             |exact id
             |simp)
            |exact E rfl) rfl bH (fun _=>rfl)) rfl ?_
        |refine eG rfl rfl rfl (aN (by
           first
            |exact W rfl (by
            first
             |exact id
             |simp)
            |exact E rfl) rfl bH (fun _=>by assumption)) rfl ?_
        |refine eG rfl rfl rfl (aL (by
           first
            |exact W rfl (by
            first
             |exact id
             |simp)
            |exact E rfl) rfl (fun hc=>by
           first
            |rfl
            |exact aE (by assumption)
            |assumption
            |exact aE (aO (by(try simp at hc)<;>omega))) (fun _=>rfl)) rfl ?_
        |refine eG rfl rfl rfl (bI (v:=.bool false)) rfl ?_
      first
        |refine jA rfl rfl rfl rfl rfl ?_
        |(
          first
           |refine eN rfl rfl rfl (bE (by
            first
             |exact W rfl id
             |exact E rfl) (by
            first
             |exact W rfl id
             |exact E rfl) (fun hc=>by(simp only[List.length_map];omega))) rfl ?_
           |refine eN rfl rfl rfl (aU (by
            first
             |exact W rfl id
             |exact E rfl) bH (by
            first
             |exact W rfl id
             |exact E rfl) (fun hc=>by omega)) rfl ?_
           |refine eN rfl rfl rfl (aW (by
            first
             |exact W rfl id
             |exact E rfl) bH (by
            first
             |exact W rfl id
             |exact E rfl) (fun hc=>by omega)) rfl ?_)
        |refine eE rfl rfl rfl (bE (by
           first
            |exact W rfl (by
            first
             |exact id
             |simp)
            |exact E rfl) (by
           first
            |exact W rfl (by
            first
             |exact id
             |simp)
            |exact E rfl) (fun hc=>by(try simp at hc)<;>(simp only[List.length_map];omega))) rfl ?_
        |refine eE rfl rfl rfl (aU (by
           first
            |exact W rfl (by
            first
             |exact id
             |simp)
            |exact E rfl) bH (by
           first
            |exact W rfl (by
            first
             |exact id
             |simp)
            |exact E rfl) (fun hc=>by(try simp at hc)<;>omega)) rfl ?_
        |refine eE rfl rfl rfl (aW (by
           first
            |exact W rfl (by
            first
             |exact id
             |simp)
            |exact E rfl) bH (by
           first
            |exact W rfl (by
            first
             |exact id
             |simp)
            |exact E rfl) (fun hc=>by(try simp at hc)<;>omega)) rfl ?_
        |refine eG rfl rfl rfl (bE (by
           first
            |exact W rfl (by
            first
             |exact id
             |simp)
            |exact E rfl) (by
           first
            |exact W rfl (by
            first
             |exact id
             |simp)
            |exact E rfl) (fun hc=>by(try simp at hc)<;>(simp only[List.length_map];omega))) rfl ?_
        |refine eG rfl rfl rfl (aU (by
           first
            |exact W rfl (by
            first
             |exact id
             |simp)
            |exact E rfl) bH (by
           first
            |exact W rfl (by
            first
             |exact id
             |simp)
            |exact E rfl) (fun hc=>by(try simp at hc)<;>omega)) rfl ?_
        |refine eG rfl rfl rfl (aW (by
           first
            |exact W rfl (by
            first
             |exact id
             |simp)
            |exact E rfl) bH (by
           first
            |exact W rfl (by
            first
             |exact id
             |simp)
            |exact E rfl) (fun hc=>by(try simp at hc)<;>omega)) rfl ?_
        |refine eG rfl rfl rfl (bI (v:=.bool false)) rfl ?_
      first|refine jA rfl rfl rfl rfl rfl ?_ |(first|refine eN rfl rfl rfl (aS (by first|exact W rfl id|exact E rfl) rfl (by decide)) rfl ?_ |refine eN rfl rfl rfl (eM (by first|exact W rfl id|exact E rfl) rfl (by decide)) rfl ?_)|refine eE rfl rfl rfl (aS (by first|exact W rfl (by first|exact id|simp)|exact E rfl) rfl (by decide)) rfl ?_ |refine eE rfl rfl rfl (eM (by first|exact W rfl (by first|exact id|simp)|exact E rfl) rfl (by decide)) rfl ?_ |refine eG rfl rfl rfl (aS (by first|exact W rfl (by first|exact id|simp)|exact E rfl) rfl (by decide)) rfl ?_ |refine eG rfl rfl rfl (eM (by first|exact W rfl (by first|exact id|simp)|exact E rfl) rfl (by decide)) rfl ?_ |refine eG rfl rfl rfl (bI (v:=.bool false)) rfl ?_
      first
        |refine jA rfl rfl rfl rfl rfl ?_
        |(
          first
           |refine eN rfl rfl rfl (aL (by
            first
             |exact W rfl id
             |exact E rfl) rfl (fun hc=>by
            first
             |rfl
             |exact aE (by assumption)
             |assumption
             |exact aE (aO (by omega))) (fun _=>rfl)) rfl ?_
           |refine eN rfl rfl rfl (bJ (by
            first
             |exact W rfl id
             |exact E rfl) rfl bH (fun hc=>by
            first
             |rfl
             |exact aE (by assumption)
             |assumption
             |exact aE (aO (by omega))) (fun _=>rfl)) rfl ?_)
        |refine eE rfl rfl rfl (aL (by
           first
            |exact W rfl (by
            first
             |exact id
             |simp)
            |exact E rfl) rfl (fun hc=>by
           first
            |rfl
            |exact aE (by assumption)
            |assumption
            |exact aE (aO (by(try simp at hc)<;>omega))) (fun _=>rfl)) rfl ?_
        |refine eE rfl rfl rfl (bJ (by
           first
            |exact W rfl (by
            first
             |exact id
             |simp)
            |exact E rfl) rfl bH (fun hc=>by
           first
            |rfl
            |exact aE (by assumption)
            |assumption
            |exact aE (aO (by(try simp at hc)<;>omega))) (fun _=>rfl)) rfl ?_
        |refine eG rfl rfl rfl (aL (by
           first
            |exact W rfl (by
            first
             |exact id
             |simp)
            |exact E rfl) rfl (fun hc=>by
           first
            |rfl
            |exact aE (by assumption)
            |assumption
            |exact aE (aO (by(try simp at hc)<;>omega))) (fun _=>rfl)) rfl ?_
        |refine eG rfl rfl rfl (bJ (by
           first
            |exact W rfl (by
            first
             |exact id
             |simp)
            |exact E rfl) rfl bH (fun hc=>by
           first
            |rfl
            |exact aE (by assumption)
            |assumption
            |exact aE (aO (by(try simp at hc)<;>omega))) (fun _=>rfl)) rfl ?_
        |refine eG rfl rfl rfl (bI (v:=.bool false)) rfl ?_
      first|refine jA rfl rfl rfl rfl rfl ?_ |(refine eN rfl rfl rfl (eI (by first|exact W rfl id|exact E rfl)) rfl ?_)|refine eE rfl rfl rfl (eI (by first|exact W rfl (by first|exact id|simp)|exact E rfl)) rfl ?_ |refine eG rfl rfl rfl (eI (by first|exact W rfl (by first|exact id|simp)|exact E rfl)) rfl ?_ |refine eG rfl rfl rfl (bI (v:=.bool false)) rfl ?_
      refine aGW ?_;refine kK ?_;refine aB rfl (fun g19=> ?_) (fun g19=> ?_)
      · rw[if_pos (c:=(if(x.op==36)=true then !g.mu else false)=true) g19];have hL:=hN0;refine tE ?_;apply aF;exact aG
        · exact⟨_,hL,rfl⟩
        · exact aA
      rw[if_neg (c:=(if(x.op==36)=true then !g.mu else false)=true) (fun e=>by rw[g19]at e;cases e)];refine aP ?_;refine gI [(0,true),(1,true),(2,true),(3,true),(4,true),(5,true),(6,true),(7,true),(8,true),(9,true),(10,true),(11,true)] ?_;refine CI ?_;refine OX ?_;refine jE ?_;refine jE ?_;refine XF ?_;refine aGT ?_;refine LD ?_;refine PJ ?_;refine fS ?_;refine qI ?_;refine aB rfl (fun g22=> ?_) (fun g22=> ?_)
      · rw[if_pos (c:=(x.op==35)=true) g22];refine cL ?_;refine z1 ?_;refine aD fun r111 h111=> ?_;repeat rcases h111 with⟨_,h111⟩
        refine jB (j:=111) rfl bP (aR bH (by simp)) ?_;refine cw (eX z q t) Tryz.call275 (jD hN0.qz t (by omega) [g.kd] (by simp)) rfl aC dH ?_;rintro _ σ' ⟨e,he,rfl⟩ h112
        (try unfold eJ);(try unfold fR);(try unfold eX);(try unfold iF);(try dsimp only[List.cons_append,List.nil_append]);have k112:=cM (h112 _ (List.mem_cons_of_mem _ List.mem_cons_self));unfold eX at k112;simp(disch:=(first|(simp only[List.mem_cons,List.not_mem_nil,true_or,or_true,or_false];done)|(focus (simp only[List.mem_cons,List.not_mem_nil,or_false,not_or];(repeat' (first|apply And.intro|(exact cF)));done))|omega)) only[List.map_cons,List.map_nil,cJ,cX,dO,cY,aM,aQ,and_true]at k112;repeat rcases k112 with⟨_,k112⟩
        have hL:Nr r p z e:=⟨hN0.pr,hN0.zr,hN0.zp,by(exact cF),by(exact cF),by(exact cF)⟩
        refine dQ ?_;refine bR ?_;apply aF;exact aG
        · exact⟨_,hL,rfl⟩
        · exact aA
      rw[if_neg (c:=(x.op==35)=true) (fun e=>by rw[g22]at e;cases e)];refine tD ?_;refine z1 ?_;refine aD fun r116 h116=> ?_;repeat rcases h116 with⟨_,h116⟩
      refine jB (j:=116) rfl bP (aR bH (by simp)) ?_;refine cw (eJ E0 r p z q t) Tryz.call202 (eY hN0 t (by omega) [g.kd] (by simp)) rfl aC dH ?_;rintro _ σ' rfl h117
      (try unfold eJ);(try unfold fR);(try unfold eX);(try unfold iF);(try dsimp only[List.cons_append,List.nil_append]);have hL:=hN0;refine dQ ?_;refine bR ?_;apply aF;exact aG
      · exact⟨_,hL,rfl⟩
      · exact aA
  rw[show gN E0.m E0.ls x t=AZ E0.m x t by unfold gN;simp only[g3,g5,g7,g17,if_true,if_false,Bool.false_eq_true]];refine GR ?_;refine cw (eJ E0 r p z q t) Tryz.call304 (RA hN0 t hl x) rfl aC dH ?_;rintro _ σ' ⟨e,hL,rfl⟩ h13
  (try unfold eJ);(try unfold fR);(try unfold eX);(try unfold iF);(try dsimp only[List.cons_append,List.nil_append]);obtain⟨m1,m2,m3,m4,m5,m6⟩:=id hL;refine dQ ?_;refine bR ?_;apply aF;exact aG
  · exact⟨_,hL,rfl⟩
  · exact aA
end
theorem EF{m:Md}(h:m.TS){f:Int}(hf:0≤f):(iR m f).1.Sm:=by rw[vN hf];exact oO h _
section
variable {r p z q : Nat} {E0 : Env}
theorem aAL(hN:Nr r p z q)(hm:E0.m.Ck)(t:RT)(hl:t.l.length≤900000)(x:Ins)(ha:0≤x.a)(ha2:x.a≤9223372036854775807):SCall Tryz.prog 273 [.ptr r 0,.agg (iv .any x),.ptr z 0] (eJ E0 r p z q t) (fun _ σ=>∃e,Nr r p z e∧σ=eJ E0 r p z e (pN E0.m x t)):=by
 have hN0:=hN;obtain⟨n1,n2,n3,n4,n5,n6⟩:=hN;have hts:=EF hm.ts ha;unfold iv;refine cC 71 [0,1,2,4,6,7,8,11,23,45] Tryz.func273 ?_;unfold eJ fR eX iF
 (try dsimp only[List.cons_append,List.nil_append]);refine dW ?_;apply bx;rfl;rfl;(exact dM);rfl;refine aD fun r4 h4=> ?_;repeat rcases h4 with⟨_,h4⟩
 refine EU ?_;refine dW ?_;apply al;rfl;(exact dM);refine aD fun r6 h6=> ?_;repeat rcases h6 with⟨_,h6⟩
 refine EU ?_;refine fS ?_;refine qI ?_;refine aB rfl (fun g2=> ?_) (fun g2=> ?_)
 ·rw[show pN E0.m x t=if(!(iR E0.m x.a).2)=true then eD t else gY (aV t (iR E0.m x.a).1.pr) (iR E0.m x.a).1.rs from if_pos g2];refine aP ?_;refine TU (β:=Nat) (fun a7=>⟨[(0,.ptr r 0),(2,.ptr z 0),(4,.ptr r4 0),(6,.ptr r6 0),(7,.ptr a7 0),(8,.bool (iR E0.m x.a).2)],(a7,.box 50 (eF (iR E0.m x.a).1))::(r6,.box 50 [.ro 0 [] .nil,.ro 0 [] .nil])::(r4,.box 46 [.int .i64 x.op,.int .i64 x.a,.int .i64 x.b,.ro 1 (x.l.map aX) .any])::eJ E0 r p z q t⟩) (fun a7=>Nq a7 r6∧Nq a7 r4∧Nq a7 r∧Nq a7 p∧Nq a7 z∧Nq a7 q) ?_ ?_
  ·refine gI [(0,true),(1,true),(2,true),(3,true),(4,true),(5,true),(13,false),(13,false),(13,false),(13,false),(13,false),(13,false),(13,false)] ?_;refine CI ?_;refine OX ?_;refine OY ?_;refine jE ?_;refine jR 6 10 [(7,true),(8,true),(9,true),(10,false),(11,false),(12,true)] [(6,false),(7,true),(8,true),(9,true),(11,false),(12,true)] (f1:=[]) (f2:=[]) (by kernel_rfl) rfl rfl ?_ ?_ (.inl rfl) (.inl rfl)
   ·refine qR (σ1:=[]) Tryz.call46 (EE E0.m hm.im x.a ⟨ha,ha2⟩) (dF rfl) aC aA ?_;rintro _ σ' ⟨rfl,rfl⟩ h19;apply bZ;(exact bF);refine gD rfl (aI (E rfl)) rfl ?_;refine z85 ?_;refine z85 ?_;apply dal;rfl;infer_instance;rfl;(exact dM);refine aD fun r7 h7=> ?_;repeat rcases h7 with⟨_,h7⟩
    refine WZ ?_;refine PJ ?_;refine an ?_;exact⟨r7,⟨by(exact cF),by(exact cF),by(exact cF),by(exact cF),by(exact cF),by(exact cF)⟩,aK⟩
   ·apply aHd;infer_instance;rfl;(exact dM);refine aD fun r7 h7=> ?_;repeat rcases h7 with⟨_,h7⟩
    refine qT [] rfl Tryz.call46 (EE E0.m hm.im x.a ⟨ha,ha2⟩) rfl aC aA gE ?_;rintro _ σ' ⟨rfl,rfl⟩ h19;apply bZ;(exact bF);refine gD rfl (aI (E rfl)) rfl ?_;refine z85 ?_;refine z85 ?_;refine WZ ?_;refine PJ ?_;refine an ?_;exact⟨r7,⟨by(exact cF),by(exact cF),by(exact cF),by(exact cF),by(exact cF),by(exact cF)⟩,aK⟩
  rintro a7 ⟨u1,u2,u3,u4,u5,u6⟩;unfold eJ fR eX iF
  (try dsimp only[List.cons_append,List.nil_append]);refine dX ?_;refine tU ?_;refine aB rfl (fun g4=> ?_) (fun g4=> ?_)
  ·rw[if_pos g4];have hL:=hN0;refine tE ?_;apply aF;exact aG
   ·exact⟨_,hL,rfl⟩
   ·exact aA
  rw[if_neg (c:=(!(iR E0.m x.a).2)=true) (fun e=>by rw[g4]at e;cases e)];generalize(iR E0.m x.a).1=y at hts⊢;obtain⟨T,hT⟩:∃T:RT,T=t:=⟨_,rfl⟩
  rw[←hT];have hTl:T.l.length≤900000:=by rw[hT];exact hl
  refine pY ?_;refine iD ?_;obtain⟨pr,rs⟩:=y;obtain⟨ht1,ht2⟩:=hts;dsimp only at ht1 ht2⊢;have htk:=iS T pr;refine mK ?_;refine gF ?_;refine cw (eJ E0 r p z q T) Tryz.call202 (eY hN0 T (by omega) pr (by omega)) rfl aC dH ?_;rintro _ σ' rfl h66
  (try unfold eJ);(try unfold fR);(try unfold eX);(try unfold iF);(try dsimp only[List.cons_append,List.nil_append]);refine dQ ?_;refine kL ?_;refine cw (eX z q (aV T pr)) Tryz.call275 (jD hN0.qz _ (by omega) rs (by omega)) rfl aC dH ?_;rintro _ σ' ⟨e,he,rfl⟩ h70
  (try unfold eJ);(try unfold fR);(try unfold eX);(try unfold iF);(try dsimp only[List.cons_append,List.nil_append]);have k70:=cM (h70 _ (List.mem_cons_of_mem _ List.mem_cons_self));unfold eX at k70;simp(disch:=(first|(simp only[List.mem_cons,List.not_mem_nil,true_or,or_true,or_false];done)|(focus (simp only[List.mem_cons,List.not_mem_nil,or_false,not_or];(repeat' (first|apply And.intro|(exact cF)));done))|omega)) only[List.map_cons,List.map_nil,cJ,cX,dO,cY,aM,aQ,and_true]at k70;repeat rcases k70 with⟨_,k70⟩
  have hL:Nr r p z e:=⟨hN0.pr,hN0.zr,hN0.zp,by(exact cF),by(exact cF),by(exact cF)⟩
  refine dQ ?_;refine bR ?_;apply aF;exact aG
  ·exact⟨_,hL,rfl⟩
  ·exact aA
 rw[show pN E0.m x t=if(if(!E0.m.tb.has)=true then true else decide ((E0.m.ty.length:Int)≤x.a))=true then eD t else gY (aV (aV t [1]) (E0.m.ty.getD x.a.toNat rG).pr) (E0.m.ty.getD x.a.toNat rG).rs by unfold pN;rw[g2];rfl];refine aP ?_;refine gI [(0,true),(1,true),(2,true),(3,true),(4,true),(5,true),(6,true),(7,true),(8,true),(9,true),(10,true),(11,true),(12,true),(13,true),(14,true),(15,true),(16,true),(17,true)] ?_;refine CI ?_;refine OX ?_;refine OX ?_;refine jE ?_;refine gD rfl (eI (E rfl)) rfl ?_;refine CN ?_;refine qH ?_;refine xL ?_;refine sq7 ?_
 (first|refine jA rfl rfl rfl rfl rfl ?_ |(first|refine eN rfl rfl rfl (aY (by first|exact W rfl id|exact E rfl) rfl (by decide)) rfl ?_ |refine eN rfl rfl rfl (aS (by first|exact W rfl id|exact E rfl) rfl (by decide)) rfl ?_)|refine eE rfl rfl rfl (aY (by first|exact W rfl id|exact E rfl) rfl (by decide)) rfl ?_ |refine eE rfl rfl rfl (aS (by first|exact W rfl id|exact E rfl) rfl (by decide)) rfl ?_);refine qH ?_;refine sq9 ?_;refine AR ?_;refine kK ?_;refine aB rfl (fun g7=> ?_) (fun g7=> ?_)
 ·rw[if_pos g7];have hL:=hN0;refine tE ?_;apply aF;exact aG
  ·exact⟨_,hL,rfl⟩
  ·exact aA
 rw[if_neg (c:=(if(!E0.m.tb.has)=true then true else decide ((E0.m.ty.length:Int)≤x.a))=true) (fun e=>by rw[g7]at e;cases e)];have hlt:x.a<E0.m.ty.length:=by
  have:∀p q:Bool,(if p=true then true else q)=false→p=false∧q=false:=by intro p q;cases p<;>cases q<;>simp
  have h2:=(this _ _ g7).2;simp only[decide_eq_false_iff_not]at h2;omega
 obtain⟨y,hy⟩:∃y,E0.m.ty[x.a.toNat]? =some y:=⟨_,List.getElem?_eq_getElem (by omega)⟩
 have hts:=hm.ts y (List.mem_of_getElem? hy);rw[show E0.m.ty.getD x.a.toNat rG=y by rw[List.getD_eq_getElem?_getD,hy];rfl];have htl:=iS t [1];refine cL ?_;refine z1 ?_;refine aD fun r51 h51=> ?_;repeat rcases h51 with⟨_,h51⟩
 refine jB (j:=51) rfl bP (aR bH (by simp)) ?_;refine cw (eJ E0 r p z q t) Tryz.call202 (eY hN0 t (by omega) [1] (by simp)) rfl aC dH ?_;rintro _ σ' rfl h52
 (try unfold eJ);(try unfold fR);(try unfold eX);(try unfold iF);(try dsimp only[List.cons_append,List.nil_append]);refine dQ ?_;have hTl:(aV t [1]).l.length≤900000:=by omega
 generalize aV t [1]=T at hTl⊢;refine gI [(0,true),(1,true),(2,true),(3,true),(4,true),(5,true),(6,true),(7,true),(8,true),(9,false)] ?_;refine CI ?_;refine OX ?_;refine jE ?_;refine jE ?_;refine MC ?_;refine zH ?_;refine WZ ?_;refine kK ?_;obtain⟨pr,rs⟩:=y;obtain⟨ht1,ht2⟩:=hts;dsimp only at ht1 ht2⊢;have htk:=iS T pr;refine mK ?_;refine gF ?_;refine cw (eJ E0 r p z q T) Tryz.call202 (eY hN0 T (by omega) pr (by omega)) rfl aC dH ?_;rintro _ σ' rfl h66
 (try unfold eJ);(try unfold fR);(try unfold eX);(try unfold iF);(try dsimp only[List.cons_append,List.nil_append]);refine dQ ?_;refine kL ?_;refine cw (eX z q (aV T pr)) Tryz.call275 (jD hN0.qz _ (by omega) rs (by omega)) rfl aC dH ?_;rintro _ σ' ⟨e,he,rfl⟩ h70
 (try unfold eJ);(try unfold fR);(try unfold eX);(try unfold iF);(try dsimp only[List.cons_append,List.nil_append]);have k70:=cM (h70 _ (List.mem_cons_of_mem _ List.mem_cons_self));unfold eX at k70;simp(disch:=(first|(simp only[List.mem_cons,List.not_mem_nil,true_or,or_true,or_false];done)|(focus (simp only[List.mem_cons,List.not_mem_nil,or_false,not_or];(repeat' (first|apply And.intro|(exact cF)));done))|omega)) only[List.map_cons,List.map_nil,cJ,cX,dO,cY,aM,aQ,and_true]at k70;repeat rcases k70 with⟨_,k70⟩
 have hL:Nr r p z e:=⟨hN0.pr,hN0.zr,hN0.zp,by(exact cF),by(exact cF),by(exact cF)⟩
 refine dQ ?_;refine bR ?_;apply aF;exact aG
 ·exact⟨_,hL,rfl⟩
 ·exact aA
end
theorem lM(t:RT)(n:Int):(dA t n).2.l=t.l∧(dA t n).2.dd=t.dd∧(dA t n).2.lb=t.lb:=by
 unfold dA;exact aJ (p:=fun r:List Int×RT=>r.2.l=t.l∧r.2.dd=t.dd∧r.2.lb=t.lb) (fun _=>⟨rfl,rfl,rfl⟩) (fun _=>⟨rfl,rfl,rfl⟩)
def Sh (t:RT):Prop:=∀l∈t.lb,l.length≤1000
theorem zC{t:RT}(h:Sh t)(n:Int):(dA t n).1.length≤1000:=by
 unfold dA;refine aJ (p:=fun r:List Int×RT=>r.1.length≤1000) (fun _=>by simp) (fun _=> ?_);show(t.lb.getD _ []).length≤1000;rw[List.getD_eq_getElem?_getD];cases hg:t.lb[((t.lb.length:Int)-1-n).toNat]? with
 |none=>simp
 |some l=>exact h l (List.mem_of_getElem? hg)
theorem aAM(w:List Int)(t:RT)(n:Int):(nP w t n).l=t.l∧(nP w t n).dd=t.dd∧(nP w t n).lb=t.lb:=by
 obtain⟨h1,h2,h3⟩:=lM t n;unfold nP;exact aJ (p:=fun r:RT=>r.l=t.l∧r.dd=t.dd∧r.lb=t.lb) (fun _=>⟨h1,h2,h3⟩) (fun _=>⟨h1,h2,h3⟩)
theorem VQ(w l:List Int)(t:RT):(l.foldl (nP w) t).l=t.l∧(l.foldl (nP w) t).dd=t.dd∧(l.foldl (nP w) t).lb=t.lb:=by
 induction l generalizing t with
 |nil=>exact⟨rfl,rfl,rfl⟩
 |cons a l ih=>
  obtain⟨h1,h2,h3⟩:=aAM w t a;obtain⟨k1,k2,k3⟩:=ih (nP w t a);exact⟨k1.trans h1,k2.trans h2,k3.trans h3⟩
theorem VS{w l:List Int}{t:RT}{j:Nat}{n:Int}(h:l[j]? =some n):(l.take (j+1)).foldl (nP w) t=nP w ((l.take j).foldl (nP w) t) n:=by
 rw[List.take_add_one,h,List.foldl_append];rfl
theorem OV(t:RT)(ks:List Int):Sh t→Sh (aV t ks):=fun h=>by unfold Sh;rw[qC];exact h
section
variable {r p z q : Nat} {E0 : Env}
theorem RB(hN:Nr r p z q)(hres:E0.res.length≤1000)(t:RT)(hl:t.l.length≤900000)(hsh:Sh t)(hlb:t.lb.length≤1000000)(x:Ins)(hx:x.Ck)(hop:LI x.op=true)(ha:-9000000000000000000≤x.a∧x.a≤9000000000000000000)(hxl:∀n∈x.l,-9000000000000000000≤n∧n≤9000000000000000000):SCall Tryz.prog 272 [.ptr r 0,.agg (iv .any x),.ptr z 0] (eJ E0 r p z q t) (fun _ σ=>∃e,Nr r p z e∧σ=eJ E0 r p z e (fZ E0.res x t)):=by
 have hN0:=hN;obtain⟨n1,n2,n3,n4,n5,n6⟩:=hN;have hxll:=hx.ll;have htl1:=iS t [1];have hts1:=OV t [1] hsh;have htb1:(aV t [1]).lb.length≤1000000:=by rw[qC];exact hlb
 unfold iv;refine cC 102 [0,1,2,4,6,8,10,12,13,16,17,30,50,67,83,91] Tryz.func272 ?_;unfold eJ fR eX iF
 (try dsimp only[List.cons_append,List.nil_append]);refine dW ?_;apply bx;rfl;rfl;(exact dM);rfl;refine aD fun r4 h4=> ?_;repeat rcases h4 with⟨_,h4⟩
 refine EU ?_;refine fS ?_;refine pB ?_;refine aB rfl (fun g2=> ?_) (fun g2=> ?_)
 ·rw[show fZ E0.res x t=pL (aV (dA t x.a).2 (dA t x.a).1)from if_pos g2];have hk:=lM t x.a;have hw:=zC hsh x.a;refine qW ?_;refine cw (fR E0 r p t) Tryz.call301 (vO hN0.pr t hlb x.a ha) rfl aC dH ?_;rintro _ σ' ⟨b,rfl,rfl⟩ h23
  (try unfold eJ);(try unfold fR);(try unfold eX);(try unfold iF);(try dsimp only[List.cons_append,List.nil_append]);refine pU ?_;refine kJ ?_;rw[←hk.1,←hk.2.1];generalize(dA t x.a).1=w at hw⊢;have hul:(dA t x.a).2.l.length≤900000:=by rw[hk.1];exact hl
  generalize(dA t x.a).2=u at hul hk⊢;refine FD ?_;refine cw (eJ E0 r p z q u) Tryz.call202 (eY hN0 u (by omega) w (by omega)) rfl aC dH ?_;rintro _ σ' rfl h29
  (try unfold eJ);(try unfold fR);(try unfold eX);(try unfold iF);(try dsimp only[List.cons_append,List.nil_append]);refine dQ ?_;generalize aV u w=T;refine gK ?_;refine cw (eX z q T) Tryz.call302 (zA hN0.qz T) rfl aC dH ?_;rintro _ σ' ⟨e,he,rfl⟩ h101
  (try unfold eJ);(try unfold fR);(try unfold eX);(try unfold iF);(try dsimp only[List.cons_append,List.nil_append]);have k101:=cM (h101 _ (List.mem_cons_of_mem _ List.mem_cons_self));unfold eX at k101;simp(disch:=(first|(simp only[List.mem_cons,List.not_mem_nil,true_or,or_true,or_false];done)|(focus (simp only[List.mem_cons,List.not_mem_nil,or_false,not_or];(repeat' (first|apply And.intro|(exact cF)));done))|omega)) only[List.map_cons,List.map_nil,cJ,cX,dO,cY,aM,aQ,and_true]at k101;repeat rcases k101 with⟨_,k101⟩
  have hL:Nr r p z e:=⟨hN0.pr,hN0.zr,hN0.zp,by(exact cF),by(exact cF),by(exact cF)⟩
  refine dQ ?_;refine bR ?_;apply aF;exact aG
  ·exact⟨_,hL,rfl⟩
  ·exact aA
 refine dE ?_;refine aB rfl (fun g5=> ?_) (fun g5=> ?_)
 ·rw[show fZ E0.res x t=gY (aV (dA (aV t [1]) x.a).2 (dA (aV t [1]) x.a).1) (dA (aV t [1]) x.a).1 by unfold fZ;simp only[g2,g5,if_true,if_false,Bool.false_eq_true]];refine cL ?_;refine z1 ?_;refine aD fun r34 h34=> ?_;repeat rcases h34 with⟨_,h34⟩
  refine jB (j:=34) rfl bP (aR bH (by simp)) ?_;refine cw (eJ E0 r p z q t) Tryz.call202 (eY hN0 t (by omega) [1] (by simp)) rfl aC dH ?_;rintro _ σ' rfl h35
  (try unfold eJ);(try unfold fR);(try unfold eX);(try unfold iF);(try dsimp only[List.cons_append,List.nil_append]);refine dQ ?_;generalize aV t [1]=t1 at htl1 hts1 htb1⊢;have hk:=lM t1 x.a;have hw:=zC hts1 x.a;refine kL ?_;refine cw (fR E0 r p t1) Tryz.call301 (vO hN0.pr t1 htb1 x.a ha) rfl aC dH ?_;rintro _ σ' ⟨b,rfl,rfl⟩ h40
  (try unfold eJ);(try unfold fR);(try unfold eX);(try unfold iF);(try dsimp only[List.cons_append,List.nil_append]);refine pU ?_;refine kJ ?_;rw[←hk.1,←hk.2.1];generalize(dA t1 x.a).1=w at hw⊢;have hul:(dA t1 x.a).2.l.length≤900000:=by rw[hk.1];omega
  generalize(dA t1 x.a).2=u at hul hk⊢;refine FD ?_;refine cw (eJ E0 r p z q u) Tryz.call202 (eY hN0 u (by omega) w (by omega)) rfl aC dH ?_;rintro _ σ' rfl h46
  (try unfold eJ);(try unfold fR);(try unfold eX);(try unfold iF);(try dsimp only[List.cons_append,List.nil_append]);refine dQ ?_;have htl2:=iS u w;generalize aV u w=T at htl2⊢;refine mK ?_;refine cw (eX z q T) Tryz.call275 (jD hN0.qz T (by omega) w hw) rfl aC dH ?_;rintro _ σ' ⟨e,he,rfl⟩ h49
  (try unfold eJ);(try unfold fR);(try unfold eX);(try unfold iF);(try dsimp only[List.cons_append,List.nil_append]);have k49:=cM (h49 _ (List.mem_cons_of_mem _ List.mem_cons_self));unfold eX at k49;simp(disch:=(first|(simp only[List.mem_cons,List.not_mem_nil,true_or,or_true,or_false];done)|(focus (simp only[List.mem_cons,List.not_mem_nil,or_false,not_or];(repeat' (first|apply And.intro|(exact cF)));done))|omega)) only[List.map_cons,List.map_nil,cJ,cX,dO,cY,aM,aQ,and_true]at k49;repeat rcases k49 with⟨_,k49⟩
  have hL:Nr r p z e:=⟨hN0.pr,hN0.zr,hN0.zp,by(exact cF),by(exact cF),by(exact cF)⟩
  refine dQ ?_;apply aF;exact aG
  ·exact⟨_,hL,rfl⟩
  ·exact aA
 refine dE ?_;refine aB rfl (fun g10=> ?_) (fun g10=> ?_)
 ·rw[show fZ E0.res x t=pL (aV (x.l.foldl (nP (dA (aV t [1]) x.a).1) (dA (aV t [1]) x.a).2) (dA (aV t [1]) x.a).1) by unfold fZ;simp only[g2,g5,g10,if_true,if_false,Bool.false_eq_true]];refine cL ?_;refine z1 ?_;refine aD fun r54 h54=> ?_;repeat rcases h54 with⟨_,h54⟩
  refine jB (j:=54) rfl bP (aR bH (by simp)) ?_;refine cw (eJ E0 r p z q t) Tryz.call202 (eY hN0 t (by omega) [1] (by simp)) rfl aC dH ?_;rintro _ σ' rfl h55
  (try unfold eJ);(try unfold fR);(try unfold eX);(try unfold iF);(try dsimp only[List.cons_append,List.nil_append]);refine dQ ?_;generalize aV t [1]=t1 at htl1 hts1 htb1⊢;have hk:=lM t1 x.a;have hw:=zC hts1 x.a;refine kL ?_;refine cw (fR E0 r p t1) Tryz.call301 (vO hN0.pr t1 htb1 x.a ha) rfl aC dH ?_;rintro _ σ' ⟨b,rfl,rfl⟩ h60
  (try unfold eJ);(try unfold fR);(try unfold eX);(try unfold iF);(try dsimp only[List.cons_append,List.nil_append]);refine pU ?_;refine kJ ?_;rw[←hk.1,←hk.2.1];generalize(dA t1 x.a).1=w at hw⊢;have hul:(dA t1 x.a).2.l.length≤900000:=by rw[hk.1];omega
  have hub:(dA t1 x.a).2.lb.length≤1000000:=by rw[hk.2.2];exact htb1
  generalize(dA t1 x.a).2=u at hul hub hk⊢;refine rT ?_;refine lp (β:=Nat) (fun j=>⟨[(0,.ptr r 0),(2,.ptr z 0),(4,.ptr r4 0),(10,.ro 1 (w.map aX) .any),(12,.int .i64 j)],(r4,.box 46 [.int .i64 x.op,.int .i64 x.a,.int .i64 x.b,.ro 1 (x.l.map aX) .any])::eJ E0 r p z q ((x.l.take j).foldl (nP w) u)⟩) (fun j=>j≤x.l.length) (fun j=>x.l.length-j) 0 (by unfold eJ fR eX iF;(try dsimp only[List.cons_append,List.nil_append]);(exact aK)) (Nat.zero_le _) ?_;intro j hj
  (try dsimp only);have hS:=VQ w (x.l.take j) u;generalize hSe:(x.l.take j).foldl (nP w) u=S at hS⊢;unfold eJ fR eX iF
  (try dsimp only[List.cons_append,List.nil_append]);refine mC ?_;refine aB rfl (fun g14=> ?_) (fun g14=> ?_)
  ·obtain⟨n,hn⟩:∃n,x.l[j]? =some n:=⟨_,List.getElem?_eq_getElem (by simp at g14;omega)⟩
   have hlt:j<x.l.length:=(List.getElem?_eq_some_iff.1 hn).1;have hn0:=hxl n (List.mem_of_getElem? hn);have hnx:=VS (w:=w) (t:=u) hn;rw[hSe]at hnx;have hSb:S.lb.length≤1000000:=by rw[hS.2.2];exact hub
   have hv:=lM S n;refine qW ?_;refine nJ ?_;refine cw (fR E0 r p S) Tryz.call301 (vO hN0.pr S hSb n hn0) rfl aC dH ?_;rintro _ σ' ⟨b2,rfl,rfl⟩ h77
   (try unfold eJ);(try unfold fR);(try unfold eX);(try unfold iF);(try dsimp only[List.cons_append,List.nil_append]);refine pU ?_;refine kJ ?_;rw[←hv.1,←hv.2.1];refine mK ?_;refine oE Tryz.call47 (PP w (dA S n).1) rfl bG bK ?_;refine tU ?_;refine aB rfl (fun g17=> ?_) (fun g17=> ?_)
   ·have htab:nP w S n=eD (dA S n).2:=if_pos g17;refine tE ?_;refine gK ?_;refine AS ?_;refine⟨j+1,hlt,by show x.l.length-(j+1)<x.l.length-j;omega, ?_⟩
    (try dsimp only);rw[hnx,htab];exact aK
   have htab:nP w S n=(dA S n).2:=by unfold nP;exact if_neg (fun e=>by rw[g17]at e;cases e)
   refine oX ?_;refine⟨j+1,hlt,by show x.l.length-(j+1)<x.l.length-j;omega, ?_⟩
   (try dsimp only);rw[hnx,htab];exact aK
  obtain rfl:j=x.l.length:=by simp at g14;omega
  rw[List.take_length]at hSe;rw[hSe];have hSl:S.l.length≤900000:=by rw[hS.1];exact hul
  refine tD ?_;refine cw (eJ E0 r p z q S) Tryz.call202 (eY hN0 S (by omega) w (by omega)) rfl aC dH ?_;rintro _ σ' rfl h90
  (try unfold eJ);(try unfold fR);(try unfold eX);(try unfold iF);(try dsimp only[List.cons_append,List.nil_append]);refine dQ ?_;generalize aV S w=T;refine gK ?_;refine cw (eX z q T) Tryz.call302 (zA hN0.qz T) rfl aC dH ?_;rintro _ σ' ⟨e,he,rfl⟩ h101
  (try unfold eJ);(try unfold fR);(try unfold eX);(try unfold iF);(try dsimp only[List.cons_append,List.nil_append]);have k101:=cM (h101 _ (List.mem_cons_of_mem _ List.mem_cons_self));unfold eX at k101;simp(disch:=(first|(simp only[List.mem_cons,List.not_mem_nil,true_or,or_true,or_false];done)|(focus (simp only[List.mem_cons,List.not_mem_nil,or_false,not_or];(repeat' (first|apply And.intro|(exact cF)));done))|omega)) only[List.map_cons,List.map_nil,cJ,cX,dO,cY,aM,aQ,and_true]at k101;repeat rcases k101 with⟨_,k101⟩
  have hL:Nr r p z e:=⟨hN0.pr,hN0.zr,hN0.zp,by(exact cF),by(exact cF),by(exact cF)⟩
  refine dQ ?_;refine bR ?_;apply aF;exact aG
  ·exact⟨_,hL,rfl⟩
  ·exact aA
 refine dE ?_;refine aB rfl (fun g20=> ?_) (fun g20=> ?_)
 ·rw[show fZ E0.res x t=pL (aV t E0.res) by unfold fZ;simp only[g2,g5,g10,g20,if_true,if_false,Bool.false_eq_true]];refine tD ?_;refine nT ?_;refine cw (eJ E0 r p z q t) Tryz.call202 (eY hN0 t (by omega) E0.res (by omega)) rfl aC dH ?_;rintro _ σ' rfl h99
  (try unfold eJ);(try unfold fR);(try unfold eX);(try unfold iF);(try dsimp only[List.cons_append,List.nil_append]);refine dQ ?_;generalize aV t E0.res=T;refine gK ?_;refine cw (eX z q T) Tryz.call302 (zA hN0.qz T) rfl aC dH ?_;rintro _ σ' ⟨e,he,rfl⟩ h101
  (try unfold eJ);(try unfold fR);(try unfold eX);(try unfold iF);(try dsimp only[List.cons_append,List.nil_append]);have k101:=cM (h101 _ (List.mem_cons_of_mem _ List.mem_cons_self));unfold eX at k101;simp(disch:=(first|(simp only[List.mem_cons,List.not_mem_nil,true_or,or_true,or_false];done)|(focus (simp only[List.mem_cons,List.not_mem_nil,or_false,not_or];(repeat' (first|apply And.intro|(exact cF)));done))|omega)) only[List.map_cons,List.map_nil,cJ,cX,dO,cY,aM,aQ,and_true]at k101;repeat rcases k101 with⟨_,k101⟩
  have hL:Nr r p z e:=⟨hN0.pr,hN0.zr,hN0.zp,by(exact cF),by(exact cF),by(exact cF)⟩
  refine dQ ?_;refine bR ?_;apply aF;exact aG
  ·exact⟨_,hL,rfl⟩
  ·exact aA
 rw[show fZ E0.res x t=pL t by unfold fZ;simp only[g2,g5,g10,g20,if_true,if_false,Bool.false_eq_true]];obtain⟨T,hT⟩:∃T:RT,T=t:=⟨_,rfl⟩
 rw[←hT];refine dX ?_;refine cw (eX z q T) Tryz.call302 (zA hN0.qz T) rfl aC dH ?_;rintro _ σ' ⟨e,he,rfl⟩ h101
 (try unfold eJ);(try unfold fR);(try unfold eX);(try unfold iF);(try dsimp only[List.cons_append,List.nil_append]);have k101:=cM (h101 _ (List.mem_cons_of_mem _ List.mem_cons_self));unfold eX at k101;simp(disch:=(first|(simp only[List.mem_cons,List.not_mem_nil,true_or,or_true,or_false];done)|(focus (simp only[List.mem_cons,List.not_mem_nil,or_false,not_or];(repeat' (first|apply And.intro|(exact cF)));done))|omega)) only[List.map_cons,List.map_nil,cJ,cX,dO,cY,aM,aQ,and_true]at k101;repeat rcases k101 with⟨_,k101⟩
 have hL:Nr r p z e:=⟨hN0.pr,hN0.zr,hN0.zp,by(exact cF),by(exact cF),by(exact cF)⟩
 refine dQ ?_;refine bR ?_;apply aF;exact aG
 ·exact⟨_,hL,rfl⟩
 ·exact aA
end
end Go.Proofs.YtjpdadobblffmaaGreat
namespace Go.Proofs.YtjpdadobblffmaaGreat
open Go.RowKit Go.ChangeShapes Go.WideShapes Go.ChangeAt Go.Deep
theorem ID{P:Program}{n d:Nat}{fr:Fr}{σ:dY}{K:ASt→Prop}{op:Op}{ty:TypeId}{v:AV}{rs:List Nat}(h:Lop P op ty ⟨fr,σ⟩ true v rs)(hd:Nat.ble (d+1) n=true)(hK:K ⟨(d,v)::fr,σ⟩):Hop P n op ty (some d) ⟨fr,σ⟩ [] K:=SB h (dF hd) hK
structure Env.Ok (E0:Env):Prop where
 m:E0.m.Ck
 res:E0.res.length≤1000
 bl:E0.bd.length≤400
 bd:∀x∈E0.bd,x.Ck∧(0≤x.a∨LI x.op=false∧x.op≠16∧x.op≠17)∧(LI x.op=true→(-9000000000000000000≤x.a∧x.a≤9000000000000000000)∧∀n∈x.l,-9000000000000000000≤n∧n≤9000000000000000000)
def LE (E0:Env):RT→RT:=LR E0.m E0.ls E0.res E0.bd
structure In (E0:Env) (t:RT):Prop where
 a:t.a≤E0.bd.length
 lb:t.lb.length≤t.a
 sh:Sh t
structure Wi (E0:Env) (t:RT):Prop where
 a:t.a≤E0.bd.length
 lb:t.lb.length≤t.a+1
 sh:Sh t
 l:t.l.length≤1001*t.a
def aC7 (E0:Env) (n:Nat):Prop:=∀(r p:Nat) (t:RT) (res br:List Int),Nq p r→In E0 t→E0.bd.length-t.a≤n→res.length≤1000→br.length≤1000→
 SCall Tryz.prog 80 [.ptr r 0,.ro 1 (res.map aX) .any,.ro 1 (br.map aX) .any] (fR E0 r p t) (fun _ σ=>∃e,Nq e r∧σ=fR E0 r e (dP (LE E0) res br t))
def aH4 (E0:Env) (n:Nat):Prop:=∀(r p z q:Nat) (t:RT) (x:Ins),Nr r p z q→Wi E0 t→E0.bd[t.a]? =some x→E0.bd.length-t.a≤n→
 SCall Tryz.prog 201 [.ptr r 0,.agg (iv .any x),.ptr z 0] (eJ E0 r p z q t) (fun _ σ=>∃e f,Nr r e z f∧σ=eJ E0 r e z f (fB E0.m E0.ls E0.res E0.bd (LE E0) x t))
def Kpt (bd:List Ins) (t q:RT):Prop:=(t.a≤bd.length→q.a≤bd.length)∧q.lb=t.lb
section
variable {bd : List Ins} {t q s : RT}
theorem Kpt.refl:Kpt bd t t:=⟨id,rfl⟩
theorem Kpt.trans (h:Kpt bd t q)(h':Kpt bd q s):Kpt bd t s:=⟨fun e=>h'.1 (h.1 e),h'.2.trans h.2⟩
theorem Kpt.take (h:Kpt bd t q)(ks:List Int):Kpt bd t (aV q ks):=⟨fun e=>by rw[xA];exact h.1 e,(qC q ks).trans h.2⟩
theorem Kpt.one (h:Kpt bd t q)(k:Int):Kpt bd t (jH q k).2:=⟨fun e=>by rw[TJ];exact h.1 e,(aAx q k).trans h.2⟩
theorem Kpt.put (h:Kpt bd t q)(ks:List Int):Kpt bd t (gY q ks):=h
theorem Kpt.ends (h:Kpt bd t q):Kpt bd t (pL q):=h
theorem Kpt.bad (h:Kpt bd t q):Kpt bd t (eD q):=h
theorem Kpt.label (h:Kpt bd t q)(n:Int):Kpt bd t (dA q n).2:=⟨fun e=>by rw[KM];exact h.1 e,(lM q n).2.2.trans h.2⟩
theorem Kpt.tabs (h:Kpt bd t q)(w l:List Int):Kpt bd t (l.foldl (nP w) q):=by
 induction l generalizing q with
 |nil=>exact h
 |cons a l ih=>exact ih (aJ (p:=Kpt bd t) (fun _=>(h.label a).bad) (fun _=>h.label a))
theorem Kpt.pass (h:Kpt bd t q)(op:Int):Kpt bd t (eO bd q op).2:=by
 unfold eO;refine aJ (p:=fun r:Bool×RT=>Kpt bd t r.2) (fun e=>⟨fun _=> ?_,h.2⟩) (fun _=>h);show q.a+1≤bd.length;rcases Nat.lt_or_ge q.a bd.length with hlt|hge
 ·exact hlt
 ·rw[decide_eq_false (by omega)]at e;simp at e
theorem EG{lp:RT→RT}(hl:∀q,Kpt bd q (lp q))(res br:List Int)(t:RT):Kpt bd t (dP lp res br t):=by
 have h:=(hl ⟨t.a,t.lb++ [br],t.bad,[],false⟩).take res;refine⟨h.1, ?_⟩;show(aV _ res).lb.dropLast=t.lb;rw[h.2];simp
theorem VT(res:List Int)(x:Ins)(t:RT):Kpt bd t (fZ res x t):=by
 have h:=(Kpt.refl (bd:=bd) (t:=t))
 unfold fZ;refine aJ (fun _=>((h.label _).take _).ends) (fun _=> ?_);refine aJ (fun _=>(((h.take _).label _).take _).put _) (fun _=> ?_);refine aJ (fun _=>((((h.take _).label _).tabs _ _).take _).ends) (fun _=> ?_);exact aJ (fun _=>(h.take _).ends) (fun _=>h.ends)
theorem aC8(m:Md)(x:Ins)(t:RT):Kpt bd t (pN m x t):=by
 have h:=(Kpt.refl (bd:=bd) (t:=t))
 unfold pN;refine aJ (fun _=>aJ (p:=Kpt bd t) (fun _=>h.bad) (fun _=>(h.take _).put _)) (fun _=> ?_);exact aJ (fun _=>h.bad) (fun _=>((h.take _).take _).put _)
theorem RC{t q:RT}(h:Kpt bd t q)(x:Ins)(c k:Int):Kpt bd t (sH x c k q):=by
 have ha:Kpt bd t (if decide (c<x.a)=true then eD q else q):=aJ (fun _=>h.bad) (fun _=>h);exact aJ (fun _=>ha.take _) (fun _=>(ha.take _).put _)
theorem aF3(m:Md)(x:Ins)(t:RT):Kpt bd t (AZ m x t):=by
 have h:Kpt bd t (if(!m.me.has)=true then eD t else t):=aJ (fun _=>(Kpt.refl (bd:=bd) (t:=t)).bad) (fun _=>(Kpt.refl (bd:=bd) (t:=t)));unfold AZ;generalize(if(!m.me.has)=true then eD t else t)=q at h;unfold yT;refine aJ (fun _=>RC h x _ _) (fun _=> ?_);refine aJ (fun _=>RC h x _ _) (fun _=> ?_);refine aJ (fun _=>h.put _) (fun _=> ?_);exact aJ (fun _=>(h.take _).put _) (fun _=>RC h x _ _)
theorem VU(m:Md)(ls:List Int)(x:Ins)(t:RT):Kpt bd t (gN m ls x t):=by
 have h:=(Kpt.refl (bd:=bd) (t:=t))
 unfold gN;refine aJ (fun _=>h.put _) (fun _=> ?_);refine aJ (fun _=>h.put _) (fun _=> ?_);refine aJ (fun _=>aJ (fun _=>h.bad) (fun _=> ?_)) (fun _=> ?_)
 ·have hq:Kpt bd t (if(x.op !=32)=true then aV t [ls.getD x.a.toNat 0]else t):=aJ (fun _=>h.take _) (fun _=>h);exact aJ (fun _=>hq.put _) (fun _=>hq)
 refine aJ (fun _=>aJ (fun _=>h.bad) (fun _=>aJ (fun _=>h.put _) (fun _=>h.take _))) (fun _=>aF3 m x t)
theorem aC9(m:Md)(ls res:List Int)(x:Ins)(t:RT):Kpt bd t (gS m ls res x t):=by
 have h:=(Kpt.refl (bd:=bd) (t:=t))
 unfold gS;refine aJ (fun _=>VT _ _ _) (fun _=> ?_);refine aJ (fun _=>aC8 _ _ _) (fun _=> ?_);refine aJ (fun _=>h.one 0) (fun _=> ?_);refine aJ (fun _=>(((h.take _).one _).one _).put _) (fun _=> ?_);refine aJ (fun _=>h) (fun _=> ?_);exact aJ (fun _=>(h.take _).put _) (fun _=>VU _ _ _ _)
theorem aDa{lp:RT→RT}(hl:∀q,Kpt bd q (lp q))(x:Ins)(t:RT):Kpt bd t (rL lp bd x t):=by
 rw[BV];have h1:Kpt bd t (if(x.op==4)=true then aV t [1]else t):=aJ (fun _=>Kpt.refl.take _) (fun _=>Kpt.refl);have h2:=h1.trans (EG hl (bB x.a) (TK x) _);have h3:∀q,Kpt bd t q→Kpt bd t (mQ lp bd x q):=fun q h=>aJ (fun _=>aJ (fun _=>(h.pass 5).trans (EG hl _ _ _)) (fun _=>aJ (fun _=>(h.pass 5).bad) (fun _=>h.pass 5))) (fun _=>h)
 have h4:∀q,Kpt bd t q→Kpt bd t (BA bd x q):=fun q h=>Kpt.put (aJ (fun _=>(h.pass 11).bad) (fun _=>h.pass 11)) _
 exact h4 _ (h3 _ h2)
theorem OW(m:Md)(ls res:List Int){lp:RT→RT}(hl:∀q,Kpt bd q (lp q))(x:Ins)(t:RT)(ha:t.a<bd.length):(fB m ls res bd lp x t).a≤bd.length∧(fB m ls res bd lp x t).lb=t.lb:=by
 unfold fB;refine aJ (p:=fun r:RT=>r.a≤bd.length∧r.lb=t.lb) (fun _=> ?_) (fun _=> ?_)
 ·obtain⟨h1,h2⟩:=aDa hl x ⟨t.a+1,t.lb,t.bad,t.l,t.dd⟩;exact⟨h1 ha,h2⟩
 ·obtain⟨h1,h2⟩:=aC9 (bd:=bd) m ls res x ⟨t.a+1,t.lb,t.bad,t.l,t.dd⟩;exact⟨h1 ha,h2⟩
theorem KQ(m:Md)(ls res:List Int):∀(f:Nat) (t:RT),Kpt bd t (lT m ls res bd f t)
 |0,t=>Kpt.refl
 |f+1,t=>by
  rw[lT];refine aJ (fun e=> ?_) (fun _=>Kpt.refl);refine aJ (p:=Kpt bd t) (fun _=>Kpt.refl) (fun _=> ?_);have ha:t.a<bd.length:=by
   rcases Nat.lt_or_ge t.a bd.length with h|h
   ·exact h
   ·rw[decide_eq_false (by omega)]at e;simp at e
  obtain⟨h1,h2⟩:=OW m ls res (KQ m ls res f) (bd.getD t.a ⟨0,0,0,[]⟩) t ha;obtain⟨k1,k2⟩:=KQ m ls res f (fB m ls res bd (lT m ls res bd f) (bd.getD t.a ⟨0,0,0,[]⟩) t);exact⟨fun _=>k1 h1,k2.trans h2⟩
end
theorem aD2(E0:Env)(t:RT):Kpt E0.bd t (LE E0 t):=KQ _ _ _ _ t
def Ln (l n:Nat) (q:RT):Prop:=q.l.length≤l+n
theorem Ln.take {l n:Nat}{q:RT}(h:Ln l n q)(ks:List Int):Ln l n (aV q ks):=Nat.le_trans (iS q ks) h
theorem Ln.one {l n:Nat}{q:RT}(h:Ln l n q)(k:Int):Ln l n (jH q k).2:=Nat.le_trans (zB q k) h
theorem Ln.bad {l n:Nat}{q:RT}(h:Ln l n q):Ln l n (eD q):=h
theorem Ln.ends {l n:Nat}{q:RT}:Ln l n (pL q):=Nat.zero_le _
theorem Ln.label {l n:Nat}{q:RT}(h:Ln l n q)(k:Int):Ln l n (dA q k).2:=by unfold Ln;rw[(lM q k).1];exact h
theorem Ln.put {l n:Nat}{q:RT}(h:Ln l n q)(ks:List Int)(m:Nat)(hm:n+ks.length≤m):Ln l m (gY q ks):=by
 unfold Ln at h⊢;show(q.l++ks).length≤ _;rw[List.length_append];omega
theorem Ln.up {l n m:Nat}{q:RT}(h:Ln l n q)(hm:n≤m):Ln l m q:=by unfold Ln at h⊢;omega
theorem Ln.refl (t:RT):Ln t.l.length 0 t:=Nat.le_refl _
theorem VV{t:RT}(hsh:Sh t)(res:List Int)(x:Ins):Ln t.l.length 1000 (fZ res x t):=by
 have h:=Ln.refl t;unfold fZ;refine aJ (fun _=>Ln.ends) (fun _=> ?_);refine aJ (fun _=>(((h.take _).label _).take _).put _ 1000 (by have:=zC (OV t [1] hsh) x.a;omega)) (fun _=> ?_);refine aJ (fun _=>Ln.ends) (fun _=> ?_);exact aJ (fun _=>Ln.ends) (fun _=>Ln.ends)
theorem aDb{m:Md}(hT:m.TS)(x:Ins)(t:RT)(ha:0≤x.a):Ln t.l.length 1000 (pN m x t):=by
 have h:=Ln.refl t;have h1:=(EF hT ha).2;have h2:(m.ty.getD x.a.toNat rG).rs.length≤100:=by
  rw[List.getD_eq_getElem?_getD];cases hg:m.ty[x.a.toNat]? with
  |none=>simp[rG]
  |some y=>exact(hT y (List.mem_of_getElem? hg)).2
 unfold pN;refine aJ (fun _=>aJ (p:=Ln t.l.length 1000) (fun _=>h.bad.up (by omega)) (fun _=>(h.take _).put _ 1000 (by omega))) (fun _=> ?_);exact aJ (fun _=>h.bad.up (by omega)) (fun _=>((h.take _).take _).put _ 1000 (by omega))
theorem aF4(m:Md)(x:Ins)(t:RT):Ln t.l.length 1000 (AZ m x t):=by
 have h:Ln t.l.length 0 (if(!m.me.has)=true then eD t else t):=aJ (fun _=>(Ln.refl t).bad) (fun _=>Ln.refl t);unfold AZ;generalize(if(!m.me.has)=true then eD t else t)=q at h;have hb:∀c k:Int,Ln t.l.length 1000 (sH x c k q):=fun c k=>by
  have ha:Ln t.l.length 0 (if decide (c<x.a)=true then eD q else q):=aJ (fun _=>h.bad) (fun _=>h);exact aJ (fun _=>(ha.take _).up (by omega)) (fun _=>(ha.take _).put _ 1000 (by simp))
 unfold yT;refine aJ (fun _=>hb _ _) (fun _=> ?_);refine aJ (fun _=>hb _ _) (fun _=> ?_);refine aJ (fun _=>h.put _ 1000 (by simp)) (fun _=> ?_);exact aJ (fun _=>(h.take _).put _ 1000 (by simp)) (fun _=>hb _ _)
theorem VW(m:Md)(ls:List Int)(x:Ins)(t:RT):Ln t.l.length 1000 (gN m ls x t):=by
 have h:=Ln.refl t;unfold gN;refine aJ (fun _=>h.put _ 1000 (by simp)) (fun _=> ?_);refine aJ (fun _=>h.put _ 1000 (by simp)) (fun _=> ?_);refine aJ (fun _=>aJ (fun _=>h.bad.up (by omega)) (fun _=> ?_)) (fun _=> ?_)
 ·have hq:Ln t.l.length 0 (if(x.op !=32)=true then aV t [ls.getD x.a.toNat 0]else t):=aJ (fun _=>h.take _) (fun _=>h);exact aJ (fun _=>hq.put _ 1000 (by simp)) (fun _=>hq.up (by omega))
 refine aJ (fun _=>aJ (fun _=>h.bad.up (by omega)) (fun _=>aJ (fun _=>h.put _ 1000 (by simp)) (fun _=>(h.take _).up (by omega)))) (fun _=>aF4 m x t)
theorem aDc{m:Md}(hT:m.TS)(ls res:List Int)(x:Ins)(t:RT)(hsh:Sh t)(ha:(x.op==16||x.op==17)=true→0≤x.a):Ln t.l.length 1000 (gS m ls res x t):=by
 have h:=Ln.refl t;unfold gS;refine aJ (fun _=>VV hsh _ _) (fun _=> ?_);refine aJ (fun e=>aDb hT _ _ (ha e)) (fun _=> ?_);refine aJ (fun _=>(h.one 0).up (by omega)) (fun _=> ?_);refine aJ (fun _=>(((h.take _).one _).one _).put _ 1000 (by simp)) (fun _=> ?_);refine aJ (fun _=>h.up (by omega)) (fun _=> ?_);exact aJ (fun _=>(h.take _).put _ 1000 (by simp)) (fun _=>VW _ _ _ _)
theorem aDd(lp:RT→RT)(bd:List Ins)(x:Ins)(t:RT):Ln t.l.length 1000 (rL lp bd x t):=by
 rw[BV];have h1:Ln t.l.length 0 (if(x.op==4)=true then aV t [1]else t):=aJ (fun _=>(Ln.refl t).take _) (fun _=>Ln.refl t);have hb:∀(q:RT) (a b:List Int),Ln t.l.length 0 q→Ln t.l.length 0 (dP lp a b q):=fun q a b h=>h
 have hp:∀(q:RT) (o:Int),Ln t.l.length 0 q→Ln t.l.length 0 (eO bd q o).2:=fun q o h=>by
  unfold eO;exact aJ (p:=fun r:Bool×RT=>Ln t.l.length 0 r.2) (fun _=>h) (fun _=>h)
 have h3:∀q,Ln t.l.length 0 q→Ln t.l.length 0 (mQ lp bd x q):=fun q h=>aJ (fun _=>aJ (fun _=>hb _ _ _ (hp _ _ h)) (fun _=>aJ (fun _=>(hp _ _ h).bad) (fun _=>hp _ _ h))) (fun _=>h)
 exact Ln.put (aJ (p:=Ln t.l.length 0) (fun _=>(hp _ _ (h3 _ (hb _ _ _ h1))).bad) (fun _=>hp _ _ (h3 _ (hb _ _ _ h1)))) _ 1000 (by have:=pG x.a;omega)
theorem aAN{E0:Env}(hE0:E0.Ok){t:RT}(h:Wi E0 t){x:Ins}(hx:E0.bd[t.a]? =some x):Wi E0 (fB E0.m E0.ls E0.res E0.bd (LE E0) x t)∧t.a<(fB E0.m E0.ls E0.res E0.bd (LE E0) x t).a∧(fB E0.m E0.ls E0.res E0.bd (LE E0) x t).lb=t.lb:=by
 have hlt:t.a<E0.bd.length:=(List.getElem?_eq_some_iff.1 hx).1;obtain⟨k1,k2⟩:=OW E0.m E0.ls E0.res (aD2 E0) x t hlt;have k3:=(vK E0.m E0.ls E0.res E0.bd (EA E0.m E0.ls E0.res E0.bd) x t).1;have k4:Ln t.l.length 1000 (fB E0.m E0.ls E0.res E0.bd (LE E0) x t):=by
  unfold fB;refine aJ (fun _=>aDd (LE E0) E0.bd x ⟨t.a+1,t.lb,t.bad,t.l,t.dd⟩) (fun _=> ?_);refine aDc hE0.m.ts E0.ls E0.res x ⟨t.a+1,t.lb,t.bad,t.l,t.dd⟩ h.sh fun e=> ?_
  rcases(hE0.bd x (List.mem_of_getElem? hx)).2.1 with h0|⟨-,h1,h2⟩
  ·exact h0
  ·simp only[Bool.or_eq_true,beq_iff_eq]at e;omega
 have k3':t.a+1≤(fB E0.m E0.ls E0.res E0.bd (LE E0) x t).a:=k3;refine⟨⟨k1,by rw[k2];have:=h.lb;omega,by unfold Sh;rw[k2];exact h.sh, ?_⟩,by omega,k2⟩;have:=h.l;unfold Ln at k4;omega
end Go.Proofs.YtjpdadobblffmaaGreat
namespace Go.Proofs.YtjpdadobblffmaaGreat
open Go.RowKit Go.ChangeShapes Go.WideShapes Go.ChangeAt Go.Deep
attribute [local irreducible] SW RS RD gJ fA
theorem KR(l:List (List Int))(b:List Int):(l++ [b]).length=l.length+1:=by simp
theorem KS(l:List (List Int))(b:List Int):(l++ [b]).map kM=l.map kM++ [kM b]:=by simp
theorem aDe{E0:Env}{T:RT}(h:(if decide ((T.a:Int)<E0.bd.length)=true then !T.bad else false)=false):LE E0 T=T:=by
 unfold LE;rw[OM,if_neg (fun e=>by rw[h]at e;cases e)]
theorem aF5{E0:Env}{T:RT}{x:Ins}(hx:E0.bd[T.a]? =some x)(h:(if(x.op==11)=true then true else(x.op==5))=true):LE E0 T=T:=by
 unfold LE;rw[OM,List.getD_eq_getElem?_getD,hx,Option.getD_some,if_pos h];exact aJ (p:=fun r:RT=>r=T) (fun _=>rfl) (fun _=>rfl)
theorem aDf{E0:Env}{T:RT}{x:Ins}(hc:(if decide ((T.a:Int)<E0.bd.length)=true then !T.bad else false)=true)(hx:E0.bd[T.a]? =some x)(h:(if(x.op==11)=true then true else(x.op==5))=false):LE E0 T=LE E0 (fB E0.m E0.ls E0.res E0.bd (LE E0) x T):=by
 unfold LE
 conv=>lhs;rw[OM]
 rw[if_pos hc,List.getD_eq_getElem?_getD,hx,Option.getD_some,if_neg (fun e=>by rw[h]at e;cases e)]
theorem IE{E0:Env}(hE0:E0.Ok)(n:Nat)(hI:aH4 E0 n):aC7 E0 n:=by
 intro r p t res br hpr hIn hn hres hbr;obtain⟨ha,hlb,hsh⟩:=hIn;have hbl:=hE0.bl;refine cC 94 [0,1,2,6,7,36,53,76] Tryz.func80 ?_;unfold fR iF
 (try dsimp only);refine cL ?_;refine GS ?_;refine z1 ?_;refine aD fun r14 h14=> ?_;repeat rcases h14 with⟨_,h14⟩
 refine jY ((t.lb++ [br]).map kM) (t.lb++ [br]).length ?_;refine bM fun r15 h15=> ?_;repeat rcases h15 with⟨_,h15⟩
 refine xO ?_;refine nS ?_;refine sS ?_;apply bx;rfl;rfl;(exact dM);rfl;refine aD fun r19 h19=> ?_;repeat rcases h19 with⟨_,h19⟩
 refine dG ?_;refine dZ (ks:=[0,1,2,6,7,36,53,76]) r19 0 3 1 (by decide) bH rfl (by decide) fun q0 hq0=> ?_
 simp only[aM,aQ,and_true]at hq0;repeat rcases hq0 with⟨_,hq0⟩
 apply Exists.intro;apply And.intro;(exact cZ);have hN0:Nr r r15 r19 q0:=⟨by(exact cF),by(exact cF),by(exact cF),by(exact cF),by(exact cF),by(exact cF)⟩
 have hW0:Wi E0 ⟨t.a,t.lb++ [br],t.bad,[],false⟩:=⟨ha,by simp;omega,fun l hl=>by rcases List.mem_append.1 hl with hl|hl;exact hsh l hl;obtain rfl:=List.mem_singleton.1 hl;exact hbr,by simp⟩
 refine lp (β:=Nat×Nat×RT) (fun b=>⟨[(0,.ptr r 0),(1,.ro 1 (res.map aX) .any),(6,.ptr r19 0)],eJ E0 r b.1 r19 b.2.1 b.2.2⟩) (fun b=>Nr r b.1 r19 b.2.1∧Wi E0 b.2.2∧LE E0 b.2.2=LE E0 ⟨t.a,t.lb++ [br],t.bad,[],false⟩∧b.2.2.lb=t.lb++ [br]∧t.a≤b.2.2.a) (fun b=>E0.bd.length-b.2.2.a) (r15,q0,⟨t.a,t.lb++ [br],t.bad,[],false⟩) (by unfold eJ fR eX iF;(try dsimp only[List.cons_append,List.nil_append]);(exact aK)) ⟨hN0,hW0,rfl,rfl,Nat.le_refl _⟩ ?_;rintro⟨p',q',T⟩ ⟨hN1,hW,hLE,hTl,hTa⟩;dsimp only at hN1 hW hLE hTl hTa⊢;obtain⟨m1,m2,m3,m4,m5,m6⟩:=id hN1;have hWa:=hW.a;have hWl:=hW.l;unfold eJ fR eX iF
 (try dsimp only[List.cons_append,List.nil_append]);refine aP ?_;refine gI [(0,true),(1,true),(2,true),(3,true),(4,true),(5,true),(6,true),(7,true),(8,true),(9,true),(10,true),(11,true),(12,true),(13,true),(14,true),(15,true),(16,true)] ?_;refine wL ?_;refine IQ ?_;refine z46 ?_;refine zI ?_;refine sq7 ?_;refine qH ?_;refine aIU ?_;refine TW ?_;refine kK ?_;refine aB rfl (fun g2=> ?_) (fun g2=> ?_)
 ·have hlt:T.a<E0.bd.length:=by
   rcases Nat.lt_or_ge T.a E0.bd.length with h|h
   ·exact h
   ·rw[decide_eq_false (by omega)]at g2;simp at g2
  obtain⟨x,hx⟩:∃x,E0.bd[T.a]? =some x:=⟨_,List.getElem?_eq_getElem hlt⟩
  refine aP ?_;refine gI [(0,true),(1,true),(2,true),(3,true),(4,true),(5,true),(6,true),(7,true),(8,true),(9,true),(10,true),(11,true)] ?_;refine wL ?_;refine RI ?_;refine PJ ?_;refine dX ?_;refine lo (dD (E rfl) (E rfl)) rfl ?_;refine jK ?_;refine wJ ?_;refine qJ ?_;refine aB rfl (fun g4=> ?_) (fun g4=> ?_)
  ·have hTe:=aF5 hx g4;refine tD ?_;refine cw (eJ E0 r p' r19 q' T) Tryz.call202 (eY hN1 T (by omega) res (by omega)) rfl aC dH ?_;rintro _ σ' rfl h70
   (try unfold eJ);(try unfold fR);(try unfold eX);(try unfold iF);(try dsimp only[List.cons_append,List.nil_append]);refine dQ ?_;have hB:dP (LE E0) res br t=⟨(aV T res).a,t.lb,if decide ((0:Int)<(aV T res).l.length)=true then true else(aV T res).bad,t.l,t.dd⟩:=by
    unfold dP;rw[←hLE,hTe];show(⟨_,(aV T res).lb.dropLast,_,_,_⟩:RT)=_;rw[qC,hTl,List.dropLast_concat]
   rw[hB];have h2l:(aV T res).lb=t.lb++ [br]:=(qC T res).trans hTl;generalize aV T res=T2 at h2l⊢;rw[h2l];refine oY ?_;refine sQ ?_;refine aB rfl (fun g7=> ?_) (fun g7=> ?_)
   ·rw[show(if decide ((0:Int)<T2.l.length)=true then true else T2.bad)=true from if_pos g7];refine tE ?_;rw[KR,KS];have hfin:Nq p' r:=m1;refine gI [(0,true),(1,true),(2,true),(3,true),(4,true),(5,true),(6,true),(7,true),(8,true),(9,true),(10,true),(11,true),(12,true),(13,true),(14,false)] ?_;refine CO ?_;refine rD ?_;refine WA ?_;refine WB ?_;refine rB ?_;refine kK ?_;rw[pI];refine yH (nB (o:=p') t.lb.length cZ) ?_;rw[show List.take t.lb.length (t.lb.map kM++ [kM br])=t.lb.map kM by rw[List.take_left' (by simp)]];refine bR ?_;apply aF;exact aG
    ·exact⟨_,hfin,rfl⟩
    ·exact aA
   rw[show(if decide ((0:Int)<T2.l.length)=true then true else T2.bad)=T2.bad from if_neg (fun e=>by rw[g7]at e;cases e)];refine aP ?_;rw[KR,KS];have hfin:Nq p' r:=m1;refine gI [(0,true),(1,true),(2,true),(3,true),(4,true),(5,true),(6,true),(7,true),(8,true),(9,true),(10,true),(11,true),(12,true),(13,true),(14,false)] ?_;refine CO ?_;refine rD ?_;refine WA ?_;refine WB ?_;refine rB ?_;refine kK ?_;rw[pI];refine yH (nB (o:=p') t.lb.length cZ) ?_;rw[show List.take t.lb.length (t.lb.map kM++ [kM br])=t.lb.map kM by rw[List.take_left' (by simp)]];refine bR ?_;apply aF;exact aG
   ·exact⟨_,hfin,rfl⟩
   ·exact aA
  have hnx:=aDf g2 hx g4;obtain⟨w1,w2,w3⟩:=aAN hE0 hW hx;refine aP ?_;refine gI [(0,true),(1,true),(2,true),(3,true),(5,true),(6,true),(7,true),(11,true),(13,false),(13,false),(13,false),(13,false),(13,false)] ?_;refine gD rfl (aI (E rfl)) rfl ?_;refine CI ?_;refine OX ?_;refine CI ?_;refine OX ?_;refine gD rfl (aI (E rfl)) rfl ?_;refine jR 4 8 [(8,false),(9,true),(10,true),(12,false)] [(4,false),(9,true),(10,true),(12,false)] (f1:=[]) (f2:=[]) (by kernel_rfl) rfl rfl ?_ ?_ (.inl rfl) (.inl rfl)
  ·first|refine ID (aN (E rfl) rfl bH (fun _=>rfl)) rfl ?_ |refine ID (aN (E rfl) rfl bH (fun _=>by assumption)) rfl ?_ |refine ID (aL (E rfl) rfl (fun hc=>by first|rfl|exact aE (by assumption)|assumption|exact aE (aO (by omega))) (fun _=>rfl)) rfl ?_
   first|refine dhl rfl (aN (E rfl) rfl bH (fun _=>rfl)) rfl ?_ |refine dhl rfl (aN (E rfl) rfl bH (fun _=>by assumption)) rfl ?_ |refine dhl rfl (aL (E rfl) rfl (fun hc=>by first|rfl|exact aE (by assumption)|assumption|exact aE (aO (by omega))) (fun _=>rfl)) rfl ?_
   refine MC ?_;refine zH ?_;refine qT (eJ E0 r p' r19 q' T) rfl Tryz.call201 (hI r p' r19 q' T x hN1 hW hx (by omega)) rfl aC dH aH3 ?_;rintro _ σ' ⟨e,f,hE,rfl⟩ h66
   (try unfold eJ);(try unfold fR);(try unfold eX);(try unfold iF);(try dsimp only[List.cons_append,List.nil_append]);obtain⟨e1,e2,e3,e4,e5,e6⟩:=id hE;apply bZ;(exact bF);refine kK ?_;refine⟨(e,f,fB E0.m E0.ls E0.res E0.bd (LE E0) x T),⟨hE,w1,by rw[←hnx];exact hLE,w3.trans hTl,by show t.a≤(fB E0.m E0.ls E0.res E0.bd (LE E0) x T).a;omega⟩,by show E0.bd.length-(fB E0.m E0.ls E0.res E0.bd (LE E0) x T).a<E0.bd.length-T.a;omega, ?_⟩
   (try dsimp only);exact aK
  ·first|refine ID (aN (E rfl) rfl bH (fun _=>rfl)) rfl ?_ |refine ID (aN (E rfl) rfl bH (fun _=>by assumption)) rfl ?_ |refine ID (aL (E rfl) rfl (fun hc=>by first|rfl|exact aE (by assumption)|assumption|exact aE (aO (by omega))) (fun _=>rfl)) rfl ?_
   first|refine dhl rfl (aN (E rfl) rfl bH (fun _=>rfl)) rfl ?_ |refine dhl rfl (aN (E rfl) rfl bH (fun _=>by assumption)) rfl ?_ |refine dhl rfl (aL (E rfl) rfl (fun hc=>by first|rfl|exact aE (by assumption)|assumption|exact aE (aO (by omega))) (fun _=>rfl)) rfl ?_
   refine MC ?_;refine zH ?_;refine qT (eJ E0 r p' r19 q' T) rfl Tryz.call201 (hI r p' r19 q' T x hN1 hW hx (by omega)) rfl aC dH aH3 ?_;rintro _ σ' ⟨e,f,hE,rfl⟩ h66
   (try unfold eJ);(try unfold fR);(try unfold eX);(try unfold iF);(try dsimp only[List.cons_append,List.nil_append]);obtain⟨e1,e2,e3,e4,e5,e6⟩:=id hE;apply bZ;(exact bF);refine kK ?_;refine⟨(e,f,fB E0.m E0.ls E0.res E0.bd (LE E0) x T),⟨hE,w1,by rw[←hnx];exact hLE,w3.trans hTl,by show t.a≤(fB E0.m E0.ls E0.res E0.bd (LE E0) x T).a;omega⟩,by show E0.bd.length-(fB E0.m E0.ls E0.res E0.bd (LE E0) x T).a<E0.bd.length-T.a;omega, ?_⟩
   (try dsimp only);exact aK
 have hTe:=aDe (E0:=E0) g2;refine tD ?_;refine cw (eJ E0 r p' r19 q' T) Tryz.call202 (eY hN1 T (by omega) res (by omega)) rfl aC dH ?_;rintro _ σ' rfl h70
 (try unfold eJ);(try unfold fR);(try unfold eX);(try unfold iF);(try dsimp only[List.cons_append,List.nil_append]);refine dQ ?_;have hB:dP (LE E0) res br t=⟨(aV T res).a,t.lb,if decide ((0:Int)<(aV T res).l.length)=true then true else(aV T res).bad,t.l,t.dd⟩:=by
  unfold dP;rw[←hLE,hTe];show(⟨_,(aV T res).lb.dropLast,_,_,_⟩:RT)=_;rw[qC,hTl,List.dropLast_concat]
 rw[hB];have h2l:(aV T res).lb=t.lb++ [br]:=(qC T res).trans hTl;generalize aV T res=T2 at h2l⊢;rw[h2l];refine oY ?_;refine sQ ?_;refine aB rfl (fun g7=> ?_) (fun g7=> ?_)
 ·rw[show(if decide ((0:Int)<T2.l.length)=true then true else T2.bad)=true from if_pos g7];refine tE ?_;rw[KR,KS];have hfin:Nq p' r:=m1;refine gI [(0,true),(1,true),(2,true),(3,true),(4,true),(5,true),(6,true),(7,true),(8,true),(9,true),(10,true),(11,true),(12,true),(13,true),(14,false)] ?_;refine CO ?_;refine rD ?_;refine WA ?_;refine WB ?_;refine rB ?_;refine kK ?_;rw[pI];refine yH (nB (o:=p') t.lb.length cZ) ?_;rw[show List.take t.lb.length (t.lb.map kM++ [kM br])=t.lb.map kM by rw[List.take_left' (by simp)]];refine bR ?_;apply aF;exact aG
  ·exact⟨_,hfin,rfl⟩
  ·exact aA
 rw[show(if decide ((0:Int)<T2.l.length)=true then true else T2.bad)=T2.bad from if_neg (fun e=>by rw[g7]at e;cases e)];refine aP ?_;rw[KR,KS];have hfin:Nq p' r:=m1;refine gI [(0,true),(1,true),(2,true),(3,true),(4,true),(5,true),(6,true),(7,true),(8,true),(9,true),(10,true),(11,true),(12,true),(13,true),(14,false)] ?_;refine CO ?_;refine rD ?_;refine WA ?_;refine WB ?_;refine rB ?_;refine kK ?_;rw[pI];refine yH (nB (o:=p') t.lb.length cZ) ?_;rw[show List.take t.lb.length (t.lb.map kM++ [kM br])=t.lb.map kM by rw[List.take_left' (by simp)]];refine bR ?_;apply aF;exact aG
 ·exact⟨_,hfin,rfl⟩
 ·exact aA
theorem zX(bd:List Ins)(t:RT)(op:Int):(eO bd t op).2.l=t.l∧(eO bd t op).2.dd=t.dd∧(eO bd t op).2.lb=t.lb:=by
 unfold eO;exact aJ (p:=fun r:Bool×RT=>r.2.l=t.l∧r.2.dd=t.dd∧r.2.lb=t.lb) (fun _=>⟨rfl,rfl,rfl⟩) (fun _=>⟨rfl,rfl,rfl⟩)
structure At (E0:Env) (a0 l0:Nat) (lb0:List (List Int)) (t:RT):Prop where
 a:t.a≤E0.bd.length
 ge:a0≤t.a
 lb:t.lb=lb0
 l:t.l.length≤l0
theorem At.take {E0:Env}{a0 l0:Nat}{lb0:List (List Int)}{t:RT}(h:At E0 a0 l0 lb0 t)(ks:List Int):At E0 a0 l0 lb0 (aV t ks):=⟨by rw[xA];exact h.a,by rw[xA];exact h.ge,(qC t ks).trans h.lb,Nat.le_trans (iS t ks) h.l⟩
theorem At.bad {E0:Env}{a0 l0:Nat}{lb0:List (List Int)}{t:RT}(h:At E0 a0 l0 lb0 t):At E0 a0 l0 lb0 (eD t):=⟨h.a,h.ge,h.lb,h.l⟩
theorem At.block {E0:Env}{a0 l0:Nat}{lb0:List (List Int)}{t:RT}(h:At E0 a0 l0 lb0 t)(res br:List Int):At E0 a0 l0 lb0 (dP (LE E0) res br t):=by
 obtain⟨h1,h2⟩:=EG (bd:=E0.bd) (aD2 E0) res br t;have h3:=(kT (EA E0.m E0.ls E0.res E0.bd) res br t).1;have h3':t.a+0≤(dP (LE E0) res br t).a:=h3;exact⟨h1 h.a,by have:=h.ge;omega,h2.trans h.lb,h.l⟩
theorem At.pass {E0:Env}{a0 l0:Nat}{lb0:List (List Int)}{t:RT}(h:At E0 a0 l0 lb0 t)(op:Int):At E0 a0 l0 lb0 (eO E0.bd t op).2:=by
 obtain⟨k1,k2,k3⟩:=zX E0.bd t op;have h1:=(Kpt.refl (bd:=E0.bd) (t:=t)).pass op;have h2:=(rN E0.bd t op).1;exact⟨h1.1 h.a,by have:=h.ge;omega,k3.trans h.lb,by rw[k1];exact h.l⟩
theorem At.els {E0:Env}{a0 l0:Nat}{lb0:List (List Int)}{t:RT}(h:At E0 a0 l0 lb0 t)(x:Ins):At E0 a0 l0 lb0 (mQ (LE E0) E0.bd x t):=
 aJ (fun _=>aJ (fun _=>(h.pass 5).block _ _) (fun _=>aJ (fun _=>(h.pass 5).bad) (fun _=>h.pass 5))) (fun _=>h)
theorem aAO{E0:Env}(hE0:E0.Ok)(n:Nat)(hB:aC7 E0 n){r p z q:Nat}(hN:Nr r p z q)(t:RT)(ha:t.a≤E0.bd.length)(hlb:t.lb.length≤t.a)(hsh:Sh t)(hl:t.l.length≤900000)(hn:E0.bd.length-t.a≤n)(x:Ins):
  SCall Tryz.prog 271 [.ptr r 0,.agg (iv .any x),.ptr z 0] (eJ E0 r p z q t) (fun _ σ=>∃e f,Nr r e z f∧σ=eJ E0 r e z f (rL (LE E0) E0.bd x t)):=by
 have hN0:=hN;obtain⟨n1,n2,n3,n4,n5,n6⟩:=hN;have hbl:=hE0.bl;have hll:=pG x.a;have hA0:At E0 t.a t.l.length t.lb t:=⟨ha,Nat.le_refl _,rfl,Nat.le_refl _⟩
 rw[BV];unfold iv;refine cC 51 [0,1,2,4,6,12,19,29,31,38,44] Tryz.func271 ?_;unfold eJ fR eX iF
 (try dsimp only[List.cons_append,List.nil_append]);refine dW ?_;apply bx;rfl;rfl;(exact dM);rfl;refine aD fun r4 h4=> ?_;repeat rcases h4 with⟨_,h4⟩
 refine EU ?_;refine fS ?_;refine cw [] Tryz.call299 (aF2 x.a) rfl aC aA ?_;rintro _ σ' ⟨rfl,rfl⟩ h9;refine eP ?_;have hA1:At E0 t.a t.l.length t.lb (if(x.op==4)=true then aV t [1]else t):=aJ (fun _=>hA0.take [1]) (fun _=>hA0);refine kZ ?_;refine qI ?_;refine TU (β:=Unit) (fun _=>⟨[(0,.ptr r 0),(2,.ptr z 0),(4,.ptr r4 0),(6,.ro 1 ((bB x.a).map aX) .any)],(r4,.box 46 [.int .i64 x.op,.int .i64 x.a,.int .i64 x.b,.ro 1 (x.l.map aX) .any])::eJ E0 r p z q (if(x.op==4)=true then aV t [1]else t)⟩) (fun _=>True) ?_ ?_
 ·refine aB rfl (fun g2=> ?_) (fun g2=> ?_)
  ·rw[if_pos (c:=(x.op==4)=true) g2];refine cL ?_;refine z1 ?_;refine aD fun r15 h15=> ?_;repeat rcases h15 with⟨_,h15⟩
   refine jB (j:=15) rfl bP (aR bH (by simp)) ?_;refine cw (eJ E0 r p z q t) Tryz.call202 (eY hN0 t (by omega) [1] (by simp)) rfl aC dH ?_;rintro _ σ' rfl h16
   (try unfold eJ);(try unfold fR);(try unfold eX);(try unfold iF);(try dsimp only[List.cons_append,List.nil_append]);refine dQ ?_;exact⟨(),trivial,aK⟩
  rw[if_neg (c:=(x.op==4)=true) (fun e=>by rw[g2]at e;cases e)];refine aP ?_;exact⟨(),trivial,aK⟩
 rintro⟨⟩-;generalize(if(x.op==4)=true then aV t [1]else t)=t1 at hA1⊢;unfold eJ fR eX iF
 (try dsimp only[List.cons_append,List.nil_append]);refine aP ?_;have hA2:=hA1.block (bB x.a) (TK x);have hIn:In E0 t1:=⟨hA1.a,by rw[hA1.lb];have:=hA1.ge;omega,by unfold Sh;rw[hA1.lb];exact hsh⟩
 have hn1:E0.bd.length-t1.a≤n:=by have:=hA1.ge;omega
 refine kZ ?_;refine qI ?_;refine TU (β:=Nat) (fun e=>⟨[(0,.ptr r 0),(2,.ptr z 0),(4,.ptr r4 0),(6,.ro 1 ((bB x.a).map aX) .any)],(r4,.box 46 [.int .i64 x.op,.int .i64 x.a,.int .i64 x.b,.ro 1 (x.l.map aX) .any])::eJ E0 r e z q (dP (LE E0) (bB x.a) (TK x) t1)⟩) (fun e=>Nr r e z q∧Nq e r4) ?_ ?_
 ·refine aB rfl (fun g4=> ?_) (fun g4=> ?_)
  ·have hb0:TK x=[]:=if_pos g4;rw[hb0];refine cL ?_;refine cw (fR E0 r p t1) Tryz.call80 (hB r p t1 (bB x.a) [] n1 hIn hn1 (by omega) (by simp)) rfl aC dH ?_;rintro _ σ' ⟨e,he,rfl⟩ h22
   (try unfold eJ);(try unfold fR);(try unfold eX);(try unfold iF);(try dsimp only[List.cons_append,List.nil_append]);have k22:=cM (h22 _ (List.mem_cons_of_mem _ List.mem_cons_self));unfold fR at k22;simp(disch:=(first|(simp only[List.mem_cons,List.not_mem_nil,true_or,or_true,or_false];done)|(focus (simp only[List.mem_cons,List.not_mem_nil,or_false,not_or];(repeat' (first|apply And.intro|(exact cF)));done))|omega)) only[List.map_cons,List.map_nil,cJ,cX,dO,cY,aM,aQ,and_true]at k22;repeat rcases k22 with⟨_,k22⟩
   refine dQ ?_;exact⟨e,⟨⟨he,n2,by(exact cF),n4,by(exact cF),n6⟩,by(exact cF)⟩,aK⟩
  have hb0:TK x=bB x.a:=if_neg (fun e=>by rw[g4]at e;cases e);rw[hb0];refine tD ?_;refine cw (fR E0 r p t1) Tryz.call80 (hB r p t1 (bB x.a) (bB x.a) n1 hIn hn1 (by omega) (by omega)) rfl aC dH ?_;rintro _ σ' ⟨e,he,rfl⟩ h26
  (try unfold eJ);(try unfold fR);(try unfold eX);(try unfold iF);(try dsimp only[List.cons_append,List.nil_append]);have k26:=cM (h26 _ (List.mem_cons_of_mem _ List.mem_cons_self));unfold fR at k26;simp(disch:=(first|(simp only[List.mem_cons,List.not_mem_nil,true_or,or_true,or_false];done)|(focus (simp only[List.mem_cons,List.not_mem_nil,or_false,not_or];(repeat' (first|apply And.intro|(exact cF)));done))|omega)) only[List.map_cons,List.map_nil,cJ,cX,dO,cY,aM,aQ,and_true]at k26;repeat rcases k26 with⟨_,k26⟩
  refine dQ ?_;exact⟨e,⟨⟨he,n2,by(exact cF),n4,by(exact cF),n6⟩,by(exact cF)⟩,aK⟩
 rintro p1 ⟨hN1,hp14⟩;generalize dP (LE E0) (bB x.a) (TK x) t1=T2 at hA2⊢;obtain⟨m1,m2,m3,m4,m5,m6⟩:=id hN1;unfold eJ fR eX iF
 (try dsimp only[List.cons_append,List.nil_append]);refine aP ?_;have hA3:=hA2.els x;have hAp:=hA2.pass 5;refine kZ ?_;refine qI ?_;refine TU (β:=Nat) (fun e=>⟨[(0,.ptr r 0),(2,.ptr z 0),(4,.ptr r4 0),(6,.ro 1 ((bB x.a).map aX) .any)],(r4,.box 46 [.int .i64 x.op,.int .i64 x.a,.int .i64 x.b,.ro 1 (x.l.map aX) .any])::eJ E0 r e z q (mQ (LE E0) E0.bd x T2)⟩) (fun e=>Nr r e z q∧Nq e r4) ?_ ?_
 ·refine aB rfl (fun g7=> ?_) (fun g7=> ?_)
  ·refine dX ?_;refine cw (fR E0 r p1 T2) Tryz.call300 (OU m1 T2 (by have:=hA2.a;omega) 5) rfl aC dH ?_;rintro _ σ' ⟨rfl,rfl⟩ h31
   (try unfold eJ);(try unfold fR);(try unfold eX);(try unfold iF);(try dsimp only[List.cons_append,List.nil_append]);refine dQ ?_;have hk:=zX E0.bd T2 5;rw[←hk.1,←hk.2.1];refine aB rfl (fun g8=> ?_) (fun g8=> ?_)
   ·rw[show mQ (LE E0) E0.bd x T2=dP (LE E0) (bB x.a) (bB x.a) (eO E0.bd T2 5).2 by unfold mQ;rw[if_pos g7,if_pos g8]];generalize(eO E0.bd T2 5).2=T4 at hAp⊢;refine tD ?_;refine cw (fR E0 r p1 T4) Tryz.call80 (hB r p1 T4 (bB x.a) (bB x.a) m1 ⟨hAp.a,by rw[hAp.lb];have:=hAp.ge;omega,by unfold Sh;rw[hAp.lb];exact hsh⟩ (by have:=hAp.ge;omega) (by omega) (by omega)) rfl aC dH ?_;rintro _ σ' ⟨e2,he2,rfl⟩ h35
    (try unfold eJ);(try unfold fR);(try unfold eX);(try unfold iF);(try dsimp only[List.cons_append,List.nil_append]);have k35:=cM (h35 _ (List.mem_cons_of_mem _ List.mem_cons_self));unfold fR at k35;simp(disch:=(first|(simp only[List.mem_cons,List.not_mem_nil,true_or,or_true,or_false];done)|(focus (simp only[List.mem_cons,List.not_mem_nil,or_false,not_or];(repeat' (first|apply And.intro|(exact cF)));done))|omega)) only[List.map_cons,List.map_nil,cJ,cX,dO,cY,aM,aQ,and_true]at k35;repeat rcases k35 with⟨_,k35⟩
    obtain⟨P,hP,rfl⟩:∃P,(Nr r P z q∧Nq P r4)∧P=e2:=⟨_,⟨⟨he2,m2,by(exact cF),m4,by(exact cF),m6⟩,by(exact cF)⟩,rfl⟩
    refine dQ ?_;exact⟨P,hP,aK⟩
   rw[show mQ (LE E0) E0.bd x T2=if decide ((0:Int)<(bB x.a).length)=true then eD (eO E0.bd T2 5).2 else(eO E0.bd T2 5).2 by unfold mQ;rw[if_pos g7,g8];rfl];generalize(eO E0.bd T2 5).2=T4 at hAp⊢;obtain⟨P,hP,rfl⟩:∃P,(Nr r P z q∧Nq P r4)∧P=p1:=⟨_,⟨hN1,hp14⟩,rfl⟩
   refine dX ?_;refine sQ ?_;refine aB rfl (fun g10=> ?_) (fun g10=> ?_)
   ·rw[if_pos (c:=decide ((0:Int)<(bB x.a).length)=true) g10];refine tE ?_;exact⟨P,hP,aK⟩
   rw[if_neg (c:=decide ((0:Int)<(bB x.a).length)=true) (fun e=>by rw[g10]at e;cases e)];refine aP ?_;exact⟨P,hP,aK⟩
  rw[show mQ (LE E0) E0.bd x T2=T2 from if_neg (fun e=>by rw[g7]at e;cases e)];refine aP ?_;exact⟨p1,⟨hN1,hp14⟩,aK⟩
 rintro p2 ⟨hN2,hp24⟩;generalize mQ (LE E0) E0.bd x T2=T3 at hA3⊢;obtain⟨u1,u2,u3,u4,u5,u6⟩:=id hN2;unfold eJ fR eX iF
 (try dsimp only[List.cons_append,List.nil_append]);refine dX ?_;refine cw (fR E0 r p2 T3) Tryz.call300 (OU u1 T3 (by have:=hA3.a;omega) 11) rfl aC dH ?_;rintro _ σ' ⟨rfl,rfl⟩ h43
 (try unfold eJ);(try unfold fR);(try unfold eX);(try unfold iF);(try dsimp only[List.cons_append,List.nil_append]);refine CQ ?_;have hk3:=zX E0.bd T3 11;rw[←hk3.1,←hk3.2.1];have hA4:=hA3.pass 11;have hTl:=hA4.l;have hen:BA E0.bd x T3=gY (if(!(eO E0.bd T3 11).1)=true then eD (eO E0.bd T3 11).2 else(eO E0.bd T3 11).2) (bB x.a):=rfl;rw[hen];refine aB rfl (fun g12=> ?_) (fun g12=> ?_)
 ·rw[if_pos (c:=(!(eO E0.bd T3 11).1)=true) g12];generalize(eO E0.bd T3 11).2=T5 at hTl⊢;refine tE ?_;refine mK ?_;refine cw (eX z q T5) Tryz.call275 (jD m6 T5 (by omega) (bB x.a) (by omega)) rfl aC dH ?_;rintro _ σ' ⟨f,hf,rfl⟩ h50
  (try unfold eJ);(try unfold fR);(try unfold eX);(try unfold iF);(try dsimp only[List.cons_append,List.nil_append]);have k50:=cM (h50 _ (List.mem_cons_of_mem _ List.mem_cons_self));unfold eX at k50;simp(disch:=(first|(simp only[List.mem_cons,List.not_mem_nil,true_or,or_true,or_false];done)|(focus (simp only[List.mem_cons,List.not_mem_nil,or_false,not_or];(repeat' (first|apply And.intro|(exact cF)));done))|omega)) only[List.map_cons,List.map_nil,cJ,cX,dO,cY,aM,aQ,and_true]at k50;repeat rcases k50 with⟨_,k50⟩
  apply aT;(exact bF);have hL2:Nr r p2 z f:=⟨u1,u2,u3,by(exact cF),by(exact cF),hf⟩
  refine jP ?_;refine bR ?_;apply aF;exact aG
  ·exact⟨_,_,hL2,rfl⟩
  ·exact aA
 rw[if_neg (c:=(!(eO E0.bd T3 11).1)=true) (fun e=>by rw[g12]at e;cases e)];generalize(eO E0.bd T3 11).2=T5 at hTl⊢;refine cL ?_;refine cw (eX z q T5) Tryz.call275 (jD m6 T5 (by omega) (bB x.a) (by omega)) rfl aC dH ?_;rintro _ σ' ⟨f,hf,rfl⟩ h50
 (try unfold eJ);(try unfold fR);(try unfold eX);(try unfold iF);(try dsimp only[List.cons_append,List.nil_append]);have k50:=cM (h50 _ (List.mem_cons_of_mem _ List.mem_cons_self));unfold eX at k50;simp(disch:=(first|(simp only[List.mem_cons,List.not_mem_nil,true_or,or_true,or_false];done)|(focus (simp only[List.mem_cons,List.not_mem_nil,or_false,not_or];(repeat' (first|apply And.intro|(exact cF)));done))|omega)) only[List.map_cons,List.map_nil,cJ,cX,dO,cY,aM,aQ,and_true]at k50;repeat rcases k50 with⟨_,k50⟩
 apply aT;(exact bF);have hL2:Nr r p2 z f:=⟨u1,u2,u3,by(exact cF),by(exact cF),hf⟩
 refine jP ?_;refine bR ?_;apply aF;exact aG
 ·exact⟨_,_,hL2,rfl⟩
 ·exact aA
theorem VX(t:RT)(k:Int)(j:Nat):aV t (List.replicate (j+1) k)=(jH (aV t (List.replicate j k)) k).2:=by
 unfold aV;rw[List.reverse_replicate,List.reverse_replicate,List.replicate_succ',List.foldl_append];rfl
theorem aH5(op:Int):0≤(nQ op).1∧(nQ op).1≤2:=by
 unfold nQ;refine aJ (p:=fun r:Int×Int×Int×Bool=>0≤r.1∧r.1≤2) (fun _=>by decide) (fun _=> ?_);refine aJ (p:=fun r:Int×Int×Int×Bool=>0≤r.1∧r.1≤2) (fun _=>by simp) (fun _=> ?_);refine aJ (p:=fun r:Int×Int×Int×Bool=>0≤r.1∧r.1≤2) (fun _=>by simp) (fun _=> ?_);refine aJ (p:=fun r:Int×Int×Int×Bool=>0≤r.1∧r.1≤2) (fun _=>by simp) (fun _=> ?_);refine aJ (p:=fun r:Int×Int×Int×Bool=>0≤r.1∧r.1≤2) (fun _=>by simp) (fun _=> ?_);exact aJ (p:=fun r:Int×Int×Int×Bool=>0≤r.1∧r.1≤2) (fun _=>by simp) (fun _=>by simp)
theorem VY{E0:Env}(hE0:E0.Ok)(n:Nat)(hB:aC7 E0 n):aH4 E0 (n+1):=by
 intro r p z q t0 x hN hW hx hn;obtain⟨ta,tl,tb,l,dd⟩:=t0;have hN0:=hN;obtain⟨n1,n2,n3,n4,n5,n6⟩:=hN;have hbl:=hE0.bl;have hlt:ta<E0.bd.length:=(List.getElem?_eq_some_iff.1 hx).1;obtain⟨hxc,hx1,hx23⟩:=hE0.bd x (List.mem_of_getElem? hx);have hta:(⟨ta+1,tl,tb,l,dd⟩:RT).a≤E0.bd.length:=hlt;have htb:(⟨ta+1,tl,tb,l,dd⟩:RT).lb.length≤(⟨ta+1,tl,tb,l,dd⟩:RT).a:=hW.lb;have hts:Sh ⟨ta+1,tl,tb,l,dd⟩:=hW.sh;have htl:(⟨ta+1,tl,tb,l,dd⟩:RT).l.length≤900000:=by have:=hW.l;show l.length≤ _;dsimp only at this;omega
 have htn:E0.bd.length-(⟨ta+1,tl,tb,l,dd⟩:RT).a≤n:=by show E0.bd.length-(ta+1)≤n;dsimp only at hn;omega
 have hbig:(⟨ta+1,tl,tb,l,dd⟩:RT).lb.length≤1000000:=by have:=hW.lb;show tl.length≤ _;dsimp only at this;omega
 have hI:fB E0.m E0.ls E0.res E0.bd (LE E0) x ⟨ta,tl,tb,l,dd⟩=if oN x.op=true then rL (LE E0) E0.bd x ⟨ta+1,tl,tb,l,dd⟩else gS E0.m E0.ls E0.res x ⟨ta+1,tl,tb,l,dd⟩:=rfl
 rw[hI];have hrk:=aH5 x.op;unfold iv;refine cC 97 [0,1,2,4,6,7,8,9,10,11,12,21,22,30,40,47,52,69,79,82] Tryz.func201 ?_;unfold eJ fR eX iF
 (try dsimp only[List.cons_append,List.nil_append]);refine dW ?_;apply bx;rfl;rfl;(exact dM);rfl;refine aD fun r4 h4=> ?_;repeat rcases h4 with⟨_,h4⟩
 refine jP ?_;refine oY ?_;refine RH ?_;refine oW ?_;rw[show((ta:Int)+1)=((ta+1:Nat):Int) by omega];refine kZ ?_;refine pB ?_;apply fF rfl;exact cU
 ·intro _;(refine aP ?_);refine eV ?_;apply eB rfl;exact cU
  ·intro _;(refine aP ?_);refine eV ?_;exact aK
  exact aK
 refine aP ?_;refine aB rfl (fun g3=> ?_) (fun g3=> ?_)
 ·have hO:oN x.op=true:=by unfold oN;rw[Bool.or_assoc];exact g3
  rw[if_pos hO];refine GR ?_;refine cw (eJ E0 r p z q ⟨ta+1,tl,tb,l,dd⟩) Tryz.call271 (aAO hE0 n hB hN0 ⟨ta+1,tl,tb,l,dd⟩ hta htb hts htl htn x) rfl aC dH ?_;rintro _ σ' ⟨e,f,hL2,rfl⟩ h29
  (try unfold eJ);(try unfold fR);(try unfold eX);(try unfold iF);(try dsimp only[List.cons_append,List.nil_append]);refine dQ ?_;apply aF;exact aG
  ·exact⟨_,_,hL2,rfl⟩
  ·exact aA
 have hO:oN x.op=false:=by unfold oN;rw[Bool.or_assoc];exact g3
 rw[if_neg (by rw[hO];simp)];refine dE ?_;apply fF rfl;exact cU
 ·intro _;(refine aP ?_);refine eV ?_;apply eB rfl;exact cU
  ·intro _;(refine aP ?_);refine eV ?_;apply eB rfl;exact cU
   ·intro _;(refine aP ?_);refine eV ?_;apply eB rfl;exact cU
    ·intro _;(refine aP ?_);refine eV ?_;exact aK
    exact aK
   exact aK
  exact aK
 refine aP ?_;refine aB rfl (fun g7=> ?_) (fun g7=> ?_)
 ·have hb:LI x.op=true:=g7;obtain⟨hx2,hx3⟩:=hx23 hb;rw[show gS E0.m E0.ls E0.res x ⟨ta+1,tl,tb,l,dd⟩=fZ E0.res x ⟨ta+1,tl,tb,l,dd⟩from if_pos hb];refine GR ?_;refine cw (eJ E0 r p z q ⟨ta+1,tl,tb,l,dd⟩) Tryz.call272 (RB hN0 hE0.res ⟨ta+1,tl,tb,l,dd⟩ htl hts hbig x hxc hb hx2 hx3) rfl aC dH ?_;rintro _ σ' ⟨f,hL2,rfl⟩ h39
  (try unfold eJ);(try unfold fR);(try unfold eX);(try unfold iF);(try dsimp only[List.cons_append,List.nil_append]);refine dQ ?_;apply aF;exact aG
  ·exact⟨_,_,hL2,rfl⟩
  ·exact aA
 have hb:LI x.op=false:=g7;refine dE ?_;apply fF rfl;exact cU
 ·intro _;(refine aP ?_);refine eV ?_;exact aK
 refine aP ?_;refine aB rfl (fun g13=> ?_) (fun g13=> ?_)
 ·have h0:0≤x.a:=by
   rcases hx1 with h|⟨-,h1,h2⟩
   ·exact h
   ·simp only[Bool.or_eq_true,beq_iff_eq]at g13;omega
  rw[show gS E0.m E0.ls E0.res x ⟨ta+1,tl,tb,l,dd⟩=pN E0.m x ⟨ta+1,tl,tb,l,dd⟩ by unfold gS;rw[hb,g13];rfl];refine GR ?_;refine cw (eJ E0 r p z q ⟨ta+1,tl,tb,l,dd⟩) Tryz.call273 (aAL hN0 hE0.m ⟨ta+1,tl,tb,l,dd⟩ htl x h0 hxc.hi) rfl aC dH ?_;rintro _ σ' ⟨f,hL2,rfl⟩ h46
  (try unfold eJ);(try unfold fR);(try unfold eX);(try unfold iF);(try dsimp only[List.cons_append,List.nil_append]);refine dQ ?_;apply aF;exact aG
  ·exact⟨_,_,hL2,rfl⟩
  ·exact aA
 refine dE ?_;refine aB rfl (fun g16=> ?_) (fun g16=> ?_)
 ·rw[show gS E0.m E0.ls E0.res x ⟨ta+1,tl,tb,l,dd⟩=(jH ⟨ta+1,tl,tb,l,dd⟩ 0).2 by unfold gS;rw[hb,g13,g16];rfl];have hL2:=hN0;refine cL ?_;refine cw (eJ E0 r p z q ⟨ta+1,tl,tb,l,dd⟩) Tryz.call274 (yZ hN0 ⟨ta+1,tl,tb,l,dd⟩ (by omega) 0) rfl aC dH ?_;rintro _ σ' ⟨rfl,rfl⟩ h51
  (try unfold eJ);(try unfold fR);(try unfold eX);(try unfold iF);(try dsimp only[List.cons_append,List.nil_append]);refine dQ ?_;apply aF;exact aG
  ·exact⟨_,_,hL2,rfl⟩
  ·exact aA
 refine dE ?_;refine aB rfl (fun g18=> ?_) (fun g18=> ?_)
 ·rw[show gS E0.m E0.ls E0.res x ⟨ta+1,tl,tb,l,dd⟩=gY (jH (jH (aV ⟨ta+1,tl,tb,l,dd⟩ [1]) 0).2 (jH (aV ⟨ta+1,tl,tb,l,dd⟩ [1]) 0).1).2 [(jH (jH (aV ⟨ta+1,tl,tb,l,dd⟩ [1]) 0).2 (jH (aV ⟨ta+1,tl,tb,l,dd⟩ [1]) 0).1).1] by unfold gS;rw[hb,g13,g16,g18];rfl];have l1:=iS ⟨ta+1,tl,tb,l,dd⟩ [1];refine cL ?_;refine z1 ?_;refine aD fun r56 h56=> ?_;repeat rcases h56 with⟨_,h56⟩
  refine jB (j:=56) rfl bP (aR bH (by simp)) ?_;refine cw (eJ E0 r p z q ⟨ta+1,tl,tb,l,dd⟩) Tryz.call202 (eY hN0 ⟨ta+1,tl,tb,l,dd⟩ (by omega) [1] (by simp)) rfl aC dH ?_;rintro _ σ' rfl h57
  (try unfold eJ);(try unfold fR);(try unfold eX);(try unfold iF);(try dsimp only[List.cons_append,List.nil_append]);refine dQ ?_;generalize aV ⟨ta+1,tl,tb,l,dd⟩ [1]=t1 at l1⊢;have l2:=zB t1 0;refine mK ?_;refine cw (eJ E0 r p z q t1) Tryz.call274 (yZ hN0 t1 (by omega) 0) rfl aC dH ?_;rintro _ σ' ⟨rfl,rfl⟩ h60
  (try unfold eJ);(try unfold fR);(try unfold eX);(try unfold iF);(try dsimp only[List.cons_append,List.nil_append]);refine eP ?_;generalize(jH t1 0).1=k1;generalize(jH t1 0).2=t2 at l2⊢;have l3:=zB t2 k1;refine FD ?_;refine cw (eJ E0 r p z q t2) Tryz.call274 (yZ hN0 t2 (by omega) k1) rfl aC dH ?_;rintro _ σ' ⟨rfl,rfl⟩ h64
  (try unfold eJ);(try unfold fR);(try unfold eX);(try unfold iF);(try dsimp only[List.cons_append,List.nil_append]);refine eP ?_;generalize(jH t2 k1).1=k2;generalize(jH t2 k1).2=t3 at l3⊢;refine mK ?_;refine z1 ?_;refine aD fun r67 h67=> ?_;repeat rcases h67 with⟨_,h67⟩
  refine jB (j:=67) rfl bP (aR bH (by simp)) ?_;refine cw (eX z q t3) Tryz.call275 (jD hN0.qz t3 (by omega) [k2] (by simp)) rfl aC dH ?_;rintro _ σ' ⟨e,he,rfl⟩ h68
  (try unfold eJ);(try unfold fR);(try unfold eX);(try unfold iF);(try dsimp only[List.cons_append,List.nil_append]);have k68:=cM (h68 _ (List.mem_cons_of_mem _ List.mem_cons_self));unfold eX at k68;simp(disch:=(first|(simp only[List.mem_cons,List.not_mem_nil,true_or,or_true,or_false];done)|(focus (simp only[List.mem_cons,List.not_mem_nil,or_false,not_or];(repeat' (first|apply And.intro|(exact cF)));done))|omega)) only[List.map_cons,List.map_nil,cJ,cX,dO,cY,aM,aQ,and_true]at k68;repeat rcases k68 with⟨_,k68⟩
  have hL2:Nr r p z e:=⟨hN0.pr,hN0.zr,hN0.zp,by(exact cF),by(exact cF),by(exact cF)⟩
  refine dQ ?_;apply aF;exact aG
  ·exact⟨_,_,hL2,rfl⟩
  ·exact aA
 refine dE ?_;refine aB rfl (fun g23=> ?_) (fun g23=> ?_)
 ·rw[show gS E0.m E0.ls E0.res x ⟨ta+1,tl,tb,l,dd⟩=⟨ta+1,tl,tb,l,dd⟩ by unfold gS;rw[hb,g13,g16,g18,g23];rfl];have hL2:=hN0;refine aP ?_;apply aF;exact aG
  ·exact⟨_,_,hL2,rfl⟩
  ·exact aA
 refine fS ?_;refine oE Tryz.call276 (vE x.op) rfl bG bK ?_;refine FC ?_;refine IT ?_;refine FB ?_;refine gK ?_;refine jP ?_;refine aB rfl (fun g25=> ?_) (fun g25=> ?_)
 ·rw[show gS E0.m E0.ls E0.res x ⟨ta+1,tl,tb,l,dd⟩=gY (aV ⟨ta+1,tl,tb,l,dd⟩ (List.replicate (nQ x.op).1.toNat (nQ x.op).2.1)) [(nQ x.op).2.2.1] by unfold gS;rw[hb,g13,g16,g18,g23,g25];rfl];refine bQ ?_;refine lp (β:=Nat) (fun j=>⟨[(0,.ptr r 0),(2,.ptr z 0),(8,.int .i64 (nQ x.op).1),(9,.int .i64 (nQ x.op).2.1),(10,.int .i64 (nQ x.op).2.2.1),(12,.int .i64 j)],eJ E0 r p z q (aV ⟨ta+1,tl,tb,l,dd⟩ (List.replicate j (nQ x.op).2.1))⟩) (fun j=>j≤(nQ x.op).1.toNat) (fun j=>(nQ x.op).1.toNat-j) 0 (by unfold eJ fR eX iF;(try dsimp only[List.cons_append,List.nil_append]);(exact aK)) (Nat.zero_le _) ?_;intro j hj;have hnx:=VX ⟨ta+1,tl,tb,l,dd⟩ (nQ x.op).2.1 j;have hSl:(aV ⟨ta+1,tl,tb,l,dd⟩ (List.replicate j (nQ x.op).2.1)).l.length≤900000:=Nat.le_trans (iS _ _) htl;generalize hSe:aV ⟨ta+1,tl,tb,l,dd⟩ (List.replicate j (nQ x.op).2.1)=S at hnx hSl⊢;unfold eJ fR eX iF
  (try dsimp only[List.cons_append,List.nil_append]);refine cL ?_;refine xM ?_;refine aB rfl (fun g27=> ?_) (fun g27=> ?_)
  ·have hlt2:(j:Int)<(nQ x.op).1:=by simpa using g27
   refine tD ?_;refine cw (eJ E0 r p z q S) Tryz.call274 (yZ hN0 S (by omega) (nQ x.op).2.1) rfl aC dH ?_;rintro _ σ' ⟨rfl,rfl⟩ h88
   (try unfold eJ);(try unfold fR);(try unfold eX);(try unfold iF);(try dsimp only[List.cons_append,List.nil_append]);refine mO ?_;refine AS ?_;refine⟨j+1,by show j+1≤ _;omega,by show(nQ x.op).1.toNat-(j+1)<(nQ x.op).1.toNat-j;omega, ?_⟩
   (try dsimp only);rw[hnx];exact aK
  have hge:¬(j:Int)<(nQ x.op).1:=by simpa using g27
  obtain rfl:j=(nQ x.op).1.toNat:=by omega
  rw[hSe];refine cL ?_;refine z1 ?_;refine aD fun r91 h91=> ?_;repeat rcases h91 with⟨_,h91⟩
  refine jB (j:=91) rfl bP (aR bH (by simp)) ?_;refine cw (eX z q S) Tryz.call275 (jD hN0.qz S (by omega) [(nQ x.op).2.2.1] (by simp)) rfl aC dH ?_;rintro _ σ' ⟨e,he,rfl⟩ h92
  (try unfold eJ);(try unfold fR);(try unfold eX);(try unfold iF);(try dsimp only[List.cons_append,List.nil_append]);have k92:=cM (h92 _ (List.mem_cons_of_mem _ List.mem_cons_self));unfold eX at k92;simp(disch:=(first|(simp only[List.mem_cons,List.not_mem_nil,true_or,or_true,or_false];done)|(focus (simp only[List.mem_cons,List.not_mem_nil,or_false,not_or];(repeat' (first|apply And.intro|(exact cF)));done))|omega)) only[List.map_cons,List.map_nil,cJ,cX,dO,cY,aM,aQ,and_true]at k92;repeat rcases k92 with⟨_,k92⟩
  have hL2:Nr r p z e:=⟨hN0.pr,hN0.zr,hN0.zp,by(exact cF),by(exact cF),by(exact cF)⟩
  refine dQ ?_;apply aF;exact aG
  ·exact⟨_,_,hL2,rfl⟩
  ·exact aA
 rw[show gS E0.m E0.ls E0.res x ⟨ta+1,tl,tb,l,dd⟩=gN E0.m E0.ls x ⟨ta+1,tl,tb,l,dd⟩ by unfold gS;rw[hb,g13,g16,g18,g23,g25];rfl];refine GR ?_;refine cw (eJ E0 r p z q ⟨ta+1,tl,tb,l,dd⟩) Tryz.call277 (VP hN0 ⟨ta+1,tl,tb,l,dd⟩ htl x hxc) rfl aC dH ?_;rintro _ σ' ⟨f,hL2,rfl⟩ h96
 (try unfold eJ);(try unfold fR);(try unfold eX);(try unfold iF);(try dsimp only[List.cons_append,List.nil_append]);refine dQ ?_;refine bR ?_;apply aF;exact aG
 ·exact⟨_,_,hL2,rfl⟩
 ·exact aA
theorem TL{E0:Env}(hE0:E0.Ok):∀n,aC7 E0 n
 |0=>IE hE0 0 (fun r p z q t x hN hW hx hn=>absurd (List.getElem?_eq_some_iff.1 hx).1 (by omega))
 |n+1=>IE hE0 (n+1) (VY hE0 n (TL hE0 n))
structure Md.RFn (m:Md):Prop extends m.Ck where
 bd:∀c∈m.co,c.bd.length≤400∧∀x∈c.bd,x.Ck∧(0≤x.a∨LI x.op=false∧x.op≠16∧x.op≠17)∧(LI x.op=true→(-9000000000000000000≤x.a∧x.a≤9000000000000000000)∧∀n∈x.l,-9000000000000000000≤n∧n≤9000000000000000000)
 lc:∀c∈m.co,c.ls.length≤1000
theorem aDg{m:Md}{k:Int}(h:(if(if decide (k<0)=true then true else decide ((m.co.length:Int)≤k))=true then true else decide ((m.fn.length:Int)≤k))=true):ON m k=false:=by
 unfold ON;rw[if_pos];rw[h];simp
theorem aDh{m:Md}{k:Int}{c:Co}{f:Int}(h:(if(if decide (k<0)=true then true else decide ((m.co.length:Int)≤k))=true then true else decide ((m.fn.length:Int)≤k))=false)(hc:m.co[k.toNat]? =some c)(hf:m.fn[k.toNat]? =some f):
  ON m k=if(if decide (f<0)=true then true else decide ((m.ty.length:Int)≤f))=true then false
   else if decide ((32:Int)<((m.ty.getD f.toNat rG).pr++c.ls).length)=true then false
   else if(!(dP (LE ⟨m,(m.ty.getD f.toNat rG).pr++c.ls,(m.ty.getD f.toNat rG).rs,c.bd⟩) (m.ty.getD f.toNat rG).rs (m.ty.getD f.toNat rG).rs ⟨0,[],false,[],false⟩).bad)=true then(((dP (LE ⟨m,(m.ty.getD f.toNat rG).pr++c.ls,(m.ty.getD f.toNat rG).rs,c.bd⟩) (m.ty.getD f.toNat rG).rs (m.ty.getD f.toNat rG).rs ⟨0,[],false,[],false⟩).a:Int)==c.bd.length)else false:=by
 have e1:m.co.getD k.toNat ⟨[],[]⟩=c:=by rw[List.getD_eq_getElem?_getD,hc];rfl
 have e2:m.fn.getD k.toNat 0=f:=by rw[List.getD_eq_getElem?_getD,hf];rfl
 unfold ON;rw[h,e2,e1];rfl
theorem aAP(m:Md)(hm:m.RFn)(k:Int):SCall Tryz.prog 24 [.agg (cK m),.int .i64 k] [] (fun y σ=>y=.bool (ON m k)∧σ=[]):=by
 refine cC 101 [0,1,2,4,5,6,41,77] Tryz.func24 ?_;unfold cK;refine dW ?_;apply bx;rfl;rfl;(exact dM);rfl;refine aD fun r2 h2=> ?_;repeat rcases h2 with⟨_,h2⟩
 refine dG ?_;rcases hC:(if(if decide (k<0)=true then true else decide ((m.co.length:Int)≤k))=true then true else decide ((m.fn.length:Int)≤k))with _ | _
 ·obtain⟨t1,t2,t3⟩:=aAd hC;simp only[decide_eq_false_iff_not]at t1 t2 t3;obtain⟨c,hc⟩:∃c,m.co[k.toNat]? =some c:=⟨_,List.getElem?_eq_getElem (by omega)⟩
  obtain⟨f,hf⟩:∃f,m.fn[k.toNat]? =some f:=⟨_,List.getElem?_eq_getElem (by omega)⟩
  have hcm:=List.mem_of_getElem? hc;obtain⟨hb1,hb2⟩:=hm.bd c hcm;have hlc:=hm.lc c hcm;rw[aDh hC hc hf];refine gI [(0,true),(1,true),(2,true),(3,true),(4,true),(5,true),(6,true),(7,true),(8,true),(9,true),(10,true),(11,true),(12,true),(13,true),(14,true),(15,true),(16,true),(17,true),(18,true),(19,true),(20,true),(21,true),(22,true),(23,true),(24,true),(25,true),(26,true),(27,true),(28,true),(29,true),(30,true),(31,true),(32,true),(33,true),(34,true)] ?_;refine gD rfl (aI (E rfl)) rfl ?_;refine z46 ?_;refine zI ?_;refine PI ?_;refine qH ?_;refine sq9 ?_;refine AR ?_;refine zI ?_;refine PI ?_;refine qH ?_;refine sq9 ?_;refine AR ?_;rw[hC];refine CN ?_;refine qH ?_;refine xL ?_;refine MF ?_;refine aDo ?_;refine AR ?_;refine CN ?_;refine qH ?_;refine xL ?_;refine MF ?_;refine PH ?_;refine PI ?_;refine qH ?_;refine sq9 ?_;refine AR ?_;refine kK ?_;refine aB rfl (fun g1=> ?_) (fun g1=> ?_)
  ·rw[if_pos g1];refine bQ ?_;apply aF;exact aG
   ·exact⟨rfl,rfl⟩
   ·exact aA
  rw[if_neg (c:=(if decide (f<0)=true then true else decide ((m.ty.length:Int)≤f))=true) (fun e=>by rw[g1]at e;cases e)];have hf2:0≤f∧f<m.ty.length:=by
   have:∀p q:Bool,(if p=true then true else q)=false→p=false∧q=false:=by intro p q;cases p<;>cases q<;>simp
   obtain⟨h1,h2⟩:=this _ _ g1;simp only[decide_eq_false_iff_not]at h1 h2;omega
  obtain⟨ty,hty⟩:∃ty,m.ty[f.toNat]? =some ty:=⟨_,List.getElem?_eq_getElem (by omega)⟩
  have hts:=hm.ts ty (List.mem_of_getElem? hty);rw[show m.ty.getD f.toNat rG=ty by rw[List.getD_eq_getElem?_getD,hty];rfl];obtain⟨pr,rs⟩:=ty;obtain⟨hp1,hp2⟩:=hts;dsimp only at hp1 hp2⊢;refine aP ?_;refine gI [(0,true),(1,true),(2,true),(3,true),(4,true),(5,true),(6,true),(7,true),(8,true),(9,false),(10,false)] ?_;refine jE ?_;refine PK ?_;refine MC ?_;refine LD ?_;refine MC ?_;refine zH ?_;apply dal;rfl;infer_instance;rfl;(exact dM);refine aD fun r5 h5=> ?_;repeat rcases h5 with⟨_,h5⟩
  refine WZ ?_;refine kK ?_;refine gI [(0,true),(1,true),(2,true),(3,true),(4,true),(5,true),(6,true),(7,true),(8,true),(10,true),(11,true),(12,true),(13,true),(14,true),(15,true),(17,true),(18,true),(9,false),(16,false),(19,true),(20,false),(21,true)] ?_;refine OY ?_;refine pW ?_;refine jE ?_;refine pW ?_;refine jE ?_;refine aHa rfl (pr.map aX) pr.length ?_ (hby:=by omega);refine aD fun r60 h60=> ?_;repeat rcases h60 with⟨_,h60⟩
  refine fJ rfl ((pr++c.ls).map aX) (pr++c.ls).length ?_;refine bM fun r67 h67=> ?_;repeat rcases h67 with⟨_,h67⟩
  refine aHf (j:=67) rfl bP (aR bH (by simp)) ?_;refine z94 ?_;apply dbx;rfl;rfl;rfl;(exact dM);rfl;refine aD fun r71 h71=> ?_;repeat rcases h71 with⟨_,h71⟩
  refine tV ?_;have hll:(pr++c.ls).length≤2000:=by simp;omega
  generalize pr++c.ls=ls at hll⊢;refine oY ?_;refine sQ ?_;refine aB rfl (fun g5=> ?_) (fun g5=> ?_)
  ·rw[if_pos g5];refine bQ ?_;apply aF;exact aG
   ·exact⟨rfl,rfl⟩
   ·exact aA
  rw[if_neg (c:=decide ((32:Int)<(ls.length:Int))=true) (fun e=>by rw[g5]at e;cases e)];have hE0:Env.Ok ⟨m,ls,rs,c.bd⟩:=⟨hm.toCk,by show rs.length≤ _;omega,hb1,hb2⟩
  refine aP ?_;refine dZ (ks:=[0,1,2,4,5,6,41,77]) r71 18 24 1 (by decide) bH rfl (by decide) fun p hp=> ?_
  simp only[aM,aQ,and_true]at hp;repeat rcases hp with⟨_,hp⟩
  apply Exists.intro;apply And.intro;(exact cZ);refine kL ?_;refine gF ?_;refine cw (fR ⟨m,ls,rs,c.bd⟩ r71 p ⟨0,[],false,[],false⟩) Tryz.call80 (TL hE0 c.bd.length r71 p ⟨0,[],false,[],false⟩ rs rs (by(exact cF)) ⟨Nat.zero_le _,Nat.le_refl _,fun l hl=>by simp at hl⟩ (Nat.sub_le _ _) (by omega) (by omega)) rfl aC dH ?_;rintro _ σ' ⟨e,he,rfl⟩ h83
  (try unfold eJ);(try unfold fR);(try unfold eX);(try unfold iF);(try dsimp only[List.cons_append,List.nil_append]);refine dQ ?_;generalize dP (LE ⟨m,ls,rs,c.bd⟩) rs rs ⟨0,[],false,[],false⟩=T;refine gI [(0,true),(1,true),(2,true),(3,true),(4,true),(5,true),(6,true),(7,true),(8,true),(9,true),(10,true),(11,true),(12,true),(13,true),(14,true),(15,true),(16,true),(17,true)] ?_;refine CJ ?_;refine gD rfl (eI (E rfl)) rfl ?_;refine zI ?_;refine sq7 ?_;refine qH ?_;refine xL ?_;refine sq7 ?_;refine qH ?_
  (first|refine jA rfl rfl rfl rfl rfl ?_ |(first|refine eN rfl rfl rfl (gB (by first|exact W rfl id|exact E rfl)) rfl ?_ |refine eN rfl rfl rfl (gO (by first|exact W rfl id|exact E rfl)) rfl ?_ |refine eN rfl rfl rfl (gC (by first|exact W rfl id|exact E rfl)) rfl ?_)|refine eE rfl rfl rfl (gB (by first|exact W rfl id|exact E rfl)) rfl ?_ |refine eE rfl rfl rfl (gO (by first|exact W rfl id|exact E rfl)) rfl ?_ |refine eE rfl rfl rfl (gC (by first|exact W rfl id|exact E rfl)) rfl ?_);refine aBi ?_;refine TW ?_;refine tV ?_;apply aF;exact aG
  ·exact⟨rfl,rfl⟩
  ·exact aA
 ·rw[aDg hC];refine gI [(0,true),(1,true),(2,true),(3,true),(4,true),(5,true),(6,true),(7,true),(8,true),(9,true),(10,true),(11,true),(12,true),(13,true),(14,true),(15,true),(16,true),(17,true),(18,true),(19,true),(20,true),(21,true),(22,true),(23,true),(24,true),(25,true),(26,true),(27,true),(28,true),(29,true),(30,true),(31,true),(32,true),(33,true),(34,true)] ?_;refine gD rfl (aI (E rfl)) rfl ?_;refine z46 ?_;refine zI ?_;refine PI ?_;refine qH ?_;refine sq9 ?_;refine AR ?_;refine zI ?_;refine PI ?_;refine qH ?_;refine sq9 ?_;refine AR ?_;rw[hC];refine CN ?_;refine qH ?_;refine xL ?_;refine MF ?_;refine aDo ?_;refine AR ?_;refine CN ?_;refine qH ?_;refine xL ?_;refine MF ?_;refine PH ?_;refine PI ?_;refine qH ?_;refine sq9 ?_;refine AR ?_;refine MA ?_;refine bQ ?_;apply aF;exact aG
  ·exact⟨rfl,rfl⟩
  ·exact aA
end Go.Proofs.YtjpdadobblffmaaGreat
namespace Go.Proofs.YtjpdadobblffmaaGreat
open Go.RowKit Go.ChangeShapes Go.WideShapes Go.ChangeAt Go.Deep
theorem aF6{x:Ins}(h:dC x=true):x.l.length≤50∧(aZ x.op≠4→x.l=[]):=by
 unfold dC at h;have h0:jG x (aZ x.op)=false:=by
  cases hp:jG x (aZ x.op)with
  |false=>rfl
  |true=>rw[hp]at h;simp at h
 by_cases h4:aZ x.op=4
 ·refine⟨?_,fun e=>absurd h4 e⟩;rw[h0,h4]at h;simp only[Bool.false_eq_true,if_false,show((4:Int)==1||(4:Int)==7)=false from rfl,show((4:Int)==2)=false from rfl,show((4:Int)==3||(4:Int)==5)=false from rfl,show((4:Int)==4)=true from rfl,if_true]at h;cases ha:oB x.a 0 1000 with
  |false=>rw[ha]at h;simp at h
  |true=>
   rw[ha]at h;simp only[if_true]at h;split at h
   ·next e=>have:=of_decide_eq_true e;omega
   ·cases h
 ·have:x.l=[]:=by
   unfold jG at h0;cases hl:x.l with
   |nil=>rfl
   |cons a l=>rw[hl]at h0;simp[h4]at h0
  exact⟨by rw[this];simp,fun _=>this⟩
theorem KT{x:Ins}(h:dC x=true)(hf:aZ x.op=3∨aZ x.op=4∨aZ x.op=5∨aZ x.op=6):x.a≤1000∧(aZ x.op=4→∀n∈x.l,n≤1000):=by
 unfold dC at h;have h0:jG x (aZ x.op)=false:=by
  cases hp:jG x (aZ x.op)with
  |false=>rfl
  |true=>rw[hp]at h;simp at h
 rw[h0]at h;simp only[Bool.false_eq_true,if_false]at h;rcases hf with e|e|e|e<;>rw[e]at h⊢
 ·simp only[show((3:Int)==1||(3:Int)==7)=false from rfl,show((3:Int)==2)=false from rfl,show((3:Int)==3||(3:Int)==5)=true from rfl,Bool.false_eq_true,if_false,if_true]at h;exact⟨(nE h).2,fun e=>by simp at e⟩
 ·simp only[show((4:Int)==1||(4:Int)==7)=false from rfl,show((4:Int)==2)=false from rfl,show((4:Int)==3||(4:Int)==5)=false from rfl,show((4:Int)==4)=true from rfl,Bool.false_eq_true,if_false,if_true]at h;cases ha:oB x.a 0 1000 with
  |false=>rw[ha]at h;simp at h
  |true=>
   refine⟨(nE ha).2,fun _ n hn=> ?_⟩;rw[ha]at h;simp only[if_true]at h;split at h
   ·simp only[Bool.not_eq_true',List.any_eq_false,Bool.not_eq_true',Bool.not_eq_false]at h;have:=h n hn;have:oB n 0 1000=true:=by simpa using this
    exact(nE this).2
   ·cases h
 ·simp only[show((5:Int)==1||(5:Int)==7)=false from rfl,show((5:Int)==2)=false from rfl,show((5:Int)==3||(5:Int)==5)=true from rfl,Bool.false_eq_true,if_false,if_true]at h;exact⟨(nE h).2,fun e=>by simp at e⟩
 ·simp only[show((6:Int)==1||(6:Int)==7)=false from rfl,show((6:Int)==2)=false from rfl,show((6:Int)==3||(6:Int)==5)=false from rfl,show((6:Int)==4)=false from rfl,show((6:Int)==6)=true from rfl,Bool.false_eq_true,if_false,if_true]at h;cases ha:oB x.a 0 3 with
  |false=>rw[ha]at h;simp at h
  |true=>exact⟨Int.le_trans (nE ha).2 (by decide),fun e=>by simp at e⟩
theorem aAQ{x:Ins}(h:dC x=true)(ho:x.Ok):x.Ck∧(0≤x.a∨LI x.op=false∧x.op≠16∧x.op≠17)∧(LI x.op=true→(-9000000000000000000≤x.a∧x.a≤9000000000000000000)∧∀n∈x.l,-9000000000000000000≤n∧n≤9000000000000000000):=by
 obtain⟨hl1,hl2⟩:=aF6 h;have f3:x.op=12∨x.op=13∨x.op=16∨x.op=32∨x.op=33∨x.op=34∨x.op=35∨x.op=36→aZ x.op=3:=fun e=>by rcases e with e|e|e|e|e|e|e|e<;>rw[e]<;>decide
 have f4:x.op=14→aZ x.op=4:=fun e=>by rw[e];decide
 have f5:x.op=17→aZ x.op=5:=fun e=>by rw[e];decide
 have f1:x.op=15∨x.op=0→aZ x.op=1:=fun e=>by rcases e with e|e<;>rw[e]<;>decide
 have hB:LI x.op=true→x.op=12∨x.op=13∨x.op=14∨x.op=15∨x.op=0:=fun e=>by unfold LI at e;simpa using e
 refine⟨⟨fun e=> ?_,fun e=>(kH h (.inr (.inl (f4 e)))).2 (f4 e),by omega,ho.2.2.2.1⟩, ?_,fun e=> ?_⟩
 ·by_cases e14:x.op=14
  ·exact(kH h (.inr (.inl (f4 e14)))).1
  ·exact(kH h (.inl (f3 (by omega)))).1
 ·by_cases hb:LI x.op=true
  ·left;rcases hB hb with e|e|e|e|e
   ·exact(kH h (.inl (f3 (by omega)))).1
   ·exact(kH h (.inl (f3 (by omega)))).1
   ·exact(kH h (.inr (.inl (f4 e)))).1
   ·rw[rO h (.inl (f1 (by omega)))];decide
   ·rw[rO h (.inl (f1 (by omega)))];decide
  ·by_cases e16:x.op=16
   ·exact .inl (kH h (.inl (f3 (by omega)))).1
   ·by_cases e17:x.op=17
    ·exact .inl (kH h (.inr (.inr (.inl (f5 e17))))).1
    ·exact .inr ⟨by simpa using hb,e16,e17⟩
 ·have key:(-9000000000000000000≤x.a∧x.a≤9000000000000000000):=by
   rcases hB e with e|e|e|e|e
   ·have:=(kH h (.inl (f3 (by omega)))).1;have:=(KT h (.inl (f3 (by omega)))).1;omega
   ·have:=(kH h (.inl (f3 (by omega)))).1;have:=(KT h (.inl (f3 (by omega)))).1;omega
   ·have:=(kH h (.inr (.inl (f4 e)))).1;have:=(KT h (.inr (.inl (f4 e)))).1;omega
   ·rw[rO h (.inl (f1 (by omega)))];decide
   ·rw[rO h (.inl (f1 (by omega)))];decide
  refine⟨key,fun n hn=> ?_⟩;by_cases h4:aZ x.op=4
  ·have h1:=(kH h (.inr (.inl h4))).2 h4 n hn;have h2:=(KT h (.inr (.inl h4))).2 h4 n hn;omega
  ·rw[hl2 h4]at hn;simp at hn
theorem aF7{m:Md}(hm:pT m=true)(hw:m.WO):m.Fn∧m.RFn:=by
 have hwo:=hw.ok;unfold pT at hm;simp only[Bool.and_eq_true]at hm;obtain⟨⟨⟨⟨-,hco⟩,hls⟩,-⟩,-⟩:=hm;unfold pE at hls;simp only[Bool.and_eq_true]at hls;obtain⟨⟨⟨⟨⟨⟨hty,him⟩,-⟩,-⟩,-⟩,-⟩,-⟩:=hls;have hck:m.Ck:=⟨fun t ht=>by
  have:=(bW hty).2 t ht;simp only[Bool.and_eq_true]at this;have h1:=(bW this.1).1;have h2:=(bW this.2).1;exact⟨by omega,by omega⟩,by have:=(bW him).1;omega⟩
 have hc:∀c∈m.co,c.bd.length≤300∧c.ls.length≤32∧∀x∈c.bd,dC x=true:=fun c hcm=>by
  have:=(bW hco).2 c hcm;unfold sA at this;simp only[Bool.and_eq_true]at this;have h1:=(bW this.1.2).1;have h2:=(bW this.2).1;exact⟨by omega,by omega,(bW this.2).2⟩
 exact⟨⟨hck,fun c hcm=>⟨by have:=(hc c hcm).1;omega,fun x hx=>(aAQ ((hc c hcm).2.2 x hx) (hwo.1 c hcm x hx)).1⟩,fun c hcm=>by have:=(hc c hcm).2.1;omega⟩,
  ⟨hck,fun c hcm=>⟨by have:=(hc c hcm).1;omega,fun x hx=>aAQ ((hc c hcm).2.2 x hx) (hwo.1 c hcm x hx)⟩,fun c hcm=>by have:=(hc c hcm).2.1;omega⟩⟩
def aJd:List Int→AV
 |[]=>.ro 0 [] .nil
 |a::l=>.ro 1 ((a::l).map aX) .any
def aD3 (x:Ins):List AV:=[.int .i64 x.op,.int .i64 x.a,.int .i64 x.b,aJd x.l]
inductive Nvs:List (List AV)→List Ins→Prop
 |nil:Nvs [] []
 |nv {y:List AV} {x:Ins} {es:List (List AV)} {l:List Ins} (hy:y=aD3 x) (h:Nvs es l):Nvs (y::es) (x::l)
 |iv {y:List AV} {x:Ins} {es:List (List AV)} {l:List Ins} (hy:y=iv .any x) (h:Nvs es l):Nvs (y::es) (x::l)
theorem Nvs.at_ {es:List (List AV)}{l:List Ins}(h:Nvs es l):es.length=l.length∧∀(i:Nat) (y:List AV) (x:Ins),es[i]? =some y→l[i]? =some x→y=Go.Proofs.YtjpdadobblffmaaGreat.iv .any x∨y=aD3 x:=by
 induction h with
 |nil=>exact⟨rfl,fun i y x h=>by simp at h⟩
 |nv hy _ ih=>
  refine⟨by simp[ih.1],fun i y x h1 h2=> ?_⟩;cases i with
  |zero=>cases h1;cases h2;exact .inr hy
  |succ i=>exact ih.2 i y x (by simpa using h1) (by simpa using h2)
 |iv hy _ ih=>
  refine⟨by simp[ih.1],fun i y x h1 h2=> ?_⟩;cases i with
  |zero=>cases h1;cases h2;exact .inl hy
  |succ i=>exact ih.2 i y x (by simpa using h1) (by simpa using h2)
theorem aAR{σ:dY}{q p:Nat}{et et':TypeId}{sz' n:Nat}{es':List (List AV)}{x:AV}{y:List AV}(hx:x.cell=true)(hy:y.length=2∧∀a∈y,a.cell=true)(hg:gU σ q=some (.arr et 2 [[.own p 0 n,x],y]))(hp:gU σ p=some (.arr et' sz' es'))(hn:n=es'.length):Bor σ [q,p] (.own q 0 2) (.ro 2 [[.ro sz' es' .any,x],y] .any):=by
 refine .ownR (fun i j=>if i=0∧j=0 then .own p 0 n else if i=0 then x else y.getD j .undef) List.mem_cons_self hg (by simp) rfl (fun z hz=> ?_) (fun i e j a h1 h2=> ?_) (fun i e j a h1 h2=> ?_)
 ·simp only[List.mem_cons,List.not_mem_nil,or_false]at hz;rcases hz with rfl|rfl
  ·exact⟨rfl,fun a ha=>by
    simp only[List.mem_cons,List.not_mem_nil,or_false]at ha;rcases ha with rfl|rfl
    ·rfl
    ·exact hx⟩
  ·exact hy
 ·match i with
  |0=>
   cases h1
   match j with
   |0=>cases h2;rfl
   |1=>cases h2;rfl
   | _ +2=>cases h2
  |1=>cases h1;simp[h2]
  | _ +2=>cases h1
 ·match i with
  |0=>
   cases h1
   match j with
   |0=>
    cases h2
    have:=Bor.own (σ:=σ) (ts:=[q,p]) (t:=p) (off:=0) (len:=n) (List.mem_cons_of_mem _ List.mem_cons_self) hp (by omega);rw[hn,List.drop_zero,List.take_length]at this;simp only[Nat.add_zero,and_self,if_true];rw[hn];exact this
   |1=>cases h2;exact .refl _
   | _ +2=>cases h2
  |1=>
   cases h1
   have:(if 0+1=0∧j=0 then AV.own p 0 n else if 0+1=0 then x else y.getD j .undef)=a:=by simp[h2]
   rw[this];exact .refl _
  | _ +2=>cases h1
theorem aDi(c:Co):(eS c).length=2∧∀a∈eS c,a.cell=true:=⟨rfl,by simp[eS,AV.cell]⟩
theorem aAS(ps:List Int):(sG ps).length≤5:=by unfold sG;simp;omega
theorem aF8(r:Int):(zW r).length≤1:=by unfold zW;exact aJ (p:=fun l:List Int=>l.length≤1) (fun _=>by simp) (fun _=>by simp)
theorem aDj(ps:List Int)(r:Int)(lo:List Int)(l:List Ins)(hl:l.length≤100000)(hi:∀x∈l,x.Ok):(iZ (sG ps) (zW r) [⟨lo,l⟩,aAw]).WO:=by
 refine⟨⟨fun x hx=> ?_,fun x hx=> ?_,fun x hx=> ?_,by simp[iZ],by simp[iZ]⟩,fun c hc=> ?_,fun g hg=> ?_⟩
 ·simp only[iZ,List.mem_cons,List.not_mem_nil,or_false]at hx;rcases hx with rfl|rfl<;>exact⟨⟨by decide,by decide⟩,by decide,by decide⟩
 ·simp only[iZ,List.mem_cons,List.not_mem_nil,or_false]at hx;subst hx;exact⟨by decide,by decide⟩
 ·simp only[iZ,List.mem_cons,List.not_mem_nil,or_false]at hx;rcases hx with rfl|rfl
  ·exact hl
  ·decide
 ·simp only[iZ,List.mem_cons,List.not_mem_nil,or_false]at hc;rcases hc with rfl|rfl
  ·exact hi
  ·intro x hx;simp only[aAw,HX,List.mem_cons,List.not_mem_nil,or_false]at hx;subst hx;exact⟨by decide,by decide,by decide,by decide,by decide⟩
 ·simp only[iZ,List.mem_cons,List.not_mem_nil,or_false]at hg;rcases hg with rfl|rfl<;>exact⟨by decide,by decide⟩
theorem aF9(ps:List Int)(r:Int)(lo:List Int)(l:List Ins)(hlo:lo.length≤5):(iZ (sG ps) (zW r) [⟨lo,l⟩,aAw]).Z:=by
 have h1:=aAS ps;have h2:=aF8 r;refine⟨⟨by simp[iZ],fun x hx=> ?_⟩,by simp[iZ],by simp[iZ],by simp[iZ],by simp[iZ],⟨by simp[iZ],fun x hx=> ?_⟩,⟨by simp[iZ],fun x hx=> ?_⟩,⟨by simp[iZ],fun x hx=> ?_⟩⟩
 ·simp only[iZ,List.mem_cons,List.not_mem_nil,or_false]at hx;rcases hx with rfl|rfl|rfl|rfl<;>(constructor<;>simp<;>omega)
 ·simp only[iZ,List.mem_cons,List.not_mem_nil,or_false]at hx;subst hx;simp
 ·simp only[iZ,List.mem_cons,List.not_mem_nil,or_false]at hx;rcases hx with rfl|rfl
  ·show lo.length≤ _;omega
  ·decide
 ·simp[iZ]at hx
theorem EH{m:Md}(hw:m.WO)(hm:pS m=true):(m.Fn∧m.RFn)∧(CZ m 0==ON m 0)=true:=by
 have h:=(ZG hm).1;exact⟨aF7 h hw,by rw[aF1 h];simp⟩
end Go.Proofs.YtjpdadobblffmaaGreat
namespace Go.Proofs.YtjpdadobblffmaaGreat
open Go.RowKit Go.ChangeShapes Go.WideShapes Go.ChangeAt Go.Deep
attribute [local irreducible] SW RS RD gJ fA
theorem EI(bd:List Ins)(hbd:bd.length≤maxLen)(hw:∀x∈bd,x.Wf)(ps loc:List Int)(r:Int):SCall Tryz.prog 5 [.ro 4 (bd.map (iv .any)) .any,.ro 1 (ps.map aX) .any,.ro 1 (loc.map aX) .any,.int .i64 r] [] (fun y σ=>y=.bool true∧σ=[]):=by
 refine cC 61 [0,1,2,3,8,9,10,11,14,25] Tryz.func5 ?_;refine sU ?_;refine oE Tryz.call22 QR rfl bG bK ?_;refine iE ?_;refine tU ?_;refine mK ?_;refine cw [] Tryz.call25 (aAu ps r) rfl aC aA ?_;rintro _ σ' ⟨q,rfl,rfl⟩ h17;unfold VH;apply aT;(exact bF);apply al;rfl;(exact dM);refine aD fun r10 h10=> ?_;repeat rcases h10 with⟨_,h10⟩
 refine nS ?_;refine bQ ?_;refine NF (ks:=[0,1,2,3,8,9,10,11,14,25]) q 0 0 3 1 (by decide) bH rfl rfl (by decide) fun p0 hp0=> ?_
 simp only[aM,aQ,and_true]at hp0;repeat rcases hp0 with⟨_,hp0⟩
 apply Exists.intro;apply And.intro;(exact cZ);refine lp (β:=Nat×Nat) (fun b=>⟨[(0,.ro 4 (bd.map (iv .any)) .any),(2,.ro 1 (loc.map aX) .any),(10,.ptr r10 0),(11,.int .i64 b.1)],[(r10,.box 33 (VH (sG ps) (zW r) q)),(q,.arr 44 2 [[.own b.2 0 ((loc.take b.1).map fun p=>1+b1 p).length,.ro 0 [] .nil],eS ⟨[],HX⟩]),(b.2,.arr 3 1 (((loc.take b.1).map fun p=>1+b1 p).map aX))]⟩) (fun b=>b.1≤loc.length∧b.1≤5∧Nq b.2 r10∧Nq b.2 q) (fun b=>5-b.1) (0,p0) aK ⟨Nat.zero_le _,Nat.zero_le _,by show Nq p0 r10;(exact cF),by show Nq p0 q;(exact cF)⟩ ?_;rintro⟨j,p⟩ ⟨hj,hj5,n1,n2⟩;dsimp only[VH]at hj hj5 n1 n2⊢;have hpl:((loc.take j).map fun p=>1+b1 p).length=j:=by simp;omega
 refine cL ?_;refine lU ?_;refine EY ?_;refine XE ?_;refine tW ?_;refine aB rfl (fun g6=> ?_) (fun g6=> ?_)
 ·have hlt:j<loc.length∧j<5:=aAo g6;obtain⟨w,hw'⟩:∃w,loc[j]? =some w:=⟨_,List.getElem?_eq_getElem hlt.1⟩
  have hb:=aAt w;unfold b1 at hb;refine aP ?_;refine gI [(0,true),(1,true),(2,true),(3,true),(4,true),(5,true),(6,true),(7,true),(8,true),(9,true),(10,true),(11,true),(12,true),(13,false),(14,false),(15,true),(16,true),(17,false)] ?_;refine jE ?_;refine jE ?_;refine RI ?_;refine pA ?_;refine LD ?_;refine gD rfl (jJ (E rfl) (E rfl)) rfl ?_;refine aEn ?_;refine GO ?_;refine aD fun r41 h41=> ?_;repeat rcases h41 with⟨_,h41⟩
  refine fJ rfl (((loc.take j).map (fun p=>1+b1 p)++ [1+b1 w]).map aX) ((loc.take j).map (fun p=>1+b1 p)++ [1+b1 w]).length ?_;refine bM fun r42 h42=> ?_;repeat rcases h42 with⟨_,h42⟩
  refine XF ?_;apply aA8;rfl;infer_instance;rfl;rfl;rfl;rfl;(exact cZ);(exact atT);(exact xK);rfl;(exact gE);refine MA ?_;refine oX ?_;refine⟨(j+1,r42),⟨hlt.1,hlt.2,by show Nq r42 r10;(exact cF),by show Nq r42 q;(exact cF)⟩,by show 5-(j+1)<5-j;omega, ?_⟩;dsimp only[VH];rw[←OL hw'];exact aK
 rw[show(loc.take j).map (fun p=>1+b1 p)=sG loc by
   unfold sG;rcases Nat.lt_or_ge j 5 with h5j|h5j
   ·have:j=loc.length:=by
     rcases Nat.lt_or_ge j loc.length with h|h
     ·rw[decide_eq_true (by omega),if_pos rfl,decide_eq_true (by omega)]at g6;cases g6
     ·omega
    subst this;rw[List.take_length,List.take_of_length_le (by omega)]
   ·obtain rfl:j=5:=by omega
    rfl]
 refine aP ?_;refine gI [(0,true),(1,true),(2,true),(3,false),(4,true),(5,true),(6,false)] ?_;refine PK ?_;refine qT [] rfl Tryz.call26 (YF bd hbd (fun x hx=>(hw x hx).2.2.2.1) 60 (by decide)) rfl aC aA gE ?_;rintro _ σ' ⟨q48,rfl,rfl⟩ h48
 replace h48:=iC h48;repeat rcases h48 with⟨_,h48⟩
 apply bZ;(exact bF);refine aHf (j:=48) rfl bP (aR bH (by simp)) ?_;refine XF ?_;apply aA8;rfl;infer_instance;rfl;rfl;rfl;rfl;(exact cZ);(exact atT);(exact xK);rfl;(exact gE);refine kK ?_;obtain⟨F,hF⟩:∃F,F=iZ (sG ps) (zW r) [⟨sG loc,mG bd 60⟩,aAw]:=⟨_,rfl⟩
 refine eU (YQ (r:=r10) (q:=q) (p:=p) cZ bP bP (.cons (.refl _) (.cons (.refl _) (.cons (.refl _) (.cons (.refl _) (.cons (.refl _) (.cons (.refl _) (.cons (.refl _) (.cons (.refl _) (.cons (.refl _) (.cons (.refl _) (.cons (.refl _) (.cons (.refl _) (.cons (aAR rfl (aDi _) bH bH (by simp)) (.cons (.refl _) .nil))))))))))))))) ?_;refine eU (iQ (r:=r10) (cs':=cK (iZ (sG ps) (zW r) [⟨sG loc,mG bd 60⟩,aAw])) cZ (.cons (.refl _) (.cons (.refl _) (.cons (.refl _) (.cons (.refl _) (.cons (.refl _) (.cons (.refl _) (.cons (.refl _) (.cons (.refl _) (.cons (.refl _) (.cons (.refl _) (.cons (.refl _) (.cons (.refl _) (.cons (.refl _) (.cons (.refl _) .nil))))))))))))))) ?_;rw[←hF];have hwo:F.WO:=by rw[hF];exact aDj ps r (sG loc) (mG bd 60) (by simp[mG];omega) (aBM hw 60)
 have hz:F.Z:=by rw[hF];exact aF9 ps r (sG loc) _ (aAS loc)
 clear hF;cases hm:pS F
 ·refine gI [(0,true),(1,false),(2,true),(3,true),(4,true),(6,true),(5,false),(7,false),(8,true),(9,true),(10,true)] ?_;refine OY ?_;refine YE rfl Tryz.call19 (TB F hwo hz) rfl bG bK ?_;rw[hm];refine gD rfl (eI (E rfl)) rfl ?_;rw[show(!false)=true from rfl];refine gD rfl (aI (E rfl)) rfl ?_;refine aBj ?_;refine aBj ?_;refine dhn rfl rfl rfl rfl rfl ?_;refine dhn rfl rfl rfl rfl rfl ?_;refine aGV ?_;refine AR ?_;refine tV ?_;have hE:true=true:=rfl;apply aF;exact aG
  ·exact⟨congrArg AV.bool hE,rfl⟩
  ·exact aA
 ·refine gI [(0,true),(1,false),(2,true),(3,true),(4,true),(6,true),(5,false),(7,false),(8,true),(9,true),(10,true)] ?_;refine OY ?_;refine YE rfl Tryz.call19 (TB F hwo hz) rfl bG bK ?_;rw[hm];refine gD rfl (eI (E rfl)) rfl ?_;rw[show(!true)=false from rfl];refine gD rfl (aI (E rfl)) rfl ?_;refine aBj ?_;refine aBj ?_;refine aDz rfl rfl rfl Tryz.call23 (pK F (EH hwo hm).1.1 0) rfl bG bK ?_;refine aDz rfl rfl rfl Tryz.call24 (aAP F (EH hwo hm).1.2 0) rfl bG bK ?_;refine aGV ?_;refine AR ?_;refine tV ?_;have hE:=(EH hwo hm).2;apply aF;exact aG
  ·exact⟨congrArg AV.bool hE,rfl⟩
  ·exact aA
theorem EJ(bd:List Ins)(ps loc:List Int)(r:Int)(h:bd.length≤maxLen∧∀x∈bd,x.Wf):SCall Tryz.prog 5 [.ro 4 (bd.map (iv .any)) .any,.ro 1 (ps.map aX) .any,.ro 1 (loc.map aX) .any,.int .i64 r] [] (fun y _=>y=.bool true):=(EI bd h.1 h.2 ps loc r).mono fun _ _ h=>h.1
end Go.Proofs.YtjpdadobblffmaaGreat
