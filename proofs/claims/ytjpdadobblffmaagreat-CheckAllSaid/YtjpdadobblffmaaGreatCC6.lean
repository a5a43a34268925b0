import Derived.Test.YtjpdadobblffmaaGreatCC5
import Derived.Test.YtjpdadobblffmaaGreatCC3
import Derived.Test.YtjpdadobblffmaaGreatCC4
set_option linter.unusedSimpArgs false
set_option linter.unusedVariables false
set_option maxRecDepth 100000
set_option maxHeartbeats 4000000
namespace Go.Proofs.YtjpdadobblffmaaGreat
open Go.RowKit Go.ChangeShapes Go.WideShapes Go.ChangeAt Go.Deep
attribute [local irreducible] SW RS RD fG eH
def eW {α:Type} (f:α→α) (l:List α) (j:Nat):List α:=(l.take j).map f
theorem nU{α:Type}{f:α→α}{l:List α}{j:Nat}{x:α}(h:l[j]? =some x):eW f l (j+1)=eW f l j++ [f x]:=by
 unfold eW;rw[List.take_add_one,h];simp
theorem qI{α:Type}{f:α→α}{l:List α}{j:Nat}(h:j≤l.length):(eW f l j).length=j:=by unfold eW;simp;omega
theorem qJ{α:Type}{f:α→α}{l:List α}{j n:Nat}(h1:j≤l.length)(h2:j≤n)(h:¬(j<l.length∧j<n)):eW f l j=eW f l n:=by
 have:j=n∨j=l.length:=by omega
 rcases this with rfl|rfl
 ·rfl
 ·unfold eW;rw[List.take_length,List.take_of_length_le h2]
def wE (x:FT):FT:=⟨x.pr.take 34,x.rs.take 3⟩
def tN (x:Im):Im:=⟨x.mod.take 20,x.nm.take 20,x.ty⟩
def AJ (x:Ex):Ex:=⟨x.nm.take 20,x.fn⟩
def CF (x:El):El:=⟨x.off,x.fs.take 55⟩
def CG (x:Co):Co:=⟨x.ls.take 34,kE x.bd 120⟩
def HS (x:Da):Da:=⟨x.off,x.bs.take 1010⟩
def AK (x:Gl):Gl:=x
def aBj (m:Md):Md:=⟨eW wE m.ty 18,eW tN m.im 18,m.fn.take 18,m.tb,m.me,eW AK m.gl 18,eW AJ m.ex 18,eW CF m.el 18,eW CG m.co 18,eW HS m.da 18⟩
structure Md.A (m:Md):Prop where
 ty:m.ty.length≤maxLen∧∀x∈m.ty,x.pr.length≤maxLen∧x.rs.length≤maxLen
 im:m.im.length≤maxLen∧∀x∈m.im,x.mod.length≤maxLen∧x.nm.length≤maxLen
 fn:m.fn.length≤maxLen
 gl:m.gl.length≤maxLen
 ex:m.ex.length≤maxLen∧∀x∈m.ex,x.nm.length≤maxLen
 el:m.el.length≤maxLen∧∀x∈m.el,x.fs.length≤maxLen
 co:m.co.length≤maxLen∧∀x∈m.co,x.ls.length≤maxLen∧x.bd.length≤maxLen∧∀i∈x.bd,i.l.length≤maxLen
 da:m.da.length≤maxLen∧∀x∈m.da,x.bs.length≤maxLen
theorem rU{a b:Nat}{x:Nat}(h:(if decide ((x:Int)<(a:Nat))=true then decide ((x:Int)<(b:Nat))else false)=true):x<a∧x<b:=by
 rw[nE]at h;simp only[Bool.and_eq_true,decide_eq_true_eq]at h;omega
theorem rG{a b:Nat}{x:Nat}(h:(if decide ((x:Int)<(a:Nat))=true then decide ((x:Int)<(b:Nat))else false)=false):¬(x<a∧x<b):=by
 rintro⟨h1,h2⟩;rw[decide_eq_true (by omega),if_pos rfl,decide_eq_true (by omega)]at h;cases h
theorem sQ(l:List Int)(hl:l.length≤maxLen)(n:Nat)(hn:n≤1000):SCall Tryz.prog 53 [.ro 1 (l.map aP) .any,.int .i64 n] [] (fun y σ=>∃q,y=.own q 0 (l.take n).length∧σ=[(q,.arr 3 1 ((l.take n).map aP))]):=by
 unfold maxLen at hl;refine cF 26 [0,1,4,5,6,15] Tryz.func53 ?_;refine oJ ?_;refine bW 5 3 1 (by decide) rfl (by decide) (bL fun q0 hq0=> ?_);repeat rcases hq0 with⟨_,hq0⟩
 refine sF ?_;refine lp (β:=Nat×Nat) (fun b=>⟨[(0,.ro 1 (l.map aP) .any),(1,.int .i64 n),(5,.own b.1 0 (l.take b.2).length),(6,.int .i64 b.2)],[(b.1,.arr 3 1 ((l.take b.2).map aP))]⟩) (fun b=>b.2≤n∧b.2≤l.length) (fun b=>n-b.2) (q0,0) aL ⟨Nat.zero_le _,Nat.zero_le _⟩ ?_;rintro⟨q,j⟩ ⟨hj,hjl⟩;dsimp only at hj hjl⊢;refine eX ?_;refine kU ?_;refine vG ?_;refine pW ?_;refine aEp ?_;refine vH ?_;refine aB rfl (fun g3=> ?_) (fun g3=> ?_)
 ·obtain⟨hl1,hl2⟩:=rU g3;obtain⟨x,hx⟩:∃x,l[j]? =some x:=⟨_,List.getElem?_eq_getElem hl1⟩
  have hnx:l.take (j+1)=l.take j++ [x]:=by rw[List.take_add_one,hx];rfl
  have htl:(l.take j).length=j:=by simp;omega
  refine eX ?_;refine nJ ?_;refine eN fun r23 h23=> ?_;intros
  refine iY ((l.take j++ [x]).map aP) (l.take j++ [x]).length ?_;refine bH fun r24 h24=> ?_;intros
  refine hZ ?_;refine GM ?_;refine⟨(r24,j+1),⟨hl2,hl1⟩,by show n-(j+1)<n-j;omega, ?_⟩;dsimp only;rw[hnx];exact aL
 have he:l.take j=l.take n:=by have:=rG g3;have:j=n∨j=l.length:=(by omega);rcases this with rfl|rfl;rfl;rw[List.take_length,List.take_of_length_le hj]
 rw[he];refine fA ?_;exact aE aF ⟨q,by rfl,rfl⟩ aA
theorem HT(s:List Nat)(hl:s.length≤maxLen):SCall Tryz.prog 54 [.str (dC s)] [] (fun y σ=>y=.str (dC (s.take 20))∧σ=[]):=by
 unfold maxLen at hl;refine cF 9 [0,2,5] Tryz.func54 ?_;refine iD ?_;refine lo (fU (E rfl)) rfl ?_;rw[jC];refine PC ?_;refine aB rfl (fun g1=> ?_) (fun g1=> ?_)
 ·have hlt:20<s.length:=by simp at g1;omega
  have hE:s.take 20=(s.drop 0).take (20-0):=rfl;refine dM ?_;refine lo (xT (h:=20) (E rfl) OB.none (OB.some (E rfl) (fun _=>rfl)) (fun _=>⟨Nat.zero_le _,by omega⟩)) rfl ?_;refine dE ?_;exact aE aF ⟨by rw[hE];rfl,rfl⟩ aA
 have hE:s.take 20=s:=List.take_of_length_le (by simp at g1;omega);refine fA ?_;exact aE aF ⟨by rw[hE];rfl,rfl⟩ aA
theorem aDq(m:Md)(h:m.A):SCall Tryz.prog 17 [.agg (bR m)] [] (fun y σ=>y=.agg (bR (aBj m))∧σ=[]):=by
 obtain⟨⟨kz1,kz2⟩,⟨kz3,kz4⟩,kz5,kz6,⟨kz7,kz8⟩,⟨kz9,kz10⟩,⟨kz11,kz12⟩,⟨kz13,kz14⟩⟩:=h;obtain⟨ty,im,fn,tb,me,gl,ex,el,co,da⟩:=m;dsimp only at kz1 kz2 kz3 kz4 kz5 kz6 kz7 kz8 kz9 kz10 kz11 kz12 kz13 kz14;have ky1:=kz1;have ky3:=kz3;have ky6:=kz6;have ky7:=kz7;have ky9:=kz9;have ky11:=kz11;have ky13:=kz13;unfold maxLen at ky1 ky3 ky6 ky7 ky9 ky11 ky13;refine cF 231 [0,1,2,3,4,5,6,7,8,9,10,27,58,95,116,146,176,207] Tryz.func17 ?_;unfold bR;dsimp only;refine dX ?_;refine iQ fun r1 h1=> ?_;intros
 refine jU fun r2 h2=> ?_;intros
 refine lD ?_;refine WZ (β:=Nat×Nat) (fun b=>⟨[(1,.ptr r1 0),(2,.ptr r2 0),(3,.ptr b.1 0)],[(b.1,.box 33 [.ro 0 [] .nil,.ro 0 [] .nil,.own b.2 0 (fn.take 18).length,.bool tb.has,.int .i64 tb.mn,.int .i64 tb.mx,.bool me.has,.int .i64 me.mn,.int .i64 me.mx,.ro 0 [] .nil,.ro 0 [] .nil,.ro 0 [] .nil,.ro 0 [] .nil,.ro 0 [] .nil]),(b.2,.arr 3 1 ((fn.take 18).map aP)),(r1,.box 33 (bR ⟨ty,im,fn,tb,me,gl,ex,el,co,da⟩)),(r2,.box 33 [.ro 0 [] .nil,.ro 0 [] .nil,.ro 0 [] .nil,.bool false,.int .i64 0,.int .i64 0,.bool false,.int .i64 0,.int .i64 0,.ro 0 [] .nil,.ro 0 [] .nil,.ro 0 [] .nil,.ro 0 [] .nil,.ro 0 [] .nil])]⟩) (fun b=>(Nq b.1 b.2∧Nq b.1 r1∧Nq b.1 r2)∧Nq b.2 r1∧Nq b.2 r2) ?_ ?_
 ·refine fM [(0,true),(1,true),(3,true),(4,true),(5,true),(6,true),(10,false),(10,false),(10,false),(10,false)] ?_;refine fX ?_;refine OW ?_;refine DJ ?_;refine OW ?_;refine DJ ?_;refine jD 2 8 [(7,true),(8,false),(9,false)] [(2,false),(7,true),(9,false)] (f1:=[]) (f2:=[]) (by kernel_rfl) rfl rfl ?_ ?_ (.inl rfl) (.inl rfl)
  ·refine kO Tryz.call53 (sQ fn kz5 18 (by decide)) (cW rfl) ?_;rintro _ σ' ⟨q13,rfl,rfl⟩ h13
   replace h13:=cL h13;repeat rcases h13 with⟨_,h13⟩
   apply bZ;exact bN;refine XB ?_;apply dal;rfl;infer_instance;rfl;exact wY;refine jZ fun r3 h3=> ?_;intros
   refine z95 ?_;refine xA ?_;refine an ?_;exact⟨(r3,q13),⟨⟨by show Nq r3 q13;(exact bV),by show Nq r3 r1;(exact bV),by show Nq r3 r2;(exact bV)⟩,by show Nq q13 r1;(exact bV),by show Nq q13 r2;(exact bV)⟩,aL⟩
  ·apply aHA;infer_instance;rfl;exact wY;refine bL fun r3 h3=> ?_;repeat rcases h3 with⟨_,h3⟩
   refine lO rfl Tryz.call53 (sQ fn kz5 18 (by decide)) rfl bU kD ?_;rintro _ σ' ⟨q13,rfl,rfl⟩ h13
   replace h13:=cL h13;repeat rcases h13 with⟨_,h13⟩
   apply bZ;exact bN;refine XB ?_;refine z95 ?_;refine xA ?_;refine an ?_;exact⟨(r3,q13),⟨⟨by show Nq r3 q13;(exact bV),by show Nq r3 r1;(exact bV),by show Nq r3 r2;(exact bV)⟩,by show Nq q13 r1;(exact bV),by show Nq q13 r2;(exact bV)⟩,aL⟩
 rintro⟨r3,q13⟩ ⟨⟨n1,n2,n3⟩,n4,n5⟩;dsimp only at n1 n2 n3 n4 n5⊢;refine dQ (gC (r:=r3) (q:=q13) cA aU (.cons (.refl _) (.cons (.refl _) (.cons (aK bA (by simp)) (.cons (.refl _) (.cons (.refl _) (.cons (.refl _) (.cons (.refl _) (.cons (.refl _) (.cons (.refl _) (.cons (.refl _) (.cons (.refl _) (.cons (.refl _) (.cons (.refl _) (.cons (.refl _) .nil))))))))))))))) ?_;unfold bR;dsimp only;refine bM ?_;refine cM (ks:=[0,1,2,3,4,5,6,7,8,9,10,27,58,95,116,146,176,207]) r3 0 50 2 (by decide) bA rfl (by decide) fun qty hqty=> ?_
 simp only[aO,aT,and_true]at hqty;repeat rcases hqty with⟨_,hqty⟩
 apply Exists.intro;apply And.intro;exact cA;refine lp (β:=Nat×Nat) (fun b=>⟨[(1,.ptr r1 0),(2,.ptr r2 0),(3,.ptr r3 0),(4,.int .i64 b.2)],[(r3,.box 33 [.own b.1 0 (eW wE ty b.2).length,.ro 0 [] .nil,.ro 1 ((fn.take 18).map aP) .any,.bool tb.has,.int .i64 tb.mn,.int .i64 tb.mx,.bool me.has,.int .i64 me.mn,.int .i64 me.mx,.ro 0 [] .nil,.ro 0 [] .nil,.ro 0 [] .nil,.ro 0 [] .nil,.ro 0 [] .nil]),(b.1,.arr 50 2 ((eW wE ty b.2).map dD)),(r1,.box 33 (bR ⟨ty,im,fn,tb,me,gl,ex,el,co,da⟩)),(r2,.box 33 [.ro 0 [] .nil,.ro 0 [] .nil,.ro 0 [] .nil,.bool false,.int .i64 0,.int .i64 0,.bool false,.int .i64 0,.int .i64 0,.ro 0 [] .nil,.ro 0 [] .nil,.ro 0 [] .nil,.ro 0 [] .nil,.ro 0 [] .nil])]⟩) (fun b=>(b.2≤ty.length∧b.2≤18)∧Nq b.1 r1∧Nq b.1 r2∧Nq b.1 r3) (fun b=>18-b.2) (qty,0) aL ⟨⟨Nat.zero_le _,Nat.zero_le _⟩,by show Nq qty r1;(exact bV),by show Nq qty r2;(exact bV),by show Nq qty r3;(exact bV)⟩ ?_;rintro⟨q1,j⟩ ⟨⟨hj1,hj2⟩,e1,e2,e3⟩;dsimp only at hj1 hj2 e1 e2 e3⊢;unfold bR;dsimp only;refine kA ?_;refine kU ?_;refine vG ?_;refine DM ?_;refine vH ?_;refine aB rfl (fun g3=> ?_) (fun g3=> ?_)
 ·obtain⟨hl1,hl2⟩:=rU (b:=18) g3;obtain⟨⟨pr,rs⟩,hx⟩:∃x,ty[j]? =some x:=⟨_,List.getElem?_eq_getElem hl1⟩
  have hol:=qI (f:=wE) hj1;have hnx:=nU (f:=wE) hx;obtain⟨hp1,hp2⟩:=kz2 _ (List.mem_of_getElem? hx);dsimp only at hp1 hp2;refine aJ ?_;refine fM [(0,true),(1,true),(2,true),(3,true),(4,true),(5,true),(6,true),(7,true),(9,true),(10,true),(11,true),(12,true),(13,true),(14,true),(8,false),(15,false),(16,true),(17,false),(18,false),(19,true),(20,false)] ?_;refine fX ?_;refine pY ?_;refine pY ?_;refine lO rfl Tryz.call53 (sQ pr hp1 34 (by decide)) rfl bU kD ?_;rintro _ σ' ⟨q38,rfl,rfl⟩ h38
  replace h38:=cL h38;repeat rcases h38 with⟨_,h38⟩
  apply bZ;exact bN;refine VL (j:=38) rfl aU (aK bA (by simp)) ?_;refine lO rfl Tryz.call53 (sQ rs hp2 3 (by decide)) rfl bU kD ?_;rintro _ σ' ⟨q45,rfl,rfl⟩ h45
  replace h45:=cL h45;repeat rcases h45 with⟨_,h45⟩
  apply bZ;exact bN;refine VL (j:=45) rfl aU (aK bA (by simp)) ?_;refine XB ?_;refine DQ fun r47 h47=> ?_;intros
  refine fB rfl ((eW wE ty j++ [wE ⟨pr,rs⟩]).map dD) (eW wE ty j++ [wE ⟨pr,rs⟩]).length ?_;refine bH fun r48 h48=> ?_;intros
  refine mJ ?_;refine xA ?_;refine lY ?_;refine⟨(r48,j+1),⟨⟨hl1,hl2⟩,by show Nq r48 r1;(exact bV),by show Nq r48 r2;(exact bV),by show Nq r48 r3;(exact bV)⟩,by show 18-(j+1)<18-j;omega, ?_⟩;dsimp only;rw[hnx];exact aL
 have he:=qJ (f:=wE) hj1 hj2 (rG (b:=18) g3);rw[he];refine dQ (gC (r:=r3) (q:=q1) cA aU (.cons (aK bA (by simp)) (.cons (.refl _) (.cons (.refl _) (.cons (.refl _) (.cons (.refl _) (.cons (.refl _) (.cons (.refl _) (.cons (.refl _) (.cons (.refl _) (.cons (.refl _) (.cons (.refl _) (.cons (.refl _) (.cons (.refl _) (.cons (.refl _) .nil))))))))))))))) ?_;refine bM ?_;refine cM (ks:=[0,1,2,3,4,5,6,7,8,9,10,27,58,95,116,146,176,207]) r3 1 64 3 (by decide) bA rfl (by decide) fun qim hqim=> ?_
 simp only[aO,aT,and_true]at hqim;repeat rcases hqim with⟨_,hqim⟩
 apply Exists.intro;apply And.intro;exact cA;refine lp (β:=Nat×Nat) (fun b=>⟨[(1,.ptr r1 0),(2,.ptr r2 0),(3,.ptr r3 0),(5,.int .i64 b.2)],[(r3,.box 33 [.ro 2 ((eW wE ty 18).map dD) .any,.own b.1 0 (eW tN im b.2).length,.ro 1 ((fn.take 18).map aP) .any,.bool tb.has,.int .i64 tb.mn,.int .i64 tb.mx,.bool me.has,.int .i64 me.mn,.int .i64 me.mx,.ro 0 [] .nil,.ro 0 [] .nil,.ro 0 [] .nil,.ro 0 [] .nil,.ro 0 [] .nil]),(b.1,.arr 64 3 ((eW tN im b.2).map eM)),(r1,.box 33 (bR ⟨ty,im,fn,tb,me,gl,ex,el,co,da⟩)),(r2,.box 33 [.ro 0 [] .nil,.ro 0 [] .nil,.ro 0 [] .nil,.bool false,.int .i64 0,.int .i64 0,.bool false,.int .i64 0,.int .i64 0,.ro 0 [] .nil,.ro 0 [] .nil,.ro 0 [] .nil,.ro 0 [] .nil,.ro 0 [] .nil])]⟩) (fun b=>(b.2≤im.length∧b.2≤18)∧Nq b.1 r1∧Nq b.1 r2∧Nq b.1 r3) (fun b=>18-b.2) (qim,0) aL ⟨⟨Nat.zero_le _,Nat.zero_le _⟩,by show Nq qim r1;(exact bV),by show Nq qim r2;(exact bV),by show Nq qim r3;(exact bV)⟩ ?_;rintro⟨q1,j⟩ ⟨⟨hj1,hj2⟩,e1,e2,e3⟩;dsimp only at hj1 hj2 e1 e2 e3⊢;unfold bR;dsimp only;refine kA ?_;refine kU ?_;refine vG ?_;refine DM ?_;refine vH ?_;refine aB rfl (fun g7=> ?_) (fun g7=> ?_)
 ·obtain⟨hl1,hl2⟩:=rU (b:=18) g7;obtain⟨⟨md,nm,tt⟩,hx⟩:∃x,im[j]? =some x:=⟨_,List.getElem?_eq_getElem hl1⟩
  have hol:=qI (f:=tN) hj1;have hnx:=nU (f:=tN) hx;obtain⟨hp1,hp2⟩:=kz4 _ (List.mem_of_getElem? hx);dsimp only at hp1 hp2;refine aJ ?_;refine fM [(0,true),(1,true),(2,true),(3,true),(4,true),(5,true),(6,true),(7,true),(9,true),(10,true),(11,true),(12,true),(13,true),(14,true),(16,true),(17,true),(18,true),(19,true),(20,true),(21,true),(8,false),(15,false),(22,true),(23,false),(24,false),(25,true),(26,false)] ?_;refine fX ?_;refine pY ?_;refine pY ?_;refine pY ?_;refine zU rfl Tryz.call54 (HT md hp1) rfl aR bB ?_;refine zU rfl Tryz.call54 (HT nm hp2) rfl aR bB ?_;refine XB ?_;refine DQ fun r84 h84=> ?_;intros
  refine fB rfl ((eW tN im j++ [tN ⟨md,nm,tt⟩]).map eM) (eW tN im j++ [tN ⟨md,nm,tt⟩]).length ?_;refine bH fun r85 h85=> ?_;intros
  refine mJ ?_;refine xA ?_;refine lY ?_;refine⟨(r85,j+1),⟨⟨hl1,hl2⟩,by show Nq r85 r1;(exact bV),by show Nq r85 r2;(exact bV),by show Nq r85 r3;(exact bV)⟩,by show 18-(j+1)<18-j;omega, ?_⟩;dsimp only;rw[hnx];exact aL
 have he:=qJ (f:=tN) hj1 hj2 (rG (b:=18) g7);rw[he];refine dQ (gC (r:=r3) (q:=q1) cA aU (.cons (.refl _) (.cons (aK bA (by simp)) (.cons (.refl _) (.cons (.refl _) (.cons (.refl _) (.cons (.refl _) (.cons (.refl _) (.cons (.refl _) (.cons (.refl _) (.cons (.refl _) (.cons (.refl _) (.cons (.refl _) (.cons (.refl _) (.cons (.refl _) .nil))))))))))))))) ?_;refine bM ?_;refine cM (ks:=[0,1,2,3,4,5,6,7,8,9,10,27,58,95,116,146,176,207]) r3 9 73 3 (by decide) bA rfl (by decide) fun qgl hqgl=> ?_
 simp only[aO,aT,and_true]at hqgl;repeat rcases hqgl with⟨_,hqgl⟩
 apply Exists.intro;apply And.intro;exact cA;refine lp (β:=Nat×Nat) (fun b=>⟨[(1,.ptr r1 0),(2,.ptr r2 0),(3,.ptr r3 0),(6,.int .i64 b.2)],[(r3,.box 33 [.ro 2 ((eW wE ty 18).map dD) .any,.ro 3 ((eW tN im 18).map eM) .any,.ro 1 ((fn.take 18).map aP) .any,.bool tb.has,.int .i64 tb.mn,.int .i64 tb.mx,.bool me.has,.int .i64 me.mn,.int .i64 me.mx,.own b.1 0 (eW AK gl b.2).length,.ro 0 [] .nil,.ro 0 [] .nil,.ro 0 [] .nil,.ro 0 [] .nil]),(b.1,.arr 73 3 ((eW AK gl b.2).map dZ)),(r1,.box 33 (bR ⟨ty,im,fn,tb,me,gl,ex,el,co,da⟩)),(r2,.box 33 [.ro 0 [] .nil,.ro 0 [] .nil,.ro 0 [] .nil,.bool false,.int .i64 0,.int .i64 0,.bool false,.int .i64 0,.int .i64 0,.ro 0 [] .nil,.ro 0 [] .nil,.ro 0 [] .nil,.ro 0 [] .nil,.ro 0 [] .nil])]⟩) (fun b=>(b.2≤gl.length∧b.2≤18)∧Nq b.1 r1∧Nq b.1 r2∧Nq b.1 r3) (fun b=>18-b.2) (qgl,0) aL ⟨⟨Nat.zero_le _,Nat.zero_le _⟩,by show Nq qgl r1;(exact bV),by show Nq qgl r2;(exact bV),by show Nq qgl r3;(exact bV)⟩ ?_;rintro⟨q1,j⟩ ⟨⟨hj1,hj2⟩,e1,e2,e3⟩;dsimp only at hj1 hj2 e1 e2 e3⊢;unfold bR;dsimp only;refine kA ?_;refine kU ?_;refine vG ?_;refine DM ?_;refine vH ?_;refine aB rfl (fun g11=> ?_) (fun g11=> ?_)
 ·obtain⟨hl1,hl2⟩:=rU (b:=18) g11;obtain⟨x,hx⟩:∃x,gl[j]? =some x:=⟨_,List.getElem?_eq_getElem hl1⟩
  have hol:=qI (f:=AK) hj1;have hnx:=nU (f:=AK) hx;refine aJ ?_;refine fM [(0,true),(1,true),(2,true),(3,true),(4,true),(5,true),(6,true),(7,false),(8,false),(9,true),(10,false)] ?_;refine fX ?_;refine fX ?_;refine aAO ?_;refine xB ?_;refine DQ fun r105 h105=> ?_;intros
  refine fB rfl ((eW AK gl j++ [AK x]).map dZ) (eW AK gl j++ [AK x]).length ?_;refine bH fun r106 h106=> ?_;intros
  refine mJ ?_;refine xA ?_;refine lY ?_;refine⟨(r106,j+1),⟨⟨hl1,hl2⟩,by show Nq r106 r1;(exact bV),by show Nq r106 r2;(exact bV),by show Nq r106 r3;(exact bV)⟩,by show 18-(j+1)<18-j;omega, ?_⟩;dsimp only;rw[hnx];exact aL
 have he:=qJ (f:=AK) hj1 hj2 (rG (b:=18) g11);rw[he];refine dQ (gC (r:=r3) (q:=q1) cA aU (.cons (.refl _) (.cons (.refl _) (.cons (.refl _) (.cons (.refl _) (.cons (.refl _) (.cons (.refl _) (.cons (.refl _) (.cons (.refl _) (.cons (.refl _) (.cons (aK bA (by simp)) (.cons (.refl _) (.cons (.refl _) (.cons (.refl _) (.cons (.refl _) .nil))))))))))))))) ?_;refine bM ?_;refine cM (ks:=[0,1,2,3,4,5,6,7,8,9,10,27,58,95,116,146,176,207]) r3 10 66 2 (by decide) bA rfl (by decide) fun qex hqex=> ?_
 simp only[aO,aT,and_true]at hqex;repeat rcases hqex with⟨_,hqex⟩
 apply Exists.intro;apply And.intro;exact cA;refine lp (β:=Nat×Nat) (fun b=>⟨[(1,.ptr r1 0),(2,.ptr r2 0),(3,.ptr r3 0),(7,.int .i64 b.2)],[(r3,.box 33 [.ro 2 ((eW wE ty 18).map dD) .any,.ro 3 ((eW tN im 18).map eM) .any,.ro 1 ((fn.take 18).map aP) .any,.bool tb.has,.int .i64 tb.mn,.int .i64 tb.mx,.bool me.has,.int .i64 me.mn,.int .i64 me.mx,.ro 3 ((eW AK gl 18).map dZ) .any,.own b.1 0 (eW AJ ex b.2).length,.ro 0 [] .nil,.ro 0 [] .nil,.ro 0 [] .nil]),(b.1,.arr 66 2 ((eW AJ ex b.2).map eA)),(r1,.box 33 (bR ⟨ty,im,fn,tb,me,gl,ex,el,co,da⟩)),(r2,.box 33 [.ro 0 [] .nil,.ro 0 [] .nil,.ro 0 [] .nil,.bool false,.int .i64 0,.int .i64 0,.bool false,.int .i64 0,.int .i64 0,.ro 0 [] .nil,.ro 0 [] .nil,.ro 0 [] .nil,.ro 0 [] .nil,.ro 0 [] .nil])]⟩) (fun b=>(b.2≤ex.length∧b.2≤18)∧Nq b.1 r1∧Nq b.1 r2∧Nq b.1 r3) (fun b=>18-b.2) (qex,0) aL ⟨⟨Nat.zero_le _,Nat.zero_le _⟩,by show Nq qex r1;(exact bV),by show Nq qex r2;(exact bV),by show Nq qex r3;(exact bV)⟩ ?_;rintro⟨q1,j⟩ ⟨⟨hj1,hj2⟩,e1,e2,e3⟩;dsimp only at hj1 hj2 e1 e2 e3⊢;unfold bR;dsimp only;refine kA ?_;refine kU ?_;refine vG ?_;refine DM ?_;refine vH ?_;refine aB rfl (fun g15=> ?_) (fun g15=> ?_)
 ·obtain⟨hl1,hl2⟩:=rU (b:=18) g15;obtain⟨⟨nm,ff⟩,hx⟩:∃x,ex[j]? =some x:=⟨_,List.getElem?_eq_getElem hl1⟩
  have hol:=qI (f:=AJ) hj1;have hnx:=nU (f:=AJ) hx;have hp1:=kz8 _ (List.mem_of_getElem? hx);dsimp only at hp1;refine aJ ?_;refine fM [(0,true),(1,true),(2,true),(3,true),(4,true),(5,true),(6,true),(7,true),(9,true),(10,true),(11,true),(12,true),(13,true),(14,true),(8,false),(15,true),(16,false),(17,false),(18,true),(19,false)] ?_;refine fX ?_;refine pY ?_;refine pY ?_;refine zU rfl Tryz.call54 (HT nm hp1) rfl aR bB ?_;refine XB ?_;refine DQ fun r135 h135=> ?_;intros
  refine fB rfl ((eW AJ ex j++ [AJ ⟨nm,ff⟩]).map eA) (eW AJ ex j++ [AJ ⟨nm,ff⟩]).length ?_;refine bH fun r136 h136=> ?_;intros
  refine mJ ?_;refine xA ?_;refine lY ?_;refine⟨(r136,j+1),⟨⟨hl1,hl2⟩,by show Nq r136 r1;(exact bV),by show Nq r136 r2;(exact bV),by show Nq r136 r3;(exact bV)⟩,by show 18-(j+1)<18-j;omega, ?_⟩;dsimp only;rw[hnx];exact aL
 have he:=qJ (f:=AJ) hj1 hj2 (rG (b:=18) g15);rw[he];refine dQ (gC (r:=r3) (q:=q1) cA aU (.cons (.refl _) (.cons (.refl _) (.cons (.refl _) (.cons (.refl _) (.cons (.refl _) (.cons (.refl _) (.cons (.refl _) (.cons (.refl _) (.cons (.refl _) (.cons (.refl _) (.cons (aK bA (by simp)) (.cons (.refl _) (.cons (.refl _) (.cons (.refl _) .nil))))))))))))))) ?_;refine bM ?_;refine cM (ks:=[0,1,2,3,4,5,6,7,8,9,10,27,58,95,116,146,176,207]) r3 11 69 2 (by decide) bA rfl (by decide) fun qel hqel=> ?_
 simp only[aO,aT,and_true]at hqel;repeat rcases hqel with⟨_,hqel⟩
 apply Exists.intro;apply And.intro;exact cA;refine lp (β:=Nat×Nat) (fun b=>⟨[(1,.ptr r1 0),(2,.ptr r2 0),(3,.ptr r3 0),(8,.int .i64 b.2)],[(r3,.box 33 [.ro 2 ((eW wE ty 18).map dD) .any,.ro 3 ((eW tN im 18).map eM) .any,.ro 1 ((fn.take 18).map aP) .any,.bool tb.has,.int .i64 tb.mn,.int .i64 tb.mx,.bool me.has,.int .i64 me.mn,.int .i64 me.mx,.ro 3 ((eW AK gl 18).map dZ) .any,.ro 2 ((eW AJ ex 18).map eA) .any,.own b.1 0 (eW CF el b.2).length,.ro 0 [] .nil,.ro 0 [] .nil]),(b.1,.arr 69 2 ((eW CF el b.2).map dY)),(r1,.box 33 (bR ⟨ty,im,fn,tb,me,gl,ex,el,co,da⟩)),(r2,.box 33 [.ro 0 [] .nil,.ro 0 [] .nil,.ro 0 [] .nil,.bool false,.int .i64 0,.int .i64 0,.bool false,.int .i64 0,.int .i64 0,.ro 0 [] .nil,.ro 0 [] .nil,.ro 0 [] .nil,.ro 0 [] .nil,.ro 0 [] .nil])]⟩) (fun b=>(b.2≤el.length∧b.2≤18)∧Nq b.1 r1∧Nq b.1 r2∧Nq b.1 r3) (fun b=>18-b.2) (qel,0) aL ⟨⟨Nat.zero_le _,Nat.zero_le _⟩,by show Nq qel r1;(exact bV),by show Nq qel r2;(exact bV),by show Nq qel r3;(exact bV)⟩ ?_;rintro⟨q1,j⟩ ⟨⟨hj1,hj2⟩,e1,e2,e3⟩;dsimp only at hj1 hj2 e1 e2 e3⊢;unfold bR;dsimp only;refine kA ?_;refine kU ?_;refine vG ?_;refine DM ?_;refine vH ?_;refine aB rfl (fun g19=> ?_) (fun g19=> ?_)
 ·obtain⟨hl1,hl2⟩:=rU (b:=18) g19;obtain⟨⟨oo,fs⟩,hx⟩:∃x,el[j]? =some x:=⟨_,List.getElem?_eq_getElem hl1⟩
  have hol:=qI (f:=CF) hj1;have hnx:=nU (f:=CF) hx;have hp1:=kz10 _ (List.mem_of_getElem? hx);dsimp only at hp1;refine aJ ?_;refine fM [(0,true),(1,true),(2,true),(3,true),(4,true),(5,true),(6,true),(7,true),(8,true),(9,true),(10,true),(11,true),(12,true),(13,true),(14,false),(15,true),(16,false),(17,false),(18,true),(19,false)] ?_;refine fX ?_;refine pY ?_;refine pY ?_;refine lO rfl Tryz.call53 (sQ fs hp1 55 (by decide)) rfl bU kD ?_;rintro _ σ' ⟨q163,rfl,rfl⟩ h163
  replace h163:=cL h163;repeat rcases h163 with⟨_,h163⟩
  apply bZ;exact bN;refine VL (j:=163) rfl aU (aK bA (by simp)) ?_;refine XB ?_;refine DQ fun r165 h165=> ?_;intros
  refine fB rfl ((eW CF el j++ [CF ⟨oo,fs⟩]).map dY) (eW CF el j++ [CF ⟨oo,fs⟩]).length ?_;refine bH fun r166 h166=> ?_;intros
  refine mJ ?_;refine xA ?_;refine lY ?_;refine⟨(r166,j+1),⟨⟨hl1,hl2⟩,by show Nq r166 r1;(exact bV),by show Nq r166 r2;(exact bV),by show Nq r166 r3;(exact bV)⟩,by show 18-(j+1)<18-j;omega, ?_⟩;dsimp only;rw[hnx];exact aL
 have he:=qJ (f:=CF) hj1 hj2 (rG (b:=18) g19);rw[he];refine dQ (gC (r:=r3) (q:=q1) cA aU (.cons (.refl _) (.cons (.refl _) (.cons (.refl _) (.cons (.refl _) (.cons (.refl _) (.cons (.refl _) (.cons (.refl _) (.cons (.refl _) (.cons (.refl _) (.cons (.refl _) (.cons (.refl _) (.cons (aK bA (by simp)) (.cons (.refl _) (.cons (.refl _) .nil))))))))))))))) ?_;refine bM ?_;refine cM (ks:=[0,1,2,3,4,5,6,7,8,9,10,27,58,95,116,146,176,207]) r3 12 44 2 (by decide) bA rfl (by decide) fun qco hqco=> ?_
 simp only[aO,aT,and_true]at hqco;repeat rcases hqco with⟨_,hqco⟩
 apply Exists.intro;apply And.intro;exact cA;refine lp (β:=Nat×Nat) (fun b=>⟨[(1,.ptr r1 0),(2,.ptr r2 0),(3,.ptr r3 0),(9,.int .i64 b.2)],[(r3,.box 33 [.ro 2 ((eW wE ty 18).map dD) .any,.ro 3 ((eW tN im 18).map eM) .any,.ro 1 ((fn.take 18).map aP) .any,.bool tb.has,.int .i64 tb.mn,.int .i64 tb.mx,.bool me.has,.int .i64 me.mn,.int .i64 me.mx,.ro 3 ((eW AK gl 18).map dZ) .any,.ro 2 ((eW AJ ex 18).map eA) .any,.ro 2 ((eW CF el 18).map dY) .any,.own b.1 0 (eW CG co b.2).length,.ro 0 [] .nil]),(b.1,.arr 44 2 ((eW CG co b.2).map dA)),(r1,.box 33 (bR ⟨ty,im,fn,tb,me,gl,ex,el,co,da⟩)),(r2,.box 33 [.ro 0 [] .nil,.ro 0 [] .nil,.ro 0 [] .nil,.bool false,.int .i64 0,.int .i64 0,.bool false,.int .i64 0,.int .i64 0,.ro 0 [] .nil,.ro 0 [] .nil,.ro 0 [] .nil,.ro 0 [] .nil,.ro 0 [] .nil])]⟩) (fun b=>(b.2≤co.length∧b.2≤18)∧Nq b.1 r1∧Nq b.1 r2∧Nq b.1 r3) (fun b=>18-b.2) (qco,0) aL ⟨⟨Nat.zero_le _,Nat.zero_le _⟩,by show Nq qco r1;(exact bV),by show Nq qco r2;(exact bV),by show Nq qco r3;(exact bV)⟩ ?_;rintro⟨q1,j⟩ ⟨⟨hj1,hj2⟩,e1,e2,e3⟩;dsimp only at hj1 hj2 e1 e2 e3⊢;unfold bR;dsimp only;refine kA ?_;refine kU ?_;refine vG ?_;refine DM ?_;refine vH ?_;refine aB rfl (fun g23=> ?_) (fun g23=> ?_)
 ·obtain⟨hl1,hl2⟩:=rU (b:=18) g23;obtain⟨⟨ls,bd⟩,hx⟩:∃x,co[j]? =some x:=⟨_,List.getElem?_eq_getElem hl1⟩
  have hol:=qI (f:=CG) hj1;have hnx:=nU (f:=CG) hx;obtain⟨hp1,hp2,hp3⟩:=kz12 _ (List.mem_of_getElem? hx);dsimp only at hp1 hp2 hp3;refine aJ ?_;refine fM [(0,true),(1,true),(2,true),(3,true),(4,true),(5,true),(6,true),(7,true),(9,true),(10,true),(11,true),(12,true),(13,true),(14,true),(8,false),(15,false),(16,true),(17,false),(18,false),(19,true),(20,false)] ?_;refine fX ?_;refine pY ?_;refine pY ?_;refine lO rfl Tryz.call53 (sQ ls hp1 34 (by decide)) rfl bU kD ?_;rintro _ σ' ⟨q187,rfl,rfl⟩ h187
  replace h187:=cL h187;repeat rcases h187 with⟨_,h187⟩
  apply bZ;exact bN;refine VL (j:=187) rfl aU (aK bA (by simp)) ?_;refine rW [] rfl Tryz.call26 (UC bd hp2 hp3 120 (by decide)) rfl aC aA fV ?_;rintro _ σ' ⟨q194,rfl,rfl⟩ h194
  replace h194:=gL h194;repeat rcases h194 with⟨_,h194⟩
  apply bZ;exact bN;refine VL (j:=194) rfl aU (aK bA (by simp)) ?_;refine XB ?_;refine DQ fun r196 h196=> ?_;intros
  refine fB rfl ((eW CG co j++ [CG ⟨ls,bd⟩]).map dA) (eW CG co j++ [CG ⟨ls,bd⟩]).length ?_;refine bH fun r197 h197=> ?_;intros
  refine mJ ?_;refine xA ?_;refine lY ?_;refine⟨(r197,j+1),⟨⟨hl1,hl2⟩,by show Nq r197 r1;(exact bV),by show Nq r197 r2;(exact bV),by show Nq r197 r3;(exact bV)⟩,by show 18-(j+1)<18-j;omega, ?_⟩;dsimp only;rw[hnx];exact aL
 have he:=qJ (f:=CG) hj1 hj2 (rG (b:=18) g23);rw[he];refine dQ (gC (r:=r3) (q:=q1) cA aU (.cons (.refl _) (.cons (.refl _) (.cons (.refl _) (.cons (.refl _) (.cons (.refl _) (.cons (.refl _) (.cons (.refl _) (.cons (.refl _) (.cons (.refl _) (.cons (.refl _) (.cons (.refl _) (.cons (.refl _) (.cons (aK bA (by simp)) (.cons (.refl _) .nil))))))))))))))) ?_;refine bM ?_;refine cM (ks:=[0,1,2,3,4,5,6,7,8,9,10,27,58,95,116,146,176,207]) r3 13 48 2 (by decide) bA rfl (by decide) fun qda hqda=> ?_
 simp only[aO,aT,and_true]at hqda;repeat rcases hqda with⟨_,hqda⟩
 apply Exists.intro;apply And.intro;exact cA;refine lp (β:=Nat×Nat) (fun b=>⟨[(1,.ptr r1 0),(2,.ptr r2 0),(3,.ptr r3 0),(10,.int .i64 b.2)],[(r3,.box 33 [.ro 2 ((eW wE ty 18).map dD) .any,.ro 3 ((eW tN im 18).map eM) .any,.ro 1 ((fn.take 18).map aP) .any,.bool tb.has,.int .i64 tb.mn,.int .i64 tb.mx,.bool me.has,.int .i64 me.mn,.int .i64 me.mx,.ro 3 ((eW AK gl 18).map dZ) .any,.ro 2 ((eW AJ ex 18).map eA) .any,.ro 2 ((eW CF el 18).map dY) .any,.ro 2 ((eW CG co 18).map dA) .any,.own b.1 0 (eW HS da b.2).length]),(b.1,.arr 48 2 ((eW HS da b.2).map eB)),(r1,.box 33 (bR ⟨ty,im,fn,tb,me,gl,ex,el,co,da⟩)),(r2,.box 33 [.ro 0 [] .nil,.ro 0 [] .nil,.ro 0 [] .nil,.bool false,.int .i64 0,.int .i64 0,.bool false,.int .i64 0,.int .i64 0,.ro 0 [] .nil,.ro 0 [] .nil,.ro 0 [] .nil,.ro 0 [] .nil,.ro 0 [] .nil])]⟩) (fun b=>(b.2≤da.length∧b.2≤18)∧Nq b.1 r1∧Nq b.1 r2∧Nq b.1 r3) (fun b=>18-b.2) (qda,0) aL ⟨⟨Nat.zero_le _,Nat.zero_le _⟩,by show Nq qda r1;(exact bV),by show Nq qda r2;(exact bV),by show Nq qda r3;(exact bV)⟩ ?_;rintro⟨q1,j⟩ ⟨⟨hj1,hj2⟩,e1,e2,e3⟩;dsimp only at hj1 hj2 e1 e2 e3⊢;unfold bR;dsimp only;refine kA ?_;refine kU ?_;refine vG ?_;refine DM ?_;refine vH ?_;refine aB rfl (fun g27=> ?_) (fun g27=> ?_)
 ·obtain⟨hl1,hl2⟩:=rU (b:=18) g27;obtain⟨⟨oo,bs⟩,hx⟩:∃x,da[j]? =some x:=⟨_,List.getElem?_eq_getElem hl1⟩
  have hol:=qI (f:=HS) hj1;have hnx:=nU (f:=HS) hx;have hp1:=kz14 _ (List.mem_of_getElem? hx);dsimp only at hp1;refine aJ ?_;refine fM [(0,true),(1,true),(2,true),(3,true),(4,true),(5,true),(6,true),(7,true),(8,true),(9,true),(10,true),(11,true),(12,true),(13,true),(14,false),(15,false),(16,true),(17,false),(18,false),(19,true),(20,false)] ?_;refine fX ?_;refine pY ?_;refine pY ?_;refine rW [] rfl Tryz.call55 (aA0 bs hp1 1010) rfl aC aA fV ?_;rintro _ σ' ⟨rfl,rfl⟩ h224;apply bZ;exact bN;refine aIk rfl ((bs.take 1010).map aG) (bs.take 1010).length ?_;refine jZ fun r225 h225=> ?_;intros
  refine VL (j:=225) rfl aU (aK bA (by simp)) ?_;refine XB ?_;refine DQ fun r227 h227=> ?_;intros
  refine fB rfl ((eW HS da j++ [HS ⟨oo,bs⟩]).map eB) (eW HS da j++ [HS ⟨oo,bs⟩]).length ?_;refine bH fun r228 h228=> ?_;intros
  refine mJ ?_;refine xA ?_;refine lY ?_;refine⟨(r228,j+1),⟨⟨hl1,hl2⟩,by show Nq r228 r1;(exact bV),by show Nq r228 r2;(exact bV),by show Nq r228 r3;(exact bV)⟩,by show 18-(j+1)<18-j;omega, ?_⟩;dsimp only;rw[hnx];exact aL
 have he:=qJ (f:=HS) hj1 hj2 (rG (b:=18) g27);rw[he];refine dQ (gC (r:=r3) (q:=q1) cA aU (.cons (.refl _) (.cons (.refl _) (.cons (.refl _) (.cons (.refl _) (.cons (.refl _) (.cons (.refl _) (.cons (.refl _) (.cons (.refl _) (.cons (.refl _) (.cons (.refl _) (.cons (.refl _) (.cons (.refl _) (.cons (.refl _) (.cons (aK bA (by simp)) .nil))))))))))))))) ?_;refine qB ?_;refine lW ?_;exact aE aF ⟨by rfl,rfl⟩ aA
end Go.Proofs.YtjpdadobblffmaaGreat
namespace Go.Proofs.YtjpdadobblffmaaGreat
open Go.RowKit Go.ChangeShapes Go.WideShapes Go.ChangeAt Go.Deep
def smallM:Md:=⟨[⟨[1,1],[1]⟩],[],[0],NJ,NJ,[],[⟨[97,100,100],0⟩],[],[⟨[],[⟨32,0,0,[]⟩,⟨32,1,0,[]⟩,⟨106,0,0,[]⟩]⟩],[]⟩
def fun0:Md:= { md0 with fn:=[0] }
theorem small_wo:smallM.WO:=by
 refine⟨⟨by simp[smallM], ?_, ?_,by simp[smallM],by simp[smallM]⟩, ?_,by simp[smallM]⟩
 ·intro x hx;obtain rfl:x=⟨[97,100,100],0⟩:=by simpa[smallM]using hx
  exact⟨by decide,by decide⟩
 ·intro x hx;obtain rfl:x=⟨[],[⟨32,0,0,[]⟩,⟨32,1,0,[]⟩,⟨106,0,0,[]⟩]⟩:=by simpa[smallM]using hx
  decide
 ·intro x hx;obtain rfl:x=⟨[],[⟨32,0,0,[]⟩,⟨32,1,0,[]⟩,⟨106,0,0,[]⟩]⟩:=by simpa[smallM]using hx
  intro i hi;simp only[List.mem_cons,List.not_mem_nil,or_false]at hi;rcases hi with rfl|rfl|rfl<;>exact⟨by decide,by decide,by decide,by decide,by decide⟩
theorem aF6:qZ smallM=true:=by decide
theorem aAn:(fH smallM).length≤8000∧8<(fH smallM).length:=by
 have h1:gG ⟨32,0,0,[]⟩=[32,0]:=by
  have f:aW 32=3:=by decide
  simp[gG,fR,f,uF]
 have h2:gG ⟨32,1,0,[]⟩=[32,1]:=by
  have f:aW 32=3:=by decide
  simp[gG,fR,f,uF]
 have h3:gG ⟨106,0,0,[]⟩=[106]:=by
  have f:aW 106=1:=by decide
  simp[gG,fR,f]
 have:(fH smallM).length=41:=by
  simp[fH,smallM,headB,bI,bC,uF,vT,kB,cG,nI,bQ,kH,cC,iR,h1,h2,h3,gP,NJ]
 omega
theorem CH:nR smallM=true:=by
 rw[wS,aF6,Bool.true_and];exact decide_eq_true aAn.1
theorem NU:oN smallM=fH smallM:=if_pos CH
theorem aBk:yL (oN smallM)=(smallM,0):=by rw[NU];exact aCX CH small_wo.ok
theorem aDr:∀c∈oN smallM,c<256:=aAf small_wo
theorem aF7:nR md0=true:=by
 have h:(fH md0).length=8:=by simp[fH,md0,headB,bI,gP,NJ]
 rw[wS,show qZ md0=true by decide,Bool.true_and,h];decide
theorem aF8:(oN md0).length=8:=by
 unfold oN;rw[if_pos aF7];simp[fH,md0,headB,bI,gP,NJ]
theorem aF9:fun0.WO:=⟨⟨by simp[fun0,md0],by simp[fun0,md0],by simp[fun0,md0],by simp[fun0,md0],by simp[fun0,md0]⟩,by simp[fun0,md0],by simp[fun0,md0]⟩
theorem aDs:nR fun0=false:=by rw[wS,show qZ fun0=false by decide];rfl
theorem aLv:yL [120]=(md0,1):=by
 unfold yL;rw[if_neg (by decide),if_pos (by decide)]
theorem aDt:eqM smallM md0=false:=by decide
end Go.Proofs.YtjpdadobblffmaaGreat
namespace Go.Proofs.YtjpdadobblffmaaGreat
open Go.RowKit Go.ChangeShapes Go.WideShapes Go.ChangeAt Go.Deep
attribute [local irreducible] SW RS RD fG eH
def aLw (x:Ins):List AV:=[.int .i64 x.op,.int .i64 x.a,.int .i64 x.b,.ro 0 [] .nil]
theorem qK{l:List Ins}(h:∀x∈l,x.l=[]){k:Rk}:VLe (.ro 4 (l.map aLw) k) (.ro 4 (l.map (iv .any)) k):=by
 refine VLe.ro (by simp) ?_ ?_
 ·intro x hx;simp only[List.mem_map]at hx;obtain⟨o,-,rfl⟩:=hx;exact⟨rfl,by simp[iv,AV.cell]⟩
 ·intro i e e' h1 h2;simp only[List.getElem?_map,Option.map_eq_some_iff]at h1 h2;obtain⟨o,ho,rfl⟩:=h1;obtain⟨o',ho',rfl⟩:=h2;obtain rfl:=Option.some.inj (ho.symm.trans ho');have hl:=h o (List.mem_of_getElem? ho);refine⟨rfl,fun j a a' ha ha'=> ?_⟩;unfold iv at ha';rw[hl]at ha'
  match j with
  |0=>cases ha;cases ha';exact VLe.refl _
  |1=>cases ha;cases ha';exact VLe.refl _
  |2=>cases ha;cases ha';exact VLe.refl _
  |3=>cases ha;cases ha';exact VLe.empty
  | _ +4=>cases ha
theorem aAo{es:List (List AV)}:VLe (.agg [.ro 0 [] .nil,.ro 4 es .any]) (.agg [.ro 1 ([].map aP) .any,.ro 4 es .any]):=by
 refine VLe.agg rfl fun j a a' ha ha'=> ?_
 match j with
 |0=>cases ha;cases ha';exact VLe.empty
 |1=>cases ha;cases ha';exact VLe.refl _
 | _ +2=>cases ha
theorem aAp:VLe (.agg [.ro 0 [] .nil,.ro 0 [] .nil,.ro 0 [] .nil,.bool false,.int .i64 0,.int .i64 0,.bool false,.int .i64 0,.int .i64 0,.ro 0 [] .nil,.ro 0 [] .nil,.ro 0 [] .nil,.ro 0 [] .nil,.ro 0 [] .nil]) (.agg (bR md0)):=by
 refine VLe.agg rfl fun j a a' ha ha'=> ?_
 match j with
 |0=>cases ha;cases ha';exact VLe.empty
 |1=>cases ha;cases ha';exact VLe.empty
 |2=>cases ha;cases ha';exact VLe.empty
 |3=>cases ha;cases ha';exact VLe.refl _
 |4=>cases ha;cases ha';exact VLe.refl _
 |5=>cases ha;cases ha';exact VLe.refl _
 |6=>cases ha;cases ha';exact VLe.refl _
 |7=>cases ha;cases ha';exact VLe.refl _
 |8=>cases ha;cases ha';exact VLe.refl _
 |9=>cases ha;cases ha';exact VLe.empty
 |10=>cases ha;cases ha';exact VLe.empty
 |11=>cases ha;cases ha';exact VLe.empty
 |12=>cases ha;cases ha';exact VLe.empty
 |13=>cases ha;cases ha';exact VLe.empty
 | _ +14=>cases ha
theorem aDu:VLe (.agg [.ro 0 [] .nil,.ro 0 [] .nil,.ro 1 [[.int .i64 0]] .any,.bool false,.int .i64 0,.int .i64 0,.bool false,.int .i64 0,.int .i64 0,.ro 0 [] .nil,.ro 0 [] .nil,.ro 0 [] .nil,.ro 0 [] .nil,.ro 0 [] .nil]) (.agg (bR fun0)):=by
 refine VLe.agg rfl fun j a a' ha ha'=> ?_
 match j with
 |0=>cases ha;cases ha';exact VLe.empty
 |1=>cases ha;cases ha';exact VLe.empty
 |2=>cases ha;cases ha';exact VLe.refl _
 |3=>cases ha;cases ha';exact VLe.refl _
 |4=>cases ha;cases ha';exact VLe.refl _
 |5=>cases ha;cases ha';exact VLe.refl _
 |6=>cases ha;cases ha';exact VLe.refl _
 |7=>cases ha;cases ha';exact VLe.refl _
 |8=>cases ha;cases ha';exact VLe.refl _
 |9=>cases ha;cases ha';exact VLe.empty
 |10=>cases ha;cases ha';exact VLe.empty
 |11=>cases ha;cases ha';exact VLe.empty
 |12=>cases ha;cases ha';exact VLe.empty
 |13=>cases ha;cases ha';exact VLe.empty
 | _ +14=>cases ha
def smallIs:List Ins:=[⟨32,0,0,[]⟩,⟨32,1,0,[]⟩,⟨106,0,0,[]⟩]
theorem NV:SCall Tryz.prog 50 [] [] (fun y σ=>y=.agg (bR smallM)∧σ=[]):=by
 refine cF 15 [0] Tryz.func50 ?_;refine dX ?_;refine jU fun r0 h0=> ?_;intros
 refine iF ?_;refine dX ?_;refine eN fun r1 h1=> ?_;intros
 refine gJ (j:=1) rfl aU (aK bA (by simp)) ?_;refine eN fun r2 h2=> ?_;intros
 refine gJ (j:=2) rfl aU (aK bA (by simp)) ?_;refine jK ?_;refine eN fun r4 h4=> ?_;intros
 refine gJ (j:=4) rfl aU (aK bA (by simp)) ?_;refine eN fun r5 h5=> ?_;intros
 refine gJ (j:=5) rfl aU (aK bA (by simp)) ?_;refine jK ?_;refine eN fun r7 h7=> ?_;intros
 refine gJ (j:=7) rfl aU (aK bA (by simp)) ?_;refine jK ?_;refine jK ?_;refine jK ?_;refine eN fun r11 h11=> ?_;intros
 refine gJ (j:=11) rfl aU (aK bA (by simp)) ?_;refine iK (eF (j:=11) rfl (qK (l:=smallIs) (by simp[smallIs]))) ?_;refine jK ?_;refine iK (eF (j:=12) rfl aAo) ?_;refine eN fun r13 h13=> ?_;intros
 refine gJ (j:=13) rfl aU (aK bA (by simp)) ?_;refine jK ?_;refine pX ?_;refine an ?_;refine dQ (gR (r:=r0) (cs':=bR smallM) cA (.cons (.refl _) (.cons (.le VLe.empty) (.cons (.refl _) (.cons (.refl _) (.cons (.refl _) (.cons (.refl _) (.cons (.refl _) (.cons (.refl _) (.cons (.refl _) (.cons (.le VLe.empty) (.cons (.refl _) (.cons (.le VLe.empty) (.cons (.refl _) (.cons (.le VLe.empty) .nil))))))))))))))) ?_;refine aJ ?_;exact aE aF ⟨by rfl,rfl⟩ aA
theorem NW:(oN smallM).length≤8000∧8<(oN smallM).length:=by rw[NU];exact aAn
theorem YD:SCall Tryz.prog 16 [] [] (fun y σ=>y=.bool true∧σ=[]):=by
 have w1:=DF (oN smallM) (by have:=NW.1;omega) aDr;rw[aBk]at w1;have w2:=DF [120] (by decide) (by decide);rw[aLv]at w2;have w3:=HE smallM small_wo;rw[CH]at w3;have w4:=aAm smallM smallM small_wo.w small_wo.w;rw[aDo]at w4;have w5:=aAm smallM md0 small_wo.w wo0.w;rw[aDt]at w5;have w6:=vX md0 wo0;have w7:=HE fun0 aF9;rw[aDs]at w7;have h8:=NW.2;refine cF 59 [0,1,2,3,4,6] Tryz.func16 ?_;refine bM ?_;refine jQ ?_;refine MR [] Tryz.call50 NV ?_;refine jU fun r1 h1=> ?_;intros
 refine pX ?_;refine qB ?_;refine rY Tryz.call18 (vX smallM small_wo) rfl bU kD ?_;rintro _ σ' ⟨q9,rfl,rfl⟩ h9
 replace h9:=cL h9;repeat rcases h9 with⟨_,h9⟩
 apply aY;exact bN;refine gJ (j:=9) rfl aU (aK bA (by simp)) ?_;refine hZ ?_;refine cw [] Tryz.call20 w1 rfl aC aA ?_;rintro _ σ' ⟨rfl,rfl⟩ h12;refine zN ?_;refine jU fun r3 h3=> ?_;intros
 apply SO;rfl;rfl;rfl;rfl;exact mU;refine lJ ?_;refine eN fun r16 h16=> ?_;intros
 refine cvm (len:=1) cA (by decide) ?_;refine gJ (j:=17) rfl aU (aK bA (by simp)) ?_;refine cw [] Tryz.call20 w2 rfl aC aA ?_;rintro _ σ' ⟨rfl,rfl⟩ h18;refine zN ?_;refine jU fun r5 h5=> ?_;intros
 apply SO;rfl;rfl;rfl;rfl;exact mU;refine lJ ?_;refine oS ?_;refine oL Tryz.call51 w3 rfl aR bB ?_;refine jL ?_;refine qU ?_;refine KK ?_;rw[show decide ((8:Int)<((oN smallM).length:Int))=true from decide_eq_true (by omega)];refine rX ?_;refine jL ?_;refine xY ?_;rw[show((0:Int)==0)=true from rfl];refine rX ?_;refine zL ?_;refine aEv ?_;refine gy rfl rfl ?_;refine oL Tryz.call52 w4 rfl aR bB ?_;refine rX ?_;refine zL ?_;refine aHY ?_;refine iK (eF (j:=39) rfl aAp) ?_;refine gy rfl rfl ?_;refine oL Tryz.call52 w5 rfl aR bB ?_;refine vF ?_;rw[show(!false)=true from rfl];refine rX ?_;refine jL ?_;refine xY ?_;rw[show((1:Int)==1)=true from rfl];refine rX ?_;refine lo (aD (E rfl)) rfl ?_;refine aHY ?_;refine iK (eF (j:=48) rfl aAp) ?_;refine gy rfl rfl ?_;refine rY Tryz.call18 w6 rfl bU kD ?_;rintro _ σ' ⟨q49,rfl,rfl⟩ h49
 replace h49:=cL h49;repeat rcases h49 with⟨_,h49⟩
 apply aY;exact bN;refine qU ?_;refine xY ?_;rw[aF8,show(((8:Nat):Int)==8)=true from rfl];refine rX ?_;refine lo (aD (E rfl)) rfl ?_;refine fz4 fun r54 h54=> ?_;intros
 refine gJ (j:=54) rfl aU (aK bA (by simp)) ?_;refine aHY ?_;refine iK (eF (j:=55) rfl aDu) ?_;refine gy rfl rfl ?_;refine oL Tryz.call51 w7 rfl aR bB ?_;refine aED ?_;exact aE aF ⟨by rfl,rfl⟩ aA
end Go.Proofs.YtjpdadobblffmaaGreat
namespace Go.Proofs.YtjpdadobblffmaaGreat
open Go.RowKit Go.ChangeShapes Go.WideShapes Go.ChangeAt Go.Deep
structure Ct where
 op:Int
 kd:Int
 ht:Nat
 dd:Bool
structure PS where
 vs:List Int
 cs:List Ct
 bad:Bool
def mM (c:Ct):List AV:=[.int .i64 c.op,.int .i64 c.kd,.int .i64 c.ht,.bool c.dd]
def ct0:Ct:=⟨0,0,0,false⟩
def PS.top (s:PS):Ct:=s.cs.getLast?.getD ct0
def dB (s:PS) (ok:Bool):PS:=⟨s.vs,s.cs,if s.bad=true then true else !ok⟩
def fO (s:PS) (ks:List Int):PS:=⟨s.vs++ks,s.cs,s.bad⟩
def cP (s:PS) (w:Int):Int×PS:=
 if((s.vs.length:Int)==s.top.ht)=true then(w,dB s s.top.dd)
 else if(s.vs.getLast?.getD 0==0)=true then(w,⟨s.vs.dropLast,s.cs,s.bad⟩)
 else(s.vs.getLast?.getD 0,dB ⟨s.vs.dropLast,s.cs,s.bad⟩ (if(w==0)=true then true else(s.vs.getLast?.getD 0==w)))
def dP (s:PS) (ks:List Int):PS:=ks.reverse.foldl (fun s k=>(cP s k).2) s
def aX (k:Int):List Int:=if(k==0)=true then []else [k]
def openP (s:PS) (op kd:Int):PS:=⟨s.vs,s.cs++ [⟨op,kd,s.vs.length,false⟩],s.bad⟩
def fY (s:PS):PS:=
 let s1:=dP s (aX s.top.kd)
 let s2:=dB s1 ((s1.vs.length:Int)==s.top.ht)
 ⟨s2.vs,s2.cs.dropLast,s2.bad⟩
def oO (s:PS):PS:=⟨s.vs.take s.top.ht,s.cs.dropLast++ [⟨s.top.op,s.top.kd,s.top.ht,true⟩],s.bad⟩
def cQ (s:PS) (n:Int):List Int×PS:=
 if decide ((s.cs.length:Int)≤n)=true then([],⟨s.vs,s.cs,true⟩)
 else(if((s.cs.getD (s.cs.length-1-n.toNat) ct0).op==3)=true then []else aX (s.cs.getD (s.cs.length-1-n.toNat) ct0).kd,s)
def sR:FT:=⟨[],[]⟩
def cK (m:Md) (t:Int):FT×Bool:=if(if decide (t<0)=true then true else decide ((m.ty.length:Int)≤t))=true then(sR,false)else(m.ty.getD t.toNat sR,true)
def kQ (m:Md) (f:Int):Int:=
 if decide (f<m.im.length)=true then(m.im.getD f.toNat ⟨[],[],0⟩).ty
 else if decide (f-m.im.length<m.fn.length)=true then m.fn.getD (f-m.im.length).toNat 0
 else-1
def qL (s:PS) (t:FT) (ok:Bool):PS:=fO (dP (dB s ok) t.pr) t.rs
def eq1 (a b:List Int):Bool:=if((a.length:Int)==b.length)=true then(if((a.length:Int)==0)=true then true else(a.headD 0==b.headD 0))else false
def xH (w:List Int) (s:PS) (n:Int):PS:=dB (cQ s n).2 (eq1 (cQ s n).1 w)
def tO (s:PS) (x:Ins):PS:=
 let r:=cQ (cP s 1).2 x.a
 oO (dP (x.l.foldl (xH r.1) r.2) r.1)
def cJ (m:Md) (s:PS) (x:Ins):Bool×PS:=
 if(x.op==0)=true then(true,oO s)
 else if(x.op==1)=true then(true,s)
 else if(x.op==2||x.op==3)=true then(true,openP s x.op x.a)
 else if(x.op==4)=true then(true,openP (cP s 1).2 x.op x.a)
 else if(x.op==5)=true then(true,openP (fY s) 5 s.top.kd)
 else if(x.op==11)=true then(true,fO (dB (fY s) (if(s.top.op !=4)=true then true else(s.top.kd==0))) (aX s.top.kd))
 else if(x.op==12)=true then(true,oO (dP (cQ s x.a).2 (cQ s x.a).1))
 else if(x.op==13)=true then(true,let r:=cQ (cP s 1).2 x.a;fO (dP r.2 r.1) r.1)
 else if(x.op==14)=true then(true,tO s x)
 else if(x.op==15)=true then(true,oO (dP s (aX (s.cs.getD 0 ct0).kd)))
 else if(x.op==16)=true then(true,let t:=cK m (kQ m x.a);qL s t.1 t.2)
 else if(x.op==17)=true then(true,let t:=cK m x.a;qL (cP (dB s m.tb.has) 1).2 t.1 t.2)
 else(false,s)
def cR (ls:List Int) (s:PS) (n:Int):Int×PS:=if decide ((ls.length:Int)≤n)=true then(0,⟨s.vs,s.cs,true⟩)else(ls.getD n.toNat 0,s)
def NX:Gl:=⟨false,0,0⟩
def eC (m:Md) (s:PS) (n:Int):Gl×PS:=if decide ((m.gl.length:Int)≤n)=true then(NX,⟨s.vs,s.cs,true⟩)else(m.gl.getD n.toNat NX,s)
def gD (m:Md) (s:PS) (x:Ins) (al:Int) (tk mk:List Int):PS:=fO (dP (dB s (if m.me.has=true then decide (x.a≤al)else false)) tk) mk
def dV (m:Md) (ls:List Int) (s:PS) (x:Ins):PS:=
 if(x.op==26)=true then(cP s 0).2
 else if(x.op==27)=true then
  let s1:=(cP s 1).2;let r:=cP s1 0;let r2:=cP r.2 r.1;fO r2.2 [r2.1]
 else if(x.op==32)=true then let r:=cR ls s x.a;fO r.2 [r.1]
 else if(x.op==33)=true then let r:=cR ls s x.a;(cP r.2 r.1).2
 else if(x.op==34)=true then let r:=cR ls s x.a;let r2:=cR ls (cP r.2 r.1).2 x.a;fO r2.2 [r2.1]
 else if(x.op==35)=true then let r:=eC m s x.a;fO r.2 [r.1.kd]
 else if(x.op==36)=true then let r:=eC m s x.a;(cP (dB r.2 r.1.mu) r.1.kd).2
 else if(x.op==40)=true then gD m s x 2 [1] [1]
 else if(x.op==41)=true then gD m s x 3 [1] [2]
 else if(x.op==44||x.op==45)=true then gD m s x 0 [1] [1]
 else if(x.op==54)=true then gD m s x 2 [1,1] []
 else if(x.op==55)=true then gD m s x 3 [1,2] []
 else if(x.op==58)=true then gD m s x 0 [1,1] []
 else if(x.op==63)=true then gD m s x 0 [] [1]
 else if(x.op==64)=true then gD m s x 0 [1] [1]
 else if(x.op==65)=true then fO s [1]
 else if(x.op==66)=true then fO s [2]
 else let k:=kN x.op;fO (dP (dB s k.2.2) k.1) [k.2.1]
def gE (m:Md) (ls:List Int) (s:PS) (x:Ins):PS:=let r:=cJ m s x;if r.1=true then r.2 else dV m ls r.2 x
def yT (m:Md) (ls:List Int):List Ins→PS→PS
 |[],s=>s
 |x::l,s=>let s':=gE m ls s x;if s'.bad=true then s' else yT m ls l s'
def HU (m:Md) (k:Int):Bool:=
 if(if(if decide (k<0)=true then true else decide ((m.co.length:Int)≤k))=true then true else decide ((m.fn.length:Int)≤k))=true then false
 else
  let c:=m.co.getD k.toNat ⟨[],[]⟩
  let t:=cK m (m.fn.getD k.toNat 0)
  if(if(!t.2)=true then true else !(xF (cU c.bd)))=true then false
  else
   let ls:=t.1.pr++c.ls
   let s:=yT m ls c.bd (openP ⟨[],[],false⟩ 2 (if decide ((0:Int)<t.1.rs.length)=true then t.1.rs.headD 0 else 0))
   if s.bad=true then false else(if(!(fY s).bad)=true then decide ((ls.length:Int)≤32)else false)
structure PS.Ok0 (s:PS):Prop where
 le:∀c∈s.cs,c.ht≤s.vs.length
 up:s.cs.Pairwise fun a b=>a.ht≤b.ht
structure PS.Ok (s:PS):Prop extends s.Ok0 where
 ne:s.cs≠ []
theorem HV{vs:List Int}{i:List Ct}{t:Ct}{b:Bool}:PS.top ⟨vs,i++ [t],b⟩=t:=by simp[PS.top]
theorem PS.Ok0.split {vs:List Int}{i:List Ct}{t:Ct}{b:Bool}(h:PS.Ok0 ⟨vs,i++ [t],b⟩):(∀c∈i,c.ht≤t.ht)∧t.ht≤vs.length∧i.Pairwise (fun a b=>a.ht≤b.ht):=by
 obtain⟨h1,h2⟩:=h;rw[List.pairwise_append]at h2;exact⟨fun c hc=>h2.2.2 c hc t (by simp),h1 t (by simp),h2.1⟩
theorem PS.Ok.cut {s:PS}(h:s.Ok):∃i,s.cs=i++ [s.top]:=by
 obtain⟨vs,cs,b⟩:=s;have hn:=h.ne;rcases List.eq_nil_or_concat cs with rfl|⟨i,t,rfl⟩
 ·exact absurd rfl hn
 ·rw[List.concat_eq_append];exact⟨i,by rw[HV]⟩
theorem aAq(s:PS)(b:Bool):(dB s b).cs=s.cs:=rfl
theorem FR(s:PS)(b:Bool):(dB s b).vs=s.vs:=rfl
theorem PS.Ok.need {s:PS}(h:s.Ok)(b:Bool):(dB s b).Ok:=⟨⟨h.le,h.up⟩,h.ne⟩
theorem yO(s:PS)(w:Int):(cP s w).2.cs=s.cs:=by unfold cP;split<;>(try split)<;>rfl
theorem tP(s:PS)(w:Int):(cP s w).2.vs.length≤s.vs.length:=by
 unfold cP;split
 ·exact Nat.le_refl _
 ·split
  ·simp
  ·simp[dB]
theorem PS.Ok.pop {s:PS}(h:s.Ok)(w:Int):(cP s w).2.Ok:=by
 obtain⟨i,hi⟩:=h.cut;have h0:=h.toOk0;have hne:=h.ne;obtain⟨vs,cs,b⟩:=s;dsimp only at hi;generalize PS.top ⟨vs,cs,b⟩=t at hi;subst hi;obtain⟨h1,h2,h3⟩:=h0.split;have key:¬(vs.length:Int)==t.ht→∀b',PS.Ok ⟨vs.dropLast,i++ [t],b'⟩:=fun hl b'=>by
  have hl:vs.length≠t.ht:=fun e=>hl (by rw[e];exact beq_self_eq_true _)
  refine⟨⟨fun c hc=> ?_,h0.up⟩,by simp⟩;show c.ht≤vs.dropLast.length;rw[List.length_dropLast];rcases List.mem_append.1 hc with hc|hc
  ·have:=h1 c hc;omega
  ·obtain rfl:=List.mem_singleton.1 hc;omega
 unfold cP;rw[HV];split
 ·exact h.need _
 ·next hl=>
  split
  ·exact key hl b
  ·exact(key hl b).need _
theorem aBl(s:PS)(ks:List Int)(k:Int):dP s (ks++ [k])=dP (cP s k).2 ks:=by simp[dP]
theorem AL{p:PS→Prop}(h:∀s w,p s→p (cP s w).2):∀(ks:List Int) (s:PS),p s→p (dP s ks):=by
 have:∀(l:List Int) (s:PS),p s→p (l.foldl (fun s k=>(cP s k).2) s):=by
  intro l
  induction l with
  |nil=>intro s hs;exact hs
  |cons a l ih=>intro s hs;exact ih _ (h s a hs)
 intro ks s hs;exact this _ s hs
theorem pM(s:PS)(ks:List Int):(dP s ks).cs=s.cs:=AL (p:=fun q=>q.cs=s.cs) (fun q w h=>by rw[yO,h]) ks s rfl
theorem oP(s:PS)(ks:List Int):(dP s ks).vs.length≤s.vs.length:=AL (p:=fun q=>q.vs.length≤s.vs.length) (fun q w h=>Nat.le_trans (tP q w) h) ks s (Nat.le_refl _)
theorem PS.Ok.pops {s:PS}(h:s.Ok)(ks:List Int):(dP s ks).Ok:=AL (fun q w h=>h.pop w) ks s h
theorem PS.Ok0.push {s:PS}(h:s.Ok0)(ks:List Int):(fO s ks).Ok0:=⟨fun c hc=>by have:=h.le c hc;simp[fO];omega,h.up⟩
theorem PS.Ok.push {s:PS}(h:s.Ok)(ks:List Int):(fO s ks).Ok:=⟨h.toOk0.push ks,h.ne⟩
theorem PS.Ok0.openP {s:PS}(h:s.Ok0)(op kd:Int):(openP s op kd).Ok:=by
 refine⟨⟨fun c hc=> ?_, ?_⟩,by simp[Proofs.YtjpdadobblffmaaGreat.openP]⟩
 ·rcases List.mem_append.1 hc with hc|hc
  ·exact h.le c hc
  ·obtain rfl:=List.mem_singleton.1 hc;exact Nat.le_refl _
 ·show(s.cs++ [_]).Pairwise _;rw[List.pairwise_append];exact⟨h.up,by simp,fun a ha b hb=>by obtain rfl:=List.mem_singleton.1 hb;exact h.le a ha⟩
theorem PS.Ok.dropc {s:PS}(h:s.Ok):PS.Ok0 ⟨s.vs,s.cs.dropLast,s.bad⟩:=⟨fun c hc=>h.le c (List.dropLast_subset _ hc),h.up.sublist (List.dropLast_sublist _)⟩
theorem PS.Ok.shut {s:PS}(h:s.Ok):(fY s).Ok0:=((h.pops _).need _).dropc
theorem FS(s:PS):(fY s).cs=s.cs.dropLast:=by show(dP s _).cs.dropLast=_;rw[pM]
theorem HW(s:PS):(fY s).vs.length≤s.vs.length:=oP _ _
theorem PS.Ok0.ok {s:PS}(h:s.Ok0)(hn:s.cs≠ []):s.Ok:=⟨h,hn⟩
theorem PS.Ok.dead {s:PS}(h:s.Ok):(oO s).Ok:=by
 obtain⟨i,hi⟩:=h.cut;have h0:=h.toOk0;obtain⟨vs,cs,b⟩:=s;dsimp only at hi;have hT:oO ⟨vs,cs,b⟩=⟨vs.take (PS.top ⟨vs,cs,b⟩).ht,cs.dropLast++ [⟨(PS.top ⟨vs,cs,b⟩).op,(PS.top ⟨vs,cs,b⟩).kd,(PS.top ⟨vs,cs,b⟩).ht,true⟩],b⟩:=rfl;rw[hT];generalize PS.top ⟨vs,cs,b⟩=t at hi;subst hi;obtain⟨h1,h2,h3⟩:=h0.split;refine⟨⟨fun c hc=> ?_, ?_⟩,by simp⟩
 ·show c.ht≤(vs.take t.ht).length;rw[List.length_take,Nat.min_eq_left h2];simp only[List.dropLast_concat]at hc;rcases List.mem_append.1 hc with hc|hc
  ·exact h1 c hc
  ·obtain rfl:=List.mem_singleton.1 hc;exact Nat.le_refl _
 ·simp only[List.dropLast_concat];rw[List.pairwise_append];exact⟨h3,by simp,fun a ha b hb=>by obtain rfl:=List.mem_singleton.1 hb;exact h1 a ha⟩
theorem AM(s:PS):(oO s).vs.length≤s.vs.length:=by simp[oO];omega
theorem FU{s:PS}(h:s.Ok):(oO s).cs.length=s.cs.length:=by
 have:0<s.cs.length:=List.length_pos_iff.2 h.ne;simp[oO];omega
theorem wF(s:PS)(n:Int):(cQ s n).2.cs=s.cs:=by unfold cQ;split<;>rfl
theorem wG(s:PS)(n:Int):(cQ s n).2.vs=s.vs:=by unfold cQ;split<;>rfl
theorem PS.Ok.label {s:PS}(h:s.Ok)(n:Int):(cQ s n).2.Ok:=by unfold cQ;split;exact⟨⟨h.le,h.up⟩,h.ne⟩;exact h
theorem qM(k:Int):(aX k).length≤1:=by unfold aX;split<;>simp
theorem nV(s:PS)(n:Int):(cQ s n).1.length≤1:=by
 unfold cQ;split
 ·simp
 ·dsimp only;split
  ·simp
  ·exact qM _
theorem AN(w:List Int)(l:List Int)(s:PS):(l.foldl (xH w) s).cs=s.cs∧(l.foldl (xH w) s).vs=s.vs∧(s.Ok→(l.foldl (xH w) s).Ok):=by
 induction l generalizing s with
 |nil=>exact⟨rfl,rfl,id⟩
 |cons a l ih=>
  obtain⟨h1,h2,h3⟩:=ih (xH w s a);rw[List.foldl_cons];exact⟨h1.trans (wF s a),h2.trans (wG s a),fun h=>h3 ((h.label a).need _)⟩
theorem aAr(s:PS)(ks:List Int):(fO s ks).cs=s.cs:=rfl
theorem AO(s:PS)(ks:List Int):(fO s ks).vs.length=s.vs.length+ks.length:=by simp[fO]
theorem HX(s:PS)(op kd:Int):(openP s op kd).cs.length=s.cs.length+1:=by simp[openP]
theorem PS.Ok.calls {s:PS}(h:s.Ok)(t:FT)(ok:Bool):(qL s t ok).Ok:=((h.need ok).pops _).push _
theorem VM(s:PS)(t:FT)(ok:Bool):(qL s t ok).cs=s.cs:=pM _ _
theorem NY(s:PS)(t:FT)(ok:Bool):(qL s t ok).vs.length≤s.vs.length+t.rs.length:=by
 unfold qL;rw[AO];have:=oP (dB s ok) t.pr;rw[FR]at this;omega
theorem PS.Ok.table {s:PS}(h:s.Ok)(x:Ins):(tO s x).Ok:=(((AN _ _ _).2.2 ((h.pop 1).label x.a)).pops _).dead
theorem aDv{s:PS}(h:s.Ok)(x:Ins):(tO s x).cs.length=s.cs.length:=by
 unfold tO;dsimp only;rw[FU (((AN _ _ _).2.2 ((h.pop 1).label x.a)).pops _),pM,(AN _ _ _).1,wF,yO]
theorem aBm(s:PS)(x:Ins):(tO s x).vs.length≤s.vs.length:=by
 unfold tO;dsimp only;refine Nat.le_trans (AM _) (Nat.le_trans (oP _ _) ?_);rw[(AN _ _ _).2.1,wG];exact tP _ _
def dK (op:Int):Int:=if(op==2||op==3||op==4)=true then 1 else if(op==11)=true then-1 else 0
def FT.Sm (t:FT):Prop:=t.pr.length≤100∧t.rs.length≤100
def Md.TS (m:Md):Prop:=∀t∈m.ty,t.Sm
theorem aI{α:Type}{c:Prop} [Decidable c] {p:α→Prop}{a b:α}(h1:c→p a)(h2:¬c→p b):p (if c then a else b):=by split;exact h1 ‹_›;exact h2 ‹_›
theorem pP{m:Md}(h:m.TS)(n:Int):(cK m n).1.Sm:=by
 unfold cK;refine aI (p:=fun r:FT×Bool=>r.1.Sm) (fun _=> ?_) (fun _=> ?_)
 ·exact⟨by simp[sR],by simp[sR]⟩
 ·show FT.Sm (m.ty.getD n.toNat sR);rw[List.getD_eq_getElem?_getD];cases hg:m.ty[n.toNat]? with
  |none=>exact⟨by simp[sR],by simp[sR]⟩
  |some t=>exact h t (List.mem_of_getElem? hg)
theorem pN{α:Type}(l:List α):l.dropLast.length=l.length-1:=List.length_dropLast
def aLy (s:PS) (x:Ins) (r:Bool×PS):Prop:=r.2.Ok∧r.2.vs.length≤s.vs.length+100∧(r.2.cs.length:Int)=s.cs.length+(if r.1=true then dK x.op else 0)
theorem VN{m:Md}{s:PS}{x:Ins}(h:s.Ok)(hx:x.op=11→2≤s.cs.length)(hT:m.TS):aLy s x (cJ m s x):=by
 have hp:0<s.cs.length:=List.length_pos_iff.2 h.ne;unfold cJ;refine aI (fun g=> ?_) (fun _=> ?_)
 ·have:=eq_of_beq g;exact⟨h.dead,by have:=AM s;dsimp only;omega,by rw[FU h,this];simp[dK]⟩
 refine aI (fun g=> ?_) (fun _=> ?_)
 ·have:=eq_of_beq g;exact⟨h,by dsimp only;omega,by rw[this];simp[dK]⟩
 refine aI (fun g=> ?_) (fun _=> ?_)
 ·
  refine⟨h.toOk0.openP _ _,by show s.vs.length≤ _;omega, ?_⟩;dsimp only;rw[HX];simp only[Bool.or_eq_true,beq_iff_eq]at g;rcases g with g|g<;>(rw[g];simp[dK])
 refine aI (fun g=> ?_) (fun _=> ?_)
 ·
  refine⟨(h.pop 1).toOk0.openP _ _,by have:=tP s 1;show(cP s 1).2.vs.length≤ _;omega, ?_⟩;dsimp only;rw[HX,yO,eq_of_beq g];simp[dK]
 refine aI (fun g=> ?_) (fun _=> ?_)
 ·
  refine⟨h.shut.openP _ _,by have:=HW s;show(fY s).vs.length≤ _;omega, ?_⟩;dsimp only;rw[HX,FS,pN,eq_of_beq g];simp[dK];omega
 refine aI (fun g=> ?_) (fun _=> ?_)
 ·
  have h2:=hx (eq_of_beq g);have hne:(fY s).cs≠ []:=by rw[FS];exact List.length_pos_iff.1 (by rw[pN];omega)
  refine⟨((h.shut.ok hne).need _).push _, ?_, ?_⟩
  ·have h3:=HW s;have h4:=qM s.top.kd;dsimp only;rw[AO,FR];omega
  ·dsimp only;rw[aAr,aAq,FS,pN,eq_of_beq g];simp[dK];omega
 refine aI (fun g=> ?_) (fun _=> ?_)
 ·
  refine⟨((h.label _).pops _).dead, ?_, ?_⟩
  ·refine Nat.le_trans (AM _) (Nat.le_trans (oP _ _) ?_);rw[wG];omega
  ·dsimp only;rw[FU ((h.label _).pops _),pM,wF,eq_of_beq g];simp[dK]
 refine aI (fun g=> ?_) (fun _=> ?_)
 ·
  refine⟨(((h.pop 1).label _).pops _).push _, ?_, ?_⟩
  ·dsimp only;rw[AO];have h1:=oP (cQ (cP s 1).2 x.a).2 (cQ (cP s 1).2 x.a).1;rw[wG]at h1;have h2:=tP s 1;have h3:=nV (cP s 1).2 x.a;omega
  ·dsimp only;rw[aAr,pM,wF,yO,eq_of_beq g];simp[dK]
 refine aI (fun g=> ?_) (fun _=> ?_)
 ·exact⟨h.table x,by have:=aBm s x;dsimp only;omega,by dsimp only;rw[aDv h,eq_of_beq g];simp[dK]⟩
 refine aI (fun g=> ?_) (fun _=> ?_)
 ·
  refine⟨(h.pops _).dead, ?_, ?_⟩
  ·refine Nat.le_trans (AM _) (Nat.le_trans (oP _ _) ?_);omega
  ·dsimp only;rw[FU (h.pops _),pM,eq_of_beq g];simp[dK]
 refine aI (fun g=> ?_) (fun _=> ?_)
 ·
  refine⟨h.calls _ _, ?_, ?_⟩
  ·have h1:=NY s (cK m (kQ m x.a)).1 (cK m (kQ m x.a)).2;have h2:=(pP hT (kQ m x.a)).2;dsimp only;omega
  ·dsimp only;rw[VM,eq_of_beq g];simp[dK]
 refine aI (fun g=> ?_) (fun _=> ?_)
 ·
  refine⟨((h.need _).pop _).calls _ _, ?_, ?_⟩
  ·have h1:=NY (cP (dB s m.tb.has) 1).2 (cK m x.a).1 (cK m x.a).2;have h2:=(pP hT x.a).2;have h3:=tP (dB s m.tb.has) 1;rw[FR]at h3;dsimp only;omega
  ·dsimp only;rw[VM,yO,aAq,eq_of_beq g];simp[dK]
 ·exact⟨h,by dsimp only;omega,by simp⟩
def Nxt (s:PS) (n:Nat) (q:PS):Prop:=q.Ok∧q.vs.length≤s.vs.length+n∧q.cs=s.cs
theorem PS.Ok.nxt {s:PS}(h:s.Ok):Nxt s 0 s:=⟨h,Nat.le_refl _,rfl⟩
theorem Nxt.pop {s q:PS}{n:Nat}(h:Nxt s n q)(w:Int):Nxt s n (cP q w).2:=⟨h.1.pop w,Nat.le_trans (tP q w) h.2.1,(yO q w).trans h.2.2⟩
theorem Nxt.pops {s q:PS}{n:Nat}(h:Nxt s n q)(ks:List Int):Nxt s n (dP q ks):=⟨h.1.pops ks,Nat.le_trans (oP q ks) h.2.1,(pM q ks).trans h.2.2⟩
theorem Nxt.need {s q:PS}{n:Nat}(h:Nxt s n q)(b:Bool):Nxt s n (dB q b):=⟨h.1.need b,h.2.1,h.2.2⟩
theorem Nxt.bad {s q:PS}{n:Nat}(h:Nxt s n q):Nxt s n ⟨q.vs,q.cs,true⟩:=⟨⟨⟨h.1.le,h.1.up⟩,h.1.ne⟩,h.2.1,h.2.2⟩
theorem Nxt.push {s q:PS}{n:Nat}(h:Nxt s n q)(ks:List Int)(k:Nat)(hk:n+ks.length≤k):Nxt s k (fO q ks):=⟨h.1.push ks,by rw[AO];have:=h.2.1;omega,h.2.2⟩
theorem Nxt.up {s q:PS}{n:Nat}(h:Nxt s n q)(k:Nat)(hk:n≤k):Nxt s k q:=⟨h.1,by have:=h.2.1;omega,h.2.2⟩
theorem Nxt.loc {s q:PS}{n:Nat}(h:Nxt s n q)(ls:List Int)(x:Int):Nxt s n (cR ls q x).2:=by unfold cR;split;exact h.bad;exact h
theorem Nxt.glob {s q:PS}{n:Nat}(h:Nxt s n q)(m:Md)(x:Int):Nxt s n (eC m q x).2:=by unfold eC;split;exact h.bad;exact h
theorem Nxt.acc {s q:PS}{n:Nat}(h:Nxt s n q)(m:Md)(x:Ins)(al:Int)(tk mk:List Int)(k:Nat)(hk:n+mk.length≤k):Nxt s k (gD m q x al tk mk):=((h.need _).pops _).push _ k hk
theorem aBn{m:Md}{ls:List Int}{s:PS}{x:Ins}(h:s.Ok):Nxt s 1 (dV m ls s x):=by
 have h:=h.nxt;unfold dV;refine aI (fun _=>(h.pop 0).up 1 (by omega)) (fun _=> ?_);refine aI (fun _=>Nxt.push (((h.pop 1).pop 0).pop _) _ 1 (by simp)) (fun _=> ?_);refine aI (fun _=>(h.loc ls x.a).push _ 1 (by simp)) (fun _=> ?_);refine aI (fun _=>Nxt.up ((h.loc ls x.a).pop _) 1 (by omega)) (fun _=> ?_);refine aI (fun _=>Nxt.push (((h.loc ls x.a).pop _).loc ls x.a) _ 1 (by simp)) (fun _=> ?_);refine aI (fun _=>(h.glob m x.a).push _ 1 (by simp)) (fun _=> ?_);refine aI (fun _=>Nxt.up (((h.glob m x.a).need _).pop _) 1 (by omega)) (fun _=> ?_);refine aI (fun _=>h.acc m x _ _ _ 1 (by simp)) (fun _=> ?_);refine aI (fun _=>h.acc m x _ _ _ 1 (by simp)) (fun _=> ?_);refine aI (fun _=>h.acc m x _ _ _ 1 (by simp)) (fun _=> ?_);refine aI (fun _=>h.acc m x _ _ _ 1 (by simp)) (fun _=> ?_);refine aI (fun _=>h.acc m x _ _ _ 1 (by simp)) (fun _=> ?_);refine aI (fun _=>h.acc m x _ _ _ 1 (by simp)) (fun _=> ?_);refine aI (fun _=>h.acc m x _ _ _ 1 (by simp)) (fun _=> ?_);refine aI (fun _=>h.acc m x _ _ _ 1 (by simp)) (fun _=> ?_);refine aI (fun _=>h.push _ 1 (by simp)) (fun _=> ?_);refine aI (fun _=>h.push _ 1 (by simp)) (fun _=> ?_);exact((h.need _).pops _).push _ 1 (by simp)
theorem aHB{P:Program}{n:Nat}{ks:List Nat}{s:ASt}{c:Code}{Q:Exit→ASt→Prop}(r i off:Nat)(e:TypeId)(sz:Nat)(h0:0<sz){et:TypeId}{sz1:Nat}{es:List (List AV)}{x:List AV}{z:Nat}{k:Rk}(hg:gN s.σ r=some (.arr et sz1 es))(hi:es[i]? =some x)(hx:x[off]? =some (.ro z [] k))(hk:k≠ .any)
  (h:∀q,Fresh q s.σ→∃σ',SSet s.σ r (.arr et sz1 es) r (.arr et sz1 (es.set i (x.set off (.own q 0 0)))) σ'∧SW P n ks c ⟨s.fr,(q,.arr e sz [])::σ'⟩ Q):SW P n ks c s Q:=by
 intro M F N a w hr;have hE:ER (fZ M N .virt) F w N (.arr e sz []):=⟨h0,fun x hx=>by simp at hx,.inl ⟨cN _,rfl⟩⟩
 obtain⟨r1,e1,n1⟩:=hr.new_ (w':=w) .virt (.arr e sz []) (fun _ _=>rfl) ⟨rfl,rfl,rfl⟩ (Nat.le_refl _) (fun g hg=>by simp[cD,cN]at hg) hE;obtain⟨σ',hs,hK⟩:=h N n1;have hmem:∀p∈(N,Ent.arr e sz [])::σ',∃x,(p.1,x)∈(N,Ent.arr e sz [])::s.σ:=by
  intro p hp;rcases List.mem_cons.1 hp with rfl|hp
  ·exact⟨_,List.mem_cons_self⟩
  ·rcases List.mem_cons.1 (hs.sub p hp)with rfl|hp
   ·exact⟨_,List.mem_cons_of_mem _ (bX hg)⟩
   ·exact⟨_,List.mem_cons_of_mem _ (eT hp).1⟩
 have hr2:Rel (fZ M N .virt) F (N+1) n ⟨s.fr,(N,.arr e sz [])::σ'⟩ a w:=by
  refine⟨r1.size,r1.defers,r1.fr,r1.st.retold fun p hp=>⟨hmem p hp, ?_⟩⟩;rcases List.mem_cons.1 hp with rfl|hp
  ·exact hE
  ·rcases List.mem_cons.1 (hs.sub p hp)with rfl|hp
   ·obtain⟨q0,q1,q2⟩:=r1.st.ent _ (List.mem_cons_of_mem _ (bX hg));refine⟨q0, ?_, ?_⟩
    ·intro y hy;rcases List.mem_or_eq_of_mem_set hy with hy|rfl
     ·exact q1 y hy
     ·obtain⟨m1,m2⟩:=q1 x (List.mem_of_getElem? hi);refine⟨by rw[List.length_set];exact m1,fun b hb=> ?_⟩;rcases List.mem_or_eq_of_mem_set hb with hb|rfl
      ·exact m2 b hb
      ·rfl
    ·rcases q2 with⟨-,rfl⟩|⟨g,c,vs,h1,h2,h3,h4,h5,h6⟩
     ·simp at hi
     ·refine .inr ⟨g,c,vs,h1,h2,h3,by rw[List.length_set];exact h4,h5,fun i' y j b u hj hb hu=> ?_⟩;by_cases hii:i=i'
      ·subst hii;have hlt:i<es.length:=(List.getElem?_eq_some_iff.1 hi).1;rw[List.getElem?_set_self hlt]at hj;obtain rfl:=Option.some.inj hj;by_cases hjo:off=j
       ·subst hjo;have hlt2:off<x.length:=(List.getElem?_eq_some_iff.1 hx).1;rw[List.getElem?_set_self hlt2]at hb;obtain rfl:=Option.some.inj hb;have hv:=h6 i x off _ u hi hx hu;cases hv with
        |@ro _ _ b o _ cap us hb hs hc hrr hle hm hf hn=>
         cases k with
         |nil=>exact absurd rfl hn
         |full=>have:=hf rfl;simp at this;subst this;exact .own0
         |any=>exact absurd rfl hk
        |ro0 hm hA hf hn=>
         cases k with
         |nil=>obtain rfl:=hn rfl;obtain rfl:=hA rfl;exact .own0
         |full=>obtain rfl:=hf rfl;exact .own0
         |any=>exact absurd rfl hk
       ·rw[List.getElem?_set_ne hjo]at hb;exact h6 i x j b u hi hb hu
      ·rw[List.getElem?_set_ne hii]at hj;exact h6 i' y j b u hj hb hu
   ·exact r1.st.ent p (List.mem_cons_of_mem _ (eT hp).1)
 refine wp_mono (hK _ F _ a w hr2) ?_;rintro e' a' w' ⟨M',F',N',s2,h1,h2,h3⟩;exact⟨M',F',N',s2,h1,(e1.trans (Ext.retold hmem)).trans h2,h3⟩
theorem AP{P:Program}{rs:Array ResultVar}{R:AV→dS→Prop}{s s':ASt}(hgo:SGo s s')(h:OL P rs R .normal s'):OL P rs R .normal s:=bY (aEi hgo h)
theorem aAs{P:Program}{n:Nat}{op:Op}{ty:TypeId}{d:Nat}{s:ASt}{v:AV}{rs:List Nat}{K:ASt→Prop}(h:Lop P op ty s true v rs)(hd:d<n)(hK:K (s.put d v)):Hop P n op ty (some d) s [] K:=by
 intro M F N a w o ho ht hdst hr next Q hnext
 obtain⟨u,hu,hrun⟩:=h.2 M F N n a w hr rfl;obtain⟨dst,op',ty',pos,after,guard⟩:=o;dsimp only at ho ht hdst;subst ho ht hdst;unfold Oper.wp;rw[hrun w _ rfl rfl (fun _ _=>rfl)];exact hnext _ _ _ _ _ _ (hr.put hd hu) (Ext.refl _ _ _ _ _) (Only.refl _ _) hK
theorem dhl{P:Program}{n i d:Nat}{ops:Array Oper}{listed:Array Bool}{todo:List (Nat×Bool)}{held:List (Nat×List Nat)}{fr:Fr}{σ:dS}{K:ASt→Prop}{op:Op}{ty:TypeId}{pos:String}{af:Array Edge}{v:AV}{rs:List Nat}(hi:ops[i]? =some ⟨some d,op,ty,pos,af,none⟩)(h:Lop P op ty ⟨fr,σ⟩ true v rs)(hd:Nat.ble (d+1) n=true)(hK:RD P n ops (listed.setIfInBounds i true) todo held ⟨(d,v)::fr,σ⟩ K):
  RD P n ops listed ((i,false)::todo) held ⟨fr,σ⟩ K:=vE hi (aAs h (cW hd) hK)
theorem aLz{fr:Fr}{σ σ1 σ2 σ':dS}{r q p:Nat}{bt:TypeId}{cs cs':List AV}{e e2:Ent}(hs:SSet σ r (.box bt cs) r (.box bt cs') σ1)(hd:SDel σ1 q e σ2)(hd2:SDel σ2 p e2 σ')(hb:BorL σ [q,p] cs cs'):SGo ⟨fr,σ⟩ ⟨fr,σ'⟩:=by
 refine pU [q,p] (fun i x' hi=>⟨x',hi,.refl _⟩) (fun y hy=> ?_);obtain⟨h1,h2⟩:=hd2.sub y hy;obtain⟨h3,h4⟩:=hd.sub y h1;refine⟨by simp;exact⟨h4,h2⟩, ?_⟩;rcases List.mem_cons.1 (hs.sub y h3)with rfl|h
 ·exact⟨_,bX hs.get,.box (aB5 hb)⟩
 ·exact⟨y.2,(eT h).1,.refl _⟩
end Go.Proofs.YtjpdadobblffmaaGreat
namespace Go.Proofs.YtjpdadobblffmaaGreat
open Go.RowKit Go.ChangeShapes Go.WideShapes Go.ChangeAt Go.Deep
attribute [local irreducible] SW RS RD fG eH
def mR (m:Md) (lv:AV) (p q:Nat) (vs:List Int) (cs:List Ct) (b:Bool):List AV:=[.ro 2 (m.ty.map dD) .any,.ro 3 (m.im.map eM) .any,.ro 1 (m.fn.map aP) .any,.bool m.tb.has,.int .i64 m.tb.mn,.int .i64 m.tb.mx,.bool m.me.has,.int .i64 m.me.mn,.int .i64 m.me.mx,
 .ro 3 (m.gl.map dZ) .any,.ro 2 (m.ex.map eA) .any,.ro 2 (m.el.map dY) .any,.ro 2 (m.co.map dA) .any,.ro 2 (m.da.map eB) .any,lv,.own p 0 vs.length,.own q 0 cs.length,.bool b]
def dO (r p q:Nat) (m:Md) (lv:AV) (s:PS):dS:=[(r,.box 128 (mR m lv p q s.vs s.cs s.bad)),(p,.arr 3 1 (s.vs.map aP)),(q,.arr 137 4 (s.cs.map mM))]
theorem aJl{e:Nat}{σ1 σ:dS}{C G:Prop}(h:(∃q∈σ1,q.1=e)∨Fresh e σ)(k:C)(g:Hold C→Fresh e (eO (σ1.map (·.1)) σ)→G:=by intro k q;unfold dO at q;simp(disch:=(first|(simp only[List.mem_cons,List.not_mem_nil,true_or,or_true,or_false];done)|(focus (simp only[List.mem_cons,List.not_mem_nil,or_false,not_or];(repeat' (first|apply And.intro|(exact bV)));done))|omega)) only[List.map_cons,List.map_nil,lV,nM,pR,nN,aO,aT,and_true]at q;revert q;(repeat refine aB7 ?_);exact k.h):G:=g ⟨k⟩ (tB h)
structure PS.Gd (s:PS):Prop extends s.Ok where
 bv:s.vs.length≤1000000
 bc:s.cs.length≤1000000
theorem PS.Gd.need {s:PS}(h:s.Gd)(b:Bool):(dB s b).Gd:=⟨h.toOk.need b,h.bv,h.bc⟩
theorem PS.Gd.pop {s:PS}(h:s.Gd)(w:Int):(cP s w).2.Gd:=⟨h.toOk.pop w,Nat.le_trans (tP s w) h.bv,by rw[yO];exact h.bc⟩
theorem PS.Gd.pops {s:PS}(h:s.Gd)(ks:List Int):(dP s ks).Gd:=⟨h.toOk.pops ks,Nat.le_trans (oP s ks) h.bv,by rw[pM];exact h.bc⟩
def Nm (r p q:Nat):Prop:=Nq p r∧Nq q r∧Nq q p
theorem cE{P:Prop}(h:P:=by(try unfold dO mR);(try dsimp only);exact aA):P:=h
theorem aDw{P:Prop}(h:P:=by(try unfold dO mR);(try dsimp only);exact fV):P:=h
section
variable {r p q : Nat} {m : Md} {lv : AV}
theorem kF(hN:Nm r p q)(s:PS)(ok:Bool):SCall Tryz.prog 189 [.ptr r 0,.bool ok] (dO r p q m lv s) (fun _ σ=>σ=dO r p q m lv (dB s ok)):=by
 obtain⟨vs,zs,b⟩:=s;obtain⟨n1,n2,n3⟩:=hN;refine cF 15 [0,1] Tryz.func189 ?_;unfold dO mR;dsimp only;refine eX ?_;refine kG ?_;refine jL ?_;refine vF ?_;refine rM ?_;refine oI ?_;refine bY ?_;apply aE;exact aF
 ·rfl
 ·exact aA
theorem lU(hN:Nm r p q)(s:PS)(hs:s.vs.length≤1000000)(ks:List Int)(hk:ks.length≤1000):SCall Tryz.prog 190 [.ptr r 0,.ro 1 (ks.map aP) .any] (dO r p q m lv s) (fun _ σ=>∃e,Nm r e q∧σ=dO r e q m lv (fO s ks)):=by
 obtain⟨vs,zs,b⟩:=s;obtain⟨n1,n2,n3⟩:=hN;dsimp only at hs;refine cF 13 [0,1] Tryz.func190 ?_;unfold dO mR;dsimp only;refine eX ?_;refine kG ?_;refine lo (aD (E rfl)) rfl ?_;refine iY ((vs++ks).map aP) (vs++ks).length ?_;refine bH fun r10 h10=> ?_;intros
 refine oI ?_;refine bY ?_;exact aE aF ⟨r10,by exact⟨by(exact bV),by(exact bV),by(exact bV)⟩,rfl⟩ aA
theorem tQ(k:Int):SCall Tryz.prog 191 [.int .i64 k] [] (fun y σ=>y=.ro 1 ((aX k).map aP) .any∧σ=[]):=by
 refine cF 7 [0,2,4] Tryz.func191 ?_;refine iD ?_;refine rO ?_;refine aB rfl (fun g1=> ?_) (fun g1=> ?_)
 ·rw[show aX k=[]from if_pos g1];refine dX ?_;refine oZ ?_;refine dQ (eF (j:=2) (y:=.ro 1 (([]:List Int).map aP) .any) rfl VLe.empty) ?_;refine aJ ?_;exact aE aF ⟨by rfl,rfl⟩ aA
 rw[show aX k=[k]from if_neg (by simp[g1])];refine dM ?_;refine eN fun r6 h6=> ?_;intros
 refine oZ ?_;refine aCC (j:=2) rfl aU (aK bA (by simp)) ?_;refine aJ ?_;exact aE aF ⟨by rfl,rfl⟩ aA
theorem wH(i:List Ct)(t:Ct):(i++ [t]).length=i.length+1:=by simp
theorem HY(i:List Ct)(t:Ct):(i++ [t]).map mM=i.map mM++ [mM t]:=by simp
theorem QN(i:List Int)(t:Int):(i++ [t]).length=i.length+1:=by simp
theorem aDx(i:List Int)(t:Int):(i++ [t]).map aP=i.map aP++ [aP t]:=by simp
theorem qN{n:Nat}:(((n+1:Nat):Int)-1).toNat-0=n:=by omega
theorem oX(hN:Nm r p q)(s:PS)(h:s.Gd)(w:Int):SCall Tryz.prog 188 [.ptr r 0,.int .i64 w] (dO r p q m lv s) (fun y σ=>y=.int .i64 (cP s w).1∧σ=dO r p q m lv (cP s w).2):=by
 obtain⟨i,hi⟩:=h.cut;have h0:=h.toOk0;have hbv:=h.bv;have hbc:=h.bc;obtain⟨vs,zs,b⟩:=s;dsimp only at hi hbv hbc;generalize PS.top ⟨vs,zs,b⟩=t at hi;subst hi;rw[wH]at hbc;obtain⟨-,hh,-⟩:=h0.split;obtain⟨n1,n2,n3⟩:=hN;have hel:=sO (l:=i.map mM) (x:=mM t) (n:=i.length) (by simp);refine cF 71 [0,1,4,5,6,26,59] Tryz.func188 ?_;unfold dO mR;dsimp only;rw[wH,HY];refine bM ?_;refine fM [(0,true),(1,true),(2,true),(3,true),(4,true),(5,true),(6,true),(7,true),(8,true),(9,true),(10,true),(11,true),(12,false),(13,false)] ?_;refine pC ?_;refine sI ?_;refine MT ?_;refine xB ?_;apply dal;rfl;infer_instance;rfl;exact wY;refine jZ fun r5 h5=> ?_;intros
 refine z95 ?_;refine lF ?_;refine fM [(0,true),(1,true),(2,true),(3,true),(4,true),(5,true),(6,true),(7,true)] ?_;refine CY ?_;refine fX ?_;refine z79 ?_;refine lF ?_;refine aB rfl (fun g2=> ?_) (fun g2=> ?_)
 ·have hP:cP ⟨vs,i++ [t],b⟩ w=(w,dB ⟨vs,i++ [t],b⟩ t.dd):=by unfold cP;rw[HV,if_pos g2]
  rw[hP];refine kA ?_;refine cw (dO r p q m lv ⟨vs,i++ [t],b⟩) Tryz.call189 (kF ⟨n1,n2,n3⟩ _ t.dd) rfl aC cE ?_;rintro _ σ' rfl h30;refine mV ?_;refine fA ?_;exact aE aF ⟨by rfl,rfl⟩ aA
 have hl:vs.length≠t.ht:=by intro e;rw[e]at g2;simp at g2
 obtain⟨ws,g,rfl⟩:∃ws g,vs=ws++ [g]:=by
  rcases List.eq_nil_or_concat vs with e|⟨ws,g,e⟩
  ·subst e;simp at hh hl;omega
  ·exact⟨ws,g,by rw[e,List.concat_eq_append]⟩
 have hel2:=sO (l:=ws.map aP) (x:=aP g) (n:=ws.length) (by simp);rw[QN]at hbv;rw[QN,aDx];refine aJ ?_;refine fM [(0,true),(1,true),(2,true),(3,true),(4,true),(5,true),(6,true),(7,true),(8,true),(9,true),(10,true),(11,true),(12,true)] ?_;refine pC ?_;refine sI ?_;refine MT ?_;refine WR ?_;refine yB ?_;refine fM [(0,true),(1,true),(2,true),(3,true),(4,true),(5,true),(6,true),(7,true),(8,true),(9,true),(10,true),(11,true),(12,true),(13,true),(14,false)] ?_;refine zK ?_;refine sI ?_;refine z25 ?_;refine z77 ?_;refine mJ ?_;refine lF ?_;rw[qN];refine dQ (nZ (o:=p) ws.length cA) ?_;rw[show List.take ws.length (ws.map aP++ [aP g])=ws.map aP by rw[List.take_left' (by simp)]];refine iC ?_;refine rO ?_;refine aB rfl (fun g7=> ?_) (fun g7=> ?_)
 ·have hP:cP ⟨ws++ [g],i++ [t],b⟩ w=(w,⟨ws,i++ [t],b⟩):=by unfold cP;rw[HV,if_neg (by simpa using g2)];simp at g7;simp[g7]
  rw[hP];refine fA ?_;exact aE aF ⟨by rfl,rfl⟩ aA
 have hP:cP ⟨ws++ [g],i++ [t],b⟩ w=(g,dB ⟨ws,i++ [t],b⟩ (if(w==0)=true then true else(g==w))):=by unfold cP;rw[HV,if_neg (by simpa using g2)];simp at g7;simp[g7]
 rw[hP];refine eX ?_;refine lo (dI (E rfl) (E rfl)) rfl ?_;refine jL ?_;refine pW ?_;refine aHV ?_;refine rM ?_;refine cw (dO r p q m lv ⟨ws,i++ [t],b⟩) Tryz.call189 (kF ⟨n1,n2,n3⟩ _ (if(w==0)=true then true else(g==w))) rfl aC cE ?_;rintro _ σ' rfl h69;refine mV ?_;refine fA ?_;exact aE aF ⟨by rfl,rfl⟩ aA
theorem lA(hN:Nm r p q)(s:PS)(h:s.Gd)(ks:List Int)(hkl:ks.length≤100000):SCall Tryz.prog 192 [.ptr r 0,.ro 1 (ks.map aP) .any] (dO r p q m lv s) (fun _ σ=>σ=dO r p q m lv (dP s ks)):=by
 obtain⟨n1,n2,n3⟩:=hN;refine cF 18 [0,1,4,9] Tryz.func192 ?_;unfold dO mR
 (try dsimp only);refine dM ?_;refine kU ?_;refine tA ?_;refine dE ?_;refine lp (β:=Nat×PS) (fun b=>⟨[(0,.ptr r 0),(1,.ro 1 (ks.map aP) .any),(4,.int .i64 ((b.1:Int)-1))],dO r p q m lv b.2⟩) (fun b=>b.1≤ks.length∧b.2.Gd∧dP b.2 (ks.take b.1)=dP s ks) (fun b=>b.1) (ks.length,s) (by unfold dO mR;(try dsimp only);(exact aL)) ⟨Nat.le_refl _,h,by rw[List.take_length]⟩ ?_;rintro⟨j,S⟩ ⟨hj,hS,hP⟩;dsimp only at hj hS hP⊢;unfold dO mR
 (try dsimp only);refine dM ?_;refine zJ ?_;refine aB rfl (fun g1=> ?_) (fun g1=> ?_)
 ·obtain⟨j,rfl⟩:∃j',j=j'+1:=⟨j-1,by simp at g1;omega⟩
  obtain⟨k,hk⟩:∃k,ks[j]? =some k:=⟨_,List.getElem?_eq_getElem (by omega)⟩
  have hk':ks[(((j+1:Nat):Int)-1).toNat]? =some k:=by rw[show(((j+1:Nat):Int)-1).toNat=j by omega];exact hk
  refine eX ?_;refine nJ ?_;refine cw (dO r p q m lv S) Tryz.call188 (oX ⟨n1,n2,n3⟩ S hS k) rfl aC cE ?_;rintro _ σ' ⟨rfl,rfl⟩ h17;refine mV ?_;refine dM ?_;refine tA ?_;refine dE ?_;refine⟨(j,(cP S k).2),⟨by show j≤ _;omega,hS.pop k,by rw[←hP,List.take_add_one,hk];show _=dP S (ks.take j++ [k]);rw[aBl]⟩,by show j<j+1;omega, ?_⟩;dsimp only;rw[show(((j+1:Nat):Int)-1-1)=(j:Int)-1 by omega];exact aL
 obtain rfl:j=0:=by simp at g1;omega
 rw[show dP s ks=S by rw[←hP];rfl];refine aJ ?_;refine bY ?_;apply aE;exact aF
 ·rfl
 ·exact aA
end
section
variable {r p q : Nat} {m : Md} {lv : AV}
theorem FV(hN:Nm r p q)(s:PS)(hs:s.cs.length≤1000000)(op kd:Int):SCall Tryz.prog 76 [.ptr r 0,.int .i64 op,.int .i64 kd] (dO r p q m lv s) (fun _ σ=>∃e,Nm r p e∧σ=dO r p e m lv (openP s op kd)):=by
 obtain⟨vs,zs,b⟩:=s;obtain⟨n1,n2,n3⟩:=hN;dsimp only at hs;refine cF 23 [0,1,2] Tryz.func76 ?_;unfold dO mR;dsimp only;refine aJ ?_;refine fM [(0,true),(1,true),(2,true),(3,true),(4,true),(5,true),(6,true),(7,true),(8,true),(9,true),(10,true),(11,true),(12,true),(13,false),(14,false),(15,true),(16,true),(17,false)] ?_;refine zK ?_;refine BP ?_;refine CY ?_;refine XB ?_;refine DQ fun r19 h19=> ?_;intros
 refine fB rfl ((zs++ [(⟨op,kd,vs.length,false⟩:Ct)]).map mM) (zs++ [(⟨op,kd,vs.length,false⟩:Ct)]).length ?_;refine bH fun r20 h20=> ?_;intros
 refine z77 ?_;refine mJ ?_;refine lF ?_;refine bY ?_;exact aE aF ⟨r20,by exact⟨by(exact bV),by(exact bV),by(exact bV)⟩,rfl⟩ aA
theorem QO(hN:Nm r p q)(s:PS)(h:s.Gd):SCall Tryz.prog 79 [.ptr r 0] (dO r p q m lv s) (fun y σ=>y=.agg (mM s.top)∧σ=dO r p q m lv (fY s)):=by
 have hd:fY s=⟨(dP s (aX s.top.kd)).vs,(dP s (aX s.top.kd)).cs.dropLast,(dB (dP s (aX s.top.kd)) (((dP s (aX s.top.kd)).vs.length:Int)==s.top.ht)).bad⟩:=rfl;have hp:=h.pops (aX s.top.kd);have hcs:=pM s (aX s.top.kd);rw[hd];obtain⟨i,hi⟩:=h.cut;generalize s.top=t at hi hcs hp⊢;have hpa:=fun(hN:Nm r p q)=>lA (m:=m) (lv:=lv) hN s h (aX t.kd) (by have:=qM t.kd;omega)
 generalize dP s (aX t.kd)=s1 at hcs hp hpa⊢;have hbc:=h.bc;have hbv:=h.bv;have hbv1:=hp.bv;obtain⟨vs,zs,b⟩:=s;obtain⟨vs1,zs1,b1⟩:=s1;dsimp only at hi hcs hbc hbv hbv1;subst hi hcs;rw[wH]at hbc;obtain⟨n1,n2,n3⟩:=hN;have hel:=sO (l:=i.map mM) (x:=mM t) (n:=i.length) (by simp);refine cF 46 [0,2,3] Tryz.func79 ?_;unfold dO mR;dsimp only;rw[wH,HY];refine dX ?_;refine jU fun r2 h2=> ?_;intros
 refine lD ?_;refine fM [(0,true),(1,true),(2,true),(3,true),(4,true),(5,true),(6,true),(7,true),(8,true),(9,true),(10,true),(11,true),(12,false),(13,false)] ?_;refine pC ?_;refine sI ?_;refine MT ?_;refine xB ?_;apply dal;rfl;infer_instance;rfl;exact wY;refine jZ fun r3 h3=> ?_;intros
 refine z95 ?_;refine xA ?_;refine kA ?_;refine MR [] Tryz.call191 (tQ t.kd) ?_;refine cw (dO r p q m lv ⟨vs,i++ [t],b⟩) Tryz.call192 (hpa ⟨n1,n2,n3⟩) rfl aC cE ?_;rintro _ σ' rfl h20;refine oE ?_;refine lD ?_;refine fM [(0,true),(1,true),(2,true),(3,true),(6,true),(7,true),(4,false),(5,true),(8,true),(9,false)] ?_;refine fI rfl (aD (E rfl)) rfl ?_;refine GL ?_;refine OW ?_;refine fX ?_;first|refine dhl rfl (aM (E rfl) rfl bA (fun _=>rfl)) rfl ?_ |refine dhl rfl (aM (E rfl) rfl bA (fun _=>by assumption)) rfl ?_ |refine dhl rfl (aN (E rfl) rfl (fun hc=>by first|rfl|exact aH (by assumption)|assumption|exact aH (aQ (by omega))) (fun _=>rfl)) rfl ?_
 refine WS ?_;refine z79 ?_;refine rW (dO r p q m lv ⟨vs1,i++ [t],b1⟩) rfl Tryz.call189 (kF ⟨n1,n2,n3⟩ _ ((vs1.length:Int)==t.ht)) rfl aC cE aDw ?_;rintro _ σ' rfl h30;refine TO ?_;refine lF ?_;dsimp only[dB];rw[wH,HY];refine fM [(0,true),(1,true),(2,true),(3,true),(4,true),(5,true),(6,true),(7,true),(8,true),(9,true),(10,true),(11,true),(12,true),(13,true),(14,false)] ?_;refine zK ?_;refine sI ?_;refine z25 ?_;refine z77 ?_;refine mJ ?_;refine lF ?_;rw[qN];refine dQ (nZ (o:=q) i.length cA) ?_;rw[show List.take i.length (i.map mM++ [mM t])=i.map mM by rw[List.take_left' (by simp)]];rw[List.dropLast_concat];refine jQ ?_;refine oS ?_;refine lW ?_;exact aE aF ⟨by rfl,rfl⟩ aA
theorem FW(hN:Nm r p q)(s:PS)(h:s.Gd):SCall Tryz.prog 187 [.ptr r 0] (dO r p q m lv s) (fun _ σ=>σ=dO r p q m lv (oO s)):=by
 have hd:oO s=⟨s.vs.take s.top.ht,s.cs.dropLast++ [⟨s.top.op,s.top.kd,s.top.ht,true⟩],s.bad⟩:=rfl;rw[hd];obtain⟨i,hi⟩:=h.cut;have h0:=h.toOk0;generalize s.top=t at hi⊢;have hbc:=h.bc;have hbv:=h.bv;obtain⟨vs,zs,b⟩:=s;dsimp only at hi hbc hbv;subst hi;rw[wH]at hbc;obtain⟨-,hh,-⟩:=h0.split;obtain⟨n1,n2,n3⟩:=hN;have hel:=sO (l:=i.map mM) (x:=mM t) (n:=i.length) (by simp);refine cF 29 [0,2] Tryz.func187 ?_;unfold dO mR;dsimp only;rw[wH,HY];refine aJ ?_;refine fM [(0,true),(1,true),(2,true),(3,true),(4,true),(5,true),(6,true),(7,true),(8,true),(9,true),(10,true),(11,true)] ?_;refine pC ?_;refine sI ?_;refine MT ?_;refine yB ?_;refine fM [(0,true),(1,true),(2,true),(3,true),(4,true),(5,true),(6,true),(7,true),(8,true),(9,true),(10,true),(11,true),(12,true),(13,false),(14,true),(15,true),(16,false)] ?_;refine BP ?_;refine pC ?_;refine GL ?_;refine fI rfl (fJ (E rfl) rfl (by decide)) rfl ?_;refine fI rfl (bO (E rfl) rfl bA (fun _=>hel) (fun _=>rfl)) rfl ?_;refine z25 ?_;refine z77 ?_;refine mJ ?_;refine z77 ?_;refine fI rfl (fJ (E rfl) rfl (by decide)) rfl ?_;apply aHO;rfl;infer_instance;rfl;rfl;rfl;rfl;exact cA;exact atT;exact GK;rfl;exact fV;refine lF ?_;rw[NM (by simp)];refine AP (nZ (o:=p) t.ht cA) ?_
 rw[←List.map_take,List.dropLast_concat,wH,HY,show t.ht-0=(vs.take t.ht).length by rw[List.length_take];omega];refine bY ?_;apply aE;exact aF
 ·rfl
 ·exact aA
theorem AQ(hN:Nm r p q)(s:PS)(hs:s.cs.length≤1000000)(n:Int)(hn:0≤n):SCall Tryz.prog 193 [.ptr r 0,.int .i64 n] (dO r p q m lv s) (fun y σ=>y=.ro 1 ((cQ s n).1.map aP) .any∧σ=dO r p q m lv (cQ s n).2):=by
 obtain⟨vs,zs,b⟩:=s;obtain⟨n1,n2,n3⟩:=hN;dsimp only at hs;refine cF 36 [0,1,4,5,12,32] Tryz.func193 ?_;unfold dO mR;dsimp only;refine mW ?_;refine kG ?_;refine kU ?_;refine zJ ?_;refine aB rfl (fun g1=> ?_) (fun g1=> ?_)
 ·have hP:cQ ⟨vs,zs,b⟩ n=([],⟨vs,zs,true⟩):=if_pos g1;rw[hP];refine xP ?_;refine dX ?_;refine oZ ?_;refine dQ (eF (j:=4) (y:=.ro 1 (([]:List Int).map aP) .any) rfl VLe.empty) ?_;refine aJ ?_;exact aE aF ⟨by rfl,rfl⟩ aA
 have hlt:n<zs.length:=by simp at g1;omega
 obtain⟨t,ht⟩:∃t,zs[zs.length-1-n.toNat]? =some t:=⟨_,List.getElem?_eq_getElem (by omega)⟩
 have hP:cQ ⟨vs,zs,b⟩ n=(if(t.op==3)=true then []else aX t.kd,⟨vs,zs,b⟩):=by unfold cQ;rw[if_neg (by simpa using g1)];dsimp only;rw[List.getD_eq_getElem?_getD,ht];rfl
 rw[hP];have hel:(zs.map mM)[(((zs.length:Nat):Int)-1-n).toNat]? =some (mM t):=by rw[show(((zs.length:Nat):Int)-1-n).toNat=zs.length-1-n.toNat by omega,List.getElem?_map,ht];rfl
 refine aJ ?_;refine fM [(0,true),(1,true),(2,true),(3,true),(4,true),(5,true),(6,true),(7,true),(8,true),(9,true),(10,true),(11,true),(12,true),(13,true),(14,false),(15,false)] ?_;refine pC ?_;refine sI ?_;refine fI rfl (aD (E rfl)) rfl ?_;refine z82 ?_;refine MT ?_;refine xB ?_;apply dal;rfl;infer_instance;rfl;exact wY;refine jZ fun r5 h5=> ?_;intros
 refine z95 ?_;refine xA ?_;refine fN ?_;refine rO ?_;refine aB rfl (fun g5=> ?_) (fun g5=> ?_)
 ·rw[if_pos g5];refine dX ?_;refine oZ ?_;refine dQ (eF (j:=4) (y:=.ro 1 (([]:List Int).map aP) .any) rfl VLe.empty) ?_;refine aJ ?_;exact aE aF ⟨by rfl,rfl⟩ aA
 rw[if_neg (by simp[g5])];refine fN ?_;refine cw [] Tryz.call191 (tQ t.kd) rfl aC aA ?_;rintro _ σ' ⟨rfl,rfl⟩ h35;refine eZ ?_;exact aE aF ⟨by rfl,rfl⟩ aA
theorem sS(hN:Nm r p q)(s:PS)(n:Int):SCall Tryz.prog 74 [.ptr r 0,.int .i64 n] (dO r p q m lv s) (fun y σ=>y=.tup [.agg (dD (cK m n).1),.bool (cK m n).2]∧σ=dO r p q m lv s):=by
 obtain⟨vs,zs,b⟩:=s;obtain⟨n1,n2,n3⟩:=hN;refine cF 27 [0,1,4,5,17] Tryz.func74 ?_;unfold dO mR;dsimp only;refine dX ?_;refine jU fun r4 h4=> ?_;intros
 refine hZ ?_;refine vG ?_;refine pW ?_;refine aGY ?_;refine aKw ?_;refine aEr ?_;refine aAP ?_;refine lL ?_;refine aB rfl (fun g1=> ?_) (fun g1=> ?_)
 ·have hP:cK m n=(sR,false):=if_pos g1;rw[hP];refine uE ?_;refine GP ?_;refine dQ (gR (r:=r4) (cs':=dD sR) cA (.cons (.le VLe.empty) (.cons (.le VLe.empty) .nil))) ?_;refine aJ ?_;exact aE aF ⟨by rfl,rfl⟩ aA
 have hlt:0≤n∧n<m.ty.length:=by constructor<;>(apply Int.not_lt.1;intro hc;apply Bool.false_ne_true;rw[←g1];simp;omega)
 obtain⟨t,ht⟩:∃t,m.ty[n.toNat]? =some t:=⟨_,List.getElem?_eq_getElem (by omega)⟩
 have hP:cK m n=(t,true):=by unfold cK;rw[if_neg (by simpa using g1)];rw[List.getD_eq_getElem?_getD,ht];rfl
 rw[hP];refine KM ?_;refine fW ?_;refine mX ?_;refine CW ?_;exact aE aF ⟨by rfl,rfl⟩ aA
theorem AR{ls:List Int}(hN:Nm r p q)(s:PS)(n:Int)(hn:0≤n):SCall Tryz.prog 197 [.ptr r 0,.int .i64 n] (dO r p q m (.ro 1 (ls.map aP) .any) s) (fun y σ=>y=.int .i64 (cR ls s n).1∧σ=dO r p q m (.ro 1 (ls.map aP) .any) (cR ls s n).2):=by
 obtain⟨vs,zs,b⟩:=s;obtain⟨n1,n2,n3⟩:=hN;refine cF 22 [0,1,4,11] Tryz.func197 ?_;unfold dO mR;dsimp only;refine mW ?_;refine kG ?_;refine kU ?_;refine zJ ?_;refine aB rfl (fun g1=> ?_) (fun g1=> ?_)
 ·have hP:cR ls ⟨vs,zs,b⟩ n=(0,⟨vs,zs,true⟩):=if_pos g1;rw[hP];refine xP ?_;refine bM ?_;exact aE aF ⟨by rfl,rfl⟩ aA
 obtain⟨t,ht⟩:∃t,ls[n.toNat]? =some t:=⟨_,List.getElem?_eq_getElem (by simp at g1;omega)⟩
 have hlt:n<ls.length:=by simp at g1;omega
 have hP:cR ls ⟨vs,zs,b⟩ n=(t,⟨vs,zs,b⟩):=by unfold cR;rw[if_neg (by simpa using g1)];rw[List.getD_eq_getElem?_getD,ht];rfl
 rw[hP];refine oK ?_;refine nJ ?_;refine dE ?_;exact aE aF ⟨by rfl,rfl⟩ aA
theorem NZ(hN:Nm r p q)(s:PS)(n:Int)(hn:0≤n):SCall Tryz.prog 198 [.ptr r 0,.int .i64 n] (dO r p q m lv s) (fun y σ=>y=.agg (dZ (eC m s n).1)∧σ=dO r p q m lv (eC m s n).2):=by
 obtain⟨vs,zs,b⟩:=s;obtain⟨n1,n2,n3⟩:=hN;refine cF 25 [0,1,4,12] Tryz.func198 ?_;unfold dO mR;dsimp only;refine dX ?_;refine jU fun r4 h4=> ?_;intros
 refine iF ?_;refine eX ?_;refine uO ?_;refine fW ?_;refine kU ?_;refine zJ ?_;refine aB rfl (fun g1=> ?_) (fun g1=> ?_)
 ·have hP:eC m ⟨vs,zs,b⟩ n=(NX,⟨vs,zs,true⟩):=if_pos g1;rw[hP];refine xP ?_;refine uE ?_;refine lW ?_;exact aE aF ⟨by rfl,rfl⟩ aA
 obtain⟨t,ht⟩:∃t,m.gl[n.toNat]? =some t:=⟨_,List.getElem?_eq_getElem (by simp at g1;omega)⟩
 have hlt:n<m.gl.length:=by simp at g1;omega
 have hP:eC m ⟨vs,zs,b⟩ n=(t,⟨vs,zs,b⟩):=by unfold eC;rw[if_neg (by simpa using g1)];rw[List.getD_eq_getElem?_getD,ht];rfl
 rw[hP];refine KM ?_;refine fW ?_;refine mX ?_;refine lW ?_;exact aE aF ⟨by rfl,rfl⟩ aA
end
section
variable {r p q : Nat} {m : Md} {lv : AV}
theorem VO(hN:Nm r p q)(s:PS)(hi:m.im.length≤1000000)(f:Int)(hf:0≤f)(hf2:f≤9223372036854775807):SCall Tryz.prog 196 [.ptr r 0,.int .i64 f] (dO r p q m lv s) (fun y σ=>y=.tup [.agg (dD (cK m (kQ m f)).1),.bool (cK m (kQ m f)).2]∧σ=dO r p q m lv s):=by
 obtain⟨vs,zs,b⟩:=s;have hN0:=hN;obtain⟨n1,n2,n3⟩:=hN;refine cF 51 [0,1,4,5,6,7,16,35] Tryz.func196 ?_;unfold dO mR;dsimp only;refine dX ?_;refine jU fun r4 h4=> ?_;intros
 refine lJ ?_;refine hZ ?_;refine uO ?_;refine fW ?_;refine kU ?_;refine lK ?_;refine BO ?_;refine aB rfl (fun g3=> ?_) (fun g3=> ?_)
 ·have hlt:f<m.im.length:=by simpa using g3
  obtain⟨x,hx⟩:∃x,m.im[f.toNat]? =some x:=⟨_,List.getElem?_eq_getElem (by omega)⟩
  have hP:kQ m f=x.ty:=by unfold kQ;rw[if_pos g3,List.getD_eq_getElem?_getD,hx];rfl
  rw[hP];refine KM ?_;refine fW ?_;refine pZ ?_;refine OV ?_;refine lK ?_;refine cw (dO r p q m lv ⟨vs,zs,b⟩) Tryz.call74 (sS hN0 _ _) rfl aC cE ?_;rintro _ σ' ⟨rfl,rfl⟩ h48;refine oE ?_;refine PA ?_;refine CW ?_;exact aE aF ⟨by rfl,rfl⟩ aA
 have hge:¬f<m.im.length:=by simpa using g3
 refine eX ?_;refine tA ?_;refine lo (aD (E rfl)) rfl ?_;refine uO ?_;refine fW ?_;refine GO ?_;refine aB rfl (fun g5=> ?_) (fun g5=> ?_)
 ·have hlt:f-m.im.length<m.fn.length:=by simpa using g5
  obtain⟨x,hx⟩:∃x,m.fn[(f-m.im.length).toNat]? =some x:=⟨_,List.getElem?_eq_getElem (by omega)⟩
  have hP:kQ m f=x:=by unfold kQ;rw[if_neg (by simpa using g3),if_pos g5,List.getD_eq_getElem?_getD,hx];rfl
  rw[hP];refine KM ?_;refine fW ?_;refine XF ?_;refine tA ?_;refine mI ?_;refine lK ?_;refine cw (dO r p q m lv ⟨vs,zs,b⟩) Tryz.call74 (sS hN0 _ _) rfl aC cE ?_;rintro _ σ' ⟨rfl,rfl⟩ h48;refine oE ?_;refine PA ?_;refine CW ?_;exact aE aF ⟨by rfl,rfl⟩ aA
 have hP:kQ m f=-1:=by unfold kQ;rw[if_neg (by simpa using g3),if_neg (by simpa using g5)]
 rw[hP];refine eX ?_;refine cw (dO r p q m lv ⟨vs,zs,b⟩) Tryz.call74 (sS hN0 _ _) rfl aC cE ?_;rintro _ σ' ⟨rfl,rfl⟩ h48;refine oE ?_;refine PA ?_;refine CW ?_;exact aE aF ⟨by rfl,rfl⟩ aA
theorem VP(hN:Nm r p q)(s:PS)(h:s.Gd)(t:FT)(ht:t.Sm)(ok:Bool):SCall Tryz.prog 195 [.ptr r 0,.agg (dD t),.bool ok] (dO r p q m lv s) (fun _ σ=>∃e,Nm r e q∧σ=dO r e q m lv (qL s t ok)):=by
 obtain⟨pr,rs⟩:=t;obtain⟨ht1,ht2⟩:=ht;dsimp only at ht1 ht2;have hN0:=hN;obtain⟨n1,n2,n3⟩:=hN;have h1:=h.need ok;have h2:=h1.pops pr;refine cF 17 [0,1,2,4] Tryz.func195 ?_;unfold dO mR
 (try dsimp only);refine dX ?_;refine iQ fun r4 h4=> ?_;intros
 refine iF ?_;refine eX ?_;refine cw (dO r p q m lv s) Tryz.call189 (kF hN0 s ok) rfl aC cE ?_;rintro _ σ' rfl h8;refine mV ?_;refine kA ?_;refine cw (dO r p q m lv (dB s ok)) Tryz.call192 (lA hN0 _ h1 pr (by omega)) rfl aC cE ?_;rintro _ σ' rfl h12;refine mV ?_;refine kA ?_;refine cw (dO r p q m lv (dP (dB s ok) pr)) Tryz.call190 (lU hN0 _ h2.bv rs (by omega)) rfl aC cE ?_;rintro _ σ' ⟨e,hE,rfl⟩ h16;unfold dO mR;(try dsimp only);obtain⟨e1,e2,e3⟩:=id hE;refine gX ?_;refine bY ?_;exact aE aF ⟨e,hE,rfl⟩ aA
theorem mN(hN:Nm r p q)(s:PS)(h:s.Gd)(x:Ins)(al:Int)(tk mk:List Int)(ht:tk.length≤1000)(hm:mk.length≤1000):SCall Tryz.prog 199 [.ptr r 0,.agg (iv .any x),.int .i64 al,.ro 1 (tk.map aP) .any,.ro 1 (mk.map aP) .any] (dO r p q m lv s) (fun _ σ=>∃e,Nm r e q∧σ=dO r e q m lv (gD m s x al tk mk)):=by
 have hN0:=hN;obtain⟨n1,n2,n3⟩:=hN;have h1:=h.need (if m.me.has=true then decide (x.a≤al)else false);have h2:=h1.pops tk;unfold iv;refine cF 30 [0,1,2,3,4,6] Tryz.func199 ?_;unfold dO mR
 (try dsimp only);refine dX ?_;refine iQ fun r6 h6=> ?_;intros
 refine iF ?_;refine eX ?_;refine uO ?_;refine wL ?_;refine fW ?_;refine sH ?_;refine aB9 ?_;refine rX ?_;refine cw (dO r p q m lv s) Tryz.call189 (kF hN0 s (if m.me.has=true then decide (x.a≤al)else false)) rfl aC cE ?_;rintro _ σ' rfl h23;refine mV ?_;refine eX ?_;refine cw (dO r p q m lv (dB s (if m.me.has=true then decide (x.a≤al)else false))) Tryz.call192 (lA hN0 _ h1 tk (by omega)) rfl aC cE ?_;rintro _ σ' rfl h26;refine mV ?_;refine eX ?_;refine cw (dO r p q m lv (dP (dB s (if m.me.has=true then decide (x.a≤al)else false)) tk)) Tryz.call190 (lU hN0 _ h2.bv mk hm) rfl aC cE ?_;rintro _ σ' ⟨e,hE,rfl⟩ h29;unfold dO mR;(try dsimp only);obtain⟨e1,e2,e3⟩:=id hE;refine gX ?_;refine bY ?_;exact aE aF ⟨e,hE,rfl⟩ aA
theorem PS.Gd.label {s:PS}(h:s.Gd)(n:Int):(cQ s n).2.Gd:=⟨h.toOk.label n,by rw[wG];exact h.bv,by rw[wF];exact h.bc⟩
theorem PS.Gd.tabs {s:PS}(h:s.Gd)(w l:List Int):(l.foldl (xH w) s).Gd:=by
 obtain⟨h1,h2,h3⟩:=AN w l s;exact⟨h3 h.toOk,by rw[h2];exact h.bv,by rw[h1];exact h.bc⟩
theorem aJm{a b:List Int}(ha:a.length≤1)(hb:b.length≤1):(a=[]∧b=[])∨(a=[]∧∃v,b=[v])∨((∃g,a=[g])∧b=[])∨∃g v,a=[g]∧b=[v]:=by
 match a,b,ha,hb with
 |[],[],_,_=>exact .inl ⟨rfl,rfl⟩
 |[],[v],_,_=>exact .inr (.inl ⟨rfl,v,rfl⟩)
 |[g],[],_,_=>exact .inr (.inr (.inl ⟨⟨g,rfl⟩,rfl⟩))
 |[g],[v],_,_=>exact .inr (.inr (.inr ⟨g,v,rfl,rfl⟩))
theorem aDy{w l:List Int}{s:PS}{j:Nat}{n:Int}(h:l[j]? =some n):(l.take (j+1)).foldl (xH w) s=dB (cQ ((l.take j).foldl (xH w) s) n).2 (eq1 (cQ ((l.take j).foldl (xH w) s) n).1 w):=by
 rw[List.take_add_one,h,List.foldl_append];rfl
theorem aDz(hN:Nm r p q)(s:PS)(h:s.Gd)(x:Ins)(ha:0≤x.a)(hl:∀n∈x.l,0≤n)(hll:x.l.length≤1000000):SCall Tryz.prog 194 [.ptr r 0,.agg (iv .any x)] (dO r p q m lv s) (fun _ σ=>σ=dO r p q m lv (tO s x)):=by
  have hN0:=hN;obtain⟨n1,n2,n3⟩:=hN;have h1:=h.pop 1;have h2:=h1.label x.a;have hw:=nV (cP s 1).2 x.a;have hT:tO s x=oO (dP (x.l.foldl (xH (cQ (cP s 1).2 x.a).1) (cQ (cP s 1).2 x.a).2) (cQ (cP s 1).2 x.a).1):=rfl;rw[hT];have cl:=AQ (m:=m) (lv:=lv) hN0 (cP s 1).2 h1.bc x.a ha;generalize(cQ (cP s 1).2 x.a).2=s2 at h2 cl⊢;generalize(cQ (cP s 1).2 x.a).1=w at hw cl⊢;obtain⟨xo,xa,xb,xl⟩:=x;dsimp only at ha hl hll cl⊢;unfold iv;refine cF 51 [0,1,3,4,6,7,15,16,17,18] Tryz.func194 ?_;unfold dO mR
  (try dsimp only);refine dX ?_;refine iQ fun r3 h3=> ?_;intros
  refine iF ?_;refine dM ?_;refine cw (dO r p q m lv s) Tryz.call188 (oX hN0 s h 1) rfl aC cE ?_;rintro _ σ' ⟨rfl,rfl⟩ h9;refine mV ?_;refine kA ?_;refine cw (dO r p q m lv (cP s 1).2) Tryz.call193 cl rfl aC cE ?_;rintro _ σ' ⟨rfl,rfl⟩ h13;refine oE ?_;refine iW ?_;refine oH ?_;refine lp (β:=Nat) (fun j=>⟨[(0,.ptr r 0),(3,.ptr r3 0),(4,.ro 1 (w.map aP) .any),(15,.ro 1 (xl.map aP) .any),(16,.int .i64 xl.length),(17,.int .i64 j)],(r3,.box 46 [.int .i64 xo,.int .i64 xa,.int .i64 xb,.ro 1 (xl.map aP) .any])::dO r p q m lv ((xl.take j).foldl (xH w) s2)⟩) (fun j=>j≤xl.length) (fun j=>xl.length-j) 0 (by unfold dO mR;(try dsimp only);(exact aL)) (Nat.zero_le _) ?_;intro j hj
  (try dsimp only);have hS:=h2.tabs w (xl.take j);refine jR ?_;refine aB rfl (fun g4=> ?_) (fun g4=> ?_)
  · obtain⟨n,hn⟩:∃n,xl[j]? =some n:=⟨_,List.getElem?_eq_getElem (by simp at g4;omega)⟩
    have hlt:j<xl.length:=(List.getElem?_eq_some_iff.1 hn).1;have hn0:=hl n (List.mem_of_getElem? hn);have hnx:=aDy (w:=w) (s:=s2) hn;generalize(xl.take j).foldl (xH w) s2=S at hS hnx⊢;unfold dO mR
    (try dsimp only);refine dX ?_;refine mI ?_;refine lK ?_;refine cw (dO r p q m lv S) Tryz.call193 (AQ hN0 S hS.bc n hn0) rfl aC cE ?_;rintro _ σ' ⟨rfl,rfl⟩ h23;refine oE ?_;refine dE ?_;obtain⟨ea,eb⟩|⟨ea,v,eb⟩|⟨⟨g,ea⟩,eb⟩|⟨g,v,ea,eb⟩:=aJm (nV S n) hw
    · rw[ea];subst eb;rw[ea,show eq1 [] []=true from rfl]at hnx;refine fM [(0,true),(1,true),(2,true),(3,true),(4,true),(5,true),(6,true),(7,true),(8,true),(9,true),(10,true),(11,true),(12,true),(13,true),(14,true),(15,true),(16,true),(17,true),(18,true),(19,true),(20,false)] ?_;refine BP ?_;refine WS ?_;refine fI rfl (aD (E rfl)) rfl ?_;refine WS ?_;refine z79 ?_;rw[show((([]:List Int).length:Int)==(([]:List Int).length:Int))=true from rfl];refine BQ ?_;refine aH1 ?_;rw[show((([]:List Int).length:Int)==0)=true from rfl]
      (first|refine jY rfl rfl rfl rfl rfl ?_ |(refine eS rfl rfl rfl (aD (by first|exact W rfl id|exact E rfl)) rfl ?_)|refine eQ rfl rfl rfl (aD (by first|exact W rfl id|exact E rfl)) rfl ?_);first|refine jY rfl rfl rfl rfl rfl ?_ |(refine eS rfl rfl rfl (aD (E rfl)) rfl ?_)|refine eQ rfl rfl rfl (aD (E rfl)) rfl ?_ |refine eJ rfl rfl rfl (aD (E rfl)) rfl ?_ |refine eJ rfl rfl rfl (bS (v:=.bool false)) rfl ?_
      first
        |refine jY rfl rfl rfl rfl rfl ?_
        |(
          first
           |refine eS rfl rfl rfl (bF (by
            first
             |exact W rfl id
             |exact E rfl) (E rfl) (fun hc=>by(simp only[List.length_map];omega))) rfl ?_
           |refine eS rfl rfl rfl (aV (by
            first
             |exact W rfl id
             |exact E rfl) bA (E rfl) (fun hc=>by omega)) rfl ?_
           |refine eS rfl rfl rfl (bJ (by
            first
             |exact W rfl id
             |exact E rfl) bA (E rfl) (fun hc=>by omega)) rfl ?_)
        |refine eQ rfl rfl rfl (bF (by
           first
            |exact W rfl (by
            first
             |exact id
             |simp)
            |exact E rfl) (E rfl) (fun hc=>by(try simp at hc)<;>(simp only[List.length_map];omega))) rfl ?_
        |refine eQ rfl rfl rfl (aV (by
           first
            |exact W rfl (by
            first
             |exact id
             |simp)
            |exact E rfl) bA (E rfl) (fun hc=>by(try simp at hc)<;>omega)) rfl ?_
        |refine eQ rfl rfl rfl (bJ (by
           first
            |exact W rfl (by
            first
             |exact id
             |simp)
            |exact E rfl) bA (E rfl) (fun hc=>by(try simp at hc)<;>omega)) rfl ?_
        |refine eJ rfl rfl rfl (bF (by
           first
            |exact W rfl (by
            first
             |exact id
             |simp)
            |exact E rfl) (E rfl) (fun hc=>by(try simp at hc)<;>(simp only[List.length_map];omega))) rfl ?_
        |refine eJ rfl rfl rfl (aV (by
           first
            |exact W rfl (by
            first
             |exact id
             |simp)
            |exact E rfl) bA (E rfl) (fun hc=>by(try simp at hc)<;>omega)) rfl ?_
        |refine eJ rfl rfl rfl (bJ (by
           first
            |exact W rfl (by
            first
             |exact id
             |simp)
            |exact E rfl) bA (E rfl) (fun hc=>by(try simp at hc)<;>omega)) rfl ?_
        |refine eJ rfl rfl rfl (bS (v:=.bool false)) rfl ?_
      first
        |refine jY rfl rfl rfl rfl rfl ?_
        |(
          first
           |refine eS rfl rfl rfl (aN (by
            first
             |exact W rfl id
             |exact E rfl) rfl (fun hc=>by
            first
             |rfl
             |exact aH (by assumption)
             |assumption
             |exact aH (aQ (by omega))) (fun _=>rfl)) rfl ?_
           |refine eS rfl rfl rfl (bO (by
            first
             |exact W rfl id
             |exact E rfl) rfl bA (fun hc=>by
            first
             |rfl
             |exact aH (by assumption)
             |assumption
             |exact aH (aQ (by omega))) (fun _=>rfl)) rfl ?_)
        |refine eQ rfl rfl rfl (aN (by
           first
            |exact W rfl (by
            first
             |exact id
             |simp)
            |exact E rfl) rfl (fun hc=>by
           first
            |rfl
            |exact aH (by assumption)
            |assumption
            |exact aH (aQ (by(try simp at hc)<;>omega))) (fun _=>rfl)) rfl ?_
        |refine eQ rfl rfl rfl (bO (by
           first
            |exact W rfl (by
            first
             |exact id
             |simp)
            |exact E rfl) rfl bA (fun hc=>by
           first
            |rfl
            |exact aH (by assumption)
            |assumption
            |exact aH (aQ (by(try simp at hc)<;>omega))) (fun _=>rfl)) rfl ?_
        |refine eJ rfl rfl rfl (aN (by
           first
            |exact W rfl (by
            first
             |exact id
             |simp)
            |exact E rfl) rfl (fun hc=>by
           first
            |rfl
            |exact aH (by assumption)
            |assumption
            |exact aH (aQ (by(try simp at hc)<;>omega))) (fun _=>rfl)) rfl ?_
        |refine eJ rfl rfl rfl (bO (by
           first
            |exact W rfl (by
            first
             |exact id
             |simp)
            |exact E rfl) rfl bA (fun hc=>by
           first
            |rfl
            |exact aH (by assumption)
            |assumption
            |exact aH (aQ (by(try simp at hc)<;>omega))) (fun _=>rfl)) rfl ?_
        |refine eJ rfl rfl rfl (bS (v:=.bool false)) rfl ?_
      first|refine jY rfl rfl rfl rfl rfl ?_ |(refine eS rfl rfl rfl (aD (E rfl)) rfl ?_)|refine eQ rfl rfl rfl (aD (E rfl)) rfl ?_ |refine eJ rfl rfl rfl (aD (E rfl)) rfl ?_ |refine eJ rfl rfl rfl (bS (v:=.bool false)) rfl ?_
      first
        |refine jY rfl rfl rfl rfl rfl ?_
        |(
          first
           |refine eS rfl rfl rfl (bF (by
            first
             |exact W rfl id
             |exact E rfl) (E rfl) (fun hc=>by(simp only[List.length_map];omega))) rfl ?_
           |refine eS rfl rfl rfl (aV (by
            first
             |exact W rfl id
             |exact E rfl) bA (E rfl) (fun hc=>by omega)) rfl ?_
           |refine eS rfl rfl rfl (bJ (by
            first
             |exact W rfl id
             |exact E rfl) bA (E rfl) (fun hc=>by omega)) rfl ?_)
        |refine eQ rfl rfl rfl (bF (by
           first
            |exact W rfl (by
            first
             |exact id
             |simp)
            |exact E rfl) (E rfl) (fun hc=>by(try simp at hc)<;>(simp only[List.length_map];omega))) rfl ?_
        |refine eQ rfl rfl rfl (aV (by
           first
            |exact W rfl (by
            first
             |exact id
             |simp)
            |exact E rfl) bA (E rfl) (fun hc=>by(try simp at hc)<;>omega)) rfl ?_
        |refine eQ rfl rfl rfl (bJ (by
           first
            |exact W rfl (by
            first
             |exact id
             |simp)
            |exact E rfl) bA (E rfl) (fun hc=>by(try simp at hc)<;>omega)) rfl ?_
        |refine eJ rfl rfl rfl (bF (by
           first
            |exact W rfl (by
            first
             |exact id
             |simp)
            |exact E rfl) (E rfl) (fun hc=>by(try simp at hc)<;>(simp only[List.length_map];omega))) rfl ?_
        |refine eJ rfl rfl rfl (aV (by
           first
            |exact W rfl (by
            first
             |exact id
             |simp)
            |exact E rfl) bA (E rfl) (fun hc=>by(try simp at hc)<;>omega)) rfl ?_
        |refine eJ rfl rfl rfl (bJ (by
           first
            |exact W rfl (by
            first
             |exact id
             |simp)
            |exact E rfl) bA (E rfl) (fun hc=>by(try simp at hc)<;>omega)) rfl ?_
        |refine eJ rfl rfl rfl (bS (v:=.bool false)) rfl ?_
      first
        |refine jY rfl rfl rfl rfl rfl ?_
        |(
          first
           |refine eS rfl rfl rfl (aN (by
            first
             |exact W rfl id
             |exact E rfl) rfl (fun hc=>by
            first
             |rfl
             |exact aH (by assumption)
             |assumption
             |exact aH (aQ (by omega))) (fun _=>rfl)) rfl ?_
           |refine eS rfl rfl rfl (bO (by
            first
             |exact W rfl id
             |exact E rfl) rfl bA (fun hc=>by
            first
             |rfl
             |exact aH (by assumption)
             |assumption
             |exact aH (aQ (by omega))) (fun _=>rfl)) rfl ?_)
        |refine eQ rfl rfl rfl (aN (by
           first
            |exact W rfl (by
            first
             |exact id
             |simp)
            |exact E rfl) rfl (fun hc=>by
           first
            |rfl
            |exact aH (by assumption)
            |assumption
            |exact aH (aQ (by(try simp at hc)<;>omega))) (fun _=>rfl)) rfl ?_
        |refine eQ rfl rfl rfl (bO (by
           first
            |exact W rfl (by
            first
             |exact id
             |simp)
            |exact E rfl) rfl bA (fun hc=>by
           first
            |rfl
            |exact aH (by assumption)
            |assumption
            |exact aH (aQ (by(try simp at hc)<;>omega))) (fun _=>rfl)) rfl ?_
        |refine eJ rfl rfl rfl (aN (by
           first
            |exact W rfl (by
            first
             |exact id
             |simp)
            |exact E rfl) rfl (fun hc=>by
           first
            |rfl
            |exact aH (by assumption)
            |assumption
            |exact aH (aQ (by(try simp at hc)<;>omega))) (fun _=>rfl)) rfl ?_
        |refine eJ rfl rfl rfl (bO (by
           first
            |exact W rfl (by
            first
             |exact id
             |simp)
            |exact E rfl) rfl bA (fun hc=>by
           first
            |rfl
            |exact aH (by assumption)
            |assumption
            |exact aH (aQ (by(try simp at hc)<;>omega))) (fun _=>rfl)) rfl ?_
        |refine eJ rfl rfl rfl (bS (v:=.bool false)) rfl ?_
      first|refine jY rfl rfl rfl rfl rfl ?_ |(refine eS rfl rfl rfl (dI (by first|exact W rfl id|exact E rfl) (by first|exact W rfl id|exact E rfl)) rfl ?_)|refine eQ rfl rfl rfl (dI (by first|exact W rfl (by first|exact id|simp)|exact E rfl) (by first|exact W rfl (by first|exact id|simp)|exact E rfl)) rfl ?_ |refine eJ rfl rfl rfl (dI (by first|exact W rfl (by first|exact id|simp)|exact E rfl) (by first|exact W rfl (by first|exact id|simp)|exact E rfl)) rfl ?_ |refine eJ rfl rfl rfl (bS (v:=.bool false)) rfl ?_
      refine aEA ?_;refine rW (dO r p q m lv (cQ S n).2) rfl Tryz.call189 (kF hN0 _ true) rfl aC cE aDw ?_;rintro _ σ' rfl h44;refine TO ?_;refine xA ?_;refine mP ?_;refine⟨j+1,hlt,by show xl.length-(j+1)<xl.length-j;omega, ?_⟩
      (try dsimp only);rw[hnx];exact aL
    · rw[ea];subst eb;rw[ea,show eq1 [] [v]=false by simp[eq1]]at hnx;refine fM [(0,true),(1,true),(2,true),(3,true),(4,true),(5,true),(6,true),(7,true),(8,true),(9,true),(10,true),(11,true),(12,true),(13,true),(14,true),(15,true),(16,true),(17,true),(18,true),(19,true),(20,false)] ?_;refine BP ?_;refine WS ?_;refine fI rfl (aD (E rfl)) rfl ?_;refine WS ?_;refine z79 ?_;rw[show((([]:List Int).length:Int)==(([v]:List Int).length:Int))=false from rfl];refine BQ ?_;refine aGX ?_;first|refine jY rfl rfl rfl rfl rfl ?_ |(refine eS rfl rfl rfl (aD (E rfl)) rfl ?_)|refine eQ rfl rfl rfl (aD (E rfl)) rfl ?_ |refine eJ rfl rfl rfl (aD (E rfl)) rfl ?_ |refine eJ rfl rfl rfl (bS (v:=.bool false)) rfl ?_
      first
        |refine jY rfl rfl rfl rfl rfl ?_
        |(
          first
           |refine eS rfl rfl rfl (bF (by
            first
             |exact W rfl id
             |exact E rfl) (E rfl) (fun hc=>by(simp only[List.length_map];omega))) rfl ?_
           |refine eS rfl rfl rfl (aV (by
            first
             |exact W rfl id
             |exact E rfl) bA (E rfl) (fun hc=>by omega)) rfl ?_
           |refine eS rfl rfl rfl (bJ (by
            first
             |exact W rfl id
             |exact E rfl) bA (E rfl) (fun hc=>by omega)) rfl ?_)
        |refine eQ rfl rfl rfl (bF (by
           first
            |exact W rfl (by
            first
             |exact id
             |simp)
            |exact E rfl) (E rfl) (fun hc=>by(try simp at hc)<;>(simp only[List.length_map];omega))) rfl ?_
        |refine eQ rfl rfl rfl (aV (by
           first
            |exact W rfl (by
            first
             |exact id
             |simp)
            |exact E rfl) bA (E rfl) (fun hc=>by(try simp at hc)<;>omega)) rfl ?_
        |refine eQ rfl rfl rfl (bJ (by
           first
            |exact W rfl (by
            first
             |exact id
             |simp)
            |exact E rfl) bA (E rfl) (fun hc=>by(try simp at hc)<;>omega)) rfl ?_
        |refine eJ rfl rfl rfl (bF (by
           first
            |exact W rfl (by
            first
             |exact id
             |simp)
            |exact E rfl) (E rfl) (fun hc=>by(try simp at hc)<;>(simp only[List.length_map];omega))) rfl ?_
        |refine eJ rfl rfl rfl (aV (by
           first
            |exact W rfl (by
            first
             |exact id
             |simp)
            |exact E rfl) bA (E rfl) (fun hc=>by(try simp at hc)<;>omega)) rfl ?_
        |refine eJ rfl rfl rfl (bJ (by
           first
            |exact W rfl (by
            first
             |exact id
             |simp)
            |exact E rfl) bA (E rfl) (fun hc=>by(try simp at hc)<;>omega)) rfl ?_
        |refine eJ rfl rfl rfl (bS (v:=.bool false)) rfl ?_
      first
        |refine jY rfl rfl rfl rfl rfl ?_
        |(
          first
           |refine eS rfl rfl rfl (aN (by
            first
             |exact W rfl id
             |exact E rfl) rfl (fun hc=>by
            first
             |rfl
             |exact aH (by assumption)
             |assumption
             |exact aH (aQ (by omega))) (fun _=>rfl)) rfl ?_
           |refine eS rfl rfl rfl (bO (by
            first
             |exact W rfl id
             |exact E rfl) rfl bA (fun hc=>by
            first
             |rfl
             |exact aH (by assumption)
             |assumption
             |exact aH (aQ (by omega))) (fun _=>rfl)) rfl ?_)
        |refine eQ rfl rfl rfl (aN (by
           first
            |exact W rfl (by
            first
             |exact id
             |simp)
            |exact E rfl) rfl (fun hc=>by
           first
            |rfl
            |exact aH (by assumption)
            |assumption
            |exact aH (aQ (by(try simp at hc)<;>omega))) (fun _=>rfl)) rfl ?_
        |refine eQ rfl rfl rfl (bO (by
           first
            |exact W rfl (by
            first
             |exact id
             |simp)
            |exact E rfl) rfl bA (fun hc=>by
           first
            |rfl
            |exact aH (by assumption)
            |assumption
            |exact aH (aQ (by(try simp at hc)<;>omega))) (fun _=>rfl)) rfl ?_
        |refine eJ rfl rfl rfl (aN (by
           first
            |exact W rfl (by
            first
             |exact id
             |simp)
            |exact E rfl) rfl (fun hc=>by
           first
            |rfl
            |exact aH (by assumption)
            |assumption
            |exact aH (aQ (by(try simp at hc)<;>omega))) (fun _=>rfl)) rfl ?_
        |refine eJ rfl rfl rfl (bO (by
           first
            |exact W rfl (by
            first
             |exact id
             |simp)
            |exact E rfl) rfl bA (fun hc=>by
           first
            |rfl
            |exact aH (by assumption)
            |assumption
            |exact aH (aQ (by(try simp at hc)<;>omega))) (fun _=>rfl)) rfl ?_
        |refine eJ rfl rfl rfl (bS (v:=.bool false)) rfl ?_
      first|refine jY rfl rfl rfl rfl rfl ?_ |(refine eS rfl rfl rfl (aD (E rfl)) rfl ?_)|refine eQ rfl rfl rfl (aD (E rfl)) rfl ?_ |refine eJ rfl rfl rfl (aD (E rfl)) rfl ?_ |refine eJ rfl rfl rfl (bS (v:=.bool false)) rfl ?_
      first
        |refine jY rfl rfl rfl rfl rfl ?_
        |(
          first
           |refine eS rfl rfl rfl (bF (by
            first
             |exact W rfl id
             |exact E rfl) (E rfl) (fun hc=>by(simp only[List.length_map];omega))) rfl ?_
           |refine eS rfl rfl rfl (aV (by
            first
             |exact W rfl id
             |exact E rfl) bA (E rfl) (fun hc=>by omega)) rfl ?_
           |refine eS rfl rfl rfl (bJ (by
            first
             |exact W rfl id
             |exact E rfl) bA (E rfl) (fun hc=>by omega)) rfl ?_)
        |refine eQ rfl rfl rfl (bF (by
           first
            |exact W rfl (by
            first
             |exact id
             |simp)
            |exact E rfl) (E rfl) (fun hc=>by(try simp at hc)<;>(simp only[List.length_map];omega))) rfl ?_
        |refine eQ rfl rfl rfl (aV (by
           first
            |exact W rfl (by
            first
             |exact id
             |simp)
            |exact E rfl) bA (E rfl) (fun hc=>by(try simp at hc)<;>omega)) rfl ?_
        |refine eQ rfl rfl rfl (bJ (by
           first
            |exact W rfl (by
            first
             |exact id
             |simp)
            |exact E rfl) bA (E rfl) (fun hc=>by(try simp at hc)<;>omega)) rfl ?_
        |refine eJ rfl rfl rfl (bF (by
           first
            |exact W rfl (by
            first
             |exact id
             |simp)
            |exact E rfl) (E rfl) (fun hc=>by(try simp at hc)<;>(simp only[List.length_map];omega))) rfl ?_
        |refine eJ rfl rfl rfl (aV (by
           first
            |exact W rfl (by
            first
             |exact id
             |simp)
            |exact E rfl) bA (E rfl) (fun hc=>by(try simp at hc)<;>omega)) rfl ?_
        |refine eJ rfl rfl rfl (bJ (by
           first
            |exact W rfl (by
            first
             |exact id
             |simp)
            |exact E rfl) bA (E rfl) (fun hc=>by(try simp at hc)<;>omega)) rfl ?_
        |refine eJ rfl rfl rfl (bS (v:=.bool false)) rfl ?_
      first
        |refine jY rfl rfl rfl rfl rfl ?_
        |(
          first
           |refine eS rfl rfl rfl (aN (by
            first
             |exact W rfl id
             |exact E rfl) rfl (fun hc=>by
            first
             |rfl
             |exact aH (by assumption)
             |assumption
             |exact aH (aQ (by omega))) (fun _=>rfl)) rfl ?_
           |refine eS rfl rfl rfl (bO (by
            first
             |exact W rfl id
             |exact E rfl) rfl bA (fun hc=>by
            first
             |rfl
             |exact aH (by assumption)
             |assumption
             |exact aH (aQ (by omega))) (fun _=>rfl)) rfl ?_)
        |refine eQ rfl rfl rfl (aN (by
           first
            |exact W rfl (by
            first
             |exact id
             |simp)
            |exact E rfl) rfl (fun hc=>by
           first
            |rfl
            |exact aH (by assumption)
            |assumption
            |exact aH (aQ (by(try simp at hc)<;>omega))) (fun _=>rfl)) rfl ?_
        |refine eQ rfl rfl rfl (bO (by
           first
            |exact W rfl (by
            first
             |exact id
             |simp)
            |exact E rfl) rfl bA (fun hc=>by
           first
            |rfl
            |exact aH (by assumption)
            |assumption
            |exact aH (aQ (by(try simp at hc)<;>omega))) (fun _=>rfl)) rfl ?_
        |refine eJ rfl rfl rfl (aN (by
           first
            |exact W rfl (by
            first
             |exact id
             |simp)
            |exact E rfl) rfl (fun hc=>by
           first
            |rfl
            |exact aH (by assumption)
            |assumption
            |exact aH (aQ (by(try simp at hc)<;>omega))) (fun _=>rfl)) rfl ?_
        |refine eJ rfl rfl rfl (bO (by
           first
            |exact W rfl (by
            first
             |exact id
             |simp)
            |exact E rfl) rfl bA (fun hc=>by
           first
            |rfl
            |exact aH (by assumption)
            |assumption
            |exact aH (aQ (by(try simp at hc)<;>omega))) (fun _=>rfl)) rfl ?_
        |refine eJ rfl rfl rfl (bS (v:=.bool false)) rfl ?_
      first|refine jY rfl rfl rfl rfl rfl ?_ |(refine eS rfl rfl rfl (dI (by first|exact W rfl id|exact E rfl) (by first|exact W rfl id|exact E rfl)) rfl ?_)|refine eQ rfl rfl rfl (dI (by first|exact W rfl (by first|exact id|simp)|exact E rfl) (by first|exact W rfl (by first|exact id|simp)|exact E rfl)) rfl ?_ |refine eJ rfl rfl rfl (dI (by first|exact W rfl (by first|exact id|simp)|exact E rfl) (by first|exact W rfl (by first|exact id|simp)|exact E rfl)) rfl ?_ |refine eJ rfl rfl rfl (bS (v:=.bool false)) rfl ?_
      refine aEA ?_;refine rW (dO r p q m lv (cQ S n).2) rfl Tryz.call189 (kF hN0 _ false) rfl aC cE aDw ?_;rintro _ σ' rfl h44;refine TO ?_;refine xA ?_;refine mP ?_;refine⟨j+1,hlt,by show xl.length-(j+1)<xl.length-j;omega, ?_⟩
      (try dsimp only);rw[hnx];exact aL
    · rw[ea];subst eb;rw[ea,show eq1 [g] []=false by simp[eq1]]at hnx;refine fM [(0,true),(1,true),(2,true),(3,true),(4,true),(5,true),(6,true),(7,true),(8,true),(9,true),(10,true),(11,true),(12,true),(13,true),(14,true),(15,true),(16,true),(17,true),(18,true),(19,true),(20,false)] ?_;refine BP ?_;refine WS ?_;refine fI rfl (aD (E rfl)) rfl ?_;refine WS ?_;refine z79 ?_;rw[show((([g]:List Int).length:Int)==(([]:List Int).length:Int))=false from rfl];refine BQ ?_;refine aGX ?_;first|refine jY rfl rfl rfl rfl rfl ?_ |(refine eS rfl rfl rfl (aD (E rfl)) rfl ?_)|refine eQ rfl rfl rfl (aD (E rfl)) rfl ?_ |refine eJ rfl rfl rfl (aD (E rfl)) rfl ?_ |refine eJ rfl rfl rfl (bS (v:=.bool false)) rfl ?_
      first
        |refine jY rfl rfl rfl rfl rfl ?_
        |(
          first
           |refine eS rfl rfl rfl (bF (by
            first
             |exact W rfl id
             |exact E rfl) (E rfl) (fun hc=>by(simp only[List.length_map];omega))) rfl ?_
           |refine eS rfl rfl rfl (aV (by
            first
             |exact W rfl id
             |exact E rfl) bA (E rfl) (fun hc=>by omega)) rfl ?_
           |refine eS rfl rfl rfl (bJ (by
            first
             |exact W rfl id
             |exact E rfl) bA (E rfl) (fun hc=>by omega)) rfl ?_)
        |refine eQ rfl rfl rfl (bF (by
           first
            |exact W rfl (by
            first
             |exact id
             |simp)
            |exact E rfl) (E rfl) (fun hc=>by(try simp at hc)<;>(simp only[List.length_map];omega))) rfl ?_
        |refine eQ rfl rfl rfl (aV (by
           first
            |exact W rfl (by
            first
             |exact id
             |simp)
            |exact E rfl) bA (E rfl) (fun hc=>by(try simp at hc)<;>omega)) rfl ?_
        |refine eQ rfl rfl rfl (bJ (by
           first
            |exact W rfl (by
            first
             |exact id
             |simp)
            |exact E rfl) bA (E rfl) (fun hc=>by(try simp at hc)<;>omega)) rfl ?_
        |refine eJ rfl rfl rfl (bF (by
           first
            |exact W rfl (by
            first
             |exact id
             |simp)
            |exact E rfl) (E rfl) (fun hc=>by(try simp at hc)<;>(simp only[List.length_map];omega))) rfl ?_
        |refine eJ rfl rfl rfl (aV (by
           first
            |exact W rfl (by
            first
             |exact id
             |simp)
            |exact E rfl) bA (E rfl) (fun hc=>by(try simp at hc)<;>omega)) rfl ?_
        |refine eJ rfl rfl rfl (bJ (by
           first
            |exact W rfl (by
            first
             |exact id
             |simp)
            |exact E rfl) bA (E rfl) (fun hc=>by(try simp at hc)<;>omega)) rfl ?_
        |refine eJ rfl rfl rfl (bS (v:=.bool false)) rfl ?_
      first
        |refine jY rfl rfl rfl rfl rfl ?_
        |(
          first
           |refine eS rfl rfl rfl (aN (by
            first
             |exact W rfl id
             |exact E rfl) rfl (fun hc=>by
            first
             |rfl
             |exact aH (by assumption)
             |assumption
             |exact aH (aQ (by omega))) (fun _=>rfl)) rfl ?_
           |refine eS rfl rfl rfl (bO (by
            first
             |exact W rfl id
             |exact E rfl) rfl bA (fun hc=>by
            first
             |rfl
             |exact aH (by assumption)
             |assumption
             |exact aH (aQ (by omega))) (fun _=>rfl)) rfl ?_)
        |refine eQ rfl rfl rfl (aN (by
           first
            |exact W rfl (by
            first
             |exact id
             |simp)
            |exact E rfl) rfl (fun hc=>by
           first
            |rfl
            |exact aH (by assumption)
            |assumption
            |exact aH (aQ (by(try simp at hc)<;>omega))) (fun _=>rfl)) rfl ?_
        |refine eQ rfl rfl rfl (bO (by
           first
            |exact W rfl (by
            first
             |exact id
             |simp)
            |exact E rfl) rfl bA (fun hc=>by
           first
            |rfl
            |exact aH (by assumption)
            |assumption
            |exact aH (aQ (by(try simp at hc)<;>omega))) (fun _=>rfl)) rfl ?_
        |refine eJ rfl rfl rfl (aN (by
           first
            |exact W rfl (by
            first
             |exact id
             |simp)
            |exact E rfl) rfl (fun hc=>by
           first
            |rfl
            |exact aH (by assumption)
            |assumption
            |exact aH (aQ (by(try simp at hc)<;>omega))) (fun _=>rfl)) rfl ?_
        |refine eJ rfl rfl rfl (bO (by
           first
            |exact W rfl (by
            first
             |exact id
             |simp)
            |exact E rfl) rfl bA (fun hc=>by
           first
            |rfl
            |exact aH (by assumption)
            |assumption
            |exact aH (aQ (by(try simp at hc)<;>omega))) (fun _=>rfl)) rfl ?_
        |refine eJ rfl rfl rfl (bS (v:=.bool false)) rfl ?_
      first|refine jY rfl rfl rfl rfl rfl ?_ |(refine eS rfl rfl rfl (aD (E rfl)) rfl ?_)|refine eQ rfl rfl rfl (aD (E rfl)) rfl ?_ |refine eJ rfl rfl rfl (aD (E rfl)) rfl ?_ |refine eJ rfl rfl rfl (bS (v:=.bool false)) rfl ?_
      first
        |refine jY rfl rfl rfl rfl rfl ?_
        |(
          first
           |refine eS rfl rfl rfl (bF (by
            first
             |exact W rfl id
             |exact E rfl) (E rfl) (fun hc=>by(simp only[List.length_map];omega))) rfl ?_
           |refine eS rfl rfl rfl (aV (by
            first
             |exact W rfl id
             |exact E rfl) bA (E rfl) (fun hc=>by omega)) rfl ?_
           |refine eS rfl rfl rfl (bJ (by
            first
             |exact W rfl id
             |exact E rfl) bA (E rfl) (fun hc=>by omega)) rfl ?_)
        |refine eQ rfl rfl rfl (bF (by
           first
            |exact W rfl (by
            first
             |exact id
             |simp)
            |exact E rfl) (E rfl) (fun hc=>by(try simp at hc)<;>(simp only[List.length_map];omega))) rfl ?_
        |refine eQ rfl rfl rfl (aV (by
           first
            |exact W rfl (by
            first
             |exact id
             |simp)
            |exact E rfl) bA (E rfl) (fun hc=>by(try simp at hc)<;>omega)) rfl ?_
        |refine eQ rfl rfl rfl (bJ (by
           first
            |exact W rfl (by
            first
             |exact id
             |simp)
            |exact E rfl) bA (E rfl) (fun hc=>by(try simp at hc)<;>omega)) rfl ?_
        |refine eJ rfl rfl rfl (bF (by
           first
            |exact W rfl (by
            first
             |exact id
             |simp)
            |exact E rfl) (E rfl) (fun hc=>by(try simp at hc)<;>(simp only[List.length_map];omega))) rfl ?_
        |refine eJ rfl rfl rfl (aV (by
           first
            |exact W rfl (by
            first
             |exact id
             |simp)
            |exact E rfl) bA (E rfl) (fun hc=>by(try simp at hc)<;>omega)) rfl ?_
        |refine eJ rfl rfl rfl (bJ (by
           first
            |exact W rfl (by
            first
             |exact id
             |simp)
            |exact E rfl) bA (E rfl) (fun hc=>by(try simp at hc)<;>omega)) rfl ?_
        |refine eJ rfl rfl rfl (bS (v:=.bool false)) rfl ?_
      first
        |refine jY rfl rfl rfl rfl rfl ?_
        |(
          first
           |refine eS rfl rfl rfl (aN (by
            first
             |exact W rfl id
             |exact E rfl) rfl (fun hc=>by
            first
             |rfl
             |exact aH (by assumption)
             |assumption
             |exact aH (aQ (by omega))) (fun _=>rfl)) rfl ?_
           |refine eS rfl rfl rfl (bO (by
            first
             |exact W rfl id
             |exact E rfl) rfl bA (fun hc=>by
            first
             |rfl
             |exact aH (by assumption)
             |assumption
             |exact aH (aQ (by omega))) (fun _=>rfl)) rfl ?_)
        |refine eQ rfl rfl rfl (aN (by
           first
            |exact W rfl (by
            first
             |exact id
             |simp)
            |exact E rfl) rfl (fun hc=>by
           first
            |rfl
            |exact aH (by assumption)
            |assumption
            |exact aH (aQ (by(try simp at hc)<;>omega))) (fun _=>rfl)) rfl ?_
        |refine eQ rfl rfl rfl (bO (by
           first
            |exact W rfl (by
            first
             |exact id
             |simp)
            |exact E rfl) rfl bA (fun hc=>by
           first
            |rfl
            |exact aH (by assumption)
            |assumption
            |exact aH (aQ (by(try simp at hc)<;>omega))) (fun _=>rfl)) rfl ?_
        |refine eJ rfl rfl rfl (aN (by
           first
            |exact W rfl (by
            first
             |exact id
             |simp)
            |exact E rfl) rfl (fun hc=>by
           first
            |rfl
            |exact aH (by assumption)
            |assumption
            |exact aH (aQ (by(try simp at hc)<;>omega))) (fun _=>rfl)) rfl ?_
        |refine eJ rfl rfl rfl (bO (by
           first
            |exact W rfl (by
            first
             |exact id
             |simp)
            |exact E rfl) rfl bA (fun hc=>by
           first
            |rfl
            |exact aH (by assumption)
            |assumption
            |exact aH (aQ (by(try simp at hc)<;>omega))) (fun _=>rfl)) rfl ?_
        |refine eJ rfl rfl rfl (bS (v:=.bool false)) rfl ?_
      first|refine jY rfl rfl rfl rfl rfl ?_ |(refine eS rfl rfl rfl (dI (by first|exact W rfl id|exact E rfl) (by first|exact W rfl id|exact E rfl)) rfl ?_)|refine eQ rfl rfl rfl (dI (by first|exact W rfl (by first|exact id|simp)|exact E rfl) (by first|exact W rfl (by first|exact id|simp)|exact E rfl)) rfl ?_ |refine eJ rfl rfl rfl (dI (by first|exact W rfl (by first|exact id|simp)|exact E rfl) (by first|exact W rfl (by first|exact id|simp)|exact E rfl)) rfl ?_ |refine eJ rfl rfl rfl (bS (v:=.bool false)) rfl ?_
      refine aEA ?_;refine rW (dO r p q m lv (cQ S n).2) rfl Tryz.call189 (kF hN0 _ false) rfl aC cE aDw ?_;rintro _ σ' rfl h44;refine TO ?_;refine xA ?_;refine mP ?_;refine⟨j+1,hlt,by show xl.length-(j+1)<xl.length-j;omega, ?_⟩
      (try dsimp only);rw[hnx];exact aL
    · rw[ea];subst eb;rw[ea,show eq1 [g] [v]=(g==v) by simp[eq1]]at hnx;have hg1:[g].length=1:=rfl;have hv1:[v].length=1:=rfl;refine fM [(0,true),(1,true),(2,true),(3,true),(4,true),(5,true),(6,true),(7,true),(8,true),(9,true),(10,true),(11,true),(12,true),(13,true),(14,true),(15,true),(16,true),(17,true),(18,true),(19,true),(20,false)] ?_;refine BP ?_;refine WS ?_;refine fI rfl (aD (E rfl)) rfl ?_;refine WS ?_;refine z79 ?_;rw[show((([g]:List Int).length:Int)==(([v]:List Int).length:Int))=true from rfl];refine BQ ?_;refine aH1 ?_;rw[show((([g]:List Int).length:Int)==0)=false from rfl]
      (first|refine jY rfl rfl rfl rfl rfl ?_ |(refine eS rfl rfl rfl (aD (by first|exact W rfl id|exact E rfl)) rfl ?_)|refine eQ rfl rfl rfl (aD (by first|exact W rfl id|exact E rfl)) rfl ?_);first|refine jY rfl rfl rfl rfl rfl ?_ |(refine eS rfl rfl rfl (aD (E rfl)) rfl ?_)|refine eQ rfl rfl rfl (aD (E rfl)) rfl ?_ |refine eJ rfl rfl rfl (aD (E rfl)) rfl ?_ |refine eJ rfl rfl rfl (bS (v:=.bool false)) rfl ?_
      first
        |refine jY rfl rfl rfl rfl rfl ?_
        |(
          first
           |refine eS rfl rfl rfl (bF (by
            first
             |exact W rfl id
             |exact E rfl) (E rfl) (fun hc=>by(simp only[List.length_map];omega))) rfl ?_
           |refine eS rfl rfl rfl (aV (by
            first
             |exact W rfl id
             |exact E rfl) bA (E rfl) (fun hc=>by omega)) rfl ?_
           |refine eS rfl rfl rfl (bJ (by
            first
             |exact W rfl id
             |exact E rfl) bA (E rfl) (fun hc=>by omega)) rfl ?_)
        |refine eQ rfl rfl rfl (bF (by
           first
            |exact W rfl (by
            first
             |exact id
             |simp)
            |exact E rfl) (E rfl) (fun hc=>by(try simp at hc)<;>(simp only[List.length_map];omega))) rfl ?_
        |refine eQ rfl rfl rfl (aV (by
           first
            |exact W rfl (by
            first
             |exact id
             |simp)
            |exact E rfl) bA (E rfl) (fun hc=>by(try simp at hc)<;>omega)) rfl ?_
        |refine eQ rfl rfl rfl (bJ (by
           first
            |exact W rfl (by
            first
             |exact id
             |simp)
            |exact E rfl) bA (E rfl) (fun hc=>by(try simp at hc)<;>omega)) rfl ?_
        |refine eJ rfl rfl rfl (bF (by
           first
            |exact W rfl (by
            first
             |exact id
             |simp)
            |exact E rfl) (E rfl) (fun hc=>by(try simp at hc)<;>(simp only[List.length_map];omega))) rfl ?_
        |refine eJ rfl rfl rfl (aV (by
           first
            |exact W rfl (by
            first
             |exact id
             |simp)
            |exact E rfl) bA (E rfl) (fun hc=>by(try simp at hc)<;>omega)) rfl ?_
        |refine eJ rfl rfl rfl (bJ (by
           first
            |exact W rfl (by
            first
             |exact id
             |simp)
            |exact E rfl) bA (E rfl) (fun hc=>by(try simp at hc)<;>omega)) rfl ?_
        |refine eJ rfl rfl rfl (bS (v:=.bool false)) rfl ?_
      first
        |refine jY rfl rfl rfl rfl rfl ?_
        |(
          first
           |refine eS rfl rfl rfl (aN (by
            first
             |exact W rfl id
             |exact E rfl) rfl (fun hc=>by
            first
             |rfl
             |exact aH (by assumption)
             |assumption
             |exact aH (aQ (by omega))) (fun _=>rfl)) rfl ?_
           |refine eS rfl rfl rfl (bO (by
            first
             |exact W rfl id
             |exact E rfl) rfl bA (fun hc=>by
            first
             |rfl
             |exact aH (by assumption)
             |assumption
             |exact aH (aQ (by omega))) (fun _=>rfl)) rfl ?_)
        |refine eQ rfl rfl rfl (aN (by
           first
            |exact W rfl (by
            first
             |exact id
             |simp)
            |exact E rfl) rfl (fun hc=>by
           first
            |rfl
            |exact aH (by assumption)
            |assumption
            |exact aH (aQ (by(try simp at hc)<;>omega))) (fun _=>rfl)) rfl ?_
        |refine eQ rfl rfl rfl (bO (by
           first
            |exact W rfl (by
            first
             |exact id
             |simp)
            |exact E rfl) rfl bA (fun hc=>by
           first
            |rfl
            |exact aH (by assumption)
            |assumption
            |exact aH (aQ (by(try simp at hc)<;>omega))) (fun _=>rfl)) rfl ?_
        |refine eJ rfl rfl rfl (aN (by
           first
            |exact W rfl (by
            first
             |exact id
             |simp)
            |exact E rfl) rfl (fun hc=>by
           first
            |rfl
            |exact aH (by assumption)
            |assumption
            |exact aH (aQ (by(try simp at hc)<;>omega))) (fun _=>rfl)) rfl ?_
        |refine eJ rfl rfl rfl (bO (by
           first
            |exact W rfl (by
            first
             |exact id
             |simp)
            |exact E rfl) rfl bA (fun hc=>by
           first
            |rfl
            |exact aH (by assumption)
            |assumption
            |exact aH (aQ (by(try simp at hc)<;>omega))) (fun _=>rfl)) rfl ?_
        |refine eJ rfl rfl rfl (bS (v:=.bool false)) rfl ?_
      first|refine jY rfl rfl rfl rfl rfl ?_ |(refine eS rfl rfl rfl (aD (E rfl)) rfl ?_)|refine eQ rfl rfl rfl (aD (E rfl)) rfl ?_ |refine eJ rfl rfl rfl (aD (E rfl)) rfl ?_ |refine eJ rfl rfl rfl (bS (v:=.bool false)) rfl ?_
      first
        |refine jY rfl rfl rfl rfl rfl ?_
        |(
          first
           |refine eS rfl rfl rfl (bF (by
            first
             |exact W rfl id
             |exact E rfl) (E rfl) (fun hc=>by(simp only[List.length_map];omega))) rfl ?_
           |refine eS rfl rfl rfl (aV (by
            first
             |exact W rfl id
             |exact E rfl) bA (E rfl) (fun hc=>by omega)) rfl ?_
           |refine eS rfl rfl rfl (bJ (by
            first
             |exact W rfl id
             |exact E rfl) bA (E rfl) (fun hc=>by omega)) rfl ?_)
        |refine eQ rfl rfl rfl (bF (by
           first
            |exact W rfl (by
            first
             |exact id
             |simp)
            |exact E rfl) (E rfl) (fun hc=>by(try simp at hc)<;>(simp only[List.length_map];omega))) rfl ?_
        |refine eQ rfl rfl rfl (aV (by
           first
            |exact W rfl (by
            first
             |exact id
             |simp)
            |exact E rfl) bA (E rfl) (fun hc=>by(try simp at hc)<;>omega)) rfl ?_
        |refine eQ rfl rfl rfl (bJ (by
           first
            |exact W rfl (by
            first
             |exact id
             |simp)
            |exact E rfl) bA (E rfl) (fun hc=>by(try simp at hc)<;>omega)) rfl ?_
        |refine eJ rfl rfl rfl (bF (by
           first
            |exact W rfl (by
            first
             |exact id
             |simp)
            |exact E rfl) (E rfl) (fun hc=>by(try simp at hc)<;>(simp only[List.length_map];omega))) rfl ?_
        |refine eJ rfl rfl rfl (aV (by
           first
            |exact W rfl (by
            first
             |exact id
             |simp)
            |exact E rfl) bA (E rfl) (fun hc=>by(try simp at hc)<;>omega)) rfl ?_
        |refine eJ rfl rfl rfl (bJ (by
           first
            |exact W rfl (by
            first
             |exact id
             |simp)
            |exact E rfl) bA (E rfl) (fun hc=>by(try simp at hc)<;>omega)) rfl ?_
        |refine eJ rfl rfl rfl (bS (v:=.bool false)) rfl ?_
      first
        |refine jY rfl rfl rfl rfl rfl ?_
        |(
          first
           |refine eS rfl rfl rfl (aN (by
            first
             |exact W rfl id
             |exact E rfl) rfl (fun hc=>by
            first
             |rfl
             |exact aH (by assumption)
             |assumption
             |exact aH (aQ (by omega))) (fun _=>rfl)) rfl ?_
           |refine eS rfl rfl rfl (bO (by
            first
             |exact W rfl id
             |exact E rfl) rfl bA (fun hc=>by
            first
             |rfl
             |exact aH (by assumption)
             |assumption
             |exact aH (aQ (by omega))) (fun _=>rfl)) rfl ?_)
        |refine eQ rfl rfl rfl (aN (by
           first
            |exact W rfl (by
            first
             |exact id
             |simp)
            |exact E rfl) rfl (fun hc=>by
           first
            |rfl
            |exact aH (by assumption)
            |assumption
            |exact aH (aQ (by(try simp at hc)<;>omega))) (fun _=>rfl)) rfl ?_
        |refine eQ rfl rfl rfl (bO (by
           first
            |exact W rfl (by
            first
             |exact id
             |simp)
            |exact E rfl) rfl bA (fun hc=>by
           first
            |rfl
            |exact aH (by assumption)
            |assumption
            |exact aH (aQ (by(try simp at hc)<;>omega))) (fun _=>rfl)) rfl ?_
        |refine eJ rfl rfl rfl (aN (by
           first
            |exact W rfl (by
            first
             |exact id
             |simp)
            |exact E rfl) rfl (fun hc=>by
           first
            |rfl
            |exact aH (by assumption)
            |assumption
            |exact aH (aQ (by(try simp at hc)<;>omega))) (fun _=>rfl)) rfl ?_
        |refine eJ rfl rfl rfl (bO (by
           first
            |exact W rfl (by
            first
             |exact id
             |simp)
            |exact E rfl) rfl bA (fun hc=>by
           first
            |rfl
            |exact aH (by assumption)
            |assumption
            |exact aH (aQ (by(try simp at hc)<;>omega))) (fun _=>rfl)) rfl ?_
        |refine eJ rfl rfl rfl (bS (v:=.bool false)) rfl ?_
      first|refine jY rfl rfl rfl rfl rfl ?_ |(refine eS rfl rfl rfl (dI (by first|exact W rfl id|exact E rfl) (by first|exact W rfl id|exact E rfl)) rfl ?_)|refine eQ rfl rfl rfl (dI (by first|exact W rfl (by first|exact id|simp)|exact E rfl) (by first|exact W rfl (by first|exact id|simp)|exact E rfl)) rfl ?_ |refine eJ rfl rfl rfl (dI (by first|exact W rfl (by first|exact id|simp)|exact E rfl) (by first|exact W rfl (by first|exact id|simp)|exact E rfl)) rfl ?_ |refine eJ rfl rfl rfl (bS (v:=.bool false)) rfl ?_
      refine aEA ?_;refine rW (dO r p q m lv (cQ S n).2) rfl Tryz.call189 (kF hN0 _ (g==v)) rfl aC cE aDw ?_;rintro _ σ' rfl h44;refine TO ?_;refine xA ?_;refine mP ?_;refine⟨j+1,hlt,by show xl.length-(j+1)<xl.length-j;omega, ?_⟩
      (try dsimp only);rw[hnx];exact aL
  obtain rfl:j=xl.length:=by simp at g4;omega
  rw[List.take_length]at hS⊢;generalize xl.foldl (xH w) s2=S at hS⊢;have h5:=hS.pops w;unfold dO mR
  (try dsimp only);refine eX ?_;refine cw (dO r p q m lv S) Tryz.call192 (lA hN0 S hS w (by omega)) rfl aC cE ?_;rintro _ σ' rfl h48;refine mV ?_;refine dM ?_;refine cw (dO r p q m lv (dP S w)) Tryz.call187 (FW hN0 _ h5) rfl aC cE ?_;rintro _ σ' rfl h50;refine oE ?_;refine lD ?_;refine bY ?_;apply aE;exact aF
  · rfl
  · exact aA
end
structure Ins.Ck (x:Ins):Prop where
 nn:x.op=12∨x.op=13∨x.op=14∨x.op=16∨x.op=32∨x.op=33∨x.op=34∨x.op=35∨x.op=36→0≤x.a
 ln:x.op=14→∀n∈x.l,0≤n
 ll:x.l.length≤1000000
 hi:x.a≤9223372036854775807
structure Md.Ck (m:Md):Prop where
 ts:m.TS
 im:m.im.length≤1000000
section
variable {r p q : Nat} {m : Md} {lv : AV}
theorem YE(hN:Nm r p q)(hm:m.Ck)(s:PS)(h:s.Gd)(hv:s.vs.length≤900000)(hc:s.cs.length≤900000)(x:Ins)(hx:x.Ck)(h11:x.op=11→2≤s.cs.length):SCall Tryz.prog 77 [.ptr r 0,.agg (iv .any x)] (dO r p q m lv s)
  (fun y σ=>∃e f,Nm r e f∧y=.bool (cJ m s x).1∧σ=dO r e f m lv (cJ m s x).2):=by
 have hN0:=hN;obtain⟨n1,n2,n3⟩:=hN;unfold iv;refine cF 133 [0,1,3,4,5,6,8,9,13,15,24,34,41,60,70,84,89,103,113] Tryz.func77 ?_;unfold dO mR
 (try dsimp only);refine dX ?_;refine iQ fun r3 h3=> ?_;intros
 refine iW ?_;refine qA ?_;refine aB rfl (fun g3=> ?_) (fun g3=> ?_)
 ·rw[show cJ m s x=(true,oO s) by unfold cJ;simp only[g3,if_true]];have hL:=hN0;refine dM ?_;refine cw (dO r p q m lv s) Tryz.call187 (FW hN0 s h) rfl aC cE ?_;rintro _ σ' rfl h12;refine mV ?_;refine bM ?_;exact aE aF ⟨_,_,hL,by rfl,rfl⟩ aA
 refine cZ ?_;refine aB rfl (fun g5=> ?_) (fun g5=> ?_)
 ·rw[show cJ m s x=(true,s) by unfold cJ;simp only[g3,g5,if_true,if_false,Bool.false_eq_true]];have hL:=hN0;refine bM ?_;exact aE aF ⟨_,_,hL,by rfl,rfl⟩ aA
 refine cZ ?_;apply fE rfl;exact cT
 ·intro _;(refine aJ ?_);refine eU ?_;exact aL
 refine aJ ?_;refine aB rfl (fun g6=> ?_) (fun g6=> ?_)
 ·refine aJ ?_;rw[show cJ m s x=(true,openP s x.op x.a) by unfold cJ;simp only[g3,g5,g6,if_true,if_false,Bool.false_eq_true]];refine pE ?_;refine fW ?_;refine cw (dO r p q m lv s) Tryz.call76 (FV hN0 s h.bc x.op x.a) rfl aC cE ?_;rintro _ σ' ⟨f,hL,rfl⟩ h23;unfold dO mR;(try dsimp only);obtain⟨e1,e2,e3⟩:=id hL;refine uP ?_;refine bM ?_;exact aE aF ⟨_,_,hL,by rfl,rfl⟩ aA
 refine cZ ?_;refine aB rfl (fun g9=> ?_) (fun g9=> ?_)
 ·have h1:=h.pop 1;rw[show cJ m s x=(true,openP (cP s 1).2 x.op x.a) by unfold cJ;simp only[g3,g5,g6,g9,if_true,if_false,Bool.false_eq_true]];refine dM ?_;refine cw (dO r p q m lv s) Tryz.call188 (oX hN0 s h 1) rfl aC cE ?_;rintro _ σ' ⟨rfl,rfl⟩ h27;refine mV ?_;refine kA ?_;refine fW ?_;refine cw (dO r p q m lv (cP s 1).2) Tryz.call76 (FV hN0 _ h1.bc x.op x.a) rfl aC cE ?_;rintro _ σ' ⟨f,hL,rfl⟩ h33;unfold dO mR;(try dsimp only);obtain⟨e1,e2,e3⟩:=id hL;refine uP ?_;refine bM ?_;exact aE aF ⟨_,_,hL,by rfl,rfl⟩ aA
 refine cZ ?_;refine aB rfl (fun g12=> ?_) (fun g12=> ?_)
 ·rw[show cJ m s x=(true,openP (fY s) 5 s.top.kd) by unfold cJ;simp only[g3,g5,g6,g9,g12,if_true,if_false,Bool.false_eq_true]];refine eX ?_;refine cw (dO r p q m lv s) Tryz.call79 (QO hN0 s h) rfl aC cE ?_;rintro _ σ' ⟨rfl,rfl⟩ h38;refine oE ?_;refine aHW ?_;refine cw (dO r p q m lv (fY s)) Tryz.call76 (FV hN0 (fY s) (by rw[FS,pN];omega) 5 s.top.kd) rfl aC cE ?_;rintro _ σ' ⟨f,hL,rfl⟩ h40;unfold dO mR;(try dsimp only);obtain⟨e1,e2,e3⟩:=id hL;refine uP ?_;refine bM ?_;exact aE aF ⟨_,_,hL,by rfl,rfl⟩ aA
 refine cZ ?_;refine aB rfl (fun g14=> ?_) (fun g14=> ?_)
 ·have h2:=h11 (by simpa using g14);have hsl:=HW s;have hll:=qM s.top.kd;rw[show cJ m s x=(true,fO (dB (fY s) (if(s.top.op !=4)=true then true else(s.top.kd==0))) (aX s.top.kd)) by unfold cJ;simp only[g3,g5,g6,g9,g12,g14,if_true,if_false,Bool.false_eq_true]];refine dM ?_;refine cw (dO r p q m lv s) Tryz.call79 (QO hN0 s h) rfl aC cE ?_;rintro _ σ' ⟨rfl,rfl⟩ h44;refine oE ?_;refine jU fun r5 h5=> ?_;intros
  refine pX ?_;refine kA ?_;refine lo (gA (E rfl) (E rfl)) rfl ?_;refine oG ?_;refine xY ?_;refine rM ?_;refine cw (dO r p q m lv (fY s)) Tryz.call189 (kF hN0 (fY s) (if(s.top.op !=4)=true then true else(s.top.kd==0))) rfl aC cE ?_;rintro _ σ' rfl h54;refine mV ?_;refine kA ?_;refine MR [] Tryz.call191 (tQ s.top.kd) ?_;refine cw (dO r p q m lv (dB (fY s) (if(s.top.op !=4)=true then true else(s.top.kd==0)))) Tryz.call190 (lU hN0 _ (by rw[FR];omega) (aX s.top.kd) (by omega)) rfl aC cE ?_;rintro _ σ' ⟨e,hL,rfl⟩ h59;unfold dO mR;(try dsimp only);obtain⟨e1,e2,e3⟩:=id hL;refine uP ?_;refine bM ?_;exact aE aF ⟨_,_,hL,by rfl,rfl⟩ aA
 refine cZ ?_;refine aB rfl (fun g18=> ?_) (fun g18=> ?_)
 ·have ha:=hx.nn (.inl (by simpa using g18));have h1:=h.label x.a;have hll:=nV s x.a;rw[show cJ m s x=(true,oO (dP (cQ s x.a).2 (cQ s x.a).1)) by unfold cJ;simp only[g3,g5,g6,g9,g12,g14,g18,if_true,if_false,Bool.false_eq_true]];have hL:=hN0;refine eX ?_;refine fW ?_;refine cw (dO r p q m lv s) Tryz.call193 (AQ hN0 s h.bc x.a ha) rfl aC cE ?_;rintro _ σ' ⟨rfl,rfl⟩ h66;refine oE ?_;refine cw (dO r p q m lv (cQ s x.a).2) Tryz.call192 (lA hN0 _ h1 (cQ s x.a).1 (by omega)) rfl aC cE ?_;rintro _ σ' rfl h67;refine mV ?_;refine dM ?_;refine cw (dO r p q m lv (dP (cQ s x.a).2 (cQ s x.a).1)) Tryz.call187 (FW hN0 _ (h1.pops _)) rfl aC cE ?_;rintro _ σ' rfl h69;refine mV ?_;refine bM ?_;exact aE aF ⟨_,_,hL,by rfl,rfl⟩ aA
 refine cZ ?_;refine aB rfl (fun g21=> ?_) (fun g21=> ?_)
 ·have ha:=hx.nn (.inr (.inl (by simpa using g21)));have h1:=h.pop 1;have h2:=h1.label x.a;have hll:=nV (cP s 1).2 x.a;rw[show cJ m s x=(true,fO (dP (cQ (cP s 1).2 x.a).2 (cQ (cP s 1).2 x.a).1) (cQ (cP s 1).2 x.a).1) by unfold cJ;simp only[g3,g5,g6,g9,g12,g14,g18,g21,if_true,if_false,Bool.false_eq_true]];refine dM ?_;refine cw (dO r p q m lv s) Tryz.call188 (oX hN0 s h 1) rfl aC cE ?_;rintro _ σ' ⟨rfl,rfl⟩ h73;refine mV ?_;refine kA ?_;refine cw (dO r p q m lv (cP s 1).2) Tryz.call193 (AQ hN0 _ h1.bc x.a ha) rfl aC cE ?_;rintro _ σ' ⟨rfl,rfl⟩ h77;refine oE ?_;refine lK ?_;refine cw (dO r p q m lv (cQ (cP s 1).2 x.a).2) Tryz.call192 (lA hN0 _ h2 (cQ (cP s 1).2 x.a).1 (by omega)) rfl aC cE ?_;rintro _ σ' rfl h80;refine mV ?_;refine eX ?_;refine cw (dO r p q m lv (dP (cQ (cP s 1).2 x.a).2 (cQ (cP s 1).2 x.a).1)) Tryz.call190 (lU hN0 _ (h2.pops _).bv (cQ (cP s 1).2 x.a).1 (by omega)) rfl aC cE ?_;rintro _ σ' ⟨e,hL,rfl⟩ h83;unfold dO mR;(try dsimp only);obtain⟨e1,e2,e3⟩:=id hL;refine uP ?_;refine bM ?_;exact aE aF ⟨_,_,hL,by rfl,rfl⟩ aA
 refine cZ ?_;refine aB rfl (fun g26=> ?_) (fun g26=> ?_)
 ·have h14:x.op=14:=by simpa using g26
  have ha:=hx.nn (.inr (.inr (.inl h14)));rw[show cJ m s x=(true,tO s x) by unfold cJ;simp only[g3,g5,g6,g9,g12,g14,g18,g21,g26,if_true,if_false,Bool.false_eq_true]];have hL:=hN0;refine zO ?_;refine cw (dO r p q m lv s) Tryz.call194 (aDz hN0 s h x ha (hx.ln h14) hx.ll) rfl aC cE ?_;rintro _ σ' rfl h88;refine mV ?_;refine bM ?_;exact aE aF ⟨_,_,hL,by rfl,rfl⟩ aA
 refine cZ ?_;refine aB rfl (fun g28=> ?_) (fun g28=> ?_)
 ·obtain⟨c0,hc0⟩:∃c0,s.cs[0]? =some c0:=⟨_,List.getElem?_eq_getElem (List.length_pos_iff.2 h.ne)⟩
  have hlp:0<s.cs.length:=List.length_pos_iff.2 h.ne;have hel:(s.cs.map mM)[(0:Int).toNat]? =some (mM c0):=by rw[List.getElem?_map];show(s.cs[0]?).map mM=_;rw[hc0];rfl
  have hll:=qM c0.kd;have h1:=h.pops (aX c0.kd);rw[show cJ m s x=(true,oO (dP s (aX c0.kd))) by unfold cJ;simp only[g3,g5,g6,g9,g12,g14,g18,g21,g26,g28,if_true,if_false,Bool.false_eq_true];rw[List.getD_eq_getElem?_getD,hc0];rfl];have hL:=hN0;refine eX ?_;refine kG ?_;refine OU ?_;refine OX ?_;refine OV ?_;refine MR [] Tryz.call191 (tQ c0.kd) ?_;refine cw (dO r p q m lv s) Tryz.call192 (lA hN0 s h (aX c0.kd) (by omega)) rfl aC cE ?_;rintro _ σ' rfl h100;refine mV ?_;refine dM ?_;refine cw (dO r p q m lv (dP s (aX c0.kd))) Tryz.call187 (FW hN0 _ h1) rfl aC cE ?_;rintro _ σ' rfl h102;refine mV ?_;refine bM ?_;exact aE aF ⟨_,_,hL,by rfl,rfl⟩ aA
 refine cZ ?_;refine aB rfl (fun g31=> ?_) (fun g31=> ?_)
 ·have ha:=hx.nn (.inr (.inr (.inr (.inl (by simpa using g31)))));have hts:=pP hm.ts (kQ m x.a);rw[show cJ m s x=(true,qL s (cK m (kQ m x.a)).1 (cK m (kQ m x.a)).2) by unfold cJ;simp only[g3,g5,g6,g9,g12,g14,g18,g21,g26,g28,g31,if_true,if_false,Bool.false_eq_true]];refine eX ?_;refine fW ?_;refine cw (dO r p q m lv s) Tryz.call196 (VO hN0 s hm.im x.a ha hx.hi) rfl aC cE ?_;rintro _ σ' ⟨rfl,rfl⟩ h109;refine oE ?_;refine PA ?_;refine cw (dO r p q m lv s) Tryz.call195 (VP hN0 s h _ hts _) rfl aC cE ?_;rintro _ σ' ⟨e,hL,rfl⟩ h112;unfold dO mR;(try dsimp only);obtain⟨e1,e2,e3⟩:=id hL;refine uP ?_;refine bM ?_;exact aE aF ⟨_,_,hL,by rfl,rfl⟩ aA
 refine cZ ?_;refine aB rfl (fun g33=> ?_) (fun g33=> ?_)
 ·have hts:=pP hm.ts x.a;have h1:=h.need m.tb.has;have h2:=h1.pop 1;rw[show cJ m s x=(true,qL (cP (dB s m.tb.has) 1).2 (cK m x.a).1 (cK m x.a).2) by unfold cJ;simp only[g3,g5,g6,g9,g12,g14,g18,g21,g26,g28,g31,g33,if_true,if_false,Bool.false_eq_true]];refine eX ?_;refine uO ?_;refine wL ?_;refine fW ?_;refine cw (dO r p q m lv s) Tryz.call189 (kF hN0 s m.tb.has) rfl aC cE ?_;rintro _ σ' rfl h122;refine mV ?_;refine dM ?_;refine cw (dO r p q m lv (dB s m.tb.has)) Tryz.call188 (oX hN0 _ h1 1) rfl aC cE ?_;rintro _ σ' ⟨rfl,rfl⟩ h124;refine mV ?_;refine eX ?_;refine fW ?_;refine cw (dO r p q m lv (cP (dB s m.tb.has) 1).2) Tryz.call74 (sS hN0 _ x.a) rfl aC cE ?_;rintro _ σ' ⟨rfl,rfl⟩ h129;refine oE ?_;refine PA ?_;refine cw (dO r p q m lv (cP (dB s m.tb.has) 1).2) Tryz.call195 (VP hN0 _ h2 _ hts _) rfl aC cE ?_;rintro _ σ' ⟨e,hL,rfl⟩ h132;unfold dO mR;(try dsimp only);obtain⟨e1,e2,e3⟩:=id hL;refine uP ?_;refine bM ?_;exact aE aF ⟨_,_,hL,by rfl,rfl⟩ aA
 rw[show cJ m s x=(false,s) by unfold cJ;simp only[g3,g5,g6,g9,g12,g14,g18,g21,g26,g28,g31,g33,if_true,if_false,Bool.false_eq_true]];have hL:=hN0;refine bM ?_;exact aE aF ⟨_,_,hL,by rfl,rfl⟩ aA
end
theorem aLA{op:Int}(h:(kN op).2.2=false):kN op=([],0,false):=by
 revert h;unfold kN;refine aI (p:=fun r:List Int×Int×Bool=>r.2.2=false→r=([],0,false)) (fun _ h=>by cases h) (fun _=> ?_);refine aI (p:=fun r:List Int×Int×Bool=>r.2.2=false→r=([],0,false)) (fun _ h=>by cases h) (fun _=> ?_);refine aI (p:=fun r:List Int×Int×Bool=>r.2.2=false→r=([],0,false)) (fun _ _=>rfl) (fun _=> ?_);refine aI (p:=fun r:List Int×Int×Bool=>r.2.2=false→r=([],0,false)) (fun _ h=>by cases h) (fun _=> ?_);refine aI (p:=fun r:List Int×Int×Bool=>r.2.2=false→r=([],0,false)) (fun _ h=>by cases h) (fun _=> ?_);exact aI (p:=fun r:List Int×Int×Bool=>r.2.2=false→r=([],0,false)) (fun _ h=>by cases h) (fun _ h=>by cases h)
theorem aJn(op:Int):(kN op).1.length≤2:=by
 unfold kN;refine aI (p:=fun r:List Int×Int×Bool=>r.1.length≤2) (fun _=>by simp) (fun _=> ?_);refine aI (p:=fun r:List Int×Int×Bool=>r.1.length≤2) (fun _=>by simp) (fun _=> ?_);refine aI (p:=fun r:List Int×Int×Bool=>r.1.length≤2) (fun _=>by simp) (fun _=> ?_);refine aI (p:=fun r:List Int×Int×Bool=>r.1.length≤2) (fun _=>by simp) (fun _=> ?_);refine aI (p:=fun r:List Int×Int×Bool=>r.1.length≤2) (fun _=>by simp) (fun _=> ?_);exact aI (p:=fun r:List Int×Int×Bool=>r.1.length≤2) (fun _=>by simp) (fun _=>by simp)
theorem aBo{op:Int}(h:(kN op).2.2=true):SCall Tryz.prog 200 [.int .i64 op] [] (fun y σ=>∃q,y=.tup [.own q 0 (kN op).1.length,.int .i64 (kN op).2.1,.bool true]∧σ=[(q,.arr 3 1 ((kN op).1.map aP))]):=
 (yF op).mono fun x σ hk=>by unfold vL at hk;rw[if_pos h]at hk;exact hk
theorem aDA{op:Int}(h:(kN op).2.2=false):SCall Tryz.prog 200 [.int .i64 op] [] (fun y σ=>y=.tup [.ro 0 [] .nil,.int .i64 0,.bool false]∧σ=[]):=
 (yF op).mono fun x σ hk=>by unfold vL at hk;rw[if_neg (by simp[h])]at hk;exact hk
theorem PS.Gd.loc {s:PS}(h:s.Gd)(ls:List Int)(n:Int):(cR ls s n).2.Gd:=by
 unfold cR;exact aI (p:=fun r:Int×PS=>r.2.Gd) (fun _=>⟨⟨⟨h.le,h.up⟩,h.ne⟩,h.bv,h.bc⟩) (fun _=>h)
theorem PS.Gd.glob {s:PS}(h:s.Gd)(m:Md)(n:Int):(eC m s n).2.Gd:=by
 unfold eC;exact aI (p:=fun r:Gl×PS=>r.2.Gd) (fun _=>⟨⟨⟨h.le,h.up⟩,h.ne⟩,h.bv,h.bc⟩) (fun _=>h)
section
variable {r p q : Nat} {m : Md} {ls : List Int}
theorem aDB(hN:Nm r p q)(s:PS)(h:s.Gd)(x:Ins)(hx:x.Ck):SCall Tryz.prog 78 [.ptr r 0,.agg (iv .any x)] (dO r p q m (.ro 1 (ls.map aP) .any) s) (fun _ σ=>∃e,Nm r e q∧σ=dO r e q m (.ro 1 (ls.map aP) .any) (dV m ls s x)):=by
 have hN0:=hN;obtain⟨n1,n2,n3⟩:=hN;unfold iv;refine cF 167 [0,1,3,4,5,6,7,8,9,13,31,35,46,55,63,78,89,104,111,118,126,132,138,144,150,157,162] Tryz.func78 ?_;unfold dO mR
 (try dsimp only);refine dX ?_;refine iQ fun r3 h3=> ?_;intros
 refine iF ?_;refine dX ?_;refine eN fun r10 h10=> ?_;intros
 refine eN fun r11 h11=> ?_;intros
 refine gJ (j:=10) rfl aU (aK bA (by simp)) ?_;refine gJ (j:=11) rfl aU (aK bA (by simp)) ?_;refine lE ?_;refine mK ?_;refine qA ?_;refine aB rfl (fun g7=> ?_) (fun g7=> ?_)
 ·rw[show dV m ls s x=(cP s 0).2 by unfold dV;simp only[g7,if_true,if_false,Bool.false_eq_true]];have hL:=hN0;refine dM ?_;refine cw (dO r p q m (.ro 1 (ls.map aP) .any) s) Tryz.call188 (oX hN0 s h 0) rfl aC cE ?_;rintro _ σ' ⟨rfl,rfl⟩ h34;refine oE ?_;refine lD ?_;refine bY ?_;exact aE aF ⟨_,hL,rfl⟩ aA
 refine cZ ?_;refine aB rfl (fun g9=> ?_) (fun g9=> ?_)
 ·have h1:=h.pop 1;have h2:=h1.pop 0;have h3:=h2.pop (cP (cP s 1).2 0).1;rw[show dV m ls s x=fO (cP (cP (cP s 1).2 0).2 (cP (cP s 1).2 0).1).2 [(cP (cP (cP s 1).2 0).2 (cP (cP s 1).2 0).1).1] by unfold dV;simp only[g7,g9,if_true,if_false,Bool.false_eq_true]];refine dM ?_;refine cw (dO r p q m (.ro 1 (ls.map aP) .any) s) Tryz.call188 (oX hN0 s h 1) rfl aC cE ?_;rintro _ σ' ⟨rfl,rfl⟩ h38;refine mV ?_;refine tD ?_;refine cw (dO r p q m (.ro 1 (ls.map aP) .any) (cP s 1).2) Tryz.call188 (oX hN0 _ h1 0) rfl aC cE ?_;rintro _ σ' ⟨rfl,rfl⟩ h42;refine oE ?_;refine cw (dO r p q m (.ro 1 (ls.map aP) .any) (cP (cP s 1).2 0).2) Tryz.call188 (oX hN0 _ h2 _) rfl aC cE ?_;rintro _ σ' ⟨rfl,rfl⟩ h43;refine oE ?_;refine eN fun r44 h44=> ?_;intros
  refine gJ (j:=44) rfl aU (aK bA (by simp)) ?_;refine cw (dO r p q m (.ro 1 (ls.map aP) .any) (cP (cP (cP s 1).2 0).2 (cP (cP s 1).2 0).1).2) Tryz.call190 (lU hN0 _ h3.bv [(cP (cP (cP s 1).2 0).2 (cP (cP s 1).2 0).1).1] (by simp)) rfl aC cE ?_;rintro _ σ' ⟨e,hL,rfl⟩ h45;unfold dO mR;(try dsimp only);obtain⟨e1,e2,e3⟩:=id hL;refine gX ?_;refine bY ?_;exact aE aF ⟨_,hL,rfl⟩ aA
 refine cZ ?_;refine aB rfl (fun g12=> ?_) (fun g12=> ?_)
 ·have ha:=hx.nn (.inr (.inr (.inr (.inr (.inl (by simpa using g12))))));have h1:=h.loc ls x.a;rw[show dV m ls s x=fO (cR ls s x.a).2 [(cR ls s x.a).1] by unfold dV;simp only[g7,g9,g12,if_true,if_false,Bool.false_eq_true]];refine eX ?_;refine fW ?_;refine cw (dO r p q m (.ro 1 (ls.map aP) .any) s) Tryz.call197 (AR hN0 s x.a ha) rfl aC cE ?_;rintro _ σ' ⟨rfl,rfl⟩ h52;refine oE ?_;refine eN fun r53 h53=> ?_;intros
  refine gJ (j:=53) rfl aU (aK bA (by simp)) ?_;refine cw (dO r p q m (.ro 1 (ls.map aP) .any) (cR ls s x.a).2) Tryz.call190 (lU hN0 _ h1.bv [(cR ls s x.a).1] (by simp)) rfl aC cE ?_;rintro _ σ' ⟨e,hL,rfl⟩ h54;unfold dO mR;(try dsimp only);obtain⟨e1,e2,e3⟩:=id hL;refine gX ?_;refine bY ?_;exact aE aF ⟨_,hL,rfl⟩ aA
 refine cZ ?_;refine aB rfl (fun g14=> ?_) (fun g14=> ?_)
 ·have ha:=hx.nn (.inr (.inr (.inr (.inr (.inr (.inl (by simpa using g14)))))));have h1:=h.loc ls x.a;have hL:=hN0;rw[show dV m ls s x=(cP (cR ls s x.a).2 (cR ls s x.a).1).2 by unfold dV;simp only[g7,g9,g12,g14,if_true,if_false,Bool.false_eq_true]];refine eX ?_;refine fW ?_;refine cw (dO r p q m (.ro 1 (ls.map aP) .any) s) Tryz.call197 (AR hN0 s x.a ha) rfl aC cE ?_;rintro _ σ' ⟨rfl,rfl⟩ h61;refine oE ?_;refine cw (dO r p q m (.ro 1 (ls.map aP) .any) (cR ls s x.a).2) Tryz.call188 (oX hN0 _ h1 _) rfl aC cE ?_;rintro _ σ' ⟨rfl,rfl⟩ h62;refine oE ?_;refine lD ?_;refine bY ?_;exact aE aF ⟨_,hL,rfl⟩ aA
 refine cZ ?_;refine aB rfl (fun g16=> ?_) (fun g16=> ?_)
 ·have ha:=hx.nn (.inr (.inr (.inr (.inr (.inr (.inr (.inl (by simpa using g16))))))));have h1:=h.loc ls x.a;have h2:=h1.pop (cR ls s x.a).1;have h3:=h2.loc ls x.a;rw[show dV m ls s x=fO (cR ls (cP (cR ls s x.a).2 (cR ls s x.a).1).2 x.a).2 [(cR ls (cP (cR ls s x.a).2 (cR ls s x.a).1).2 x.a).1] by unfold dV;simp only[g7,g9,g12,g14,g16,if_true,if_false,Bool.false_eq_true]];refine eX ?_;refine fW ?_;refine cw (dO r p q m (.ro 1 (ls.map aP) .any) s) Tryz.call197 (AR hN0 s x.a ha) rfl aC cE ?_;rintro _ σ' ⟨rfl,rfl⟩ h69;refine oE ?_;refine cw (dO r p q m (.ro 1 (ls.map aP) .any) (cR ls s x.a).2) Tryz.call188 (oX hN0 _ h1 _) rfl aC cE ?_;rintro _ σ' ⟨rfl,rfl⟩ h70;refine mV ?_;refine eX ?_;refine fW ?_;refine cw (dO r p q m (.ro 1 (ls.map aP) .any) (cP (cR ls s x.a).2 (cR ls s x.a).1).2) Tryz.call197 (AR hN0 _ x.a ha) rfl aC cE ?_;rintro _ σ' ⟨rfl,rfl⟩ h75;refine oE ?_;refine eN fun r76 h76=> ?_;intros
  refine gJ (j:=76) rfl aU (aK bA (by simp)) ?_;refine cw (dO r p q m (.ro 1 (ls.map aP) .any) (cR ls (cP (cR ls s x.a).2 (cR ls s x.a).1).2 x.a).2) Tryz.call190 (lU hN0 _ h3.bv [(cR ls (cP (cR ls s x.a).2 (cR ls s x.a).1).2 x.a).1] (by simp)) rfl aC cE ?_;rintro _ σ' ⟨e,hL,rfl⟩ h77;unfold dO mR;(try dsimp only);obtain⟨e1,e2,e3⟩:=id hL;refine gX ?_;refine bY ?_;exact aE aF ⟨_,hL,rfl⟩ aA
 refine cZ ?_;refine aB rfl (fun g19=> ?_) (fun g19=> ?_)
 ·have ha:=hx.nn (.inr (.inr (.inr (.inr (.inr (.inr (.inr (.inl (by simpa using g19)))))))));have h1:=h.glob m x.a;rw[show dV m ls s x=fO (eC m s x.a).2 [(eC m s x.a).1.kd] by unfold dV;simp only[g7,g9,g12,g14,g16,g19,if_true,if_false,Bool.false_eq_true]];refine eX ?_;refine fW ?_;refine cw (dO r p q m (.ro 1 (ls.map aP) .any) s) Tryz.call198 (NZ hN0 s x.a ha) rfl aC cE ?_;rintro _ σ' ⟨rfl,rfl⟩ h84;refine oE ?_;refine lo (TC (E rfl) rfl rfl (fun _=>Nat.le_of_ble_eq_true rfl)) rfl ?_;refine aHW ?_;refine eN fun r87 h87=> ?_;intros
  refine gJ (j:=87) rfl aU (aK bA (by simp)) ?_;refine cw (dO r p q m (.ro 1 (ls.map aP) .any) (eC m s x.a).2) Tryz.call190 (lU hN0 _ h1.bv [(eC m s x.a).1.kd] (by simp)) rfl aC cE ?_;rintro _ σ' ⟨e,hL,rfl⟩ h88;unfold dO mR;(try dsimp only);obtain⟨e1,e2,e3⟩:=id hL;refine gX ?_;refine bY ?_;exact aE aF ⟨_,hL,rfl⟩ aA
 refine cZ ?_;refine aB rfl (fun g21=> ?_) (fun g21=> ?_)
 ·have ha:=hx.nn (.inr (.inr (.inr (.inr (.inr (.inr (.inr (.inr (by simpa using g21)))))))));have h1:=h.glob m x.a;have h2:=h1.need (eC m s x.a).1.mu;have hL:=hN0;rw[show dV m ls s x=(cP (dB (eC m s x.a).2 (eC m s x.a).1.mu) (eC m s x.a).1.kd).2 by unfold dV;simp only[g7,g9,g12,g14,g16,g19,g21,if_true,if_false,Bool.false_eq_true]];refine kA ?_;refine cw (dO r p q m (.ro 1 (ls.map aP) .any) s) Tryz.call198 (NZ hN0 s x.a ha) rfl aC cE ?_;rintro _ σ' ⟨rfl,rfl⟩ h94;refine oE ?_;refine jU fun r6 h6=> ?_;intros
  refine pX ?_;refine kA ?_;refine cw (dO r p q m (.ro 1 (ls.map aP) .any) (eC m s x.a).2) Tryz.call189 (kF hN0 _ (eC m s x.a).1.mu) rfl aC cE ?_;rintro _ σ' rfl h98;refine mV ?_;refine dM ?_;refine wL ?_;refine fW ?_;refine cw (dO r p q m (.ro 1 (ls.map aP) .any) (dB (eC m s x.a).2 (eC m s x.a).1.mu)) Tryz.call188 (oX hN0 _ h2 _) rfl aC cE ?_;rintro _ σ' ⟨rfl,rfl⟩ h103;refine oE ?_;refine lD ?_;refine bY ?_;exact aE aF ⟨_,hL,rfl⟩ aA
 refine cZ ?_;refine aB rfl (fun g25=> ?_) (fun g25=> ?_)
 ·rw[show dV m ls s x=gD m s x 2 [1] [1] by unfold dV;simp only[g7,g9,g12,g14,g16,g19,g21,g25,if_true,if_false,Bool.false_eq_true]];refine zO ?_;refine XF ?_;refine cw (dO r p q m (.ro 1 (ls.map aP) .any) s) Tryz.call199 (mN hN0 s h x 2 [1] [1] (by simp) (by simp)) rfl aC cE ?_;rintro _ σ' ⟨e,hL,rfl⟩ h110;unfold dO mR;(try dsimp only);obtain⟨e1,e2,e3⟩:=id hL;refine gX ?_;refine bY ?_;exact aE aF ⟨_,hL,rfl⟩ aA
 refine cZ ?_;refine aB rfl (fun g27=> ?_) (fun g27=> ?_)
 ·rw[show dV m ls s x=gD m s x 3 [1] [2] by unfold dV;simp only[g7,g9,g12,g14,g16,g19,g21,g25,g27,if_true,if_false,Bool.false_eq_true]];refine zO ?_;refine XF ?_;refine cw (dO r p q m (.ro 1 (ls.map aP) .any) s) Tryz.call199 (mN hN0 s h x 3 [1] [2] (by simp) (by simp)) rfl aC cE ?_;rintro _ σ' ⟨e,hL,rfl⟩ h117;unfold dO mR;(try dsimp only);obtain⟨e1,e2,e3⟩:=id hL;refine gX ?_;refine bY ?_;exact aE aF ⟨_,hL,rfl⟩ aA
 refine cZ ?_;apply fE rfl;exact cT
 ·intro _;(refine aJ ?_);refine eU ?_;exact aL
 refine aJ ?_;refine aB rfl (fun g29=> ?_) (fun g29=> ?_)
 ·refine aJ ?_;rw[show dV m ls s x=gD m s x 0 [1] [1] by unfold dV;simp only[g7,g9,g12,g14,g16,g19,g21,g25,g27,g29,if_true,if_false,Bool.false_eq_true]];refine iC ?_;refine oS ?_;refine XF ?_;refine cw (dO r p q m (.ro 1 (ls.map aP) .any) s) Tryz.call199 (mN hN0 s h x 0 [1] [1] (by simp) (by simp)) rfl aC cE ?_;rintro _ σ' ⟨e,hL,rfl⟩ h125;unfold dO mR;(try dsimp only);obtain⟨e1,e2,e3⟩:=id hL;refine gX ?_;refine bY ?_;exact aE aF ⟨_,hL,rfl⟩ aA
 refine cZ ?_;refine aB rfl (fun g32=> ?_) (fun g32=> ?_)
 ·rw[show dV m ls s x=gD m s x 2 [1,1] [] by unfold dV;simp only[g7,g9,g12,g14,g16,g19,g21,g25,g27,g29,g32,if_true,if_false,Bool.false_eq_true]];refine zO ?_;refine eN fun r130 h130=> ?_;intros
  refine gJ (j:=130) rfl aU (aK bA (by simp)) ?_;refine cw (dO r p q m (.ro 1 (ls.map aP) .any) s) Tryz.call199 (mN hN0 s h x 2 [1,1] [] (by simp) (by simp)) rfl aC cE ?_;rintro _ σ' ⟨e,hL,rfl⟩ h131;unfold dO mR;(try dsimp only);obtain⟨e1,e2,e3⟩:=id hL;refine gX ?_;refine bY ?_;exact aE aF ⟨_,hL,rfl⟩ aA
 refine cZ ?_;refine aB rfl (fun g34=> ?_) (fun g34=> ?_)
 ·rw[show dV m ls s x=gD m s x 3 [1,2] [] by unfold dV;simp only[g7,g9,g12,g14,g16,g19,g21,g25,g27,g29,g32,g34,if_true,if_false,Bool.false_eq_true]];refine zO ?_;refine eN fun r136 h136=> ?_;intros
  refine gJ (j:=136) rfl aU (aK bA (by simp)) ?_;refine cw (dO r p q m (.ro 1 (ls.map aP) .any) s) Tryz.call199 (mN hN0 s h x 3 [1,2] [] (by simp) (by simp)) rfl aC cE ?_;rintro _ σ' ⟨e,hL,rfl⟩ h137;unfold dO mR;(try dsimp only);obtain⟨e1,e2,e3⟩:=id hL;refine gX ?_;refine bY ?_;exact aE aF ⟨_,hL,rfl⟩ aA
 refine cZ ?_;refine aB rfl (fun g36=> ?_) (fun g36=> ?_)
 ·rw[show dV m ls s x=gD m s x 0 [1,1] [] by unfold dV;simp only[g7,g9,g12,g14,g16,g19,g21,g25,g27,g29,g32,g34,g36,if_true,if_false,Bool.false_eq_true]];refine zO ?_;refine eN fun r142 h142=> ?_;intros
  refine gJ (j:=142) rfl aU (aK bA (by simp)) ?_;refine cw (dO r p q m (.ro 1 (ls.map aP) .any) s) Tryz.call199 (mN hN0 s h x 0 [1,1] [] (by simp) (by simp)) rfl aC cE ?_;rintro _ σ' ⟨e,hL,rfl⟩ h143;unfold dO mR;(try dsimp only);obtain⟨e1,e2,e3⟩:=id hL;refine gX ?_;refine bY ?_;exact aE aF ⟨_,hL,rfl⟩ aA
 refine cZ ?_;refine aB rfl (fun g38=> ?_) (fun g38=> ?_)
 ·rw[show dV m ls s x=gD m s x 0 [] [1] by unfold dV;simp only[g7,g9,g12,g14,g16,g19,g21,g25,g27,g29,g32,g34,g36,g38,if_true,if_false,Bool.false_eq_true]];refine MV ?_;refine cw (dO r p q m (.ro 1 (ls.map aP) .any) s) Tryz.call199 (mN hN0 s h x 0 [] [1] (by simp) (by simp)) rfl aC cE ?_;rintro _ σ' ⟨e,hL,rfl⟩ h149;unfold dO mR;(try dsimp only);obtain⟨e1,e2,e3⟩:=id hL;refine gX ?_;refine bY ?_;exact aE aF ⟨_,hL,rfl⟩ aA
 refine cZ ?_;refine aB rfl (fun g40=> ?_) (fun g40=> ?_)
 ·rw[show dV m ls s x=gD m s x 0 [1] [1] by unfold dV;simp only[g7,g9,g12,g14,g16,g19,g21,g25,g27,g29,g32,g34,g36,g38,g40,if_true,if_false,Bool.false_eq_true]];refine zO ?_;refine XF ?_;refine cw (dO r p q m (.ro 1 (ls.map aP) .any) s) Tryz.call199 (mN hN0 s h x 0 [1] [1] (by simp) (by simp)) rfl aC cE ?_;rintro _ σ' ⟨e,hL,rfl⟩ h156;unfold dO mR;(try dsimp only);obtain⟨e1,e2,e3⟩:=id hL;refine gX ?_;refine bY ?_;exact aE aF ⟨_,hL,rfl⟩ aA
 refine cZ ?_;refine aB rfl (fun g42=> ?_) (fun g42=> ?_)
 ·rw[show dV m ls s x=fO s [1] by unfold dV;simp only[g7,g9,g12,g14,g16,g19,g21,g25,g27,g29,g32,g34,g36,g38,g40,g42,if_true,if_false,Bool.false_eq_true]];refine dM ?_;refine eN fun r160 h160=> ?_;intros
  refine gJ (j:=160) rfl aU (aK bA (by simp)) ?_;refine cw (dO r p q m (.ro 1 (ls.map aP) .any) s) Tryz.call190 (lU hN0 s h.bv [1] (by simp)) rfl aC cE ?_;rintro _ σ' ⟨e,hL,rfl⟩ h161;unfold dO mR;(try dsimp only);obtain⟨e1,e2,e3⟩:=id hL;refine gX ?_;refine bY ?_;exact aE aF ⟨_,hL,rfl⟩ aA
 refine cZ ?_;refine aB rfl (fun g44=> ?_) (fun g44=> ?_)
 ·rw[show dV m ls s x=fO s [2] by unfold dV;simp only[g7,g9,g12,g14,g16,g19,g21,g25,g27,g29,g32,g34,g36,g38,g40,g42,g44,if_true,if_false,Bool.false_eq_true]];refine dM ?_;refine eN fun r165 h165=> ?_;intros
  refine gJ (j:=165) rfl aU (aK bA (by simp)) ?_;refine cw (dO r p q m (.ro 1 (ls.map aP) .any) s) Tryz.call190 (lU hN0 s h.bv [2] (by simp)) rfl aC cE ?_;rintro _ σ' ⟨e,hL,rfl⟩ h166;unfold dO mR;(try dsimp only);obtain⟨e1,e2,e3⟩:=id hL;refine gX ?_;refine bY ?_;exact aE aF ⟨_,hL,rfl⟩ aA
 have hkl:=aJn x.op;have h1:=h.need (kN x.op).2.2;have h2:=h1.pops (kN x.op).1;rw[show dV m ls s x=fO (dP (dB s (kN x.op).2.2) (kN x.op).1) [(kN x.op).2.1] by unfold dV;simp only[g7,g9,g12,g14,g16,g19,g21,g25,g27,g29,g32,g34,g36,g38,g40,g42,g44,if_true,if_false,Bool.false_eq_true]];refine aJ ?_;cases hk:(kN x.op).2.2
 ·rw[aLA hk]at h1 h2⊢;refine mK ?_;refine cw [] Tryz.call200 (aDA hk) rfl aC aA ?_;rintro _ σ' ⟨rfl,rfl⟩ h17;refine TP ?_;refine oF ?_;refine dQ (eF (j:=7) (y:=.ro 1 (([]:List Int).map aP) .any) rfl VLe.empty) ?_;refine kK ?_;refine cw (dO r p q m (.ro 1 (ls.map aP) .any) s) Tryz.call189 (kF hN0 s false) rfl aC cE ?_;rintro _ σ' rfl h23;refine mV ?_;refine eX ?_;refine cw (dO r p q m (.ro 1 (ls.map aP) .any) (dB s false)) Tryz.call192 (lA hN0 _ h1 [] (by simp)) rfl aC cE ?_;rintro _ σ' rfl h26;refine mV ?_;refine eX ?_;refine eN fun r29 h29=> ?_;intros
  refine gJ (j:=29) rfl aU (aK bA (by simp)) ?_;refine cw (dO r p q m (.ro 1 (ls.map aP) .any) (dP (dB s false) [])) Tryz.call190 (lU hN0 _ h2.bv [0] (by simp)) rfl aC cE ?_;rintro _ σ' ⟨e,hL,rfl⟩ h30;unfold dO mR;(try dsimp only);obtain⟨e1,e2,e3⟩:=id hL;refine gX ?_;refine bY ?_;exact aE aF ⟨_,hL,rfl⟩ aA
 ·rw[hk]at h1 h2;refine mK ?_;refine cw [] Tryz.call200 (aBo hk) rfl aC aA ?_;rintro _ σ' ⟨q1,rfl,rfl⟩ h17
  replace h17:=gL h17;repeat rcases h17 with⟨_,h17⟩
  refine TP ?_;refine oF ?_;refine aCC (j:=7) rfl aU (aK bA (by simp)) ?_;refine kK ?_;refine cw (dO r p q m (.ro 1 (ls.map aP) .any) s) Tryz.call189 (kF hN0 s true) rfl aC cE ?_;rintro _ σ' rfl h23;refine mV ?_;refine eX ?_;refine cw (dO r p q m (.ro 1 (ls.map aP) .any) (dB s true)) Tryz.call192 (lA hN0 _ h1 (kN x.op).1 (by omega)) rfl aC cE ?_;rintro _ σ' rfl h26;refine mV ?_;refine eX ?_;refine z1 ?_;refine bL fun r29 h29=> ?_;repeat rcases h29 with⟨_,h29⟩
  refine gJ (j:=29) rfl aU (aK bA (by simp)) ?_;refine cw (dO r p q m (.ro 1 (ls.map aP) .any) (dP (dB s true) (kN x.op).1)) Tryz.call190 (lU hN0 _ h2.bv [(kN x.op).2.1] (by simp)) rfl aC cE ?_;rintro _ σ' ⟨e,hL,rfl⟩ h30;unfold dO mR;(try dsimp only);obtain⟨e1,e2,e3⟩:=id hL;refine gX ?_;refine bY ?_;exact aE aF ⟨_,hL,rfl⟩ aA
end
end Go.Proofs.YtjpdadobblffmaaGreat
namespace Go.Proofs.YtjpdadobblffmaaGreat
open Go.RowKit Go.ChangeShapes Go.WideShapes Go.ChangeAt Go.Deep
def iV (L:Nat) (S:List Bool) (op:Int):Option (List Bool):=
 if qD op=true then(if L≤S.length then none else some (S++ [op==4]))
 else if op≠5∧op≠11 then some S
 else match S.getLast? with
  |none=>none
  |some c=>if op=11 then some S.dropLast else if c=true then some (S.dropLast++ [false])else none
def mD (L:Nat):List Int→List Bool→Option (List Bool)
 |[],S=>some S
 |op::w,S=>match iV L S op with
  |none=>none
  |some S'=>mD L w S'
theorem VQ{L:Nat}:∀ {u v:List Int} {S T:List Bool},mD L u S=some T→mD L (u++v) S=mD L v T
 |[],_,_,_,h=>by cases h;rfl
 |op::u,v,S,T,h=>by
  rw[List.cons_append,mD];rw[mD]at h;cases hs:iV L S op with
  |none=>rw[hs]at h;cases h
  |some S'=>rw[hs]at h;exact VQ h
theorem OA{L:Nat}:∀ {u v:List Int} {S:List Bool},mD L u S=none→mD L (u++v) S=none
 |[],_,_,h=>by cases h
 |op::u,v,S,h=>by
  rw[List.cons_append,mD];rw[mD]at h;cases hs:iV L S op with
  |none=>rfl
  |some S'=>rw[hs]at h;exact OA h
theorem aDC{L:Nat}{S:List Bool}{op:Int}:mD L [op] S=iV L S op:=by
 rw[mD];cases iV L S op<;>rfl
def flg (ops:List Int) (all:List Bk) (k:Nat):Bool:=
 match all[k]? with
 |some b=>(ops[b.at_]? ==some 4)&&decide (b.els<0)
 |none=>false
def DU (ops:List Int) (s:MS):List Bool:=s.opn.map (flg ops s.all)
theorem aGb{ops:List Int}{all:List Bk}{k:Nat}(h:k<all.length)(x:Bk):flg ops (all++ [x]) k=flg ops all k:=by
 unfold flg;rw[List.getElem?_append_left h]
theorem aAt{ops:List Int}{all:List Bk}{k n:Nat}(h:k≠n)(x:Bk):flg ops (all.set n x) k=flg ops all k:=by
 unfold flg;rw[List.getElem?_set_ne (Ne.symm h)]
structure MOk2 (s:MS):Prop where
 inc:s.opn.Pairwise (· < ·)
theorem aBq{ops:List Int}{j:Nat}{s s':MS}{op:Int}(h1:MOk j s)(h:MOk2 s)(hs:oM ops s j op=some s'):MOk2 s':=by
 unfold oM at hs;split at hs
 ·split at hs
  ·cases hs
  ·obtain rfl:=Option.some.inj hs;refine⟨List.pairwise_append.2 ⟨h.inc,by simp,fun a ha b hb=> ?_⟩⟩;rw[List.mem_singleton.1 hb];exact h1.opn a ha
 split at hs
 ·obtain rfl:=Option.some.inj hs;exact h
 unfold DS at hs;split at hs
 ·cases hs
 split at hs
 ·cases hs
 split at hs
 ·obtain rfl:=Option.some.inj hs;exact⟨h.inc.sublist (List.dropLast_sublist _)⟩
 split at hs
 ·cases hs
 ·obtain rfl:=Option.some.inj hs;exact⟨h.inc⟩
theorem VS{ops:List Int}:∀ {j:Nat} {s:MS},pI ops j=some s→MOk2 s
 |0,s,h=>by obtain rfl:=Option.some.inj h;exact⟨List.Pairwise.nil⟩
 |j+1,s,h=>by
  rw[pI]at h;split at h
  ·next s0 op h1 h2=>exact aBq (zW h1) (VS h1) h
  ·cases h
theorem aDD{ops:List Int}{j:Nat}{s:MS}{op:Int}(h1:MOk j s)(h2:MOk2 s)(ho:ops[j]? =some op):(oM ops s j op).map (DU ops)=iV 40 (DU ops s) op:=by
 obtain⟨all,opn⟩:=s;have hk:=h1.opn;have hlen:=h1.len;have hinc:=h2.inc;dsimp only at hk hlen hinc;by_cases hO:qD op=true
 ·by_cases h40:opn.length=40
  ·rw[BX hO h40];unfold iV DU;rw[if_pos hO,if_pos (by simp;omega)];rfl
  ·rw[BW hO h40];unfold iV DU;rw[if_pos hO,if_neg (by simp;omega)];dsimp only[Option.map];rw[List.map_append,List.map_congr_left fun k hkk=>aGb (hk k hkk) _];simp[flg,ho]
 have hO:qD op=false:=by simpa using hO
 by_cases h5:op≠5∧op≠11
 ·rw[BY hO h5.1 h5.2];unfold iV;rw[if_neg (by simp[hO]),if_pos h5];rfl
 rw[zX hO (by omega)];unfold iV;rw[if_neg (by simp[hO]),if_neg h5];rcases List.eq_nil_or_concat opn with rfl|⟨pre,k,rfl⟩
 ·rfl
 have hkl:=hk k (by simp);obtain⟨b,hb⟩:∃b,all[k]? =some b:=⟨_,List.getElem?_eq_getElem hkl⟩
 have hpre:∀x∈pre,x≠k:=fun x hx=>by
  have:=(List.pairwise_append.1 (by simpa using hinc)).2.2 x hx k (by simp);omega
 have hab:DU ops ⟨all,pre.concat k⟩=pre.map (flg ops all)++ [flg ops all k]:=by unfold DU;simp
 have hfk:flg ops all k=((ops[b.at_]? ==some 4)&&decide (b.els<0)):=by unfold flg;rw[hb]
 rw[hab,List.getLast?_append];dsimp only[List.getLast?_singleton,Option.some_or];rw[List.concat_eq_append];rcases(show op=11∨op=5 by omega)with rfl|rfl
 ·rw[PX hb,if_pos rfl];unfold DU;dsimp only[Option.map];rw[List.map_congr_left fun x hx=>aAt (hpre x hx) _];simp
 ·rw[if_neg (by decide),hfk];by_cases hc:ops[b.at_]? =some 4∧¬0≤b.els
  ·rw[GV hb hc.1 hc.2,if_pos (by simp[hc.1];omega)];unfold DU;dsimp only[Option.map];rw[List.map_append,List.map_congr_left fun x hx=>aAt (hpre x hx) _];simp[flg,hkl]
  ·have hc':ops[b.at_]? ≠some 4∨0≤b.els:=by
    by_cases h4:ops[b.at_]? =some 4
    ·exact .inr (by by_cases h0:0≤b.els;exact h0;exact absurd ⟨h4,h0⟩ hc)
    ·exact .inl h4
   rw[PY hb hc',if_neg (by rcases hc' with h|h;simp[h];simp;intro _;exact h)];rfl
theorem aAu{ops:List Int}:∀ {j:Nat},j≤ops.length→mD 40 (ops.take j) []=(pI ops j).map (DU ops)
 |0,_=>by simp[mD,pI,DU]
 |j+1,hj=>by
  have ih:=aAu (ops:=ops) (j:=j) (by omega);obtain⟨op,ho⟩:∃op,ops[j]? =some op:=⟨_,List.getElem?_eq_getElem hj⟩
  rw[List.take_add_one,ho];dsimp only[Option.toList];cases hm:pI ops j with
  |none=>
   rw[hm]at ih;rw[OA ih,pI,hm];rfl
  |some s=>
   rw[hm]at ih;rw[VQ ih,aDC,wO hm ho];exact(aDD (zW hm) (VS hm) ho).symm
theorem QP{ops:List Int}:xF ops=true↔ops.length≤300∧mD 40 ops []=some []:=by
 have h:=aAu (ops:=ops) (Nat.le_refl _);rw[List.take_length]at h;rw[h];unfold xF gH;by_cases hl:300<ops.length
 ·rw[if_pos hl];simp;omega
 rw[if_neg hl];cases hm:pI ops ops.length with
 |none=>simp
 |some s=>
  obtain⟨all,opn⟩:=s;cases opn with
  |nil=>simp[DU];omega
  |cons k r=>simp[DU]
structure Md.Fn (m:Md):Prop extends m.Ck where
 bd:∀c∈m.co,c.bd.length≤100000∧∀x∈c.bd,x.Ck
 lc:∀c∈m.co,c.ls.length≤1000
theorem yP{m:Md}{s:PS}{x:Ins}(h:(cJ m s x).1=false):(cJ m s x).2=s∧qD x.op=false∧x.op≠5∧x.op≠11:=by
 have key:∀r:Bool×PS,r.1=true→r.1=false→r.2=s∧qD x.op=false∧x.op≠5∧x.op≠11:=fun r h1 h2=>by rw[h1]at h2;cases h2
 revert h;unfold cJ;refine aI (p:=fun r:Bool×PS=>r.1=false→r.2=s∧qD x.op=false∧x.op≠5∧x.op≠11) (fun _=>key _ rfl) (fun _=> ?_);refine aI (p:=fun r:Bool×PS=>r.1=false→r.2=s∧qD x.op=false∧x.op≠5∧x.op≠11) (fun _=>key _ rfl) (fun _=> ?_);refine aI (p:=fun r:Bool×PS=>r.1=false→r.2=s∧qD x.op=false∧x.op≠5∧x.op≠11) (fun _=>key _ rfl) (fun a1=> ?_);refine aI (p:=fun r:Bool×PS=>r.1=false→r.2=s∧qD x.op=false∧x.op≠5∧x.op≠11) (fun _=>key _ rfl) (fun a2=> ?_);refine aI (p:=fun r:Bool×PS=>r.1=false→r.2=s∧qD x.op=false∧x.op≠5∧x.op≠11) (fun _=>key _ rfl) (fun a3=> ?_);refine aI (p:=fun r:Bool×PS=>r.1=false→r.2=s∧qD x.op=false∧x.op≠5∧x.op≠11) (fun _=>key _ rfl) (fun a4=> ?_);refine aI (p:=fun r:Bool×PS=>r.1=false→r.2=s∧qD x.op=false∧x.op≠5∧x.op≠11) (fun _=>key _ rfl) (fun _=> ?_);refine aI (p:=fun r:Bool×PS=>r.1=false→r.2=s∧qD x.op=false∧x.op≠5∧x.op≠11) (fun _=>key _ rfl) (fun _=> ?_);refine aI (p:=fun r:Bool×PS=>r.1=false→r.2=s∧qD x.op=false∧x.op≠5∧x.op≠11) (fun _=>key _ rfl) (fun _=> ?_);refine aI (p:=fun r:Bool×PS=>r.1=false→r.2=s∧qD x.op=false∧x.op≠5∧x.op≠11) (fun _=>key _ rfl) (fun _=> ?_)
 refine aI (p:=fun r:Bool×PS=>r.1=false→r.2=s∧qD x.op=false∧x.op≠5∧x.op≠11) (fun _=>key _ rfl) (fun _=> ?_);refine aI (p:=fun r:Bool×PS=>r.1=false→r.2=s∧qD x.op=false∧x.op≠5∧x.op≠11) (fun _=>key _ rfl) (fun _=> ?_);intro _;refine⟨rfl, ?_,by simpa using a3,by simpa using a4⟩;unfold qD;rw[Bool.not_eq_true]at a1 a2;rw[a1,a2];rfl
structure LOk (m:Md) (ls:List Int) (bd:List Ins) (s0:PS) (j:Nat) (s:PS) (F:List Bool):Prop where
 gd:s.Ok
 vl:s.vs.length≤101*j
 fl:F.length+1=s.cs.length
 f40:F.length≤40
 rn:mD 40 ((cU bd).drop j) F=some []
 go:yT m ls bd s0=yT m ls (bd.drop j) s
 nb:s.bad=false
theorem LOk.ge {m:Md}{ls:List Int}{bd:List Ins}{s0 s:PS}{j:Nat}{F:List Bool}(h:LOk m ls bd s0 j s F)(hj:j≤300):s.Gd:=⟨h.gd,by have:=h.vl;omega,by have:=h.fl;have:=h.f40;omega⟩
theorem VT{bd:List Ins}{a:Nat}{x:Ins}(h:bd[a]? =some x):(cU bd).drop a=x.op::(cU bd).drop (a+1)∧bd.drop a=x::bd.drop (a+1):=by
 obtain⟨h1,rfl⟩:=List.getElem?_eq_some_iff.1 h;refine⟨?_,List.drop_eq_getElem_cons h1⟩;unfold cU;rw[←List.map_drop,List.drop_eq_getElem_cons h1,List.map_cons,List.map_drop]
theorem LOk.two {m:Md}{ls:List Int}{bd:List Ins}{s0 s:PS}{j:Nat}{F:List Bool}(h:LOk m ls bd s0 j s F){x:Ins}(hx:bd[j]? =some x)(h11:x.op=11):2≤s.cs.length:=by
 have hr:=h.rn;rw[(VT hx).1,h11,mD]at hr;have:=h.fl;cases F with
 |nil=>unfold iV at hr;simp[qD]at hr
 |cons a F=>simp at this;omega
theorem LOk.step {m:Md}{ls:List Int}{bd:List Ins}{s0 s:PS}{j:Nat}{F:List Bool}(hT:m.TS)(h:LOk m ls bd s0 j s F){x:Ins}(hx:bd[j]? =some x):
  (gE m ls s x).Ok∧(gE m ls s x).vs.length≤101*(j+1)∧((gE m ls s x).bad=true→(yT m ls bd s0).bad=true)∧((gE m ls s x).bad=false→∃F',LOk m ls bd s0 (j+1) (gE m ls s x) F'):=by
 obtain⟨hc1,hc2,hc3⟩:=VN (m:=m) h.gd (fun e=>h.two hx e) hT;have hvl:=h.vl;have key:(gE m ls s x).Ok∧(gE m ls s x).vs.length≤101*(j+1)∧((gE m ls s x).cs.length:Int)=s.cs.length+dK x.op:=by
  unfold gE;dsimp only;cases hc:(cJ m s x).1 with
  |true=>
   rw[if_pos rfl];rw[hc,if_pos rfl]at hc3;exact⟨hc1,by omega,hc3⟩
  |false=>
   obtain⟨e1,e2,e3,e4⟩:=yP hc;rw[if_neg (by simp),e1];obtain⟨p1,p2,p3⟩:=aBn (m:=m) (ls:=ls) (x:=x) h.gd;refine⟨p1,by omega, ?_⟩;rw[p3];have:dK x.op=0:=by
    unfold dK;unfold qD at e2;rw[e2,if_neg (by simp),if_neg (by simpa using e4)]
   omega
 obtain⟨k1,k2,k3⟩:=key;obtain⟨o1,o2⟩:=VT hx;refine⟨k1,k2,fun hb=> ?_,fun hb=> ?_⟩
 ·rw[h.go,o2];show(if _ then _ else _:PS).bad=true;rw[if_pos hb];exact hb
 ·have hr:=h.rn;rw[o1,mD]at hr;cases hs:iV 40 F x.op with
  |none=>rw[hs]at hr;cases hr
  |some F'=>
   rw[hs]at hr;have hF:(F'.length:Int)=F.length+dK x.op∧F'.length≤40:=by
    have h40:=h.f40;unfold iV at hs;split at hs
    ·next hO=>
     split at hs
     ·cases hs
     ·obtain rfl:=Option.some.inj hs;unfold qD at hO;unfold dK;rw[if_pos hO];simp;omega
    ·next hO=>
     have hd0:∀n:Int,(x.op==11)=false→dK x.op=0:=fun _ e=>by
      unfold dK;unfold qD at hO;rw[if_neg (by simpa using hO),if_neg (by simp[e])]
     split at hs
     ·next h2=>
      obtain rfl:=Option.some.inj hs;rw[hd0 0 (by simpa using h2.2)];omega
     ·split at hs
      ·cases hs
      ·next c hl=>
       have hp:0<F.length:=List.length_pos_iff.2 (by rintro rfl;cases hl);split at hs
       ·next h11=>
        obtain rfl:=Option.some.inj hs;rw[h11];simp[dK];omega
       ·next h11=>
        split at hs
        ·obtain rfl:=Option.some.inj hs;rw[hd0 0 (by simpa using h11)];simp;omega
        ·cases hs
   have hfl:=h.fl;refine⟨F',k1,k2,by omega,hF.2,hr, ?_,hb⟩;rw[h.go,o2];show(if _ then _ else _:PS)=_;rw[if_neg (by simp[hb])]
theorem LOk.init {m:Md}{ls:List Int}{bd:List Ins}{kd:Int}(h:xF (cU bd)=true):LOk m ls bd (openP ⟨[],[],false⟩ 2 kd) 0 (openP ⟨[],[],false⟩ 2 kd) []:=
 ⟨PS.Ok0.openP ⟨by simp,by simp⟩ 2 kd,by simp[openP],by simp[openP],by simp,(QP.1 h).2,rfl,rfl⟩
end Go.Proofs.YtjpdadobblffmaaGreat
namespace Go.Proofs.YtjpdadobblffmaaGreat
open Go.RowKit Go.ChangeShapes Go.WideShapes Go.ChangeAt Go.Deep
attribute [local irreducible] SW RS RD fG eH
theorem aDE{a b c:Bool}(h:(if(if a=true then true else b)=true then true else c)=false):a=false∧b=false∧c=false:=by cases a<;>cases b<;>cases c<;>simp at h⊢
theorem aJo{a b:Bool}(h:(if(!a)=true then true else !b)=false):a=true∧b=true:=by cases a<;>cases b<;>simp at h⊢
theorem aJp{m:Md}{k:Int}{c:Co}{f:Int}(h:(if(if decide (k<0)=true then true else decide ((m.co.length:Int)≤k))=true then true else decide ((m.fn.length:Int)≤k))=false)(hc:m.co[k.toNat]? =some c)(hf:m.fn[k.toNat]? =some f):
  HU m k=if(if(!(cK m f).2)=true then true else !(xF (cU c.bd)))=true then false
   else if(yT m ((cK m f).1.pr++c.ls) c.bd (openP ⟨[],[],false⟩ 2 (if decide ((0:Int)<(cK m f).1.rs.length)=true then(cK m f).1.rs.headD 0 else 0))).bad=true then false
   else if(!(fY (yT m ((cK m f).1.pr++c.ls) c.bd (openP ⟨[],[],false⟩ 2 (if decide ((0:Int)<(cK m f).1.rs.length)=true then(cK m f).1.rs.headD 0 else 0)))).bad)=true then decide ((((cK m f).1.pr++c.ls).length:Int)≤32)else false:=by
 unfold HU;rw[if_neg (fun e=>by rw[h]at e;cases e)];dsimp only;rw[List.getD_eq_getElem?_getD,List.getD_eq_getElem?_getD,hc,hf];rfl
theorem kR(m:Md)(hm:m.Fn)(k:Int):SCall Tryz.prog 23 [.agg (bR m),.int .i64 k] [] (fun y σ=>y=.bool (HU m k)∧σ=[]):=by
 refine cF 124 [0,1,2,4,5,6,7,9,10,12,31,57,78,91,92,93,94,100,107] Tryz.func23 ?_;unfold bR;refine dX ?_;refine iQ fun r2 h2=> ?_;intros
 refine lJ ?_;refine oS ?_;refine jK ?_;refine iQ fun r15 h15=> ?_;intros
 refine dE ?_;refine cM (ks:=[0,1,2,4,5,6,7,9,10,12,31,57,78,91,92,93,94,100,107]) r15 15 3 1 (by decide) bA rfl (by decide) fun p hp=> ?_
 simp only[aO,aT,and_true]at hp;repeat rcases hp with⟨_,hp⟩
 apply Exists.intro;apply And.intro;exact cA;refine cM (ks:=[0,1,2,4,5,6,7,9,10,12,31,57,78,91,92,93,94,100,107]) r15 16 137 4 (by decide) bA rfl (by decide) fun q hq=> ?_
 simp only[aO,aT,and_true]at hq;repeat rcases hq with⟨_,hq⟩
 apply Exists.intro;apply And.intro;exact cA;refine dQ (gR (r:=r15) (cs':=mR m (.ro 0 [] .nil) p q [] [] false) cA (.cons (.refl _) (.cons (.refl _) (.cons (.refl _) (.cons (.refl _) (.cons (.refl _) (.cons (.refl _) (.cons (.refl _) (.cons (.refl _) (.cons (.refl _) (.cons (.refl _) (.cons (.refl _) (.cons (.refl _) (.cons (.refl _) (.cons (.refl _) (.cons (.refl _) (.cons (.refl _) (.cons (.refl _) (.cons (.refl _) .nil))))))))))))))))))) ?_;have hN0:Nm r15 p q:=⟨by(exact bV),by(exact bV),by(exact bV)⟩
 unfold mR
 (try dsimp only);refine iC ?_;refine vG ?_;refine nA ?_;refine aAP ?_;refine rM ?_;refine jL ?_;refine nA ?_;refine aAP ?_;refine lL ?_;refine aB rfl (fun g2=> ?_) (fun g2=> ?_)
 ·rw[show HU m k=false from if_pos g2];refine bM ?_;exact aE aF ⟨by rfl,rfl⟩ aA
 obtain⟨t1,t2,t3⟩:=aDE g2;simp only[decide_eq_false_iff_not]at t1 t2 t3;obtain⟨c,hc⟩:∃c,m.co[k.toNat]? =some c:=⟨_,List.getElem?_eq_getElem (by omega)⟩
 obtain⟨f,hf⟩:∃f,m.fn[k.toNat]? =some f:=⟨_,List.getElem?_eq_getElem (by omega)⟩
 rw[aJp g2 hc hf];have hcm:=List.mem_of_getElem? hc;obtain⟨hb1,hb2⟩:=hm.bd c hcm;have hlc:=hm.lc c hcm;refine kA ?_;refine nJ ?_;refine cw (dO r15 p q m (.ro 0 [] .nil) ⟨[],[],false⟩) Tryz.call74 (sS hN0 ⟨[],[],false⟩ f) rfl aC cE ?_;rintro _ σ' ⟨rfl,rfl⟩ h39;refine oE ?_;refine yA ?_;refine jU fun r6 h6=> ?_;intros
 apply SO;rfl;rfl;rfl;rfl;exact mU;refine iW ?_;refine pZ ?_;refine OV ?_;refine rY Tryz.call75 (qE c.bd hb1) rfl bU kD ?_;rintro _ σ' ⟨q1,rfl,rfl⟩ h49
 replace h49:=cL h49;repeat rcases h49 with⟨_,h49⟩
 refine zN ?_;refine mZ ?_;refine lo (dF (E rfl)) rfl ?_;refine jL ?_;refine vF ?_;refine lL ?_;refine aB rfl (fun g6=> ?_) (fun g6=> ?_)
 ·rw[if_pos g6];refine bM ?_;exact aE aF ⟨by rfl,rfl⟩ aA
 obtain⟨hty,hok⟩:=aJo g6;rw[if_neg (c:=(if(!(cK m f).2)=true then true else !(xF (cU c.bd)))=true) (fun e=>by rw[g6]at e;cases e)];have hts:=pP hm.ts f;generalize(cK m f).1=t at hts⊢;obtain⟨pr,rs⟩:=t;obtain⟨hp1,hp2⟩:=hts;unfold dD;dsimp only at hp1 hp2⊢;have h300:=(QP.1 hok).1;have h300:c.bd.length≤300:=by simpa[cU]using h300
 refine aJ ?_;refine fM [(0,true),(1,true),(2,true),(3,true),(4,true),(5,true),(6,true),(8,true),(9,true),(10,true),(11,true),(12,true),(13,true),(7,false),(14,false),(15,true),(16,true),(17,false)] ?_;refine zK ?_;refine fX ?_;refine pY ?_;refine aIk rfl (pr.map aP) pr.length ?_ (hby:=by omega);refine jZ fun r65 h65=> ?_;intros
 refine fB rfl ((pr++c.ls).map aP) (pr++c.ls).length ?_;refine bH fun r72 h72=> ?_;intros
 refine z77 ?_;refine mJ ?_;refine lF ?_;refine dQ (gC (r:=r15) (q:=r72) cA aU (.cons (.refl _) (.cons (.refl _) (.cons (.refl _) (.cons (.refl _) (.cons (.refl _) (.cons (.refl _) (.cons (.refl _) (.cons (.refl _) (.cons (.refl _) (.cons (.refl _) (.cons (.refl _) (.cons (.refl _) (.cons (.refl _) (.cons (.refl _) (.cons (aK bA (by simp)) (.cons (.refl _) (.cons (.refl _) (.cons (.refl _) .nil))))))))))))))))))) ?_;have hll:(pr++c.ls).length≤2000:=by simp;omega
 generalize pr++c.ls=ls at hll⊢;obtain⟨kd,hkd⟩:∃kd,kd=(if decide ((0:Int)<(rs.length:Int))=true then rs.headD 0 else 0):=⟨_,rfl⟩
 rw[←hkd];refine jQ ?_;refine iW ?_;refine uC ?_;refine WZ (β:=Unit) (fun _=>⟨[(0,.agg (bR m)),(1,.int .i64 k),(2,.ptr r2 0),(4,.bool false),(5,.ptr r15 0),(10,.int .i64 kd)],(r2,.box 33 (bR m))::dO r15 p q m (.ro 1 (ls.map aP) .any) ⟨[],[],false⟩⟩) (fun _=>True) ?_ ?_
 ·refine aB rfl (fun g10=> ?_) (fun g10=> ?_)
  ·obtain⟨v,rs',rfl⟩:∃v rs',rs=v::rs':=by cases rs with|nil=>simp at g10|cons v rs'=>exact⟨v,rs',rfl⟩
   obtain rfl:kd=v:=by rw[hkd,if_pos g10];rfl
   have hv0:0<(kd::rs').length:=by simp
   refine fN ?_;refine mI ?_;refine dE ?_;exact⟨(),trivial,aL⟩
  obtain rfl:kd=0:=by rw[hkd,g10];rfl
  refine aJ ?_;exact⟨(),trivial,aL⟩
 rintro⟨⟩-;unfold bR dO mR
 (try dsimp only);refine eX ?_;refine cw (dO r15 p q m (.ro 1 (ls.map aP) .any) ⟨[],[],false⟩) Tryz.call76 (FV hN0 ⟨[],[],false⟩ (by simp) 2 kd) rfl aC cE ?_;rintro _ σ' ⟨q2,hE,rfl⟩ h85;unfold dO mR;(try dsimp only);obtain⟨e1,e2,e3⟩:=id hE;refine aJl (h85 _ (List.mem_cons_of_mem _ (List.mem_cons_of_mem _ List.mem_cons_self))) fun k85=> ?_;intros
 refine gX ?_;have hI:=LOk.init (m:=m) (ls:=ls) (kd:=kd) hok;generalize openP ⟨[],[],false⟩ 2 kd=s0 at hI⊢;refine mK ?_;refine pZ ?_;refine OV ?_;refine oH ?_;refine lp (β:=Nat×Nat×Nat×PS) (fun b=>⟨[(4,.bool false),(5,.ptr r15 0),(91,.ro 4 (c.bd.map (iv .any)) .any),(92,.int .i64 c.bd.length),(93,.int .i64 b.1)],dO r15 b.2.1 b.2.2.1 m (.ro 1 (ls.map aP) .any) b.2.2.2⟩) (fun b=>b.1≤c.bd.length∧Nm r15 b.2.1 b.2.2.1∧∃F,LOk m ls c.bd s0 b.1 b.2.2.2 F) (fun b=>c.bd.length-b.1) (0,p,q2,s0) (by unfold dO mR;(try dsimp only);(exact aL)) ⟨Nat.zero_le _,hE,[],hI⟩ ?_;rintro⟨j,e,f',S⟩ ⟨hj,hN1,F,hL⟩;dsimp only at hj hN1 hL⊢;obtain⟨m1,m2,m3⟩:=id hN1;have hG:=hL.ge (by omega);have hbv:=hL.vl;have hbc:S.cs.length≤41:=by have:=hL.fl;have:=hL.f40;omega
 unfold dO mR
 (try dsimp only);refine jR ?_;refine aB rfl (fun g14=> ?_) (fun g14=> ?_)
 ·obtain⟨x,hx⟩:∃x,c.bd[j]? =some x:=⟨_,List.getElem?_eq_getElem (by simp at g14;omega)⟩
  have hlt:j<c.bd.length:=(List.getElem?_eq_some_iff.1 hx).1;have hxk:=hb2 x (List.mem_of_getElem? hx);have hst:=hL.step hm.ts hx;refine dX ?_;refine qX ?_;refine jU fun r12 h12=> ?_;intros
  refine pD ?_;refine oS ?_;refine cw (dO r15 e f' m (.ro 1 (ls.map aP) .any) S) Tryz.call77 (YE hN1 hm.toCk S hG (by omega) (by omega) x hxk (fun h=>hL.two hx h)) rfl aC cE ?_;rintro _ σ' ⟨e1,f1,hE1,rfl,rfl⟩ h99;unfold dO mR;(try dsimp only);obtain⟨m4,m5,m6⟩:=id hE1;refine aJl (h99 _ (List.mem_cons_of_mem _ List.mem_cons_self)) fun k99=> ?_;intros
  refine aJl (h99 _ (List.mem_cons_of_mem _ (List.mem_cons_of_mem _ List.mem_cons_self))) fun l99=> ?_;intros
  apply aY;exact bN;refine qV ?_;refine aB rfl (fun g16=> ?_) (fun g16=> ?_)
  ·have hc0:(cJ m S x).1=false:=by simpa using g16
   rw[(yP hc0).1];rw[show gE m ls S x=dV m ls S x by unfold gE;dsimp only;rw[hc0,(yP hc0).1];rfl]at hst;refine zO ?_;refine cw (dO r15 e1 f1 m (.ro 1 (ls.map aP) .any) S) Tryz.call78 (aDB hE1 S hG x hxk) rfl aC cE ?_;rintro _ σ' ⟨e2,hE2,rfl⟩ h103;unfold dO mR;(try dsimp only);obtain⟨m7,m8,m9⟩:=id hE2;refine gX ?_;obtain⟨A,O,hAO,rfl,rfl⟩:∃A O,Nm r15 A O∧A=e2∧O=f1:=⟨_,_,hE2,rfl,rfl⟩
   generalize dV m ls S x=S' at hst⊢;refine iC ?_;refine kG ?_;refine lD ?_;refine aB rfl (fun g18=> ?_) (fun g18=> ?_)
   ·rw[if_pos (hst.2.2.1 g18)];refine bM ?_;exact aE aF ⟨by rfl,rfl⟩ aA
   obtain⟨F',hL'⟩:=hst.2.2.2 g18;refine mP ?_;refine⟨(j+1,A,O,S'),⟨hlt,hAO,F',hL'⟩,by show c.bd.length-(j+1)<c.bd.length-j;omega, ?_⟩
   (try dsimp only);exact aL
  have hc1:(cJ m S x).1=true:=by simpa using g16
  rw[show gE m ls S x=(cJ m S x).2 by unfold gE;dsimp only;rw[if_pos hc1]]at hst;obtain⟨A,O,hAO,rfl,rfl⟩:∃A O,Nm r15 A O∧A=e1∧O=f1:=⟨_,_,hE1,rfl,rfl⟩
  generalize(cJ m S x).2=S' at hst⊢;refine oK ?_;refine lD ?_;refine aB rfl (fun g18=> ?_) (fun g18=> ?_)
  ·rw[if_pos (hst.2.2.1 g18)];refine bM ?_;exact aE aF ⟨by rfl,rfl⟩ aA
  obtain⟨F',hL'⟩:=hst.2.2.2 g18;refine mP ?_;refine⟨(j+1,A,O,S'),⟨hlt,hAO,F',hL'⟩,by show c.bd.length-(j+1)<c.bd.length-j;omega, ?_⟩
  (try dsimp only);exact aL
 obtain rfl:j=c.bd.length:=by simp at g14;omega
 rw[show yT m ls c.bd s0=S by rw[hL.go,List.drop_length];rfl,if_neg (by simp[hL.nb])];refine dM ?_;refine cw (dO r15 e f' m (.ro 1 (ls.map aP) .any) S) Tryz.call79 (QO hN1 S hG) rfl aC cE ?_;rintro _ σ' ⟨rfl,rfl⟩ h110;refine mV ?_;refine oK ?_;refine lo (dF (E rfl)) rfl ?_;refine jL ?_;refine ZC ?_;refine qU ?_;refine OZ ?_;refine kL ?_;exact aE aF ⟨by rfl,rfl⟩ aA
def b1 (w:Int):Int:=IntKind.wrap .i64 ((BitVec.ofInt (IntKind.bits .i64) w&&&BitVec.ofInt (IntKind.bits .i64) 1).toNat:Int)
def b3 (w:Int):Int:=IntKind.wrap .i64 ((BitVec.ofInt (IntKind.bits .i64) w&&&BitVec.ofInt (IntKind.bits .i64) 3).toNat:Int)
theorem aJq(w:Int):b1 w=0∨b1 w=1:=by
 have h:(BitVec.ofInt (IntKind.bits .i64) w&&&BitVec.ofInt (IntKind.bits .i64) 1).toNat≤1:=by
  rw[BitVec.toNat_and];exact Nat.and_le_right
 unfold b1;rw[jH (by omega) (by omega)];omega
def KZ (ps:List Int):List Int:=(ps.take 5).map fun p=>1+b1 p
def uR (r:Int):List Int:=if(if decide (0<b3 r)=true then decide (b3 r<3)else false)=true then [b3 r]else []
def HZ:List Ins:=[⟨32,0,0,[]⟩]
def gW (pr rs:List Int) (co:List Co):Md:=⟨[⟨pr,rs⟩,⟨[],[]⟩,⟨[1],[1]⟩,⟨[2,1],[2]⟩],[⟨[119],[102],2⟩,⟨[119],[103],1⟩],[0,3],⟨true,4,-1⟩,⟨true,1,3⟩,[⟨true,1,0⟩,⟨false,2,5⟩],[⟨[109,97,105,110],2⟩],[⟨0,[0,2,3]⟩],co,[]⟩
def IA (pr rs:List Int) (q:Nat):List AV:=[.ro 2 ((gW pr rs []).ty.map dD) .any,.ro 3 ((gW pr rs []).im.map eM) .any,.ro 1 ([0,3].map aP) .any,.bool true,.int .i64 4,.int .i64 (-1),.bool true,.int .i64 1,.int .i64 3,
 .ro 3 ((gW pr rs []).gl.map dZ) .any,.ro 2 ((gW pr rs []).ex.map eA) .any,.ro 2 ((gW pr rs []).el.map dY) .any,.own q 0 2,.ro 2 ([].map eB) .any]
theorem aGc:VLe (.agg [.ro 0 [] .nil,.ro 0 [] .nil]) (.agg (dD ⟨[],[]⟩)):=by
 refine VLe.agg rfl fun j a a' ha ha'=> ?_
 match j with
 |0=>cases ha;cases ha';exact VLe.empty
 |1=>cases ha;cases ha';exact VLe.empty
 | _ +2=>cases ha
theorem aDF{ps:List Int}{j:Nat}{w:Int}(h:ps[j]? =some w):(ps.take j).map (fun p=>1+b1 p)++ [1+b1 w]=(ps.take (j+1)).map (fun p=>1+b1 p):=by
 rw[List.take_add_one,h];simp
theorem IB(ps:List Int)(r:Int):SCall Tryz.prog 25 [.ro 1 (ps.map aP) .any,.int .i64 r] [] (fun y σ=>∃q,y=.agg (IA (KZ ps) (uR r) q)∧σ=[(q,.arr 44 2 [[.ro 0 [] .nil,.ro 0 [] .nil],dA ⟨[],HZ⟩])]):=by
 refine cF 72 [0,1,4,5,6,15,36] Tryz.func25 ?_;refine dX ?_;refine jU fun r4 h4=> ?_;intros
 refine iF ?_;refine uE ?_;refine jU fun r5 h5=> ?_;intros
 refine lW ?_;refine cM (ks:=[0,1,4,5,6,15,36]) r5 0 3 1 (by decide) bA rfl (by decide) fun p0 hp0=> ?_
 simp only[aO,aT,and_true]at hp0;repeat rcases hp0 with⟨_,hp0⟩
 apply Exists.intro;apply And.intro;exact cA;refine sF ?_;refine lp (β:=Nat×Nat) (fun b=>⟨[(0,.ro 1 (ps.map aP) .any),(1,.int .i64 r),(4,.ptr r4 0),(5,.ptr r5 0),(6,.int .i64 b.1)],[(r5,.box 50 [.own b.2 0 ((ps.take b.1).map fun p=>1+b1 p).length,.ro 0 [] .nil]),(b.2,.arr 3 1 (((ps.take b.1).map fun p=>1+b1 p).map aP)),(r4,.box 33 [.ro 0 [] .nil,.ro 0 [] .nil,.ro 0 [] .nil,.bool false,.int .i64 0,.int .i64 0,.bool false,.int .i64 0,.int .i64 0,.ro 0 [] .nil,.ro 0 [] .nil,.ro 0 [] .nil,.ro 0 [] .nil,.ro 0 [] .nil])]⟩) (fun b=>b.1≤ps.length∧b.1≤5∧Nq b.2 r5∧Nq b.2 r4) (fun b=>5-b.1) (0,p0) aL ⟨Nat.zero_le _,Nat.zero_le _,by show Nq p0 r5;(exact bV),by show Nq p0 r4;(exact bV)⟩ ?_;rintro⟨j,p⟩ ⟨hj,hj5,n1,n2⟩;dsimp only at hj hj5 n1 n2⊢;have hpl:((ps.take j).map fun p=>1+b1 p).length=j:=by simp;omega
 refine eX ?_;refine kU ?_;refine vG ?_;refine DM ?_;refine vH ?_;refine aB rfl (fun g3=> ?_) (fun g3=> ?_)
 ·have hlt:j<ps.length∧j<5:=rU g3;obtain⟨w,hw⟩:∃w,ps[j]? =some w:=⟨_,List.getElem?_eq_getElem hlt.1⟩
  have hb:=aJq w;unfold b1 at hb;refine aJ ?_;refine fM [(0,true),(1,true),(2,true),(3,true),(4,true),(5,true),(6,true),(7,true),(8,false),(9,false),(10,true),(11,false)] ?_;refine fX ?_;refine zH ?_;refine WR ?_;refine fI rfl (iX (E rfl) (E rfl)) rfl ?_;refine aEw ?_;refine DQ fun r26 h26=> ?_;intros
  refine fB rfl (((ps.take j).map (fun p=>1+b1 p)++ [1+b1 w]).map aP) ((ps.take j).map (fun p=>1+b1 p)++ [1+b1 w]).length ?_;refine bH fun r27 h27=> ?_;intros
  refine mJ ?_;refine xA ?_;refine lY ?_;refine⟨(j+1,r27),⟨hlt.1,hlt.2,by show Nq r27 r5;(exact bV),by show Nq r27 r4;(exact bV)⟩,by show 5-(j+1)<5-j;omega, ?_⟩;dsimp only;rw[←aDF hw];exact aL
 rw[show(ps.take j).map (fun p=>1+b1 p)=KZ ps by
   unfold KZ;rcases Nat.lt_or_ge j 5 with h5j|h5j
   ·have:j=ps.length:=by
     rcases Nat.lt_or_ge j ps.length with h|h
     ·rw[decide_eq_true (by omega),if_pos rfl,decide_eq_true (by omega)]at g3;cases g3
     ·omega
    subst this;rw[List.take_length,List.take_of_length_le (by omega)]
   ·obtain rfl:j=5:=by omega
    rfl]
 refine dQ (gC (r:=r5) (q:=p) cA aU (.cons (aK bA (by simp)) (.cons (.refl _) .nil))) ?_;refine dM ?_;refine lo (iX (E rfl) (E rfl)) rfl ?_;refine aH5 ?_
 (first|refine ln rfl rfl rfl rfl ?_ |(refine gy rfl rfl ?_;refine lo (iX (by first|exact W rfl id|exact E rfl) (E rfl)) rfl ?_)|refine lg rfl rfl (iX (by first|exact W rfl id|exact E rfl) (E rfl)) rfl ?_);refine DM ?_;refine vH ?_;refine WZ (β:=Unit) (fun _=>⟨[(4,.ptr r4 0),(5,.ptr r5 0)],[(r5,.box 50 [.ro 1 ((KZ ps).map aP) .any,.ro 1 ((uR r).map aP) .any]),(r4,.box 33 [.ro 0 [] .nil,.ro 0 [] .nil,.ro 0 [] .nil,.bool false,.int .i64 0,.int .i64 0,.bool false,.int .i64 0,.int .i64 0,.ro 0 [] .nil,.ro 0 [] .nil,.ro 0 [] .nil,.ro 0 [] .nil,.ro 0 [] .nil])]⟩) (fun _=>True) ?_ ?_
 ·refine aB rfl (fun g6=> ?_) (fun g6=> ?_)
  ·rw[show uR r=[b3 r]from if_pos g6];refine dM ?_;refine lo (iX (E rfl) (E rfl)) rfl ?_;refine eN fun r39 h39=> ?_;intros
   refine wL ?_;refine gJ (j:=39) rfl aU (aK bA (by simp)) ?_;refine lW ?_;exact⟨(),trivial,aL⟩
  rw[show uR r=[] by unfold uR;exact if_neg (fun e=>by rw[show(if decide (0<b3 r)=true then decide (b3 r<3)else false)=false from g6]at e;cases e)];refine dQ (gR (r:=r5) (cs':=[.ro 1 ((KZ ps).map aP) .any,.ro 1 (([]:List Int).map aP) .any]) cA (.cons (.refl _) (.cons (.le VLe.empty) .nil))) ?_;refine aJ ?_;exact⟨(),trivial,aL⟩
 rintro⟨⟩-;refine qB ?_;refine jK ?_;refine iK (eF (j:=42) rfl aGc) ?_;refine eN fun r43 h43=> ?_;intros
 refine eN fun r44 h44=> ?_;intros
 refine gJ (j:=43) rfl aU (aK bA (by simp)) ?_;refine gJ (j:=44) rfl aU (aK bA (by simp)) ?_;refine jK ?_;refine eN fun r46 h46=> ?_;intros
 refine eN fun r47 h47=> ?_;intros
 refine gJ (j:=46) rfl aU (aK bA (by simp)) ?_;refine gJ (j:=47) rfl aU (aK bA (by simp)) ?_;refine jK ?_;refine eN fun r49 h49=> ?_;intros
 refine gJ (j:=49) rfl aU (aK bA (by simp)) ?_;refine jK ?_;refine jK ?_;refine eN fun r52 h52=> ?_;intros
 refine gJ (j:=52) rfl aU (aK bA (by simp)) ?_;refine eN fun r53 h53=> ?_;intros
 refine gJ (j:=53) rfl aU (aK bA (by simp)) ?_;refine jK ?_;refine jK ?_;refine jK ?_;refine jK ?_;refine jK ?_;refine jK ?_;refine eN fun r60 h60=> ?_;intros
 refine gJ (j:=60) rfl aU (aK bA (by simp)) ?_;refine jK ?_;refine eN fun r62 h62=> ?_;intros
 refine gJ (j:=62) rfl aU (aK bA (by simp)) ?_;refine eN fun r63 h63=> ?_;intros
 refine gJ (j:=63) rfl aU (aK bA (by simp)) ?_;refine jK ?_;refine eN fun r65 h65=> ?_;intros
 refine gJ (j:=65) rfl aU (aK bA (by simp)) ?_;refine jK ?_;refine jK ?_;refine eN fun r68 h68=> ?_;intros
 refine gJ (j:=68) rfl aU (aK bA (by simp)) ?_;refine iK (eF (j:=68) rfl (qK (l:=HZ) (by simp[HZ]))) ?_;refine jK ?_;refine iK (eF (j:=69) rfl aAo) ?_;refine eN fun r70 h70=> ?_;intros
 refine jK ?_;refine pX ?_;refine an ?_;refine dQ (gR (r:=r4) (cs':=IA (KZ ps) (uR r) r70) cA (.cons (.refl _) (.cons (.refl _) (.cons (.refl _) (.cons (.refl _) (.cons (.refl _) (.cons (.refl _) (.cons (.refl _) (.cons (.refl _) (.cons (.refl _) (.cons (.refl _) (.cons (.refl _) (.cons (.refl _) (.cons (.refl _) (.cons (.le VLe.empty) .nil))))))))))))))) ?_;refine aJ ?_;exact aE aF ⟨r70,by rfl,rfl⟩ aA
def aAv (q:Nat):List AV:=[.ro 2 (smallM.ty.map dD) .any,.ro 3 [] .any,.ro 1 (smallM.fn.map aP) .any,.bool false,.int .i64 0,.int .i64 0,.bool false,.int .i64 0,.int .i64 0,.ro 3 [] .any,.ro 2 (smallM.ex.map eA) .any,.ro 2 [] .any,.own q 0 1,.ro 2 [] .any]
theorem IC:SCall Tryz.prog 50 [] [] (fun y σ=>∃q,y=.agg (aAv q)∧σ=[(q,.arr 44 2 [[.ro 0 [] .nil,.ro 4 (smallIs.map (iv .any)) .any]])]):=by
 refine cF 15 [0] Tryz.func50 ?_;refine dX ?_;refine jU fun r0 h0=> ?_;intros
 refine iF ?_;refine dX ?_;refine eN fun r1 h1=> ?_;intros
 refine gJ (j:=1) rfl aU (aK bA (by simp)) ?_;refine eN fun r2 h2=> ?_;intros
 refine gJ (j:=2) rfl aU (aK bA (by simp)) ?_;refine jK ?_;refine eN fun r4 h4=> ?_;intros
 refine gJ (j:=4) rfl aU (aK bA (by simp)) ?_;refine eN fun r5 h5=> ?_;intros
 refine gJ (j:=5) rfl aU (aK bA (by simp)) ?_;refine jK ?_;refine eN fun r7 h7=> ?_;intros
 refine gJ (j:=7) rfl aU (aK bA (by simp)) ?_;refine jK ?_;refine jK ?_;refine jK ?_;refine eN fun r11 h11=> ?_;intros
 refine gJ (j:=11) rfl aU (aK bA (by simp)) ?_;refine iK (eF (j:=11) rfl (qK (l:=smallIs) (by simp[smallIs]))) ?_;refine jK ?_;refine eN fun r13 h13=> ?_;intros
 refine jK ?_;refine pX ?_;refine an ?_;refine dQ (gR (r:=r0) (cs':=aAv r13) cA (.cons (.refl _) (.cons (.le VLe.empty) (.cons (.refl _) (.cons (.refl _) (.cons (.refl _) (.cons (.refl _) (.cons (.refl _) (.cons (.refl _) (.cons (.refl _) (.cons (.le VLe.empty) (.cons (.refl _) (.cons (.le VLe.empty) (.cons (.refl _) (.cons (.le VLe.empty) .nil))))))))))))))) ?_;refine aJ ?_;exact aE aF ⟨r13,by rfl,rfl⟩ aA
theorem AS{x x' y:AV}(h:VLe x x')(hx:x'.cell=true)(hy:y.cell=true){es:List (List AV)}(hes:gZ 2 es):VLe (.ro 2 ([x,y]::es) .any) (.ro 2 ([x',y]::es) .any):=by
 refine VLe.ro (by simp) ?_ ?_
 ·intro e he;rcases List.mem_cons.1 he with rfl|he
  ·exact⟨rfl,fun a ha=>by
    simp only[List.mem_cons,List.not_mem_nil,or_false]at ha;rcases ha with rfl|rfl<;>assumption⟩
  ·exact hes e he
 ·intro i e e' h1 h2;cases i with
  |zero=>
   cases h1;cases h2
   refine⟨rfl,fun j a a' ha ha'=> ?_⟩
   match j with
   |0=>cases ha;cases ha';exact h
   |1=>cases ha;cases ha';exact VLe.refl _
   | _ +2=>cases ha
  |succ i=>
   obtain rfl:=Option.some.inj (h1.symm.trans h2);exact⟨rfl,fun j a a' ha ha'=>by obtain rfl:=Option.some.inj (ha.symm.trans ha');exact VLe.refl _⟩
theorem OC:gZ 2 []:=fun x hx=>by simp at hx
def YF:Md:= { smallM with co:=[⟨[],[⟨32,0,0,[]⟩,⟨32,1,0,[]⟩]⟩] }
def uIs:List Ins:=[⟨0,0,0,[]⟩,⟨106,0,0,[]⟩]
def YG:Md:= { smallM with co:=[⟨[],uIs⟩] }
def aDG (x:Ins):Bool:=decide (0≤x.a)&&decide (x.a≤9223372036854775807)&&x.l.all (fun n=>decide (0≤n))&&decide (x.l.length≤1000000)
theorem aLB{x:Ins}(h:aDG x=true):x.Ck:=by
 unfold aDG at h;simp only[Bool.and_eq_true,decide_eq_true_eq,List.all_eq_true]at h;exact⟨fun _=>h.1.1.1,fun _=>h.1.2,h.2,h.1.1.2⟩
def aLC (m:Md):Bool:=m.ty.all (fun t=>decide (t.pr.length≤100)&&decide (t.rs.length≤100))&&decide (m.im.length≤1000000)&&m.co.all (fun c=>decide (c.bd.length≤100000)&&c.bd.all aDG&&decide (c.ls.length≤1000))
theorem aAw{m:Md}(h:aLC m=true):m.Fn:=by
 unfold aLC at h;simp only[Bool.and_eq_true,decide_eq_true_eq,List.all_eq_true]at h;obtain⟨⟨h1,h2⟩,h3⟩:=h;exact⟨⟨fun t ht=>h1 t ht,h2⟩,fun c hc=>⟨(h3 c hc).1.1,fun x hx=>aLB ((h3 c hc).1.2 x hx)⟩,fun c hc=>(h3 c hc).2⟩
theorem aJr:HU smallM 0=true:=by decide+kernel
theorem aJs:HU smallM 1=false:=by decide+kernel
theorem aJt:HU YF 0=false:=by decide+kernel
theorem aJu:HU YG 0=true:=by decide+kernel
theorem YH:SCall Tryz.prog 73 [] [] (fun y σ=>y=.bool true∧σ=[]):=by
 refine cF 2 [0] Tryz.func73 ?_;refine bM ?_;refine jQ ?_;refine oL Tryz.call16 YD rfl aR bB ?_;refine dE ?_;exact aE aF ⟨by rfl,rfl⟩ aA
theorem tR:SCall Tryz.prog 22 [] [] (fun y σ=>y=.bool true∧σ=[]):=by
 have hs3:smallIs.length=3:=rfl;have w1:=kR smallM (aAw (by decide)) 0;have w2:=kR YF (aAw (by decide)) 0;have w3:=kR YG (aAw (by decide)) 0;have w4:=kR smallM (aAw (by decide)) 1;rw[aJr]at w1;rw[aJt]at w2;rw[aJu]at w3;rw[aJs]at w4;refine cF 43 [0,1,2,3] Tryz.func22 ?_;refine bM ?_;refine jQ ?_;refine MR [] Tryz.call50 NV ?_;refine jU fun r1 h1=> ?_;intros
 refine pX ?_;refine dX ?_;refine cw [] Tryz.call50 IC rfl aC aA ?_;rintro _ σ' ⟨q1,rfl,rfl⟩ h5
 replace h5:=gL h5;repeat rcases h5 with⟨_,h5⟩
 unfold aAv;apply aY;exact bN;refine jU fun r2 h2=> ?_;intros
 refine lW ?_;refine fM [(0,true),(1,true),(2,true),(3,true),(4,true),(5,true),(6,true),(7,true),(8,true),(9,true),(10,false)] ?_;refine fX ?_;refine fX ?_;refine MT ?_;refine aEC ?_;refine z25 ?_;refine MT ?_;refine aEz ?_;apply aHO;rfl;infer_instance;rfl;rfl;rfl;rfl;exact cA;exact atT;exact GK;rfl;exact fV;refine lF ?_;refine dQ (gC (r:=r2) (q:=q1) cA aU (.cons (.refl _) (.cons (.refl _) (.cons (.refl _) (.cons (.refl _) (.cons (.refl _) (.cons (.refl _) (.cons (.refl _) (.cons (.refl _) (.cons (.refl _) (.cons (.refl _) (.cons (.refl _) (.cons (.refl _) (.cons (aK bA (by simp)) (.cons (.refl _) .nil))))))))))))))) ?_;refine dQ (gR (r:=r2) (cs':=bR YF) cA (.cons (.refl _) (.cons (.refl _) (.cons (.refl _) (.cons (.refl _) (.cons (.refl _) (.cons (.refl _) (.cons (.refl _) (.cons (.refl _) (.cons (.refl _) (.cons (.refl _) (.cons (.refl _) (.cons (.refl _) (.cons (.le (AS VLe.empty rfl rfl OC)) (.cons (.refl _) .nil))))))))))))))) ?_;refine jQ ?_;refine cw [] Tryz.call50 IC rfl aC aA ?_;rintro _ σ' ⟨q2,rfl,rfl⟩ h16
 replace h16:=gL h16;repeat rcases h16 with⟨_,h16⟩
 unfold aAv;apply aY;exact bN;refine jU fun r3 h3=> ?_;intros
 refine pX ?_;refine fN ?_;refine jK ?_;refine jK ?_;refine eN fun r21 h21=> ?_;intros
 refine OU ?_;refine OX ?_;refine gJ (j:=21) rfl aU (aK bA (by simp)) ?_;refine iK (eF (j:=21) rfl (qK (l:=uIs) (by simp[uIs]))) ?_;refine OY ?_;refine lD ?_;refine dQ (gC (r:=r3) (q:=q2) cA aU (.cons (.refl _) (.cons (.refl _) (.cons (.refl _) (.cons (.refl _) (.cons (.refl _) (.cons (.refl _) (.cons (.refl _) (.cons (.refl _) (.cons (.refl _) (.cons (.refl _) (.cons (.refl _) (.cons (.refl _) (.cons (aK bA (by simp)) (.cons (.refl _) .nil))))))))))))))) ?_;refine dQ (gR (r:=r3) (cs':=bR YG) cA (.cons (.refl _) (.cons (.refl _) (.cons (.refl _) (.cons (.refl _) (.cons (.refl _) (.cons (.refl _) (.cons (.refl _) (.cons (.refl _) (.cons (.refl _) (.cons (.refl _) (.cons (.refl _) (.cons (.refl _) (.cons (.le (AS VLe.empty rfl rfl OC)) (.cons (.refl _) .nil))))))))))))))) ?_;refine jQ ?_;refine oL Tryz.call73 YH rfl aR bB ?_;refine zL ?_;refine lG rfl rfl Tryz.call23 (fun _=>w1) rfl aR bB ?_;refine rX ?_;refine zL ?_;refine lG rfl rfl Tryz.call23 (fun _=>w2) rfl aR bB ?_;refine vF ?_;refine rX ?_;refine zL ?_;refine lG rfl rfl Tryz.call23 (fun _=>w3) rfl aR bB ?_;refine rX ?_;refine zL ?_;refine lG rfl rfl Tryz.call23 (fun _=>w4) rfl aR bB ?_;refine aED ?_;exact aE aF ⟨by rfl,rfl⟩ aA
def QQ:Co:=⟨[],HZ⟩
end Go.Proofs.YtjpdadobblffmaaGreat
namespace Go.Proofs.YtjpdadobblffmaaGreat
open Go.RowKit Go.ChangeShapes Go.WideShapes Go.ChangeAt Go.Deep
structure RT where
 a:Nat
 lb:List (List Int)
 bad:Bool
 l:List Int
 dd:Bool
def eG (t:RT):RT:=⟨t.a,t.lb,true,t.l,t.dd⟩
def QR (x k:Int):Bool:=if(if(x !=k)=true then(x !=0)else false)=true then(k !=0)else false
def jE (t:RT) (k:Int):Int×RT:=
 if((t.l.length:Int)==0)=true then(k,if(!t.dd)=true then eG t else t)
 else(if(t.l.getLast?.getD 0==0)=true then k else t.l.getLast?.getD 0,⟨t.a,t.lb,if QR (t.l.getLast?.getD 0) k=true then true else t.bad,t.l.dropLast,t.dd⟩)
def aS (t:RT) (ks:List Int):RT:=ks.reverse.foldl (fun t k=>(jE t k).2) t
def gS (t:RT) (ks:List Int):RT:=⟨t.a,t.lb,t.bad,t.l++ks,t.dd⟩
def qO (t:RT):RT:=⟨t.a,t.lb,t.bad,[],true⟩
def cX (t:RT) (n:Int):List Int×RT:=
 if(if decide (n<0)=true then true else decide ((t.lb.length:Int)-1-n<0))=true then([],eG t)else(t.lb.getD ((t.lb.length:Int)-1-n).toNat [],t)
def eP (bd:List Ins) (t:RT) (op:Int):Bool×RT:=
 if(if decide ((t.a:Int)<bd.length)=true then((bd.getD t.a ⟨0,0,0,[]⟩).op==op)else false)=true then(true,⟨t.a+1,t.lb,t.bad,t.l,t.dd⟩)else(false,t)
def qP (t:RT) (res:List Int) (l:List Int) (dd:Bool):RT:=
 let t1:=aS t res
 ⟨t1.a,t1.lb.dropLast,if decide ((0:Int)<t1.l.length)=true then true else t1.bad,l,dd⟩
def dR (lp:RT→RT) (res br:List Int) (t:RT):RT:=qP (lp ⟨t.a,t.lb++ [br],t.bad,[],false⟩) res t.l t.dd
def sU (lp:RT→RT) (bd:List Ins) (x:Ins) (t:RT):RT:=
 let r:=aX x.a
 let t1:=if(x.op==4)=true then aS t [1]else t
 let t2:=if(x.op==3)=true then dR lp r [] t1 else dR lp r r t1
 let t3:=if(x.op==4)=true then(let p:=eP bd t2 5;if p.1=true then dR lp r r p.2 else if decide ((0:Int)<r.length)=true then eG p.2 else p.2)else t2
 let p:=eP bd t3 11
 gS (if(!p.1)=true then eG p.2 else p.2) r
def oQ (w:List Int) (t:RT) (n:Int):RT:=let r:=cX t n;if(!(decide (w=r.1)))=true then eG r.2 else r.2
def fS (res:List Int) (x:Ins) (t:RT):RT:=
 if(x.op==12)=true then let r:=cX t x.a;qO (aS r.2 r.1)
 else if(x.op==13)=true then let r:=cX (aS t [1]) x.a;gS (aS r.2 r.1) r.1
 else if(x.op==14)=true then let r:=cX (aS t [1]) x.a;qO (aS (x.l.foldl (oQ r.1) r.2) r.1)
 else if(x.op==15)=true then qO (aS t res)
 else qO t
def iO (m:Md) (f:Int):FT×Bool:=
 let k:=if(if decide (0≤f)=true then decide (f<m.im.length)else false)=true then(m.im.getD f.toNat ⟨[],[],0⟩).ty
  else if(if decide (0≤f)=true then decide (f-m.im.length<m.fn.length)else false)=true then m.fn.getD (f-m.im.length).toNat 0 else-1
 if(if decide (k<0)=true then true else decide ((m.ty.length:Int)≤k))=true then(sR,false)else(m.ty.getD k.toNat sR,true)
def qQ (m:Md) (x:Ins) (t:RT):RT:=
 if(x.op==16)=true then let y:=iO m x.a;if(!y.2)=true then eG t else gS (aS t y.1.pr) y.1.rs
 else if(if(!m.tb.has)=true then true else decide ((m.ty.length:Int)≤x.a))=true then eG t
 else gS (aS (aS t [1]) (m.ty.getD x.a.toNat sR).pr) (m.ty.getD x.a.toNat sR).rs
def tT (x:Ins) (c k:Int) (t:RT):RT:=
 let t:=if decide (c<x.a)=true then eG t else t
 if decide (54≤x.op)=true then aS t [1,k]else gS (aS t [1]) [k]
def AT (x:Ins) (t:RT):RT:=
 if(x.op==40||x.op==54)=true then tT x 2 1 t
 else if(x.op==41||x.op==55)=true then tT x 3 2 t
 else if(x.op==63)=true then gS t [1]
 else if(x.op==64)=true then gS (aS t [1]) [1]
 else tT x 0 1 t
def DV (m:Md) (x:Ins) (t:RT):RT:=AT x (if(!m.me.has)=true then eG t else t)
def gF (m:Md) (ls:List Int) (x:Ins) (t:RT):RT:=
 if(x.op==65)=true then gS t [1]
 else if(x.op==66)=true then gS t [2]
 else if(x.op==32||(x.op==33||x.op==34))=true then
  if decide ((ls.length:Int)≤x.a)=true then eG t
  else
   let k:=ls.getD x.a.toNat 0
   let t:=if(x.op !=32)=true then aS t [k]else t
   if(x.op !=33)=true then gS t [k]else t
 else if(x.op==35||x.op==36)=true then
  if(if decide ((m.gl.length:Int)≤x.a)=true then true else if(x.op==36)=true then !(m.gl.getD x.a.toNat NX).mu else false)=true then eG t
  else if(x.op==35)=true then gS t [(m.gl.getD x.a.toNat NX).kd]else aS t [(m.gl.getD x.a.toNat NX).kd]
 else DV m x t
def aLD (t:RT) (k:Int) (n:Nat):RT:=aS t (List.replicate n k)
def SS (op:Int):Bool:=op==12||(op==13||(op==14||(op==15||op==0)))
def gM (m:Md) (ls res:List Int) (x:Ins) (t:RT):RT:=
 if SS x.op=true then fS res x t
 else if(x.op==16||x.op==17)=true then qQ m x t
 else if(x.op==26)=true then(jE t 0).2
 else if(x.op==27)=true then let r:=jE (aS t [1]) 0;let r2:=jE r.2 r.1;gS r2.2 [r2.1]
 else if(x.op==1)=true then t
 else if(oT x.op).2.2.2=true then gS (aLD t (oT x.op).2.1 (oT x.op).1.toNat) [(oT x.op).2.2.1]
 else gF m ls x t
def fD (m:Md) (ls res:List Int) (bd:List Ins) (lp:RT→RT) (x:Ins) (t:RT):RT:=
 if qD x.op=true then sU lp bd x ⟨t.a+1,t.lb,t.bad,t.l,t.dd⟩else gM m ls res x ⟨t.a+1,t.lb,t.bad,t.l,t.dd⟩
def mO (m:Md) (ls res:List Int) (bd:List Ins):Nat→RT→RT
 |0,t=>t
 |f+1,t=>
  if(if decide ((t.a:Int)<bd.length)=true then !t.bad else false)=true then
   let x:=bd.getD t.a ⟨0,0,0,[]⟩
   if(if(x.op==11)=true then true else(x.op==5))=true then t
   else mO m ls res bd f (fD m ls res bd (mO m ls res bd f) x t)
  else t
theorem aAx(t:RT)(k:Int):(jE t k).2.a=t.a:=by
 unfold jE;refine aI (p:=fun r:Int×RT=>r.2.a=t.a) (fun _=> ?_) (fun _=>rfl);exact aI (p:=fun r:RT=>r.a=t.a) (fun _=>rfl) (fun _=>rfl)
theorem aDH(t:RT)(k:Int):(jE t k).2.lb=t.lb:=by
 unfold jE;refine aI (p:=fun r:Int×RT=>r.2.lb=t.lb) (fun _=> ?_) (fun _=>rfl);exact aI (p:=fun r:RT=>r.lb=t.lb) (fun _=>rfl) (fun _=>rfl)
theorem FX(t:RT)(k:Int)(h:t.bad=true):(jE t k).2.bad=true:=by
 unfold jE;refine aI (p:=fun r:Int×RT=>r.2.bad=true) (fun _=> ?_) (fun _=> ?_)
 ·exact aI (p:=fun r:RT=>r.bad=true) (fun _=>rfl) (fun _=>h)
 ·dsimp only;rw[h];simp
theorem AU{p:RT→Prop}(h:∀s w,p s→p (jE s w).2):∀(ks:List Int) (s:RT),p s→p (aS s ks):=by
 have:∀(l:List Int) (s:RT),p s→p (l.foldl (fun s k=>(jE s k).2) s):=by
  intro l
  induction l with
  |nil=>intro s hs;exact hs
  |cons a l ih=>intro s hs;exact ih _ (h s a hs)
 intro ks s hs;exact this _ s hs
theorem yQ(t:RT)(ks:List Int):(aS t ks).a=t.a:=AU (p:=fun q=>q.a=t.a) (fun q w h=>(aAx q w).trans h) ks t rfl
theorem rH(t:RT)(ks:List Int):(aS t ks).lb=t.lb:=AU (p:=fun q=>q.lb=t.lb) (fun q w h=>(aDH q w).trans h) ks t rfl
theorem ID(t:RT)(ks:List Int)(h:t.bad=true):(aS t ks).bad=true:=AU (p:=fun q=>q.bad=true) (fun q w h=>FX q w h) ks t h
theorem QS(t:RT)(n:Int):(cX t n).2.a=t.a:=by
 unfold cX;exact aI (p:=fun r:List Int×RT=>r.2.a=t.a) (fun _=>rfl) (fun _=>rfl)
theorem sV(t:RT)(n:Int)(h:t.bad=true):(cX t n).2.bad=true:=by
 unfold cX;exact aI (p:=fun r:List Int×RT=>r.2.bad=true) (fun _=>rfl) (fun _=>h)
def Adv (t:RT) (n:Nat) (q:RT):Prop:=t.a+n≤q.a∧(t.bad=true→q.bad=true)
theorem Adv.refl (t:RT):Adv t 0 t:=⟨Nat.le_refl _,id⟩
theorem Adv.trans {t q r:RT}{n k:Nat}(h:Adv t n q)(h':Adv q k r):Adv t (n+k) r:=⟨by have:=h.1;have:=h'.1;omega,fun e=>h'.2 (h.2 e)⟩
theorem Adv.le {t q:RT}{n k:Nat}(h:Adv t n q)(hk:k≤n):Adv t k q:=⟨by have:=h.1;omega,h.2⟩
theorem Adv.take {t q:RT}{n:Nat}(h:Adv t n q)(ks:List Int):Adv t n (aS q ks):=⟨by rw[yQ];exact h.1,fun e=>ID _ _ (h.2 e)⟩
theorem Adv.one {t q:RT}{n:Nat}(h:Adv t n q)(k:Int):Adv t n (jE q k).2:=⟨by rw[aAx];exact h.1,fun e=>FX _ _ (h.2 e)⟩
theorem Adv.put {t q:RT}{n:Nat}(h:Adv t n q)(ks:List Int):Adv t n (gS q ks):=h
theorem Adv.ends {t q:RT}{n:Nat}(h:Adv t n q):Adv t n (qO q):=h
theorem Adv.bad {t q:RT}{n:Nat}(h:Adv t n q):Adv t n (eG q):=⟨h.1,fun _=>rfl⟩
theorem Adv.label {t q:RT}{n:Nat}(h:Adv t n q)(x:Int):Adv t n (cX q x).2:=⟨by rw[QS];exact h.1,fun e=>sV _ _ (h.2 e)⟩
theorem Adv.tabs {t q:RT}{n:Nat}(h:Adv t n q)(w l:List Int):Adv t n (l.foldl (oQ w) q):=by
 induction l generalizing q with
 |nil=>exact h
 |cons a l ih=>exact ih (aI (p:=Adv t n) (fun _=>(h.label a).bad) (fun _=>h.label a))
theorem YI(res:List Int)(x:Ins)(t:RT):Adv t 0 (fS res x t):=by
 have h:=Adv.refl t;unfold fS;refine aI (fun _=>((h.label _).take _).ends) (fun _=> ?_);refine aI (fun _=>(((h.take _).label _).take _).put _) (fun _=> ?_);refine aI (fun _=>((((h.take _).label _).tabs _ _).take _).ends) (fun _=> ?_);exact aI (fun _=>(h.take _).ends) (fun _=>h.ends)
theorem aDI(m:Md)(x:Ins)(t:RT):Adv t 0 (qQ m x t):=by
 have h:=Adv.refl t;unfold qQ;refine aI (fun _=>aI (p:=Adv t 0) (fun _=>h.bad) (fun _=>(h.take _).put _)) (fun _=> ?_);exact aI (fun _=>h.bad) (fun _=>((h.take _).take _).put _)
theorem QT{t q:RT}(h:Adv t 0 q)(x:Ins)(c k:Int):Adv t 0 (tT x c k q):=by
 have ha:Adv t 0 (if decide (c<x.a)=true then eG q else q):=aI (fun _=>h.bad) (fun _=>h);exact aI (fun _=>ha.take _) (fun _=>(ha.take _).put _)
theorem aGd(m:Md)(x:Ins)(t:RT):Adv t 0 (DV m x t):=by
 have h:Adv t 0 (if(!m.me.has)=true then eG t else t):=aI (fun _=>(Adv.refl t).bad) (fun _=>Adv.refl t);unfold DV;generalize(if(!m.me.has)=true then eG t else t)=q at h;unfold AT;refine aI (fun _=>QT h x _ _) (fun _=> ?_);refine aI (fun _=>QT h x _ _) (fun _=> ?_);refine aI (fun _=>h.put _) (fun _=> ?_);exact aI (fun _=>(h.take _).put _) (fun _=>QT h x _ _)
theorem YJ(m:Md)(ls:List Int)(x:Ins)(t:RT):Adv t 0 (gF m ls x t):=by
 have h:=Adv.refl t;unfold gF;refine aI (fun _=>h.put _) (fun _=> ?_);refine aI (fun _=>h.put _) (fun _=> ?_);refine aI (fun _=>aI (fun _=>h.bad) (fun _=> ?_)) (fun _=> ?_)
 ·have hq:Adv t 0 (if(x.op !=32)=true then aS t [ls.getD x.a.toNat 0]else t):=aI (fun _=>h.take _) (fun _=>h);exact aI (fun _=>hq.put _) (fun _=>hq)
 refine aI (fun _=>aI (fun _=>h.bad) (fun _=>aI (fun _=>h.put _) (fun _=>h.take _))) (fun _=>aGd m x t)
theorem aDJ(m:Md)(ls res:List Int)(x:Ins)(t:RT):Adv t 0 (gM m ls res x t):=by
 have h:=Adv.refl t;unfold gM;refine aI (fun _=>YI _ _ _) (fun _=> ?_);refine aI (fun _=>aDI _ _ _) (fun _=> ?_);refine aI (fun _=>h.one 0) (fun _=> ?_);refine aI (fun _=>(((h.take _).one _).one _).put _) (fun _=> ?_);refine aI (fun _=>h) (fun _=> ?_);exact aI (fun _=>(h.take _).put _) (fun _=>YJ _ _ _ _)
theorem sW(bd:List Ins)(t:RT)(op:Int):Adv t 0 (eP bd t op).2:=by
 unfold eP;exact aI (p:=fun r:Bool×RT=>Adv t 0 r.2) (fun _=>⟨Nat.le_succ _,id⟩) (fun _=>Adv.refl t)
theorem lB{lp:RT→RT}(hl:∀q,Adv q 0 (lp q))(res br:List Int)(t:RT):Adv t 0 (dR lp res br t):=by
 have h:=(hl ⟨t.a,t.lb++ [br],t.bad,[],false⟩).take res;refine⟨h.1,fun e=> ?_⟩;show(if _ then true else _)=true;rw[h.2 e];simp
theorem aDK{lp:RT→RT}(hl:∀q,Adv q 0 (lp q))(bd:List Ins)(x:Ins)(t:RT):Adv t 0 (sU lp bd x t):=by
 unfold sU;dsimp only;have h1:Adv t 0 (if(x.op==4)=true then aS t [1]else t):=aI (fun _=>(Adv.refl t).take _) (fun _=>Adv.refl t);generalize(if(x.op==4)=true then aS t [1]else t)=t1 at h1;have h2:Adv t 0 (if(x.op==3)=true then dR lp (aX x.a) [] t1 else dR lp (aX x.a) (aX x.a) t1):=aI (fun _=>h1.trans (lB hl _ _ _)) (fun _=>h1.trans (lB hl _ _ _));generalize(if(x.op==3)=true then dR lp (aX x.a) [] t1 else dR lp (aX x.a) (aX x.a) t1)=t2 at h2;have hp:=h2.trans (sW bd t2 5);have h3:Adv t 0 (if(x.op==4)=true then(if(eP bd t2 5).1=true then dR lp (aX x.a) (aX x.a) (eP bd t2 5).2 else if decide ((0:Int)<(aX x.a).length)=true then eG (eP bd t2 5).2 else(eP bd t2 5).2)else t2):=
  aI (fun _=>aI (fun _=>hp.trans (lB hl _ _ _)) (fun _=>aI (fun _=>hp.bad) (fun _=>hp))) (fun _=>h2)
 generalize(if(x.op==4)=true then(if(eP bd t2 5).1=true then dR lp (aX x.a) (aX x.a) (eP bd t2 5).2 else if decide ((0:Int)<(aX x.a).length)=true then eG (eP bd t2 5).2 else(eP bd t2 5).2)else t2)=t3 at h3;have hq:=h3.trans (sW bd t3 11);exact Adv.put (aI (fun _=>hq.bad) (fun _=>hq)) _
theorem wT(m:Md)(ls res:List Int)(bd:List Ins){lp:RT→RT}(hl:∀q,Adv q 0 (lp q))(x:Ins)(t:RT):Adv t 1 (fD m ls res bd lp x t):=by
 unfold fD;refine aI (fun _=> ?_) (fun _=> ?_)
 ·have h:=aDK hl bd x ⟨t.a+1,t.lb,t.bad,t.l,t.dd⟩;exact⟨h.1,h.2⟩
 ·have h:=aDJ m ls res x ⟨t.a+1,t.lb,t.bad,t.l,t.dd⟩;exact⟨h.1,h.2⟩
theorem wI(m:Md)(ls res:List Int)(bd:List Ins):∀(f:Nat) (t:RT),Adv t 0 (mO m ls res bd f t)
 |0,t=>Adv.refl t
 |f+1,t=>by
  rw[mO];refine aI (fun _=> ?_) (fun _=>Adv.refl t);exact aI (p:=Adv t 0) (fun _=>Adv.refl t) (fun _=>((wT m ls res bd (wI m ls res bd f) _ t).trans (wI m ls res bd f _)).le (Nat.zero_le _))
theorem YK{l1 l2:RT→RT}{res br:List Int}{t:RT}(h:∀q,t.a≤q.a→l1 q=l2 q):dR l1 res br t=dR l2 res br t:=by
 unfold dR;rw[h ⟨t.a,t.lb++ [br],t.bad,[],false⟩ (Nat.le_refl _)]
theorem aBr{l1 l2:RT→RT}(hl:∀q,Adv q 0 (l2 q)){bd:List Ins}{x:Ins}{t:RT}(h:∀q,t.a≤q.a→l1 q=l2 q):sU l1 bd x t=sU l2 bd x t:=by
 have h1:Adv t 0 (if(x.op==4)=true then aS t [1]else t):=aI (fun _=>(Adv.refl t).take _) (fun _=>Adv.refl t);have hb:∀ {res br:List Int} {q:RT},Adv t 0 q→dR l1 res br q=dR l2 res br q:=fun hq=>YK fun q' hq'=>h q' (Nat.le_trans hq.1 hq')
 unfold sU;dsimp only;generalize(if(x.op==4)=true then aS t [1]else t)=t1 at h1;rw[hb h1,hb h1];have h2:Adv t 0 (if(x.op==3)=true then dR l2 (aX x.a) [] t1 else dR l2 (aX x.a) (aX x.a) t1):=aI (fun _=>h1.trans (lB hl _ _ _)) (fun _=>h1.trans (lB hl _ _ _));generalize(if(x.op==3)=true then dR l2 (aX x.a) [] t1 else dR l2 (aX x.a) (aX x.a) t1)=t2 at h2;rw[hb (h2.trans (sW bd t2 5))]
theorem IE{m:Md}{ls res:List Int}{l1 l2:RT→RT}(hl:∀q,Adv q 0 (l2 q)){bd:List Ins}{x:Ins}{t:RT}(h:∀q,t.a+1≤q.a→l1 q=l2 q):fD m ls res bd l1 x t=fD m ls res bd l2 x t:=by
 unfold fD;rw[aBr hl h]
theorem wU(m:Md)(ls res:List Int)(bd:List Ins):∀(f g:Nat) (t:RT),bd.length+1≤f+t.a→bd.length+1≤g+t.a→mO m ls res bd f t=mO m ls res bd g t
 |0,0,_,_,_=>rfl
 |0,g+1,t,h,_=>by
  rw[mO,mO,if_neg];rw[decide_eq_false (by omega),if_neg (by simp)];simp
 |f+1,0,t,_,h=>by
  rw[mO,mO,if_neg];rw[decide_eq_false (by omega),if_neg (by simp)];simp
 |f+1,g+1,t,h,h'=>by
  rw[mO,mO];dsimp only;have e:∀x,fD m ls res bd (mO m ls res bd f) x t=fD m ls res bd (mO m ls res bd g) x t:=fun x=>IE (wI m ls res bd g) fun q hq=>wU m ls res bd f g q (by omega) (by omega)
  rw[e];have h2:=(wT m ls res bd (wI m ls res bd g) (bd.getD t.a ⟨0,0,0,[]⟩) t).1;rw[wU m ls res bd f g _ (by omega) (by omega)]
def LR (m:Md) (ls res:List Int) (bd:List Ins) (t:RT):RT:=mO m ls res bd (bd.length+1) t
theorem IF(m:Md)(ls res:List Int)(bd:List Ins)(t:RT):Adv t 0 (LR m ls res bd t):=wI m ls res bd _ t
theorem VU(m:Md)(ls res:List Int)(bd:List Ins)(t:RT):LR m ls res bd t=
  if(if decide ((t.a:Int)<bd.length)=true then !t.bad else false)=true then
   (if(if((bd.getD t.a ⟨0,0,0,[]⟩).op==11)=true then true else((bd.getD t.a ⟨0,0,0,[]⟩).op==5))=true then t
   else LR m ls res bd (fD m ls res bd (LR m ls res bd) (bd.getD t.a ⟨0,0,0,[]⟩) t))
  else t:=by
 have e:∀x,fD m ls res bd (mO m ls res bd bd.length) x t=fD m ls res bd (LR m ls res bd) x t:=fun x=>IE (IF m ls res bd) fun q hq=>wU m ls res bd _ _ q (by omega) (by omega)
 conv=>lhs;rw[LR,mO]
 dsimp only;rw[e];have h2:=(wT m ls res bd (IF m ls res bd) (bd.getD t.a ⟨0,0,0,[]⟩) t).1;rw[wU m ls res bd bd.length (bd.length+1) _ (by omega) (by omega)];rfl
def VV (m:Md) (k:Int):Bool:=
 if(if(if(if(if decide (k<0)=true then true else decide ((m.co.length:Int)≤k))=true then true else decide ((m.fn.length:Int)≤k))=true then true else decide (m.fn.getD k.toNat 0<0))=true then true else decide ((m.ty.length:Int)≤m.fn.getD k.toNat 0))=true then false
 else
  let t:=m.ty.getD (m.fn.getD k.toNat 0).toNat sR
  let c:=m.co.getD k.toNat ⟨[],[]⟩
  let ls:=t.pr++c.ls
  if decide ((32:Int)<ls.length)=true then false
  else
   let r:=dR (LR m ls t.rs c.bd) t.rs t.rs ⟨0,[],false,[],false⟩
   if(!r.bad)=true then((r.a:Int)==c.bd.length)else false
def lbC (c:Ct):List Int:=if(c.op==3)=true then []else aX c.kd
structure Cor (o:List Ct) (op kd:Int) (base:List Int) (t:RT) (s:PS):Prop where
 vs:s.vs=base++t.l
 cs:s.cs=o++ [⟨op,kd,base.length,t.dd⟩]
 lb:t.lb=s.cs.map lbC
def pQ (o:List Ct) (op kd:Int) (base:List Int) (t:RT) (s:PS):Prop:=(t.bad=true∧s.bad=true)∨(t.bad=false∧s.bad=false∧Cor o op kd base t s)
section
variable {o : List Ct} {op kd : Int} {base : List Int} {t : RT} {s : PS}
theorem Cor.top (h:Cor o op kd base t s):s.top=⟨op,kd,base.length,t.dd⟩:=by unfold PS.top;rw[h.cs];simp
theorem nW(s:PS)(b:Bool)(h:s.bad=true):(dB s b).bad=true:=by unfold dB;rw[h];rfl
theorem AW(s:PS)(w:Int)(h:s.bad=true):(cP s w).2.bad=true:=by
 unfold cP;refine aI (p:=fun r:Int×PS=>r.2.bad=true) (fun _=>nW _ _ h) (fun _=> ?_);exact aI (p:=fun r:Int×PS=>r.2.bad=true) (fun _=>h) (fun _=>nW _ _ h)
theorem wJ(s:PS)(ks:List Int)(h:s.bad=true):(dP s ks).bad=true:=AL (p:=fun q=>q.bad=true) (fun q w h=>AW q w h) ks s h
theorem YL(s:PS)(n:Int)(h:s.bad=true):(cQ s n).2.bad=true:=by
 unfold cQ;exact aI (p:=fun r:List Int×PS=>r.2.bad=true) (fun _=>rfl) (fun _=>h)
theorem FY(h:pQ o op kd base t s){k k':Int}(hk:t.bad=false→k=k'):pQ o op kd base (jE t k).2 (cP s k').2∧((jE t k).2.bad=false→(jE t k).1=(cP s k').1):=by
 rcases h with⟨h1,h2⟩|⟨h1,h2,h3⟩
 ·exact⟨.inl ⟨FX t k h1,AW s k' h2⟩,fun e=>by rw[FX t k h1]at e;cases e⟩
 obtain rfl:=hk h1;have ht:=h3.top;obtain⟨ta,tl,tb,l,dd⟩:=t;obtain⟨vs,cs,sb⟩:=s;obtain⟨e1,e2,e3⟩:=h3;dsimp only at e1 e2 e3 h1 h2;subst h1 h2 e1;unfold jE cP;rw[ht];rcases List.eq_nil_or_concat l with rfl|⟨l',x,rfl⟩
 ·dsimp only;have c1:(((base++ []).length:Int)==(base.length:Int))=true:=by simp
  rw[if_pos (show((([]:List Int).length:Int)==0)=true from rfl),if_pos c1];cases dd with
  |true=>exact⟨.inr ⟨rfl,rfl,⟨rfl,e2,e3⟩⟩,fun _=>rfl⟩
  |false=>exact⟨.inl ⟨rfl,rfl⟩,fun e=>by cases e⟩
 ·rw[List.concat_eq_append];have c2:¬(((l'++ [x]).length:Int)==0)=true:=by simp only[List.length_append,List.length_cons,List.length_nil,beq_iff_eq];omega
  have c3:¬(((base++(l'++ [x])).length:Int)==(base.length:Int))=true:=by simp only[List.length_append,List.length_cons,List.length_nil,beq_iff_eq];omega
  dsimp only;rw[if_neg c2,if_neg c3];have g1:(l'++ [x]).getLast?.getD 0=x:=by simp
  have g2:(base++(l'++ [x])).getLast?.getD 0=x:=by rw[←List.append_assoc];simp
  have g3:(base++(l'++ [x])).dropLast=base++l':=by rw[←List.append_assoc];simp
  have g4:(l'++ [x]).dropLast=l':=by simp
  rw[g1,g2,g3,g4];by_cases hx:x=0
  ·subst hx;rw[show QR 0 k=false by simp[QR]];simp only[beq_self_eq_true,if_true,Bool.false_eq_true,if_false];exact⟨.inr ⟨rfl,rfl,⟨rfl,e2,e3⟩⟩,fun _=>trivial⟩
  ·rw[show(x==0)=false by simpa using hx];simp only[Bool.false_eq_true,if_false];unfold dB QR;by_cases hk0:k=0
   ·subst hk0;exact⟨.inr ⟨by simp,by simp,⟨rfl,e2,e3⟩⟩,fun _=>trivial⟩
   ·by_cases hxk:x=k
    ·subst hxk;exact⟨.inr ⟨by simp,by simp,⟨rfl,e2,e3⟩⟩,fun _=>trivial⟩
    ·exact⟨.inl ⟨by simp[hxk,hx,hk0],by simp[hxk,hk0]⟩,fun _=>trivial⟩
theorem fK(h:pQ o op kd base t s){ks ks':List Int}(hk:t.bad=false→ks=ks'):pQ o op kd base (aS t ks) (dP s ks'):=by
 rcases Bool.eq_false_or_eq_true t.bad with hb|hb
 ·rcases h with⟨h1,h2⟩|⟨h1,h2,h3⟩
  ·exact .inl ⟨ID t ks h1,wJ s ks' h2⟩
  ·rw[hb]at h1;cases h1
 obtain rfl:=hk hb;unfold aS dP;generalize ks.reverse=l;clear hk hb
 induction l generalizing t s with
 |nil=>exact h
 |cons a l ih=>exact ih (FY h (fun _=>rfl)).1
theorem jO(h:pQ o op kd base t s){ks ks':List Int}(hk:t.bad=false→ks=ks'):pQ o op kd base (gS t ks) (fO s ks'):=by
 rcases h with⟨h1,h2⟩|⟨h1,h2,h3⟩
 ·exact .inl ⟨h1,h2⟩
 ·obtain rfl:=hk h1;exact .inr ⟨h1,h2,⟨by show s.vs++ks=base++(t.l++ks);rw[h3.vs,List.append_assoc],h3.cs,h3.lb⟩⟩
theorem AX(h:pQ o op kd base t s):pQ o op kd base (qO t) (oO s):=by
 rcases h with⟨h1,h2⟩|⟨h1,h2,h3⟩
 ·exact .inl ⟨h1,h2⟩
 ·have ht:=h3.top;refine .inr ⟨h1,h2,⟨?_, ?_, ?_⟩⟩
  ·show s.vs.take s.top.ht=base++ [];rw[ht,h3.vs];simp
  ·show s.cs.dropLast++ [⟨s.top.op,s.top.kd,s.top.ht,true⟩]=_;rw[ht,h3.cs];simp[qO]
  ·show t.lb=(s.cs.dropLast++ [(⟨s.top.op,s.top.kd,s.top.ht,true⟩:Ct)]).map lbC;rw[ht,h3.lb,h3.cs];simp[lbC]
theorem qR(h:pQ o op kd base t s){b b':Bool}(hb:t.bad=false→b=b'):pQ o op kd base (if b=true then t else eG t) (dB s b'):=by
 rcases h with⟨h1,h2⟩|⟨h1,h2,h3⟩
 ·refine .inl ⟨?_,nW s b' h2⟩;exact aI (p:=fun r:RT=>r.bad=true) (fun _=>h1) (fun _=>rfl)
 ·obtain rfl:=hb h1;cases b with
  |true=>rw[if_pos rfl];exact Or.inr ⟨h1,by simp[dB,h2],⟨h3.vs,h3.cs,h3.lb⟩⟩
  |false=>rw[if_neg (by simp)];exact .inl ⟨rfl,by simp[dB]⟩
theorem aGf(t:RT)(s:PS):pQ o op kd base (eG t) ⟨s.vs,s.cs,true⟩:=.inl ⟨rfl,rfl⟩
theorem wV(h:pQ o op kd base t s){n:Int}(hn:0≤n):pQ o op kd base (cX t n).2 (cQ s n).2∧((cX t n).2.bad=false→(cX t n).1=(cQ s n).1):=by
 rcases h with⟨h1,h2⟩|⟨h1,h2,h3⟩
 ·exact⟨.inl ⟨sV t n h1,YL s n h2⟩,fun e=>by rw[sV t n h1]at e;cases e⟩
 have hl:t.lb.length=s.cs.length:=by rw[h3.lb];simp
 unfold cX cQ;rw[hl];by_cases hc:(s.cs.length:Int)≤n
 ·rw[if_pos (by rw[if_neg (by simp;omega)];simp;omega),if_pos (by simpa using hc)];exact⟨aGf t s,fun e=>by cases e⟩
 ·rw[if_neg (by rw[if_neg (by simp;omega)];simp;omega),if_neg (by simpa using hc)];refine⟨.inr ⟨h1,h2,h3⟩,fun _=> ?_⟩;dsimp only;have hi:((s.cs.length:Int)-1-n).toNat=s.cs.length-1-n.toNat:=by omega
  have hlt:s.cs.length-1-n.toNat<s.cs.length:=by omega
  rw[hi,h3.lb,List.getD_eq_getElem?_getD,List.getD_eq_getElem?_getD,List.getElem?_map,List.getElem?_eq_getElem hlt];rfl
theorem aJv{a b:List Int}(ha:a.length≤1)(hb:b.length≤1):eq1 a b=decide (b=a):=by
 unfold eq1
 match a,b,ha,hb with
 |[],[],_,_=>rfl
 |[],[y],_,_=>simp
 |[x],[],_,_=>simp
 |[x],[y],_,_=>simp[Bool.beq_eq_decide_eq];exact eq_comm
theorem VW{w w':List Int}(hw:w'.length≤1):∀ {l:List Int} (_:∀n∈l,0≤n) {t:RT} {s:PS} (_:pQ o op kd base t s) (_:t.bad=false→w=w'),pQ o op kd base (l.foldl (oQ w) t) (l.foldl (xH w') s)
 |[],_,_,_,h,_=>h
 |n::l,hl,t,s,h,he=>by
  have hn:=hl n List.mem_cons_self;obtain⟨h1,h2⟩:=wV h hn;have hs:pQ o op kd base (oQ w t n) (xH w' s n):=by
   have:=qR h1 (b:=decide (w=(cX t n).1)) (b':=eq1 (cQ s n).1 w') fun e=>by
    rw[h2 e,aJv (nV s n) hw];have e0:t.bad=false:=by
     cases hb:t.bad with
     |false=>rfl
     |true=>rw[sV t n hb]at e;cases e
    rw[he e0]
   unfold oQ xH;dsimp only;cases hd:decide (w=(cX t n).1)with
   |true=>rw[hd]at this;exact this
   |false=>rw[hd]at this;exact this
  refine VW hw (fun n hn=>hl n (List.mem_cons_of_mem _ hn)) hs fun e=>he ?_
  cases hb:t.bad with
  |false=>rfl
  |true=>
   have:(oQ w t n).bad=true:=by
    unfold oQ;exact aI (p:=fun r:RT=>r.bad=true) (fun _=>rfl) (fun _=>sV t n hb)
   rw[this]at e;cases e
theorem aDL{P:Prop}{t q:RT}{n:Nat}(h:Adv t n q)(k:t.bad=false→P):q.bad=false→P:=fun e=>k (by
 cases hb:t.bad with
 |false=>rfl
 |true=>rw[h.2 hb]at e;cases e)
end
end Go.Proofs.YtjpdadobblffmaaGreat
