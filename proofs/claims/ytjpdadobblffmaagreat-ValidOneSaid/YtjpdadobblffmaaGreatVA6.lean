import Derived.Test.YtjpdadobblffmaaGreatVA5
import Derived.Test.YtjpdadobblffmaaGreatVA3
import Derived.Test.YtjpdadobblffmaaGreatVA4
set_option linter.unusedSimpArgs false
set_option linter.unusedVariables false
set_option maxRecDepth 100000
set_option maxHeartbeats 4000000
namespace Go.Proofs.YtjpdadobblffmaaGreat
open Go.RowKit Go.ChangeShapes Go.WideShapes Go.ChangeAt Go.Deep
attribute [local irreducible] SW RS RD fH eH
def eY {α:Type} (f:α→α) (l:List α) (j:Nat):List α:=(l.take j).map f
theorem oE{α:Type}{f:α→α}{l:List α}{j:Nat}{x:α}(h:l[j]? =some x):eY f l (j+1)=eY f l j++ [f x]:=by
 unfold eY;rw[List.take_add_one,h];simp
theorem rA{α:Type}{f:α→α}{l:List α}{j:Nat}(h:j≤l.length):(eY f l j).length=j:=by unfold eY;simp;omega
theorem rB{α:Type}{f:α→α}{l:List α}{j n:Nat}(h1:j≤l.length)(h2:j≤n)(h:¬(j<l.length∧j<n)):eY f l j=eY f l n:=by
 have:j=n∨j=l.length:=by omega
 rcases this with rfl|rfl
 ·rfl
 ·unfold eY;rw[List.take_length,List.take_of_length_le h2]
def wX (x:FT):FT:=⟨x.pr.take 34,x.rs.take 3⟩
def tU (x:Im):Im:=⟨x.mod.take 20,x.nm.take 20,x.ty⟩
def BG (x:Ex):Ex:=⟨x.nm.take 20,x.fn⟩
def CW (x:El):El:=⟨x.off,x.fs.take 55⟩
def CX (x:Co):Co:=⟨x.ls.take 34,pN x.bd 120⟩
def GU (x:Da):Da:=⟨x.off,x.bs.take 1010⟩
def BH (x:Gl):Gl:=x
def aFD (m:Md):Md:=⟨eY wX m.ty 18,eY tU m.im 18,m.fn.take 18,m.tb,m.me,eY BH m.gl 18,eY BG m.ex 18,eY CW m.el 18,eY CX m.co 18,eY GU m.da 18⟩
structure Md.A (m:Md):Prop where
 ty:m.ty.length≤maxLen∧∀x∈m.ty,x.pr.length≤maxLen∧x.rs.length≤maxLen
 im:m.im.length≤maxLen∧∀x∈m.im,x.mod.length≤maxLen∧x.nm.length≤maxLen
 fn:m.fn.length≤maxLen
 gl:m.gl.length≤maxLen
 ex:m.ex.length≤maxLen∧∀x∈m.ex,x.nm.length≤maxLen
 el:m.el.length≤maxLen∧∀x∈m.el,x.fs.length≤maxLen
 co:m.co.length≤maxLen∧∀x∈m.co,x.ls.length≤maxLen∧x.bd.length≤maxLen∧∀i∈x.bd,i.l.length≤maxLen
 da:m.da.length≤maxLen∧∀x∈m.da,x.bs.length≤maxLen
theorem tV{a b:Nat}{x:Nat}(h:(if decide ((x:Int)<(a:Nat))=true then decide ((x:Int)<(b:Nat))else false)=true):x<a∧x<b:=by
 rw[jQ]at h;simp only[Bool.and_eq_true,decide_eq_true_eq]at h;omega
theorem rR{a b:Nat}{x:Nat}(h:(if decide ((x:Int)<(a:Nat))=true then decide ((x:Int)<(b:Nat))else false)=false):¬(x<a∧x<b):=by
 rintro⟨h1,h2⟩;rw[decide_eq_true (by omega),if_pos rfl,decide_eq_true (by omega)]at h;cases h
theorem sY(l:List Int)(hl:l.length≤maxLen)(n:Nat)(hn:n≤1000):SCall Tryz.prog 53 [.ro 1 (l.map aR) .any,.int .i64 n] [] (fun y σ=>∃q,y=.own q 0 (l.take n).length∧σ=[(q,.arr 3 1 ((l.take n).map aR))]):=by
 unfold maxLen at hl;refine cC 26 [0,1,4,5,6,15] Tryz.func53 ?_;refine nQ ?_;refine bX 5 3 1 (by decide) rfl (by decide) (bI fun q0 hq0=> ?_);repeat rcases hq0 with⟨_,hq0⟩
 refine kO ?_;refine lp (β:=Nat×Nat) (fun b=>⟨[(0,.ro 1 (l.map aR) .any),(1,.int .i64 n),(5,.own b.1 0 (l.take b.2).length),(6,.int .i64 b.2)],[(b.1,.arr 3 1 ((l.take b.2).map aR))]⟩) (fun b=>b.2≤n∧b.2≤l.length) (fun b=>n-b.2) (q0,0) aJ ⟨Nat.zero_le _,Nat.zero_le _⟩ ?_;rintro⟨q,j⟩ ⟨hj,hjl⟩;dsimp only at hj hjl⊢;refine oR ?_;refine xT ?_;refine nW ?_;refine UR ?_;refine vB ?_;refine aB rfl (fun g3=> ?_) (fun g3=> ?_)
 ·obtain⟨hl1,hl2⟩:=tV g3;obtain⟨x,hx⟩:∃x,l[j]? =some x:=⟨_,List.getElem?_eq_getElem hl1⟩
  have hnx:l.take (j+1)=l.take j++ [x]:=by rw[List.take_add_one,hx];rfl
  have htl:(l.take j).length=j:=by simp;omega
  refine dF ?_;refine nA ?_;refine eS fun r23 h23=> ?_;intros
  refine kI ((l.take j++ [x]).map aR) (l.take j++ [x]).length ?_;refine bL fun r24 h24=> ?_;intros
  refine iF ?_;refine AE ?_;refine⟨(r24,j+1),⟨hl2,hl1⟩,by show n-(j+1)<n-j;omega, ?_⟩;dsimp only;rw[hnx];exact aJ
 have he:l.take j=l.take n:=by have:=rR g3;have:j=n∨j=l.length:=(by omega);rcases this with rfl|rfl;rfl;rw[List.take_length,List.take_of_length_le hj]
 rw[he];refine fF ?_;exact aD aE ⟨q,by rfl,rfl⟩ aA
theorem GV(s:List Nat)(hl:s.length≤maxLen):SCall Tryz.prog 54 [.str (dE s)] [] (fun y σ=>y=.str (dE (s.take 20))∧σ=[]):=by
 unfold maxLen at hl;refine cC 9 [0,2,5] Tryz.func54 ?_;refine gX ?_;refine lo (fW (E rfl)) rfl ?_;rw[jE];refine sN ?_;refine aB rfl (fun g1=> ?_) (fun g1=> ?_)
 ·have hlt:20<s.length:=by simp at g1;omega
  have hE:s.take 20=(s.drop 0).take (20-0):=rfl;refine dO ?_;refine lo (yL (h:=20) (E rfl) OB.none (OB.some (E rfl) (fun _=>rfl)) (fun _=>⟨Nat.zero_le _,by omega⟩)) rfl ?_;refine cZ ?_;exact aD aE ⟨by rw[hE];rfl,rfl⟩ aA
 have hE:s.take 20=s:=List.take_of_length_le (by simp at g1;omega);refine fF ?_;exact aD aE ⟨by rw[hE];rfl,rfl⟩ aA
theorem aCO(m:Md)(h:m.A):SCall Tryz.prog 17 [.agg (aS m)] [] (fun y σ=>y=.agg (aS (aFD m))∧σ=[]):=by
 obtain⟨⟨kz1,kz2⟩,⟨kz3,kz4⟩,kz5,kz6,⟨kz7,kz8⟩,⟨kz9,kz10⟩,⟨kz11,kz12⟩,⟨kz13,kz14⟩⟩:=h;obtain⟨ty,im,fn,tb,me,gl,ex,el,co,da⟩:=m;dsimp only at kz1 kz2 kz3 kz4 kz5 kz6 kz7 kz8 kz9 kz10 kz11 kz12 kz13 kz14;have ky1:=kz1;have ky3:=kz3;have ky6:=kz6;have ky7:=kz7;have ky9:=kz9;have ky11:=kz11;have ky13:=kz13;unfold maxLen at ky1 ky3 ky6 ky7 ky9 ky11 ky13;refine cC 231 [0,1,2,3,4,5,6,7,8,9,10,27,58,95,116,146,176,207] Tryz.func17 ?_;unfold aS;dsimp only;refine dG ?_;refine iG fun r1 h1=> ?_;intros
 refine jZ fun r2 h2=> ?_;intros
 refine jI ?_;refine UO (β:=Nat×Nat) (fun b=>⟨[(1,.ptr r1 0),(2,.ptr r2 0),(3,.ptr b.1 0)],[(b.1,.box 33 [.ro 0 [] .nil,.ro 0 [] .nil,.own b.2 0 (fn.take 18).length,.bool tb.has,.int .i64 tb.mn,.int .i64 tb.mx,.bool me.has,.int .i64 me.mn,.int .i64 me.mx,.ro 0 [] .nil,.ro 0 [] .nil,.ro 0 [] .nil,.ro 0 [] .nil,.ro 0 [] .nil]),(b.2,.arr 3 1 ((fn.take 18).map aR)),(r1,.box 33 (aS ⟨ty,im,fn,tb,me,gl,ex,el,co,da⟩)),(r2,.box 33 [.ro 0 [] .nil,.ro 0 [] .nil,.ro 0 [] .nil,.bool false,.int .i64 0,.int .i64 0,.bool false,.int .i64 0,.int .i64 0,.ro 0 [] .nil,.ro 0 [] .nil,.ro 0 [] .nil,.ro 0 [] .nil,.ro 0 [] .nil])]⟩) (fun b=>(Nq b.1 b.2∧Nq b.1 r1∧Nq b.1 r2)∧Nq b.2 r1∧Nq b.2 r2) ?_ ?_
 ·refine fK [(0,true),(1,true),(3,true),(4,true),(5,true),(6,true),(10,false),(10,false),(10,false),(10,false)] ?_;refine fZ ?_;refine zP ?_;refine UE ?_;refine zP ?_;refine UE ?_;refine iC 2 8 [(7,true),(8,false),(9,false)] [(2,false),(7,true),(9,false)] (f1:=[]) (f2:=[]) (by kernel_rfl) rfl rfl ?_ ?_ (.inl rfl) (.inl rfl)
  ·refine kX Tryz.call53 (sY fn kz5 18 (by decide)) (dL rfl) ?_;rintro _ σ' ⟨q13,rfl,rfl⟩ h13
   replace h13:=cN h13;repeat rcases h13 with⟨_,h13⟩
   apply bZ;exact bN;refine IJ ?_;apply dal;rfl;infer_instance;rfl;exact wA;refine kE fun r3 h3=> ?_;intros
   refine HZ ?_;refine yR ?_;refine an ?_;exact⟨(r3,q13),⟨⟨by show Nq r3 q13;(exact bA),by show Nq r3 r1;(exact bA),by show Nq r3 r2;(exact bA)⟩,by show Nq q13 r1;(exact bA),by show Nq q13 r2;(exact bA)⟩,aJ⟩
  ·apply aHd;infer_instance;rfl;exact wA;refine bI fun r3 h3=> ?_;repeat rcases h3 with⟨_,h3⟩
   refine lT rfl Tryz.call53 (sY fn kz5 18 (by decide)) rfl bW kH ?_;rintro _ σ' ⟨q13,rfl,rfl⟩ h13
   replace h13:=cN h13;repeat rcases h13 with⟨_,h13⟩
   apply bZ;exact bN;refine IJ ?_;refine HZ ?_;refine yR ?_;refine an ?_;exact⟨(r3,q13),⟨⟨by show Nq r3 q13;(exact bA),by show Nq r3 r1;(exact bA),by show Nq r3 r2;(exact bA)⟩,by show Nq q13 r1;(exact bA),by show Nq q13 r2;(exact bA)⟩,aJ⟩
 rintro⟨r3,q13⟩ ⟨⟨n1,n2,n3⟩,n4,n5⟩;dsimp only at n1 n2 n3 n4 n5⊢;refine dZ (iD (r:=r3) (q:=q13) cJ bH (.cons (.refl _) (.cons (.refl _) (.cons (aM aO (by simp)) (.cons (.refl _) (.cons (.refl _) (.cons (.refl _) (.cons (.refl _) (.cons (.refl _) (.cons (.refl _) (.cons (.refl _) (.cons (.refl _) (.cons (.refl _) (.cons (.refl _) (.cons (.refl _) .nil))))))))))))))) ?_;unfold aS;dsimp only;refine bP ?_;refine cO (ks:=[0,1,2,3,4,5,6,7,8,9,10,27,58,95,116,146,176,207]) r3 0 50 2 (by decide) aO rfl (by decide) fun qty hqty=> ?_
 simp only[aP,aX,and_true]at hqty;repeat rcases hqty with⟨_,hqty⟩
 apply Exists.intro;apply And.intro;exact cJ;refine lp (β:=Nat×Nat) (fun b=>⟨[(1,.ptr r1 0),(2,.ptr r2 0),(3,.ptr r3 0),(4,.int .i64 b.2)],[(r3,.box 33 [.own b.1 0 (eY wX ty b.2).length,.ro 0 [] .nil,.ro 1 ((fn.take 18).map aR) .any,.bool tb.has,.int .i64 tb.mn,.int .i64 tb.mx,.bool me.has,.int .i64 me.mn,.int .i64 me.mx,.ro 0 [] .nil,.ro 0 [] .nil,.ro 0 [] .nil,.ro 0 [] .nil,.ro 0 [] .nil]),(b.1,.arr 50 2 ((eY wX ty b.2).map cP)),(r1,.box 33 (aS ⟨ty,im,fn,tb,me,gl,ex,el,co,da⟩)),(r2,.box 33 [.ro 0 [] .nil,.ro 0 [] .nil,.ro 0 [] .nil,.bool false,.int .i64 0,.int .i64 0,.bool false,.int .i64 0,.int .i64 0,.ro 0 [] .nil,.ro 0 [] .nil,.ro 0 [] .nil,.ro 0 [] .nil,.ro 0 [] .nil])]⟩) (fun b=>(b.2≤ty.length∧b.2≤18)∧Nq b.1 r1∧Nq b.1 r2∧Nq b.1 r3) (fun b=>18-b.2) (qty,0) aJ ⟨⟨Nat.zero_le _,Nat.zero_le _⟩,by show Nq qty r1;(exact bA),by show Nq qty r2;(exact bA),by show Nq qty r3;(exact bA)⟩ ?_;rintro⟨q1,j⟩ ⟨⟨hj1,hj2⟩,e1,e2,e3⟩;dsimp only at hj1 hj2 e1 e2 e3⊢;unfold aS;dsimp only;refine LQ ?_;refine xT ?_;refine FN ?_;refine vB ?_;refine aB rfl (fun g3=> ?_) (fun g3=> ?_)
 ·obtain⟨hl1,hl2⟩:=tV (b:=18) g3;obtain⟨⟨pr,rs⟩,hx⟩:∃x,ty[j]? =some x:=⟨_,List.getElem?_eq_getElem hl1⟩
  have hol:=rA (f:=wX) hj1;have hnx:=oE (f:=wX) hx;obtain⟨hp1,hp2⟩:=kz2 _ (List.mem_of_getElem? hx);dsimp only at hp1 hp2;refine aI ?_;refine fK [(0,true),(1,true),(2,true),(3,true),(4,true),(5,true),(6,true),(7,true),(9,true),(10,true),(11,true),(12,true),(13,true),(14,true),(8,false),(15,false),(16,true),(17,false),(18,false),(19,true),(20,false)] ?_;refine fZ ?_;refine lN ?_;refine lN ?_;refine lT rfl Tryz.call53 (sY pr hp1 34 (by decide)) rfl bW kH ?_;rintro _ σ' ⟨q38,rfl,rfl⟩ h38
  replace h38:=cN h38;repeat rcases h38 with⟨_,h38⟩
  apply bZ;exact bN;refine VY (j:=38) rfl bH (aM aO (by simp)) ?_;refine lT rfl Tryz.call53 (sY rs hp2 3 (by decide)) rfl bW kH ?_;rintro _ σ' ⟨q45,rfl,rfl⟩ h45
  replace h45:=cN h45;repeat rcases h45 with⟨_,h45⟩
  apply bZ;exact bN;refine VY (j:=45) rfl bH (aM aO (by simp)) ?_;refine IJ ?_;refine CA fun r47 h47=> ?_;intros
  refine eX rfl ((eY wX ty j++ [wX ⟨pr,rs⟩]).map cP) (eY wX ty j++ [wX ⟨pr,rs⟩]).length ?_;refine bL fun r48 h48=> ?_;intros
  refine nC ?_;refine yR ?_;refine lI ?_;refine⟨(r48,j+1),⟨⟨hl1,hl2⟩,by show Nq r48 r1;(exact bA),by show Nq r48 r2;(exact bA),by show Nq r48 r3;(exact bA)⟩,by show 18-(j+1)<18-j;omega, ?_⟩;dsimp only;rw[hnx];exact aJ
 have he:=rB (f:=wX) hj1 hj2 (rR (b:=18) g3);rw[he];refine dZ (iD (r:=r3) (q:=q1) cJ bH (.cons (aM aO (by simp)) (.cons (.refl _) (.cons (.refl _) (.cons (.refl _) (.cons (.refl _) (.cons (.refl _) (.cons (.refl _) (.cons (.refl _) (.cons (.refl _) (.cons (.refl _) (.cons (.refl _) (.cons (.refl _) (.cons (.refl _) (.cons (.refl _) .nil))))))))))))))) ?_;refine bP ?_;refine cO (ks:=[0,1,2,3,4,5,6,7,8,9,10,27,58,95,116,146,176,207]) r3 1 64 3 (by decide) aO rfl (by decide) fun qim hqim=> ?_
 simp only[aP,aX,and_true]at hqim;repeat rcases hqim with⟨_,hqim⟩
 apply Exists.intro;apply And.intro;exact cJ;refine lp (β:=Nat×Nat) (fun b=>⟨[(1,.ptr r1 0),(2,.ptr r2 0),(3,.ptr r3 0),(5,.int .i64 b.2)],[(r3,.box 33 [.ro 2 ((eY wX ty 18).map cP) .any,.own b.1 0 (eY tU im b.2).length,.ro 1 ((fn.take 18).map aR) .any,.bool tb.has,.int .i64 tb.mn,.int .i64 tb.mx,.bool me.has,.int .i64 me.mn,.int .i64 me.mx,.ro 0 [] .nil,.ro 0 [] .nil,.ro 0 [] .nil,.ro 0 [] .nil,.ro 0 [] .nil]),(b.1,.arr 64 3 ((eY tU im b.2).map eE)),(r1,.box 33 (aS ⟨ty,im,fn,tb,me,gl,ex,el,co,da⟩)),(r2,.box 33 [.ro 0 [] .nil,.ro 0 [] .nil,.ro 0 [] .nil,.bool false,.int .i64 0,.int .i64 0,.bool false,.int .i64 0,.int .i64 0,.ro 0 [] .nil,.ro 0 [] .nil,.ro 0 [] .nil,.ro 0 [] .nil,.ro 0 [] .nil])]⟩) (fun b=>(b.2≤im.length∧b.2≤18)∧Nq b.1 r1∧Nq b.1 r2∧Nq b.1 r3) (fun b=>18-b.2) (qim,0) aJ ⟨⟨Nat.zero_le _,Nat.zero_le _⟩,by show Nq qim r1;(exact bA),by show Nq qim r2;(exact bA),by show Nq qim r3;(exact bA)⟩ ?_;rintro⟨q1,j⟩ ⟨⟨hj1,hj2⟩,e1,e2,e3⟩;dsimp only at hj1 hj2 e1 e2 e3⊢;unfold aS;dsimp only;refine LQ ?_;refine xT ?_;refine FN ?_;refine vB ?_;refine aB rfl (fun g7=> ?_) (fun g7=> ?_)
 ·obtain⟨hl1,hl2⟩:=tV (b:=18) g7;obtain⟨⟨md,nm,tt⟩,hx⟩:∃x,im[j]? =some x:=⟨_,List.getElem?_eq_getElem hl1⟩
  have hol:=rA (f:=tU) hj1;have hnx:=oE (f:=tU) hx;obtain⟨hp1,hp2⟩:=kz4 _ (List.mem_of_getElem? hx);dsimp only at hp1 hp2;refine aI ?_;refine fK [(0,true),(1,true),(2,true),(3,true),(4,true),(5,true),(6,true),(7,true),(9,true),(10,true),(11,true),(12,true),(13,true),(14,true),(16,true),(17,true),(18,true),(19,true),(20,true),(21,true),(8,false),(15,false),(22,true),(23,false),(24,false),(25,true),(26,false)] ?_;refine fZ ?_;refine lN ?_;refine lN ?_;refine lN ?_;refine aAd rfl Tryz.call54 (GV md hp1) rfl aU bC ?_;refine aAd rfl Tryz.call54 (GV nm hp2) rfl aU bC ?_;refine IJ ?_;refine CA fun r84 h84=> ?_;intros
  refine eX rfl ((eY tU im j++ [tU ⟨md,nm,tt⟩]).map eE) (eY tU im j++ [tU ⟨md,nm,tt⟩]).length ?_;refine bL fun r85 h85=> ?_;intros
  refine nC ?_;refine yR ?_;refine lI ?_;refine⟨(r85,j+1),⟨⟨hl1,hl2⟩,by show Nq r85 r1;(exact bA),by show Nq r85 r2;(exact bA),by show Nq r85 r3;(exact bA)⟩,by show 18-(j+1)<18-j;omega, ?_⟩;dsimp only;rw[hnx];exact aJ
 have he:=rB (f:=tU) hj1 hj2 (rR (b:=18) g7);rw[he];refine dZ (iD (r:=r3) (q:=q1) cJ bH (.cons (.refl _) (.cons (aM aO (by simp)) (.cons (.refl _) (.cons (.refl _) (.cons (.refl _) (.cons (.refl _) (.cons (.refl _) (.cons (.refl _) (.cons (.refl _) (.cons (.refl _) (.cons (.refl _) (.cons (.refl _) (.cons (.refl _) (.cons (.refl _) .nil))))))))))))))) ?_;refine bP ?_;refine cO (ks:=[0,1,2,3,4,5,6,7,8,9,10,27,58,95,116,146,176,207]) r3 9 73 3 (by decide) aO rfl (by decide) fun qgl hqgl=> ?_
 simp only[aP,aX,and_true]at hqgl;repeat rcases hqgl with⟨_,hqgl⟩
 apply Exists.intro;apply And.intro;exact cJ;refine lp (β:=Nat×Nat) (fun b=>⟨[(1,.ptr r1 0),(2,.ptr r2 0),(3,.ptr r3 0),(6,.int .i64 b.2)],[(r3,.box 33 [.ro 2 ((eY wX ty 18).map cP) .any,.ro 3 ((eY tU im 18).map eE) .any,.ro 1 ((fn.take 18).map aR) .any,.bool tb.has,.int .i64 tb.mn,.int .i64 tb.mx,.bool me.has,.int .i64 me.mn,.int .i64 me.mx,.own b.1 0 (eY BH gl b.2).length,.ro 0 [] .nil,.ro 0 [] .nil,.ro 0 [] .nil,.ro 0 [] .nil]),(b.1,.arr 73 3 ((eY BH gl b.2).map eA)),(r1,.box 33 (aS ⟨ty,im,fn,tb,me,gl,ex,el,co,da⟩)),(r2,.box 33 [.ro 0 [] .nil,.ro 0 [] .nil,.ro 0 [] .nil,.bool false,.int .i64 0,.int .i64 0,.bool false,.int .i64 0,.int .i64 0,.ro 0 [] .nil,.ro 0 [] .nil,.ro 0 [] .nil,.ro 0 [] .nil,.ro 0 [] .nil])]⟩) (fun b=>(b.2≤gl.length∧b.2≤18)∧Nq b.1 r1∧Nq b.1 r2∧Nq b.1 r3) (fun b=>18-b.2) (qgl,0) aJ ⟨⟨Nat.zero_le _,Nat.zero_le _⟩,by show Nq qgl r1;(exact bA),by show Nq qgl r2;(exact bA),by show Nq qgl r3;(exact bA)⟩ ?_;rintro⟨q1,j⟩ ⟨⟨hj1,hj2⟩,e1,e2,e3⟩;dsimp only at hj1 hj2 e1 e2 e3⊢;unfold aS;dsimp only;refine LQ ?_;refine xT ?_;refine FN ?_;refine vB ?_;refine aB rfl (fun g11=> ?_) (fun g11=> ?_)
 ·obtain⟨hl1,hl2⟩:=tV (b:=18) g11;obtain⟨x,hx⟩:∃x,gl[j]? =some x:=⟨_,List.getElem?_eq_getElem hl1⟩
  have hol:=rA (f:=BH) hj1;have hnx:=oE (f:=BH) hx;refine aI ?_;refine fK [(0,true),(1,true),(2,true),(3,true),(4,true),(5,true),(6,true),(7,false),(8,false),(9,true),(10,false)] ?_;refine fZ ?_;refine ZP ?_;refine xR ?_;refine CA fun r105 h105=> ?_;intros
  refine eX rfl ((eY BH gl j++ [BH x]).map eA) (eY BH gl j++ [BH x]).length ?_;refine bL fun r106 h106=> ?_;intros
  refine nC ?_;refine yR ?_;refine lI ?_;refine⟨(r106,j+1),⟨⟨hl1,hl2⟩,by show Nq r106 r1;(exact bA),by show Nq r106 r2;(exact bA),by show Nq r106 r3;(exact bA)⟩,by show 18-(j+1)<18-j;omega, ?_⟩;dsimp only;rw[hnx];exact aJ
 have he:=rB (f:=BH) hj1 hj2 (rR (b:=18) g11);rw[he];refine dZ (iD (r:=r3) (q:=q1) cJ bH (.cons (.refl _) (.cons (.refl _) (.cons (.refl _) (.cons (.refl _) (.cons (.refl _) (.cons (.refl _) (.cons (.refl _) (.cons (.refl _) (.cons (.refl _) (.cons (aM aO (by simp)) (.cons (.refl _) (.cons (.refl _) (.cons (.refl _) (.cons (.refl _) .nil))))))))))))))) ?_;refine bP ?_;refine cO (ks:=[0,1,2,3,4,5,6,7,8,9,10,27,58,95,116,146,176,207]) r3 10 66 2 (by decide) aO rfl (by decide) fun qex hqex=> ?_
 simp only[aP,aX,and_true]at hqex;repeat rcases hqex with⟨_,hqex⟩
 apply Exists.intro;apply And.intro;exact cJ;refine lp (β:=Nat×Nat) (fun b=>⟨[(1,.ptr r1 0),(2,.ptr r2 0),(3,.ptr r3 0),(7,.int .i64 b.2)],[(r3,.box 33 [.ro 2 ((eY wX ty 18).map cP) .any,.ro 3 ((eY tU im 18).map eE) .any,.ro 1 ((fn.take 18).map aR) .any,.bool tb.has,.int .i64 tb.mn,.int .i64 tb.mx,.bool me.has,.int .i64 me.mn,.int .i64 me.mx,.ro 3 ((eY BH gl 18).map eA) .any,.own b.1 0 (eY BG ex b.2).length,.ro 0 [] .nil,.ro 0 [] .nil,.ro 0 [] .nil]),(b.1,.arr 66 2 ((eY BG ex b.2).map dH)),(r1,.box 33 (aS ⟨ty,im,fn,tb,me,gl,ex,el,co,da⟩)),(r2,.box 33 [.ro 0 [] .nil,.ro 0 [] .nil,.ro 0 [] .nil,.bool false,.int .i64 0,.int .i64 0,.bool false,.int .i64 0,.int .i64 0,.ro 0 [] .nil,.ro 0 [] .nil,.ro 0 [] .nil,.ro 0 [] .nil,.ro 0 [] .nil])]⟩) (fun b=>(b.2≤ex.length∧b.2≤18)∧Nq b.1 r1∧Nq b.1 r2∧Nq b.1 r3) (fun b=>18-b.2) (qex,0) aJ ⟨⟨Nat.zero_le _,Nat.zero_le _⟩,by show Nq qex r1;(exact bA),by show Nq qex r2;(exact bA),by show Nq qex r3;(exact bA)⟩ ?_;rintro⟨q1,j⟩ ⟨⟨hj1,hj2⟩,e1,e2,e3⟩;dsimp only at hj1 hj2 e1 e2 e3⊢;unfold aS;dsimp only;refine LQ ?_;refine xT ?_;refine FN ?_;refine vB ?_;refine aB rfl (fun g15=> ?_) (fun g15=> ?_)
 ·obtain⟨hl1,hl2⟩:=tV (b:=18) g15;obtain⟨⟨nm,ff⟩,hx⟩:∃x,ex[j]? =some x:=⟨_,List.getElem?_eq_getElem hl1⟩
  have hol:=rA (f:=BG) hj1;have hnx:=oE (f:=BG) hx;have hp1:=kz8 _ (List.mem_of_getElem? hx);dsimp only at hp1;refine aI ?_;refine fK [(0,true),(1,true),(2,true),(3,true),(4,true),(5,true),(6,true),(7,true),(9,true),(10,true),(11,true),(12,true),(13,true),(14,true),(8,false),(15,true),(16,false),(17,false),(18,true),(19,false)] ?_;refine fZ ?_;refine lN ?_;refine lN ?_;refine aAd rfl Tryz.call54 (GV nm hp1) rfl aU bC ?_;refine IJ ?_;refine CA fun r135 h135=> ?_;intros
  refine eX rfl ((eY BG ex j++ [BG ⟨nm,ff⟩]).map dH) (eY BG ex j++ [BG ⟨nm,ff⟩]).length ?_;refine bL fun r136 h136=> ?_;intros
  refine nC ?_;refine yR ?_;refine lI ?_;refine⟨(r136,j+1),⟨⟨hl1,hl2⟩,by show Nq r136 r1;(exact bA),by show Nq r136 r2;(exact bA),by show Nq r136 r3;(exact bA)⟩,by show 18-(j+1)<18-j;omega, ?_⟩;dsimp only;rw[hnx];exact aJ
 have he:=rB (f:=BG) hj1 hj2 (rR (b:=18) g15);rw[he];refine dZ (iD (r:=r3) (q:=q1) cJ bH (.cons (.refl _) (.cons (.refl _) (.cons (.refl _) (.cons (.refl _) (.cons (.refl _) (.cons (.refl _) (.cons (.refl _) (.cons (.refl _) (.cons (.refl _) (.cons (.refl _) (.cons (aM aO (by simp)) (.cons (.refl _) (.cons (.refl _) (.cons (.refl _) .nil))))))))))))))) ?_;refine bP ?_;refine cO (ks:=[0,1,2,3,4,5,6,7,8,9,10,27,58,95,116,146,176,207]) r3 11 69 2 (by decide) aO rfl (by decide) fun qel hqel=> ?_
 simp only[aP,aX,and_true]at hqel;repeat rcases hqel with⟨_,hqel⟩
 apply Exists.intro;apply And.intro;exact cJ;refine lp (β:=Nat×Nat) (fun b=>⟨[(1,.ptr r1 0),(2,.ptr r2 0),(3,.ptr r3 0),(8,.int .i64 b.2)],[(r3,.box 33 [.ro 2 ((eY wX ty 18).map cP) .any,.ro 3 ((eY tU im 18).map eE) .any,.ro 1 ((fn.take 18).map aR) .any,.bool tb.has,.int .i64 tb.mn,.int .i64 tb.mx,.bool me.has,.int .i64 me.mn,.int .i64 me.mx,.ro 3 ((eY BH gl 18).map eA) .any,.ro 2 ((eY BG ex 18).map dH) .any,.own b.1 0 (eY CW el b.2).length,.ro 0 [] .nil,.ro 0 [] .nil]),(b.1,.arr 69 2 ((eY CW el b.2).map dX)),(r1,.box 33 (aS ⟨ty,im,fn,tb,me,gl,ex,el,co,da⟩)),(r2,.box 33 [.ro 0 [] .nil,.ro 0 [] .nil,.ro 0 [] .nil,.bool false,.int .i64 0,.int .i64 0,.bool false,.int .i64 0,.int .i64 0,.ro 0 [] .nil,.ro 0 [] .nil,.ro 0 [] .nil,.ro 0 [] .nil,.ro 0 [] .nil])]⟩) (fun b=>(b.2≤el.length∧b.2≤18)∧Nq b.1 r1∧Nq b.1 r2∧Nq b.1 r3) (fun b=>18-b.2) (qel,0) aJ ⟨⟨Nat.zero_le _,Nat.zero_le _⟩,by show Nq qel r1;(exact bA),by show Nq qel r2;(exact bA),by show Nq qel r3;(exact bA)⟩ ?_;rintro⟨q1,j⟩ ⟨⟨hj1,hj2⟩,e1,e2,e3⟩;dsimp only at hj1 hj2 e1 e2 e3⊢;unfold aS;dsimp only;refine LQ ?_;refine xT ?_;refine FN ?_;refine vB ?_;refine aB rfl (fun g19=> ?_) (fun g19=> ?_)
 ·obtain⟨hl1,hl2⟩:=tV (b:=18) g19;obtain⟨⟨oo,fs⟩,hx⟩:∃x,el[j]? =some x:=⟨_,List.getElem?_eq_getElem hl1⟩
  have hol:=rA (f:=CW) hj1;have hnx:=oE (f:=CW) hx;have hp1:=kz10 _ (List.mem_of_getElem? hx);dsimp only at hp1;refine aI ?_;refine fK [(0,true),(1,true),(2,true),(3,true),(4,true),(5,true),(6,true),(7,true),(8,true),(9,true),(10,true),(11,true),(12,true),(13,true),(14,false),(15,true),(16,false),(17,false),(18,true),(19,false)] ?_;refine fZ ?_;refine lN ?_;refine lN ?_;refine lT rfl Tryz.call53 (sY fs hp1 55 (by decide)) rfl bW kH ?_;rintro _ σ' ⟨q163,rfl,rfl⟩ h163
  replace h163:=cN h163;repeat rcases h163 with⟨_,h163⟩
  apply bZ;exact bN;refine VY (j:=163) rfl bH (aM aO (by simp)) ?_;refine IJ ?_;refine CA fun r165 h165=> ?_;intros
  refine eX rfl ((eY CW el j++ [CW ⟨oo,fs⟩]).map dX) (eY CW el j++ [CW ⟨oo,fs⟩]).length ?_;refine bL fun r166 h166=> ?_;intros
  refine nC ?_;refine yR ?_;refine lI ?_;refine⟨(r166,j+1),⟨⟨hl1,hl2⟩,by show Nq r166 r1;(exact bA),by show Nq r166 r2;(exact bA),by show Nq r166 r3;(exact bA)⟩,by show 18-(j+1)<18-j;omega, ?_⟩;dsimp only;rw[hnx];exact aJ
 have he:=rB (f:=CW) hj1 hj2 (rR (b:=18) g19);rw[he];refine dZ (iD (r:=r3) (q:=q1) cJ bH (.cons (.refl _) (.cons (.refl _) (.cons (.refl _) (.cons (.refl _) (.cons (.refl _) (.cons (.refl _) (.cons (.refl _) (.cons (.refl _) (.cons (.refl _) (.cons (.refl _) (.cons (.refl _) (.cons (aM aO (by simp)) (.cons (.refl _) (.cons (.refl _) .nil))))))))))))))) ?_;refine bP ?_;refine cO (ks:=[0,1,2,3,4,5,6,7,8,9,10,27,58,95,116,146,176,207]) r3 12 44 2 (by decide) aO rfl (by decide) fun qco hqco=> ?_
 simp only[aP,aX,and_true]at hqco;repeat rcases hqco with⟨_,hqco⟩
 apply Exists.intro;apply And.intro;exact cJ;refine lp (β:=Nat×Nat) (fun b=>⟨[(1,.ptr r1 0),(2,.ptr r2 0),(3,.ptr r3 0),(9,.int .i64 b.2)],[(r3,.box 33 [.ro 2 ((eY wX ty 18).map cP) .any,.ro 3 ((eY tU im 18).map eE) .any,.ro 1 ((fn.take 18).map aR) .any,.bool tb.has,.int .i64 tb.mn,.int .i64 tb.mx,.bool me.has,.int .i64 me.mn,.int .i64 me.mx,.ro 3 ((eY BH gl 18).map eA) .any,.ro 2 ((eY BG ex 18).map dH) .any,.ro 2 ((eY CW el 18).map dX) .any,.own b.1 0 (eY CX co b.2).length,.ro 0 [] .nil]),(b.1,.arr 44 2 ((eY CX co b.2).map dP)),(r1,.box 33 (aS ⟨ty,im,fn,tb,me,gl,ex,el,co,da⟩)),(r2,.box 33 [.ro 0 [] .nil,.ro 0 [] .nil,.ro 0 [] .nil,.bool false,.int .i64 0,.int .i64 0,.bool false,.int .i64 0,.int .i64 0,.ro 0 [] .nil,.ro 0 [] .nil,.ro 0 [] .nil,.ro 0 [] .nil,.ro 0 [] .nil])]⟩) (fun b=>(b.2≤co.length∧b.2≤18)∧Nq b.1 r1∧Nq b.1 r2∧Nq b.1 r3) (fun b=>18-b.2) (qco,0) aJ ⟨⟨Nat.zero_le _,Nat.zero_le _⟩,by show Nq qco r1;(exact bA),by show Nq qco r2;(exact bA),by show Nq qco r3;(exact bA)⟩ ?_;rintro⟨q1,j⟩ ⟨⟨hj1,hj2⟩,e1,e2,e3⟩;dsimp only at hj1 hj2 e1 e2 e3⊢;unfold aS;dsimp only;refine LQ ?_;refine xT ?_;refine FN ?_;refine vB ?_;refine aB rfl (fun g23=> ?_) (fun g23=> ?_)
 ·obtain⟨hl1,hl2⟩:=tV (b:=18) g23;obtain⟨⟨ls,bd⟩,hx⟩:∃x,co[j]? =some x:=⟨_,List.getElem?_eq_getElem hl1⟩
  have hol:=rA (f:=CX) hj1;have hnx:=oE (f:=CX) hx;obtain⟨hp1,hp2,hp3⟩:=kz12 _ (List.mem_of_getElem? hx);dsimp only at hp1 hp2 hp3;refine aI ?_;refine fK [(0,true),(1,true),(2,true),(3,true),(4,true),(5,true),(6,true),(7,true),(9,true),(10,true),(11,true),(12,true),(13,true),(14,true),(8,false),(15,false),(16,true),(17,false),(18,false),(19,true),(20,false)] ?_;refine fZ ?_;refine lN ?_;refine lN ?_;refine lT rfl Tryz.call53 (sY ls hp1 34 (by decide)) rfl bW kH ?_;rintro _ σ' ⟨q187,rfl,rfl⟩ h187
  replace h187:=cN h187;repeat rcases h187 with⟨_,h187⟩
  apply bZ;exact bN;refine VY (j:=187) rfl bH (aM aO (by simp)) ?_;refine sD [] rfl Tryz.call26 (aBU bd hp2 hp3 120 (by decide)) rfl aC aA fS ?_;rintro _ σ' ⟨q194,rfl,rfl⟩ h194
  replace h194:=gU h194;repeat rcases h194 with⟨_,h194⟩
  apply bZ;exact bN;refine VY (j:=194) rfl bH (aM aO (by simp)) ?_;refine IJ ?_;refine CA fun r196 h196=> ?_;intros
  refine eX rfl ((eY CX co j++ [CX ⟨ls,bd⟩]).map dP) (eY CX co j++ [CX ⟨ls,bd⟩]).length ?_;refine bL fun r197 h197=> ?_;intros
  refine nC ?_;refine yR ?_;refine lI ?_;refine⟨(r197,j+1),⟨⟨hl1,hl2⟩,by show Nq r197 r1;(exact bA),by show Nq r197 r2;(exact bA),by show Nq r197 r3;(exact bA)⟩,by show 18-(j+1)<18-j;omega, ?_⟩;dsimp only;rw[hnx];exact aJ
 have he:=rB (f:=CX) hj1 hj2 (rR (b:=18) g23);rw[he];refine dZ (iD (r:=r3) (q:=q1) cJ bH (.cons (.refl _) (.cons (.refl _) (.cons (.refl _) (.cons (.refl _) (.cons (.refl _) (.cons (.refl _) (.cons (.refl _) (.cons (.refl _) (.cons (.refl _) (.cons (.refl _) (.cons (.refl _) (.cons (.refl _) (.cons (aM aO (by simp)) (.cons (.refl _) .nil))))))))))))))) ?_;refine bP ?_;refine cO (ks:=[0,1,2,3,4,5,6,7,8,9,10,27,58,95,116,146,176,207]) r3 13 48 2 (by decide) aO rfl (by decide) fun qda hqda=> ?_
 simp only[aP,aX,and_true]at hqda;repeat rcases hqda with⟨_,hqda⟩
 apply Exists.intro;apply And.intro;exact cJ;refine lp (β:=Nat×Nat) (fun b=>⟨[(1,.ptr r1 0),(2,.ptr r2 0),(3,.ptr r3 0),(10,.int .i64 b.2)],[(r3,.box 33 [.ro 2 ((eY wX ty 18).map cP) .any,.ro 3 ((eY tU im 18).map eE) .any,.ro 1 ((fn.take 18).map aR) .any,.bool tb.has,.int .i64 tb.mn,.int .i64 tb.mx,.bool me.has,.int .i64 me.mn,.int .i64 me.mx,.ro 3 ((eY BH gl 18).map eA) .any,.ro 2 ((eY BG ex 18).map dH) .any,.ro 2 ((eY CW el 18).map dX) .any,.ro 2 ((eY CX co 18).map dP) .any,.own b.1 0 (eY GU da b.2).length]),(b.1,.arr 48 2 ((eY GU da b.2).map eB)),(r1,.box 33 (aS ⟨ty,im,fn,tb,me,gl,ex,el,co,da⟩)),(r2,.box 33 [.ro 0 [] .nil,.ro 0 [] .nil,.ro 0 [] .nil,.bool false,.int .i64 0,.int .i64 0,.bool false,.int .i64 0,.int .i64 0,.ro 0 [] .nil,.ro 0 [] .nil,.ro 0 [] .nil,.ro 0 [] .nil,.ro 0 [] .nil])]⟩) (fun b=>(b.2≤da.length∧b.2≤18)∧Nq b.1 r1∧Nq b.1 r2∧Nq b.1 r3) (fun b=>18-b.2) (qda,0) aJ ⟨⟨Nat.zero_le _,Nat.zero_le _⟩,by show Nq qda r1;(exact bA),by show Nq qda r2;(exact bA),by show Nq qda r3;(exact bA)⟩ ?_;rintro⟨q1,j⟩ ⟨⟨hj1,hj2⟩,e1,e2,e3⟩;dsimp only at hj1 hj2 e1 e2 e3⊢;unfold aS;dsimp only;refine LQ ?_;refine xT ?_;refine FN ?_;refine vB ?_;refine aB rfl (fun g27=> ?_) (fun g27=> ?_)
 ·obtain⟨hl1,hl2⟩:=tV (b:=18) g27;obtain⟨⟨oo,bs⟩,hx⟩:∃x,da[j]? =some x:=⟨_,List.getElem?_eq_getElem hl1⟩
  have hol:=rA (f:=GU) hj1;have hnx:=oE (f:=GU) hx;have hp1:=kz14 _ (List.mem_of_getElem? hx);dsimp only at hp1;refine aI ?_;refine fK [(0,true),(1,true),(2,true),(3,true),(4,true),(5,true),(6,true),(7,true),(8,true),(9,true),(10,true),(11,true),(12,true),(13,true),(14,false),(15,false),(16,true),(17,false),(18,false),(19,true),(20,false)] ?_;refine fZ ?_;refine lN ?_;refine lN ?_;refine sD [] rfl Tryz.call55 (aAb bs hp1 1010) rfl aC aA fS ?_;rintro _ σ' ⟨rfl,rfl⟩ h224;apply bZ;exact bN;refine aHV rfl ((bs.take 1010).map aH) (bs.take 1010).length ?_;refine kE fun r225 h225=> ?_;intros
  refine VY (j:=225) rfl bH (aM aO (by simp)) ?_;refine IJ ?_;refine CA fun r227 h227=> ?_;intros
  refine eX rfl ((eY GU da j++ [GU ⟨oo,bs⟩]).map eB) (eY GU da j++ [GU ⟨oo,bs⟩]).length ?_;refine bL fun r228 h228=> ?_;intros
  refine nC ?_;refine yR ?_;refine lI ?_;refine⟨(r228,j+1),⟨⟨hl1,hl2⟩,by show Nq r228 r1;(exact bA),by show Nq r228 r2;(exact bA),by show Nq r228 r3;(exact bA)⟩,by show 18-(j+1)<18-j;omega, ?_⟩;dsimp only;rw[hnx];exact aJ
 have he:=rB (f:=GU) hj1 hj2 (rR (b:=18) g27);rw[he];refine dZ (iD (r:=r3) (q:=q1) cJ bH (.cons (.refl _) (.cons (.refl _) (.cons (.refl _) (.cons (.refl _) (.cons (.refl _) (.cons (.refl _) (.cons (.refl _) (.cons (.refl _) (.cons (.refl _) (.cons (.refl _) (.cons (.refl _) (.cons (.refl _) (.cons (.refl _) (.cons (aM aO (by simp)) .nil))))))))))))))) ?_;refine pM ?_;refine jJ ?_;exact aD aE ⟨by rfl,rfl⟩ aA
end Go.Proofs.YtjpdadobblffmaaGreat
namespace Go.Proofs.YtjpdadobblffmaaGreat
open Go.RowKit Go.ChangeShapes Go.WideShapes Go.ChangeAt Go.Deep
def smallM:Md:=⟨[⟨[1,1],[1]⟩],[],[0],IT,IT,[],[⟨[97,100,100],0⟩],[],[⟨[],[⟨32,0,0,[]⟩,⟨32,1,0,[]⟩,⟨106,0,0,[]⟩]⟩],[]⟩
def fun0:Md:= { md0 with fn:=[0] }
theorem small_wo:smallM.WO:=by
 refine⟨⟨by simp[smallM], ?_, ?_,by simp[smallM],by simp[smallM]⟩, ?_,by simp[smallM]⟩
 ·intro x hx;obtain rfl:x=⟨[97,100,100],0⟩:=by simpa[smallM]using hx
  exact⟨by decide,by decide⟩
 ·intro x hx;obtain rfl:x=⟨[],[⟨32,0,0,[]⟩,⟨32,1,0,[]⟩,⟨106,0,0,[]⟩]⟩:=by simpa[smallM]using hx
  decide
 ·intro x hx;obtain rfl:x=⟨[],[⟨32,0,0,[]⟩,⟨32,1,0,[]⟩,⟨106,0,0,[]⟩]⟩:=by simpa[smallM]using hx
  intro i hi;simp only[List.mem_cons,List.not_mem_nil,or_false]at hi;rcases hi with rfl|rfl|rfl<;>exact⟨by decide,by decide,by decide,by decide,by decide⟩
theorem aFE:qZ smallM=true:=by decide
theorem YN:(fI smallM).length≤8000∧8<(fI smallM).length:=by
 have h1:gG ⟨32,0,0,[]⟩=[32,0]:=by
  have f:aW 32=3:=by decide
  simp[gG,fT,f,uN]
 have h2:gG ⟨32,1,0,[]⟩=[32,1]:=by
  have f:aW 32=3:=by decide
  simp[gG,fT,f,uN]
 have h3:gG ⟨106,0,0,[]⟩=[106]:=by
  have f:aW 106=1:=by decide
  simp[gG,fT,f]
 have:(fI smallM).length=41:=by
  simp[fI,smallM,headB,bJ,bD,uN,wM,kB,cH,nO,bS,kP,cD,iS,h1,h2,h3,gP,IT]
 omega
theorem CY:mT smallM=true:=by
 rw[xK,aFE,Bool.true_and];exact decide_eq_true YN.1
theorem KP:oT smallM=fI smallM:=if_pos CY
theorem aAw:zG (oT smallM)=(smallM,0):=by rw[KP];exact aCh CY small_wo.ok
theorem aCP:∀c∈oT smallM,c<256:=YF small_wo
theorem aFF:mT md0=true:=by
 have h:(fI md0).length=8:=by simp[fI,md0,headB,bJ,gP,IT]
 rw[xK,show qZ md0=true by decide,Bool.true_and,h];decide
theorem aFG:(oT md0).length=8:=by
 unfold oT;rw[if_pos aFF];simp[fI,md0,headB,bJ,gP,IT]
theorem YO:fun0.WO:=⟨⟨by simp[fun0,md0],by simp[fun0,md0],by simp[fun0,md0],by simp[fun0,md0],by simp[fun0,md0]⟩,by simp[fun0,md0],by simp[fun0,md0]⟩
theorem aCQ:mT fun0=false:=by rw[xK,show qZ fun0=false by decide];rfl
theorem aK4:zG [120]=(md0,1):=by
 unfold zG;rw[if_neg (by decide),if_pos (by decide)]
theorem aCR:eqM smallM md0=false:=by decide
end Go.Proofs.YtjpdadobblffmaaGreat
namespace Go.Proofs.YtjpdadobblffmaaGreat
open Go.RowKit Go.ChangeShapes Go.WideShapes Go.ChangeAt Go.Deep
attribute [local irreducible] SW RS RD fH eH
def aK5 (x:Ins):List AV:=[.int .i64 x.op,.int .i64 x.a,.int .i64 x.b,.ro 0 [] .nil]
theorem zJ{l:List Ins}(h:∀x∈l,x.l=[]){k:Rk}:VLe (.ro 4 (l.map aK5) k) (.ro 4 (l.map (iv .any)) k):=by
 refine VLe.ro (by simp) ?_ ?_
 ·intro x hx;simp only[List.mem_map]at hx;obtain⟨o,-,rfl⟩:=hx;exact⟨rfl,by simp[iv,AV.cell]⟩
 ·intro i e e' h1 h2;simp only[List.getElem?_map,Option.map_eq_some_iff]at h1 h2;obtain⟨o,ho,rfl⟩:=h1;obtain⟨o',ho',rfl⟩:=h2;obtain rfl:=Option.some.inj (ho.symm.trans ho');have hl:=h o (List.mem_of_getElem? ho);refine⟨rfl,fun j a a' ha ha'=> ?_⟩;unfold iv at ha';rw[hl]at ha'
  match j with
  |0=>cases ha;cases ha';exact VLe.refl _
  |1=>cases ha;cases ha';exact VLe.refl _
  |2=>cases ha;cases ha';exact VLe.refl _
  |3=>cases ha;cases ha';exact VLe.empty
  | _ +4=>cases ha
theorem NC{es:List (List AV)}:VLe (.agg [.ro 0 [] .nil,.ro 4 es .any]) (.agg [.ro 1 ([].map aR) .any,.ro 4 es .any]):=by
 refine VLe.agg rfl fun j a a' ha ha'=> ?_
 match j with
 |0=>cases ha;cases ha';exact VLe.empty
 |1=>cases ha;cases ha';exact VLe.refl _
 | _ +2=>cases ha
theorem YP:VLe (.agg [.ro 0 [] .nil,.ro 0 [] .nil,.ro 0 [] .nil,.bool false,.int .i64 0,.int .i64 0,.bool false,.int .i64 0,.int .i64 0,.ro 0 [] .nil,.ro 0 [] .nil,.ro 0 [] .nil,.ro 0 [] .nil,.ro 0 [] .nil]) (.agg (aS md0)):=by
 refine VLe.agg rfl fun j a a' ha ha'=> ?_
 match j with
 |0=>cases ha;cases ha';exact VLe.empty
 |1=>cases ha;cases ha';exact VLe.empty
 |2=>cases ha;cases ha';exact VLe.empty
 |3=>cases ha;cases ha';exact VLe.refl _
 |4=>cases ha;cases ha';exact VLe.refl _
 |5=>cases ha;cases ha';exact VLe.refl _
 |6=>cases ha;cases ha';exact VLe.refl _
 |7=>cases ha;cases ha';exact VLe.refl _
 |8=>cases ha;cases ha';exact VLe.refl _
 |9=>cases ha;cases ha';exact VLe.empty
 |10=>cases ha;cases ha';exact VLe.empty
 |11=>cases ha;cases ha';exact VLe.empty
 |12=>cases ha;cases ha';exact VLe.empty
 |13=>cases ha;cases ha';exact VLe.empty
 | _ +14=>cases ha
theorem SM:VLe (.agg [.ro 0 [] .nil,.ro 0 [] .nil,.ro 1 [[.int .i64 0]] .any,.bool false,.int .i64 0,.int .i64 0,.bool false,.int .i64 0,.int .i64 0,.ro 0 [] .nil,.ro 0 [] .nil,.ro 0 [] .nil,.ro 0 [] .nil,.ro 0 [] .nil]) (.agg (aS fun0)):=by
 refine VLe.agg rfl fun j a a' ha ha'=> ?_
 match j with
 |0=>cases ha;cases ha';exact VLe.empty
 |1=>cases ha;cases ha';exact VLe.empty
 |2=>cases ha;cases ha';exact VLe.refl _
 |3=>cases ha;cases ha';exact VLe.refl _
 |4=>cases ha;cases ha';exact VLe.refl _
 |5=>cases ha;cases ha';exact VLe.refl _
 |6=>cases ha;cases ha';exact VLe.refl _
 |7=>cases ha;cases ha';exact VLe.refl _
 |8=>cases ha;cases ha';exact VLe.refl _
 |9=>cases ha;cases ha';exact VLe.empty
 |10=>cases ha;cases ha';exact VLe.empty
 |11=>cases ha;cases ha';exact VLe.empty
 |12=>cases ha;cases ha';exact VLe.empty
 |13=>cases ha;cases ha';exact VLe.empty
 | _ +14=>cases ha
def smallIs:List Ins:=[⟨32,0,0,[]⟩,⟨32,1,0,[]⟩,⟨106,0,0,[]⟩]
theorem CZ:SCall Tryz.prog 50 [] [] (fun y σ=>y=.agg (aS smallM)∧σ=[]):=by
 refine cC 15 [0] Tryz.func50 ?_;refine dG ?_;refine jZ fun r0 h0=> ?_;intros
 refine kU ?_;refine dG ?_;refine eS fun r1 h1=> ?_;intros
 refine iR (j:=1) rfl bH (aM aO (by simp)) ?_;refine eS fun r2 h2=> ?_;intros
 refine iR (j:=2) rfl bH (aM aO (by simp)) ?_;refine jY ?_;refine eS fun r4 h4=> ?_;intros
 refine iR (j:=4) rfl bH (aM aO (by simp)) ?_;refine eS fun r5 h5=> ?_;intros
 refine iR (j:=5) rfl bH (aM aO (by simp)) ?_;refine jY ?_;refine eS fun r7 h7=> ?_;intros
 refine iR (j:=7) rfl bH (aM aO (by simp)) ?_;refine jY ?_;refine jY ?_;refine jY ?_;refine eS fun r11 h11=> ?_;intros
 refine iR (j:=11) rfl bH (aM aO (by simp)) ?_;refine jT (eK (j:=11) rfl (zJ (l:=smallIs) (by simp[smallIs]))) ?_;refine jY ?_;refine jT (eK (j:=12) rfl NC) ?_;refine eS fun r13 h13=> ?_;intros
 refine iR (j:=13) rfl bH (aM aO (by simp)) ?_;refine jY ?_;refine nY ?_;refine an ?_;refine dZ (iE (r:=r0) (cs':=aS smallM) cJ (.cons (.refl _) (.cons (.le VLe.empty) (.cons (.refl _) (.cons (.refl _) (.cons (.refl _) (.cons (.refl _) (.cons (.refl _) (.cons (.refl _) (.cons (.refl _) (.cons (.le VLe.empty) (.cons (.refl _) (.cons (.le VLe.empty) (.cons (.refl _) (.cons (.le VLe.empty) .nil))))))))))))))) ?_;refine aI ?_;exact aD aE ⟨by rfl,rfl⟩ aA
theorem KQ:(oT smallM).length≤8000∧8<(oT smallM).length:=by rw[KP];exact YN
theorem VZ:SCall Tryz.prog 16 [] [] (fun y σ=>y=.bool true∧σ=[]):=by
 have w1:=DQ (oT smallM) (by have:=KQ.1;omega) aCP;rw[aAw]at w1;have w2:=DQ [120] (by decide) (by decide);rw[aK4]at w2;have w3:=BB smallM small_wo;rw[CY]at w3;have w4:=YM smallM smallM small_wo.w small_wo.w;rw[aCL]at w4;have w5:=YM smallM md0 small_wo.w wo0.w;rw[aCR]at w5;have w6:=wQ md0 wo0;have w7:=BB fun0 YO;rw[aCQ]at w7;have h8:=KQ.2;refine cC 59 [0,1,2,3,4,6] Tryz.func16 ?_;refine sR ?_;refine HX [] Tryz.call50 CZ ?_;refine jZ fun r1 h1=> ?_;intros
 refine nY ?_;refine pM ?_;refine sE Tryz.call18 (wQ smallM small_wo) rfl bW kH ?_;rintro _ σ' ⟨q9,rfl,rfl⟩ h9
 replace h9:=cN h9;repeat rcases h9 with⟨_,h9⟩
 apply aZ;exact bN;refine iR (j:=9) rfl bH (aM aO (by simp)) ?_;refine iF ?_;refine cw [] Tryz.call20 w1 rfl aC aA ?_;rintro _ σ' ⟨rfl,rfl⟩ h12;refine yG ?_;refine jZ fun r3 h3=> ?_;intros
 apply HW;rfl;rfl;rfl;rfl;exact jU;refine jC ?_;refine eS fun r16 h16=> ?_;intros
 refine cvm (len:=1) cJ (by decide) ?_;refine iR (j:=17) rfl bH (aM aO (by simp)) ?_;refine cw [] Tryz.call20 w2 rfl aC aA ?_;rintro _ σ' ⟨rfl,rfl⟩ h18;refine yG ?_;refine jZ fun r5 h5=> ?_;intros
 apply HW;rfl;rfl;rfl;rfl;exact jU;refine jC ?_;refine mP ?_;refine lS Tryz.call51 w3 rfl aU bC ?_;refine lM ?_;refine rK ?_;refine LN ?_;rw[show decide ((8:Int)<((oT smallM).length:Int))=true from decide_eq_true (by omega)];refine qT ?_;refine sL ?_;rw[show((0:Int)==0)=true from rfl];refine uX ?_;refine AI ?_;refine aD4 ?_;refine gy rfl rfl ?_;refine lS Tryz.call52 w4 rfl aU bC ?_;refine uX ?_;refine AI ?_;refine aHC ?_;refine jT (eK (j:=39) rfl YP) ?_;refine gy rfl rfl ?_;refine lS Tryz.call52 w5 rfl aU bC ?_;refine uY ?_;rw[show(!false)=true from rfl];refine qT ?_;refine sL ?_;rw[show((1:Int)==1)=true from rfl];refine uX ?_;refine lo (aF (E rfl)) rfl ?_;refine aHC ?_;refine jT (eK (j:=48) rfl YP) ?_;refine gy rfl rfl ?_;refine sE Tryz.call18 w6 rfl bW kH ?_;rintro _ σ' ⟨q49,rfl,rfl⟩ h49
 replace h49:=cN h49;repeat rcases h49 with⟨_,h49⟩
 apply aZ;exact bN;refine rK ?_;refine sL ?_;rw[aFG,show(((8:Nat):Int)==8)=true from rfl];refine uX ?_;refine lo (aF (E rfl)) rfl ?_;refine fz4 fun r54 h54=> ?_;intros
 refine iR (j:=54) rfl bH (aM aO (by simp)) ?_;refine aHC ?_;refine jT (eK (j:=55) rfl SM) ?_;refine gy rfl rfl ?_;refine lS Tryz.call51 w7 rfl aU bC ?_;refine ZQ ?_;exact aD aE ⟨by rfl,rfl⟩ aA
end Go.Proofs.YtjpdadobblffmaaGreat
namespace Go.Proofs.YtjpdadobblffmaaGreat
open Go.RowKit Go.ChangeShapes Go.WideShapes Go.ChangeAt Go.Deep
structure Ct where
 op:Int
 kd:Int
 ht:Nat
 dd:Bool
structure PS where
 vs:List Int
 cs:List Ct
 bad:Bool
def mM (c:Ct):List AV:=[.int .i64 c.op,.int .i64 c.kd,.int .i64 c.ht,.bool c.dd]
def ct0:Ct:=⟨0,0,0,false⟩
def PS.top (s:PS):Ct:=s.cs.getLast?.getD ct0
def dD (s:PS) (ok:Bool):PS:=⟨s.vs,s.cs,if s.bad=true then true else !ok⟩
def fO (s:PS) (ks:List Int):PS:=⟨s.vs++ks,s.cs,s.bad⟩
def cR (s:PS) (w:Int):Int×PS:=
 if((s.vs.length:Int)==s.top.ht)=true then(w,dD s s.top.dd)
 else if(s.vs.getLast?.getD 0==0)=true then(w,⟨s.vs.dropLast,s.cs,s.bad⟩)
 else(s.vs.getLast?.getD 0,dD ⟨s.vs.dropLast,s.cs,s.bad⟩ (if(w==0)=true then true else(s.vs.getLast?.getD 0==w)))
def dR (s:PS) (ks:List Int):PS:=ks.reverse.foldl (fun s k=>(cR s k).2) s
def aY (k:Int):List Int:=if(k==0)=true then []else [k]
def openP (s:PS) (op kd:Int):PS:=⟨s.vs,s.cs++ [⟨op,kd,s.vs.length,false⟩],s.bad⟩
def fX (s:PS):PS:=
 let s1:=dR s (aY s.top.kd)
 let s2:=dD s1 ((s1.vs.length:Int)==s.top.ht)
 ⟨s2.vs,s2.cs.dropLast,s2.bad⟩
def oU (s:PS):PS:=⟨s.vs.take s.top.ht,s.cs.dropLast++ [⟨s.top.op,s.top.kd,s.top.ht,true⟩],s.bad⟩
def cU (s:PS) (n:Int):List Int×PS:=
 if decide ((s.cs.length:Int)≤n)=true then([],⟨s.vs,s.cs,true⟩)
 else(if((s.cs.getD (s.cs.length-1-n.toNat) ct0).op==3)=true then []else aY (s.cs.getD (s.cs.length-1-n.toNat) ct0).kd,s)
def sF:FT:=⟨[],[]⟩
def cM (m:Md) (t:Int):FT×Bool:=if(if decide (t<0)=true then true else decide ((m.ty.length:Int)≤t))=true then(sF,false)else(m.ty.getD t.toNat sF,true)
def kZ (m:Md) (f:Int):Int:=
 if decide (f<m.im.length)=true then(m.im.getD f.toNat ⟨[],[],0⟩).ty
 else if decide (f-m.im.length<m.fn.length)=true then m.fn.getD (f-m.im.length).toNat 0
 else-1
def rC (s:PS) (t:FT) (ok:Bool):PS:=fO (dR (dD s ok) t.pr) t.rs
def eq1 (a b:List Int):Bool:=if((a.length:Int)==b.length)=true then(if((a.length:Int)==0)=true then true else(a.headD 0==b.headD 0))else false
def xX (w:List Int) (s:PS) (n:Int):PS:=dD (cU s n).2 (eq1 (cU s n).1 w)
def tW (s:PS) (x:Ins):PS:=
 let r:=cU (cR s 1).2 x.a
 oU (dR (x.l.foldl (xX r.1) r.2) r.1)
def cL (m:Md) (s:PS) (x:Ins):Bool×PS:=
 if(x.op==0)=true then(true,oU s)
 else if(x.op==1)=true then(true,s)
 else if(x.op==2||x.op==3)=true then(true,openP s x.op x.a)
 else if(x.op==4)=true then(true,openP (cR s 1).2 x.op x.a)
 else if(x.op==5)=true then(true,openP (fX s) 5 s.top.kd)
 else if(x.op==11)=true then(true,fO (dD (fX s) (if(s.top.op !=4)=true then true else(s.top.kd==0))) (aY s.top.kd))
 else if(x.op==12)=true then(true,oU (dR (cU s x.a).2 (cU s x.a).1))
 else if(x.op==13)=true then(true,let r:=cU (cR s 1).2 x.a;fO (dR r.2 r.1) r.1)
 else if(x.op==14)=true then(true,tW s x)
 else if(x.op==15)=true then(true,oU (dR s (aY (s.cs.getD 0 ct0).kd)))
 else if(x.op==16)=true then(true,let t:=cM m (kZ m x.a);rC s t.1 t.2)
 else if(x.op==17)=true then(true,let t:=cM m x.a;rC (cR (dD s m.tb.has) 1).2 t.1 t.2)
 else(false,s)
def cV (ls:List Int) (s:PS) (n:Int):Int×PS:=if decide ((ls.length:Int)≤n)=true then(0,⟨s.vs,s.cs,true⟩)else(ls.getD n.toNat 0,s)
def KR:Gl:=⟨false,0,0⟩
def eC (m:Md) (s:PS) (n:Int):Gl×PS:=if decide ((m.gl.length:Int)≤n)=true then(KR,⟨s.vs,s.cs,true⟩)else(m.gl.getD n.toNat KR,s)
def gD (m:Md) (s:PS) (x:Ins) (al:Int) (tk mk:List Int):PS:=fO (dR (dD s (if m.me.has=true then decide (x.a≤al)else false)) tk) mk
def dW (m:Md) (ls:List Int) (s:PS) (x:Ins):PS:=
 if(x.op==26)=true then(cR s 0).2
 else if(x.op==27)=true then
  let s1:=(cR s 1).2;let r:=cR s1 0;let r2:=cR r.2 r.1;fO r2.2 [r2.1]
 else if(x.op==32)=true then let r:=cV ls s x.a;fO r.2 [r.1]
 else if(x.op==33)=true then let r:=cV ls s x.a;(cR r.2 r.1).2
 else if(x.op==34)=true then let r:=cV ls s x.a;let r2:=cV ls (cR r.2 r.1).2 x.a;fO r2.2 [r2.1]
 else if(x.op==35)=true then let r:=eC m s x.a;fO r.2 [r.1.kd]
 else if(x.op==36)=true then let r:=eC m s x.a;(cR (dD r.2 r.1.mu) r.1.kd).2
 else if(x.op==40)=true then gD m s x 2 [1] [1]
 else if(x.op==41)=true then gD m s x 3 [1] [2]
 else if(x.op==44||x.op==45)=true then gD m s x 0 [1] [1]
 else if(x.op==54)=true then gD m s x 2 [1,1] []
 else if(x.op==55)=true then gD m s x 3 [1,2] []
 else if(x.op==58)=true then gD m s x 0 [1,1] []
 else if(x.op==63)=true then gD m s x 0 [] [1]
 else if(x.op==64)=true then gD m s x 0 [1] [1]
 else if(x.op==65)=true then fO s [1]
 else if(x.op==66)=true then fO s [2]
 else let k:=kN x.op;fO (dR (dD s k.2.2) k.1) [k.2.1]
def gE (m:Md) (ls:List Int) (s:PS) (x:Ins):PS:=let r:=cL m s x;if r.1=true then r.2 else dW m ls r.2 x
def zQ (m:Md) (ls:List Int):List Ins→PS→PS
 |[],s=>s
 |x::l,s=>let s':=gE m ls s x;if s'.bad=true then s' else zQ m ls l s'
def EB (m:Md) (k:Int):Bool:=
 if(if(if decide (k<0)=true then true else decide ((m.co.length:Int)≤k))=true then true else decide ((m.fn.length:Int)≤k))=true then false
 else
  let c:=m.co.getD k.toNat ⟨[],[]⟩
  let t:=cM m (m.fn.getD k.toNat 0)
  if(if(!t.2)=true then true else !(xV (cW c.bd)))=true then false
  else
   let ls:=t.1.pr++c.ls
   let s:=zQ m ls c.bd (openP ⟨[],[],false⟩ 2 (if decide ((0:Int)<t.1.rs.length)=true then t.1.rs.headD 0 else 0))
   if s.bad=true then false else(if(!(fX s).bad)=true then decide ((ls.length:Int)≤32)else false)
structure PS.Ok0 (s:PS):Prop where
 le:∀c∈s.cs,c.ht≤s.vs.length
 up:s.cs.Pairwise fun a b=>a.ht≤b.ht
structure PS.Ok (s:PS):Prop extends s.Ok0 where
 ne:s.cs≠ []
theorem GW{vs:List Int}{i:List Ct}{t:Ct}{b:Bool}:PS.top ⟨vs,i++ [t],b⟩=t:=by simp[PS.top]
theorem PS.Ok0.split {vs:List Int}{i:List Ct}{t:Ct}{b:Bool}(h:PS.Ok0 ⟨vs,i++ [t],b⟩):(∀c∈i,c.ht≤t.ht)∧t.ht≤vs.length∧i.Pairwise (fun a b=>a.ht≤b.ht):=by
 obtain⟨h1,h2⟩:=h;rw[List.pairwise_append]at h2;exact⟨fun c hc=>h2.2.2 c hc t (by simp),h1 t (by simp),h2.1⟩
theorem PS.Ok.cut {s:PS}(h:s.Ok):∃i,s.cs=i++ [s.top]:=by
 obtain⟨vs,cs,b⟩:=s;have hn:=h.ne;rcases List.eq_nil_or_concat cs with rfl|⟨i,t,rfl⟩
 ·exact absurd rfl hn
 ·rw[List.concat_eq_append];exact⟨i,by rw[GW]⟩
theorem YQ(s:PS)(b:Bool):(dD s b).cs=s.cs:=rfl
theorem EU(s:PS)(b:Bool):(dD s b).vs=s.vs:=rfl
theorem PS.Ok.need {s:PS}(h:s.Ok)(b:Bool):(dD s b).Ok:=⟨⟨h.le,h.up⟩,h.ne⟩
theorem zK(s:PS)(w:Int):(cR s w).2.cs=s.cs:=by unfold cR;split<;>(try split)<;>rfl
theorem tX(s:PS)(w:Int):(cR s w).2.vs.length≤s.vs.length:=by
 unfold cR;split
 ·exact Nat.le_refl _
 ·split
  ·simp
  ·simp[dD]
theorem PS.Ok.pop {s:PS}(h:s.Ok)(w:Int):(cR s w).2.Ok:=by
 obtain⟨i,hi⟩:=h.cut;have h0:=h.toOk0;have hne:=h.ne;obtain⟨vs,cs,b⟩:=s;dsimp only at hi;generalize PS.top ⟨vs,cs,b⟩=t at hi;subst hi;obtain⟨h1,h2,h3⟩:=h0.split;have key:¬(vs.length:Int)==t.ht→∀b',PS.Ok ⟨vs.dropLast,i++ [t],b'⟩:=fun hl b'=>by
  have hl:vs.length≠t.ht:=fun e=>hl (by rw[e];exact beq_self_eq_true _)
  refine⟨⟨fun c hc=> ?_,h0.up⟩,by simp⟩;show c.ht≤vs.dropLast.length;rw[List.length_dropLast];rcases List.mem_append.1 hc with hc|hc
  ·have:=h1 c hc;omega
  ·obtain rfl:=List.mem_singleton.1 hc;omega
 unfold cR;rw[GW];split
 ·exact h.need _
 ·next hl=>
  split
  ·exact key hl b
  ·exact(key hl b).need _
theorem aAx(s:PS)(ks:List Int)(k:Int):dR s (ks++ [k])=dR (cR s k).2 ks:=by simp[dR]
theorem BI{p:PS→Prop}(h:∀s w,p s→p (cR s w).2):∀(ks:List Int) (s:PS),p s→p (dR s ks):=by
 have:∀(l:List Int) (s:PS),p s→p (l.foldl (fun s k=>(cR s k).2) s):=by
  intro l
  induction l with
  |nil=>intro s hs;exact hs
  |cons a l ih=>intro s hs;exact ih _ (h s a hs)
 intro ks s hs;exact this _ s hs
theorem qC(s:PS)(ks:List Int):(dR s ks).cs=s.cs:=BI (p:=fun q=>q.cs=s.cs) (fun q w h=>by rw[zK,h]) ks s rfl
theorem oV(s:PS)(ks:List Int):(dR s ks).vs.length≤s.vs.length:=BI (p:=fun q=>q.vs.length≤s.vs.length) (fun q w h=>Nat.le_trans (tX q w) h) ks s (Nat.le_refl _)
theorem PS.Ok.pops {s:PS}(h:s.Ok)(ks:List Int):(dR s ks).Ok:=BI (fun q w h=>h.pop w) ks s h
theorem PS.Ok0.push {s:PS}(h:s.Ok0)(ks:List Int):(fO s ks).Ok0:=⟨fun c hc=>by have:=h.le c hc;simp[fO];omega,h.up⟩
theorem PS.Ok.push {s:PS}(h:s.Ok)(ks:List Int):(fO s ks).Ok:=⟨h.toOk0.push ks,h.ne⟩
theorem PS.Ok0.openP {s:PS}(h:s.Ok0)(op kd:Int):(openP s op kd).Ok:=by
 refine⟨⟨fun c hc=> ?_, ?_⟩,by simp[Proofs.YtjpdadobblffmaaGreat.openP]⟩
 ·rcases List.mem_append.1 hc with hc|hc
  ·exact h.le c hc
  ·obtain rfl:=List.mem_singleton.1 hc;exact Nat.le_refl _
 ·show(s.cs++ [_]).Pairwise _;rw[List.pairwise_append];exact⟨h.up,by simp,fun a ha b hb=>by obtain rfl:=List.mem_singleton.1 hb;exact h.le a ha⟩
theorem PS.Ok.dropc {s:PS}(h:s.Ok):PS.Ok0 ⟨s.vs,s.cs.dropLast,s.bad⟩:=⟨fun c hc=>h.le c (List.dropLast_subset _ hc),h.up.sublist (List.dropLast_sublist _)⟩
theorem PS.Ok.shut {s:PS}(h:s.Ok):(fX s).Ok0:=((h.pops _).need _).dropc
theorem EV(s:PS):(fX s).cs=s.cs.dropLast:=by show(dR s _).cs.dropLast=_;rw[qC]
theorem GX(s:PS):(fX s).vs.length≤s.vs.length:=oV _ _
theorem PS.Ok0.ok {s:PS}(h:s.Ok0)(hn:s.cs≠ []):s.Ok:=⟨h,hn⟩
theorem PS.Ok.dead {s:PS}(h:s.Ok):(oU s).Ok:=by
 obtain⟨i,hi⟩:=h.cut;have h0:=h.toOk0;obtain⟨vs,cs,b⟩:=s;dsimp only at hi;have hT:oU ⟨vs,cs,b⟩=⟨vs.take (PS.top ⟨vs,cs,b⟩).ht,cs.dropLast++ [⟨(PS.top ⟨vs,cs,b⟩).op,(PS.top ⟨vs,cs,b⟩).kd,(PS.top ⟨vs,cs,b⟩).ht,true⟩],b⟩:=rfl;rw[hT];generalize PS.top ⟨vs,cs,b⟩=t at hi;subst hi;obtain⟨h1,h2,h3⟩:=h0.split;refine⟨⟨fun c hc=> ?_, ?_⟩,by simp⟩
 ·show c.ht≤(vs.take t.ht).length;rw[List.length_take,Nat.min_eq_left h2];simp only[List.dropLast_concat]at hc;rcases List.mem_append.1 hc with hc|hc
  ·exact h1 c hc
  ·obtain rfl:=List.mem_singleton.1 hc;exact Nat.le_refl _
 ·simp only[List.dropLast_concat];rw[List.pairwise_append];exact⟨h3,by simp,fun a ha b hb=>by obtain rfl:=List.mem_singleton.1 hb;exact h1 a ha⟩
theorem BJ(s:PS):(oU s).vs.length≤s.vs.length:=by simp[oU];omega
theorem EW{s:PS}(h:s.Ok):(oU s).cs.length=s.cs.length:=by
 have:0<s.cs.length:=List.length_pos_iff.2 h.ne;simp[oU];omega
theorem wY(s:PS)(n:Int):(cU s n).2.cs=s.cs:=by unfold cU;split<;>rfl
theorem wZ(s:PS)(n:Int):(cU s n).2.vs=s.vs:=by unfold cU;split<;>rfl
theorem PS.Ok.label {s:PS}(h:s.Ok)(n:Int):(cU s n).2.Ok:=by unfold cU;split;exact⟨⟨h.le,h.up⟩,h.ne⟩;exact h
theorem rD(k:Int):(aY k).length≤1:=by unfold aY;split<;>simp
theorem oF(s:PS)(n:Int):(cU s n).1.length≤1:=by
 unfold cU;split
 ·simp
 ·dsimp only;split
  ·simp
  ·exact rD _
theorem BK(w:List Int)(l:List Int)(s:PS):(l.foldl (xX w) s).cs=s.cs∧(l.foldl (xX w) s).vs=s.vs∧(s.Ok→(l.foldl (xX w) s).Ok):=by
 induction l generalizing s with
 |nil=>exact⟨rfl,rfl,id⟩
 |cons a l ih=>
  obtain⟨h1,h2,h3⟩:=ih (xX w s a);rw[List.foldl_cons];exact⟨h1.trans (wY s a),h2.trans (wZ s a),fun h=>h3 ((h.label a).need _)⟩
theorem YR(s:PS)(ks:List Int):(fO s ks).cs=s.cs:=rfl
theorem BL(s:PS)(ks:List Int):(fO s ks).vs.length=s.vs.length+ks.length:=by simp[fO]
theorem GY(s:PS)(op kd:Int):(openP s op kd).cs.length=s.cs.length+1:=by simp[openP]
theorem PS.Ok.calls {s:PS}(h:s.Ok)(t:FT)(ok:Bool):(rC s t ok).Ok:=((h.need ok).pops _).push _
theorem SN(s:PS)(t:FT)(ok:Bool):(rC s t ok).cs=s.cs:=qC _ _
theorem KS(s:PS)(t:FT)(ok:Bool):(rC s t ok).vs.length≤s.vs.length+t.rs.length:=by
 unfold rC;rw[BL];have:=oV (dD s ok) t.pr;rw[EU]at this;omega
theorem PS.Ok.table {s:PS}(h:s.Ok)(x:Ins):(tW s x).Ok:=(((BK _ _ _).2.2 ((h.pop 1).label x.a)).pops _).dead
theorem aCS{s:PS}(h:s.Ok)(x:Ins):(tW s x).cs.length=s.cs.length:=by
 unfold tW;dsimp only;rw[EW (((BK _ _ _).2.2 ((h.pop 1).label x.a)).pops _),qC,(BK _ _ _).1,wY,zK]
theorem aAy(s:PS)(x:Ins):(tW s x).vs.length≤s.vs.length:=by
 unfold tW;dsimp only;refine Nat.le_trans (BJ _) (Nat.le_trans (oV _ _) ?_);rw[(BK _ _ _).2.1,wZ];exact tX _ _
def dK (op:Int):Int:=if(op==2||op==3||op==4)=true then 1 else if(op==11)=true then-1 else 0
def FT.Sm (t:FT):Prop:=t.pr.length≤100∧t.rs.length≤100
def Md.TS (m:Md):Prop:=∀t∈m.ty,t.Sm
theorem aK{α:Type}{c:Prop} [Decidable c] {p:α→Prop}{a b:α}(h1:c→p a)(h2:¬c→p b):p (if c then a else b):=by split;exact h1 ‹_›;exact h2 ‹_›
theorem qG{m:Md}(h:m.TS)(n:Int):(cM m n).1.Sm:=by
 unfold cM;refine aK (p:=fun r:FT×Bool=>r.1.Sm) (fun _=> ?_) (fun _=> ?_)
 ·exact⟨by simp[sF],by simp[sF]⟩
 ·show FT.Sm (m.ty.getD n.toNat sF);rw[List.getD_eq_getElem?_getD];cases hg:m.ty[n.toNat]? with
  |none=>exact⟨by simp[sF],by simp[sF]⟩
  |some t=>exact h t (List.mem_of_getElem? hg)
theorem qD{α:Type}(l:List α):l.dropLast.length=l.length-1:=List.length_dropLast
def aK7 (s:PS) (x:Ins) (r:Bool×PS):Prop:=r.2.Ok∧r.2.vs.length≤s.vs.length+100∧(r.2.cs.length:Int)=s.cs.length+(if r.1=true then dK x.op else 0)
theorem SO{m:Md}{s:PS}{x:Ins}(h:s.Ok)(hx:x.op=11→2≤s.cs.length)(hT:m.TS):aK7 s x (cL m s x):=by
 have hp:0<s.cs.length:=List.length_pos_iff.2 h.ne;unfold cL;refine aK (fun g=> ?_) (fun _=> ?_)
 ·have:=eq_of_beq g;exact⟨h.dead,by have:=BJ s;dsimp only;omega,by rw[EW h,this];simp[dK]⟩
 refine aK (fun g=> ?_) (fun _=> ?_)
 ·have:=eq_of_beq g;exact⟨h,by dsimp only;omega,by rw[this];simp[dK]⟩
 refine aK (fun g=> ?_) (fun _=> ?_)
 ·
  refine⟨h.toOk0.openP _ _,by show s.vs.length≤ _;omega, ?_⟩;dsimp only;rw[GY];simp only[Bool.or_eq_true,beq_iff_eq]at g;rcases g with g|g<;>(rw[g];simp[dK])
 refine aK (fun g=> ?_) (fun _=> ?_)
 ·
  refine⟨(h.pop 1).toOk0.openP _ _,by have:=tX s 1;show(cR s 1).2.vs.length≤ _;omega, ?_⟩;dsimp only;rw[GY,zK,eq_of_beq g];simp[dK]
 refine aK (fun g=> ?_) (fun _=> ?_)
 ·
  refine⟨h.shut.openP _ _,by have:=GX s;show(fX s).vs.length≤ _;omega, ?_⟩;dsimp only;rw[GY,EV,qD,eq_of_beq g];simp[dK];omega
 refine aK (fun g=> ?_) (fun _=> ?_)
 ·
  have h2:=hx (eq_of_beq g);have hne:(fX s).cs≠ []:=by rw[EV];exact List.length_pos_iff.1 (by rw[qD];omega)
  refine⟨((h.shut.ok hne).need _).push _, ?_, ?_⟩
  ·have h3:=GX s;have h4:=rD s.top.kd;dsimp only;rw[BL,EU];omega
  ·dsimp only;rw[YR,YQ,EV,qD,eq_of_beq g];simp[dK];omega
 refine aK (fun g=> ?_) (fun _=> ?_)
 ·
  refine⟨((h.label _).pops _).dead, ?_, ?_⟩
  ·refine Nat.le_trans (BJ _) (Nat.le_trans (oV _ _) ?_);rw[wZ];omega
  ·dsimp only;rw[EW ((h.label _).pops _),qC,wY,eq_of_beq g];simp[dK]
 refine aK (fun g=> ?_) (fun _=> ?_)
 ·
  refine⟨(((h.pop 1).label _).pops _).push _, ?_, ?_⟩
  ·dsimp only;rw[BL];have h1:=oV (cU (cR s 1).2 x.a).2 (cU (cR s 1).2 x.a).1;rw[wZ]at h1;have h2:=tX s 1;have h3:=oF (cR s 1).2 x.a;omega
  ·dsimp only;rw[YR,qC,wY,zK,eq_of_beq g];simp[dK]
 refine aK (fun g=> ?_) (fun _=> ?_)
 ·exact⟨h.table x,by have:=aAy s x;dsimp only;omega,by dsimp only;rw[aCS h,eq_of_beq g];simp[dK]⟩
 refine aK (fun g=> ?_) (fun _=> ?_)
 ·
  refine⟨(h.pops _).dead, ?_, ?_⟩
  ·refine Nat.le_trans (BJ _) (Nat.le_trans (oV _ _) ?_);omega
  ·dsimp only;rw[EW (h.pops _),qC,eq_of_beq g];simp[dK]
 refine aK (fun g=> ?_) (fun _=> ?_)
 ·
  refine⟨h.calls _ _, ?_, ?_⟩
  ·have h1:=KS s (cM m (kZ m x.a)).1 (cM m (kZ m x.a)).2;have h2:=(qG hT (kZ m x.a)).2;dsimp only;omega
  ·dsimp only;rw[SN,eq_of_beq g];simp[dK]
 refine aK (fun g=> ?_) (fun _=> ?_)
 ·
  refine⟨((h.need _).pop _).calls _ _, ?_, ?_⟩
  ·have h1:=KS (cR (dD s m.tb.has) 1).2 (cM m x.a).1 (cM m x.a).2;have h2:=(qG hT x.a).2;have h3:=tX (dD s m.tb.has) 1;rw[EU]at h3;dsimp only;omega
  ·dsimp only;rw[SN,zK,YQ,eq_of_beq g];simp[dK]
 ·exact⟨h,by dsimp only;omega,by simp⟩
def Nxt (s:PS) (n:Nat) (q:PS):Prop:=q.Ok∧q.vs.length≤s.vs.length+n∧q.cs=s.cs
theorem PS.Ok.nxt {s:PS}(h:s.Ok):Nxt s 0 s:=⟨h,Nat.le_refl _,rfl⟩
theorem Nxt.pop {s q:PS}{n:Nat}(h:Nxt s n q)(w:Int):Nxt s n (cR q w).2:=⟨h.1.pop w,Nat.le_trans (tX q w) h.2.1,(zK q w).trans h.2.2⟩
theorem Nxt.pops {s q:PS}{n:Nat}(h:Nxt s n q)(ks:List Int):Nxt s n (dR q ks):=⟨h.1.pops ks,Nat.le_trans (oV q ks) h.2.1,(qC q ks).trans h.2.2⟩
theorem Nxt.need {s q:PS}{n:Nat}(h:Nxt s n q)(b:Bool):Nxt s n (dD q b):=⟨h.1.need b,h.2.1,h.2.2⟩
theorem Nxt.bad {s q:PS}{n:Nat}(h:Nxt s n q):Nxt s n ⟨q.vs,q.cs,true⟩:=⟨⟨⟨h.1.le,h.1.up⟩,h.1.ne⟩,h.2.1,h.2.2⟩
theorem Nxt.push {s q:PS}{n:Nat}(h:Nxt s n q)(ks:List Int)(k:Nat)(hk:n+ks.length≤k):Nxt s k (fO q ks):=⟨h.1.push ks,by rw[BL];have:=h.2.1;omega,h.2.2⟩
theorem Nxt.up {s q:PS}{n:Nat}(h:Nxt s n q)(k:Nat)(hk:n≤k):Nxt s k q:=⟨h.1,by have:=h.2.1;omega,h.2.2⟩
theorem Nxt.loc {s q:PS}{n:Nat}(h:Nxt s n q)(ls:List Int)(x:Int):Nxt s n (cV ls q x).2:=by unfold cV;split;exact h.bad;exact h
theorem Nxt.glob {s q:PS}{n:Nat}(h:Nxt s n q)(m:Md)(x:Int):Nxt s n (eC m q x).2:=by unfold eC;split;exact h.bad;exact h
theorem Nxt.acc {s q:PS}{n:Nat}(h:Nxt s n q)(m:Md)(x:Ins)(al:Int)(tk mk:List Int)(k:Nat)(hk:n+mk.length≤k):Nxt s k (gD m q x al tk mk):=((h.need _).pops _).push _ k hk
theorem aAz{m:Md}{ls:List Int}{s:PS}{x:Ins}(h:s.Ok):Nxt s 1 (dW m ls s x):=by
 have h:=h.nxt;unfold dW;refine aK (fun _=>(h.pop 0).up 1 (by omega)) (fun _=> ?_);refine aK (fun _=>Nxt.push (((h.pop 1).pop 0).pop _) _ 1 (by simp)) (fun _=> ?_);refine aK (fun _=>(h.loc ls x.a).push _ 1 (by simp)) (fun _=> ?_);refine aK (fun _=>Nxt.up ((h.loc ls x.a).pop _) 1 (by omega)) (fun _=> ?_);refine aK (fun _=>Nxt.push (((h.loc ls x.a).pop _).loc ls x.a) _ 1 (by simp)) (fun _=> ?_);refine aK (fun _=>(h.glob m x.a).push _ 1 (by simp)) (fun _=> ?_);refine aK (fun _=>Nxt.up (((h.glob m x.a).need _).pop _) 1 (by omega)) (fun _=> ?_);refine aK (fun _=>h.acc m x _ _ _ 1 (by simp)) (fun _=> ?_);refine aK (fun _=>h.acc m x _ _ _ 1 (by simp)) (fun _=> ?_);refine aK (fun _=>h.acc m x _ _ _ 1 (by simp)) (fun _=> ?_);refine aK (fun _=>h.acc m x _ _ _ 1 (by simp)) (fun _=> ?_);refine aK (fun _=>h.acc m x _ _ _ 1 (by simp)) (fun _=> ?_);refine aK (fun _=>h.acc m x _ _ _ 1 (by simp)) (fun _=> ?_);refine aK (fun _=>h.acc m x _ _ _ 1 (by simp)) (fun _=> ?_);refine aK (fun _=>h.acc m x _ _ _ 1 (by simp)) (fun _=> ?_);refine aK (fun _=>h.push _ 1 (by simp)) (fun _=> ?_);refine aK (fun _=>h.push _ 1 (by simp)) (fun _=> ?_);exact((h.need _).pops _).push _ 1 (by simp)
theorem BM{P:Program}{rs:Array ResultVar}{R:AV→dU→Prop}{s s':ASt}(hgo:SGo s s')(h:LF P rs R .normal s'):LF P rs R .normal s:=bY (aDU hgo h)
theorem YS{P:Program}{n:Nat}{op:Op}{ty:TypeId}{d:Nat}{s:ASt}{v:AV}{rs:List Nat}{K:ASt→Prop}(h:Lop P op ty s true v rs)(hd:d<n)(hK:K (s.put d v)):Hop P n op ty (some d) s [] K:=by
 intro M F N a w o ho ht hdst hr next Q hnext
 obtain⟨u,hu,hrun⟩:=h.2 M F N n a w hr rfl;obtain⟨dst,op',ty',pos,after,guard⟩:=o;dsimp only at ho ht hdst;subst ho ht hdst;unfold Oper.wp;rw[hrun w _ rfl rfl (fun _ _=>rfl)];exact hnext _ _ _ _ _ _ (hr.put hd hu) (Ext.refl _ _ _ _ _) (Only.refl _ _) hK
theorem dhl{P:Program}{n i d:Nat}{ops:Array Oper}{listed:Array Bool}{todo:List (Nat×Bool)}{held:List (Nat×List Nat)}{fr:Fr}{σ:dU}{K:ASt→Prop}{op:Op}{ty:TypeId}{pos:String}{af:Array Edge}{v:AV}{rs:List Nat}(hi:ops[i]? =some ⟨some d,op,ty,pos,af,none⟩)(h:Lop P op ty ⟨fr,σ⟩ true v rs)(hd:Nat.ble (d+1) n=true)(hK:RD P n ops (listed.setIfInBounds i true) todo held ⟨(d,v)::fr,σ⟩ K):
  RD P n ops listed ((i,false)::todo) held ⟨fr,σ⟩ K:=yQ hi (YS h (dL hd) hK)
end Go.Proofs.YtjpdadobblffmaaGreat
namespace Go.Proofs.YtjpdadobblffmaaGreat
open Go.RowKit Go.ChangeShapes Go.WideShapes Go.ChangeAt Go.Deep
attribute [local irreducible] SW RS RD fH eH
def mU (m:Md) (lv:AV) (p q:Nat) (vs:List Int) (cs:List Ct) (b:Bool):List AV:=[.ro 2 (m.ty.map cP) .any,.ro 3 (m.im.map eE) .any,.ro 1 (m.fn.map aR) .any,.bool m.tb.has,.int .i64 m.tb.mn,.int .i64 m.tb.mx,.bool m.me.has,.int .i64 m.me.mn,.int .i64 m.me.mx,
 .ro 3 (m.gl.map eA) .any,.ro 2 (m.ex.map dH) .any,.ro 2 (m.el.map dX) .any,.ro 2 (m.co.map dP) .any,.ro 2 (m.da.map eB) .any,lv,.own p 0 vs.length,.own q 0 cs.length,.bool b]
def dQ (r p q:Nat) (m:Md) (lv:AV) (s:PS):dU:=[(r,.box 128 (mU m lv p q s.vs s.cs s.bad)),(p,.arr 3 1 (s.vs.map aR)),(q,.arr 137 4 (s.cs.map mM))]
theorem aIT{e:Nat}{σ1 σ:dU}{C G:Prop}(h:(∃q∈σ1,q.1=e)∨Fresh e σ)(k:C)(g:Hold C→Fresh e (eO (σ1.map (·.1)) σ)→G:=by intro k q;unfold dQ at q;simp(disch:=(first|(simp only[List.mem_cons,List.not_mem_nil,true_or,or_true,or_false];done)|(focus (simp only[List.mem_cons,List.not_mem_nil,or_false,not_or];(repeat' (first|apply And.intro|(exact bA)));done))|omega)) only[List.map_cons,List.map_nil,lY,nU,qI,nV,aP,aX,and_true]at q;revert q;(repeat refine aBp ?_);exact k.h):G:=g ⟨k⟩ (tJ h)
structure PS.Gd (s:PS):Prop extends s.Ok where
 bv:s.vs.length≤1000000
 bc:s.cs.length≤1000000
theorem PS.Gd.need {s:PS}(h:s.Gd)(b:Bool):(dD s b).Gd:=⟨h.toOk.need b,h.bv,h.bc⟩
theorem PS.Gd.pop {s:PS}(h:s.Gd)(w:Int):(cR s w).2.Gd:=⟨h.toOk.pop w,Nat.le_trans (tX s w) h.bv,by rw[zK];exact h.bc⟩
theorem PS.Gd.pops {s:PS}(h:s.Gd)(ks:List Int):(dR s ks).Gd:=⟨h.toOk.pops ks,Nat.le_trans (oV s ks) h.bv,by rw[qC];exact h.bc⟩
def Nm (r p q:Nat):Prop:=Nq p r∧Nq q r∧Nq q p
theorem cF{P:Prop}(h:P:=by(try unfold dQ mU);(try dsimp only);exact aA):P:=h
theorem aCT{P:Prop}(h:P:=by(try unfold dQ mU);(try dsimp only);exact fS):P:=h
section
variable {r p q : Nat} {m : Md} {lv : AV}
theorem kJ(hN:Nm r p q)(s:PS)(ok:Bool):SCall Tryz.prog 189 [.ptr r 0,.bool ok] (dQ r p q m lv s) (fun _ σ=>σ=dQ r p q m lv (dD s ok)):=by
 obtain⟨vs,zs,b⟩:=s;obtain⟨n1,n2,n3⟩:=hN;refine cC 15 [0,1] Tryz.func189 ?_;unfold dQ mU;dsimp only;refine dF ?_;refine nN ?_;refine lM ?_;refine uY ?_;refine nX ?_;refine qO ?_;refine bY ?_;apply aD;exact aE
 ·rfl
 ·exact aA
theorem lX(hN:Nm r p q)(s:PS)(hs:s.vs.length≤1000000)(ks:List Int)(hk:ks.length≤1000):SCall Tryz.prog 190 [.ptr r 0,.ro 1 (ks.map aR) .any] (dQ r p q m lv s) (fun _ σ=>∃e,Nm r e q∧σ=dQ r e q m lv (fO s ks)):=by
 obtain⟨vs,zs,b⟩:=s;obtain⟨n1,n2,n3⟩:=hN;dsimp only at hs;refine cC 13 [0,1] Tryz.func190 ?_;unfold dQ mU;dsimp only;refine dF ?_;refine JT ?_;refine kI ((vs++ks).map aR) (vs++ks).length ?_;refine bL fun r10 h10=> ?_;intros
 refine qO ?_;refine bY ?_;exact aD aE ⟨r10,by exact⟨by(exact bA),by(exact bA),by(exact bA)⟩,rfl⟩ aA
theorem tY(k:Int):SCall Tryz.prog 191 [.int .i64 k] [] (fun y σ=>y=.ro 1 ((aY k).map aR) .any∧σ=[]):=by
 refine cC 7 [0,2,4] Tryz.func191 ?_;refine gX ?_;refine rL ?_;refine aB rfl (fun g1=> ?_) (fun g1=> ?_)
 ·rw[show aY k=[]from if_pos g1];refine dG ?_;refine pI ?_;refine dZ (eK (j:=2) (y:=.ro 1 (([]:List Int).map aR) .any) rfl VLe.empty) ?_;refine aI ?_;exact aD aE ⟨by rfl,rfl⟩ aA
 rw[show aY k=[k]from if_neg (by simp[g1])];refine dO ?_;refine eS fun r6 h6=> ?_;intros
 refine pI ?_;refine aAc (j:=2) rfl bH (aM aO (by simp)) ?_;refine aI ?_;exact aD aE ⟨by rfl,rfl⟩ aA
theorem xA(i:List Ct)(t:Ct):(i++ [t]).length=i.length+1:=by simp
theorem GZ(i:List Ct)(t:Ct):(i++ [t]).map mM=i.map mM++ [mM t]:=by simp
theorem ND(i:List Int)(t:Int):(i++ [t]).length=i.length+1:=by simp
theorem aCU(i:List Int)(t:Int):(i++ [t]).map aR=i.map aR++ [aR t]:=by simp
theorem rE{n:Nat}:(((n+1:Nat):Int)-1).toNat-0=n:=by omega
theorem pG(hN:Nm r p q)(s:PS)(h:s.Gd)(w:Int):SCall Tryz.prog 188 [.ptr r 0,.int .i64 w] (dQ r p q m lv s) (fun y σ=>y=.int .i64 (cR s w).1∧σ=dQ r p q m lv (cR s w).2):=by
 obtain⟨i,hi⟩:=h.cut;have h0:=h.toOk0;have hbv:=h.bv;have hbc:=h.bc;obtain⟨vs,zs,b⟩:=s;dsimp only at hi hbv hbc;generalize PS.top ⟨vs,zs,b⟩=t at hi;subst hi;rw[xA]at hbc;obtain⟨-,hh,-⟩:=h0.split;obtain⟨n1,n2,n3⟩:=hN;have hel:=sW (l:=i.map mM) (x:=mM t) (n:=i.length) (by simp);refine cC 71 [0,1,4,5,6,26,59] Tryz.func188 ?_;unfold dQ mU;dsimp only;rw[xA,GZ];refine bP ?_;refine fK [(0,true),(1,true),(2,true),(3,true),(4,true),(5,true),(6,true),(7,true),(8,true),(9,true),(10,true),(11,true),(12,false),(13,false)] ?_;refine pV ?_;refine sP ?_;refine HY ?_;refine xR ?_;apply dal;rfl;infer_instance;rfl;exact wA;refine kE fun r5 h5=> ?_;intros
 refine HZ ?_;refine kF ?_;refine fK [(0,true),(1,true),(2,true),(3,true),(4,true),(5,true),(6,true),(7,true)] ?_;refine DI ?_;refine fZ ?_;refine z79 ?_;refine kF ?_;refine aB rfl (fun g2=> ?_) (fun g2=> ?_)
 ·have hP:cR ⟨vs,i++ [t],b⟩ w=(w,dD ⟨vs,i++ [t],b⟩ t.dd):=by unfold cR;rw[GW,if_pos g2]
  rw[hP];refine nD ?_;refine cw (dQ r p q m lv ⟨vs,i++ [t],b⟩) Tryz.call189 (kJ ⟨n1,n2,n3⟩ _ t.dd) rfl aC cF ?_;rintro _ σ' rfl h30;refine mR ?_;refine eU ?_;refine cZ ?_;exact aD aE ⟨by rfl,rfl⟩ aA
 have hl:vs.length≠t.ht:=by intro e;rw[e]at g2;simp at g2
 obtain⟨ws,g,rfl⟩:∃ws g,vs=ws++ [g]:=by
  rcases List.eq_nil_or_concat vs with e|⟨ws,g,e⟩
  ·subst e;simp at hh hl;omega
  ·exact⟨ws,g,by rw[e,List.concat_eq_append]⟩
 have hel2:=sW (l:=ws.map aR) (x:=aR g) (n:=ws.length) (by simp);rw[ND]at hbv;rw[ND,aCU];refine aI ?_;refine fK [(0,true),(1,true),(2,true),(3,true),(4,true),(5,true),(6,true),(7,true),(8,true),(9,true),(10,true),(11,true),(12,true)] ?_;refine pV ?_;refine sP ?_;refine HY ?_;refine JP ?_;refine yV ?_;refine fK [(0,true),(1,true),(2,true),(3,true),(4,true),(5,true),(6,true),(7,true),(8,true),(9,true),(10,true),(11,true),(12,true),(13,true),(14,false)] ?_;refine AH ?_;refine sP ?_;refine UD ?_;refine z77 ?_;refine nC ?_;refine kF ?_;rw[rE];refine dZ (oJ (o:=p) ws.length cJ) ?_;rw[show List.take ws.length (ws.map aR++ [aR g])=ws.map aR by rw[List.take_left' (by simp)]];refine eU ?_;refine rL ?_;refine aB rfl (fun g7=> ?_) (fun g7=> ?_)
 ·have hP:cR ⟨ws++ [g],i++ [t],b⟩ w=(w,⟨ws,i++ [t],b⟩):=by unfold cR;rw[GW,if_neg (by simpa using g2)];simp at g7;simp[g7]
  rw[hP];refine fF ?_;exact aD aE ⟨by rfl,rfl⟩ aA
 have hP:cR ⟨ws++ [g],i++ [t],b⟩ w=(g,dD ⟨ws,i++ [t],b⟩ (if(w==0)=true then true else(g==w))):=by unfold cR;rw[GW,if_neg (by simpa using g2)];simp at g7;simp[g7]
 rw[hP];refine dF ?_;refine lo (cI (E rfl) (E rfl)) rfl ?_;refine lM ?_;refine nW ?_;refine aHy ?_;refine nX ?_;refine cw (dQ r p q m lv ⟨ws,i++ [t],b⟩) Tryz.call189 (kJ ⟨n1,n2,n3⟩ _ (if(w==0)=true then true else(g==w))) rfl aC cF ?_;rintro _ σ' rfl h69;refine mR ?_;refine eU ?_;refine cZ ?_;exact aD aE ⟨by rfl,rfl⟩ aA
theorem lG(hN:Nm r p q)(s:PS)(h:s.Gd)(ks:List Int)(hkl:ks.length≤100000):SCall Tryz.prog 192 [.ptr r 0,.ro 1 (ks.map aR) .any] (dQ r p q m lv s) (fun _ σ=>σ=dQ r p q m lv (dR s ks)):=by
 obtain⟨n1,n2,n3⟩:=hN;refine cC 18 [0,1,4,9] Tryz.func192 ?_;unfold dQ mU
 (try dsimp only);refine dO ?_;refine pH ?_;refine sK ?_;refine cZ ?_;refine lp (β:=Nat×PS) (fun b=>⟨[(0,.ptr r 0),(1,.ro 1 (ks.map aR) .any),(4,.int .i64 ((b.1:Int)-1))],dQ r p q m lv b.2⟩) (fun b=>b.1≤ks.length∧b.2.Gd∧dR b.2 (ks.take b.1)=dR s ks) (fun b=>b.1) (ks.length,s) (by unfold dQ mU;(try dsimp only);(exact aJ)) ⟨Nat.le_refl _,h,by rw[List.take_length]⟩ ?_;rintro⟨j,S⟩ ⟨hj,hS,hP⟩;dsimp only at hj hS hP⊢;unfold dQ mU
 (try dsimp only);refine dO ?_;refine FQ ?_;refine aB rfl (fun g1=> ?_) (fun g1=> ?_)
 ·obtain⟨j,rfl⟩:∃j',j=j'+1:=⟨j-1,by simp at g1;omega⟩
  obtain⟨k,hk⟩:∃k,ks[j]? =some k:=⟨_,List.getElem?_eq_getElem (by omega)⟩
  have hk':ks[(((j+1:Nat):Int)-1).toNat]? =some k:=by rw[show(((j+1:Nat):Int)-1).toNat=j by omega];exact hk
  refine dF ?_;refine nA ?_;refine cw (dQ r p q m lv S) Tryz.call188 (pG ⟨n1,n2,n3⟩ S hS k) rfl aC cF ?_;rintro _ σ' ⟨rfl,rfl⟩ h17;refine mR ?_;refine eU ?_;refine sK ?_;refine cZ ?_;refine⟨(j,(cR S k).2),⟨by show j≤ _;omega,hS.pop k,by rw[←hP,List.take_add_one,hk];show _=dR S (ks.take j++ [k]);rw[aAx]⟩,by show j<j+1;omega, ?_⟩;dsimp only;rw[show(((j+1:Nat):Int)-1-1)=(j:Int)-1 by omega];exact aJ
 obtain rfl:j=0:=by simp at g1;omega
 rw[show dR s ks=S by rw[←hP];rfl];refine aI ?_;refine bY ?_;apply aD;exact aE
 ·rfl
 ·exact aA
end
section
variable {r p q : Nat} {m : Md} {lv : AV}
theorem EX(hN:Nm r p q)(s:PS)(hs:s.cs.length≤1000000)(op kd:Int):SCall Tryz.prog 76 [.ptr r 0,.int .i64 op,.int .i64 kd] (dQ r p q m lv s) (fun _ σ=>∃e,Nm r p e∧σ=dQ r p e m lv (openP s op kd)):=by
 obtain⟨vs,zs,b⟩:=s;obtain⟨n1,n2,n3⟩:=hN;dsimp only at hs;refine cC 23 [0,1,2] Tryz.func76 ?_;unfold dQ mU;dsimp only;refine aI ?_;refine fK [(0,true),(1,true),(2,true),(3,true),(4,true),(5,true),(6,true),(7,true),(8,true),(9,true),(10,true),(11,true),(12,true),(13,false),(14,false),(15,true),(16,true),(17,false)] ?_;refine AH ?_;refine CG ?_;refine DI ?_;refine IJ ?_;refine CA fun r19 h19=> ?_;intros
 refine eX rfl ((zs++ [(⟨op,kd,vs.length,false⟩:Ct)]).map mM) (zs++ [(⟨op,kd,vs.length,false⟩:Ct)]).length ?_;refine bL fun r20 h20=> ?_;intros
 refine z77 ?_;refine nC ?_;refine kF ?_;refine bY ?_;exact aD aE ⟨r20,by exact⟨by(exact bA),by(exact bA),by(exact bA)⟩,rfl⟩ aA
theorem NE(hN:Nm r p q)(s:PS)(h:s.Gd):SCall Tryz.prog 79 [.ptr r 0] (dQ r p q m lv s) (fun y σ=>y=.agg (mM s.top)∧σ=dQ r p q m lv (fX s)):=by
 have hd:fX s=⟨(dR s (aY s.top.kd)).vs,(dR s (aY s.top.kd)).cs.dropLast,(dD (dR s (aY s.top.kd)) (((dR s (aY s.top.kd)).vs.length:Int)==s.top.ht)).bad⟩:=rfl;have hp:=h.pops (aY s.top.kd);have hcs:=qC s (aY s.top.kd);rw[hd];obtain⟨i,hi⟩:=h.cut;generalize s.top=t at hi hcs hp⊢;have hpa:=fun(hN:Nm r p q)=>lG (m:=m) (lv:=lv) hN s h (aY t.kd) (by have:=rD t.kd;omega)
 generalize dR s (aY t.kd)=s1 at hcs hp hpa⊢;have hbc:=h.bc;have hbv:=h.bv;have hbv1:=hp.bv;obtain⟨vs,zs,b⟩:=s;obtain⟨vs1,zs1,b1⟩:=s1;dsimp only at hi hcs hbc hbv hbv1;subst hi hcs;rw[xA]at hbc;obtain⟨n1,n2,n3⟩:=hN;have hel:=sW (l:=i.map mM) (x:=mM t) (n:=i.length) (by simp);refine cC 46 [0,2,3] Tryz.func79 ?_;unfold dQ mU;dsimp only;rw[xA,GZ];refine dG ?_;refine jZ fun r2 h2=> ?_;intros
 refine jI ?_;refine fK [(0,true),(1,true),(2,true),(3,true),(4,true),(5,true),(6,true),(7,true),(8,true),(9,true),(10,true),(11,true),(12,false),(13,false)] ?_;refine pV ?_;refine sP ?_;refine HY ?_;refine xR ?_;apply dal;rfl;infer_instance;rfl;exact wA;refine kE fun r3 h3=> ?_;intros
 refine HZ ?_;refine yR ?_;refine nD ?_;refine HX [] Tryz.call191 (tY t.kd) ?_;refine cw (dQ r p q m lv ⟨vs,i++ [t],b⟩) Tryz.call192 (hpa ⟨n1,n2,n3⟩) rfl aC cF ?_;rintro _ σ' rfl h20;refine mR ?_;refine fK [(0,true),(1,true),(2,true),(3,true),(6,true),(7,true),(4,false),(5,true),(8,true),(9,false)] ?_;refine fY rfl (aF (E rfl)) rfl ?_;refine FO ?_;refine zP ?_;refine fZ ?_;first|refine dhl rfl (aL (E rfl) rfl aO (fun _=>rfl)) rfl ?_ |refine dhl rfl (aL (E rfl) rfl aO (fun _=>by assumption)) rfl ?_ |refine dhl rfl (aN (E rfl) rfl (fun hc=>by first|rfl|exact aG (by assumption)|assumption|exact aG (aQ (by omega))) (fun _=>rfl)) rfl ?_
 refine UQ ?_;refine z79 ?_;refine sD (dQ r p q m lv ⟨vs1,i++ [t],b1⟩) rfl Tryz.call189 (kJ ⟨n1,n2,n3⟩ _ ((vs1.length:Int)==t.ht)) rfl aC cF aCT ?_;rintro _ σ' rfl h30;refine QR ?_;refine kF ?_;dsimp only[dD];rw[xA,GZ];refine fK [(0,true),(1,true),(2,true),(3,true),(4,true),(5,true),(6,true),(7,true),(8,true),(9,true),(10,true),(11,true),(12,true),(13,true),(14,false)] ?_;refine AH ?_;refine sP ?_;refine UD ?_;refine z77 ?_;refine nC ?_;refine kF ?_;rw[rE];refine dZ (oJ (o:=q) i.length cJ) ?_;rw[show List.take i.length (i.map mM++ [mM t])=i.map mM by rw[List.take_left' (by simp)]];rw[List.dropLast_concat];refine jH ?_;refine mP ?_;refine jJ ?_;exact aD aE ⟨by rfl,rfl⟩ aA
theorem EY(hN:Nm r p q)(s:PS)(h:s.Gd):SCall Tryz.prog 187 [.ptr r 0] (dQ r p q m lv s) (fun _ σ=>σ=dQ r p q m lv (oU s)):=by
 have hd:oU s=⟨s.vs.take s.top.ht,s.cs.dropLast++ [⟨s.top.op,s.top.kd,s.top.ht,true⟩],s.bad⟩:=rfl;rw[hd];obtain⟨i,hi⟩:=h.cut;have h0:=h.toOk0;generalize s.top=t at hi⊢;have hbc:=h.bc;have hbv:=h.bv;obtain⟨vs,zs,b⟩:=s;dsimp only at hi hbc hbv;subst hi;rw[xA]at hbc;obtain⟨-,hh,-⟩:=h0.split;obtain⟨n1,n2,n3⟩:=hN;have hel:=sW (l:=i.map mM) (x:=mM t) (n:=i.length) (by simp);refine cC 29 [0,2] Tryz.func187 ?_;unfold dQ mU;dsimp only;rw[xA,GZ];refine aI ?_;refine fK [(0,true),(1,true),(2,true),(3,true),(4,true),(5,true),(6,true),(7,true),(8,true),(9,true),(10,true),(11,true)] ?_;refine pV ?_;refine sP ?_;refine HY ?_;refine yV ?_;refine fK [(0,true),(1,true),(2,true),(3,true),(4,true),(5,true),(6,true),(7,true),(8,true),(9,true),(10,true),(11,true),(12,true),(13,false),(14,true),(15,true),(16,false)] ?_;refine CG ?_;refine pV ?_;refine FO ?_;refine fY rfl (fJ (E rfl) rfl (by decide)) rfl ?_;refine fY rfl (bQ (E rfl) rfl aO (fun _=>hel) (fun _=>rfl)) rfl ?_;refine UD ?_;refine z77 ?_;refine nC ?_;refine z77 ?_;refine fY rfl (fJ (E rfl) rfl (by decide)) rfl ?_;apply aJy;rfl;infer_instance;rfl;rfl;rfl;rfl;exact cJ;exact atT;exact JO;rfl;exact fS;refine kF ?_;rw[KG (by simp)];refine BM (oJ (o:=p) t.ht cJ) ?_
 rw[←List.map_take,List.dropLast_concat,xA,GZ,show t.ht-0=(vs.take t.ht).length by rw[List.length_take];omega];refine bY ?_;apply aD;exact aE
 ·rfl
 ·exact aA
theorem BN(hN:Nm r p q)(s:PS)(hs:s.cs.length≤1000000)(n:Int)(hn:0≤n):SCall Tryz.prog 193 [.ptr r 0,.int .i64 n] (dQ r p q m lv s) (fun y σ=>y=.ro 1 ((cU s n).1.map aR) .any∧σ=dQ r p q m lv (cU s n).2):=by
 obtain⟨vs,zs,b⟩:=s;obtain⟨n1,n2,n3⟩:=hN;dsimp only at hs;refine cC 36 [0,1,4,5,12,32] Tryz.func193 ?_;unfold dQ mU;dsimp only;refine mY ?_;refine z76 ?_;refine nL ?_;refine FQ ?_;refine aB rfl (fun g1=> ?_) (fun g1=> ?_)
 ·have hP:cU ⟨vs,zs,b⟩ n=([],⟨vs,zs,true⟩):=if_pos g1;rw[hP];refine uJ ?_;refine nY ?_;refine dG ?_;refine pI ?_;refine dZ (eK (j:=4) (y:=.ro 1 (([]:List Int).map aR) .any) rfl VLe.empty) ?_;refine aI ?_;exact aD aE ⟨by rfl,rfl⟩ aA
 have hlt:n<zs.length:=by simp at g1;omega
 obtain⟨t,ht⟩:∃t,zs[zs.length-1-n.toNat]? =some t:=⟨_,List.getElem?_eq_getElem (by omega)⟩
 have hP:cU ⟨vs,zs,b⟩ n=(if(t.op==3)=true then []else aY t.kd,⟨vs,zs,b⟩):=by unfold cU;rw[if_neg (by simpa using g1)];dsimp only;rw[List.getD_eq_getElem?_getD,ht];rfl
 rw[hP];have hel:(zs.map mM)[(((zs.length:Nat):Int)-1-n).toNat]? =some (mM t):=by rw[show(((zs.length:Nat):Int)-1-n).toNat=zs.length-1-n.toNat by omega,List.getElem?_map,ht];rfl
 refine aI ?_;refine fK [(0,true),(1,true),(2,true),(3,true),(4,true),(5,true),(6,true),(7,true),(8,true),(9,true),(10,true),(11,true),(12,true),(13,true),(14,false),(15,false)] ?_;refine pV ?_;refine sP ?_;refine fY rfl (aF (E rfl)) rfl ?_;refine z82 ?_;refine HY ?_;refine xR ?_;apply dal;rfl;infer_instance;rfl;exact wA;refine kE fun r5 h5=> ?_;intros
 refine HZ ?_;refine yR ?_;refine fE ?_;refine rL ?_;refine aB rfl (fun g5=> ?_) (fun g5=> ?_)
 ·rw[if_pos g5];refine dG ?_;refine pI ?_;refine dZ (eK (j:=4) (y:=.ro 1 (([]:List Int).map aR) .any) rfl VLe.empty) ?_;refine aI ?_;exact aD aE ⟨by rfl,rfl⟩ aA
 rw[if_neg (by simp[g5])];refine fE ?_;refine cw [] Tryz.call191 (tY t.kd) rfl aC aA ?_;rintro _ σ' ⟨rfl,rfl⟩ h35;refine eR ?_;exact aD aE ⟨by rfl,rfl⟩ aA
theorem sZ(hN:Nm r p q)(s:PS)(n:Int):SCall Tryz.prog 74 [.ptr r 0,.int .i64 n] (dQ r p q m lv s) (fun y σ=>y=.tup [.agg (cP (cM m n).1),.bool (cM m n).2]∧σ=dQ r p q m lv s):=by
 obtain⟨vs,zs,b⟩:=s;obtain⟨n1,n2,n3⟩:=hN;refine cC 27 [0,1,4,5,17] Tryz.func74 ?_;unfold dQ mU;dsimp only;refine dG ?_;refine jZ fun r4 h4=> ?_;intros
 refine iF ?_;refine xT ?_;refine nW ?_;refine aJ7 ?_;refine aJ8 ?_;refine FR ?_;refine ZO ?_;refine lP ?_;refine aB rfl (fun g1=> ?_) (fun g1=> ?_)
 ·have hP:cM m n=(sF,false):=if_pos g1;rw[hP];refine dG ?_;refine jY ?_;refine FS ?_;refine dZ (iE (r:=r4) (cs':=cP sF) cJ (.cons (.le VLe.empty) (.cons (.le VLe.empty) .nil))) ?_;refine aI ?_;exact aD aE ⟨by rfl,rfl⟩ aA
 have hlt:0≤n∧n<m.ty.length:=by constructor<;>(apply Int.not_lt.1;intro hc;apply Bool.false_ne_true;rw[←g1];simp;omega)
 obtain⟨t,ht⟩:∃t,m.ty[n.toNat]? =some t:=⟨_,List.getElem?_eq_getElem (by omega)⟩
 have hP:cM m n=(t,true):=by unfold cM;rw[if_neg (by simpa using g1)];rw[List.getD_eq_getElem?_getD,ht];rfl
 rw[hP];refine uJ ?_;refine oO ?_;refine mZ ?_;refine DG ?_;exact aD aE ⟨by rfl,rfl⟩ aA
theorem BO{ls:List Int}(hN:Nm r p q)(s:PS)(n:Int)(hn:0≤n):SCall Tryz.prog 197 [.ptr r 0,.int .i64 n] (dQ r p q m (.ro 1 (ls.map aR) .any) s) (fun y σ=>y=.int .i64 (cV ls s n).1∧σ=dQ r p q m (.ro 1 (ls.map aR) .any) (cV ls s n).2):=by
 obtain⟨vs,zs,b⟩:=s;obtain⟨n1,n2,n3⟩:=hN;refine cC 22 [0,1,4,11] Tryz.func197 ?_;unfold dQ mU;dsimp only;refine mY ?_;refine z76 ?_;refine nL ?_;refine FQ ?_;refine aB rfl (fun g1=> ?_) (fun g1=> ?_)
 ·have hP:cV ls ⟨vs,zs,b⟩ n=(0,⟨vs,zs,true⟩):=if_pos g1;rw[hP];refine uJ ?_;refine nY ?_;refine bP ?_;exact aD aE ⟨by rfl,rfl⟩ aA
 obtain⟨t,ht⟩:∃t,ls[n.toNat]? =some t:=⟨_,List.getElem?_eq_getElem (by simp at g1;omega)⟩
 have hlt:n<ls.length:=by simp at g1;omega
 have hP:cV ls ⟨vs,zs,b⟩ n=(t,⟨vs,zs,b⟩):=by unfold cV;rw[if_neg (by simpa using g1)];rw[List.getD_eq_getElem?_getD,ht];rfl
 rw[hP];refine dO ?_;refine nN ?_;refine nA ?_;refine cZ ?_;exact aD aE ⟨by rfl,rfl⟩ aA
theorem KT(hN:Nm r p q)(s:PS)(n:Int)(hn:0≤n):SCall Tryz.prog 198 [.ptr r 0,.int .i64 n] (dQ r p q m lv s) (fun y σ=>y=.agg (eA (eC m s n).1)∧σ=dQ r p q m lv (eC m s n).2):=by
 obtain⟨vs,zs,b⟩:=s;obtain⟨n1,n2,n3⟩:=hN;refine cC 25 [0,1,4,12] Tryz.func198 ?_;unfold dQ mU;dsimp only;refine dG ?_;refine jZ fun r4 h4=> ?_;intros
 refine jI ?_;refine kL ?_;refine AF ?_;refine nL ?_;refine FQ ?_;refine aB rfl (fun g1=> ?_) (fun g1=> ?_)
 ·have hP:eC m ⟨vs,zs,b⟩ n=(KR,⟨vs,zs,true⟩):=if_pos g1;rw[hP];refine uJ ?_;refine nY ?_;refine dG ?_;refine jY ?_;refine jJ ?_;exact aD aE ⟨by rfl,rfl⟩ aA
 obtain⟨t,ht⟩:∃t,m.gl[n.toNat]? =some t:=⟨_,List.getElem?_eq_getElem (by simp at g1;omega)⟩
 have hlt:n<m.gl.length:=by simp at g1;omega
 have hP:eC m ⟨vs,zs,b⟩ n=(t,⟨vs,zs,b⟩):=by unfold eC;rw[if_neg (by simpa using g1)];rw[List.getD_eq_getElem?_getD,ht];rfl
 rw[hP];refine uJ ?_;refine oO ?_;refine mZ ?_;refine jJ ?_;exact aD aE ⟨by rfl,rfl⟩ aA
end
section
variable {r p q : Nat} {m : Md} {lv : AV}
theorem SP(hN:Nm r p q)(s:PS)(hi:m.im.length≤1000000)(f:Int)(hf:0≤f)(hf2:f≤9223372036854775807):SCall Tryz.prog 196 [.ptr r 0,.int .i64 f] (dQ r p q m lv s) (fun y σ=>y=.tup [.agg (cP (cM m (kZ m f)).1),.bool (cM m (kZ m f)).2]∧σ=dQ r p q m lv s):=by
 obtain⟨vs,zs,b⟩:=s;have hN0:=hN;obtain⟨n1,n2,n3⟩:=hN;refine cC 51 [0,1,4,5,6,7,16,35] Tryz.func196 ?_;unfold dQ mU;dsimp only;refine dG ?_;refine jZ fun r4 h4=> ?_;intros
 refine jC ?_;refine iF ?_;refine AF ?_;refine nL ?_;refine nR ?_;refine oP ?_;refine aB rfl (fun g3=> ?_) (fun g3=> ?_)
 ·have hlt:f<m.im.length:=by simpa using g3
  obtain⟨x,hx⟩:∃x,m.im[f.toNat]? =some x:=⟨_,List.getElem?_eq_getElem (by omega)⟩
  have hP:kZ m f=x.ty:=by unfold kZ;rw[if_pos g3,List.getD_eq_getElem?_getD,hx];rfl
  rw[hP];refine uJ ?_;refine oO ?_;refine sO ?_;refine nR ?_;refine cw (dQ r p q m lv ⟨vs,zs,b⟩) Tryz.call74 (sZ hN0 _ _) rfl aC cF ?_;rintro _ σ' ⟨rfl,rfl⟩ h48;refine pB ?_;refine LP ?_;refine DG ?_;exact aD aE ⟨by rfl,rfl⟩ aA
 have hge:¬f<m.im.length:=by simpa using g3
 refine dF ?_;refine sK ?_;refine lo (aF (E rfl)) rfl ?_;refine AF ?_;refine nL ?_;refine oP ?_;refine aB rfl (fun g5=> ?_) (fun g5=> ?_)
 ·have hlt:f-m.im.length<m.fn.length:=by simpa using g5
  obtain⟨x,hx⟩:∃x,m.fn[(f-m.im.length).toNat]? =some x:=⟨_,List.getElem?_eq_getElem (by omega)⟩
  have hP:kZ m f=x:=by unfold kZ;rw[if_neg (by simpa using g3),if_pos g5,List.getD_eq_getElem?_getD,hx];rfl
  rw[hP];refine uJ ?_;refine oO ?_;refine lo (aF (E rfl)) rfl ?_;refine lo (aF (E rfl)) rfl ?_;refine sK ?_;refine mJ ?_;refine nR ?_;refine cw (dQ r p q m lv ⟨vs,zs,b⟩) Tryz.call74 (sZ hN0 _ _) rfl aC cF ?_;rintro _ σ' ⟨rfl,rfl⟩ h48;refine pB ?_;refine LP ?_;refine DG ?_;exact aD aE ⟨by rfl,rfl⟩ aA
 have hP:kZ m f=-1:=by unfold kZ;rw[if_neg (by simpa using g3),if_neg (by simpa using g5)]
 rw[hP];refine dF ?_;refine cw (dQ r p q m lv ⟨vs,zs,b⟩) Tryz.call74 (sZ hN0 _ _) rfl aC cF ?_;rintro _ σ' ⟨rfl,rfl⟩ h48;refine pB ?_;refine LP ?_;refine DG ?_;exact aD aE ⟨by rfl,rfl⟩ aA
theorem SQ(hN:Nm r p q)(s:PS)(h:s.Gd)(t:FT)(ht:t.Sm)(ok:Bool):SCall Tryz.prog 195 [.ptr r 0,.agg (cP t),.bool ok] (dQ r p q m lv s) (fun _ σ=>∃e,Nm r e q∧σ=dQ r e q m lv (rC s t ok)):=by
 obtain⟨pr,rs⟩:=t;obtain⟨ht1,ht2⟩:=ht;dsimp only at ht1 ht2;have hN0:=hN;obtain⟨n1,n2,n3⟩:=hN;have h1:=h.need ok;have h2:=h1.pops pr;refine cC 17 [0,1,2,4] Tryz.func195 ?_;unfold dQ mU
 (try dsimp only);refine dG ?_;refine iG fun r4 h4=> ?_;intros
 refine jI ?_;refine kL ?_;refine cw (dQ r p q m lv s) Tryz.call189 (kJ hN0 s ok) rfl aC cF ?_;rintro _ σ' rfl h8;refine mR ?_;refine lO ?_;refine cw (dQ r p q m lv (dD s ok)) Tryz.call192 (lG hN0 _ h1 pr (by omega)) rfl aC cF ?_;rintro _ σ' rfl h12;refine mR ?_;refine lO ?_;refine cw (dQ r p q m lv (dR (dD s ok) pr)) Tryz.call190 (lX hN0 _ h2.bv rs (by omega)) rfl aC cF ?_;rintro _ σ' ⟨e,hE,rfl⟩ h16;unfold dQ mU;(try dsimp only);obtain⟨e1,e2,e3⟩:=id hE;refine fN ?_;refine bY ?_;exact aD aE ⟨e,hE,rfl⟩ aA
theorem mN(hN:Nm r p q)(s:PS)(h:s.Gd)(x:Ins)(al:Int)(tk mk:List Int)(ht:tk.length≤1000)(hm:mk.length≤1000):SCall Tryz.prog 199 [.ptr r 0,.agg (iv .any x),.int .i64 al,.ro 1 (tk.map aR) .any,.ro 1 (mk.map aR) .any] (dQ r p q m lv s) (fun _ σ=>∃e,Nm r e q∧σ=dQ r e q m lv (gD m s x al tk mk)):=by
 have hN0:=hN;obtain⟨n1,n2,n3⟩:=hN;have h1:=h.need (if m.me.has=true then decide (x.a≤al)else false);have h2:=h1.pops tk;unfold iv;refine cC 30 [0,1,2,3,4,6] Tryz.func199 ?_;unfold dQ mU
 (try dsimp only);refine dG ?_;refine iG fun r6 h6=> ?_;intros
 refine jI ?_;refine kL ?_;refine AF ?_;refine oI ?_;refine oO ?_;refine pL ?_;refine aBr ?_;refine uX ?_;refine cw (dQ r p q m lv s) Tryz.call189 (kJ hN0 s (if m.me.has=true then decide (x.a≤al)else false)) rfl aC cF ?_;rintro _ σ' rfl h23;refine mR ?_;refine kL ?_;refine cw (dQ r p q m lv (dD s (if m.me.has=true then decide (x.a≤al)else false))) Tryz.call192 (lG hN0 _ h1 tk (by omega)) rfl aC cF ?_;rintro _ σ' rfl h26;refine mR ?_;refine kL ?_;refine cw (dQ r p q m lv (dR (dD s (if m.me.has=true then decide (x.a≤al)else false)) tk)) Tryz.call190 (lX hN0 _ h2.bv mk hm) rfl aC cF ?_;rintro _ σ' ⟨e,hE,rfl⟩ h29;unfold dQ mU;(try dsimp only);obtain⟨e1,e2,e3⟩:=id hE;refine fN ?_;refine bY ?_;exact aD aE ⟨e,hE,rfl⟩ aA
theorem PS.Gd.label {s:PS}(h:s.Gd)(n:Int):(cU s n).2.Gd:=⟨h.toOk.label n,by rw[wZ];exact h.bv,by rw[wY];exact h.bc⟩
theorem PS.Gd.tabs {s:PS}(h:s.Gd)(w l:List Int):(l.foldl (xX w) s).Gd:=by
 obtain⟨h1,h2,h3⟩:=BK w l s;exact⟨h3 h.toOk,by rw[h2];exact h.bv,by rw[h1];exact h.bc⟩
theorem aIU{a b:List Int}(ha:a.length≤1)(hb:b.length≤1):(a=[]∧b=[])∨(a=[]∧∃v,b=[v])∨((∃g,a=[g])∧b=[])∨∃g v,a=[g]∧b=[v]:=by
 match a,b,ha,hb with
 |[],[],_,_=>exact .inl ⟨rfl,rfl⟩
 |[],[v],_,_=>exact .inr (.inl ⟨rfl,v,rfl⟩)
 |[g],[],_,_=>exact .inr (.inr (.inl ⟨⟨g,rfl⟩,rfl⟩))
 |[g],[v],_,_=>exact .inr (.inr (.inr ⟨g,v,rfl,rfl⟩))
theorem aCV{w l:List Int}{s:PS}{j:Nat}{n:Int}(h:l[j]? =some n):(l.take (j+1)).foldl (xX w) s=dD (cU ((l.take j).foldl (xX w) s) n).2 (eq1 (cU ((l.take j).foldl (xX w) s) n).1 w):=by
 rw[List.take_add_one,h,List.foldl_append];rfl
theorem aCW(hN:Nm r p q)(s:PS)(h:s.Gd)(x:Ins)(ha:0≤x.a)(hl:∀n∈x.l,0≤n)(hll:x.l.length≤1000000):SCall Tryz.prog 194 [.ptr r 0,.agg (iv .any x)] (dQ r p q m lv s) (fun _ σ=>σ=dQ r p q m lv (tW s x)):=by
  have hN0:=hN;obtain⟨n1,n2,n3⟩:=hN;have h1:=h.pop 1;have h2:=h1.label x.a;have hw:=oF (cR s 1).2 x.a;have hT:tW s x=oU (dR (x.l.foldl (xX (cU (cR s 1).2 x.a).1) (cU (cR s 1).2 x.a).2) (cU (cR s 1).2 x.a).1):=rfl;rw[hT];have cl:=BN (m:=m) (lv:=lv) hN0 (cR s 1).2 h1.bc x.a ha;generalize(cU (cR s 1).2 x.a).2=s2 at h2 cl⊢;generalize(cU (cR s 1).2 x.a).1=w at hw cl⊢;obtain⟨xo,xa,xb,xl⟩:=x;dsimp only at ha hl hll cl⊢;unfold iv;refine cC 51 [0,1,3,4,6,7,15,16,17,18] Tryz.func194 ?_;unfold dQ mU
  (try dsimp only);refine dG ?_;refine iG fun r3 h3=> ?_;intros
  refine jI ?_;refine eU ?_;refine cw (dQ r p q m lv s) Tryz.call188 (pG hN0 s h 1) rfl aC cF ?_;rintro _ σ' ⟨rfl,rfl⟩ h9;refine mR ?_;refine lO ?_;refine cw (dQ r p q m lv (cR s 1).2) Tryz.call193 cl rfl aC cF ?_;rintro _ σ' ⟨rfl,rfl⟩ h13;refine pB ?_;refine jC ?_;refine nL ?_;refine QO ?_;refine lp (β:=Nat) (fun j=>⟨[(0,.ptr r 0),(3,.ptr r3 0),(4,.ro 1 (w.map aR) .any),(15,.ro 1 (xl.map aR) .any),(16,.int .i64 xl.length),(17,.int .i64 j)],(r3,.box 46 [.int .i64 xo,.int .i64 xa,.int .i64 xb,.ro 1 (xl.map aR) .any])::dQ r p q m lv ((xl.take j).foldl (xX w) s2)⟩) (fun j=>j≤xl.length) (fun j=>xl.length-j) 0 (by unfold dQ mU;(try dsimp only);(exact aJ)) (Nat.zero_le _) ?_;intro j hj
  (try dsimp only);have hS:=h2.tabs w (xl.take j);refine jL ?_;refine aB rfl (fun g4=> ?_) (fun g4=> ?_)
  · obtain⟨n,hn⟩:∃n,xl[j]? =some n:=⟨_,List.getElem?_eq_getElem (by simp at g4;omega)⟩
    have hlt:j<xl.length:=(List.getElem?_eq_some_iff.1 hn).1;have hn0:=hl n (List.mem_of_getElem? hn);have hnx:=aCV (w:=w) (s:=s2) hn;generalize(xl.take j).foldl (xX w) s2=S at hS hnx⊢;unfold dQ mU
    (try dsimp only);refine dG ?_;refine mJ ?_;refine nR ?_;refine cw (dQ r p q m lv S) Tryz.call193 (BN hN0 S hS.bc n hn0) rfl aC cF ?_;rintro _ σ' ⟨rfl,rfl⟩ h23;refine pB ?_;refine cZ ?_;obtain⟨ea,eb⟩|⟨ea,v,eb⟩|⟨⟨g,ea⟩,eb⟩|⟨g,v,ea,eb⟩:=aIU (oF S n) hw
    · rw[ea];subst eb;rw[ea,show eq1 [] []=true from rfl]at hnx;refine fK [(0,true),(1,true),(2,true),(3,true),(4,true),(5,true),(6,true),(7,true),(8,true),(9,true),(10,true),(11,true),(12,true),(13,true),(14,true),(15,true),(16,true),(17,true),(18,true),(19,true),(20,false)] ?_;refine CG ?_;refine UQ ?_;refine fY rfl (aF (E rfl)) rfl ?_;refine UQ ?_;refine z79 ?_;rw[show((([]:List Int).length:Int)==(([]:List Int).length:Int))=true from rfl];refine CH ?_;refine aHD ?_;rw[show((([]:List Int).length:Int)==0)=true from rfl]
      (first|refine kK rfl rfl rfl rfl rfl ?_ |(refine eZ rfl rfl rfl (aF (by first|exact W rfl id|exact E rfl)) rfl ?_)|refine eQ rfl rfl rfl (aF (by first|exact W rfl id|exact E rfl)) rfl ?_);first|refine kK rfl rfl rfl rfl rfl ?_ |(refine eZ rfl rfl rfl (aF (E rfl)) rfl ?_)|refine eQ rfl rfl rfl (aF (E rfl)) rfl ?_ |refine eL rfl rfl rfl (aF (E rfl)) rfl ?_ |refine eL rfl rfl rfl (bV (v:=.bool false)) rfl ?_
      first
        |refine kK rfl rfl rfl rfl rfl ?_
        |(
          first
           |refine eZ rfl rfl rfl (bG (by
            first
             |exact W rfl id
             |exact E rfl) (E rfl) (fun hc=>by(simp only[List.length_map];omega))) rfl ?_
           |refine eZ rfl rfl rfl (aV (by
            first
             |exact W rfl id
             |exact E rfl) aO (E rfl) (fun hc=>by omega)) rfl ?_
           |refine eZ rfl rfl rfl (bK (by
            first
             |exact W rfl id
             |exact E rfl) aO (E rfl) (fun hc=>by omega)) rfl ?_)
        |refine eQ rfl rfl rfl (bG (by
           first
            |exact W rfl (by
            first
             |exact id
             |simp)
            |exact E rfl) (E rfl) (fun hc=>by(try simp at hc)<;>(simp only[List.length_map];omega))) rfl ?_
        |refine eQ rfl rfl rfl (aV (by
           first
            |exact W rfl (by
            first
             |exact id
             |simp)
            |exact E rfl) aO (E rfl) (fun hc=>by(try simp at hc)<;>omega)) rfl ?_
        |refine eQ rfl rfl rfl (bK (by
           first
            |exact W rfl (by
            first
             |exact id
             |simp)
            |exact E rfl) aO (E rfl) (fun hc=>by(try simp at hc)<;>omega)) rfl ?_
        |refine eL rfl rfl rfl (bG (by
           first
            |exact W rfl (by
            first
             |exact id
             |simp)
            |exact E rfl) (E rfl) (fun hc=>by(try simp at hc)<;>(simp only[List.length_map];omega))) rfl ?_
        |refine eL rfl rfl rfl (aV (by
           first
            |exact W rfl (by
            first
             |exact id
             |simp)
            |exact E rfl) aO (E rfl) (fun hc=>by(try simp at hc)<;>omega)) rfl ?_
        |refine eL rfl rfl rfl (bK (by
           first
            |exact W rfl (by
            first
             |exact id
             |simp)
            |exact E rfl) aO (E rfl) (fun hc=>by(try simp at hc)<;>omega)) rfl ?_
        |refine eL rfl rfl rfl (bV (v:=.bool false)) rfl ?_
      first
        |refine kK rfl rfl rfl rfl rfl ?_
        |(
          first
           |refine eZ rfl rfl rfl (aN (by
            first
             |exact W rfl id
             |exact E rfl) rfl (fun hc=>by
            first
             |rfl
             |exact aG (by assumption)
             |assumption
             |exact aG (aQ (by omega))) (fun _=>rfl)) rfl ?_
           |refine eZ rfl rfl rfl (bQ (by
            first
             |exact W rfl id
             |exact E rfl) rfl aO (fun hc=>by
            first
             |rfl
             |exact aG (by assumption)
             |assumption
             |exact aG (aQ (by omega))) (fun _=>rfl)) rfl ?_)
        |refine eQ rfl rfl rfl (aN (by
           first
            |exact W rfl (by
            first
             |exact id
             |simp)
            |exact E rfl) rfl (fun hc=>by
           first
            |rfl
            |exact aG (by assumption)
            |assumption
            |exact aG (aQ (by(try simp at hc)<;>omega))) (fun _=>rfl)) rfl ?_
        |refine eQ rfl rfl rfl (bQ (by
           first
            |exact W rfl (by
            first
             |exact id
             |simp)
            |exact E rfl) rfl aO (fun hc=>by
           first
            |rfl
            |exact aG (by assumption)
            |assumption
            |exact aG (aQ (by(try simp at hc)<;>omega))) (fun _=>rfl)) rfl ?_
        |refine eL rfl rfl rfl (aN (by
           first
            |exact W rfl (by
            first
             |exact id
             |simp)
            |exact E rfl) rfl (fun hc=>by
           first
            |rfl
            |exact aG (by assumption)
            |assumption
            |exact aG (aQ (by(try simp at hc)<;>omega))) (fun _=>rfl)) rfl ?_
        |refine eL rfl rfl rfl (bQ (by
           first
            |exact W rfl (by
            first
             |exact id
             |simp)
            |exact E rfl) rfl aO (fun hc=>by
           first
            |rfl
            |exact aG (by assumption)
            |assumption
            |exact aG (aQ (by(try simp at hc)<;>omega))) (fun _=>rfl)) rfl ?_
        |refine eL rfl rfl rfl (bV (v:=.bool false)) rfl ?_
      first|refine kK rfl rfl rfl rfl rfl ?_ |(refine eZ rfl rfl rfl (aF (E rfl)) rfl ?_)|refine eQ rfl rfl rfl (aF (E rfl)) rfl ?_ |refine eL rfl rfl rfl (aF (E rfl)) rfl ?_ |refine eL rfl rfl rfl (bV (v:=.bool false)) rfl ?_
      first
        |refine kK rfl rfl rfl rfl rfl ?_
        |(
          first
           |refine eZ rfl rfl rfl (bG (by
            first
             |exact W rfl id
             |exact E rfl) (E rfl) (fun hc=>by(simp only[List.length_map];omega))) rfl ?_
           |refine eZ rfl rfl rfl (aV (by
            first
             |exact W rfl id
             |exact E rfl) aO (E rfl) (fun hc=>by omega)) rfl ?_
           |refine eZ rfl rfl rfl (bK (by
            first
             |exact W rfl id
             |exact E rfl) aO (E rfl) (fun hc=>by omega)) rfl ?_)
        |refine eQ rfl rfl rfl (bG (by
           first
            |exact W rfl (by
            first
             |exact id
             |simp)
            |exact E rfl) (E rfl) (fun hc=>by(try simp at hc)<;>(simp only[List.length_map];omega))) rfl ?_
        |refine eQ rfl rfl rfl (aV (by
           first
            |exact W rfl (by
            first
             |exact id
             |simp)
            |exact E rfl) aO (E rfl) (fun hc=>by(try simp at hc)<;>omega)) rfl ?_
        |refine eQ rfl rfl rfl (bK (by
           first
            |exact W rfl (by
            first
             |exact id
             |simp)
            |exact E rfl) aO (E rfl) (fun hc=>by(try simp at hc)<;>omega)) rfl ?_
        |refine eL rfl rfl rfl (bG (by
           first
            |exact W rfl (by
            first
             |exact id
             |simp)
            |exact E rfl) (E rfl) (fun hc=>by(try simp at hc)<;>(simp only[List.length_map];omega))) rfl ?_
        |refine eL rfl rfl rfl (aV (by
           first
            |exact W rfl (by
            first
             |exact id
             |simp)
            |exact E rfl) aO (E rfl) (fun hc=>by(try simp at hc)<;>omega)) rfl ?_
        |refine eL rfl rfl rfl (bK (by
           first
            |exact W rfl (by
            first
             |exact id
             |simp)
            |exact E rfl) aO (E rfl) (fun hc=>by(try simp at hc)<;>omega)) rfl ?_
        |refine eL rfl rfl rfl (bV (v:=.bool false)) rfl ?_
      first
        |refine kK rfl rfl rfl rfl rfl ?_
        |(
          first
           |refine eZ rfl rfl rfl (aN (by
            first
             |exact W rfl id
             |exact E rfl) rfl (fun hc=>by
            first
             |rfl
             |exact aG (by assumption)
             |assumption
             |exact aG (aQ (by omega))) (fun _=>rfl)) rfl ?_
           |refine eZ rfl rfl rfl (bQ (by
            first
             |exact W rfl id
             |exact E rfl) rfl aO (fun hc=>by
            first
             |rfl
             |exact aG (by assumption)
             |assumption
             |exact aG (aQ (by omega))) (fun _=>rfl)) rfl ?_)
        |refine eQ rfl rfl rfl (aN (by
           first
            |exact W rfl (by
            first
             |exact id
             |simp)
            |exact E rfl) rfl (fun hc=>by
           first
            |rfl
            |exact aG (by assumption)
            |assumption
            |exact aG (aQ (by(try simp at hc)<;>omega))) (fun _=>rfl)) rfl ?_
        |refine eQ rfl rfl rfl (bQ (by
           first
            |exact W rfl (by
            first
             |exact id
             |simp)
            |exact E rfl) rfl aO (fun hc=>by
           first
            |rfl
            |exact aG (by assumption)
            |assumption
            |exact aG (aQ (by(try simp at hc)<;>omega))) (fun _=>rfl)) rfl ?_
        |refine eL rfl rfl rfl (aN (by
           first
            |exact W rfl (by
            first
             |exact id
             |simp)
            |exact E rfl) rfl (fun hc=>by
           first
            |rfl
            |exact aG (by assumption)
            |assumption
            |exact aG (aQ (by(try simp at hc)<;>omega))) (fun _=>rfl)) rfl ?_
        |refine eL rfl rfl rfl (bQ (by
           first
            |exact W rfl (by
            first
             |exact id
             |simp)
            |exact E rfl) rfl aO (fun hc=>by
           first
            |rfl
            |exact aG (by assumption)
            |assumption
            |exact aG (aQ (by(try simp at hc)<;>omega))) (fun _=>rfl)) rfl ?_
        |refine eL rfl rfl rfl (bV (v:=.bool false)) rfl ?_
      first|refine kK rfl rfl rfl rfl rfl ?_ |(refine eZ rfl rfl rfl (cI (by first|exact W rfl id|exact E rfl) (by first|exact W rfl id|exact E rfl)) rfl ?_)|refine eQ rfl rfl rfl (cI (by first|exact W rfl (by first|exact id|simp)|exact E rfl) (by first|exact W rfl (by first|exact id|simp)|exact E rfl)) rfl ?_ |refine eL rfl rfl rfl (cI (by first|exact W rfl (by first|exact id|simp)|exact E rfl) (by first|exact W rfl (by first|exact id|simp)|exact E rfl)) rfl ?_ |refine eL rfl rfl rfl (bV (v:=.bool false)) rfl ?_
      refine aD7 ?_;refine sD (dQ r p q m lv (cU S n).2) rfl Tryz.call189 (kJ hN0 _ true) rfl aC cF aCT ?_;rintro _ σ' rfl h44;refine QR ?_;refine yR ?_;refine lZ ?_;refine⟨j+1,hlt,by show xl.length-(j+1)<xl.length-j;omega, ?_⟩
      (try dsimp only);rw[hnx];exact aJ
    · rw[ea];subst eb;rw[ea,show eq1 [] [v]=false by simp[eq1]]at hnx;refine fK [(0,true),(1,true),(2,true),(3,true),(4,true),(5,true),(6,true),(7,true),(8,true),(9,true),(10,true),(11,true),(12,true),(13,true),(14,true),(15,true),(16,true),(17,true),(18,true),(19,true),(20,false)] ?_;refine CG ?_;refine UQ ?_;refine fY rfl (aF (E rfl)) rfl ?_;refine UQ ?_;refine z79 ?_;rw[show((([]:List Int).length:Int)==(([v]:List Int).length:Int))=false from rfl];refine CH ?_;refine aGB ?_;first|refine kK rfl rfl rfl rfl rfl ?_ |(refine eZ rfl rfl rfl (aF (E rfl)) rfl ?_)|refine eQ rfl rfl rfl (aF (E rfl)) rfl ?_ |refine eL rfl rfl rfl (aF (E rfl)) rfl ?_ |refine eL rfl rfl rfl (bV (v:=.bool false)) rfl ?_
      first
        |refine kK rfl rfl rfl rfl rfl ?_
        |(
          first
           |refine eZ rfl rfl rfl (bG (by
            first
             |exact W rfl id
             |exact E rfl) (E rfl) (fun hc=>by(simp only[List.length_map];omega))) rfl ?_
           |refine eZ rfl rfl rfl (aV (by
            first
             |exact W rfl id
             |exact E rfl) aO (E rfl) (fun hc=>by omega)) rfl ?_
           |refine eZ rfl rfl rfl (bK (by
            first
             |exact W rfl id
             |exact E rfl) aO (E rfl) (fun hc=>by omega)) rfl ?_)
        |refine eQ rfl rfl rfl (bG (by
           first
            |exact W rfl (by
            first
             |exact id
             |simp)
            |exact E rfl) (E rfl) (fun hc=>by(try simp at hc)<;>(simp only[List.length_map];omega))) rfl ?_
        |refine eQ rfl rfl rfl (aV (by
           first
            |exact W rfl (by
            first
             |exact id
             |simp)
            |exact E rfl) aO (E rfl) (fun hc=>by(try simp at hc)<;>omega)) rfl ?_
        |refine eQ rfl rfl rfl (bK (by
           first
            |exact W rfl (by
            first
             |exact id
             |simp)
            |exact E rfl) aO (E rfl) (fun hc=>by(try simp at hc)<;>omega)) rfl ?_
        |refine eL rfl rfl rfl (bG (by
           first
            |exact W rfl (by
            first
             |exact id
             |simp)
            |exact E rfl) (E rfl) (fun hc=>by(try simp at hc)<;>(simp only[List.length_map];omega))) rfl ?_
        |refine eL rfl rfl rfl (aV (by
           first
            |exact W rfl (by
            first
             |exact id
             |simp)
            |exact E rfl) aO (E rfl) (fun hc=>by(try simp at hc)<;>omega)) rfl ?_
        |refine eL rfl rfl rfl (bK (by
           first
            |exact W rfl (by
            first
             |exact id
             |simp)
            |exact E rfl) aO (E rfl) (fun hc=>by(try simp at hc)<;>omega)) rfl ?_
        |refine eL rfl rfl rfl (bV (v:=.bool false)) rfl ?_
      first
        |refine kK rfl rfl rfl rfl rfl ?_
        |(
          first
           |refine eZ rfl rfl rfl (aN (by
            first
             |exact W rfl id
             |exact E rfl) rfl (fun hc=>by
            first
             |rfl
             |exact aG (by assumption)
             |assumption
             |exact aG (aQ (by omega))) (fun _=>rfl)) rfl ?_
           |refine eZ rfl rfl rfl (bQ (by
            first
             |exact W rfl id
             |exact E rfl) rfl aO (fun hc=>by
            first
             |rfl
             |exact aG (by assumption)
             |assumption
             |exact aG (aQ (by omega))) (fun _=>rfl)) rfl ?_)
        |refine eQ rfl rfl rfl (aN (by
           first
            |exact W rfl (by
            first
             |exact id
             |simp)
            |exact E rfl) rfl (fun hc=>by
           first
            |rfl
            |exact aG (by assumption)
            |assumption
            |exact aG (aQ (by(try simp at hc)<;>omega))) (fun _=>rfl)) rfl ?_
        |refine eQ rfl rfl rfl (bQ (by
           first
            |exact W rfl (by
            first
             |exact id
             |simp)
            |exact E rfl) rfl aO (fun hc=>by
           first
            |rfl
            |exact aG (by assumption)
            |assumption
            |exact aG (aQ (by(try simp at hc)<;>omega))) (fun _=>rfl)) rfl ?_
        |refine eL rfl rfl rfl (aN (by
           first
            |exact W rfl (by
            first
             |exact id
             |simp)
            |exact E rfl) rfl (fun hc=>by
           first
            |rfl
            |exact aG (by assumption)
            |assumption
            |exact aG (aQ (by(try simp at hc)<;>omega))) (fun _=>rfl)) rfl ?_
        |refine eL rfl rfl rfl (bQ (by
           first
            |exact W rfl (by
            first
             |exact id
             |simp)
            |exact E rfl) rfl aO (fun hc=>by
           first
            |rfl
            |exact aG (by assumption)
            |assumption
            |exact aG (aQ (by(try simp at hc)<;>omega))) (fun _=>rfl)) rfl ?_
        |refine eL rfl rfl rfl (bV (v:=.bool false)) rfl ?_
      first|refine kK rfl rfl rfl rfl rfl ?_ |(refine eZ rfl rfl rfl (aF (E rfl)) rfl ?_)|refine eQ rfl rfl rfl (aF (E rfl)) rfl ?_ |refine eL rfl rfl rfl (aF (E rfl)) rfl ?_ |refine eL rfl rfl rfl (bV (v:=.bool false)) rfl ?_
      first
        |refine kK rfl rfl rfl rfl rfl ?_
        |(
          first
           |refine eZ rfl rfl rfl (bG (by
            first
             |exact W rfl id
             |exact E rfl) (E rfl) (fun hc=>by(simp only[List.length_map];omega))) rfl ?_
           |refine eZ rfl rfl rfl (aV (by
            first
             |exact W rfl id
             |exact E rfl) aO (E rfl) (fun hc=>by omega)) rfl ?_
           |refine eZ rfl rfl rfl (bK (by
            first
             |exact W rfl id
             |exact E rfl) aO (E rfl) (fun hc=>by omega)) rfl ?_)
        |refine eQ rfl rfl rfl (bG (by
           first
            |exact W rfl (by
            first
             |exact id
             |simp)
            |exact E rfl) (E rfl) (fun hc=>by(try simp at hc)<;>(simp only[List.length_map];omega))) rfl ?_
        |refine eQ rfl rfl rfl (aV (by
           first
            |exact W rfl (by
            first
             |exact id
             |simp)
            |exact E rfl) aO (E rfl) (fun hc=>by(try simp at hc)<;>omega)) rfl ?_
        |refine eQ rfl rfl rfl (bK (by
           first
            |exact W rfl (by
            first
             |exact id
             |simp)
            |exact E rfl) aO (E rfl) (fun hc=>by(try simp at hc)<;>omega)) rfl ?_
        |refine eL rfl rfl rfl (bG (by
           first
            |exact W rfl (by
            first
             |exact id
             |simp)
            |exact E rfl) (E rfl) (fun hc=>by(try simp at hc)<;>(simp only[List.length_map];omega))) rfl ?_
        |refine eL rfl rfl rfl (aV (by
           first
            |exact W rfl (by
            first
             |exact id
             |simp)
            |exact E rfl) aO (E rfl) (fun hc=>by(try simp at hc)<;>omega)) rfl ?_
        |refine eL rfl rfl rfl (bK (by
           first
            |exact W rfl (by
            first
             |exact id
             |simp)
            |exact E rfl) aO (E rfl) (fun hc=>by(try simp at hc)<;>omega)) rfl ?_
        |refine eL rfl rfl rfl (bV (v:=.bool false)) rfl ?_
      first
        |refine kK rfl rfl rfl rfl rfl ?_
        |(
          first
           |refine eZ rfl rfl rfl (aN (by
            first
             |exact W rfl id
             |exact E rfl) rfl (fun hc=>by
            first
             |rfl
             |exact aG (by assumption)
             |assumption
             |exact aG (aQ (by omega))) (fun _=>rfl)) rfl ?_
           |refine eZ rfl rfl rfl (bQ (by
            first
             |exact W rfl id
             |exact E rfl) rfl aO (fun hc=>by
            first
             |rfl
             |exact aG (by assumption)
             |assumption
             |exact aG (aQ (by omega))) (fun _=>rfl)) rfl ?_)
        |refine eQ rfl rfl rfl (aN (by
           first
            |exact W rfl (by
            first
             |exact id
             |simp)
            |exact E rfl) rfl (fun hc=>by
           first
            |rfl
            |exact aG (by assumption)
            |assumption
            |exact aG (aQ (by(try simp at hc)<;>omega))) (fun _=>rfl)) rfl ?_
        |refine eQ rfl rfl rfl (bQ (by
           first
            |exact W rfl (by
            first
             |exact id
             |simp)
            |exact E rfl) rfl aO (fun hc=>by
           first
            |rfl
            |exact aG (by assumption)
            |assumption
            |exact aG (aQ (by(try simp at hc)<;>omega))) (fun _=>rfl)) rfl ?_
        |refine eL rfl rfl rfl (aN (by
           first
            |exact W rfl (by
            first
             |exact id
             |simp)
            |exact E rfl) rfl (fun hc=>by
           first
            |rfl
            |exact aG (by assumption)
            |assumption
            |exact aG (aQ (by(try simp at hc)<;>omega))) (fun _=>rfl)) rfl ?_
        |refine eL rfl rfl rfl (bQ (by
           first
            |exact W rfl (by
            first
             |exact id
             |simp)
            |exact E rfl) rfl aO (fun hc=>by
           first
            |rfl
            |exact aG (by assumption)
            |assumption
            |exact aG (aQ (by(try simp at hc)<;>omega))) (fun _=>rfl)) rfl ?_
        |refine eL rfl rfl rfl (bV (v:=.bool false)) rfl ?_
      first|refine kK rfl rfl rfl rfl rfl ?_ |(refine eZ rfl rfl rfl (cI (by first|exact W rfl id|exact E rfl) (by first|exact W rfl id|exact E rfl)) rfl ?_)|refine eQ rfl rfl rfl (cI (by first|exact W rfl (by first|exact id|simp)|exact E rfl) (by first|exact W rfl (by first|exact id|simp)|exact E rfl)) rfl ?_ |refine eL rfl rfl rfl (cI (by first|exact W rfl (by first|exact id|simp)|exact E rfl) (by first|exact W rfl (by first|exact id|simp)|exact E rfl)) rfl ?_ |refine eL rfl rfl rfl (bV (v:=.bool false)) rfl ?_
      refine aD7 ?_;refine sD (dQ r p q m lv (cU S n).2) rfl Tryz.call189 (kJ hN0 _ false) rfl aC cF aCT ?_;rintro _ σ' rfl h44;refine QR ?_;refine yR ?_;refine lZ ?_;refine⟨j+1,hlt,by show xl.length-(j+1)<xl.length-j;omega, ?_⟩
      (try dsimp only);rw[hnx];exact aJ
    · rw[ea];subst eb;rw[ea,show eq1 [g] []=false by simp[eq1]]at hnx;refine fK [(0,true),(1,true),(2,true),(3,true),(4,true),(5,true),(6,true),(7,true),(8,true),(9,true),(10,true),(11,true),(12,true),(13,true),(14,true),(15,true),(16,true),(17,true),(18,true),(19,true),(20,false)] ?_;refine CG ?_;refine UQ ?_;refine fY rfl (aF (E rfl)) rfl ?_;refine UQ ?_;refine z79 ?_;rw[show((([g]:List Int).length:Int)==(([]:List Int).length:Int))=false from rfl];refine CH ?_;refine aGB ?_;first|refine kK rfl rfl rfl rfl rfl ?_ |(refine eZ rfl rfl rfl (aF (E rfl)) rfl ?_)|refine eQ rfl rfl rfl (aF (E rfl)) rfl ?_ |refine eL rfl rfl rfl (aF (E rfl)) rfl ?_ |refine eL rfl rfl rfl (bV (v:=.bool false)) rfl ?_
      first
        |refine kK rfl rfl rfl rfl rfl ?_
        |(
          first
           |refine eZ rfl rfl rfl (bG (by
            first
             |exact W rfl id
             |exact E rfl) (E rfl) (fun hc=>by(simp only[List.length_map];omega))) rfl ?_
           |refine eZ rfl rfl rfl (aV (by
            first
             |exact W rfl id
             |exact E rfl) aO (E rfl) (fun hc=>by omega)) rfl ?_
           |refine eZ rfl rfl rfl (bK (by
            first
             |exact W rfl id
             |exact E rfl) aO (E rfl) (fun hc=>by omega)) rfl ?_)
        |refine eQ rfl rfl rfl (bG (by
           first
            |exact W rfl (by
            first
             |exact id
             |simp)
            |exact E rfl) (E rfl) (fun hc=>by(try simp at hc)<;>(simp only[List.length_map];omega))) rfl ?_
        |refine eQ rfl rfl rfl (aV (by
           first
            |exact W rfl (by
            first
             |exact id
             |simp)
            |exact E rfl) aO (E rfl) (fun hc=>by(try simp at hc)<;>omega)) rfl ?_
        |refine eQ rfl rfl rfl (bK (by
           first
            |exact W rfl (by
            first
             |exact id
             |simp)
            |exact E rfl) aO (E rfl) (fun hc=>by(try simp at hc)<;>omega)) rfl ?_
        |refine eL rfl rfl rfl (bG (by
           first
            |exact W rfl (by
            first
             |exact id
             |simp)
            |exact E rfl) (E rfl) (fun hc=>by(try simp at hc)<;>(simp only[List.length_map];omega))) rfl ?_
        |refine eL rfl rfl rfl (aV (by
           first
            |exact W rfl (by
            first
             |exact id
             |simp)
            |exact E rfl) aO (E rfl) (fun hc=>by(try simp at hc)<;>omega)) rfl ?_
        |refine eL rfl rfl rfl (bK (by
           first
            |exact W rfl (by
            first
             |exact id
             |simp)
            |exact E rfl) aO (E rfl) (fun hc=>by(try simp at hc)<;>omega)) rfl ?_
        |refine eL rfl rfl rfl (bV (v:=.bool false)) rfl ?_
      first
        |refine kK rfl rfl rfl rfl rfl ?_
        |(
          first
           |refine eZ rfl rfl rfl (aN (by
            first
             |exact W rfl id
             |exact E rfl) rfl (fun hc=>by
            first
             |rfl
             |exact aG (by assumption)
             |assumption
             |exact aG (aQ (by omega))) (fun _=>rfl)) rfl ?_
           |refine eZ rfl rfl rfl (bQ (by
            first
             |exact W rfl id
             |exact E rfl) rfl aO (fun hc=>by
            first
             |rfl
             |exact aG (by assumption)
             |assumption
             |exact aG (aQ (by omega))) (fun _=>rfl)) rfl ?_)
        |refine eQ rfl rfl rfl (aN (by
           first
            |exact W rfl (by
            first
             |exact id
             |simp)
            |exact E rfl) rfl (fun hc=>by
           first
            |rfl
            |exact aG (by assumption)
            |assumption
            |exact aG (aQ (by(try simp at hc)<;>omega))) (fun _=>rfl)) rfl ?_
        |refine eQ rfl rfl rfl (bQ (by
           first
            |exact W rfl (by
            first
             |exact id
             |simp)
            |exact E rfl) rfl aO (fun hc=>by
           first
            |rfl
            |exact aG (by assumption)
            |assumption
            |exact aG (aQ (by(try simp at hc)<;>omega))) (fun _=>rfl)) rfl ?_
        |refine eL rfl rfl rfl (aN (by
           first
            |exact W rfl (by
            first
             |exact id
             |simp)
            |exact E rfl) rfl (fun hc=>by
           first
            |rfl
            |exact aG (by assumption)
            |assumption
            |exact aG (aQ (by(try simp at hc)<;>omega))) (fun _=>rfl)) rfl ?_
        |refine eL rfl rfl rfl (bQ (by
           first
            |exact W rfl (by
            first
             |exact id
             |simp)
            |exact E rfl) rfl aO (fun hc=>by
           first
            |rfl
            |exact aG (by assumption)
            |assumption
            |exact aG (aQ (by(try simp at hc)<;>omega))) (fun _=>rfl)) rfl ?_
        |refine eL rfl rfl rfl (bV (v:=.bool false)) rfl ?_
      first|refine kK rfl rfl rfl rfl rfl ?_ |(refine eZ rfl rfl rfl (aF (E rfl)) rfl ?_)|refine eQ rfl rfl rfl (aF (E rfl)) rfl ?_ |refine eL rfl rfl rfl (aF (E rfl)) rfl ?_ |refine eL rfl rfl rfl (bV (v:=.bool false)) rfl ?_
      first
        |refine kK rfl rfl rfl rfl rfl ?_
        |(
          first
           |refine eZ rfl rfl rfl (bG (by
            first
             |exact W rfl id
             |exact E rfl) (E rfl) (fun hc=>by(simp only[List.length_map];omega))) rfl ?_
           |refine eZ rfl rfl rfl (aV (by
            first
             |exact W rfl id
             |exact E rfl) aO (E rfl) (fun hc=>by omega)) rfl ?_
           |refine eZ rfl rfl rfl (bK (by
            first
             |exact W rfl id
             |exact E rfl) aO (E rfl) (fun hc=>by omega)) rfl ?_)
        |refine eQ rfl rfl rfl (bG (by
           first
            |exact W rfl (by
            first
             |exact id
             |simp)
            |exact E rfl) (E rfl) (fun hc=>by(try simp at hc)<;>(simp only[List.length_map];omega))) rfl ?_
        |refine eQ rfl rfl rfl (aV (by
           first
            |exact W rfl (by
            first
             |exact id
             |simp)
            |exact E rfl) aO (E rfl) (fun hc=>by(try simp at hc)<;>omega)) rfl ?_
        |refine eQ rfl rfl rfl (bK (by
           first
            |exact W rfl (by
            first
             |exact id
             |simp)
            |exact E rfl) aO (E rfl) (fun hc=>by(try simp at hc)<;>omega)) rfl ?_
        |refine eL rfl rfl rfl (bG (by
           first
            |exact W rfl (by
            first
             |exact id
             |simp)
            |exact E rfl) (E rfl) (fun hc=>by(try simp at hc)<;>(simp only[List.length_map];omega))) rfl ?_
        |refine eL rfl rfl rfl (aV (by
           first
            |exact W rfl (by
            first
             |exact id
             |simp)
            |exact E rfl) aO (E rfl) (fun hc=>by(try simp at hc)<;>omega)) rfl ?_
        |refine eL rfl rfl rfl (bK (by
           first
            |exact W rfl (by
            first
             |exact id
             |simp)
            |exact E rfl) aO (E rfl) (fun hc=>by(try simp at hc)<;>omega)) rfl ?_
        |refine eL rfl rfl rfl (bV (v:=.bool false)) rfl ?_
      first
        |refine kK rfl rfl rfl rfl rfl ?_
        |(
          first
           |refine eZ rfl rfl rfl (aN (by
            first
             |exact W rfl id
             |exact E rfl) rfl (fun hc=>by
            first
             |rfl
             |exact aG (by assumption)
             |assumption
             |exact aG (aQ (by omega))) (fun _=>rfl)) rfl ?_
           |refine eZ rfl rfl rfl (bQ (by
            first
             |exact W rfl id
             |exact E rfl) rfl aO (fun hc=>by
            first
             |rfl
             |exact aG (by assumption)
             |assumption
             |exact aG (aQ (by omega))) (fun _=>rfl)) rfl ?_)
        |refine eQ rfl rfl rfl (aN (by
           first
            |exact W rfl (by
            first
             |exact id
             |simp)
            |exact E rfl) rfl (fun hc=>by
           first
            |rfl
            |exact aG (by assumption)
            |assumption
            |exact aG (aQ (by(try simp at hc)<;>omega))) (fun _=>rfl)) rfl ?_
        |refine eQ rfl rfl rfl (bQ (by
           first
            |exact W rfl (by
            first
             |exact id
             |simp)
            |exact E rfl) rfl aO (fun hc=>by
           first
            |rfl
            |exact aG (by assumption)
            |assumption
            |exact aG (aQ (by(try simp at hc)<;>omega))) (fun _=>rfl)) rfl ?_
        |refine eL rfl rfl rfl (aN (by
           first
            |exact W rfl (by
            first
             |exact id
             |simp)
            |exact E rfl) rfl (fun hc=>by
           first
            |rfl
            |exact aG (by assumption)
            |assumption
            |exact aG (aQ (by(try simp at hc)<;>omega))) (fun _=>rfl)) rfl ?_
        |refine eL rfl rfl rfl (bQ (by
           first
            |exact W rfl (by
            first
             |exact id
             |simp)
            |exact E rfl) rfl aO (fun hc=>by
           first
            |rfl
            |exact aG (by assumption)
            |assumption
            |exact aG (aQ (by(try simp at hc)<;>omega))) (fun _=>rfl)) rfl ?_
        |refine eL rfl rfl rfl (bV (v:=.bool false)) rfl ?_
      first|refine kK rfl rfl rfl rfl rfl ?_ |(refine eZ rfl rfl rfl (cI (by first|exact W rfl id|exact E rfl) (by first|exact W rfl id|exact E rfl)) rfl ?_)|refine eQ rfl rfl rfl (cI (by first|exact W rfl (by first|exact id|simp)|exact E rfl) (by first|exact W rfl (by first|exact id|simp)|exact E rfl)) rfl ?_ |refine eL rfl rfl rfl (cI (by first|exact W rfl (by first|exact id|simp)|exact E rfl) (by first|exact W rfl (by first|exact id|simp)|exact E rfl)) rfl ?_ |refine eL rfl rfl rfl (bV (v:=.bool false)) rfl ?_
      refine aD7 ?_;refine sD (dQ r p q m lv (cU S n).2) rfl Tryz.call189 (kJ hN0 _ false) rfl aC cF aCT ?_;rintro _ σ' rfl h44;refine QR ?_;refine yR ?_;refine lZ ?_;refine⟨j+1,hlt,by show xl.length-(j+1)<xl.length-j;omega, ?_⟩
      (try dsimp only);rw[hnx];exact aJ
    · rw[ea];subst eb;rw[ea,show eq1 [g] [v]=(g==v) by simp[eq1]]at hnx;have hg1:[g].length=1:=rfl;have hv1:[v].length=1:=rfl;refine fK [(0,true),(1,true),(2,true),(3,true),(4,true),(5,true),(6,true),(7,true),(8,true),(9,true),(10,true),(11,true),(12,true),(13,true),(14,true),(15,true),(16,true),(17,true),(18,true),(19,true),(20,false)] ?_;refine CG ?_;refine UQ ?_;refine fY rfl (aF (E rfl)) rfl ?_;refine UQ ?_;refine z79 ?_;rw[show((([g]:List Int).length:Int)==(([v]:List Int).length:Int))=true from rfl];refine CH ?_;refine aHD ?_;rw[show((([g]:List Int).length:Int)==0)=false from rfl]
      (first|refine kK rfl rfl rfl rfl rfl ?_ |(refine eZ rfl rfl rfl (aF (by first|exact W rfl id|exact E rfl)) rfl ?_)|refine eQ rfl rfl rfl (aF (by first|exact W rfl id|exact E rfl)) rfl ?_);first|refine kK rfl rfl rfl rfl rfl ?_ |(refine eZ rfl rfl rfl (aF (E rfl)) rfl ?_)|refine eQ rfl rfl rfl (aF (E rfl)) rfl ?_ |refine eL rfl rfl rfl (aF (E rfl)) rfl ?_ |refine eL rfl rfl rfl (bV (v:=.bool false)) rfl ?_
      first
        |refine kK rfl rfl rfl rfl rfl ?_
        |(
          first
           |refine eZ rfl rfl rfl (bG (by
            first
             |exact W rfl id
             |exact E rfl) (E rfl) (fun hc=>by(simp only[List.length_map];omega))) rfl ?_
           |refine eZ rfl rfl rfl (aV (by
            first
             |exact W rfl id
             |exact E rfl) aO (E rfl) (fun hc=>by omega)) rfl ?_
           |refine eZ rfl rfl rfl (bK (by
            first
             |exact W rfl id
             |exact E rfl) aO (E rfl) (fun hc=>by omega)) rfl ?_)
        |refine eQ rfl rfl rfl (bG (by
           first
            |exact W rfl (by
            first
             |exact id
             |simp)
            |exact E rfl) (E rfl) (fun hc=>by(try simp at hc)<;>(simp only[List.length_map];omega))) rfl ?_
        |refine eQ rfl rfl rfl (aV (by
           first
            |exact W rfl (by
            first
             |exact id
             |simp)
            |exact E rfl) aO (E rfl) (fun hc=>by(try simp at hc)<;>omega)) rfl ?_
        |refine eQ rfl rfl rfl (bK (by
           first
            |exact W rfl (by
            first
             |exact id
             |simp)
            |exact E rfl) aO (E rfl) (fun hc=>by(try simp at hc)<;>omega)) rfl ?_
        |refine eL rfl rfl rfl (bG (by
           first
            |exact W rfl (by
            first
             |exact id
             |simp)
            |exact E rfl) (E rfl) (fun hc=>by(try simp at hc)<;>(simp only[List.length_map];omega))) rfl ?_
        |refine eL rfl rfl rfl (aV (by
           first
            |exact W rfl (by
            first
             |exact id
             |simp)
            |exact E rfl) aO (E rfl) (fun hc=>by(try simp at hc)<;>omega)) rfl ?_
        |refine eL rfl rfl rfl (bK (by
           first
            |exact W rfl (by
            first
             |exact id
             |simp)
            |exact E rfl) aO (E rfl) (fun hc=>by(try simp at hc)<;>omega)) rfl ?_
        |refine eL rfl rfl rfl (bV (v:=.bool false)) rfl ?_
      first
        |refine kK rfl rfl rfl rfl rfl ?_
        |(
          first
           |refine eZ rfl rfl rfl (aN (by
            first
             |exact W rfl id
             |exact E rfl) rfl (fun hc=>by
            first
             |rfl
             |exact aG (by assumption)
             |assumption
             |exact aG (aQ (by omega))) (fun _=>rfl)) rfl ?_
           |refine eZ rfl rfl rfl (bQ (by
            first
             |exact W rfl id
             |exact E rfl) rfl aO (fun hc=>by
            first
             |rfl
             |exact aG (by assumption)
             |assumption
             |exact aG (aQ (by omega))) (fun _=>rfl)) rfl ?_)
        |refine eQ rfl rfl rfl (aN (by
           first
            |exact W rfl (by
            first
             |exact id
             |simp)
            |exact E rfl) rfl (fun hc=>by
           first
            |rfl
            |exact aG (by assumption)
            |assumption
            |exact aG (aQ (by(try simp at hc)<;>omega))) (fun _=>rfl)) rfl ?_
        |refine eQ rfl rfl rfl (bQ (by
           first
            |exact W rfl (by
            first
             |exact id
             |simp)
            |exact E rfl) rfl aO (fun hc=>by
           first
            |rfl
            |exact aG (by assumption)
            |assumption
            |exact aG (aQ (by(try simp at hc)<;>omega))) (fun _=>rfl)) rfl ?_
        |refine eL rfl rfl rfl (aN (by
           first
            |exact W rfl (by
            first
             |exact id
             |simp)
            |exact E rfl) rfl (fun hc=>by
           first
            |rfl
            |exact aG (by assumption)
            |assumption
            |exact aG (aQ (by(try simp at hc)<;>omega))) (fun _=>rfl)) rfl ?_
        |refine eL rfl rfl rfl (bQ (by
           first
            |exact W rfl (by
            first
             |exact id
             |simp)
            |exact E rfl) rfl aO (fun hc=>by
           first
            |rfl
            |exact aG (by assumption)
            |assumption
            |exact aG (aQ (by(try simp at hc)<;>omega))) (fun _=>rfl)) rfl ?_
        |refine eL rfl rfl rfl (bV (v:=.bool false)) rfl ?_
      first|refine kK rfl rfl rfl rfl rfl ?_ |(refine eZ rfl rfl rfl (aF (E rfl)) rfl ?_)|refine eQ rfl rfl rfl (aF (E rfl)) rfl ?_ |refine eL rfl rfl rfl (aF (E rfl)) rfl ?_ |refine eL rfl rfl rfl (bV (v:=.bool false)) rfl ?_
      first
        |refine kK rfl rfl rfl rfl rfl ?_
        |(
          first
           |refine eZ rfl rfl rfl (bG (by
            first
             |exact W rfl id
             |exact E rfl) (E rfl) (fun hc=>by(simp only[List.length_map];omega))) rfl ?_
           |refine eZ rfl rfl rfl (aV (by
            first
             |exact W rfl id
             |exact E rfl) aO (E rfl) (fun hc=>by omega)) rfl ?_
           |refine eZ rfl rfl rfl (bK (by
            first
             |exact W rfl id
             |exact E rfl) aO (E rfl) (fun hc=>by omega)) rfl ?_)
        |refine eQ rfl rfl rfl (bG (by
           first
            |exact W rfl (by
            first
             |exact id
             |simp)
            |exact E rfl) (E rfl) (fun hc=>by(try simp at hc)<;>(simp only[List.length_map];omega))) rfl ?_
        |refine eQ rfl rfl rfl (aV (by
           first
            |exact W rfl (by
            first
             |exact id
             |simp)
            |exact E rfl) aO (E rfl) (fun hc=>by(try simp at hc)<;>omega)) rfl ?_
        |refine eQ rfl rfl rfl (bK (by
           first
            |exact W rfl (by
            first
             |exact id
             |simp)
            |exact E rfl) aO (E rfl) (fun hc=>by(try simp at hc)<;>omega)) rfl ?_
        |refine eL rfl rfl rfl (bG (by
           first
            |exact W rfl (by
            first
             |exact id
             |simp)
            |exact E rfl) (E rfl) (fun hc=>by(try simp at hc)<;>(simp only[List.length_map];omega))) rfl ?_
        |refine eL rfl rfl rfl (aV (by
           first
            |exact W rfl (by
            first
             |exact id
             |simp)
            |exact E rfl) aO (E rfl) (fun hc=>by(try simp at hc)<;>omega)) rfl ?_
        |refine eL rfl rfl rfl (bK (by
           first
            |exact W rfl (by
            first
             |exact id
             |simp)
            |exact E rfl) aO (E rfl) (fun hc=>by(try simp at hc)<;>omega)) rfl ?_
        |refine eL rfl rfl rfl (bV (v:=.bool false)) rfl ?_
      first
        |refine kK rfl rfl rfl rfl rfl ?_
        |(
          first
           |refine eZ rfl rfl rfl (aN (by
            first
             |exact W rfl id
             |exact E rfl) rfl (fun hc=>by
            first
             |rfl
             |exact aG (by assumption)
             |assumption
             |exact aG (aQ (by omega))) (fun _=>rfl)) rfl ?_
           |refine eZ rfl rfl rfl (bQ (by
            first
             |exact W rfl id
             |exact E rfl) rfl aO (fun hc=>by
            first
             |rfl
             |exact aG (by assumption)
             |assumption
             |exact aG (aQ (by omega))) (fun _=>rfl)) rfl ?_)
        |refine eQ rfl rfl rfl (aN (by
           first
            |exact W rfl (by
            first
             |exact id
             |simp)
            |exact E rfl) rfl (fun hc=>by
           first
            |rfl
            |exact aG (by assumption)
            |assumption
            |exact aG (aQ (by(try simp at hc)<;>omega))) (fun _=>rfl)) rfl ?_
        |refine eQ rfl rfl rfl (bQ (by
           first
            |exact W rfl (by
            first
             |exact id
             |simp)
            |exact E rfl) rfl aO (fun hc=>by
           first
            |rfl
            |exact aG (by assumption)
            |assumption
            |exact aG (aQ (by(try simp at hc)<;>omega))) (fun _=>rfl)) rfl ?_
        |refine eL rfl rfl rfl (aN (by
           first
            |exact W rfl (by
            first
             |exact id
             |simp)
            |exact E rfl) rfl (fun hc=>by
           first
            |rfl
            |exact aG (by assumption)
            |assumption
            |exact aG (aQ (by(try simp at hc)<;>omega))) (fun _=>rfl)) rfl ?_
        |refine eL rfl rfl rfl (bQ (by
           first
            |exact W rfl (by
            first
             |exact id
             |simp)
            |exact E rfl) rfl aO (fun hc=>by
           first
            |rfl
            |exact aG (by assumption)
            |assumption
            |exact aG (aQ (by(try simp at hc)<;>omega))) (fun _=>rfl)) rfl ?_
        |refine eL rfl rfl rfl (bV (v:=.bool false)) rfl ?_
      first|refine kK rfl rfl rfl rfl rfl ?_ |(refine eZ rfl rfl rfl (cI (by first|exact W rfl id|exact E rfl) (by first|exact W rfl id|exact E rfl)) rfl ?_)|refine eQ rfl rfl rfl (cI (by first|exact W rfl (by first|exact id|simp)|exact E rfl) (by first|exact W rfl (by first|exact id|simp)|exact E rfl)) rfl ?_ |refine eL rfl rfl rfl (cI (by first|exact W rfl (by first|exact id|simp)|exact E rfl) (by first|exact W rfl (by first|exact id|simp)|exact E rfl)) rfl ?_ |refine eL rfl rfl rfl (bV (v:=.bool false)) rfl ?_
      refine aD7 ?_;refine sD (dQ r p q m lv (cU S n).2) rfl Tryz.call189 (kJ hN0 _ (g==v)) rfl aC cF aCT ?_;rintro _ σ' rfl h44;refine QR ?_;refine yR ?_;refine lZ ?_;refine⟨j+1,hlt,by show xl.length-(j+1)<xl.length-j;omega, ?_⟩
      (try dsimp only);rw[hnx];exact aJ
  obtain rfl:j=xl.length:=by simp at g4;omega
  rw[List.take_length]at hS⊢;generalize xl.foldl (xX w) s2=S at hS⊢;have h5:=hS.pops w;unfold dQ mU
  (try dsimp only);refine dF ?_;refine cw (dQ r p q m lv S) Tryz.call192 (lG hN0 S hS w (by omega)) rfl aC cF ?_;rintro _ σ' rfl h48;refine mR ?_;refine eU ?_;refine cw (dQ r p q m lv (dR S w)) Tryz.call187 (EY hN0 _ h5) rfl aC cF ?_;rintro _ σ' rfl h50;refine mR ?_;refine bY ?_;apply aD;exact aE
  · rfl
  · exact aA
end
structure Ins.Ck (x:Ins):Prop where
 nn:x.op=12∨x.op=13∨x.op=14∨x.op=16∨x.op=32∨x.op=33∨x.op=34∨x.op=35∨x.op=36→0≤x.a
 ln:x.op=14→∀n∈x.l,0≤n
 ll:x.l.length≤1000000
 hi:x.a≤9223372036854775807
structure Md.Ck (m:Md):Prop where
 ts:m.TS
 im:m.im.length≤1000000
section
variable {r p q : Nat} {m : Md} {lv : AV}
theorem WA(hN:Nm r p q)(hm:m.Ck)(s:PS)(h:s.Gd)(hv:s.vs.length≤900000)(hc:s.cs.length≤900000)(x:Ins)(hx:x.Ck)(h11:x.op=11→2≤s.cs.length):SCall Tryz.prog 77 [.ptr r 0,.agg (iv .any x)] (dQ r p q m lv s)
  (fun y σ=>∃e f,Nm r e f∧y=.bool (cL m s x).1∧σ=dQ r e f m lv (cL m s x).2):=by
 have hN0:=hN;obtain⟨n1,n2,n3⟩:=hN;unfold iv;refine cC 133 [0,1,3,4,5,6,8,9,13,15,24,34,41,60,70,84,89,103,113] Tryz.func77 ?_;unfold dQ mU
 (try dsimp only);refine dG ?_;refine iG fun r3 h3=> ?_;intros
 refine iX ?_;refine qS ?_;refine aB rfl (fun g3=> ?_) (fun g3=> ?_)
 ·rw[show cL m s x=(true,oU s) by unfold cL;simp only[g3,if_true]];have hL:=hN0;refine dO ?_;refine cw (dQ r p q m lv s) Tryz.call187 (EY hN0 s h) rfl aC cF ?_;rintro _ σ' rfl h12;refine pB ?_;refine kU ?_;refine bP ?_;exact aD aE ⟨_,_,hL,by rfl,rfl⟩ aA
 refine dC ?_;refine aB rfl (fun g5=> ?_) (fun g5=> ?_)
 ·rw[show cL m s x=(true,s) by unfold cL;simp only[g3,g5,if_true,if_false,Bool.false_eq_true]];have hL:=hN0;refine bP ?_;exact aD aE ⟨_,_,hL,by rfl,rfl⟩ aA
 refine dC ?_;apply fD rfl;exact cT
 ·intro _;(refine aI ?_);refine eV ?_;exact aJ
 refine aI ?_;refine aB rfl (fun g6=> ?_) (fun g6=> ?_)
 ·refine aI ?_;rw[show cL m s x=(true,openP s x.op x.a) by unfold cL;simp only[g3,g5,g6,if_true,if_false,Bool.false_eq_true]];refine lO ?_;refine oO ?_;refine cw (dQ r p q m lv s) Tryz.call76 (EX hN0 s h.bc x.op x.a) rfl aC cF ?_;rintro _ σ' ⟨f,hL,rfl⟩ h23;unfold dQ mU;(try dsimp only);obtain⟨e1,e2,e3⟩:=id hL;refine AJ ?_;refine bP ?_;exact aD aE ⟨_,_,hL,by rfl,rfl⟩ aA
 refine dC ?_;refine aB rfl (fun g9=> ?_) (fun g9=> ?_)
 ·have h1:=h.pop 1;rw[show cL m s x=(true,openP (cR s 1).2 x.op x.a) by unfold cL;simp only[g3,g5,g6,g9,if_true,if_false,Bool.false_eq_true]];refine dO ?_;refine cw (dQ r p q m lv s) Tryz.call188 (pG hN0 s h 1) rfl aC cF ?_;rintro _ σ' ⟨rfl,rfl⟩ h27;refine mR ?_;refine lO ?_;refine oO ?_;refine cw (dQ r p q m lv (cR s 1).2) Tryz.call76 (EX hN0 _ h1.bc x.op x.a) rfl aC cF ?_;rintro _ σ' ⟨f,hL,rfl⟩ h33;unfold dQ mU;(try dsimp only);obtain⟨e1,e2,e3⟩:=id hL;refine AJ ?_;refine bP ?_;exact aD aE ⟨_,_,hL,by rfl,rfl⟩ aA
 refine dC ?_;refine aB rfl (fun g12=> ?_) (fun g12=> ?_)
 ·rw[show cL m s x=(true,openP (fX s) 5 s.top.kd) by unfold cL;simp only[g3,g5,g6,g9,g12,if_true,if_false,Bool.false_eq_true]];refine dF ?_;refine cw (dQ r p q m lv s) Tryz.call79 (NE hN0 s h) rfl aC cF ?_;rintro _ σ' ⟨rfl,rfl⟩ h38;refine pB ?_;refine aHz ?_;refine cw (dQ r p q m lv (fX s)) Tryz.call76 (EX hN0 (fX s) (by rw[EV,qD];omega) 5 s.top.kd) rfl aC cF ?_;rintro _ σ' ⟨f,hL,rfl⟩ h40;unfold dQ mU;(try dsimp only);obtain⟨e1,e2,e3⟩:=id hL;refine AJ ?_;refine bP ?_;exact aD aE ⟨_,_,hL,by rfl,rfl⟩ aA
 refine dC ?_;refine aB rfl (fun g14=> ?_) (fun g14=> ?_)
 ·have h2:=h11 (by simpa using g14);have hsl:=GX s;have hll:=rD s.top.kd;rw[show cL m s x=(true,fO (dD (fX s) (if(s.top.op !=4)=true then true else(s.top.kd==0))) (aY s.top.kd)) by unfold cL;simp only[g3,g5,g6,g9,g12,g14,if_true,if_false,Bool.false_eq_true]];refine dO ?_;refine cw (dQ r p q m lv s) Tryz.call79 (NE hN0 s h) rfl aC cF ?_;rintro _ σ' ⟨rfl,rfl⟩ h44;refine pB ?_;refine jZ fun r5 h5=> ?_;intros
  refine jJ ?_;refine lO ?_;refine lo (gA (E rfl) (E rfl)) rfl ?_;refine nM ?_;refine sL ?_;refine nX ?_;refine cw (dQ r p q m lv (fX s)) Tryz.call189 (kJ hN0 (fX s) (if(s.top.op !=4)=true then true else(s.top.kd==0))) rfl aC cF ?_;rintro _ σ' rfl h54;refine mR ?_;refine lO ?_;refine HX [] Tryz.call191 (tY s.top.kd) ?_;refine cw (dQ r p q m lv (dD (fX s) (if(s.top.op !=4)=true then true else(s.top.kd==0)))) Tryz.call190 (lX hN0 _ (by rw[EU];omega) (aY s.top.kd) (by omega)) rfl aC cF ?_;rintro _ σ' ⟨e,hL,rfl⟩ h59;unfold dQ mU;(try dsimp only);obtain⟨e1,e2,e3⟩:=id hL;refine AJ ?_;refine bP ?_;exact aD aE ⟨_,_,hL,by rfl,rfl⟩ aA
 refine dC ?_;refine aB rfl (fun g18=> ?_) (fun g18=> ?_)
 ·have ha:=hx.nn (.inl (by simpa using g18));have h1:=h.label x.a;have hll:=oF s x.a;rw[show cL m s x=(true,oU (dR (cU s x.a).2 (cU s x.a).1)) by unfold cL;simp only[g3,g5,g6,g9,g12,g14,g18,if_true,if_false,Bool.false_eq_true]];have hL:=hN0;refine dF ?_;refine oO ?_;refine cw (dQ r p q m lv s) Tryz.call193 (BN hN0 s h.bc x.a ha) rfl aC cF ?_;rintro _ σ' ⟨rfl,rfl⟩ h66;refine pB ?_;refine cw (dQ r p q m lv (cU s x.a).2) Tryz.call192 (lG hN0 _ h1 (cU s x.a).1 (by omega)) rfl aC cF ?_;rintro _ σ' rfl h67;refine mR ?_;refine eU ?_;refine cw (dQ r p q m lv (dR (cU s x.a).2 (cU s x.a).1)) Tryz.call187 (EY hN0 _ (h1.pops _)) rfl aC cF ?_;rintro _ σ' rfl h69;refine pB ?_;refine kU ?_;refine bP ?_;exact aD aE ⟨_,_,hL,by rfl,rfl⟩ aA
 refine dC ?_;refine aB rfl (fun g21=> ?_) (fun g21=> ?_)
 ·have ha:=hx.nn (.inr (.inl (by simpa using g21)));have h1:=h.pop 1;have h2:=h1.label x.a;have hll:=oF (cR s 1).2 x.a;rw[show cL m s x=(true,fO (dR (cU (cR s 1).2 x.a).2 (cU (cR s 1).2 x.a).1) (cU (cR s 1).2 x.a).1) by unfold cL;simp only[g3,g5,g6,g9,g12,g14,g18,g21,if_true,if_false,Bool.false_eq_true]];refine dO ?_;refine cw (dQ r p q m lv s) Tryz.call188 (pG hN0 s h 1) rfl aC cF ?_;rintro _ σ' ⟨rfl,rfl⟩ h73;refine mR ?_;refine lO ?_;refine cw (dQ r p q m lv (cR s 1).2) Tryz.call193 (BN hN0 _ h1.bc x.a ha) rfl aC cF ?_;rintro _ σ' ⟨rfl,rfl⟩ h77;refine pB ?_;refine nR ?_;refine cw (dQ r p q m lv (cU (cR s 1).2 x.a).2) Tryz.call192 (lG hN0 _ h2 (cU (cR s 1).2 x.a).1 (by omega)) rfl aC cF ?_;rintro _ σ' rfl h80;refine mR ?_;refine kL ?_;refine cw (dQ r p q m lv (dR (cU (cR s 1).2 x.a).2 (cU (cR s 1).2 x.a).1)) Tryz.call190 (lX hN0 _ (h2.pops _).bv (cU (cR s 1).2 x.a).1 (by omega)) rfl aC cF ?_;rintro _ σ' ⟨e,hL,rfl⟩ h83;unfold dQ mU;(try dsimp only);obtain⟨e1,e2,e3⟩:=id hL;refine AJ ?_;refine bP ?_;exact aD aE ⟨_,_,hL,by rfl,rfl⟩ aA
 refine dC ?_;refine aB rfl (fun g26=> ?_) (fun g26=> ?_)
 ·have h14:x.op=14:=by simpa using g26
  have ha:=hx.nn (.inr (.inr (.inl h14)));rw[show cL m s x=(true,tW s x) by unfold cL;simp only[g3,g5,g6,g9,g12,g14,g18,g21,g26,if_true,if_false,Bool.false_eq_true]];have hL:=hN0;refine dO ?_;refine mP ?_;refine cw (dQ r p q m lv s) Tryz.call194 (aCW hN0 s h x ha (hx.ln h14) hx.ll) rfl aC cF ?_;rintro _ σ' rfl h88;refine pB ?_;refine kU ?_;refine bP ?_;exact aD aE ⟨_,_,hL,by rfl,rfl⟩ aA
 refine dC ?_;refine aB rfl (fun g28=> ?_) (fun g28=> ?_)
 ·obtain⟨c0,hc0⟩:∃c0,s.cs[0]? =some c0:=⟨_,List.getElem?_eq_getElem (List.length_pos_iff.2 h.ne)⟩
  have hlp:0<s.cs.length:=List.length_pos_iff.2 h.ne;have hel:(s.cs.map mM)[(0:Int).toNat]? =some (mM c0):=by rw[List.getElem?_map];show(s.cs[0]?).map mM=_;rw[hc0];rfl
  have hll:=rD c0.kd;have h1:=h.pops (aY c0.kd);rw[show cL m s x=(true,oU (dR s (aY c0.kd))) by unfold cL;simp only[g3,g5,g6,g9,g12,g14,g18,g21,g26,g28,if_true,if_false,Bool.false_eq_true];rw[List.getD_eq_getElem?_getD,hc0];rfl];have hL:=hN0;refine dF ?_;refine nN ?_;refine II ?_;refine yS ?_;refine z16 ?_;refine HX [] Tryz.call191 (tY c0.kd) ?_;refine cw (dQ r p q m lv s) Tryz.call192 (lG hN0 s h (aY c0.kd) (by omega)) rfl aC cF ?_;rintro _ σ' rfl h100;refine mR ?_;refine eU ?_;refine cw (dQ r p q m lv (dR s (aY c0.kd))) Tryz.call187 (EY hN0 _ h1) rfl aC cF ?_;rintro _ σ' rfl h102;refine pB ?_;refine kU ?_;refine bP ?_;exact aD aE ⟨_,_,hL,by rfl,rfl⟩ aA
 refine dC ?_;refine aB rfl (fun g31=> ?_) (fun g31=> ?_)
 ·have ha:=hx.nn (.inr (.inr (.inr (.inl (by simpa using g31)))));have hts:=qG hm.ts (kZ m x.a);rw[show cL m s x=(true,rC s (cM m (kZ m x.a)).1 (cM m (kZ m x.a)).2) by unfold cL;simp only[g3,g5,g6,g9,g12,g14,g18,g21,g26,g28,g31,if_true,if_false,Bool.false_eq_true]];refine dF ?_;refine oO ?_;refine cw (dQ r p q m lv s) Tryz.call196 (SP hN0 s hm.im x.a ha hx.hi) rfl aC cF ?_;rintro _ σ' ⟨rfl,rfl⟩ h109;refine pB ?_;refine LP ?_;refine cw (dQ r p q m lv s) Tryz.call195 (SQ hN0 s h _ hts _) rfl aC cF ?_;rintro _ σ' ⟨e,hL,rfl⟩ h112;unfold dQ mU;(try dsimp only);obtain⟨e1,e2,e3⟩:=id hL;refine AJ ?_;refine bP ?_;exact aD aE ⟨_,_,hL,by rfl,rfl⟩ aA
 refine dC ?_;refine aB rfl (fun g33=> ?_) (fun g33=> ?_)
 ·have hts:=qG hm.ts x.a;have h1:=h.need m.tb.has;have h2:=h1.pop 1;rw[show cL m s x=(true,rC (cR (dD s m.tb.has) 1).2 (cM m x.a).1 (cM m x.a).2) by unfold cL;simp only[g3,g5,g6,g9,g12,g14,g18,g21,g26,g28,g31,g33,if_true,if_false,Bool.false_eq_true]];refine dF ?_;refine AF ?_;refine oI ?_;refine oO ?_;refine cw (dQ r p q m lv s) Tryz.call189 (kJ hN0 s m.tb.has) rfl aC cF ?_;rintro _ σ' rfl h122;refine mR ?_;refine eU ?_;refine cw (dQ r p q m lv (dD s m.tb.has)) Tryz.call188 (pG hN0 _ h1 1) rfl aC cF ?_;rintro _ σ' ⟨rfl,rfl⟩ h124;refine mR ?_;refine kL ?_;refine oO ?_;refine cw (dQ r p q m lv (cR (dD s m.tb.has) 1).2) Tryz.call74 (sZ hN0 _ x.a) rfl aC cF ?_;rintro _ σ' ⟨rfl,rfl⟩ h129;refine pB ?_;refine LP ?_;refine cw (dQ r p q m lv (cR (dD s m.tb.has) 1).2) Tryz.call195 (SQ hN0 _ h2 _ hts _) rfl aC cF ?_;rintro _ σ' ⟨e,hL,rfl⟩ h132;unfold dQ mU;(try dsimp only);obtain⟨e1,e2,e3⟩:=id hL;refine AJ ?_;refine bP ?_;exact aD aE ⟨_,_,hL,by rfl,rfl⟩ aA
 rw[show cL m s x=(false,s) by unfold cL;simp only[g3,g5,g6,g9,g12,g14,g18,g21,g26,g28,g31,g33,if_true,if_false,Bool.false_eq_true]];have hL:=hN0;refine bP ?_;exact aD aE ⟨_,_,hL,by rfl,rfl⟩ aA
end
theorem aK8{op:Int}(h:(kN op).2.2=false):kN op=([],0,false):=by
 revert h;unfold kN;refine aK (p:=fun r:List Int×Int×Bool=>r.2.2=false→r=([],0,false)) (fun _ h=>by cases h) (fun _=> ?_);refine aK (p:=fun r:List Int×Int×Bool=>r.2.2=false→r=([],0,false)) (fun _ h=>by cases h) (fun _=> ?_);refine aK (p:=fun r:List Int×Int×Bool=>r.2.2=false→r=([],0,false)) (fun _ _=>rfl) (fun _=> ?_);refine aK (p:=fun r:List Int×Int×Bool=>r.2.2=false→r=([],0,false)) (fun _ h=>by cases h) (fun _=> ?_);refine aK (p:=fun r:List Int×Int×Bool=>r.2.2=false→r=([],0,false)) (fun _ h=>by cases h) (fun _=> ?_);exact aK (p:=fun r:List Int×Int×Bool=>r.2.2=false→r=([],0,false)) (fun _ h=>by cases h) (fun _ h=>by cases h)
theorem aIV(op:Int):(kN op).1.length≤2:=by
 unfold kN;refine aK (p:=fun r:List Int×Int×Bool=>r.1.length≤2) (fun _=>by simp) (fun _=> ?_);refine aK (p:=fun r:List Int×Int×Bool=>r.1.length≤2) (fun _=>by simp) (fun _=> ?_);refine aK (p:=fun r:List Int×Int×Bool=>r.1.length≤2) (fun _=>by simp) (fun _=> ?_);refine aK (p:=fun r:List Int×Int×Bool=>r.1.length≤2) (fun _=>by simp) (fun _=> ?_);refine aK (p:=fun r:List Int×Int×Bool=>r.1.length≤2) (fun _=>by simp) (fun _=> ?_);exact aK (p:=fun r:List Int×Int×Bool=>r.1.length≤2) (fun _=>by simp) (fun _=>by simp)
theorem aAA{op:Int}(h:(kN op).2.2=true):SCall Tryz.prog 200 [.int .i64 op] [] (fun y σ=>∃q,y=.tup [.own q 0 (kN op).1.length,.int .i64 (kN op).2.1,.bool true]∧σ=[(q,.arr 3 1 ((kN op).1.map aR))]):=
 (yZ op).mono fun x σ hk=>by unfold wE at hk;rw[if_pos h]at hk;exact hk
theorem aCX{op:Int}(h:(kN op).2.2=false):SCall Tryz.prog 200 [.int .i64 op] [] (fun y σ=>y=.tup [.ro 0 [] .nil,.int .i64 0,.bool false]∧σ=[]):=
 (yZ op).mono fun x σ hk=>by unfold wE at hk;rw[if_neg (by simp[h])]at hk;exact hk
theorem PS.Gd.loc {s:PS}(h:s.Gd)(ls:List Int)(n:Int):(cV ls s n).2.Gd:=by
 unfold cV;exact aK (p:=fun r:Int×PS=>r.2.Gd) (fun _=>⟨⟨⟨h.le,h.up⟩,h.ne⟩,h.bv,h.bc⟩) (fun _=>h)
theorem PS.Gd.glob {s:PS}(h:s.Gd)(m:Md)(n:Int):(eC m s n).2.Gd:=by
 unfold eC;exact aK (p:=fun r:Gl×PS=>r.2.Gd) (fun _=>⟨⟨⟨h.le,h.up⟩,h.ne⟩,h.bv,h.bc⟩) (fun _=>h)
section
variable {r p q : Nat} {m : Md} {ls : List Int}
theorem aCY(hN:Nm r p q)(s:PS)(h:s.Gd)(x:Ins)(hx:x.Ck):SCall Tryz.prog 78 [.ptr r 0,.agg (iv .any x)] (dQ r p q m (.ro 1 (ls.map aR) .any) s) (fun _ σ=>∃e,Nm r e q∧σ=dQ r e q m (.ro 1 (ls.map aR) .any) (dW m ls s x)):=by
 have hN0:=hN;obtain⟨n1,n2,n3⟩:=hN;unfold iv;refine cC 167 [0,1,3,4,5,6,7,8,9,13,31,35,46,55,63,78,89,104,111,118,126,132,138,144,150,157,162] Tryz.func78 ?_;unfold dQ mU
 (try dsimp only);refine dG ?_;refine iG fun r3 h3=> ?_;intros
 refine kU ?_;refine dG ?_;refine eS fun r10 h10=> ?_;intros
 refine eS fun r11 h11=> ?_;intros
 refine iR (j:=10) rfl bH (aM aO (by simp)) ?_;refine iR (j:=11) rfl bH (aM aO (by simp)) ?_;refine jK ?_;refine nE ?_;refine qS ?_;refine aB rfl (fun g7=> ?_) (fun g7=> ?_)
 ·rw[show dW m ls s x=(cR s 0).2 by unfold dW;simp only[g7,if_true,if_false,Bool.false_eq_true]];have hL:=hN0;refine dO ?_;refine cw (dQ r p q m (.ro 1 (ls.map aR) .any) s) Tryz.call188 (pG hN0 s h 0) rfl aC cF ?_;rintro _ σ' ⟨rfl,rfl⟩ h34;refine mR ?_;refine bY ?_;exact aD aE ⟨_,hL,rfl⟩ aA
 refine dC ?_;refine aB rfl (fun g9=> ?_) (fun g9=> ?_)
 ·have h1:=h.pop 1;have h2:=h1.pop 0;have h3:=h2.pop (cR (cR s 1).2 0).1;rw[show dW m ls s x=fO (cR (cR (cR s 1).2 0).2 (cR (cR s 1).2 0).1).2 [(cR (cR (cR s 1).2 0).2 (cR (cR s 1).2 0).1).1] by unfold dW;simp only[g7,g9,if_true,if_false,Bool.false_eq_true]];refine dO ?_;refine cw (dQ r p q m (.ro 1 (ls.map aR) .any) s) Tryz.call188 (pG hN0 s h 1) rfl aC cF ?_;rintro _ σ' ⟨rfl,rfl⟩ h38;refine mR ?_;refine yD ?_;refine cw (dQ r p q m (.ro 1 (ls.map aR) .any) (cR s 1).2) Tryz.call188 (pG hN0 _ h1 0) rfl aC cF ?_;rintro _ σ' ⟨rfl,rfl⟩ h42;refine pB ?_;refine cw (dQ r p q m (.ro 1 (ls.map aR) .any) (cR (cR s 1).2 0).2) Tryz.call188 (pG hN0 _ h2 _) rfl aC cF ?_;rintro _ σ' ⟨rfl,rfl⟩ h43;refine pB ?_;refine eS fun r44 h44=> ?_;intros
  refine iR (j:=44) rfl bH (aM aO (by simp)) ?_;refine cw (dQ r p q m (.ro 1 (ls.map aR) .any) (cR (cR (cR s 1).2 0).2 (cR (cR s 1).2 0).1).2) Tryz.call190 (lX hN0 _ h3.bv [(cR (cR (cR s 1).2 0).2 (cR (cR s 1).2 0).1).1] (by simp)) rfl aC cF ?_;rintro _ σ' ⟨e,hL,rfl⟩ h45;unfold dQ mU;(try dsimp only);obtain⟨e1,e2,e3⟩:=id hL;refine fN ?_;refine bY ?_;exact aD aE ⟨_,hL,rfl⟩ aA
 refine dC ?_;refine aB rfl (fun g12=> ?_) (fun g12=> ?_)
 ·have ha:=hx.nn (.inr (.inr (.inr (.inr (.inl (by simpa using g12))))));have h1:=h.loc ls x.a;rw[show dW m ls s x=fO (cV ls s x.a).2 [(cV ls s x.a).1] by unfold dW;simp only[g7,g9,g12,if_true,if_false,Bool.false_eq_true]];refine dF ?_;refine oO ?_;refine cw (dQ r p q m (.ro 1 (ls.map aR) .any) s) Tryz.call197 (BO hN0 s x.a ha) rfl aC cF ?_;rintro _ σ' ⟨rfl,rfl⟩ h52;refine pB ?_;refine eS fun r53 h53=> ?_;intros
  refine iR (j:=53) rfl bH (aM aO (by simp)) ?_;refine cw (dQ r p q m (.ro 1 (ls.map aR) .any) (cV ls s x.a).2) Tryz.call190 (lX hN0 _ h1.bv [(cV ls s x.a).1] (by simp)) rfl aC cF ?_;rintro _ σ' ⟨e,hL,rfl⟩ h54;unfold dQ mU;(try dsimp only);obtain⟨e1,e2,e3⟩:=id hL;refine fN ?_;refine bY ?_;exact aD aE ⟨_,hL,rfl⟩ aA
 refine dC ?_;refine aB rfl (fun g14=> ?_) (fun g14=> ?_)
 ·have ha:=hx.nn (.inr (.inr (.inr (.inr (.inr (.inl (by simpa using g14)))))));have h1:=h.loc ls x.a;have hL:=hN0;rw[show dW m ls s x=(cR (cV ls s x.a).2 (cV ls s x.a).1).2 by unfold dW;simp only[g7,g9,g12,g14,if_true,if_false,Bool.false_eq_true]];refine dF ?_;refine oO ?_;refine cw (dQ r p q m (.ro 1 (ls.map aR) .any) s) Tryz.call197 (BO hN0 s x.a ha) rfl aC cF ?_;rintro _ σ' ⟨rfl,rfl⟩ h61;refine pB ?_;refine cw (dQ r p q m (.ro 1 (ls.map aR) .any) (cV ls s x.a).2) Tryz.call188 (pG hN0 _ h1 _) rfl aC cF ?_;rintro _ σ' ⟨rfl,rfl⟩ h62;refine mR ?_;refine bY ?_;exact aD aE ⟨_,hL,rfl⟩ aA
 refine dC ?_;refine aB rfl (fun g16=> ?_) (fun g16=> ?_)
 ·have ha:=hx.nn (.inr (.inr (.inr (.inr (.inr (.inr (.inl (by simpa using g16))))))));have h1:=h.loc ls x.a;have h2:=h1.pop (cV ls s x.a).1;have h3:=h2.loc ls x.a;rw[show dW m ls s x=fO (cV ls (cR (cV ls s x.a).2 (cV ls s x.a).1).2 x.a).2 [(cV ls (cR (cV ls s x.a).2 (cV ls s x.a).1).2 x.a).1] by unfold dW;simp only[g7,g9,g12,g14,g16,if_true,if_false,Bool.false_eq_true]];refine dF ?_;refine oO ?_;refine cw (dQ r p q m (.ro 1 (ls.map aR) .any) s) Tryz.call197 (BO hN0 s x.a ha) rfl aC cF ?_;rintro _ σ' ⟨rfl,rfl⟩ h69;refine pB ?_;refine cw (dQ r p q m (.ro 1 (ls.map aR) .any) (cV ls s x.a).2) Tryz.call188 (pG hN0 _ h1 _) rfl aC cF ?_;rintro _ σ' ⟨rfl,rfl⟩ h70;refine mR ?_;refine kL ?_;refine oO ?_;refine cw (dQ r p q m (.ro 1 (ls.map aR) .any) (cR (cV ls s x.a).2 (cV ls s x.a).1).2) Tryz.call197 (BO hN0 _ x.a ha) rfl aC cF ?_;rintro _ σ' ⟨rfl,rfl⟩ h75;refine pB ?_;refine eS fun r76 h76=> ?_;intros
  refine iR (j:=76) rfl bH (aM aO (by simp)) ?_;refine cw (dQ r p q m (.ro 1 (ls.map aR) .any) (cV ls (cR (cV ls s x.a).2 (cV ls s x.a).1).2 x.a).2) Tryz.call190 (lX hN0 _ h3.bv [(cV ls (cR (cV ls s x.a).2 (cV ls s x.a).1).2 x.a).1] (by simp)) rfl aC cF ?_;rintro _ σ' ⟨e,hL,rfl⟩ h77;unfold dQ mU;(try dsimp only);obtain⟨e1,e2,e3⟩:=id hL;refine fN ?_;refine bY ?_;exact aD aE ⟨_,hL,rfl⟩ aA
 refine dC ?_;refine aB rfl (fun g19=> ?_) (fun g19=> ?_)
 ·have ha:=hx.nn (.inr (.inr (.inr (.inr (.inr (.inr (.inr (.inl (by simpa using g19)))))))));have h1:=h.glob m x.a;rw[show dW m ls s x=fO (eC m s x.a).2 [(eC m s x.a).1.kd] by unfold dW;simp only[g7,g9,g12,g14,g16,g19,if_true,if_false,Bool.false_eq_true]];refine dF ?_;refine oO ?_;refine cw (dQ r p q m (.ro 1 (ls.map aR) .any) s) Tryz.call198 (KT hN0 s x.a ha) rfl aC cF ?_;rintro _ σ' ⟨rfl,rfl⟩ h84;refine pB ?_;refine lo (QE (E rfl) rfl rfl (fun _=>Nat.le_of_ble_eq_true rfl)) rfl ?_;refine aHz ?_;refine eS fun r87 h87=> ?_;intros
  refine iR (j:=87) rfl bH (aM aO (by simp)) ?_;refine cw (dQ r p q m (.ro 1 (ls.map aR) .any) (eC m s x.a).2) Tryz.call190 (lX hN0 _ h1.bv [(eC m s x.a).1.kd] (by simp)) rfl aC cF ?_;rintro _ σ' ⟨e,hL,rfl⟩ h88;unfold dQ mU;(try dsimp only);obtain⟨e1,e2,e3⟩:=id hL;refine fN ?_;refine bY ?_;exact aD aE ⟨_,hL,rfl⟩ aA
 refine dC ?_;refine aB rfl (fun g21=> ?_) (fun g21=> ?_)
 ·have ha:=hx.nn (.inr (.inr (.inr (.inr (.inr (.inr (.inr (.inr (by simpa using g21)))))))));have h1:=h.glob m x.a;have h2:=h1.need (eC m s x.a).1.mu;have hL:=hN0;rw[show dW m ls s x=(cR (dD (eC m s x.a).2 (eC m s x.a).1.mu) (eC m s x.a).1.kd).2 by unfold dW;simp only[g7,g9,g12,g14,g16,g19,g21,if_true,if_false,Bool.false_eq_true]];refine nD ?_;refine cw (dQ r p q m (.ro 1 (ls.map aR) .any) s) Tryz.call198 (KT hN0 s x.a ha) rfl aC cF ?_;rintro _ σ' ⟨rfl,rfl⟩ h94;refine pB ?_;refine jZ fun r6 h6=> ?_;intros
  refine jJ ?_;refine lO ?_;refine cw (dQ r p q m (.ro 1 (ls.map aR) .any) (eC m s x.a).2) Tryz.call189 (kJ hN0 _ (eC m s x.a).1.mu) rfl aC cF ?_;rintro _ σ' rfl h98;refine mR ?_;refine eU ?_;refine oI ?_;refine oO ?_;refine cw (dQ r p q m (.ro 1 (ls.map aR) .any) (dD (eC m s x.a).2 (eC m s x.a).1.mu)) Tryz.call188 (pG hN0 _ h2 _) rfl aC cF ?_;rintro _ σ' ⟨rfl,rfl⟩ h103;refine mR ?_;refine bY ?_;exact aD aE ⟨_,hL,rfl⟩ aA
 refine dC ?_;refine aB rfl (fun g25=> ?_) (fun g25=> ?_)
 ·rw[show dW m ls s x=gD m s x 2 [1] [1] by unfold dW;simp only[g7,g9,g12,g14,g16,g19,g21,g25,if_true,if_false,Bool.false_eq_true]];refine dO ?_;refine DX ?_;refine lo (aF (E rfl)) rfl ?_;refine cw (dQ r p q m (.ro 1 (ls.map aR) .any) s) Tryz.call199 (mN hN0 s h x 2 [1] [1] (by simp) (by simp)) rfl aC cF ?_;rintro _ σ' ⟨e,hL,rfl⟩ h110;unfold dQ mU;(try dsimp only);obtain⟨e1,e2,e3⟩:=id hL;refine fN ?_;refine bY ?_;exact aD aE ⟨_,hL,rfl⟩ aA
 refine dC ?_;refine aB rfl (fun g27=> ?_) (fun g27=> ?_)
 ·rw[show dW m ls s x=gD m s x 3 [1] [2] by unfold dW;simp only[g7,g9,g12,g14,g16,g19,g21,g25,g27,if_true,if_false,Bool.false_eq_true]];refine dO ?_;refine DX ?_;refine lo (aF (E rfl)) rfl ?_;refine cw (dQ r p q m (.ro 1 (ls.map aR) .any) s) Tryz.call199 (mN hN0 s h x 3 [1] [2] (by simp) (by simp)) rfl aC cF ?_;rintro _ σ' ⟨e,hL,rfl⟩ h117;unfold dQ mU;(try dsimp only);obtain⟨e1,e2,e3⟩:=id hL;refine fN ?_;refine bY ?_;exact aD aE ⟨_,hL,rfl⟩ aA
 refine dC ?_;apply fD rfl;exact cT
 ·intro _;(refine aI ?_);refine eV ?_;exact aJ
 refine aI ?_;refine aB rfl (fun g29=> ?_) (fun g29=> ?_)
 ·refine aI ?_;rw[show dW m ls s x=gD m s x 0 [1] [1] by unfold dW;simp only[g7,g9,g12,g14,g16,g19,g21,g25,g27,g29,if_true,if_false,Bool.false_eq_true]];refine eU ?_;refine DX ?_;refine lo (aF (E rfl)) rfl ?_;refine cw (dQ r p q m (.ro 1 (ls.map aR) .any) s) Tryz.call199 (mN hN0 s h x 0 [1] [1] (by simp) (by simp)) rfl aC cF ?_;rintro _ σ' ⟨e,hL,rfl⟩ h125;unfold dQ mU;(try dsimp only);obtain⟨e1,e2,e3⟩:=id hL;refine fN ?_;refine bY ?_;exact aD aE ⟨_,hL,rfl⟩ aA
 refine dC ?_;refine aB rfl (fun g32=> ?_) (fun g32=> ?_)
 ·rw[show dW m ls s x=gD m s x 2 [1,1] [] by unfold dW;simp only[g7,g9,g12,g14,g16,g19,g21,g25,g27,g29,g32,if_true,if_false,Bool.false_eq_true]];refine dO ?_;refine mP ?_;refine eS fun r130 h130=> ?_;intros
  refine iR (j:=130) rfl bH (aM aO (by simp)) ?_;refine cw (dQ r p q m (.ro 1 (ls.map aR) .any) s) Tryz.call199 (mN hN0 s h x 2 [1,1] [] (by simp) (by simp)) rfl aC cF ?_;rintro _ σ' ⟨e,hL,rfl⟩ h131;unfold dQ mU;(try dsimp only);obtain⟨e1,e2,e3⟩:=id hL;refine fN ?_;refine bY ?_;exact aD aE ⟨_,hL,rfl⟩ aA
 refine dC ?_;refine aB rfl (fun g34=> ?_) (fun g34=> ?_)
 ·rw[show dW m ls s x=gD m s x 3 [1,2] [] by unfold dW;simp only[g7,g9,g12,g14,g16,g19,g21,g25,g27,g29,g32,g34,if_true,if_false,Bool.false_eq_true]];refine dO ?_;refine mP ?_;refine eS fun r136 h136=> ?_;intros
  refine iR (j:=136) rfl bH (aM aO (by simp)) ?_;refine cw (dQ r p q m (.ro 1 (ls.map aR) .any) s) Tryz.call199 (mN hN0 s h x 3 [1,2] [] (by simp) (by simp)) rfl aC cF ?_;rintro _ σ' ⟨e,hL,rfl⟩ h137;unfold dQ mU;(try dsimp only);obtain⟨e1,e2,e3⟩:=id hL;refine fN ?_;refine bY ?_;exact aD aE ⟨_,hL,rfl⟩ aA
 refine dC ?_;refine aB rfl (fun g36=> ?_) (fun g36=> ?_)
 ·rw[show dW m ls s x=gD m s x 0 [1,1] [] by unfold dW;simp only[g7,g9,g12,g14,g16,g19,g21,g25,g27,g29,g32,g34,g36,if_true,if_false,Bool.false_eq_true]];refine dO ?_;refine mP ?_;refine eS fun r142 h142=> ?_;intros
  refine iR (j:=142) rfl bH (aM aO (by simp)) ?_;refine cw (dQ r p q m (.ro 1 (ls.map aR) .any) s) Tryz.call199 (mN hN0 s h x 0 [1,1] [] (by simp) (by simp)) rfl aC cF ?_;rintro _ σ' ⟨e,hL,rfl⟩ h143;unfold dQ mU;(try dsimp only);obtain⟨e1,e2,e3⟩:=id hL;refine fN ?_;refine bY ?_;exact aD aE ⟨_,hL,rfl⟩ aA
 refine dC ?_;refine aB rfl (fun g38=> ?_) (fun g38=> ?_)
 ·rw[show dW m ls s x=gD m s x 0 [] [1] by unfold dW;simp only[g7,g9,g12,g14,g16,g19,g21,g25,g27,g29,g32,g34,g36,g38,if_true,if_false,Bool.false_eq_true]];refine dO ?_;refine DX ?_;refine cw (dQ r p q m (.ro 1 (ls.map aR) .any) s) Tryz.call199 (mN hN0 s h x 0 [] [1] (by simp) (by simp)) rfl aC cF ?_;rintro _ σ' ⟨e,hL,rfl⟩ h149;unfold dQ mU;(try dsimp only);obtain⟨e1,e2,e3⟩:=id hL;refine fN ?_;refine bY ?_;exact aD aE ⟨_,hL,rfl⟩ aA
 refine dC ?_;refine aB rfl (fun g40=> ?_) (fun g40=> ?_)
 ·rw[show dW m ls s x=gD m s x 0 [1] [1] by unfold dW;simp only[g7,g9,g12,g14,g16,g19,g21,g25,g27,g29,g32,g34,g36,g38,g40,if_true,if_false,Bool.false_eq_true]];refine dO ?_;refine DX ?_;refine lo (aF (E rfl)) rfl ?_;refine cw (dQ r p q m (.ro 1 (ls.map aR) .any) s) Tryz.call199 (mN hN0 s h x 0 [1] [1] (by simp) (by simp)) rfl aC cF ?_;rintro _ σ' ⟨e,hL,rfl⟩ h156;unfold dQ mU;(try dsimp only);obtain⟨e1,e2,e3⟩:=id hL;refine fN ?_;refine bY ?_;exact aD aE ⟨_,hL,rfl⟩ aA
 refine dC ?_;refine aB rfl (fun g42=> ?_) (fun g42=> ?_)
 ·rw[show dW m ls s x=fO s [1] by unfold dW;simp only[g7,g9,g12,g14,g16,g19,g21,g25,g27,g29,g32,g34,g36,g38,g40,g42,if_true,if_false,Bool.false_eq_true]];refine dO ?_;refine eS fun r160 h160=> ?_;intros
  refine iR (j:=160) rfl bH (aM aO (by simp)) ?_;refine cw (dQ r p q m (.ro 1 (ls.map aR) .any) s) Tryz.call190 (lX hN0 s h.bv [1] (by simp)) rfl aC cF ?_;rintro _ σ' ⟨e,hL,rfl⟩ h161;unfold dQ mU;(try dsimp only);obtain⟨e1,e2,e3⟩:=id hL;refine fN ?_;refine bY ?_;exact aD aE ⟨_,hL,rfl⟩ aA
 refine dC ?_;refine aB rfl (fun g44=> ?_) (fun g44=> ?_)
 ·rw[show dW m ls s x=fO s [2] by unfold dW;simp only[g7,g9,g12,g14,g16,g19,g21,g25,g27,g29,g32,g34,g36,g38,g40,g42,g44,if_true,if_false,Bool.false_eq_true]];refine dO ?_;refine eS fun r165 h165=> ?_;intros
  refine iR (j:=165) rfl bH (aM aO (by simp)) ?_;refine cw (dQ r p q m (.ro 1 (ls.map aR) .any) s) Tryz.call190 (lX hN0 s h.bv [2] (by simp)) rfl aC cF ?_;rintro _ σ' ⟨e,hL,rfl⟩ h166;unfold dQ mU;(try dsimp only);obtain⟨e1,e2,e3⟩:=id hL;refine fN ?_;refine bY ?_;exact aD aE ⟨_,hL,rfl⟩ aA
 have hkl:=aIV x.op;have h1:=h.need (kN x.op).2.2;have h2:=h1.pops (kN x.op).1;rw[show dW m ls s x=fO (dR (dD s (kN x.op).2.2) (kN x.op).1) [(kN x.op).2.1] by unfold dW;simp only[g7,g9,g12,g14,g16,g19,g21,g25,g27,g29,g32,g34,g36,g38,g40,g42,g44,if_true,if_false,Bool.false_eq_true]];refine aI ?_;cases hk:(kN x.op).2.2
 ·rw[aK8 hk]at h1 h2⊢;refine nE ?_;refine cw [] Tryz.call200 (aCX hk) rfl aC aA ?_;rintro _ σ' ⟨rfl,rfl⟩ h17;refine QS ?_;refine oQ ?_;refine dZ (eK (j:=7) (y:=.ro 1 (([]:List Int).map aR) .any) rfl VLe.empty) ?_;refine kL ?_;refine cw (dQ r p q m (.ro 1 (ls.map aR) .any) s) Tryz.call189 (kJ hN0 s false) rfl aC cF ?_;rintro _ σ' rfl h23;refine mR ?_;refine kL ?_;refine cw (dQ r p q m (.ro 1 (ls.map aR) .any) (dD s false)) Tryz.call192 (lG hN0 _ h1 [] (by simp)) rfl aC cF ?_;rintro _ σ' rfl h26;refine mR ?_;refine kL ?_;refine eS fun r29 h29=> ?_;intros
  refine iR (j:=29) rfl bH (aM aO (by simp)) ?_;refine cw (dQ r p q m (.ro 1 (ls.map aR) .any) (dR (dD s false) [])) Tryz.call190 (lX hN0 _ h2.bv [0] (by simp)) rfl aC cF ?_;rintro _ σ' ⟨e,hL,rfl⟩ h30;unfold dQ mU;(try dsimp only);obtain⟨e1,e2,e3⟩:=id hL;refine fN ?_;refine bY ?_;exact aD aE ⟨_,hL,rfl⟩ aA
 ·rw[hk]at h1 h2;refine nE ?_;refine cw [] Tryz.call200 (aAA hk) rfl aC aA ?_;rintro _ σ' ⟨q1,rfl,rfl⟩ h17
  replace h17:=gU h17;repeat rcases h17 with⟨_,h17⟩
  refine QS ?_;refine oQ ?_;refine aAc (j:=7) rfl bH (aM aO (by simp)) ?_;refine kL ?_;refine cw (dQ r p q m (.ro 1 (ls.map aR) .any) s) Tryz.call189 (kJ hN0 s true) rfl aC cF ?_;rintro _ σ' rfl h23;refine mR ?_;refine kL ?_;refine cw (dQ r p q m (.ro 1 (ls.map aR) .any) (dD s true)) Tryz.call192 (lG hN0 _ h1 (kN x.op).1 (by omega)) rfl aC cF ?_;rintro _ σ' rfl h26;refine mR ?_;refine kL ?_;refine z1 ?_;refine bI fun r29 h29=> ?_;repeat rcases h29 with⟨_,h29⟩
  refine iR (j:=29) rfl bH (aM aO (by simp)) ?_;refine cw (dQ r p q m (.ro 1 (ls.map aR) .any) (dR (dD s true) (kN x.op).1)) Tryz.call190 (lX hN0 _ h2.bv [(kN x.op).2.1] (by simp)) rfl aC cF ?_;rintro _ σ' ⟨e,hL,rfl⟩ h30;unfold dQ mU;(try dsimp only);obtain⟨e1,e2,e3⟩:=id hL;refine fN ?_;refine bY ?_;exact aD aE ⟨_,hL,rfl⟩ aA
end
end Go.Proofs.YtjpdadobblffmaaGreat
namespace Go.Proofs.YtjpdadobblffmaaGreat
open Go.RowKit Go.ChangeShapes Go.WideShapes Go.ChangeAt Go.Deep
def iW (L:Nat) (S:List Bool) (op:Int):Option (List Bool):=
 if qV op=true then(if L≤S.length then none else some (S++ [op==4]))
 else if op≠5∧op≠11 then some S
 else match S.getLast? with
  |none=>none
  |some c=>if op=11 then some S.dropLast else if c=true then some (S.dropLast++ [false])else none
def mE (L:Nat):List Int→List Bool→Option (List Bool)
 |[],S=>some S
 |op::w,S=>match iW L S op with
  |none=>none
  |some S'=>mE L w S'
theorem SS{L:Nat}:∀ {u v:List Int} {S T:List Bool},mE L u S=some T→mE L (u++v) S=mE L v T
 |[],_,_,_,h=>by cases h;rfl
 |op::u,v,S,T,h=>by
  rw[List.cons_append,mE];rw[mE]at h;cases hs:iW L S op with
  |none=>rw[hs]at h;cases h
  |some S'=>rw[hs]at h;exact SS h
theorem KU{L:Nat}:∀ {u v:List Int} {S:List Bool},mE L u S=none→mE L (u++v) S=none
 |[],_,_,h=>by cases h
 |op::u,v,S,h=>by
  rw[List.cons_append,mE];rw[mE]at h;cases hs:iW L S op with
  |none=>rfl
  |some S'=>rw[hs]at h;exact KU h
theorem aCZ{L:Nat}{S:List Bool}{op:Int}:mE L [op] S=iW L S op:=by
 rw[mE];cases iW L S op<;>rfl
def flg (ops:List Int) (all:List Bk) (k:Nat):Bool:=
 match all[k]? with
 |some b=>(ops[b.at_]? ==some 4)&&decide (b.els<0)
 |none=>false
def EC (ops:List Int) (s:MS):List Bool:=s.opn.map (flg ops s.all)
theorem aFI{ops:List Int}{all:List Bk}{k:Nat}(h:k<all.length)(x:Bk):flg ops (all++ [x]) k=flg ops all k:=by
 unfold flg;rw[List.getElem?_append_left h]
theorem YT{ops:List Int}{all:List Bk}{k n:Nat}(h:k≠n)(x:Bk):flg ops (all.set n x) k=flg ops all k:=by
 unfold flg;rw[List.getElem?_set_ne (Ne.symm h)]
structure MOk2 (s:MS):Prop where
 inc:s.opn.Pairwise (· < ·)
theorem aAC{ops:List Int}{j:Nat}{s s':MS}{op:Int}(h1:MOk j s)(h:MOk2 s)(hs:oS ops s j op=some s'):MOk2 s':=by
 unfold oS at hs;split at hs
 ·split at hs
  ·cases hs
  ·obtain rfl:=Option.some.inj hs;refine⟨List.pairwise_append.2 ⟨h.inc,by simp,fun a ha b hb=> ?_⟩⟩;rw[List.mem_singleton.1 hb];exact h1.opn a ha
 split at hs
 ·obtain rfl:=Option.some.inj hs;exact h
 unfold DZ at hs;split at hs
 ·cases hs
 split at hs
 ·cases hs
 split at hs
 ·obtain rfl:=Option.some.inj hs;exact⟨h.inc.sublist (List.dropLast_sublist _)⟩
 split at hs
 ·cases hs
 ·obtain rfl:=Option.some.inj hs;exact⟨h.inc⟩
theorem ST{ops:List Int}:∀ {j:Nat} {s:MS},pZ ops j=some s→MOk2 s
 |0,s,h=>by obtain rfl:=Option.some.inj h;exact⟨List.Pairwise.nil⟩
 |j+1,s,h=>by
  rw[pZ]at h;split at h
  ·next s0 op h1 h2=>exact aAC (AR h1) (ST h1) h
  ·cases h
theorem aC0{ops:List Int}{j:Nat}{s:MS}{op:Int}(h1:MOk j s)(h2:MOk2 s)(ho:ops[j]? =some op):(oS ops s j op).map (EC ops)=iW 40 (EC ops s) op:=by
 obtain⟨all,opn⟩:=s;have hk:=h1.opn;have hlen:=h1.len;have hinc:=h2.inc;dsimp only at hk hlen hinc;by_cases hO:qV op=true
 ·by_cases h40:opn.length=40
  ·rw[CO hO h40];unfold iW EC;rw[if_pos hO,if_pos (by simp;omega)];rfl
  ·rw[CN hO h40];unfold iW EC;rw[if_pos hO,if_neg (by simp;omega)];dsimp only[Option.map];rw[List.map_append,List.map_congr_left fun k hkk=>aFI (hk k hkk) _];simp[flg,ho]
 have hO:qV op=false:=by simpa using hO
 by_cases h5:op≠5∧op≠11
 ·rw[CP hO h5.1 h5.2];unfold iW;rw[if_neg (by simp[hO]),if_pos h5];rfl
 rw[AS hO (by omega)];unfold iW;rw[if_neg (by simp[hO]),if_neg h5];rcases List.eq_nil_or_concat opn with rfl|⟨pre,k,rfl⟩
 ·rfl
 have hkl:=hk k (by simp);obtain⟨b,hb⟩:∃b,all[k]? =some b:=⟨_,List.getElem?_eq_getElem hkl⟩
 have hpre:∀x∈pre,x≠k:=fun x hx=>by
  have:=(List.pairwise_append.1 (by simpa using hinc)).2.2 x hx k (by simp);omega
 have hab:EC ops ⟨all,pre.concat k⟩=pre.map (flg ops all)++ [flg ops all k]:=by unfold EC;simp
 have hfk:flg ops all k=((ops[b.at_]? ==some 4)&&decide (b.els<0)):=by unfold flg;rw[hb]
 rw[hab,List.getLast?_append];dsimp only[List.getLast?_singleton,Option.some_or];rw[List.concat_eq_append];rcases(show op=11∨op=5 by omega)with rfl|rfl
 ·rw[MK hb,if_pos rfl];unfold EC;dsimp only[Option.map];rw[List.map_congr_left fun x hx=>YT (hpre x hx) _];simp
 ·rw[if_neg (by decide),hfk];by_cases hc:ops[b.at_]? =some 4∧¬0≤b.els
  ·rw[GA hb hc.1 hc.2,if_pos (by simp[hc.1];omega)];unfold EC;dsimp only[Option.map];rw[List.map_append,List.map_congr_left fun x hx=>YT (hpre x hx) _];simp[flg,hkl]
  ·have hc':ops[b.at_]? ≠some 4∨0≤b.els:=by
    by_cases h4:ops[b.at_]? =some 4
    ·exact .inr (by by_cases h0:0≤b.els;exact h0;exact absurd ⟨h4,h0⟩ hc)
    ·exact .inl h4
   rw[ML hb hc',if_neg (by rcases hc' with h|h;simp[h];simp;intro _;exact h)];rfl
theorem YU{ops:List Int}:∀ {j:Nat},j≤ops.length→mE 40 (ops.take j) []=(pZ ops j).map (EC ops)
 |0,_=>by simp[mE,pZ,EC]
 |j+1,hj=>by
  have ih:=YU (ops:=ops) (j:=j) (by omega);obtain⟨op,ho⟩:∃op,ops[j]? =some op:=⟨_,List.getElem?_eq_getElem hj⟩
  rw[List.take_add_one,ho];dsimp only[Option.toList];cases hm:pZ ops j with
  |none=>
   rw[hm]at ih;rw[KU ih,pZ,hm];rfl
  |some s=>
   rw[hm]at ih;rw[SS ih,aCZ,xG hm ho];exact(aC0 (AR hm) (ST hm) ho).symm
theorem NF{ops:List Int}:xV ops=true↔ops.length≤300∧mE 40 ops []=some []:=by
 have h:=YU (ops:=ops) (Nat.le_refl _);rw[List.take_length]at h;rw[h];unfold xV gH;by_cases hl:300<ops.length
 ·rw[if_pos hl];simp;omega
 rw[if_neg hl];cases hm:pZ ops ops.length with
 |none=>simp
 |some s=>
  obtain⟨all,opn⟩:=s;cases opn with
  |nil=>simp[EC];omega
  |cons k r=>simp[EC]
structure Md.Fn (m:Md):Prop extends m.Ck where
 bd:∀c∈m.co,c.bd.length≤100000∧∀x∈c.bd,x.Ck
 lc:∀c∈m.co,c.ls.length≤1000
theorem zL{m:Md}{s:PS}{x:Ins}(h:(cL m s x).1=false):(cL m s x).2=s∧qV x.op=false∧x.op≠5∧x.op≠11:=by
 have key:∀r:Bool×PS,r.1=true→r.1=false→r.2=s∧qV x.op=false∧x.op≠5∧x.op≠11:=fun r h1 h2=>by rw[h1]at h2;cases h2
 revert h;unfold cL;refine aK (p:=fun r:Bool×PS=>r.1=false→r.2=s∧qV x.op=false∧x.op≠5∧x.op≠11) (fun _=>key _ rfl) (fun _=> ?_);refine aK (p:=fun r:Bool×PS=>r.1=false→r.2=s∧qV x.op=false∧x.op≠5∧x.op≠11) (fun _=>key _ rfl) (fun _=> ?_);refine aK (p:=fun r:Bool×PS=>r.1=false→r.2=s∧qV x.op=false∧x.op≠5∧x.op≠11) (fun _=>key _ rfl) (fun a1=> ?_);refine aK (p:=fun r:Bool×PS=>r.1=false→r.2=s∧qV x.op=false∧x.op≠5∧x.op≠11) (fun _=>key _ rfl) (fun a2=> ?_);refine aK (p:=fun r:Bool×PS=>r.1=false→r.2=s∧qV x.op=false∧x.op≠5∧x.op≠11) (fun _=>key _ rfl) (fun a3=> ?_);refine aK (p:=fun r:Bool×PS=>r.1=false→r.2=s∧qV x.op=false∧x.op≠5∧x.op≠11) (fun _=>key _ rfl) (fun a4=> ?_);refine aK (p:=fun r:Bool×PS=>r.1=false→r.2=s∧qV x.op=false∧x.op≠5∧x.op≠11) (fun _=>key _ rfl) (fun _=> ?_);refine aK (p:=fun r:Bool×PS=>r.1=false→r.2=s∧qV x.op=false∧x.op≠5∧x.op≠11) (fun _=>key _ rfl) (fun _=> ?_);refine aK (p:=fun r:Bool×PS=>r.1=false→r.2=s∧qV x.op=false∧x.op≠5∧x.op≠11) (fun _=>key _ rfl) (fun _=> ?_);refine aK (p:=fun r:Bool×PS=>r.1=false→r.2=s∧qV x.op=false∧x.op≠5∧x.op≠11) (fun _=>key _ rfl) (fun _=> ?_)
 refine aK (p:=fun r:Bool×PS=>r.1=false→r.2=s∧qV x.op=false∧x.op≠5∧x.op≠11) (fun _=>key _ rfl) (fun _=> ?_);refine aK (p:=fun r:Bool×PS=>r.1=false→r.2=s∧qV x.op=false∧x.op≠5∧x.op≠11) (fun _=>key _ rfl) (fun _=> ?_);intro _;refine⟨rfl, ?_,by simpa using a3,by simpa using a4⟩;unfold qV;rw[Bool.not_eq_true]at a1 a2;rw[a1,a2];rfl
structure LOk (m:Md) (ls:List Int) (bd:List Ins) (s0:PS) (j:Nat) (s:PS) (F:List Bool):Prop where
 gd:s.Ok
 vl:s.vs.length≤101*j
 fl:F.length+1=s.cs.length
 f40:F.length≤40
 rn:mE 40 ((cW bd).drop j) F=some []
 go:zQ m ls bd s0=zQ m ls (bd.drop j) s
 nb:s.bad=false
theorem LOk.ge {m:Md}{ls:List Int}{bd:List Ins}{s0 s:PS}{j:Nat}{F:List Bool}(h:LOk m ls bd s0 j s F)(hj:j≤300):s.Gd:=⟨h.gd,by have:=h.vl;omega,by have:=h.fl;have:=h.f40;omega⟩
theorem SU{bd:List Ins}{a:Nat}{x:Ins}(h:bd[a]? =some x):(cW bd).drop a=x.op::(cW bd).drop (a+1)∧bd.drop a=x::bd.drop (a+1):=by
 obtain⟨h1,rfl⟩:=List.getElem?_eq_some_iff.1 h;refine⟨?_,List.drop_eq_getElem_cons h1⟩;unfold cW;rw[←List.map_drop,List.drop_eq_getElem_cons h1,List.map_cons,List.map_drop]
theorem LOk.two {m:Md}{ls:List Int}{bd:List Ins}{s0 s:PS}{j:Nat}{F:List Bool}(h:LOk m ls bd s0 j s F){x:Ins}(hx:bd[j]? =some x)(h11:x.op=11):2≤s.cs.length:=by
 have hr:=h.rn;rw[(SU hx).1,h11,mE]at hr;have:=h.fl;cases F with
 |nil=>unfold iW at hr;simp[qV]at hr
 |cons a F=>simp at this;omega
theorem LOk.step {m:Md}{ls:List Int}{bd:List Ins}{s0 s:PS}{j:Nat}{F:List Bool}(hT:m.TS)(h:LOk m ls bd s0 j s F){x:Ins}(hx:bd[j]? =some x):
  (gE m ls s x).Ok∧(gE m ls s x).vs.length≤101*(j+1)∧((gE m ls s x).bad=true→(zQ m ls bd s0).bad=true)∧((gE m ls s x).bad=false→∃F',LOk m ls bd s0 (j+1) (gE m ls s x) F'):=by
 obtain⟨hc1,hc2,hc3⟩:=SO (m:=m) h.gd (fun e=>h.two hx e) hT;have hvl:=h.vl;have key:(gE m ls s x).Ok∧(gE m ls s x).vs.length≤101*(j+1)∧((gE m ls s x).cs.length:Int)=s.cs.length+dK x.op:=by
  unfold gE;dsimp only;cases hc:(cL m s x).1 with
  |true=>
   rw[if_pos rfl];rw[hc,if_pos rfl]at hc3;exact⟨hc1,by omega,hc3⟩
  |false=>
   obtain⟨e1,e2,e3,e4⟩:=zL hc;rw[if_neg (by simp),e1];obtain⟨p1,p2,p3⟩:=aAz (m:=m) (ls:=ls) (x:=x) h.gd;refine⟨p1,by omega, ?_⟩;rw[p3];have:dK x.op=0:=by
    unfold dK;unfold qV at e2;rw[e2,if_neg (by simp),if_neg (by simpa using e4)]
   omega
 obtain⟨k1,k2,k3⟩:=key;obtain⟨o1,o2⟩:=SU hx;refine⟨k1,k2,fun hb=> ?_,fun hb=> ?_⟩
 ·rw[h.go,o2];show(if _ then _ else _:PS).bad=true;rw[if_pos hb];exact hb
 ·have hr:=h.rn;rw[o1,mE]at hr;cases hs:iW 40 F x.op with
  |none=>rw[hs]at hr;cases hr
  |some F'=>
   rw[hs]at hr;have hF:(F'.length:Int)=F.length+dK x.op∧F'.length≤40:=by
    have h40:=h.f40;unfold iW at hs;split at hs
    ·next hO=>
     split at hs
     ·cases hs
     ·obtain rfl:=Option.some.inj hs;unfold qV at hO;unfold dK;rw[if_pos hO];simp;omega
    ·next hO=>
     have hd0:∀n:Int,(x.op==11)=false→dK x.op=0:=fun _ e=>by
      unfold dK;unfold qV at hO;rw[if_neg (by simpa using hO),if_neg (by simp[e])]
     split at hs
     ·next h2=>
      obtain rfl:=Option.some.inj hs;rw[hd0 0 (by simpa using h2.2)];omega
     ·split at hs
      ·cases hs
      ·next c hl=>
       have hp:0<F.length:=List.length_pos_iff.2 (by rintro rfl;cases hl);split at hs
       ·next h11=>
        obtain rfl:=Option.some.inj hs;rw[h11];simp[dK];omega
       ·next h11=>
        split at hs
        ·obtain rfl:=Option.some.inj hs;rw[hd0 0 (by simpa using h11)];simp;omega
        ·cases hs
   have hfl:=h.fl;refine⟨F',k1,k2,by omega,hF.2,hr, ?_,hb⟩;rw[h.go,o2];show(if _ then _ else _:PS)=_;rw[if_neg (by simp[hb])]
theorem LOk.init {m:Md}{ls:List Int}{bd:List Ins}{kd:Int}(h:xV (cW bd)=true):LOk m ls bd (openP ⟨[],[],false⟩ 2 kd) 0 (openP ⟨[],[],false⟩ 2 kd) []:=
 ⟨PS.Ok0.openP ⟨by simp,by simp⟩ 2 kd,by simp[openP],by simp[openP],by simp,(NF.1 h).2,rfl,rfl⟩
end Go.Proofs.YtjpdadobblffmaaGreat
namespace Go.Proofs.YtjpdadobblffmaaGreat
open Go.RowKit Go.ChangeShapes Go.WideShapes Go.ChangeAt Go.Deep
attribute [local irreducible] SW RS RD fH eH
theorem aC1{a b c:Bool}(h:(if(if a=true then true else b)=true then true else c)=false):a=false∧b=false∧c=false:=by cases a<;>cases b<;>cases c<;>simp at h⊢
theorem aIW{a b:Bool}(h:(if(!a)=true then true else !b)=false):a=true∧b=true:=by cases a<;>cases b<;>simp at h⊢
theorem aIX{m:Md}{k:Int}{c:Co}{f:Int}(h:(if(if decide (k<0)=true then true else decide ((m.co.length:Int)≤k))=true then true else decide ((m.fn.length:Int)≤k))=false)(hc:m.co[k.toNat]? =some c)(hf:m.fn[k.toNat]? =some f):
  EB m k=if(if(!(cM m f).2)=true then true else !(xV (cW c.bd)))=true then false
   else if(zQ m ((cM m f).1.pr++c.ls) c.bd (openP ⟨[],[],false⟩ 2 (if decide ((0:Int)<(cM m f).1.rs.length)=true then(cM m f).1.rs.headD 0 else 0))).bad=true then false
   else if(!(fX (zQ m ((cM m f).1.pr++c.ls) c.bd (openP ⟨[],[],false⟩ 2 (if decide ((0:Int)<(cM m f).1.rs.length)=true then(cM m f).1.rs.headD 0 else 0)))).bad)=true then decide ((((cM m f).1.pr++c.ls).length:Int)≤32)else false:=by
 unfold EB;rw[if_neg (fun e=>by rw[h]at e;cases e)];dsimp only;rw[List.getD_eq_getElem?_getD,List.getD_eq_getElem?_getD,hc,hf];rfl
theorem rF(m:Md)(hm:m.Fn)(k:Int):SCall Tryz.prog 23 [.agg (aS m),.int .i64 k] [] (fun y σ=>y=.bool (EB m k)∧σ=[]):=by
 refine cC 124 [0,1,2,4,5,6,7,9,10,12,31,57,78,91,92,93,94,100,107] Tryz.func23 ?_;unfold aS;refine dG ?_;refine iG fun r2 h2=> ?_;intros
 refine jC ?_;refine mP ?_;refine jY ?_;refine iG fun r15 h15=> ?_;intros
 refine cZ ?_;refine cO (ks:=[0,1,2,4,5,6,7,9,10,12,31,57,78,91,92,93,94,100,107]) r15 15 3 1 (by decide) aO rfl (by decide) fun p hp=> ?_
 simp only[aP,aX,and_true]at hp;repeat rcases hp with⟨_,hp⟩
 apply Exists.intro;apply And.intro;exact cJ;refine cO (ks:=[0,1,2,4,5,6,7,9,10,12,31,57,78,91,92,93,94,100,107]) r15 16 137 4 (by decide) aO rfl (by decide) fun q hq=> ?_
 simp only[aP,aX,and_true]at hq;repeat rcases hq with⟨_,hq⟩
 apply Exists.intro;apply And.intro;exact cJ;refine dZ (iE (r:=r15) (cs':=mU m (.ro 0 [] .nil) p q [] [] false) cJ (.cons (.refl _) (.cons (.refl _) (.cons (.refl _) (.cons (.refl _) (.cons (.refl _) (.cons (.refl _) (.cons (.refl _) (.cons (.refl _) (.cons (.refl _) (.cons (.refl _) (.cons (.refl _) (.cons (.refl _) (.cons (.refl _) (.cons (.refl _) (.cons (.refl _) (.cons (.refl _) (.cons (.refl _) (.cons (.refl _) .nil))))))))))))))))))) ?_;have hN0:Nm r15 p q:=⟨by(exact bA),by(exact bA),by(exact bA)⟩
 unfold mU
 (try dsimp only);refine eU ?_;refine xT ?_;refine qR ?_;refine ZO ?_;refine nX ?_;refine lM ?_;refine qR ?_;refine ZO ?_;refine lP ?_;refine aB rfl (fun g2=> ?_) (fun g2=> ?_)
 ·rw[show EB m k=false from if_pos g2];refine bP ?_;exact aD aE ⟨by rfl,rfl⟩ aA
 obtain⟨t1,t2,t3⟩:=aC1 g2;simp only[decide_eq_false_iff_not]at t1 t2 t3;obtain⟨c,hc⟩:∃c,m.co[k.toNat]? =some c:=⟨_,List.getElem?_eq_getElem (by omega)⟩
 obtain⟨f,hf⟩:∃f,m.fn[k.toNat]? =some f:=⟨_,List.getElem?_eq_getElem (by omega)⟩
 rw[aIX g2 hc hf];have hcm:=List.mem_of_getElem? hc;obtain⟨hb1,hb2⟩:=hm.bd c hcm;have hlc:=hm.lc c hcm;refine nD ?_;refine nA ?_;refine cw (dQ r15 p q m (.ro 0 [] .nil) ⟨[],[],false⟩) Tryz.call74 (sZ hN0 ⟨[],[],false⟩ f) rfl aC cF ?_;rintro _ σ' ⟨rfl,rfl⟩ h39;refine pB ?_;refine vA ?_;refine jZ fun r6 h6=> ?_;intros
 apply HW;rfl;rfl;rfl;rfl;exact jU;refine iX ?_;refine sO ?_;refine sE Tryz.call75 (qW c.bd hb1) rfl bW kH ?_;rintro _ σ' ⟨q1,rfl,rfl⟩ h49
 replace h49:=cN h49;repeat rcases h49 with⟨_,h49⟩
 refine yG ?_;refine mK ?_;refine lo (eJ (E rfl)) rfl ?_;refine lM ?_;refine uY ?_;refine lP ?_;refine aB rfl (fun g6=> ?_) (fun g6=> ?_)
 ·rw[if_pos g6];refine bP ?_;exact aD aE ⟨by rfl,rfl⟩ aA
 obtain⟨hty,hok⟩:=aIW g6;rw[if_neg (c:=(if(!(cM m f).2)=true then true else !(xV (cW c.bd)))=true) (fun e=>by rw[g6]at e;cases e)];have hts:=qG hm.ts f;generalize(cM m f).1=t at hts⊢;obtain⟨pr,rs⟩:=t;obtain⟨hp1,hp2⟩:=hts;unfold cP;dsimp only at hp1 hp2⊢;have h300:=(NF.1 hok).1;have h300:c.bd.length≤300:=by simpa[cW]using h300
 refine aI ?_;refine fK [(0,true),(1,true),(2,true),(3,true),(4,true),(5,true),(6,true),(8,true),(9,true),(10,true),(11,true),(12,true),(13,true),(7,false),(14,false),(15,true),(16,true),(17,false)] ?_;refine AH ?_;refine fZ ?_;refine lN ?_;refine aHV rfl (pr.map aR) pr.length ?_ (hby:=by omega);refine kE fun r65 h65=> ?_;intros
 refine eX rfl ((pr++c.ls).map aR) (pr++c.ls).length ?_;refine bL fun r72 h72=> ?_;intros
 refine z77 ?_;refine nC ?_;refine kF ?_;refine dZ (iD (r:=r15) (q:=r72) cJ bH (.cons (.refl _) (.cons (.refl _) (.cons (.refl _) (.cons (.refl _) (.cons (.refl _) (.cons (.refl _) (.cons (.refl _) (.cons (.refl _) (.cons (.refl _) (.cons (.refl _) (.cons (.refl _) (.cons (.refl _) (.cons (.refl _) (.cons (.refl _) (.cons (aM aO (by simp)) (.cons (.refl _) (.cons (.refl _) (.cons (.refl _) .nil))))))))))))))))))) ?_;have hll:(pr++c.ls).length≤2000:=by simp;omega
 generalize pr++c.ls=ls at hll⊢;obtain⟨kd,hkd⟩:∃kd,kd=(if decide ((0:Int)<(rs.length:Int))=true then rs.headD 0 else 0):=⟨_,rfl⟩
 rw[←hkd];refine jH ?_;refine jC ?_;refine nL ?_;refine sN ?_;refine UO (β:=Unit) (fun _=>⟨[(0,.agg (aS m)),(1,.int .i64 k),(2,.ptr r2 0),(4,.bool false),(5,.ptr r15 0),(10,.int .i64 kd)],(r2,.box 33 (aS m))::dQ r15 p q m (.ro 1 (ls.map aR) .any) ⟨[],[],false⟩⟩) (fun _=>True) ?_ ?_
 ·refine aB rfl (fun g10=> ?_) (fun g10=> ?_)
  ·obtain⟨v,rs',rfl⟩:∃v rs',rs=v::rs':=by cases rs with|nil=>simp at g10|cons v rs'=>exact⟨v,rs',rfl⟩
   obtain rfl:kd=v:=by rw[hkd,if_pos g10];rfl
   have hv0:0<(kd::rs').length:=by simp
   refine fE ?_;refine mJ ?_;refine cZ ?_;exact⟨(),trivial,aJ⟩
  obtain rfl:kd=0:=by rw[hkd,g10];rfl
  refine aI ?_;exact⟨(),trivial,aJ⟩
 rintro⟨⟩-;unfold aS dQ mU
 (try dsimp only);refine dF ?_;refine cw (dQ r15 p q m (.ro 1 (ls.map aR) .any) ⟨[],[],false⟩) Tryz.call76 (EX hN0 ⟨[],[],false⟩ (by simp) 2 kd) rfl aC cF ?_;rintro _ σ' ⟨q2,hE,rfl⟩ h85;unfold dQ mU;(try dsimp only);obtain⟨e1,e2,e3⟩:=id hE;refine aIT (h85 _ (List.mem_cons_of_mem _ (List.mem_cons_of_mem _ List.mem_cons_self))) fun k85=> ?_;intros
 refine fN ?_;have hI:=LOk.init (m:=m) (ls:=ls) (kd:=kd) hok;generalize openP ⟨[],[],false⟩ 2 kd=s0 at hI⊢;refine nE ?_;refine sO ?_;refine qP ?_;refine lp (β:=Nat×Nat×Nat×PS) (fun b=>⟨[(4,.bool false),(5,.ptr r15 0),(91,.ro 4 (c.bd.map (iv .any)) .any),(92,.int .i64 c.bd.length),(93,.int .i64 b.1)],dQ r15 b.2.1 b.2.2.1 m (.ro 1 (ls.map aR) .any) b.2.2.2⟩) (fun b=>b.1≤c.bd.length∧Nm r15 b.2.1 b.2.2.1∧∃F,LOk m ls c.bd s0 b.1 b.2.2.2 F) (fun b=>c.bd.length-b.1) (0,p,q2,s0) (by unfold dQ mU;(try dsimp only);(exact aJ)) ⟨Nat.zero_le _,hE,[],hI⟩ ?_;rintro⟨j,e,f',S⟩ ⟨hj,hN1,F,hL⟩;dsimp only at hj hN1 hL⊢;obtain⟨m1,m2,m3⟩:=id hN1;have hG:=hL.ge (by omega);have hbv:=hL.vl;have hbc:S.cs.length≤41:=by have:=hL.fl;have:=hL.f40;omega
 unfold dQ mU
 (try dsimp only);refine jL ?_;refine aB rfl (fun g14=> ?_) (fun g14=> ?_)
 ·obtain⟨x,hx⟩:∃x,c.bd[j]? =some x:=⟨_,List.getElem?_eq_getElem (by simp at g14;omega)⟩
  have hlt:j<c.bd.length:=(List.getElem?_eq_some_iff.1 hx).1;have hxk:=hb2 x (List.mem_of_getElem? hx);have hst:=hL.step hm.ts hx;refine dG ?_;refine qQ ?_;refine jZ fun r12 h12=> ?_;intros
  refine nB ?_;refine mP ?_;refine cw (dQ r15 e f' m (.ro 1 (ls.map aR) .any) S) Tryz.call77 (WA hN1 hm.toCk S hG (by omega) (by omega) x hxk (fun h=>hL.two hx h)) rfl aC cF ?_;rintro _ σ' ⟨e1,f1,hE1,rfl,rfl⟩ h99;unfold dQ mU;(try dsimp only);obtain⟨m4,m5,m6⟩:=id hE1;refine aIT (h99 _ (List.mem_cons_of_mem _ List.mem_cons_self)) fun k99=> ?_;intros
  refine aIT (h99 _ (List.mem_cons_of_mem _ (List.mem_cons_of_mem _ List.mem_cons_self))) fun l99=> ?_;intros
  apply aZ;exact bN;refine nZ ?_;refine aB rfl (fun g16=> ?_) (fun g16=> ?_)
  ·have hc0:(cL m S x).1=false:=by simpa using g16
   rw[(zL hc0).1];rw[show gE m ls S x=dW m ls S x by unfold gE;dsimp only;rw[hc0,(zL hc0).1];rfl]at hst;refine dO ?_;refine mP ?_;refine cw (dQ r15 e1 f1 m (.ro 1 (ls.map aR) .any) S) Tryz.call78 (aCY hE1 S hG x hxk) rfl aC cF ?_;rintro _ σ' ⟨e2,hE2,rfl⟩ h103;unfold dQ mU;(try dsimp only);obtain⟨m7,m8,m9⟩:=id hE2;refine fN ?_;obtain⟨A,O,hAO,rfl,rfl⟩:∃A O,Nm r15 A O∧A=e2∧O=f1:=⟨_,_,hE2,rfl,rfl⟩
   generalize dW m ls S x=S' at hst⊢;refine eU ?_;refine nN ?_;refine jI ?_;refine aB rfl (fun g18=> ?_) (fun g18=> ?_)
   ·rw[if_pos (hst.2.2.1 g18)];refine bP ?_;exact aD aE ⟨by rfl,rfl⟩ aA
   obtain⟨F',hL'⟩:=hst.2.2.2 g18;refine lZ ?_;refine⟨(j+1,A,O,S'),⟨hlt,hAO,F',hL'⟩,by show c.bd.length-(j+1)<c.bd.length-j;omega, ?_⟩
   (try dsimp only);exact aJ
  have hc1:(cL m S x).1=true:=by simpa using g16
  rw[show gE m ls S x=(cL m S x).2 by unfold gE;dsimp only;rw[if_pos hc1]]at hst;obtain⟨A,O,hAO,rfl,rfl⟩:∃A O,Nm r15 A O∧A=e1∧O=f1:=⟨_,_,hE1,rfl,rfl⟩
  generalize(cL m S x).2=S' at hst⊢;refine dO ?_;refine nN ?_;refine jI ?_;refine aB rfl (fun g18=> ?_) (fun g18=> ?_)
  ·rw[if_pos (hst.2.2.1 g18)];refine bP ?_;exact aD aE ⟨by rfl,rfl⟩ aA
  obtain⟨F',hL'⟩:=hst.2.2.2 g18;refine lZ ?_;refine⟨(j+1,A,O,S'),⟨hlt,hAO,F',hL'⟩,by show c.bd.length-(j+1)<c.bd.length-j;omega, ?_⟩
  (try dsimp only);exact aJ
 obtain rfl:j=c.bd.length:=by simp at g14;omega
 rw[show zQ m ls c.bd s0=S by rw[hL.go,List.drop_length];rfl,if_neg (by simp[hL.nb])];refine dO ?_;refine cw (dQ r15 e f' m (.ro 1 (ls.map aR) .any) S) Tryz.call79 (NE hN1 S hG) rfl aC cF ?_;rintro _ σ' ⟨rfl,rfl⟩ h110;refine mR ?_;refine eU ?_;refine nN ?_;refine lo (eJ (E rfl)) rfl ?_;refine lM ?_;refine XD ?_;refine rK ?_;refine LO ?_;refine kM ?_;exact aD aE ⟨by rfl,rfl⟩ aA
def b1 (w:Int):Int:=IntKind.wrap .i64 ((BitVec.ofInt (IntKind.bits .i64) w&&&BitVec.ofInt (IntKind.bits .i64) 1).toNat:Int)
def b3 (w:Int):Int:=IntKind.wrap .i64 ((BitVec.ofInt (IntKind.bits .i64) w&&&BitVec.ofInt (IntKind.bits .i64) 3).toNat:Int)
theorem WB(w:Int):b1 w=0∨b1 w=1:=by
 have h:(BitVec.ofInt (IntKind.bits .i64) w&&&BitVec.ofInt (IntKind.bits .i64) 1).toNat≤1:=by
  rw[BitVec.toNat_and];exact Nat.and_le_right
 unfold b1;rw[kT (by omega) (by omega)];omega
theorem aFJ(w:Int):b3 w=0∨b3 w=1∨b3 w=2∨b3 w=3:=by
 have h:(BitVec.ofInt (IntKind.bits .i64) w&&&BitVec.ofInt (IntKind.bits .i64) 3).toNat≤3:=by
  rw[BitVec.toNat_and];exact Nat.and_le_right
 unfold b3;rw[kT (by omega) (by omega)];omega
def IX (ps:List Int):List Int:=(ps.take 5).map fun p=>1+b1 p
def IY (r:Int):List Int:=if(if decide (0<b3 r)=true then decide (b3 r<3)else false)=true then [b3 r]else []
def YV:List Ins:=[⟨32,0,0,[]⟩]
def SV (pr rs:List Int) (co:List Co):Md:=⟨[⟨pr,rs⟩,⟨[],[]⟩,⟨[1],[1]⟩,⟨[2,1],[2]⟩],[⟨[119],[102],2⟩,⟨[119],[103],1⟩],[0,3],⟨true,4,-1⟩,⟨true,1,3⟩,[⟨true,1,0⟩,⟨false,2,5⟩],[⟨[109,97,105,110],2⟩],[⟨0,[0,2,3]⟩],co,[]⟩
theorem aFK:VLe (.agg [.ro 0 [] .nil,.ro 0 [] .nil]) (.agg (cP ⟨[],[]⟩)):=by
 refine VLe.agg rfl fun j a a' ha ha'=> ?_
 match j with
 |0=>cases ha;cases ha';exact VLe.empty
 |1=>cases ha;cases ha';exact VLe.empty
 | _ +2=>cases ha
theorem aC2{ps:List Int}{j:Nat}{w:Int}(h:ps[j]? =some w):(ps.take j).map (fun p=>1+b1 p)++ [1+b1 w]=(ps.take (j+1)).map (fun p=>1+b1 p):=by
 rw[List.take_add_one,h];simp
def YW (q:Nat):List AV:=[.ro 2 (smallM.ty.map cP) .any,.ro 3 [] .any,.ro 1 (smallM.fn.map aR) .any,.bool false,.int .i64 0,.int .i64 0,.bool false,.int .i64 0,.int .i64 0,.ro 3 [] .any,.ro 2 (smallM.ex.map dH) .any,.ro 2 [] .any,.own q 0 1,.ro 2 [] .any]
theorem HA:SCall Tryz.prog 50 [] [] (fun y σ=>∃q,y=.agg (YW q)∧σ=[(q,.arr 44 2 [[.ro 0 [] .nil,.ro 4 (smallIs.map (iv .any)) .any]])]):=by
 refine cC 15 [0] Tryz.func50 ?_;refine dG ?_;refine jZ fun r0 h0=> ?_;intros
 refine kU ?_;refine dG ?_;refine eS fun r1 h1=> ?_;intros
 refine iR (j:=1) rfl bH (aM aO (by simp)) ?_;refine eS fun r2 h2=> ?_;intros
 refine iR (j:=2) rfl bH (aM aO (by simp)) ?_;refine jY ?_;refine eS fun r4 h4=> ?_;intros
 refine iR (j:=4) rfl bH (aM aO (by simp)) ?_;refine eS fun r5 h5=> ?_;intros
 refine iR (j:=5) rfl bH (aM aO (by simp)) ?_;refine jY ?_;refine eS fun r7 h7=> ?_;intros
 refine iR (j:=7) rfl bH (aM aO (by simp)) ?_;refine jY ?_;refine jY ?_;refine jY ?_;refine eS fun r11 h11=> ?_;intros
 refine iR (j:=11) rfl bH (aM aO (by simp)) ?_;refine jT (eK (j:=11) rfl (zJ (l:=smallIs) (by simp[smallIs]))) ?_;refine jY ?_;refine eS fun r13 h13=> ?_;intros
 refine jY ?_;refine nY ?_;refine an ?_;refine dZ (iE (r:=r0) (cs':=YW r13) cJ (.cons (.refl _) (.cons (.le VLe.empty) (.cons (.refl _) (.cons (.refl _) (.cons (.refl _) (.cons (.refl _) (.cons (.refl _) (.cons (.refl _) (.cons (.refl _) (.cons (.le VLe.empty) (.cons (.refl _) (.cons (.le VLe.empty) (.cons (.refl _) (.cons (.le VLe.empty) .nil))))))))))))))) ?_;refine aI ?_;exact aD aE ⟨r13,by rfl,rfl⟩ aA
theorem YX{x x' y:AV}(h:VLe x x')(hx:x'.cell=true)(hy:y.cell=true){es:List (List AV)}(hes:jB 2 es):VLe (.ro 2 ([x,y]::es) .any) (.ro 2 ([x',y]::es) .any):=by
 refine VLe.ro (by simp) ?_ ?_
 ·intro e he;rcases List.mem_cons.1 he with rfl|he
  ·exact⟨rfl,fun a ha=>by
    simp only[List.mem_cons,List.not_mem_nil,or_false]at ha;rcases ha with rfl|rfl<;>assumption⟩
  ·exact hes e he
 ·intro i e e' h1 h2;cases i with
  |zero=>
   cases h1;cases h2
   refine⟨rfl,fun j a a' ha ha'=> ?_⟩
   match j with
   |0=>cases ha;cases ha';exact h
   |1=>cases ha;cases ha';exact VLe.refl _
   | _ +2=>cases ha
  |succ i=>
   obtain rfl:=Option.some.inj (h1.symm.trans h2);exact⟨rfl,fun j a a' ha ha'=>by obtain rfl:=Option.some.inj (ha.symm.trans ha');exact VLe.refl _⟩
theorem KV:jB 2 []:=fun x hx=>by simp at hx
def WC:Md:= { smallM with co:=[⟨[],[⟨32,0,0,[]⟩,⟨32,1,0,[]⟩]⟩] }
def uIs:List Ins:=[⟨0,0,0,[]⟩,⟨106,0,0,[]⟩]
def WD:Md:= { smallM with co:=[⟨[],uIs⟩] }
def aC3 (x:Ins):Bool:=decide (0≤x.a)&&decide (x.a≤9223372036854775807)&&x.l.all (fun n=>decide (0≤n))&&decide (x.l.length≤1000000)
theorem aK9{x:Ins}(h:aC3 x=true):x.Ck:=by
 unfold aC3 at h;simp only[Bool.and_eq_true,decide_eq_true_eq,List.all_eq_true]at h;exact⟨fun _=>h.1.1.1,fun _=>h.1.2,h.2,h.1.1.2⟩
def aLa (m:Md):Bool:=m.ty.all (fun t=>decide (t.pr.length≤100)&&decide (t.rs.length≤100))&&decide (m.im.length≤1000000)&&m.co.all (fun c=>decide (c.bd.length≤100000)&&c.bd.all aC3&&decide (c.ls.length≤1000))
theorem YY{m:Md}(h:aLa m=true):m.Fn:=by
 unfold aLa at h;simp only[Bool.and_eq_true,decide_eq_true_eq,List.all_eq_true]at h;obtain⟨⟨h1,h2⟩,h3⟩:=h;exact⟨⟨fun t ht=>h1 t ht,h2⟩,fun c hc=>⟨(h3 c hc).1.1,fun x hx=>aK9 ((h3 c hc).1.2 x hx)⟩,fun c hc=>(h3 c hc).2⟩
theorem aIY:EB smallM 0=true:=by decide+kernel
theorem aIZ:EB smallM 1=false:=by decide+kernel
theorem aI0:EB WC 0=false:=by decide+kernel
theorem aI1:EB WD 0=true:=by decide+kernel
theorem WE:SCall Tryz.prog 73 [] [] (fun y σ=>y=.bool true∧σ=[]):=by
 refine cC 2 [0] Tryz.func73 ?_;refine sR ?_;refine lS Tryz.call16 VZ rfl aU bC ?_;refine cZ ?_;exact aD aE ⟨by rfl,rfl⟩ aA
theorem WF:SCall Tryz.prog 22 [] [] (fun y σ=>y=.bool true∧σ=[]):=by
 have hs3:smallIs.length=3:=rfl;have w1:=rF smallM (YY (by decide)) 0;have w2:=rF WC (YY (by decide)) 0;have w3:=rF WD (YY (by decide)) 0;have w4:=rF smallM (YY (by decide)) 1;rw[aIY]at w1;rw[aI0]at w2;rw[aI1]at w3;rw[aIZ]at w4;refine cC 43 [0,1,2,3] Tryz.func22 ?_;refine sR ?_;refine HX [] Tryz.call50 CZ ?_;refine jZ fun r1 h1=> ?_;intros
 refine nY ?_;refine dG ?_;refine cw [] Tryz.call50 HA rfl aC aA ?_;rintro _ σ' ⟨q1,rfl,rfl⟩ h5
 replace h5:=gU h5;repeat rcases h5 with⟨_,h5⟩
 unfold YW;apply aZ;exact bN;refine jZ fun r2 h2=> ?_;intros
 refine jJ ?_;refine fK [(0,true),(1,true),(2,true),(3,true),(4,true),(5,true),(6,true),(7,true),(8,true),(9,true),(10,false)] ?_;refine fZ ?_;refine fZ ?_;refine HY ?_;refine aD8 ?_;refine UD ?_;refine HY ?_;refine aHB ?_;apply aJy;rfl;infer_instance;rfl;rfl;rfl;rfl;exact cJ;exact atT;exact JO;rfl;exact fS;refine kF ?_;refine dZ (iD (r:=r2) (q:=q1) cJ bH (.cons (.refl _) (.cons (.refl _) (.cons (.refl _) (.cons (.refl _) (.cons (.refl _) (.cons (.refl _) (.cons (.refl _) (.cons (.refl _) (.cons (.refl _) (.cons (.refl _) (.cons (.refl _) (.cons (.refl _) (.cons (aM aO (by simp)) (.cons (.refl _) .nil))))))))))))))) ?_;refine dZ (iE (r:=r2) (cs':=aS WC) cJ (.cons (.refl _) (.cons (.refl _) (.cons (.refl _) (.cons (.refl _) (.cons (.refl _) (.cons (.refl _) (.cons (.refl _) (.cons (.refl _) (.cons (.refl _) (.cons (.refl _) (.cons (.refl _) (.cons (.refl _) (.cons (.le (YX VLe.empty rfl rfl KV)) (.cons (.refl _) .nil))))))))))))))) ?_;refine jH ?_;refine cw [] Tryz.call50 HA rfl aC aA ?_;rintro _ σ' ⟨q2,rfl,rfl⟩ h16
 replace h16:=gU h16;repeat rcases h16 with⟨_,h16⟩
 unfold YW;apply aZ;exact bN;refine jZ fun r3 h3=> ?_;intros
 refine nY ?_;refine fE ?_;refine jY ?_;refine jY ?_;refine eS fun r21 h21=> ?_;intros
 refine II ?_;refine yS ?_;refine iR (j:=21) rfl bH (aM aO (by simp)) ?_;refine jT (eK (j:=21) rfl (zJ (l:=uIs) (by simp[uIs]))) ?_;refine yT ?_;refine jI ?_;refine dZ (iD (r:=r3) (q:=q2) cJ bH (.cons (.refl _) (.cons (.refl _) (.cons (.refl _) (.cons (.refl _) (.cons (.refl _) (.cons (.refl _) (.cons (.refl _) (.cons (.refl _) (.cons (.refl _) (.cons (.refl _) (.cons (.refl _) (.cons (.refl _) (.cons (aM aO (by simp)) (.cons (.refl _) .nil))))))))))))))) ?_;refine dZ (iE (r:=r3) (cs':=aS WD) cJ (.cons (.refl _) (.cons (.refl _) (.cons (.refl _) (.cons (.refl _) (.cons (.refl _) (.cons (.refl _) (.cons (.refl _) (.cons (.refl _) (.cons (.refl _) (.cons (.refl _) (.cons (.refl _) (.cons (.refl _) (.cons (.le (YX VLe.empty rfl rfl KV)) (.cons (.refl _) .nil))))))))))))))) ?_;refine jH ?_;refine lS Tryz.call73 WE rfl aU bC ?_;refine AI ?_;refine lJ rfl rfl Tryz.call23 (fun _=>w1) rfl aU bC ?_;refine uX ?_;refine AI ?_;refine lJ rfl rfl Tryz.call23 (fun _=>w2) rfl aU bC ?_;refine uY ?_;refine uX ?_;refine AI ?_;refine lJ rfl rfl Tryz.call23 (fun _=>w3) rfl aU bC ?_;refine uX ?_;refine AI ?_;refine lJ rfl rfl Tryz.call23 (fun _=>w4) rfl aU bC ?_;refine ZQ ?_;exact aD aE ⟨by rfl,rfl⟩ aA
def aLb:Co:=⟨[],YV⟩
end Go.Proofs.YtjpdadobblffmaaGreat
namespace Go.Proofs.YtjpdadobblffmaaGreat
open Go.RowKit Go.ChangeShapes Go.WideShapes Go.ChangeAt Go.Deep
structure RT where
 a:Nat
 lb:List (List Int)
 bad:Bool
 l:List Int
 dd:Bool
def eG (t:RT):RT:=⟨t.a,t.lb,true,t.l,t.dd⟩
def NG (x k:Int):Bool:=if(if(x !=k)=true then(x !=0)else false)=true then(k !=0)else false
def jF (t:RT) (k:Int):Int×RT:=
 if((t.l.length:Int)==0)=true then(k,if(!t.dd)=true then eG t else t)
 else(if(t.l.getLast?.getD 0==0)=true then k else t.l.getLast?.getD 0,⟨t.a,t.lb,if NG (t.l.getLast?.getD 0) k=true then true else t.bad,t.l.dropLast,t.dd⟩)
def aT (t:RT) (ks:List Int):RT:=ks.reverse.foldl (fun t k=>(jF t k).2) t
def gR (t:RT) (ks:List Int):RT:=⟨t.a,t.lb,t.bad,t.l++ks,t.dd⟩
def rG (t:RT):RT:=⟨t.a,t.lb,t.bad,[],true⟩
def dA (t:RT) (n:Int):List Int×RT:=
 if(if decide (n<0)=true then true else decide ((t.lb.length:Int)-1-n<0))=true then([],eG t)else(t.lb.getD ((t.lb.length:Int)-1-n).toNat [],t)
def eP (bd:List Ins) (t:RT) (op:Int):Bool×RT:=
 if(if decide ((t.a:Int)<bd.length)=true then((bd.getD t.a ⟨0,0,0,[]⟩).op==op)else false)=true then(true,⟨t.a+1,t.lb,t.bad,t.l,t.dd⟩)else(false,t)
def rH (t:RT) (res:List Int) (l:List Int) (dd:Bool):RT:=
 let t1:=aT t res
 ⟨t1.a,t1.lb.dropLast,if decide ((0:Int)<t1.l.length)=true then true else t1.bad,l,dd⟩
def dS (lp:RT→RT) (res br:List Int) (t:RT):RT:=rH (lp ⟨t.a,t.lb++ [br],t.bad,[],false⟩) res t.l t.dd
def tA (lp:RT→RT) (bd:List Ins) (x:Ins) (t:RT):RT:=
 let r:=aY x.a
 let t1:=if(x.op==4)=true then aT t [1]else t
 let t2:=if(x.op==3)=true then dS lp r [] t1 else dS lp r r t1
 let t3:=if(x.op==4)=true then(let p:=eP bd t2 5;if p.1=true then dS lp r r p.2 else if decide ((0:Int)<r.length)=true then eG p.2 else p.2)else t2
 let p:=eP bd t3 11
 gR (if(!p.1)=true then eG p.2 else p.2) r
def oW (w:List Int) (t:RT) (n:Int):RT:=let r:=dA t n;if(!(decide (w=r.1)))=true then eG r.2 else r.2
def fU (res:List Int) (x:Ins) (t:RT):RT:=
 if(x.op==12)=true then let r:=dA t x.a;rG (aT r.2 r.1)
 else if(x.op==13)=true then let r:=dA (aT t [1]) x.a;gR (aT r.2 r.1) r.1
 else if(x.op==14)=true then let r:=dA (aT t [1]) x.a;rG (aT (x.l.foldl (oW r.1) r.2) r.1)
 else if(x.op==15)=true then rG (aT t res)
 else rG t
def iP (m:Md) (f:Int):FT×Bool:=
 let k:=if(if decide (0≤f)=true then decide (f<m.im.length)else false)=true then(m.im.getD f.toNat ⟨[],[],0⟩).ty
  else if(if decide (0≤f)=true then decide (f-m.im.length<m.fn.length)else false)=true then m.fn.getD (f-m.im.length).toNat 0 else-1
 if(if decide (k<0)=true then true else decide ((m.ty.length:Int)≤k))=true then(sF,false)else(m.ty.getD k.toNat sF,true)
def rI (m:Md) (x:Ins) (t:RT):RT:=
 if(x.op==16)=true then let y:=iP m x.a;if(!y.2)=true then eG t else gR (aT t y.1.pr) y.1.rs
 else if(if(!m.tb.has)=true then true else decide ((m.ty.length:Int)≤x.a))=true then eG t
 else gR (aT (aT t [1]) (m.ty.getD x.a.toNat sF).pr) (m.ty.getD x.a.toNat sF).rs
def tZ (x:Ins) (c k:Int) (t:RT):RT:=
 let t:=if decide (c<x.a)=true then eG t else t
 if decide (54≤x.op)=true then aT t [1,k]else gR (aT t [1]) [k]
def BP (x:Ins) (t:RT):RT:=
 if(x.op==40||x.op==54)=true then tZ x 2 1 t
 else if(x.op==41||x.op==55)=true then tZ x 3 2 t
 else if(x.op==63)=true then gR t [1]
 else if(x.op==64)=true then gR (aT t [1]) [1]
 else tZ x 0 1 t
def ED (m:Md) (x:Ins) (t:RT):RT:=BP x (if(!m.me.has)=true then eG t else t)
def gF (m:Md) (ls:List Int) (x:Ins) (t:RT):RT:=
 if(x.op==65)=true then gR t [1]
 else if(x.op==66)=true then gR t [2]
 else if(x.op==32||(x.op==33||x.op==34))=true then
  if decide ((ls.length:Int)≤x.a)=true then eG t
  else
   let k:=ls.getD x.a.toNat 0
   let t:=if(x.op !=32)=true then aT t [k]else t
   if(x.op !=33)=true then gR t [k]else t
 else if(x.op==35||x.op==36)=true then
  if(if decide ((m.gl.length:Int)≤x.a)=true then true else if(x.op==36)=true then !(m.gl.getD x.a.toNat KR).mu else false)=true then eG t
  else if(x.op==35)=true then gR t [(m.gl.getD x.a.toNat KR).kd]else aT t [(m.gl.getD x.a.toNat KR).kd]
 else ED m x t
def aLc (t:RT) (k:Int) (n:Nat):RT:=aT t (List.replicate n k)
def PV (op:Int):Bool:=op==12||(op==13||(op==14||(op==15||op==0)))
def gL (m:Md) (ls res:List Int) (x:Ins) (t:RT):RT:=
 if PV x.op=true then fU res x t
 else if(x.op==16||x.op==17)=true then rI m x t
 else if(x.op==26)=true then(jF t 0).2
 else if(x.op==27)=true then let r:=jF (aT t [1]) 0;let r2:=jF r.2 r.1;gR r2.2 [r2.1]
 else if(x.op==1)=true then t
 else if(oY x.op).2.2.2=true then gR (aLc t (oY x.op).2.1 (oY x.op).1.toNat) [(oY x.op).2.2.1]
 else gF m ls x t
def fC (m:Md) (ls res:List Int) (bd:List Ins) (lp:RT→RT) (x:Ins) (t:RT):RT:=
 if qV x.op=true then tA lp bd x ⟨t.a+1,t.lb,t.bad,t.l,t.dd⟩else gL m ls res x ⟨t.a+1,t.lb,t.bad,t.l,t.dd⟩
def mO (m:Md) (ls res:List Int) (bd:List Ins):Nat→RT→RT
 |0,t=>t
 |f+1,t=>
  if(if decide ((t.a:Int)<bd.length)=true then !t.bad else false)=true then
   let x:=bd.getD t.a ⟨0,0,0,[]⟩
   if(if(x.op==11)=true then true else(x.op==5))=true then t
   else mO m ls res bd f (fC m ls res bd (mO m ls res bd f) x t)
  else t
theorem YZ(t:RT)(k:Int):(jF t k).2.a=t.a:=by
 unfold jF;refine aK (p:=fun r:Int×RT=>r.2.a=t.a) (fun _=> ?_) (fun _=>rfl);exact aK (p:=fun r:RT=>r.a=t.a) (fun _=>rfl) (fun _=>rfl)
theorem aC4(t:RT)(k:Int):(jF t k).2.lb=t.lb:=by
 unfold jF;refine aK (p:=fun r:Int×RT=>r.2.lb=t.lb) (fun _=> ?_) (fun _=>rfl);exact aK (p:=fun r:RT=>r.lb=t.lb) (fun _=>rfl) (fun _=>rfl)
theorem EZ(t:RT)(k:Int)(h:t.bad=true):(jF t k).2.bad=true:=by
 unfold jF;refine aK (p:=fun r:Int×RT=>r.2.bad=true) (fun _=> ?_) (fun _=> ?_)
 ·exact aK (p:=fun r:RT=>r.bad=true) (fun _=>rfl) (fun _=>h)
 ·dsimp only;rw[h];simp
theorem BQ{p:RT→Prop}(h:∀s w,p s→p (jF s w).2):∀(ks:List Int) (s:RT),p s→p (aT s ks):=by
 have:∀(l:List Int) (s:RT),p s→p (l.foldl (fun s k=>(jF s k).2) s):=by
  intro l
  induction l with
  |nil=>intro s hs;exact hs
  |cons a l ih=>intro s hs;exact ih _ (h s a hs)
 intro ks s hs;exact this _ s hs
theorem zM(t:RT)(ks:List Int):(aT t ks).a=t.a:=BQ (p:=fun q=>q.a=t.a) (fun q w h=>(YZ q w).trans h) ks t rfl
theorem rS(t:RT)(ks:List Int):(aT t ks).lb=t.lb:=BQ (p:=fun q=>q.lb=t.lb) (fun q w h=>(aC4 q w).trans h) ks t rfl
theorem HC(t:RT)(ks:List Int)(h:t.bad=true):(aT t ks).bad=true:=BQ (p:=fun q=>q.bad=true) (fun q w h=>EZ q w h) ks t h
theorem NH(t:RT)(n:Int):(dA t n).2.a=t.a:=by
 unfold dA;exact aK (p:=fun r:List Int×RT=>r.2.a=t.a) (fun _=>rfl) (fun _=>rfl)
theorem tB(t:RT)(n:Int)(h:t.bad=true):(dA t n).2.bad=true:=by
 unfold dA;exact aK (p:=fun r:List Int×RT=>r.2.bad=true) (fun _=>rfl) (fun _=>h)
def Adv (t:RT) (n:Nat) (q:RT):Prop:=t.a+n≤q.a∧(t.bad=true→q.bad=true)
theorem Adv.refl (t:RT):Adv t 0 t:=⟨Nat.le_refl _,id⟩
theorem Adv.trans {t q r:RT}{n k:Nat}(h:Adv t n q)(h':Adv q k r):Adv t (n+k) r:=⟨by have:=h.1;have:=h'.1;omega,fun e=>h'.2 (h.2 e)⟩
theorem Adv.le {t q:RT}{n k:Nat}(h:Adv t n q)(hk:k≤n):Adv t k q:=⟨by have:=h.1;omega,h.2⟩
theorem Adv.take {t q:RT}{n:Nat}(h:Adv t n q)(ks:List Int):Adv t n (aT q ks):=⟨by rw[zM];exact h.1,fun e=>HC _ _ (h.2 e)⟩
theorem Adv.one {t q:RT}{n:Nat}(h:Adv t n q)(k:Int):Adv t n (jF q k).2:=⟨by rw[YZ];exact h.1,fun e=>EZ _ _ (h.2 e)⟩
theorem Adv.put {t q:RT}{n:Nat}(h:Adv t n q)(ks:List Int):Adv t n (gR q ks):=h
theorem Adv.ends {t q:RT}{n:Nat}(h:Adv t n q):Adv t n (rG q):=h
theorem Adv.bad {t q:RT}{n:Nat}(h:Adv t n q):Adv t n (eG q):=⟨h.1,fun _=>rfl⟩
theorem Adv.label {t q:RT}{n:Nat}(h:Adv t n q)(x:Int):Adv t n (dA q x).2:=⟨by rw[NH];exact h.1,fun e=>tB _ _ (h.2 e)⟩
theorem Adv.tabs {t q:RT}{n:Nat}(h:Adv t n q)(w l:List Int):Adv t n (l.foldl (oW w) q):=by
 induction l generalizing q with
 |nil=>exact h
 |cons a l ih=>exact ih (aK (p:=Adv t n) (fun _=>(h.label a).bad) (fun _=>h.label a))
theorem WG(res:List Int)(x:Ins)(t:RT):Adv t 0 (fU res x t):=by
 have h:=Adv.refl t;unfold fU;refine aK (fun _=>((h.label _).take _).ends) (fun _=> ?_);refine aK (fun _=>(((h.take _).label _).take _).put _) (fun _=> ?_);refine aK (fun _=>((((h.take _).label _).tabs _ _).take _).ends) (fun _=> ?_);exact aK (fun _=>(h.take _).ends) (fun _=>h.ends)
theorem aC5(m:Md)(x:Ins)(t:RT):Adv t 0 (rI m x t):=by
 have h:=Adv.refl t;unfold rI;refine aK (fun _=>aK (p:=Adv t 0) (fun _=>h.bad) (fun _=>(h.take _).put _)) (fun _=> ?_);exact aK (fun _=>h.bad) (fun _=>((h.take _).take _).put _)
theorem NJ{t q:RT}(h:Adv t 0 q)(x:Ins)(c k:Int):Adv t 0 (tZ x c k q):=by
 have ha:Adv t 0 (if decide (c<x.a)=true then eG q else q):=aK (fun _=>h.bad) (fun _=>h);exact aK (fun _=>ha.take _) (fun _=>(ha.take _).put _)
theorem aFL(m:Md)(x:Ins)(t:RT):Adv t 0 (ED m x t):=by
 have h:Adv t 0 (if(!m.me.has)=true then eG t else t):=aK (fun _=>(Adv.refl t).bad) (fun _=>Adv.refl t);unfold ED;generalize(if(!m.me.has)=true then eG t else t)=q at h;unfold BP;refine aK (fun _=>NJ h x _ _) (fun _=> ?_);refine aK (fun _=>NJ h x _ _) (fun _=> ?_);refine aK (fun _=>h.put _) (fun _=> ?_);exact aK (fun _=>(h.take _).put _) (fun _=>NJ h x _ _)
theorem WH(m:Md)(ls:List Int)(x:Ins)(t:RT):Adv t 0 (gF m ls x t):=by
 have h:=Adv.refl t;unfold gF;refine aK (fun _=>h.put _) (fun _=> ?_);refine aK (fun _=>h.put _) (fun _=> ?_);refine aK (fun _=>aK (fun _=>h.bad) (fun _=> ?_)) (fun _=> ?_)
 ·have hq:Adv t 0 (if(x.op !=32)=true then aT t [ls.getD x.a.toNat 0]else t):=aK (fun _=>h.take _) (fun _=>h);exact aK (fun _=>hq.put _) (fun _=>hq)
 refine aK (fun _=>aK (fun _=>h.bad) (fun _=>aK (fun _=>h.put _) (fun _=>h.take _))) (fun _=>aFL m x t)
theorem aC6(m:Md)(ls res:List Int)(x:Ins)(t:RT):Adv t 0 (gL m ls res x t):=by
 have h:=Adv.refl t;unfold gL;refine aK (fun _=>WG _ _ _) (fun _=> ?_);refine aK (fun _=>aC5 _ _ _) (fun _=> ?_);refine aK (fun _=>h.one 0) (fun _=> ?_);refine aK (fun _=>(((h.take _).one _).one _).put _) (fun _=> ?_);refine aK (fun _=>h) (fun _=> ?_);exact aK (fun _=>(h.take _).put _) (fun _=>WH _ _ _ _)
theorem tC(bd:List Ins)(t:RT)(op:Int):Adv t 0 (eP bd t op).2:=by
 unfold eP;exact aK (p:=fun r:Bool×RT=>Adv t 0 r.2) (fun _=>⟨Nat.le_succ _,id⟩) (fun _=>Adv.refl t)
theorem lH{lp:RT→RT}(hl:∀q,Adv q 0 (lp q))(res br:List Int)(t:RT):Adv t 0 (dS lp res br t):=by
 have h:=(hl ⟨t.a,t.lb++ [br],t.bad,[],false⟩).take res;refine⟨h.1,fun e=> ?_⟩;show(if _ then true else _)=true;rw[h.2 e];simp
theorem aC7{lp:RT→RT}(hl:∀q,Adv q 0 (lp q))(bd:List Ins)(x:Ins)(t:RT):Adv t 0 (tA lp bd x t):=by
 unfold tA;dsimp only;have h1:Adv t 0 (if(x.op==4)=true then aT t [1]else t):=aK (fun _=>(Adv.refl t).take _) (fun _=>Adv.refl t);generalize(if(x.op==4)=true then aT t [1]else t)=t1 at h1;have h2:Adv t 0 (if(x.op==3)=true then dS lp (aY x.a) [] t1 else dS lp (aY x.a) (aY x.a) t1):=aK (fun _=>h1.trans (lH hl _ _ _)) (fun _=>h1.trans (lH hl _ _ _));generalize(if(x.op==3)=true then dS lp (aY x.a) [] t1 else dS lp (aY x.a) (aY x.a) t1)=t2 at h2;have hp:=h2.trans (tC bd t2 5);have h3:Adv t 0 (if(x.op==4)=true then(if(eP bd t2 5).1=true then dS lp (aY x.a) (aY x.a) (eP bd t2 5).2 else if decide ((0:Int)<(aY x.a).length)=true then eG (eP bd t2 5).2 else(eP bd t2 5).2)else t2):=
  aK (fun _=>aK (fun _=>hp.trans (lH hl _ _ _)) (fun _=>aK (fun _=>hp.bad) (fun _=>hp))) (fun _=>h2)
 generalize(if(x.op==4)=true then(if(eP bd t2 5).1=true then dS lp (aY x.a) (aY x.a) (eP bd t2 5).2 else if decide ((0:Int)<(aY x.a).length)=true then eG (eP bd t2 5).2 else(eP bd t2 5).2)else t2)=t3 at h3;have hq:=h3.trans (tC bd t3 11);exact Adv.put (aK (fun _=>hq.bad) (fun _=>hq)) _
theorem xL(m:Md)(ls res:List Int)(bd:List Ins){lp:RT→RT}(hl:∀q,Adv q 0 (lp q))(x:Ins)(t:RT):Adv t 1 (fC m ls res bd lp x t):=by
 unfold fC;refine aK (fun _=> ?_) (fun _=> ?_)
 ·have h:=aC7 hl bd x ⟨t.a+1,t.lb,t.bad,t.l,t.dd⟩;exact⟨h.1,h.2⟩
 ·have h:=aC6 m ls res x ⟨t.a+1,t.lb,t.bad,t.l,t.dd⟩;exact⟨h.1,h.2⟩
theorem xB(m:Md)(ls res:List Int)(bd:List Ins):∀(f:Nat) (t:RT),Adv t 0 (mO m ls res bd f t)
 |0,t=>Adv.refl t
 |f+1,t=>by
  rw[mO];refine aK (fun _=> ?_) (fun _=>Adv.refl t);exact aK (p:=Adv t 0) (fun _=>Adv.refl t) (fun _=>((xL m ls res bd (xB m ls res bd f) _ t).trans (xB m ls res bd f _)).le (Nat.zero_le _))
theorem WI{l1 l2:RT→RT}{res br:List Int}{t:RT}(h:∀q,t.a≤q.a→l1 q=l2 q):dS l1 res br t=dS l2 res br t:=by
 unfold dS;rw[h ⟨t.a,t.lb++ [br],t.bad,[],false⟩ (Nat.le_refl _)]
theorem aAD{l1 l2:RT→RT}(hl:∀q,Adv q 0 (l2 q)){bd:List Ins}{x:Ins}{t:RT}(h:∀q,t.a≤q.a→l1 q=l2 q):tA l1 bd x t=tA l2 bd x t:=by
 have h1:Adv t 0 (if(x.op==4)=true then aT t [1]else t):=aK (fun _=>(Adv.refl t).take _) (fun _=>Adv.refl t);have hb:∀ {res br:List Int} {q:RT},Adv t 0 q→dS l1 res br q=dS l2 res br q:=fun hq=>WI fun q' hq'=>h q' (Nat.le_trans hq.1 hq')
 unfold tA;dsimp only;generalize(if(x.op==4)=true then aT t [1]else t)=t1 at h1;rw[hb h1,hb h1];have h2:Adv t 0 (if(x.op==3)=true then dS l2 (aY x.a) [] t1 else dS l2 (aY x.a) (aY x.a) t1):=aK (fun _=>h1.trans (lH hl _ _ _)) (fun _=>h1.trans (lH hl _ _ _));generalize(if(x.op==3)=true then dS l2 (aY x.a) [] t1 else dS l2 (aY x.a) (aY x.a) t1)=t2 at h2;rw[hb (h2.trans (tC bd t2 5))]
theorem HD{m:Md}{ls res:List Int}{l1 l2:RT→RT}(hl:∀q,Adv q 0 (l2 q)){bd:List Ins}{x:Ins}{t:RT}(h:∀q,t.a+1≤q.a→l1 q=l2 q):fC m ls res bd l1 x t=fC m ls res bd l2 x t:=by
 unfold fC;rw[aAD hl h]
theorem xM(m:Md)(ls res:List Int)(bd:List Ins):∀(f g:Nat) (t:RT),bd.length+1≤f+t.a→bd.length+1≤g+t.a→mO m ls res bd f t=mO m ls res bd g t
 |0,0,_,_,_=>rfl
 |0,g+1,t,h,_=>by
  rw[mO,mO,if_neg];rw[decide_eq_false (by omega),if_neg (by simp)];simp
 |f+1,0,t,_,h=>by
  rw[mO,mO,if_neg];rw[decide_eq_false (by omega),if_neg (by simp)];simp
 |f+1,g+1,t,h,h'=>by
  rw[mO,mO];dsimp only;have e:∀x,fC m ls res bd (mO m ls res bd f) x t=fC m ls res bd (mO m ls res bd g) x t:=fun x=>HD (xB m ls res bd g) fun q hq=>xM m ls res bd f g q (by omega) (by omega)
  rw[e];have h2:=(xL m ls res bd (xB m ls res bd g) (bd.getD t.a ⟨0,0,0,[]⟩) t).1;rw[xM m ls res bd f g _ (by omega) (by omega)]
def LR (m:Md) (ls res:List Int) (bd:List Ins) (t:RT):RT:=mO m ls res bd (bd.length+1) t
theorem HE(m:Md)(ls res:List Int)(bd:List Ins)(t:RT):Adv t 0 (LR m ls res bd t):=xB m ls res bd _ t
theorem SX(m:Md)(ls res:List Int)(bd:List Ins)(t:RT):LR m ls res bd t=
  if(if decide ((t.a:Int)<bd.length)=true then !t.bad else false)=true then
   (if(if((bd.getD t.a ⟨0,0,0,[]⟩).op==11)=true then true else((bd.getD t.a ⟨0,0,0,[]⟩).op==5))=true then t
   else LR m ls res bd (fC m ls res bd (LR m ls res bd) (bd.getD t.a ⟨0,0,0,[]⟩) t))
  else t:=by
 have e:∀x,fC m ls res bd (mO m ls res bd bd.length) x t=fC m ls res bd (LR m ls res bd) x t:=fun x=>HD (HE m ls res bd) fun q hq=>xM m ls res bd _ _ q (by omega) (by omega)
 conv=>lhs;rw[LR,mO]
 dsimp only;rw[e];have h2:=(xL m ls res bd (HE m ls res bd) (bd.getD t.a ⟨0,0,0,[]⟩) t).1;rw[xM m ls res bd bd.length (bd.length+1) _ (by omega) (by omega)];rfl
def WJ (m:Md) (k:Int):Bool:=
 if(if(if(if(if decide (k<0)=true then true else decide ((m.co.length:Int)≤k))=true then true else decide ((m.fn.length:Int)≤k))=true then true else decide (m.fn.getD k.toNat 0<0))=true then true else decide ((m.ty.length:Int)≤m.fn.getD k.toNat 0))=true then false
 else
  let t:=m.ty.getD (m.fn.getD k.toNat 0).toNat sF
  let c:=m.co.getD k.toNat ⟨[],[]⟩
  let ls:=t.pr++c.ls
  if decide ((32:Int)<ls.length)=true then false
  else
   let r:=dS (LR m ls t.rs c.bd) t.rs t.rs ⟨0,[],false,[],false⟩
   if(!r.bad)=true then((r.a:Int)==c.bd.length)else false
def lbC (c:Ct):List Int:=if(c.op==3)=true then []else aY c.kd
structure Cor (o:List Ct) (op kd:Int) (base:List Int) (t:RT) (s:PS):Prop where
 vs:s.vs=base++t.l
 cs:s.cs=o++ [⟨op,kd,base.length,t.dd⟩]
 lb:t.lb=s.cs.map lbC
def qH (o:List Ct) (op kd:Int) (base:List Int) (t:RT) (s:PS):Prop:=(t.bad=true∧s.bad=true)∨(t.bad=false∧s.bad=false∧Cor o op kd base t s)
section
variable {o : List Ct} {op kd : Int} {base : List Int} {t : RT} {s : PS}
theorem Cor.top (h:Cor o op kd base t s):s.top=⟨op,kd,base.length,t.dd⟩:=by unfold PS.top;rw[h.cs];simp
theorem oG(s:PS)(b:Bool)(h:s.bad=true):(dD s b).bad=true:=by unfold dD;rw[h];rfl
theorem BR(s:PS)(w:Int)(h:s.bad=true):(cR s w).2.bad=true:=by
 unfold cR;refine aK (p:=fun r:Int×PS=>r.2.bad=true) (fun _=>oG _ _ h) (fun _=> ?_);exact aK (p:=fun r:Int×PS=>r.2.bad=true) (fun _=>h) (fun _=>oG _ _ h)
theorem xC(s:PS)(ks:List Int)(h:s.bad=true):(dR s ks).bad=true:=BI (p:=fun q=>q.bad=true) (fun q w h=>BR q w h) ks s h
theorem WK(s:PS)(n:Int)(h:s.bad=true):(cU s n).2.bad=true:=by
 unfold cU;exact aK (p:=fun r:List Int×PS=>r.2.bad=true) (fun _=>rfl) (fun _=>h)
theorem FA(h:qH o op kd base t s){k k':Int}(hk:t.bad=false→k=k'):qH o op kd base (jF t k).2 (cR s k').2∧((jF t k).2.bad=false→(jF t k).1=(cR s k').1):=by
 rcases h with⟨h1,h2⟩|⟨h1,h2,h3⟩
 ·exact⟨.inl ⟨EZ t k h1,BR s k' h2⟩,fun e=>by rw[EZ t k h1]at e;cases e⟩
 obtain rfl:=hk h1;have ht:=h3.top;obtain⟨ta,tl,tb,l,dd⟩:=t;obtain⟨vs,cs,sb⟩:=s;obtain⟨e1,e2,e3⟩:=h3;dsimp only at e1 e2 e3 h1 h2;subst h1 h2 e1;unfold jF cR;rw[ht];rcases List.eq_nil_or_concat l with rfl|⟨l',x,rfl⟩
 ·dsimp only;have c1:(((base++ []).length:Int)==(base.length:Int))=true:=by simp
  rw[if_pos (show((([]:List Int).length:Int)==0)=true from rfl),if_pos c1];cases dd with
  |true=>exact⟨.inr ⟨rfl,rfl,⟨rfl,e2,e3⟩⟩,fun _=>rfl⟩
  |false=>exact⟨.inl ⟨rfl,rfl⟩,fun e=>by cases e⟩
 ·rw[List.concat_eq_append];have c2:¬(((l'++ [x]).length:Int)==0)=true:=by simp only[List.length_append,List.length_cons,List.length_nil,beq_iff_eq];omega
  have c3:¬(((base++(l'++ [x])).length:Int)==(base.length:Int))=true:=by simp only[List.length_append,List.length_cons,List.length_nil,beq_iff_eq];omega
  dsimp only;rw[if_neg c2,if_neg c3];have g1:(l'++ [x]).getLast?.getD 0=x:=by simp
  have g2:(base++(l'++ [x])).getLast?.getD 0=x:=by rw[←List.append_assoc];simp
  have g3:(base++(l'++ [x])).dropLast=base++l':=by rw[←List.append_assoc];simp
  have g4:(l'++ [x]).dropLast=l':=by simp
  rw[g1,g2,g3,g4];by_cases hx:x=0
  ·subst hx;rw[show NG 0 k=false by simp[NG]];simp only[beq_self_eq_true,if_true,Bool.false_eq_true,if_false];exact⟨.inr ⟨rfl,rfl,⟨rfl,e2,e3⟩⟩,fun _=>trivial⟩
  ·rw[show(x==0)=false by simpa using hx];simp only[Bool.false_eq_true,if_false];unfold dD NG;by_cases hk0:k=0
   ·subst hk0;exact⟨.inr ⟨by simp,by simp,⟨rfl,e2,e3⟩⟩,fun _=>trivial⟩
   ·by_cases hxk:x=k
    ·subst hxk;exact⟨.inr ⟨by simp,by simp,⟨rfl,e2,e3⟩⟩,fun _=>trivial⟩
    ·exact⟨.inl ⟨by simp[hxk,hx,hk0],by simp[hxk,hk0]⟩,fun _=>trivial⟩
theorem fL(h:qH o op kd base t s){ks ks':List Int}(hk:t.bad=false→ks=ks'):qH o op kd base (aT t ks) (dR s ks'):=by
 rcases Bool.eq_false_or_eq_true t.bad with hb|hb
 ·rcases h with⟨h1,h2⟩|⟨h1,h2,h3⟩
  ·exact .inl ⟨HC t ks h1,xC s ks' h2⟩
  ·rw[hb]at h1;cases h1
 obtain rfl:=hk hb;unfold aT dR;generalize ks.reverse=l;clear hk hb
 induction l generalizing t s with
 |nil=>exact h
 |cons a l ih=>exact ih (FA h (fun _=>rfl)).1
theorem jS(h:qH o op kd base t s){ks ks':List Int}(hk:t.bad=false→ks=ks'):qH o op kd base (gR t ks) (fO s ks'):=by
 rcases h with⟨h1,h2⟩|⟨h1,h2,h3⟩
 ·exact .inl ⟨h1,h2⟩
 ·obtain rfl:=hk h1;exact .inr ⟨h1,h2,⟨by show s.vs++ks=base++(t.l++ks);rw[h3.vs,List.append_assoc],h3.cs,h3.lb⟩⟩
theorem BS(h:qH o op kd base t s):qH o op kd base (rG t) (oU s):=by
 rcases h with⟨h1,h2⟩|⟨h1,h2,h3⟩
 ·exact .inl ⟨h1,h2⟩
 ·have ht:=h3.top;refine .inr ⟨h1,h2,⟨?_, ?_, ?_⟩⟩
  ·show s.vs.take s.top.ht=base++ [];rw[ht,h3.vs];simp
  ·show s.cs.dropLast++ [⟨s.top.op,s.top.kd,s.top.ht,true⟩]=_;rw[ht,h3.cs];simp[rG]
  ·show t.lb=(s.cs.dropLast++ [(⟨s.top.op,s.top.kd,s.top.ht,true⟩:Ct)]).map lbC;rw[ht,h3.lb,h3.cs];simp[lbC]
theorem rJ(h:qH o op kd base t s){b b':Bool}(hb:t.bad=false→b=b'):qH o op kd base (if b=true then t else eG t) (dD s b'):=by
 rcases h with⟨h1,h2⟩|⟨h1,h2,h3⟩
 ·refine .inl ⟨?_,oG s b' h2⟩;exact aK (p:=fun r:RT=>r.bad=true) (fun _=>h1) (fun _=>rfl)
 ·obtain rfl:=hb h1;cases b with
  |true=>rw[if_pos rfl];exact Or.inr ⟨h1,by simp[dD,h2],⟨h3.vs,h3.cs,h3.lb⟩⟩
  |false=>rw[if_neg (by simp)];exact .inl ⟨rfl,by simp[dD]⟩
theorem aFN(t:RT)(s:PS):qH o op kd base (eG t) ⟨s.vs,s.cs,true⟩:=.inl ⟨rfl,rfl⟩
theorem xN(h:qH o op kd base t s){n:Int}(hn:0≤n):qH o op kd base (dA t n).2 (cU s n).2∧((dA t n).2.bad=false→(dA t n).1=(cU s n).1):=by
 rcases h with⟨h1,h2⟩|⟨h1,h2,h3⟩
 ·exact⟨.inl ⟨tB t n h1,WK s n h2⟩,fun e=>by rw[tB t n h1]at e;cases e⟩
 have hl:t.lb.length=s.cs.length:=by rw[h3.lb];simp
 unfold dA cU;rw[hl];by_cases hc:(s.cs.length:Int)≤n
 ·rw[if_pos (by rw[if_neg (by simp;omega)];simp;omega),if_pos (by simpa using hc)];exact⟨aFN t s,fun e=>by cases e⟩
 ·rw[if_neg (by rw[if_neg (by simp;omega)];simp;omega),if_neg (by simpa using hc)];refine⟨.inr ⟨h1,h2,h3⟩,fun _=> ?_⟩;dsimp only;have hi:((s.cs.length:Int)-1-n).toNat=s.cs.length-1-n.toNat:=by omega
  have hlt:s.cs.length-1-n.toNat<s.cs.length:=by omega
  rw[hi,h3.lb,List.getD_eq_getElem?_getD,List.getD_eq_getElem?_getD,List.getElem?_map,List.getElem?_eq_getElem hlt];rfl
theorem aI2{a b:List Int}(ha:a.length≤1)(hb:b.length≤1):eq1 a b=decide (b=a):=by
 unfold eq1
 match a,b,ha,hb with
 |[],[],_,_=>rfl
 |[],[y],_,_=>simp
 |[x],[],_,_=>simp
 |[x],[y],_,_=>simp[Bool.beq_eq_decide_eq];exact eq_comm
theorem SY{w w':List Int}(hw:w'.length≤1):∀ {l:List Int} (_:∀n∈l,0≤n) {t:RT} {s:PS} (_:qH o op kd base t s) (_:t.bad=false→w=w'),qH o op kd base (l.foldl (oW w) t) (l.foldl (xX w') s)
 |[],_,_,_,h,_=>h
 |n::l,hl,t,s,h,he=>by
  have hn:=hl n List.mem_cons_self;obtain⟨h1,h2⟩:=xN h hn;have hs:qH o op kd base (oW w t n) (xX w' s n):=by
   have:=rJ h1 (b:=decide (w=(dA t n).1)) (b':=eq1 (cU s n).1 w') fun e=>by
    rw[h2 e,aI2 (oF s n) hw];have e0:t.bad=false:=by
     cases hb:t.bad with
     |false=>rfl
     |true=>rw[tB t n hb]at e;cases e
    rw[he e0]
   unfold oW xX;dsimp only;cases hd:decide (w=(dA t n).1)with
   |true=>rw[hd]at this;exact this
   |false=>rw[hd]at this;exact this
  refine SY hw (fun n hn=>hl n (List.mem_cons_of_mem _ hn)) hs fun e=>he ?_
  cases hb:t.bad with
  |false=>rfl
  |true=>
   have:(oW w t n).bad=true:=by
    unfold oW;exact aK (p:=fun r:RT=>r.bad=true) (fun _=>rfl) (fun _=>tB t n hb)
   rw[this]at e;cases e
theorem aC8{P:Prop}{t q:RT}{n:Nat}(h:Adv t n q)(k:t.bad=false→P):q.bad=false→P:=fun e=>k (by
 cases hb:t.bad with
 |false=>rfl
 |true=>rw[h.2 hb]at e;cases e)
end
def aLd (n:Nat):Bool:= !(QZ n)||decide ((kN n).1=List.replicate (oY n).1.toNat (oY n).2.1∧(kN n).2.1=(oY n).2.2.1∧(kN n).2.2=true∧(oY n).2.2.2=true)
theorem aFO:((List.range 174).all aLd)=true:=by decide+kernel
theorem aI3{op:Int}(h:QZ op=true):(kN op).1=List.replicate (oY op).1.toNat (oY op).2.1∧(kN op).2.1=(oY op).2.2.1∧(kN op).2.2=true∧(oY op).2.2.2=true:=by
 have h0:0≤op∧op<174:=by unfold QZ at h;have:=of_decide_eq_true h;omega
 obtain⟨n,rfl⟩:∃n:Nat,op=n:=⟨op.toNat,by omega⟩
 have h1:=List.all_eq_true.1 aFO n (List.mem_range.2 (by omega));unfold aLd at h1;rw[h]at h1;simpa using h1
theorem aC9{op:Int}(h:aW op≠0):op∈([0,1,5,11,15,26,27,2,3,4,12,13,16,32,33,34,35,36,14,17,40,41,44,45,54,55,58,63,64,65,66]:List Int)∨QZ op=true:=by
 unfold aW iV at h;cases hk:QZ op with
 |true=>exact .inr rfl
 |false=>
  left;rw[hk]at h;simp only[List.mem_cons,List.not_mem_nil,or_false];simp only[Bool.or_eq_true,beq_iff_eq,Bool.false_eq_true,if_false]at h;repeat' split at h
  all_goals first|omega|exact absurd rfl h
theorem aDa{x:Ins}(h:dB x=true):aW x.op≠0:=by
 intro e;unfold dB at h;rw[e]at h;revert h;refine aK (p:=fun b:Bool=>b=true→False) (fun _=>by simp) (fun _=> ?_);simp
theorem oM{n a b:Int}(h:pW n a b=true):a≤n∧n≤b:=by rw[kG]at h;exact of_decide_eq_true h
theorem lA{x:Ins}(h:dB x=true)(hf:aW x.op=3∨aW x.op=4∨aW x.op=5∨aW x.op=6):0≤x.a∧(aW x.op=4→∀n∈x.l,0≤n):=by
 unfold dB at h;have h0:jD x (aW x.op)=false:=by
  cases hp:jD x (aW x.op)with
  |false=>rfl
  |true=>rw[hp]at h;simp at h
 rw[h0]at h;simp only[Bool.false_eq_true,if_false]at h;rcases hf with e|e|e|e<;>rw[e]at h⊢
 ·simp only[show((3:Int)==1||(3:Int)==7)=false from rfl,show((3:Int)==2)=false from rfl,show((3:Int)==3||(3:Int)==5)=true from rfl,Bool.false_eq_true,if_false,if_true]at h;exact⟨(oM h).1,fun e=>by simp at e⟩
 ·simp only[show((4:Int)==1||(4:Int)==7)=false from rfl,show((4:Int)==2)=false from rfl,show((4:Int)==3||(4:Int)==5)=false from rfl,show((4:Int)==4)=true from rfl,Bool.false_eq_true,if_false,if_true]at h;cases ha:pW x.a 0 1000 with
  |false=>rw[ha]at h;simp at h
  |true=>
   refine⟨(oM ha).1,fun _ n hn=> ?_⟩;rw[ha]at h;simp only[if_true]at h;split at h
   ·simp only[Bool.not_eq_true',List.any_eq_false,Bool.not_eq_true',Bool.not_eq_false]at h;have:=h n hn;have:pW n 0 1000=true:=by simpa using this
    exact(oM this).1
   ·cases h
 ·simp only[show((5:Int)==1||(5:Int)==7)=false from rfl,show((5:Int)==2)=false from rfl,show((5:Int)==3||(5:Int)==5)=true from rfl,Bool.false_eq_true,if_false,if_true]at h;exact⟨(oM h).1,fun e=>by simp at e⟩
 ·simp only[show((6:Int)==1||(6:Int)==7)=false from rfl,show((6:Int)==2)=false from rfl,show((6:Int)==3||(6:Int)==5)=false from rfl,show((6:Int)==4)=false from rfl,show((6:Int)==6)=true from rfl,Bool.false_eq_true,if_false,if_true]at h;cases ha:pW x.a 0 3 with
  |false=>rw[ha]at h;simp at h
  |true=>exact⟨(oM ha).1,fun e=>by simp at e⟩
theorem tD{x:Ins}(h:dB x=true)(hf:aW x.op=1∨aW x.op=7):x.a=0:=by
 unfold dB at h;have h0:jD x (aW x.op)=false:=by
  cases hp:jD x (aW x.op)with
  |false=>rfl
  |true=>rw[hp]at h;simp at h
 rw[h0]at h;rcases hf with e|e<;>rw[e]at h<;>simpa using h
def rkd (o:List Ct) (kd:Int):Int:=match o with|[]=>kd|c:: _=>c.kd
theorem aI4(o:List Ct)(op kd:Int)(h:Nat)(d:Bool):((o++ [(⟨op,kd,h,d⟩:Ct)]).getD 0 ct0).kd=rkd o kd:=by cases o<;>rfl
section
variable {o : List Ct} {op kd : Int} {base : List Int} {t : RT} {s : PS} {m : Md} {ls res : List Int}
theorem WL(h:qH o op kd base t s)(hr:res=aY (rkd o kd)){x:Ins}(hx:dB x=true)(hb:PV x.op=true):qH o op kd base (fU res x t) (gE m ls s x):=by
 obtain⟨xo,a,b,l⟩:=x;have hb':xo=12∨xo=13∨xo=14∨xo=15∨xo=0:=by unfold PV at hb;simpa[or_assoc]using hb
 rcases hb' with rfl|rfl|rfl|rfl|rfl
 ·have ha:=(lA hx (.inl (show aW 12=3 by decide))).1;obtain⟨h1,h2⟩:=xN h ha;exact BS (fL h1 h2)
 ·have ha:=(lA hx (.inl (show aW 13=3 by decide))).1;obtain⟨h1,h2⟩:=xN (fL (ks:=[1]) h fun _=>rfl) ha;have h3:=fL h1 h2;exact jS h3 (aC8 ((Adv.refl _).take _) h2)
 ·have ha:=lA hx (.inr (.inl (show aW 14=4 by decide)));obtain⟨h1,h2⟩:=xN (fL (ks:=[1]) h fun _=>rfl) ha.1;have h3:=SY (w:=(dA (aT t [1]) a).1) (oF _ a) (l:=l) (ha.2 (show aW 14=4 by decide)) h1 h2;exact BS (fL h3 (aC8 ((Adv.refl _).tabs _ _) h2))
 ·refine BS (fL h fun e=> ?_);rcases h with⟨h1,-⟩|⟨-,-,h3⟩
  ·rw[h1]at e;cases e
  ·rw[h3.cs,aI4,hr]
 ·exact BS h
theorem xO{m:Md}{f:Int}(hf:0≤f):iP m f=cM m (kZ m f):=by
 unfold iP cM kZ;rw[decide_eq_true hf];simp only[if_true]
theorem WM{m:Md}{f:Int}(hf:0≤f):cM m f=if decide ((m.ty.length:Int)≤f)=true then(sF,false)else(m.ty.getD f.toNat sF,true):=by
 unfold cM;rw[decide_eq_false (by omega:¬f<0)];simp only[Bool.false_eq_true,if_false]
theorem KW(h:qH o op kd base t s)(y:FT×Bool):qH o op kd base (if(!y.2)=true then eG t else gR (aT t y.1.pr) y.1.rs) (rC s y.1 y.2):=by
 obtain⟨y,b⟩:=y;cases b with
 |true=>
  have h1:=rJ h (b:=true) (b':=true) fun _=>rfl
  exact jS (fL h1 fun _=>rfl) fun _=>rfl
 |false=>exact .inl ⟨rfl,by show(dR _ _).bad=true;exact xC _ _ (by simp[dD])⟩
theorem aDb(h:qH o op kd base t s){x:Ins}(hx:dB x=true)(hb:(x.op==16||x.op==17)=true):qH o op kd base (rI m x t) (gE m ls s x):=by
 obtain⟨xo,a,b,l⟩:=x;have hb':xo=16∨xo=17:=by simpa using hb
 rcases hb' with rfl|rfl
 ·have ha:0≤a:=(lA hx (.inl (show aW 16=3 by decide))).1;have:=KW h (iP m a);rw[xO ha]at this;show qH _ _ _ _ (if(!(iP m a).2)=true then eG t else gR (aT t (iP m a).1.pr) (iP m a).1.rs) _;rw[xO ha];exact this
 ·have ha:0≤a:=(lA hx (.inr (.inr (.inl (show aW 17=5 by decide))))).1;have h1:=rJ h (b:=m.tb.has) fun _=>rfl
  have h2:=fL (ks:=[1]) (ks':=[1]) h1 fun _=>rfl
  have h3:=KW h2 (cM m a);show qH _ _ _ _ (if(if(!m.tb.has)=true then true else decide ((m.ty.length:Int)≤a))=true then eG t else gR (aT (aT t [1]) (m.ty.getD a.toNat sF).pr) (m.ty.getD a.toNat sF).rs) (rC (dR (dD s m.tb.has) [1]) (cM m a).1 (cM m a).2);rw[WM ha]at h3⊢;cases hh:m.tb.has with
  |false=>
   refine .inl ⟨rfl, ?_⟩;show(dR _ _).bad=true;exact xC _ _ (oG _ _ (xC _ _ (by simp[dD])))
  |true=>
   rw[hh]at h3;simp only[Bool.not_true,Bool.false_eq_true,if_false,if_true]at h3⊢;cases hl:decide ((m.ty.length:Int)≤a)with
   |true=>
    rw[hl]at h3;refine .inl ⟨rfl, ?_⟩;show(dR _ _).bad=true;exact xC _ _ (by simp[dD])
   |false=>rw[hl]at h3;exact h3
theorem aAE{n:Int}(h:¬(ls.length:Int)≤n):cV ls s n=(ls.getD n.toNat 0,s):=if_neg (by simpa using h)
theorem KX{n:Int}(h:(ls.length:Int)≤n):cV ls s n=(0,⟨s.vs,s.cs,true⟩):=if_pos (by simpa using h)
theorem NK(h:qH o op kd base t s){a b:Int}{l:List Int}(xo:Int)(ho:xo=32∨xo=33∨xo=34):qH o op kd base (gL m ls res ⟨xo,a,b,l⟩ t) (gE m ls s ⟨xo,a,b,l⟩):=by
 by_cases hl:(ls.length:Int)≤a
 ·have e:=KX (s:=s) hl;refine .inl ⟨?_, ?_⟩
  ·rcases ho with rfl|rfl|rfl<;>
   ·show(if decide ((ls.length:Int)≤a)=true then eG t else _).bad=true;rw[if_pos (by simpa using hl)];rfl
  ·rcases ho with rfl|rfl|rfl
   ·show(fO (cV ls s a).2 _).bad=true;rw[e];rfl
   ·show(cR (cV ls s a).2 _).2.bad=true;rw[e];exact BR _ _ rfl
   ·show(fO (cV ls (cR (cV ls s a).2 (cV ls s a).1).2 a).2 _).bad=true;rw[KX hl];rfl
 ·have e:=fun s:PS=>aAE (s:=s) hl
  rcases ho with rfl|rfl|rfl
  ·show qH _ _ _ _ (if decide ((ls.length:Int)≤a)=true then eG t else gR t [ls.getD a.toNat 0]) (fO (cV ls s a).2 [(cV ls s a).1]);rw[if_neg (by simpa using hl),e];exact jS h fun _=>rfl
  ·show qH _ _ _ _ (if decide ((ls.length:Int)≤a)=true then eG t else aT t [ls.getD a.toNat 0]) (cR (cV ls s a).2 (cV ls s a).1).2;rw[if_neg (by simpa using hl),e];exact fL h fun _=>rfl
  ·show qH _ _ _ _ (if decide ((ls.length:Int)≤a)=true then eG t else gR (aT t [ls.getD a.toNat 0]) [ls.getD a.toNat 0]) (fO (cV ls (cR (cV ls s a).2 (cV ls s a).1).2 a).2 [(cV ls (cR (cV ls s a).2 (cV ls s a).1).2 a).1]);rw[if_neg (by simpa using hl),e,e];exact jS (fL (ks:=[ls.getD a.toNat 0]) (ks':=[ls.getD a.toNat 0]) h fun _=>rfl) fun _=>rfl
theorem SZ(h:qH o op kd base t s){a b:Int}{l:List Int}(xo:Int)(ho:xo=35∨xo=36):qH o op kd base (gL m ls res ⟨xo,a,b,l⟩ t) (gE m ls s ⟨xo,a,b,l⟩):=by
 by_cases hl:(m.gl.length:Int)≤a
 ·have e:eC m s a=(KR,⟨s.vs,s.cs,true⟩):=if_pos (by simpa using hl);refine .inl ⟨?_, ?_⟩
  ·have:∀c,(if(if decide ((m.gl.length:Int)≤a)=true then true else c)=true then eG t else if(xo==35)=true then gR t [(m.gl.getD a.toNat KR).kd]else aT t [(m.gl.getD a.toNat KR).kd]).bad=true:=fun c=>by rw[if_pos (by rw[if_pos (by simpa using hl)])];rfl
   rcases ho with rfl|rfl<;>exact this _
  ·rcases ho with rfl|rfl
   ·show(fO (eC m s a).2 _).bad=true;rw[e];rfl
   ·show(cR (dD (eC m s a).2 _) _).2.bad=true;rw[e];exact BR _ _ (oG _ _ rfl)
 ·have e:eC m s a=(m.gl.getD a.toNat KR,s):=if_neg (by simpa using hl);rcases ho with rfl|rfl
  ·show qH _ _ _ _ (if(if decide ((m.gl.length:Int)≤a)=true then true else false)=true then eG t else gR t [(m.gl.getD a.toNat KR).kd]) (fO (eC m s a).2 [(eC m s a).1.kd]);rw[e,if_neg (by rw[if_neg (by simpa using hl)];simp)];exact jS h fun _=>rfl
  ·show qH _ _ _ _ (if(if decide ((m.gl.length:Int)≤a)=true then true else !(m.gl.getD a.toNat KR).mu)=true then eG t else aT t [(m.gl.getD a.toNat KR).kd]) (cR (dD (eC m s a).2 (eC m s a).1.mu) (eC m s a).1.kd).2;rw[e,if_neg (by simpa using hl:¬decide ((m.gl.length:Int)≤a)=true)];have h1:=rJ h (b:=(m.gl.getD a.toNat KR).mu) fun _=>rfl
   cases hm:(m.gl.getD a.toNat KR).mu with
   |true=>rw[hm]at h1;exact fL h1 fun _=>rfl
   |false=>exact .inl ⟨rfl,by exact BR _ _ (by simp[dD,hm])⟩
theorem aDc{op c:Int}(h:QZ op=true)(hc:QZ c=false):(op==c)=false:=by
 cases he:op==c with
 |false=>rfl
 |true=>rw[eq_of_beq he,hc]at h;cases h
theorem aDd{x:Ins}(h:QZ x.op=true):gE m ls s x=fO (dR (dD s (kN x.op).2.2) (kN x.op).1) [(kN x.op).2.1]:=by
 have hc:=fun c hc=>aDc (c:=c) h hc
 unfold gE cL dW;simp only[hc 0 (by decide),hc 1 (by decide),hc 2 (by decide),hc 3 (by decide),hc 4 (by decide),hc 5 (by decide),hc 11 (by decide),hc 12 (by decide),hc 13 (by decide),hc 14 (by decide),hc 15 (by decide),hc 16 (by decide),hc 17 (by decide),hc 26 (by decide),hc 27 (by decide),hc 32 (by decide),hc 33 (by decide),hc 34 (by decide),hc 35 (by decide),hc 36 (by decide),hc 40 (by decide),hc 41 (by decide),hc 44 (by decide),hc 45 (by decide),hc 54 (by decide),hc 55 (by decide),hc 58 (by decide),hc 63 (by decide),hc 64 (by decide),hc 65 (by decide),hc 66 (by decide),Bool.or_self,Bool.false_eq_true,if_false]
theorem aDe{x:Ins}{t:RT}(h:QZ x.op=true)(h':(oY x.op).2.2.2=true):gL m ls res x t=gR (aT t (List.replicate (oY x.op).1.toNat (oY x.op).2.1)) [(oY x.op).2.2.1]:=by
 have hc:=fun c hc=>aDc (c:=c) h hc
 unfold gL PV;simp only[hc 0 (by decide),hc 1 (by decide),hc 12 (by decide),hc 13 (by decide),hc 14 (by decide),hc 15 (by decide),hc 16 (by decide),hc 17 (by decide),hc 26 (by decide),hc 27 (by decide),h',Bool.or_false,Bool.false_eq_true,if_false,if_true];rfl
theorem KY(s:PS):dD s true=s:=by obtain⟨vs,cs,b⟩:=s;cases b<;>rfl
theorem uA(h:qH o op kd base t s){x:Ins}(al k:Int)(st:Bool):
  qH o op kd base (let t:=if(!m.me.has)=true then eG t else t;let t:=if decide (al<x.a)=true then eG t else t;if st=true then aT t [1,k]else gR (aT t [1]) [k])
   (gD m s x al (if st=true then [1,k]else [1]) (if st=true then []else [k])):=by
 have hn:qH o op kd base (let t:=if(!m.me.has)=true then eG t else t;if decide (al<x.a)=true then eG t else t) (dD s (if m.me.has=true then decide (x.a≤al)else false)):=by
  have h1:=rJ h (b:=if m.me.has=true then decide (x.a≤al)else false) fun _=>rfl
  cases hh:m.me.has with
  |false=>
   refine .inl ⟨?_,by simp[dD]⟩;dsimp only;exact aK (p:=fun r:RT=>r.bad=true) (fun _=>rfl) (fun _=>rfl)
  |true=>
   rw[hh]at h1;by_cases hl:x.a≤al
   ·simpa[hl,show¬al<x.a by omega]using h1
   ·simpa[hl,show al<x.a by omega]using h1
 dsimp only at hn⊢;cases st with
 |true=>
  have:=jS (fL (ks:=[1,k]) hn fun _=>rfl) (ks:=[]) (ks':=[]) fun _=>rfl
  unfold gD;simp only[if_true];have e:∀q:RT,gR q []=q:=fun q=>by unfold gR;rw[List.append_nil]
  rw[e]at this;exact this
 |false=>exact jS (fL (ks:=[1]) hn fun _=>rfl) fun _=>rfl
theorem TA(h:qH o op kd base t s){a:Int}(ha:a=0):qH o op kd base (if(!m.me.has)=true then eG t else t) (dD s (if m.me.has=true then decide (a≤0)else false)):=by
 subst ha;have h1:=rJ h (b:=m.me.has) fun _=>rfl
 cases hh:m.me.has with
 |false=>rw[hh]at h1;exact h1
 |true=>rw[hh]at h1;exact h1
theorem aAF(h:qH o op kd base t s){x:Ins}(hx:dB x=true)(hb:PV x.op=false)(hc:(x.op==16||x.op==17)=false)(hO:qV x.op=false)(h5:x.op≠5)(h11:x.op≠11):qH o op kd base (gL m ls res x t) (gE m ls s x):=by
 rcases aC9 (aDa hx)with hm|hk
 ·obtain⟨xo,a,b,l⟩:=x;dsimp only at hm hb hc hO h5 h11;simp only[List.mem_cons,List.not_mem_nil,or_false]at hm;rcases hm with rfl|rfl|rfl|rfl|rfl|rfl|rfl|rfl|rfl|rfl|rfl|rfl|rfl|rfl|rfl|rfl|rfl|rfl|rfl|rfl|rfl|rfl|rfl|rfl|rfl|rfl|rfl|rfl|rfl|rfl|rfl
  ·cases hb
  ·exact h
  ·exact absurd rfl h5
  ·exact absurd rfl h11
  ·cases hb
  ·exact(FA h (k:=0) fun _=>rfl).1
  ·obtain⟨h1,h2⟩:=FA (fL (ks:=[1]) (ks':=[1]) h fun _=>rfl) (k:=0) (k':=0) fun _=>rfl
   obtain⟨h3,h4⟩:=FA h1 h2;exact jS h3 fun e=>by rw[h4 e];rfl
  ·cases hO
  ·cases hO
  ·cases hO
  ·cases hb
  ·cases hb
  ·cases hc
  ·exact NK h 32 (.inl rfl)
  ·exact NK h 33 (.inr (.inl rfl))
  ·exact NK h 34 (.inr (.inr rfl))
  ·exact SZ h 35 (.inl rfl)
  ·exact SZ h 36 (.inr rfl)
  ·cases hb
  ·cases hc
  ·exact uA h 2 1 false
  ·exact uA h 3 2 false
  ·exact uA h 0 1 false
  ·exact uA h 0 1 false
  ·exact uA h 2 1 true
  ·exact uA h 3 2 true
  ·exact uA h 0 1 true
  ·exact jS (TA h (tD hx (.inr (show aW 63=7 by decide)))) fun _=>rfl
  ·exact jS (fL (ks:=[1]) (TA h (tD hx (.inr (show aW 64=7 by decide)))) fun _=>rfl) fun _=>rfl
  ·exact jS h fun _=>rfl
  ·exact jS h fun _=>rfl
 ·obtain⟨k1,k2,k3,k4⟩:=aI3 hk;rw[aDd hk,aDe hk k4,k1,k2,k3,KY];exact jS (fL h fun _=>rfl) fun _=>rfl
theorem aDf(h:qH o op kd base t s)(hr:res=aY (rkd o kd)){x:Ins}(hx:dB x=true)(hO:qV x.op=false)(h5:x.op≠5)(h11:x.op≠11):qH o op kd base (gL m ls res x t) (gE m ls s x):=by
 cases hb:PV x.op with
 |true=>
  have:=WL (m:=m) (ls:=ls) h hr hx hb;unfold gL;rw[if_pos hb];exact this
 |false=>
  cases hc:(x.op==16||x.op==17)with
  |true=>
   have:=aDb (m:=m) (ls:=ls) h hx hc;unfold gL;rw[if_neg (by simp[hb]),if_pos hc];exact this
  |false=>exact aAF h hx hb hc hO h5 h11
end
end Go.Proofs.YtjpdadobblffmaaGreat
