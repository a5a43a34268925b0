/-
  Func answers as the document does, at every place, of every module that may be.
-/
import Derived.Test.YtjpdadobblffmaaGreatCC6
import Derived.Test.YtjpdadobblffmaaGreatCC7
import Derived.Test.YtjpdadobblffmaaGreatQWasmRd
namespace Go.Proofs.YtjpdadobblffmaaGreat
open Go.RowKit Go.ChangeShapes Go.WideShapes Go.ChangeAt Go.Deep
set_option linter.unusedSimpArgs false
set_option linter.unusedVariables false
attribute [local irreducible] SW RS RD fG eH
set_option maxHeartbeats 1000000 in
set_option maxRecDepth 100000 in
theorem LB(m:Md)(hr:m.R):SCall Tryz.prog 4 [.agg (bR m)] [] (fun y σ=>y=.bool true∧σ=[]):=by
 have wa:=aJN hr;have za:=aLJ (m:=m);have ca:=aDq m hr.a;have hF:=fun h:nR (aBj m)=true=>aD1 (VA h).1 wa
 have hE:=fun h:nR (aBj m)=true=>aDV (VA h).1
 generalize aBj m=A at*;have hcl:=za.co.1;refine cF 27 [0,1,2,3,4,7,12,17,26] Tryz.func4 ?_;(refine aJ ?_);refine jQ ?_;refine iQ fun r1 h1=> ?_;intros
 refine lo (bG (E rfl)) rfl ?_;refine iF ?_;(refine aJ ?_);refine jQ ?_;refine oL Tryz.call22 tR rfl aR bB ?_;refine lo (bG (E rfl)) rfl ?_;refine iF ?_;(refine aJ ?_);refine jQ ?_;refine lo (aD (E rfl)) rfl ?_;refine lo (dF (E rfl)) rfl ?_;refine iF ?_;(refine aJ ?_);refine jQ ?_;refine oS ?_;refine MR [] Tryz.call17 ca ?_;apply SO;rfl;rfl;rfl;rfl;exact mU;refine iF ?_;(refine aJ ?_);refine jQ ?_;refine oS ?_;refine oL Tryz.call19 (tM A wa za) rfl aR bB ?_;refine lo (dF (E rfl)) rfl ?_;refine iF ?_;(refine aJ ?_);refine aB rfl (fun g5=> ?_) (fun g5=> ?_)
 ·(refine aJ ?_);refine jQ ?_;refine lo (bG (E rfl)) rfl ?_;refine iF ?_;(refine aJ ?_);(apply aE;(exact aF))
  ·exact⟨rfl,rfl⟩
  ·exact aA
 have hmay:nR A=true:=by simpa using g5
 have wf:=fun k=>kR A (hF hmay).1 k
 have wr:=fun k=>BE A (hF hmay).2 k
 have he:=hE hmay;(refine aJ ?_);refine jQ ?_;refine lo (bG (E rfl)) rfl ?_;refine iF ?_;(refine aJ ?_);refine lp (β:=Nat) (fun j=>⟨[(1,.ptr r1 0),(4,.int .i64 ((j:Int)-1))],[(r1,.box 33 (bR A))]⟩) (fun j=>j≤A.co.length+2) (fun j=>A.co.length+2-j) 0 aL (Nat.zero_le _) ?_;rintro j hj;obtain⟨ty,im,fn,tb,me,gl,ex,el,co,da⟩:=A;(refine aJ ?_);refine jQ ?_;refine lo (aD (E rfl)) rfl ?_;refine wL ?_;refine uN ?_;refine kU ?_;refine lo (lR (E rfl) (E rfl)) rfl ?_;refine iF ?_;(refine aJ ?_);refine aB rfl (fun g8=> ?_) (fun g8=> ?_)
 ·have hlt:(j:Int)-1≤co.length:=by simpa using g8
  (refine aJ ?_);refine fM [(0,true),(1,true),(3,true),(4,true),(2,false),(5,false),(6,true)] ?_;refine DJ ?_;refine fI rfl (aD (E rfl)) rfl ?_;refine DJ ?_;refine fI rfl (aD (E rfl)) rfl ?_;refine zU rfl Tryz.call23 (wf ((j:Int)-1)) rfl aR bB ?_;refine zU rfl Tryz.call24 (wr ((j:Int)-1)) rfl aR bB ?_;refine aMK ?_;refine xA ?_;(refine aJ ?_);refine aB rfl (fun g10=> ?_) (fun g10=> ?_)
  ·(refine aJ ?_);rw[he]at g10;simp at g10
  (refine aJ ?_);refine jQ ?_;refine lo (aD (E rfl)) rfl ?_;refine FH ?_;refine lo (bG (E rfl)) rfl ?_;refine iF ?_;(refine aJ ?_);refine⟨j+1,by show j+1≤co.length+2;omega,by show co.length+2-(j+1)<co.length+2-j;omega, ?_⟩;exact aL
 (refine aJ ?_);refine jQ ?_;refine lo (bG (E rfl)) rfl ?_;refine iF ?_;(refine aJ ?_);(apply aE;(exact aF))
 ·exact⟨rfl,rfl⟩
 ·exact aA
theorem LC(m:Md)(hr:m.R):SCall Tryz.prog 4 [.agg (bR m)] [] (fun y _=>y=.bool true):=(LB m hr).mono fun _ _ h=>h.1
end Go.Proofs.YtjpdadobblffmaaGreat
