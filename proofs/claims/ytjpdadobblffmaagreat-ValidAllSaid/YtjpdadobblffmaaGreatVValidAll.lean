/-
  Of any module: may it run, or which part is the first at fault.
-/
import Derived.Test.YtjpdadobblffmaaGreatVA7
import Derived.Test.YtjpdadobblffmaaGreatVWasmRd
namespace Go.Proofs.YtjpdadobblffmaaGreat
open Go.RowKit Go.ChangeShapes Go.WideShapes Go.ChangeAt Go.Deep
set_option linter.unusedSimpArgs false
set_option linter.unusedVariables false
attribute [local irreducible] SW RS RD fH eH
set_option maxHeartbeats 1000000 in
set_option maxRecDepth 100000 in
theorem JB(m:Md)(hr:m.R):SCall Tryz.prog 9 [.agg (aS m)] [] (fun y σ=>y=.bool true∧σ=[]):=by
 have wa:=aJp hr;have za:=aLn (m:=m);have ca:=aCO m hr.a;generalize aFD m=A at*;refine cC 28 [0,1,2,3,4,5,6,9] Tryz.func9 ?_;(refine aI ?_);refine jH ?_;refine iG fun r1 h1=> ?_;intros
 refine lo (bU (E rfl)) rfl ?_;refine kU ?_;(refine aI ?_);refine jH ?_;refine lS Tryz.call27 HO rfl aU bC ?_;refine lo (bU (E rfl)) rfl ?_;refine kU ?_;(refine aI ?_);refine jH ?_;refine lo (aF (E rfl)) rfl ?_;refine lo (eJ (E rfl)) rfl ?_;refine kU ?_;(refine aI ?_);refine jH ?_;refine mP ?_;refine HX [] Tryz.call17 ca ?_;apply HW;rfl;rfl;rfl;rfl;exact jU;refine kU ?_;(refine aI ?_);refine jH ?_;refine mP ?_;refine lS Tryz.call28 (nK A wa za) rfl aU bC ?_;refine lo (aF (E rfl)) rfl ?_;refine lo (gT (E rfl) rfl) rfl ?_;refine lo (gT (E rfl) rfl) rfl ?_;refine lo (bU (E rfl)) rfl ?_;refine lo (bU (E rfl)) rfl ?_;refine kU ?_;(refine aI ?_);refine jH ?_;refine mP ?_;refine lS Tryz.call29 (HN A wa za) rfl aU bC ?_;refine lo (bU (E rfl)) rfl ?_;refine kU ?_;(refine aI ?_);refine jH ?_;refine lo (aF (E rfl)) rfl ?_;refine lo (aF (E rfl)) rfl ?_;refine lo (cI (E rfl) (E rfl)) rfl ?_;rw[show(gY A==gY A)=true by simp];refine lo (aF (E rfl)) rfl ?_;refine nW ?_;refine nW ?_;refine sL ?_;first|refine ln rfl rfl rfl rfl ?_ |(refine gy rfl rfl ?_;refine lo (zV (by first|exact W rfl id|exact E rfl) (by first|exact W rfl id|exact E rfl)) rfl ?_)|refine lg rfl rfl (zV (by first|exact W rfl id|exact E rfl) (by first|exact W rfl id|exact E rfl)) rfl ?_
 refine uX ?_;refine lo (bU (E rfl)) rfl ?_;refine kU ?_;(refine aI ?_);(apply aD;(exact aE))
 ·exact⟨by simp[gC],rfl⟩
 ·exact aA
theorem JC(m:Md)(hr:m.R):SCall Tryz.prog 9 [.agg (aS m)] [] (fun y _=>y=.bool true):=(JB m hr).mono fun _ _ h=>h.1
end Go.Proofs.YtjpdadobblffmaaGreat
