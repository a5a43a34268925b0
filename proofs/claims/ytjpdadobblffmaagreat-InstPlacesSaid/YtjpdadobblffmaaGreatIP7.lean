import Derived.Test.YtjpdadobblffmaaGreatIP6
import Derived.Test.YtjpdadobblffmaaGreatIP3
import Derived.MapKept
import Derived.Carry
import Derived.Test.YtjpdadobblffmaaGreatIP4
import Derived.Test.YtjpdadobblffmaaGreatIP2
import Derived.Shelf.Spec.SlicesInsertGrow
set_option linter.unusedSimpArgs false
set_option linter.unusedVariables false
set_option maxRecDepth 100000
set_option maxHeartbeats 4000000
namespace Go.Proofs.YtjpdadobblffmaaGreat
open Go.RowKit Go.ChangeShapes Go.WideShapes Go.ChangeAt Go.Deep
attribute [local irreducible] SW RS RD fF eB
theorem TL(m:Md)(r:Nat):bX Tryz.prog 83 [.ptr r 0] [(r,.box 33 (aZ m))] (fun n=>.int .i64 n) (MN m) (fun _=>True):=by
 refine⟨Tryz.call83,fun n _=> ?_⟩;refine bS 9 [0,1,3] Tryz.func83 ?_;unfold aZ;refine eX ?_;refine yT ?_;refine yU ?_;exact aD aE ⟨by rfl,rfl⟩ aA
theorem FJ(m:Md)(hl:m.im.length≤1000000∧m.fn.length≤1000000)(r:Nat):bX Tryz.prog 84 [.ptr r 0] [(r,.box 33 (aZ m))] (fun n=>.int .i64 n) (QN m) (fun _=>True):=by
 obtain⟨l1,l2⟩:=hl;refine⟨Tryz.call84,fun n _=> ?_⟩;refine bS 13 [0,1,3] Tryz.func84 ?_;unfold aZ;refine eX ?_;refine yT ?_;refine yT ?_;refine NR ?_;refine yU ?_;exact aD aE ⟨by rfl,rfl⟩ aA
theorem aJ7(x:Ex)(r:Nat):bX Tryz.prog 86 [.ptr r 0] [(r,.box 66 (eA x))] (fun y=>.agg (eA y)) (fun y=>QO x.nm y.nm) (fun _=>True):=by
 refine⟨Tryz.call86,fun n _=> ?_⟩;refine bS 9 [0,1,2,3] Tryz.func86 ?_;unfold eA;refine cZ ?_;refine gQ fun r2 h2=> ?_;intros
 refine iJ ?_;refine fO ?_;refine lo (rB (E rfl) (E rfl)) rfl ?_;refine cM ?_;exact aD aE ⟨by rfl,rfl⟩ aA
theorem aJ8(m:Md)(r s:Nat)(hN:Nq r s):bX Tryz.prog 88 [.ptr s 0] [(s,.box 83 [.fn (.func 83) [] [.ptr r 0]]),(r,.box 33 (aZ m))] (fun x=>.agg (eT x)) (fun x=>MN m x.ty) (fun _=>True):=by
 refine⟨Tryz.call88,fun x _=> ?_⟩;obtain⟨a,b,ty⟩:=x;refine bS 8 [0,1,2,3] Tryz.func88 ?_;unfold eT;refine cZ ?_;refine gQ fun r2 h2=> ?_;intros
 refine iX ?_;refine tG ?_;refine fO ?_;refine pP [(r,.box 33 (aZ m))] rfl (TL m r).1 ((TL m r).2 ty True.intro) rfl aC aA ?_;rintro _ σ' ⟨rfl,rfl⟩ h7;refine eY ?_;exact aD aE ⟨by rfl,rfl⟩ aA
theorem aJ9(m:Md)(hl:m.im.length≤1000000∧m.fn.length≤1000000)(r s:Nat)(hN:Nq r s):bX Tryz.prog 92 [.ptr s 0] [(s,.box 83 [.fn (.func 84) [] [.ptr r 0]]),(r,.box 33 (aZ m))] (fun x=>.agg (eQ x)) (fun x=>x.fs.any (QN m)) (fun _=>True):=by
 refine⟨Tryz.call92,fun x _=> ?_⟩;obtain⟨o,fs⟩:=x;refine bS 8 [0,1,2,3] Tryz.func92 ?_;unfold eQ;refine cZ ?_;refine gQ fun r2 h2=> ?_;intros
 refine iJ ?_;refine tG ?_;refine cw [(r,.box 33 (aZ m))] Tryz.call89 (LW (FJ m hl r) fs (fun _ _=>True.intro)) rfl aC aA ?_;rintro _ σ' ⟨rfl,rfl⟩ h7;refine eY ?_;exact aD aE ⟨by rfl,rfl⟩ aA
theorem BV(l:Li):SCall Tryz.prog 90 [.agg (gO l)] [] (fun y σ=>y=.bool (TJ l)∧σ=[]):=by
 obtain⟨h,a,b⟩:=l;have hB:TJ ⟨h,a,b⟩=(if(if h=true then decide (0≤b)else false)=true then decide (b<a)else false):=by rw[jK,jK];rfl
 rw[hB];refine bS 17 [0,1,2] Tryz.func90 ?_;unfold gO;refine cZ ?_;refine gQ fun r1 h1=> ?_;intros
 refine iJ ?_;refine mR ?_;refine NT ?_;refine uF ?_;refine mR ?_;refine oH ?_;refine aAi ?_;refine jM ?_;exact aD aE ⟨by rfl,rfl⟩ aA
theorem kZ(m:Md)(hw:m.WO)(hz:m.Z):SCall Tryz.prog 28 [.agg (aZ m)] [] (fun y σ=>y=.tup [.int .i64 (gB m),.bool (gB m==-1)]∧σ=[]):=by
 have hl:m.im.length≤1000000∧m.fn.length≤1000000:=⟨hz.im,hz.fn⟩
 have hzx:=hz.ex;have hzc:=hz.co.1;have hF:=fun(h:kD m=true) k=>qE m (aB8 (vL h).1 hw).1 k
 refine bS 96 [0,1,2,3,4,5,6,7,8,9,13,14,15,16,36,40,45,50,54,58,60,77,78,79,84,95] Tryz.func28 ?_;refine cZ ?_;refine gQ fun r1 h1=> ?_;intros
 refine qL ?_;refine WX ?_;refine iO fun r4 h4=> ?_;intros
 refine lU ?_;refine cZ ?_;refine WX ?_;refine iO fun r5 h5=> ?_;intros
 refine lU ?_;refine qK ?_;refine tN ?_;refine lp (β:=Nat) (fun j=>⟨[(1,.ptr r1 0),(2,.int .i64 0),(3,.bool false),(4,.ptr r4 0),(5,.ptr r5 0),(6,.bool (twN (QN m) m.ex j)),(13,.ro 2 (m.ex.map eA) .any),(14,.int .i64 m.ex.length),(15,.int .i64 j)],[(r5,.box 83 [.fn (.func 84) [] [.ptr r1 0]]),(r4,.box 83 [.fn (.func 83) [] [.ptr r1 0]]),(r1,.box 33 (aZ m))]⟩) (fun j=>j≤m.ex.length) (fun j=>m.ex.length-j) 0 aJ (Nat.zero_le _) ?_;rintro j hj;refine gA ?_;refine aB rfl (fun g5=> ?_) (fun g5=> ?_)
 ·have hlt:j<m.ex.length:=by simpa using g5
  obtain⟨x,hx⟩:∃x,m.ex[j]? =some x:=⟨_,List.getElem?_eq_getElem hlt⟩
  have hnx:=QQ (nf:=QN m) hx;refine cX ?_;refine yV ?_;refine iO fun r8 h8=> ?_;intros
  refine IV ?_;rcases aLD (twN (QN m) m.ex j) (QN m x.fn)with hT|⟨hT,hB⟩|⟨hT,hB⟩
  ·rw[hT];refine kQ ?_;first|refine ln rfl rfl rfl rfl ?_ |(refine gy rfl rfl ?_;(first|refine lo (aQ (E rfl) rfl bC (fun _=>rfl)) rfl ?_ |refine lo (aQ (E rfl) rfl bC (fun _=>by assumption)) rfl ?_ |refine lo (aR (E rfl) rfl (fun hc=>by first|rfl|exact aH (by assumption)|assumption|exact aH (aX (by omega))) (fun _=>rfl)) rfl ?_))|refine lg rfl rfl (aQ (E rfl) rfl bC (fun _=>rfl)) rfl ?_ |refine lg rfl rfl (aQ (E rfl) rfl bC (fun _=>by assumption)) rfl ?_ |refine lg rfl rfl (aR (E rfl) rfl (fun hc=>by first|rfl|exact aH (by assumption)|assumption|exact aH (aX (by(try simp at hc)<;>omega))) (fun _=>rfl)) rfl ?_
   refine oH ?_;refine ln rfl rfl rfl rfl ?_;refine jE ?_;refine oY ?_;first|refine ln rfl rfl rfl rfl ?_ |(refine gy rfl rfl ?_;(first|refine lo (eS (by first|exact W rfl id|exact E rfl) OB.none (OB.some (by first|exact W rfl id|exact E rfl) (fun _=>by first|rfl|exact(Int.toNat_of_nonneg (by omega)).symm)) (fun _=>by first|(simp only[List.length_map];omega)|omega)) rfl ?_ |refine lo (eH (by first|exact W rfl id|exact E rfl) bC OB.none (OB.some (by first|exact W rfl id|exact E rfl) (fun _=>by first|rfl|exact(Int.toNat_of_nonneg (by omega)).symm)) (fun _=>by first|(simp only[List.length_map];omega)|omega)) rfl ?_))|refine lg rfl rfl (eS (by first|exact W rfl id|exact E rfl) OB.none (OB.some (by first|exact W rfl id|exact E rfl) (fun _=>by first|rfl|exact(Int.toNat_of_nonneg (by omega)).symm)) (fun _=>by first|(simp only[List.length_map];omega)|omega)) rfl ?_ |refine lg rfl rfl (eH (by first|exact W rfl id|exact E rfl) bC OB.none (OB.some (by first|exact W rfl id|exact E rfl) (fun _=>by first|rfl|exact(Int.toNat_of_nonneg (by omega)).symm)) (fun _=>by first|(simp only[List.length_map];omega)|omega)) rfl ?_
   refine aAp ?_;refine jE ?_;refine iX ?_;refine RW ?_;refine⟨j+1,by show j+1≤m.ex.length;omega,by show m.ex.length-(j+1)<m.ex.length-j;omega, ?_⟩;rw[hnx,hT];exact aJ
  ·rw[hT];refine kQ ?_;first|refine ln rfl rfl rfl rfl ?_ |(refine gy rfl rfl ?_;(first|refine lo (aQ (E rfl) rfl bC (fun _=>rfl)) rfl ?_ |refine lo (aQ (E rfl) rfl bC (fun _=>by assumption)) rfl ?_ |refine lo (aR (E rfl) rfl (fun hc=>by first|rfl|exact aH (by assumption)|assumption|exact aH (aX (by omega))) (fun _=>rfl)) rfl ?_))|refine lg rfl rfl (aQ (E rfl) rfl bC (fun _=>rfl)) rfl ?_ |refine lg rfl rfl (aQ (E rfl) rfl bC (fun _=>by assumption)) rfl ?_ |refine lg rfl rfl (aR (E rfl) rfl (fun hc=>by first|rfl|exact aH (by assumption)|assumption|exact aH (aX (by(try simp at hc)<;>omega))) (fun _=>rfl)) rfl ?_
   refine oH ?_;refine gy rfl rfl ?_;refine pP [(r1,.box 33 (aZ m))] rfl (FJ m hl r1).1 ((FJ m hl r1).2 x.fn True.intro) rfl aC aA ?_;rintro _ σ' ⟨rfl,rfl⟩ h25;apply aU;exact bD;rw[hB];refine jE ?_;refine oY ?_;first|refine ln rfl rfl rfl rfl ?_ |(refine gy rfl rfl ?_;(first|refine lo (eS (by first|exact W rfl id|exact E rfl) OB.none (OB.some (by first|exact W rfl id|exact E rfl) (fun _=>by first|rfl|exact(Int.toNat_of_nonneg (by omega)).symm)) (fun _=>by first|(simp only[List.length_map];omega)|omega)) rfl ?_ |refine lo (eH (by first|exact W rfl id|exact E rfl) bC OB.none (OB.some (by first|exact W rfl id|exact E rfl) (fun _=>by first|rfl|exact(Int.toNat_of_nonneg (by omega)).symm)) (fun _=>by first|(simp only[List.length_map];omega)|omega)) rfl ?_))|refine lg rfl rfl (eS (by first|exact W rfl id|exact E rfl) OB.none (OB.some (by first|exact W rfl id|exact E rfl) (fun _=>by first|rfl|exact(Int.toNat_of_nonneg (by omega)).symm)) (fun _=>by first|(simp only[List.length_map];omega)|omega)) rfl ?_ |refine lg rfl rfl (eH (by first|exact W rfl id|exact E rfl) bC OB.none (OB.some (by first|exact W rfl id|exact E rfl) (fun _=>by first|rfl|exact(Int.toNat_of_nonneg (by omega)).symm)) (fun _=>by first|(simp only[List.length_map];omega)|omega)) rfl ?_
   refine aAp ?_;refine jE ?_;refine iX ?_;refine RW ?_;refine⟨j+1,by show j+1≤m.ex.length;omega,by show m.ex.length-(j+1)<m.ex.length-j;omega, ?_⟩;rw[hnx,hT,hB];exact aJ
  ·rw[hT];refine kQ ?_;first|refine ln rfl rfl rfl rfl ?_ |(refine gy rfl rfl ?_;(first|refine lo (aQ (E rfl) rfl bC (fun _=>rfl)) rfl ?_ |refine lo (aQ (E rfl) rfl bC (fun _=>by assumption)) rfl ?_ |refine lo (aR (E rfl) rfl (fun hc=>by first|rfl|exact aH (by assumption)|assumption|exact aH (aX (by omega))) (fun _=>rfl)) rfl ?_))|refine lg rfl rfl (aQ (E rfl) rfl bC (fun _=>rfl)) rfl ?_ |refine lg rfl rfl (aQ (E rfl) rfl bC (fun _=>by assumption)) rfl ?_ |refine lg rfl rfl (aR (E rfl) rfl (fun hc=>by first|rfl|exact aH (by assumption)|assumption|exact aH (aX (by(try simp at hc)<;>omega))) (fun _=>rfl)) rfl ?_
   refine oH ?_;refine gy rfl rfl ?_;refine pP [(r1,.box 33 (aZ m))] rfl (FJ m hl r1).1 ((FJ m hl r1).2 x.fn True.intro) rfl aC aA ?_;rintro _ σ' ⟨rfl,rfl⟩ h25;apply aU;exact bD;rw[hB];refine jE ?_;refine oY ?_;first|refine ln rfl rfl rfl rfl ?_ |(refine gy rfl rfl ?_;(first|refine lo (eS (by first|exact W rfl id|exact E rfl) OB.none (OB.some (by first|exact W rfl id|exact E rfl) (fun _=>by first|rfl|exact(Int.toNat_of_nonneg (by omega)).symm)) (fun _=>by first|(simp only[List.length_map];omega)|omega)) rfl ?_ |refine lo (eH (by first|exact W rfl id|exact E rfl) bC OB.none (OB.some (by first|exact W rfl id|exact E rfl) (fun _=>by first|rfl|exact(Int.toNat_of_nonneg (by omega)).symm)) (fun _=>by first|(simp only[List.length_map];omega)|omega)) rfl ?_))|refine lg rfl rfl (eS (by first|exact W rfl id|exact E rfl) OB.none (OB.some (by first|exact W rfl id|exact E rfl) (fun _=>by first|rfl|exact(Int.toNat_of_nonneg (by omega)).symm)) (fun _=>by first|(simp only[List.length_map];omega)|omega)) rfl ?_ |refine lg rfl rfl (eH (by first|exact W rfl id|exact E rfl) bC OB.none (OB.some (by first|exact W rfl id|exact E rfl) (fun _=>by first|rfl|exact(Int.toNat_of_nonneg (by omega)).symm)) (fun _=>by first|(simp only[List.length_map];omega)|omega)) rfl ?_
   rw[show List.take (j-0) (List.drop 0 (m.ex.map eA))=(m.ex.take j).map eA by simp[List.map_take]];refine aFc ?_;refine yJ [(r8,.box 66 (eA x))] Tryz.call85 (aBb (aJ7 x r8) (m.ex.take j) (fun _ _=>True.intro)) ?_;refine jE ?_;refine iX ?_;refine RW ?_;refine⟨j+1,by show j+1≤m.ex.length;omega,by show m.ex.length-(j+1)<m.ex.length-j;omega, ?_⟩;rw[hnx,hT,hB,Bool.false_or,Bool.false_or];exact aJ
 obtain rfl:j=m.ex.length:=by simp at g5;omega
 refine nH ?_;refine lB Tryz.call51 (zR m hw) rfl aP aS ?_;refine lo (eI (E rfl)) rfl ?_;refine cM ?_;refine aB rfl (fun g9=> ?_) (fun g9=> ?_)
 ·refine aI ?_;have hE:gB m=0:=by unfold gB;rw[if_pos (by simpa using g9)]
  refine oZ ?_;exact aD aE ⟨by rw[hE];rfl,rfl⟩ aA
 refine aI ?_;have h0:¬kD m=false:=by simpa using g9
 refine mJ ?_;refine fO ?_;refine WX ?_;refine cw [(r4,.box 83 [.fn (.func 83) [] [.ptr r1 0]]),(r1,.box 33 (aZ m))] Tryz.call87 (aBa (aJ8 m r1 r4 h4) m.im (fun _ _=>True.intro)) rfl aC aA ?_;rintro _ σ' ⟨rfl,rfl⟩ h44;refine eY ?_;refine aB rfl (fun g11=> ?_) (fun g11=> ?_)
 ·refine aI ?_;have hE:gB m=2:=by unfold gB;rw[if_neg h0,if_pos g11]
  refine oZ ?_;exact aD aE ⟨by rw[hE];rfl,rfl⟩ aA
 refine fT ?_;refine tG ?_;refine cw [(r1,.box 33 (aZ m))] Tryz.call89 (LW (TL m r1) m.fn (fun _ _=>True.intro)) rfl aC aA ?_;rintro _ σ' ⟨rfl,rfl⟩ h49;refine eY ?_;refine aB rfl (fun g13=> ?_) (fun g13=> ?_)
 ·refine aI ?_;have hE:gB m=3:=by unfold gB;rw[if_neg h0,if_neg (by simp[g11]),if_pos g13]
  refine oZ ?_;exact aD aE ⟨by rw[hE];rfl,rfl⟩ aA
 refine cZ ?_;refine yK ?_;refine kP ?_;refine lB Tryz.call90 (BV m.tb) rfl aP aS ?_;refine cM ?_;refine aB rfl (fun g15=> ?_) (fun g15=> ?_)
 ·refine aI ?_;have hE:gB m=4:=by unfold gB;rw[if_neg h0,if_neg (by simp[g11]),if_neg (by simp[g13]),if_pos g15]
  refine oZ ?_;exact aD aE ⟨by rw[hE];rfl,rfl⟩ aA
 refine cZ ?_;refine yK ?_;refine kP ?_;refine lB Tryz.call90 (BV m.me) rfl aP aS ?_;refine cM ?_;refine aB rfl (fun g17=> ?_) (fun g17=> ?_)
 ·refine aI ?_;have hE:gB m=5:=by unfold gB;rw[if_neg h0,if_neg (by simp[g11]),if_neg (by simp[g13]),if_neg (by simp[g15]),if_pos g17]
  refine oZ ?_;exact aD aE ⟨by rw[hE];rfl,rfl⟩ aA
 refine eW ?_;refine aB rfl (fun g19=> ?_) (fun g19=> ?_)
 ·refine aI ?_;have hE:gB m=7:=by unfold gB;rw[if_neg h0,if_neg (by simp[g11]),if_neg (by simp[g13]),if_neg (by simp[g15]),if_neg (by simp[g17]),if_pos g19]
  refine oZ ?_;exact aD aE ⟨by rw[hE];rfl,rfl⟩ aA
 refine fT ?_;refine xT ?_;refine wP ?_;refine AK ?_;refine WZ ?_;apply fR rfl;exact cO
 ·intro _;(refine aI ?_);refine mJ ?_;refine fO ?_;refine WX ?_;refine cw [(r5,.box 83 [.fn (.func 84) [] [.ptr r1 0]]),(r1,.box 33 (aZ m))] Tryz.call91 (aBc (aJ9 m hl r1 r5 h5) m.el (fun _ _=>True.intro)) rfl aC aA ?_;rintro _ σ' ⟨rfl,rfl⟩ h74;refine eY ?_;exact aJ
 refine aI ?_;refine aB rfl (fun g21=> ?_) (fun g21=> ?_)
 ·refine aI ?_;have h9:m.el.any (BB m)=true:=by rw[←aCa];exact g21
  have hE:gB m=9:=by unfold gB;rw[if_neg h0,if_neg (by simp[g11]),if_neg (by simp[g13]),if_neg (by simp[g15]),if_neg (by simp[g17]),if_neg (by simp[g19]),if_pos h9]
  refine oZ ?_;exact aD aE ⟨by rw[hE];rfl,rfl⟩ aA
 refine aI ?_;have h9:m.el.any (BB m)=false:=by rw[←aCa];exact g21
 have hV:gB m=if oW m m.co.length=false then 10 else if(!m.da.isEmpty&& !m.me.has)=true then 11 else-1:=by unfold gB;rw[if_neg h0,if_neg (by simp[g11]),if_neg (by simp[g13]),if_neg (by simp[g15]),if_neg (by simp[g17]),if_neg (by simp[g19]),if_neg (by simp[h9])]
 refine mJ ?_;refine tN ?_;refine lp (β:=Nat) (fun j=>⟨[(1,.ptr r1 0),(2,.int .i64 0),(3,.bool false),(77,.int .i64 m.co.length),(78,.int .i64 j)],[(r1,.box 33 (aZ m))]⟩) (fun j=>j≤m.co.length∧oW m j=true) (fun j=>m.co.length-j) 0 aJ ⟨Nat.zero_le _,rfl⟩ ?_;rintro j ⟨hj,hc⟩;refine gA ?_;refine aB rfl (fun g25=> ?_) (fun g25=> ?_)
 ·have hlt:j<m.co.length:=by simpa using g25
  refine cX ?_;refine iX ?_;refine kP ?_;refine lo (aF (E rfl)) rfl ?_;refine lB Tryz.call23 (hF (by simpa using h0) j) rfl aP aS ?_;refine nQ ?_;refine aB rfl (fun g27=> ?_) (fun g27=> ?_)
  ·refine aI ?_;have hE:gB m=10:=by rw[hV,if_pos (AA hlt (by simpa using g27))]
   refine oZ ?_;exact aD aE ⟨by rw[hE];rfl,rfl⟩ aA
  refine jH ?_;refine⟨j+1,⟨by omega,by unfold oW;rw[hc];simpa using g27⟩,by show m.co.length-(j+1)<m.co.length-j;omega, ?_⟩;exact aJ
 obtain rfl:j=m.co.length:=by simp at g25;omega
 refine fT ?_;refine xT ?_;refine wP ?_;refine AK ?_;refine aAq ?_;refine aB rfl (fun g30=> ?_) (fun g30=> ?_)
 ·refine aI ?_;have hE:gB m=11:=by rw[hV,if_neg (by simp[hc]),if_pos (by rw[←MO];exact g30)]
  refine oZ ?_;exact aD aE ⟨by rw[hE];rfl,rfl⟩ aA
 refine aI ?_;have hE:gB m=-1:=by rw[hV,if_neg (by simp[hc]),if_neg (by rw[←MO,g30];simp)]
 refine oZ ?_;exact aD aE ⟨by rw[hE];rfl,rfl⟩ aA
end Go.Proofs.YtjpdadobblffmaaGreat
namespace Go.Proofs.YtjpdadobblffmaaGreat
open Go.RowKit Go.ChangeShapes Go.WideShapes Go.ChangeAt Go.Deep Go.MapKept
section
variable {P : Program} {n : Nat} {s : ASt} {K : ASt → Prop} {ty t kt et : TypeId} {d : Nat} {x y z : Operand}
theorem BW(hd:d<n)(hK:∀r,Fresh r s.σ→K ⟨(d,.mp r)::s.fr,(r,.map [] [])::s.σ⟩):Hop P n (.makeMap t none) ty (some d) s [] K:=by
 intro M F N a w o ho _ hdst hr next Q hnext
 have hrun:(execOp a.eval o).run P w=.ok (.value (.map (some w.heap.size))) (w.alloc (.map #[] 0)):=by
  have:=run_makeMap (P:=P) t w;simp[execOp,ho,this]
 unfold Oper.wp;rw[hrun,Oper.upon_value,hdst];have hE:ER (fN M N (.row w.heap.size 0 0)) F (w.alloc (.map #[] 0)) N (.map [] []):=
  ⟨w.heap.size,#[],0,bW _,heap_alloc_new w _,rfl,rfl,fun i k e hi=>by simp at hi,fun i x e hi=>by simp at hi⟩
 obtain⟨r1,e1,n1⟩:=hr.new_ (w':=w.alloc (.map #[] 0)) (.row w.heap.size 0 0) (.map [] []) (fun k hk=>Below.heap_alloc _ _ _ hk) ⟨rfl,rfl,rfl⟩ (by simp)
  (fun g hg=>by simp only[bO,bW,Option.some.injEq]at hg;omega) hE
 exact hnext _ F (N+1) _ _ ⟨(d,.mp N)::s.fr,(N,.map [] [])::s.σ⟩ (r1.put hd (.mp (bW _))) e1 ⟨rfl,rfl,rfl,by simp,fun k hk _=>Below.heap_alloc _ _ _ hk⟩ (hK N n1)
variable {c : Bool}
end
end Go.Proofs.YtjpdadobblffmaaGreat
namespace Go.Proofs.YtjpdadobblffmaaGreat
open Go.RowKit Go.ChangeShapes Go.WideShapes Go.ChangeAt Go.Deep
attribute [local irreducible] SW RS RD fF eB
theorem BX(m:Md)(wa:m.WO)(hm:kD m=true):SCall Tryz.prog 95 [.agg (aZ m)] [] (fun y σ=>y=.agg (aZ m)∧σ=[]):=by
 obtain⟨ty,im,fn,tb,me,gl,ex,el,co,da⟩:=m;have hen:mW ⟨ty,im,fn,tb,me,gl,ex,el,co,da⟩=eL ⟨ty,im,fn,tb,me,gl,ex,el,co,da⟩:=if_pos hm;have hdec:wV (mW ⟨ty,im,fn,tb,me,gl,ex,el,co,da⟩)=(⟨ty,im,fn,tb,me,gl,ex,el,co,da⟩,0):=by rw[hen];exact PK hm wa.ok
 have hw8:=(vL hm).2;have wd:=vO (mW ⟨ty,im,fn,tb,me,gl,ex,el,co,da⟩) (by rw[hen];omega) (MB wa);rw[hdec]at wd;refine bS 12 [0,1,2,3] Tryz.func95 ?_;refine cZ ?_;refine gQ fun r1 h1=> ?_;intros
 refine iO fun r2 h2=> ?_;intros
 refine pO ?_;refine nH ?_;refine qN Tryz.call18 (qQ ⟨ty,im,fn,tb,me,gl,ex,el,co,da⟩ wa) rfl bM kA ?_;rintro _ σ' ⟨q7,rfl,rfl⟩ h7
 replace h7:=cB h7;repeat rcases h7 with⟨_,h7⟩
 apply aU;exact bD;refine iW (j:=7) rfl bK (aN bC (by simp)) ?_;refine cw [] Tryz.call20 wd rfl aC aA ?_;rintro _ σ' ⟨rfl,rfl⟩ h8;refine nE ?_;refine iO fun r3 h3=> ?_;intros
 apply MZ;rfl;rfl;rfl;rfl;exact mP;refine iX ?_;refine kP ?_;refine gT ?_;exact aD aE ⟨by rfl,rfl⟩ aA
end Go.Proofs.YtjpdadobblffmaaGreat
namespace Go.Proofs.YtjpdadobblffmaaGreat
open Go.RowKit Go.ChangeShapes Go.WideShapes Go.ChangeAt Go.Deep
theorem HW{es:List (List AV)}(hn:es.length≤1000000):SCall Tryz.prog 105 [.ro 1 es .any] [] (fun x σ=>∃r,x=.own r 0 es.length∧σ=[(r,.arr 3 1 es)]):=by
 refine bS 8 [0,2,4] Tryz.func105 ?_;refine eX ?_;refine ne rfl rfl rfl fun b hb _=> ?_
 refine pO ?_;cases b
 ·refine cZ ?_;refine eC fun r5 h5=> ?_;intros
  refine lo (aF (E rfl)) rfl ?_;apply ap;rfl;rfl;exact bC;rfl;exact .inl ⟨_,rfl⟩;exact List.nil_append _;exact(Nat.zero_add _).symm;(simp[maxLen];omega);omega;rfl;refine bE fun r7 h7=> ?_;intros
  refine cM ?_;exact aD aE ⟨_,by rfl,rfl⟩ aA
 ·obtain rfl:=hb rfl;refine rH ?_;refine bP (ks:=[0,2,4]) 2 3 1 (by decide) rfl (by decide) fun r hr=> ?_
  refine aI ?_;exact aD aE ⟨_,by rfl,rfl⟩ aA
theorem HX{es:List (List AV)}(hn:es.length≤1000000):SCall Tryz.prog 211 [.ro 2 es .any] [] (fun x σ=>∃r,x=.own r 0 es.length∧σ=[(r,.arr 71 2 es)]):=by
 refine bS 8 [0,2,4] Tryz.func211 ?_;refine eX ?_;refine ne rfl rfl rfl fun b hb _=> ?_
 refine pO ?_;cases b
 ·refine cZ ?_;refine eC fun r5 h5=> ?_;intros
  refine lo (aF (E rfl)) rfl ?_;apply ap;rfl;rfl;exact bC;rfl;exact .inl ⟨_,rfl⟩;exact List.nil_append _;exact(Nat.zero_add _).symm;(simp[maxLen];omega);omega;rfl;refine bE fun r7 h7=> ?_;intros
  refine cM ?_;exact aD aE ⟨_,by rfl,rfl⟩ aA
 ·obtain rfl:=hb rfl;refine rH ?_;refine bP (ks:=[0,2,4]) 2 71 2 (by decide) rfl (by decide) fun r hr=> ?_
  refine aI ?_;exact aD aE ⟨_,by rfl,rfl⟩ aA
end Go.Proofs.YtjpdadobblffmaaGreat
namespace Go.Proofs.YtjpdadobblffmaaGreat
open Go.RowKit Go.ChangeShapes Go.WideShapes Go.ChangeAt Go.Deep
attribute [local irreducible] SW RS RD fF eB
def QU (x:Gl):List AV:=[.int .i64 x.kd,.int .i64 x.n]
theorem TM{α β:Type}{f:α→β}{l:List α}{k:Nat}{x:α}(h:l[k]? =some x):(l.take (k+1)).map f=(l.take k).map f++ [f x]:=by
 rw[List.take_add_one,h];simp
theorem aEQ{n:Nat}{m:Int}:∀e∈List.replicate n [AV.int .i64 m],∀x∈e,NoF x:=by
 intro e he x hx;obtain rfl:=List.eq_of_mem_replicate he;obtain rfl:=List.mem_singleton.1 hx;exact .int
def CL (m:Md):Nat:=if m.tb.has then m.tb.mn.toNat else 0
theorem FK(m:Md)(ht:m.tb.has=true→0≤m.tb.mn∧m.tb.mn≤1000)(hgs:m.gl.length≤1000):SCall Tryz.prog 97
  [.agg (aZ m)] []
  (fun x σ=>∃s t g,(Nq t s∧Nq g s∧Nq g t)∧x=.ptr s 0∧σ=[(s,.box 165 [.own t 0 (CL m),.own g 0 m.gl.length]),(t,.arr 3 1 (List.replicate (CL m) [.int .i64 (-1)])),(g,.arr 71 2 (m.gl.map QU))]):=by
 obtain⟨ty,im,fn,⟨has,mn,mx⟩,me,gl,ex,el,co,da⟩:=m;unfold CL aZ;dsimp only at ht hgs⊢;refine bS 40 [0,1,2,3,5,10,21,22,23,24] Tryz.func97 ?_;refine cs ?_;refine mJ ?_;refine gQ fun r1 h1=> ?_;intros
 refine uT ?_;refine mJ ?_;refine lE ?_;refine gQ fun r7 h7=> ?_;intros
 refine sq0 ?_;refine sj (β:=Nat) (fun t=>⟨[(1,.ptr r1 0),(3,.ptr r7 0)],[(t,.arr 3 1 (List.replicate (if has then mn.toNat else 0) [.int .i64 (-1)])),(r7,.box 165 [.own t 0 (if has then mn.toNat else 0),.ro 0 [] .nil]),(r1,.box 33 [.ro 2 (ty.map dF) .any,.ro 3 (im.map eT) .any,.ro 1 (fn.map aK) .any,.bool has,.int .i64 mn,.int .i64 mx,.bool me.has,.int .i64 me.mn,.int .i64 me.mx,.ro 3 (gl.map eU) .any,.ro 2 (ex.map eA) .any,.ro 2 (el.map eQ) .any,.ro 2 (co.map dJ) .any,.ro 2 (da.map eO) .any])]⟩) (fun t=>Nq t r7∧Nq t r1) ?_ ?_
 ·cases has
  ·refine cZ ?_;refine qA ?_;refine pO ?_;refine an ?_;refine cH (ks:=[0,1,2,3,5,10,21,22,23,24]) r7 0 3 1 (by decide) bC rfl (by decide) fun q hq=> ?_
   simp only[aO,aT,and_true]at hq;repeat rcases hq with⟨_,hq⟩
   apply Exists.intro;apply And.intro;exact cE;refine aI ?_;refine⟨q,⟨by(exact cA),by(exact cA)⟩, ?_⟩;exact aJ
  ·have hm:=ht rfl;refine cZ ?_;refine qA ?_;refine oR ?_;refine eC fun r12 h12=> ?_;intros
   refine qA ?_;refine lo (CQ (E rfl) (E rfl)) rfl ?_;refine cl [r12] Tryz.call207 (vM (v:=.int .i64 (-1)) rfl mn.toNat (by omega)) rfl ?_ ?_ ?_
   ·have e1:(if(0:Int)<mn then mn else 0)=(mn.toNat:Int):=by split<;>omega
    rw[e1];apply ArgsBor.cons;rfl
    ·apply NN
     ·exact List.mem_cons_self
     ·exact bC
     ·simp
     ·rfl
    exact bM
   ·rintro x σ' ⟨r,rfl,rfl⟩;refine⟨NoF.own, ?_⟩;simp only[List.mem_singleton,forall_eq];exact aEQ
   rintro x σ' ⟨r17,rfl,rfl⟩ h17
   replace h17:=cB h17;repeat rcases h17 with⟨_,h17⟩
   simp only[List.cons_append,List.nil_append];refine lK ?_;refine⟨r17,⟨by(exact cA),by(exact cA)⟩, ?_⟩;exact aJ
 rintro t ⟨ht1,ht2⟩;generalize(if has=true then mn.toNat else 0)=nn;refine cH (ks:=[0,1,2,3,5,10,21,22,23,24]) r7 1 71 2 (by decide) bC rfl (by decide) fun q hq=> ?_
 simp only[aO,aT,and_true]at hq;repeat rcases hq with⟨_,hq⟩
 apply Exists.intro;apply And.intro;exact cE;refine fT ?_;refine nR ?_;refine lp (β:=Nat×Nat) (fun b=>⟨[(3,.ptr r7 0),(21,.ro 3 (gl.map eU) .any),(22,.int .i64 gl.length),(23,.int .i64 b.2)],[(b.1,.arr 71 2 ((gl.take b.2).map QU)),(t,.arr 3 1 (List.replicate nn [.int .i64 (-1)])),(r7,.box 165 [.own t 0 nn,.own b.1 0 b.2])]⟩) (fun b=>(Nq t b.1∧Nq r7 b.1)∧b.2≤gl.length) (fun b=>gl.length-b.2) (q,0) ?_ ⟨⟨by show Nq t q;(exact cA),by show Nq r7 q;(exact cA)⟩,Nat.zero_le _⟩ ?_
 ·exact aJ
 rintro⟨g,k⟩ ⟨⟨hg1,hg2⟩,hk⟩;simp only at hg1 hg2 hk⊢;refine gA ?_;refine aB rfl (fun h1=> ?_) (fun h1=> ?_)
 ·have hlt:k<gl.length:=by simp at h1;omega
  obtain⟨x,hx⟩:∃x,gl[k]? =some x:=⟨_,List.getElem?_eq_getElem hlt⟩
  refine pB ?_;refine iO fun r5 h5=> ?_;intros
  refine gT ?_;refine fJ [(0,true),(1,true),(2,true),(3,true),(4,true),(5,true),(6,true),(7,false),(8,false),(9,true),(10,true),(11,false)] ?_;refine CF ?_;refine RJ ?_;refine IQ ?_;refine HL fun r34 h34=> ?_;intros
  apply dap (es':=(gl.take (k+1)).map QU) (len':=k+1);rfl;infer_instance;infer_instance;rfl;rfl;exact bC
  ·simp;omega
  ·exact .inr (.inr ⟨_,_,_,_,_,rfl,bC,by simp,rfl⟩)
  ·rw[TM hx];simp[QU]
  ·simp
  ·simp[maxLen];omega
  ·omega
  ·rfl
  ·exact eM
  refine bE fun r35 h35=> ?_;intros
  refine rI ?_;refine CC ?_;refine jH ?_;refine⟨(r35,k+1),⟨⟨?_, ?_⟩,hlt⟩,by show gl.length-(k+1)<gl.length-k;omega, ?_⟩
  ·show Nq t r35;exact cA
  ·show Nq r7 r35;exact cA
  exact aJ
 ·obtain rfl:k=gl.length:=by simp at h1;omega
  refine eW ?_;apply aD;exact aE
  ·exact⟨r7,t,g,⟨by(exact cA),by(exact cA),by(exact cA)⟩,rfl,rfl⟩
  ·rw[List.take_length];exact aA
def fL (v:Int×Int):List AV:=[.int .i64 v.1,.int .i64 v.2]
instance : NoE fL := ⟨fun a x hx => by simp [fL] at hx; rcases hx with rfl | rfl <;> exact NoF.int⟩
def BC (tb:List Int) (off:Int) (n:Nat):Bool:=decide (0≤off)&&decide (off+n≤tb.length)
def CM (tb:List Int) (off:Int) (fs:List Int):List Int:=if BC tb off fs.length then tb.take off.toNat++fs++tb.drop (off.toNat+fs.length)else tb
theorem AB(tb:List Int)(off:Int)(fs:List Int):(CM tb off fs).length=tb.length:=by
 unfold CM;split
 ·next h=>
  simp[BC]at h;simp;omega
 ·rfl
section
variable {s t g : Nat}
theorem FL(h1:Nq t s)(h2:Nq g s)(h3:Nq g t)(tb:List Int)(gv:List (Int×Int))(htb:tb.length≤1000)(off:Int)(fs:List Int)(hfs:fs.length≤1000):SCall Tryz.prog 41 [.ptr s 0,.int .i64 off,.ro 1 (fs.map aK) .any] [(s,.box 165 [.own t 0 tb.length,.own g 0 gv.length]),(t,.arr 3 1 (tb.map aK)),(g,.arr 71 2 (gv.map fL))]
  (fun x σ=>x=.bool (BC tb off fs.length)∧σ=[(s,.box 165 [.own t 0 (CM tb off fs).length,.own g 0 gv.length]),(t,.arr 3 1 ((CM tb off fs).map aK)),(g,.arr 71 2 (gv.map fL))]):=by
 refine bS 33 [0,1,2,6,24] Tryz.func41 ?_;refine bF ?_;refine KS ?_;refine xS ?_;refine z69 ?_;refine RQ ?_;refine xS ?_;refine z4 ?_;refine z91 ?_;refine z92 ?_;refine z62 ?_;refine z63 ?_;refine z4 ?_;refine z63 ?_;first|refine ln rfl rfl rfl rfl ?_ |refine lg rfl rfl (mC (W rfl id) (W rfl id) (by omega) (by omega)) rfl ?_ |refine lg rfl rfl (xP (W rfl id) (W rfl id) (fun hc=>by simp at hc<;>first|omega|(have hov:=hov hc;omega))) rfl ?_ |refine lg rfl rfl (sF (W rfl id) (W rfl id)) rfl ?_
 refine z81 ?_;refine RQ ?_;refine iI ?_;refine aB rfl (fun h=> ?_) (fun h=> ?_)
 ·refine bF ?_;apply aD;exact aE
  ·have:BC tb off fs.length=false:=by
    simp at h;simp[BC];omega
   refine⟨by simp[fG,this,cV], ?_⟩;simp only[CM,this,Bool.false_eq_true,if_false];rfl
  ·exact aA
 ·simp at h;refine cX ?_;refine DU ?_;refine aCU ?_;refine lo (aF (E rfl)) rfl ?_;have hb:BC tb off fs.length=true:=by
   simp[BC];omega
  apply cp (m:=fs.length) (es':=(CM tb off fs).map aK);rfl;exact cE
  ·simp;omega
  ·exact .inl ⟨_,rfl⟩
  ·simp;omega
  ·simp[CM,hb,List.map_take,List.map_drop,kS]
  ·rfl
  refine pO ?_;refine bF ?_;apply aD;exact aE
  ·refine⟨by simp[fG,hb,cV], ?_⟩;rw[AB]
  ·exact aA
end
end Go.Proofs.YtjpdadobblffmaaGreat
namespace Go.Proofs.YtjpdadobblffmaaGreat
open Go.RowKit Go.ChangeShapes Go.WideShapes Go.ChangeAt Go.Deep
def rhoI:Go.Shelf.Ren:=⟨fun n=>if n=21 then 209 else if n=27 then 281 else if n=28 then 282 else if n=35 then 308 else if n=39 then 319 else n,
 fun t=>if t=22 then 24 else if t=3 then 3 else if t=4 then 4 else if t=0 then 0 else t,fun g=>g⟩
theorem AC:Lays2.n21 Tryz.prog rhoI where
 mixed:=mixed
 f21:=(Tryz.func209).trans (by kernel_rfl)
 f27:=(Tryz.func281).trans (by kernel_rfl)
 f28:=(Tryz.func282).trans (by kernel_rfl)
 f35:=(Tryz.func308).trans (by kernel_rfl)
 f39:=(Tryz.func319).trans (by kernel_rfl)
 t0:=Tryz.underlying0
 a0:=Tryz.isAgg0
 z0:=Tryz.sizeOf0
 v0:=Tryz.zeroValue0
 t3:=Tryz.underlying3
 a3:=Tryz.isAgg3
 z3:=Tryz.sizeOf3
 v3:=Tryz.zeroValue3
 t4:=Tryz.underlying4
 a4:=Tryz.isAgg4
 z4:=Tryz.sizeOf4
 v4:=Tryz.zeroValue4
 t22:=Tryz.underlying24
 a22:=Tryz.isAgg24
 z22:=Tryz.sizeOf24
 v22:=Tryz.zeroValue24
 i3:=by kernel_rfl
section
variable {g : Nat} {e : TypeId}
theorem TN{w:World}{cur:Array Value}{o:Nat}{v:Value}(h:Cl w g e cur):Cl (w.setCell ⟨g,o,none⟩ v) g e (cur.setIfInBounds o v):=by
 have hlt:=h.lt;obtain⟨fz,h,hz⟩:=h;refine⟨fz, ?_,by simpa using hz⟩;simp only[World.setCell];rw[Array.getElem?_modify,if_pos rfl,h];rfl
theorem mI:∀(vs:List Value) (o:Nat) (w:World) (cur:Array Value),Cl w g e cur→∃cur',Cl (w.setCells g o vs) g e cur'∧cur'.size=cur.size∧∀j,j<cur.size→cur'[j]? =if o≤j∧j<o+vs.length then vs[j-o]? else cur[j]?
 |[],o,w,cur,h=>⟨cur,h,rfl,fun j _=>by rw[if_neg (by simp only[List.length_nil];omega)]⟩
 |v::r,o,w,cur,h=>by
  obtain⟨c2,h1,h2,h3⟩:=mI r (o+1) _ _ (TN (o:=o) (v:=v) h);simp only[Array.size_setIfInBounds]at h2 h3;refine⟨c2,h1,h2,fun j hj=> ?_⟩;rw[h3 j hj];by_cases hjo:j=o
  ·subst hjo;rw[if_neg (by omega),if_pos (by simp)];simp[hj]
  ·rw[Array.getElem?_setIfInBounds_ne (fun e=>hjo e.symm)];by_cases hin:o+1≤j∧j<o+1+r.length
   ·rw[if_pos hin,if_pos (by simp;omega),show j-o=(j-(o+1))+1 by omega,List.getElem?_cons_succ]
   ·rw[if_neg hin,if_neg (by simp;omega)]
theorem jT:∀(vs:List Value) (o:Nat) (w:World),Only (fun k=>k=g) w (w.setCells g o vs)
 |[],_,w=>Only.refl _ _
 |v::r,o,w=>Only.trans ((Only.refl (fun k=>k=g) w).setCell (p:=⟨g,o,none⟩) (fun _=>rfl) v) (jT r (o+1) _)
end
def wW (l:List Int) (i:Nat) (x:Int):List Int:=l.take i++x::l.drop i
theorem rZ{l:List Int}{i:Nat}{x:Int}(h:i≤l.length):(wW l i x).length=l.length+1:=by simp[wW];omega
theorem aCg{l:List Int}{x:Int}:wW l l.length x=l++ [x]:=by simp[wW]
theorem MR{l:List Int}{i:Nat}{x:Int}(h:i≤l.length)(j:Nat):(wW l i x)[j]? =if j<i then l[j]? else if j=i then some x else l[j-1]? :=by
 unfold wW;by_cases h1:j<i
 ·rw[if_pos h1,List.getElem?_append_left (by simp;omega),List.getElem?_take_of_lt h1]
 ·rw[if_neg h1,List.getElem?_append_right (by simp;omega)];have hl:(l.take i).length=i:=by simp;omega
  rw[hl];by_cases h2:j=i
  ·subst h2;simp
  ·rw[if_neg h2,show j-i=(j-i-1)+1 by omega,List.getElem?_cons_succ,List.getElem?_drop]
   congr 1;omega
theorem aKa{M:Mp}{F:Nat→Prop}{w:World}{l:List Int}{vs:Array Value}(h:∀(i:Nat) (x:List AV) (j:Nat) (a:AV) (u:Value),(l.map aK)[i]? =some x→x[j]? =some a→vs[i*1+j]? =some u→VR M F w a u)(hs:l.length≤vs.size)(j:Nat)(n:Int)(hj:l[j]? =some n):vs[j]? =some (.int .i64 n):=by
 have hlt:=(List.getElem?_eq_some_iff.1 hj).1;have h1:=h j (aK n) 0 (.int .i64 n) vs[j] (by rw[List.getElem?_map,hj];rfl) rfl (by simp);rw[Array.getElem?_eq_getElem (by omega)];generalize vs[j]=u at h1;cases h1
 rfl
theorem aCh(l:List Int):iH 1 (l.map aK):=by
 intro x hx;obtain⟨n,_,rfl⟩:=List.mem_map.1 hx;exact⟨rfl,fun a ha=>by obtain rfl:=List.mem_singleton.1 ha;rfl⟩
theorem FM{r v:Nat}(l:List Int)(i:Nat)(hi:i≤l.length)(x:Int)(hl:l.length≤1000000)(hrv:Nq v r):SCall Tryz.prog 209 [.own r 0 l.length,.int .i64 i,.own v 0 1] [(v,.arr 3 1 [aK x]),(r,.arr 3 1 (l.map aK))]
  (fun y σ'=>∃q,(Nq q r∧Nq q v)∧y=.own q 0 (l.length+1)∧σ'=[(q,.arr 3 1 ((wW l i x).map aK))]):=by
 intro M F N w vs hlen hv hs;obtain⟨u0,u1,u2,rfl⟩:∃u0 u1 u2,vs=[u0,u1,u2]:=by
  match vs,hlen with
  |[a,b,c],_=>exact⟨a,b,c,rfl⟩
 have h0:=hv 0 _ _ rfl rfl;have h1:=hv 1 _ _ rfl rfl;have h2:=hv 2 _ _ rfl rfl;cases h1
 have hnr:=hs.name (p:=(r,_)) (List.mem_cons_of_mem _ List.mem_cons_self);have hnv:=hs.name (p:=(v,_)) List.mem_cons_self;simp only at hnr hnv;have hmr:(r,Ent.arr 3 1 (l.map aK))∈ [(v,Ent.arr 3 1 [aK x]),(r,.arr 3 1 (l.map aK))]:=by simp
 obtain⟨_,_,hev⟩:=hs.ent _ (List.mem_cons_self);rcases hev with⟨_,hev⟩|⟨vb,vc,vv,hMv,hClv,hsv,hlv,hmv,hrv'⟩
 ·cases hev
 have hu2:∃c',u2=.slice (some ⟨vb,0,none⟩) 1 c':=by
  cases h2 with
  |own hM hle hm=>
   rw[hMv]at hM;cases hM
   exact⟨vc-0,by simp⟩
 obtain⟨vc',rfl⟩:=hu2;have hx0:vv[0]? =some (.int .i64 x):=by
  have hpos:0<vv.size:=by rw[hsv];simp at hlv;omega
  have:=hrv' 0 (aK x) 0 (.int .i64 x) vv[0] rfl rfl (by simp[hpos]);rw[Array.getElem?_eq_getElem hpos];generalize vv[0]=u at this;cases this
  rfl
 have hvs:∀(j:Nat) (u:Value),[Value.int .i64 x][j]? =some u→w.cell? ⟨vb,0+j,none⟩=some u:=by
  intro j u hj;have hj0:j=0:=by have:=(List.getElem?_eq_some_iff.1 hj).1;simpa using this
  subst hj0;simp at hj;subst hj;rw[hClv.cell];simpa using hx0
 have h1v:∀u∈ [Value.int .i64 x],u.oneCell'=true:=fun u hu=>by obtain rfl:=List.mem_singleton.1 hu;rfl
 have h1c:∀u∈l.map (Value.int .i64),u.oneCell'=true:=fun u hu=>by obtain⟨n,_,rfl⟩:=List.mem_map.1 hu;rfl
 have hbM:∀q b',M q=some b'→fN M N b' q=some b'→True:=fun _ _ _ _=>trivial
 --what is left,out of the new row
 have lX:∀(g c:Nat) (cur:Array Value) (w':World),Only (fun k=>bO M r=some k) w w'→(bO M r=some g∨w.heap.size≤g)→Cl w' g 3 cur→cur.size=c→l.length+1≤c→c≤maxLen→(∀(j:Nat) (n:Int),(wW l i x)[j]? =some n→cur[j]? =some (Value.int .i64 n))→
   ∃v_1 x_1 M' F' N' σ',Ending.returned (Value.slice (some ⟨g,0,none⟩) (l.length+1) c)=.returned v_1∧Ext M F N w [(v,Ent.arr 3 1 [aK x]),(r,.arr 3 1 (l.map aK))] M' F' N' w' σ'∧VR M' F' w' x_1 v_1∧SR M' F' N' w' σ'∧
    ∃q,(Nq q r∧Nq q v)∧x_1=.own q 0 (l.length+1)∧σ'=[(q,.arr 3 1 ((wW l i x).map aK))]:=by
  intro g c cur w' honly hg hcl hsz hlc hcm hcur;have hr:Rel M F N 0 ⟨[],[(v,Ent.arr 3 1 [aK x]),(r,.arr 3 1 (l.map aK))]⟩ { tmps:=#[],defers:=[] } w:=⟨rfl,rfl,fun i x hi=>by simp[dD]at hi,hs⟩
  have hE:ER (fN M N (.row g c 1)) F w' N (.arr 3 1 ((wW l i x).map aK)):=by
   refine⟨Nat.one_pos,aCh _,.inr ⟨g,c,cur,bW _,hcl,by simpa using hsz,by rw[List.length_map,rZ hi];exact hlc,hcm,fun i' x' j b u hi' hj hu=> ?_⟩⟩;rw[List.getElem?_map]at hi';obtain⟨n,hn,rfl⟩:=Option.map_eq_some_iff.1 hi';have hjs:=(List.getElem?_eq_some_iff.1 hj).1;simp[aK]at hjs;subst hjs;simp[aK]at hj;subst hj;rw[Nat.mul_one,Nat.add_zero,hcur i' n hn]at hu;obtain rfl:=Option.some.inj hu;exact .int _ _
  obtain⟨r1,e1,n1,o1⟩:=hr.move_ hmr (.row g c 1) honly (fun g' hg'=>by
   simp only[bO,bW,Option.some.injEq]at hg';subst hg';exact hg) hE
  have hsub:∀p∈ [(N,Ent.arr 3 1 ((wW l i x).map aK))],p∈(N,Ent.arr 3 1 ((wW l i x).map aK))::dS [r] [(v,Ent.arr 3 1 [aK x]),(r,.arr 3 1 (l.map aK))]:=fun p hp=>by
   obtain rfl:=List.mem_singleton.1 hp;exact List.mem_cons_self
  have hvr:=VR.own (M:=fN M N (.row g c 1)) (F:=F) (w:=w') (t:=N) (off:=0) (len:=l.length+1) (bW _) (by omega) hcm;simp only[Nat.zero_mul,Nat.sub_zero]at hvr;refine⟨_,.own N 0 (l.length+1),_,_,_,_,rfl,e1.sub hsub,hvr,r1.st.sub hsub,N,⟨?_, ?_⟩,rfl,rfl⟩
  ·show N≠r;omega
  ·show N≠v;omega
 have hbig:(l.length+1)*8≤140737488355328:=by omega
 have hlm:(l.map (Value.int .i64)).length=l.length:=List.length_map ..;have hends:∀(B:Option Addr) (c:Nat),i=l.length→l.length≤c→c<l.length+1→(B=none→l.length=0)→(∀a,B=some a→∀(j:Nat) (u:Value),(l.map (Value.int .i64))[j]? =some u→w.cell? (a.add j)=some u)→
   Calls Tryz.prog 209 #[.slice B l.length c,.int .i64 i,.slice (some ⟨vb,0,none⟩) 1 vc'] w fun e w'=>∃v_1 x_1 M' F' N' σ',e=.returned v_1∧Ext M F N w [(v,Ent.arr 3 1 [aK x]),(r,.arr 3 1 (l.map aK))] M' F' N' w' σ'∧VR M' F' w' x_1 v_1∧SR M' F' N' w' σ'∧
    ∃q,(Nq q r∧Nq q v)∧x_1=.own q 0 (l.length+1)∧σ'=[(q,.arr 3 1 ((wW l i x).map aK))]:=by
  intro B c hil hc1 hc2 hB hcells;subst hil;refine(Any2.slices_Insert_int_end_grow AC B l.length c vb 0 1 vc' (l.map (Value.int .i64)) [.int .i64 x] w Nat.one_pos hc1 hc2 hbig hlm rfl hB hcells hvs h1v).mono ?_;rintro e w' ⟨rfl,rfl⟩;have hge:=grownCap_ge w (l.length+1) c (rhoI.t 3);refine lX w.heap.size _ _ _ ⟨rfl,rfl,rfl,by simp,fun q hq _=>heap_alloc_old w.drew _ hq⟩ (.inr (Nat.le_refl _)) (Cl.of (heap_alloc_new w.drew _)) ?_ hge (grownCap_le_maxLen w _ c _ (by simp[maxLen];omega)) (fun j n hj=> ?_)
  ·simp only[Array.size_append,List.size_toArray,List.length_append,hlm,List.length_singleton,size_zeroCells];simp only[Value.cells];simp;omega
  ·have hjl:=(List.getElem?_eq_some_iff.1 hj).1;rw[aCg]at hj hjl;rw[Array.getElem?_append_left (by simpa using hjl)];simp only[List.getElem?_toArray];rw[show l.map (Value.int .i64)++ [Value.int .i64 x]=(l++ [x]).map (Value.int .i64) by simp,List.getElem?_map,hj];rfl
 obtain⟨_,_,her⟩:=hs.ent _ hmr;generalize hnl:l.length=n at h0;cases h0 with
 |@own0 _ _ A=>
  have hl0:l=[]:=List.eq_nil_of_length_eq_zero hnl;subst hl0;simp at hi;subst hi;exact hends A 0 rfl (Nat.le_refl _) (by simp) (fun _=>rfl) (fun a _ j u hj=>by simp at hj)
 |@own _ _ _ g cc sz0 hM hle hm=>
  subst hnl;rcases her with⟨hv',_⟩|⟨g',c',cur,hM',hcl,hsz,hlc,hcm,hvr⟩
  ·simp only at hv';rw[hM]at hv';cases hv'
  simp only at hM';rw[hM]at hM';cases hM'
  simp only[Nat.mul_one]at hsz;rw[List.length_map]at hlc;have hints:=aKa hvr (by omega);have hcs:∀(j:Nat) (u:Value),(l.map (Value.int .i64))[j]? =some u→w.cell? ⟨g,0+j,none⟩=some u:=fun j u hj=>by
   rw[List.getElem?_map]at hj;obtain⟨n,hn,rfl⟩:=Option.map_eq_some_iff.1 hj;rw[hcl.cell,Nat.zero_add];exact hints j n hn
  have hblk:bO M r=some g:=by simp[bO,hM]
  have hsub:∀k,k=g→bO M r=some k:=fun k hk=>by rw[hk];exact hblk
  have hmax:cc≤9223372036854775807:=by simp[maxLen]at hcm;omega
  by_cases hroom:l.length+1≤cc
  ·have hsome:∀j,j<l.length+1→(w.cell? ⟨g,0+j,none⟩).isSome=true:=fun j hj=>by
    rw[hcl.cell,Array.getElem?_eq_getElem (by omega)];rfl
   have hfz:∀j,w.frozen? ⟨g,j,none⟩=false:=fun j=>by obtain⟨fz,hc,hz⟩:=hcl;obtain rfl:=hz.2 rfl;simp[World.frozen?,hc]
   by_cases hil:i=l.length
   ·subst hil;refine(Any2.slices_Insert_int_end_room AC g 0 l.length cc vb 0 1 vc' [.int .i64 x] w Nat.one_pos hroom hmax rfl (fun j hj=> ?_) (fun j hj=>hfz _) hvs h1v).mono ?_
    ·rw[Nat.zero_add,hcl.cell,Array.getElem?_eq_getElem (by omega)];rfl
    rintro e w' ⟨rfl,rfl⟩;obtain⟨cur',h1,h2,h3⟩:=mI [.int .i64 x] (0+l.length) w cur hcl;refine lX g cc cur' _ ((jT _ _ _).mono fun k _ hk=>hsub k hk) (.inl hblk) h1 (h2.trans hsz) hroom hcm (fun j n hj=> ?_);have hjl:=(List.getElem?_eq_some_iff.1 hj).1;rw[rZ hi]at hjl;rw[h3 j (by omega)];rw[MR hi]at hj;by_cases hjl2:j<l.length
    ·rw[if_pos hjl2]at hj;rw[if_neg (by omega)];exact hints j n hj
    ·have:j=l.length:=by omega
     subst this;simp at hj;subst hj;rw[if_pos (by simp)];simp
   ·refine(Any2.slices_Insert_int_shift AC g 0 l.length cc i vb 0 1 vc' (l.map (Value.int .i64)) [.int .i64 x] w (by omega) Nat.one_pos hroom hmax (fun e=> ?_) hlm rfl hcs hsome (fun j _=>hfz _) hvs h1c h1v 3 3 vv.size cur.size ?_ ?_ (by omega) ?_ ?_).mono ?_
    ·subst e;exact hrv (hs.inj _ List.mem_cons_self _ hmr vb (by simp[bO,hMv]) hblk)
    ·obtain⟨fz,hc,hz⟩:=hClv;simp[World.shape?,hc]
    ·obtain⟨fz,hc,hz⟩:=hcl;simp[World.shape?,hc]
    ·obtain⟨fz,hc,hz⟩:=hClv;obtain rfl:=hz.2 rfl;simp[World.frozen?,hc]
    ·obtain⟨fz,hc,hz⟩:=hClv;obtain rfl:=hz.2 rfl;simp[World.frozen?,hc]
    rintro e w' ⟨rfl,rfl⟩;obtain⟨cur1,h1,h2,h3⟩:=mI ((l.map (Value.int .i64)).drop i) (0+(i+1)) w.drew cur hcl;obtain⟨cur',k1,k2,k3⟩:=mI [.int .i64 x] (0+i) _ cur1 h1;refine lX g cc cur' _ (((((Only.refl (fun k=>k=g) w).drew).trans (jT (g:=g) _ _ _)).trans (jT (g:=g) _ _ _)).mono fun k _ hk=>hsub k hk) (.inl hblk) k1 (by omega) hroom hcm (fun j n hj=> ?_);have hjl:=(List.getElem?_eq_some_iff.1 hj).1;rw[rZ hi]at hjl;rw[k3 j (by omega),h3 j (by omega)];rw[MR hi]at hj;by_cases hji:j<i
    ·rw[if_pos hji]at hj;rw[if_neg (by omega),if_neg (by omega)];exact hints j n hj
    ·by_cases hji2:j=i
     ·subst hji2;simp at hj;subst hj;rw[if_pos (by simp)];simp
     ·rw[if_neg hji,if_neg hji2]at hj;rw[if_neg (by simp;omega),if_pos (by simp;omega),List.getElem?_drop,List.getElem?_map,show i+(j-(0+(i+1)))=j-1 by omega,hj];rfl
  ·by_cases hil:i=l.length
   ·exact hends _ _ hil (by omega) (by omega) (fun h=>by cases h) (fun a ha j u hj=>by
     cases ha
     have:=hcs j u hj;rw[Addr.add_lit];simpa using this)
   ·refine(Any2.slices_Insert_int_grow AC g 0 l.length cc i vb 0 1 vc' (l.map (Value.int .i64)) [.int .i64 x] w (by omega) Nat.one_pos (by omega) (by omega) hbig hlm rfl hcs hvs h1c h1v).mono ?_;rintro e w' ⟨rfl,rfl⟩;have hge:=grownCap_ge w (l.length+1) cc (rhoI.t 3);have hcl0:=heap_alloc_new w (.cells ((List.take i (l.map (Value.int .i64))).toArray++Builtin.zeroCells (Value.int .i64 0).cells (l.length+1-i)++Builtin.zeroCells (Value.int .i64 0).cells (grownCap w (l.length+1) cc (rhoI.t 3)-(l.length+1))) (rhoI.t 3));obtain⟨W0,hW0⟩:∃W0,W0=w.alloc (.cells ((List.take i (l.map (Value.int .i64))).toArray++Builtin.zeroCells (Value.int .i64 0).cells (l.length+1-i)++Builtin.zeroCells (Value.int .i64 0).cells (grownCap w (l.length+1) cc (rhoI.t 3)-(l.length+1))) (rhoI.t 3)):=⟨_,rfl⟩
    obtain⟨cur0,hcur0⟩:∃c:Array Value,c=(List.take i (l.map (Value.int .i64))).toArray++Builtin.zeroCells (Value.int .i64 0).cells (l.length+1-i)++Builtin.zeroCells (Value.int .i64 0).cells (grownCap w (l.length+1) cc (rhoI.t 3)-(l.length+1)):=⟨_,rfl⟩
    have ho0:Only (fun k=>bO M r=some k) w W0:=by rw[hW0];exact⟨rfl,rfl,rfl,by simp,fun q hq _=>heap_alloc_old w _ hq⟩
    rw[←hW0,←hcur0]at hcl0;rw[←hW0];have hs0:cur0.size=grownCap w (l.length+1) cc (rhoI.t 3):=by
     rw[hcur0];simp only[Array.size_append,List.size_toArray,List.length_take,hlm,size_zeroCells];simp only[Value.cells];simp;omega
    have ht0:∀j,j<i→cur0[j]? =(l.map (Value.int .i64))[j]? :=fun j hj=>by
     rw[hcur0,Array.getElem?_append_left (by simp;omega),Array.getElem?_append_left (by simp;omega)];simp only[List.getElem?_toArray];rw[List.getElem?_take_of_lt hj]
    obtain⟨cur1,h1,h2,h3⟩:=mI [.int .i64 x] i W0.drew cur0 (Cl.of hcl0:Cl W0.drew w.heap.size (rhoI.t 3) cur0);obtain⟨cur',k1,k2,k3⟩:=mI ((l.map (Value.int .i64)).drop i) (i+1) (W0.drew.setCells w.heap.size i [.int .i64 x]).drew cur1 h1;refine lX w.heap.size _ cur' _ (ho0.trans' (((((Only.refl (fun k=>k=w.heap.size) W0).drew).trans (jT (g:=w.heap.size) _ _ _)).drew).trans (jT (g:=w.heap.size) _ _ _)) fun k hk h=>absurd hk (by omega)) (.inr (Nat.le_refl _)) k1 (by omega) hge (grownCap_le_maxLen w _ cc _ (by simp[maxLen];omega)) (fun j n hj=> ?_);have hjl:=(List.getElem?_eq_some_iff.1 hj).1;rw[rZ hi]at hjl;rw[k3 j (by omega),h3 j (by omega)];rw[MR hi]at hj;by_cases hji:j<i
    ·rw[if_pos hji]at hj;rw[if_neg (by omega),if_neg (by omega),ht0 j hji,List.getElem?_map,hj];rfl
    ·by_cases hji2:j=i
     ·subst hji2;simp at hj;subst hj;rw[if_neg (by omega),if_pos (by simp)];simp
     ·rw[if_neg hji,if_neg hji2]at hj;rw[if_pos (by simp;omega),List.getElem?_drop,List.getElem?_map,show i+(j-(i+1))=j-1 by omega,hj];rfl
end Go.Proofs.YtjpdadobblffmaaGreat
namespace Go.Proofs.YtjpdadobblffmaaGreat
open Go.RowKit Go.ChangeShapes Go.WideShapes Go.ChangeAt Go.Deep
attribute [local irreducible] SW RS RD fF eB
theorem MT{es:List (List AV)}(hn:es.length≤1000000):SCall Tryz.prog 210 [.ro 1 es .any] [] (fun x σ=>∃r,x=.own r 0 es.length∧σ=[(r,.arr 5 1 es)]):=by
 refine bS 8 [0,2,4] Tryz.func210 ?_;refine eX ?_;refine ne rfl rfl rfl fun b hb _=> ?_
 refine pO ?_;cases b
 ·refine cZ ?_;refine eC fun r5 h5=> ?_;intros
  refine lo (aF (E rfl)) rfl ?_;apply ap;rfl;rfl;exact bC;rfl;exact .inl ⟨_,rfl⟩;exact List.nil_append _;exact(Nat.zero_add _).symm;(simp[maxLen];omega);omega;rfl;refine bE fun r7 h7=> ?_;intros
  refine cM ?_;exact aD aE ⟨_,by rfl,rfl⟩ aA
 ·obtain rfl:=hb rfl;refine rH ?_;refine bP (ks:=[0,2,4]) 2 5 1 (by decide) rfl (by decide) fun r hr=> ?_
  refine aI ?_;exact aD aE ⟨_,by rfl,rfl⟩ aA
theorem FN{es:List (List AV)}(hn:es.length≤1000000):SCall Tryz.prog 105 [.ro 1 es .any] [] (fun x σ=>∃r,x=.own r 0 es.length∧σ=[(r,.arr 3 1 es)]):=by
 refine bS 8 [0,2,4] Tryz.func105 ?_;refine eX ?_;refine ne rfl rfl rfl fun b hb _=> ?_
 refine pO ?_;cases b
 ·refine cZ ?_;refine eC fun r5 h5=> ?_;intros
  refine lo (aF (E rfl)) rfl ?_;apply ap;rfl;rfl;exact bC;rfl;exact .inl ⟨_,rfl⟩;exact List.nil_append _;exact(Nat.zero_add _).symm;(simp[maxLen];omega);omega;rfl;refine bE fun r7 h7=> ?_;intros
  refine cM ?_;exact aD aE ⟨_,by rfl,rfl⟩ aA
 ·obtain rfl:=hb rfl;refine rH ?_;refine bP (ks:=[0,2,4]) 2 3 1 (by decide) rfl (by decide) fun r hr=> ?_
  refine aI ?_;exact aD aE ⟨_,by rfl,rfl⟩ aA
theorem sA(a:Int):SCall Tryz.prog 280 [.int .i64 a] [] (fun x σ=>x=.bool false∧σ=[]):=by
 refine bS 6 [0,2] Tryz.func280 ?_;refine lL ?_;refine lo (dV (E rfl) (E rfl)) rfl ?_;refine cM ?_;apply aD;exact aE;exact⟨by simp[fG],rfl⟩;exact aA
theorem QV(a:Int):SCall Tryz.prog 307 [.int .i64 a] [] (fun x σ=>x=.bool false∧σ=[]):=by
 refine bS 6 [0,2] Tryz.func307 ?_;refine lL ?_;refine lo (dV (E rfl) (E rfl)) rfl ?_;refine cM ?_;apply aD;exact aE;exact⟨by simp[fG],rfl⟩;exact aA
theorem QW(a b:Int):SCall Tryz.prog 279 [.int .i64 a,.int .i64 b] [] (fun x σ=>x=.bool (decide (a<b))∧σ=[]):=by
 refine bS 17 [0,1,4] Tryz.func279 ?_;refine eX ?_
 (first|refine pu [] Tryz.call307 (QV a) rfl bU aS ?_ |refine vX [] rfl rfl Tryz.call307 (fun _=>(QV a)) rfl bU aS ?_);refine xS ?_;refine ln rfl rfl rfl rfl ?_;refine z67 ?_;refine z7 ?_;refine xS ?_;refine z4 ?_;refine z21 ?_;refine RQ ?_;refine cM ?_;apply aD;exact aE;exact⟨by simp[fG],rfl⟩;exact aA
def sC (l:List Int) (x:Int):Nat:=(l.takeWhile fun y=>decide (y<x)).length
theorem aER{l:List Int}{x:Int}{i:Nat}(hi:i≤l.length)(h1:∀k y,k<i→l[k]? =some y→y<x)(h2:∀y,l[i]? =some y→x≤y):sC l x=i:=by
 unfold sC;have e:l=l.take i++l.drop i:=(List.take_append_drop i l).symm;rw[e,List.takeWhile_append_of_pos (fun y hy=>by
  obtain⟨k,hk,rfl⟩:=List.getElem_of_mem hy;simp at hk;have:=h1 k (l[k]) (by omega) (List.getElem?_eq_getElem (by omega));simpa using this)]
 have:(l.drop i).takeWhile (fun y=>decide (y<x))=[]:=by
  cases hd:l.drop i with
  |nil=>rfl
  |cons y t=>
   have:l[i]? =some y:=by
    have:=congrArg (·[0]?) hd;simpa using this
   have:=h2 y this;simp[List.takeWhile_cons];omega
 rw[this];simp;omega
theorem aCi{l:List Int}{x:Int}{i:Nat}(h1:∀k y,k<i→l[k]? =some y→y<x)(h2:∀k y,i≤k→l[k]? =some y→x≤y)(hs:l.Pairwise (· < ·)):l.contains x=(decide (i<l.length)&&decide (l[i]! =x)):=by
 by_cases hi:i<l.length
 ·rw[decide_eq_true hi,Bool.true_and];by_cases he:l[i]! =x
  ·rw[decide_eq_true he];rw[←he,List.contains_iff_mem,getElem!_pos l i hi];exact List.getElem_mem hi
  ·rw[decide_eq_false he,←Bool.not_eq_true,List.contains_iff_mem];intro hm;obtain⟨k,hk,hx⟩:=List.getElem_of_mem hm;rcases Nat.lt_trichotomy k i with h|h|h
   ·have:=h1 k _ h (List.getElem?_eq_getElem hk);omega
   ·subst h;exact he (by rw[getElem!_pos l k hi];exact hx)
   ·have h3:=List.pairwise_iff_getElem.1 hs i k hi hk h;have:=h2 i _ (Nat.le_refl _) (List.getElem?_eq_getElem hi);omega
 ·rw[decide_eq_false hi,Bool.false_and,←Bool.not_eq_true,List.contains_iff_mem];intro hm;obtain⟨k,hk,hx⟩:=List.getElem_of_mem hm;have:=h1 k _ (by omega) (List.getElem?_eq_getElem hk);omega
theorem YX(m:Nat):((m:Int)).fdiv (2^min (Int.toNat 1) IntKind.u64.bits)=((m / 2:Nat):Int):=by
 have:(2:Int)^min (Int.toNat 1) IntKind.u64.bits=2:=by decide
 rw[this,Int.fdiv_eq_ediv_of_nonneg _ (by omega)];omega
theorem FO(l:List Int)(x:Int)(hl:l.length≤1000000)(hs:l.Pairwise (· < ·)):SCall Tryz.prog 208 [.ro 1 (l.map aK) .any,.int .i64 x] [] (fun y σ=>y=.tup [.int .i64 (sC l x),.bool (l.contains x)]∧σ=[]):=by
 refine bS 54 [0,1,4,5,6,7,8,9,15,27] Tryz.func208 ?_;refine cZ ?_;refine nS ?_;refine qI ?_;refine gZ ?_;refine jF ?_;refine lp (β:=Nat×Nat) (fun b=>⟨[(0,.ro 1 (l.map aK) .any),(1,.int .i64 x),(4,.int .i64 0),(5,.bool false),(6,.int .i64 l.length),(7,.int .i64 b.1),(8,.int .i64 b.2)],[]⟩) (fun b=>b.1≤b.2∧b.2≤l.length∧(∀k y,k<b.1→l[k]? =some y→y<x)∧(∀k y,b.2≤k→l[k]? =some y→x≤y)) (fun b=>b.2-b.1) (0,l.length) ?_ ⟨Nat.zero_le _,Nat.le_refl _,fun k y h=>absurd h (Nat.not_lt_zero _),fun k y h e=>absurd (List.getElem?_eq_some_iff.1 e).1 (by simp only at h;omega)⟩ ?_
 ·exact aJ
 rintro⟨i,j⟩ ⟨hij,hj,h1,h2⟩;simp only at hij hj h1 h2⊢;refine dG ?_;refine nP ?_;refine aB rfl (fun h3=> ?_) (fun h3=> ?_)
 ·have hlt:i<j:=by simp at h3;omega
  have e1:((i:Int)+(j:Int))=((i+j:Nat):Int):=by omega
  refine dG ?_;refine NR ?_;refine RI ?_;refine z2 ?_;rw[e1,YX];refine z44 ?_;refine cM ?_;obtain⟨y,hy⟩:∃y,l[(i+j) / 2]? =some y:=⟨_,List.getElem?_eq_getElem (by omega)⟩
  refine kQ ?_;refine lM ?_;refine lo (aF (E rfl)) rfl ?_
  (first|refine pu [] Tryz.call279 (QW y x) rfl bU aS ?_ |refine vX [] rfl rfl Tryz.call279 (fun _=>(QW y x)) rfl bU aS ?_);refine iI ?_;refine aI ?_;refine aB rfl (fun h4=> ?_) (fun h4=> ?_)
  ·have h5:y<x:=by simpa using h4
   refine lJ ?_;refine⟨((i+j) / 2+1,j),⟨by show(i+j) / 2+1≤j;omega,hj,fun k z hk hz=> ?_,h2⟩,by show j-((i+j) / 2+1)<j-i;omega, ?_⟩
   ·by_cases hke:k=(i+j) / 2
    ·subst hke;rw[hy]at hz;cases hz
     exact h5
    ·have hlt2:=(List.getElem?_eq_some_iff.1 hy).1;have hk2:=(List.getElem?_eq_some_iff.1 hz).1;have h6:=List.pairwise_iff_getElem.1 hs k ((i+j) / 2) hk2 hlt2 (by simp only at hk;omega);rw[(List.getElem?_eq_some_iff.1 hz).2,(List.getElem?_eq_some_iff.1 hy).2]at h6;omega
   ·exact aJ
  ·have h5:x≤y:=by simpa using h4
   refine eW ?_;refine⟨(i,(i+j) / 2),⟨by show i≤(i+j) / 2;omega,by show(i+j) / 2≤l.length;omega,h1,fun k z hk hz=> ?_⟩,by show(i+j) / 2-i<j-i;omega, ?_⟩
   ·by_cases hke:k=(i+j) / 2
    ·subst hke;rw[hy]at hz;cases hz
     exact h5
    ·have hlt2:=(List.getElem?_eq_some_iff.1 hy).1;have hk2:=(List.getElem?_eq_some_iff.1 hz).1;have h6:=List.pairwise_iff_getElem.1 hs ((i+j) / 2) k hlt2 hk2 (by simp only at hk;omega);rw[(List.getElem?_eq_some_iff.1 hz).2,(List.getElem?_eq_some_iff.1 hy).2]at h6;omega
   ·exact aJ
 obtain rfl:i=j:=by simp at h3;omega
 have hrk:=aER (i:=i) hj h1 (fun y hy=>h2 i y (Nat.le_refl _) hy);have hhas:=aCi h1 h2 hs;rw[hrk,hhas];refine DY ?_;refine OI ?_;refine z4 ?_;refine z71 ?_;refine z72 ?_;refine z4 ?_;refine z70 ?_;refine z8 ?_;refine z9 ?_;refine z9 ?_;first|refine ln rfl rfl rfl rfl ?_ |refine lg rfl rfl (bH (W rfl (by first|exact id|simp)) (W rfl (by first|exact id|simp)) (fun hc=>by(try simp at hc)<;>(simp only[List.length_map];omega))) rfl ?_ |refine lg rfl rfl (aW (W rfl (by first|exact id|simp)) bC (W rfl (by first|exact id|simp)) (fun hc=>by(try simp at hc)<;>omega)) rfl ?_ |refine lg rfl rfl (bL (W rfl (by first|exact id|simp)) bC (W rfl (by first|exact id|simp)) (fun hc=>by(try simp at hc)<;>omega)) rfl ?_ |refine lw rfl rfl (bH (W rfl (by first|exact id|simp)) (W rfl (by first|exact id|simp)) (fun hc=>by(try simp at hc)<;>(simp only[List.length_map];omega))) rfl ?_ |refine lw rfl rfl (aW (W rfl (by first|exact id|simp)) bC (W rfl (by first|exact id|simp)) (fun hc=>by(try simp at hc)<;>omega)) rfl ?_ |refine lw rfl rfl (bL (W rfl (by first|exact id|simp)) bC (W rfl (by first|exact id|simp)) (fun hc=>by(try simp at hc)<;>omega)) rfl ?_ |refine lw rfl rfl (bR (v:=.bool false)) rfl ?_
 first|refine ln rfl rfl rfl rfl ?_ |refine lg rfl rfl (aR (W rfl (by first|exact id|simp)) rfl (fun hc=>by first|rfl|exact aH (by assumption)|assumption|exact aH (aX (by(try simp at hc)<;>omega))) (fun _=>rfl)) rfl ?_ |refine lg rfl rfl (bJ (W rfl (by first|exact id|simp)) rfl bC (fun hc=>by first|rfl|exact aH (by assumption)|assumption|exact aH (aX (by(try simp at hc)<;>omega))) (fun _=>rfl)) rfl ?_ |refine lw rfl rfl (aR (W rfl (by first|exact id|simp)) rfl (fun hc=>by first|rfl|exact aH (by assumption)|assumption|exact aH (aX (by(try simp at hc)<;>omega))) (fun _=>rfl)) rfl ?_ |refine lw rfl rfl (bJ (W rfl (by first|exact id|simp)) rfl bC (fun hc=>by first|rfl|exact aH (by assumption)|assumption|exact aH (aX (by(try simp at hc)<;>omega))) (fun _=>rfl)) rfl ?_ |refine lw rfl rfl (bR (v:=.bool false)) rfl ?_
 (first|refine ln rfl rfl rfl rfl ?_ |refine lw rfl rfl (bR (v:=.bool false)) rfl ?_ |refine pu [] Tryz.call280 (sA _) rfl bU aS ?_ |refine vX [] rfl rfl Tryz.call280 (fun _=>(sA _)) rfl bU aS ?_ |refine BK [] rfl rfl Tryz.call280 (fun _=>(sA _)) rfl bU aS ?_);first|refine ln rfl rfl rfl rfl ?_ |refine lg rfl rfl (aF (by first|exact W rfl (by first|exact id|simp)|exact E rfl)) rfl ?_ |refine lw rfl rfl (aF (by first|exact W rfl (by first|exact id|simp)|exact E rfl)) rfl ?_ |refine lw rfl rfl (bR (v:=.bool false)) rfl ?_
 refine z9 ?_
 (first|refine ln rfl rfl rfl rfl ?_ |refine lw rfl rfl (bR (v:=.bool false)) rfl ?_ |refine pu [] Tryz.call280 (sA _) rfl bU aS ?_ |refine vX [] rfl rfl Tryz.call280 (fun _=>(sA _)) rfl bU aS ?_ |refine BK [] rfl rfl Tryz.call280 (fun _=>(sA _)) rfl bU aS ?_);first|refine ln rfl rfl rfl rfl ?_ |refine lg rfl rfl (fH (W rfl (by first|exact id|simp)) (by first|exact W rfl (by simp)|exact E rfl)) rfl ?_ |refine lg rfl rfl (fI (W rfl (by first|exact id|simp)) (E rfl)) rfl ?_ |refine lg rfl rfl (fD (W rfl (by first|exact id|simp)) (by first|exact W rfl (by simp)|exact E rfl) (E rfl)) rfl ?_ |refine lw rfl rfl (fH (W rfl (by first|exact id|simp)) (by first|exact W rfl (by simp)|exact E rfl)) rfl ?_ |refine lw rfl rfl (fI (W rfl (by first|exact id|simp)) (E rfl)) rfl ?_ |refine lw rfl rfl (fD (W rfl (by first|exact id|simp)) (by first|exact W rfl (by simp)|exact E rfl) (E rfl)) rfl ?_ |refine lw rfl rfl (bR (v:=.bool false)) rfl ?_
 refine aFd ?_;refine jF ?_;apply aD;exact aE
 ·refine⟨?_,rfl⟩;simp only[fG,Int.toNat_natCast];by_cases h5:i<l.length<;>by_cases h6:l[i]! =x<;>simp[h5,h6]
 ·exact aA
def YY (b:List Nat) (a n:Int):Bool:=(n==1||n==4||n==8)&&decide (0≤a)&&decide (a+n≤b.length)
theorem MU{n:Nat}(h:n≤100000000):IntKind.i64.wrap ((n:Int).tdiv 256)=((n / 256:Nat):Int):=by
 rw[Int.tdiv_eq_ediv_of_nonneg (by omega),IntKind.wrap_i64];omega
section
theorem aES(b:List Nat)(mo:Int)(dl:List Int)(hb:b.length≤1000000)(a n:Int):SCall Tryz.prog 100 [.el 3 [[.ro 1 ((b).map aG) .any,.int .i64 mo,.ro 1 ((dl).map aK) .any]] 0 0,.int .i64 a,.int .i64 n] []
  (fun x σ=>x=.bool (YY b a n)∧σ=[]):=by
 refine bS 36 [0,1,2,6] Tryz.func100 ?_;refine aFa ?_;refine xS ?_;refine z6 ?_;refine z8 ?_;refine z9 ?_;first|refine ln rfl rfl rfl rfl ?_ |refine lg rfl rfl (cN (W rfl (by first|exact id|simp)) (E rfl)) rfl ?_ |refine lw rfl rfl (cN (W rfl (by first|exact id|simp)) (E rfl)) rfl ?_ |refine lw rfl rfl (bR (v:=.bool false)) rfl ?_
 (first|refine ln rfl rfl rfl rfl ?_ |refine lg rfl rfl (fH (W rfl id) (E rfl)) rfl ?_ |refine lg rfl rfl (fI (W rfl id) (W rfl (by simp))) rfl ?_ |refine lg rfl rfl (fD (W rfl id) (E rfl) (W rfl (by simp))) rfl ?_);refine z8 ?_;refine z9 ?_;first|refine ln rfl rfl rfl rfl ?_ |refine lg rfl rfl (cN (W rfl (by first|exact id|simp)) (E rfl)) rfl ?_ |refine lw rfl rfl (cN (W rfl (by first|exact id|simp)) (E rfl)) rfl ?_ |refine lw rfl rfl (bR (v:=.bool false)) rfl ?_
 refine aFd ?_;refine xS ?_;refine z34 ?_;refine z7 ?_;refine xS ?_;refine z4 ?_;refine z91 ?_;refine z92 ?_;refine z62 ?_;refine z63 ?_;refine z4 ?_;first|refine ln rfl rfl rfl rfl ?_ |refine lg rfl rfl (mC (W rfl id) (W rfl id) (by omega) (by omega)) rfl ?_ |refine lg rfl rfl (xP (W rfl id) (W rfl id) (fun hc=>by simp at hc<;>first|omega|(have hov:=hov hc;omega))) rfl ?_ |refine lg rfl rfl (sF (W rfl id) (W rfl id)) rfl ?_
 refine z54 ?_;refine rO ?_;apply aD;exact aE
 ·refine⟨?_,rfl⟩;have h5:decide (a≤(b.length:Int)-n)=decide (a+n≤b.length):=by rw[decide_eq_decide];omega
  simp only[fG,YY,h5];by_cases h1:n=1<;>by_cases h2:n=4<;>by_cases h3:n=8<;>by_cases h4:0≤a<;>simp[h1,h2,h3,h4]
 ·exact aA
theorem wL(b:List Nat)(mo:Int)(dl:List Int)(hb:b.length≤1000000):SCall Tryz.prog 98 [.el 3 [[.ro 1 ((b).map aG) .any,.int .i64 mo,.ro 1 ((dl).map aK) .any]] 0 0] []
  (fun x σ=>x=.int .i64 ((b.length / 256:Nat):Int)∧σ=[]):=by
 refine bS 11 [0,2,4] Tryz.func98 ?_;refine bF ?_;refine KS ?_;refine oR ?_;refine gY ?_;refine qI ?_;refine z20 ?_;refine cM ?_;apply aD;exact aE
 ·refine⟨?_,rfl⟩;rw[MU (by omega)];rfl
 ·exact aA
theorem aET{b:List Nat}{a n:Int}(h:YY b a n=true):(n=1∨n=4∨n=8)∧0≤a∧a+n≤b.length:=by
 simp[YY]at h;omega
end
def nA (l:List Int) (i:Int):List Int:=if l.contains i then l else wW l (sC l i) i
theorem MV(l:List Int)(x:Int):sC l x≤l.length:=by unfold sC;exact(List.takeWhile_sublist _).length_le
theorem TO(l:List Int)(i:Int):(nA l i).length≤l.length+1:=by
 unfold nA;split
 ·omega
 ·rw[rZ (MV l i)];omega
theorem MW(l:List Int)(x:Int):∀y∈l.take (sC l x),y<x:=by
 intro y hy;unfold sC at hy;rw[show l.take (l.takeWhile fun y=>decide (y<x)).length=l.takeWhile fun y=>decide (y<x)from(List.prefix_iff_eq_take.1 (List.takeWhile_prefix _)).symm]at hy;simpa using List.all_eq_true.1 (List.all_takeWhile (p:=fun y=>decide (y<x)) (l:=l)) y hy
theorem aEU{l:List Int}(hs:l.Pairwise (· < ·))(x:Int):∀y∈l.drop (sC l x),x≤y:=by
 induction l with
 |nil=>intro y hy;simp at hy
 |cons a t ih=>
  rw[List.pairwise_cons]at hs;intro y hy;unfold sC at hy ih;by_cases h:a<x
  ·simp[List.takeWhile_cons,h]at hy;exact ih hs.2 y hy
  ·simp[List.takeWhile_cons,h]at hy;rcases hy with rfl|hy
   ·omega
   ·have:=hs.1 y hy;omega
theorem HY{l:List Int}(hs:l.Pairwise (· < ·))(i:Int):(nA l i).Pairwise (· < ·):=by
 unfold nA;split
 ·exact hs
 ·next h=>
  unfold wW;have h1:=MW l i;have h2:=aEU hs i;have hni:∀y∈l.drop (sC l i),y≠i:=fun y hy e=>by subst e;exact h (List.contains_iff_mem.2 (List.mem_of_mem_drop hy))
  rw[List.pairwise_append,List.pairwise_cons];refine⟨hs.sublist (List.take_sublist _ _),⟨fun y hy=> ?_,hs.sublist (List.drop_sublist _ _)⟩,fun y hy z hz=> ?_⟩
  ·have:=h2 y hy;have:=hni y hy;omega
  ·have:=h1 y hy;rcases List.mem_cons.1 hz with rfl|hz
   ·exact this
   ·have:=h2 z hz;omega
section
variable {m q d : Nat}
theorem JX(hN:Nq q m∧Nq d m∧Nq d q)(b:List Nat)(mo:Int)(dl:List Int)(hdl:dl.length≤100000)(hs:dl.Pairwise (· < ·))(i:Int):SCall Tryz.prog 101 [.ptr m 0,.int .i64 i] [(m,.box 169 [.own q 0 (b).length,.int .i64 (mo),.own d 0 (dl).length]),(q,.arr 5 1 ((b).map aG)),(d,.arr 3 1 ((dl).map aK))]
  (fun x σ=>∃e,(Nq e m∧Nq e q)∧σ=[(m,.box 169 [.own q 0 (b).length,.int .i64 (mo),.own e 0 (nA dl i).length]),(q,.arr 5 1 ((b).map aG)),(e,.arr 3 1 ((nA dl i).map aK))]):=by
 obtain⟨hN1,hN2,hN3⟩:=hN;refine bS 28 [0,1,4,5,16] Tryz.func101 ?_;refine cX ?_;refine DU ?_;refine pu [d] Tryz.call208 (FO dl i (by omega) hs) rfl ?_ aS ?_
 ·exact aP
 refine sK ?_;refine nS ?_;refine nQ ?_;refine aB rfl (fun h=> ?_) (fun h=> ?_)
 ·have h':dl.contains i=false:=by simpa using h
  have ht:nA dl i=wW dl (sC dl i) i:=by simp only[nA,h',Bool.false_eq_true,if_false]
  refine dG ?_;refine gY ?_;refine HI ?_;refine eC fun r24 h24=> ?_;intros
  refine cw [(r24,.arr 3 1 [aK i]),(d,.arr 3 1 (dl.map aK))] Tryz.call209 (FM dl (sC dl i) (MV dl i) i (by omega) (by(exact cA))) rfl ?_ ?_ ?_
  ·exact aC
  ·exact aA
  rintro x σ' ⟨e,⟨he1,he2⟩,rfl,rfl⟩ hq
  replace hq:=fY hq;repeat rcases hq with⟨_,hq⟩
  apply aU;exact bD;refine lK ?_;apply aD;exact aE
  ·exact⟨e,⟨by(exact cA),by(exact cA)⟩,rfl⟩
  ·rw[ht,rZ (MV dl i)];exact aA
 ·have h':dl.contains i=true:=by simpa using h
  have ht:nA dl i=dl:=by simp only[nA,h',if_true]
  refine aF2 (ks:=[0,1,4,5,16]) m 2 d bC rfl bC fun e he=> ?_
  simp only[aO,aT,and_true]at he;repeat rcases he with⟨_,he⟩
  apply Exists.intro;apply And.intro;exact cE;apply Exists.intro;apply And.intro;exact cE;refine aI ?_;apply aD;exact aE
  ·exact⟨e,⟨by(exact cA),by(exact cA)⟩,rfl⟩
  ·rw[ht];exact aA
def JY (b:List Nat) (a x:Nat):Nat→List Nat
 |0=>b
 |k+1=>(JY b a x k).set (a+k) (x / 256^k%256)
theorem MX(b:List Nat)(a x:Nat):∀k,(JY b a x k).length=b.length
 |0=>rfl
 |k+1=>by rw[JY,List.length_set,MX]
theorem aCj{l:List Nat}{i n:Nat}:(l.map aG).set i [.int .u8 n]=(l.set i n).map aG:=by rw[List.map_set];rfl
theorem aHV{x k:Nat}(hk:k<8)(hx:x<18446744073709551616):IntKind.u8.wrap (Int.fdiv (x:Int) (2^min (Int.toNat (8*(k:Int))) IntKind.u64.bits))=((x / 256^k%256:Nat):Int):=by
 have e1:min (Int.toNat (8*(k:Int))) IntKind.u64.bits=8*k:=by simp[IntKind.bits];omega
 have e2:(2:Int)^(8*k)=((256^k:Nat):Int):=by rw[show(256:Nat)=2^8 from rfl,←Nat.pow_mul];simp
 rw[e1,e2,Int.fdiv_eq_ediv_of_nonneg _ (Int.natCast_nonneg _),←Int.natCast_ediv,IntKind.wrap_u8];omega
def stD (dl:List Int) (a n:Nat):List Int:=nA (nA dl ((a / 256:Nat):Int)) (((a+n-1) / 256:Nat):Int)
theorem YZ(hN:Nq q m∧Nq d m∧Nq d q)(b:List Nat)(mo:Int)(dl:List Int)(hb:b.length≤1000000)(hdl:dl.length≤10000)(hs:dl.Pairwise (· < ·))(a n:Nat)(x:Nat)(hx:x<18446744073709551616)(h':YY b a n=true):SCall Tryz.prog 40 [.ptr m 0,.int .i64 a,.int .i64 n,.int .u64 x] [(m,.box 169 [.own q 0 (b).length,.int .i64 (mo),.own d 0 (dl).length]),(q,.arr 5 1 ((b).map aG)),(d,.arr 3 1 ((dl).map aK))]
  (fun y σ=>∃e,(Nq e m∧Nq e q)∧y=.bool true∧σ=[(m,.box 169 [.own q 0 (JY b a x n).length,.int .i64 (mo),.own e 0 (stD dl a n).length]),(q,.arr 5 1 ((JY b a x n).map aG)),(e,.arr 3 1 ((stD dl a n).map aK))]):=by
 obtain⟨hN1,hN2,hN3⟩:=hN;have hbd:=aET h';refine bS 44 [0,1,2,3,8,9,14,15,16,17] Tryz.func40 ?_;refine lL ?_;refine lo (aF (E rfl)) rfl ?_;refine pu [m,q,d] Tryz.call100 (aES b mo dl hb a n) rfl ?_ aS ?_
 ·exact aP
 rw[h'];refine nQ ?_;refine dG ?_;refine iI ?_;refine lp (β:=Nat) (fun k=>⟨[(0,.ptr m 0),(1,.int .i64 a),(2,.int .i64 n),(3,.int .u64 x),(8,.bool false),(15,.int .i64 n),(16,.int .i64 k)],[(m,.box 169 [.own q 0 (JY b a x k).length,.int .i64 (mo),.own d 0 (dl).length]),(q,.arr 5 1 ((JY b a x k).map aG)),(d,.arr 3 1 ((dl).map aK))]⟩) (fun k=>k≤n) (fun k=>n-k) 0 ?_ (Nat.zero_le _) ?_
 ·rw[show JY b a x 0=b from rfl];exact aJ
 rintro k hk;refine gA ?_;have hsl:=MX b a x k;refine aB rfl (fun h2=> ?_) (fun h2=> ?_)
 ·have hlt:k<n:=by simp at h2;omega
  have e1:((a:Int)+(k:Int)).toNat=a+k:=by omega
  have e2:=aHV (x:=x) (k:=k) (by omega) hx;have e3:IntKind.i64.wrap (8*(k:Int))=8*k:=fX (by omega) (by omega);obtain⟨z,hz⟩:∃z,(JY b a x k)[((a:Int)+(k:Int)).toNat]? =some z:=⟨_,List.getElem?_eq_getElem (by omega)⟩
  refine eW ?_;refine fJ [(0,true),(1,true),(2,true),(3,true),(4,true),(5,true),(6,true),(7,true),(8,true),(9,true),(10,true),(11,true),(12,true),(13,false)] ?_;refine mQ ?_;refine lF ?_;refine WW ?_;refine lF ?_;refine fP rfl (jX (E rfl) (E rfl)) rfl ?_;refine fP rfl (KE (E rfl) (E rfl) (fun _=>by first|decide|omega)) rfl ?_;first|refine fP rfl (kF (E rfl) (DP (by omega) (by omega))) rfl ?_ |refine fP rfl (uK (E rfl)) rfl ?_
  refine z56 ?_;apply aCP;rfl;infer_instance;rfl;rfl;rfl;rfl;exact cE;exact atT;exact BM;rfl;exact eM;refine CC ?_;refine jH ?_;refine⟨k+1,hlt,by show n-(k+1)<n-k;omega, ?_⟩;rw[e3,e2,e1,aCj,←show JY b a x (k+1)=(JY b a x k).set (a+k) (x / 256^k%256)from rfl,hsl,←MX b a x (k+1)];exact aJ
 obtain rfl:k=n:=by simp at h2;omega
 have hq1:=MU (n:=a) (by omega);have hq2:=MU (n:=a+k-1) (by omega);have hk1:((a:Int)+(k:Int)-1)=((a+k-1:Nat):Int):=by omega
 refine dG ?_;refine z20 ?_;rw[hq1];refine cw [(m,.box 169 [.own q 0 (JY b a x k).length,.int .i64 (mo),.own d 0 (dl).length]),(q,.arr 5 1 ((JY b a x k).map aG)),(d,.arr 3 1 ((dl).map aK))] Tryz.call101 (JX ⟨hN1,hN2,hN3⟩ (JY b a x k) mo dl (by omega) hs ((a / 256:Nat):Int)) rfl ?_ ?_ ?_
 ·exact aC
 ·exact aA
 rintro y σ' ⟨e,⟨he1,he2⟩,rfl⟩-;refine jG ?_;have htl:=TO dl ((a / 256:Nat):Int);have hts:=HY hs ((a / 256:Nat):Int);refine kQ ?_;refine lo (aF (E rfl)) rfl ?_;refine NR ?_;refine tF ?_;refine z20 ?_;rw[hk1,hq2];refine cw [(m,.box 169 [.own q 0 (JY b a x k).length,.int .i64 (mo),.own e 0 (nA dl ((a / 256:Nat):Int)).length]),(q,.arr 5 1 ((JY b a x k).map aG)),(e,.arr 3 1 ((nA dl ((a / 256:Nat):Int)).map aK))] Tryz.call101 (JX ⟨hN1,by(exact cA),by(exact cA)⟩ (JY b a x k) mo _ (by omega) hts (((a+k-1) / 256:Nat):Int)) rfl ?_ ?_ ?_
 ·exact aC
 ·exact aA
 rintro y2 σ2 ⟨e2,⟨k1,k2⟩,rfl⟩-;refine xD ?_;refine bF ?_;exact aD aE ⟨e2,by exact⟨by(exact cA),by(exact cA)⟩,by rfl,rfl⟩ aA
theorem ZA(hN:Nq q m∧Nq d m∧Nq d q)(b:List Nat)(mo:Int)(dl:List Int):SCall Tryz.prog 99 [.ptr m 0] [(m,.box 169 [.own q 0 (b).length,.int .i64 (mo),.own d 0 (dl).length]),(q,.arr 5 1 ((b).map aG)),(d,.arr 3 1 ((dl).map aK))]
  (fun x σ=>∃e,(Nq e m∧Nq e q)∧σ=[(m,.box 169 [.own q 0 (b).length,.int .i64 (mo),.own e 0 (([]:List Int)).length]),(q,.arr 5 1 ((b).map aG)),(e,.arr 3 1 ((([]:List Int)).map aK))]):=by
 obtain⟨hN1,hN2,hN3⟩:=hN;refine bS 7 [0,3] Tryz.func99 ?_;refine aFb ?_;refine oR ?_;refine tZ ?_;apply MZ;rfl;rfl;rfl;rfl;exact mP;refine NO m 2 3 1 (by decide) bC rfl (by decide) fun e he=> ?_
 simp only[aO,aT,and_true]at he;repeat rcases he with⟨_,he⟩
 apply Exists.intro;apply And.intro;exact cE;refine iI ?_;exact aD aE ⟨e,by exact⟨by(exact cA),by(exact cA)⟩,rfl⟩ aA
theorem ZB:SCall Tryz.prog 99 [.nilp] [] (fun x σ=>σ=[]):=by
 refine bS 7 [0,3] Tryz.func99 ?_;refine aFb ?_;refine iI ?_;apply aD;exact aE
 ·exact rfl
 ·exact aA
end
end Go.Proofs.YtjpdadobblffmaaGreat
namespace Go.Proofs.YtjpdadobblffmaaGreat
open Go.RowKit Go.ChangeShapes Go.WideShapes Go.ChangeAt Go.Deep
theorem ZC{l:List Nat}:∀e∈l.map aG,∀x∈e,NoF x:=by
 intro e he x hx;obtain⟨n,-,rfl⟩:=List.mem_map.1 he;simp[aG]at hx;subst hx;exact NoF.int
theorem aCk{l:List Int}:∀e∈l.map aK,∀x∈e,NoF x:=by
 intro e he x hx;obtain⟨n,-,rfl⟩:=List.mem_map.1 he;simp[aK]at hx;subst hx;exact NoF.int
attribute [local irreducible] SW RS RD fF eB
def FP (b:List Nat) (i:Nat):List Nat:=(b.drop (256*i)).take 256
theorem JZ{b:List Nat}{i:Nat}(h:i<b.length / 256):(FP b i).length=256:=by simp[FP];omega
theorem aCl(b:List Nat)(mo:Int)(dl:List Int)(hb:b.length≤1000000)(i:Nat)(h':i<b.length / 256):SCall Tryz.prog 103 [.el 3 [[.ro 1 ((b).map aG) .any,.int .i64 mo,.ro 1 ((dl).map aK) .any]] 0 0,.int .i64 i] []
  (fun x σ=>∃r,x=.own r 0 256∧σ=[(r,.arr 5 1 ((FP b i).map aG))]):=by
 refine bS 24 [0,1,4,12] Tryz.func103 ?_;refine eX ?_;refine OI ?_;refine z4 ?_
 (first|refine pu [] Tryz.call98 (wL b mo dl hb) rfl bU aS ?_ |refine vX [] rfl rfl Tryz.call98 (fun _=>(wL b mo dl hb)) rfl bU aS ?_)
 (first|refine ln rfl rfl rfl rfl ?_ |refine lg rfl rfl (gC (W rfl id) (by first|exact W rfl id|exact E rfl)) rfl ?_);refine RQ ?_;refine iI ?_;rw[show decide (((b.length / 256:Nat):Int)≤i)=false from decide_eq_false (by omega)];have e1:IntKind.i64.wrap ((i:Int)*256)=((256*i:Nat):Int):=by rw[fX (by omega) (by omega)];omega
 have e2:IntKind.i64.wrap (((i:Int)+1)*256)=((256*i+256:Nat):Int):=by rw[fX (by omega) (by omega)];omega
 refine cX ?_;refine DU ?_;refine lo (jX (E rfl) (E rfl)) rfl ?_;rw[e1];refine lo (aF (E rfl)) rfl ?_;refine NR ?_;refine lo (jX (E rfl) (E rfl)) rfl ?_;rw[e2];first|refine lo (eS (E rfl) (OB.some (E rfl) (fun _=>by first|rfl|exact(Int.toNat_of_nonneg (by omega)).symm)) (OB.some (E rfl) (fun _=>by first|rfl|exact(Int.toNat_of_nonneg (by omega)).symm)) (fun _=>by first|(simp only[List.length_map];omega)|omega)) rfl ?_ |refine lo (eH (E rfl) bC (OB.some (E rfl) (fun _=>by first|rfl|exact(Int.toNat_of_nonneg (by omega)).symm)) (OB.some (E rfl) (fun _=>by first|rfl|exact(Int.toNat_of_nonneg (by omega)).symm)) (fun _=>by first|(simp only[List.length_map];omega)|omega)) rfl ?_
 have hpl:=JZ h';rw[show 256*i+256-256*i=256 by omega,←List.map_drop,←List.map_take,←show FP b i=(b.drop (256*i)).take 256 from rfl];refine cl [] Tryz.call210 (MT (es:=(FP b i).map aG) (by simp[hpl])) rfl ?_ ?_ ?_
 ·exact bM
 ·rintro x σ' ⟨r,rfl,rfl⟩;refine⟨NoF.own, ?_⟩;simp only[List.mem_singleton,forall_eq];exact ZC
 rintro x σ' ⟨r,rfl,rfl⟩ hr;rw[List.length_map,hpl];refine eY ?_;exact aD aE ⟨r,by rfl,rfl⟩ aA
theorem ZD(b:List Nat)(mo:Int)(dl:List Int)(hdl:dl.length≤10000):SCall Tryz.prog 49 [.el 3 [[.ro 1 ((b).map aG) .any,.int .i64 mo,.ro 1 ((dl).map aK) .any]] 0 0] []
  (fun x σ=>∃r,x=.own r 0 dl.length∧σ=[(r,.arr 3 1 (dl.map aK))]):=by
 refine bS 10 [0,2,4] Tryz.func49 ?_;refine bF ?_;refine KS ?_;refine oR ?_;refine gY ?_;refine cl [] Tryz.call105 (FN (es:=dl.map aK) (by simp;omega)) rfl ?_ ?_ ?_
 ·exact bM
 ·rintro x σ' ⟨r,rfl,rfl⟩;refine⟨NoF.own, ?_⟩;simp only[List.mem_singleton,forall_eq];exact aCk
 rintro x σ' ⟨r,rfl,rfl⟩ hr;rw[List.length_map];refine eY ?_;exact aD aE ⟨r,by rfl,rfl⟩ aA
def jN (mx:Int):Int:=if mx=-1 then 16 else max (min 16 mx) (-1)
theorem TP(h:Bool)(mn mx:Int)(h':h=false∨mn<0∨16<mn):SCall Tryz.prog 96 [.agg [.bool h,.int .i64 mn,.int .i64 mx]] []
  (fun x σ=>x=.nilp∧σ=[]):=by
 refine bS 38 [0,1,2,3,16,25] Tryz.func96 ?_;refine cZ ?_;refine gQ fun r1 h1=> ?_;intros
 refine iJ ?_;refine lo (eI (E rfl)) rfl ?_;refine lN ?_;refine z69 ?_;refine RQ ?_;refine lN ?_;refine z18 ?_;refine RQ ?_;refine iI ?_;refine aB rfl (fun h2=> ?_) (fun h2=> ?_)
 ·refine bF ?_;exact aD aE ⟨by rfl,rfl⟩ aA
 ·exfalso;rcases h' with rfl|h'|h'
  ·simp at h2
  ·simp[h']at h2
  ·simp[h']at h2
theorem aEV(mn:Nat)(mx:Int)(h':mn≤16):SCall Tryz.prog 96 [.agg [.bool true,.int .i64 mn,.int .i64 mx]] []
  (fun x σ=>∃m q d,(Nq q m∧Nq d m∧Nq d q)∧x=.ptr m 0∧σ=[(m,.box 169 [.own q 0 (List.replicate (256*mn) 0).length,.int .i64 (jN mx),.own d 0 (([]:List Int)).length]),(q,.arr 5 1 ((List.replicate (256*mn) 0).map aG)),(d,.arr 3 1 ((([]:List Int)).map aK))]):=by
 refine bS 38 [0,1,2,3,16,25] Tryz.func96 ?_;refine cZ ?_;refine gQ fun r1 h1=> ?_;intros
 refine iJ ?_;refine lo (eI (E rfl)) rfl ?_;refine lN ?_;refine z69 ?_;refine RQ ?_;refine lN ?_;refine z18 ?_;refine RQ ?_;refine iI ?_;refine aB rfl (fun h2=> ?_) (fun _=> ?_)
 ·exfalso;simp at h2;omega
 have e1:IntKind.i64.wrap ((mn:Int)*256)=((256*mn:Nat):Int):=by rw[fX (by omega) (by omega)];omega
 refine fT ?_;refine lo (jX (E rfl) (E rfl)) rfl ?_;rw[e1];apply mk (l:=256*mn) (z:=aG 0);rfl;rfl;rfl;rfl
 ·omega
 ·simp[maxLen];omega
 ·rfl
 ·rfl
 refine iT fun r20 h20=> ?_;intros
 rw[←show(List.replicate (256*mn) 0).map aG=List.replicate (256*mn) (aG 0) by simp];refine lE ?_;refine gQ fun r22 h22=> ?_;intros
 refine uT ?_;refine cH (ks:=[0,1,2,3,16,25]) r22 2 3 1 (by decide) bC rfl (by decide) fun d hd=> ?_
 simp only[aO,aT,and_true]at hd;repeat rcases hd with⟨_,hd⟩
 apply Exists.intro;apply And.intro;exact cE;refine fT ?_;refine qH ?_;refine aB rfl (fun h2=> ?_) (fun h2=> ?_)
 ·have hm:jN mx=if(if mx<16 then mx else 16)< -1 then-1 else if mx<16 then mx else 16:=by
   unfold jN;rw[if_neg (fun e=>by rw[e]at h2;simp at h2)];simp only[Int.max_def,Int.min_def]
   (repeat' split)<;>omega
  refine aI ?_;refine fJ [(0,true),(1,true),(2,true),(3,true),(4,true),(5,true),(6,true),(7,true),(8,true),(9,true),(10,true),(11,false)] ?_;refine CF ?_;refine iC ?_;refine fP rfl (aCN (E rfl) (E rfl)) rfl ?_;refine fP rfl (CQ (E rfl) (E rfl)) rfl ?_;refine rI ?_;refine CC ?_;refine eW ?_;apply aD;exact aE
  ·exact⟨r22,r20,d,⟨by(exact cA),by(exact cA),by(exact cA)⟩,rfl,rfl⟩
  ·rw[hm,List.length_replicate];exact aA
 ·have hm:jN mx=16:=by
   unfold jN;rw[if_pos];simpa using h2
  refine eW ?_;apply aD;exact aE
  ·exact⟨r22,r20,d,⟨by(exact cA),by(exact cA),by(exact cA)⟩,rfl,rfl⟩
  ·rw[hm,List.length_replicate];exact aA
def gX {σ α:Type} (f:σ→α→Option σ):σ→List α→Option σ
 |s,[]=>some s
 |s,a::l=>match f s a with|none=>none|some t=>gX f t l
theorem FQ{σ α:Type}{f:σ→α→Option σ}:∀ {a b:List α} {s:σ},gX f s (a++b)=(gX f s a).bind fun t=>gX f t b
 |[],b,s=>rfl
 |x::a,b,s=>by
  simp only[List.cons_append,gX];cases h:f s x with
  |none=>rfl
  |some t=>exact FQ
theorem wM{σ α:Type}{f:σ→α→Option σ}{l:List α}{s t u:σ}{j:Nat}{x:α}(h:gX f s (l.take j)=some t)(hx:l[j]? =some x)(hf:f t x=some u):gX f s (l.take (j+1))=some u:=by
 rw[List.take_add_one,hx,FQ,h];show gX f t [x]=some u;simp[gX,hf]
theorem wN{σ α:Type}{f:σ→α→Option σ}{l:List α}{s t:σ}{j:Nat}{x:α}(h:gX f s (l.take j)=some t)(hx:l[j]? =some x)(hf:f t x=none):gX f s l=none:=by
 obtain⟨hlt,he⟩:=List.getElem?_eq_some_iff.1 hx;have hl:l=l.take j++x::l.drop (j+1):=by rw[←he,←List.drop_eq_getElem_cons hlt,List.take_append_drop]
 rw[hl,FQ,h];show gX f t (x::l.drop (j+1))=none;simp[gX,hf]
def GS (t:List Int) (e:El):Option (List Int):=if BC t e.off e.fs.length=true then some (CM t e.off e.fs)else none
theorem aEW{t u:List Int}{e:El}(h:GS t e=some u):u.length=t.length:=by
 unfold GS at h;split at h
 ·cases h;exact AB _ _ _
 ·cases h
def kO:List Nat→Nat→List Nat→List Nat
 |b,_,[]=>b
 |b,o,c::l=>kO (b.set o c) (o+1) l
theorem sD:∀ {l b:List Nat} {o:Nat},(kO b o l).length=b.length
 |[],_,_=>rfl
 |c::l,b,o=>by rw[kO,sD,List.length_set]
theorem FR:∀ {l b:List Nat} {o c:Nat},kO b o (l++ [c])=(kO b o l).set (o+l.length) c
 |[],_,_,_=>rfl
 |x::l,b,o,c=>by rw[List.cons_append,kO,kO,FR,List.length_cons,show o+1+l.length=o+(l.length+1) by omega]
theorem TQ{l b:List Nat}{o j c:Nat}(h:l[j]? =some c):kO b o (l.take (j+1))=(kO b o (l.take j)).set (o+j) c:=by
 have hj:(l.take j).length=j:=by have:=(List.getElem?_eq_some_iff.1 h).1;simp;omega
 rw[List.take_add_one,h,Option.toList_some,FR,hj]
def HZ (b:List Nat) (d:Da):Option (List Nat):=if d.off<0∨(b.length:Int)-d.bs.length<d.off then none else some (kO b d.off.toNat d.bs)
theorem aEX{b c:List Nat}{d:Da}(h:HZ b d=some c):c.length=b.length:=by
 unfold HZ at h;split at h
 ·cases h
 ·cases h;exact sD
theorem aEY{b:List Nat}{a c:Nat}(h:c<256):JY b a c 1=b.set a c:=by
 show(JY b a c 0).set (a+0) (c / 256^0%256)=b.set a c;rw[show JY b a c 0=b from rfl,Nat.pow_zero,Nat.div_one,Nat.mod_eq_of_lt h,Nat.add_zero]
def dl1 (dl:List Int):Prop:=dl=[]∨dl=[0]
theorem aEZ{dl:List Int}{a:Nat}(h:dl1 dl)(ha:a<256):stD dl a 1=[0]:=by
 unfold stD;rw[show a / 256=0 by omega,show(a+1-1) / 256=0 by omega];rcases h with rfl|rfl<;>rfl
theorem aCm{dl:List Int}(h:dl1 dl):dl.length≤10000∧dl.Pairwise (· < ·):=by
 rcases h with rfl|rfl<;>simp
def jA (m:Md) (p s j:AV):List AV:=aZ m++ [p,s,j]
def MY (k:Nat):List Nat:=List.replicate k 0
def AD (_:Nat):List AV:=[.mro [] []]
theorem WH{k:Nat}:(MY k).length=k:=List.length_replicate
theorem QX{k:Nat}:MY k++ [0]=MY (k+1):=by unfold MY;rw[List.replicate_succ']
def lD (m:Md) (p s:AV):List AV:=jA m p s (.ro 1 ((MY m.co.length).map AD) .any)
theorem WI{σ:dC}{ts:List Nat}{m:Md}{p s x y:AV}(h:Bor σ ts x y):BorL σ ts (jA m p s x) (jA m p s y):=
 .cons (.refl _) (.cons (.refl _) (.cons (.refl _) (.cons (.refl _) (.cons (.refl _) (.cons (.refl _) (.cons (.refl _) (.cons (.refl _) (.cons (.refl _) (.cons (.refl _) (.cons (.refl _) (.cons (.refl _) (.cons (.refl _) (.cons (.refl _) (.cons (.refl _) (.cons (.refl _) (.cons h .nil))))))))))))))))
theorem aCn{σ:dC}{r:Nat}{ks:List Int}{xs:List AV}(hg:fZ σ r=some (.map ks xs)):Bor σ [r] (.mp r) (.mro ks xs):=
 .mp (fun j=>xs[j]?.getD .nilp) (List.mem_singleton.2 rfl) hg rfl (fun j a h=>by rw[h];rfl) (fun j a' h=>by rw[h];exact .refl _)
theorem KA{σ σ':dC}(h:∀p,p∈σ'→(∃q,q∈([]:dC)∧q.1=p.1)∨Fresh p.1 σ):∀p∈σ',Fresh p.1 σ:=fun p hp=>(h p hp).resolve_left fun⟨_,hq,_⟩=>absurd hq (List.not_mem_nil)
theorem WJ{m:Md}(h:gB m=-1):kD m=true:=by
 unfold gB at h;cases hm:kD m with
 |true=>rfl
 |false=>rw[if_pos hm]at h;cases h
theorem TR{m:Md}(h:oO m=true):m.tb.has=true→0≤m.tb.mn∧m.tb.mn≤1000:=by
 intro hh;unfold oO at h;simp only[Bool.and_eq_true]at h;have h3:=h.1.2;unfold kI at h3;rw[if_pos hh]at h3;simp only[Bool.and_eq_true,decide_eq_true_eq]at h3;omega
theorem aHW{m:Md}(h:oO m=true):CL m≤1000:=by
 unfold CL;split
 ·next hh=>have:=TR h hh;omega
 ·omega
def memZ:List Nat:=List.replicate 256 0
structure NX (x mm q d s t g:Nat):Prop where
 x1:Nq x mm
 x2:Nq x q
 x3:Nq x d
 x4:Nq x s
 x5:Nq x t
 x6:Nq x g
 m1:Nq q mm
 m2:Nq d mm
 m3:Nq d q
 s1:Nq t s
 s2:Nq g s
 s3:Nq g t
 a1:Nq s mm
 a2:Nq s q
 a3:Nq s d
 b1:Nq t mm
 b2:Nq t q
 b3:Nq t d
 c1:Nq g mm
 c2:Nq g q
 c3:Nq g d
def nD (m:Md):List (Int×Int):=m.gl.map fun x=>(x.kd,x.n)
def QY (m:Md) (tb:List Int) (b:List Nat) (x mm q d s t g:Nat):dC:=[(x,.box 157 (lD m (.ptr mm 0) (.ptr s 0))),(mm,.box 169 [.own q 0 (b).length,.int .i64 (jN 3),.own d 0 (([]:List Int)).length]),(q,.arr 5 1 ((b).map aG)),(d,.arr 3 1 ((([]:List Int)).map aK)),(s,.box 165 [.own t 0 (tb).length,.own g 0 (nD m).length]),(t,.arr 3 1 ((tb).map aK)),(g,.arr 71 2 ((nD m).map fL))]
def aE0 (m:Md) (y:AV) (σ:dC):Prop:=
 (gX GS (List.replicate (CL m) (-1)) m.el=none∧y=.tup [.nilp,.int .i64 3]∧σ=[])∨
 ∃tb,gX GS (List.replicate (CL m) (-1)) m.el=some tb∧
  ((gX HZ memZ m.da=none∧y=.tup [.nilp,.int .i64 3]∧σ=[])∨
  ∃b,gX HZ memZ m.da=some b∧∃x mm q d s t g,NX x mm q d s t g∧y=.tup [.ptr x 0,.int .i64 0]∧σ=QY m tb b x mm q d s t g)
end Go.Proofs.YtjpdadobblffmaaGreat
namespace Go.Proofs.YtjpdadobblffmaaGreat
open Go.RowKit Go.ChangeShapes Go.WideShapes Go.ChangeAt Go.Deep
attribute [local irreducible] SW RS RD fF eB
theorem aCo(m:Md)(wa:m.WO)(hz:m.Z)(hv:(gB m==-1)=false):SCall Tryz.prog 37 [.agg (aZ m)] [] (fun y σ=>y=.tup [.nilp,.int .i64 6]∧σ=[]):=by
 have hvm:=kZ m wa hz;rw[hv]at hvm;refine bS 151 [0,1,2,3,5,6,8,10,11,12,14,15,17,19,26,40,41,42,43,55,61,62,63,64,84,86,87,88,89,115,116,117,118,128,129,130,131] Tryz.func37 ?_;refine cZ ?_;refine gQ fun r1 h1=> ?_;intros
 refine qL ?_;refine kP ?_;refine lB Tryz.call28 hvm rfl aP aS ?_;refine sK ?_;refine nS ?_;refine lo (eI (E rfl)) rfl ?_;refine pO ?_;refine cZ ?_;refine jF ?_;exact aD aE ⟨by rfl,rfl⟩ aA
theorem KB(m:Md)(wa:m.WO)(hz:m.Z)(hv:gB m=-1)(hme:m.me=⟨true,1,3⟩)(hco:∀c∈m.co,UQ (dA c.bd)=[]):SCall Tryz.prog 37 [.agg (aZ m)] [] (aE0 m):=by
 have hm:kD m=true:=WJ hv;have hGG:=aBJ (vL hm).1 wa;have hT4:=aHW (vL hm).1;have hq1:=hGG.el.1;have hq2:=hGG.da.1;have hq3:=hGG.co.1;have hcp:=BX m wa hm;have hvm:=kZ m wa hz;rw[hv,show((-1:Int)==-1)=true from rfl]at hvm;have hsp:=FK m (TR (vL hm).1) (by have:=hGG.gl.1;omega);have hmn:SCall Tryz.prog 96 [.agg [.bool m.me.has,.int .i64 m.me.mn,.int .i64 m.me.mx]] []
   (fun x σ=>∃a q d,(Nq q a∧Nq d a∧Nq d q)∧x=.ptr a 0∧σ=[(a,.box 169 [.own q 0 (List.replicate (256*1) 0).length,.int .i64 (jN 3),.own d 0 (([]:List Int)).length]),(q,.arr 5 1 ((List.replicate (256*1) 0).map aG)),(d,.arr 3 1 ((([]:List Int)).map aK))]):=by
  rw[hme];exact aEV 1 3 (by omega)
 refine bS 151 [0,1,2,3,5,6,8,10,11,12,14,15,17,19,26,40,41,42,43,55,61,62,63,64,84,86,87,88,89,115,116,117,118,128,129,130,131] Tryz.func37 ?_;refine cZ ?_;refine gQ fun r1 h1=> ?_;intros
 refine qL ?_;refine kP ?_;refine lB Tryz.call28 hvm rfl aP aS ?_;refine sK ?_;refine nS ?_;refine nQ ?_;refine fJ [(0,true),(2,true),(3,true),(5,true),(1,false),(4,false),(6,false),(7,true),(8,false),(9,true)] ?_;refine IQ ?_;refine RJ ?_;refine IQ ?_;refine IQ ?_;refine pD [] rfl Tryz.call95 hcp rfl aC aA eM ?_;rintro _ σ' ⟨rfl,rfl⟩ h28;apply bQ;exact bD;refine pD [] rfl Tryz.call96 hmn rfl aC aA eM ?_;rintro _ σ' ⟨mm,q,d,⟨n1,n2,n3⟩,rfl,rfl⟩ h31
 replace h31:=KA h31;replace h31:=cB h31;repeat rcases h31 with⟨_,h31⟩
 apply bQ;exact bD;refine pD [] rfl Tryz.call97 hsp rfl aC aA eM ?_;rintro _ σ' ⟨s,t,g,⟨n4,n5,n6⟩,rfl,rfl⟩ h33
 replace h33:=KA h33;replace h33:=cB h33;repeat rcases h33 with⟨_,h33⟩
 apply bQ;exact bD;refine z94 ?_;refine fz5 fun r35 h35=> ?_;intros
 refine wQ ?_;obtain⟨T0,hT0,hT1,hT2⟩:∃T:List Int,T=List.replicate (CL m) (-1)∧T.length=CL m∧T.map aK=List.replicate (CL m) [AV.int .i64 (-1)]:=⟨_,rfl,by simp,by simp[aK]⟩
 obtain⟨G,hG0,hG1,hG2⟩:∃G:List (Int×Int),G=nD m∧G.length=m.gl.length∧G.map fL=m.gl.map QU:=⟨_,rfl,by simp[nD],by unfold nD;rw[List.map_map];rfl⟩
 obtain⟨B0,hB0,hB1⟩:∃B:List Nat,List.replicate (256*1) 0=B∧B.length=256:=⟨_,rfl,by simp⟩
 have hBZ:memZ=B0:=hB0;rw[←hT2,←hT1,←hG2,←hG1,hB0];refine fV ?_;refine tZ ?_;refine tN ?_;refine lp (β:=Nat×List Int) (fun b=>⟨[(6,.ptr r35 0),(40,.ro 2 (m.el.map eQ) .any),(41,.int .i64 m.el.length),(42,.int .i64 b.1)],[(r35,.box 157 (jA m (.ptr mm 0) (.ptr s 0) (.ro 0 [] .nil))),(mm,.box 169 [.own q 0 (B0).length,.int .i64 (jN 3),.own d 0 (([]:List Int)).length]),(q,.arr 5 1 ((B0).map aG)),(d,.arr 3 1 ((([]:List Int)).map aK)),(s,.box 165 [.own t 0 (b.2).length,.own g 0 (G).length]),(t,.arr 3 1 ((b.2).map aK)),(g,.arr 71 2 ((G).map fL))]⟩) (fun b=>b.1≤m.el.length∧gX GS T0 (m.el.take b.1)=some b.2∧b.2.length=CL m) (fun b=>m.el.length-b.1) (0,T0) aJ ⟨Nat.zero_le _,rfl,hT1⟩ ?_;rintro⟨j,tb⟩ ⟨hj,hr,hl⟩;dsimp only at hj hr hl⊢;refine gA ?_;refine aB rfl (fun g6=> ?_) (fun g6=> ?_)
 ·have hlt:j<m.el.length:=by simpa using g6
  obtain⟨⟨off,fs⟩,hx⟩:∃x,m.el[j]? =some x:=⟨_,List.getElem?_eq_getElem hlt⟩
  have hfl:=(hGG.el.2 _ (List.mem_of_getElem? hx)).2.1;dsimp only at hfl;refine pB ?_;refine iO fun r8 h8=> ?_;intros
  refine gT ?_;refine fJ [(0,true),(1,true),(2,true),(3,true),(4,true),(5,true),(6,true),(7,true),(8,false),(9,true)] ?_;refine mQ ?_;refine iC ?_;refine iC ?_;refine pD [(s,.box 165 [.own t 0 (tb).length,.own g 0 (G).length]),(t,.arr 3 1 ((tb).map aK)),(g,.arr 71 2 ((G).map fL))] rfl Tryz.call41 (FL n4 n5 n6 tb G (by omega) off fs (by omega)) rfl aC aA eM ?_;rintro _ σ' ⟨rfl,rfl⟩ h54;apply bQ;exact bD;refine fP rfl (eI (E rfl)) rfl ?_;refine jI ?_;refine aB rfl (fun g8=> ?_) (fun g8=> ?_)
  ·refine aI ?_;have hN:∀y σ,y=AV.tup [.nilp,.int .i64 3]→σ=[]→aE0 m y σ:=fun _ _ h1 h2=>.inl ⟨by rw[←hT0];exact wN hr hx (by unfold GS;exact if_neg (by simpa using g8)),h1,h2⟩
   refine oZ ?_;apply aD;exact aE
   ·exact hN _ _ rfl rfl
   ·exact aA
  refine jH ?_;refine⟨(j+1,CM tb off fs),⟨hlt,wM hr hx (by unfold GS;exact if_pos (by simpa using g8)),by rw[AB];exact hl⟩,by show m.el.length-(j+1)<m.el.length-j;omega, ?_⟩;dsimp only;exact aJ
 obtain rfl:j=m.el.length:=by simp at g6;omega
 rw[List.take_length,hT0]at hr;refine qJ ?_;refine tN ?_;refine lp (β:=Nat×List Nat×List Int×Nat) (fun b=>⟨[(6,.ptr r35 0),(61,.ro 2 (m.da.map eO) .any),(62,.int .i64 m.da.length),(63,.int .i64 b.1)],[(r35,.box 157 (jA m (.ptr mm 0) (.ptr s 0) (.ro 0 [] .nil))),(mm,.box 169 [.own q 0 (b.2.1).length,.int .i64 (jN 3),.own b.2.2.2 0 (b.2.2.1).length]),(q,.arr 5 1 ((b.2.1).map aG)),(b.2.2.2,.arr 3 1 ((b.2.2.1).map aK)),(s,.box 165 [.own t 0 (tb).length,.own g 0 (G).length]),(t,.arr 3 1 ((tb).map aK)),(g,.arr 71 2 ((G).map fL))]⟩) (fun b=>b.1≤m.da.length∧gX HZ B0 (m.da.take b.1)=some b.2.1∧b.2.1.length=256∧dl1 b.2.2.1∧Nq b.2.2.2 mm∧Nq b.2.2.2 q∧Nq b.2.2.2 r35∧Nq b.2.2.2 s∧Nq b.2.2.2 t∧Nq b.2.2.2 g) (fun b=>m.da.length-b.1) (0,B0,[],d) aJ ⟨Nat.zero_le _,rfl,hB1,.inl rfl,n2,n3,by show Nq d r35;(exact cA),by show Nq d s;(exact cA),by show Nq d t;(exact cA),by show Nq d g;(exact cA)⟩ ?_;rintro⟨j,B,dl,e⟩ ⟨hj,hd,hb,hdl,k1,k2,k3,k4,k5,k6⟩;dsimp only at hj hd hb hdl k1 k2 k3 k4 k5 k6⊢;refine gA ?_;refine aB rfl (fun g12=> ?_) (fun g12=> ?_)
 ·have hlt:j<m.da.length:=by simpa using g12
  obtain⟨⟨off,us⟩,hx⟩:∃x,m.da[j]? =some x:=⟨_,List.getElem?_eq_getElem hlt⟩
  have hul:=hGG.da.2 _ (List.mem_of_getElem? hx);have huu:=wa.w.da _ (List.mem_of_getElem? hx);simp only[gI,Bool.and_eq_true,decide_eq_true_eq]at hul huu;refine pB ?_;refine iO fun r10 h10=> ?_;intros
  refine gT ?_;dsimp only;refine fJ [(0,true),(1,true),(2,true),(3,true),(4,true),(5,true),(6,true),(7,true),(8,true),(9,true),(12,true),(13,true),(14,true),(10,false),(11,true),(15,true),(16,true),(17,true)] ?_;refine iC ?_;refine z46 ?_;refine DX ?_;refine yS ?_;refine sJ ?_;refine sq4 ?_;refine yS ?_;refine HF ?_;refine UE ?_;refine aI9 rfl rfl rfl Tryz.call98 (fun _=>(wL B (jN 3) dl (by omega))) rfl aP aS ?_;rw[show((B.length / 256:Nat):Int)=1 by rw[hb];rfl]
  (first|refine nO rfl rfl rfl rfl rfl ?_ |(refine gD rfl rfl rfl (jX (by first|exact W rfl id|exact E rfl) (E rfl)) rfl ?_)|refine fQ rfl rfl rfl (jX (by first|exact W rfl id|exact E rfl) (E rfl)) rfl ?_);rw[show IntKind.i64.wrap (1*256)=256 from rfl];first|refine nO rfl rfl rfl rfl rfl ?_ |(first|refine gD rfl rfl rfl (mC (by first|exact W rfl id|exact E rfl) (by first|exact W rfl id|exact E rfl) (by omega) (by omega)) rfl ?_ |refine gD rfl rfl rfl (sF (by first|exact W rfl id|exact E rfl) (by first|exact W rfl id|exact E rfl)) rfl ?_)|refine fQ rfl rfl rfl (mC (by first|exact W rfl id|exact E rfl) (by first|exact W rfl id|exact E rfl) (by omega) (by omega)) rfl ?_ |refine fQ rfl rfl rfl (xP (by first|exact W rfl id|exact E rfl) (by first|exact W rfl id|exact E rfl) (fun hc=>by simp at hc<;>first|omega|(have hov:=hov hc;omega))) rfl ?_ |refine fQ rfl rfl rfl (sF (by first|exact W rfl id|exact E rfl) (by first|exact W rfl id|exact E rfl)) rfl ?_
  refine aGp ?_;refine jI ?_;refine aB rfl (fun g14=> ?_) (fun g14=> ?_)
  ·have hf:off<0∨(256:Int)-us.length<off:=by
    by_cases h:off<0
    ·exact .inl h
    ·simp[h]at g14;exact .inr (by omega)
   refine aI ?_;have hN:∀y σ,y=AV.tup [.nilp,.int .i64 3]→σ=[]→aE0 m y σ:=fun _ _ h1 h2=>.inr ⟨tb,hr,.inl ⟨by rw[hBZ];exact wN hd hx (by unfold HZ;exact if_pos (by rw[hb];exact hf)),h1,h2⟩⟩
   refine oZ ?_;apply aD;exact aE
   ·exact hN _ _ rfl rfl
   ·exact aA
  have hf:0≤off∧off+us.length≤256:=by
   by_cases h:off<0
   ·simp[h]at g14
   ·simp[h]at g14;omega
  refine fT ?_;refine nR ?_;refine lp (β:=Nat×List Int×Nat) (fun b=>⟨[(6,.ptr r35 0),(10,.ptr r10 0),(61,.ro 2 (m.da.map eO) .any),(62,.int .i64 m.da.length),(63,.int .i64 j),(86,.ro 1 (us.map aG) .any),(87,.int .i64 us.length),(88,.int .i64 b.1)],[(r10,.box 48 (eO ⟨off,us⟩)),(r35,.box 157 (jA m (.ptr mm 0) (.ptr s 0) (.ro 0 [] .nil))),(mm,.box 169 [.own q 0 (kO B off.toNat (us.take b.1)).length,.int .i64 (jN 3),.own b.2.2 0 (b.2.1).length]),(q,.arr 5 1 ((kO B off.toNat (us.take b.1)).map aG)),(b.2.2,.arr 3 1 ((b.2.1).map aK)),(s,.box 165 [.own t 0 (tb).length,.own g 0 (G).length]),(t,.arr 3 1 ((tb).map aK)),(g,.arr 71 2 ((G).map fL))]⟩) (fun b=>b.1≤us.length∧dl1 b.2.1∧Nq b.2.2 mm∧Nq b.2.2 q∧Nq b.2.2 r35∧Nq b.2.2 s∧Nq b.2.2 t∧Nq b.2.2 g∧Nq b.2.2 r10) (fun b=>us.length-b.1) (0,dl,e) aJ ⟨Nat.zero_le _,hdl,k1,k2,k3,k4,k5,k6,by show Nq e r10;(exact cA)⟩ ?_;clear hdl k1 k2 k3 k4 k5 k6;rintro⟨k,dl,e⟩ ⟨hk,hdl,k1,k2,k3,k4,k5,k6,k7⟩;dsimp only at hk hdl k1 k2 k3 k4 k5 k6 k7⊢;refine gA ?_;refine aB rfl (fun g17=> ?_) (fun g17=> ?_)
  ·have hlk:k<us.length:=by simpa using g17
   obtain⟨c,hc⟩:∃c,us[k]? =some c:=⟨_,List.getElem?_eq_getElem hlk⟩
   have hc2:=huu c (List.mem_of_getElem? hc);have hbl:(kO B off.toNat (us.take k)).length=256:=by rw[sD];exact hb
   have hst:=YZ ⟨n1,k1,k2⟩ (kO B off.toNat (us.take k)) (jN 3) dl (by omega) (aCm hdl).1 (aCm hdl).2 (off.toNat+k) 1 c (by omega) (by unfold YY;rw[hbl];simp;omega);rw[aEY hc2,aEZ hdl (by omega),←TQ hc]at hst;refine cX ?_;refine lM ?_;refine jF ?_;refine fJ [(0,true),(1,true),(2,true),(3,true),(4,true),(5,true),(6,true),(7,true),(8,true),(9,true),(10,false)] ?_;refine mQ ?_;refine HG ?_;refine WW ?_;refine fP rfl (aF (E rfl)) rfl ?_;refine z75 ?_;rw[show IntKind.i64.wrap (off+(k:Int))=((off.toNat+k:Nat):Int) by rw[fX (by omega) (by omega)];omega];refine pD [(mm,.box 169 [.own q 0 (kO B off.toNat (us.take k)).length,.int .i64 (jN 3),.own e 0 (dl).length]),(q,.arr 5 1 ((kO B off.toNat (us.take k)).map aG)),(e,.arr 3 1 ((dl).map aK))] rfl Tryz.call40 hst rfl aC aA eM ?_;rintro _ σ' ⟨e2,⟨j1,j2⟩,rfl,rfl⟩ h103;have k103:=aAh h103;repeat rcases k103 with⟨_,k103⟩
   apply bQ;exact bD;refine CC ?_;refine jH ?_;refine⟨(k+1,[0],e2),⟨hlk,.inr rfl,by show Nq e2 mm;(exact cA),by show Nq e2 q;(exact cA),by show Nq e2 r35;(exact cA),by show Nq e2 s;(exact cA),by show Nq e2 t;(exact cA),by show Nq e2 g;(exact cA),by show Nq e2 r10;(exact cA)⟩,by show us.length-(k+1)<us.length-k;omega, ?_⟩;dsimp only;exact aJ
  obtain rfl:k=us.length:=by simp at g17;omega
  rw[List.take_length];refine jH ?_;refine⟨(j+1,kO B off.toNat us,dl,e),⟨hlt,wM hd hx (by unfold HZ;exact if_neg (by rw[hb];show¬(off<0∨(256:Int)-us.length<off);omega)),by show(kO B off.toNat us).length=256;rw[sD];exact hb,hdl,k1,k2,k3,k4,k5,k6⟩,by show m.da.length-(j+1)<m.da.length-j;omega, ?_⟩;dsimp only;exact aJ
 obtain rfl:j=m.da.length:=by simp at g12;omega
 rw[List.take_length]at hd;refine cX ?_;refine gY ?_;refine cw [(mm,.box 169 [.own q 0 (B).length,.int .i64 (jN 3),.own e 0 (dl).length]),(q,.arr 5 1 ((B).map aG)),(e,.arr 3 1 ((dl).map aK))] Tryz.call99 (ZA ⟨n1,k1,k2⟩ B (jN 3) dl) rfl aC aA ?_;rintro _ σ' ⟨e2,⟨j1,j2⟩,rfl⟩ h110;have k110:=aAh h110;repeat rcases k110 with⟨_,k110⟩
 refine jG ?_;refine fV ?_;refine tZ ?_;refine tN ?_;refine cH (ks:=[0,1,2,3,5,6,8,10,11,12,14,15,17,19,26,40,41,42,43,55,61,62,63,64,84,86,87,88,89,115,116,117,118,128,129,130,131]) r35 16 160 1 (by decide) bC rfl (by decide) fun jj hjj=> ?_
 simp only[aO,aT,and_true]at hjj;repeat rcases hjj with⟨_,hjj⟩
 apply Exists.intro;apply And.intro;exact cE;refine lp (β:=Nat×Nat) (fun b=>⟨[(6,.ptr r35 0),(115,.ro 2 (m.co.map dJ) .any),(116,.int .i64 m.co.length),(117,.int .i64 b.1)],[(b.2,.arr 160 1 ((MY b.1).map AD)),(r35,.box 157 (jA m (.ptr mm 0) (.ptr s 0) (.own b.2 0 (MY b.1).length))),(mm,.box 169 [.own q 0 (B).length,.int .i64 (jN 3),.own e2 0 (([]:List Int)).length]),(q,.arr 5 1 ((B).map aG)),(e2,.arr 3 1 ((([]:List Int)).map aK)),(s,.box 165 [.own t 0 (tb).length,.own g 0 (G).length]),(t,.arr 3 1 ((tb).map aK)),(g,.arr 71 2 ((G).map fL))]⟩) (fun b=>b.1≤m.co.length∧Nq b.2 r35∧Nq b.2 mm∧Nq b.2 q∧Nq b.2 e2∧Nq b.2 s∧Nq b.2 t∧Nq b.2 g) (fun b=>m.co.length-b.1) (0,jj) aJ ⟨Nat.zero_le _,by show Nq jj r35;(exact cA),by show Nq jj mm;(exact cA),by show Nq jj q;(exact cA),by show Nq jj e2;(exact cA),by show Nq jj s;(exact cA),by show Nq jj t;(exact cA),by show Nq jj g;(exact cA)⟩ ?_;rintro⟨k,jj⟩ ⟨hk,l1,l2,l3,l4,l5,l6,l7⟩;dsimp only at hk l1 l2 l3 l4 l5 l6 l7⊢;refine gA ?_;refine aB rfl (fun g24=> ?_) (fun g24=> ?_)
 ·have hlk:k<m.co.length:=by simpa using g24
  obtain⟨⟨ls,bd⟩,hx⟩:∃x,m.co[k]? =some x:=⟨_,List.getElem?_eq_getElem hlk⟩
  have hbd:=(hGG.co.2 _ (List.mem_of_getElem? hx)).2.1;have hbl:=hco _ (List.mem_of_getElem? hx);have hjl:=WH (k:=k);have hcl:=hGG.co.1;dsimp only at hbd hbl;have hcm:=lZ bd (by omega);rw[hbl]at hcm;refine pB ?_;refine iO fun r14 h14=> ?_;intros
  refine lU ?_;refine fT ?_;refine cw [] Tryz.call75 hcm rfl aC aA ?_;rintro _ σ' ⟨q0,rfl,rfl⟩ h124
  replace h124:=fY h124;repeat rcases h124 with⟨_,h124⟩
  refine nE ?_;refine qL ?_;refine fW (BW (cI rfl) ?_);refine iT fun r127 h127=> ?_;intros
  refine gZ ?_;refine nR ?_;refine lp (β:=Unit) (fun _=>⟨[(6,.ptr r35 0),(17,.mp r127),(115,.ro 2 (m.co.map dJ) .any),(116,.int .i64 m.co.length),(117,.int .i64 k),(129,.int .i64 0),(130,.int .i64 0)],[(r127,.map [] []),(jj,.arr 160 1 ((MY k).map AD)),(r35,.box 157 (jA m (.ptr mm 0) (.ptr s 0) (.own jj 0 (MY k).length))),(mm,.box 169 [.own q 0 (B).length,.int .i64 (jN 3),.own e2 0 (([]:List Int)).length]),(q,.arr 5 1 ((B).map aG)),(e2,.arr 3 1 ((([]:List Int)).map aK)),(s,.box 165 [.own t 0 (tb).length,.own g 0 (G).length]),(t,.arr 3 1 ((tb).map aK)),(g,.arr 71 2 ((G).map fL))]⟩) (fun _=>True) (fun _=>0) () aJ True.intro ?_;rintro⟨⟩-;refine gA ?_;refine kQ ?_;refine DU ?_;refine iW (j:=144) rfl bK (aCn bC) ?_;refine eC fun r145 h145=> ?_;intros
  refine jQ ((MY k++ [0]).map AD) (MY k++ [0]).length ?_;refine bE fun r146 h146=> ?_;intros
  refine tZ ?_;refine lU ?_;refine jH ?_;refine⟨(k+1,r146),⟨hlk,by show Nq r146 r35;(exact cA),by show Nq r146 mm;(exact cA),by show Nq r146 q;(exact cA),by show Nq r146 e2;(exact cA),by show Nq r146 s;(exact cA),by show Nq r146 t;(exact cA),by show Nq r146 g;(exact cA)⟩,by show m.co.length-(k+1)<m.co.length-k;omega, ?_⟩;dsimp only;rw[QX];exact aJ
 obtain rfl:k=m.co.length:=by simp at g24;omega
 refine dZ (kT (r:=r35) (q:=jj) cE bK (WI (aN bC (by simp)))) ?_;refine aI ?_;have hN:∀y σ,y=AV.tup [.ptr r35 0,.int .i64 0]→σ=QY m tb B r35 mm q e2 s t g→aE0 m y σ:=fun _ _ h1 h2=>.inr ⟨tb,hr,.inr ⟨B,by rw[hBZ];exact hd,r35,mm,q,e2,s,t,g,⟨by(exact cA),by(exact cA),by(exact cA),by(exact cA),by(exact cA),by(exact cA),n1,j1,j2,n4,n5,n6,by(exact cA),by(exact cA),by(exact cA),by(exact cA),by(exact cA),by(exact cA),by(exact cA),by(exact cA),by(exact cA)⟩,h1,h2⟩⟩
 unfold QY lD at hN;rw[←hG0]at hN;refine fV ?_;refine jF ?_;apply aD;exact aE
 ·exact hN _ _ rfl rfl
 ·exact aA
section
variable {x mm s : Nat} {m : Md}
set_option maxRecDepth 100000
theorem AE{j:AV}:SCall Tryz.prog 34 [.ptr x 0] [(x,.box 157 (jA m (.ptr mm 0) (.ptr s 0) j))] (fun y σ=>y=.ptr mm 0∧σ=[(x,.box 157 (jA m (.ptr mm 0) (.ptr s 0) j))]):=by
 refine bS 9 [0,2,4] Tryz.func34 ?_;refine bF ?_;refine KS ?_;refine oR ?_;refine gY ?_;refine cM ?_;exact aD aE ⟨by rfl,rfl⟩ aA
theorem ZE{j:AV}:SCall Tryz.prog 34 [.ptr x 0] [(x,.box 157 (jA m .nilp (.ptr s 0) j))] (fun y σ=>y=.nilp∧σ=[(x,.box 157 (jA m .nilp (.ptr s 0) j))]):=by
 refine bS 9 [0,2,4] Tryz.func34 ?_;refine bF ?_;refine KS ?_;refine oR ?_;refine gY ?_;refine cM ?_;exact aD aE ⟨by rfl,rfl⟩ aA
theorem tC{p j:AV}:SCall Tryz.prog 35 [.ptr x 0] [(x,.box 157 (jA m p (.ptr s 0) j))] (fun y σ=>y=.ptr s 0∧σ=[(x,.box 157 (jA m p (.ptr s 0) j))]):=by
 refine bS 9 [0,2,4] Tryz.func35 ?_;refine bF ?_;refine KS ?_;refine oR ?_;refine gY ?_;refine cM ?_;exact aD aE ⟨by rfl,rfl⟩ aA
def aKb (m:Md) (f:Int):Bool:=if decide (0≤f)=true then decide (f<(m.im.length:Int))else false
theorem vU{p j:AV}(f:Int):SCall Tryz.prog 36 [.ptr x 0,.int .i64 f] [(x,.box 157 (jA m p (.ptr s 0) j))] (fun y σ=>y=.bool (aKb m f)∧σ=[(x,.box 157 (jA m p (.ptr s 0) j))]):=by
 refine bS 21 [0,1,4] Tryz.func36 ?_;refine aFa ?_;refine jU ?_;refine NT ?_;refine kH ?_;refine kG ?_;refine aGe ?_;refine aGf ?_;refine AK ?_;refine qV ?_;refine aAi ?_;refine jM ?_;exact aD aE ⟨by rfl,rfl⟩ aA
def exV (l:List Ex) (nm:List Nat):Int×Bool:=match l.find? (fun x=>QO x.nm nm)with|some x=>(x.fn,true)|none=>(0,false)
theorem aE1{l:List Ex}{nm:List Nat}{k:Nat}{x:Ex}(h:(l.take k).all (fun x=> !QO x.nm nm)=true)(hx:l[k]? =some x)(hq:QO x.nm nm=true):exV l nm=(x.fn,true):=by
 obtain⟨hlt,he⟩:=List.getElem?_eq_some_iff.1 hx;have hl:l=l.take k++x::l.drop (k+1):=by rw[←he,←List.drop_eq_getElem_cons hlt,List.take_append_drop]
 have h0:(l.take k).find? (fun x=>QO x.nm nm)=none:=by
  rw[List.find?_eq_none];intro y hy;have:=List.all_eq_true.1 h y hy;simpa using this
 unfold exV;rw[hl,List.find?_append,h0,Option.none_or,List.find?_cons_of_pos (p:=fun x:Ex=>QO x.nm nm) hq]
theorem aCp{l:List Ex}{nm:List Nat}(h:l.all (fun x=> !QO x.nm nm)=true):exV l nm=(0,false):=by
 unfold exV;rw[List.find?_eq_none.2 (fun y hy=>by have:=List.all_eq_true.1 h y hy;simpa using this)]
theorem BY{p j:AV}(hl:m.ex.length≤1000)(nm:List Nat):SCall Tryz.prog 31 [.ptr x 0,.str (dI nm)] [(x,.box 157 (jA m p (.ptr s 0) j))] (fun y σ=>y=.tup [.int .i64 (exV m.ex nm).1,.bool (exV m.ex nm).2]∧σ=[(x,.box 157 (jA m p (.ptr s 0) j))]):=by
 refine bS 27 [0,1,4,5,7,9,14,15,16,17,23] Tryz.func31 ?_;refine cZ ?_;refine jF ?_;refine KS ?_;refine oR ?_;refine tZ ?_;refine tN ?_;refine lp (β:=Nat) (fun k=>⟨[(1,.str (dI nm)),(14,.ro 2 (m.ex.map eA) .any),(15,.int .i64 m.ex.length),(16,.int .i64 k)],[(x,.box 157 (jA m p (.ptr s 0) j))]⟩) (fun k=>k≤m.ex.length∧(m.ex.take k).all (fun x=> !QO x.nm nm)=true) (fun k=>m.ex.length-k) 0 aJ ⟨Nat.zero_le _,rfl⟩ ?_;rintro k ⟨hk,ha⟩;refine gA ?_;refine aB rfl (fun g4=> ?_) (fun g4=> ?_)
 ·have hlt:k<m.ex.length:=by simpa using g4
  obtain⟨⟨en,ef⟩,hx⟩:∃x,m.ex[k]? =some x:=⟨_,List.getElem?_eq_getElem hlt⟩
  refine pB ?_;refine iO fun r7 h7=> ?_;intros
  refine lU ?_;refine fT ?_;refine lo (aF (E rfl)) rfl ?_;refine lo (rB (E rfl) (E rfl)) rfl ?_;refine iI ?_;refine aB rfl (fun g6=> ?_) (fun g6=> ?_)
  ·refine aI ?_;have hE:=aE1 ha hx g6;refine mJ ?_;refine fO ?_;refine jF ?_;exact aD aE ⟨by rw[hE];rfl,rfl⟩ aA
  refine jH ?_;have h6:QO en nm=false:=g6;refine⟨k+1,⟨hlt,by rw[List.take_add_one,hx,List.all_append,ha];simp[h6]⟩,by show m.ex.length-(k+1)<m.ex.length-k;omega, ?_⟩;exact aJ
 obtain rfl:k=m.ex.length:=by simp at g4;omega
 rw[List.take_length]at ha;have hE:=aCp ha;refine cZ ?_;refine jF ?_;exact aD aE ⟨by rw[hE];rfl,rfl⟩ aA
end
section
variable {x s : Nat}
set_option maxRecDepth 100000
theorem TT{p j:AV}:SCall Tryz.prog 30 [.ptr x 0,.int .i64 0] [(x,.box 157 (jA smallM p (.ptr s 0) j))] (fun y σ=>y=.tup [.agg (dF ⟨[1,1],[1]⟩),.bool true]∧σ=[(x,.box 157 (jA smallM p (.ptr s 0) j))]):=by
 have e1:smallM.fn[(0:Int).toNat]? =some 0:=rfl;have e2:smallM.ty[(0:Int).toNat]? =some ⟨[1,1],[1]⟩:=rfl;have e3:smallM.fn.length=1:=rfl;have e4:smallM.ty.length=1:=rfl;refine bS 71 [0,1,4,5,28,32] Tryz.func30 ?_;refine cZ ?_;refine iO fun r4 h4=> ?_;intros
 refine cM ?_;refine fJ [(0,true),(1,true),(2,true),(3,true),(4,true),(5,true),(6,true),(7,true),(8,true),(9,true),(10,true),(11,true),(12,true),(13,true),(14,true),(15,true),(16,true),(17,true),(18,true),(19,true),(20,true),(21,true),(22,true)] ?_;refine aI1 ?_;refine uS ?_;refine aGr ?_;rw[show decide ((0:Int)<0)=false from rfl];refine uS ?_;refine sJ ?_;refine aGo ?_;refine UE ?_;refine sJ ?_;refine aGo ?_;refine UE ?_;first|refine nO rfl rfl rfl rfl rfl ?_ |(first|refine gD rfl rfl rfl (kR (by first|exact W rfl id|exact E rfl) (by first|exact W rfl id|exact E rfl) (by omega) (by omega)) rfl ?_ |refine gD rfl rfl rfl (jB (by first|exact W rfl id|exact E rfl) (by first|exact W rfl id|exact E rfl)) rfl ?_)|refine fQ rfl rfl rfl (kR (by first|exact W rfl id|exact E rfl) (by first|exact W rfl id|exact E rfl) (by omega) (by omega)) rfl ?_ |refine fQ rfl rfl rfl (lop_add64c (by first|exact W rfl id|exact E rfl) (by first|exact W rfl id|exact E rfl) (fun hc=>by simp at hc<;>first|omega|(have hov:=hov hc;omega))) rfl ?_ |refine fQ rfl rfl rfl (jB (by first|exact W rfl id|exact E rfl) (by first|exact W rfl id|exact E rfl)) rfl ?_
 refine RV ?_;refine CC ?_;refine dG ?_;refine yJ [(x,.box 157 (jA smallM p (.ptr s 0) j))] Tryz.call36 (vU 0) ?_;rw[show aKb smallM 0=false from rfl];refine iI ?_;refine fJ [(0,true),(1,true),(2,true),(3,true),(4,true),(5,true),(6,true),(7,true),(8,true),(9,true),(10,true),(11,true),(12,true),(13,true),(14,true),(15,true),(16,true),(17,true),(18,true),(19,true),(20,true),(21,true),(22,false),(23,true)] ?_;refine OC ?_;refine RJ ?_;refine iC ?_;refine OC ?_;refine RJ ?_;refine HG ?_;refine OC ?_;refine RJ ?_;refine iC ?_;refine UD ?_;refine z82 ?_;rw[show IntKind.i64.wrap (0-(smallM.im.length:Int))=0 from rfl];refine nG ?_;refine pY ?_;refine z95 ?_;refine wQ ?_;exact aD aE ⟨by rfl,rfl⟩ aA
end
theorem ZF(m:Md)(wa:m.WO)(hz:m.Z)(hv:gB m=-1)(hme:m.me=HR)(hel:m.el=[])(hda:m.da=[])(hco:∀c∈m.co,UQ (dA c.bd)=[]):SCall Tryz.prog 37 [.agg (aZ m)] []
  (fun y σ=>∃x s,y=.tup [.ptr x 0,.int .i64 0]∧σ=[(x,.box 157 (lD m .nilp (.ptr s 0)))]):=by
 have hm:kD m=true:=WJ hv;have hGG:=aBJ (vL hm).1 wa;have hcp:=BX m wa hm;have hvm:=kZ m wa hz;rw[hv,show((-1:Int)==-1)=true from rfl]at hvm;have hsp:=FK m (TR (vL hm).1) (by have:=hGG.gl.1;omega);have hmn:SCall Tryz.prog 96 [.agg [.bool m.me.has,.int .i64 m.me.mn,.int .i64 m.me.mx]] [] (fun x σ=>x=.nilp∧σ=[]):=by
  rw[hme];exact TP false 0 0 (.inl rfl)
 refine bS 151 [0,1,2,3,5,6,8,10,11,12,14,15,17,19,26,40,41,42,43,55,61,62,63,64,84,86,87,88,89,115,116,117,118,128,129,130,131] Tryz.func37 ?_;refine cZ ?_;refine gQ fun r1 h1=> ?_;intros
 refine qL ?_;refine kP ?_;refine lB Tryz.call28 hvm rfl aP aS ?_;refine sK ?_;refine nS ?_;refine nQ ?_;refine fJ [(0,true),(2,true),(3,true),(5,true),(1,false),(4,false),(6,false),(7,true),(8,false),(9,true)] ?_;refine IQ ?_;refine RJ ?_;refine IQ ?_;refine IQ ?_;refine pD [] rfl Tryz.call95 hcp rfl aC aA eM ?_;rintro _ σ' ⟨rfl,rfl⟩ h28;apply bQ;exact bD;refine pD [] rfl Tryz.call96 hmn rfl aC aA eM ?_;rintro _ σ' ⟨rfl,rfl⟩ h31;apply bQ;exact bD;refine pD [] rfl Tryz.call97 hsp rfl aC aA eM ?_;rintro _ σ' ⟨s,t,g,⟨n4,n5,n6⟩,rfl,rfl⟩ h33
 replace h33:=KA h33;replace h33:=cB h33;repeat rcases h33 with⟨_,h33⟩
 apply bQ;exact bD;refine z94 ?_;refine fz5 fun r35 h35=> ?_;intros
 refine WY ?_;refine qJ ?_;refine tN ?_;refine lp (β:=Unit) (fun _=>⟨[(6,.ptr r35 0),(41,.int .i64 m.el.length),(42,.int .i64 0)],[(r35,.box 157 (jA m .nilp (.ptr s 0) (.ro 0 [] .nil)))]⟩) (fun _=>True) (fun _=>0) () aJ True.intro ?_;rintro⟨⟩-;refine gA ?_;refine aB rfl (fun g6=> ?_) (fun g6=> ?_)
 ·refine aI ?_;exact absurd g6 (by rw[hel];decide)
 refine qJ ?_;refine tN ?_;refine lp (β:=Unit) (fun _=>⟨[(6,.ptr r35 0),(62,.int .i64 m.da.length),(63,.int .i64 0)],[(r35,.box 157 (jA m .nilp (.ptr s 0) (.ro 0 [] .nil)))]⟩) (fun _=>True) (fun _=>0) () aJ True.intro ?_;rintro⟨⟩-;refine gA ?_;refine aB rfl (fun g12=> ?_) (fun g12=> ?_)
 ·refine aI ?_;exact absurd g12 (by rw[hda];decide)
 refine cX ?_;refine gY ?_;refine cw [] Tryz.call99 ZB rfl aC aA ?_;rintro _ σ' rfl h110;refine jG ?_;refine fV ?_;refine tZ ?_;refine tN ?_;refine cH (ks:=[0,1,2,3,5,6,8,10,11,12,14,15,17,19,26,40,41,42,43,55,61,62,63,64,84,86,87,88,89,115,116,117,118,128,129,130,131]) r35 16 160 1 (by decide) bC rfl (by decide) fun jj hjj=> ?_
 simp only[aO,aT,and_true]at hjj;repeat rcases hjj with⟨_,hjj⟩
 apply Exists.intro;apply And.intro;exact cE;refine lp (β:=Nat×Nat) (fun b=>⟨[(6,.ptr r35 0),(115,.ro 2 (m.co.map dJ) .any),(116,.int .i64 m.co.length),(117,.int .i64 b.1)],[(b.2,.arr 160 1 ((MY b.1).map AD)),(r35,.box 157 (jA m .nilp (.ptr s 0) (.own b.2 0 (MY b.1).length)))]⟩) (fun b=>b.1≤m.co.length∧Nq b.2 r35) (fun b=>m.co.length-b.1) (0,jj) aJ ⟨Nat.zero_le _,by show Nq jj r35;(exact cA)⟩ ?_;rintro⟨k,jj⟩ ⟨hk,l1⟩;dsimp only at hk l1⊢;refine gA ?_;refine aB rfl (fun g24=> ?_) (fun g24=> ?_)
 ·have hlk:k<m.co.length:=by simpa using g24
  obtain⟨⟨ls,bd⟩,hx⟩:∃x,m.co[k]? =some x:=⟨_,List.getElem?_eq_getElem hlk⟩
  have hbd:=(hGG.co.2 _ (List.mem_of_getElem? hx)).2.1;have hbl:=hco _ (List.mem_of_getElem? hx);have hjl:=WH (k:=k);have hcl:=hGG.co.1;dsimp only at hbd hbl;have hcm:=lZ bd (by omega);rw[hbl]at hcm;refine pB ?_;refine iO fun r14 h14=> ?_;intros
  refine lU ?_;refine fT ?_;refine cw [] Tryz.call75 hcm rfl aC aA ?_;rintro _ σ' ⟨q0,rfl,rfl⟩ h124
  replace h124:=fY h124;repeat rcases h124 with⟨_,h124⟩
  refine nE ?_;refine qL ?_;refine fW (BW (cI rfl) ?_);refine iT fun r127 h127=> ?_;intros
  refine gZ ?_;refine nR ?_;refine lp (β:=Unit) (fun _=>⟨[(6,.ptr r35 0),(17,.mp r127),(115,.ro 2 (m.co.map dJ) .any),(116,.int .i64 m.co.length),(117,.int .i64 k),(129,.int .i64 0),(130,.int .i64 0)],[(r127,.map [] []),(jj,.arr 160 1 ((MY k).map AD)),(r35,.box 157 (jA m .nilp (.ptr s 0) (.own jj 0 (MY k).length)))]⟩) (fun _=>True) (fun _=>0) () aJ True.intro ?_;rintro⟨⟩-;refine gA ?_;refine kQ ?_;refine DU ?_;refine iW (j:=144) rfl bK (aCn bC) ?_;refine eC fun r145 h145=> ?_;intros
  refine jQ ((MY k++ [0]).map AD) (MY k++ [0]).length ?_;refine bE fun r146 h146=> ?_;intros
  refine tZ ?_;refine lU ?_;refine jH ?_;refine⟨(k+1,r146),⟨hlk,by show Nq r146 r35;(exact cA)⟩,by show m.co.length-(k+1)<m.co.length-k;omega, ?_⟩;rw[QX];exact aJ
 obtain rfl:k=m.co.length:=by simp at g24;omega
 refine dZ (kT (r:=r35) (q:=jj) cE bK (WI (aN bC (by simp)))) ?_;refine cX ?_;refine jF ?_;exact aD aE ⟨r35,s,by rfl,rfl⟩ aA
def aCq (q:Nat):List AV:=[.ro 2 (smallM.ty.map dF) .any,.ro 3 [] .any,.ro 1 (smallM.fn.map aK) .any,.bool false,.int .i64 0,.int .i64 0,.bool false,.int .i64 0,.int .i64 0,.ro 3 [] .any,.own q 0 1,.ro 2 [] .any,.ro 2 (smallM.co.map dJ) .any,.ro 2 [] .any]
theorem TU:SCall Tryz.prog 50 [] [] (fun y σ=>∃q,y=.agg (aCq q)∧σ=[(q,.arr 66 2 (smallM.ex.map eA))]):=by
 refine bS 15 [0] Tryz.func50 ?_;refine cZ ?_;refine iO fun r0 h0=> ?_;intros
 refine pO ?_;refine cZ ?_;refine eC fun r1 h1=> ?_;intros
 refine iW (j:=1) rfl bK (aN bC (by simp)) ?_;refine eC fun r2 h2=> ?_;intros
 refine iW (j:=2) rfl bK (aN bC (by simp)) ?_;refine lE ?_;refine eC fun r4 h4=> ?_;intros
 refine iW (j:=4) rfl bK (aN bC (by simp)) ?_;refine eC fun r5 h5=> ?_;intros
 refine iW (j:=5) rfl bK (aN bC (by simp)) ?_;refine lE ?_;refine eC fun r7 h7=> ?_;intros
 refine qM ?_;refine lE ?_;refine eC fun r11 h11=> ?_;intros
 refine iW (j:=11) rfl bK (aN bC (by simp)) ?_;refine iR (eE (j:=11) rfl (yH (l:=smallIs) (by simp[smallIs]))) ?_;refine lE ?_;refine iR (eE (j:=12) rfl DC) ?_;refine eC fun r13 h13=> ?_;intros
 refine iW (j:=13) rfl bK (aN bC (by simp)) ?_;refine lE ?_;refine lU ?_;refine an ?_;refine dZ (iG (r:=r0) (cs':=aCq r7) cE (.cons (.refl _) (.cons (.le VLe.empty) (.cons (.refl _) (.cons (.refl _) (.cons (.refl _) (.cons (.refl _) (.cons (.refl _) (.cons (.refl _) (.cons (.refl _) (.cons (.le VLe.empty) (.cons (.refl _) (.cons (.le VLe.empty) (.cons (.refl _) (.cons (.le VLe.empty) .nil))))))))))))))) ?_;refine aI ?_;exact aD aE ⟨r7,by rfl,rfl⟩ aA
def smallX:Md:= { smallM with ex:=[⟨(smallM.ex.headD ⟨[],0⟩).nm,1⟩] }
theorem ZG:smallX.WO:=⟨⟨small_wo.w.im,fun x hx=>by
  obtain rfl:=List.mem_singleton.1 hx;exact small_wo.w.ex ⟨[97,100,100],0⟩ (by simp[smallM]),small_wo.w.co,small_wo.w.il,small_wo.w.da⟩,⟨small_wo.ok.1,small_wo.ok.2⟩⟩
theorem WK:smallM.Z:=by constructor<;>decide
theorem aCr:smallX.Z:=by constructor<;>decide
theorem aCs:fun0.Z:=by constructor<;>decide
theorem QZ:gB smallM=-1:=by decide+kernel
theorem ZH:gB smallX=7:=by decide+kernel
theorem WL:gB fun0=0:=by decide+kernel
theorem TV:SCall Tryz.prog 82 [] [] (fun y σ=>y=.bool true∧σ=[]):=by
 refine bS 2 [0] Tryz.func82 ?_;refine qK ?_;refine lB Tryz.call22 TB rfl aP aS ?_;refine cM ?_;exact aD aE ⟨by rfl,rfl⟩ aA
theorem TW:SCall Tryz.prog 27 [] [] (fun y σ=>y=.bool true∧σ=[]):=by
 have w1:=kZ smallM small_wo WK;have w2:=kZ smallX ZG aCr;have w3:=kZ fun0 MF aCs;rw[QZ,show((-1:Int)==-1)=true from rfl]at w1;rw[ZH,show((7:Int)==-1)=false from rfl]at w2;rw[WL,show((0:Int)==-1)=false from rfl]at w3;refine bS 53 [0,1,2,3,4,5,6,7] Tryz.func27 ?_;refine qK ?_;refine yJ [] Tryz.call50 wH ?_;refine lB Tryz.call28 w1 rfl aP aS ?_;refine sK ?_;refine qL ?_;refine cw [] Tryz.call50 TU rfl aC aA ?_;rintro _ σ' ⟨q1,rfl,rfl⟩ h13
 replace h13:=fY h13;repeat rcases h13 with⟨_,h13⟩
 unfold aCq;apply aU;exact bD;refine iO fun r3 h3=> ?_;intros
 refine lU ?_;refine fT ?_;refine UC ?_;refine KO ?_;refine KP ?_;refine iI ?_;refine dZ (kT (r:=r3) (q:=q1) cE bK (.cons (.refl _) (.cons (.refl _) (.cons (.refl _) (.cons (.refl _) (.cons (.refl _) (.cons (.refl _) (.cons (.refl _) (.cons (.refl _) (.cons (.refl _) (.cons (.refl _) (.cons (aN bC (by simp[smallM])) (.cons (.refl _) (.cons (.refl _) (.cons (.refl _) .nil))))))))))))))) ?_;refine dZ (iG (r:=r3) (cs':=aZ smallX) cE (.cons (.refl _) (.cons (.refl _) (.cons (.refl _) (.cons (.refl _) (.cons (.refl _) (.cons (.refl _) (.cons (.refl _) (.cons (.refl _) (.cons (.refl _) (.cons (.refl _) (.cons (.refl _) (.cons (.refl _) (.cons (.refl _) (.cons (.refl _) .nil))))))))))))))) ?_;refine mJ ?_;refine kP ?_;refine lB Tryz.call28 w2 rfl aP aS ?_;refine sK ?_;refine qL ?_;refine eC fun r24 h24=> ?_;intros
 refine iW (j:=24) rfl bK (aN bC (by simp)) ?_;refine lE ?_;refine iR (eE (j:=25) rfl FB) ?_;refine lB Tryz.call28 w3 rfl aP aS ?_;refine sK ?_;refine qL ?_;refine lB Tryz.call82 TV rfl aP aS ?_;refine jU ?_;refine pW ?_;rw[show((-1:Int)==-1)=true from rfl];refine kH ?_;refine kH ?_;refine pW ?_;rw[show((7:Int)==7)=true from rfl];refine kH ?_;refine rG ?_;refine kH ?_;refine pW ?_;rw[show((0:Int)==0)=true from rfl];refine kH ?_;refine WZ ?_;exact aD aE ⟨by rfl,rfl⟩ aA
def Nd:List Nat→Prop
 |[]=>True
 |a::l=>(∀b∈l,Nq a b)∧Nd l
def aCt (pr rs:List Int) (q1 q2 q3 q4 q5 q7:Nat):List AV:=[.ro 2 ((gU pr rs []).ty.map dF) .any,.own q1 0 2,.own q2 0 2,.bool true,.int .i64 4,.int .i64 (-1),.bool true,.int .i64 1,.int .i64 3,.own q3 0 2,.own q4 0 1,.own q5 0 1,.own q7 0 2,.ro 2 ([].map eO) .any]
def aKc (q1 q2 q3 q4 q5 q6 q7:Nat):dC:=[(q7,.arr 44 2 [dJ ⟨[],[]⟩,dJ ⟨[],qF⟩]),(q5,.arr 69 2 [[.int .i64 0,.own q6 0 3]]),(q6,.arr 3 1 ([0,2,3].map aK)),(q4,.arr 66 2 [eA ⟨[109,97,105,110],2⟩]),(q3,.arr 73 3 [eU ⟨true,1,0⟩,eU ⟨false,2,5⟩]),(q2,.arr 3 1 ([0,3].map aK)),(q1,.arr 64 3 [eT ⟨[119],[102],2⟩,eT ⟨[119],[103],1⟩])]
theorem aCu:VLe (.agg [.ro 0 [] .nil,.ro 0 [] .nil]) (.agg (dJ ⟨[],[]⟩)):=by
 refine VLe.agg rfl fun j a a' ha ha'=> ?_
 match j with
 |0=>cases ha;cases ha';exact VLe.empty
 |1=>cases ha;cases ha';exact VLe.empty
 | _ +2=>cases ha
theorem aE2{fr:Fr}{σ:dC}{r:Nat}{bt:TypeId}{cs cs':List AV}(ts:List Nat)(hg:fZ σ r=some (.box bt cs))(hr:r∉ts)(hb:BorL σ ts cs cs')(fr':Fr)(hf:∀i x,dD fr' i=some x→dD fr i=some x):SGo ⟨fr,σ⟩ ⟨fr',[(r,.box bt cs')]⟩:=by
 refine pU ts (fun i x' hi=>⟨x',hf i x' hi,.refl _⟩) (fun p hp=> ?_);obtain rfl:=List.mem_singleton.1 hp;exact⟨hr,_,bV hg,.box (aAf hb)⟩
theorem BD{σ:dC}{ts:List Nat}{q len sz:Nat}{et:TypeId}{es:List (List AV)}(ht:q∈ts)(hg:fZ σ q=some (.arr et sz es))(hl:len=es.length):Bor σ ts (.own q 0 len) (.ro sz es .any):=
 NN ht hg (by omega) (by subst hl;simp)
theorem ZI(ps:List Int)(r:Int):SCall Tryz.prog 25 [.ro 1 (ps.map aK) .any,.int .i64 r] [] (fun y σ=>∃q1 q2 q3 q4 q5 q6 q7,Nd [q7,q5,q6,q4,q3,q2,q1]∧y=.agg (aCt (uD ps) (uE r) q1 q2 q3 q4 q5 q7)∧σ=aKc q1 q2 q3 q4 q5 q6 q7):=by
 refine bS 72 [0,1,4,5,6,15,36] Tryz.func25 ?_;refine cZ ?_;refine iO fun r4 h4=> ?_;intros
 refine pO ?_;refine cZ ?_;refine lE ?_;refine iO fun r5 h5=> ?_;intros
 refine gT ?_;refine cH (ks:=[0,1,4,5,6,15,36]) r5 0 3 1 (by decide) bC rfl (by decide) fun p0 hp0=> ?_
 simp only[aO,aT,and_true]at hp0;repeat rcases hp0 with⟨_,hp0⟩
 apply Exists.intro;apply And.intro;exact cE;refine jV ?_;refine lp (β:=Nat×Nat) (fun b=>⟨[(0,.ro 1 (ps.map aK) .any),(1,.int .i64 r),(4,.ptr r4 0),(5,.ptr r5 0),(6,.int .i64 b.1)],[(r5,.box 50 [.own b.2 0 ((ps.take b.1).map fun p=>1+b1 p).length,.ro 0 [] .nil]),(b.2,.arr 3 1 (((ps.take b.1).map fun p=>1+b1 p).map aK)),(r4,.box 33 [.ro 0 [] .nil,.ro 0 [] .nil,.ro 0 [] .nil,.bool false,.int .i64 0,.int .i64 0,.bool false,.int .i64 0,.int .i64 0,.ro 0 [] .nil,.ro 0 [] .nil,.ro 0 [] .nil,.ro 0 [] .nil,.ro 0 [] .nil])]⟩) (fun b=>b.1≤ps.length∧b.1≤5∧Nq b.2 r5∧Nq b.2 r4) (fun b=>5-b.1) (0,p0) aJ ⟨Nat.zero_le _,Nat.zero_le _,by show Nq p0 r5;(exact cA),by show Nq p0 r4;(exact cA)⟩ ?_;rintro⟨j,p⟩ ⟨hj,hj5,n1,n2⟩;dsimp only at hj hj5 n1 n2⊢;have hpl:((ps.take j).map fun p=>1+b1 p).length=j:=by simp;omega
 refine nF ?_;refine OJ ?_;refine NZ ?_;refine tH ?_;refine aB rfl (fun g3=> ?_) (fun g3=> ?_)
 ·have hlt:j<ps.length∧j<5:=aBN g3;obtain⟨w,hw⟩:∃w,ps[j]? =some w:=⟨_,List.getElem?_eq_getElem hlt.1⟩
  have hb:=aBR w;unfold b1 at hb;refine aI ?_;refine fJ [(0,true),(1,true),(2,true),(3,true),(4,true),(5,true),(6,true),(7,true),(8,false),(9,false),(10,true),(11,false)] ?_;refine iC ?_;refine lF ?_;refine nG ?_;refine fP rfl (iP (E rfl) (E rfl)) rfl ?_;refine WW ?_;refine HL fun r26 h26=> ?_;intros
  refine eZ rfl (((ps.take j).map (fun p=>1+b1 p)++ [1+b1 w]).map aK) ((ps.take j).map (fun p=>1+b1 p)++ [1+b1 w]).length ?_;refine bE fun r27 h27=> ?_;intros
  refine UG ?_;refine CC ?_;refine lJ ?_;refine⟨(j+1,r27),⟨hlt.1,hlt.2,by show Nq r27 r5;(exact cA),by show Nq r27 r4;(exact cA)⟩,by show 5-(j+1)<5-j;omega, ?_⟩;dsimp only;rw[←QH hw];exact aJ
 rw[show(ps.take j).map (fun p=>1+b1 p)=uD ps by
   unfold uD;rcases Nat.lt_or_ge j 5 with h5j|h5j
   ·have:j=ps.length:=by
     rcases Nat.lt_or_ge j ps.length with h|h
     ·rw[decide_eq_true (by omega),if_pos rfl,decide_eq_true (by omega)]at g3;cases g3
     ·omega
    subst this;rw[List.take_length,List.take_of_length_le (by omega)]
   ·obtain rfl:j=5:=by omega
    rfl]
 refine dZ (kT (r:=r5) (q:=p) cE bK (.cons (aN bC (by simp)) (.cons (.refl _) .nil))) ?_;refine cX ?_;refine lo (iP (E rfl) (E rfl)) rfl ?_;refine aFe ?_;refine NZ ?_;refine tH ?_;refine sja (β:=Unit) (fun _=>⟨[(4,.ptr r4 0),(5,.ptr r5 0)],[(r5,.box 50 [.ro 1 ((uD ps).map aK) .any,.ro 1 ((uE r).map aK) .any]),(r4,.box 33 [.ro 0 [] .nil,.ro 0 [] .nil,.ro 0 [] .nil,.bool false,.int .i64 0,.int .i64 0,.bool false,.int .i64 0,.int .i64 0,.ro 0 [] .nil,.ro 0 [] .nil,.ro 0 [] .nil,.ro 0 [] .nil,.ro 0 [] .nil])]⟩) (fun _=>True) ?_ ?_
 ·refine aB rfl (fun g6=> ?_) (fun g6=> ?_)
  ·rw[show uE r=[b3 r]from if_pos g6];refine cX ?_;refine lo (iP (E rfl) (E rfl)) rfl ?_;refine eC fun r39 h39=> ?_;intros
   refine yK ?_;refine iW (j:=39) rfl bK (aN bC (by simp)) ?_;refine gT ?_;exact⟨(),trivial,aJ⟩
  rw[show uE r=[] by unfold uE;exact if_neg (fun e=>by rw[show(if decide (0<b3 r)=true then decide (b3 r<3)else false)=false from g6]at e;cases e)];refine dZ (iG (r:=r5) (cs':=[.ro 1 ((uD ps).map aK) .any,.ro 1 (([]:List Int).map aK) .any]) cE (.cons (.refl _) (.cons (.le VLe.empty) .nil))) ?_;refine aI ?_;exact⟨(),trivial,aJ⟩
 rintro⟨⟩-;refine nH ?_;refine lE ?_;refine iR (eE (j:=42) rfl VZ) ?_;refine eC fun r43 h43=> ?_;intros
 refine eC fun r44 h44=> ?_;intros
 refine iW (j:=43) rfl bK (aN bC (by simp)) ?_;refine iW (j:=44) rfl bK (aN bC (by simp)) ?_;refine lE ?_;refine eC fun r46 h46=> ?_;intros
 refine eC fun r47 h47=> ?_;intros
 refine iW (j:=46) rfl bK (aN bC (by simp)) ?_;refine iW (j:=47) rfl bK (aN bC (by simp)) ?_;refine lE ?_;refine eC fun r49 h49=> ?_;intros
 refine iW (j:=49) rfl bK (aN bC (by simp)) ?_;refine qM ?_;refine eC fun r52 h52=> ?_;intros
 refine eC fun r53 h53=> ?_;intros
 refine qM ?_;refine qM ?_;refine qM ?_;refine eC fun r60 h60=> ?_;intros
 refine lE ?_;refine eC fun r62 h62=> ?_;intros
 refine eC fun r63 h63=> ?_;intros
 refine lE ?_;refine eC fun r65 h65=> ?_;intros
 refine qM ?_;refine eC fun r68 h68=> ?_;intros
 refine iW (j:=68) rfl bK (aN bC (by simp)) ?_;refine iR (eE (j:=68) rfl (yH (l:=qF) (by simp[qF]))) ?_;refine lE ?_;refine iR (eE (j:=66) rfl aCu) ?_;refine iR (eE (j:=69) rfl DC) ?_;refine eC fun r70 h70=> ?_;intros
 refine lE ?_;refine lU ?_;refine an ?_;have hnd:Nd [r70,r65,r63,r62,r60,r53,r52]:=by
  refine⟨?_, ?_, ?_, ?_, ?_, ?_, ?_,True.intro⟩<;>intro b hb<;>simp only[List.mem_cons,List.not_mem_nil,or_false]at hb
  ·rcases hb with rfl|rfl|rfl|rfl|rfl|rfl<;>(exact cA)
  ·rcases hb with rfl|rfl|rfl|rfl|rfl<;>(exact cA)
  ·rcases hb with rfl|rfl|rfl|rfl<;>(exact cA)
  ·rcases hb with rfl|rfl|rfl<;>(exact cA)
  ·rcases hb with rfl|rfl<;>(exact cA)
  ·rcases hb with rfl<;>(exact cA)
 refine dZ (iG (r:=r4) (cs':=aCt (uD ps) (uE r) r52 r53 r60 r62 r65 r70) cE (.cons (.refl _) (.cons (.refl _) (.cons (.refl _) (.cons (.refl _) (.cons (.refl _) (.cons (.refl _) (.cons (.refl _) (.cons (.refl _) (.cons (.refl _) (.cons (.refl _) (.cons (.refl _) (.cons (.refl _) (.cons (.refl _) (.cons (.le VLe.empty) .nil))))))))))))))) ?_;refine aI ?_;exact aD aE ⟨r52,r53,r60,r62,r65,r63,r70,hnd,by rfl,rfl⟩ aA
section
variable {r a b c d e f g : Nat}
theorem Nd.to (h:Nd [a,b,c,d,e,f,g]):Nq a b∧Nq a c∧Nq a d∧Nq a e∧Nq a f∧Nq a g∧Nq b c∧Nq b d∧Nq b e∧Nq b f∧Nq b g∧Nq c d∧Nq c e∧Nq c f∧Nq c g∧Nq d e∧Nq d f∧Nq d g∧Nq e f∧Nq e g∧Nq f g:=by
 obtain⟨h1,h2,h3,h4,h5,h6,-⟩:=h;refine⟨h1 _ ?_,h1 _ ?_,h1 _ ?_,h1 _ ?_,h1 _ ?_,h1 _ ?_,h2 _ ?_,h2 _ ?_,h2 _ ?_,h2 _ ?_,h2 _ ?_,h3 _ ?_,h3 _ ?_,h3 _ ?_,h3 _ ?_,h4 _ ?_,h4 _ ?_,h4 _ ?_,h5 _ ?_,h5 _ ?_,h6 _ ?_⟩<;>simp
theorem aLE(h1:Nq r a)(h2:Nq r b)(h3:Nq r c)(h4:Nq r d)(h5:Nq r e)(h6:Nq r f)(h7:Nq r g):r∉ [a,b,c,d,e,f,g]:=by
 simp only[List.mem_cons,List.not_mem_nil,or_false,not_or];exact⟨h1,h2,h3,h4,h5,h6,h7⟩
theorem aKd:a∈ [a,b,c,d,e,f,g]:=by simp
theorem aKe:b∈ [a,b,c,d,e,f,g]:=by simp
theorem aKf:d∈ [a,b,c,d,e,f,g]:=by simp
theorem aKg:e∈ [a,b,c,d,e,f,g]:=by simp
theorem aKh:f∈ [a,b,c,d,e,f,g]:=by simp
theorem aKi:g∈ [a,b,c,d,e,f,g]:=by simp
end
def aE3 (ps:List Int):Md:=gU (uD ps) (uE 0) [⟨[],[]⟩,QI]
end Go.Proofs.YtjpdadobblffmaaGreat
namespace Go.Proofs.YtjpdadobblffmaaGreat
open Go.RowKit Go.ChangeShapes Go.WideShapes Go.ChangeAt Go.Deep
def aM (el:List El) (da:List Da):Md:= { aE3 []with el:=el,da:=da }
theorem WM{α:Type}{no:Nat}{l:List α}{pt:α→List Nat}{c:Nat}(hl:l.length≤2)(hc:c≤1000)(h:∀x∈l,(pt x).length≤c):(bB no l pt).length≤20+2*c:=by
 have h1:=jY h (by omega);have h2:l.length*c≤2*c:=Nat.mul_le_mul_right c hl;have h3:=bG 4 (aY l pt).length (by omega);unfold bB;split
 ·simp
 ·simp only[List.length_cons,List.length_append];omega
structure XOk (el:List El) (da:List Da):Prop where
 el:el.length≤2∧∀x∈el,gI x.off=true∧x.fs.length≤5∧∀f∈x.fs,0≤f∧f≤3
 da:da.length≤2∧∀x∈da,gI x.off=true∧x.bs.length≤300∧∀c∈x.bs,c<256
section
variable {el : List El} {da : List Da}
theorem XOk.wo (h:XOk el da):(aM el da).WO:=by
 have h0:=aEL [] 0 [] [] (by simp) (by simp);exact⟨⟨h0.w.im,h0.w.ex,h0.w.co,h0.w.il,fun x hx=>(h.da.2 x hx).2.2⟩,⟨h0.ok.1,h0.ok.2⟩⟩
theorem XOk.z (h:XOk el da):(aM el da).Z:=by
 have h0:=aHT [] 0 [] [] (by simp);exact⟨h0.ty,h0.im,h0.fn,h0.gl,h0.ex,⟨by have:=h.el.1;show el.length≤ _;omega,fun x hx=>by have:=(h.el.2 x hx).2.1;omega⟩,h0.co,⟨by have:=h.da.1;show da.length≤ _;omega,fun x hx=>by have:=(h.da.2 x hx).2.1;omega⟩⟩
theorem XOk.may (h:XOk el da):kD (aM el da)=true:=by
 obtain⟨⟨l1,e1⟩,l2,d1⟩:=h;have hE:cF el 16 (fun x=>gI x.off&&cF x.fs 50 gG)=true:=by
  unfold cF;simp only[Bool.and_eq_true,decide_eq_true_eq,List.all_eq_true];refine⟨by omega,fun x hx=> ?_⟩;obtain⟨h1,h2,h3⟩:=e1 x hx;refine⟨h1,by omega,fun f hf=> ?_⟩;have:=h3 f hf;unfold gG;rw[if_pos (by simpa using this.1)];exact decide_eq_true (by omega)
 have hD:cF da 16 (fun x=>gI x.off&&decide (x.bs.length≤1000))=true:=by
  unfold cF;simp only[Bool.and_eq_true,decide_eq_true_eq,List.all_eq_true];refine⟨by omega,fun x hx=> ?_⟩;obtain⟨h1,h2,-⟩:=d1 x hx;exact⟨h1,by omega⟩
 have hA:oO (aM el da)=true:=by
  have hL:mB (aM el da)=(mB (aM [] [])&&cF el 16 (fun x=>gI x.off&&cF x.fs 50 gG)&&cF da 16 (fun x=>gI x.off&&decide (x.bs.length≤1000))):=by
   unfold mB;rw[show cF (aM [] []).el 16 (fun x=>gI x.off&&cF x.fs 50 gG)=true from rfl,show cF (aM [] []).da 16 (fun x=>gI x.off&&decide (x.bs.length≤1000))=true from rfl,Bool.and_true,Bool.and_true];rfl
  have h0:(((aM [] []).co.length==(aM [] []).fn.length&&cF (aM [] []).co 16 sR)&&mB (aM [] [])&&kI (aM [] []).tb 16 1000&&kI (aM [] []).me 16 65536)=true:=by decide+kernel
  simp only[Bool.and_eq_true]at h0;obtain⟨⟨⟨a1,a2⟩,a3⟩,a4⟩:=h0;unfold oO;rw[hL,a2,hE,hD];simp only[Bool.and_true];simp only[Bool.and_eq_true];exact⟨⟨a1,a3⟩,a4⟩
 have hw1:(bB 9 el sE).length≤20+2*300:=WM l1 (by omega) fun x hx=>by
  obtain⟨h1,h2,h3⟩:=e1 x hx;have p1:=wD h1;have p2:=jY (pt:=cC) (l:=x.fs) (c:=5) (fun f hf=>sZ ⟨(h3 f hf).1,by have:=(h3 f hf).2;omega⟩) (by omega);unfold sE;rw[List.length_append];omega
 have hw2:(bB 11 da tP).length≤20+2*600:=WM l2 (by omega) fun x hx=>by
  obtain⟨h1,h2,-⟩:=d1 x hx;have p1:=wD h1;have p2:=bG 4 x.bs.length (by omega);unfold tP;rw[List.length_append,List.length_append];omega
 have hw:(eL (aM el da)).length=(eL (aM [] [])).length+(bB 9 el sE).length+(bB 11 da tP).length:=by
  unfold eL;dsimp only[aM];simp only[List.length_append,show bB 9 ([]:List El) sE=[]from rfl,show bB 11 ([]:List Da) tP=[]from rfl,List.length_nil];omega
 have h0:(eL (aM [] [])).length≤1000:=by decide+kernel
 rw[sX,hA,Bool.true_and,decide_eq_true_eq];omega
theorem XOk.vl (h:XOk el da):gB (aM el da)=-1:=by
 have v0:gB (aM [] [])=-1:=by decide+kernel
 have c0:oW (aM el da) (aM el da).co.length=oW (aM [] []) (aM [] []).co.length:=by kernel_rfl
 have e0:(aM el da).el.any (BB (aM el da))=false:=by
  rw[List.any_eq_false];intro x hx;have h3:=(h.el.2 x hx).2.2;unfold BB;simp only[Bool.or_eq_true,Bool.not_eq_true',not_or,List.any_eq_true,not_exists,not_and];refine⟨fun f hf=> ?_,by simp[aM,aE3,gU]⟩;have:=(h3 f hf).2;simp[QN,aM,aE3,gU];omega
 have d0:(!(aM el da).da.isEmpty&& !(aM el da).me.has)=false:=by simp[aM,aE3,gU]
 unfold gB at v0⊢;rw[c0,e0,d0,h.may];rw[show kD (aM [] [])=true from XOk.may ⟨⟨by simp,by simp⟩,by simp,by simp⟩,show(aM [] []).el.any (BB (aM [] []))=false from rfl,show(!(aM [] []).da.isEmpty&& !(aM [] []).me.has)=false from rfl]at v0;exact v0
end
end Go.Proofs.YtjpdadobblffmaaGreat
namespace Go.Proofs.YtjpdadobblffmaaGreat
open Go.RowKit Go.ChangeShapes Go.WideShapes Go.ChangeAt Go.Deep
attribute [local irreducible] SW RS RD fF eB
def el0:List El:=[⟨0,[0,2,3]⟩]
theorem aHX:XOk el0 []:=⟨⟨by decide,by decide⟩,by decide,by decide⟩
theorem RA(el:List El)(da:List Da):∀c∈(aM el da).co,UQ (dA c.bd)=[]:=by
 intro c hc;have hc':c∈ [(⟨[],[]⟩:Co),QI]:=hc;simp only[List.mem_cons,List.not_mem_nil,or_false]at hc';rcases hc' with rfl|rfl<;>decide
theorem aCv:∀c∈smallM.co,UQ (dA c.bd)=[]:=by decide
theorem KC{el:List El}{da:List Da}(h:XOk el da){tb:List Int}{b:List Nat}(h1:gX GS [-1,-1,-1,-1] el=some tb)(h2:gX HZ memZ da=some b):SCall Tryz.prog 37 [.agg (aZ (aM el da))] []
  (fun y σ=>∃x mm q d s t g,NX x mm q d s t g∧y=.tup [.ptr x 0,.int .i64 0]∧σ=QY (aM el da) tb b x mm q d s t g):=by
 refine(KB (aM el da) h.wo h.z h.vl rfl (RA el da)).mono fun y σ hy=> ?_
 have k1:gX GS (List.replicate (CL (aM el da)) (-1)) (aM el da).el=some tb:=h1;have k2:gX HZ memZ (aM el da).da=some b:=h2;rcases hy with⟨e,-⟩|⟨tb',e,⟨e2,-⟩|⟨b',e2,hr⟩⟩
 ·rw[k1]at e;cases e
 ·rw[k2]at e2;cases e2
 ·rw[k1]at e;rw[k2]at e2;cases e;cases e2
  exact hr
theorem ZJ{σ:dC}{q:Nat}{et:TypeId}(hg:fZ σ q=some (.arr et 2 [[.ro 0 [] .nil,.ro 0 [] .nil],dJ ⟨[],qF⟩])):BorL σ [q] (aHH (uD []) (uE 0) q) (aZ (aM el0 [])):=by
 have h1:Bor σ [q] (.own q 0 2) (.ro 2 ([(⟨[],[]⟩:Co),QI].map dJ) .any):=by
  refine .ownR (fun i j=>if i=0 then .ro 0 [] .nil else((dJ ⟨[],qF⟩)[j]?).getD .nilp) (List.mem_singleton.2 rfl) hg (by simp) rfl (fun z hz=> ?_) (fun i e j a h1 h2=> ?_) (fun i e j a h1 h2=> ?_)
  ·simp only[List.map_cons,List.map_nil,List.mem_cons,List.not_mem_nil,or_false]at hz;rcases hz with rfl|rfl<;>exact⟨rfl,fun a ha=>by
    simp only[dJ,List.mem_cons,List.not_mem_nil,or_false]at ha;rcases ha with rfl|rfl<;>rfl⟩
  ·match i with
   |0=>
    cases h1
    match j with
    |0=>cases h2;rfl
    |1=>cases h2;rfl
    | _ +2=>cases h2
   |1=>
    cases h1
    rw[if_neg (by decide),h2];rfl
   | _ +2=>cases h1
  ·match i with
   |0=>
    cases h1
    match j with
    |0=>cases h2;exact .le VLe.empty
    |1=>cases h2;exact .le VLe.empty
    | _ +2=>cases h2
   |1=>
    cases h1
    have h3:(dJ ⟨[],qF⟩)[j]? =some a:=h2;show Bor σ [q] (((dJ ⟨[],qF⟩)[j]?).getD .nilp) a;rw[h3];exact .refl _
   | _ +2=>cases h1
 exact .cons (.refl _) (.cons (.refl _) (.cons (.refl _) (.cons (.refl _) (.cons (.refl _) (.cons (.refl _) (.cons (.refl _) (.cons (.refl _) (.cons (.refl _) (.cons (.refl _) (.cons (.refl _) (.cons (.refl _) (.cons h1 (.cons (.refl _) .nil)))))))))))))
theorem RB:memZ.length=256:=List.length_replicate
theorem TX:SCall Tryz.prog 94 [] [] (fun y σ=>y=.bool true∧σ=[]):=by
 refine bS 2 [0] Tryz.func94 ?_;refine qK ?_;refine lB Tryz.call27 TW rfl aP aS ?_;refine cM ?_;exact aD aE ⟨by rfl,rfl⟩ aA
theorem RC:SCall Tryz.prog 32 [] [] (fun y σ=>y=.bool true∧σ=[]):=by
 have wS:=ZF smallM small_wo WK QZ rfl rfl rfl aCv;have wB:=aCo fun0 MF aCs (by rw[WL];rfl);have wF:=KC aHX (tb:=[0,2,3,-1]) (b:=memZ) rfl rfl;have wE:=fun x s=>BY (x:=x) (s:=s) (m:=smallM) (p:=.nilp) (j:=.ro 1 ((MY smallM.co.length).map AD) .any) (by decide) [97,100,100]
 have wX:=fun x s=>BY (x:=x) (s:=s) (m:=smallM) (p:=.nilp) (j:=.ro 1 ((MY smallM.co.length).map AD) .any) (by decide) [120]
 rw[show exV smallM.ex [97,100,100]=(0,true) by kernel_rfl]at wE;rw[show exV smallM.ex [120]=(0,false) by kernel_rfl]at wX;dsimp only at wE wX;refine bS 104 [0,1,2,4,5,6,7,8,10,11,12,29,55] Tryz.func32 ?_;refine qK ?_;refine yJ [] Tryz.call50 wH ?_;refine cw [] Tryz.call37 wS rfl aC aA ?_;rintro _ σ' ⟨x1,s1,rfl,rfl⟩ h15
 replace h15:=fY h15;repeat rcases h15 with⟨_,h15⟩
 refine nE ?_;refine qL ?_;refine eC fun r19 h19=> ?_;intros
 refine iW (j:=19) rfl bK (aN bC (by simp)) ?_;refine lE ?_;refine iR (eE (j:=20) rfl FB) ?_;refine lB Tryz.call37 wB rfl aP aS ?_;refine sK ?_;refine nS ?_;refine lo (dV (E rfl) (E rfl)) rfl ?_;rw[show((0:Int) !=0)=false from rfl];refine aIZ ?_;refine jE ?_;refine oR ?_;refine cw [(x1,.box 157 (lD smallM .nilp (.ptr s1 0)))] Tryz.call30 TT rfl aC aA ?_;rintro _ σ' ⟨rfl,rfl⟩ h32;refine nE ?_;refine iO fun r5 h5=> ?_;intros
 apply MZ;rfl;rfl;rfl;rfl;exact mP;refine gZ ?_;refine cw [(x1,.box 157 (lD smallM .nilp (.ptr s1 0)))] Tryz.call31 (wE x1 s1) rfl aC aA ?_;rintro _ σ' ⟨rfl,rfl⟩ h37;refine nE ?_;refine nS ?_;refine cw [(x1,.box 157 (lD smallM .nilp (.ptr s1 0)))] Tryz.call31 (wX x1 s1) rfl aC aA ?_;rintro _ σ' ⟨rfl,rfl⟩ h42;refine nE ?_;refine qL ?_;refine cw [] Tryz.call25 (aBS [] 0) rfl aC aA ?_;rintro _ σ' ⟨q2,rfl,rfl⟩ h46
 replace h46:=fY h46;repeat rcases h46 with⟨_,h46⟩
 apply aU;exact bD;refine iW (j:=46) rfl bK (aAf (ZJ bC)) ?_;refine cw [] Tryz.call37 wF rfl aC aA ?_;rintro _ σ' ⟨x2,m2,q3,d2,s2,t2,g2,hn,rfl,rfl⟩ h47;unfold QY at h47
 replace h47:=KA h47;replace h47:=cB h47;repeat rcases h47 with⟨_,h47⟩
 unfold QY;obtain⟨y1,y2,y3,y4,y5,y6,y7,y8,y9,y10,y11,y12,y13,y14,y15,y16,y17,y18,y19,y20,y21⟩:=hn;refine nE ?_;refine nS ?_;refine lo (dV (E rfl) (E rfl)) rfl ?_;rw[show((0:Int) !=0)=false from rfl];refine jU ?_;refine aAj ?_;refine uF ?_;refine pO ?_;refine cZ ?_;refine lB Tryz.call94 TX rfl aP aS ?_;refine jU ?_;refine pW ?_;rw[show((6:Int)==6)=true from rfl];refine uF ?_;refine mR ?_;refine qV ?_;refine pW ?_;refine kH ?_;refine kH ?_;refine pW ?_;refine kH ?_;refine kH ?_;refine rG ?_;refine kH ?_;refine gy rfl rfl ?_;refine yJ [(x1,.box 157 (lD smallM .nilp (.ptr s1 0)))] Tryz.call34 ZE ?_
 (first|refine ln rfl rfl rfl rfl ?_ |(refine gy rfl rfl ?_;(first|refine lo (cP (by first|exact W rfl id|exact E rfl) (E rfl) (.inl ⟨rfl,rfl⟩)) rfl ?_ |refine lo (cP (by first|exact W rfl id|exact E rfl) (E rfl) (.inr (.inl ⟨⟨_,_,rfl⟩,rfl⟩))) rfl ?_ |refine lo (cP (by first|exact W rfl id|exact E rfl) (E rfl) (.inr (.inr (.inl ⟨⟨_,_,_,rfl⟩,rfl⟩)))) rfl ?_ |refine lo (cP (by first|exact W rfl id|exact E rfl) (E rfl) (.inr (.inr (.inr ⟨⟨_,_,_,_,rfl⟩,rfl⟩)))) rfl ?_))|refine lg rfl rfl (cP (by first|exact W rfl id|exact E rfl) (E rfl) (.inl ⟨rfl,rfl⟩)) rfl ?_ |refine lg rfl rfl (cP (by first|exact W rfl id|exact E rfl) (E rfl) (.inr (.inl ⟨⟨_,_,rfl⟩,rfl⟩))) rfl ?_ |refine lg rfl rfl (cP (by first|exact W rfl id|exact E rfl) (E rfl) (.inr (.inr (.inl ⟨⟨_,_,_,rfl⟩,rfl⟩)))) rfl ?_ |refine lg rfl rfl (cP (by first|exact W rfl id|exact E rfl) (E rfl) (.inr (.inr (.inr ⟨⟨_,_,_,_,rfl⟩,rfl⟩)))) rfl ?_);refine kH ?_;refine gy rfl rfl ?_;refine yJ [(x1,.box 157 (lD smallM .nilp (.ptr s1 0)))] Tryz.call35 tC ?_
 (first|refine ln rfl rfl rfl rfl ?_ |(refine gy rfl rfl ?_;(first|refine lo (cQ (by first|exact W rfl id|exact E rfl) (E rfl) (.inl ⟨rfl,rfl⟩)) rfl ?_ |refine lo (cQ (by first|exact W rfl id|exact E rfl) (E rfl) (.inr (.inl ⟨⟨_,_,rfl⟩,rfl⟩))) rfl ?_ |refine lo (cQ (by first|exact W rfl id|exact E rfl) (E rfl) (.inr (.inr (.inl ⟨⟨_,_,_,rfl⟩,rfl⟩)))) rfl ?_ |refine lo (cQ (by first|exact W rfl id|exact E rfl) (E rfl) (.inr (.inr (.inr ⟨⟨_,_,_,_,rfl⟩,rfl⟩)))) rfl ?_))|refine lg rfl rfl (cQ (by first|exact W rfl id|exact E rfl) (E rfl) (.inl ⟨rfl,rfl⟩)) rfl ?_ |refine lg rfl rfl (cQ (by first|exact W rfl id|exact E rfl) (E rfl) (.inr (.inl ⟨⟨_,_,rfl⟩,rfl⟩))) rfl ?_ |refine lg rfl rfl (cQ (by first|exact W rfl id|exact E rfl) (E rfl) (.inr (.inr (.inl ⟨⟨_,_,_,rfl⟩,rfl⟩)))) rfl ?_ |refine lg rfl rfl (cQ (by first|exact W rfl id|exact E rfl) (E rfl) (.inr (.inr (.inr ⟨⟨_,_,_,_,rfl⟩,rfl⟩)))) rfl ?_);refine kH ?_;refine gy rfl rfl ?_;refine yJ [(x1,.box 157 (lD smallM .nilp (.ptr s1 0)))] Tryz.call36 (vU 0) ?_;refine rG ?_;refine uF ?_;refine aIZ ?_;refine NU ?_;first|refine ln rfl rfl rfl rfl ?_ |(refine gy rfl rfl ?_;refine lo (aF (E rfl)) rfl ?_)|refine lg rfl rfl (aF (E rfl)) rfl ?_ |refine lw rfl rfl (aF (E rfl)) rfl ?_ |refine lw rfl rfl (bR (v:=.bool false)) rfl ?_
 refine gy rfl rfl ?_;refine yJ [(x2,.box 157 (lD (aM el0 []) (.ptr m2 0) (.ptr s2 0)))] Tryz.call36 (vU 0) ?_;refine aIR ?_;refine jM ?_;exact aD aE ⟨by rfl,rfl⟩ aA
theorem RE(m:Md)(hw:m.WO)(hz:m.Z)(hF:kD m=true→∀j:Nat,j<m.co.length→SCall Tryz.prog 24 [.agg (aZ m),.int .i64 j] [] (fun y σ=>y=.bool (zH m j)∧σ=[])):SCall Tryz.prog 29 [.agg (aZ m)] [] (fun y σ=>y=.int .i64 (gB m)∧σ=[]):=by
 have hzi:=hz.im;have hzx:=hz.ex;have hzc:=hz.co.1;have hze:=hz.el.1;have hT:=fun(h:kD m=true)=>YU m hz (aEO h)
 refine bS 163 [0,1,2,3,4,5,6,7,8,9,10,13,18,30,37,55,73,78,89,92,107,112,123,137,141,146,152,162] Tryz.func29 ?_;refine cZ ?_;refine gQ fun r1 h1=> ?_;intros
 refine iX ?_;refine kP ?_;refine lB Tryz.call19 (aEl m hw hz) rfl aP aS ?_;refine nQ ?_;refine aB rfl (fun g1=> ?_) (fun g1=> ?_)
 ·refine aI ?_;have hE:gB m=0:=by unfold gB;rw[if_pos (by simpa using g1)]
  refine jV ?_;exact aD aE ⟨by rw[hE];rfl,rfl⟩ aA
 refine aI ?_;have h0:¬kD m=false:=by simpa using g1
 have hm:kD m=true:=by simpa using h0
 clear g1;refine jV ?_;refine lp (β:=Nat) (fun j=>⟨[(1,.ptr r1 0),(3,.int .i64 j)],[(r1,.box 33 (aZ m))]⟩) (fun j=>j≤m.im.length∧((m.im.take j).any fun x=>MN m x.ty)=false) (fun j=>m.im.length-j) 0 aJ ⟨Nat.zero_le _,rfl⟩ ?_;rintro j ⟨hj,ha⟩;refine nT ?_;refine aB rfl (fun g4=> ?_) (fun g4=> ?_)
 ·have hlt:j<m.im.length:=by simpa using g4
  obtain⟨x,hx⟩:∃x,m.im[j]? =some x:=⟨_,List.getElem?_eq_getElem hlt⟩
  refine aI ?_;refine fJ [(0,true),(1,true),(2,true),(3,true),(4,true),(5,true),(6,true),(7,true),(8,true),(9,true)] ?_;refine mS ?_;refine iC ?_;refine UD ?_;refine fP rfl (gC (E rfl) (E rfl)) rfl ?_;refine jI ?_;refine aB rfl (fun g6=> ?_) (fun g6=> ?_)
  ·refine aI ?_;have hE:gB m=2:=by unfold gB;rw[if_neg h0,if_pos (yI (p:=fun x:Im=>MN m x.ty) hx g6)]
   refine jV ?_;exact aD aE ⟨by rw[hE];rfl,rfl⟩ aA
  refine lJ ?_;refine⟨j+1,⟨hlt,by rw[rY hx,ha];exact g6⟩,by show m.im.length-(j+1)<m.im.length-j;omega, ?_⟩;exact aJ
 obtain rfl:j=m.im.length:=by simp at g4;omega
 rw[List.take_length]at ha;refine nH ?_;refine cw [] Tryz.call93 (hT hm) rfl aC aA ?_;rintro _ σ' ⟨rfl,rfl⟩ h33;refine nE ?_;refine nS ?_;refine nQ ?_;refine aB rfl (fun g9=> ?_) (fun g9=> ?_)
 ·refine aI ?_;have hE:gB m=3:=by unfold gB;rw[if_neg h0,if_neg (by simp[ha]),if_pos (YV ha (by simpa using g9))]
  refine jV ?_;exact aD aE ⟨by rw[hE];rfl,rfl⟩ aA
 refine aI ?_;have hok:RL m=true:=by simpa using g9
 have htv:YT m=.ro 2 ((MP m).map dF) .any:=by unfold YT MP;rw[if_pos hok,if_pos hok]
 rw[htv];have hV:Vp m:=⟨h0,by simp[ha],by simp[aCf hok]⟩
 have hnF:=fun f=>aHU (f:=f) hok
 clear g9;refine mJ ?_;refine qA ?_;refine wP ?_;refine AK ?_;refine NT ?_;refine uF ?_;refine wP ?_;refine AK ?_;refine RR ?_;refine AK ?_;refine aAi ?_;refine tH ?_;refine aB rfl (fun g11=> ?_) (fun g11=> ?_)
 ·refine aI ?_;rw[MQ]at g11;have hE:gB m=4:=by unfold gB;rw[if_neg hV.a,if_neg hV.b,if_neg hV.c,if_pos g11]
  refine jV ?_;exact aD aE ⟨by rw[hE];rfl,rfl⟩ aA
 refine aI ?_;rw[MQ]at g11;refine mJ ?_;refine qA ?_;refine wP ?_;refine AK ?_;refine NT ?_;refine uF ?_;refine wP ?_;refine AK ?_;refine RR ?_;refine AK ?_;refine aAi ?_;refine tH ?_;refine aB rfl (fun g13=> ?_) (fun g13=> ?_)
 ·refine aI ?_;rw[MQ]at g13;have hE:gB m=5:=by unfold gB;rw[if_neg hV.a,if_neg hV.b,if_neg hV.c,if_neg (by simp[g11]),if_pos g13]
  refine jV ?_;exact aD aE ⟨by rw[hE];rfl,rfl⟩ aA
 refine aI ?_;rw[MQ]at g13;have hV2:=hV.to g11 g13;refine jV ?_;refine lp (β:=Nat) (fun j=>⟨[(1,.ptr r1 0),(4,.ro 2 ((MP m).map dF) .any),(6,.int .i64 j)],[(r1,.box 33 (aZ m))]⟩) (fun j=>j≤m.ex.length∧twN (QN m) m.ex j=false) (fun j=>m.ex.length-j) 0 aJ ⟨Nat.zero_le _,rfl⟩ ?_;rintro j ⟨hj,hb⟩;refine nT ?_;refine aB rfl (fun g16=> ?_) (fun g16=> ?_)
 ·have hlt:j<m.ex.length:=by simpa using g16
  obtain⟨x,hx⟩:∃x,m.ex[j]? =some x:=⟨_,List.getElem?_eq_getElem hlt⟩
  have hnx:=QQ (nf:=QN m) hx;have hup:∀b,(QN m x.fn||(m.ex.take j).any fun y=>QO x.nm y.nm)=b→aEM (QN m) (m.ex.take j) (m.ex.getD j ⟨[],0⟩)=b:=by intro b h;rw[List.getD_eq_getElem?_getD,hx];exact h
  refine fT ?_;refine tK ?_;refine CH ?_;refine BO ?_;refine aB rfl (fun g18=> ?_) (fun g18=> ?_)
  ·refine aI ?_;rw[hnF]at g18;have hE:gB m=7:=by rw[hV2,if_pos (QP hlt (hup true (by rw[g18];rfl)))]
   refine jV ?_;exact aD aE ⟨by rw[hE];rfl,rfl⟩ aA
  refine aI ?_;rw[hnF]at g18;refine jV ?_;refine lp (β:=Nat) (fun k=>⟨[(1,.ptr r1 0),(4,.ro 2 ((MP m).map dF) .any),(6,.int .i64 j),(7,.int .i64 k)],[(r1,.box 33 (aZ m))]⟩) (fun k=>k≤j∧((m.ex.take k).any fun y=>QO x.nm y.nm)=false) (fun k=>j-k) 0 aJ ⟨Nat.zero_le _,rfl⟩ ?_;rintro k ⟨hk,hc⟩;refine dG ?_;refine nP ?_;refine aB rfl (fun g21=> ?_) (fun g21=> ?_)
  ·have hklt:k<j:=by simpa using g21
   obtain⟨y,hy⟩:∃y,m.ex[k]? =some y:=⟨_,List.getElem?_eq_getElem (by omega)⟩
   refine aI ?_;refine fJ [(0,true),(1,true),(2,true),(3,true),(4,true),(5,true),(6,true),(7,true),(8,true),(9,true),(10,true),(11,true),(12,true)] ?_;refine mS ?_;refine mS ?_;refine fP rfl (rB (E rfl) (E rfl)) rfl ?_;refine jI ?_;refine aB rfl (fun g23=> ?_) (fun g23=> ?_)
   ·refine aI ?_;have hE:gB m=7:=by rw[hV2,if_pos (QP hlt (hup true (by rw[yI (j:=k) (x:=y) (p:=fun y=>QO x.nm y.nm) (by rw[List.getElem?_take_of_lt hklt];exact hy) (by rw[QR];exact g23)];simp)))]
    refine jV ?_;exact aD aE ⟨by rw[hE];rfl,rfl⟩ aA
   refine lJ ?_;refine⟨k+1,⟨hklt,by rw[rY hy,hc,QR];exact g23⟩,by show j-(k+1)<j-k;omega, ?_⟩;exact aJ
  obtain rfl:k=j:=by simp at g21;omega
  refine lJ ?_;refine⟨k+1,⟨hlt,by rw[hnx,hb,g18,hc];rfl⟩,by show m.ex.length-(k+1)<m.ex.length-k;omega, ?_⟩;exact aJ
 obtain rfl:j=m.ex.length:=by simp at g16;omega
 rw[if_neg (by simp[hb])]at hV2;refine bF ?_;refine lp (β:=Nat) (fun j=>⟨[(1,.ptr r1 0),(4,.ro 2 ((MP m).map dF) .any),(8,.int .i64 j)],[(r1,.box 33 (aZ m))]⟩) (fun j=>j≤m.el.length∧(m.el.take j).any (BB m)=false) (fun j=>m.el.length-j) 0 aJ ⟨Nat.zero_le _,rfl⟩ ?_;rintro j ⟨hj,hd⟩;refine nT ?_;refine aB rfl (fun g26=> ?_) (fun g26=> ?_)
 ·have hlt:j<m.el.length:=by simpa using g26
  obtain⟨x,hx⟩:∃x,m.el[j]? =some x:=⟨_,List.getElem?_eq_getElem hlt⟩
  have hzf:=hz.el.2 x (List.mem_of_getElem? hx);refine bF ?_;refine lp (β:=Nat) (fun k=>⟨[(1,.ptr r1 0),(4,.ro 2 ((MP m).map dF) .any),(8,.int .i64 j),(9,.int .i64 k)],[(r1,.box 33 (aZ m))]⟩) (fun k=>k≤x.fs.length∧(x.fs.take k).any (QN m)=false) (fun k=>x.fs.length-k) 0 aJ ⟨Nat.zero_le _,rfl⟩ ?_;rintro k ⟨hk,he⟩;refine oI ?_;refine tK ?_;refine qI ?_;refine nP ?_;refine aB rfl (fun g29=> ?_) (fun g29=> ?_)
  ·have hklt:k<x.fs.length:=by simpa using g29
   obtain⟨t,ht⟩:∃t,x.fs[k]? =some t:=⟨_,List.getElem?_eq_getElem hklt⟩
   refine fT ?_;refine tK ?_;refine pA ?_;refine CH ?_;refine BO ?_;refine aB rfl (fun g31=> ?_) (fun g31=> ?_)
   ·refine aI ?_;rw[hnF]at g31;have hE:gB m=9:=by rw[hV2,if_pos (yI hx (by unfold BB;rw[yI ht g31];rfl))]
    refine jV ?_;exact aD aE ⟨by rw[hE];rfl,rfl⟩ aA
   refine aI ?_;rw[hnF]at g31;refine fV ?_;refine DS ?_;refine⟨k+1,⟨hklt,by rw[rY ht,he,g31];rfl⟩,by show x.fs.length-(k+1)<x.fs.length-k;omega, ?_⟩;exact aJ
  obtain rfl:k=x.fs.length:=by simp at g29;omega
  rw[List.take_length]at he;refine cZ ?_;refine qA ?_;refine nQ ?_;refine aB rfl (fun g33=> ?_) (fun g33=> ?_)
  ·refine aI ?_;have hE:gB m=9:=by rw[hV2,if_pos (yI hx (by unfold BB;rw[g33];simp))]
   refine jV ?_;exact aD aE ⟨by rw[hE];rfl,rfl⟩ aA
  refine lJ ?_;refine⟨j+1,⟨hlt,by rw[rY hx,hd];unfold BB;rw[he,g33];rfl⟩,by show m.el.length-(j+1)<m.el.length-j;omega, ?_⟩;exact aJ
 obtain rfl:j=m.el.length:=by simp at g26;omega
 rw[List.take_length]at hd;rw[if_neg (by simp[hd])]at hV2;refine bF ?_;refine lp (β:=Nat) (fun j=>⟨[(1,.ptr r1 0),(10,.int .i64 j)],[(r1,.box 33 (aZ m))]⟩) (fun j=>j≤m.co.length∧oW m j=true) (fun j=>m.co.length-j) 0 aJ ⟨Nat.zero_le _,rfl⟩ ?_;rintro j ⟨hj,hc⟩;refine nT ?_;refine aB rfl (fun g36=> ?_) (fun g36=> ?_)
 ·have hlt:j<m.co.length:=by simpa using g36
  refine nH ?_;refine lo (aF (E rfl)) rfl ?_;refine lB Tryz.call24 (hF hm j hlt) rfl aP aS ?_;refine nQ ?_;refine aB rfl (fun g38=> ?_) (fun g38=> ?_)
  ·refine aI ?_;have hE:gB m=10:=by rw[hV2,if_pos (AA hlt (by simpa using g38))]
   refine jV ?_;exact aD aE ⟨by rw[hE];rfl,rfl⟩ aA
  refine lJ ?_;refine⟨j+1,⟨hlt,by unfold oW;rw[hc];simpa using g38⟩,by show m.co.length-(j+1)<m.co.length-j;omega, ?_⟩;exact aJ
 obtain rfl:j=m.co.length:=by simp at g36;omega
 rw[if_neg (by simp[hc])]at hV2;refine fT ?_;refine xT ?_;refine wP ?_;refine AK ?_;refine aAq ?_;refine aB rfl (fun g40=> ?_) (fun g40=> ?_)
 ·refine aI ?_;have hE:gB m=11:=by rw[hV2,if_pos (by rw[←MO];exact g40)]
  refine jV ?_;exact aD aE ⟨by rw[hE];rfl,rfl⟩ aA
 refine aI ?_;have hE:gB m=-1:=by rw[hV2,if_neg (by rw[←MO,g40];simp)]
 refine jV ?_;exact aD aE ⟨by rw[hE];rfl,rfl⟩ aA
theorem RF{el:List El}{da:List Da}(h:XOk el da):SCall Tryz.prog 29 [.agg (aZ (aM el da))] [] (fun y σ=>y=.int .i64 (-1)∧σ=[]):=by
 rw[←h.vl];have hf:=(aB8 (vL h.may).1 h.wo).2;refine RE (aM el da) h.wo h.z fun hm j hj=> ?_
 have hr:=TK (aM el da) hf (fun c hc=>by
  have hc':c∈ [(⟨[],[]⟩:Co),QI]:=hc;simp only[List.mem_cons,List.not_mem_nil,or_false]at hc';rcases hc' with rfl|rfl<;>simp[QI,qF]) j
 have hj2:j<2:=hj;have e0:QJ (aM el da) 0=zH (aM el da) 0:=by kernel_rfl
 have e1:QJ (aM el da) 1=zH (aM el da) 1:=by kernel_rfl
 have e:QJ (aM el da) j=zH (aM el da) j:=by
  match j,hj2 with
  |0,_=>exact e0
  |1,_=>exact e1
 rw[←e];exact hr
theorem RG:∀ {l B:List Nat} {o:Nat},o+l.length≤B.length→kO B o l=B.take o++l++B.drop (o+l.length)
 |[],B,o,h=>by simp[kO]
 |c::l,B,o,h=>by
  have ho:o<B.length:=by simp at h;omega
  rw[kO,RG (by rw[List.length_set];simp at h;omega)];have e1:(B.set o c).take (o+1)=B.take o++ [c]:=by
   rw[List.take_add_one,List.getElem?_set_self ho,List.take_set_of_le (Nat.le_refl _)];rfl
  have e2:(B.set o c).drop (o+1+l.length)=B.drop (o+(c::l).length):=by
   rw[List.drop_set_of_lt (by omega),List.length_cons,show o+1+l.length=o+(l.length+1) by omega]
  rw[e1,e2];simp
theorem aCw{m:Md}{k:Nat}{x:Gl}(h:m.gl[k]? =some x):(nD m).take k++ [(x.kd,x.n)]=(nD m).take (k+1):=by
 rw[List.take_add_one,nD,List.getElem?_map,h];rfl
def tW (m:Md) (a b c:AV) (w s:Int):List AV:=aZ m++ [a,b,c,.int .i64 0,.int .i64 0,.int .i64 w,.int .i64 s,.ro 0 [] .nil,.int .i64 0,.int .i64 0,.int .i64 0,.ro 0 [] .nil,.int .i64 0,.int .i64 0,.bool false]
def aE4 (m:Md) (w s:Int) (y:AV) (σ:dC):Prop:=
 (gX GS [-1,-1,-1,-1] m.el=none∧y=.tup [.nilp,.int .i64 3]∧σ=[])∨
 ∃tb,gX GS [-1,-1,-1,-1] m.el=some tb∧
  ((gX HZ memZ m.da=none∧y=.tup [.nilp,.int .i64 3]∧σ=[])∨
  ∃b,gX HZ memZ m.da=some b∧∃c q t g,(Nq c q∧Nq c t∧Nq c g∧Nq q t∧Nq q g∧Nq t g)∧y=.tup [.ptr c 0,.int .i64 0]∧
   σ=[(c,.box 175 (tW m (.own q 0 b.length) (.own t 0 tb.length) (.own g 0 (nD m).length) w s)),(q,.arr 5 1 (b.map aG)),(t,.arr 3 1 (tb.map aK)),(g,.arr 71 2 ((nD m).map fL))])
theorem WN{el:List El}{da:List Da}(hX:XOk el da)(w s:Int):
  SCall Tryz.prog 44 [.agg (aZ (aM el da)),.int .i64 s,.int .i64 w] [] (aE4 (aM el da) w s):=by
 have hM:=RF hX;have hgl:(aM el da).gl.length=2:=rfl;have he1:(aM el da).el.length≤2:=hX.el.1;have he2:∀x∈(aM el da).el,gI x.off=true∧x.fs.length≤5:=fun x hx=>⟨(hX.el.2 x hx).1,(hX.el.2 x hx).2.1⟩
 have hd1:(aM el da).da.length≤2:=hX.da.1;have hd2:∀x∈(aM el da).da,gI x.off=true∧x.bs.length≤300:=fun x hx=>⟨(hX.da.2 x hx).1,(hX.da.2 x hx).2.1⟩
 refine bS 156 [0,1,2,3,6,7,8,9,10,11,12,13,14,17,25,43,59,81,105,120,144] Tryz.func44 ?_;refine cZ ?_;refine gQ fun r3 h3=> ?_;intros
 refine qL ?_;refine kP ?_;refine lB Tryz.call29 hM rfl aP aS ?_;refine qH ?_;rw[show((-1:Int) !=-1)=false from rfl];refine nH ?_;refine HI ?_;refine lE ?_;refine gQ fun r22 h22=> ?_;intros
 refine cM ?_;have hgL:(nD (aM el da)).length=(aM el da).gl.length:=by simp[nD]
 refine mJ ?_;refine qA ?_;refine oR ?_;refine qA ?_;refine lo (jX (E rfl) (E rfl)) rfl ?_;rw[show IntKind.i64.wrap ((aM el da).me.mn*256)=256 from rfl];apply mk (l:=256) (z:=aG 0);rfl;rfl;rfl;rfl
 ·decide
 ·simp[maxLen]
 ·rfl
 ·rfl
 refine iT fun r31 h31=> ?_;intros
 refine lK ?_;refine cH (ks:=[0,1,2,3,6,7,8,9,10,11,12,13,14,17,25,43,59,81,105,120,144]) r22 15 3 1 (by decide) bC rfl (by decide) fun t0 ht0=> ?_
 simp only[aO,aT,and_true]at ht0;repeat rcases ht0 with⟨_,ht0⟩
 apply Exists.intro;apply And.intro;exact cE;refine cH (ks:=[0,1,2,3,6,7,8,9,10,11,12,13,14,17,25,43,59,81,105,120,144]) r22 16 71 2 (by decide) bC rfl (by decide) fun g0 hg0=> ?_
 simp only[aO,aT,and_true]at hg0;repeat rcases hg0 with⟨_,hg0⟩
 apply Exists.intro;apply And.intro;exact cE;refine jV ?_;refine lp (β:=Nat×Nat) (fun b=>⟨[(3,.ptr r3 0),(8,.ptr r22 0),(9,.int .i64 b.1)],[(r22,.box 175 (tW (aM el da) (.own r31 0 256) (.own b.2 0 (List.replicate b.1 (-1:Int)).length) (.own g0 0 0) w s)),(b.2,.arr 3 1 ((List.replicate b.1 (-1:Int)).map aK)),(r31,.arr 5 1 (List.replicate 256 (aG 0))),(g0,.arr 71 2 []),(r3,.box 33 (aZ (aM el da)))]⟩) (fun b=>b.1≤4∧Nq b.2 r3∧Nq b.2 r22∧Nq b.2 r31∧Nq b.2 g0) (fun b=>4-b.1) (0,t0) aJ ⟨Nat.zero_le _,by show Nq t0 r3;(exact cA),by show Nq t0 r22;(exact cA),by show Nq t0 r31;(exact cA),by show Nq t0 g0;(exact cA)⟩ ?_;rintro⟨k,t⟩ ⟨hk,n1,n2,n3,n4⟩;dsimp only at hk n1 n2 n3 n4⊢;refine cZ ?_;refine qA ?_;refine jU ?_;refine RR ?_;refine AK ?_;refine aAi ?_;refine tH ?_;refine aB rfl (fun g7=> ?_) (fun g7=> ?_)
 ·have g7':decide ((k:Int)<4)=true:=g7;have hlt:k<4:=by simp at g7';omega
  refine dG ?_;refine gY ?_;refine eC fun r51 h51=> ?_;intros
  refine jQ ((List.replicate k (-1:Int)++ [-1]).map aK) (List.replicate k (-1:Int)++ [-1]).length ?_;refine bE fun r52 h52=> ?_;intros
  refine lK ?_;refine fV ?_;refine DS ?_;refine⟨(k+1,r52),⟨hlt,by show Nq r52 r3;(exact cA),by show Nq r52 r22;(exact cA),by show Nq r52 r31;(exact cA),by show Nq r52 g0;(exact cA)⟩,by show 4-(k+1)<4-k;omega, ?_⟩;dsimp only;rw[←List.replicate_succ'];exact aJ
 have g7':decide ((k:Int)<4)=false:=g7;obtain rfl:k=4:=by simp at g7';omega
 rw[show(List.replicate 4 (-1:Int))=[-1,-1,-1,-1]from rfl];refine bF ?_;refine lp (β:=Nat×Nat) (fun b=>⟨[(3,.ptr r3 0),(8,.ptr r22 0),(10,.int .i64 b.1)],[(r22,.box 175 (tW (aM el da) (.own r31 0 256) (.own t 0 4) (.own b.2 0 ((nD (aM el da)).take b.1).length) w s)),(t,.arr 3 1 (([-1,-1,-1,-1]:List Int).map aK)),(r31,.arr 5 1 (List.replicate 256 (aG 0))),(b.2,.arr 71 2 (((nD (aM el da)).take b.1).map fL)),(r3,.box 33 (aZ (aM el da)))]⟩) (fun b=>b.1≤(aM el da).gl.length∧Nq b.2 r3∧Nq b.2 r22∧Nq b.2 r31∧Nq b.2 t) (fun b=>(aM el da).gl.length-b.1) (0,g0) aJ ⟨Nat.zero_le _,by show Nq g0 r3;(exact cA),by show Nq g0 r22;(exact cA),by show Nq g0 r31;(exact cA),by show Nq g0 t;(exact cA)⟩ ?_;clear n4;rintro⟨k,g⟩ ⟨hk,p1,p2,p3,p4⟩;dsimp only at hk p1 p2 p3 p4⊢;refine nT ?_;refine aB rfl (fun g11=> ?_) (fun g11=> ?_)
 ·have hlt:k<(aM el da).gl.length:=by simpa using g11
  obtain⟨x,hx⟩:∃x,(aM el da).gl[k]? =some x:=⟨_,List.getElem?_eq_getElem hlt⟩
  refine aI ?_;refine fJ [(0,true),(1,true),(2,true),(3,true),(4,true),(5,true),(6,true),(7,true),(8,true),(9,true),(10,true),(11,false),(12,false),(13,true),(14,true),(15,false)] ?_;refine CF ?_;refine HG ?_;refine aGs ?_;refine aIO ?_;refine HL fun r73 h73=> ?_;intros
  refine eZ rfl (((nD (aM el da)).take k++ [(x.kd,x.n)]).map fL) ((nD (aM el da)).take k++ [(x.kd,x.n)]).length ?_;refine bE fun r74 h74=> ?_;intros
  refine rI ?_;refine CC ?_;refine lJ ?_;refine⟨(k+1,r74),⟨hlt,by show Nq r74 r3;(exact cA),by show Nq r74 r22;(exact cA),by show Nq r74 r31;(exact cA),by show Nq r74 t;(exact cA)⟩,by show(aM el da).gl.length-(k+1)<(aM el da).gl.length-k;omega, ?_⟩;dsimp only;rw[aCw hx];exact aJ
 obtain rfl:k=(aM el da).gl.length:=by simp at g11;omega
 rw[List.take_of_length_le (by omega)];refine bF ?_;refine lp (β:=Nat×List Int) (fun b=>⟨[(3,.ptr r3 0),(8,.ptr r22 0),(11,.int .i64 b.1)],[(r22,.box 175 (tW (aM el da) (.own r31 0 256) (.own t 0 4) (.own g 0 (nD (aM el da)).length) w s)),(t,.arr 3 1 (b.2.map aK)),(r31,.arr 5 1 (List.replicate 256 (aG 0))),(g,.arr 71 2 ((nD (aM el da)).map fL)),(r3,.box 33 (aZ (aM el da)))]⟩) (fun b=>b.1≤(aM el da).el.length∧gX GS [-1,-1,-1,-1] ((aM el da).el.take b.1)=some b.2∧b.2.length=4) (fun b=>(aM el da).el.length-b.1) (0,[-1,-1,-1,-1]) aJ ⟨Nat.zero_le _,rfl,rfl⟩ ?_;rintro⟨j,tb⟩ ⟨hj,hr,hl⟩;dsimp only at hj hr hl⊢;refine nT ?_;refine aB rfl (fun g15=> ?_) (fun g15=> ?_)
 ·have hlt:j<(aM el da).el.length:=by simpa using g15
  obtain⟨⟨off,fs⟩,hx⟩:∃x,(aM el da).el[j]? =some x:=⟨_,List.getElem?_eq_getElem hlt⟩
  have hfo:=he2 _ (List.mem_of_getElem? hx);simp only[gI,Bool.and_eq_true,decide_eq_true_eq]at hfo;refine fT ?_;refine oG ?_;refine iO fun r12 h12=> ?_;intros
  refine gT ?_;dsimp only;refine fJ [(0,true),(1,true),(2,true),(3,true),(4,true),(5,true),(6,true),(7,true),(8,true),(9,true),(10,true),(11,true),(12,true),(13,true),(14,true),(15,true),(16,true)] ?_;refine iC ?_;refine z46 ?_;refine DX ?_;refine yS ?_;refine HF ?_;refine UE ?_;first|refine nO rfl rfl rfl rfl rfl ?_ |(first|refine gD rfl rfl rfl (kR (by first|exact W rfl id|exact E rfl) (by first|exact W rfl id|exact E rfl) (by omega) (by omega)) rfl ?_ |refine gD rfl rfl rfl (jB (by first|exact W rfl id|exact E rfl) (by first|exact W rfl id|exact E rfl)) rfl ?_)|refine fQ rfl rfl rfl (kR (by first|exact W rfl id|exact E rfl) (by first|exact W rfl id|exact E rfl) (by omega) (by omega)) rfl ?_ |refine fQ rfl rfl rfl (lop_add64c (by first|exact W rfl id|exact E rfl) (by first|exact W rfl id|exact E rfl) (fun hc=>by simp at hc<;>first|omega|(have hov:=hov hc;omega))) rfl ?_ |refine fQ rfl rfl rfl (jB (by first|exact W rfl id|exact E rfl) (by first|exact W rfl id|exact E rfl)) rfl ?_
  refine sJ ?_;refine sq4 ?_;refine UE ?_;refine aGp ?_;refine jI ?_;refine aB rfl (fun g18=> ?_) (fun g18=> ?_)
  ·have hf:¬BC tb off fs.length=true:=by
    by_cases h:off<0
    ·simp[BC,hl];omega
    ·simp[h]at g18;simp[BC,hl];omega
   refine aI ?_;have hN:∀y σ,y=AV.tup [.nilp,.int .i64 3]→σ=[]→aE4 (aM el da) w s y σ:=fun _ _ h1 h2=>.inl ⟨wN hr hx (by unfold GS;exact if_neg hf),h1,h2⟩
   refine oZ ?_;apply aD;exact aE
   ·exact hN _ _ rfl rfl
   ·exact aA
  have hf:0≤off∧off+fs.length≤4:=by
   by_cases h:off<0
   ·simp[h]at g18
   ·simp[h]at g18;omega
  have hsb:BC tb off fs.length=true:=by simp[BC,hl];omega
  refine aI ?_;refine fJ [(0,true),(1,true),(2,true),(3,true),(4,true),(5,true),(6,true),(7,true),(8,true),(9,false)] ?_;refine mQ ?_;refine iC ?_;refine z84 ?_;refine iC ?_;apply dcp (m:=fs.length) (es':=(CM tb off fs).map aK);rfl;infer_instance;infer_instance;rfl;exact cE
  ·simp;omega
  ·exact .inl ⟨_,rfl⟩
  ·simp;omega
  ·simp[CM,hsb,List.map_take,List.map_drop,kS]
  ·rfl
  ·exact eM
  refine CC ?_;refine lJ ?_;refine⟨(j+1,CM tb off fs),⟨hlt,wM hr hx (by unfold GS;exact if_pos hsb),by rw[AB];exact hl⟩,by show(aM el da).el.length-(j+1)<(aM el da).el.length-j;omega, ?_⟩;dsimp only;exact aJ
 obtain rfl:j=(aM el da).el.length:=by simp at g15;omega
 rw[List.take_length]at hr;refine bF ?_;refine lp (β:=Nat×List Nat) (fun b=>⟨[(3,.ptr r3 0),(8,.ptr r22 0),(13,.int .i64 b.1)],[(r22,.box 175 (tW (aM el da) (.own r31 0 256) (.own t 0 4) (.own g 0 (nD (aM el da)).length) w s)),(t,.arr 3 1 (tb.map aK)),(r31,.arr 5 1 (b.2.map aG)),(g,.arr 71 2 ((nD (aM el da)).map fL)),(r3,.box 33 (aZ (aM el da)))]⟩) (fun b=>b.1≤(aM el da).da.length∧gX HZ memZ ((aM el da).da.take b.1)=some b.2∧b.2.length=256) (fun b=>(aM el da).da.length-b.1) (0,memZ) ?_ ⟨Nat.zero_le _,rfl,RB⟩ ?_
 ·rw[show List.map aG (0,memZ).2=List.replicate 256 (aG 0) by simp[memZ]];exact aJ
 rintro⟨j,B⟩ ⟨hj,hd,hb⟩;dsimp only at hj hd hb⊢;refine nT ?_;refine aB rfl (fun g22=> ?_) (fun g22=> ?_)
 ·have hlt:j<(aM el da).da.length:=by simpa using g22
  obtain⟨⟨off,us⟩,hx⟩:∃x,(aM el da).da[j]? =some x:=⟨_,List.getElem?_eq_getElem hlt⟩
  have hfo:=hd2 _ (List.mem_of_getElem? hx);simp only[gI,Bool.and_eq_true,decide_eq_true_eq]at hfo;refine fT ?_;refine oG ?_;refine iO fun r14 h14=> ?_;intros
  refine gT ?_;dsimp only;refine fJ [(0,true),(1,true),(2,true),(3,true),(4,true),(5,true),(6,true),(7,true),(8,true),(9,true),(10,true),(11,true),(12,true),(13,true),(14,true),(15,true),(16,true)] ?_;refine iC ?_;refine z46 ?_;refine DX ?_;refine yS ?_;refine HF ?_;refine UE ?_;first|refine nO rfl rfl rfl rfl rfl ?_ |(first|refine gD rfl rfl rfl (kR (by first|exact W rfl id|exact E rfl) (by first|exact W rfl id|exact E rfl) (by omega) (by omega)) rfl ?_ |refine gD rfl rfl rfl (jB (by first|exact W rfl id|exact E rfl) (by first|exact W rfl id|exact E rfl)) rfl ?_)|refine fQ rfl rfl rfl (kR (by first|exact W rfl id|exact E rfl) (by first|exact W rfl id|exact E rfl) (by omega) (by omega)) rfl ?_ |refine fQ rfl rfl rfl (lop_add64c (by first|exact W rfl id|exact E rfl) (by first|exact W rfl id|exact E rfl) (fun hc=>by simp at hc<;>first|omega|(have hov:=hov hc;omega))) rfl ?_ |refine fQ rfl rfl rfl (jB (by first|exact W rfl id|exact E rfl) (by first|exact W rfl id|exact E rfl)) rfl ?_
  refine sJ ?_;refine sq4 ?_;refine UE ?_;refine aGp ?_;refine jI ?_;refine aB rfl (fun g25=> ?_) (fun g25=> ?_)
  ·have hf:off<0∨(256:Int)-us.length<off:=by
    by_cases h:off<0
    ·exact .inl h
    ·simp[h]at g25;exact .inr (by omega)
   refine aI ?_;have hN:∀y σ,y=AV.tup [.nilp,.int .i64 3]→σ=[]→aE4 (aM el da) w s y σ:=fun _ _ h1 h2=>.inr ⟨tb,hr,.inl ⟨wN hd hx (by unfold HZ;exact if_pos (by rw[hb];exact hf)),h1,h2⟩⟩
   refine oZ ?_;apply aD;exact aE
   ·exact hN _ _ rfl rfl
   ·exact aA
  have hf:0≤off∧off+us.length≤256:=by
   by_cases h:off<0
   ·simp[h]at g25
   ·simp[h]at g25;omega
  have hby:=RG (B:=B) (o:=off.toNat) (l:=us) (by omega);refine aI ?_;refine fJ [(0,true),(1,true),(2,true),(3,true),(4,true),(5,true),(6,true),(7,true),(8,true),(9,false)] ?_;refine mQ ?_;refine iC ?_;refine z84 ?_;refine iC ?_;apply dcp (m:=us.length) (es':=(kO B off.toNat us).map aG);rfl;infer_instance;infer_instance;rfl;exact cE
  ·simp;omega
  ·exact .inl ⟨_,rfl⟩
  ·simp;omega
  ·simp[hby,List.map_take,List.map_drop,kS]
  ·rfl
  ·exact eM
  refine CC ?_;refine lJ ?_;refine⟨(j+1,kO B off.toNat us),⟨hlt,wM hd hx (by unfold HZ;exact if_neg (by rw[hb];show¬(off<0∨(256:Int)-us.length<off);omega)),by rw[sD];exact hb⟩,by show(aM el da).da.length-(j+1)<(aM el da).da.length-j;omega, ?_⟩;dsimp only;exact aJ
 obtain rfl:j=(aM el da).da.length:=by simp at g22;omega
 rw[List.take_length]at hd;refine aI ?_;have hN:∀y σ,y=AV.tup [.ptr r22 0,.int .i64 0]→σ=[(r22,.box 175 (tW (aM el da) (.own r31 0 256) (.own t 0 4) (.own g 0 (nD (aM el da)).length) w s)),(r31,.arr 5 1 (B.map aG)),(t,.arr 3 1 (tb.map aK)),(g,.arr 71 2 ((nD (aM el da)).map fL))]→aE4 (aM el da) w s y σ:=fun _ _ h1 h2=>.inr ⟨tb,hr,.inr ⟨B,hd,r22,r31,t,g,⟨by(exact cA),by(exact cA),by(exact cA),by(exact cA),by(exact cA),by(exact cA)⟩,h1,by rw[hb,hl];exact h2⟩⟩
 refine fV ?_;refine jF ?_;apply aD;exact aE
 ·exact hN _ _ rfl rfl
 ·exact aA
section
variable {s t g : Nat}
theorem RH(h1:Nq t s)(tb:List Int)(gv:List (Int×Int))(htb:tb.length≤1000):SCall Tryz.prog 102 [.ptr s 0] [(s,.box 165 [.own t 0 tb.length,.own g 0 gv.length]),(t,.arr 3 1 (tb.map aK)),(g,.arr 71 2 (gv.map fL))]
  (fun x σ=>∃q,(Nq q s∧Nq q t∧Nq q g)∧x=.own q 0 tb.length∧σ=(q,.arr 3 1 (tb.map aK))::[(s,.box 165 [.own t 0 tb.length,.own g 0 gv.length]),(t,.arr 3 1 (tb.map aK)),(g,.arr 71 2 (gv.map fL))]):=by
 refine bS 10 [0,2,4] Tryz.func102 ?_;refine bF ?_;refine KS ?_;refine oR ?_;refine gY ?_;refine cl [t] Tryz.call105 (HW (es:=tb.map aK) (by simp;omega)) rfl ?_ ?_ ?_
 ·apply ArgsBor.cons;rfl
  ·apply NN
   ·exact List.mem_cons_self
   ·exact bC
   ·simp
   ·rw[List.drop_zero];exact kS
  exact .nil
 ·rintro x σ' ⟨r,rfl,rfl⟩;refine⟨NoF.own, ?_⟩;simp only[List.mem_singleton,forall_eq];intro e he x hx;obtain⟨n,_,rfl⟩:=List.mem_map.1 he;obtain rfl:=List.mem_singleton.1 hx;exact .int
 rintro x σ' ⟨q,rfl,rfl⟩ hq
 replace hq:=cB hq;repeat rcases hq with⟨_,hq⟩
 simp only[List.cons_append,List.nil_append];refine cM ?_;exact aD aE ⟨q,by exact⟨by(exact cA),by(exact cA),by(exact cA)⟩,by simp[fG],rfl⟩ aA
theorem IA(h2:Nq g s)(h3:Nq g t)(tb:List Int)(gv:List (Int×Int))(hgv:gv.length≤1000):SCall Tryz.prog 104 [.ptr s 0] [(s,.box 165 [.own t 0 tb.length,.own g 0 gv.length]),(t,.arr 3 1 (tb.map aK)),(g,.arr 71 2 (gv.map fL))]
  (fun x σ=>∃q,(Nq q s∧Nq q t∧Nq q g)∧x=.own q 0 gv.length∧σ=(q,.arr 71 2 (gv.map fL))::[(s,.box 165 [.own t 0 tb.length,.own g 0 gv.length]),(t,.arr 3 1 (tb.map aK)),(g,.arr 71 2 (gv.map fL))]):=by
 refine bS 10 [0,2,4] Tryz.func104 ?_;refine bF ?_;refine KS ?_;refine oR ?_;refine gY ?_;refine cl [g] Tryz.call211 (HX (es:=gv.map fL) (by simp;omega)) rfl ?_ ?_ ?_
 ·apply ArgsBor.cons;rfl
  ·apply NN
   ·exact List.mem_cons_self
   ·exact bC
   ·simp
   ·rw[List.drop_zero];exact kS
  exact .nil
 ·rintro x σ' ⟨r,rfl,rfl⟩;refine⟨NoF.own, ?_⟩;simp only[List.mem_singleton,forall_eq];intro e he x hx;obtain⟨n,_,rfl⟩:=List.mem_map.1 he;simp only[fL,List.mem_cons,List.not_mem_nil,or_false]at hx;rcases hx with rfl|rfl<;>exact .int
 rintro x σ' ⟨q,rfl,rfl⟩ hq
 replace hq:=cB hq;repeat rcases hq with⟨_,hq⟩
 simp only[List.cons_append,List.nil_append];refine cM ?_;exact aD aE ⟨q,by exact⟨by(exact cA),by(exact cA),by(exact cA)⟩,by simp[fG],rfl⟩ aA
end
theorem aCx{x mm q d s t g c cq ct cg:Nat}(hN:Nd [x,mm,q,d,s,t,g,c,cq,ct,cg]){el:List El}{da:List Da}{tb:List Int}{B:List Nat}(htb:tb.length=4)(hB:B.length=256):
  SCall Tryz.prog 48 [.ptr x 0,.ptr c 0] [(x,.box 157 (lD (aM el da) (.ptr mm 0) (.ptr s 0))),(mm,.box 169 [.own q 0 (B).length,.int .i64 (jN 3),.own d 0 (([]:List Int)).length]),(q,.arr 5 1 ((B).map aG)),(d,.arr 3 1 ((([]:List Int)).map aK)),(s,.box 165 [.own t 0 (tb).length,.own g 0 (nD (aM el da)).length]),(t,.arr 3 1 ((tb).map aK)),(g,.arr 71 2 ((nD (aM el da)).map fL)),(c,.box 175 (tW (aM el da) (.own cq 0 B.length) (.own ct 0 tb.length) (.own cg 0 (nD (aM el da)).length) 0 0)),(cq,.arr 5 1 (B.map aG)),(ct,.arr 3 1 (tb.map aK)),(cg,.arr 71 2 ((nD (aM el da)).map fL))] (fun y σ=>y=.bool true∧σ=[(x,.box 157 (lD (aM el da) (.ptr mm 0) (.ptr s 0))),(mm,.box 169 [.own q 0 (B).length,.int .i64 (jN 3),.own d 0 (([]:List Int)).length]),(q,.arr 5 1 ((B).map aG)),(d,.arr 3 1 ((([]:List Int)).map aK)),(s,.box 165 [.own t 0 (tb).length,.own g 0 (nD (aM el da)).length]),(t,.arr 3 1 ((tb).map aK)),(g,.arr 71 2 ((nD (aM el da)).map fL)),(c,.box 175 (tW (aM el da) (.own cq 0 B.length) (.own ct 0 tb.length) (.own cg 0 (nD (aM el da)).length) 0 0)),(cq,.arr 5 1 (B.map aG)),(ct,.arr 3 1 (tb.map aK)),(cg,.arr 71 2 ((nD (aM el da)).map fL))]):=by
 simp only[Nd,List.mem_cons,List.not_mem_nil,or_false,forall_eq_or_imp,forall_eq,and_true,false_implies,implies_true,and_assoc]at hN;repeat rcases hN with⟨_,hN⟩
 have hP:B.length / 256=1:=by rw[hB]
 have hgl:(nD (aM el da)).length=2:=rfl;have hpl:=JZ (b:=B) (i:=0) (by omega);have hpB:FP B 0=B:=by unfold FP;rw[Nat.mul_zero,List.drop_zero,List.take_of_length_le (by omega)]
 have hpg:=aCl B (jN 3) [] (by omega) 0 (by omega);refine bS 119 [0,1,4,5,6,7,8,27,49,52,71,82,86,118] Tryz.func48 ?_;refine bF ?_;refine fJ [(0,true),(1,true),(2,true),(3,true),(6,true),(7,true),(8,true),(9,true),(10,true),(11,true),(4,false),(5,true),(12,true),(13,true),(14,true),(15,true),(16,false),(17,true),(18,true)] ?_;refine aI1 ?_;refine uS ?_;refine sJ ?_;refine aGo ?_
 (first|refine nO rfl rfl rfl rfl rfl ?_ |(first|refine gD rfl rfl rfl (cJ (by first|exact W rfl id|exact E rfl) rfl (by decide)) rfl ?_ |refine gD rfl rfl rfl (eJ (by first|exact W rfl id|exact E rfl) rfl (by decide)) rfl ?_)|refine fQ rfl rfl rfl (cJ (by first|exact W rfl id|exact E rfl) rfl (by decide)) rfl ?_ |refine fQ rfl rfl rfl (eJ (by first|exact W rfl id|exact E rfl) rfl (by decide)) rfl ?_);refine yS ?_;refine aCQ [(x,.box 157 (lD (aM el da) (.ptr mm 0) (.ptr s 0)))] rfl rfl rfl Tryz.call34 AE rfl aC aA eM ?_;rintro _ σ' ⟨rfl,rfl⟩ h13;refine aIY ?_;refine aLj ?_;rw[show(false==(aM el da).me.has)=false from rfl];refine RU ?_;refine uS ?_;refine aCQ [(x,.box 157 (lD (aM el da) (.ptr mm 0) (.ptr s 0)))] rfl rfl rfl Tryz.call35 tC rfl aC aA eM ?_;rintro _ σ' ⟨rfl,rfl⟩ h25;refine aIY ?_;refine RU ?_;refine CC ?_;refine cX ?_;refine gY ?_;refine qI ?_;refine z20 ?_;rw[MU (by omega)];refine cM ?_;refine fJ [(0,true),(3,true),(1,false),(2,false),(4,true),(5,true),(6,true),(9,true),(10,true),(11,true),(12,true),(7,false),(8,false),(13,false),(14,true),(15,true)] ?_;refine lF ?_;refine pD [(x,.box 157 (lD (aM el da) (.ptr mm 0) (.ptr s 0)))] rfl Tryz.call34 AE rfl aC aA eM ?_;rintro _ σ' ⟨rfl,rfl⟩ h35;apply bQ;exact bD
 refine aDi rfl Tryz.call98 (wL B (jN 3) [] (by omega)) rfl aP aS ?_;refine z58 ?_;rw[show(((B.length / 256:Nat):Int) !=((B.length / 256:Nat):Int))=false by simp];refine uS ?_;refine sJ ?_;refine sq4 ?_;refine yS ?_;refine aCQ [(x,.box 157 (lD (aM el da) (.ptr mm 0) (.ptr s 0)))] rfl rfl rfl Tryz.call35 tC rfl aC aA eM ?_;rintro _ σ' ⟨rfl,rfl⟩ h41;apply bQ;exact bD;refine aCQ [(s,.box 165 [.own t 0 (tb).length,.own g 0 (nD (aM el da)).length]),(t,.arr 3 1 ((tb).map aK)),(g,.arr 71 2 ((nD (aM el da)).map fL))] rfl rfl rfl Tryz.call102 (RH (by(exact cA)) tb (nD (aM el da)) (by omega)) rfl aC aA eM ?_;rintro _ σ' ⟨e1,⟨j1,j2,j3⟩,rfl,rfl⟩ h42;have k42:=aV h42;repeat rcases k42 with⟨_,k42⟩
 apply bQ;exact bD;refine aJa rfl rfl rfl Tryz.call47 (RZ tb tb) rfl aP aS ?_;rw[show decide (tb=tb)=true by simp];refine aIW ?_;refine RU ?_;refine CC ?_;refine bF ?_;refine lp (β:=Nat) (fun i=>⟨[(0,.ptr x 0),(1,.ptr c 0),(5,.int .i64 ((B.length / 256:Nat):Int)),(6,.int .i64 i)],[(x,.box 157 (lD (aM el da) (.ptr mm 0) (.ptr s 0))),(mm,.box 169 [.own q 0 (B).length,.int .i64 (jN 3),.own d 0 (([]:List Int)).length]),(q,.arr 5 1 ((B).map aG)),(d,.arr 3 1 ((([]:List Int)).map aK)),(s,.box 165 [.own t 0 (tb).length,.own g 0 (nD (aM el da)).length]),(t,.arr 3 1 ((tb).map aK)),(g,.arr 71 2 ((nD (aM el da)).map fL)),(c,.box 175 (tW (aM el da) (.own cq 0 B.length) (.own ct 0 tb.length) (.own cg 0 (nD (aM el da)).length) 0 0)),(cq,.arr 5 1 (B.map aG)),(ct,.arr 3 1 (tb.map aK)),(cg,.arr 71 2 ((nD (aM el da)).map fL))]⟩) (fun i=>i≤1) (fun i=>1-i) 0 aJ (Nat.zero_le _) ?_;rintro i hi;refine dG ?_;refine nP ?_;refine aB rfl (fun g7=> ?_) (fun g7=> ?_)
 ·obtain rfl:i=0:=by simp[hP]at g7;omega
  refine aI ?_;refine fJ [(0,true),(2,true),(5,true),(6,true),(7,true),(8,true),(9,true),(10,true),(11,true),(12,true),(13,true),(14,true),(15,true),(1,false),(3,false),(4,true),(16,true)] ?_;refine lF ?_;refine mQ ?_;refine fP rfl (aF (E rfl)) rfl ?_;refine fP rfl (jX (E rfl) (E rfl)) rfl ?_;refine fP rfl (aF (E rfl)) rfl ?_;refine fP rfl (jX (E rfl) (E rfl)) rfl ?_;rw[show IntKind.i64.wrap (256*((0:Nat):Int))=0 from rfl];refine WW ?_;first|refine fP rfl (eS (E rfl) (OB.some (E rfl) (fun _=>by first|rfl|exact(Int.toNat_of_nonneg (by omega)).symm)) (OB.some (E rfl) (fun _=>by first|rfl|exact(Int.toNat_of_nonneg (by omega)).symm)) (fun _=>by first|(simp only[List.length_map];omega)|omega)) rfl ?_ |refine fP rfl (eH (E rfl) bC (OB.some (E rfl) (fun _=>by first|rfl|exact(Int.toNat_of_nonneg (by omega)).symm)) (OB.some (E rfl) (fun _=>by first|rfl|exact(Int.toNat_of_nonneg (by omega)).symm)) (fun _=>by first|(simp only[List.length_map];omega)|omega)) rfl ?_
  refine aIX ?_;refine pD [(x,.box 157 (lD (aM el da) (.ptr mm 0) (.ptr s 0)))] rfl Tryz.call34 AE rfl aC aA eM ?_;rintro _ σ' ⟨rfl,rfl⟩ h56;apply bQ;exact bD;refine nB rfl Tryz.call103 hpg rfl bM kA ?_;rintro _ σ' ⟨p1,rfl,rfl⟩ h58
  replace h58:=cB h58;repeat rcases h58 with⟨_,h58⟩
  apply bQ;exact bD;refine aIX ?_;refine aLg ?_;refine jI ?_;refine aB rfl (fun g9=> ?_) (fun g9=> ?_)
  ·refine aI ?_;exact absurd g9 (by rw[hpB];simp)
  refine lJ ?_;refine⟨1,Nat.le_refl _,by show 1-1<1-0;omega, ?_⟩;exact aJ
 refine cX ?_;refine yJ [(x,.box 157 (lD (aM el da) (.ptr mm 0) (.ptr s 0)))] Tryz.call35 tC ?_;refine cw [(s,.box 165 [.own t 0 (tb).length,.own g 0 (nD (aM el da)).length]),(t,.arr 3 1 ((tb).map aK)),(g,.arr 71 2 ((nD (aM el da)).map fL))] Tryz.call104 (IA (by(exact cA)) (by(exact cA)) tb (nD (aM el da)) (by omega)) rfl aC aA ?_;rintro _ σ' ⟨e2,⟨j1,j2,j3⟩,rfl,rfl⟩ h74;have k74:=aV h74;repeat rcases k74 with⟨_,k74⟩
 refine rM ?_;refine oQ ?_;refine gY ?_;refine qI ?_;refine qH ?_;rw[show(((nD (aM el da)).length:Int) !=((nD (aM el da)).length:Int))=false by simp];refine bF ?_;refine lp (β:=Nat) (fun i=>⟨[(0,.ptr x 0),(1,.ptr c 0),(7,.own e2 0 (nD (aM el da)).length),(8,.int .i64 i)],[(e2,.arr 71 2 ((nD (aM el da)).map fL)),(x,.box 157 (lD (aM el da) (.ptr mm 0) (.ptr s 0))),(mm,.box 169 [.own q 0 (B).length,.int .i64 (jN 3),.own d 0 (([]:List Int)).length]),(q,.arr 5 1 ((B).map aG)),(d,.arr 3 1 ((([]:List Int)).map aK)),(s,.box 165 [.own t 0 (tb).length,.own g 0 (nD (aM el da)).length]),(t,.arr 3 1 ((tb).map aK)),(g,.arr 71 2 ((nD (aM el da)).map fL)),(c,.box 175 (tW (aM el da) (.own cq 0 B.length) (.own ct 0 tb.length) (.own cg 0 (nD (aM el da)).length) 0 0)),(cq,.arr 5 1 (B.map aG)),(ct,.arr 3 1 (tb.map aK)),(cg,.arr 71 2 ((nD (aM el da)).map fL))]⟩) (fun i=>i≤2) (fun i=>2-i) 0 aJ (Nat.zero_le _) ?_;rintro i hi;refine nF ?_;refine nP ?_;refine aB rfl (fun g15=> ?_) (fun g15=> ?_)
 ·have hlt:i<(nD (aM el da)).length:=by simpa using g15
  obtain⟨⟨kd,n⟩,hx⟩:∃v,(nD (aM el da))[i]? =some v:=⟨_,List.getElem?_eq_getElem hlt⟩
  refine aI ?_;refine fJ [(0,true),(1,true),(2,true),(3,true),(4,true),(5,true),(6,true),(7,true),(8,true),(9,true),(10,true),(11,true),(12,true),(13,true),(14,true),(15,true),(16,true),(17,true),(18,true),(19,true),(20,true),(21,true),(22,true),(23,true),(24,true),(25,true),(26,true),(27,true),(28,true),(29,true)] ?_;refine lF ?_;refine aAo ?_;refine mQ ?_;refine fP rfl (aF (E rfl)) rfl ?_;refine aAo ?_;refine z58 ?_;refine uS ?_;refine sJ ?_;refine NW ?_;refine aIV ?_;refine NY ?_;refine sJ ?_;refine sq4 ?_;refine yS ?_;refine sJ ?_;refine NW ?_;refine aIV ?_;refine NY ?_;refine aLh ?_;refine RU ?_;refine jI ?_;refine aB rfl (fun g17=> ?_) (fun g17=> ?_)
  ·refine aI ?_;exact absurd g17 (by simp)
  refine lJ ?_;refine⟨i+1,by omega,by show 2-(i+1)<2-i;omega, ?_⟩;exact aJ
 refine bF ?_;exact aD aE ⟨by rfl,rfl⟩ aA
end Go.Proofs.YtjpdadobblffmaaGreat
