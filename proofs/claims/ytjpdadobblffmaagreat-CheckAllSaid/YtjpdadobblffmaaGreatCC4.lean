import Derived.Test.YtjpdadobblffmaaGreatCC3
import Derived.Lib.ConvBytes
import Derived.Test.YtjpdadobblffmaaGreatCC2
set_option linter.unusedSimpArgs false
set_option linter.unusedVariables false
set_option maxRecDepth 100000
set_option maxHeartbeats 4000000
namespace Go.Proofs.YtjpdadobblffmaaGreat
open Go.RowKit Go.ChangeShapes Go.WideShapes Go.ChangeAt Go.Deep
def kW (r:List Int):List AV:=[.ro 1 (r.map aP) .any]
theorem FM{f:FuncId}{pt:Int→List Nat}{ok:Int→Prop}{c B:Nat}(hf:iS Tryz.prog 5 f (fun n=>.int .i64 n) pt ok c B)(hB:B≤50000000)(q:Nat)(vs:List Nat)(l:List Int)(hok:∀x∈l,ok x)(hl:l.length≤1000)(hb:vs.length+10+l.length*c≤B):
  SCall Tryz.prog 131 [.own q 0 vs.length,.ro 1 (l.map aP) .any,.fn (.func f) [] []] [(q,.arr 5 1 (vs.map aG))] (fun y σ=>∃r,y=.own r 0 (vs++bC l pt).length∧σ=[(r,.arr 5 1 ((vs++bC l pt).map aG))]):=by
 have hu:=bP 1 l.length (by omega);have hup:=iG l.length;have hpc:=gQ hf (by omega) hok;refine cF 25 [0,1,2,6,8,13,14,15,16] Tryz.func131 ?_;refine mW ?_;refine kU ?_;refine cw [(q,.arr 5 1 (vs.map aG))] Tryz.call135 (eI q vs (by omega) l.length (by omega)) rfl aC aA ?_;rintro _ σ' ⟨r12,rfl,rfl⟩ h12;have k12:=aZ h12;repeat rcases k12 with⟨_,k12⟩
 refine eZ ?_;refine iC ?_;refine oH ?_;refine lp (β:=Nat×Nat) (fun b=>⟨[(0,.own b.1 0 (vs++uB l.length++(l.take b.2).flatMap pt).length),(2,.fn (.func f) [] []),(13,.ro 1 (l.map aP) .any),(14,.int .i64 l.length),(15,.int .i64 b.2)],[(b.1,.arr 5 1 ((vs++uB l.length++(l.take b.2).flatMap pt).map aG))]⟩) (fun b=>b.2≤l.length) (fun b=>l.length-b.2) (r12,0) (by dsimp only;rw[show vs++uB l.length++(l.take 0).flatMap pt=vs++uB l.length by simp];(exact aL)) (Nat.zero_le _) ?_;rintro⟨q1,j⟩ hj;have hpj:=hpc j;have hsl:(vs++uB l.length++(l.take j).flatMap pt).length=vs.length+(uB l.length).length+((l.take j).flatMap pt).length:=by simp[Nat.add_assoc]
 dsimp only at hj⊢;refine jR ?_;refine aB rfl (fun g3=> ?_) (fun g3=> ?_)
 ·have hlt:j<l.length:=by simp at g3;omega
  obtain⟨x,hx⟩:∃x,l[j]? =some x:=⟨_,List.getElem?_eq_getElem hlt⟩
  have hnx:vs++uB l.length++(l.take (j+1)).flatMap pt=vs++uB l.length++(l.take j).flatMap pt++pt x:=by rw[List.take_add_one,hx,List.flatMap_append];simp
  refine dX ?_;refine mI ?_;refine lK ?_;refine lo (aD (E rfl)) rfl ?_;refine qY [(q1,.arr 5 1 ((vs++uB l.length++(l.take j).flatMap pt).map aG))] rfl hf.1 (hf.2 q1 _ x (hok x (List.mem_of_getElem? hx)) (by omega) (by omega)).2 rfl aC aA ?_;rintro _ σ' ⟨r22,rfl,rfl⟩ h22;have k22:=aZ h22;repeat rcases k22 with⟨_,k22⟩
  refine tY ?_;refine⟨(r22,j+1),hlt,by show l.length-(j+1)<l.length-j;omega, ?_⟩;dsimp only;rw[hnx];exact aL
 obtain rfl:j=l.length:=by simp at g3;omega
 refine fA ?_;rw[show vs++uB l.length++(l.take l.length).flatMap pt=vs++bC l pt by rw[List.take_length,List.append_assoc];rfl];exact aE aF ⟨q1,by rfl,rfl⟩ aA
theorem aCN{f:FuncId}{pt:Int→List Nat}{ok:Int→Prop}{c B:Nat}(hf:iS Tryz.prog 5 f (fun n=>.int .i64 n) pt ok c B)(hB:B≤50000000)(l:List Int)(hok:∀x∈l,ok x)(hl:l.length≤1000)(hb:10+l.length*c≤B):
  SCall Tryz.prog 131 [.ro 0 [] .nil,.ro 1 (l.map aP) .any,.fn (.func f) [] []] [] (fun y σ=>∃r,y=.own r 0 (bC l pt).length∧σ=[(r,.arr 5 1 ((bC l pt).map aG))]):=
 iI (e:=5) (sz:=1) (by decide) fun q _=>FM hf hB q [] l hok hl (by simpa using hb)
theorem aE4{f:FuncId}{pt:(List Int)→List Nat}{ok:(List Int)→Prop}{c B:Nat}(hf:iS Tryz.prog 5 f (fun r=>.ro 1 (r.map aP) .any) pt ok c B)(hB:B≤50000000)(q:Nat)(vs:List Nat)(l:List (List Int))(hok:∀x∈l,ok x)(hl:l.length≤1000)(hb:vs.length+10+l.length*c≤B):
  SCall Tryz.prog 246 [.own q 0 vs.length,.ro 1 (l.map kW) .any,.fn (.func f) [] []] [(q,.arr 5 1 (vs.map aG))] (fun y σ=>∃r,y=.own r 0 (vs++bC l pt).length∧σ=[(r,.arr 5 1 ((vs++bC l pt).map aG))]):=by
 have hu:=bP 1 l.length (by omega);have hup:=iG l.length;have hpc:=gQ hf (by omega) hok;refine cF 25 [0,1,2,6,8,13,14,15,16] Tryz.func246 ?_;refine mW ?_;refine kU ?_;refine cw [(q,.arr 5 1 (vs.map aG))] Tryz.call135 (eI q vs (by omega) l.length (by omega)) rfl aC aA ?_;rintro _ σ' ⟨r12,rfl,rfl⟩ h12;have k12:=aZ h12;repeat rcases k12 with⟨_,k12⟩
 refine eZ ?_;refine iC ?_;refine oH ?_;refine lp (β:=Nat×Nat) (fun b=>⟨[(0,.own b.1 0 (vs++uB l.length++(l.take b.2).flatMap pt).length),(2,.fn (.func f) [] []),(13,.ro 1 (l.map kW) .any),(14,.int .i64 l.length),(15,.int .i64 b.2)],[(b.1,.arr 5 1 ((vs++uB l.length++(l.take b.2).flatMap pt).map aG))]⟩) (fun b=>b.2≤l.length) (fun b=>l.length-b.2) (r12,0) (by dsimp only;rw[show vs++uB l.length++(l.take 0).flatMap pt=vs++uB l.length by simp];(exact aL)) (Nat.zero_le _) ?_;rintro⟨q1,j⟩ hj;have hpj:=hpc j;have hsl:(vs++uB l.length++(l.take j).flatMap pt).length=vs.length+(uB l.length).length+((l.take j).flatMap pt).length:=by simp[Nat.add_assoc]
 dsimp only at hj⊢;refine jR ?_;refine aB rfl (fun g3=> ?_) (fun g3=> ?_)
 ·have hlt:j<l.length:=by simp at g3;omega
  obtain⟨x,hx⟩:∃x,l[j]? =some x:=⟨_,List.getElem?_eq_getElem hlt⟩
  have hnx:vs++uB l.length++(l.take (j+1)).flatMap pt=vs++uB l.length++(l.take j).flatMap pt++pt x:=by rw[List.take_add_one,hx,List.flatMap_append];simp
  refine dX ?_;refine mI ?_;refine lK ?_;refine lo (aD (E rfl)) rfl ?_;refine qY [(q1,.arr 5 1 ((vs++uB l.length++(l.take j).flatMap pt).map aG))] rfl hf.1 (hf.2 q1 _ x (hok x (List.mem_of_getElem? hx)) (by omega) (by omega)).2 rfl aC aA ?_;rintro _ σ' ⟨r22,rfl,rfl⟩ h22;have k22:=aZ h22;repeat rcases k22 with⟨_,k22⟩
  refine tY ?_;refine⟨(r22,j+1),hlt,by show l.length-(j+1)<l.length-j;omega, ?_⟩;dsimp only;rw[hnx];exact aL
 obtain rfl:j=l.length:=by simp at g3;omega
 refine fA ?_;rw[show vs++uB l.length++(l.take l.length).flatMap pt=vs++bC l pt by rw[List.take_length,List.append_assoc];rfl];exact aE aF ⟨q1,by rfl,rfl⟩ aA
theorem UL{f:FuncId}{pt:(List Int)→List Nat}{ok:(List Int)→Prop}{c B:Nat}(hf:iS Tryz.prog 5 f (fun r=>.ro 1 (r.map aP) .any) pt ok c B)(hB:B≤50000000)(l:List (List Int))(hok:∀x∈l,ok x)(hl:l.length≤1000)(hb:10+l.length*c≤B):
  SCall Tryz.prog 246 [.ro 0 [] .nil,.ro 1 (l.map kW) .any,.fn (.func f) [] []] [] (fun y σ=>∃r,y=.own r 0 (bC l pt).length∧σ=[(r,.arr 5 1 ((bC l pt).map aG))]):=
 iI (e:=5) (sz:=1) (by decide) fun q _=>aE4 hf hB q [] l hok hl (by simpa using hb)
theorem aIp{f:FuncId}{pt:Im→List Nat}{ok:Im→Prop}{c B:Nat}(hf:iS Tryz.prog 5 f (fun x=>.agg (eM x)) pt ok c B)(hB:B≤50000000)(q:Nat)(vs:List Nat)(l:List Im)(hok:∀x∈l,ok x)(hl:l.length≤1000)(hb:vs.length+10+l.length*c≤B):
  SCall Tryz.prog 238 [.own q 0 vs.length,.ro 3 (l.map eM) .any,.fn (.func f) [] []] [(q,.arr 5 1 (vs.map aG))] (fun y σ=>∃r,y=.own r 0 (vs++bC l pt).length∧σ=[(r,.arr 5 1 ((vs++bC l pt).map aG))]):=by
 have hu:=bP 1 l.length (by omega);have hup:=iG l.length;have hpc:=gQ hf (by omega) hok;refine cF 25 [0,1,2,6,8,13,14,15,16] Tryz.func238 ?_;refine mW ?_;refine kU ?_;refine cw [(q,.arr 5 1 (vs.map aG))] Tryz.call135 (eI q vs (by omega) l.length (by omega)) rfl aC aA ?_;rintro _ σ' ⟨r12,rfl,rfl⟩ h12;have k12:=aZ h12;repeat rcases k12 with⟨_,k12⟩
 refine eZ ?_;refine iC ?_;refine oH ?_;refine lp (β:=Nat×Nat) (fun b=>⟨[(0,.own b.1 0 (vs++uB l.length++(l.take b.2).flatMap pt).length),(2,.fn (.func f) [] []),(13,.ro 3 (l.map eM) .any),(14,.int .i64 l.length),(15,.int .i64 b.2)],[(b.1,.arr 5 1 ((vs++uB l.length++(l.take b.2).flatMap pt).map aG))]⟩) (fun b=>b.2≤l.length) (fun b=>l.length-b.2) (r12,0) (by dsimp only;rw[show vs++uB l.length++(l.take 0).flatMap pt=vs++uB l.length by simp];(exact aL)) (Nat.zero_le _) ?_;rintro⟨q1,j⟩ hj;have hpj:=hpc j;have hsl:(vs++uB l.length++(l.take j).flatMap pt).length=vs.length+(uB l.length).length+((l.take j).flatMap pt).length:=by simp[Nat.add_assoc]
 dsimp only at hj⊢;refine jR ?_;refine aB rfl (fun g3=> ?_) (fun g3=> ?_)
 ·have hlt:j<l.length:=by simp at g3;omega
  obtain⟨x,hx⟩:∃x,l[j]? =some x:=⟨_,List.getElem?_eq_getElem hlt⟩
  have hnx:vs++uB l.length++(l.take (j+1)).flatMap pt=vs++uB l.length++(l.take j).flatMap pt++pt x:=by rw[List.take_add_one,hx,List.flatMap_append];simp
  refine dX ?_;refine qX ?_;refine jU fun r8 h8=> ?_;intros
  refine xM ?_;refine oS ?_;refine qY [(q1,.arr 5 1 ((vs++uB l.length++(l.take j).flatMap pt).map aG))] rfl hf.1 (hf.2 q1 _ x (hok x (List.mem_of_getElem? hx)) (by omega) (by omega)).2 rfl aC aA ?_;rintro _ σ' ⟨r22,rfl,rfl⟩ h22;have k22:=aZ h22;repeat rcases k22 with⟨_,k22⟩
  refine tY ?_;refine⟨(r22,j+1),hlt,by show l.length-(j+1)<l.length-j;omega, ?_⟩;dsimp only;rw[hnx];exact aL
 obtain rfl:j=l.length:=by simp at g3;omega
 refine fA ?_;rw[show vs++uB l.length++(l.take l.length).flatMap pt=vs++bC l pt by rw[List.take_length,List.append_assoc];rfl];exact aE aF ⟨q1,by rfl,rfl⟩ aA
theorem aE5{f:FuncId}{pt:Im→List Nat}{ok:Im→Prop}{c B:Nat}(hf:iS Tryz.prog 5 f (fun x=>.agg (eM x)) pt ok c B)(hB:B≤50000000)(l:List Im)(hok:∀x∈l,ok x)(hl:l.length≤1000)(hb:10+l.length*c≤B):
  SCall Tryz.prog 238 [.ro 0 [] .nil,.ro 3 (l.map eM) .any,.fn (.func f) [] []] [] (fun y σ=>∃r,y=.own r 0 (bC l pt).length∧σ=[(r,.arr 5 1 ((bC l pt).map aG))]):=
 iI (e:=5) (sz:=1) (by decide) fun q _=>aIp hf hB q [] l hok hl (by simpa using hb)
theorem aIq{f:FuncId}{pt:Li→List Nat}{ok:Li→Prop}{c B:Nat}(hf:iS Tryz.prog 5 f (fun x=>.agg (fC x)) pt ok c B)(hB:B≤50000000)(q:Nat)(vs:List Nat)(l:List Li)(hok:∀x∈l,ok x)(hl:l.length≤1000)(hb:vs.length+10+l.length*c≤B):
  SCall Tryz.prog 240 [.own q 0 vs.length,.ro 3 (l.map fC) .any,.fn (.func f) [] []] [(q,.arr 5 1 (vs.map aG))] (fun y σ=>∃r,y=.own r 0 (vs++bC l pt).length∧σ=[(r,.arr 5 1 ((vs++bC l pt).map aG))]):=by
 have hu:=bP 1 l.length (by omega);have hup:=iG l.length;have hpc:=gQ hf (by omega) hok;refine cF 25 [0,1,2,6,8,13,14,15,16] Tryz.func240 ?_;refine mW ?_;refine kU ?_;refine cw [(q,.arr 5 1 (vs.map aG))] Tryz.call135 (eI q vs (by omega) l.length (by omega)) rfl aC aA ?_;rintro _ σ' ⟨r12,rfl,rfl⟩ h12;have k12:=aZ h12;repeat rcases k12 with⟨_,k12⟩
 refine eZ ?_;refine iC ?_;refine oH ?_;refine lp (β:=Nat×Nat) (fun b=>⟨[(0,.own b.1 0 (vs++uB l.length++(l.take b.2).flatMap pt).length),(2,.fn (.func f) [] []),(13,.ro 3 (l.map fC) .any),(14,.int .i64 l.length),(15,.int .i64 b.2)],[(b.1,.arr 5 1 ((vs++uB l.length++(l.take b.2).flatMap pt).map aG))]⟩) (fun b=>b.2≤l.length) (fun b=>l.length-b.2) (r12,0) (by dsimp only;rw[show vs++uB l.length++(l.take 0).flatMap pt=vs++uB l.length by simp];(exact aL)) (Nat.zero_le _) ?_;rintro⟨q1,j⟩ hj;have hpj:=hpc j;have hsl:(vs++uB l.length++(l.take j).flatMap pt).length=vs.length+(uB l.length).length+((l.take j).flatMap pt).length:=by simp[Nat.add_assoc]
 dsimp only at hj⊢;refine jR ?_;refine aB rfl (fun g3=> ?_) (fun g3=> ?_)
 ·have hlt:j<l.length:=by simp at g3;omega
  obtain⟨x,hx⟩:∃x,l[j]? =some x:=⟨_,List.getElem?_eq_getElem hlt⟩
  have hnx:vs++uB l.length++(l.take (j+1)).flatMap pt=vs++uB l.length++(l.take j).flatMap pt++pt x:=by rw[List.take_add_one,hx,List.flatMap_append];simp
  refine dX ?_;refine qX ?_;refine jU fun r8 h8=> ?_;intros
  refine xM ?_;refine oS ?_;refine qY [(q1,.arr 5 1 ((vs++uB l.length++(l.take j).flatMap pt).map aG))] rfl hf.1 (hf.2 q1 _ x (hok x (List.mem_of_getElem? hx)) (by omega) (by omega)).2 rfl aC aA ?_;rintro _ σ' ⟨r22,rfl,rfl⟩ h22;have k22:=aZ h22;repeat rcases k22 with⟨_,k22⟩
  refine tY ?_;refine⟨(r22,j+1),hlt,by show l.length-(j+1)<l.length-j;omega, ?_⟩;dsimp only;rw[hnx];exact aL
 obtain rfl:j=l.length:=by simp at g3;omega
 refine fA ?_;rw[show vs++uB l.length++(l.take l.length).flatMap pt=vs++bC l pt by rw[List.take_length,List.append_assoc];rfl];exact aE aF ⟨q1,by rfl,rfl⟩ aA
theorem aE6{f:FuncId}{pt:Li→List Nat}{ok:Li→Prop}{c B:Nat}(hf:iS Tryz.prog 5 f (fun x=>.agg (fC x)) pt ok c B)(hB:B≤50000000)(l:List Li)(hok:∀x∈l,ok x)(hl:l.length≤1000)(hb:10+l.length*c≤B):
  SCall Tryz.prog 240 [.ro 0 [] .nil,.ro 3 (l.map fC) .any,.fn (.func f) [] []] [] (fun y σ=>∃r,y=.own r 0 (bC l pt).length∧σ=[(r,.arr 5 1 ((bC l pt).map aG))]):=
 iI (e:=5) (sz:=1) (by decide) fun q _=>aIq hf hB q [] l hok hl (by simpa using hb)
theorem aIr{f:FuncId}{pt:Gl→List Nat}{ok:Gl→Prop}{c B:Nat}(hf:iS Tryz.prog 5 f (fun x=>.agg (dZ x)) pt ok c B)(hB:B≤50000000)(q:Nat)(vs:List Nat)(l:List Gl)(hok:∀x∈l,ok x)(hl:l.length≤1000)(hb:vs.length+10+l.length*c≤B):
  SCall Tryz.prog 241 [.own q 0 vs.length,.ro 3 (l.map dZ) .any,.fn (.func f) [] []] [(q,.arr 5 1 (vs.map aG))] (fun y σ=>∃r,y=.own r 0 (vs++bC l pt).length∧σ=[(r,.arr 5 1 ((vs++bC l pt).map aG))]):=by
 have hu:=bP 1 l.length (by omega);have hup:=iG l.length;have hpc:=gQ hf (by omega) hok;refine cF 25 [0,1,2,6,8,13,14,15,16] Tryz.func241 ?_;refine mW ?_;refine kU ?_;refine cw [(q,.arr 5 1 (vs.map aG))] Tryz.call135 (eI q vs (by omega) l.length (by omega)) rfl aC aA ?_;rintro _ σ' ⟨r12,rfl,rfl⟩ h12;have k12:=aZ h12;repeat rcases k12 with⟨_,k12⟩
 refine eZ ?_;refine iC ?_;refine oH ?_;refine lp (β:=Nat×Nat) (fun b=>⟨[(0,.own b.1 0 (vs++uB l.length++(l.take b.2).flatMap pt).length),(2,.fn (.func f) [] []),(13,.ro 3 (l.map dZ) .any),(14,.int .i64 l.length),(15,.int .i64 b.2)],[(b.1,.arr 5 1 ((vs++uB l.length++(l.take b.2).flatMap pt).map aG))]⟩) (fun b=>b.2≤l.length) (fun b=>l.length-b.2) (r12,0) (by dsimp only;rw[show vs++uB l.length++(l.take 0).flatMap pt=vs++uB l.length by simp];(exact aL)) (Nat.zero_le _) ?_;rintro⟨q1,j⟩ hj;have hpj:=hpc j;have hsl:(vs++uB l.length++(l.take j).flatMap pt).length=vs.length+(uB l.length).length+((l.take j).flatMap pt).length:=by simp[Nat.add_assoc]
 dsimp only at hj⊢;refine jR ?_;refine aB rfl (fun g3=> ?_) (fun g3=> ?_)
 ·have hlt:j<l.length:=by simp at g3;omega
  obtain⟨x,hx⟩:∃x,l[j]? =some x:=⟨_,List.getElem?_eq_getElem hlt⟩
  have hnx:vs++uB l.length++(l.take (j+1)).flatMap pt=vs++uB l.length++(l.take j).flatMap pt++pt x:=by rw[List.take_add_one,hx,List.flatMap_append];simp
  refine dX ?_;refine qX ?_;refine jU fun r8 h8=> ?_;intros
  refine xM ?_;refine oS ?_;refine qY [(q1,.arr 5 1 ((vs++uB l.length++(l.take j).flatMap pt).map aG))] rfl hf.1 (hf.2 q1 _ x (hok x (List.mem_of_getElem? hx)) (by omega) (by omega)).2 rfl aC aA ?_;rintro _ σ' ⟨r22,rfl,rfl⟩ h22;have k22:=aZ h22;repeat rcases k22 with⟨_,k22⟩
  refine tY ?_;refine⟨(r22,j+1),hlt,by show l.length-(j+1)<l.length-j;omega, ?_⟩;dsimp only;rw[hnx];exact aL
 obtain rfl:j=l.length:=by simp at g3;omega
 refine fA ?_;rw[show vs++uB l.length++(l.take l.length).flatMap pt=vs++bC l pt by rw[List.take_length,List.append_assoc];rfl];exact aE aF ⟨q1,by rfl,rfl⟩ aA
theorem aE7{f:FuncId}{pt:Gl→List Nat}{ok:Gl→Prop}{c B:Nat}(hf:iS Tryz.prog 5 f (fun x=>.agg (dZ x)) pt ok c B)(hB:B≤50000000)(l:List Gl)(hok:∀x∈l,ok x)(hl:l.length≤1000)(hb:10+l.length*c≤B):
  SCall Tryz.prog 241 [.ro 0 [] .nil,.ro 3 (l.map dZ) .any,.fn (.func f) [] []] [] (fun y σ=>∃r,y=.own r 0 (bC l pt).length∧σ=[(r,.arr 5 1 ((bC l pt).map aG))]):=
 iI (e:=5) (sz:=1) (by decide) fun q _=>aIr hf hB q [] l hok hl (by simpa using hb)
theorem aIs{f:FuncId}{pt:Ex→List Nat}{ok:Ex→Prop}{c B:Nat}(hf:iS Tryz.prog 5 f (fun x=>.agg (eA x)) pt ok c B)(hB:B≤50000000)(q:Nat)(vs:List Nat)(l:List Ex)(hok:∀x∈l,ok x)(hl:l.length≤1000)(hb:vs.length+10+l.length*c≤B):
  SCall Tryz.prog 243 [.own q 0 vs.length,.ro 2 (l.map eA) .any,.fn (.func f) [] []] [(q,.arr 5 1 (vs.map aG))] (fun y σ=>∃r,y=.own r 0 (vs++bC l pt).length∧σ=[(r,.arr 5 1 ((vs++bC l pt).map aG))]):=by
 have hu:=bP 1 l.length (by omega);have hup:=iG l.length;have hpc:=gQ hf (by omega) hok;refine cF 25 [0,1,2,6,8,13,14,15,16] Tryz.func243 ?_;refine mW ?_;refine kU ?_;refine cw [(q,.arr 5 1 (vs.map aG))] Tryz.call135 (eI q vs (by omega) l.length (by omega)) rfl aC aA ?_;rintro _ σ' ⟨r12,rfl,rfl⟩ h12;have k12:=aZ h12;repeat rcases k12 with⟨_,k12⟩
 refine eZ ?_;refine iC ?_;refine oH ?_;refine lp (β:=Nat×Nat) (fun b=>⟨[(0,.own b.1 0 (vs++uB l.length++(l.take b.2).flatMap pt).length),(2,.fn (.func f) [] []),(13,.ro 2 (l.map eA) .any),(14,.int .i64 l.length),(15,.int .i64 b.2)],[(b.1,.arr 5 1 ((vs++uB l.length++(l.take b.2).flatMap pt).map aG))]⟩) (fun b=>b.2≤l.length) (fun b=>l.length-b.2) (r12,0) (by dsimp only;rw[show vs++uB l.length++(l.take 0).flatMap pt=vs++uB l.length by simp];(exact aL)) (Nat.zero_le _) ?_;rintro⟨q1,j⟩ hj;have hpj:=hpc j;have hsl:(vs++uB l.length++(l.take j).flatMap pt).length=vs.length+(uB l.length).length+((l.take j).flatMap pt).length:=by simp[Nat.add_assoc]
 dsimp only at hj⊢;refine jR ?_;refine aB rfl (fun g3=> ?_) (fun g3=> ?_)
 ·have hlt:j<l.length:=by simp at g3;omega
  obtain⟨x,hx⟩:∃x,l[j]? =some x:=⟨_,List.getElem?_eq_getElem hlt⟩
  have hnx:vs++uB l.length++(l.take (j+1)).flatMap pt=vs++uB l.length++(l.take j).flatMap pt++pt x:=by rw[List.take_add_one,hx,List.flatMap_append];simp
  refine dX ?_;refine qX ?_;refine jU fun r8 h8=> ?_;intros
  refine xM ?_;refine oS ?_;refine qY [(q1,.arr 5 1 ((vs++uB l.length++(l.take j).flatMap pt).map aG))] rfl hf.1 (hf.2 q1 _ x (hok x (List.mem_of_getElem? hx)) (by omega) (by omega)).2 rfl aC aA ?_;rintro _ σ' ⟨r22,rfl,rfl⟩ h22;have k22:=aZ h22;repeat rcases k22 with⟨_,k22⟩
  refine tY ?_;refine⟨(r22,j+1),hlt,by show l.length-(j+1)<l.length-j;omega, ?_⟩;dsimp only;rw[hnx];exact aL
 obtain rfl:j=l.length:=by simp at g3;omega
 refine fA ?_;rw[show vs++uB l.length++(l.take l.length).flatMap pt=vs++bC l pt by rw[List.take_length,List.append_assoc];rfl];exact aE aF ⟨q1,by rfl,rfl⟩ aA
theorem aE8{f:FuncId}{pt:Ex→List Nat}{ok:Ex→Prop}{c B:Nat}(hf:iS Tryz.prog 5 f (fun x=>.agg (eA x)) pt ok c B)(hB:B≤50000000)(l:List Ex)(hok:∀x∈l,ok x)(hl:l.length≤1000)(hb:10+l.length*c≤B):
  SCall Tryz.prog 243 [.ro 0 [] .nil,.ro 2 (l.map eA) .any,.fn (.func f) [] []] [] (fun y σ=>∃r,y=.own r 0 (bC l pt).length∧σ=[(r,.arr 5 1 ((bC l pt).map aG))]):=
 iI (e:=5) (sz:=1) (by decide) fun q _=>aIs hf hB q [] l hok hl (by simpa using hb)
theorem aIt{f:FuncId}{pt:El→List Nat}{ok:El→Prop}{c B:Nat}(hf:iS Tryz.prog 5 f (fun x=>.agg (dY x)) pt ok c B)(hB:B≤50000000)(q:Nat)(vs:List Nat)(l:List El)(hok:∀x∈l,ok x)(hl:l.length≤1000)(hb:vs.length+10+l.length*c≤B):
  SCall Tryz.prog 244 [.own q 0 vs.length,.ro 2 (l.map dY) .any,.fn (.func f) [] []] [(q,.arr 5 1 (vs.map aG))] (fun y σ=>∃r,y=.own r 0 (vs++bC l pt).length∧σ=[(r,.arr 5 1 ((vs++bC l pt).map aG))]):=by
 have hu:=bP 1 l.length (by omega);have hup:=iG l.length;have hpc:=gQ hf (by omega) hok;refine cF 25 [0,1,2,6,8,13,14,15,16] Tryz.func244 ?_;refine mW ?_;refine kU ?_;refine cw [(q,.arr 5 1 (vs.map aG))] Tryz.call135 (eI q vs (by omega) l.length (by omega)) rfl aC aA ?_;rintro _ σ' ⟨r12,rfl,rfl⟩ h12;have k12:=aZ h12;repeat rcases k12 with⟨_,k12⟩
 refine eZ ?_;refine iC ?_;refine oH ?_;refine lp (β:=Nat×Nat) (fun b=>⟨[(0,.own b.1 0 (vs++uB l.length++(l.take b.2).flatMap pt).length),(2,.fn (.func f) [] []),(13,.ro 2 (l.map dY) .any),(14,.int .i64 l.length),(15,.int .i64 b.2)],[(b.1,.arr 5 1 ((vs++uB l.length++(l.take b.2).flatMap pt).map aG))]⟩) (fun b=>b.2≤l.length) (fun b=>l.length-b.2) (r12,0) (by dsimp only;rw[show vs++uB l.length++(l.take 0).flatMap pt=vs++uB l.length by simp];(exact aL)) (Nat.zero_le _) ?_;rintro⟨q1,j⟩ hj;have hpj:=hpc j;have hsl:(vs++uB l.length++(l.take j).flatMap pt).length=vs.length+(uB l.length).length+((l.take j).flatMap pt).length:=by simp[Nat.add_assoc]
 dsimp only at hj⊢;refine jR ?_;refine aB rfl (fun g3=> ?_) (fun g3=> ?_)
 ·have hlt:j<l.length:=by simp at g3;omega
  obtain⟨x,hx⟩:∃x,l[j]? =some x:=⟨_,List.getElem?_eq_getElem hlt⟩
  have hnx:vs++uB l.length++(l.take (j+1)).flatMap pt=vs++uB l.length++(l.take j).flatMap pt++pt x:=by rw[List.take_add_one,hx,List.flatMap_append];simp
  refine dX ?_;refine qX ?_;refine jU fun r8 h8=> ?_;intros
  refine xM ?_;refine oS ?_;refine qY [(q1,.arr 5 1 ((vs++uB l.length++(l.take j).flatMap pt).map aG))] rfl hf.1 (hf.2 q1 _ x (hok x (List.mem_of_getElem? hx)) (by omega) (by omega)).2 rfl aC aA ?_;rintro _ σ' ⟨r22,rfl,rfl⟩ h22;have k22:=aZ h22;repeat rcases k22 with⟨_,k22⟩
  refine tY ?_;refine⟨(r22,j+1),hlt,by show l.length-(j+1)<l.length-j;omega, ?_⟩;dsimp only;rw[hnx];exact aL
 obtain rfl:j=l.length:=by simp at g3;omega
 refine fA ?_;rw[show vs++uB l.length++(l.take l.length).flatMap pt=vs++bC l pt by rw[List.take_length,List.append_assoc];rfl];exact aE aF ⟨q1,by rfl,rfl⟩ aA
theorem aE9{f:FuncId}{pt:El→List Nat}{ok:El→Prop}{c B:Nat}(hf:iS Tryz.prog 5 f (fun x=>.agg (dY x)) pt ok c B)(hB:B≤50000000)(l:List El)(hok:∀x∈l,ok x)(hl:l.length≤1000)(hb:10+l.length*c≤B):
  SCall Tryz.prog 244 [.ro 0 [] .nil,.ro 2 (l.map dY) .any,.fn (.func f) [] []] [] (fun y σ=>∃r,y=.own r 0 (bC l pt).length∧σ=[(r,.arr 5 1 ((bC l pt).map aG))]):=
 iI (e:=5) (sz:=1) (by decide) fun q _=>aIt hf hB q [] l hok hl (by simpa using hb)
theorem aIu{f:FuncId}{pt:Co→List Nat}{ok:Co→Prop}{c B:Nat}(hf:iS Tryz.prog 5 f (fun x=>.agg (dA x)) pt ok c B)(hB:B≤50000000)(q:Nat)(vs:List Nat)(l:List Co)(hok:∀x∈l,ok x)(hl:l.length≤1000)(hb:vs.length+10+l.length*c≤B):
  SCall Tryz.prog 245 [.own q 0 vs.length,.ro 2 (l.map dA) .any,.fn (.func f) [] []] [(q,.arr 5 1 (vs.map aG))] (fun y σ=>∃r,y=.own r 0 (vs++bC l pt).length∧σ=[(r,.arr 5 1 ((vs++bC l pt).map aG))]):=by
 have hu:=bP 1 l.length (by omega);have hup:=iG l.length;have hpc:=gQ hf (by omega) hok;refine cF 25 [0,1,2,6,8,13,14,15,16] Tryz.func245 ?_;refine mW ?_;refine kU ?_;refine cw [(q,.arr 5 1 (vs.map aG))] Tryz.call135 (eI q vs (by omega) l.length (by omega)) rfl aC aA ?_;rintro _ σ' ⟨r12,rfl,rfl⟩ h12;have k12:=aZ h12;repeat rcases k12 with⟨_,k12⟩
 refine eZ ?_;refine iC ?_;refine oH ?_;refine lp (β:=Nat×Nat) (fun b=>⟨[(0,.own b.1 0 (vs++uB l.length++(l.take b.2).flatMap pt).length),(2,.fn (.func f) [] []),(13,.ro 2 (l.map dA) .any),(14,.int .i64 l.length),(15,.int .i64 b.2)],[(b.1,.arr 5 1 ((vs++uB l.length++(l.take b.2).flatMap pt).map aG))]⟩) (fun b=>b.2≤l.length) (fun b=>l.length-b.2) (r12,0) (by dsimp only;rw[show vs++uB l.length++(l.take 0).flatMap pt=vs++uB l.length by simp];(exact aL)) (Nat.zero_le _) ?_;rintro⟨q1,j⟩ hj;have hpj:=hpc j;have hsl:(vs++uB l.length++(l.take j).flatMap pt).length=vs.length+(uB l.length).length+((l.take j).flatMap pt).length:=by simp[Nat.add_assoc]
 dsimp only at hj⊢;refine jR ?_;refine aB rfl (fun g3=> ?_) (fun g3=> ?_)
 ·have hlt:j<l.length:=by simp at g3;omega
  obtain⟨x,hx⟩:∃x,l[j]? =some x:=⟨_,List.getElem?_eq_getElem hlt⟩
  have hnx:vs++uB l.length++(l.take (j+1)).flatMap pt=vs++uB l.length++(l.take j).flatMap pt++pt x:=by rw[List.take_add_one,hx,List.flatMap_append];simp
  refine dX ?_;refine qX ?_;refine jU fun r8 h8=> ?_;intros
  refine xM ?_;refine oS ?_;refine qY [(q1,.arr 5 1 ((vs++uB l.length++(l.take j).flatMap pt).map aG))] rfl hf.1 (hf.2 q1 _ x (hok x (List.mem_of_getElem? hx)) (by omega) (by omega)).2 rfl aC aA ?_;rintro _ σ' ⟨r22,rfl,rfl⟩ h22;have k22:=aZ h22;repeat rcases k22 with⟨_,k22⟩
  refine tY ?_;refine⟨(r22,j+1),hlt,by show l.length-(j+1)<l.length-j;omega, ?_⟩;dsimp only;rw[hnx];exact aL
 obtain rfl:j=l.length:=by simp at g3;omega
 refine fA ?_;rw[show vs++uB l.length++(l.take l.length).flatMap pt=vs++bC l pt by rw[List.take_length,List.append_assoc];rfl];exact aE aF ⟨q1,by rfl,rfl⟩ aA
theorem aFa{f:FuncId}{pt:Co→List Nat}{ok:Co→Prop}{c B:Nat}(hf:iS Tryz.prog 5 f (fun x=>.agg (dA x)) pt ok c B)(hB:B≤50000000)(l:List Co)(hok:∀x∈l,ok x)(hl:l.length≤1000)(hb:10+l.length*c≤B):
  SCall Tryz.prog 245 [.ro 0 [] .nil,.ro 2 (l.map dA) .any,.fn (.func f) [] []] [] (fun y σ=>∃r,y=.own r 0 (bC l pt).length∧σ=[(r,.arr 5 1 ((bC l pt).map aG))]):=
 iI (e:=5) (sz:=1) (by decide) fun q _=>aIu hf hB q [] l hok hl (by simpa using hb)
theorem aIv{f:FuncId}{pt:Da→List Nat}{ok:Da→Prop}{c B:Nat}(hf:iS Tryz.prog 5 f (fun x=>.agg (eB x)) pt ok c B)(hB:B≤50000000)(q:Nat)(vs:List Nat)(l:List Da)(hok:∀x∈l,ok x)(hl:l.length≤1000)(hb:vs.length+10+l.length*c≤B):
  SCall Tryz.prog 249 [.own q 0 vs.length,.ro 2 (l.map eB) .any,.fn (.func f) [] []] [(q,.arr 5 1 (vs.map aG))] (fun y σ=>∃r,y=.own r 0 (vs++bC l pt).length∧σ=[(r,.arr 5 1 ((vs++bC l pt).map aG))]):=by
 have hu:=bP 1 l.length (by omega);have hup:=iG l.length;have hpc:=gQ hf (by omega) hok;refine cF 25 [0,1,2,6,8,13,14,15,16] Tryz.func249 ?_;refine mW ?_;refine kU ?_;refine cw [(q,.arr 5 1 (vs.map aG))] Tryz.call135 (eI q vs (by omega) l.length (by omega)) rfl aC aA ?_;rintro _ σ' ⟨r12,rfl,rfl⟩ h12;have k12:=aZ h12;repeat rcases k12 with⟨_,k12⟩
 refine eZ ?_;refine iC ?_;refine oH ?_;refine lp (β:=Nat×Nat) (fun b=>⟨[(0,.own b.1 0 (vs++uB l.length++(l.take b.2).flatMap pt).length),(2,.fn (.func f) [] []),(13,.ro 2 (l.map eB) .any),(14,.int .i64 l.length),(15,.int .i64 b.2)],[(b.1,.arr 5 1 ((vs++uB l.length++(l.take b.2).flatMap pt).map aG))]⟩) (fun b=>b.2≤l.length) (fun b=>l.length-b.2) (r12,0) (by dsimp only;rw[show vs++uB l.length++(l.take 0).flatMap pt=vs++uB l.length by simp];(exact aL)) (Nat.zero_le _) ?_;rintro⟨q1,j⟩ hj;have hpj:=hpc j;have hsl:(vs++uB l.length++(l.take j).flatMap pt).length=vs.length+(uB l.length).length+((l.take j).flatMap pt).length:=by simp[Nat.add_assoc]
 dsimp only at hj⊢;refine jR ?_;refine aB rfl (fun g3=> ?_) (fun g3=> ?_)
 ·have hlt:j<l.length:=by simp at g3;omega
  obtain⟨x,hx⟩:∃x,l[j]? =some x:=⟨_,List.getElem?_eq_getElem hlt⟩
  have hnx:vs++uB l.length++(l.take (j+1)).flatMap pt=vs++uB l.length++(l.take j).flatMap pt++pt x:=by rw[List.take_add_one,hx,List.flatMap_append];simp
  refine dX ?_;refine qX ?_;refine jU fun r8 h8=> ?_;intros
  refine xM ?_;refine oS ?_;refine qY [(q1,.arr 5 1 ((vs++uB l.length++(l.take j).flatMap pt).map aG))] rfl hf.1 (hf.2 q1 _ x (hok x (List.mem_of_getElem? hx)) (by omega) (by omega)).2 rfl aC aA ?_;rintro _ σ' ⟨r22,rfl,rfl⟩ h22;have k22:=aZ h22;repeat rcases k22 with⟨_,k22⟩
  refine tY ?_;refine⟨(r22,j+1),hlt,by show l.length-(j+1)<l.length-j;omega, ?_⟩;dsimp only;rw[hnx];exact aL
 obtain rfl:j=l.length:=by simp at g3;omega
 refine fA ?_;rw[show vs++uB l.length++(l.take l.length).flatMap pt=vs++bC l pt by rw[List.take_length,List.append_assoc];rfl];exact aE aF ⟨q1,by rfl,rfl⟩ aA
theorem aFb{f:FuncId}{pt:Da→List Nat}{ok:Da→Prop}{c B:Nat}(hf:iS Tryz.prog 5 f (fun x=>.agg (eB x)) pt ok c B)(hB:B≤50000000)(l:List Da)(hok:∀x∈l,ok x)(hl:l.length≤1000)(hb:10+l.length*c≤B):
  SCall Tryz.prog 249 [.ro 0 [] .nil,.ro 2 (l.map eB) .any,.fn (.func f) [] []] [] (fun y σ=>∃r,y=.own r 0 (bC l pt).length∧σ=[(r,.arr 5 1 ((bC l pt).map aG))]):=
 iI (e:=5) (sz:=1) (by decide) fun q _=>aIv hf hB q [] l hok hl (by simpa using hb)
theorem aIw{f:FuncId}{pt:FT→List Nat}{ok:FT→Prop}{c B:Nat}(hf:iS Tryz.prog 5 f (fun x=>.agg (dD x)) pt ok c B)(hB:B≤50000000)(q:Nat)(vs:List Nat)(no:Nat)(hno:no<256)(l:List FT)(hok:∀x∈l,ok x)(hl:l.length≤1000)(hvs:vs.length≤10000000)(hb:10+l.length*c≤B):
  SCall Tryz.prog 129 [.own q 0 vs.length,.int .i64 no,.ro 2 (l.map dD) .any,.fn (.func f) [] []] [(q,.arr 5 1 (vs.map aG))] (fun y σ=>∃r,y=.own r 0 (vs++bI no l pt).length∧σ=[(r,.arr 5 1 ((vs++bI no l pt).map aG))]):=by
 have hu:=bP 1 l.length (by omega);have hup:=iG l.length;have hpc:=gQ hf (by omega) hok l.length;rw[List.take_length]at hpc;have hvl:(bC l pt).length≤50000000:=by unfold bC;simp only[List.length_append];omega
 have hub:=bP 4 (bC l pt).length (by omega);refine cF 27 [0,1,2,3,8,9,12] Tryz.func129 ?_;refine iD ?_;refine sK ?_;refine aB rfl (fun g1=> ?_) (fun g1=> ?_)
 ·obtain rfl:l=[]:=by cases l with|nil=>rfl|cons x t=>simp at g1;omega
  refine fA ?_;rw[show vs++bI no ([]:List FT) pt=vs by simp[bI]];exact aE aF ⟨q,by rfl,rfl⟩ aA
 have hs:bI no l pt=[no]++uB (bC l pt).length++bC l pt:=by unfold bI;rw[if_neg (by intro e;rw[List.isEmpty_iff.1 e]at g1;simp at g1)];simp
 rw[hs];refine eX ?_;refine cw [] Tryz.call237 (aE3 hf hB l hok hl hb) rfl aC aA ?_;rintro _ σ' ⟨r16,rfl,rfl⟩ h16
 replace h16:=gL h16;repeat rcases h16 with⟨_,h16⟩
 refine eZ ?_;generalize bC l pt=P at hvl hub⊢;refine kK ?_;refine z0 ?_;refine eN fun r20 h20=> ?_;intros
 refine iY ((vs++ [no]).map aG) (vs++ [no]).length ?_;refine bH fun r21 h21=> ?_;intros
 refine zM ?_;refine cw [(r21,.arr 5 1 ((vs++ [no]).map aG))] Tryz.call135 (eI r21 (vs++ [no]) (by simp;omega) P.length (by omega)) rfl aC aA ?_;rintro _ σ' ⟨r24,rfl,rfl⟩ h24;have k24:=aZ h24;repeat rcases k24 with⟨_,k24⟩
 refine xZ ?_;refine iY ((vs++ [no]++uB P.length++P).map aG) (vs++ [no]++uB P.length++P).length ?_;refine bH fun r26 h26=> ?_;intros
 refine dE ?_;rw[show vs++ [no]++uB P.length++P=vs++([no]++uB P.length++P) by simp];exact aE aF ⟨r26,by rfl,rfl⟩ aA
theorem aFc{f:FuncId}{pt:Int→List Nat}{ok:Int→Prop}{c B:Nat}(hf:iS Tryz.prog 5 f (fun n=>.int .i64 n) pt ok c B)(hB:B≤50000000)(q:Nat)(vs:List Nat)(no:Nat)(hno:no<256)(l:List Int)(hok:∀x∈l,ok x)(hl:l.length≤1000)(hvs:vs.length≤10000000)(hb:10+l.length*c≤B):
  SCall Tryz.prog 137 [.own q 0 vs.length,.int .i64 no,.ro 1 (l.map aP) .any,.fn (.func f) [] []] [(q,.arr 5 1 (vs.map aG))] (fun y σ=>∃r,y=.own r 0 (vs++bI no l pt).length∧σ=[(r,.arr 5 1 ((vs++bI no l pt).map aG))]):=by
 have hu:=bP 1 l.length (by omega);have hup:=iG l.length;have hpc:=gQ hf (by omega) hok l.length;rw[List.take_length]at hpc;have hvl:(bC l pt).length≤50000000:=by unfold bC;simp only[List.length_append];omega
 have hub:=bP 4 (bC l pt).length (by omega);refine cF 27 [0,1,2,3,8,9,12] Tryz.func137 ?_;refine iD ?_;refine sK ?_;refine aB rfl (fun g1=> ?_) (fun g1=> ?_)
 ·obtain rfl:l=[]:=by cases l with|nil=>rfl|cons x t=>simp at g1;omega
  refine fA ?_;rw[show vs++bI no ([]:List Int) pt=vs by simp[bI]];exact aE aF ⟨q,by rfl,rfl⟩ aA
 have hs:bI no l pt=[no]++uB (bC l pt).length++bC l pt:=by unfold bI;rw[if_neg (by intro e;rw[List.isEmpty_iff.1 e]at g1;simp at g1)];simp
 rw[hs];refine eX ?_;refine cw [] Tryz.call131 (aCN hf hB l hok hl hb) rfl aC aA ?_;rintro _ σ' ⟨r16,rfl,rfl⟩ h16
 replace h16:=gL h16;repeat rcases h16 with⟨_,h16⟩
 refine eZ ?_;generalize bC l pt=P at hvl hub⊢;refine kK ?_;refine z0 ?_;refine eN fun r20 h20=> ?_;intros
 refine iY ((vs++ [no]).map aG) (vs++ [no]).length ?_;refine bH fun r21 h21=> ?_;intros
 refine zM ?_;refine cw [(r21,.arr 5 1 ((vs++ [no]).map aG))] Tryz.call135 (eI r21 (vs++ [no]) (by simp;omega) P.length (by omega)) rfl aC aA ?_;rintro _ σ' ⟨r24,rfl,rfl⟩ h24;have k24:=aZ h24;repeat rcases k24 with⟨_,k24⟩
 refine xZ ?_;refine iY ((vs++ [no]++uB P.length++P).map aG) (vs++ [no]++uB P.length++P).length ?_;refine bH fun r26 h26=> ?_;intros
 refine dE ?_;rw[show vs++ [no]++uB P.length++P=vs++([no]++uB P.length++P) by simp];exact aE aF ⟨r26,by rfl,rfl⟩ aA
theorem aIx{f:FuncId}{pt:Im→List Nat}{ok:Im→Prop}{c B:Nat}(hf:iS Tryz.prog 5 f (fun x=>.agg (eM x)) pt ok c B)(hB:B≤50000000)(q:Nat)(vs:List Nat)(no:Nat)(hno:no<256)(l:List Im)(hok:∀x∈l,ok x)(hl:l.length≤1000)(hvs:vs.length≤10000000)(hb:10+l.length*c≤B):
  SCall Tryz.prog 133 [.own q 0 vs.length,.int .i64 no,.ro 3 (l.map eM) .any,.fn (.func f) [] []] [(q,.arr 5 1 (vs.map aG))] (fun y σ=>∃r,y=.own r 0 (vs++bI no l pt).length∧σ=[(r,.arr 5 1 ((vs++bI no l pt).map aG))]):=by
 have hu:=bP 1 l.length (by omega);have hup:=iG l.length;have hpc:=gQ hf (by omega) hok l.length;rw[List.take_length]at hpc;have hvl:(bC l pt).length≤50000000:=by unfold bC;simp only[List.length_append];omega
 have hub:=bP 4 (bC l pt).length (by omega);refine cF 27 [0,1,2,3,8,9,12] Tryz.func133 ?_;refine iD ?_;refine sK ?_;refine aB rfl (fun g1=> ?_) (fun g1=> ?_)
 ·obtain rfl:l=[]:=by cases l with|nil=>rfl|cons x t=>simp at g1;omega
  refine fA ?_;rw[show vs++bI no ([]:List Im) pt=vs by simp[bI]];exact aE aF ⟨q,by rfl,rfl⟩ aA
 have hs:bI no l pt=[no]++uB (bC l pt).length++bC l pt:=by unfold bI;rw[if_neg (by intro e;rw[List.isEmpty_iff.1 e]at g1;simp at g1)];simp
 rw[hs];refine eX ?_;refine cw [] Tryz.call238 (aE5 hf hB l hok hl hb) rfl aC aA ?_;rintro _ σ' ⟨r16,rfl,rfl⟩ h16
 replace h16:=gL h16;repeat rcases h16 with⟨_,h16⟩
 refine eZ ?_;generalize bC l pt=P at hvl hub⊢;refine kK ?_;refine z0 ?_;refine eN fun r20 h20=> ?_;intros
 refine iY ((vs++ [no]).map aG) (vs++ [no]).length ?_;refine bH fun r21 h21=> ?_;intros
 refine zM ?_;refine cw [(r21,.arr 5 1 ((vs++ [no]).map aG))] Tryz.call135 (eI r21 (vs++ [no]) (by simp;omega) P.length (by omega)) rfl aC aA ?_;rintro _ σ' ⟨r24,rfl,rfl⟩ h24;have k24:=aZ h24;repeat rcases k24 with⟨_,k24⟩
 refine xZ ?_;refine iY ((vs++ [no]++uB P.length++P).map aG) (vs++ [no]++uB P.length++P).length ?_;refine bH fun r26 h26=> ?_;intros
 refine dE ?_;rw[show vs++ [no]++uB P.length++P=vs++([no]++uB P.length++P) by simp];exact aE aF ⟨r26,by rfl,rfl⟩ aA
theorem aCO{f:FuncId}{pt:Li→List Nat}{ok:Li→Prop}{c B:Nat}(hf:iS Tryz.prog 5 f (fun x=>.agg (fC x)) pt ok c B)(hB:B≤50000000)(q:Nat)(vs:List Nat)(no:Nat)(hno:no<256)(l:List Li)(hok:∀x∈l,ok x)(hl:l.length≤1000)(hvs:vs.length≤10000000)(hb:10+l.length*c≤B):
  SCall Tryz.prog 138 [.own q 0 vs.length,.int .i64 no,.ro 3 (l.map fC) .any,.fn (.func f) [] []] [(q,.arr 5 1 (vs.map aG))] (fun y σ=>∃r,y=.own r 0 (vs++bI no l pt).length∧σ=[(r,.arr 5 1 ((vs++bI no l pt).map aG))]):=by
 have hu:=bP 1 l.length (by omega);have hup:=iG l.length;have hpc:=gQ hf (by omega) hok l.length;rw[List.take_length]at hpc;have hvl:(bC l pt).length≤50000000:=by unfold bC;simp only[List.length_append];omega
 have hub:=bP 4 (bC l pt).length (by omega);refine cF 27 [0,1,2,3,8,9,12] Tryz.func138 ?_;refine iD ?_;refine sK ?_;refine aB rfl (fun g1=> ?_) (fun g1=> ?_)
 ·obtain rfl:l=[]:=by cases l with|nil=>rfl|cons x t=>simp at g1;omega
  refine fA ?_;rw[show vs++bI no ([]:List Li) pt=vs by simp[bI]];exact aE aF ⟨q,by rfl,rfl⟩ aA
 have hs:bI no l pt=[no]++uB (bC l pt).length++bC l pt:=by unfold bI;rw[if_neg (by intro e;rw[List.isEmpty_iff.1 e]at g1;simp at g1)];simp
 rw[hs];refine eX ?_;refine cw [] Tryz.call240 (aE6 hf hB l hok hl hb) rfl aC aA ?_;rintro _ σ' ⟨r16,rfl,rfl⟩ h16
 replace h16:=gL h16;repeat rcases h16 with⟨_,h16⟩
 refine eZ ?_;generalize bC l pt=P at hvl hub⊢;refine kK ?_;refine z0 ?_;refine eN fun r20 h20=> ?_;intros
 refine iY ((vs++ [no]).map aG) (vs++ [no]).length ?_;refine bH fun r21 h21=> ?_;intros
 refine zM ?_;refine cw [(r21,.arr 5 1 ((vs++ [no]).map aG))] Tryz.call135 (eI r21 (vs++ [no]) (by simp;omega) P.length (by omega)) rfl aC aA ?_;rintro _ σ' ⟨r24,rfl,rfl⟩ h24;have k24:=aZ h24;repeat rcases k24 with⟨_,k24⟩
 refine xZ ?_;refine iY ((vs++ [no]++uB P.length++P).map aG) (vs++ [no]++uB P.length++P).length ?_;refine bH fun r26 h26=> ?_;intros
 refine dE ?_;rw[show vs++ [no]++uB P.length++P=vs++([no]++uB P.length++P) by simp];exact aE aF ⟨r26,by rfl,rfl⟩ aA
theorem aIy{f:FuncId}{pt:Gl→List Nat}{ok:Gl→Prop}{c B:Nat}(hf:iS Tryz.prog 5 f (fun x=>.agg (dZ x)) pt ok c B)(hB:B≤50000000)(q:Nat)(vs:List Nat)(no:Nat)(hno:no<256)(l:List Gl)(hok:∀x∈l,ok x)(hl:l.length≤1000)(hvs:vs.length≤10000000)(hb:10+l.length*c≤B):
  SCall Tryz.prog 142 [.own q 0 vs.length,.int .i64 no,.ro 3 (l.map dZ) .any,.fn (.func f) [] []] [(q,.arr 5 1 (vs.map aG))] (fun y σ=>∃r,y=.own r 0 (vs++bI no l pt).length∧σ=[(r,.arr 5 1 ((vs++bI no l pt).map aG))]):=by
 have hu:=bP 1 l.length (by omega);have hup:=iG l.length;have hpc:=gQ hf (by omega) hok l.length;rw[List.take_length]at hpc;have hvl:(bC l pt).length≤50000000:=by unfold bC;simp only[List.length_append];omega
 have hub:=bP 4 (bC l pt).length (by omega);refine cF 27 [0,1,2,3,8,9,12] Tryz.func142 ?_;refine iD ?_;refine sK ?_;refine aB rfl (fun g1=> ?_) (fun g1=> ?_)
 ·obtain rfl:l=[]:=by cases l with|nil=>rfl|cons x t=>simp at g1;omega
  refine fA ?_;rw[show vs++bI no ([]:List Gl) pt=vs by simp[bI]];exact aE aF ⟨q,by rfl,rfl⟩ aA
 have hs:bI no l pt=[no]++uB (bC l pt).length++bC l pt:=by unfold bI;rw[if_neg (by intro e;rw[List.isEmpty_iff.1 e]at g1;simp at g1)];simp
 rw[hs];refine eX ?_;refine cw [] Tryz.call241 (aE7 hf hB l hok hl hb) rfl aC aA ?_;rintro _ σ' ⟨r16,rfl,rfl⟩ h16
 replace h16:=gL h16;repeat rcases h16 with⟨_,h16⟩
 refine eZ ?_;generalize bC l pt=P at hvl hub⊢;refine kK ?_;refine z0 ?_;refine eN fun r20 h20=> ?_;intros
 refine iY ((vs++ [no]).map aG) (vs++ [no]).length ?_;refine bH fun r21 h21=> ?_;intros
 refine zM ?_;refine cw [(r21,.arr 5 1 ((vs++ [no]).map aG))] Tryz.call135 (eI r21 (vs++ [no]) (by simp;omega) P.length (by omega)) rfl aC aA ?_;rintro _ σ' ⟨r24,rfl,rfl⟩ h24;have k24:=aZ h24;repeat rcases k24 with⟨_,k24⟩
 refine xZ ?_;refine iY ((vs++ [no]++uB P.length++P).map aG) (vs++ [no]++uB P.length++P).length ?_;refine bH fun r26 h26=> ?_;intros
 refine dE ?_;rw[show vs++ [no]++uB P.length++P=vs++([no]++uB P.length++P) by simp];exact aE aF ⟨r26,by rfl,rfl⟩ aA
theorem aIz{f:FuncId}{pt:Ex→List Nat}{ok:Ex→Prop}{c B:Nat}(hf:iS Tryz.prog 5 f (fun x=>.agg (eA x)) pt ok c B)(hB:B≤50000000)(q:Nat)(vs:List Nat)(no:Nat)(hno:no<256)(l:List Ex)(hok:∀x∈l,ok x)(hl:l.length≤1000)(hvs:vs.length≤10000000)(hb:10+l.length*c≤B):
  SCall Tryz.prog 145 [.own q 0 vs.length,.int .i64 no,.ro 2 (l.map eA) .any,.fn (.func f) [] []] [(q,.arr 5 1 (vs.map aG))] (fun y σ=>∃r,y=.own r 0 (vs++bI no l pt).length∧σ=[(r,.arr 5 1 ((vs++bI no l pt).map aG))]):=by
 have hu:=bP 1 l.length (by omega);have hup:=iG l.length;have hpc:=gQ hf (by omega) hok l.length;rw[List.take_length]at hpc;have hvl:(bC l pt).length≤50000000:=by unfold bC;simp only[List.length_append];omega
 have hub:=bP 4 (bC l pt).length (by omega);refine cF 27 [0,1,2,3,8,9,12] Tryz.func145 ?_;refine iD ?_;refine sK ?_;refine aB rfl (fun g1=> ?_) (fun g1=> ?_)
 ·obtain rfl:l=[]:=by cases l with|nil=>rfl|cons x t=>simp at g1;omega
  refine fA ?_;rw[show vs++bI no ([]:List Ex) pt=vs by simp[bI]];exact aE aF ⟨q,by rfl,rfl⟩ aA
 have hs:bI no l pt=[no]++uB (bC l pt).length++bC l pt:=by unfold bI;rw[if_neg (by intro e;rw[List.isEmpty_iff.1 e]at g1;simp at g1)];simp
 rw[hs];refine eX ?_;refine cw [] Tryz.call243 (aE8 hf hB l hok hl hb) rfl aC aA ?_;rintro _ σ' ⟨r16,rfl,rfl⟩ h16
 replace h16:=gL h16;repeat rcases h16 with⟨_,h16⟩
 refine eZ ?_;generalize bC l pt=P at hvl hub⊢;refine kK ?_;refine z0 ?_;refine eN fun r20 h20=> ?_;intros
 refine iY ((vs++ [no]).map aG) (vs++ [no]).length ?_;refine bH fun r21 h21=> ?_;intros
 refine zM ?_;refine cw [(r21,.arr 5 1 ((vs++ [no]).map aG))] Tryz.call135 (eI r21 (vs++ [no]) (by simp;omega) P.length (by omega)) rfl aC aA ?_;rintro _ σ' ⟨r24,rfl,rfl⟩ h24;have k24:=aZ h24;repeat rcases k24 with⟨_,k24⟩
 refine xZ ?_;refine iY ((vs++ [no]++uB P.length++P).map aG) (vs++ [no]++uB P.length++P).length ?_;refine bH fun r26 h26=> ?_;intros
 refine dE ?_;rw[show vs++ [no]++uB P.length++P=vs++([no]++uB P.length++P) by simp];exact aE aF ⟨r26,by rfl,rfl⟩ aA
theorem aIA{f:FuncId}{pt:El→List Nat}{ok:El→Prop}{c B:Nat}(hf:iS Tryz.prog 5 f (fun x=>.agg (dY x)) pt ok c B)(hB:B≤50000000)(q:Nat)(vs:List Nat)(no:Nat)(hno:no<256)(l:List El)(hok:∀x∈l,ok x)(hl:l.length≤1000)(hvs:vs.length≤10000000)(hb:10+l.length*c≤B):
  SCall Tryz.prog 147 [.own q 0 vs.length,.int .i64 no,.ro 2 (l.map dY) .any,.fn (.func f) [] []] [(q,.arr 5 1 (vs.map aG))] (fun y σ=>∃r,y=.own r 0 (vs++bI no l pt).length∧σ=[(r,.arr 5 1 ((vs++bI no l pt).map aG))]):=by
 have hu:=bP 1 l.length (by omega);have hup:=iG l.length;have hpc:=gQ hf (by omega) hok l.length;rw[List.take_length]at hpc;have hvl:(bC l pt).length≤50000000:=by unfold bC;simp only[List.length_append];omega
 have hub:=bP 4 (bC l pt).length (by omega);refine cF 27 [0,1,2,3,8,9,12] Tryz.func147 ?_;refine iD ?_;refine sK ?_;refine aB rfl (fun g1=> ?_) (fun g1=> ?_)
 ·obtain rfl:l=[]:=by cases l with|nil=>rfl|cons x t=>simp at g1;omega
  refine fA ?_;rw[show vs++bI no ([]:List El) pt=vs by simp[bI]];exact aE aF ⟨q,by rfl,rfl⟩ aA
 have hs:bI no l pt=[no]++uB (bC l pt).length++bC l pt:=by unfold bI;rw[if_neg (by intro e;rw[List.isEmpty_iff.1 e]at g1;simp at g1)];simp
 rw[hs];refine eX ?_;refine cw [] Tryz.call244 (aE9 hf hB l hok hl hb) rfl aC aA ?_;rintro _ σ' ⟨r16,rfl,rfl⟩ h16
 replace h16:=gL h16;repeat rcases h16 with⟨_,h16⟩
 refine eZ ?_;generalize bC l pt=P at hvl hub⊢;refine kK ?_;refine z0 ?_;refine eN fun r20 h20=> ?_;intros
 refine iY ((vs++ [no]).map aG) (vs++ [no]).length ?_;refine bH fun r21 h21=> ?_;intros
 refine zM ?_;refine cw [(r21,.arr 5 1 ((vs++ [no]).map aG))] Tryz.call135 (eI r21 (vs++ [no]) (by simp;omega) P.length (by omega)) rfl aC aA ?_;rintro _ σ' ⟨r24,rfl,rfl⟩ h24;have k24:=aZ h24;repeat rcases k24 with⟨_,k24⟩
 refine xZ ?_;refine iY ((vs++ [no]++uB P.length++P).map aG) (vs++ [no]++uB P.length++P).length ?_;refine bH fun r26 h26=> ?_;intros
 refine dE ?_;rw[show vs++ [no]++uB P.length++P=vs++([no]++uB P.length++P) by simp];exact aE aF ⟨r26,by rfl,rfl⟩ aA
theorem aIB{f:FuncId}{pt:Co→List Nat}{ok:Co→Prop}{c B:Nat}(hf:iS Tryz.prog 5 f (fun x=>.agg (dA x)) pt ok c B)(hB:B≤50000000)(q:Nat)(vs:List Nat)(no:Nat)(hno:no<256)(l:List Co)(hok:∀x∈l,ok x)(hl:l.length≤1000)(hvs:vs.length≤10000000)(hb:10+l.length*c≤B):
  SCall Tryz.prog 150 [.own q 0 vs.length,.int .i64 no,.ro 2 (l.map dA) .any,.fn (.func f) [] []] [(q,.arr 5 1 (vs.map aG))] (fun y σ=>∃r,y=.own r 0 (vs++bI no l pt).length∧σ=[(r,.arr 5 1 ((vs++bI no l pt).map aG))]):=by
 have hu:=bP 1 l.length (by omega);have hup:=iG l.length;have hpc:=gQ hf (by omega) hok l.length;rw[List.take_length]at hpc;have hvl:(bC l pt).length≤50000000:=by unfold bC;simp only[List.length_append];omega
 have hub:=bP 4 (bC l pt).length (by omega);refine cF 27 [0,1,2,3,8,9,12] Tryz.func150 ?_;refine iD ?_;refine sK ?_;refine aB rfl (fun g1=> ?_) (fun g1=> ?_)
 ·obtain rfl:l=[]:=by cases l with|nil=>rfl|cons x t=>simp at g1;omega
  refine fA ?_;rw[show vs++bI no ([]:List Co) pt=vs by simp[bI]];exact aE aF ⟨q,by rfl,rfl⟩ aA
 have hs:bI no l pt=[no]++uB (bC l pt).length++bC l pt:=by unfold bI;rw[if_neg (by intro e;rw[List.isEmpty_iff.1 e]at g1;simp at g1)];simp
 rw[hs];refine eX ?_;refine cw [] Tryz.call245 (aFa hf hB l hok hl hb) rfl aC aA ?_;rintro _ σ' ⟨r16,rfl,rfl⟩ h16
 replace h16:=gL h16;repeat rcases h16 with⟨_,h16⟩
 refine eZ ?_;generalize bC l pt=P at hvl hub⊢;refine kK ?_;refine z0 ?_;refine eN fun r20 h20=> ?_;intros
 refine iY ((vs++ [no]).map aG) (vs++ [no]).length ?_;refine bH fun r21 h21=> ?_;intros
 refine zM ?_;refine cw [(r21,.arr 5 1 ((vs++ [no]).map aG))] Tryz.call135 (eI r21 (vs++ [no]) (by simp;omega) P.length (by omega)) rfl aC aA ?_;rintro _ σ' ⟨r24,rfl,rfl⟩ h24;have k24:=aZ h24;repeat rcases k24 with⟨_,k24⟩
 refine xZ ?_;refine iY ((vs++ [no]++uB P.length++P).map aG) (vs++ [no]++uB P.length++P).length ?_;refine bH fun r26 h26=> ?_;intros
 refine dE ?_;rw[show vs++ [no]++uB P.length++P=vs++([no]++uB P.length++P) by simp];exact aE aF ⟨r26,by rfl,rfl⟩ aA
theorem aIC{f:FuncId}{pt:Da→List Nat}{ok:Da→Prop}{c B:Nat}(hf:iS Tryz.prog 5 f (fun x=>.agg (eB x)) pt ok c B)(hB:B≤50000000)(q:Nat)(vs:List Nat)(no:Nat)(hno:no<256)(l:List Da)(hok:∀x∈l,ok x)(hl:l.length≤1000)(hvs:vs.length≤10000000)(hb:10+l.length*c≤B):
  SCall Tryz.prog 152 [.own q 0 vs.length,.int .i64 no,.ro 2 (l.map eB) .any,.fn (.func f) [] []] [(q,.arr 5 1 (vs.map aG))] (fun y σ=>∃r,y=.own r 0 (vs++bI no l pt).length∧σ=[(r,.arr 5 1 ((vs++bI no l pt).map aG))]):=by
 have hu:=bP 1 l.length (by omega);have hup:=iG l.length;have hpc:=gQ hf (by omega) hok l.length;rw[List.take_length]at hpc;have hvl:(bC l pt).length≤50000000:=by unfold bC;simp only[List.length_append];omega
 have hub:=bP 4 (bC l pt).length (by omega);refine cF 27 [0,1,2,3,8,9,12] Tryz.func152 ?_;refine iD ?_;refine sK ?_;refine aB rfl (fun g1=> ?_) (fun g1=> ?_)
 ·obtain rfl:l=[]:=by cases l with|nil=>rfl|cons x t=>simp at g1;omega
  refine fA ?_;rw[show vs++bI no ([]:List Da) pt=vs by simp[bI]];exact aE aF ⟨q,by rfl,rfl⟩ aA
 have hs:bI no l pt=[no]++uB (bC l pt).length++bC l pt:=by unfold bI;rw[if_neg (by intro e;rw[List.isEmpty_iff.1 e]at g1;simp at g1)];simp
 rw[hs];refine eX ?_;refine cw [] Tryz.call249 (aFb hf hB l hok hl hb) rfl aC aA ?_;rintro _ σ' ⟨r16,rfl,rfl⟩ h16
 replace h16:=gL h16;repeat rcases h16 with⟨_,h16⟩
 refine eZ ?_;generalize bC l pt=P at hvl hub⊢;refine kK ?_;refine z0 ?_;refine eN fun r20 h20=> ?_;intros
 refine iY ((vs++ [no]).map aG) (vs++ [no]).length ?_;refine bH fun r21 h21=> ?_;intros
 refine zM ?_;refine cw [(r21,.arr 5 1 ((vs++ [no]).map aG))] Tryz.call135 (eI r21 (vs++ [no]) (by simp;omega) P.length (by omega)) rfl aC aA ?_;rintro _ σ' ⟨r24,rfl,rfl⟩ h24;have k24:=aZ h24;repeat rcases k24 with⟨_,k24⟩
 refine xZ ?_;refine iY ((vs++ [no]++uB P.length++P).map aG) (vs++ [no]++uB P.length++P).length ?_;refine bH fun r26 h26=> ?_;intros
 refine dE ?_;rw[show vs++ [no]++uB P.length++P=vs++([no]++uB P.length++P) by simp];exact aE aF ⟨r26,by rfl,rfl⟩ aA
end Go.Proofs.YtjpdadobblffmaaGreat
namespace Go.Proofs.YtjpdadobblffmaaGreat
open Go.RowKit Go.ChangeShapes Go.WideShapes Go.ChangeAt Go.Deep
attribute [local irreducible] SW RS RD fG eH
theorem lT{α:Type}{pt:α→List Nat}{l:List α}{c:Nat}(h:∀x∈l,(pt x).length≤c)(hl:l.length≤1000):(bC l pt).length≤2+l.length*c:=by
 have hu:=bP 1 l.length (by omega);have h1:∀(l:List α),(∀x∈l,(pt x).length≤c)→(l.flatMap pt).length≤l.length*c:=by
  intro l
  induction l with
  |nil=>simp
  |cons x l ih=>
   intro h;have:=ih fun y hy=>h y (List.mem_cons_of_mem _ hy)
   have hx:=h x List.mem_cons_self;rw[List.flatMap_cons,List.length_append,List.length_cons,Nat.add_mul];omega
 have:=h1 l h;unfold bC;rw[List.length_append];omega
theorem nT(k:Int):(kB k).length=1:=by unfold kB;split<;>rfl
theorem QB{n:Int}(h:iH n=true):(cG n).length≤2:=by
 have:0≤n∧n≤1000:=by
  unfold iH at h;by_cases h0:0≤n
  ·rw[if_pos (by simpa using h0)]at h;exact⟨h0,by simpa using h⟩
  ·rw[if_neg (by simpa using h0)]at h;cases h
 exact bP 1 _ (by omega)
theorem NK:iS Tryz.prog 5 132 (fun k:Int=>.int .i64 k) kB (fun _=>True) 1 20000000:=
 ⟨Tryz.call132,fun q vs x _ _ hvs=>⟨Nat.le_of_eq (nT x),tL q vs (by omega) x⟩⟩
theorem pK(q:Nat)(vs:List Nat)(hvs:vs.length≤50000000)(n:Int)(h0:0≤n)(h1:n<9223372036854775808):SCall Tryz.prog 135 [.own q 0 vs.length,.int .i64 n] [(q,.arr 5 1 (vs.map aG))]
  (fun y σ=>∃r,y=.own r 0 (vs++cG n).length∧σ=[(r,.arr 5 1 ((vs++cG n).map aG))]):=by
 obtain⟨m,rfl⟩:=Int.eq_ofNat_of_zero_le h0;exact eI q vs hvs m (by omega)
theorem uH{n:Int}(h:iH n=true):0≤n∧n≤1000:=by
 unfold iH at h;by_cases h0:0≤n
 ·rw[if_pos (by simpa using h0)]at h;exact⟨h0,by simpa using h⟩
 ·rw[if_neg (by simpa using h0)]at h;cases h
theorem GZ:iS Tryz.prog 5 135 (fun n:Int=>.int .i64 n) cG (fun n=>iH n=true) 2 20000000:=
 ⟨Tryz.call135,fun q vs n h _ hvs=>⟨QB h,pK q vs (by omega) n (uH h).1 (by have:=(uH h).2;omega)⟩⟩
theorem aMS(q:Nat)(vs:List Nat)(hvs:vs.length≤10000000)(pr rs:List Int)(h1:pr.length≤32)(h2:rs.length≤1):SCall Tryz.prog 130 [.own q 0 vs.length,.agg (dD ⟨pr,rs⟩)] [(q,.arr 5 1 (vs.map aG))]
  (fun y σ=>∃r,y=.own r 0 (vs++vT ⟨pr,rs⟩).length∧σ=[(r,.arr 5 1 ((vs++vT ⟨pr,rs⟩).map aG))]):=by
 have l1:=lT (pt:=kB) (l:=pr) (c:=1) (fun x _=>Nat.le_of_eq (nT x)) (by omega);refine cF 14 [0,1,3,4] Tryz.func130 ?_;unfold dD;refine dX ?_;refine iQ fun r3 h3=> ?_;intros
 refine dE ?_;refine fM [(0,true),(3,true),(4,true),(6,true),(7,true),(1,false),(2,false),(5,false),(8,false),(9,true)] ?_;refine zI ?_;refine fX ?_;refine DQ fun r6 h6=> ?_;intros
 refine fB rfl ((vs++ [96]).map aG) (vs++ [96]).length ?_;refine bH fun r7 h7=> ?_;intros
 refine rW [(r7,.arr 5 1 ((vs++ [96]).map aG))] rfl Tryz.call131 (FM NK (by decide) r7 (vs++ [96]) pr (fun _ _=>trivial) (by omega) (by simp;omega)) rfl aC aA fV ?_;rintro _ σ' ⟨r10,rfl,rfl⟩ h10;have k10:=aZ h10;repeat rcases k10 with⟨_,k10⟩
 apply bZ;exact bN;refine rW [(r10,.arr 5 1 ((vs++ [96]++bC pr kB).map aG))] rfl Tryz.call131 (FM NK (by decide) r10 (vs++ [96]++bC pr kB) rs (fun _ _=>trivial) (by omega) (by simp;omega)) rfl aC aA fV ?_;rintro _ σ' ⟨r13,rfl,rfl⟩ h13;have k13:=aZ h13;repeat rcases k13 with⟨_,k13⟩
 refine tX ?_;rw[show vs++ [96]++bC pr kB++bC rs kB=vs++vT ⟨pr,rs⟩ by unfold vT;simp];exact aE aF ⟨r13,by rfl,rfl⟩ aA
theorem ZS:iS Tryz.prog 5 130 (fun x=>.agg (dD x)) vT (fun t=>(cO t.pr 32 zZ&&cO t.rs 1 zZ)=true) 100 10000000:=
 ⟨Tryz.call130,fun q vs x h _ hvs=>by
  obtain⟨pr,rs⟩:=x;have h1:pr.length≤32:=by simp[cO]at h;omega
  have h2:rs.length≤1:=by simp[cO]at h;omega
  have l1:=lT (pt:=kB) (l:=pr) (c:=1) (fun x _=>Nat.le_of_eq (nT x)) (by omega);have l2:=lT (pt:=kB) (l:=rs) (c:=1) (fun x _=>Nat.le_of_eq (nT x)) (by omega);exact⟨by unfold vT;simp;omega,aMS q vs hvs pr rs h1 h2⟩⟩
theorem kX{s:List Nat}(h:uG s=true):s.length≤16∧(∀c∈s,c<256)∧(bQ s).length≤18:=by
 unfold uG at h;split at h
 ·simp only[Bool.and_eq_true,decide_eq_true_eq,List.all_eq_true]at h;refine⟨h.1,fun c hc=>by have:=(h.2 c hc).2;omega, ?_⟩;have:=bP 1 s.length (by omega);unfold bQ;rw[List.length_append];omega
 ·cases h
theorem aMT(q:Nat)(vs:List Nat)(hp:0<vs.length)(hvs:vs.length≤10000000)(md nm:List Nat)(ty:Int)(m1:uG md=true)(m2:uG nm=true)(m3:iH ty=true):SCall Tryz.prog 134 [.own q 0 vs.length,.agg (eM ⟨md,nm,ty⟩)] [(q,.arr 5 1 (vs.map aG))]
  (fun y σ=>∃r,y=.own r 0 (vs++iZ ⟨md,nm,ty⟩).length∧σ=[(r,.arr 5 1 ((vs++iZ ⟨md,nm,ty⟩).map aG))]):=by
 obtain⟨a1,a2,a3⟩:=kX m1;obtain⟨b1,b2,b3⟩:=kX m2;refine cF 17 [0,1,3,4] Tryz.func134 ?_;unfold eM;refine dX ?_;refine iQ fun r3 h3=> ?_;intros
 refine dE ?_;refine fM [(0,true),(1,true),(2,true),(4,true),(5,true),(9,true),(10,true),(13,false),(13,false),(13,false),(13,false),(13,false),(13,false)] ?_;refine zI ?_;refine fX ?_;refine fX ?_;refine jD 3 7 [(13,false),(13,false),(13,false),(13,false),(13,false)] [(3,false),(6,false),(8,false),(11,false),(12,true)] (f1:=[q]) (f2:=[]) (by kernel_rfl) rfl rfl ?_ ?_ (.inr ⟨by simp,fV⟩) (.inl rfl)
 ·refine sA (σ1:=[(q,.arr 5 1 (vs.map aG))]) Tryz.call136 (nS q vs hp (by omega) md (by omega) a2) (cW rfl) aC aA ?_;rintro _ σ' ⟨r8,rfl,rfl⟩ h8;have k8:=aZ h8;repeat rcases k8 with⟨_,k8⟩
  apply bZ;exact bN;refine jD 6 7 [(7,false),(8,false),(11,false),(12,true)] [(6,false),(8,false),(11,false),(12,true)] (f1:=[r8]) (f2:=[]) (by kernel_rfl) rfl rfl ?_ ?_ (.inr ⟨by simp,fV⟩) (.inl rfl)
  ·refine sA (σ1:=[(r8,.arr 5 1 ((vs++bQ md).map aG))]) Tryz.call136 (nS r8 (vs++bQ md) (by simp;omega) (by simp;omega) nm (by omega) b2) (cW rfl) aC aA ?_;rintro _ σ' ⟨r11,rfl,rfl⟩ h11;have k11:=aZ h11;repeat rcases k11 with⟨_,k11⟩
   apply bZ;exact bN;refine DQ fun r12 h12=> ?_;intros
   refine fB rfl ((vs++bQ md++bQ nm++ [0]).map aG) (vs++bQ md++bQ nm++ [0]).length ?_;refine bH fun r13 h13=> ?_;intros
   refine rW [(r13,.arr 5 1 ((vs++bQ md++bQ nm++ [0]).map aG))] rfl Tryz.call135 (pK r13 (vs++bQ md++bQ nm++ [0]) (by simp;omega) ty (uH m3).1 (by have:=(uH m3).2;omega)) rfl aC aA fV ?_;rintro _ σ' ⟨r16,rfl,rfl⟩ h16;have k16:=aZ h16;repeat rcases k16 with⟨_,k16⟩
   refine tX ?_;rw[show vs++bQ md++bQ nm++ [0]++cG ty=vs++iZ ⟨md,nm,ty⟩ by unfold iZ;simp];exact aE aF ⟨r16,by rfl,rfl⟩ aA
  ·apply xR;infer_instance;infer_instance;exact sE;rfl;rfl;rfl;rfl;exact wY;rfl;refine bL fun r12 h12=> ?_;repeat rcases h12 with⟨_,h12⟩
   refine rW [(r8,.arr 5 1 ((vs++bQ md).map aG))] rfl Tryz.call136 (nS r8 (vs++bQ md) (by simp;omega) (by simp;omega) nm (by omega) b2) rfl aC aA fV ?_;rintro _ σ' ⟨r11,rfl,rfl⟩ h11;have k11:=aZ h11;repeat rcases k11 with⟨_,k11⟩
   apply bZ;exact bN;refine fB rfl ((vs++bQ md++bQ nm++ [0]).map aG) (vs++bQ md++bQ nm++ [0]).length ?_;refine bH fun r13 h13=> ?_;intros
   refine rW [(r13,.arr 5 1 ((vs++bQ md++bQ nm++ [0]).map aG))] rfl Tryz.call135 (pK r13 (vs++bQ md++bQ nm++ [0]) (by simp;omega) ty (uH m3).1 (by have:=(uH m3).2;omega)) rfl aC aA fV ?_;rintro _ σ' ⟨r16,rfl,rfl⟩ h16;have k16:=aZ h16;repeat rcases k16 with⟨_,k16⟩
   refine tX ?_;rw[show vs++bQ md++bQ nm++ [0]++cG ty=vs++iZ ⟨md,nm,ty⟩ by unfold iZ;simp];exact aE aF ⟨r16,by rfl,rfl⟩ aA
 ·apply xR;infer_instance;infer_instance;exact sE;rfl;rfl;rfl;rfl;exact wY;rfl;refine bL fun r12 h12=> ?_;repeat rcases h12 with⟨_,h12⟩
  refine rW [(q,.arr 5 1 (vs.map aG))] rfl Tryz.call136 (nS q vs hp (by omega) md (by omega) a2) rfl aC aA fV ?_;rintro _ σ' ⟨r8,rfl,rfl⟩ h8;have k8:=aZ h8;repeat rcases k8 with⟨_,k8⟩
  apply bZ;exact bN;refine rW [(r8,.arr 5 1 ((vs++bQ md).map aG))] rfl Tryz.call136 (nS r8 (vs++bQ md) (by simp;omega) (by simp;omega) nm (by omega) b2) rfl aC aA fV ?_;rintro _ σ' ⟨r11,rfl,rfl⟩ h11;have k11:=aZ h11;repeat rcases k11 with⟨_,k11⟩
  apply bZ;exact bN;refine fB rfl ((vs++bQ md++bQ nm++ [0]).map aG) (vs++bQ md++bQ nm++ [0]).length ?_;refine bH fun r13 h13=> ?_;intros
  refine rW [(r13,.arr 5 1 ((vs++bQ md++bQ nm++ [0]).map aG))] rfl Tryz.call135 (pK r13 (vs++bQ md++bQ nm++ [0]) (by simp;omega) ty (uH m3).1 (by have:=(uH m3).2;omega)) rfl aC aA fV ?_;rintro _ σ' ⟨r16,rfl,rfl⟩ h16;have k16:=aZ h16;repeat rcases k16 with⟨_,k16⟩
  refine tX ?_;rw[show vs++bQ md++bQ nm++ [0]++cG ty=vs++iZ ⟨md,nm,ty⟩ by unfold iZ;simp];exact aE aF ⟨r16,by rfl,rfl⟩ aA
theorem aMU(q:Nat)(vs:List Nat)(hp:0<vs.length)(hvs:vs.length≤10000000)(nm:List Nat)(fn:Int)(m2:uG nm=true)(m3:iH fn=true):SCall Tryz.prog 146 [.own q 0 vs.length,.agg (eA ⟨nm,fn⟩)] [(q,.arr 5 1 (vs.map aG))]
  (fun y σ=>∃r,y=.own r 0 (vs++nI ⟨nm,fn⟩).length∧σ=[(r,.arr 5 1 ((vs++nI ⟨nm,fn⟩).map aG))]):=by
 obtain⟨b1,b2,b3⟩:=kX m2;refine cF 14 [0,1,3,4] Tryz.func146 ?_;unfold eA;refine dX ?_;refine iQ fun r3 h3=> ?_;intros
 refine dE ?_;refine fM [(0,true),(1,true),(2,true),(6,true),(7,true),(10,false),(10,false),(10,false),(10,false),(10,false)] ?_;refine zI ?_;refine fX ?_;refine jD 3 4 [(4,false),(5,false),(8,false),(9,true)] [(3,false),(5,false),(8,false),(9,true)] (f1:=[q]) (f2:=[]) (by kernel_rfl) rfl rfl ?_ ?_ (.inr ⟨by simp,fV⟩) (.inl rfl)
 ·refine sA (σ1:=[(q,.arr 5 1 (vs.map aG))]) Tryz.call136 (nS q vs hp (by omega) nm (by omega) b2) (cW rfl) aC aA ?_;rintro _ σ' ⟨r8,rfl,rfl⟩ h8;have k8:=aZ h8;repeat rcases k8 with⟨_,k8⟩
  apply bZ;exact bN;refine DQ fun r9 h9=> ?_;intros
  refine fB rfl ((vs++bQ nm++ [0]).map aG) (vs++bQ nm++ [0]).length ?_;refine bH fun r10 h10=> ?_;intros
  refine rW [(r10,.arr 5 1 ((vs++bQ nm++ [0]).map aG))] rfl Tryz.call135 (pK r10 (vs++bQ nm++ [0]) (by simp;omega) fn (uH m3).1 (by have:=(uH m3).2;omega)) rfl aC aA fV ?_;rintro _ σ' ⟨r13,rfl,rfl⟩ h13;have k13:=aZ h13;repeat rcases k13 with⟨_,k13⟩
  refine tX ?_;rw[show vs++bQ nm++ [0]++cG fn=vs++nI ⟨nm,fn⟩ by unfold nI;simp];exact aE aF ⟨r13,by rfl,rfl⟩ aA
 ·apply xR;infer_instance;infer_instance;exact sE;rfl;rfl;rfl;rfl;exact wY;rfl;refine bL fun r9 h9=> ?_;repeat rcases h9 with⟨_,h9⟩
  refine rW [(q,.arr 5 1 (vs.map aG))] rfl Tryz.call136 (nS q vs hp (by omega) nm (by omega) b2) rfl aC aA fV ?_;rintro _ σ' ⟨r8,rfl,rfl⟩ h8;have k8:=aZ h8;repeat rcases k8 with⟨_,k8⟩
  apply bZ;exact bN;refine fB rfl ((vs++bQ nm++ [0]).map aG) (vs++bQ nm++ [0]).length ?_;refine bH fun r10 h10=> ?_;intros
  refine rW [(r10,.arr 5 1 ((vs++bQ nm++ [0]).map aG))] rfl Tryz.call135 (pK r10 (vs++bQ nm++ [0]) (by simp;omega) fn (uH m3).1 (by have:=(uH m3).2;omega)) rfl aC aA fV ?_;rintro _ σ' ⟨r13,rfl,rfl⟩ h13;have k13:=aZ h13;repeat rcases k13 with⟨_,k13⟩
  refine tX ?_;rw[show vs++bQ nm++ [0]++cG fn=vs++nI ⟨nm,fn⟩ by unfold nI;simp];exact aE aF ⟨r13,by rfl,rfl⟩ aA
theorem vV(q:Nat)(vs:List Nat)(hvs:vs.length≤10000000)(l:Li)(h0:0≤l.mn)(h1:l.mn≤100000)(h2:l.mx≤100000):SCall Tryz.prog 141 [.own q 0 vs.length,.agg (fC l)] [(q,.arr 5 1 (vs.map aG))]
  (fun y σ=>∃r,y=.own r 0 (vs++eK l).length∧σ=[(r,.arr 5 1 ((vs++eK l).map aG))]):=by
 obtain⟨has,mn,mx⟩:=l;dsimp only at h0 h1 h2;have hu:=bP 2 mn.toNat (by omega);refine cF 23 [0,1,3,4,7] Tryz.func141 ?_;unfold fC;refine dX ?_;refine iQ fun r3 h3=> ?_;intros
 refine iW ?_;refine BO ?_;refine aB rfl (fun g1=> ?_) (fun g1=> ?_)
 ·refine aJ ?_;refine fM [(0,true),(3,true),(4,true),(1,false),(2,false),(5,false),(6,true)] ?_;refine zI ?_;refine DQ fun r9 h9=> ?_;intros
  refine fB rfl ((vs++ [0]).map aG) (vs++ [0]).length ?_;refine bH fun r10 h10=> ?_;intros
  refine rW [(r10,.arr 5 1 ((vs++ [0]).map aG))] rfl Tryz.call135 (pK r10 (vs++ [0]) (by simp;omega) mn h0 (by omega)) rfl aC aA fV ?_;rintro _ σ' ⟨r13,rfl,rfl⟩ h13;have k13:=aZ h13;repeat rcases k13 with⟨_,k13⟩
  refine tX ?_;rw[show vs++ [0]++cG mn=vs++eK ⟨has,mn,mx⟩ by unfold eK;rw[if_pos g1];simp];exact aE aF ⟨r13,by rfl,rfl⟩ aA
 refine aJ ?_;refine fM [(0,true),(3,true),(4,true),(6,true),(7,true),(1,false),(2,false),(5,false),(8,false),(9,true)] ?_;refine zI ?_;refine fX ?_;refine DQ fun r15 h15=> ?_;intros
 refine fB rfl ((vs++ [1]).map aG) (vs++ [1]).length ?_;refine bH fun r16 h16=> ?_;intros
 refine rW [(r16,.arr 5 1 ((vs++ [1]).map aG))] rfl Tryz.call135 (pK r16 (vs++ [1]) (by simp;omega) mn h0 (by omega)) rfl aC aA fV ?_;rintro _ σ' ⟨r19,rfl,rfl⟩ h19;have k19:=aZ h19;repeat rcases k19 with⟨_,k19⟩
 apply bZ;exact bN;refine rW [(r19,.arr 5 1 ((vs++ [1]++cG mn).map aG))] rfl Tryz.call135 (pK r19 (vs++ [1]++cG mn) (by simp[cG];omega) mx (by simp at g1;omega) (by omega)) rfl aC aA fV ?_;rintro _ σ' ⟨r22,rfl,rfl⟩ h22;have k22:=aZ h22;repeat rcases k22 with⟨_,k22⟩
 refine tX ?_;rw[show vs++ [1]++cG mn++cG mx=vs++eK ⟨has,mn,mx⟩ by unfold eK;rw[if_neg (by simp[g1])];simp];exact aE aF ⟨r22,by rfl,rfl⟩ aA
theorem aMV(q:Nat)(vs:List Nat)(hvs:vs.length≤9000000)(l:Li)(h0:0≤l.mn)(h1:l.mn≤100000)(h2:l.mx≤100000):SCall Tryz.prog 140 [.own q 0 vs.length,.agg (fC l)] [(q,.arr 5 1 (vs.map aG))]
  (fun y σ=>∃r,y=.own r 0 (vs++112::eK l).length∧σ=[(r,.arr 5 1 ((vs++112::eK l).map aG))]):=by
 refine cF 10 [0,1,3,4] Tryz.func140 ?_;refine dX ?_;refine iQ fun r3 h3=> ?_;intros
 refine dE ?_;refine fM [(0,true),(3,true),(1,false),(2,false),(4,false),(5,true)] ?_;refine fI rfl (aD (E rfl)) rfl ?_;refine DJ ?_;refine DQ fun r6 h6=> ?_;intros
 refine fB rfl ((vs++ [112]).map aG) (vs++ [112]).length ?_;refine bH fun r7 h7=> ?_;intros
 refine rW [(r7,.arr 5 1 ((vs++ [112]).map aG))] rfl Tryz.call141 (vV r7 (vs++ [112]) (by simp;omega) l h0 h1 h2) rfl aC aA fV ?_;rintro _ σ' ⟨r9,rfl,rfl⟩ h9;have k9:=aZ h9;repeat rcases k9 with⟨_,k9⟩
 refine tX ?_;rw[show vs++ [112]++eK l=vs++112::eK l by simp];exact aE aF ⟨r9,by rfl,rfl⟩ aA
theorem HA(q:Nat)(vs:List Nat)(hvs:vs.length≤10000000)(n:Int)(h:kM n=true):SCall Tryz.prog 149 [.own q 0 vs.length,.int .i64 n] [(q,.arr 5 1 (vs.map aG))]
  (fun y σ=>∃r,y=.own r 0 (vs++qF n).length∧σ=[(r,.arr 5 1 ((vs++qF n).map aG))]):=by
 have hr:-2147483648≤n∧n≤2147483647:=by unfold kM at h;simpa using h
 refine cF 11 [0,1,4] Tryz.func149 ?_;refine iD ?_;refine eN fun r6 h6=> ?_;intros
 refine iY ((vs++ [0]).map aG) (vs++ [0]).length ?_;refine bH fun r7 h7=> ?_;intros
 refine lo (aD (E rfl)) rfl ?_;refine jK ?_;refine cw [(r7,.arr 5 1 ((vs++ [0]).map aG))] Tryz.call144 (rQ r7 (vs++ [0]) (by simp;omega) 1 n (by unfold mQ;simp;omega) (by omega)) rfl aC aA ?_;rintro _ σ' ⟨r10,rfl,rfl⟩ h10;have k10:=aZ h10;repeat rcases k10 with⟨_,k10⟩
 refine eZ ?_;rw[show vs++ [0]++mC 1 n=vs++qF n by unfold qF;simp];exact aE aF ⟨r10,by rfl,rfl⟩ aA
theorem aMW(q:Nat)(vs:List Nat)(hvs:vs.length≤9000000)(o:Int)(fs:List Int)(h:kM o=true)(h1:fs.length≤50)(h2:∀n∈fs,iH n=true)(hc:(qF o).length≤300):SCall Tryz.prog 148 [.own q 0 vs.length,.agg (dY ⟨o,fs⟩)] [(q,.arr 5 1 (vs.map aG))]
  (fun y σ=>∃r,y=.own r 0 (vs++uT ⟨o,fs⟩).length∧σ=[(r,.arr 5 1 ((vs++uT ⟨o,fs⟩).map aG))]):=by
 refine cF 12 [0,1,3,4] Tryz.func148 ?_;unfold dY;refine dX ?_;refine iQ fun r3 h3=> ?_;intros
 refine dE ?_;refine fM [(0,true),(1,true),(2,true),(4,true),(5,true),(3,false),(6,false),(7,true)] ?_;refine zI ?_;refine fX ?_;refine rW [(q,.arr 5 1 (vs.map aG))] rfl Tryz.call149 (HA q vs (by omega) o h) rfl aC aA fV ?_;rintro _ σ' ⟨r8,rfl,rfl⟩ h8;have k8:=aZ h8;repeat rcases k8 with⟨_,k8⟩
 apply bZ;exact bN;refine rW [(r8,.arr 5 1 ((vs++qF o).map aG))] rfl Tryz.call131 (FM GZ (by decide) r8 (vs++qF o) fs h2 (by omega) (by simp;omega)) rfl aC aA fV ?_;rintro _ σ' ⟨r11,rfl,rfl⟩ h11;have k11:=aZ h11;repeat rcases k11 with⟨_,k11⟩
 refine tX ?_;rw[show vs++qF o++bC fs cG=vs++uT ⟨o,fs⟩ by unfold uT;simp];exact aE aF ⟨r11,by rfl,rfl⟩ aA
theorem aMX(q:Nat)(vs:List Nat)(hvs:vs.length≤9000000)(o:Int)(bs:List Nat)(h:kM o=true)(h1:bs.length≤1000)(hc:(qF o).length≤300):SCall Tryz.prog 153 [.own q 0 vs.length,.agg (eB ⟨o,bs⟩)] [(q,.arr 5 1 (vs.map aG))]
  (fun y σ=>∃r,y=.own r 0 (vs++wP ⟨o,bs⟩).length∧σ=[(r,.arr 5 1 ((vs++wP ⟨o,bs⟩).map aG))]):=by
 have hu:=bP 1 bs.length (by omega);refine cF 16 [0,1,3,4] Tryz.func153 ?_;unfold eB;refine dX ?_;refine iQ fun r3 h3=> ?_;intros
 refine dE ?_;refine fM [(0,true),(1,true),(2,true),(4,true),(5,true),(6,true),(8,true),(9,true),(3,false),(7,false),(10,false),(11,true)] ?_;refine zI ?_;refine fX ?_;refine WS ?_;refine fX ?_;refine rW [(q,.arr 5 1 (vs.map aG))] rfl Tryz.call149 (HA q vs (by omega) o h) rfl aC aA fV ?_;rintro _ σ' ⟨r8,rfl,rfl⟩ h8;have k8:=aZ h8;repeat rcases k8 with⟨_,k8⟩
 apply bZ;exact bN;refine rW [(r8,.arr 5 1 ((vs++qF o).map aG))] rfl Tryz.call135 (eI r8 (vs++qF o) (by simp;omega) bs.length (by omega)) rfl aC aA fV ?_;rintro _ σ' ⟨r12,rfl,rfl⟩ h12;have k12:=aZ h12;repeat rcases k12 with⟨_,k12⟩
 apply bZ;exact bN;refine fB rfl ((vs++qF o++uB bs.length++bs).map aG) (vs++qF o++uB bs.length++bs).length ?_;refine bH fun r15 h15=> ?_;intros
 refine yB ?_;rw[show vs++qF o++uB bs.length++bs=vs++wP ⟨o,bs⟩ by unfold wP;simp];exact aE aF ⟨r15,by rfl,rfl⟩ aA
theorem UM(l:Li):SCall Tryz.prog 139 [.agg (fC l)] [] (fun y σ=>∃q,y=.own q 0 (gP l).length∧σ=[(q,.arr 26 3 ((gP l).map fC))]):=by
 obtain⟨has,mn,mx⟩:=l;refine cF 8 [0,1,2,5] Tryz.func139 ?_;unfold fC;refine dX ?_;refine iQ fun r1 h1=> ?_;intros
 refine iW ?_;refine qV ?_;refine aB rfl (fun g1=> ?_) (fun g1=> ?_)
 ·obtain rfl:has=false:=by simpa using g1
  refine dX ?_;refine oZ ?_;refine bW 2 26 3 (by decide) rfl (by decide) (bL fun q2 hq2=> ?_);repeat rcases hq2 with⟨_,hq2⟩
  refine aJ ?_;exact aE aF ⟨q2,by rfl,rfl⟩ aA
 obtain rfl:has=true:=by simpa using g1
 refine qB ?_;refine eN fun r7 h7=> ?_;intros
 refine dE ?_;exact aE aF ⟨r7,by rfl,rfl⟩ aA
theorem wQ{k n:Int}(hv:mQ k n=true)(hn:-9223372036854775808≤n∧n≤9223372036854775807):(mC k n).length≤201:=by
 obtain⟨ho,hm,-⟩:=GX hv hn;have:=vQ ho hm;unfold mC;rw[List.length_append,List.length_singleton];omega
theorem FN{n:Int}(h:kM n=true):(qF n).length≤202:=by
 have hr:-2147483648≤n∧n≤2147483647:=by unfold kM at h;simpa using h
 have:=wQ (k:=1) (n:=n) (by unfold mQ;simp;omega) (by omega);unfold qF;simp;omega
theorem ZT:iS Tryz.prog 5 134 (fun x=>.agg (eM x)) iZ (fun x=>(uG x.mod&&uG x.nm&&iH x.ty)=true) 50 10000000:=
 ⟨Tryz.call134,fun q vs x h hp hvs=>by
  obtain⟨a,b,n⟩:=x;simp only[Bool.and_eq_true]at h;obtain⟨⟨h1,h2⟩,h3⟩:=h;have l1:=(kX h1).2.2;have l2:=(kX h2).2.2;have l3:=QB h3;exact⟨by unfold iZ;simp;omega,aMT q vs hp hvs a b n h1 h2 h3⟩⟩
theorem ZU:iS Tryz.prog 5 146 (fun x=>.agg (eA x)) nI (fun x=>(uG x.nm&&iH x.fn)=true) 50 10000000:=
 ⟨Tryz.call146,fun q vs x h hp hvs=>by
  obtain⟨b,n⟩:=x;simp only[Bool.and_eq_true]at h;have l2:=(kX h.1).2.2;have l3:=QB h.2;exact⟨by unfold nI;simp;omega,aMU q vs hp hvs b n h.1 h.2⟩⟩
def UN (l:Li):Prop:=0≤l.mn∧l.mn≤100000∧l.mx≤100000
theorem wR{l:Li}(h:UN l):(eK l).length≤7:=by
 have h1:=bP 2 l.mn.toNat (by have:=h.2.1;omega);have h2:=bP 2 l.mx.toNat (by have:=h.2.2;omega);unfold eK cG;split
 ·simp;omega
 ·simp;omega
theorem ZV:iS Tryz.prog 5 141 (fun x=>.agg (fC x)) eK UN 10 9000000:=
 ⟨Tryz.call141,fun q vs x h _ hvs=>⟨by have:=wR h;omega,vV q vs (by omega) x h.1 h.2.1 h.2.2⟩⟩
theorem ZW:iS Tryz.prog 5 140 (fun x=>.agg (fC x)) (fun l=>112::eK l) UN 10 9000000:=
 ⟨Tryz.call140,fun q vs x h _ hvs=>⟨by have:=wR h;simp;omega,aMV q vs (by omega) x h.1 h.2.1 h.2.2⟩⟩
theorem ZX:iS Tryz.prog 5 148 (fun x=>.agg (dY x)) uT (fun x=>(kM x.off&&cO x.fs 50 iH)=true) 400 9000000:=
 ⟨Tryz.call148,fun q vs x h _ hvs=>by
  obtain⟨o,fs⟩:=x;simp only[Bool.and_eq_true]at h;have h1:fs.length≤50∧∀n∈fs,iH n=true:=by have:=h.2;unfold cO at this;simp at this;exact⟨by omega,this.2⟩
  have l1:=FN h.1;have l2:=lT (pt:=cG) (l:=fs) (c:=2) (fun x hx=>QB (h1.2 x hx)) (by omega);exact⟨by unfold uT;simp;omega,aMW q vs hvs o fs h.1 h1.1 h1.2 (by omega)⟩⟩
theorem aFd:iS Tryz.prog 5 153 (fun x=>.agg (eB x)) wP (fun x=>(kM x.off&&decide (x.bs.length≤1000))=true) 2000 9000000:=
 ⟨Tryz.call153,fun q vs x h _ hvs=>by
  obtain⟨o,bs⟩:=x;simp only[Bool.and_eq_true,decide_eq_true_eq]at h;have l1:=FN h.1;have l2:=bP 1 bs.length (by omega);exact⟨by unfold wP;simp;omega,aMX q vs hvs o bs h.1 h.2 (by omega)⟩⟩
theorem aCP{l:List Nat}{a b:Nat}:((l++ [a]).map aG).set (((l++ [a]).length:Int)-1).toNat [.int .u8 (b:Int)]=(l++ [b]).map aG:=by
 rw[show(((l++ [a]).length:Int)-1).toNat=l.length by simp,List.map_append,List.map_append,List.set_append,if_neg (by simp)];simp[aG]
theorem aFe{l:List Nat}{a:Nat}:(l++ [a])[(((l++ [a]).length:Nat)-1:Int).toNat]? =some a:=by
 rw[show(((l++ [a]).length:Nat)-1:Int).toNat=l.length by simp];simp
theorem aMY(q:Nat)(vs:List Nat)(hvs:vs.length≤9000000)(mu:Bool)(k n:Int)(hv:mQ k n=true)(hn:-9223372036854775808≤n∧n≤9223372036854775807):SCall Tryz.prog 143 [.own q 0 vs.length,.agg (dZ ⟨mu,k,n⟩)] [(q,.arr 5 1 (vs.map aG))]
  (fun y σ=>∃r,y=.own r 0 (vs++uS ⟨mu,k,n⟩).length∧σ=[(r,.arr 5 1 ((vs++uS ⟨mu,k,n⟩).map aG))]):=by
 have hkl:=nT k;refine cF 23 [0,1,3,4,13] Tryz.func143 ?_;unfold dZ;refine dX ?_;refine iQ fun r3 h3=> ?_;intros
 refine hZ ?_;refine wL ?_;refine fW ?_;refine cw [(q,.arr 5 1 (vs.map aG))] Tryz.call132 (tL q vs (by omega) k) rfl aC aA ?_;rintro _ σ' ⟨r9,rfl,rfl⟩ h9;have k9:=aZ h9;repeat rcases k9 with⟨_,k9⟩
 apply aY;exact bN;refine eN fun r10 h10=> ?_;intros
 refine iY ((vs++kB k++ [0]).map aG) (vs++kB k++ [0]).length ?_;refine bH fun r11 h11=> ?_;intros
 refine dE ?_;have hl:(vs++kB k++ [0]).length=vs.length+2:=by simp[hkl]
 refine mK ?_;refine lD ?_;refine aB rfl (fun g2=> ?_) (fun g2=> ?_)
 ·obtain⟨z,hz⟩:∃z:Nat,z=1:=⟨_,rfl⟩
  have hat:=aFe (l:=vs++kB k) (a:=0);refine eX ?_;refine kU ?_;refine tA ?_;refine OU ?_;refine OY ?_;refine lD ?_;have hle:(vs++kB k++ [0]).length=(vs++kB k++ [1]).length:=by simp
  have hz1:vs++kB k++ [1]=vs++kB k++ [z]:=by rw[hz]
  have hset:=aCP (l:=vs++kB k) (a:=0) (b:=1);rw[show(cV (.int .u8 1))=AV.int .u8 ((1:Nat):Int)from rfl,hset,hle,hz1];refine iC ?_;refine wL ?_;refine oS ?_;refine cw [(r11,.arr 5 1 ((vs++kB k++ [z]).map aG))] Tryz.call144 (rQ r11 (vs++kB k++ [z]) (by simp;omega) k n hv hn) rfl aC aA ?_;rintro _ σ' ⟨r22,rfl,rfl⟩ h22;have k22:=aZ h22;repeat rcases k22 with⟨_,k22⟩
  refine eZ ?_;rw[show vs++kB k++ [z]++mC k n=vs++uS ⟨mu,k,n⟩ by unfold uS;rw[hz,g2];simp];exact aE aF ⟨r22,by rfl,rfl⟩ aA
 obtain⟨z,hz⟩:∃z:Nat,z=0:=⟨_,rfl⟩
 rw[show vs++kB k++ [0]=vs++kB k++ [z] by rw[hz]];refine dM ?_;refine wL ?_;refine oS ?_;refine cw [(r11,.arr 5 1 ((vs++kB k++ [z]).map aG))] Tryz.call144 (rQ r11 (vs++kB k++ [z]) (by simp;omega) k n hv hn) rfl aC aA ?_;rintro _ σ' ⟨r22,rfl,rfl⟩ h22;have k22:=aZ h22;repeat rcases k22 with⟨_,k22⟩
 refine eZ ?_;rw[show vs++kB k++ [z]++mC k n=vs++uS ⟨mu,k,n⟩ by unfold uS;rw[hz,g2];simp];exact aE aF ⟨r22,by rfl,rfl⟩ aA
theorem ZY:iS Tryz.prog 5 143 (fun x=>.agg (dZ x)) uS (fun g=>mQ g.kd g.n=true∧ -9223372036854775808≤g.n∧g.n≤9223372036854775807) 300 9000000:=
 ⟨Tryz.call143,fun q vs x h _ hvs=>by
  obtain⟨mu,k,n⟩:=x;have l1:=wQ h.1 h.2;have l2:=nT k;exact⟨by unfold uS;simp;dsimp only at l1;omega,aMY q vs hvs mu k n h.1 h.2⟩⟩
end Go.Proofs.YtjpdadobblffmaaGreat
namespace Go.Proofs.YtjpdadobblffmaaGreat
open Go.RowKit Go.ChangeShapes Go.WideShapes Go.ChangeAt Go.Deep
abbrev St:=List Nat×Bool
def uU (s:St) (n:Int) (ok:Bool):St:=let bad:=s.2|| !ok||decide ((s.1.length:Int)<n);(if bad then s.1 else s.1.drop n.toNat,bad)
def gI (s:St):Nat×St:=let s':=uU s (lN s.1).2.1 ((lN s.1).2.2==0);(if s'.2 then 0 else(lN s.1).1,s')
def kY (s:St):Nat×St:=if s.2||s.1.isEmpty then(0,(s.1,true))else(s.1[0]!,(s.1.drop 1,false))
def AA (s:St):List Nat×St:=let r:=gI s;let s':=uU r.2 r.1 true;(if s'.2 then []else r.2.1.take r.1,s')
def jW {α:Type} (get:St→α×St):Nat→St→List α×St
 |0,s=>([],s)
 |n+1,s=>if s.2 then([],s)else let r:=get s;let t:=jW get n r.2;(r.1::t.1,t.2)
def fQ {α:Type} (get:St→α×St) (s:St):List α×St:=let r:=gI s;jW get r.1 r.2
def vW (s:St):Int×St:=let r:=kY s;if(r.1==127)=true then(1,r.2)else if(r.1==126)=true then(2,r.2)else(0,(r.2.1,true))
def SP (s:St):(Int×Int)×St:=
 let g:=fF s.1
 let s1:=uU s g.2.1 ((g.2.2==0)&&(g.1.op==65||g.1.op==66))
 let s2:=(kY s1).2
 (if(g.1.op==66)=true then(2,g.1.a)else(1,g.1.a),s2)
def SQ (s:St):Int×St:=let r:=SP (kY s).2;(r.1.2,r.2)
def ZZ (s:St):Li×St:=
 let b:=kY s
 let r:=gI b.2
 if(b.1 !=0)=true then let t:=gI r.2;(⟨true,r.1,t.1⟩,t.2)else(⟨true,r.1,-1⟩,r.2)
def XS:Nat→St→List Int→List Int×St
 |0,s,l=>(l,s)
 |n+1,s,l=>if s.2 then(l,s)else
  let m:=gI s
  let k:=vW m.2
  if 32<m.1 then([],(k.2.1,true))else XS n k.2 (l++List.replicate m.1 k.1)
def yK (s:St):List Int×St:=let r:=gI s;XS r.1 r.2 []
def QC (s:St):Co×St:=
 let r:=yK (gI s).2
 if r.2.2 then(⟨r.1,[]⟩,r.2)else
  let g:=lH r.2.1
  (⟨r.1,g.1⟩,uU r.2 g.2.1 (g.2.2==0))
def tyN (s:St):FT×St:=let p:=fQ vW (kY s).2;let r:=fQ vW p.2;(⟨p.1,r.1⟩,r.2)
def inN (s:St):Int×St:=let r:=gI s;(r.1,r.2)
def imN (s:St):Im×St:=let a:=AA s;let b:=AA a.2;let t:=gI (kY b.2).2;(⟨a.1,b.1,t.1⟩,t.2)
def glN (s:St):Gl×St:=let k:=vW s;let m:=kY k.2;let c:=SP m.2;(⟨m.1 !=0,c.1.1,c.1.2⟩,c.2)
def exN (s:St):Ex×St:=let a:=AA s;let t:=gI (kY a.2).2;(⟨a.1,t.1⟩,t.2)
def tbN (before:Bool) (s:St):Li×St:=ZZ (if before then(kY s).2 else s)
def UO (before:Bool) (s:St):Li×St:=let r:=fQ (tbN before) s;(r.1.headD NJ,r.2)
def eeN (s:St):El×St:=let o:=SQ s;let l:=fQ inN o.2;(⟨o.1,l.1⟩,l.2)
def ddN (s:St):Da×St:=let o:=SQ s;let l:=AA o.2;(⟨o.1,l.1⟩,l.2)
def uQ (no:Nat) (m:Md) (s:St):Md×St:=
 if no=1 then({ m with ty:=(fQ tyN s).1 },(fQ tyN s).2)
 else if no=2 then({ m with im:=(fQ imN s).1 },(fQ imN s).2)
 else if no=3 then({ m with fn:=(fQ inN s).1 },(fQ inN s).2)
 else if no=4 then({ m with tb:=(UO true s).1 },(UO true s).2)
 else if no=5 then({ m with me:=(UO false s).1 },(UO false s).2)
 else if no=6 then({ m with gl:=(fQ glN s).1 },(fQ glN s).2)
 else if no=7 then({ m with ex:=(fQ exN s).1 },(fQ exN s).2)
 else if no=9 then({ m with el:=(fQ eeN s).1 },(fQ eeN s).2)
 else if no=10 then({ m with co:=(fQ QC s).1 },(fQ QC s).2)
 else if no=11 then({ m with da:=(fQ ddN s).1 },(fQ ddN s).2)
 else(m,(s.1,true))
def dlN:Nat→Md→St→Md×St
 |0,m,s=>(m,s)
 |f+1,m,s=>if s.1.isEmpty||s.2 then(m,s)else
  let b:=kY s
  let t:=uQ b.1 m (gI b.2).2
  dlN f t.1 t.2
def xG (b:List Nat):Md×St:=dlN (b.length+1) md0 (uU (b, !decide (b.take 8=headB)) 8 true)
def yL (b:List Nat):Md×Int:=
 if 8000<b.length then(md0,4)
 else if(xG b).2.2=true then(md0,1)
 else if nR (xG b).1=true∧fH (xG b).1=b then((xG b).1,0)else(md0,1)
def Bck {α:Type} (get:St→α×St) (pt:α→List Nat) (ok:α→Prop):Prop:=∀x,ok x→∀r,get (pt x++r,false)=(x,(r,false))
theorem UP{p r:List Nat}{n:Int}(hn:n=(p.length:Int)):uU (p++r,false) n true=(r,false):=by
 subst hn;unfold uU;have:decide ((((p++r,false):St).1.length:Int)<(p.length:Int))=false:=by simp;omega
 simp only[this];simp
theorem DC{v:Nat}(hv:v<4294967296)(r:List Nat):gI (uB v++r,false)=(v,(r,false)):=by
 unfold gI;dsimp only;rw[ZF hv];dsimp only;rw[show((0:Int)==0)=true from rfl,UP rfl];rfl
theorem sN(c:Nat)(r:List Nat):kY (c::r,false)=(c,(r,false)):=by
 unfold kY;simp
theorem aG9{s:List Nat}(hs:s.length<4294967296)(r:List Nat):AA (uB s.length++s++r,false)=(s,(r,false)):=by
 unfold AA;rw[List.append_assoc,DC hs];dsimp only;rw[UP rfl];simp
theorem aHa{α:Type}{get:St→α×St}{pt:α→List Nat}{ok:α→Prop}(h:Bck get pt ok):∀ {l:List α},(∀x∈l,ok x)→∀r,jW get l.length (l.flatMap pt++r,false)=(l,(r,false))
 |[],_,r=>rfl
 |x::l,hl,r=>by
  rw[List.length_cons,jW,if_neg (by simp),List.flatMap_cons,List.append_assoc,h x (hl x List.mem_cons_self)];dsimp only;rw[aHa h (fun y hy=>hl y (List.mem_cons_of_mem _ hy))]
theorem uI{α:Type}{get:St→α×St}{pt:α→List Nat}{ok:α→Prop}(h:Bck get pt ok){l:List α}(hl:∀x∈l,ok x)(hn:l.length<4294967296)(r:List Nat):fQ get (bC l pt++r,false)=(l,(r,false)):=by
 unfold fQ bC;rw[List.append_assoc,DC hn];exact aHa h hl r
theorem aAa:Bck vW kB (fun k=>zZ k=true):=by
 intro k hk r;have:k=1∨k=2:=by
  unfold zZ at hk;by_cases h:k=1
  ·exact .inl h
  ·rw[if_neg (by simpa using h)]at hk;exact .inr (by simpa using hk)
 rcases this with rfl|rfl
 ·show vW (127::r,false)=_;unfold vW;rw[sN];rfl
 ·show vW (126::r,false)=_;unfold vW;rw[sN];rfl
theorem aHb:Bck inN cG (fun n=>iH n=true):=by
 intro n hn r;have h0:0≤n∧n≤1000:=by
  unfold iH at hn;by_cases h:0≤n
  ·rw[if_pos (by simpa using h)]at hn;exact⟨h,by simpa using hn⟩
  ·rw[if_neg (by simpa using h)]at hn;cases hn
 unfold inN cG;rw[DC (by omega)];simp;omega
theorem BZ{n:Int}(h0:0≤n)(h1:n<4294967296)(r:List Nat):gI (cG n++r,false)=(n.toNat,(r,false)):=DC (by omega) r
theorem aHc{k n:Int}(h:mQ k n=true)(hn:-9223372036854775808≤n∧n≤9223372036854775807)(r:List Nat):SP (mC k n++r,false)=((k,n),(r,false)):=by
 obtain⟨ho,hm,hk⟩:=GX h hn;have key:∀op:Int,(⟨op,n,0,[]⟩:Ins).Ok→cY ⟨op,n,0,[]⟩=true→(op=65∨op=66)→SP (gG ⟨op,n,0,[]⟩++ [11]++r,false)=(if(op==66)=true then(2,n)else(1,n),(r,false)):=by
  intro op ho hm hop;unfold SP;dsimp only;rw[List.append_assoc,PN ho hm];dsimp only;rw[show(((0:Int)==0)&&((op==65)||(op==66)))=true by rcases hop with rfl|rfl<;>rfl,UP rfl];show(_,(kY (11::r,false)).2)=_;rw[sN]
 unfold mC;rcases hk with rfl|rfl
 ·exact key 65 ho hm (.inl rfl)
 ·exact key 66 ho hm (.inr rfl)
theorem aHd{n:Int}(h:kM n=true)(r:List Nat):SQ (qF n++r,false)=(n,(r,false)):=by
 unfold kM at h;simp only[Bool.and_eq_true,decide_eq_true_eq]at h;unfold SQ qF;rw[List.cons_append,sN];dsimp only;rw[aHc (by unfold mQ;simp;omega) (by omega)]
theorem aHe{l:Li}{a c:Int}(h:lP l a c=true)(hh:l.has=true)(ha:a≤100000)(hc:c≤100000)(r:List Nat):ZZ (eK l++r,false)=(l,(r,false)):=by
 obtain⟨has,mn,mx⟩:=l;dsimp only at hh;subst hh;unfold lP at h;simp only[if_true,Bool.and_eq_true,decide_eq_true_eq]at h;obtain⟨⟨⟨h1,h2⟩,h3⟩,h4⟩:=h;by_cases hx:mx<0
 ·rw[show eK ⟨true,mn,mx⟩=0::cG mn by unfold eK;rw[if_pos (by simpa using hx)]];unfold ZZ;rw[List.cons_append,sN];dsimp only;rw[BZ h1 (by omega)];simp;omega
 ·rw[show eK ⟨true,mn,mx⟩=1::(cG mn++cG mx) by unfold eK;rw[if_neg (by simpa using hx)]];unfold ZZ;rw[List.cons_append,sN];dsimp only;rw[List.append_assoc,BZ h1 (by omega)];dsimp only;rw[if_pos (by decide),BZ (by omega) (by omega)];simp;omega
theorem CA(l:List Int)(k:Int):cC (l++ [k])=match(cC l).getLast? with
 |some (x::xs)=>if x==k then(cC l).dropLast++ [(x::xs)++ [k]]else cC l++ [[k]]
 | _=>cC l++ [[k]]:=by
 unfold cC;rw[List.foldl_append];rfl
theorem AB:∀(n:Nat) (l:List Int),l.length=n→(cC l).flatten=l∧∀r∈cC l,∃k m,r=List.replicate (m+1) k∧k∈l∧m+1≤l.length
 |0,l,h=>by
  obtain rfl:l=[]:=List.length_eq_zero_iff.1 h;exact⟨rfl,by simp[cC]⟩
 |n+1,l,h=>by
  obtain⟨t,k,rfl⟩:∃t k,l=t++ [k]:=by
   have:l≠ []:=by intro e;subst e;simp at h
   exact⟨l.dropLast,l.getLast this,(List.dropLast_concat_getLast this).symm⟩
  obtain⟨h1,h2⟩:=AB n t (by simpa using h);rw[CA];have hnew:(cC t++ [[k]]).flatten=t++ [k]∧∀r∈cC t++ [[k]],∃k' m,r=List.replicate (m+1) k'∧k'∈t++ [k]∧m+1≤(t++ [k]).length:=by
   refine⟨by rw[List.flatten_append,h1];rfl,fun r hr=> ?_⟩;rcases List.mem_append.1 hr with hr|hr
   ·obtain⟨k',m,e1,e2,e3⟩:=h2 r hr;exact⟨k',m,e1,List.mem_append_left _ e2,by simp;omega⟩
   ·exact⟨k,0,by simpa using hr,by simp,by simp⟩
  split
  ·next x xs hl=>
   split
   ·next hx=>
    obtain rfl:x=k:=by simpa using hx
    have hne:cC t≠ []:=by intro e;rw[e]at hl;cases hl
    have hd:cC t=(cC t).dropLast++ [x::xs]:=by
     have:=List.dropLast_concat_getLast hne;rw[List.getLast?_eq_some_getLast hne]at hl;rw[Option.some.inj hl]at this;exact this.symm
    obtain⟨k',m,e1,e2,e3⟩:=h2 (x::xs) (by rw[hd];simp);obtain rfl:x=k':=by rw[List.replicate_succ]at e1;exact(List.cons.inj e1).1
    refine⟨?_,fun r hr=> ?_⟩
    ·rw[List.flatten_append]
     conv=>rhs;rw[←h1,hd]
     simp
    ·rcases List.mem_append.1 hr with hr|hr
     ·obtain⟨k',m,e1,e2,e3⟩:=h2 r (List.dropLast_sublist _ |>.subset hr);exact⟨k',m,e1,List.mem_append_left _ e2,by simp;omega⟩
     ·refine⟨x,m+1, ?_,by simp,by simp;omega⟩;rw[show r=x::xs++ [x] by simpa using hr,e1];exact List.replicate_succ'.symm
   ·exact hnew
  ·exact hnew
theorem aHf{l:List Int}(hk:∀k∈l,zZ k=true):∀ {rs:List (List Int)},(∀r∈rs,∃k m,r=List.replicate (m+1) k∧k∈l∧m+1≤32)→∀(acc:List Int) (t:List Nat),XS rs.length (rs.flatMap iE++t,false) acc=(acc++rs.flatten,(t,false))
 |[],_,acc,t=>by simp[XS]
 |r::rs,h,acc,t=>by
  obtain⟨k,m,rfl,hkl,hm⟩:=h r List.mem_cons_self;rw[List.length_cons,XS,if_neg (by simp),List.flatMap_cons,List.append_assoc];have h1:iE (List.replicate (m+1) k)=cG ((m+1:Nat):Int)++kB k:=by unfold iE;rw[List.length_replicate,List.replicate_succ];rfl
  rw[h1,List.append_assoc,BZ (by omega) (by omega)];dsimp only;rw[aAa k (hk k hkl)];dsimp only;rw[Int.toNat_natCast,if_neg (by omega),aHf hk (fun r hr=>h r (List.mem_cons_of_mem _ hr))];simp
theorem aKP{l:List Int}(hk:∀k∈l,zZ k=true)(hl:l.length≤32)(t:List Nat):yK (bC (cC l) iE++t,false)=(l,(t,false)):=by
 obtain⟨h1,h2⟩:=AB _ l rfl;have hr:∀(rs:List (List Int)),(∀r∈rs,∃k m,r=List.replicate (m+1) k∧k∈l∧m+1≤l.length)→rs.length≤rs.flatten.length:=by
  intro rs
  induction rs with
  |nil=>simp
  |cons r rs ih=>
   intro h;obtain⟨k,m,rfl,-,-⟩:=h r List.mem_cons_self;have:=ih fun r hr=>h r (List.mem_cons_of_mem _ hr)
   simp at this⊢;omega
 have hn:=hr _ h2;rw[h1]at hn;unfold yK bC;rw[List.append_assoc,DC (by omega)];dsimp only;rw[aHf hk (fun r hr=>by obtain⟨k,m,a,b,c⟩:=h2 r hr;exact⟨k,m,a,b,by omega⟩),h1];rfl
theorem cB{α:Type}{l:List α}{most:Int}{p:α→Bool}(h:cO l most p=true):(l.length:Int)≤most∧∀x∈l,p x=true:=by
 unfold cO at h;simpa using h
def OkC (c:Co):Prop:=tK c=true∧(∀x∈c.bd,x.Ok)∧(bC (cC c.ls) iE++iR c.bd).length<4294967296
theorem aKQ:Bck QC kH OkC:=by
 rintro⟨ls,bd⟩ ⟨h,hO,hlen⟩ t;unfold tK at h;simp only[Bool.and_eq_true]at h;obtain⟨⟨h1,h2⟩,h3⟩:=h;obtain⟨k1,k2⟩:=cB h2;obtain⟨k3,k4⟩:=cB h3;have hm:∀x∈bd,x.Ok∧cY x=true:=fun x hx=>⟨hO x hx,k4 x hx⟩
 unfold QC kH;dsimp only;rw[List.append_assoc,DC hlen];dsimp only;rw[List.append_assoc,aKP k2 (by omega)];dsimp only;rw[if_neg (by simp),aA5 hm h1];dsimp only;rw[show((0:Int)==0)=true from rfl,UP rfl]
theorem aKR:Bck tyN vT (fun t=>(cO t.pr 32 zZ&&cO t.rs 1 zZ)=true):=by
 rintro⟨pr,rs⟩ h t;simp only[Bool.and_eq_true]at h;obtain⟨k1,k2⟩:=cB h.1;obtain⟨k3,k4⟩:=cB h.2;unfold tyN vT;rw[List.cons_append,sN];dsimp only;rw[List.append_assoc,uI aAa k2 (by omega)];dsimp only;rw[uI aAa k4 (by omega)]
theorem aID{s:List Nat}(h:uG s=true):s.length≤16:=by
 unfold uG at h;split at h
 ·simp only[Bool.and_eq_true,decide_eq_true_eq]at h;exact h.1
 ·cases h
theorem QD{n:Int}(h:iH n=true):0≤n∧n≤1000:=by
 unfold iH at h;by_cases h0:0≤n
 ·rw[if_pos (by simpa using h0)]at h;exact⟨h0,by simpa using h⟩
 ·rw[if_neg (by simpa using h0)]at h;cases h
theorem aCU{s:List Nat}(h:uG s=true)(t:List Nat):AA (bQ s++t,false)=(s,(t,false)):=aG9 (by have:=aID h;omega) t
theorem aKS:Bck imN iZ (fun x=>(uG x.mod&&uG x.nm&&iH x.ty)=true):=by
 rintro⟨a,b,n⟩ h t;simp only[Bool.and_eq_true]at h;obtain⟨⟨h1,h2⟩,h3⟩:=h;have h3:=QD h3;unfold imN iZ;dsimp only;rw[List.append_assoc,List.append_assoc,List.append_assoc,aCU h1];dsimp only;rw[aCU h2];dsimp only;rw[List.cons_append,sN];dsimp only[List.nil_append];rw[BZ h3.1 (by omega)];simp;omega
theorem aKT:Bck exN nI (fun x=>(uG x.nm&&iH x.fn)=true):=by
 rintro⟨a,n⟩ h t;simp only[Bool.and_eq_true]at h;have h3:=QD h.2;unfold exN nI;dsimp only;rw[List.append_assoc,List.append_assoc,aCU h.1];dsimp only;rw[List.cons_append,sN];dsimp only[List.nil_append];rw[BZ h3.1 (by omega)];simp;omega
theorem aA8{k n:Int}(h:mQ k n=true):zZ k=true:=by
 unfold mQ at h;simp only[Bool.or_eq_true,Bool.and_eq_true,beq_iff_eq,decide_eq_true_eq]at h;rcases h with⟨⟨rfl,-⟩,-⟩|rfl<;>rfl
theorem aKU:Bck glN uS (fun g=>mQ g.kd g.n=true∧ -9223372036854775808≤g.n∧g.n≤9223372036854775807):=by
 rintro⟨mu,k,n⟩ ⟨h,hn⟩ t;dsimp only at h hn;unfold glN uS;dsimp only;rw[List.append_assoc,List.append_assoc,aAa k (aA8 h)];dsimp only;rw[List.cons_append,sN];dsimp only[List.nil_append];rw[aHc h hn];cases mu<;>rfl
theorem aKV:Bck eeN uT (fun x=>(kM x.off&&cO x.fs 50 iH)=true):=by
 rintro⟨o,fs⟩ h t;simp only[Bool.and_eq_true]at h;obtain⟨k1,k2⟩:=cB h.2;unfold eeN uT;dsimp only;rw[List.append_assoc,aHd h.1];dsimp only;rw[uI aHb k2 (by omega)]
theorem aKW:Bck ddN wP (fun x=>(kM x.off&&decide (x.bs.length≤1000))=true):=by
 rintro⟨o,bs⟩ h t;simp only[Bool.and_eq_true,decide_eq_true_eq]at h;unfold ddN wP;dsimp only;rw[List.append_assoc,List.append_assoc,aHd h.1];dsimp only;rw[←List.append_assoc,aG9 (by omega)]
def NI {α:Type} (get:St→α×St):Prop:=∀s,(get s).2.1.length≤s.1.length
theorem UQ(s:St)(n:Int)(ok:Bool):(uU s n ok).1.length≤s.1.length:=by
 unfold uU;dsimp only;split
 ·exact Nat.le_refl _
 ·simp
theorem qH:NI gI:=fun s=>by unfold gI;exact UQ _ _ _
theorem uJ:NI kY:=fun s=>by
 unfold kY;split
 ·exact Nat.le_refl _
 ·simp
theorem aHg(s:St)(h:s.1≠ [])(hb:s.2=false):(kY s).2.1.length<s.1.length:=by
 obtain⟨l,b⟩:=s;dsimp only at h hb;subst hb;cases l with
 |nil=>exact absurd rfl h
 |cons c l=>rw[sN];simp
theorem aAb:NI AA:=fun s=>by unfold AA;exact Nat.le_trans (UQ _ _ _) (qH s)
theorem aHh{α:Type}{get:St→α×St}(h:NI get):∀n s,(jW get n s).2.1.length≤s.1.length
 |0,s=>Nat.le_refl _
 |n+1,s=>by
  rw[jW];split
  ·exact Nat.le_refl _
  ·exact Nat.le_trans (aHh h n _) (h s)
theorem uK{α:Type}{get:St→α×St}(h:NI get):NI (fQ get):=fun s=>Nat.le_trans (aHh h _ _) (qH s)
theorem UR:NI vW:=fun s=>by
 unfold vW;dsimp only;split
 ·exact uJ s
 ·split
  ·exact uJ s
  ·exact uJ s
theorem aHi:NI SP:=fun s=>by unfold SP;exact Nat.le_trans (uJ _) (UQ _ _ _)
theorem aHj:NI SQ:=fun s=>by unfold SQ;exact Nat.le_trans (aHi _) (uJ s)
theorem aHk:NI ZZ:=fun s=>by
 unfold ZZ;dsimp only;split
 ·exact Nat.le_trans (qH _) (Nat.le_trans (qH _) (uJ s))
 ·exact Nat.le_trans (qH _) (uJ s)
theorem aHl:∀n s l,(XS n s l).2.1.length≤s.1.length
 |0,s,l=>Nat.le_refl _
 |n+1,s,l=>by
  rw[XS];split
  ·exact Nat.le_refl _
  ·dsimp only;split
   ·exact Nat.le_trans (UR _) (qH s)
   ·exact Nat.le_trans (aHl n _ _) (Nat.le_trans (UR _) (qH s))
theorem aHm:NI yK:=fun s=>by unfold yK;exact Nat.le_trans (aHl _ _ _) (qH s)
theorem aKX:NI QC:=fun s=>by
 unfold QC;dsimp only;split
 ·exact Nat.le_trans (aHm _) (qH s)
 ·exact Nat.le_trans (UQ _ _ _) (Nat.le_trans (aHm _) (qH s))
theorem aKY:NI tyN:=fun s=>by unfold tyN;exact Nat.le_trans (uK UR _) (Nat.le_trans (uK UR _) (uJ s))
theorem aHn:NI inN:=fun s=>qH s
theorem aKZ:NI imN:=fun s=>by unfold imN;exact Nat.le_trans (qH _) (Nat.le_trans (uJ _) (Nat.le_trans (aAb _) (aAb s)))
theorem aK0:NI glN:=fun s=>by unfold glN;exact Nat.le_trans (aHi _) (Nat.le_trans (uJ _) (UR s))
theorem aK1:NI exN:=fun s=>by unfold exN;exact Nat.le_trans (qH _) (Nat.le_trans (uJ _) (aAb s))
theorem aK2(b:Bool):NI (tbN b):=fun s=>by
 unfold tbN;split
 ·exact Nat.le_trans (aHk _) (uJ s)
 ·exact aHk s
theorem aHo(b:Bool):NI (UO b):=fun s=>uK (aK2 b) s
theorem aK3:NI eeN:=fun s=>by unfold eeN;exact Nat.le_trans (uK aHn _) (aHj s)
theorem aK4:NI ddN:=fun s=>by unfold ddN;exact Nat.le_trans (aAb _) (aHj s)
theorem aHp(no:Nat)(m:Md)(s:St):(uQ no m s).2.1.length≤s.1.length:=by
 unfold uQ;repeat' split
 ·exact uK aKY s
 ·exact uK aKZ s
 ·exact uK aHn s
 ·exact aHo true s
 ·exact aHo false s
 ·exact uK aK0 s
 ·exact uK aK1 s
 ·exact uK aK3 s
 ·exact uK aKX s
 ·exact uK aK4 s
 ·exact Nat.le_refl _
theorem AC:∀(f f':Nat) (m:Md) (s:St),s.1.length<f→s.1.length<f'→dlN f m s=dlN f' m s
 |0,_,_,s,h,_=>absurd h (Nat.not_lt_zero _)
 | _ +1,0,_,s,_,h=>absurd h (Nat.not_lt_zero _)
 |f+1,f'+1,m,s,h,h'=>by
  rw[dlN,dlN];split
  ·rfl
  ·next hc=>
   simp only[Bool.or_eq_true,not_or,Bool.not_eq_true]at hc;have h1:=aHg s (by intro e;rw[e]at hc;simp at hc) hc.2;have h2:=qH (kY s).2;have h3:=aHp (kY s).1 m (gI (kY s).2).2;exact AC f f' _ _ (by omega) (by omega)
def DN (m:Md) (s:St):Md×St:=dlN (s.1.length+1) m s
theorem aIE(m:Md):DN m ([],false)=(m,([],false)):=rfl
theorem rR{α:Type}{no:Nat}{l:List α}{pt:α→List Nat}{m m':Md}{r:List Nat}(h0:l=[]→m'=m)(hv:(bC l pt).length<4294967296)
  (hs:uQ no m (bC l pt++r,false)=(m',(r,false))):DN m (bI no l pt++r,false)=DN m' (r,false):=by
 unfold bI;by_cases hl:l=[]
 ·subst hl;rw[h0 rfl];rfl
 ·rw[if_neg (by simpa using hl)];unfold DN;rw[dlN,if_neg (by simp)];dsimp only;rw[List.cons_append,sN];dsimp only;rw[List.append_assoc,DC hv];dsimp only;rw[hs];dsimp only;exact AC _ _ _ _ (by simp;omega) (by simp)
theorem US{α:Type}{pt:α→List Nat}:∀ {l:List α} {x:α},x∈l→(pt x).length≤(l.flatMap pt).length
 |y::l,x,h=>by
  rw[List.flatMap_cons,List.length_append];rcases List.mem_cons.1 h with rfl|h
  ·omega
  ·have:=US (pt:=pt) h;omega
theorem aCV{α:Type}{no:Nat}{l:List α}{pt:α→List Nat}:(l≠ []→(bC l pt).length≤(bI no l pt).length):=by
 intro h;unfold bI;rw[if_neg (by simpa using h)];simp;omega
def Md.Ok (m:Md):Prop:=(∀c∈m.co,∀x∈c.bd,x.Ok)∧∀g∈m.gl,-9223372036854775808≤g.n∧g.n≤9223372036854775807
theorem aFf{α:Type}{l:List α}{pt:α→List Nat}(h:l=[]):(bC l pt).length<4294967296:=by subst h;unfold bC;rw[List.length_nil,uF (by omega)];simp
theorem rS{α:Type}{no:Nat}{l:List α}{pt:α→List Nat}(h:(bI no l pt).length≤8000):(bC l pt).length<4294967296:=by
 by_cases hl:l=[]
 ·exact aFf hl
 ·have:=aCV (no:=no) (pt:=pt) hl;omega
theorem XT{l:Li}{a c:Int}(h:lP l a c=true)(hh:l.has=false):l=NJ:=by
 obtain⟨has,mn,mx⟩:=l;dsimp only at hh;subst hh;unfold lP at h;simp at h;obtain⟨rfl,rfl⟩:=h;rfl
theorem aHq{l:Li}{a c:Int}{pt:Li→List Nat}(before:Bool)(hpt:pt=fun l=>if before then 112::eK l else eK l)(h:lP l a c=true)(ha:a≤100000)(hc:c≤100000)(r:List Nat):UO before (bC (gP l) pt++r,false)=(l,(r,false)):=by
 subst hpt;unfold UO gP;cases hh:l.has with
 |false=>
  rw[if_neg (by decide),show bC ([]:List Li) (fun l=>if before=true then 112::eK l else eK l)=uB 0 by unfold bC;simp];unfold fQ;rw[DC (by decide),XT h hh];rfl
 |true=>
  have hb:Bck (tbN before) (fun l=>if before then 112::eK l else eK l) (fun l=>lP l a c=true∧l.has=true):=by
   rintro x ⟨h1,h2⟩ t;unfold tbN;cases before
   ·exact aHe h1 h2 ha hc t
   ·show ZZ (kY (112::(eK x++t),false)).2=_;rw[sN];exact aHe h1 h2 ha hc t
  rw[if_pos rfl,uI hb (by simp;exact⟨h,hh⟩) (by simp)];rfl
theorem aCW{m:Md}(h:nR m=true)(hO:m.Ok):xG (fH m)=(m,([],false)):=by
 obtain⟨ty,im,fn,tb,me,gl,ex,el,co,da⟩:=m;unfold nR at h;simp only[Bool.and_eq_true,decide_eq_true_eq]at h;obtain⟨⟨⟨⟨⟨-,hco⟩,hls⟩,htb⟩,hme⟩,hw⟩:=h;unfold qG at hls;simp only[Bool.and_eq_true]at hls;obtain⟨⟨⟨⟨⟨⟨hty,him⟩,hfn⟩,hgl⟩,hex⟩,hel⟩,hda⟩:=hls;obtain⟨hO1,hO2⟩:=hO;dsimp only at*;unfold fH at hw;dsimp only at hw;simp only[List.length_append]at hw;unfold xG;have hbd:uU (fH ⟨ty,im,fn,tb,me,gl,ex,el,co,da⟩, !decide ((fH ⟨ty,im,fn,tb,me,gl,ex,el,co,da⟩).take 8=headB)) 8 true=(bI 1 ty vT++(bI 2 im iZ++(bI 3 fn cG++(bI 4 (gP tb) (fun l=>112::eK l)++(bI 5 (gP me) eK++(bI 6 gl uS++(bI 7 ex nI++(bI 9 el uT++(bI 10 co kH++(bI 11 da wP++ []))))))))),false):=by
  have hsp:fH ⟨ty,im,fn,tb,me,gl,ex,el,co,da⟩=headB++(bI 1 ty vT++(bI 2 im iZ++(bI 3 fn cG++(bI 4 (gP tb) (fun l=>112::eK l)++(bI 5 (gP me) eK++(bI 6 gl uS++(bI 7 ex nI++(bI 9 el uT++(bI 10 co kH++(bI 11 da wP++ [])))))))))):=by
   unfold fH;simp only[List.append_assoc,List.append_nil]
  rw[hsp,show(headB++ _).take 8=headB from List.take_left' rfl,decide_eq_true rfl];exact UP rfl
 rw[hbd];have hfuel:∀(s:St) (m:Md),s.1.length≤(fH ⟨ty,im,fn,tb,me,gl,ex,el,co,da⟩).length→dlN ((fH ⟨ty,im,fn,tb,me,gl,ex,el,co,da⟩).length+1) m s=DN m s:=fun s m hs=>AC _ _ _ _ (by omega) (by omega)
 rw[hfuel _ _ (by unfold fH;simp only[List.length_append,List.length_nil];omega)];have hoc:∀c∈co,OkC c:=fun c hc=>⟨(cB hco).2 c hc,hO1 c hc,by
  have h1:=US (pt:=kH) hc;have h2:(bC co kH).length≤(bI 10 co kH).length:=aCV (by intro e;rw[e]at hc;cases hc);unfold bC at h2;have h3:(bC (cC c.ls) iE++iR c.bd).length≤(kH c).length:=by unfold kH;simp
  rw[List.length_append]at h2;omega⟩
 rw[rR (m':=⟨ty,[],[],NJ,NJ,[],[],[],[],[]⟩) (fun e=>by rw[e];rfl) (rS (no:=1) (by omega)) (by unfold uQ;rw[if_pos rfl,uI aKR (cB hty).2 (by have:=(cB hty).1;omega)];rfl)];rw[rR (m':=⟨ty,im,[],NJ,NJ,[],[],[],[],[]⟩) (fun e=>by rw[e]) (rS (no:=2) (by omega)) (by unfold uQ;rw[if_neg (by decide),if_pos rfl,uI aKS (cB him).2 (by have:=(cB him).1;omega)])];rw[rR (m':=⟨ty,im,fn,NJ,NJ,[],[],[],[],[]⟩) (fun e=>by rw[e]) (rS (no:=3) (by omega)) (by unfold uQ;rw[if_neg (by decide),if_neg (by decide),if_pos rfl,uI aHb (cB hfn).2 (by have:=(cB hfn).1;omega)])];have e4:gP tb=[]→tb=NJ:=fun e=>XT htb (by unfold gP at e;cases hh:tb.has;rfl;rw[hh]at e;cases e)
 have e5:gP me=[]→me=NJ:=fun e=>XT hme (by unfold gP at e;cases hh:me.has;rfl;rw[hh]at e;cases e)
 rw[rR (m':=⟨ty,im,fn,tb,NJ,[],[],[],[],[]⟩) (fun e=>by rw[e4 e]) (rS (no:=4) (by omega)) (by unfold uQ;rw[if_neg (by decide),if_neg (by decide),if_neg (by decide),if_pos rfl,aHq (pt:=fun l=>112::eK l) true rfl htb (by decide) (by decide)])];rw[rR (m':=⟨ty,im,fn,tb,me,[],[],[],[],[]⟩) (fun e=>by rw[e5 e]) (rS (no:=5) (by omega)) (by unfold uQ;rw[if_neg (by decide),if_neg (by decide),if_neg (by decide),if_neg (by decide),if_pos rfl,aHq (pt:=eK) false rfl hme (by decide) (by decide)])];rw[rR (m':=⟨ty,im,fn,tb,me,gl,[],[],[],[]⟩) (fun e=>by rw[e]) (rS (no:=6) (by omega)) (by unfold uQ;rw[if_neg (by decide),if_neg (by decide),if_neg (by decide),if_neg (by decide),if_neg (by decide),if_pos rfl,uI aKU (fun g hg=>⟨(cB hgl).2 g hg,hO2 g hg⟩) (by have:=(cB hgl).1;omega)])];rw[rR (m':=⟨ty,im,fn,tb,me,gl,ex,[],[],[]⟩) (fun e=>by rw[e]) (rS (no:=7) (by omega)) (by unfold uQ;rw[if_neg (by decide),if_neg (by decide),if_neg (by decide),if_neg (by decide),if_neg (by decide),if_neg (by decide),if_pos rfl,uI aKT (cB hex).2 (by have:=(cB hex).1;omega)])];rw[rR (m':=⟨ty,im,fn,tb,me,gl,ex,el,[],[]⟩) (fun e=>by rw[e]) (rS (no:=9) (by omega)) (by unfold uQ;rw[if_neg (by decide),if_neg (by decide),if_neg (by decide),if_neg (by decide),if_neg (by decide),if_neg (by decide),if_neg (by decide),if_pos rfl,uI aKV (cB hel).2 (by have:=(cB hel).1;omega)])]
 rw[rR (m':=⟨ty,im,fn,tb,me,gl,ex,el,co,[]⟩) (fun e=>by rw[e]) (rS (no:=10) (by omega)) (by unfold uQ;rw[if_neg (by decide),if_neg (by decide),if_neg (by decide),if_neg (by decide),if_neg (by decide),if_neg (by decide),if_neg (by decide),if_neg (by decide),if_pos rfl,uI aKQ hoc (by have:=(cB hco).1;omega)])];rw[rR (m':=⟨ty,im,fn,tb,me,gl,ex,el,co,da⟩) (fun e=>by rw[e]) (rS (no:=11) (by omega)) (by unfold uQ;rw[if_neg (by decide),if_neg (by decide),if_neg (by decide),if_neg (by decide),if_neg (by decide),if_neg (by decide),if_neg (by decide),if_neg (by decide),if_neg (by decide),if_pos rfl,uI aKW (cB hda).2 (by have:=(cB hda).1;omega)])];exact aIE _
theorem aCX{m:Md}(h:nR m=true)(hO:m.Ok):yL (fH m)=(m,0):=by
 have h1:=aCW h hO;have h2:(fH m).length≤8000:=by
  unfold nR at h;simp only[Bool.and_eq_true,decide_eq_true_eq]at h;exact h.2
 unfold yL;rw[if_neg (by omega),h1,if_neg (by simp),if_pos ⟨h,rfl⟩]
end Go.Proofs.YtjpdadobblffmaaGreat
namespace Go.Proofs.YtjpdadobblffmaaGreat
open Go.RowKit Go.ChangeShapes Go.WideShapes Go.ChangeAt Go.Deep
attribute [local irreducible] SW RS RD fG eH
theorem aA9{l:List Int}{j:Nat}{k:Int}(h:l[j]? =some k):∃(init:List (List Int)) (m:Nat),cC (l.take (j+1))=init++ [List.replicate (m+1) k]∧init.length+1≤j+1∧m+1≤j+1:=by
 have hj:=(List.getElem?_eq_some_iff.1 h).1;obtain⟨h1,h2⟩:=AB _ (l.take (j+1)) rfl;have hlen:(l.take (j+1)).length=j+1:=by simp;omega
 rw[hlen]at h2;have hr:∀(rs:List (List Int)),(∀r∈rs,∃k m,r=List.replicate (m+1) k∧k∈l.take (j+1)∧m+1≤j+1)→rs.length≤rs.flatten.length:=by
  intro rs
  induction rs with
  |nil=>simp
  |cons r rs ih=>
   intro h;obtain⟨k,m,rfl,-,-⟩:=h r List.mem_cons_self;have:=ih fun r hr=>h r (List.mem_cons_of_mem _ hr)
   simp at this⊢;omega
 have hn:=hr _ h2;rw[h1,hlen]at hn;rcases List.eq_nil_or_concat (cC (l.take (j+1)))with e|⟨init,r,e⟩
 ·rw[e]at h1;have:=congrArg List.length h1;rw[hlen]at this;simp at this
 ·rw[List.concat_eq_append]at e;rw[e]at h1 h2 hn;obtain⟨k',m,rfl,-,hm⟩:=h2 r (by simp);have hk:k'=k:=by
   have e2:=congrArg (fun t=>t[j]?) h1;rw[List.take_add_one,h]at h1;rw[List.flatten_append,List.replicate_succ']at h1;simp only[List.flatten_cons,List.flatten_nil,List.append_nil,Option.toList,←List.append_assoc]at h1;exact(List.append_inj' h1 rfl).2|>List.cons.inj|>.1
  subst hk;exact⟨init,m,e,by simpa using hn,hm⟩
theorem NL{l:List Int}{j:Nat}{x:Int}{init:List (List Int)}{m:Nat}(h:cC (l.take j)=init++ [List.replicate (m+1) x])(hx:l[j]? =some x):cC (l.take (j+1))=init++ [List.replicate (m+1) x++ [x]]:=by
 rw[List.take_add_one,hx];show cC (l.take j++ [x])=_;rw[CA,h,List.getLast?_append];simp[List.replicate_succ]
theorem UT{l:List Int}{j:Nat}{x k:Int}{init:List (List Int)}{m:Nat}(h:cC (l.take j)=init++ [List.replicate (m+1) k])(hx:l[j]? =some x)(hk:k≠x):cC (l.take (j+1))=init++ [List.replicate (m+1) k]++ [[x]]:=by
 rw[List.take_add_one,hx];show cC (l.take j++ [x])=_;rw[CA,h,List.getLast?_append];simp[List.replicate_succ,hk]
theorem UU{l:List Int}{x:Int}(hx:l[0]? =some x):cC (l.take 1)=[[x]]:=by
 rw[List.take_add_one,hx];rfl
theorem HC{r:List Int}(h:r.length≤1000):(iE r).length≤3:=by
 have:=bP 1 r.length (by omega);unfold iE cG;rw[List.length_append,nT,Int.toNat_natCast];omega
theorem aK5(q:Nat)(vs:List Nat)(hvs:vs.length≤10000000)(r:List Int)(h1:0<r.length)(h2:r.length≤1000):SCall Tryz.prog 247 [.own q 0 vs.length,.ro 1 (r.map aP) .any] [(q,.arr 5 1 (vs.map aG))]
  (fun y σ=>∃p,y=.own p 0 (vs++iE r).length∧σ=[(p,.arr 5 1 ((vs++iE r).map aG))]):=by
 have hu:=bP 1 r.length (by omega);obtain⟨k,hk⟩:∃k,r[(0:Int).toNat]? =some k:=⟨_,List.getElem?_eq_getElem (by simpa using h1)⟩
 refine cF 13 [0,1,4] Tryz.func247 ?_;refine bM ?_;refine fM [(0,true),(1,true),(2,true),(4,true),(5,true),(6,true),(3,false),(7,false),(8,true)] ?_;refine BP ?_;refine WS ?_;refine aAO ?_;refine WR ?_;refine rW [(q,.arr 5 1 (vs.map aG))] rfl Tryz.call135 (eI q vs (by omega) r.length (by omega)) rfl aC aA fV ?_;rintro _ σ' ⟨r8,rfl,rfl⟩ h8;have k8:=aZ h8;repeat rcases k8 with⟨_,k8⟩
 apply bZ;exact bN;refine rW [(r8,.arr 5 1 ((vs++uB r.length).map aG))] rfl Tryz.call132 (tL r8 (vs++uB r.length) (by simp;omega) k) rfl aC aA fV ?_;rintro _ σ' ⟨r12,rfl,rfl⟩ h12;have k12:=aZ h12;repeat rcases k12 with⟨_,k12⟩
 refine tX ?_;rw[show vs++uB r.length++kB k=vs++iE r by unfold iE cG;rw[Int.toNat_natCast,List.append_assoc,show r.headD 0=k by cases r with|nil=>simp at h1|cons a t=>simpa using hk]];exact aE aF ⟨r12,by rfl,rfl⟩ aA
theorem UV:iS Tryz.prog 5 247 (fun r:List Int=>.ro 1 (r.map aP) .any) iE (fun r=>0<r.length∧r.length≤1000) 3 9000000:=
 ⟨Tryz.call247,fun q vs x h _ hvs=>⟨HC h.2,aK5 q vs (by omega) x h.1 h.2⟩⟩
def yM (R q q0 r3:Nat) (vs:List Nat) (ls:List Int) (bd:List Ins) (init:List (List Int)) (last:List Int) (j:Nat):ASt:=
 ⟨[(0,.own q0 0 vs.length),(3,.ptr r3 0),(5,.own R 0 (init.length+1)),(10,.ro 1 (ls.map aP) .any),(11,.int .i64 ls.length),(12,.int .i64 j)],
  [(R,.arr 24 1 (init.map kW++ [[.own q 0 last.length]])),(q,.arr 3 1 (last.map aP)),(r3,.box 44 [.ro 1 (ls.map aP) .any,.ro 4 (bd.map (iv .any)) .any]),(q0,.arr 5 1 (vs.map aG))]⟩
def QE (R q0 r3:Nat) (vs:List Nat) (ls:List Int) (bd:List Ins):ASt:=
 ⟨[(0,.own q0 0 vs.length),(3,.ptr r3 0),(5,.own R 0 0),(10,.ro 1 (ls.map aP) .any),(11,.int .i64 ls.length),(12,.int .i64 (0:Nat))],
  [(R,.arr 24 1 []),(r3,.box 44 [.ro 1 (ls.map aP) .any,.ro 4 (bd.map (iv .any)) .any]),(q0,.arr 5 1 (vs.map aG))]⟩
structure RS_ where
 R:Nat
 q:Nat
 init:List (List Int)
 k:Int
 m:Nat
 j:Nat
def rSt (q0 r3:Nat) (vs:List Nat) (ls:List Int) (bd:List Ins):Sum Nat RS_→ASt
 | .inl R=>QE R q0 r3 vs ls bd
 | .inr s=>yM s.R s.q q0 r3 vs ls bd s.init (List.replicate (s.m+1) s.k) (s.j+1)
def rOk (q0 r3:Nat) (ls:List Int):Sum Nat RS_→Prop
 | .inl R=>Nq R r3∧Nq R q0
 | .inr s=>((Nq s.R s.q∧Nq s.R r3∧Nq s.R q0)∧Nq s.q r3∧Nq s.q q0)∧(s.init.length≤s.j∧s.m≤s.j)∧ls[s.j]? =some s.k∧cC (ls.take (s.j+1))=s.init++ [List.replicate (s.m+1) s.k]
def rMs (ls:List Int):Sum Nat RS_→Nat
 | .inl _=>ls.length
 | .inr s=>ls.length-(s.j+1)
theorem sO{l:List (List AV)}{x:List AV}{n:Nat}(h:n=l.length):(l++ [x])[(((n+1:Nat):Int)-1).toNat]? =some x:=by
 subst h;rw[show(((l.length+1:Nat):Int)-1).toNat=l.length by omega];simp
theorem NM{l:List (List AV)}{x y:List AV}{n:Nat}(h:n=l.length):(l++ [x]).set (((n+1:Nat):Int)-1).toNat y=l++ [y]:=by
 subst h;rw[show(((l.length+1:Nat):Int)-1).toNat=l.length by omega,List.set_append,if_neg (by omega)];simp
theorem UW{σ:dS}{q:Nat}{et:TypeId}{init:List (List Int)}{last:List Int}(hg:gN σ q=some (.arr et 1 (last.map aP))):∀(i:Nat) (x x':List AV),(init.map kW++ [[AV.own q 0 last.length]])[i]? =some x→((init++ [last]).map kW)[i]? =some x'→BorL σ [q] x x':=by
 intro i x x' h1 h2;rw[List.map_append]at h2;rcases Nat.lt_or_ge i (init.map kW).length with hlt|hge
 ·rw[List.getElem?_append_left hlt]at h1 h2;obtain rfl:=Option.some.inj (h1.symm.trans h2);obtain⟨r,-,rfl⟩:=List.mem_map.1 (List.mem_of_getElem? h1);exact .cons (.refl _) .nil
 ·rw[List.getElem?_append_right hge]at h1 h2;cases hi:i-(init.map kW).length with
  |zero=>
   rw[hi]at h1 h2;cases h1;cases h2
   exact .cons (aK hg (by simp)) .nil
  |succ n=>rw[hi]at h1;cases h1
theorem NN(rs:List (List Int)):gZ 1 (rs.map kW):=by
 intro x hx;obtain⟨r,-,rfl⟩:=List.mem_map.1 hx;exact⟨rfl,by simp[kW,AV.cell]⟩
theorem UX(l:List Int)(hl:l.length≤32):(∀r∈cC l,0<r.length∧r.length≤1000)∧(cC l).length≤32∧(bC (cC l) iE).length≤98:=by
 obtain⟨h1,h2⟩:=AB _ l rfl;have hr:∀(rs:List (List Int)),(∀r∈rs,∃k m,r=List.replicate (m+1) k∧k∈l∧m+1≤l.length)→rs.length≤rs.flatten.length:=by
  intro rs
  induction rs with
  |nil=>simp
  |cons r rs ih=>
   intro h;obtain⟨k,m,rfl,-,-⟩:=h r List.mem_cons_self;have:=ih fun r hr=>h r (List.mem_cons_of_mem _ hr)
   simp at this⊢;omega
 have hn:=hr _ h2;rw[h1]at hn;have h3:∀r∈cC l,0<r.length∧r.length≤1000:=fun r hr=>by
  obtain⟨k,m,rfl,-,hm⟩:=h2 r hr;simp;omega
 have:=lT (pt:=iE) (l:=cC l) (c:=3) (fun r hr=>HC (h3 r hr).2) (by omega);exact⟨h3,by omega,by omega⟩
theorem aMZ(q0:Nat)(vs:List Nat)(hvs:vs.length≤9000000)(ls:List Int)(bd:List Ins)(hl:ls.length≤32)(hb:bd.length≤300)(hm:∀x∈bd,x.Ok∧cY x=true):SCall Tryz.prog 151 [.own q0 0 vs.length,.agg (dA ⟨ls,bd⟩)] [(q0,.arr 5 1 (vs.map aG))]
  (fun y σ=>∃p,y=.own p 0 (vs++kH ⟨ls,bd⟩).length∧σ=[(p,.arr 5 1 ((vs++kH ⟨ls,bd⟩).map aG))]):=by
 obtain⟨hv1,hv2,hv3⟩:=UX ls hl;have hpl:=zY hm;have hub:=bP 4 (bC (cC ls) iE++iR bd).length (by simp;omega);refine cF 61 [0,1,3,4,5,6,7,8,10,11,12,13,28] Tryz.func151 ?_;unfold dA;dsimp only;refine dX ?_;refine iQ fun r3 h3=> ?_;intros
 refine lJ ?_;refine dE ?_;refine bW 5 24 1 (by decide) rfl (by decide) (bL fun R0 hR0=> ?_);repeat rcases hR0 with⟨_,hR0⟩
 refine mK ?_;refine oH ?_;refine lp (β:=Sum Nat RS_) (rSt q0 r3 vs ls bd) (rOk q0 r3 ls) (rMs ls) (.inl R0) (by unfold rSt QE;(exact aL)) (by unfold rOk;exact⟨by(exact bV),by(exact bV)⟩) ?_;intro st hst;refine aJ ?_;rcases st with R|⟨R,q,init,k,m,j⟩
 ·obtain⟨hR1,hR2⟩:=hst;unfold rSt QE;refine jQ ?_;refine BO ?_;refine aB rfl (fun g3=> ?_) (fun g3=> ?_)
  ·obtain⟨x,hx⟩:∃x,ls[0]? =some x:=⟨_,List.getElem?_eq_getElem (by simp at g3;omega)⟩
   have h0:0<ls.length:=(List.getElem?_eq_some_iff.1 hx).1;have hx':ls[(((0:Nat)):Int).toNat]? =some x:=hx;refine dM ?_;refine mI ?_;refine mZ ?_;refine lo (kV (E rfl) (E rfl)) rfl ?_;rw[show decide ((0:Int)<((0:Nat):Int))=false from rfl];refine sH ?_;refine aHT ?_;refine DK ?_;refine DL ?_;refine pW ?_;refine aHV ?_;refine rX ?_;refine iF ?_;refine eX ?_;refine eN fun r45 h45=> ?_;intros
   refine eN fun r46 h46=> ?_;intros
   refine iY [[AV.own r45 0 1]] 1 ?_;refine bH fun r47 h47=> ?_;intros
   refine lJ ?_;refine aEB ?_;refine⟨.inr ⟨r47,r45,[],x,0,0⟩,⟨⟨⟨by show Nq r47 r45;(exact bV),by show Nq r47 r3;(exact bV),by show Nq r47 q0;(exact bV)⟩,by show Nq r45 r3;(exact bV),by show Nq r45 q0;(exact bV)⟩,⟨Nat.zero_le _,Nat.le_refl _⟩,hx,UU hx⟩,by show ls.length-(0+1)<ls.length;have:=(List.getElem?_eq_some_iff.1 hx).1;omega, ?_⟩;dsimp only;unfold yM;exact aL
  have hls:ls=[]:=by cases ls with|nil=>rfl|cons a t=>simp at g3
  refine aCC (j:=5) (v':=.ro 1 ((cC ls).map kW) .any) rfl aU (by rw[hls];exact aK bA rfl) ?_;refine dM ?_;refine cw [] Tryz.call246 (UL UV (by decide) (cC ls) hv1 (by omega) (by omega)) rfl aC aA ?_;rintro _ σ' ⟨r50,rfl,rfl⟩ h50
  replace h50:=gL h50;repeat rcases h50 with⟨_,h50⟩
  refine eZ ?_;refine pE ?_;refine cw [(r50,.arr 5 1 ((bC (cC ls) iE).map aG))] Tryz.call248 (UI r50 (bC (cC ls) iE) (by omega) bd (by omega) hm) rfl aC aA ?_;rintro _ σ' ⟨r54,rfl,rfl⟩ h54;have k54:=aZ h54;repeat rcases k54 with⟨_,k54⟩
  refine eZ ?_;have hPl:(bC (cC ls) iE++iR bd).length≤61000:=by simp;omega
  have hcd:kH ⟨ls,bd⟩=uB (bC (cC ls) iE++iR bd).length++(bC (cC ls) iE++iR bd):=rfl;rw[hcd];generalize bC (cC ls) iE++iR bd=P at hPl hub⊢;refine kK ?_;refine kU ?_;refine cw [(q0,.arr 5 1 (vs.map aG))] Tryz.call135 (eI q0 vs (by omega) P.length (by omega)) rfl aC aA ?_;rintro _ σ' ⟨r58,rfl,rfl⟩ h58;have k58:=aZ h58;repeat rcases k58 with⟨_,k58⟩
  refine xZ ?_;refine iY ((vs++uB P.length++P).map aG) (vs++uB P.length++P).length ?_;refine bH fun r60 h60=> ?_;intros
  refine dE ?_;rw[List.append_assoc];exact aE aF ⟨r60,by rfl,rfl⟩ aA
 ·obtain⟨⟨⟨hq1,hq2,hq3⟩,hq4,hq5⟩,⟨hij,hmj⟩,hkj,hru⟩:=hst;dsimp only at hq1 hq2 hq3 hq4 hq5 hkj hru hij hmj;have hrl:(List.replicate (m+1) k).length=m+1:=List.length_replicate;unfold rSt yM;dsimp only;refine jQ ?_;refine BO ?_;refine aB rfl (fun g3=> ?_) (fun g3=> ?_)
  ·have hlt:j+1<ls.length:=by simp at g3;omega
   obtain⟨x,hx⟩:∃x,ls[j+1]? =some x:=⟨_,List.getElem?_eq_getElem hlt⟩
   have hkj':ls[(((j+1:Nat):Int)-1).toNat]? =some k:=by rw[show(((j+1:Nat):Int)-1).toNat=j by omega];exact hkj
   refine dM ?_;refine mI ?_;refine mZ ?_;refine lo (kV (E rfl) (E rfl)) rfl ?_;refine sH ?_;refine aHT ?_;refine DK ?_;refine DL ?_;refine pW ?_;refine aHV ?_;refine vH ?_;refine aB rfl (fun g5=> ?_) (fun g5=> ?_)
   ·obtain rfl:k=x:=by simpa using g5
    have hel:=sO (l:=init.map kW) (x:=[AV.own q 0 (List.replicate (m+1) k).length]) (n:=init.length) (by simp);have hsn:=NL hru hx;refine eX ?_;refine kU ?_;refine tA ?_;refine XF ?_;refine kU ?_;refine tA ?_;refine mI ?_;refine lo (aD (E rfl)) rfl ?_;refine eN fun r40 h40=> ?_;intros
    refine iY ((List.replicate (m+1) k++ [k]).map aP) (List.replicate (m+1) k++ [k]).length ?_;refine bH fun r41 h41=> ?_;intros
    refine OU ?_;refine OY ?_;refine lD ?_;have hse:=fun y=>NM (l:=init.map kW) (x:=[AV.own q 0 (List.replicate (m+1) k).length]) (y:=y) (n:=init.length) (by simp)
    rw[hse];refine TN ?_;first|(refine⟨.inr ⟨R,r41,init,k,m+1,j+1⟩,⟨⟨⟨by show Nq R r41;(exact bV),hq2,hq3⟩,by show Nq r41 r3;(exact bV),by show Nq r41 q0;(exact bV)⟩,⟨by show init.length≤j+1;omega,by show m+1≤j+1;omega⟩,hx,by rw[List.replicate_succ'];exact hsn⟩,by show ls.length-(j+1+1)<ls.length-(j+1);omega, ?_⟩;dsimp only;(try unfold yM);(try dsimp only);rw[List.replicate_succ' (n:=m+1)];(exact aL))|(refine⟨.inr ⟨r47,r45,init++ [List.replicate (m+1) k],x,0,j+1⟩,⟨⟨⟨by show Nq r47 r45;(exact bV),by show Nq r47 r3;(exact bV),by show Nq r47 q0;(exact bV)⟩,by show Nq r45 r3;(exact bV),by show Nq r45 q0;(exact bV)⟩,⟨by show(init++ [List.replicate (m+1) k]).length≤j+1;simp;omega,Nat.zero_le _⟩,hx,hsn⟩,by show ls.length-(j+1+1)<ls.length-(j+1);omega, ?_⟩;dsimp only;(try unfold yM);(try dsimp only);rw[show(init++ [List.replicate (m+1) k]).length=init.length+1 by simp];(exact aL))
   have hkx:k≠x:=by intro e;subst e;simp at g5
   have hsn:=UT hru hx hkx;refine dQ (ZR (r:=R) (q:=q) (es':=(init++ [List.replicate (m+1) k]).map kW) cA aU (by simp) (NN _) (UW bA)) ?_;refine eX ?_;refine z1 ?_;refine bL fun r45 h45=> ?_;repeat rcases h45 with⟨_,h45⟩
   refine z1 ?_;refine bL fun r46 h46=> ?_;repeat rcases h46 with⟨_,h46⟩
   refine iY ((init++ [List.replicate (m+1) k]).map kW++ [[AV.own r45 0 1]]) (init.length+1+1) ?_ (hby:=by omega);refine bH fun r47 h47=> ?_;intros
   refine lJ ?_;refine aEB ?_;first|(refine⟨.inr ⟨R,r41,init,k,m+1,j+1⟩,⟨⟨⟨by show Nq R r41;(exact bV),hq2,hq3⟩,by show Nq r41 r3;(exact bV),by show Nq r41 q0;(exact bV)⟩,⟨by show init.length≤j+1;omega,by show m+1≤j+1;omega⟩,hx,by rw[List.replicate_succ'];exact hsn⟩,by show ls.length-(j+1+1)<ls.length-(j+1);omega, ?_⟩;dsimp only;(try unfold yM);(try dsimp only);rw[List.replicate_succ' (n:=m+1)];(exact aL))|(refine⟨.inr ⟨r47,r45,init++ [List.replicate (m+1) k],x,0,j+1⟩,⟨⟨⟨by show Nq r47 r45;(exact bV),by show Nq r47 r3;(exact bV),by show Nq r47 q0;(exact bV)⟩,by show Nq r45 r3;(exact bV),by show Nq r45 q0;(exact bV)⟩,⟨by show(init++ [List.replicate (m+1) k]).length≤j+1;simp;omega,Nat.zero_le _⟩,hx,hsn⟩,by show ls.length-(j+1+1)<ls.length-(j+1);omega, ?_⟩;dsimp only;(try unfold yM);(try dsimp only);rw[show(init++ [List.replicate (m+1) k]).length=init.length+1 by simp];(exact aL))
  have hjl:j+1=ls.length:=by have:=(List.getElem?_eq_some_iff.1 hkj).1;simp at g3;omega
  rw[hjl,List.take_length]at hru;refine dQ (ZR (r:=R) (q:=q) (es':=(cC ls).map kW) cA aU (by rw[hru];simp) (NN _) (by rw[hru];exact UW bA)) ?_;refine aCC (j:=5) (v':=.ro 1 ((cC ls).map kW) .any) rfl aU (aK bA (by rw[hru];simp)) ?_;refine dM ?_;refine cw [] Tryz.call246 (UL UV (by decide) (cC ls) hv1 (by omega) (by omega)) rfl aC aA ?_;rintro _ σ' ⟨r50,rfl,rfl⟩ h50
  replace h50:=gL h50;repeat rcases h50 with⟨_,h50⟩
  refine eZ ?_;refine pE ?_;refine cw [(r50,.arr 5 1 ((bC (cC ls) iE).map aG))] Tryz.call248 (UI r50 (bC (cC ls) iE) (by omega) bd (by omega) hm) rfl aC aA ?_;rintro _ σ' ⟨r54,rfl,rfl⟩ h54;have k54:=aZ h54;repeat rcases k54 with⟨_,k54⟩
  refine eZ ?_;have hPl:(bC (cC ls) iE++iR bd).length≤61000:=by simp;omega
  have hcd:kH ⟨ls,bd⟩=uB (bC (cC ls) iE++iR bd).length++(bC (cC ls) iE++iR bd):=rfl;rw[hcd];generalize bC (cC ls) iE++iR bd=P at hPl hub⊢;refine kK ?_;refine kU ?_;refine cw [(q0,.arr 5 1 (vs.map aG))] Tryz.call135 (eI q0 vs (by omega) P.length (by omega)) rfl aC aA ?_;rintro _ σ' ⟨r58,rfl,rfl⟩ h58;have k58:=aZ h58;repeat rcases k58 with⟨_,k58⟩
  refine xZ ?_;refine iY ((vs++uB P.length++P).map aG) (vs++uB P.length++P).length ?_;refine bH fun r60 h60=> ?_;intros
  refine dE ?_;rw[List.append_assoc];exact aE aF ⟨r60,by rfl,rfl⟩ aA
end Go.Proofs.YtjpdadobblffmaaGreat
namespace Go.Proofs.YtjpdadobblffmaaGreat
open Go.RowKit Go.ChangeShapes Go.WideShapes Go.ChangeAt Go.Deep
section
variable {P : Program} {n : Nat} {s : ASt} {K : ASt → Prop} {ty t u : TypeId} {x : Operand} {d : Nat}
theorem HD(w:World)(g n k:Nat)(h:k≠g):(w.freeze ⟨g,n,none⟩ 1).heap[k]? =w.heap[k]? :=by
 simp[World.freeze,Array.getElem?_modify,Ne.symm h]
theorem aBa(w:World)(g n:Nat){vs:Array Value}{e:TypeId}{fz:Nat×Nat}(h:w.heap[g]? =some (.cells vs e fz)):(w.freeze ⟨g,n,none⟩ 1).heap[g]? =some (.cells vs e (if fz.1==fz.2 then(n,n+1)else(min fz.1 n,max fz.2 (n+1)))):=by
 obtain⟨lo,hi⟩:=fz;simp[World.freeze,Array.getElem?_modify,h]
theorem KW{e:TypeId} [Ty P t (.slice e)] [Ty P e (.int .u8)] {r len:Nat}{et:TypeId}{es:List (List AV)}(hx:aev s x=some (.own r 0 len))(hg:gN s.σ r=some (.arr et 1 es))(hpos:0<len)(hd:d<n)
  (hK:K ⟨(d,.own r 0 len)::s.fr,DH s.σ r (.arr et 1 es)⟩):Hop P n (.convert t t x) ty (some d) s [r] K:=by
 intro M F N a w o ho hty hdst hr next Q hnext
 have hbase:=hr.aev hx;have hmem:=bX hg;obtain⟨h0,hrows,h3⟩:=hr.st.ent _ hmem;generalize hu:a.eval x=v at hbase;cases hbase with
 |own0=>omega
 |own hM hle hmm=>
  rcases h3 with⟨hv',_⟩|⟨g,c,vs,hM',hcl,hsz,hlc,hmax,hvr⟩
  ·rw[hM]at hv';cases hv'
  ·have hg':=hM'.symm.trans hM;simp only[Option.some.injEq,Blk'.row.injEq]at hg';obtain⟨q1,q2,q3⟩:=hg';subst q1;subst q2;obtain⟨fz,hcl,hz⟩:=hcl;have hsh:w.shape? g=some (et,vs.size):=by simp[World.shape?,hcl]
   have hex:(execOp a.eval o).run P w=.ok (.value (.slice (some ⟨g,0,none⟩) len (c-0))) (w.freeze ⟨g,vs.size,none⟩ 1):=by
    simp[execOp,ho,hu,convert,run_underlying (Ty.und (P:=P) (t:=t)),run_underlying (Ty.und (P:=P) (t:=e)),markStringish,hsh]
   unfold Oper.wp;rw[hex,Oper.upon_value,hdst];have hbl:cD M r=some g:=by simp[cD,hM]
   have hF:¬F g:=hr.st.nof g ⟨_,hmem,hbl⟩;have honly:Only (fun k=>k=g) w (w.freeze ⟨g,vs.size,none⟩ 1):=⟨rfl,rfl,rfl,by simp[World.freeze],fun k _ hne=>HD w g vs.size k hne⟩
   have hSame:Same F w (w.freeze ⟨g,vs.size,none⟩ 1):=fun b hb=>HD w g vs.size b (fun e=>hF (e▸hb))
   have hE:ER M F (w.freeze ⟨g,vs.size,none⟩ 1) r (.arr et 1 es):=by
    refine⟨h0,hrows,.inr ⟨g,c,vs,hM',⟨_,aBa w g vs.size hcl, ?_⟩,hsz,hlc,hmax,fun i x j b u hi hj hu=>(hvr i x j b u hi hj hu).mono (fun _ _ h=>h) (fun _ h=>h) hSame⟩⟩;right;split
    ·exact Nat.le_refl _
    ·next hne=>
     rcases hz with rfl|hz
     ·exact absurd rfl hne
     ·exact Nat.le_min.2 ⟨hz,Nat.le_refl _⟩
   obtain⟨r1,e1,o1⟩:=hr.set_ hmem hbl honly hE;have hv:=VR.own (M:=M) (F:=F) (w:=w.freeze ⟨g,vs.size,none⟩ 1) (t:=r) (off:=0) (len:=len) hM hle hmm;simp only[Nat.zero_mul]at hv;exact hnext M F N _ _ ⟨(d,.own r 0 len)::s.fr,_⟩ (r1.put hd hv) e1 o1 hK
theorem KX{e:TypeId} [Ty P u .string] [Ty P t (.slice e)] [Ty P e (.int .u8)] {b:List Nat}(hlt:∀c∈b,c<256)(hb:b.length≤maxLen)(hx:aev s x=some (.str (dC b)))(hd:d<n)
  (hK:K ⟨(d,.ro 1 (b.map aG) .any)::s.fr,s.σ⟩):Hop P n (.convert u t x) ty (some d) s [] K:=by
 intro M F N a w o ho hty hdst hr next Q hnext
 have hu:a.eval x=.string (dC b):=by
  have:=hr.aev hx;generalize a.eval x=v at this⊢;cases this;rfl
 have hsz:(dC b).size=b.length:=by simp[dC,ByteArray.size]
 have hrun:=Lib.run_convert_string_bytes (P:=P) w u t e (dC b) (Ty.und (P:=P) (t:=u)) (Ty.und (P:=P) (t:=t)) (Ty.und (P:=P) (t:=e));have hex:(execOp a.eval o).run P w=.ok (.value (.slice (some ⟨w.heap.size,0,none⟩) b.length (grownCap w b.length 0 e))) (Lib.bytesWorld w e (dC b)):=by
  rw[hsz]at hrun;simp[execOp,ho,hu,hrun]
 unfold Oper.wp;rw[hex,Oper.upon_value,hdst];have hold:∀k,k<w.heap.size→(Lib.bytesWorld w e (dC b)).heap[k]? =w.heap[k]? :=fun k hk=>Lib.bytesWorld_at_old w e (dC b) k hk
 have hgs:(Lib.bytesWorld w e (dC b)).heap.size=w.heap.size+1:=Lib.bytesWorld_size w e (dC b);have hSame:Same F w (Lib.bytesWorld w e (dC b)):=fun g hg=>hold g (hr.st.flt g hg)
 have hsr:=hr.st.growF hold (by omega) (Nat.le_refl _) (by omega:w.heap.size<(Lib.bytesWorld w e (dC b)).heap.size);have hcell:∀(i:Nat) (c:Nat),b[i]? =some c→(Lib.bytesWorld w e (dC b)).cell? ⟨w.heap.size,i,none⟩=some (.int .u8 (c:Int)):=by
  intro i c hc;have hil:=(List.getElem?_eq_some_iff.1 hc).1;rw[Lib.bytesWorld_cell w e (dC b) i (by omega)];have hm:(dC b).data.toList=b.map UInt8.ofNat:=by simp[dC]
  have hc2:=hlt c (List.mem_of_getElem? hc);rw[hm,List.getD_eq_getElem?_getD,List.getElem?_map,hc];simp[Nat.mod_eq_of_lt hc2]
 have hv:VR M (fun g=>F g∨g=w.heap.size) (Lib.bytesWorld w e (dC b)) (.ro 1 (b.map aG) .any) (.slice (some ⟨w.heap.size,0,none⟩) b.length (grownCap w b.length 0 e)):=by
  have:=VR.ro (M:=M) (F:=fun g=>F g∨g=w.heap.size) (w:=Lib.bytesWorld w e (dC b)) (es:=b.map aG) (k:=.any) (b:=w.heap.size) (o:=0) (sz:=1) (cap:=grownCap w b.length 0 e) (us:=fun i j=>.int .u8 ((b[i]!):Int)) (.inr rfl)
   (by intro y hy;obtain⟨c,-,rfl⟩:=List.mem_map.1 hy;exact⟨rfl,by simp[aG,AV.cell]⟩)
   (fun i y j v hi hj=>by
    simp only[List.getElem?_map,Option.map_eq_some_iff]at hi;obtain⟨c,hc,rfl⟩:=hi
    match j,hj with
    |0,hj=>
     have hil:=(List.getElem?_eq_some_iff.1 hc)
     rw[Nat.zero_add,Nat.mul_one,Nat.add_zero,hcell i c hc,getElem!_pos b i hil.1,hil.2]
    |j+1,hj=>cases hj)
   (fun i y j v hi hj=>by
    simp only[List.getElem?_map,Option.map_eq_some_iff]at hi;obtain⟨c,hc,rfl⟩:=hi
    match j,hj with
    |0,hj=>
     have hil:=(List.getElem?_eq_some_iff.1 hc)
     obtain rfl:=Option.some.inj hj;rw[getElem!_pos b i hil.1,hil.2];exact .int _ _
    |j+1,hj=>cases hj)
   (by simpa using grownCap_ge w b.length 0 e) (grownCap_le_maxLen w b.length 0 e hb) (fun h=>by cases h) (fun h=>by cases h)
  rwa [List.length_map]at this
 have honly:∀S,Only S w (Lib.bytesWorld w e (dC b)):=fun S=>⟨rfl,rfl,rfl,by omega,fun k hk _=>hold k hk⟩
 have hext:Ext M F N w s.σ M (fun g=>F g∨g=w.heap.size) N (Lib.bytesWorld w e (dC b)) s.σ:=by
  refine⟨fun _ _ h=>h,fun _ h=>.inl h,Nat.le_refl _,honly _,fun _ h _=>h,fun g hg=> ?_,fun p hp _=>⟨p,hp,rfl⟩⟩;rcases hg with hg|rfl
  ·exact .inl hg
  ·exact .inr (.inl (Nat.le_refl _))
 have hr2:Rel M (fun g=>F g∨g=w.heap.size) N n s a (Lib.bytesWorld w e (dC b)):=hr.step hext hsr rfl;exact hnext M _ N _ _ ⟨(d,.ro 1 (b.map aG) .any)::s.fr,s.σ⟩ (hr2.put hd hv) hext (honly _) hK
end
section
variable {P : Program} {n : Nat} {ops : Array Oper} {rest : List Oper} {fr : Fr} {σ σ' : dS} {K : ASt → Prop} {ty t u : TypeId} {pos : String} {af : Array Edge} {x : Operand} {d : Nat}
theorem cvm{e:TypeId} [Ty P t (.slice e)] [Ty P e (.int .u8)] {r len:Nat}{et:TypeId}{es:List (List AV)}(hs:SSet σ r (.arr et 1 es) r (.arr et 1 es) σ')(hpos:0<len)(hK:RS P n ops rest ⟨(d,.own r 0 len)::fr,σ'⟩ K)
  (hx:aev ⟨fr,σ⟩ x=some (.own r 0 len):=by rfl) (hd:Nat.ble (d+1) n=true:=by rfl):RS P n ops (⟨some d,.convert t t x,ty,pos,af,none⟩::rest) ⟨fr,σ⟩ K:=
 gK (KW hx hs.get hpos (cW hd) (BN (s:=⟨_,_⟩) (fun p hp=>hs.sub p hp) hK))
theorem cvb{e:TypeId} [Ty P u .string] [Ty P t (.slice e)] [Ty P e (.int .u8)] {b:List Nat}(hlt:∀c∈b,c<256)(hK:RS P n ops rest ⟨(d,.ro 1 (b.map aG) .any)::fr,σ⟩ K)(hb:b.length≤maxLen:=by(simp[maxLen];omega))
  (hx:aev ⟨fr,σ⟩ x=some (.str (dC b)):=by rfl) (hd:Nat.ble (d+1) n=true:=by rfl):RS P n ops (⟨some d,.convert u t x,ty,pos,af,none⟩::rest) ⟨fr,σ⟩ K:=
 gK (KX hlt hb hx (cW hd) hK)
end
end Go.Proofs.YtjpdadobblffmaaGreat
namespace Go.Proofs.YtjpdadobblffmaaGreat
open Go.RowKit Go.ChangeShapes Go.WideShapes Go.ChangeAt Go.Deep
attribute [local irreducible] SW RS RD fG eH
theorem aAc:iS Tryz.prog 5 151 (fun x=>.agg (dA x)) kH (fun c=>tK c=true∧∀x∈c.bd,x.Ok) 61000 9000000:=
 ⟨Tryz.call151,fun q vs x h _ hvs=>by
  obtain⟨ls,bd⟩:=x;obtain⟨h,hO⟩:=h;unfold tK at h;simp only[Bool.and_eq_true]at h;obtain⟨⟨h1,h2⟩,h3⟩:=h;obtain⟨k1,k2⟩:=cB h2;obtain⟨k3,k4⟩:=cB h3;have hm:∀x∈bd,x.Ok∧cY x=true:=fun x hx=>⟨hO x hx,k4 x hx⟩
  obtain⟨hv1,hv2,hv3⟩:=UX ls (by omega);have hpl:=zY hm;have hb:bd.length≤300:=by omega
  have hub:=bP 4 (bC (cC ls) iE++iR bd).length (by simp;omega);exact⟨by unfold kH;simp at hub⊢;omega,aMZ q vs hvs ls bd (by omega) hb hm⟩⟩
theorem pL{P:Program}{t8:TypeId}{f:FuncId}{α:Type}{ar:α→AV}{pt:α→List Nat}{ok:α→Prop}{c B:Nat}(hf:iS P t8 f ar pt ok c B)(hB:1≤B){l:List α}(hl:∀x∈l,ok x)(hn:l.length≤16)(hc:c≤100000)(no:Nat):(bI no l pt).length≤10+16*c:=by
 have h1:=lT (pt:=pt) (l:=l) (c:=c) (fun x hx=>(hf.2 0 [0] x (hl x hx) (by simp) hB).1) (by omega);have h2:l.length*c≤16*c:=Nat.mul_le_mul_right c hn;have h3:=bP 4 (bC l pt).length (by omega);unfold bI;split
 ·simp
 ·simp;omega
def qZ (m:Md):Bool:=(m.co.length==m.fn.length&&cO m.co 16 tK)&&qG m&&lP m.tb 16 1000&&lP m.me 16 65536
theorem wS(m:Md):nR m=(qZ m&&decide ((fH m).length≤8000)):=rfl
theorem QF{l:Li}{a c:Int}(h:lP l a c=true)(ha:a≤100000)(hc:c≤100000):(∀x∈gP l,UN x)∧(gP l).length≤1:=by
 obtain⟨has,mn,mx⟩:=l;cases has with
 |false=>exact⟨by simp[gP],by simp[gP]⟩
 |true=>
  unfold lP at h;simp only[if_true,Bool.and_eq_true,decide_eq_true_eq]at h;refine⟨fun x hx=> ?_,by simp[gP]⟩;obtain rfl:x=⟨true,mn,mx⟩:=by simpa[gP]using hx
  unfold UN;dsimp only;omega
theorem AD(m:Md)(h:qZ m=true)(hO:m.Ok):SCall Tryz.prog 56 [.agg (bR m)] [] (fun y σ=>∃r,y=.own r 0 (fH m).length∧σ=[(r,.arr 5 1 ((fH m).map aG))]):=by
 obtain⟨ty,im,fn,tb,me,gl,ex,el,co,da⟩:=m;unfold qZ at h;simp only[Bool.and_eq_true]at h;obtain⟨⟨⟨⟨-,hco⟩,hls⟩,htb⟩,hme⟩:=h;unfold qG at hls;simp only[Bool.and_eq_true]at hls;obtain⟨⟨⟨⟨⟨⟨hty,him⟩,hfn⟩,hgl⟩,hex⟩,hel⟩,hda⟩:=hls;obtain⟨hO1,hO2⟩:=hO;dsimp only at*;obtain⟨a1,a2⟩:=cB hty;obtain⟨b1,b2⟩:=cB him;obtain⟨c1,c2⟩:=cB hfn;obtain⟨d1,d2⟩:=cB hgl;obtain⟨e1,e2⟩:=cB hex;obtain⟨f1,f2⟩:=cB hel;obtain⟨g1,g2⟩:=cB hda;obtain⟨i1,i2⟩:=cB hco;obtain⟨t2,t1⟩:=QF htb (by decide) (by decide);obtain⟨u2,u1⟩:=QF hme (by decide) (by decide);have d2':∀g∈gl,mQ g.kd g.n=true∧ -9223372036854775808≤g.n∧g.n≤9223372036854775807:=fun g hg=>⟨d2 g hg,hO2 g hg⟩
 have i2':∀c∈co,tK c=true∧∀x∈c.bd,x.Ok:=fun c hc=>⟨i2 c hc,hO1 c hc⟩
 have L1:=pL ZS (by decide) a2 (by omega) (by decide) 1;have L2:=pL ZT (by decide) b2 (by omega) (by decide) 2;have L3:=pL GZ (by decide) c2 (by omega) (by decide) 3;have L4:=pL ZW (by decide) t2 (by omega) (by decide) 4;have L5:=pL ZV (by decide) u2 (by omega) (by decide) 5;have L6:=pL ZY (by decide) d2' (by omega) (by decide) 6;have L7:=pL ZU (by decide) e2 (by omega) (by decide) 7;have L9:=pL ZX (by decide) f2 (by omega) (by decide) 9;have L10:=pL aAc (by decide) i2' (by omega) (by decide) 10;have hW:fH ⟨ty,im,fn,tb,me,gl,ex,el,co,da⟩=headB++bI 1 ty vT++bI 2 im iZ++bI 3 fn cG++bI 4 (gP tb) (fun l=>112::eK l)++bI 5 (gP me) eK++bI 6 gl uS++bI 7 ex nI++bI 9 el uT++bI 10 co kH++bI 11 da wP:=rfl;rw[hW];have hH:headB.length=8:=rfl;refine cF 48 [0,1,2,3] Tryz.func56 ?_;unfold bR;dsimp only;refine dX ?_;refine iQ fun r1 h1=> ?_;intros
 refine lJ ?_;refine eN fun r4 h4=> ?_;intros
 refine cvm (len:=8) cA (by decide) ?_;refine dE ?_;rw[show([[.int .u8 0],[.int .u8 97],[.int .u8 115],[.int .u8 109],[.int .u8 1],[.int .u8 0],[.int .u8 0],[.int .u8 0]]:List (List AV))=headB.map aG from rfl,show AV.own r4 0 8=AV.own r4 0 headB.length from rfl];refine pE ?_;refine cw [(r4,.arr 5 1 (headB.map aG))] Tryz.call129 (aIw ZS (by decide) r4 headB 1 (by decide) ty a2 (by omega) (by omega) (by omega)) rfl aC aA ?_;rintro _ σ' ⟨r9,rfl,rfl⟩ h9;have k9:=aZ h9;repeat rcases k9 with⟨_,k9⟩
 refine eZ ?_;generalize bI 1 ty vT=S1 at L1⊢;refine pE ?_;refine cw [(r9,.arr 5 1 ((headB++S1).map aG))] Tryz.call133 (aIx ZT (by decide) r9 (headB++S1) 2 (by decide) im b2 (by omega) (by simp;omega) (by omega)) rfl aC aA ?_;rintro _ σ' ⟨r13,rfl,rfl⟩ h13;have k13:=aZ h13;repeat rcases k13 with⟨_,k13⟩
 refine eZ ?_;generalize bI 2 im iZ=S2 at L2⊢;refine pE ?_;refine cw [(r13,.arr 5 1 ((headB++S1++S2).map aG))] Tryz.call137 (aFc GZ (by decide) r13 (headB++S1++S2) 3 (by decide) fn c2 (by omega) (by simp;omega) (by omega)) rfl aC aA ?_;rintro _ σ' ⟨r17,rfl,rfl⟩ h17;have k17:=aZ h17;repeat rcases k17 with⟨_,k17⟩
 refine eZ ?_;generalize bI 3 fn cG=S3 at L3⊢;refine iC ?_;refine wL ?_;refine oS ?_;refine cw [] Tryz.call139 (UM tb) rfl aC aA ?_;rintro _ σ' ⟨q21,rfl,rfl⟩ h21
 replace h21:=gL h21;repeat rcases h21 with⟨_,h21⟩
 apply aY;exact bN;refine gJ (j:=21) rfl aU (aK bA (by simp)) ?_;refine cw [(r17,.arr 5 1 ((headB++S1++S2++S3).map aG))] Tryz.call138 (aCO ZW (by decide) r17 (headB++S1++S2++S3) 4 (by decide) (gP tb) t2 (by omega) (by simp;omega) (by omega)) rfl aC aA ?_;rintro _ σ' ⟨r22,rfl,rfl⟩ h22;have k22:=aZ h22;repeat rcases k22 with⟨_,k22⟩
 refine eZ ?_;generalize bI 4 (gP tb) (fun l=>112::eK l)=S4 at L4⊢;refine iC ?_;refine wL ?_;refine oS ?_;refine cw [] Tryz.call139 (UM me) rfl aC aA ?_;rintro _ σ' ⟨q26,rfl,rfl⟩ h26
 replace h26:=gL h26;repeat rcases h26 with⟨_,h26⟩
 apply aY;exact bN;refine gJ (j:=26) rfl aU (aK bA (by simp)) ?_;refine cw [(r22,.arr 5 1 ((headB++S1++S2++S3++S4).map aG))] Tryz.call138 (aCO ZV (by decide) r22 (headB++S1++S2++S3++S4) 5 (by decide) (gP me) u2 (by omega) (by simp;omega) (by omega)) rfl aC aA ?_;rintro _ σ' ⟨r27,rfl,rfl⟩ h27;have k27:=aZ h27;repeat rcases k27 with⟨_,k27⟩
 refine eZ ?_;generalize bI 5 (gP me) eK=S5 at L5⊢;refine pE ?_;refine cw [(r27,.arr 5 1 ((headB++S1++S2++S3++S4++S5).map aG))] Tryz.call142 (aIy ZY (by decide) r27 (headB++S1++S2++S3++S4++S5) 6 (by decide) gl d2' (by omega) (by simp;omega) (by omega)) rfl aC aA ?_;rintro _ σ' ⟨r31,rfl,rfl⟩ h31;have k31:=aZ h31;repeat rcases k31 with⟨_,k31⟩
 refine eZ ?_;generalize bI 6 gl uS=S6 at L6⊢;refine pE ?_;refine cw [(r31,.arr 5 1 ((headB++S1++S2++S3++S4++S5++S6).map aG))] Tryz.call145 (aIz ZU (by decide) r31 (headB++S1++S2++S3++S4++S5++S6) 7 (by decide) ex e2 (by omega) (by simp;omega) (by omega)) rfl aC aA ?_;rintro _ σ' ⟨r35,rfl,rfl⟩ h35;have k35:=aZ h35;repeat rcases k35 with⟨_,k35⟩
 refine eZ ?_;generalize bI 7 ex nI=S7 at L7⊢;refine pE ?_;refine cw [(r35,.arr 5 1 ((headB++S1++S2++S3++S4++S5++S6++S7).map aG))] Tryz.call147 (aIA ZX (by decide) r35 (headB++S1++S2++S3++S4++S5++S6++S7) 9 (by decide) el f2 (by omega) (by simp;omega) (by omega)) rfl aC aA ?_;rintro _ σ' ⟨r39,rfl,rfl⟩ h39;have k39:=aZ h39;repeat rcases k39 with⟨_,k39⟩
 refine eZ ?_;generalize bI 9 el uT=S9 at L9⊢;refine pE ?_;refine cw [(r39,.arr 5 1 ((headB++S1++S2++S3++S4++S5++S6++S7++S9).map aG))] Tryz.call150 (aIB aAc (by decide) r39 (headB++S1++S2++S3++S4++S5++S6++S7++S9) 10 (by decide) co i2' (by omega) (by simp;omega) (by omega)) rfl aC aA ?_;rintro _ σ' ⟨r43,rfl,rfl⟩ h43;have k43:=aZ h43;repeat rcases k43 with⟨_,k43⟩
 refine eZ ?_;generalize bI 10 co kH=S10 at L10⊢;refine pE ?_;refine cw [(r43,.arr 5 1 ((headB++S1++S2++S3++S4++S5++S6++S7++S9++S10).map aG))] Tryz.call152 (aIC aFd (by decide) r43 (headB++S1++S2++S3++S4++S5++S6++S7++S9++S10) 11 (by decide) da g2 (by omega) (by simp;omega) (by omega)) rfl aC aA ?_;rintro _ σ' ⟨r47,rfl,rfl⟩ h47;have k47:=aZ h47;repeat rcases k47 with⟨_,k47⟩
 refine eZ ?_;exact aE aF ⟨r47,by rfl,rfl⟩ aA
end Go.Proofs.YtjpdadobblffmaaGreat
namespace Go.Proofs.YtjpdadobblffmaaGreat
open Go.RowKit Go.ChangeShapes Go.WideShapes Go.ChangeAt Go.Deep
def cI (P:Program) (f:FuncId) (caps:List AV) (σ:dS) {α:Type} (ar:α→AV) (p:α→Bool) (ok:α→Prop):Prop:=
 (∀args w,(callFunc f args).run P w=.ok (.enter f args) w)∧∀x,ok x→SCall P f ([]++ [ar x]++caps) σ (fun r σ'=>r=.bool (p x)∧σ'=σ)
theorem aIF{f:FuncId}{caps:List AV}{σ:dS}{p:FT→Bool}{ok:FT→Prop}(hp:cI Tryz.prog f caps σ (fun x=>.agg (dD x)) p ok)(l:List FT)(hok:∀x∈l,ok x):SCall Tryz.prog 309 [.ro 2 (l.map dD) .any,.fn (.func f) [] caps] σ (fun x σ'=>∃m:Int,x=.int .i64 m∧decide (0≤m)=l.any p∧σ'=σ):=by
 refine cF 19 [0,1,4,5,7,8,9,16] Tryz.func309 ?_;refine hY (i:=0) rfl fun hm=> ?_
 rw[List.length_map]at hm;unfold maxLen at hm;refine sJ ?_;refine lp (β:=Nat) (fun j=>⟨[(0,.ro 2 (l.map dD) .any),(1,.fn (.func f) [] caps),(7,.int .i64 l.length),(8,.int .i64 j)],σ⟩) (fun j=>j≤l.length∧(l.take j).any p=false) (fun j=>l.length-j) 0 ?_ ⟨Nat.zero_le _,rfl⟩ ?_
 ·exact aL
 rintro j ⟨hj,ht⟩;refine jR ?_;refine aB rfl (fun h1=> ?_) (fun h1=> ?_)
 ·have hlt:j<l.length:=by simp at h1;omega
  obtain⟨x,hx⟩:∃x,l[j]? =some x:=⟨_,List.getElem?_eq_getElem hlt⟩
  refine tZ ?_;refine mX ?_;refine qY σ rfl hp.1 (hp.2 x (hok x (List.mem_of_getElem? hx))) rfl ?_ ?_ ?_
  ·exact aC
  ·exact fun _ h=>h
  rintro r σ' ⟨rfl,rfl⟩-;rw[eE,List.append_nil];refine lD ?_;refine aB rfl (fun h2=> ?_) (fun h2=> ?_)
  ·refine fA ?_;apply aE;exact aF
   ·refine⟨j,rfl, ?_,rfl⟩;rw[decide_eq_true (by omega)];exact(List.any_eq_true.2 ⟨x,List.mem_of_getElem? hx,h2⟩).symm
   ·exact aA
  ·refine mP ?_;refine⟨j+1,⟨by omega, ?_⟩,by omega, ?_⟩
   ·rw[List.take_add_one,hx,List.any_append,ht];simp[h2]
   ·exact aL
 ·refine bM ?_;apply aE;exact aF
  ·simp at h1;rw[List.take_of_length_le (by omega)]at ht;exact⟨-1,rfl,by rw[ht];rfl,rfl⟩
  ·exact aA
theorem aIG{f:FuncId}{caps:List AV}{σ:dS}{p:FT→Bool}{ok:FT→Prop}(hp:cI Tryz.prog f caps σ (fun x=>.agg (dD x)) p ok)(l:List FT)(hok:∀x∈l,ok x):SCall Tryz.prog 285 [.ro 2 (l.map dD) .any,.fn (.func f) [] caps] σ (fun x σ'=>x=.bool (l.any p)∧σ'=σ):=by
 refine cF 9 [0,1,4] Tryz.func285 ?_;refine mW ?_;refine cw σ Tryz.call309 (aIF hp l hok) rfl ?_ ?_ ?_
 ·exact aC
 ·exact fun _ h=>h
 rintro x σ' ⟨m,rfl,hm,rfl⟩-;rw[eE,List.append_nil];refine DP ?_;exact aE aF ⟨by simp only[gU];rw[←hm],rfl⟩ aA
theorem aK6{f:FuncId}{p:FT→Bool}{ok:FT→Prop}(hp:cI Tryz.prog f [] [] (fun x=>.agg (dD x)) p ok)(r:Nat):cI Tryz.prog 286 [.ptr r 0] [(r,.box 277 [.fn (.func f) [] []])] (fun x=>.agg (dD x)) (fun x=> !p x) ok:=by
  refine⟨Tryz.call286,fun x hx=> ?_⟩;refine cF 8 [0,1,2,3] Tryz.func286 ?_;refine dX ?_;refine iQ fun r2 h2=> ?_;intros
  refine lJ ?_;refine uN ?_;refine oS ?_;refine qY [] rfl hp.1 (hp.2 x hx) rfl aC aA ?_;rintro _ σ' ⟨rfl,rfl⟩ h6;refine KN ?_;refine dE ?_;exact aE aF ⟨by rfl,rfl⟩ aA
theorem aIH{f:FuncId}{p:FT→Bool}{ok:FT→Prop}(hp:cI Tryz.prog f [] [] (fun x=>.agg (dD x)) p ok)(l:List FT)(hok:∀x∈l,ok x)(most:Int):SCall Tryz.prog 221 [.ro 2 (l.map dD) .any,.int .i64 most,.fn (.func f) [] []] [] (fun x σ'=>x=.bool (cO l most p)∧σ'=[]):=by
 refine cF 17 [0,1,2,5,6] Tryz.func221 ?_;refine dX ?_;refine iQ fun r5 h5=> ?_;intros
 refine dE ?_;by_cases hl:(l.length:Int)≤most
 ·have hE:cO l most p= !(l.any fun x=> !p x):=by unfold cO;rw[decide_eq_true hl,List.any_eq_not_all_not];simp
  have hd:decide ((l.length:Int)≤most)=true:=by simpa using hl
  refine mH ?_;rw[hd];refine xN ?_;refine cw [(r5,.box 277 [.fn (.func f) [] []])] Tryz.call285 (aIG (aK6 hp r5) l hok) rfl aC aA ?_;rintro _ σ' ⟨rfl,rfl⟩ h14;refine xL ?_;exact aE aF ⟨by rw[hE];rfl,rfl⟩ aA
 ·have hE:cO l most p=false:=by unfold cO;rw[decide_eq_false hl];rfl
  have hd:decide ((l.length:Int)≤most)=false:=by simpa using hl
  refine mH ?_;rw[hd];refine xO ?_;exact aE aF ⟨by rw[hE];rfl,rfl⟩ aA
theorem aFg{f:FuncId}{caps:List AV}{σ:dS}{p:Int→Bool}{ok:Int→Prop}(hp:cI Tryz.prog f caps σ (fun n=>.int .i64 n) p ok)(l:List Int)(hok:∀x∈l,ok x):SCall Tryz.prog 205 [.ro 1 (l.map aP) .any,.fn (.func f) [] caps] σ (fun x σ'=>∃m:Int,x=.int .i64 m∧decide (0≤m)=l.any p∧σ'=σ):=by
 refine cF 19 [0,1,4,5,7,8,9,16] Tryz.func205 ?_;refine hY (i:=0) rfl fun hm=> ?_
 rw[List.length_map]at hm;unfold maxLen at hm;refine sJ ?_;refine lp (β:=Nat) (fun j=>⟨[(0,.ro 1 (l.map aP) .any),(1,.fn (.func f) [] caps),(7,.int .i64 l.length),(8,.int .i64 j)],σ⟩) (fun j=>j≤l.length∧(l.take j).any p=false) (fun j=>l.length-j) 0 ?_ ⟨Nat.zero_le _,rfl⟩ ?_
 ·exact aL
 rintro j ⟨hj,ht⟩;refine jR ?_;refine aB rfl (fun h1=> ?_) (fun h1=> ?_)
 ·have hlt:j<l.length:=by simp at h1;omega
  obtain⟨x,hx⟩:∃x,l[j]? =some x:=⟨_,List.getElem?_eq_getElem hlt⟩
  refine tZ ?_;refine nJ ?_;refine qY σ rfl hp.1 (hp.2 x (hok x (List.mem_of_getElem? hx))) rfl ?_ ?_ ?_
  ·exact aC
  ·exact fun _ h=>h
  rintro r σ' ⟨rfl,rfl⟩-;rw[eE,List.append_nil];refine lD ?_;refine aB rfl (fun h2=> ?_) (fun h2=> ?_)
  ·refine fA ?_;apply aE;exact aF
   ·refine⟨j,rfl, ?_,rfl⟩;rw[decide_eq_true (by omega)];exact(List.any_eq_true.2 ⟨x,List.mem_of_getElem? hx,h2⟩).symm
   ·exact aA
  ·refine mP ?_;refine⟨j+1,⟨by omega, ?_⟩,by omega, ?_⟩
   ·rw[List.take_add_one,hx,List.any_append,ht];simp[h2]
   ·exact aL
 ·refine bM ?_;apply aE;exact aF
  ·simp at h1;rw[List.take_of_length_le (by omega)]at ht;exact⟨-1,rfl,by rw[ht];rfl,rfl⟩
  ·exact aA
theorem aFh{f:FuncId}{caps:List AV}{σ:dS}{p:Int→Bool}{ok:Int→Prop}(hp:cI Tryz.prog f caps σ (fun n=>.int .i64 n) p ok)(l:List Int)(hok:∀x∈l,ok x):SCall Tryz.prog 89 [.ro 1 (l.map aP) .any,.fn (.func f) [] caps] σ (fun x σ'=>x=.bool (l.any p)∧σ'=σ):=by
 refine cF 9 [0,1,4] Tryz.func89 ?_;refine mW ?_;refine cw σ Tryz.call205 (aFg hp l hok) rfl ?_ ?_ ?_
 ·exact aC
 ·exact fun _ h=>h
 rintro x σ' ⟨m,rfl,hm,rfl⟩-;rw[eE,List.append_nil];refine DP ?_;exact aE aF ⟨by simp only[gU];rw[←hm],rfl⟩ aA
theorem aII{f:FuncId}{p:Int→Bool}{ok:Int→Prop}(hp:cI Tryz.prog f [] [] (fun n=>.int .i64 n) p ok)(r:Nat):cI Tryz.prog 214 [.ptr r 0] [(r,.box 83 [.fn (.func f) [] []])] (fun n=>.int .i64 n) (fun x=> !p x) ok:=by
  refine⟨Tryz.call214,fun x hx=> ?_⟩;refine cF 8 [0,1,3] Tryz.func214 ?_;refine bM ?_;refine jQ ?_;refine uN ?_;refine lo (aD (E rfl)) rfl ?_;refine qY [] rfl hp.1 (hp.2 x hx) rfl aC aA ?_;rintro _ σ' ⟨rfl,rfl⟩ h6;refine KN ?_;refine dE ?_;exact aE aF ⟨by rfl,rfl⟩ aA
theorem AE{f:FuncId}{p:Int→Bool}{ok:Int→Prop}(hp:cI Tryz.prog f [] [] (fun n=>.int .i64 n) p ok)(l:List Int)(hok:∀x∈l,ok x)(most:Int):SCall Tryz.prog 108 [.ro 1 (l.map aP) .any,.int .i64 most,.fn (.func f) [] []] [] (fun x σ'=>x=.bool (cO l most p)∧σ'=[]):=by
 refine cF 17 [0,1,2,5,6] Tryz.func108 ?_;refine dX ?_;refine iQ fun r5 h5=> ?_;intros
 refine dE ?_;by_cases hl:(l.length:Int)≤most
 ·have hE:cO l most p= !(l.any fun x=> !p x):=by unfold cO;rw[decide_eq_true hl,List.any_eq_not_all_not];simp
  have hd:decide ((l.length:Int)≤most)=true:=by simpa using hl
  refine mH ?_;rw[hd];refine xN ?_;refine cw [(r5,.box 83 [.fn (.func f) [] []])] Tryz.call89 (aFh (aII hp r5) l hok) rfl aC aA ?_;rintro _ σ' ⟨rfl,rfl⟩ h14;refine xL ?_;exact aE aF ⟨by rw[hE];rfl,rfl⟩ aA
 ·have hE:cO l most p=false:=by unfold cO;rw[decide_eq_false hl];rfl
  have hd:decide ((l.length:Int)≤most)=false:=by simpa using hl
  refine mH ?_;rw[hd];refine xO ?_;exact aE aF ⟨by rw[hE];rfl,rfl⟩ aA
theorem aIJ{f:FuncId}{caps:List AV}{σ:dS}{p:Nat→Bool}{ok:Nat→Prop}(hp:cI Tryz.prog f caps σ (fun(n:Nat)=>.int .u8 n) p ok)(l:List Nat)(hok:∀x∈l,ok x):SCall Tryz.prog 320 [.ro 1 (l.map aG) .any,.fn (.func f) [] caps] σ (fun x σ'=>∃m:Int,x=.int .i64 m∧decide (0≤m)=l.any p∧σ'=σ):=by
 refine cF 19 [0,1,4,5,7,8,9,16] Tryz.func320 ?_;refine hY (i:=0) rfl fun hm=> ?_
 rw[List.length_map]at hm;unfold maxLen at hm;refine sJ ?_;refine lp (β:=Nat) (fun j=>⟨[(0,.ro 1 (l.map aG) .any),(1,.fn (.func f) [] caps),(7,.int .i64 l.length),(8,.int .i64 j)],σ⟩) (fun j=>j≤l.length∧(l.take j).any p=false) (fun j=>l.length-j) 0 ?_ ⟨Nat.zero_le _,rfl⟩ ?_
 ·exact aL
 rintro j ⟨hj,ht⟩;refine jR ?_;refine aB rfl (fun h1=> ?_) (fun h1=> ?_)
 ·have hlt:j<l.length:=by simp at h1;omega
  obtain⟨x,hx⟩:∃x,l[j]? =some x:=⟨_,List.getElem?_eq_getElem hlt⟩
  refine tZ ?_;refine nJ ?_;refine qY σ rfl hp.1 (hp.2 x (hok x (List.mem_of_getElem? hx))) rfl ?_ ?_ ?_
  ·exact aC
  ·exact fun _ h=>h
  rintro r σ' ⟨rfl,rfl⟩-;rw[eE,List.append_nil];refine lD ?_;refine aB rfl (fun h2=> ?_) (fun h2=> ?_)
  ·refine fA ?_;apply aE;exact aF
   ·refine⟨j,rfl, ?_,rfl⟩;rw[decide_eq_true (by omega)];exact(List.any_eq_true.2 ⟨x,List.mem_of_getElem? hx,h2⟩).symm
   ·exact aA
  ·refine mP ?_;refine⟨j+1,⟨by omega, ?_⟩,by omega, ?_⟩
   ·rw[List.take_add_one,hx,List.any_append,ht];simp[h2]
   ·exact aL
 ·refine bM ?_;apply aE;exact aF
  ·simp at h1;rw[List.take_of_length_le (by omega)]at ht;exact⟨-1,rfl,by rw[ht];rfl,rfl⟩
  ·exact aA
theorem aIK{f:FuncId}{caps:List AV}{σ:dS}{p:Nat→Bool}{ok:Nat→Prop}(hp:cI Tryz.prog f caps σ (fun(n:Nat)=>.int .u8 n) p ok)(l:List Nat)(hok:∀x∈l,ok x):SCall Tryz.prog 310 [.ro 1 (l.map aG) .any,.fn (.func f) [] caps] σ (fun x σ'=>x=.bool (l.any p)∧σ'=σ):=by
 refine cF 9 [0,1,4] Tryz.func310 ?_;refine mW ?_;refine cw σ Tryz.call320 (aIJ hp l hok) rfl ?_ ?_ ?_
 ·exact aC
 ·exact fun _ h=>h
 rintro x σ' ⟨m,rfl,hm,rfl⟩-;rw[eE,List.append_nil];refine DP ?_;exact aE aF ⟨by simp only[gU];rw[←hm],rfl⟩ aA
theorem aK7{f:FuncId}{p:Nat→Bool}{ok:Nat→Prop}(hp:cI Tryz.prog f [] [] (fun(n:Nat)=>.int .u8 n) p ok)(r:Nat):cI Tryz.prog 311 [.ptr r 0] [(r,.box 325 [.fn (.func f) [] []])] (fun(n:Nat)=>.int .u8 n) (fun x=> !p x) ok:=by
  refine⟨Tryz.call311,fun x hx=> ?_⟩;refine cF 8 [0,1,3] Tryz.func311 ?_;refine bM ?_;refine jQ ?_;refine uN ?_;refine lo (aD (E rfl)) rfl ?_;refine qY [] rfl hp.1 (hp.2 x hx) rfl aC aA ?_;rintro _ σ' ⟨rfl,rfl⟩ h6;refine KN ?_;refine dE ?_;exact aE aF ⟨by rfl,rfl⟩ aA
theorem aIL{f:FuncId}{p:Nat→Bool}{ok:Nat→Prop}(hp:cI Tryz.prog f [] [] (fun(n:Nat)=>.int .u8 n) p ok)(l:List Nat)(hok:∀x∈l,ok x)(most:Int):SCall Tryz.prog 288 [.ro 1 (l.map aG) .any,.int .i64 most,.fn (.func f) [] []] [] (fun x σ'=>x=.bool (cO l most p)∧σ'=[]):=by
 refine cF 17 [0,1,2,5,6] Tryz.func288 ?_;refine dX ?_;refine iQ fun r5 h5=> ?_;intros
 refine dE ?_;by_cases hl:(l.length:Int)≤most
 ·have hE:cO l most p= !(l.any fun x=> !p x):=by unfold cO;rw[decide_eq_true hl,List.any_eq_not_all_not];simp
  have hd:decide ((l.length:Int)≤most)=true:=by simpa using hl
  refine mH ?_;rw[hd];refine xN ?_;refine cw [(r5,.box 325 [.fn (.func f) [] []])] Tryz.call310 (aIK (aK7 hp r5) l hok) rfl aC aA ?_;rintro _ σ' ⟨rfl,rfl⟩ h14;refine xL ?_;exact aE aF ⟨by rw[hE];rfl,rfl⟩ aA
 ·have hE:cO l most p=false:=by unfold cO;rw[decide_eq_false hl];rfl
  have hd:decide ((l.length:Int)≤most)=false:=by simpa using hl
  refine mH ?_;rw[hd];refine xO ?_;exact aE aF ⟨by rw[hE];rfl,rfl⟩ aA
theorem aIM{f:FuncId}{caps:List AV}{σ:dS}{p:Im→Bool}{ok:Im→Prop}(hp:cI Tryz.prog f caps σ (fun x=>.agg (eM x)) p ok)(l:List Im)(hok:∀x∈l,ok x):SCall Tryz.prog 204 [.ro 3 (l.map eM) .any,.fn (.func f) [] caps] σ (fun x σ'=>∃m:Int,x=.int .i64 m∧decide (0≤m)=l.any p∧σ'=σ):=by
 refine cF 19 [0,1,4,5,7,8,9,16] Tryz.func204 ?_;refine hY (i:=0) rfl fun hm=> ?_
 rw[List.length_map]at hm;unfold maxLen at hm;refine sJ ?_;refine lp (β:=Nat) (fun j=>⟨[(0,.ro 3 (l.map eM) .any),(1,.fn (.func f) [] caps),(7,.int .i64 l.length),(8,.int .i64 j)],σ⟩) (fun j=>j≤l.length∧(l.take j).any p=false) (fun j=>l.length-j) 0 ?_ ⟨Nat.zero_le _,rfl⟩ ?_
 ·exact aL
 rintro j ⟨hj,ht⟩;refine jR ?_;refine aB rfl (fun h1=> ?_) (fun h1=> ?_)
 ·have hlt:j<l.length:=by simp at h1;omega
  obtain⟨x,hx⟩:∃x,l[j]? =some x:=⟨_,List.getElem?_eq_getElem hlt⟩
  refine tZ ?_;refine mX ?_;refine qY σ rfl hp.1 (hp.2 x (hok x (List.mem_of_getElem? hx))) rfl ?_ ?_ ?_
  ·exact aC
  ·exact fun _ h=>h
  rintro r σ' ⟨rfl,rfl⟩-;rw[eE,List.append_nil];refine lD ?_;refine aB rfl (fun h2=> ?_) (fun h2=> ?_)
  ·refine fA ?_;apply aE;exact aF
   ·refine⟨j,rfl, ?_,rfl⟩;rw[decide_eq_true (by omega)];exact(List.any_eq_true.2 ⟨x,List.mem_of_getElem? hx,h2⟩).symm
   ·exact aA
  ·refine mP ?_;refine⟨j+1,⟨by omega, ?_⟩,by omega, ?_⟩
   ·rw[List.take_add_one,hx,List.any_append,ht];simp[h2]
   ·exact aL
 ·refine bM ?_;apply aE;exact aF
  ·simp at h1;rw[List.take_of_length_le (by omega)]at ht;exact⟨-1,rfl,by rw[ht];rfl,rfl⟩
  ·exact aA
theorem aIN{f:FuncId}{caps:List AV}{σ:dS}{p:Im→Bool}{ok:Im→Prop}(hp:cI Tryz.prog f caps σ (fun x=>.agg (eM x)) p ok)(l:List Im)(hok:∀x∈l,ok x):SCall Tryz.prog 87 [.ro 3 (l.map eM) .any,.fn (.func f) [] caps] σ (fun x σ'=>x=.bool (l.any p)∧σ'=σ):=by
 refine cF 9 [0,1,4] Tryz.func87 ?_;refine mW ?_;refine cw σ Tryz.call204 (aIM hp l hok) rfl ?_ ?_ ?_
 ·exact aC
 ·exact fun _ h=>h
 rintro x σ' ⟨m,rfl,hm,rfl⟩-;rw[eE,List.append_nil];refine DP ?_;exact aE aF ⟨by simp only[gU];rw[←hm],rfl⟩ aA
theorem aK8{f:FuncId}{p:Im→Bool}{ok:Im→Prop}(hp:cI Tryz.prog f [] [] (fun x=>.agg (eM x)) p ok)(r:Nat):cI Tryz.prog 287 [.ptr r 0] [(r,.box 148 [.fn (.func f) [] []])] (fun x=>.agg (eM x)) (fun x=> !p x) ok:=by
  refine⟨Tryz.call287,fun x hx=> ?_⟩;refine cF 8 [0,1,2,3] Tryz.func287 ?_;refine dX ?_;refine iQ fun r2 h2=> ?_;intros
  refine lJ ?_;refine uN ?_;refine oS ?_;refine qY [] rfl hp.1 (hp.2 x hx) rfl aC aA ?_;rintro _ σ' ⟨rfl,rfl⟩ h6;refine KN ?_;refine dE ?_;exact aE aF ⟨by rfl,rfl⟩ aA
theorem aIO{f:FuncId}{p:Im→Bool}{ok:Im→Prop}(hp:cI Tryz.prog f [] [] (fun x=>.agg (eM x)) p ok)(l:List Im)(hok:∀x∈l,ok x)(most:Int):SCall Tryz.prog 223 [.ro 3 (l.map eM) .any,.int .i64 most,.fn (.func f) [] []] [] (fun x σ'=>x=.bool (cO l most p)∧σ'=[]):=by
 refine cF 17 [0,1,2,5,6] Tryz.func223 ?_;refine dX ?_;refine iQ fun r5 h5=> ?_;intros
 refine dE ?_;by_cases hl:(l.length:Int)≤most
 ·have hE:cO l most p= !(l.any fun x=> !p x):=by unfold cO;rw[decide_eq_true hl,List.any_eq_not_all_not];simp
  have hd:decide ((l.length:Int)≤most)=true:=by simpa using hl
  refine mH ?_;rw[hd];refine xN ?_;refine cw [(r5,.box 148 [.fn (.func f) [] []])] Tryz.call87 (aIN (aK8 hp r5) l hok) rfl aC aA ?_;rintro _ σ' ⟨rfl,rfl⟩ h14;refine xL ?_;exact aE aF ⟨by rw[hE];rfl,rfl⟩ aA
 ·have hE:cO l most p=false:=by unfold cO;rw[decide_eq_false hl];rfl
  have hd:decide ((l.length:Int)≤most)=false:=by simpa using hl
  refine mH ?_;rw[hd];refine xO ?_;exact aE aF ⟨by rw[hE];rfl,rfl⟩ aA
theorem aIP{f:FuncId}{caps:List AV}{σ:dS}{p:Gl→Bool}{ok:Gl→Prop}(hp:cI Tryz.prog f caps σ (fun x=>.agg (dZ x)) p ok)(l:List Gl)(hok:∀x∈l,ok x):SCall Tryz.prog 312 [.ro 3 (l.map dZ) .any,.fn (.func f) [] caps] σ (fun x σ'=>∃m:Int,x=.int .i64 m∧decide (0≤m)=l.any p∧σ'=σ):=by
 refine cF 19 [0,1,4,5,7,8,9,16] Tryz.func312 ?_;refine hY (i:=0) rfl fun hm=> ?_
 rw[List.length_map]at hm;unfold maxLen at hm;refine sJ ?_;refine lp (β:=Nat) (fun j=>⟨[(0,.ro 3 (l.map dZ) .any),(1,.fn (.func f) [] caps),(7,.int .i64 l.length),(8,.int .i64 j)],σ⟩) (fun j=>j≤l.length∧(l.take j).any p=false) (fun j=>l.length-j) 0 ?_ ⟨Nat.zero_le _,rfl⟩ ?_
 ·exact aL
 rintro j ⟨hj,ht⟩;refine jR ?_;refine aB rfl (fun h1=> ?_) (fun h1=> ?_)
 ·have hlt:j<l.length:=by simp at h1;omega
  obtain⟨x,hx⟩:∃x,l[j]? =some x:=⟨_,List.getElem?_eq_getElem hlt⟩
  refine tZ ?_;refine mX ?_;refine qY σ rfl hp.1 (hp.2 x (hok x (List.mem_of_getElem? hx))) rfl ?_ ?_ ?_
  ·exact aC
  ·exact fun _ h=>h
  rintro r σ' ⟨rfl,rfl⟩-;rw[eE,List.append_nil];refine lD ?_;refine aB rfl (fun h2=> ?_) (fun h2=> ?_)
  ·refine fA ?_;apply aE;exact aF
   ·refine⟨j,rfl, ?_,rfl⟩;rw[decide_eq_true (by omega)];exact(List.any_eq_true.2 ⟨x,List.mem_of_getElem? hx,h2⟩).symm
   ·exact aA
  ·refine mP ?_;refine⟨j+1,⟨by omega, ?_⟩,by omega, ?_⟩
   ·rw[List.take_add_one,hx,List.any_append,ht];simp[h2]
   ·exact aL
 ·refine bM ?_;apply aE;exact aF
  ·simp at h1;rw[List.take_of_length_le (by omega)]at ht;exact⟨-1,rfl,by rw[ht];rfl,rfl⟩
  ·exact aA
theorem aIQ{f:FuncId}{caps:List AV}{σ:dS}{p:Gl→Bool}{ok:Gl→Prop}(hp:cI Tryz.prog f caps σ (fun x=>.agg (dZ x)) p ok)(l:List Gl)(hok:∀x∈l,ok x):SCall Tryz.prog 290 [.ro 3 (l.map dZ) .any,.fn (.func f) [] caps] σ (fun x σ'=>x=.bool (l.any p)∧σ'=σ):=by
 refine cF 9 [0,1,4] Tryz.func290 ?_;refine mW ?_;refine cw σ Tryz.call312 (aIP hp l hok) rfl ?_ ?_ ?_
 ·exact aC
 ·exact fun _ h=>h
 rintro x σ' ⟨m,rfl,hm,rfl⟩-;rw[eE,List.append_nil];refine DP ?_;exact aE aF ⟨by simp only[gU];rw[←hm],rfl⟩ aA
theorem aK9{f:FuncId}{p:Gl→Bool}{ok:Gl→Prop}(hp:cI Tryz.prog f [] [] (fun x=>.agg (dZ x)) p ok)(r:Nat):cI Tryz.prog 291 [.ptr r 0] [(r,.box 280 [.fn (.func f) [] []])] (fun x=>.agg (dZ x)) (fun x=> !p x) ok:=by
  refine⟨Tryz.call291,fun x hx=> ?_⟩;refine cF 8 [0,1,2,3] Tryz.func291 ?_;refine dX ?_;refine iQ fun r2 h2=> ?_;intros
  refine lJ ?_;refine uN ?_;refine oS ?_;refine qY [] rfl hp.1 (hp.2 x hx) rfl aC aA ?_;rintro _ σ' ⟨rfl,rfl⟩ h6;refine KN ?_;refine dE ?_;exact aE aF ⟨by rfl,rfl⟩ aA
theorem aIR{f:FuncId}{p:Gl→Bool}{ok:Gl→Prop}(hp:cI Tryz.prog f [] [] (fun x=>.agg (dZ x)) p ok)(l:List Gl)(hok:∀x∈l,ok x)(most:Int):SCall Tryz.prog 227 [.ro 3 (l.map dZ) .any,.int .i64 most,.fn (.func f) [] []] [] (fun x σ'=>x=.bool (cO l most p)∧σ'=[]):=by
 refine cF 17 [0,1,2,5,6] Tryz.func227 ?_;refine dX ?_;refine iQ fun r5 h5=> ?_;intros
 refine dE ?_;by_cases hl:(l.length:Int)≤most
 ·have hE:cO l most p= !(l.any fun x=> !p x):=by unfold cO;rw[decide_eq_true hl,List.any_eq_not_all_not];simp
  have hd:decide ((l.length:Int)≤most)=true:=by simpa using hl
  refine mH ?_;rw[hd];refine xN ?_;refine cw [(r5,.box 280 [.fn (.func f) [] []])] Tryz.call290 (aIQ (aK9 hp r5) l hok) rfl aC aA ?_;rintro _ σ' ⟨rfl,rfl⟩ h14;refine xL ?_;exact aE aF ⟨by rw[hE];rfl,rfl⟩ aA
 ·have hE:cO l most p=false:=by unfold cO;rw[decide_eq_false hl];rfl
  have hd:decide ((l.length:Int)≤most)=false:=by simpa using hl
  refine mH ?_;rw[hd];refine xO ?_;exact aE aF ⟨by rw[hE];rfl,rfl⟩ aA
theorem aIS{f:FuncId}{caps:List AV}{σ:dS}{p:Ex→Bool}{ok:Ex→Prop}(hp:cI Tryz.prog f caps σ (fun x=>.agg (eA x)) p ok)(l:List Ex)(hok:∀x∈l,ok x):SCall Tryz.prog 203 [.ro 2 (l.map eA) .any,.fn (.func f) [] caps] σ (fun x σ'=>∃m:Int,x=.int .i64 m∧decide (0≤m)=l.any p∧σ'=σ):=by
 refine cF 19 [0,1,4,5,7,8,9,16] Tryz.func203 ?_;refine hY (i:=0) rfl fun hm=> ?_
 rw[List.length_map]at hm;unfold maxLen at hm;refine sJ ?_;refine lp (β:=Nat) (fun j=>⟨[(0,.ro 2 (l.map eA) .any),(1,.fn (.func f) [] caps),(7,.int .i64 l.length),(8,.int .i64 j)],σ⟩) (fun j=>j≤l.length∧(l.take j).any p=false) (fun j=>l.length-j) 0 ?_ ⟨Nat.zero_le _,rfl⟩ ?_
 ·exact aL
 rintro j ⟨hj,ht⟩;refine jR ?_;refine aB rfl (fun h1=> ?_) (fun h1=> ?_)
 ·have hlt:j<l.length:=by simp at h1;omega
  obtain⟨x,hx⟩:∃x,l[j]? =some x:=⟨_,List.getElem?_eq_getElem hlt⟩
  refine tZ ?_;refine mX ?_;refine qY σ rfl hp.1 (hp.2 x (hok x (List.mem_of_getElem? hx))) rfl ?_ ?_ ?_
  ·exact aC
  ·exact fun _ h=>h
  rintro r σ' ⟨rfl,rfl⟩-;rw[eE,List.append_nil];refine lD ?_;refine aB rfl (fun h2=> ?_) (fun h2=> ?_)
  ·refine fA ?_;apply aE;exact aF
   ·refine⟨j,rfl, ?_,rfl⟩;rw[decide_eq_true (by omega)];exact(List.any_eq_true.2 ⟨x,List.mem_of_getElem? hx,h2⟩).symm
   ·exact aA
  ·refine mP ?_;refine⟨j+1,⟨by omega, ?_⟩,by omega, ?_⟩
   ·rw[List.take_add_one,hx,List.any_append,ht];simp[h2]
   ·exact aL
 ·refine bM ?_;apply aE;exact aF
  ·simp at h1;rw[List.take_of_length_le (by omega)]at ht;exact⟨-1,rfl,by rw[ht];rfl,rfl⟩
  ·exact aA
theorem aIT{f:FuncId}{caps:List AV}{σ:dS}{p:Ex→Bool}{ok:Ex→Prop}(hp:cI Tryz.prog f caps σ (fun x=>.agg (eA x)) p ok)(l:List Ex)(hok:∀x∈l,ok x):SCall Tryz.prog 85 [.ro 2 (l.map eA) .any,.fn (.func f) [] caps] σ (fun x σ'=>x=.bool (l.any p)∧σ'=σ):=by
 refine cF 9 [0,1,4] Tryz.func85 ?_;refine mW ?_;refine cw σ Tryz.call203 (aIS hp l hok) rfl ?_ ?_ ?_
 ·exact aC
 ·exact fun _ h=>h
 rintro x σ' ⟨m,rfl,hm,rfl⟩-;rw[eE,List.append_nil];refine DP ?_;exact aE aF ⟨by simp only[gU];rw[←hm],rfl⟩ aA
theorem aLa{f:FuncId}{p:Ex→Bool}{ok:Ex→Prop}(hp:cI Tryz.prog f [] [] (fun x=>.agg (eA x)) p ok)(r:Nat):cI Tryz.prog 292 [.ptr r 0] [(r,.box 146 [.fn (.func f) [] []])] (fun x=>.agg (eA x)) (fun x=> !p x) ok:=by
  refine⟨Tryz.call292,fun x hx=> ?_⟩;refine cF 8 [0,1,2,3] Tryz.func292 ?_;refine dX ?_;refine iQ fun r2 h2=> ?_;intros
  refine lJ ?_;refine uN ?_;refine oS ?_;refine qY [] rfl hp.1 (hp.2 x hx) rfl aC aA ?_;rintro _ σ' ⟨rfl,rfl⟩ h6;refine KN ?_;refine dE ?_;exact aE aF ⟨by rfl,rfl⟩ aA
theorem aIU{f:FuncId}{p:Ex→Bool}{ok:Ex→Prop}(hp:cI Tryz.prog f [] [] (fun x=>.agg (eA x)) p ok)(l:List Ex)(hok:∀x∈l,ok x)(most:Int):SCall Tryz.prog 230 [.ro 2 (l.map eA) .any,.int .i64 most,.fn (.func f) [] []] [] (fun x σ'=>x=.bool (cO l most p)∧σ'=[]):=by
 refine cF 17 [0,1,2,5,6] Tryz.func230 ?_;refine dX ?_;refine iQ fun r5 h5=> ?_;intros
 refine dE ?_;by_cases hl:(l.length:Int)≤most
 ·have hE:cO l most p= !(l.any fun x=> !p x):=by unfold cO;rw[decide_eq_true hl,List.any_eq_not_all_not];simp
  have hd:decide ((l.length:Int)≤most)=true:=by simpa using hl
  refine mH ?_;rw[hd];refine xN ?_;refine cw [(r5,.box 146 [.fn (.func f) [] []])] Tryz.call85 (aIT (aLa hp r5) l hok) rfl aC aA ?_;rintro _ σ' ⟨rfl,rfl⟩ h14;refine xL ?_;exact aE aF ⟨by rw[hE];rfl,rfl⟩ aA
 ·have hE:cO l most p=false:=by unfold cO;rw[decide_eq_false hl];rfl
  have hd:decide ((l.length:Int)≤most)=false:=by simpa using hl
  refine mH ?_;rw[hd];refine xO ?_;exact aE aF ⟨by rw[hE];rfl,rfl⟩ aA
theorem aIV{f:FuncId}{caps:List AV}{σ:dS}{p:El→Bool}{ok:El→Prop}(hp:cI Tryz.prog f caps σ (fun x=>.agg (dY x)) p ok)(l:List El)(hok:∀x∈l,ok x):SCall Tryz.prog 206 [.ro 2 (l.map dY) .any,.fn (.func f) [] caps] σ (fun x σ'=>∃m:Int,x=.int .i64 m∧decide (0≤m)=l.any p∧σ'=σ):=by
 refine cF 19 [0,1,4,5,7,8,9,16] Tryz.func206 ?_;refine hY (i:=0) rfl fun hm=> ?_
 rw[List.length_map]at hm;unfold maxLen at hm;refine sJ ?_;refine lp (β:=Nat) (fun j=>⟨[(0,.ro 2 (l.map dY) .any),(1,.fn (.func f) [] caps),(7,.int .i64 l.length),(8,.int .i64 j)],σ⟩) (fun j=>j≤l.length∧(l.take j).any p=false) (fun j=>l.length-j) 0 ?_ ⟨Nat.zero_le _,rfl⟩ ?_
 ·exact aL
 rintro j ⟨hj,ht⟩;refine jR ?_;refine aB rfl (fun h1=> ?_) (fun h1=> ?_)
 ·have hlt:j<l.length:=by simp at h1;omega
  obtain⟨x,hx⟩:∃x,l[j]? =some x:=⟨_,List.getElem?_eq_getElem hlt⟩
  refine tZ ?_;refine mX ?_;refine qY σ rfl hp.1 (hp.2 x (hok x (List.mem_of_getElem? hx))) rfl ?_ ?_ ?_
  ·exact aC
  ·exact fun _ h=>h
  rintro r σ' ⟨rfl,rfl⟩-;rw[eE,List.append_nil];refine lD ?_;refine aB rfl (fun h2=> ?_) (fun h2=> ?_)
  ·refine fA ?_;apply aE;exact aF
   ·refine⟨j,rfl, ?_,rfl⟩;rw[decide_eq_true (by omega)];exact(List.any_eq_true.2 ⟨x,List.mem_of_getElem? hx,h2⟩).symm
   ·exact aA
  ·refine mP ?_;refine⟨j+1,⟨by omega, ?_⟩,by omega, ?_⟩
   ·rw[List.take_add_one,hx,List.any_append,ht];simp[h2]
   ·exact aL
 ·refine bM ?_;apply aE;exact aF
  ·simp at h1;rw[List.take_of_length_le (by omega)]at ht;exact⟨-1,rfl,by rw[ht];rfl,rfl⟩
  ·exact aA
theorem aIW{f:FuncId}{caps:List AV}{σ:dS}{p:El→Bool}{ok:El→Prop}(hp:cI Tryz.prog f caps σ (fun x=>.agg (dY x)) p ok)(l:List El)(hok:∀x∈l,ok x):SCall Tryz.prog 91 [.ro 2 (l.map dY) .any,.fn (.func f) [] caps] σ (fun x σ'=>x=.bool (l.any p)∧σ'=σ):=by
 refine cF 9 [0,1,4] Tryz.func91 ?_;refine mW ?_;refine cw σ Tryz.call206 (aIV hp l hok) rfl ?_ ?_ ?_
 ·exact aC
 ·exact fun _ h=>h
 rintro x σ' ⟨m,rfl,hm,rfl⟩-;rw[eE,List.append_nil];refine DP ?_;exact aE aF ⟨by simp only[gU];rw[←hm],rfl⟩ aA
theorem aLb{f:FuncId}{p:El→Bool}{ok:El→Prop}(hp:cI Tryz.prog f [] [] (fun x=>.agg (dY x)) p ok)(r:Nat):cI Tryz.prog 293 [.ptr r 0] [(r,.box 152 [.fn (.func f) [] []])] (fun x=>.agg (dY x)) (fun x=> !p x) ok:=by
  refine⟨Tryz.call293,fun x hx=> ?_⟩;refine cF 8 [0,1,2,3] Tryz.func293 ?_;refine dX ?_;refine iQ fun r2 h2=> ?_;intros
  refine lJ ?_;refine uN ?_;refine oS ?_;refine qY [] rfl hp.1 (hp.2 x hx) rfl aC aA ?_;rintro _ σ' ⟨rfl,rfl⟩ h6;refine KN ?_;refine dE ?_;exact aE aF ⟨by rfl,rfl⟩ aA
theorem aIX{f:FuncId}{p:El→Bool}{ok:El→Prop}(hp:cI Tryz.prog f [] [] (fun x=>.agg (dY x)) p ok)(l:List El)(hok:∀x∈l,ok x)(most:Int):SCall Tryz.prog 232 [.ro 2 (l.map dY) .any,.int .i64 most,.fn (.func f) [] []] [] (fun x σ'=>x=.bool (cO l most p)∧σ'=[]):=by
 refine cF 17 [0,1,2,5,6] Tryz.func232 ?_;refine dX ?_;refine iQ fun r5 h5=> ?_;intros
 refine dE ?_;by_cases hl:(l.length:Int)≤most
 ·have hE:cO l most p= !(l.any fun x=> !p x):=by unfold cO;rw[decide_eq_true hl,List.any_eq_not_all_not];simp
  have hd:decide ((l.length:Int)≤most)=true:=by simpa using hl
  refine mH ?_;rw[hd];refine xN ?_;refine cw [(r5,.box 152 [.fn (.func f) [] []])] Tryz.call91 (aIW (aLb hp r5) l hok) rfl aC aA ?_;rintro _ σ' ⟨rfl,rfl⟩ h14;refine xL ?_;exact aE aF ⟨by rw[hE];rfl,rfl⟩ aA
 ·have hE:cO l most p=false:=by unfold cO;rw[decide_eq_false hl];rfl
  have hd:decide ((l.length:Int)≤most)=false:=by simpa using hl
  refine mH ?_;rw[hd];refine xO ?_;exact aE aF ⟨by rw[hE];rfl,rfl⟩ aA
theorem aIY{f:FuncId}{caps:List AV}{σ:dS}{p:Co→Bool}{ok:Co→Prop}(hp:cI Tryz.prog f caps σ (fun x=>.agg (dA x)) p ok)(l:List Co)(hok:∀x∈l,ok x):SCall Tryz.prog 283 [.ro 2 (l.map dA) .any,.fn (.func f) [] caps] σ (fun x σ'=>∃m:Int,x=.int .i64 m∧decide (0≤m)=l.any p∧σ'=σ):=by
 refine cF 19 [0,1,4,5,7,8,9,16] Tryz.func283 ?_;refine hY (i:=0) rfl fun hm=> ?_
 rw[List.length_map]at hm;unfold maxLen at hm;refine sJ ?_;refine lp (β:=Nat) (fun j=>⟨[(0,.ro 2 (l.map dA) .any),(1,.fn (.func f) [] caps),(7,.int .i64 l.length),(8,.int .i64 j)],σ⟩) (fun j=>j≤l.length∧(l.take j).any p=false) (fun j=>l.length-j) 0 ?_ ⟨Nat.zero_le _,rfl⟩ ?_
 ·exact aL
 rintro j ⟨hj,ht⟩;refine jR ?_;refine aB rfl (fun h1=> ?_) (fun h1=> ?_)
 ·have hlt:j<l.length:=by simp at h1;omega
  obtain⟨x,hx⟩:∃x,l[j]? =some x:=⟨_,List.getElem?_eq_getElem hlt⟩
  refine tZ ?_;refine mX ?_;refine qY σ rfl hp.1 (hp.2 x (hok x (List.mem_of_getElem? hx))) rfl ?_ ?_ ?_
  ·exact aC
  ·exact fun _ h=>h
  rintro r σ' ⟨rfl,rfl⟩-;rw[eE,List.append_nil];refine lD ?_;refine aB rfl (fun h2=> ?_) (fun h2=> ?_)
  ·refine fA ?_;apply aE;exact aF
   ·refine⟨j,rfl, ?_,rfl⟩;rw[decide_eq_true (by omega)];exact(List.any_eq_true.2 ⟨x,List.mem_of_getElem? hx,h2⟩).symm
   ·exact aA
  ·refine mP ?_;refine⟨j+1,⟨by omega, ?_⟩,by omega, ?_⟩
   ·rw[List.take_add_one,hx,List.any_append,ht];simp[h2]
   ·exact aL
 ·refine bM ?_;apply aE;exact aF
  ·simp at h1;rw[List.take_of_length_le (by omega)]at ht;exact⟨-1,rfl,by rw[ht];rfl,rfl⟩
  ·exact aA
theorem aIZ{f:FuncId}{caps:List AV}{σ:dS}{p:Co→Bool}{ok:Co→Prop}(hp:cI Tryz.prog f caps σ (fun x=>.agg (dA x)) p ok)(l:List Co)(hok:∀x∈l,ok x):SCall Tryz.prog 212 [.ro 2 (l.map dA) .any,.fn (.func f) [] caps] σ (fun x σ'=>x=.bool (l.any p)∧σ'=σ):=by
 refine cF 9 [0,1,4] Tryz.func212 ?_;refine mW ?_;refine cw σ Tryz.call283 (aIY hp l hok) rfl ?_ ?_ ?_
 ·exact aC
 ·exact fun _ h=>h
 rintro x σ' ⟨m,rfl,hm,rfl⟩-;rw[eE,List.append_nil];refine DP ?_;exact aE aF ⟨by simp only[gU];rw[←hm],rfl⟩ aA
theorem aLc{f:FuncId}{p:Co→Bool}{ok:Co→Prop}(hp:cI Tryz.prog f [] [] (fun x=>.agg (dA x)) p ok)(r:Nat):cI Tryz.prog 213 [.ptr r 0] [(r,.box 182 [.fn (.func f) [] []])] (fun x=>.agg (dA x)) (fun x=> !p x) ok:=by
  refine⟨Tryz.call213,fun x hx=> ?_⟩;refine cF 8 [0,1,2,3] Tryz.func213 ?_;refine dX ?_;refine iQ fun r2 h2=> ?_;intros
  refine lJ ?_;refine uN ?_;refine oS ?_;refine qY [] rfl hp.1 (hp.2 x hx) rfl aC aA ?_;rintro _ σ' ⟨rfl,rfl⟩ h6;refine KN ?_;refine dE ?_;exact aE aF ⟨by rfl,rfl⟩ aA
theorem aI0{f:FuncId}{p:Co→Bool}{ok:Co→Prop}(hp:cI Tryz.prog f [] [] (fun x=>.agg (dA x)) p ok)(l:List Co)(hok:∀x∈l,ok x)(most:Int):SCall Tryz.prog 106 [.ro 2 (l.map dA) .any,.int .i64 most,.fn (.func f) [] []] [] (fun x σ'=>x=.bool (cO l most p)∧σ'=[]):=by
 refine cF 17 [0,1,2,5,6] Tryz.func106 ?_;refine dX ?_;refine iQ fun r5 h5=> ?_;intros
 refine dE ?_;by_cases hl:(l.length:Int)≤most
 ·have hE:cO l most p= !(l.any fun x=> !p x):=by unfold cO;rw[decide_eq_true hl,List.any_eq_not_all_not];simp
  have hd:decide ((l.length:Int)≤most)=true:=by simpa using hl
  refine mH ?_;rw[hd];refine xN ?_;refine cw [(r5,.box 182 [.fn (.func f) [] []])] Tryz.call212 (aIZ (aLc hp r5) l hok) rfl aC aA ?_;rintro _ σ' ⟨rfl,rfl⟩ h14;refine xL ?_;exact aE aF ⟨by rw[hE];rfl,rfl⟩ aA
 ·have hE:cO l most p=false:=by unfold cO;rw[decide_eq_false hl];rfl
  have hd:decide ((l.length:Int)≤most)=false:=by simpa using hl
  refine mH ?_;rw[hd];refine xO ?_;exact aE aF ⟨by rw[hE];rfl,rfl⟩ aA
theorem aI1{f:FuncId}{caps:List AV}{σ:dS}{p:Da→Bool}{ok:Da→Prop}(hp:cI Tryz.prog f caps σ (fun x=>.agg (eB x)) p ok)(l:List Da)(hok:∀x∈l,ok x):SCall Tryz.prog 313 [.ro 2 (l.map eB) .any,.fn (.func f) [] caps] σ (fun x σ'=>∃m:Int,x=.int .i64 m∧decide (0≤m)=l.any p∧σ'=σ):=by
 refine cF 19 [0,1,4,5,7,8,9,16] Tryz.func313 ?_;refine hY (i:=0) rfl fun hm=> ?_
 rw[List.length_map]at hm;unfold maxLen at hm;refine sJ ?_;refine lp (β:=Nat) (fun j=>⟨[(0,.ro 2 (l.map eB) .any),(1,.fn (.func f) [] caps),(7,.int .i64 l.length),(8,.int .i64 j)],σ⟩) (fun j=>j≤l.length∧(l.take j).any p=false) (fun j=>l.length-j) 0 ?_ ⟨Nat.zero_le _,rfl⟩ ?_
 ·exact aL
 rintro j ⟨hj,ht⟩;refine jR ?_;refine aB rfl (fun h1=> ?_) (fun h1=> ?_)
 ·have hlt:j<l.length:=by simp at h1;omega
  obtain⟨x,hx⟩:∃x,l[j]? =some x:=⟨_,List.getElem?_eq_getElem hlt⟩
  refine tZ ?_;refine mX ?_;refine qY σ rfl hp.1 (hp.2 x (hok x (List.mem_of_getElem? hx))) rfl ?_ ?_ ?_
  ·exact aC
  ·exact fun _ h=>h
  rintro r σ' ⟨rfl,rfl⟩-;rw[eE,List.append_nil];refine lD ?_;refine aB rfl (fun h2=> ?_) (fun h2=> ?_)
  ·refine fA ?_;apply aE;exact aF
   ·refine⟨j,rfl, ?_,rfl⟩;rw[decide_eq_true (by omega)];exact(List.any_eq_true.2 ⟨x,List.mem_of_getElem? hx,h2⟩).symm
   ·exact aA
  ·refine mP ?_;refine⟨j+1,⟨by omega, ?_⟩,by omega, ?_⟩
   ·rw[List.take_add_one,hx,List.any_append,ht];simp[h2]
   ·exact aL
 ·refine bM ?_;apply aE;exact aF
  ·simp at h1;rw[List.take_of_length_le (by omega)]at ht;exact⟨-1,rfl,by rw[ht];rfl,rfl⟩
  ·exact aA
theorem aI2{f:FuncId}{caps:List AV}{σ:dS}{p:Da→Bool}{ok:Da→Prop}(hp:cI Tryz.prog f caps σ (fun x=>.agg (eB x)) p ok)(l:List Da)(hok:∀x∈l,ok x):SCall Tryz.prog 294 [.ro 2 (l.map eB) .any,.fn (.func f) [] caps] σ (fun x σ'=>x=.bool (l.any p)∧σ'=σ):=by
 refine cF 9 [0,1,4] Tryz.func294 ?_;refine mW ?_;refine cw σ Tryz.call313 (aI1 hp l hok) rfl ?_ ?_ ?_
 ·exact aC
 ·exact fun _ h=>h
 rintro x σ' ⟨m,rfl,hm,rfl⟩-;rw[eE,List.append_nil];refine DP ?_;exact aE aF ⟨by simp only[gU];rw[←hm],rfl⟩ aA
theorem aLd{f:FuncId}{p:Da→Bool}{ok:Da→Prop}(hp:cI Tryz.prog f [] [] (fun x=>.agg (eB x)) p ok)(r:Nat):cI Tryz.prog 295 [.ptr r 0] [(r,.box 284 [.fn (.func f) [] []])] (fun x=>.agg (eB x)) (fun x=> !p x) ok:=by
  refine⟨Tryz.call295,fun x hx=> ?_⟩;refine cF 8 [0,1,2,3] Tryz.func295 ?_;refine dX ?_;refine iQ fun r2 h2=> ?_;intros
  refine lJ ?_;refine uN ?_;refine oS ?_;refine qY [] rfl hp.1 (hp.2 x hx) rfl aC aA ?_;rintro _ σ' ⟨rfl,rfl⟩ h6;refine KN ?_;refine dE ?_;exact aE aF ⟨by rfl,rfl⟩ aA
theorem aI3{f:FuncId}{p:Da→Bool}{ok:Da→Prop}(hp:cI Tryz.prog f [] [] (fun x=>.agg (eB x)) p ok)(l:List Da)(hok:∀x∈l,ok x)(most:Int):SCall Tryz.prog 235 [.ro 2 (l.map eB) .any,.int .i64 most,.fn (.func f) [] []] [] (fun x σ'=>x=.bool (cO l most p)∧σ'=[]):=by
 refine cF 17 [0,1,2,5,6] Tryz.func235 ?_;refine dX ?_;refine iQ fun r5 h5=> ?_;intros
 refine dE ?_;by_cases hl:(l.length:Int)≤most
 ·have hE:cO l most p= !(l.any fun x=> !p x):=by unfold cO;rw[decide_eq_true hl,List.any_eq_not_all_not];simp
  have hd:decide ((l.length:Int)≤most)=true:=by simpa using hl
  refine mH ?_;rw[hd];refine xN ?_;refine cw [(r5,.box 284 [.fn (.func f) [] []])] Tryz.call294 (aI2 (aLd hp r5) l hok) rfl aC aA ?_;rintro _ σ' ⟨rfl,rfl⟩ h14;refine xL ?_;exact aE aF ⟨by rw[hE];rfl,rfl⟩ aA
 ·have hE:cO l most p=false:=by unfold cO;rw[decide_eq_false hl];rfl
  have hd:decide ((l.length:Int)≤most)=false:=by simpa using hl
  refine mH ?_;rw[hd];refine xO ?_;exact aE aF ⟨by rw[hE];rfl,rfl⟩ aA
theorem aFi{f:FuncId}{caps:List AV}{σ:dS}{p:Ins→Bool}{ok:Ins→Prop}(hp:cI Tryz.prog f caps σ (fun x=>.agg (iv .any x)) p ok)(l:List Ins)(hok:∀x∈l,ok x):SCall Tryz.prog 284 [.ro 4 (l.map (iv .any)) .any,.fn (.func f) [] caps] σ (fun x σ'=>∃m:Int,x=.int .i64 m∧decide (0≤m)=l.any p∧σ'=σ):=by
 refine cF 19 [0,1,4,5,7,8,9,16] Tryz.func284 ?_;refine hY (i:=0) rfl fun hm=> ?_
 rw[List.length_map]at hm;unfold maxLen at hm;refine sJ ?_;refine lp (β:=Nat) (fun j=>⟨[(0,.ro 4 (l.map (iv .any)) .any),(1,.fn (.func f) [] caps),(7,.int .i64 l.length),(8,.int .i64 j)],σ⟩) (fun j=>j≤l.length∧(l.take j).any p=false) (fun j=>l.length-j) 0 ?_ ⟨Nat.zero_le _,rfl⟩ ?_
 ·exact aL
 rintro j ⟨hj,ht⟩;refine jR ?_;refine aB rfl (fun h1=> ?_) (fun h1=> ?_)
 ·have hlt:j<l.length:=by simp at h1;omega
  obtain⟨x,hx⟩:∃x,l[j]? =some x:=⟨_,List.getElem?_eq_getElem hlt⟩
  refine tZ ?_;refine mX ?_;refine qY σ rfl hp.1 (hp.2 x (hok x (List.mem_of_getElem? hx))) rfl ?_ ?_ ?_
  ·exact aC
  ·exact fun _ h=>h
  rintro r σ' ⟨rfl,rfl⟩-;rw[eE,List.append_nil];refine lD ?_;refine aB rfl (fun h2=> ?_) (fun h2=> ?_)
  ·refine fA ?_;apply aE;exact aF
   ·refine⟨j,rfl, ?_,rfl⟩;rw[decide_eq_true (by omega)];exact(List.any_eq_true.2 ⟨x,List.mem_of_getElem? hx,h2⟩).symm
   ·exact aA
  ·refine mP ?_;refine⟨j+1,⟨by omega, ?_⟩,by omega, ?_⟩
   ·rw[List.take_add_one,hx,List.any_append,ht];simp[h2]
   ·exact aL
 ·refine bM ?_;apply aE;exact aF
  ·simp at h1;rw[List.take_of_length_le (by omega)]at ht;exact⟨-1,rfl,by rw[ht];rfl,rfl⟩
  ·exact aA
theorem aFj{f:FuncId}{caps:List AV}{σ:dS}{p:Ins→Bool}{ok:Ins→Prop}(hp:cI Tryz.prog f caps σ (fun x=>.agg (iv .any x)) p ok)(l:List Ins)(hok:∀x∈l,ok x):SCall Tryz.prog 215 [.ro 4 (l.map (iv .any)) .any,.fn (.func f) [] caps] σ (fun x σ'=>x=.bool (l.any p)∧σ'=σ):=by
 refine cF 9 [0,1,4] Tryz.func215 ?_;refine mW ?_;refine cw σ Tryz.call284 (aFi hp l hok) rfl ?_ ?_ ?_
 ·exact aC
 ·exact fun _ h=>h
 rintro x σ' ⟨m,rfl,hm,rfl⟩-;rw[eE,List.append_nil];refine DP ?_;exact aE aF ⟨by simp only[gU];rw[←hm],rfl⟩ aA
theorem aI4{f:FuncId}{p:Ins→Bool}{ok:Ins→Prop}(hp:cI Tryz.prog f [] [] (fun x=>.agg (iv .any x)) p ok)(r:Nat):cI Tryz.prog 216 [.ptr r 0] [(r,.box 134 [.fn (.func f) [] []])] (fun x=>.agg (iv .any x)) (fun x=> !p x) ok:=by
  refine⟨Tryz.call216,fun x hx=> ?_⟩;refine cF 8 [0,1,2,3] Tryz.func216 ?_;refine dX ?_;refine iQ fun r2 h2=> ?_;intros
  refine lJ ?_;refine uN ?_;refine oS ?_;refine qY [] rfl hp.1 (hp.2 x hx) rfl aC aA ?_;rintro _ σ' ⟨rfl,rfl⟩ h6;refine KN ?_;refine dE ?_;exact aE aF ⟨by rfl,rfl⟩ aA
theorem aFk{f:FuncId}{p:Ins→Bool}{ok:Ins→Prop}(hp:cI Tryz.prog f [] [] (fun x=>.agg (iv .any x)) p ok)(l:List Ins)(hok:∀x∈l,ok x)(most:Int):SCall Tryz.prog 110 [.ro 4 (l.map (iv .any)) .any,.int .i64 most,.fn (.func f) [] []] [] (fun x σ'=>x=.bool (cO l most p)∧σ'=[]):=by
 refine cF 17 [0,1,2,5,6] Tryz.func110 ?_;refine dX ?_;refine iQ fun r5 h5=> ?_;intros
 refine dE ?_;by_cases hl:(l.length:Int)≤most
 ·have hE:cO l most p= !(l.any fun x=> !p x):=by unfold cO;rw[decide_eq_true hl,List.any_eq_not_all_not];simp
  have hd:decide ((l.length:Int)≤most)=true:=by simpa using hl
  refine mH ?_;rw[hd];refine xN ?_;refine cw [(r5,.box 134 [.fn (.func f) [] []])] Tryz.call215 (aFj (aI4 hp r5) l hok) rfl aC aA ?_;rintro _ σ' ⟨rfl,rfl⟩ h14;refine xL ?_;exact aE aF ⟨by rw[hE];rfl,rfl⟩ aA
 ·have hE:cO l most p=false:=by unfold cO;rw[decide_eq_false hl];rfl
  have hd:decide ((l.length:Int)≤most)=false:=by simpa using hl
  refine mH ?_;rw[hd];refine xO ?_;exact aE aF ⟨by rw[hE];rfl,rfl⟩ aA
end Go.Proofs.YtjpdadobblffmaaGreat
namespace Go.Proofs.YtjpdadobblffmaaGreat
open Go.RowKit Go.ChangeShapes Go.WideShapes Go.ChangeAt Go.Deep
attribute [local irreducible] SW RS RD fG eH
theorem QG:cI Tryz.prog 109 [] [] (fun n=>.int .i64 n) zZ (fun _=>True):=by
 refine⟨Tryz.call109,fun k _=> ?_⟩;refine cF 9 [0,2] Tryz.func109 ?_;refine iD ?_;refine lo (dI (E rfl) (E rfl)) rfl ?_;refine jL ?_;refine xY ?_;refine rM ?_;refine dE ?_;exact aE aF ⟨by rfl,rfl⟩ aA
theorem yN(n:Int):SCall Tryz.prog 226 [.int .i64 n] [] (fun r σ'=>r=.bool (iH n)∧σ'=[]):=by
 refine cF 9 [0,2] Tryz.func226 ?_;refine iD ?_;refine MU ?_;refine OZ ?_;refine kL ?_;exact aE aF ⟨by rfl,rfl⟩ aA
theorem UY:cI Tryz.prog 226 [] [] (fun n=>.int .i64 n) iH (fun _=>True):=⟨Tryz.call226,fun n _=>yN n⟩
theorem UZ(n:Int):SCall Tryz.prog 234 [.int .i64 n] [] (fun r σ'=>r=.bool (kM n)∧σ'=[]):=by
 refine cF 9 [0,2] Tryz.func234 ?_;refine iD ?_;refine MU ?_;refine OZ ?_;refine kL ?_;exact aE aF ⟨by unfold kM;cases h:decide (-2147483648≤n)<;>simp_all [gU],rfl⟩ aA
def chN (c:Nat):Bool:=decide (32≤c)&&decide (c≤126)
theorem aFl:cI Tryz.prog 289 [] [] (fun(n:Nat)=>.int .u8 n) chN (fun _=>True):=by
 refine⟨Tryz.call289,fun k _=> ?_⟩;refine cF 9 [0,2] Tryz.func289 ?_;refine iD ?_;refine MU ?_;refine OZ ?_;refine kL ?_;exact aE aF ⟨by unfold chN;rw[show decide (32≤k)=decide ((32:Int)≤(k:Int))from decide_eq_decide.2 (by omega),show decide (k≤126)=decide ((k:Int)≤(126:Int))from decide_eq_decide.2 (by omega)];cases h:decide ((32:Int)≤(k:Int))<;>simp_all [gU],rfl⟩ aA
theorem rD(l:Li)(a c:Int):SCall Tryz.prog 113 [.agg (fC l),.int .i64 a,.int .i64 c] [] (fun r σ'=>r=.bool (lP l a c)∧σ'=[]):=by
 obtain⟨has,mn,mx⟩:=l;refine cF 38 [0,1,2,3,6,9] Tryz.func113 ?_;unfold fC;refine dX ?_;refine iQ fun r3 h3=> ?_;intros
 refine iW ?_;refine qV ?_;refine aB rfl (fun g1=> ?_) (fun g1=> ?_)
 ·have hE:lP ⟨has,mn,mx⟩ a c=if(mn==0)=true then(mx==0)else false:=by obtain rfl:has=false:=(by simpa using g1);unfold lP;cases h:mn==0<;>simp_all
  refine fN ?_;refine CX ?_;refine xY ?_;refine kL ?_;exact aE aF ⟨by rw[hE];rfl,rfl⟩ aA
 have hE:lP ⟨has,mn,mx⟩ a c=if(if(if decide (0≤mn)=true then decide (mn≤a)else false)=true then decide (-1≤mx)else false)=true then decide (mx≤c)else false:=by obtain rfl:has=true:=(by simpa using g1);unfold lP;rw[if_pos rfl];cases h:decide (0≤mn)<;>cases h2:decide (mn≤a)<;>cases h3:decide (-1≤mx)<;>rfl
 refine fN ?_;refine lo (gB (E rfl) (E rfl)) rfl ?_;refine sH ?_;refine aB9 ?_;refine rX ?_;refine oG ?_;refine aEt ?_;refine rX ?_;refine sH ?_;refine aB9 ?_;refine kL ?_;exact aE aF ⟨by rw[hE];rfl,rfl⟩ aA
theorem aCY(s:List Nat):uG s=if(!decide (s=[]))=true then cO s 16 chN else false:=by
 unfold uG cO chN;rcases s with _ |⟨x,s⟩
 ·rfl
 ·rw[if_pos (by simp),if_pos (by simp),show decide ((x::s).length≤16)=decide (((x::s).length:Int)≤16)from decide_eq_decide.2 (by omega)]
theorem CB(s:List Nat)(hs:s.length≤100000)(hlt:∀c∈s,c<256):SCall Tryz.prog 225 [.str (dC s)] [] (fun r σ'=>r=.bool (uG s)∧σ'=[]):=by
 have hz:((dC s).toList==(⟨#[]⟩:ByteArray).toList)=decide (s=[]):=pV (m:=[]) hlt (by simp);refine cF 10 [0,2] Tryz.func225 ?_;refine bM ?_;by_cases hs:s=[]
 ·have hd:(!decide (s=[]))=false:=by rw[decide_eq_true hs];rfl
  refine iC ?_;refine lo (SU (E rfl) (E rfl)) rfl ?_;rw[hz,hd];refine jL ?_;refine ln rfl rfl rfl rfl ?_;refine ln rfl rfl rfl rfl ?_;refine kL ?_;exact aE aF ⟨by rw[aCY,hd];rfl,rfl⟩ aA
 ·have hd:(!decide (s=[]))=true:=by rw[decide_eq_false hs];rfl
  refine iC ?_;refine lo (SU (E rfl) (E rfl)) rfl ?_;rw[hz,hd];refine jL ?_;refine gy rfl rfl ?_;refine cvb hlt ?_ (by simp[maxLen];omega);refine gy rfl rfl ?_;refine oL Tryz.call288 (aIL aFl s (fun _ _=>True.intro) 16) rfl aR bB ?_;refine kL ?_;exact aE aF ⟨by rw[aCY,hd];rfl,rfl⟩ aA
def lC (s:List Nat):Prop:=s.length≤100000∧∀c∈s,c<256
structure Md.W (m:Md):Prop where
 im:∀x∈m.im,lC x.mod∧lC x.nm
 ex:∀x∈m.ex,lC x.nm
 co:∀x∈m.co,x.bd.length≤100000
 il:m.im.length≤4294967296
 da:∀x∈m.da,∀c∈x.bs,c<256
theorem nE(a b:Bool):(if a=true then b else false)=(a&&b):=by cases a<;>rfl
theorem aCZ(k n:Int):SCall Tryz.prog 229 [.agg [.int .i64 k,.int .i64 n]] [] (fun r σ'=>r=.bool (mQ k n)∧σ'=[]):=by
 refine cF 21 [0,1,2] Tryz.func229 ?_;refine dX ?_;refine iQ fun r1 h1=> ?_;intros
 refine iW ?_;refine CX ?_;refine xY ?_;refine aCa ?_;refine aCb ?_;refine aCc ?_;refine aKv ?_;refine aEu ?_;refine aCa ?_;refine aCb ?_;refine aCc ?_;refine aMw ?_;refine aEu ?_;refine rM ?_;refine dE ?_;exact aE aF ⟨by unfold mQ;cases h:(k==2)<;>cases h1:(k==1)<;>cases h2:decide (-2147483648≤n)<;>cases h3:decide (n≤2147483647)<;>rfl,rfl⟩ aA
theorem aLe:cI Tryz.prog 222 [] [] (fun x=>.agg (dD x)) (fun t=>cO t.pr 32 zZ&&cO t.rs 1 zZ) (fun _=>True):=by
 refine⟨Tryz.call222,fun t _=> ?_⟩;obtain⟨pr,rs⟩:=t;refine cF 11 [0,1,2] Tryz.func222 ?_;unfold dD;refine dX ?_;refine iQ fun r1 h1=> ?_;intros
 refine iW ?_;refine oL Tryz.call108 (AE QG pr (fun _ _=>True.intro) 32) rfl aR bB ?_;refine oG ?_;refine lG rfl rfl Tryz.call108 (fun _=>(AE QG rs (fun _ _=>True.intro) 1)) rfl aR bB ?_;refine kL ?_;exact aE aF ⟨by simp only[gU];rw[nE],rfl⟩ aA
theorem aLf:cI Tryz.prog 224 [] [] (fun x=>.agg (eM x)) (fun x=>uG x.mod&&uG x.nm&&iH x.ty) (fun x=>lC x.mod∧lC x.nm):=by
 refine⟨Tryz.call224,fun t ht=> ?_⟩;obtain⟨md,nm,ty⟩:=t;obtain⟨⟨h1,h2⟩,h3,h4⟩:=ht;refine cF 16 [0,1,2] Tryz.func224 ?_;unfold eM;refine dX ?_;apply bx;rfl;rfl;exact wY;rfl;refine bL fun r1 h1=> ?_;repeat rcases h1 with⟨_,h1⟩
 refine iW ?_;refine oL Tryz.call225 (CB md h1 h2) rfl aR bB ?_;refine oG ?_;refine lG rfl rfl Tryz.call225 (fun _=>(CB nm h3 h4)) rfl aR bB ?_;refine rX ?_;refine oG ?_;refine lG rfl rfl Tryz.call226 (fun _=>(yN ty)) rfl aR bB ?_;refine kL ?_;exact aE aF ⟨by dsimp only;cases uG md<;>cases uG nm<;>rfl,rfl⟩ aA
theorem aLg:cI Tryz.prog 228 [] [] (fun x=>.agg (dZ x)) (fun g=>mQ g.kd g.n) (fun _=>True):=by
 refine⟨Tryz.call228,fun t _=> ?_⟩;obtain⟨mu,k,n⟩:=t;refine cF 6 [0,1,2] Tryz.func228 ?_;unfold dZ;refine dX ?_;refine iQ fun r1 h1=> ?_;intros
 refine lJ ?_;refine wL ?_;refine oS ?_;refine oL Tryz.call229 (aCZ k n) rfl aR bB ?_;refine dE ?_;exact aE aF ⟨by rfl,rfl⟩ aA
theorem aLh:cI Tryz.prog 231 [] [] (fun x=>.agg (eA x)) (fun x=>uG x.nm&&iH x.fn) (fun x=>lC x.nm):=by
 refine⟨Tryz.call231,fun t ht=> ?_⟩;obtain⟨nm,fn⟩:=t;obtain⟨h3,h4⟩:=ht;refine cF 11 [0,1,2] Tryz.func231 ?_;unfold eA;refine dX ?_;refine iQ fun r1 h1=> ?_;intros
 refine iW ?_;refine oL Tryz.call225 (CB nm h3 h4) rfl aR bB ?_;refine oG ?_;refine lG rfl rfl Tryz.call226 (fun _=>(yN fn)) rfl aR bB ?_;refine kL ?_;exact aE aF ⟨by simp only[gU];rw[nE],rfl⟩ aA
theorem aLi:cI Tryz.prog 233 [] [] (fun x=>.agg (dY x)) (fun x=>kM x.off&&cO x.fs 50 iH) (fun _=>True):=by
 refine⟨Tryz.call233,fun t _=> ?_⟩;obtain⟨o,fs⟩:=t;refine cF 11 [0,1,2] Tryz.func233 ?_;unfold dY;refine dX ?_;refine iQ fun r1 h1=> ?_;intros
 refine iW ?_;refine oL Tryz.call234 (UZ o) rfl aR bB ?_;refine oG ?_;refine lG rfl rfl Tryz.call108 (fun _=>(AE UY fs (fun _ _=>True.intro) 50)) rfl aR bB ?_;refine kL ?_;exact aE aF ⟨by simp only[gU];rw[nE],rfl⟩ aA
theorem aLj:cI Tryz.prog 236 [] [] (fun x=>.agg (eB x)) (fun x=>kM x.off&&decide (x.bs.length≤1000)) (fun _=>True):=by
 refine⟨Tryz.call236,fun t _=> ?_⟩;obtain⟨o,bs⟩:=t;refine cF 12 [0,1,2] Tryz.func236 ?_;unfold eB;refine dX ?_;refine iQ fun r1 h1=> ?_;intros
 refine iW ?_;refine oL Tryz.call234 (UZ o) rfl aR bB ?_;refine oG ?_;refine qU ?_;refine OZ ?_;refine kL ?_;exact aE aF ⟨by dsimp only;rw[show decide (bs.length≤1000)=decide ((bs.length:Int)≤1000)from decide_eq_decide.2 (by omega)];cases h:kM o<;>simp[gU],rfl⟩ aA
theorem aI5:cI Tryz.prog 111 [] [] (fun x=>.agg (iv .any x)) cY (fun _=>True):=⟨Tryz.call111,fun x _=>aAZ .any x⟩
theorem aLk:cI Tryz.prog 107 [] [] (fun x=>.agg (dA x)) tK (fun x=>x.bd.length≤100000):=by
 refine⟨Tryz.call107,fun t hb=> ?_⟩;obtain⟨ls,bd⟩:=t;dsimp only at hb;refine cF 22 [0,1,2,4] Tryz.func107 ?_;unfold dA;refine dX ?_;refine iQ fun r1 h1=> ?_;intros
 refine iW ?_;refine rY Tryz.call75 (qE bd hb) rfl bU kD ?_;rintro _ σ' ⟨q4,rfl,rfl⟩ h8
 replace h8:=cL h8;repeat rcases h8 with⟨_,h8⟩
 refine zN ?_;refine lE ?_;refine kK ?_;refine nA ?_;refine lG rfl rfl Tryz.call108 (fun _=>(AE QG ls (fun _ _=>True.intro) 32)) rfl aR bB ?_;refine rX ?_;refine oG ?_;refine lG rfl rfl Tryz.call110 (fun _=>(aFk aI5 bd (fun _ _=>True.intro) 300)) rfl aR bB ?_;refine kL ?_;exact aE aF ⟨by unfold tK;dsimp only;cases xF (cU bd)<;>cases cO ls 32 zZ<;>rfl,rfl⟩ aA
theorem XU(m:Md)(hw:m.W):SCall Tryz.prog 112 [.agg (bR m)] [] (fun r σ'=>r=.bool (qG m)∧σ'=[]):=by
 obtain⟨h1,h2,h3,h4,hd5⟩:=hw;obtain⟨ty,im,fn,tb,me,gl,ex,el,co,da⟩:=m;dsimp only at h1 h2 h3 h4;have hE:∀(a b c d e f g:Bool),(if(if(if(if(if(if a=true then b else false)=true then c else false)=true then d else false)=true then e else false)=true then f else false)=true then g else false)=(a&&b&&c&&d&&e&&f&&g):=by
  intro a b c d e f g;cases a<;>cases b<;>cases c<;>cases d<;>cases e<;>cases f<;>rfl
 refine cF 54 [0,1,2,3,4,5,6,7,8,9] Tryz.func112 ?_;unfold bR;refine dX ?_;apply bx;rfl;rfl;exact wY;rfl;refine bL fun r1 h1=> ?_;repeat rcases h1 with⟨_,h1⟩
 refine iW ?_;refine oL Tryz.call221 (aIH aLe ty (fun _ _=>True.intro) 16) rfl aR bB ?_;refine iW ?_;refine oL Tryz.call223 (aIO aLf im h1 16) rfl aR bB ?_;refine iW ?_;refine fW ?_;refine kU ?_;refine tA ?_;refine oL Tryz.call108 (AE UY fn (fun _ _=>True.intro) _) rfl aR bB ?_;refine iW ?_;refine oL Tryz.call227 (aIR aLg gl (fun _ _=>True.intro) 16) rfl aR bB ?_;refine iW ?_;refine oL Tryz.call230 (aIU aLh ex h2 16) rfl aR bB ?_;refine iW ?_;refine oL Tryz.call232 (aIX aLi el (fun _ _=>True.intro) 16) rfl aR bB ?_;refine iW ?_;refine oL Tryz.call235 (aI3 aLj da (fun _ _=>True.intro) 16) rfl aR bB ?_;refine lK ?_;refine pW ?_;refine rX ?_;refine jL ?_;refine rX ?_;refine jL ?_;refine rX ?_;refine jL ?_;refine rX ?_;refine jL ?_;refine rX ?_;refine jL ?_;refine kL ?_;exact aE aF ⟨by simp only[gU];rw[hE];rfl,rfl⟩ aA
structure Md.WO (m:Md):Prop where
 w:m.W
 ok:m.Ok
theorem HE(m:Md)(h:m.WO):SCall Tryz.prog 51 [.agg (bR m)] [] (fun r σ'=>r=.bool (nR m)∧σ'=[]):=by
 have hM:=wS m;have hA:qZ m=((if((m.co.length:Int)==(m.fn.length:Int))=true then cO m.co 16 tK else false)&&qG m&&lP m.tb 16 1000&&lP m.me 16 65536):=by
  unfold qZ;rw[nE,show((m.co.length:Int)==(m.fn.length:Int))=(m.co.length==m.fn.length) by rw[Bool.eq_iff_iff];simp only[beq_iff_eq];omega]
 have hL:decide ((fH m).length≤8000)=decide (((fH m).length:Int)≤8000):=decide_eq_decide.2 (by omega);rw[hL]at hM;refine cF 37 [0,1,2,3] Tryz.func51 ?_;refine dX ?_;refine iQ fun r1 h1=> ?_;intros
 refine dE ?_;have hwr:=fun h'=>AD m h' h.ok
 obtain⟨⟨h1,h2,h3,h4,hd5⟩,h5⟩:=h;obtain⟨ty,im,fn,tb,me,gl,ex,el,co,da⟩:=m;have hli:=XU ⟨ty,im,fn,tb,me,gl,ex,el,co,da⟩ ⟨h1,h2,h3,h4,hd5⟩;dsimp only at h1 h2 h3 h4 hA hM;refine mK ?_;refine kU ?_;refine fW ?_;refine kU ?_;refine CX ?_;refine lG rfl rfl Tryz.call106 (fun _=>(aI0 aLk co h3 16)) rfl aR bB ?_;refine kL ?_;by_cases hc:qZ ⟨ty,im,fn,tb,me,gl,ex,el,co,da⟩=true
 ·have hc2:=hc;rw[hA]at hc2;simp only[Bool.and_eq_true]at hc2;obtain⟨⟨⟨e1,e2⟩,e3⟩,e4⟩:=hc2;rw[e2]at hli;have hl1:=rD tb 16 1000;have hl2:=rD me 16 65536;rw[e3]at hl1;rw[e4]at hl2;have hE:nR ⟨ty,im,fn,tb,me,gl,ex,el,co,da⟩=decide (((fH ⟨ty,im,fn,tb,me,gl,ex,el,co,da⟩).length:Int)≤8000):=by rw[hM,hc];rfl
  rw[e1];refine kK ?_;refine aEv ?_;refine gy rfl rfl ?_;refine oL Tryz.call112 hli rfl aR bB ?_;refine rX ?_;refine PB ?_;refine KL ?_;refine gy rfl rfl ?_;refine oL Tryz.call113 hl1 rfl aR bB ?_;refine rX ?_;refine PB ?_;refine KL ?_;refine gy rfl rfl ?_;refine oL Tryz.call113 hl2 rfl aR bB ?_;refine rX ?_;refine zL ?_;refine gy rfl rfl ?_;refine rY Tryz.call56 (hwr hc) rfl bU kD ?_;rintro _ σ' ⟨q33,rfl,rfl⟩ h33
  replace h33:=cL h33;repeat rcases h33 with⟨_,h33⟩
  apply aY;exact bN;refine qU ?_;refine OZ ?_;refine kL ?_;exact aE aF ⟨by rw[hE];rfl,rfl⟩ aA
 ·rw[Bool.not_eq_true]at hc;have hE:nR ⟨ty,im,fn,tb,me,gl,ex,el,co,da⟩=false:=by rw[hM,hc];rfl
  rw[hc]at hA;simp only[←nE]at hA;refine kK ?_;refine aEv ?_;refine lG rfl rfl Tryz.call112 (fun _=>hli) rfl aR bB ?_;refine rX ?_;refine PB ?_;refine KL ?_;refine lG rfl rfl Tryz.call113 (fun _=>(rD tb 16 1000)) rfl aR bB ?_;refine rX ?_;refine PB ?_;refine KL ?_;refine lG rfl rfl Tryz.call113 (fun _=>(rD me 16 65536)) rfl aR bB ?_;refine rX ?_;rw[←hA];refine zL ?_;refine ln rfl rfl rfl rfl ?_;refine qU ?_;refine OZ ?_;refine kL ?_;exact aE aF ⟨by rw[hE];rfl,rfl⟩ aA
def oN (m:Md):List Nat:=if nR m=true then fH m else []
theorem VA{m:Md}(h:nR m=true):qZ m=true∧(fH m).length≤8000:=by
 rw[wS]at h;simpa using h
theorem vX(m:Md)(h:m.WO):SCall Tryz.prog 18 [.agg (bR m)] [] (fun y σ=>∃r,y=.own r 0 (oN m).length∧σ=[(r,.arr 5 1 ((oN m).map aG))]):=by
 have hm:=HE m h;have hw:=fun h'=>AD m h' h.ok
 refine cF 8 [0,1,2,5] Tryz.func18 ?_;refine dX ?_;refine iQ fun r1 h1=> ?_;intros
 refine dE ?_;obtain⟨ty,im,fn,tb,me,gl,ex,el,co,da⟩:=m;refine jQ ?_;refine oS ?_;refine oL Tryz.call51 hm rfl aR bB ?_;refine qV ?_;refine aB rfl (fun g1=> ?_) (fun g1=> ?_)
 ·refine dX ?_;refine oZ ?_;have hE:oN ⟨ty,im,fn,tb,me,gl,ex,el,co,da⟩=[]:=by unfold oN;rw[if_neg];intro e;rw[e]at g1;cases g1
  refine bW 2 5 1 (by decide) rfl (by decide) (bL fun q2 hq2=> ?_);repeat rcases hq2 with⟨_,hq2⟩
  refine aJ ?_;exact aE aF ⟨q2,by rw[hE];rfl,by rw[hE]⟩ aA
 have hy:nR ⟨ty,im,fn,tb,me,gl,ex,el,co,da⟩=true:=by simpa using g1
 have hE:oN ⟨ty,im,fn,tb,me,gl,ex,el,co,da⟩=fH ⟨ty,im,fn,tb,me,gl,ex,el,co,da⟩:=by unfold oN;rw[if_pos hy]
 refine qB ?_;refine rY Tryz.call56 (hw (VA hy).1) rfl bU kD ?_;rintro _ σ' ⟨r7,rfl,rfl⟩ h7
 replace h7:=cL h7;repeat rcases h7 with⟨_,h7⟩
 refine eZ ?_;exact aE aF ⟨r7,by rw[hE];rfl,by rw[hE]⟩ aA
theorem aI6(n:Nat)(hn:n<4294967296):IntKind.u64.wrap ↑(BitVec.ofInt IntKind.u64.bits (n:Int)&&&BitVec.ofInt IntKind.u64.bits 4294967295).toNat=n:=by
 have h1:(BitVec.ofInt IntKind.u64.bits (n:Int)).toNat=n:=by
  rw[BitVec.toNat_ofInt];simp[IntKind.bits];omega
 have h2:(BitVec.ofInt IntKind.u64.bits 4294967295).toNat=2^32-1:=by decide
 rw[BitVec.toNat_and,h1,h2,Nat.and_two_pow_sub_one_eq_mod,Nat.mod_eq_of_lt (by omega),IntKind.wrap_u64];omega
theorem aLl(n:Nat)(hn:n<4294967296):((n:Int)).fdiv (2^min (Int.toNat 32) IntKind.u64.bits)=0:=by
 have:(2:Int)^min (Int.toNat 32) IntKind.u64.bits=4294967296:=by decide
 rw[this,Int.fdiv_eq_ediv_of_nonneg _ (by omega)];omega
theorem aC0(n:Nat)(hn:n<18446744073709551616):IntKind.u64.wrap (n:Int)=n:=by rw[IntKind.wrap_u64];omega
theorem NO(n:Nat)(hn:n<4294967296):SCall Tryz.prog 306 [.int .u64 1,.int .u64 n] [] (fun x σ=>x=.tup [.int .u64 0,.int .u64 n]∧σ=[]):=by
 refine cF 51 [0,1,4,5,6,7,8,9,10,11,12,13] Tryz.func306 ?_;refine dX ?_;refine mZ ?_;refine lo (iX (E rfl) (E rfl)) rfl ?_;refine hZ ?_;refine z2 ?_;refine hZ ?_;refine lo (iX (E rfl) (E rfl)) rfl ?_;refine hZ ?_;refine z2 ?_;refine lK ?_;refine lo (yX (E rfl) (E rfl)) rfl ?_;refine lK ?_;refine lo (yX (E rfl) (E rfl)) rfl ?_;refine lo (aD (E rfl)) rfl ?_;refine z2 ?_;refine lo (rB (E rfl) (E rfl)) rfl ?_;refine hZ ?_;refine lo (iX (E rfl) (E rfl)) rfl ?_;refine hZ ?_;refine z2 ?_;refine lK ?_;refine lo (aD (E rfl)) rfl ?_;refine lo (yX (E rfl) (E rfl)) rfl ?_;refine lo (rB (E rfl) (E rfl)) rfl ?_;refine lK ?_;refine lo (yX (E rfl) (E rfl)) rfl ?_;refine lo (aD (E rfl)) rfl ?_;refine lo (rB (E rfl) (E rfl)) rfl ?_;refine lo (aD (E rfl)) rfl ?_;refine z2 ?_;refine lo (rB (E rfl) (E rfl)) rfl ?_;refine lK ?_;refine lo (yX (E rfl) (E rfl)) rfl ?_;refine dE ?_;have e0:=aI6 n hn;have e1:IntKind.u64.wrap ↑(BitVec.ofInt IntKind.u64.bits 1&&&BitVec.ofInt IntKind.u64.bits 4294967295).toNat=1:=aI6 1 (by decide);have e2:=aLl n hn;have e3:Int.fdiv 1 (2^min (Int.toNat 32) IntKind.u64.bits)=0:=aLl 1 (by decide);have e4:=aC0 n (by omega);have e5:IntKind.u64.wrap 0=0:=by decide
 have e6:Int.fdiv 0 (2^min (Int.toNat 32) IntKind.u64.bits)=0:=by decide
 have e7:IntKind.u64.wrap ↑(BitVec.ofInt IntKind.u64.bits 0&&&BitVec.ofInt IntKind.u64.bits 4294967295).toNat=0:=aI6 0 (by decide);apply aE;exact aF;refine⟨?_,rfl⟩;simp only[gU,e0,e1,e2,e3,e4,e5,e6,e7,Int.zero_mul,Int.mul_zero,Int.one_mul,Int.add_zero,Int.zero_add];exact aA
theorem aAd(n:Nat)(hn:n<4294967296):SCall Tryz.prog 278 [.int .u64 1,.int .u64 n] [] (fun x σ=>x=.tup [.int .u64 0,.int .u64 n]∧σ=[]):=by
 refine cF 30 [0,1,4,5,6,7,8,9] Tryz.func278 ?_;refine dX ?_;refine lE ?_;refine kK ?_
 (first|refine pu [] Tryz.call306 (NO n hn) rfl cH bB ?_ |refine zE [] rfl rfl Tryz.call306 (fun _=>(NO n hn)) rfl cH bB ?_);refine yA ?_;refine lE ?_;refine kK ?_;refine lE ?_;apply aE;exact aF;exact⟨rfl,rfl⟩;exact aA
theorem aC1{α:Type}(a z:α)(n k:Nat)(hk:k≤n):List.replicate (k+min k (n-k)) a++List.replicate (n-(k+min k (n-k))) z=
  List.take (0+k) (List.replicate k a++List.replicate (n-k) z)++List.take (min k (n-k)) (List.take (k-0) (List.drop (0+0) (List.replicate k a++List.replicate (n-k) z)))++List.drop (0+k+min k (n-k)) (List.replicate k a++List.replicate (n-k) z):=by
 generalize hm:min k (n-k)=m;have h1:m≤k:=by omega
 have h2:k+m≤n:=by omega
 have t1:List.take k (List.replicate k a++List.replicate (n-k) z)=List.replicate k a:=by rw[List.take_append_of_le_length (by simp)];simp
 have t2:List.drop (k+m) (List.replicate k a++List.replicate (n-k) z)=List.replicate (n-(k+m)) z:=by
  rw[List.drop_append,List.drop_of_length_le (by simp),List.nil_append,List.length_replicate,List.drop_replicate]
  congr 1
  omega
 rw[Nat.zero_add,Nat.sub_zero,Nat.add_zero,List.drop_zero,t1,t2,List.take_replicate,Nat.min_eq_left h1,List.replicate_append_replicate]
theorem HF{v:AV}(hv:v.cell=true)(n:Nat)(hn:n≤100000):SCall Tryz.prog 207 [.ro 1 [[v]] .any,.int .i64 n] [] (fun x σ=>∃r,x=.own r 0 n∧σ=[(r,.arr 3 1 (List.replicate n [v]))]):=by
 refine cF 48 [0,1,4,5,6,7,8,10,26,37] Tryz.func207 ?_;refine iD ?_;refine lo (iB (E rfl) (E rfl)) rfl ?_;refine iF ?_;refine dM ?_;refine kU ?_;refine XA ?_;refine lo (aD (E rfl)) rfl ?_;refine XA ?_
 (first|refine pu [] Tryz.call278 (aAd n (by omega)) rfl cH bB ?_ |refine zE [] rfl rfl Tryz.call278 (fun _=>(aAd n (by omega))) rfl cH bB ?_);refine yA ?_;refine mZ ?_;refine lo (kV (E rfl) (E rfl)) rfl ?_;refine xK ?_;refine z18 ?_;refine z13 ?_;refine lD ?_;refine aB rfl (fun h=> ?_) (fun _=> ?_)
 ·simp at h;omega
 refine dM ?_;refine z44 ?_;apply mk;rfl;rfl;rfl;rfl;omega;(simp[maxLen];omega);exact wY;rfl;refine jZ fun r30 h30=> ?_;intros
 refine lK ?_;apply cp (m:=min 1 n) (es':=List.replicate (min 1 n) [v]++List.replicate (n-min 1 n) [.int .i64 0]);rfl;exact cA;simp;exact .inl ⟨_,rfl⟩;rfl
 ·rcases n with _ |n<;>simp[List.replicate_succ]
 ·rfl
 refine dE ?_;refine lp (β:=Nat×Nat) (fun b=>⟨[(7,.own b.1 0 n),(8,.int .i64 b.2)],[(b.1,.arr 3 1 (List.replicate b.2 [v]++List.replicate (n-b.2) [.int .i64 0]))]⟩) (fun b=>b.2≤n∧(0<n→0<b.2)) (fun b=>n-b.2) (r30,min 1 n) ?_ ⟨by show min 1 n≤n;omega,fun h=>by show 0<min 1 n;omega⟩ ?_
 ·exact aL
 rintro⟨r,k⟩ ⟨hk,hk0⟩;simp only at hk hk0⊢;refine eX ?_;refine GO ?_;refine aB rfl (fun h1=> ?_) (fun h1=> ?_)
 ·simp at h1;refine aJ ?_;refine fM [(0,true),(1,true),(2,true),(3,true),(4,true),(5,true),(6,true),(7,false),(8,true),(9,true)] ?_;refine BP ?_;refine fI rfl (aD (E rfl)) rfl ?_;refine z84 ?_;refine BP ?_;refine z25 ?_;apply dcp (m:=min k (n-k)) (es':=List.replicate (k+min k (n-k)) [v]++List.replicate (n-(k+min k (n-k))) [.int .i64 0]);rfl;infer_instance;infer_instance;rfl;exact cA
  ·first|(simp;done)|(simp;omega)
  ·exact .inr (.inr ⟨_,_,_,_,_,rfl,bA,by simp,rfl⟩)
  ·first|(simp;done)|(simp;omega)
  ·exact aC1 _ _ _ _ hk
  ·rfl
  ·exact fV
  refine aEw ?_;refine yB ?_;refine⟨(r,k+min k (n-k)),⟨by show k+min k (n-k)≤n;omega,fun h=>by show 0<k+min k (n-k);omega⟩,by show n-(k+min k (n-k))<n-k;omega, ?_⟩;exact aL
 ·obtain rfl:k=n:=by simp at h1;omega
  refine fA ?_;exact aE aF ⟨r,by rfl,rfl⟩ aA
theorem HG{es:List (List AV)}(hn:es.length≤1000000):SCall Tryz.prog 267 [.ro 1 es .any] [] (fun x σ=>∃r,x=.own r 0 es.length∧σ=[(r,.arr 5 1 es)]):=by
 refine cF 8 [0,2,4] Tryz.func267 ?_;refine iD ?_;refine ne rfl rfl rfl fun b hb _=> ?_
 refine iF ?_;cases b
 ·refine dX ?_;refine eN fun r5 h5=> ?_;intros
  refine lo (aD (E rfl)) rfl ?_;apply ap;rfl;rfl;exact bA;rfl;exact .inl ⟨_,rfl⟩;exact List.nil_append _;exact(Nat.zero_add _).symm;(simp[maxLen];omega);omega;rfl;refine bH fun r7 h7=> ?_;intros
  refine dE ?_;exact aE aF ⟨_,by rfl,rfl⟩ aA
 ·obtain rfl:=hb rfl;refine dX ?_;refine oZ ?_;refine bW (ks:=[0,2,4]) 2 5 1 (by decide) rfl (by decide) fun r hr=> ?_
  refine aJ ?_;exact aE aF ⟨_,by rfl,rfl⟩ aA
def SOk (s:St):Prop:=s.1.length≤100000∧∀x∈s.1,x<256
theorem SOk.drop {s:St}(h:SOk s)(n:Nat)(b:Bool):SOk (s.1.drop n,b):=⟨by simp;have:=h.1;omega,fun x hx=>h.2 x (List.mem_of_mem_drop hx)⟩
theorem SOk.bad {s:St}(h:SOk s)(b:Bool):SOk (s.1,b):=h
def Kp {α:Type} (get:St→α×St):Prop:=∀s,SOk s→SOk (get s).2
theorem NP{s:St}(h:SOk s)(n:Int)(ok:Bool):SOk (uU s n ok):=by
 unfold uU;dsimp only;split
 ·exact h.bad _
 ·exact h.drop _ _
theorem iN:Kp gI:=fun s h=>NP h _ _
theorem nF:Kp kY:=fun s h=>by
 unfold kY;split
 ·exact h.bad _
 ·exact h.drop _ _
theorem DD:Kp AA:=fun s h=>NP (iN s h) _ _
theorem aHs{α:Type}{get:St→α×St}(hg:Kp get):∀n s,SOk s→SOk (jW get n s).2
 |0,s,h=>h
 |n+1,s,h=>by
  rw[jW];split
  ·exact h
  ·exact aHs hg n _ (hg s h)
theorem sP{α:Type}{get:St→α×St}(hg:Kp get):Kp (fQ get):=fun s h=>aHs hg _ _ (iN s h)
theorem xS:Kp vW:=fun s h=>by
 have:=nF s h;unfold vW;dsimp only;split
 ·exact this
 ·split
  ·exact this
  ·exact this.bad _
theorem aHt:Kp SP:=fun s h=>by unfold SP;exact nF _ (NP h _ _)
theorem VC:Kp SQ:=fun s h=>by unfold SQ;exact aHt _ (nF s h)
theorem aHu:Kp ZZ:=fun s h=>by
 have h1:=iN _ (nF s h);unfold ZZ;dsimp only;split
 ·exact iN _ h1
 ·exact h1
theorem aHv:∀n s l,SOk s→SOk (XS n s l).2
 |0,s,l,h=>h
 |n+1,s,l,h=>by
  rw[XS];split
  ·exact h
  ·dsimp only;split
   ·exact(xS _ (iN s h)).bad _
   ·exact aHv n _ _ (xS _ (iN s h))
theorem aC2:Kp yK:=fun s h=>aHv _ _ _ (iN s h)
theorem aC3:Kp QC:=fun s h=>by
 have h1:=aC2 _ (iN s h);unfold QC;dsimp only;split
 ·exact h1
 ·exact NP h1 _ _
theorem aHw:Kp tyN:=fun s h=>sP xS _ (sP xS _ (nF s h))
theorem aC4:Kp inN:=fun s h=>iN s h
theorem aC5:Kp imN:=fun s h=>iN _ (nF _ (DD _ (DD s h)))
theorem aC6:Kp glN:=fun s h=>aHt _ (nF _ (xS s h))
theorem aC7:Kp exN:=fun s h=>iN _ (nF _ (DD s h))
theorem aHx(b:Bool):Kp (tbN b):=fun s h=>by
 unfold tbN;cases b
 ·exact aHu _ h
 ·exact aHu _ (nF s h)
theorem aHy(b:Bool):Kp (UO b):=fun s h=>sP (aHx b) s h
theorem aHz:Kp eeN:=fun s h=>sP aC4 _ (VC s h)
theorem aC8:Kp ddN:=fun s h=>DD _ (VC s h)
def dH (s:St):List AV:=[.ro 1 (s.1.map aG) .any,.bool s.2]
theorem AF(r:Nat)(s:St)(hs:SOk s)(n:Nat)(ok:Bool):SCall Tryz.prog 66 [.ptr r 0,.int .i64 n,.bool ok] [(r,.box 117 (dH s))]
  (fun x σ=>x=.tup []∧σ=[(r,.box 117 (dH (uU s n ok)))]):=by
 obtain⟨l,bad⟩:=s;obtain⟨hl,hlt⟩:=hs;dsimp only at hl hlt;have hB:(if(if bad=true then true else !ok)=true then true else decide ((l.length:Int)<n))=(bad|| !ok||decide ((l.length:Int)<n)):=by cases bad<;>cases ok<;>rfl
 refine cF 40 [0,1,2,30] Tryz.func66 ?_;unfold dH;dsimp only;refine eX ?_;refine kG ?_;refine jL ?_;refine vF ?_;refine rM ?_;refine jL ?_;refine pW ?_;refine ZC ?_;refine qU ?_;refine aMy ?_;refine rM ?_;refine z76 ?_;rw[hB];refine wL ?_;refine lW ?_;generalize hb:(bad|| !ok||decide ((l.length:Int)<n))=B;refine iC ?_;refine kG ?_;refine qV ?_;refine aB rfl (fun g1=> ?_) (fun g1=> ?_)
 ·obtain rfl:B=false:=by simpa using g1
  have hn:n≤l.length:=by simp at hb;omega
  have hE:uU (l,bad) n ok=(l.drop n,false):=by unfold uU;dsimp only;rw[hb];rfl
  refine eX ?_;refine kG ?_;refine lo (aD (E rfl)) rfl ?_;refine aHU ?_;refine uO ?_;rw[UH];refine lW ?_;refine bY ?_;exact aE aF ⟨by rfl,by rw[hE]⟩ aA
 obtain rfl:B=true:=by simpa using g1
 have hE:uU (l,bad) n ok=(l,true):=by unfold uU;dsimp only;rw[hb];rfl
 refine aJ ?_;refine bY ?_;exact aE aF ⟨by rfl,by rw[hE]⟩ aA
theorem jN(r:Nat)(s:St)(hs:SOk s):SCall Tryz.prog 68 [.ptr r 0] [(r,.box 117 (dH s))]
  (fun x σ=>x=.int .i64 ((gI s).1:Nat)∧σ=[(r,.box 117 (dH (gI s).2))]):=by
 have hgb:=zQ s.1;have hsk:=fun n ok=>AF r s hs n ok
 obtain⟨l,bad⟩:=s;obtain⟨hl,hlt⟩:=hs;dsimp only at hl hlt hgb;refine cF 26 [0,2,3,4,5,23] Tryz.func68 ?_;unfold dH;dsimp only;refine iD ?_;refine kG ?_;refine oL Tryz.call166 (aG2 l (by omega) hlt) rfl aR bB ?_;refine yA ?_;refine lo (mF (E rfl) rfl) rfl ?_;refine oF ?_;refine MW ?_;refine lo (dI (E rfl) (E rfl)) rfl ?_;refine cw [(r,.box 117 (dH (l,bad)))] Tryz.call66 (hsk (lN l).2.1 ((lN l).2.2==0)) rfl aC aA ?_;rintro _ σ' ⟨rfl,rfl⟩ h19;refine gX ?_;have hN:gI (l,bad)=(if(uU (l,bad) (lN l).2.1 ((lN l).2.2==0)).2 then 0 else(lN l).1,uU (l,bad) (lN l).2.1 ((lN l).2.2==0)):=rfl;generalize uU (l,bad) (lN l).2.1 ((lN l).2.2==0)=s2 at hN⊢;obtain⟨l2,b2⟩:=s2;unfold dH;dsimp only at hN⊢;refine iC ?_;refine kG ?_;refine lD ?_;refine aB rfl (fun g3=> ?_) (fun g3=> ?_)
 ·have hE:gI (l,bad)=(0,(l2,true)):=by rw[hN,g3];rfl
  rw[g3];refine bM ?_;exact aE aF ⟨by rw[hE];rfl,by rw[hE]⟩ aA
 have hE:gI (l,bad)=((lN l).1,(l2,false)):=by rw[hN,g3];rfl
 rw[g3];refine dM ?_;refine z44 ?_;refine dE ?_;exact aE aF ⟨by rw[hE];rfl,by rw[hE]⟩ aA
theorem oB(r:Nat)(s:St)(hs:SOk s):SCall Tryz.prog 67 [.ptr r 0] [(r,.box 117 (dH s))]
  (fun x σ=>x=.int .u8 ((kY s).1:Nat)∧σ=[(r,.box 117 (dH (kY s).2))]):=by
 obtain⟨l,bad⟩:=s;obtain⟨hl,hlt⟩:=hs;dsimp only at hl hlt;refine cF 34 [0,2,3,15] Tryz.func67 ?_;unfold dH;dsimp only;refine iD ?_;refine kG ?_;refine jL ?_;refine ZC ?_;refine qU ?_;refine xY ?_;refine lL ?_;refine aB rfl (fun g1=> ?_) (fun g1=> ?_)
 ·have hE:kY (l,bad)=(0,(l,true)):=by unfold kY;rw[if_pos];cases bad;(cases l with|nil=>rfl|cons x t=>simp at g1;omega);rfl
  refine xP ?_;refine bM ?_;exact aE aF ⟨by rw[hE];rfl,by rw[hE]⟩ aA
 obtain⟨c,t,rfl⟩:∃c t,l=c::t:=by cases l with|nil=>(cases bad<;>simp at g1)|cons c t=>exact⟨c,t,rfl⟩
 obtain rfl:bad=false:=by cases bad with|false=>rfl|true=>simp at g1
 have hE:kY (c::t,false)=(c,(t,false)):=rfl;have hpos:0<(c::t).length:=Nat.succ_pos _;have hx:(c::t)[(0:Int).toNat]? =some c:=rfl;refine oK ?_;refine mI ?_;refine lK ?_;refine kG ?_;refine aHU ?_;refine uO ?_;rw[show List.take (((c::t).map aG).length-1) (List.drop 1 ((c::t).map aG))=t.map aG by rw[List.map_cons,List.drop_one,List.tail_cons];exact List.take_of_length_le (by simp)];refine pX ?_;refine fA ?_;exact aE aF ⟨by rw[hE];rfl,by rw[hE]⟩ aA
theorem aC9(r:Nat)(s:St)(hs:SOk s):SCall Tryz.prog 184 [.ptr r 0] [(r,.box 117 (dH s))]
  (fun x σ=>∃q,Nq q r∧x=.own q 0 (AA s).1.length∧σ=[(q,.arr 5 1 ((AA s).1.map aG)),(r,.box 117 (dH (AA s).2))]):=by
 have h1:=jN r s hs;have k1:=iN s hs;have hR:AA s=(if(uU (gI s).2 (gI s).1 true).2 then []else(gI s).2.1.take (gI s).1,uU (gI s).2 (gI s).1 true):=rfl;generalize gI s=p at h1 k1 hR;obtain⟨n,s1⟩:=p;dsimp only at h1 k1 hR;have h2:=AF r s1 k1 n true;have hk:(uU s1 n true).2=false→n≤s1.1.length:=fun h=>by unfold uU at h;dsimp only at h;simp at h;omega
 generalize uU s1 n true=s2 at h2 hR hk;obtain⟨l1,b1⟩:=s1;obtain⟨l2,b2⟩:=s2;have hl1:l1.length≤100000:=k1.1;dsimp only at hR hk;rw[hR];refine cF 22 [0,2,3,4,17] Tryz.func184 ?_;refine iD ?_;refine cw [(r,.box 117 (dH s))] Tryz.call68 h1 rfl aC aA ?_;rintro _ σ' ⟨rfl,rfl⟩ h6;refine eZ ?_;unfold dH;dsimp only;refine iC ?_;refine kG ?_;refine lK ?_;refine cw [(r,.box 117 (dH (l1,b1)))] Tryz.call66 h2 rfl aC aA ?_;rintro _ σ' ⟨rfl,rfl⟩ h13;refine gX ?_;unfold dH;dsimp only;refine iC ?_;refine kG ?_;refine lD ?_;refine aB rfl (fun g4=> ?_) (fun g4=> ?_)
 ·have hE:(if b2=true then []else l1.take n)=[]:=if_pos g4;rw[hE,g4];refine dX ?_;refine oZ ?_;refine bW 2 5 1 (by decide) rfl (by decide) (bL fun q hq=> ?_);repeat rcases hq with⟨_,hq⟩
  refine aJ ?_;exact aE aF ⟨q,by(exact bV),by rfl,rfl⟩ aA
 have hE:(if b2=true then []else l1.take n)=l1.take n:=if_neg (by rw[g4];simp);have hn:=hk g4;rw[hE,g4];refine eX ?_;refine aEo ?_;rw[show List.take (n-0) (List.drop 0 (l1.map aG))=(l1.take n).map aG by rw[List.drop_zero,Nat.sub_zero,List.map_take]];refine rY Tryz.call267 (HG (es:=(l1.take n).map aG) (by simp;omega)) rfl bU kD ?_;rintro _ σ' ⟨q,rfl,rfl⟩ h21
 replace h21:=cL h21;repeat rcases h21 with⟨_,h21⟩
 refine eZ ?_;rw[List.length_map];exact aE aF ⟨q,by(exact bV),by rfl,rfl⟩ aA
end Go.Proofs.YtjpdadobblffmaaGreat
