import Derived.Test.YtjpdadobblffmaaGreatVA3
import Derived.Lib.ConvBytes
import Derived.Test.YtjpdadobblffmaaGreatVA2
set_option linter.unusedSimpArgs false
set_option linter.unusedVariables false
set_option maxRecDepth 100000
set_option maxHeartbeats 4000000
namespace Go.Proofs.YtjpdadobblffmaaGreat
open Go.RowKit Go.ChangeShapes Go.WideShapes Go.ChangeAt Go.Deep
def lC (r:List Int):List AV:=[.ro 1 (r.map aR) .any]
theorem EO{f:FuncId}{pt:Int→List Nat}{ok:Int→Prop}{c B:Nat}(hf:iT Tryz.prog 5 f (fun n=>.int .i64 n) pt ok c B)(hB:B≤50000000)(q:Nat)(vs:List Nat)(l:List Int)(hok:∀x∈l,ok x)(hl:l.length≤1000)(hb:vs.length+10+l.length*c≤B):
  SCall Tryz.prog 131 [.own q 0 vs.length,.ro 1 (l.map aR) .any,.fn (.func f) [] []] [(q,.arr 5 1 (vs.map aH))] (fun y σ=>∃r,y=.own r 0 (vs++bD l pt).length∧σ=[(r,.arr 5 1 ((vs++bD l pt).map aH))]):=by
 have hu:=bR 1 l.length (by omega);have hup:=iI l.length;have hpc:=gQ hf (by omega) hok;refine cC 25 [0,1,2,6,8,13,14,15,16] Tryz.func131 ?_;refine mY ?_;refine pH ?_;refine cw [(q,.arr 5 1 (vs.map aH))] Tryz.call135 (eI q vs (by omega) l.length (by omega)) rfl aC aA ?_;rintro _ σ' ⟨r12,rfl,rfl⟩ h12;have k12:=bB h12;repeat rcases k12 with⟨_,k12⟩
 refine eR ?_;refine eU ?_;refine qP ?_;refine lp (β:=Nat×Nat) (fun b=>⟨[(0,.own b.1 0 (vs++uB l.length++(l.take b.2).flatMap pt).length),(2,.fn (.func f) [] []),(13,.ro 1 (l.map aR) .any),(14,.int .i64 l.length),(15,.int .i64 b.2)],[(b.1,.arr 5 1 ((vs++uB l.length++(l.take b.2).flatMap pt).map aH))]⟩) (fun b=>b.2≤l.length) (fun b=>l.length-b.2) (r12,0) (by dsimp only;rw[show vs++uB l.length++(l.take 0).flatMap pt=vs++uB l.length by simp];(exact aJ)) (Nat.zero_le _) ?_;rintro⟨q1,j⟩ hj;have hpj:=hpc j;have hsl:(vs++uB l.length++(l.take j).flatMap pt).length=vs.length+(uB l.length).length+((l.take j).flatMap pt).length:=by simp[Nat.add_assoc]
 dsimp only at hj⊢;refine jL ?_;refine aB rfl (fun g3=> ?_) (fun g3=> ?_)
 ·have hlt:j<l.length:=by simp at g3;omega
  obtain⟨x,hx⟩:∃x,l[j]? =some x:=⟨_,List.getElem?_eq_getElem hlt⟩
  have hnx:vs++uB l.length++(l.take (j+1)).flatMap pt=vs++uB l.length++(l.take j).flatMap pt++pt x:=by rw[List.take_add_one,hx,List.flatMap_append];simp
  refine dG ?_;refine mJ ?_;refine cZ ?_;refine yD ?_;refine qE [(q1,.arr 5 1 ((vs++uB l.length++(l.take j).flatMap pt).map aH))] rfl hf.1 (hf.2 q1 _ x (hok x (List.mem_of_getElem? hx)) (by omega) (by omega)).2 rfl aC aA ?_;rintro _ σ' ⟨r22,rfl,rfl⟩ h22;have k22:=bB h22;repeat rcases k22 with⟨_,k22⟩
  refine uF ?_;refine⟨(r22,j+1),hlt,by show l.length-(j+1)<l.length-j;omega, ?_⟩;dsimp only;rw[hnx];exact aJ
 obtain rfl:j=l.length:=by simp at g3;omega
 refine fF ?_;rw[show vs++uB l.length++(l.take l.length).flatMap pt=vs++bD l pt by rw[List.take_length,List.append_assoc];rfl];exact aD aE ⟨q1,by rfl,rfl⟩ aA
theorem aB7{f:FuncId}{pt:Int→List Nat}{ok:Int→Prop}{c B:Nat}(hf:iT Tryz.prog 5 f (fun n=>.int .i64 n) pt ok c B)(hB:B≤50000000)(l:List Int)(hok:∀x∈l,ok x)(hl:l.length≤1000)(hb:10+l.length*c≤B):
  SCall Tryz.prog 131 [.ro 0 [] .nil,.ro 1 (l.map aR) .any,.fn (.func f) [] []] [] (fun y σ=>∃r,y=.own r 0 (bD l pt).length∧σ=[(r,.arr 5 1 ((bD l pt).map aH))]):=
 iJ (e:=5) (sz:=1) (by decide) fun q _=>EO hf hB q [] l hok hl (by simpa using hb)
theorem aEB{f:FuncId}{pt:(List Int)→List Nat}{ok:(List Int)→Prop}{c B:Nat}(hf:iT Tryz.prog 5 f (fun r=>.ro 1 (r.map aR) .any) pt ok c B)(hB:B≤50000000)(q:Nat)(vs:List Nat)(l:List (List Int))(hok:∀x∈l,ok x)(hl:l.length≤1000)(hb:vs.length+10+l.length*c≤B):
  SCall Tryz.prog 246 [.own q 0 vs.length,.ro 1 (l.map lC) .any,.fn (.func f) [] []] [(q,.arr 5 1 (vs.map aH))] (fun y σ=>∃r,y=.own r 0 (vs++bD l pt).length∧σ=[(r,.arr 5 1 ((vs++bD l pt).map aH))]):=by
 have hu:=bR 1 l.length (by omega);have hup:=iI l.length;have hpc:=gQ hf (by omega) hok;refine cC 25 [0,1,2,6,8,13,14,15,16] Tryz.func246 ?_;refine mY ?_;refine pH ?_;refine cw [(q,.arr 5 1 (vs.map aH))] Tryz.call135 (eI q vs (by omega) l.length (by omega)) rfl aC aA ?_;rintro _ σ' ⟨r12,rfl,rfl⟩ h12;have k12:=bB h12;repeat rcases k12 with⟨_,k12⟩
 refine eR ?_;refine eU ?_;refine qP ?_;refine lp (β:=Nat×Nat) (fun b=>⟨[(0,.own b.1 0 (vs++uB l.length++(l.take b.2).flatMap pt).length),(2,.fn (.func f) [] []),(13,.ro 1 (l.map lC) .any),(14,.int .i64 l.length),(15,.int .i64 b.2)],[(b.1,.arr 5 1 ((vs++uB l.length++(l.take b.2).flatMap pt).map aH))]⟩) (fun b=>b.2≤l.length) (fun b=>l.length-b.2) (r12,0) (by dsimp only;rw[show vs++uB l.length++(l.take 0).flatMap pt=vs++uB l.length by simp];(exact aJ)) (Nat.zero_le _) ?_;rintro⟨q1,j⟩ hj;have hpj:=hpc j;have hsl:(vs++uB l.length++(l.take j).flatMap pt).length=vs.length+(uB l.length).length+((l.take j).flatMap pt).length:=by simp[Nat.add_assoc]
 dsimp only at hj⊢;refine jL ?_;refine aB rfl (fun g3=> ?_) (fun g3=> ?_)
 ·have hlt:j<l.length:=by simp at g3;omega
  obtain⟨x,hx⟩:∃x,l[j]? =some x:=⟨_,List.getElem?_eq_getElem hlt⟩
  have hnx:vs++uB l.length++(l.take (j+1)).flatMap pt=vs++uB l.length++(l.take j).flatMap pt++pt x:=by rw[List.take_add_one,hx,List.flatMap_append];simp
  refine dG ?_;refine mJ ?_;refine cZ ?_;refine yD ?_;refine qE [(q1,.arr 5 1 ((vs++uB l.length++(l.take j).flatMap pt).map aH))] rfl hf.1 (hf.2 q1 _ x (hok x (List.mem_of_getElem? hx)) (by omega) (by omega)).2 rfl aC aA ?_;rintro _ σ' ⟨r22,rfl,rfl⟩ h22;have k22:=bB h22;repeat rcases k22 with⟨_,k22⟩
  refine uF ?_;refine⟨(r22,j+1),hlt,by show l.length-(j+1)<l.length-j;omega, ?_⟩;dsimp only;rw[hnx];exact aJ
 obtain rfl:j=l.length:=by simp at g3;omega
 refine fF ?_;rw[show vs++uB l.length++(l.take l.length).flatMap pt=vs++bD l pt by rw[List.take_length,List.append_assoc];rfl];exact aD aE ⟨q1,by rfl,rfl⟩ aA
theorem RL{f:FuncId}{pt:(List Int)→List Nat}{ok:(List Int)→Prop}{c B:Nat}(hf:iT Tryz.prog 5 f (fun r=>.ro 1 (r.map aR) .any) pt ok c B)(hB:B≤50000000)(l:List (List Int))(hok:∀x∈l,ok x)(hl:l.length≤1000)(hb:10+l.length*c≤B):
  SCall Tryz.prog 246 [.ro 0 [] .nil,.ro 1 (l.map lC) .any,.fn (.func f) [] []] [] (fun y σ=>∃r,y=.own r 0 (bD l pt).length∧σ=[(r,.arr 5 1 ((bD l pt).map aH))]):=
 iJ (e:=5) (sz:=1) (by decide) fun q _=>aEB hf hB q [] l hok hl (by simpa using hb)
theorem aH0{f:FuncId}{pt:Im→List Nat}{ok:Im→Prop}{c B:Nat}(hf:iT Tryz.prog 5 f (fun x=>.agg (eE x)) pt ok c B)(hB:B≤50000000)(q:Nat)(vs:List Nat)(l:List Im)(hok:∀x∈l,ok x)(hl:l.length≤1000)(hb:vs.length+10+l.length*c≤B):
  SCall Tryz.prog 238 [.own q 0 vs.length,.ro 3 (l.map eE) .any,.fn (.func f) [] []] [(q,.arr 5 1 (vs.map aH))] (fun y σ=>∃r,y=.own r 0 (vs++bD l pt).length∧σ=[(r,.arr 5 1 ((vs++bD l pt).map aH))]):=by
 have hu:=bR 1 l.length (by omega);have hup:=iI l.length;have hpc:=gQ hf (by omega) hok;refine cC 25 [0,1,2,6,8,13,14,15,16] Tryz.func238 ?_;refine mY ?_;refine pH ?_;refine cw [(q,.arr 5 1 (vs.map aH))] Tryz.call135 (eI q vs (by omega) l.length (by omega)) rfl aC aA ?_;rintro _ σ' ⟨r12,rfl,rfl⟩ h12;have k12:=bB h12;repeat rcases k12 with⟨_,k12⟩
 refine eR ?_;refine eU ?_;refine qP ?_;refine lp (β:=Nat×Nat) (fun b=>⟨[(0,.own b.1 0 (vs++uB l.length++(l.take b.2).flatMap pt).length),(2,.fn (.func f) [] []),(13,.ro 3 (l.map eE) .any),(14,.int .i64 l.length),(15,.int .i64 b.2)],[(b.1,.arr 5 1 ((vs++uB l.length++(l.take b.2).flatMap pt).map aH))]⟩) (fun b=>b.2≤l.length) (fun b=>l.length-b.2) (r12,0) (by dsimp only;rw[show vs++uB l.length++(l.take 0).flatMap pt=vs++uB l.length by simp];(exact aJ)) (Nat.zero_le _) ?_;rintro⟨q1,j⟩ hj;have hpj:=hpc j;have hsl:(vs++uB l.length++(l.take j).flatMap pt).length=vs.length+(uB l.length).length+((l.take j).flatMap pt).length:=by simp[Nat.add_assoc]
 dsimp only at hj⊢;refine jL ?_;refine aB rfl (fun g3=> ?_) (fun g3=> ?_)
 ·have hlt:j<l.length:=by simp at g3;omega
  obtain⟨x,hx⟩:∃x,l[j]? =some x:=⟨_,List.getElem?_eq_getElem hlt⟩
  have hnx:vs++uB l.length++(l.take (j+1)).flatMap pt=vs++uB l.length++(l.take j).flatMap pt++pt x:=by rw[List.take_add_one,hx,List.flatMap_append];simp
  refine dG ?_;refine qQ ?_;refine jZ fun r8 h8=> ?_;intros
  refine jJ ?_;refine kL ?_;refine mP ?_;refine qE [(q1,.arr 5 1 ((vs++uB l.length++(l.take j).flatMap pt).map aH))] rfl hf.1 (hf.2 q1 _ x (hok x (List.mem_of_getElem? hx)) (by omega) (by omega)).2 rfl aC aA ?_;rintro _ σ' ⟨r22,rfl,rfl⟩ h22;have k22:=bB h22;repeat rcases k22 with⟨_,k22⟩
  refine uF ?_;refine⟨(r22,j+1),hlt,by show l.length-(j+1)<l.length-j;omega, ?_⟩;dsimp only;rw[hnx];exact aJ
 obtain rfl:j=l.length:=by simp at g3;omega
 refine fF ?_;rw[show vs++uB l.length++(l.take l.length).flatMap pt=vs++bD l pt by rw[List.take_length,List.append_assoc];rfl];exact aD aE ⟨q1,by rfl,rfl⟩ aA
theorem aEC{f:FuncId}{pt:Im→List Nat}{ok:Im→Prop}{c B:Nat}(hf:iT Tryz.prog 5 f (fun x=>.agg (eE x)) pt ok c B)(hB:B≤50000000)(l:List Im)(hok:∀x∈l,ok x)(hl:l.length≤1000)(hb:10+l.length*c≤B):
  SCall Tryz.prog 238 [.ro 0 [] .nil,.ro 3 (l.map eE) .any,.fn (.func f) [] []] [] (fun y σ=>∃r,y=.own r 0 (bD l pt).length∧σ=[(r,.arr 5 1 ((bD l pt).map aH))]):=
 iJ (e:=5) (sz:=1) (by decide) fun q _=>aH0 hf hB q [] l hok hl (by simpa using hb)
theorem aH1{f:FuncId}{pt:Li→List Nat}{ok:Li→Prop}{c B:Nat}(hf:iT Tryz.prog 5 f (fun x=>.agg (fA x)) pt ok c B)(hB:B≤50000000)(q:Nat)(vs:List Nat)(l:List Li)(hok:∀x∈l,ok x)(hl:l.length≤1000)(hb:vs.length+10+l.length*c≤B):
  SCall Tryz.prog 240 [.own q 0 vs.length,.ro 3 (l.map fA) .any,.fn (.func f) [] []] [(q,.arr 5 1 (vs.map aH))] (fun y σ=>∃r,y=.own r 0 (vs++bD l pt).length∧σ=[(r,.arr 5 1 ((vs++bD l pt).map aH))]):=by
 have hu:=bR 1 l.length (by omega);have hup:=iI l.length;have hpc:=gQ hf (by omega) hok;refine cC 25 [0,1,2,6,8,13,14,15,16] Tryz.func240 ?_;refine mY ?_;refine pH ?_;refine cw [(q,.arr 5 1 (vs.map aH))] Tryz.call135 (eI q vs (by omega) l.length (by omega)) rfl aC aA ?_;rintro _ σ' ⟨r12,rfl,rfl⟩ h12;have k12:=bB h12;repeat rcases k12 with⟨_,k12⟩
 refine eR ?_;refine eU ?_;refine qP ?_;refine lp (β:=Nat×Nat) (fun b=>⟨[(0,.own b.1 0 (vs++uB l.length++(l.take b.2).flatMap pt).length),(2,.fn (.func f) [] []),(13,.ro 3 (l.map fA) .any),(14,.int .i64 l.length),(15,.int .i64 b.2)],[(b.1,.arr 5 1 ((vs++uB l.length++(l.take b.2).flatMap pt).map aH))]⟩) (fun b=>b.2≤l.length) (fun b=>l.length-b.2) (r12,0) (by dsimp only;rw[show vs++uB l.length++(l.take 0).flatMap pt=vs++uB l.length by simp];(exact aJ)) (Nat.zero_le _) ?_;rintro⟨q1,j⟩ hj;have hpj:=hpc j;have hsl:(vs++uB l.length++(l.take j).flatMap pt).length=vs.length+(uB l.length).length+((l.take j).flatMap pt).length:=by simp[Nat.add_assoc]
 dsimp only at hj⊢;refine jL ?_;refine aB rfl (fun g3=> ?_) (fun g3=> ?_)
 ·have hlt:j<l.length:=by simp at g3;omega
  obtain⟨x,hx⟩:∃x,l[j]? =some x:=⟨_,List.getElem?_eq_getElem hlt⟩
  have hnx:vs++uB l.length++(l.take (j+1)).flatMap pt=vs++uB l.length++(l.take j).flatMap pt++pt x:=by rw[List.take_add_one,hx,List.flatMap_append];simp
  refine dG ?_;refine qQ ?_;refine jZ fun r8 h8=> ?_;intros
  refine jJ ?_;refine kL ?_;refine mP ?_;refine qE [(q1,.arr 5 1 ((vs++uB l.length++(l.take j).flatMap pt).map aH))] rfl hf.1 (hf.2 q1 _ x (hok x (List.mem_of_getElem? hx)) (by omega) (by omega)).2 rfl aC aA ?_;rintro _ σ' ⟨r22,rfl,rfl⟩ h22;have k22:=bB h22;repeat rcases k22 with⟨_,k22⟩
  refine uF ?_;refine⟨(r22,j+1),hlt,by show l.length-(j+1)<l.length-j;omega, ?_⟩;dsimp only;rw[hnx];exact aJ
 obtain rfl:j=l.length:=by simp at g3;omega
 refine fF ?_;rw[show vs++uB l.length++(l.take l.length).flatMap pt=vs++bD l pt by rw[List.take_length,List.append_assoc];rfl];exact aD aE ⟨q1,by rfl,rfl⟩ aA
theorem aED{f:FuncId}{pt:Li→List Nat}{ok:Li→Prop}{c B:Nat}(hf:iT Tryz.prog 5 f (fun x=>.agg (fA x)) pt ok c B)(hB:B≤50000000)(l:List Li)(hok:∀x∈l,ok x)(hl:l.length≤1000)(hb:10+l.length*c≤B):
  SCall Tryz.prog 240 [.ro 0 [] .nil,.ro 3 (l.map fA) .any,.fn (.func f) [] []] [] (fun y σ=>∃r,y=.own r 0 (bD l pt).length∧σ=[(r,.arr 5 1 ((bD l pt).map aH))]):=
 iJ (e:=5) (sz:=1) (by decide) fun q _=>aH1 hf hB q [] l hok hl (by simpa using hb)
theorem aH2{f:FuncId}{pt:Gl→List Nat}{ok:Gl→Prop}{c B:Nat}(hf:iT Tryz.prog 5 f (fun x=>.agg (eA x)) pt ok c B)(hB:B≤50000000)(q:Nat)(vs:List Nat)(l:List Gl)(hok:∀x∈l,ok x)(hl:l.length≤1000)(hb:vs.length+10+l.length*c≤B):
  SCall Tryz.prog 241 [.own q 0 vs.length,.ro 3 (l.map eA) .any,.fn (.func f) [] []] [(q,.arr 5 1 (vs.map aH))] (fun y σ=>∃r,y=.own r 0 (vs++bD l pt).length∧σ=[(r,.arr 5 1 ((vs++bD l pt).map aH))]):=by
 have hu:=bR 1 l.length (by omega);have hup:=iI l.length;have hpc:=gQ hf (by omega) hok;refine cC 25 [0,1,2,6,8,13,14,15,16] Tryz.func241 ?_;refine mY ?_;refine pH ?_;refine cw [(q,.arr 5 1 (vs.map aH))] Tryz.call135 (eI q vs (by omega) l.length (by omega)) rfl aC aA ?_;rintro _ σ' ⟨r12,rfl,rfl⟩ h12;have k12:=bB h12;repeat rcases k12 with⟨_,k12⟩
 refine eR ?_;refine eU ?_;refine qP ?_;refine lp (β:=Nat×Nat) (fun b=>⟨[(0,.own b.1 0 (vs++uB l.length++(l.take b.2).flatMap pt).length),(2,.fn (.func f) [] []),(13,.ro 3 (l.map eA) .any),(14,.int .i64 l.length),(15,.int .i64 b.2)],[(b.1,.arr 5 1 ((vs++uB l.length++(l.take b.2).flatMap pt).map aH))]⟩) (fun b=>b.2≤l.length) (fun b=>l.length-b.2) (r12,0) (by dsimp only;rw[show vs++uB l.length++(l.take 0).flatMap pt=vs++uB l.length by simp];(exact aJ)) (Nat.zero_le _) ?_;rintro⟨q1,j⟩ hj;have hpj:=hpc j;have hsl:(vs++uB l.length++(l.take j).flatMap pt).length=vs.length+(uB l.length).length+((l.take j).flatMap pt).length:=by simp[Nat.add_assoc]
 dsimp only at hj⊢;refine jL ?_;refine aB rfl (fun g3=> ?_) (fun g3=> ?_)
 ·have hlt:j<l.length:=by simp at g3;omega
  obtain⟨x,hx⟩:∃x,l[j]? =some x:=⟨_,List.getElem?_eq_getElem hlt⟩
  have hnx:vs++uB l.length++(l.take (j+1)).flatMap pt=vs++uB l.length++(l.take j).flatMap pt++pt x:=by rw[List.take_add_one,hx,List.flatMap_append];simp
  refine dG ?_;refine qQ ?_;refine jZ fun r8 h8=> ?_;intros
  refine jJ ?_;refine kL ?_;refine mP ?_;refine qE [(q1,.arr 5 1 ((vs++uB l.length++(l.take j).flatMap pt).map aH))] rfl hf.1 (hf.2 q1 _ x (hok x (List.mem_of_getElem? hx)) (by omega) (by omega)).2 rfl aC aA ?_;rintro _ σ' ⟨r22,rfl,rfl⟩ h22;have k22:=bB h22;repeat rcases k22 with⟨_,k22⟩
  refine uF ?_;refine⟨(r22,j+1),hlt,by show l.length-(j+1)<l.length-j;omega, ?_⟩;dsimp only;rw[hnx];exact aJ
 obtain rfl:j=l.length:=by simp at g3;omega
 refine fF ?_;rw[show vs++uB l.length++(l.take l.length).flatMap pt=vs++bD l pt by rw[List.take_length,List.append_assoc];rfl];exact aD aE ⟨q1,by rfl,rfl⟩ aA
theorem aEE{f:FuncId}{pt:Gl→List Nat}{ok:Gl→Prop}{c B:Nat}(hf:iT Tryz.prog 5 f (fun x=>.agg (eA x)) pt ok c B)(hB:B≤50000000)(l:List Gl)(hok:∀x∈l,ok x)(hl:l.length≤1000)(hb:10+l.length*c≤B):
  SCall Tryz.prog 241 [.ro 0 [] .nil,.ro 3 (l.map eA) .any,.fn (.func f) [] []] [] (fun y σ=>∃r,y=.own r 0 (bD l pt).length∧σ=[(r,.arr 5 1 ((bD l pt).map aH))]):=
 iJ (e:=5) (sz:=1) (by decide) fun q _=>aH2 hf hB q [] l hok hl (by simpa using hb)
theorem aH3{f:FuncId}{pt:Ex→List Nat}{ok:Ex→Prop}{c B:Nat}(hf:iT Tryz.prog 5 f (fun x=>.agg (dH x)) pt ok c B)(hB:B≤50000000)(q:Nat)(vs:List Nat)(l:List Ex)(hok:∀x∈l,ok x)(hl:l.length≤1000)(hb:vs.length+10+l.length*c≤B):
  SCall Tryz.prog 243 [.own q 0 vs.length,.ro 2 (l.map dH) .any,.fn (.func f) [] []] [(q,.arr 5 1 (vs.map aH))] (fun y σ=>∃r,y=.own r 0 (vs++bD l pt).length∧σ=[(r,.arr 5 1 ((vs++bD l pt).map aH))]):=by
 have hu:=bR 1 l.length (by omega);have hup:=iI l.length;have hpc:=gQ hf (by omega) hok;refine cC 25 [0,1,2,6,8,13,14,15,16] Tryz.func243 ?_;refine mY ?_;refine pH ?_;refine cw [(q,.arr 5 1 (vs.map aH))] Tryz.call135 (eI q vs (by omega) l.length (by omega)) rfl aC aA ?_;rintro _ σ' ⟨r12,rfl,rfl⟩ h12;have k12:=bB h12;repeat rcases k12 with⟨_,k12⟩
 refine eR ?_;refine eU ?_;refine qP ?_;refine lp (β:=Nat×Nat) (fun b=>⟨[(0,.own b.1 0 (vs++uB l.length++(l.take b.2).flatMap pt).length),(2,.fn (.func f) [] []),(13,.ro 2 (l.map dH) .any),(14,.int .i64 l.length),(15,.int .i64 b.2)],[(b.1,.arr 5 1 ((vs++uB l.length++(l.take b.2).flatMap pt).map aH))]⟩) (fun b=>b.2≤l.length) (fun b=>l.length-b.2) (r12,0) (by dsimp only;rw[show vs++uB l.length++(l.take 0).flatMap pt=vs++uB l.length by simp];(exact aJ)) (Nat.zero_le _) ?_;rintro⟨q1,j⟩ hj;have hpj:=hpc j;have hsl:(vs++uB l.length++(l.take j).flatMap pt).length=vs.length+(uB l.length).length+((l.take j).flatMap pt).length:=by simp[Nat.add_assoc]
 dsimp only at hj⊢;refine jL ?_;refine aB rfl (fun g3=> ?_) (fun g3=> ?_)
 ·have hlt:j<l.length:=by simp at g3;omega
  obtain⟨x,hx⟩:∃x,l[j]? =some x:=⟨_,List.getElem?_eq_getElem hlt⟩
  have hnx:vs++uB l.length++(l.take (j+1)).flatMap pt=vs++uB l.length++(l.take j).flatMap pt++pt x:=by rw[List.take_add_one,hx,List.flatMap_append];simp
  refine dG ?_;refine qQ ?_;refine jZ fun r8 h8=> ?_;intros
  refine jJ ?_;refine kL ?_;refine mP ?_;refine qE [(q1,.arr 5 1 ((vs++uB l.length++(l.take j).flatMap pt).map aH))] rfl hf.1 (hf.2 q1 _ x (hok x (List.mem_of_getElem? hx)) (by omega) (by omega)).2 rfl aC aA ?_;rintro _ σ' ⟨r22,rfl,rfl⟩ h22;have k22:=bB h22;repeat rcases k22 with⟨_,k22⟩
  refine uF ?_;refine⟨(r22,j+1),hlt,by show l.length-(j+1)<l.length-j;omega, ?_⟩;dsimp only;rw[hnx];exact aJ
 obtain rfl:j=l.length:=by simp at g3;omega
 refine fF ?_;rw[show vs++uB l.length++(l.take l.length).flatMap pt=vs++bD l pt by rw[List.take_length,List.append_assoc];rfl];exact aD aE ⟨q1,by rfl,rfl⟩ aA
theorem aEF{f:FuncId}{pt:Ex→List Nat}{ok:Ex→Prop}{c B:Nat}(hf:iT Tryz.prog 5 f (fun x=>.agg (dH x)) pt ok c B)(hB:B≤50000000)(l:List Ex)(hok:∀x∈l,ok x)(hl:l.length≤1000)(hb:10+l.length*c≤B):
  SCall Tryz.prog 243 [.ro 0 [] .nil,.ro 2 (l.map dH) .any,.fn (.func f) [] []] [] (fun y σ=>∃r,y=.own r 0 (bD l pt).length∧σ=[(r,.arr 5 1 ((bD l pt).map aH))]):=
 iJ (e:=5) (sz:=1) (by decide) fun q _=>aH3 hf hB q [] l hok hl (by simpa using hb)
theorem aH4{f:FuncId}{pt:El→List Nat}{ok:El→Prop}{c B:Nat}(hf:iT Tryz.prog 5 f (fun x=>.agg (dX x)) pt ok c B)(hB:B≤50000000)(q:Nat)(vs:List Nat)(l:List El)(hok:∀x∈l,ok x)(hl:l.length≤1000)(hb:vs.length+10+l.length*c≤B):
  SCall Tryz.prog 244 [.own q 0 vs.length,.ro 2 (l.map dX) .any,.fn (.func f) [] []] [(q,.arr 5 1 (vs.map aH))] (fun y σ=>∃r,y=.own r 0 (vs++bD l pt).length∧σ=[(r,.arr 5 1 ((vs++bD l pt).map aH))]):=by
 have hu:=bR 1 l.length (by omega);have hup:=iI l.length;have hpc:=gQ hf (by omega) hok;refine cC 25 [0,1,2,6,8,13,14,15,16] Tryz.func244 ?_;refine mY ?_;refine pH ?_;refine cw [(q,.arr 5 1 (vs.map aH))] Tryz.call135 (eI q vs (by omega) l.length (by omega)) rfl aC aA ?_;rintro _ σ' ⟨r12,rfl,rfl⟩ h12;have k12:=bB h12;repeat rcases k12 with⟨_,k12⟩
 refine eR ?_;refine eU ?_;refine qP ?_;refine lp (β:=Nat×Nat) (fun b=>⟨[(0,.own b.1 0 (vs++uB l.length++(l.take b.2).flatMap pt).length),(2,.fn (.func f) [] []),(13,.ro 2 (l.map dX) .any),(14,.int .i64 l.length),(15,.int .i64 b.2)],[(b.1,.arr 5 1 ((vs++uB l.length++(l.take b.2).flatMap pt).map aH))]⟩) (fun b=>b.2≤l.length) (fun b=>l.length-b.2) (r12,0) (by dsimp only;rw[show vs++uB l.length++(l.take 0).flatMap pt=vs++uB l.length by simp];(exact aJ)) (Nat.zero_le _) ?_;rintro⟨q1,j⟩ hj;have hpj:=hpc j;have hsl:(vs++uB l.length++(l.take j).flatMap pt).length=vs.length+(uB l.length).length+((l.take j).flatMap pt).length:=by simp[Nat.add_assoc]
 dsimp only at hj⊢;refine jL ?_;refine aB rfl (fun g3=> ?_) (fun g3=> ?_)
 ·have hlt:j<l.length:=by simp at g3;omega
  obtain⟨x,hx⟩:∃x,l[j]? =some x:=⟨_,List.getElem?_eq_getElem hlt⟩
  have hnx:vs++uB l.length++(l.take (j+1)).flatMap pt=vs++uB l.length++(l.take j).flatMap pt++pt x:=by rw[List.take_add_one,hx,List.flatMap_append];simp
  refine dG ?_;refine qQ ?_;refine jZ fun r8 h8=> ?_;intros
  refine jJ ?_;refine kL ?_;refine mP ?_;refine qE [(q1,.arr 5 1 ((vs++uB l.length++(l.take j).flatMap pt).map aH))] rfl hf.1 (hf.2 q1 _ x (hok x (List.mem_of_getElem? hx)) (by omega) (by omega)).2 rfl aC aA ?_;rintro _ σ' ⟨r22,rfl,rfl⟩ h22;have k22:=bB h22;repeat rcases k22 with⟨_,k22⟩
  refine uF ?_;refine⟨(r22,j+1),hlt,by show l.length-(j+1)<l.length-j;omega, ?_⟩;dsimp only;rw[hnx];exact aJ
 obtain rfl:j=l.length:=by simp at g3;omega
 refine fF ?_;rw[show vs++uB l.length++(l.take l.length).flatMap pt=vs++bD l pt by rw[List.take_length,List.append_assoc];rfl];exact aD aE ⟨q1,by rfl,rfl⟩ aA
theorem aEG{f:FuncId}{pt:El→List Nat}{ok:El→Prop}{c B:Nat}(hf:iT Tryz.prog 5 f (fun x=>.agg (dX x)) pt ok c B)(hB:B≤50000000)(l:List El)(hok:∀x∈l,ok x)(hl:l.length≤1000)(hb:10+l.length*c≤B):
  SCall Tryz.prog 244 [.ro 0 [] .nil,.ro 2 (l.map dX) .any,.fn (.func f) [] []] [] (fun y σ=>∃r,y=.own r 0 (bD l pt).length∧σ=[(r,.arr 5 1 ((bD l pt).map aH))]):=
 iJ (e:=5) (sz:=1) (by decide) fun q _=>aH4 hf hB q [] l hok hl (by simpa using hb)
theorem aH5{f:FuncId}{pt:Co→List Nat}{ok:Co→Prop}{c B:Nat}(hf:iT Tryz.prog 5 f (fun x=>.agg (dP x)) pt ok c B)(hB:B≤50000000)(q:Nat)(vs:List Nat)(l:List Co)(hok:∀x∈l,ok x)(hl:l.length≤1000)(hb:vs.length+10+l.length*c≤B):
  SCall Tryz.prog 245 [.own q 0 vs.length,.ro 2 (l.map dP) .any,.fn (.func f) [] []] [(q,.arr 5 1 (vs.map aH))] (fun y σ=>∃r,y=.own r 0 (vs++bD l pt).length∧σ=[(r,.arr 5 1 ((vs++bD l pt).map aH))]):=by
 have hu:=bR 1 l.length (by omega);have hup:=iI l.length;have hpc:=gQ hf (by omega) hok;refine cC 25 [0,1,2,6,8,13,14,15,16] Tryz.func245 ?_;refine mY ?_;refine pH ?_;refine cw [(q,.arr 5 1 (vs.map aH))] Tryz.call135 (eI q vs (by omega) l.length (by omega)) rfl aC aA ?_;rintro _ σ' ⟨r12,rfl,rfl⟩ h12;have k12:=bB h12;repeat rcases k12 with⟨_,k12⟩
 refine eR ?_;refine eU ?_;refine qP ?_;refine lp (β:=Nat×Nat) (fun b=>⟨[(0,.own b.1 0 (vs++uB l.length++(l.take b.2).flatMap pt).length),(2,.fn (.func f) [] []),(13,.ro 2 (l.map dP) .any),(14,.int .i64 l.length),(15,.int .i64 b.2)],[(b.1,.arr 5 1 ((vs++uB l.length++(l.take b.2).flatMap pt).map aH))]⟩) (fun b=>b.2≤l.length) (fun b=>l.length-b.2) (r12,0) (by dsimp only;rw[show vs++uB l.length++(l.take 0).flatMap pt=vs++uB l.length by simp];(exact aJ)) (Nat.zero_le _) ?_;rintro⟨q1,j⟩ hj;have hpj:=hpc j;have hsl:(vs++uB l.length++(l.take j).flatMap pt).length=vs.length+(uB l.length).length+((l.take j).flatMap pt).length:=by simp[Nat.add_assoc]
 dsimp only at hj⊢;refine jL ?_;refine aB rfl (fun g3=> ?_) (fun g3=> ?_)
 ·have hlt:j<l.length:=by simp at g3;omega
  obtain⟨x,hx⟩:∃x,l[j]? =some x:=⟨_,List.getElem?_eq_getElem hlt⟩
  have hnx:vs++uB l.length++(l.take (j+1)).flatMap pt=vs++uB l.length++(l.take j).flatMap pt++pt x:=by rw[List.take_add_one,hx,List.flatMap_append];simp
  refine dG ?_;refine qQ ?_;refine jZ fun r8 h8=> ?_;intros
  refine jJ ?_;refine kL ?_;refine mP ?_;refine qE [(q1,.arr 5 1 ((vs++uB l.length++(l.take j).flatMap pt).map aH))] rfl hf.1 (hf.2 q1 _ x (hok x (List.mem_of_getElem? hx)) (by omega) (by omega)).2 rfl aC aA ?_;rintro _ σ' ⟨r22,rfl,rfl⟩ h22;have k22:=bB h22;repeat rcases k22 with⟨_,k22⟩
  refine uF ?_;refine⟨(r22,j+1),hlt,by show l.length-(j+1)<l.length-j;omega, ?_⟩;dsimp only;rw[hnx];exact aJ
 obtain rfl:j=l.length:=by simp at g3;omega
 refine fF ?_;rw[show vs++uB l.length++(l.take l.length).flatMap pt=vs++bD l pt by rw[List.take_length,List.append_assoc];rfl];exact aD aE ⟨q1,by rfl,rfl⟩ aA
theorem aEH{f:FuncId}{pt:Co→List Nat}{ok:Co→Prop}{c B:Nat}(hf:iT Tryz.prog 5 f (fun x=>.agg (dP x)) pt ok c B)(hB:B≤50000000)(l:List Co)(hok:∀x∈l,ok x)(hl:l.length≤1000)(hb:10+l.length*c≤B):
  SCall Tryz.prog 245 [.ro 0 [] .nil,.ro 2 (l.map dP) .any,.fn (.func f) [] []] [] (fun y σ=>∃r,y=.own r 0 (bD l pt).length∧σ=[(r,.arr 5 1 ((bD l pt).map aH))]):=
 iJ (e:=5) (sz:=1) (by decide) fun q _=>aH5 hf hB q [] l hok hl (by simpa using hb)
theorem aH6{f:FuncId}{pt:Da→List Nat}{ok:Da→Prop}{c B:Nat}(hf:iT Tryz.prog 5 f (fun x=>.agg (eB x)) pt ok c B)(hB:B≤50000000)(q:Nat)(vs:List Nat)(l:List Da)(hok:∀x∈l,ok x)(hl:l.length≤1000)(hb:vs.length+10+l.length*c≤B):
  SCall Tryz.prog 249 [.own q 0 vs.length,.ro 2 (l.map eB) .any,.fn (.func f) [] []] [(q,.arr 5 1 (vs.map aH))] (fun y σ=>∃r,y=.own r 0 (vs++bD l pt).length∧σ=[(r,.arr 5 1 ((vs++bD l pt).map aH))]):=by
 have hu:=bR 1 l.length (by omega);have hup:=iI l.length;have hpc:=gQ hf (by omega) hok;refine cC 25 [0,1,2,6,8,13,14,15,16] Tryz.func249 ?_;refine mY ?_;refine pH ?_;refine cw [(q,.arr 5 1 (vs.map aH))] Tryz.call135 (eI q vs (by omega) l.length (by omega)) rfl aC aA ?_;rintro _ σ' ⟨r12,rfl,rfl⟩ h12;have k12:=bB h12;repeat rcases k12 with⟨_,k12⟩
 refine eR ?_;refine eU ?_;refine qP ?_;refine lp (β:=Nat×Nat) (fun b=>⟨[(0,.own b.1 0 (vs++uB l.length++(l.take b.2).flatMap pt).length),(2,.fn (.func f) [] []),(13,.ro 2 (l.map eB) .any),(14,.int .i64 l.length),(15,.int .i64 b.2)],[(b.1,.arr 5 1 ((vs++uB l.length++(l.take b.2).flatMap pt).map aH))]⟩) (fun b=>b.2≤l.length) (fun b=>l.length-b.2) (r12,0) (by dsimp only;rw[show vs++uB l.length++(l.take 0).flatMap pt=vs++uB l.length by simp];(exact aJ)) (Nat.zero_le _) ?_;rintro⟨q1,j⟩ hj;have hpj:=hpc j;have hsl:(vs++uB l.length++(l.take j).flatMap pt).length=vs.length+(uB l.length).length+((l.take j).flatMap pt).length:=by simp[Nat.add_assoc]
 dsimp only at hj⊢;refine jL ?_;refine aB rfl (fun g3=> ?_) (fun g3=> ?_)
 ·have hlt:j<l.length:=by simp at g3;omega
  obtain⟨x,hx⟩:∃x,l[j]? =some x:=⟨_,List.getElem?_eq_getElem hlt⟩
  have hnx:vs++uB l.length++(l.take (j+1)).flatMap pt=vs++uB l.length++(l.take j).flatMap pt++pt x:=by rw[List.take_add_one,hx,List.flatMap_append];simp
  refine dG ?_;refine qQ ?_;refine jZ fun r8 h8=> ?_;intros
  refine jJ ?_;refine kL ?_;refine mP ?_;refine qE [(q1,.arr 5 1 ((vs++uB l.length++(l.take j).flatMap pt).map aH))] rfl hf.1 (hf.2 q1 _ x (hok x (List.mem_of_getElem? hx)) (by omega) (by omega)).2 rfl aC aA ?_;rintro _ σ' ⟨r22,rfl,rfl⟩ h22;have k22:=bB h22;repeat rcases k22 with⟨_,k22⟩
  refine uF ?_;refine⟨(r22,j+1),hlt,by show l.length-(j+1)<l.length-j;omega, ?_⟩;dsimp only;rw[hnx];exact aJ
 obtain rfl:j=l.length:=by simp at g3;omega
 refine fF ?_;rw[show vs++uB l.length++(l.take l.length).flatMap pt=vs++bD l pt by rw[List.take_length,List.append_assoc];rfl];exact aD aE ⟨q1,by rfl,rfl⟩ aA
theorem aEI{f:FuncId}{pt:Da→List Nat}{ok:Da→Prop}{c B:Nat}(hf:iT Tryz.prog 5 f (fun x=>.agg (eB x)) pt ok c B)(hB:B≤50000000)(l:List Da)(hok:∀x∈l,ok x)(hl:l.length≤1000)(hb:10+l.length*c≤B):
  SCall Tryz.prog 249 [.ro 0 [] .nil,.ro 2 (l.map eB) .any,.fn (.func f) [] []] [] (fun y σ=>∃r,y=.own r 0 (bD l pt).length∧σ=[(r,.arr 5 1 ((bD l pt).map aH))]):=
 iJ (e:=5) (sz:=1) (by decide) fun q _=>aH6 hf hB q [] l hok hl (by simpa using hb)
theorem aH7{f:FuncId}{pt:FT→List Nat}{ok:FT→Prop}{c B:Nat}(hf:iT Tryz.prog 5 f (fun x=>.agg (cP x)) pt ok c B)(hB:B≤50000000)(q:Nat)(vs:List Nat)(no:Nat)(hno:no<256)(l:List FT)(hok:∀x∈l,ok x)(hl:l.length≤1000)(hvs:vs.length≤10000000)(hb:10+l.length*c≤B):
  SCall Tryz.prog 129 [.own q 0 vs.length,.int .i64 no,.ro 2 (l.map cP) .any,.fn (.func f) [] []] [(q,.arr 5 1 (vs.map aH))] (fun y σ=>∃r,y=.own r 0 (vs++bJ no l pt).length∧σ=[(r,.arr 5 1 ((vs++bJ no l pt).map aH))]):=by
 have hu:=bR 1 l.length (by omega);have hup:=iI l.length;have hpc:=gQ hf (by omega) hok l.length;rw[List.take_length]at hpc;have hvl:(bD l pt).length≤50000000:=by unfold bD;simp only[List.length_append];omega
 have hub:=bR 4 (bD l pt).length (by omega);refine cC 27 [0,1,2,3,8,9,12] Tryz.func129 ?_;refine gX ?_;refine uM ?_;refine aB rfl (fun g1=> ?_) (fun g1=> ?_)
 ·obtain rfl:l=[]:=by cases l with|nil=>rfl|cons x t=>simp at g1;omega
  refine fF ?_;rw[show vs++bJ no ([]:List FT) pt=vs by simp[bJ]];exact aD aE ⟨q,by rfl,rfl⟩ aA
 have hs:bJ no l pt=[no]++uB (bD l pt).length++bD l pt:=by unfold bJ;rw[if_neg (by intro e;rw[List.isEmpty_iff.1 e]at g1;simp at g1)];simp
 rw[hs];refine dF ?_;refine cw [] Tryz.call237 (aEA hf hB l hok hl hb) rfl aC aA ?_;rintro _ σ' ⟨r16,rfl,rfl⟩ h16
 replace h16:=gU h16;repeat rcases h16 with⟨_,h16⟩
 refine eR ?_;generalize bD l pt=P at hvl hub⊢;refine kL ?_;refine z0 ?_;refine eS fun r20 h20=> ?_;intros
 refine kI ((vs++ [no]).map aH) (vs++ [no]).length ?_;refine bL fun r21 h21=> ?_;intros
 refine DY ?_;refine cw [(r21,.arr 5 1 ((vs++ [no]).map aH))] Tryz.call135 (eI r21 (vs++ [no]) (by simp;omega) P.length (by omega)) rfl aC aA ?_;rintro _ σ' ⟨r24,rfl,rfl⟩ h24;have k24:=bB h24;repeat rcases k24 with⟨_,k24⟩
 refine yU ?_;refine kI ((vs++ [no]++uB P.length++P).map aH) (vs++ [no]++uB P.length++P).length ?_;refine bL fun r26 h26=> ?_;intros
 refine cZ ?_;rw[show vs++ [no]++uB P.length++P=vs++([no]++uB P.length++P) by simp];exact aD aE ⟨r26,by rfl,rfl⟩ aA
theorem aEJ{f:FuncId}{pt:Int→List Nat}{ok:Int→Prop}{c B:Nat}(hf:iT Tryz.prog 5 f (fun n=>.int .i64 n) pt ok c B)(hB:B≤50000000)(q:Nat)(vs:List Nat)(no:Nat)(hno:no<256)(l:List Int)(hok:∀x∈l,ok x)(hl:l.length≤1000)(hvs:vs.length≤10000000)(hb:10+l.length*c≤B):
  SCall Tryz.prog 137 [.own q 0 vs.length,.int .i64 no,.ro 1 (l.map aR) .any,.fn (.func f) [] []] [(q,.arr 5 1 (vs.map aH))] (fun y σ=>∃r,y=.own r 0 (vs++bJ no l pt).length∧σ=[(r,.arr 5 1 ((vs++bJ no l pt).map aH))]):=by
 have hu:=bR 1 l.length (by omega);have hup:=iI l.length;have hpc:=gQ hf (by omega) hok l.length;rw[List.take_length]at hpc;have hvl:(bD l pt).length≤50000000:=by unfold bD;simp only[List.length_append];omega
 have hub:=bR 4 (bD l pt).length (by omega);refine cC 27 [0,1,2,3,8,9,12] Tryz.func137 ?_;refine gX ?_;refine uM ?_;refine aB rfl (fun g1=> ?_) (fun g1=> ?_)
 ·obtain rfl:l=[]:=by cases l with|nil=>rfl|cons x t=>simp at g1;omega
  refine fF ?_;rw[show vs++bJ no ([]:List Int) pt=vs by simp[bJ]];exact aD aE ⟨q,by rfl,rfl⟩ aA
 have hs:bJ no l pt=[no]++uB (bD l pt).length++bD l pt:=by unfold bJ;rw[if_neg (by intro e;rw[List.isEmpty_iff.1 e]at g1;simp at g1)];simp
 rw[hs];refine dF ?_;refine cw [] Tryz.call131 (aB7 hf hB l hok hl hb) rfl aC aA ?_;rintro _ σ' ⟨r16,rfl,rfl⟩ h16
 replace h16:=gU h16;repeat rcases h16 with⟨_,h16⟩
 refine eR ?_;generalize bD l pt=P at hvl hub⊢;refine kL ?_;refine z0 ?_;refine eS fun r20 h20=> ?_;intros
 refine kI ((vs++ [no]).map aH) (vs++ [no]).length ?_;refine bL fun r21 h21=> ?_;intros
 refine DY ?_;refine cw [(r21,.arr 5 1 ((vs++ [no]).map aH))] Tryz.call135 (eI r21 (vs++ [no]) (by simp;omega) P.length (by omega)) rfl aC aA ?_;rintro _ σ' ⟨r24,rfl,rfl⟩ h24;have k24:=bB h24;repeat rcases k24 with⟨_,k24⟩
 refine yU ?_;refine kI ((vs++ [no]++uB P.length++P).map aH) (vs++ [no]++uB P.length++P).length ?_;refine bL fun r26 h26=> ?_;intros
 refine cZ ?_;rw[show vs++ [no]++uB P.length++P=vs++([no]++uB P.length++P) by simp];exact aD aE ⟨r26,by rfl,rfl⟩ aA
theorem aH8{f:FuncId}{pt:Im→List Nat}{ok:Im→Prop}{c B:Nat}(hf:iT Tryz.prog 5 f (fun x=>.agg (eE x)) pt ok c B)(hB:B≤50000000)(q:Nat)(vs:List Nat)(no:Nat)(hno:no<256)(l:List Im)(hok:∀x∈l,ok x)(hl:l.length≤1000)(hvs:vs.length≤10000000)(hb:10+l.length*c≤B):
  SCall Tryz.prog 133 [.own q 0 vs.length,.int .i64 no,.ro 3 (l.map eE) .any,.fn (.func f) [] []] [(q,.arr 5 1 (vs.map aH))] (fun y σ=>∃r,y=.own r 0 (vs++bJ no l pt).length∧σ=[(r,.arr 5 1 ((vs++bJ no l pt).map aH))]):=by
 have hu:=bR 1 l.length (by omega);have hup:=iI l.length;have hpc:=gQ hf (by omega) hok l.length;rw[List.take_length]at hpc;have hvl:(bD l pt).length≤50000000:=by unfold bD;simp only[List.length_append];omega
 have hub:=bR 4 (bD l pt).length (by omega);refine cC 27 [0,1,2,3,8,9,12] Tryz.func133 ?_;refine gX ?_;refine uM ?_;refine aB rfl (fun g1=> ?_) (fun g1=> ?_)
 ·obtain rfl:l=[]:=by cases l with|nil=>rfl|cons x t=>simp at g1;omega
  refine fF ?_;rw[show vs++bJ no ([]:List Im) pt=vs by simp[bJ]];exact aD aE ⟨q,by rfl,rfl⟩ aA
 have hs:bJ no l pt=[no]++uB (bD l pt).length++bD l pt:=by unfold bJ;rw[if_neg (by intro e;rw[List.isEmpty_iff.1 e]at g1;simp at g1)];simp
 rw[hs];refine dF ?_;refine cw [] Tryz.call238 (aEC hf hB l hok hl hb) rfl aC aA ?_;rintro _ σ' ⟨r16,rfl,rfl⟩ h16
 replace h16:=gU h16;repeat rcases h16 with⟨_,h16⟩
 refine eR ?_;generalize bD l pt=P at hvl hub⊢;refine kL ?_;refine z0 ?_;refine eS fun r20 h20=> ?_;intros
 refine kI ((vs++ [no]).map aH) (vs++ [no]).length ?_;refine bL fun r21 h21=> ?_;intros
 refine DY ?_;refine cw [(r21,.arr 5 1 ((vs++ [no]).map aH))] Tryz.call135 (eI r21 (vs++ [no]) (by simp;omega) P.length (by omega)) rfl aC aA ?_;rintro _ σ' ⟨r24,rfl,rfl⟩ h24;have k24:=bB h24;repeat rcases k24 with⟨_,k24⟩
 refine yU ?_;refine kI ((vs++ [no]++uB P.length++P).map aH) (vs++ [no]++uB P.length++P).length ?_;refine bL fun r26 h26=> ?_;intros
 refine cZ ?_;rw[show vs++ [no]++uB P.length++P=vs++([no]++uB P.length++P) by simp];exact aD aE ⟨r26,by rfl,rfl⟩ aA
theorem aB8{f:FuncId}{pt:Li→List Nat}{ok:Li→Prop}{c B:Nat}(hf:iT Tryz.prog 5 f (fun x=>.agg (fA x)) pt ok c B)(hB:B≤50000000)(q:Nat)(vs:List Nat)(no:Nat)(hno:no<256)(l:List Li)(hok:∀x∈l,ok x)(hl:l.length≤1000)(hvs:vs.length≤10000000)(hb:10+l.length*c≤B):
  SCall Tryz.prog 138 [.own q 0 vs.length,.int .i64 no,.ro 3 (l.map fA) .any,.fn (.func f) [] []] [(q,.arr 5 1 (vs.map aH))] (fun y σ=>∃r,y=.own r 0 (vs++bJ no l pt).length∧σ=[(r,.arr 5 1 ((vs++bJ no l pt).map aH))]):=by
 have hu:=bR 1 l.length (by omega);have hup:=iI l.length;have hpc:=gQ hf (by omega) hok l.length;rw[List.take_length]at hpc;have hvl:(bD l pt).length≤50000000:=by unfold bD;simp only[List.length_append];omega
 have hub:=bR 4 (bD l pt).length (by omega);refine cC 27 [0,1,2,3,8,9,12] Tryz.func138 ?_;refine gX ?_;refine uM ?_;refine aB rfl (fun g1=> ?_) (fun g1=> ?_)
 ·obtain rfl:l=[]:=by cases l with|nil=>rfl|cons x t=>simp at g1;omega
  refine fF ?_;rw[show vs++bJ no ([]:List Li) pt=vs by simp[bJ]];exact aD aE ⟨q,by rfl,rfl⟩ aA
 have hs:bJ no l pt=[no]++uB (bD l pt).length++bD l pt:=by unfold bJ;rw[if_neg (by intro e;rw[List.isEmpty_iff.1 e]at g1;simp at g1)];simp
 rw[hs];refine dF ?_;refine cw [] Tryz.call240 (aED hf hB l hok hl hb) rfl aC aA ?_;rintro _ σ' ⟨r16,rfl,rfl⟩ h16
 replace h16:=gU h16;repeat rcases h16 with⟨_,h16⟩
 refine eR ?_;generalize bD l pt=P at hvl hub⊢;refine kL ?_;refine z0 ?_;refine eS fun r20 h20=> ?_;intros
 refine kI ((vs++ [no]).map aH) (vs++ [no]).length ?_;refine bL fun r21 h21=> ?_;intros
 refine DY ?_;refine cw [(r21,.arr 5 1 ((vs++ [no]).map aH))] Tryz.call135 (eI r21 (vs++ [no]) (by simp;omega) P.length (by omega)) rfl aC aA ?_;rintro _ σ' ⟨r24,rfl,rfl⟩ h24;have k24:=bB h24;repeat rcases k24 with⟨_,k24⟩
 refine yU ?_;refine kI ((vs++ [no]++uB P.length++P).map aH) (vs++ [no]++uB P.length++P).length ?_;refine bL fun r26 h26=> ?_;intros
 refine cZ ?_;rw[show vs++ [no]++uB P.length++P=vs++([no]++uB P.length++P) by simp];exact aD aE ⟨r26,by rfl,rfl⟩ aA
theorem aH9{f:FuncId}{pt:Gl→List Nat}{ok:Gl→Prop}{c B:Nat}(hf:iT Tryz.prog 5 f (fun x=>.agg (eA x)) pt ok c B)(hB:B≤50000000)(q:Nat)(vs:List Nat)(no:Nat)(hno:no<256)(l:List Gl)(hok:∀x∈l,ok x)(hl:l.length≤1000)(hvs:vs.length≤10000000)(hb:10+l.length*c≤B):
  SCall Tryz.prog 142 [.own q 0 vs.length,.int .i64 no,.ro 3 (l.map eA) .any,.fn (.func f) [] []] [(q,.arr 5 1 (vs.map aH))] (fun y σ=>∃r,y=.own r 0 (vs++bJ no l pt).length∧σ=[(r,.arr 5 1 ((vs++bJ no l pt).map aH))]):=by
 have hu:=bR 1 l.length (by omega);have hup:=iI l.length;have hpc:=gQ hf (by omega) hok l.length;rw[List.take_length]at hpc;have hvl:(bD l pt).length≤50000000:=by unfold bD;simp only[List.length_append];omega
 have hub:=bR 4 (bD l pt).length (by omega);refine cC 27 [0,1,2,3,8,9,12] Tryz.func142 ?_;refine gX ?_;refine uM ?_;refine aB rfl (fun g1=> ?_) (fun g1=> ?_)
 ·obtain rfl:l=[]:=by cases l with|nil=>rfl|cons x t=>simp at g1;omega
  refine fF ?_;rw[show vs++bJ no ([]:List Gl) pt=vs by simp[bJ]];exact aD aE ⟨q,by rfl,rfl⟩ aA
 have hs:bJ no l pt=[no]++uB (bD l pt).length++bD l pt:=by unfold bJ;rw[if_neg (by intro e;rw[List.isEmpty_iff.1 e]at g1;simp at g1)];simp
 rw[hs];refine dF ?_;refine cw [] Tryz.call241 (aEE hf hB l hok hl hb) rfl aC aA ?_;rintro _ σ' ⟨r16,rfl,rfl⟩ h16
 replace h16:=gU h16;repeat rcases h16 with⟨_,h16⟩
 refine eR ?_;generalize bD l pt=P at hvl hub⊢;refine kL ?_;refine z0 ?_;refine eS fun r20 h20=> ?_;intros
 refine kI ((vs++ [no]).map aH) (vs++ [no]).length ?_;refine bL fun r21 h21=> ?_;intros
 refine DY ?_;refine cw [(r21,.arr 5 1 ((vs++ [no]).map aH))] Tryz.call135 (eI r21 (vs++ [no]) (by simp;omega) P.length (by omega)) rfl aC aA ?_;rintro _ σ' ⟨r24,rfl,rfl⟩ h24;have k24:=bB h24;repeat rcases k24 with⟨_,k24⟩
 refine yU ?_;refine kI ((vs++ [no]++uB P.length++P).map aH) (vs++ [no]++uB P.length++P).length ?_;refine bL fun r26 h26=> ?_;intros
 refine cZ ?_;rw[show vs++ [no]++uB P.length++P=vs++([no]++uB P.length++P) by simp];exact aD aE ⟨r26,by rfl,rfl⟩ aA
theorem aIa{f:FuncId}{pt:Ex→List Nat}{ok:Ex→Prop}{c B:Nat}(hf:iT Tryz.prog 5 f (fun x=>.agg (dH x)) pt ok c B)(hB:B≤50000000)(q:Nat)(vs:List Nat)(no:Nat)(hno:no<256)(l:List Ex)(hok:∀x∈l,ok x)(hl:l.length≤1000)(hvs:vs.length≤10000000)(hb:10+l.length*c≤B):
  SCall Tryz.prog 145 [.own q 0 vs.length,.int .i64 no,.ro 2 (l.map dH) .any,.fn (.func f) [] []] [(q,.arr 5 1 (vs.map aH))] (fun y σ=>∃r,y=.own r 0 (vs++bJ no l pt).length∧σ=[(r,.arr 5 1 ((vs++bJ no l pt).map aH))]):=by
 have hu:=bR 1 l.length (by omega);have hup:=iI l.length;have hpc:=gQ hf (by omega) hok l.length;rw[List.take_length]at hpc;have hvl:(bD l pt).length≤50000000:=by unfold bD;simp only[List.length_append];omega
 have hub:=bR 4 (bD l pt).length (by omega);refine cC 27 [0,1,2,3,8,9,12] Tryz.func145 ?_;refine gX ?_;refine uM ?_;refine aB rfl (fun g1=> ?_) (fun g1=> ?_)
 ·obtain rfl:l=[]:=by cases l with|nil=>rfl|cons x t=>simp at g1;omega
  refine fF ?_;rw[show vs++bJ no ([]:List Ex) pt=vs by simp[bJ]];exact aD aE ⟨q,by rfl,rfl⟩ aA
 have hs:bJ no l pt=[no]++uB (bD l pt).length++bD l pt:=by unfold bJ;rw[if_neg (by intro e;rw[List.isEmpty_iff.1 e]at g1;simp at g1)];simp
 rw[hs];refine dF ?_;refine cw [] Tryz.call243 (aEF hf hB l hok hl hb) rfl aC aA ?_;rintro _ σ' ⟨r16,rfl,rfl⟩ h16
 replace h16:=gU h16;repeat rcases h16 with⟨_,h16⟩
 refine eR ?_;generalize bD l pt=P at hvl hub⊢;refine kL ?_;refine z0 ?_;refine eS fun r20 h20=> ?_;intros
 refine kI ((vs++ [no]).map aH) (vs++ [no]).length ?_;refine bL fun r21 h21=> ?_;intros
 refine DY ?_;refine cw [(r21,.arr 5 1 ((vs++ [no]).map aH))] Tryz.call135 (eI r21 (vs++ [no]) (by simp;omega) P.length (by omega)) rfl aC aA ?_;rintro _ σ' ⟨r24,rfl,rfl⟩ h24;have k24:=bB h24;repeat rcases k24 with⟨_,k24⟩
 refine yU ?_;refine kI ((vs++ [no]++uB P.length++P).map aH) (vs++ [no]++uB P.length++P).length ?_;refine bL fun r26 h26=> ?_;intros
 refine cZ ?_;rw[show vs++ [no]++uB P.length++P=vs++([no]++uB P.length++P) by simp];exact aD aE ⟨r26,by rfl,rfl⟩ aA
theorem aIb{f:FuncId}{pt:El→List Nat}{ok:El→Prop}{c B:Nat}(hf:iT Tryz.prog 5 f (fun x=>.agg (dX x)) pt ok c B)(hB:B≤50000000)(q:Nat)(vs:List Nat)(no:Nat)(hno:no<256)(l:List El)(hok:∀x∈l,ok x)(hl:l.length≤1000)(hvs:vs.length≤10000000)(hb:10+l.length*c≤B):
  SCall Tryz.prog 147 [.own q 0 vs.length,.int .i64 no,.ro 2 (l.map dX) .any,.fn (.func f) [] []] [(q,.arr 5 1 (vs.map aH))] (fun y σ=>∃r,y=.own r 0 (vs++bJ no l pt).length∧σ=[(r,.arr 5 1 ((vs++bJ no l pt).map aH))]):=by
 have hu:=bR 1 l.length (by omega);have hup:=iI l.length;have hpc:=gQ hf (by omega) hok l.length;rw[List.take_length]at hpc;have hvl:(bD l pt).length≤50000000:=by unfold bD;simp only[List.length_append];omega
 have hub:=bR 4 (bD l pt).length (by omega);refine cC 27 [0,1,2,3,8,9,12] Tryz.func147 ?_;refine gX ?_;refine uM ?_;refine aB rfl (fun g1=> ?_) (fun g1=> ?_)
 ·obtain rfl:l=[]:=by cases l with|nil=>rfl|cons x t=>simp at g1;omega
  refine fF ?_;rw[show vs++bJ no ([]:List El) pt=vs by simp[bJ]];exact aD aE ⟨q,by rfl,rfl⟩ aA
 have hs:bJ no l pt=[no]++uB (bD l pt).length++bD l pt:=by unfold bJ;rw[if_neg (by intro e;rw[List.isEmpty_iff.1 e]at g1;simp at g1)];simp
 rw[hs];refine dF ?_;refine cw [] Tryz.call244 (aEG hf hB l hok hl hb) rfl aC aA ?_;rintro _ σ' ⟨r16,rfl,rfl⟩ h16
 replace h16:=gU h16;repeat rcases h16 with⟨_,h16⟩
 refine eR ?_;generalize bD l pt=P at hvl hub⊢;refine kL ?_;refine z0 ?_;refine eS fun r20 h20=> ?_;intros
 refine kI ((vs++ [no]).map aH) (vs++ [no]).length ?_;refine bL fun r21 h21=> ?_;intros
 refine DY ?_;refine cw [(r21,.arr 5 1 ((vs++ [no]).map aH))] Tryz.call135 (eI r21 (vs++ [no]) (by simp;omega) P.length (by omega)) rfl aC aA ?_;rintro _ σ' ⟨r24,rfl,rfl⟩ h24;have k24:=bB h24;repeat rcases k24 with⟨_,k24⟩
 refine yU ?_;refine kI ((vs++ [no]++uB P.length++P).map aH) (vs++ [no]++uB P.length++P).length ?_;refine bL fun r26 h26=> ?_;intros
 refine cZ ?_;rw[show vs++ [no]++uB P.length++P=vs++([no]++uB P.length++P) by simp];exact aD aE ⟨r26,by rfl,rfl⟩ aA
theorem aIc{f:FuncId}{pt:Co→List Nat}{ok:Co→Prop}{c B:Nat}(hf:iT Tryz.prog 5 f (fun x=>.agg (dP x)) pt ok c B)(hB:B≤50000000)(q:Nat)(vs:List Nat)(no:Nat)(hno:no<256)(l:List Co)(hok:∀x∈l,ok x)(hl:l.length≤1000)(hvs:vs.length≤10000000)(hb:10+l.length*c≤B):
  SCall Tryz.prog 150 [.own q 0 vs.length,.int .i64 no,.ro 2 (l.map dP) .any,.fn (.func f) [] []] [(q,.arr 5 1 (vs.map aH))] (fun y σ=>∃r,y=.own r 0 (vs++bJ no l pt).length∧σ=[(r,.arr 5 1 ((vs++bJ no l pt).map aH))]):=by
 have hu:=bR 1 l.length (by omega);have hup:=iI l.length;have hpc:=gQ hf (by omega) hok l.length;rw[List.take_length]at hpc;have hvl:(bD l pt).length≤50000000:=by unfold bD;simp only[List.length_append];omega
 have hub:=bR 4 (bD l pt).length (by omega);refine cC 27 [0,1,2,3,8,9,12] Tryz.func150 ?_;refine gX ?_;refine uM ?_;refine aB rfl (fun g1=> ?_) (fun g1=> ?_)
 ·obtain rfl:l=[]:=by cases l with|nil=>rfl|cons x t=>simp at g1;omega
  refine fF ?_;rw[show vs++bJ no ([]:List Co) pt=vs by simp[bJ]];exact aD aE ⟨q,by rfl,rfl⟩ aA
 have hs:bJ no l pt=[no]++uB (bD l pt).length++bD l pt:=by unfold bJ;rw[if_neg (by intro e;rw[List.isEmpty_iff.1 e]at g1;simp at g1)];simp
 rw[hs];refine dF ?_;refine cw [] Tryz.call245 (aEH hf hB l hok hl hb) rfl aC aA ?_;rintro _ σ' ⟨r16,rfl,rfl⟩ h16
 replace h16:=gU h16;repeat rcases h16 with⟨_,h16⟩
 refine eR ?_;generalize bD l pt=P at hvl hub⊢;refine kL ?_;refine z0 ?_;refine eS fun r20 h20=> ?_;intros
 refine kI ((vs++ [no]).map aH) (vs++ [no]).length ?_;refine bL fun r21 h21=> ?_;intros
 refine DY ?_;refine cw [(r21,.arr 5 1 ((vs++ [no]).map aH))] Tryz.call135 (eI r21 (vs++ [no]) (by simp;omega) P.length (by omega)) rfl aC aA ?_;rintro _ σ' ⟨r24,rfl,rfl⟩ h24;have k24:=bB h24;repeat rcases k24 with⟨_,k24⟩
 refine yU ?_;refine kI ((vs++ [no]++uB P.length++P).map aH) (vs++ [no]++uB P.length++P).length ?_;refine bL fun r26 h26=> ?_;intros
 refine cZ ?_;rw[show vs++ [no]++uB P.length++P=vs++([no]++uB P.length++P) by simp];exact aD aE ⟨r26,by rfl,rfl⟩ aA
theorem aId{f:FuncId}{pt:Da→List Nat}{ok:Da→Prop}{c B:Nat}(hf:iT Tryz.prog 5 f (fun x=>.agg (eB x)) pt ok c B)(hB:B≤50000000)(q:Nat)(vs:List Nat)(no:Nat)(hno:no<256)(l:List Da)(hok:∀x∈l,ok x)(hl:l.length≤1000)(hvs:vs.length≤10000000)(hb:10+l.length*c≤B):
  SCall Tryz.prog 152 [.own q 0 vs.length,.int .i64 no,.ro 2 (l.map eB) .any,.fn (.func f) [] []] [(q,.arr 5 1 (vs.map aH))] (fun y σ=>∃r,y=.own r 0 (vs++bJ no l pt).length∧σ=[(r,.arr 5 1 ((vs++bJ no l pt).map aH))]):=by
 have hu:=bR 1 l.length (by omega);have hup:=iI l.length;have hpc:=gQ hf (by omega) hok l.length;rw[List.take_length]at hpc;have hvl:(bD l pt).length≤50000000:=by unfold bD;simp only[List.length_append];omega
 have hub:=bR 4 (bD l pt).length (by omega);refine cC 27 [0,1,2,3,8,9,12] Tryz.func152 ?_;refine gX ?_;refine uM ?_;refine aB rfl (fun g1=> ?_) (fun g1=> ?_)
 ·obtain rfl:l=[]:=by cases l with|nil=>rfl|cons x t=>simp at g1;omega
  refine fF ?_;rw[show vs++bJ no ([]:List Da) pt=vs by simp[bJ]];exact aD aE ⟨q,by rfl,rfl⟩ aA
 have hs:bJ no l pt=[no]++uB (bD l pt).length++bD l pt:=by unfold bJ;rw[if_neg (by intro e;rw[List.isEmpty_iff.1 e]at g1;simp at g1)];simp
 rw[hs];refine dF ?_;refine cw [] Tryz.call249 (aEI hf hB l hok hl hb) rfl aC aA ?_;rintro _ σ' ⟨r16,rfl,rfl⟩ h16
 replace h16:=gU h16;repeat rcases h16 with⟨_,h16⟩
 refine eR ?_;generalize bD l pt=P at hvl hub⊢;refine kL ?_;refine z0 ?_;refine eS fun r20 h20=> ?_;intros
 refine kI ((vs++ [no]).map aH) (vs++ [no]).length ?_;refine bL fun r21 h21=> ?_;intros
 refine DY ?_;refine cw [(r21,.arr 5 1 ((vs++ [no]).map aH))] Tryz.call135 (eI r21 (vs++ [no]) (by simp;omega) P.length (by omega)) rfl aC aA ?_;rintro _ σ' ⟨r24,rfl,rfl⟩ h24;have k24:=bB h24;repeat rcases k24 with⟨_,k24⟩
 refine yU ?_;refine kI ((vs++ [no]++uB P.length++P).map aH) (vs++ [no]++uB P.length++P).length ?_;refine bL fun r26 h26=> ?_;intros
 refine cZ ?_;rw[show vs++ [no]++uB P.length++P=vs++([no]++uB P.length++P) by simp];exact aD aE ⟨r26,by rfl,rfl⟩ aA
end Go.Proofs.YtjpdadobblffmaaGreat
namespace Go.Proofs.YtjpdadobblffmaaGreat
open Go.RowKit Go.ChangeShapes Go.WideShapes Go.ChangeAt Go.Deep
attribute [local irreducible] SW RS RD fH eH
theorem lW{α:Type}{pt:α→List Nat}{l:List α}{c:Nat}(h:∀x∈l,(pt x).length≤c)(hl:l.length≤1000):(bD l pt).length≤2+l.length*c:=by
 have hu:=bR 1 l.length (by omega);have h1:∀(l:List α),(∀x∈l,(pt x).length≤c)→(l.flatMap pt).length≤l.length*c:=by
  intro l
  induction l with
  |nil=>simp
  |cons x l ih=>
   intro h;have:=ih fun y hy=>h y (List.mem_cons_of_mem _ hy)
   have hx:=h x List.mem_cons_self;rw[List.flatMap_cons,List.length_append,List.length_cons,Nat.add_mul];omega
 have:=h1 l h;unfold bD;rw[List.length_append];omega
theorem oD(k:Int):(kB k).length=1:=by unfold kB;split<;>rfl
theorem MO{n:Int}(h:iB n=true):(cH n).length≤2:=by
 have:0≤n∧n≤1000:=by
  unfold iB at h;by_cases h0:0≤n
  ·rw[if_pos (by simpa using h0)]at h;exact⟨h0,by simpa using h⟩
  ·rw[if_neg (by simpa using h0)]at h;cases h
 exact bR 1 _ (by omega)
theorem KE:iT Tryz.prog 5 132 (fun k:Int=>.int .i64 k) kB (fun _=>True) 1 20000000:=
 ⟨Tryz.call132,fun q vs x _ _ hvs=>⟨Nat.le_of_eq (oD x),tT q vs (by omega) x⟩⟩
theorem qA(q:Nat)(vs:List Nat)(hvs:vs.length≤50000000)(n:Int)(h0:0≤n)(h1:n<9223372036854775808):SCall Tryz.prog 135 [.own q 0 vs.length,.int .i64 n] [(q,.arr 5 1 (vs.map aH))]
  (fun y σ=>∃r,y=.own r 0 (vs++cH n).length∧σ=[(r,.arr 5 1 ((vs++cH n).map aH))]):=by
 obtain⟨m,rfl⟩:=Int.eq_ofNat_of_zero_le h0;exact eI q vs hvs m (by omega)
theorem uQ{n:Int}(h:iB n=true):0≤n∧n≤1000:=by
 unfold iB at h;by_cases h0:0≤n
 ·rw[if_pos (by simpa using h0)]at h;exact⟨h0,by simpa using h⟩
 ·rw[if_neg (by simpa using h0)]at h;cases h
theorem GE:iT Tryz.prog 5 135 (fun n:Int=>.int .i64 n) cH (fun n=>iB n=true) 2 20000000:=
 ⟨Tryz.call135,fun q vs n h _ hvs=>⟨MO h,qA q vs (by omega) n (uQ h).1 (by have:=(uQ h).2;omega)⟩⟩
theorem aMp(q:Nat)(vs:List Nat)(hvs:vs.length≤10000000)(pr rs:List Int)(h1:pr.length≤32)(h2:rs.length≤1):SCall Tryz.prog 130 [.own q 0 vs.length,.agg (cP ⟨pr,rs⟩)] [(q,.arr 5 1 (vs.map aH))]
  (fun y σ=>∃r,y=.own r 0 (vs++wM ⟨pr,rs⟩).length∧σ=[(r,.arr 5 1 ((vs++wM ⟨pr,rs⟩).map aH))]):=by
 have l1:=lW (pt:=kB) (l:=pr) (c:=1) (fun x _=>Nat.le_of_eq (oD x)) (by omega);refine cC 14 [0,1,3,4] Tryz.func130 ?_;unfold cP;refine dG ?_;refine iG fun r3 h3=> ?_;intros
 refine cZ ?_;refine fK [(0,true),(3,true),(4,true),(6,true),(7,true),(1,false),(2,false),(5,false),(8,false),(9,true)] ?_;refine DW ?_;refine fZ ?_;refine CA fun r6 h6=> ?_;intros
 refine eX rfl ((vs++ [96]).map aH) (vs++ [96]).length ?_;refine bL fun r7 h7=> ?_;intros
 refine sD [(r7,.arr 5 1 ((vs++ [96]).map aH))] rfl Tryz.call131 (EO KE (by decide) r7 (vs++ [96]) pr (fun _ _=>trivial) (by omega) (by simp;omega)) rfl aC aA fS ?_;rintro _ σ' ⟨r10,rfl,rfl⟩ h10;have k10:=bB h10;repeat rcases k10 with⟨_,k10⟩
 apply bZ;exact bN;refine sD [(r10,.arr 5 1 ((vs++ [96]++bD pr kB).map aH))] rfl Tryz.call131 (EO KE (by decide) r10 (vs++ [96]++bD pr kB) rs (fun _ _=>trivial) (by omega) (by simp;omega)) rfl aC aA fS ?_;rintro _ σ' ⟨r13,rfl,rfl⟩ h13;have k13:=bB h13;repeat rcases k13 with⟨_,k13⟩
 refine uE ?_;rw[show vs++ [96]++bD pr kB++bD rs kB=vs++wM ⟨pr,rs⟩ by unfold wM;simp];exact aD aE ⟨r13,by rfl,rfl⟩ aA
theorem XS:iT Tryz.prog 5 130 (fun x=>.agg (cP x)) wM (fun t=>(cQ t.pr 32 AU&&cQ t.rs 1 AU)=true) 100 10000000:=
 ⟨Tryz.call130,fun q vs x h _ hvs=>by
  obtain⟨pr,rs⟩:=x;have h1:pr.length≤32:=by simp[cQ]at h;omega
  have h2:rs.length≤1:=by simp[cQ]at h;omega
  have l1:=lW (pt:=kB) (l:=pr) (c:=1) (fun x _=>Nat.le_of_eq (oD x)) (by omega);have l2:=lW (pt:=kB) (l:=rs) (c:=1) (fun x _=>Nat.le_of_eq (oD x)) (by omega);exact⟨by unfold wM;simp;omega,aMp q vs hvs pr rs h1 h2⟩⟩
theorem lD{s:List Nat}(h:uO s=true):s.length≤16∧(∀c∈s,c<256)∧(bS s).length≤18:=by
 unfold uO at h;split at h
 ·simp only[Bool.and_eq_true,decide_eq_true_eq,List.all_eq_true]at h;refine⟨h.1,fun c hc=>by have:=(h.2 c hc).2;omega, ?_⟩;have:=bR 1 s.length (by omega);unfold bS;rw[List.length_append];omega
 ·cases h
theorem aMq(q:Nat)(vs:List Nat)(hp:0<vs.length)(hvs:vs.length≤10000000)(md nm:List Nat)(ty:Int)(m1:uO md=true)(m2:uO nm=true)(m3:iB ty=true):SCall Tryz.prog 134 [.own q 0 vs.length,.agg (eE ⟨md,nm,ty⟩)] [(q,.arr 5 1 (vs.map aH))]
  (fun y σ=>∃r,y=.own r 0 (vs++iY ⟨md,nm,ty⟩).length∧σ=[(r,.arr 5 1 ((vs++iY ⟨md,nm,ty⟩).map aH))]):=by
 obtain⟨a1,a2,a3⟩:=lD m1;obtain⟨b1,b2,b3⟩:=lD m2;refine cC 17 [0,1,3,4] Tryz.func134 ?_;unfold eE;refine dG ?_;refine iG fun r3 h3=> ?_;intros
 refine cZ ?_;refine fK [(0,true),(1,true),(2,true),(4,true),(5,true),(9,true),(10,true),(13,false),(13,false),(13,false),(13,false),(13,false),(13,false)] ?_;refine DW ?_;refine fZ ?_;refine fZ ?_;refine iC 3 7 [(13,false),(13,false),(13,false),(13,false),(13,false)] [(3,false),(6,false),(8,false),(11,false),(12,true)] (f1:=[q]) (f2:=[]) (by kernel_rfl) rfl rfl ?_ ?_ (.inr ⟨by simp,fS⟩) (.inl rfl)
 ·refine sH (σ1:=[(q,.arr 5 1 (vs.map aH))]) Tryz.call136 (oC q vs hp (by omega) md (by omega) a2) (dL rfl) aC aA ?_;rintro _ σ' ⟨r8,rfl,rfl⟩ h8;have k8:=bB h8;repeat rcases k8 with⟨_,k8⟩
  apply bZ;exact bN;refine iC 6 7 [(7,false),(8,false),(11,false),(12,true)] [(6,false),(8,false),(11,false),(12,true)] (f1:=[r8]) (f2:=[]) (by kernel_rfl) rfl rfl ?_ ?_ (.inr ⟨by simp,fS⟩) (.inl rfl)
  ·refine sH (σ1:=[(r8,.arr 5 1 ((vs++bS md).map aH))]) Tryz.call136 (oC r8 (vs++bS md) (by simp;omega) (by simp;omega) nm (by omega) b2) (dL rfl) aC aA ?_;rintro _ σ' ⟨r11,rfl,rfl⟩ h11;have k11:=bB h11;repeat rcases k11 with⟨_,k11⟩
   apply bZ;exact bN;refine CA fun r12 h12=> ?_;intros
   refine eX rfl ((vs++bS md++bS nm++ [0]).map aH) (vs++bS md++bS nm++ [0]).length ?_;refine bL fun r13 h13=> ?_;intros
   refine sD [(r13,.arr 5 1 ((vs++bS md++bS nm++ [0]).map aH))] rfl Tryz.call135 (qA r13 (vs++bS md++bS nm++ [0]) (by simp;omega) ty (uQ m3).1 (by have:=(uQ m3).2;omega)) rfl aC aA fS ?_;rintro _ σ' ⟨r16,rfl,rfl⟩ h16;have k16:=bB h16;repeat rcases k16 with⟨_,k16⟩
   refine uE ?_;rw[show vs++bS md++bS nm++ [0]++cH ty=vs++iY ⟨md,nm,ty⟩ by unfold iY;simp];exact aD aE ⟨r16,by rfl,rfl⟩ aA
  ·apply uP;infer_instance;infer_instance;exact qN;rfl;rfl;rfl;rfl;exact wA;rfl;refine bI fun r12 h12=> ?_;repeat rcases h12 with⟨_,h12⟩
   refine sD [(r8,.arr 5 1 ((vs++bS md).map aH))] rfl Tryz.call136 (oC r8 (vs++bS md) (by simp;omega) (by simp;omega) nm (by omega) b2) rfl aC aA fS ?_;rintro _ σ' ⟨r11,rfl,rfl⟩ h11;have k11:=bB h11;repeat rcases k11 with⟨_,k11⟩
   apply bZ;exact bN;refine eX rfl ((vs++bS md++bS nm++ [0]).map aH) (vs++bS md++bS nm++ [0]).length ?_;refine bL fun r13 h13=> ?_;intros
   refine sD [(r13,.arr 5 1 ((vs++bS md++bS nm++ [0]).map aH))] rfl Tryz.call135 (qA r13 (vs++bS md++bS nm++ [0]) (by simp;omega) ty (uQ m3).1 (by have:=(uQ m3).2;omega)) rfl aC aA fS ?_;rintro _ σ' ⟨r16,rfl,rfl⟩ h16;have k16:=bB h16;repeat rcases k16 with⟨_,k16⟩
   refine uE ?_;rw[show vs++bS md++bS nm++ [0]++cH ty=vs++iY ⟨md,nm,ty⟩ by unfold iY;simp];exact aD aE ⟨r16,by rfl,rfl⟩ aA
 ·apply uP;infer_instance;infer_instance;exact qN;rfl;rfl;rfl;rfl;exact wA;rfl;refine bI fun r12 h12=> ?_;repeat rcases h12 with⟨_,h12⟩
  refine sD [(q,.arr 5 1 (vs.map aH))] rfl Tryz.call136 (oC q vs hp (by omega) md (by omega) a2) rfl aC aA fS ?_;rintro _ σ' ⟨r8,rfl,rfl⟩ h8;have k8:=bB h8;repeat rcases k8 with⟨_,k8⟩
  apply bZ;exact bN;refine sD [(r8,.arr 5 1 ((vs++bS md).map aH))] rfl Tryz.call136 (oC r8 (vs++bS md) (by simp;omega) (by simp;omega) nm (by omega) b2) rfl aC aA fS ?_;rintro _ σ' ⟨r11,rfl,rfl⟩ h11;have k11:=bB h11;repeat rcases k11 with⟨_,k11⟩
  apply bZ;exact bN;refine eX rfl ((vs++bS md++bS nm++ [0]).map aH) (vs++bS md++bS nm++ [0]).length ?_;refine bL fun r13 h13=> ?_;intros
  refine sD [(r13,.arr 5 1 ((vs++bS md++bS nm++ [0]).map aH))] rfl Tryz.call135 (qA r13 (vs++bS md++bS nm++ [0]) (by simp;omega) ty (uQ m3).1 (by have:=(uQ m3).2;omega)) rfl aC aA fS ?_;rintro _ σ' ⟨r16,rfl,rfl⟩ h16;have k16:=bB h16;repeat rcases k16 with⟨_,k16⟩
  refine uE ?_;rw[show vs++bS md++bS nm++ [0]++cH ty=vs++iY ⟨md,nm,ty⟩ by unfold iY;simp];exact aD aE ⟨r16,by rfl,rfl⟩ aA
theorem aMr(q:Nat)(vs:List Nat)(hp:0<vs.length)(hvs:vs.length≤10000000)(nm:List Nat)(fn:Int)(m2:uO nm=true)(m3:iB fn=true):SCall Tryz.prog 146 [.own q 0 vs.length,.agg (dH ⟨nm,fn⟩)] [(q,.arr 5 1 (vs.map aH))]
  (fun y σ=>∃r,y=.own r 0 (vs++nO ⟨nm,fn⟩).length∧σ=[(r,.arr 5 1 ((vs++nO ⟨nm,fn⟩).map aH))]):=by
 obtain⟨b1,b2,b3⟩:=lD m2;refine cC 14 [0,1,3,4] Tryz.func146 ?_;unfold dH;refine dG ?_;refine iG fun r3 h3=> ?_;intros
 refine cZ ?_;refine fK [(0,true),(1,true),(2,true),(6,true),(7,true),(10,false),(10,false),(10,false),(10,false),(10,false)] ?_;refine DW ?_;refine fZ ?_;refine iC 3 4 [(4,false),(5,false),(8,false),(9,true)] [(3,false),(5,false),(8,false),(9,true)] (f1:=[q]) (f2:=[]) (by kernel_rfl) rfl rfl ?_ ?_ (.inr ⟨by simp,fS⟩) (.inl rfl)
 ·refine sH (σ1:=[(q,.arr 5 1 (vs.map aH))]) Tryz.call136 (oC q vs hp (by omega) nm (by omega) b2) (dL rfl) aC aA ?_;rintro _ σ' ⟨r8,rfl,rfl⟩ h8;have k8:=bB h8;repeat rcases k8 with⟨_,k8⟩
  apply bZ;exact bN;refine CA fun r9 h9=> ?_;intros
  refine eX rfl ((vs++bS nm++ [0]).map aH) (vs++bS nm++ [0]).length ?_;refine bL fun r10 h10=> ?_;intros
  refine sD [(r10,.arr 5 1 ((vs++bS nm++ [0]).map aH))] rfl Tryz.call135 (qA r10 (vs++bS nm++ [0]) (by simp;omega) fn (uQ m3).1 (by have:=(uQ m3).2;omega)) rfl aC aA fS ?_;rintro _ σ' ⟨r13,rfl,rfl⟩ h13;have k13:=bB h13;repeat rcases k13 with⟨_,k13⟩
  refine uE ?_;rw[show vs++bS nm++ [0]++cH fn=vs++nO ⟨nm,fn⟩ by unfold nO;simp];exact aD aE ⟨r13,by rfl,rfl⟩ aA
 ·apply uP;infer_instance;infer_instance;exact qN;rfl;rfl;rfl;rfl;exact wA;rfl;refine bI fun r9 h9=> ?_;repeat rcases h9 with⟨_,h9⟩
  refine sD [(q,.arr 5 1 (vs.map aH))] rfl Tryz.call136 (oC q vs hp (by omega) nm (by omega) b2) rfl aC aA fS ?_;rintro _ σ' ⟨r8,rfl,rfl⟩ h8;have k8:=bB h8;repeat rcases k8 with⟨_,k8⟩
  apply bZ;exact bN;refine eX rfl ((vs++bS nm++ [0]).map aH) (vs++bS nm++ [0]).length ?_;refine bL fun r10 h10=> ?_;intros
  refine sD [(r10,.arr 5 1 ((vs++bS nm++ [0]).map aH))] rfl Tryz.call135 (qA r10 (vs++bS nm++ [0]) (by simp;omega) fn (uQ m3).1 (by have:=(uQ m3).2;omega)) rfl aC aA fS ?_;rintro _ σ' ⟨r13,rfl,rfl⟩ h13;have k13:=bB h13;repeat rcases k13 with⟨_,k13⟩
  refine uE ?_;rw[show vs++bS nm++ [0]++cH fn=vs++nO ⟨nm,fn⟩ by unfold nO;simp];exact aD aE ⟨r13,by rfl,rfl⟩ aA
theorem wO(q:Nat)(vs:List Nat)(hvs:vs.length≤10000000)(l:Li)(h0:0≤l.mn)(h1:l.mn≤100000)(h2:l.mx≤100000):SCall Tryz.prog 141 [.own q 0 vs.length,.agg (fA l)] [(q,.arr 5 1 (vs.map aH))]
  (fun y σ=>∃r,y=.own r 0 (vs++eM l).length∧σ=[(r,.arr 5 1 ((vs++eM l).map aH))]):=by
 obtain⟨has,mn,mx⟩:=l;dsimp only at h0 h1 h2;have hu:=bR 2 mn.toNat (by omega);refine cC 23 [0,1,3,4,7] Tryz.func141 ?_;unfold fA;refine dG ?_;refine iG fun r3 h3=> ?_;intros
 refine iX ?_;refine oP ?_;refine aB rfl (fun g1=> ?_) (fun g1=> ?_)
 ·refine aI ?_;refine fK [(0,true),(3,true),(4,true),(1,false),(2,false),(5,false),(6,true)] ?_;refine DW ?_;refine CA fun r9 h9=> ?_;intros
  refine eX rfl ((vs++ [0]).map aH) (vs++ [0]).length ?_;refine bL fun r10 h10=> ?_;intros
  refine sD [(r10,.arr 5 1 ((vs++ [0]).map aH))] rfl Tryz.call135 (qA r10 (vs++ [0]) (by simp;omega) mn h0 (by omega)) rfl aC aA fS ?_;rintro _ σ' ⟨r13,rfl,rfl⟩ h13;have k13:=bB h13;repeat rcases k13 with⟨_,k13⟩
  refine uE ?_;rw[show vs++ [0]++cH mn=vs++eM ⟨has,mn,mx⟩ by unfold eM;rw[if_pos g1];simp];exact aD aE ⟨r13,by rfl,rfl⟩ aA
 refine aI ?_;refine fK [(0,true),(3,true),(4,true),(6,true),(7,true),(1,false),(2,false),(5,false),(8,false),(9,true)] ?_;refine DW ?_;refine fZ ?_;refine CA fun r15 h15=> ?_;intros
 refine eX rfl ((vs++ [1]).map aH) (vs++ [1]).length ?_;refine bL fun r16 h16=> ?_;intros
 refine sD [(r16,.arr 5 1 ((vs++ [1]).map aH))] rfl Tryz.call135 (qA r16 (vs++ [1]) (by simp;omega) mn h0 (by omega)) rfl aC aA fS ?_;rintro _ σ' ⟨r19,rfl,rfl⟩ h19;have k19:=bB h19;repeat rcases k19 with⟨_,k19⟩
 apply bZ;exact bN;refine sD [(r19,.arr 5 1 ((vs++ [1]++cH mn).map aH))] rfl Tryz.call135 (qA r19 (vs++ [1]++cH mn) (by simp[cH];omega) mx (by simp at g1;omega) (by omega)) rfl aC aA fS ?_;rintro _ σ' ⟨r22,rfl,rfl⟩ h22;have k22:=bB h22;repeat rcases k22 with⟨_,k22⟩
 refine uE ?_;rw[show vs++ [1]++cH mn++cH mx=vs++eM ⟨has,mn,mx⟩ by unfold eM;rw[if_neg (by simp[g1])];simp];exact aD aE ⟨r22,by rfl,rfl⟩ aA
theorem aMs(q:Nat)(vs:List Nat)(hvs:vs.length≤9000000)(l:Li)(h0:0≤l.mn)(h1:l.mn≤100000)(h2:l.mx≤100000):SCall Tryz.prog 140 [.own q 0 vs.length,.agg (fA l)] [(q,.arr 5 1 (vs.map aH))]
  (fun y σ=>∃r,y=.own r 0 (vs++112::eM l).length∧σ=[(r,.arr 5 1 ((vs++112::eM l).map aH))]):=by
 refine cC 10 [0,1,3,4] Tryz.func140 ?_;refine dG ?_;refine iG fun r3 h3=> ?_;intros
 refine cZ ?_;refine fK [(0,true),(3,true),(1,false),(2,false),(4,false),(5,true)] ?_;refine fY rfl (aF (E rfl)) rfl ?_;refine UE ?_;refine CA fun r6 h6=> ?_;intros
 refine eX rfl ((vs++ [112]).map aH) (vs++ [112]).length ?_;refine bL fun r7 h7=> ?_;intros
 refine sD [(r7,.arr 5 1 ((vs++ [112]).map aH))] rfl Tryz.call141 (wO r7 (vs++ [112]) (by simp;omega) l h0 h1 h2) rfl aC aA fS ?_;rintro _ σ' ⟨r9,rfl,rfl⟩ h9;have k9:=bB h9;repeat rcases k9 with⟨_,k9⟩
 refine uE ?_;rw[show vs++ [112]++eM l=vs++112::eM l by simp];exact aD aE ⟨r9,by rfl,rfl⟩ aA
theorem GF(q:Nat)(vs:List Nat)(hvs:vs.length≤10000000)(n:Int)(h:kV n=true):SCall Tryz.prog 149 [.own q 0 vs.length,.int .i64 n] [(q,.arr 5 1 (vs.map aH))]
  (fun y σ=>∃r,y=.own r 0 (vs++qX n).length∧σ=[(r,.arr 5 1 ((vs++qX n).map aH))]):=by
 have hr:-2147483648≤n∧n≤2147483647:=by unfold kV at h;simpa using h
 refine cC 11 [0,1,4] Tryz.func149 ?_;refine gX ?_;refine eS fun r6 h6=> ?_;intros
 refine kI ((vs++ [0]).map aH) (vs++ [0]).length ?_;refine bL fun r7 h7=> ?_;intros
 refine lo (aF (E rfl)) rfl ?_;refine jY ?_;refine cw [(r7,.arr 5 1 ((vs++ [0]).map aH))] Tryz.call144 (rX r7 (vs++ [0]) (by simp;omega) 1 n (by unfold mS;simp;omega) (by omega)) rfl aC aA ?_;rintro _ σ' ⟨r10,rfl,rfl⟩ h10;have k10:=bB h10;repeat rcases k10 with⟨_,k10⟩
 refine eR ?_;rw[show vs++ [0]++mD 1 n=vs++qX n by unfold qX;simp];exact aD aE ⟨r10,by rfl,rfl⟩ aA
theorem aMt(q:Nat)(vs:List Nat)(hvs:vs.length≤9000000)(o:Int)(fs:List Int)(h:kV o=true)(h1:fs.length≤50)(h2:∀n∈fs,iB n=true)(hc:(qX o).length≤300):SCall Tryz.prog 148 [.own q 0 vs.length,.agg (dX ⟨o,fs⟩)] [(q,.arr 5 1 (vs.map aH))]
  (fun y σ=>∃r,y=.own r 0 (vs++vO ⟨o,fs⟩).length∧σ=[(r,.arr 5 1 ((vs++vO ⟨o,fs⟩).map aH))]):=by
 refine cC 12 [0,1,3,4] Tryz.func148 ?_;unfold dX;refine dG ?_;refine iG fun r3 h3=> ?_;intros
 refine cZ ?_;refine fK [(0,true),(1,true),(2,true),(4,true),(5,true),(3,false),(6,false),(7,true)] ?_;refine DW ?_;refine fZ ?_;refine sD [(q,.arr 5 1 (vs.map aH))] rfl Tryz.call149 (GF q vs (by omega) o h) rfl aC aA fS ?_;rintro _ σ' ⟨r8,rfl,rfl⟩ h8;have k8:=bB h8;repeat rcases k8 with⟨_,k8⟩
 apply bZ;exact bN;refine sD [(r8,.arr 5 1 ((vs++qX o).map aH))] rfl Tryz.call131 (EO GE (by decide) r8 (vs++qX o) fs h2 (by omega) (by simp;omega)) rfl aC aA fS ?_;rintro _ σ' ⟨r11,rfl,rfl⟩ h11;have k11:=bB h11;repeat rcases k11 with⟨_,k11⟩
 refine uE ?_;rw[show vs++qX o++bD fs cH=vs++vO ⟨o,fs⟩ by unfold vO;simp];exact aD aE ⟨r11,by rfl,rfl⟩ aA
theorem aMu(q:Nat)(vs:List Nat)(hvs:vs.length≤9000000)(o:Int)(bs:List Nat)(h:kV o=true)(h1:bs.length≤1000)(hc:(qX o).length≤300):SCall Tryz.prog 153 [.own q 0 vs.length,.agg (eB ⟨o,bs⟩)] [(q,.arr 5 1 (vs.map aH))]
  (fun y σ=>∃r,y=.own r 0 (vs++xH ⟨o,bs⟩).length∧σ=[(r,.arr 5 1 ((vs++xH ⟨o,bs⟩).map aH))]):=by
 have hu:=bR 1 bs.length (by omega);refine cC 16 [0,1,3,4] Tryz.func153 ?_;unfold eB;refine dG ?_;refine iG fun r3 h3=> ?_;intros
 refine cZ ?_;refine fK [(0,true),(1,true),(2,true),(4,true),(5,true),(6,true),(8,true),(9,true),(3,false),(7,false),(10,false),(11,true)] ?_;refine DW ?_;refine fZ ?_;refine UQ ?_;refine fZ ?_;refine sD [(q,.arr 5 1 (vs.map aH))] rfl Tryz.call149 (GF q vs (by omega) o h) rfl aC aA fS ?_;rintro _ σ' ⟨r8,rfl,rfl⟩ h8;have k8:=bB h8;repeat rcases k8 with⟨_,k8⟩
 apply bZ;exact bN;refine sD [(r8,.arr 5 1 ((vs++qX o).map aH))] rfl Tryz.call135 (eI r8 (vs++qX o) (by simp;omega) bs.length (by omega)) rfl aC aA fS ?_;rintro _ σ' ⟨r12,rfl,rfl⟩ h12;have k12:=bB h12;repeat rcases k12 with⟨_,k12⟩
 apply bZ;exact bN;refine eX rfl ((vs++qX o++uB bs.length++bs).map aH) (vs++qX o++uB bs.length++bs).length ?_;refine bL fun r15 h15=> ?_;intros
 refine yV ?_;rw[show vs++qX o++uB bs.length++bs=vs++xH ⟨o,bs⟩ by unfold xH;simp];exact aD aE ⟨r15,by rfl,rfl⟩ aA
theorem RM(l:Li):SCall Tryz.prog 139 [.agg (fA l)] [] (fun y σ=>∃q,y=.own q 0 (gP l).length∧σ=[(q,.arr 26 3 ((gP l).map fA))]):=by
 obtain⟨has,mn,mx⟩:=l;refine cC 8 [0,1,2,5] Tryz.func139 ?_;unfold fA;refine dG ?_;refine iG fun r1 h1=> ?_;intros
 refine iX ?_;refine nZ ?_;refine aB rfl (fun g1=> ?_) (fun g1=> ?_)
 ·obtain rfl:has=false:=by simpa using g1
  refine dG ?_;refine pI ?_;refine bX 2 26 3 (by decide) rfl (by decide) (bI fun q2 hq2=> ?_);repeat rcases hq2 with⟨_,hq2⟩
  refine aI ?_;exact aD aE ⟨q2,by rfl,rfl⟩ aA
 obtain rfl:has=true:=by simpa using g1
 refine pM ?_;refine eS fun r7 h7=> ?_;intros
 refine cZ ?_;exact aD aE ⟨r7,by rfl,rfl⟩ aA
theorem xI{k n:Int}(hv:mS k n=true)(hn:-9223372036854775808≤n∧n≤9223372036854775807):(mD k n).length≤201:=by
 obtain⟨ho,hm,-⟩:=GC hv hn;have:=wJ ho hm;unfold mD;rw[List.length_append,List.length_singleton];omega
theorem EP{n:Int}(h:kV n=true):(qX n).length≤202:=by
 have hr:-2147483648≤n∧n≤2147483647:=by unfold kV at h;simpa using h
 have:=xI (k:=1) (n:=n) (by unfold mS;simp;omega) (by omega);unfold qX;simp;omega
theorem XT:iT Tryz.prog 5 134 (fun x=>.agg (eE x)) iY (fun x=>(uO x.mod&&uO x.nm&&iB x.ty)=true) 50 10000000:=
 ⟨Tryz.call134,fun q vs x h hp hvs=>by
  obtain⟨a,b,n⟩:=x;simp only[Bool.and_eq_true]at h;obtain⟨⟨h1,h2⟩,h3⟩:=h;have l1:=(lD h1).2.2;have l2:=(lD h2).2.2;have l3:=MO h3;exact⟨by unfold iY;simp;omega,aMq q vs hp hvs a b n h1 h2 h3⟩⟩
theorem XU:iT Tryz.prog 5 146 (fun x=>.agg (dH x)) nO (fun x=>(uO x.nm&&iB x.fn)=true) 50 10000000:=
 ⟨Tryz.call146,fun q vs x h hp hvs=>by
  obtain⟨b,n⟩:=x;simp only[Bool.and_eq_true]at h;have l2:=(lD h.1).2.2;have l3:=MO h.2;exact⟨by unfold nO;simp;omega,aMr q vs hp hvs b n h.1 h.2⟩⟩
def RN (l:Li):Prop:=0≤l.mn∧l.mn≤100000∧l.mx≤100000
theorem xJ{l:Li}(h:RN l):(eM l).length≤7:=by
 have h1:=bR 2 l.mn.toNat (by have:=h.2.1;omega);have h2:=bR 2 l.mx.toNat (by have:=h.2.2;omega);unfold eM cH;split
 ·simp;omega
 ·simp;omega
theorem XV:iT Tryz.prog 5 141 (fun x=>.agg (fA x)) eM RN 10 9000000:=
 ⟨Tryz.call141,fun q vs x h _ hvs=>⟨by have:=xJ h;omega,wO q vs (by omega) x h.1 h.2.1 h.2.2⟩⟩
theorem XW:iT Tryz.prog 5 140 (fun x=>.agg (fA x)) (fun l=>112::eM l) RN 10 9000000:=
 ⟨Tryz.call140,fun q vs x h _ hvs=>⟨by have:=xJ h;simp;omega,aMs q vs (by omega) x h.1 h.2.1 h.2.2⟩⟩
theorem XX:iT Tryz.prog 5 148 (fun x=>.agg (dX x)) vO (fun x=>(kV x.off&&cQ x.fs 50 iB)=true) 400 9000000:=
 ⟨Tryz.call148,fun q vs x h _ hvs=>by
  obtain⟨o,fs⟩:=x;simp only[Bool.and_eq_true]at h;have h1:fs.length≤50∧∀n∈fs,iB n=true:=by have:=h.2;unfold cQ at this;simp at this;exact⟨by omega,this.2⟩
  have l1:=EP h.1;have l2:=lW (pt:=cH) (l:=fs) (c:=2) (fun x hx=>MO (h1.2 x hx)) (by omega);exact⟨by unfold vO;simp;omega,aMt q vs hvs o fs h.1 h1.1 h1.2 (by omega)⟩⟩
theorem aEK:iT Tryz.prog 5 153 (fun x=>.agg (eB x)) xH (fun x=>(kV x.off&&decide (x.bs.length≤1000))=true) 2000 9000000:=
 ⟨Tryz.call153,fun q vs x h _ hvs=>by
  obtain⟨o,bs⟩:=x;simp only[Bool.and_eq_true,decide_eq_true_eq]at h;have l1:=EP h.1;have l2:=bR 1 bs.length (by omega);exact⟨by unfold xH;simp;omega,aMu q vs hvs o bs h.1 h.2 (by omega)⟩⟩
theorem aB9{l:List Nat}{a b:Nat}:((l++ [a]).map aH).set (((l++ [a]).length:Int)-1).toNat [.int .u8 (b:Int)]=(l++ [b]).map aH:=by
 rw[show(((l++ [a]).length:Int)-1).toNat=l.length by simp,List.map_append,List.map_append,List.set_append,if_neg (by simp)];simp[aH]
theorem aEL{l:List Nat}{a:Nat}:(l++ [a])[(((l++ [a]).length:Nat)-1:Int).toNat]? =some a:=by
 rw[show(((l++ [a]).length:Nat)-1:Int).toNat=l.length by simp];simp
theorem aMv(q:Nat)(vs:List Nat)(hvs:vs.length≤9000000)(mu:Bool)(k n:Int)(hv:mS k n=true)(hn:-9223372036854775808≤n∧n≤9223372036854775807):SCall Tryz.prog 143 [.own q 0 vs.length,.agg (eA ⟨mu,k,n⟩)] [(q,.arr 5 1 (vs.map aH))]
  (fun y σ=>∃r,y=.own r 0 (vs++vJ ⟨mu,k,n⟩).length∧σ=[(r,.arr 5 1 ((vs++vJ ⟨mu,k,n⟩).map aH))]):=by
 have hkl:=oD k;refine cC 23 [0,1,3,4,13] Tryz.func143 ?_;unfold eA;refine dG ?_;refine iG fun r3 h3=> ?_;intros
 refine iF ?_;refine oI ?_;refine oO ?_;refine cw [(q,.arr 5 1 (vs.map aH))] Tryz.call132 (tT q vs (by omega) k) rfl aC aA ?_;rintro _ σ' ⟨r9,rfl,rfl⟩ h9;have k9:=bB h9;repeat rcases k9 with⟨_,k9⟩
 apply aZ;exact bN;refine eS fun r10 h10=> ?_;intros
 refine kI ((vs++kB k++ [0]).map aH) (vs++kB k++ [0]).length ?_;refine bL fun r11 h11=> ?_;intros
 refine cZ ?_;have hl:(vs++kB k++ [0]).length=vs.length+2:=by simp[hkl]
 refine nE ?_;refine jI ?_;refine aB rfl (fun g2=> ?_) (fun g2=> ?_)
 ·obtain⟨z,hz⟩:∃z:Nat,z=1:=⟨_,rfl⟩
  have hat:=aEL (l:=vs++kB k) (a:=0);refine oR ?_;refine sK ?_;refine II ?_;refine yT ?_;refine jI ?_;have hle:(vs++kB k++ [0]).length=(vs++kB k++ [1]).length:=by simp
  have hz1:vs++kB k++ [1]=vs++kB k++ [z]:=by rw[hz]
  have hset:=aB9 (l:=vs++kB k) (a:=0) (b:=1);rw[show(cX (.int .u8 1))=AV.int .u8 ((1:Nat):Int)from rfl,hset,hle,hz1];refine eU ?_;refine oI ?_;refine mP ?_;refine cw [(r11,.arr 5 1 ((vs++kB k++ [z]).map aH))] Tryz.call144 (rX r11 (vs++kB k++ [z]) (by simp;omega) k n hv hn) rfl aC aA ?_;rintro _ σ' ⟨r22,rfl,rfl⟩ h22;have k22:=bB h22;repeat rcases k22 with⟨_,k22⟩
  refine eR ?_;rw[show vs++kB k++ [z]++mD k n=vs++vJ ⟨mu,k,n⟩ by unfold vJ;rw[hz,g2];simp];exact aD aE ⟨r22,by rfl,rfl⟩ aA
 obtain⟨z,hz⟩:∃z:Nat,z=0:=⟨_,rfl⟩
 rw[show vs++kB k++ [0]=vs++kB k++ [z] by rw[hz]];refine dO ?_;refine oI ?_;refine mP ?_;refine cw [(r11,.arr 5 1 ((vs++kB k++ [z]).map aH))] Tryz.call144 (rX r11 (vs++kB k++ [z]) (by simp;omega) k n hv hn) rfl aC aA ?_;rintro _ σ' ⟨r22,rfl,rfl⟩ h22;have k22:=bB h22;repeat rcases k22 with⟨_,k22⟩
 refine eR ?_;rw[show vs++kB k++ [z]++mD k n=vs++vJ ⟨mu,k,n⟩ by unfold vJ;rw[hz,g2];simp];exact aD aE ⟨r22,by rfl,rfl⟩ aA
theorem XY:iT Tryz.prog 5 143 (fun x=>.agg (eA x)) vJ (fun g=>mS g.kd g.n=true∧ -9223372036854775808≤g.n∧g.n≤9223372036854775807) 300 9000000:=
 ⟨Tryz.call143,fun q vs x h _ hvs=>by
  obtain⟨mu,k,n⟩:=x;have l1:=xI h.1 h.2;have l2:=oD k;exact⟨by unfold vJ;simp;dsimp only at l1;omega,aMv q vs hvs mu k n h.1 h.2⟩⟩
end Go.Proofs.YtjpdadobblffmaaGreat
namespace Go.Proofs.YtjpdadobblffmaaGreat
open Go.RowKit Go.ChangeShapes Go.WideShapes Go.ChangeAt Go.Deep
abbrev St:=List Nat×Bool
def vP (s:St) (n:Int) (ok:Bool):St:=let bad:=s.2|| !ok||decide ((s.1.length:Int)<n);(if bad then s.1 else s.1.drop n.toNat,bad)
def gI (s:St):Nat×St:=let s':=vP s (lR s.1).2.1 ((lR s.1).2.2==0);(if s'.2 then 0 else(lR s.1).1,s')
def lE (s:St):Nat×St:=if s.2||s.1.isEmpty then(0,(s.1,true))else(s.1[0]!,(s.1.drop 1,false))
def AW (s:St):List Nat×St:=let r:=gI s;let s':=vP r.2 r.1 true;(if s'.2 then []else r.2.1.take r.1,s')
def kC {α:Type} (get:St→α×St):Nat→St→List α×St
 |0,s=>([],s)
 |n+1,s=>if s.2 then([],s)else let r:=get s;let t:=kC get n r.2;(r.1::t.1,t.2)
def fP {α:Type} (get:St→α×St) (s:St):List α×St:=let r:=gI s;kC get r.1 r.2
def wP (s:St):Int×St:=let r:=lE s;if(r.1==127)=true then(1,r.2)else if(r.1==126)=true then(2,r.2)else(0,(r.2.1,true))
def PT (s:St):(Int×Int)×St:=
 let g:=fG s.1
 let s1:=vP s g.2.1 ((g.2.2==0)&&(g.1.op==65||g.1.op==66))
 let s2:=(lE s1).2
 (if(g.1.op==66)=true then(2,g.1.a)else(1,g.1.a),s2)
def PU (s:St):Int×St:=let r:=PT (lE s).2;(r.1.2,r.2)
def XZ (s:St):Li×St:=
 let b:=lE s
 let r:=gI b.2
 if(b.1 !=0)=true then let t:=gI r.2;(⟨true,r.1,t.1⟩,t.2)else(⟨true,r.1,-1⟩,r.2)
def VM:Nat→St→List Int→List Int×St
 |0,s,l=>(l,s)
 |n+1,s,l=>if s.2 then(l,s)else
  let m:=gI s
  let k:=wP m.2
  if 32<m.1 then([],(k.2.1,true))else VM n k.2 (l++List.replicate m.1 k.1)
def zF (s:St):List Int×St:=let r:=gI s;VM r.1 r.2 []
def MP (s:St):Co×St:=
 let r:=zF (gI s).2
 if r.2.2 then(⟨r.1,[]⟩,r.2)else
  let g:=lK r.2.1
  (⟨r.1,g.1⟩,vP r.2 g.2.1 (g.2.2==0))
def tyN (s:St):FT×St:=let p:=fP wP (lE s).2;let r:=fP wP p.2;(⟨p.1,r.1⟩,r.2)
def inN (s:St):Int×St:=let r:=gI s;(r.1,r.2)
def imN (s:St):Im×St:=let a:=AW s;let b:=AW a.2;let t:=gI (lE b.2).2;(⟨a.1,b.1,t.1⟩,t.2)
def glN (s:St):Gl×St:=let k:=wP s;let m:=lE k.2;let c:=PT m.2;(⟨m.1 !=0,c.1.1,c.1.2⟩,c.2)
def exN (s:St):Ex×St:=let a:=AW s;let t:=gI (lE a.2).2;(⟨a.1,t.1⟩,t.2)
def tbN (before:Bool) (s:St):Li×St:=XZ (if before then(lE s).2 else s)
def RO (before:Bool) (s:St):Li×St:=let r:=fP (tbN before) s;(r.1.headD IT,r.2)
def eeN (s:St):El×St:=let o:=PU s;let l:=fP inN o.2;(⟨o.1,l.1⟩,l.2)
def ddN (s:St):Da×St:=let o:=PU s;let l:=AW o.2;(⟨o.1,l.1⟩,l.2)
def vH (no:Nat) (m:Md) (s:St):Md×St:=
 if no=1 then({ m with ty:=(fP tyN s).1 },(fP tyN s).2)
 else if no=2 then({ m with im:=(fP imN s).1 },(fP imN s).2)
 else if no=3 then({ m with fn:=(fP inN s).1 },(fP inN s).2)
 else if no=4 then({ m with tb:=(RO true s).1 },(RO true s).2)
 else if no=5 then({ m with me:=(RO false s).1 },(RO false s).2)
 else if no=6 then({ m with gl:=(fP glN s).1 },(fP glN s).2)
 else if no=7 then({ m with ex:=(fP exN s).1 },(fP exN s).2)
 else if no=9 then({ m with el:=(fP eeN s).1 },(fP eeN s).2)
 else if no=10 then({ m with co:=(fP MP s).1 },(fP MP s).2)
 else if no=11 then({ m with da:=(fP ddN s).1 },(fP ddN s).2)
 else(m,(s.1,true))
def dlN:Nat→Md→St→Md×St
 |0,m,s=>(m,s)
 |f+1,m,s=>if s.1.isEmpty||s.2 then(m,s)else
  let b:=lE s
  let t:=vH b.1 m (gI b.2).2
  dlN f t.1 t.2
def xW (b:List Nat):Md×St:=dlN (b.length+1) md0 (vP (b, !decide (b.take 8=headB)) 8 true)
def zG (b:List Nat):Md×Int:=
 if 8000<b.length then(md0,4)
 else if(xW b).2.2=true then(md0,1)
 else if mT (xW b).1=true∧fI (xW b).1=b then((xW b).1,0)else(md0,1)
def Bck {α:Type} (get:St→α×St) (pt:α→List Nat) (ok:α→Prop):Prop:=∀x,ok x→∀r,get (pt x++r,false)=(x,(r,false))
theorem RP{p r:List Nat}{n:Int}(hn:n=(p.length:Int)):vP (p++r,false) n true=(r,false):=by
 subst hn;unfold vP;have:decide ((((p++r,false):St).1.length:Int)<(p.length:Int))=false:=by simp;omega
 simp only[this];simp
theorem DM{v:Nat}(hv:v<4294967296)(r:List Nat):gI (uB v++r,false)=(v,(r,false)):=by
 unfold gI;dsimp only;rw[XG hv];dsimp only;rw[show((0:Int)==0)=true from rfl,RP rfl];rfl
theorem sV(c:Nat)(r:List Nat):lE (c::r,false)=(c,(r,false)):=by
 unfold lE;simp
theorem aGM{s:List Nat}(hs:s.length<4294967296)(r:List Nat):AW (uB s.length++s++r,false)=(s,(r,false)):=by
 unfold AW;rw[List.append_assoc,DM hs];dsimp only;rw[RP rfl];simp
theorem aGN{α:Type}{get:St→α×St}{pt:α→List Nat}{ok:α→Prop}(h:Bck get pt ok):∀ {l:List α},(∀x∈l,ok x)→∀r,kC get l.length (l.flatMap pt++r,false)=(l,(r,false))
 |[],_,r=>rfl
 |x::l,hl,r=>by
  rw[List.length_cons,kC,if_neg (by simp),List.flatMap_cons,List.append_assoc,h x (hl x List.mem_cons_self)];dsimp only;rw[aGN h (fun y hy=>hl y (List.mem_cons_of_mem _ hy))]
theorem uR{α:Type}{get:St→α×St}{pt:α→List Nat}{ok:α→Prop}(h:Bck get pt ok){l:List α}(hl:∀x∈l,ok x)(hn:l.length<4294967296)(r:List Nat):fP get (bD l pt++r,false)=(l,(r,false)):=by
 unfold fP bD;rw[List.append_assoc,DM hn];exact aGN h hl r
theorem YA:Bck wP kB (fun k=>AU k=true):=by
 intro k hk r;have:k=1∨k=2:=by
  unfold AU at hk;by_cases h:k=1
  ·exact .inl h
  ·rw[if_neg (by simpa using h)]at hk;exact .inr (by simpa using hk)
 rcases this with rfl|rfl
 ·show wP (127::r,false)=_;unfold wP;rw[sV];rfl
 ·show wP (126::r,false)=_;unfold wP;rw[sV];rfl
theorem aGO:Bck inN cH (fun n=>iB n=true):=by
 intro n hn r;have h0:0≤n∧n≤1000:=by
  unfold iB at hn;by_cases h:0≤n
  ·rw[if_pos (by simpa using h)]at hn;exact⟨h,by simpa using hn⟩
  ·rw[if_neg (by simpa using h)]at hn;cases hn
 unfold inN cH;rw[DM (by omega)];simp;omega
theorem CQ{n:Int}(h0:0≤n)(h1:n<4294967296)(r:List Nat):gI (cH n++r,false)=(n.toNat,(r,false)):=DM (by omega) r
theorem aGP{k n:Int}(h:mS k n=true)(hn:-9223372036854775808≤n∧n≤9223372036854775807)(r:List Nat):PT (mD k n++r,false)=((k,n),(r,false)):=by
 obtain⟨ho,hm,hk⟩:=GC h hn;have key:∀op:Int,(⟨op,n,0,[]⟩:Ins).Ok→dB ⟨op,n,0,[]⟩=true→(op=65∨op=66)→PT (gG ⟨op,n,0,[]⟩++ [11]++r,false)=(if(op==66)=true then(2,n)else(1,n),(r,false)):=by
  intro op ho hm hop;unfold PT;dsimp only;rw[List.append_assoc,MC ho hm];dsimp only;rw[show(((0:Int)==0)&&((op==65)||(op==66)))=true by rcases hop with rfl|rfl<;>rfl,RP rfl];show(_,(lE (11::r,false)).2)=_;rw[sV]
 unfold mD;rcases hk with rfl|rfl
 ·exact key 65 ho hm (.inl rfl)
 ·exact key 66 ho hm (.inr rfl)
theorem aGQ{n:Int}(h:kV n=true)(r:List Nat):PU (qX n++r,false)=(n,(r,false)):=by
 unfold kV at h;simp only[Bool.and_eq_true,decide_eq_true_eq]at h;unfold PU qX;rw[List.cons_append,sV];dsimp only;rw[aGP (by unfold mS;simp;omega) (by omega)]
theorem aGR{l:Li}{a c:Int}(h:lU l a c=true)(hh:l.has=true)(ha:a≤100000)(hc:c≤100000)(r:List Nat):XZ (eM l++r,false)=(l,(r,false)):=by
 obtain⟨has,mn,mx⟩:=l;dsimp only at hh;subst hh;unfold lU at h;simp only[if_true,Bool.and_eq_true,decide_eq_true_eq]at h;obtain⟨⟨⟨h1,h2⟩,h3⟩,h4⟩:=h;by_cases hx:mx<0
 ·rw[show eM ⟨true,mn,mx⟩=0::cH mn by unfold eM;rw[if_pos (by simpa using hx)]];unfold XZ;rw[List.cons_append,sV];dsimp only;rw[CQ h1 (by omega)];simp;omega
 ·rw[show eM ⟨true,mn,mx⟩=1::(cH mn++cH mx) by unfold eM;rw[if_neg (by simpa using hx)]];unfold XZ;rw[List.cons_append,sV];dsimp only;rw[List.append_assoc,CQ h1 (by omega)];dsimp only;rw[if_pos (by decide),CQ (by omega) (by omega)];simp;omega
theorem CR(l:List Int)(k:Int):cD (l++ [k])=match(cD l).getLast? with
 |some (x::xs)=>if x==k then(cD l).dropLast++ [(x::xs)++ [k]]else cD l++ [[k]]
 | _=>cD l++ [[k]]:=by
 unfold cD;rw[List.foldl_append];rfl
theorem AX:∀(n:Nat) (l:List Int),l.length=n→(cD l).flatten=l∧∀r∈cD l,∃k m,r=List.replicate (m+1) k∧k∈l∧m+1≤l.length
 |0,l,h=>by
  obtain rfl:l=[]:=List.length_eq_zero_iff.1 h;exact⟨rfl,by simp[cD]⟩
 |n+1,l,h=>by
  obtain⟨t,k,rfl⟩:∃t k,l=t++ [k]:=by
   have:l≠ []:=by intro e;subst e;simp at h
   exact⟨l.dropLast,l.getLast this,(List.dropLast_concat_getLast this).symm⟩
  obtain⟨h1,h2⟩:=AX n t (by simpa using h);rw[CR];have hnew:(cD t++ [[k]]).flatten=t++ [k]∧∀r∈cD t++ [[k]],∃k' m,r=List.replicate (m+1) k'∧k'∈t++ [k]∧m+1≤(t++ [k]).length:=by
   refine⟨by rw[List.flatten_append,h1];rfl,fun r hr=> ?_⟩;rcases List.mem_append.1 hr with hr|hr
   ·obtain⟨k',m,e1,e2,e3⟩:=h2 r hr;exact⟨k',m,e1,List.mem_append_left _ e2,by simp;omega⟩
   ·exact⟨k,0,by simpa using hr,by simp,by simp⟩
  split
  ·next x xs hl=>
   split
   ·next hx=>
    obtain rfl:x=k:=by simpa using hx
    have hne:cD t≠ []:=by intro e;rw[e]at hl;cases hl
    have hd:cD t=(cD t).dropLast++ [x::xs]:=by
     have:=List.dropLast_concat_getLast hne;rw[List.getLast?_eq_some_getLast hne]at hl;rw[Option.some.inj hl]at this;exact this.symm
    obtain⟨k',m,e1,e2,e3⟩:=h2 (x::xs) (by rw[hd];simp);obtain rfl:x=k':=by rw[List.replicate_succ]at e1;exact(List.cons.inj e1).1
    refine⟨?_,fun r hr=> ?_⟩
    ·rw[List.flatten_append]
     conv=>rhs;rw[←h1,hd]
     simp
    ·rcases List.mem_append.1 hr with hr|hr
     ·obtain⟨k',m,e1,e2,e3⟩:=h2 r (List.dropLast_sublist _ |>.subset hr);exact⟨k',m,e1,List.mem_append_left _ e2,by simp;omega⟩
     ·refine⟨x,m+1, ?_,by simp,by simp;omega⟩;rw[show r=x::xs++ [x] by simpa using hr,e1];exact List.replicate_succ'.symm
   ·exact hnew
  ·exact hnew
theorem aGS{l:List Int}(hk:∀k∈l,AU k=true):∀ {rs:List (List Int)},(∀r∈rs,∃k m,r=List.replicate (m+1) k∧k∈l∧m+1≤32)→∀(acc:List Int) (t:List Nat),VM rs.length (rs.flatMap iH++t,false) acc=(acc++rs.flatten,(t,false))
 |[],_,acc,t=>by simp[VM]
 |r::rs,h,acc,t=>by
  obtain⟨k,m,rfl,hkl,hm⟩:=h r List.mem_cons_self;rw[List.length_cons,VM,if_neg (by simp),List.flatMap_cons,List.append_assoc];have h1:iH (List.replicate (m+1) k)=cH ((m+1:Nat):Int)++kB k:=by unfold iH;rw[List.length_replicate,List.replicate_succ];rfl
  rw[h1,List.append_assoc,CQ (by omega) (by omega)];dsimp only;rw[YA k (hk k hkl)];dsimp only;rw[Int.toNat_natCast,if_neg (by omega),aGS hk (fun r hr=>h r (List.mem_cons_of_mem _ hr))];simp
theorem aKp{l:List Int}(hk:∀k∈l,AU k=true)(hl:l.length≤32)(t:List Nat):zF (bD (cD l) iH++t,false)=(l,(t,false)):=by
 obtain⟨h1,h2⟩:=AX _ l rfl;have hr:∀(rs:List (List Int)),(∀r∈rs,∃k m,r=List.replicate (m+1) k∧k∈l∧m+1≤l.length)→rs.length≤rs.flatten.length:=by
  intro rs
  induction rs with
  |nil=>simp
  |cons r rs ih=>
   intro h;obtain⟨k,m,rfl,-,-⟩:=h r List.mem_cons_self;have:=ih fun r hr=>h r (List.mem_cons_of_mem _ hr)
   simp at this⊢;omega
 have hn:=hr _ h2;rw[h1]at hn;unfold zF bD;rw[List.append_assoc,DM (by omega)];dsimp only;rw[aGS hk (fun r hr=>by obtain⟨k,m,a,b,c⟩:=h2 r hr;exact⟨k,m,a,b,by omega⟩),h1];rfl
theorem cA{α:Type}{l:List α}{most:Int}{p:α→Bool}(h:cQ l most p=true):(l.length:Int)≤most∧∀x∈l,p x=true:=by
 unfold cQ at h;simpa using h
def OkC (c:Co):Prop:=tR c=true∧(∀x∈c.bd,x.Ok)∧(bD (cD c.ls) iH++iS c.bd).length<4294967296
theorem aKq:Bck MP kP OkC:=by
 rintro⟨ls,bd⟩ ⟨h,hO,hlen⟩ t;unfold tR at h;simp only[Bool.and_eq_true]at h;obtain⟨⟨h1,h2⟩,h3⟩:=h;obtain⟨k1,k2⟩:=cA h2;obtain⟨k3,k4⟩:=cA h3;have hm:∀x∈bd,x.Ok∧dB x=true:=fun x hx=>⟨hO x hx,k4 x hx⟩
 unfold MP kP;dsimp only;rw[List.append_assoc,DM hlen];dsimp only;rw[List.append_assoc,aKp k2 (by omega)];dsimp only;rw[if_neg (by simp),aAi hm h1];dsimp only;rw[show((0:Int)==0)=true from rfl,RP rfl]
theorem aKr:Bck tyN wM (fun t=>(cQ t.pr 32 AU&&cQ t.rs 1 AU)=true):=by
 rintro⟨pr,rs⟩ h t;simp only[Bool.and_eq_true]at h;obtain⟨k1,k2⟩:=cA h.1;obtain⟨k3,k4⟩:=cA h.2;unfold tyN wM;rw[List.cons_append,sV];dsimp only;rw[List.append_assoc,uR YA k2 (by omega)];dsimp only;rw[uR YA k4 (by omega)]
theorem aIe{s:List Nat}(h:uO s=true):s.length≤16:=by
 unfold uO at h;split at h
 ·simp only[Bool.and_eq_true,decide_eq_true_eq]at h;exact h.1
 ·cases h
theorem MQ{n:Int}(h:iB n=true):0≤n∧n≤1000:=by
 unfold iB at h;by_cases h0:0≤n
 ·rw[if_pos (by simpa using h0)]at h;exact⟨h0,by simpa using h⟩
 ·rw[if_neg (by simpa using h0)]at h;cases h
theorem aCe{s:List Nat}(h:uO s=true)(t:List Nat):AW (bS s++t,false)=(s,(t,false)):=aGM (by have:=aIe h;omega) t
theorem aKs:Bck imN iY (fun x=>(uO x.mod&&uO x.nm&&iB x.ty)=true):=by
 rintro⟨a,b,n⟩ h t;simp only[Bool.and_eq_true]at h;obtain⟨⟨h1,h2⟩,h3⟩:=h;have h3:=MQ h3;unfold imN iY;dsimp only;rw[List.append_assoc,List.append_assoc,List.append_assoc,aCe h1];dsimp only;rw[aCe h2];dsimp only;rw[List.cons_append,sV];dsimp only[List.nil_append];rw[CQ h3.1 (by omega)];simp;omega
theorem aKt:Bck exN nO (fun x=>(uO x.nm&&iB x.fn)=true):=by
 rintro⟨a,n⟩ h t;simp only[Bool.and_eq_true]at h;have h3:=MQ h.2;unfold exN nO;dsimp only;rw[List.append_assoc,List.append_assoc,aCe h.1];dsimp only;rw[List.cons_append,sV];dsimp only[List.nil_append];rw[CQ h3.1 (by omega)];simp;omega
theorem aAl{k n:Int}(h:mS k n=true):AU k=true:=by
 unfold mS at h;simp only[Bool.or_eq_true,Bool.and_eq_true,beq_iff_eq,decide_eq_true_eq]at h;rcases h with⟨⟨rfl,-⟩,-⟩|rfl<;>rfl
theorem aKu:Bck glN vJ (fun g=>mS g.kd g.n=true∧ -9223372036854775808≤g.n∧g.n≤9223372036854775807):=by
 rintro⟨mu,k,n⟩ ⟨h,hn⟩ t;dsimp only at h hn;unfold glN vJ;dsimp only;rw[List.append_assoc,List.append_assoc,YA k (aAl h)];dsimp only;rw[List.cons_append,sV];dsimp only[List.nil_append];rw[aGP h hn];cases mu<;>rfl
theorem aKv:Bck eeN vO (fun x=>(kV x.off&&cQ x.fs 50 iB)=true):=by
 rintro⟨o,fs⟩ h t;simp only[Bool.and_eq_true]at h;obtain⟨k1,k2⟩:=cA h.2;unfold eeN vO;dsimp only;rw[List.append_assoc,aGQ h.1];dsimp only;rw[uR aGO k2 (by omega)]
theorem aKw:Bck ddN xH (fun x=>(kV x.off&&decide (x.bs.length≤1000))=true):=by
 rintro⟨o,bs⟩ h t;simp only[Bool.and_eq_true,decide_eq_true_eq]at h;unfold ddN xH;dsimp only;rw[List.append_assoc,List.append_assoc,aGQ h.1];dsimp only;rw[←List.append_assoc,aGM (by omega)]
def NI {α:Type} (get:St→α×St):Prop:=∀s,(get s).2.1.length≤s.1.length
theorem RQ(s:St)(n:Int)(ok:Bool):(vP s n ok).1.length≤s.1.length:=by
 unfold vP;dsimp only;split
 ·exact Nat.le_refl _
 ·simp
theorem qY:NI gI:=fun s=>by unfold gI;exact RQ _ _ _
theorem uS:NI lE:=fun s=>by
 unfold lE;split
 ·exact Nat.le_refl _
 ·simp
theorem aGT(s:St)(h:s.1≠ [])(hb:s.2=false):(lE s).2.1.length<s.1.length:=by
 obtain⟨l,b⟩:=s;dsimp only at h hb;subst hb;cases l with
 |nil=>exact absurd rfl h
 |cons c l=>rw[sV];simp
theorem YB:NI AW:=fun s=>by unfold AW;exact Nat.le_trans (RQ _ _ _) (qY s)
theorem aGU{α:Type}{get:St→α×St}(h:NI get):∀n s,(kC get n s).2.1.length≤s.1.length
 |0,s=>Nat.le_refl _
 |n+1,s=>by
  rw[kC];split
  ·exact Nat.le_refl _
  ·exact Nat.le_trans (aGU h n _) (h s)
theorem uT{α:Type}{get:St→α×St}(h:NI get):NI (fP get):=fun s=>Nat.le_trans (aGU h _ _) (qY s)
theorem RR:NI wP:=fun s=>by
 unfold wP;dsimp only;split
 ·exact uS s
 ·split
  ·exact uS s
  ·exact uS s
theorem aGV:NI PT:=fun s=>by unfold PT;exact Nat.le_trans (uS _) (RQ _ _ _)
theorem aGW:NI PU:=fun s=>by unfold PU;exact Nat.le_trans (aGV _) (uS s)
theorem aGX:NI XZ:=fun s=>by
 unfold XZ;dsimp only;split
 ·exact Nat.le_trans (qY _) (Nat.le_trans (qY _) (uS s))
 ·exact Nat.le_trans (qY _) (uS s)
theorem aGY:∀n s l,(VM n s l).2.1.length≤s.1.length
 |0,s,l=>Nat.le_refl _
 |n+1,s,l=>by
  rw[VM];split
  ·exact Nat.le_refl _
  ·dsimp only;split
   ·exact Nat.le_trans (RR _) (qY s)
   ·exact Nat.le_trans (aGY n _ _) (Nat.le_trans (RR _) (qY s))
theorem aGZ:NI zF:=fun s=>by unfold zF;exact Nat.le_trans (aGY _ _ _) (qY s)
theorem aKx:NI MP:=fun s=>by
 unfold MP;dsimp only;split
 ·exact Nat.le_trans (aGZ _) (qY s)
 ·exact Nat.le_trans (RQ _ _ _) (Nat.le_trans (aGZ _) (qY s))
theorem aKy:NI tyN:=fun s=>by unfold tyN;exact Nat.le_trans (uT RR _) (Nat.le_trans (uT RR _) (uS s))
theorem aG0:NI inN:=fun s=>qY s
theorem aKz:NI imN:=fun s=>by unfold imN;exact Nat.le_trans (qY _) (Nat.le_trans (uS _) (Nat.le_trans (YB _) (YB s)))
theorem aKA:NI glN:=fun s=>by unfold glN;exact Nat.le_trans (aGV _) (Nat.le_trans (uS _) (RR s))
theorem aKB:NI exN:=fun s=>by unfold exN;exact Nat.le_trans (qY _) (Nat.le_trans (uS _) (YB s))
theorem aKC(b:Bool):NI (tbN b):=fun s=>by
 unfold tbN;split
 ·exact Nat.le_trans (aGX _) (uS s)
 ·exact aGX s
theorem aG1(b:Bool):NI (RO b):=fun s=>uT (aKC b) s
theorem aKD:NI eeN:=fun s=>by unfold eeN;exact Nat.le_trans (uT aG0 _) (aGW s)
theorem aKE:NI ddN:=fun s=>by unfold ddN;exact Nat.le_trans (YB _) (aGW s)
theorem aG2(no:Nat)(m:Md)(s:St):(vH no m s).2.1.length≤s.1.length:=by
 unfold vH;repeat' split
 ·exact uT aKy s
 ·exact uT aKz s
 ·exact uT aG0 s
 ·exact aG1 true s
 ·exact aG1 false s
 ·exact uT aKA s
 ·exact uT aKB s
 ·exact uT aKD s
 ·exact uT aKx s
 ·exact uT aKE s
 ·exact Nat.le_refl _
theorem AY:∀(f f':Nat) (m:Md) (s:St),s.1.length<f→s.1.length<f'→dlN f m s=dlN f' m s
 |0,_,_,s,h,_=>absurd h (Nat.not_lt_zero _)
 | _ +1,0,_,s,_,h=>absurd h (Nat.not_lt_zero _)
 |f+1,f'+1,m,s,h,h'=>by
  rw[dlN,dlN];split
  ·rfl
  ·next hc=>
   simp only[Bool.or_eq_true,not_or,Bool.not_eq_true]at hc;have h1:=aGT s (by intro e;rw[e]at hc;simp at hc) hc.2;have h2:=qY (lE s).2;have h3:=aG2 (lE s).1 m (gI (lE s).2).2;exact AY f f' _ _ (by omega) (by omega)
def DN (m:Md) (s:St):Md×St:=dlN (s.1.length+1) m s
theorem aIf(m:Md):DN m ([],false)=(m,([],false)):=rfl
theorem rY{α:Type}{no:Nat}{l:List α}{pt:α→List Nat}{m m':Md}{r:List Nat}(h0:l=[]→m'=m)(hv:(bD l pt).length<4294967296)
  (hs:vH no m (bD l pt++r,false)=(m',(r,false))):DN m (bJ no l pt++r,false)=DN m' (r,false):=by
 unfold bJ;by_cases hl:l=[]
 ·subst hl;rw[h0 rfl];rfl
 ·rw[if_neg (by simpa using hl)];unfold DN;rw[dlN,if_neg (by simp)];dsimp only;rw[List.cons_append,sV];dsimp only;rw[List.append_assoc,DM hv];dsimp only;rw[hs];dsimp only;exact AY _ _ _ _ (by simp;omega) (by simp)
theorem RU{α:Type}{pt:α→List Nat}:∀ {l:List α} {x:α},x∈l→(pt x).length≤(l.flatMap pt).length
 |y::l,x,h=>by
  rw[List.flatMap_cons,List.length_append];rcases List.mem_cons.1 h with rfl|h
  ·omega
  ·have:=RU (pt:=pt) h;omega
theorem aCf{α:Type}{no:Nat}{l:List α}{pt:α→List Nat}:(l≠ []→(bD l pt).length≤(bJ no l pt).length):=by
 intro h;unfold bJ;rw[if_neg (by simpa using h)];simp;omega
def Md.Ok (m:Md):Prop:=(∀c∈m.co,∀x∈c.bd,x.Ok)∧∀g∈m.gl,-9223372036854775808≤g.n∧g.n≤9223372036854775807
theorem aEM{α:Type}{l:List α}{pt:α→List Nat}(h:l=[]):(bD l pt).length<4294967296:=by subst h;unfold bD;rw[List.length_nil,uN (by omega)];simp
theorem rZ{α:Type}{no:Nat}{l:List α}{pt:α→List Nat}(h:(bJ no l pt).length≤8000):(bD l pt).length<4294967296:=by
 by_cases hl:l=[]
 ·exact aEM hl
 ·have:=aCf (no:=no) (pt:=pt) hl;omega
theorem VN{l:Li}{a c:Int}(h:lU l a c=true)(hh:l.has=false):l=IT:=by
 obtain⟨has,mn,mx⟩:=l;dsimp only at hh;subst hh;unfold lU at h;simp at h;obtain⟨rfl,rfl⟩:=h;rfl
theorem aG3{l:Li}{a c:Int}{pt:Li→List Nat}(before:Bool)(hpt:pt=fun l=>if before then 112::eM l else eM l)(h:lU l a c=true)(ha:a≤100000)(hc:c≤100000)(r:List Nat):RO before (bD (gP l) pt++r,false)=(l,(r,false)):=by
 subst hpt;unfold RO gP;cases hh:l.has with
 |false=>
  rw[if_neg (by decide),show bD ([]:List Li) (fun l=>if before=true then 112::eM l else eM l)=uB 0 by unfold bD;simp];unfold fP;rw[DM (by decide),VN h hh];rfl
 |true=>
  have hb:Bck (tbN before) (fun l=>if before then 112::eM l else eM l) (fun l=>lU l a c=true∧l.has=true):=by
   rintro x ⟨h1,h2⟩ t;unfold tbN;cases before
   ·exact aGR h1 h2 ha hc t
   ·show XZ (lE (112::(eM x++t),false)).2=_;rw[sV];exact aGR h1 h2 ha hc t
  rw[if_pos rfl,uR hb (by simp;exact⟨h,hh⟩) (by simp)];rfl
theorem aCg{m:Md}(h:mT m=true)(hO:m.Ok):xW (fI m)=(m,([],false)):=by
 obtain⟨ty,im,fn,tb,me,gl,ex,el,co,da⟩:=m;unfold mT at h;simp only[Bool.and_eq_true,decide_eq_true_eq]at h;obtain⟨⟨⟨⟨⟨-,hco⟩,hls⟩,htb⟩,hme⟩,hw⟩:=h;unfold pE at hls;simp only[Bool.and_eq_true]at hls;obtain⟨⟨⟨⟨⟨⟨hty,him⟩,hfn⟩,hgl⟩,hex⟩,hel⟩,hda⟩:=hls;obtain⟨hO1,hO2⟩:=hO;dsimp only at*;unfold fI at hw;dsimp only at hw;simp only[List.length_append]at hw;unfold xW;have hbd:vP (fI ⟨ty,im,fn,tb,me,gl,ex,el,co,da⟩, !decide ((fI ⟨ty,im,fn,tb,me,gl,ex,el,co,da⟩).take 8=headB)) 8 true=(bJ 1 ty wM++(bJ 2 im iY++(bJ 3 fn cH++(bJ 4 (gP tb) (fun l=>112::eM l)++(bJ 5 (gP me) eM++(bJ 6 gl vJ++(bJ 7 ex nO++(bJ 9 el vO++(bJ 10 co kP++(bJ 11 da xH++ []))))))))),false):=by
  have hsp:fI ⟨ty,im,fn,tb,me,gl,ex,el,co,da⟩=headB++(bJ 1 ty wM++(bJ 2 im iY++(bJ 3 fn cH++(bJ 4 (gP tb) (fun l=>112::eM l)++(bJ 5 (gP me) eM++(bJ 6 gl vJ++(bJ 7 ex nO++(bJ 9 el vO++(bJ 10 co kP++(bJ 11 da xH++ [])))))))))):=by
   unfold fI;simp only[List.append_assoc,List.append_nil]
  rw[hsp,show(headB++ _).take 8=headB from List.take_left' rfl,decide_eq_true rfl];exact RP rfl
 rw[hbd];have hfuel:∀(s:St) (m:Md),s.1.length≤(fI ⟨ty,im,fn,tb,me,gl,ex,el,co,da⟩).length→dlN ((fI ⟨ty,im,fn,tb,me,gl,ex,el,co,da⟩).length+1) m s=DN m s:=fun s m hs=>AY _ _ _ _ (by omega) (by omega)
 rw[hfuel _ _ (by unfold fI;simp only[List.length_append,List.length_nil];omega)];have hoc:∀c∈co,OkC c:=fun c hc=>⟨(cA hco).2 c hc,hO1 c hc,by
  have h1:=RU (pt:=kP) hc;have h2:(bD co kP).length≤(bJ 10 co kP).length:=aCf (by intro e;rw[e]at hc;cases hc);unfold bD at h2;have h3:(bD (cD c.ls) iH++iS c.bd).length≤(kP c).length:=by unfold kP;simp
  rw[List.length_append]at h2;omega⟩
 rw[rY (m':=⟨ty,[],[],IT,IT,[],[],[],[],[]⟩) (fun e=>by rw[e];rfl) (rZ (no:=1) (by omega)) (by unfold vH;rw[if_pos rfl,uR aKr (cA hty).2 (by have:=(cA hty).1;omega)];rfl)];rw[rY (m':=⟨ty,im,[],IT,IT,[],[],[],[],[]⟩) (fun e=>by rw[e]) (rZ (no:=2) (by omega)) (by unfold vH;rw[if_neg (by decide),if_pos rfl,uR aKs (cA him).2 (by have:=(cA him).1;omega)])];rw[rY (m':=⟨ty,im,fn,IT,IT,[],[],[],[],[]⟩) (fun e=>by rw[e]) (rZ (no:=3) (by omega)) (by unfold vH;rw[if_neg (by decide),if_neg (by decide),if_pos rfl,uR aGO (cA hfn).2 (by have:=(cA hfn).1;omega)])];have e4:gP tb=[]→tb=IT:=fun e=>VN htb (by unfold gP at e;cases hh:tb.has;rfl;rw[hh]at e;cases e)
 have e5:gP me=[]→me=IT:=fun e=>VN hme (by unfold gP at e;cases hh:me.has;rfl;rw[hh]at e;cases e)
 rw[rY (m':=⟨ty,im,fn,tb,IT,[],[],[],[],[]⟩) (fun e=>by rw[e4 e]) (rZ (no:=4) (by omega)) (by unfold vH;rw[if_neg (by decide),if_neg (by decide),if_neg (by decide),if_pos rfl,aG3 (pt:=fun l=>112::eM l) true rfl htb (by decide) (by decide)])];rw[rY (m':=⟨ty,im,fn,tb,me,[],[],[],[],[]⟩) (fun e=>by rw[e5 e]) (rZ (no:=5) (by omega)) (by unfold vH;rw[if_neg (by decide),if_neg (by decide),if_neg (by decide),if_neg (by decide),if_pos rfl,aG3 (pt:=eM) false rfl hme (by decide) (by decide)])];rw[rY (m':=⟨ty,im,fn,tb,me,gl,[],[],[],[]⟩) (fun e=>by rw[e]) (rZ (no:=6) (by omega)) (by unfold vH;rw[if_neg (by decide),if_neg (by decide),if_neg (by decide),if_neg (by decide),if_neg (by decide),if_pos rfl,uR aKu (fun g hg=>⟨(cA hgl).2 g hg,hO2 g hg⟩) (by have:=(cA hgl).1;omega)])];rw[rY (m':=⟨ty,im,fn,tb,me,gl,ex,[],[],[]⟩) (fun e=>by rw[e]) (rZ (no:=7) (by omega)) (by unfold vH;rw[if_neg (by decide),if_neg (by decide),if_neg (by decide),if_neg (by decide),if_neg (by decide),if_neg (by decide),if_pos rfl,uR aKt (cA hex).2 (by have:=(cA hex).1;omega)])];rw[rY (m':=⟨ty,im,fn,tb,me,gl,ex,el,[],[]⟩) (fun e=>by rw[e]) (rZ (no:=9) (by omega)) (by unfold vH;rw[if_neg (by decide),if_neg (by decide),if_neg (by decide),if_neg (by decide),if_neg (by decide),if_neg (by decide),if_neg (by decide),if_pos rfl,uR aKv (cA hel).2 (by have:=(cA hel).1;omega)])]
 rw[rY (m':=⟨ty,im,fn,tb,me,gl,ex,el,co,[]⟩) (fun e=>by rw[e]) (rZ (no:=10) (by omega)) (by unfold vH;rw[if_neg (by decide),if_neg (by decide),if_neg (by decide),if_neg (by decide),if_neg (by decide),if_neg (by decide),if_neg (by decide),if_neg (by decide),if_pos rfl,uR aKq hoc (by have:=(cA hco).1;omega)])];rw[rY (m':=⟨ty,im,fn,tb,me,gl,ex,el,co,da⟩) (fun e=>by rw[e]) (rZ (no:=11) (by omega)) (by unfold vH;rw[if_neg (by decide),if_neg (by decide),if_neg (by decide),if_neg (by decide),if_neg (by decide),if_neg (by decide),if_neg (by decide),if_neg (by decide),if_neg (by decide),if_pos rfl,uR aKw (cA hda).2 (by have:=(cA hda).1;omega)])];exact aIf _
theorem aCh{m:Md}(h:mT m=true)(hO:m.Ok):zG (fI m)=(m,0):=by
 have h1:=aCg h hO;have h2:(fI m).length≤8000:=by
  unfold mT at h;simp only[Bool.and_eq_true,decide_eq_true_eq]at h;exact h.2
 unfold zG;rw[if_neg (by omega),h1,if_neg (by simp),if_pos ⟨h,rfl⟩]
end Go.Proofs.YtjpdadobblffmaaGreat
namespace Go.Proofs.YtjpdadobblffmaaGreat
open Go.RowKit Go.ChangeShapes Go.WideShapes Go.ChangeAt Go.Deep
attribute [local irreducible] SW RS RD fH eH
theorem aAm{l:List Int}{j:Nat}{k:Int}(h:l[j]? =some k):∃(init:List (List Int)) (m:Nat),cD (l.take (j+1))=init++ [List.replicate (m+1) k]∧init.length+1≤j+1∧m+1≤j+1:=by
 have hj:=(List.getElem?_eq_some_iff.1 h).1;obtain⟨h1,h2⟩:=AX _ (l.take (j+1)) rfl;have hlen:(l.take (j+1)).length=j+1:=by simp;omega
 rw[hlen]at h2;have hr:∀(rs:List (List Int)),(∀r∈rs,∃k m,r=List.replicate (m+1) k∧k∈l.take (j+1)∧m+1≤j+1)→rs.length≤rs.flatten.length:=by
  intro rs
  induction rs with
  |nil=>simp
  |cons r rs ih=>
   intro h;obtain⟨k,m,rfl,-,-⟩:=h r List.mem_cons_self;have:=ih fun r hr=>h r (List.mem_cons_of_mem _ hr)
   simp at this⊢;omega
 have hn:=hr _ h2;rw[h1,hlen]at hn;rcases List.eq_nil_or_concat (cD (l.take (j+1)))with e|⟨init,r,e⟩
 ·rw[e]at h1;have:=congrArg List.length h1;rw[hlen]at this;simp at this
 ·rw[List.concat_eq_append]at e;rw[e]at h1 h2 hn;obtain⟨k',m,rfl,-,hm⟩:=h2 r (by simp);have hk:k'=k:=by
   have e2:=congrArg (fun t=>t[j]?) h1;rw[List.take_add_one,h]at h1;rw[List.flatten_append,List.replicate_succ']at h1;simp only[List.flatten_cons,List.flatten_nil,List.append_nil,Option.toList,←List.append_assoc]at h1;exact(List.append_inj' h1 rfl).2|>List.cons.inj|>.1
  subst hk;exact⟨init,m,e,by simpa using hn,hm⟩
theorem KF{l:List Int}{j:Nat}{x:Int}{init:List (List Int)}{m:Nat}(h:cD (l.take j)=init++ [List.replicate (m+1) x])(hx:l[j]? =some x):cD (l.take (j+1))=init++ [List.replicate (m+1) x++ [x]]:=by
 rw[List.take_add_one,hx];show cD (l.take j++ [x])=_;rw[CR,h,List.getLast?_append];simp[List.replicate_succ]
theorem RV{l:List Int}{j:Nat}{x k:Int}{init:List (List Int)}{m:Nat}(h:cD (l.take j)=init++ [List.replicate (m+1) k])(hx:l[j]? =some x)(hk:k≠x):cD (l.take (j+1))=init++ [List.replicate (m+1) k]++ [[x]]:=by
 rw[List.take_add_one,hx];show cD (l.take j++ [x])=_;rw[CR,h,List.getLast?_append];simp[List.replicate_succ,hk]
theorem RW{l:List Int}{x:Int}(hx:l[0]? =some x):cD (l.take 1)=[[x]]:=by
 rw[List.take_add_one,hx];rfl
theorem GG{r:List Int}(h:r.length≤1000):(iH r).length≤3:=by
 have:=bR 1 r.length (by omega);unfold iH cH;rw[List.length_append,oD,Int.toNat_natCast];omega
theorem aKF(q:Nat)(vs:List Nat)(hvs:vs.length≤10000000)(r:List Int)(h1:0<r.length)(h2:r.length≤1000):SCall Tryz.prog 247 [.own q 0 vs.length,.ro 1 (r.map aR) .any] [(q,.arr 5 1 (vs.map aH))]
  (fun y σ=>∃p,y=.own p 0 (vs++iH r).length∧σ=[(p,.arr 5 1 ((vs++iH r).map aH))]):=by
 have hu:=bR 1 r.length (by omega);obtain⟨k,hk⟩:∃k,r[(0:Int).toNat]? =some k:=⟨_,List.getElem?_eq_getElem (by simpa using h1)⟩
 refine cC 13 [0,1,4] Tryz.func247 ?_;refine bP ?_;refine fK [(0,true),(1,true),(2,true),(4,true),(5,true),(6,true),(3,false),(7,false),(8,true)] ?_;refine CG ?_;refine UQ ?_;refine aHE ?_;refine JP ?_;refine sD [(q,.arr 5 1 (vs.map aH))] rfl Tryz.call135 (eI q vs (by omega) r.length (by omega)) rfl aC aA fS ?_;rintro _ σ' ⟨r8,rfl,rfl⟩ h8;have k8:=bB h8;repeat rcases k8 with⟨_,k8⟩
 apply bZ;exact bN;refine sD [(r8,.arr 5 1 ((vs++uB r.length).map aH))] rfl Tryz.call132 (tT r8 (vs++uB r.length) (by simp;omega) k) rfl aC aA fS ?_;rintro _ σ' ⟨r12,rfl,rfl⟩ h12;have k12:=bB h12;repeat rcases k12 with⟨_,k12⟩
 refine uE ?_;rw[show vs++uB r.length++kB k=vs++iH r by unfold iH cH;rw[Int.toNat_natCast,List.append_assoc,show r.headD 0=k by cases r with|nil=>simp at h1|cons a t=>simpa using hk]];exact aD aE ⟨r12,by rfl,rfl⟩ aA
theorem RX:iT Tryz.prog 5 247 (fun r:List Int=>.ro 1 (r.map aR) .any) iH (fun r=>0<r.length∧r.length≤1000) 3 9000000:=
 ⟨Tryz.call247,fun q vs x h _ hvs=>⟨GG h.2,aKF q vs (by omega) x h.1 h.2⟩⟩
def zH (R q q0 r3:Nat) (vs:List Nat) (ls:List Int) (bd:List Ins) (init:List (List Int)) (last:List Int) (j:Nat):ASt:=
 ⟨[(0,.own q0 0 vs.length),(3,.ptr r3 0),(5,.own R 0 (init.length+1)),(10,.ro 1 (ls.map aR) .any),(11,.int .i64 ls.length),(12,.int .i64 j)],
  [(R,.arr 24 1 (init.map lC++ [[.own q 0 last.length]])),(q,.arr 3 1 (last.map aR)),(r3,.box 44 [.ro 1 (ls.map aR) .any,.ro 4 (bd.map (iv .any)) .any]),(q0,.arr 5 1 (vs.map aH))]⟩
def MR (R q0 r3:Nat) (vs:List Nat) (ls:List Int) (bd:List Ins):ASt:=
 ⟨[(0,.own q0 0 vs.length),(3,.ptr r3 0),(5,.own R 0 0),(10,.ro 1 (ls.map aR) .any),(11,.int .i64 ls.length),(12,.int .i64 (0:Nat))],
  [(R,.arr 24 1 []),(r3,.box 44 [.ro 1 (ls.map aR) .any,.ro 4 (bd.map (iv .any)) .any]),(q0,.arr 5 1 (vs.map aH))]⟩
structure RS_ where
 R:Nat
 q:Nat
 init:List (List Int)
 k:Int
 m:Nat
 j:Nat
def rSt (q0 r3:Nat) (vs:List Nat) (ls:List Int) (bd:List Ins):Sum Nat RS_→ASt
 | .inl R=>MR R q0 r3 vs ls bd
 | .inr s=>zH s.R s.q q0 r3 vs ls bd s.init (List.replicate (s.m+1) s.k) (s.j+1)
def rOk (q0 r3:Nat) (ls:List Int):Sum Nat RS_→Prop
 | .inl R=>Nq R r3∧Nq R q0
 | .inr s=>((Nq s.R s.q∧Nq s.R r3∧Nq s.R q0)∧Nq s.q r3∧Nq s.q q0)∧(s.init.length≤s.j∧s.m≤s.j)∧ls[s.j]? =some s.k∧cD (ls.take (s.j+1))=s.init++ [List.replicate (s.m+1) s.k]
def rMs (ls:List Int):Sum Nat RS_→Nat
 | .inl _=>ls.length
 | .inr s=>ls.length-(s.j+1)
theorem sW{l:List (List AV)}{x:List AV}{n:Nat}(h:n=l.length):(l++ [x])[(((n+1:Nat):Int)-1).toNat]? =some x:=by
 subst h;rw[show(((l.length+1:Nat):Int)-1).toNat=l.length by omega];simp
theorem KG{l:List (List AV)}{x y:List AV}{n:Nat}(h:n=l.length):(l++ [x]).set (((n+1:Nat):Int)-1).toNat y=l++ [y]:=by
 subst h;rw[show(((l.length+1:Nat):Int)-1).toNat=l.length by omega,List.set_append,if_neg (by omega)];simp
theorem RY{σ:dU}{q:Nat}{et:TypeId}{init:List (List Int)}{last:List Int}(hg:gJ σ q=some (.arr et 1 (last.map aR))):∀(i:Nat) (x x':List AV),(init.map lC++ [[AV.own q 0 last.length]])[i]? =some x→((init++ [last]).map lC)[i]? =some x'→BorL σ [q] x x':=by
 intro i x x' h1 h2;rw[List.map_append]at h2;rcases Nat.lt_or_ge i (init.map lC).length with hlt|hge
 ·rw[List.getElem?_append_left hlt]at h1 h2;obtain rfl:=Option.some.inj (h1.symm.trans h2);obtain⟨r,-,rfl⟩:=List.mem_map.1 (List.mem_of_getElem? h1);exact .cons (.refl _) .nil
 ·rw[List.getElem?_append_right hge]at h1 h2;cases hi:i-(init.map lC).length with
  |zero=>
   rw[hi]at h1 h2;cases h1;cases h2
   exact .cons (aM hg (by simp)) .nil
  |succ n=>rw[hi]at h1;cases h1
theorem KH(rs:List (List Int)):jB 1 (rs.map lC):=by
 intro x hx;obtain⟨r,-,rfl⟩:=List.mem_map.1 hx;exact⟨rfl,by simp[lC,AV.cell]⟩
theorem RZ(l:List Int)(hl:l.length≤32):(∀r∈cD l,0<r.length∧r.length≤1000)∧(cD l).length≤32∧(bD (cD l) iH).length≤98:=by
 obtain⟨h1,h2⟩:=AX _ l rfl;have hr:∀(rs:List (List Int)),(∀r∈rs,∃k m,r=List.replicate (m+1) k∧k∈l∧m+1≤l.length)→rs.length≤rs.flatten.length:=by
  intro rs
  induction rs with
  |nil=>simp
  |cons r rs ih=>
   intro h;obtain⟨k,m,rfl,-,-⟩:=h r List.mem_cons_self;have:=ih fun r hr=>h r (List.mem_cons_of_mem _ hr)
   simp at this⊢;omega
 have hn:=hr _ h2;rw[h1]at hn;have h3:∀r∈cD l,0<r.length∧r.length≤1000:=fun r hr=>by
  obtain⟨k,m,rfl,-,hm⟩:=h2 r hr;simp;omega
 have:=lW (pt:=iH) (l:=cD l) (c:=3) (fun r hr=>GG (h3 r hr).2) (by omega);exact⟨h3,by omega,by omega⟩
theorem aMw(q0:Nat)(vs:List Nat)(hvs:vs.length≤9000000)(ls:List Int)(bd:List Ins)(hl:ls.length≤32)(hb:bd.length≤300)(hm:∀x∈bd,x.Ok∧dB x=true):SCall Tryz.prog 151 [.own q0 0 vs.length,.agg (dP ⟨ls,bd⟩)] [(q0,.arr 5 1 (vs.map aH))]
  (fun y σ=>∃p,y=.own p 0 (vs++kP ⟨ls,bd⟩).length∧σ=[(p,.arr 5 1 ((vs++kP ⟨ls,bd⟩).map aH))]):=by
 obtain⟨hv1,hv2,hv3⟩:=RZ ls hl;have hpl:=AT hm;have hub:=bR 4 (bD (cD ls) iH++iS bd).length (by simp;omega);refine cC 61 [0,1,3,4,5,6,7,8,10,11,12,13,28] Tryz.func151 ?_;unfold dP;dsimp only;refine dG ?_;refine iG fun r3 h3=> ?_;intros
 refine jC ?_;refine cZ ?_;refine bX 5 24 1 (by decide) rfl (by decide) (bI fun R0 hR0=> ?_);repeat rcases hR0 with⟨_,hR0⟩
 refine jH ?_;refine nL ?_;refine QO ?_;refine lp (β:=Sum Nat RS_) (rSt q0 r3 vs ls bd) (rOk q0 r3 ls) (rMs ls) (.inl R0) (by unfold rSt MR;(exact aJ)) (by unfold rOk;exact⟨by(exact bA),by(exact bA)⟩) ?_;intro st hst;refine aI ?_;rcases st with R|⟨R,q,init,k,m,j⟩
 ·obtain⟨hR1,hR2⟩:=hst;unfold rSt MR;refine jH ?_;refine oP ?_;refine aB rfl (fun g3=> ?_) (fun g3=> ?_)
  ·obtain⟨x,hx⟩:∃x,ls[0]? =some x:=⟨_,List.getElem?_eq_getElem (by simp at g3;omega)⟩
   have h0:0<ls.length:=(List.getElem?_eq_some_iff.1 hx).1;have hx':ls[(((0:Nat)):Int).toNat]? =some x:=hx;refine dO ?_;refine mJ ?_;refine mK ?_;refine lo (jM (E rfl) (E rfl)) rfl ?_;rw[show decide ((0:Int)<((0:Nat):Int))=false from rfl];refine pL ?_;refine aHw ?_;refine DU ?_;refine DV ?_;refine nW ?_;refine aHy ?_;refine vB ?_;refine kL ?_;refine eS fun r45 h45=> ?_;intros
   refine eS fun r46 h46=> ?_;intros
   refine kI [[AV.own r45 0 1]] 1 ?_;refine bL fun r47 h47=> ?_;intros
   refine jC ?_;refine UX ?_;refine⟨.inr ⟨r47,r45,[],x,0,0⟩,⟨⟨⟨by show Nq r47 r45;(exact bA),by show Nq r47 r3;(exact bA),by show Nq r47 q0;(exact bA)⟩,by show Nq r45 r3;(exact bA),by show Nq r45 q0;(exact bA)⟩,⟨Nat.zero_le _,Nat.le_refl _⟩,hx,RW hx⟩,by show ls.length-(0+1)<ls.length;have:=(List.getElem?_eq_some_iff.1 hx).1;omega, ?_⟩;dsimp only;unfold zH;exact aJ
  have hls:ls=[]:=by cases ls with|nil=>rfl|cons a t=>simp at g3
  refine aAc (j:=5) (v':=.ro 1 ((cD ls).map lC) .any) rfl bH (by rw[hls];exact aM aO rfl) ?_;refine dO ?_;refine cw [] Tryz.call246 (RL RX (by decide) (cD ls) hv1 (by omega) (by omega)) rfl aC aA ?_;rintro _ σ' ⟨r50,rfl,rfl⟩ h50
  replace h50:=gU h50;repeat rcases h50 with⟨_,h50⟩
  refine eR ?_;refine lO ?_;refine cw [(r50,.arr 5 1 ((bD (cD ls) iH).map aH))] Tryz.call248 (RI r50 (bD (cD ls) iH) (by omega) bd (by omega) hm) rfl aC aA ?_;rintro _ σ' ⟨r54,rfl,rfl⟩ h54;have k54:=bB h54;repeat rcases k54 with⟨_,k54⟩
  refine eR ?_;have hPl:(bD (cD ls) iH++iS bd).length≤61000:=by simp;omega
  have hcd:kP ⟨ls,bd⟩=uB (bD (cD ls) iH++iS bd).length++(bD (cD ls) iH++iS bd):=rfl;rw[hcd];generalize bD (cD ls) iH++iS bd=P at hPl hub⊢;refine kL ?_;refine pH ?_;refine cw [(q0,.arr 5 1 (vs.map aH))] Tryz.call135 (eI q0 vs (by omega) P.length (by omega)) rfl aC aA ?_;rintro _ σ' ⟨r58,rfl,rfl⟩ h58;have k58:=bB h58;repeat rcases k58 with⟨_,k58⟩
  refine yU ?_;refine kI ((vs++uB P.length++P).map aH) (vs++uB P.length++P).length ?_;refine bL fun r60 h60=> ?_;intros
  refine cZ ?_;rw[List.append_assoc];exact aD aE ⟨r60,by rfl,rfl⟩ aA
 ·obtain⟨⟨⟨hq1,hq2,hq3⟩,hq4,hq5⟩,⟨hij,hmj⟩,hkj,hru⟩:=hst;dsimp only at hq1 hq2 hq3 hq4 hq5 hkj hru hij hmj;have hrl:(List.replicate (m+1) k).length=m+1:=List.length_replicate;unfold rSt zH;dsimp only;refine jH ?_;refine oP ?_;refine aB rfl (fun g3=> ?_) (fun g3=> ?_)
  ·have hlt:j+1<ls.length:=by simp at g3;omega
   obtain⟨x,hx⟩:∃x,ls[j+1]? =some x:=⟨_,List.getElem?_eq_getElem hlt⟩
   have hkj':ls[(((j+1:Nat):Int)-1).toNat]? =some k:=by rw[show(((j+1:Nat):Int)-1).toNat=j by omega];exact hkj
   refine dO ?_;refine mJ ?_;refine mK ?_;refine lo (jM (E rfl) (E rfl)) rfl ?_;refine pL ?_;refine aHw ?_;refine DU ?_;refine DV ?_;refine nW ?_;refine aHy ?_;refine vB ?_;refine aB rfl (fun g5=> ?_) (fun g5=> ?_)
   ·obtain rfl:k=x:=by simpa using g5
    have hel:=sW (l:=init.map lC) (x:=[AV.own q 0 (List.replicate (m+1) k).length]) (n:=init.length) (by simp);have hsn:=KF hru hx;refine oR ?_;refine sK ?_;refine lo (aF (E rfl)) rfl ?_;refine DY ?_;refine sK ?_;refine mJ ?_;refine lo (aF (E rfl)) rfl ?_;refine eS fun r40 h40=> ?_;intros
    refine kI ((List.replicate (m+1) k++ [k]).map aR) (List.replicate (m+1) k++ [k]).length ?_;refine bL fun r41 h41=> ?_;intros
    refine II ?_;refine yT ?_;refine jI ?_;have hse:=fun y=>KG (l:=init.map lC) (x:=[AV.own q 0 (List.replicate (m+1) k).length]) (y:=y) (n:=init.length) (by simp)
    rw[hse];refine QP ?_;first|(refine⟨.inr ⟨R,r41,init,k,m+1,j+1⟩,⟨⟨⟨by show Nq R r41;(exact bA),hq2,hq3⟩,by show Nq r41 r3;(exact bA),by show Nq r41 q0;(exact bA)⟩,⟨by show init.length≤j+1;omega,by show m+1≤j+1;omega⟩,hx,by rw[List.replicate_succ'];exact hsn⟩,by show ls.length-(j+1+1)<ls.length-(j+1);omega, ?_⟩;dsimp only;(try unfold zH);(try dsimp only);rw[List.replicate_succ' (n:=m+1)];(exact aJ))|(refine⟨.inr ⟨r47,r45,init++ [List.replicate (m+1) k],x,0,j+1⟩,⟨⟨⟨by show Nq r47 r45;(exact bA),by show Nq r47 r3;(exact bA),by show Nq r47 q0;(exact bA)⟩,by show Nq r45 r3;(exact bA),by show Nq r45 q0;(exact bA)⟩,⟨by show(init++ [List.replicate (m+1) k]).length≤j+1;simp;omega,Nat.zero_le _⟩,hx,hsn⟩,by show ls.length-(j+1+1)<ls.length-(j+1);omega, ?_⟩;dsimp only;(try unfold zH);(try dsimp only);rw[show(init++ [List.replicate (m+1) k]).length=init.length+1 by simp];(exact aJ))
   have hkx:k≠x:=by intro e;subst e;simp at g5
   have hsn:=RV hru hx hkx;refine dZ (XR (r:=R) (q:=q) (es':=(init++ [List.replicate (m+1) k]).map lC) cJ bH (by simp) (KH _) (RY aO)) ?_;refine dF ?_;refine z1 ?_;refine bI fun r45 h45=> ?_;repeat rcases h45 with⟨_,h45⟩
   refine z1 ?_;refine bI fun r46 h46=> ?_;repeat rcases h46 with⟨_,h46⟩
   refine kI ((init++ [List.replicate (m+1) k]).map lC++ [[AV.own r45 0 1]]) (init.length+1+1) ?_ (hby:=by omega);refine bL fun r47 h47=> ?_;intros
   refine jC ?_;refine UX ?_;first|(refine⟨.inr ⟨R,r41,init,k,m+1,j+1⟩,⟨⟨⟨by show Nq R r41;(exact bA),hq2,hq3⟩,by show Nq r41 r3;(exact bA),by show Nq r41 q0;(exact bA)⟩,⟨by show init.length≤j+1;omega,by show m+1≤j+1;omega⟩,hx,by rw[List.replicate_succ'];exact hsn⟩,by show ls.length-(j+1+1)<ls.length-(j+1);omega, ?_⟩;dsimp only;(try unfold zH);(try dsimp only);rw[List.replicate_succ' (n:=m+1)];(exact aJ))|(refine⟨.inr ⟨r47,r45,init++ [List.replicate (m+1) k],x,0,j+1⟩,⟨⟨⟨by show Nq r47 r45;(exact bA),by show Nq r47 r3;(exact bA),by show Nq r47 q0;(exact bA)⟩,by show Nq r45 r3;(exact bA),by show Nq r45 q0;(exact bA)⟩,⟨by show(init++ [List.replicate (m+1) k]).length≤j+1;simp;omega,Nat.zero_le _⟩,hx,hsn⟩,by show ls.length-(j+1+1)<ls.length-(j+1);omega, ?_⟩;dsimp only;(try unfold zH);(try dsimp only);rw[show(init++ [List.replicate (m+1) k]).length=init.length+1 by simp];(exact aJ))
  have hjl:j+1=ls.length:=by have:=(List.getElem?_eq_some_iff.1 hkj).1;simp at g3;omega
  rw[hjl,List.take_length]at hru;refine dZ (XR (r:=R) (q:=q) (es':=(cD ls).map lC) cJ bH (by rw[hru];simp) (KH _) (by rw[hru];exact RY aO)) ?_;refine aAc (j:=5) (v':=.ro 1 ((cD ls).map lC) .any) rfl bH (aM aO (by rw[hru];simp)) ?_;refine dO ?_;refine cw [] Tryz.call246 (RL RX (by decide) (cD ls) hv1 (by omega) (by omega)) rfl aC aA ?_;rintro _ σ' ⟨r50,rfl,rfl⟩ h50
  replace h50:=gU h50;repeat rcases h50 with⟨_,h50⟩
  refine eR ?_;refine lO ?_;refine cw [(r50,.arr 5 1 ((bD (cD ls) iH).map aH))] Tryz.call248 (RI r50 (bD (cD ls) iH) (by omega) bd (by omega) hm) rfl aC aA ?_;rintro _ σ' ⟨r54,rfl,rfl⟩ h54;have k54:=bB h54;repeat rcases k54 with⟨_,k54⟩
  refine eR ?_;have hPl:(bD (cD ls) iH++iS bd).length≤61000:=by simp;omega
  have hcd:kP ⟨ls,bd⟩=uB (bD (cD ls) iH++iS bd).length++(bD (cD ls) iH++iS bd):=rfl;rw[hcd];generalize bD (cD ls) iH++iS bd=P at hPl hub⊢;refine kL ?_;refine pH ?_;refine cw [(q0,.arr 5 1 (vs.map aH))] Tryz.call135 (eI q0 vs (by omega) P.length (by omega)) rfl aC aA ?_;rintro _ σ' ⟨r58,rfl,rfl⟩ h58;have k58:=bB h58;repeat rcases k58 with⟨_,k58⟩
  refine yU ?_;refine kI ((vs++uB P.length++P).map aH) (vs++uB P.length++P).length ?_;refine bL fun r60 h60=> ?_;intros
  refine cZ ?_;rw[List.append_assoc];exact aD aE ⟨r60,by rfl,rfl⟩ aA
end Go.Proofs.YtjpdadobblffmaaGreat
namespace Go.Proofs.YtjpdadobblffmaaGreat
open Go.RowKit Go.ChangeShapes Go.WideShapes Go.ChangeAt Go.Deep
section
variable {P : Program} {n : Nat} {s : ASt} {K : ASt → Prop} {ty t u : TypeId} {x : Operand} {d : Nat}
theorem GH(w:World)(g n k:Nat)(h:k≠g):(w.freeze ⟨g,n,none⟩ 1).heap[k]? =w.heap[k]? :=by
 simp[World.freeze,Array.getElem?_modify,Ne.symm h]
theorem aAn(w:World)(g n:Nat){vs:Array Value}{e:TypeId}{fz:Nat×Nat}(h:w.heap[g]? =some (.cells vs e fz)):(w.freeze ⟨g,n,none⟩ 1).heap[g]? =some (.cells vs e (if fz.1==fz.2 then(n,n+1)else(min fz.1 n,max fz.2 (n+1)))):=by
 obtain⟨lo,hi⟩:=fz;simp[World.freeze,Array.getElem?_modify,h]
theorem IU{e:TypeId} [Ty P t (.slice e)] [Ty P e (.int .u8)] {r len:Nat}{et:TypeId}{es:List (List AV)}(hx:aev s x=some (.own r 0 len))(hg:gJ s.σ r=some (.arr et 1 es))(hpos:0<len)(hd:d<n)
  (hK:K ⟨(d,.own r 0 len)::s.fr,zY s.σ r (.arr et 1 es)⟩):Hop P n (.convert t t x) ty (some d) s [r] K:=by
 intro M F N a w o ho hty hdst hr next Q hnext
 have hbase:=hr.aev hx;have hmem:=cE hg;obtain⟨h0,hrows,h3⟩:=hr.st.ent _ hmem;generalize hu:a.eval x=v at hbase;cases hbase with
 |own0=>omega
 |own hM hle hmm=>
  rcases h3 with⟨hv',_⟩|⟨g,c,vs,hM',hcl,hsz,hlc,hmax,hvr⟩
  ·rw[hM]at hv';cases hv'
  ·have hg':=hM'.symm.trans hM;simp only[Option.some.injEq,Blk'.row.injEq]at hg';obtain⟨q1,q2,q3⟩:=hg';subst q1;subst q2;obtain⟨fz,hcl,hz⟩:=hcl;have hsh:w.shape? g=some (et,vs.size):=by simp[World.shape?,hcl]
   have hex:(execOp a.eval o).run P w=.ok (.value (.slice (some ⟨g,0,none⟩) len (c-0))) (w.freeze ⟨g,vs.size,none⟩ 1):=by
    simp[execOp,ho,hu,convert,run_underlying (Ty.und (P:=P) (t:=t)),run_underlying (Ty.und (P:=P) (t:=e)),markStringish,hsh]
   unfold Oper.wp;rw[hex,Oper.upon_value,hdst];have hbl:cG M r=some g:=by simp[cG,hM]
   have hF:¬F g:=hr.st.nof g ⟨_,hmem,hbl⟩;have honly:Only (fun k=>k=g) w (w.freeze ⟨g,vs.size,none⟩ 1):=⟨rfl,rfl,rfl,by simp[World.freeze],fun k _ hne=>GH w g vs.size k hne⟩
   have hSame:Same F w (w.freeze ⟨g,vs.size,none⟩ 1):=fun b hb=>GH w g vs.size b (fun e=>hF (e▸hb))
   have hE:ER M F (w.freeze ⟨g,vs.size,none⟩ 1) r (.arr et 1 es):=by
    refine⟨h0,hrows,.inr ⟨g,c,vs,hM',⟨_,aAn w g vs.size hcl, ?_⟩,hsz,hlc,hmax,fun i x j b u hi hj hu=>(hvr i x j b u hi hj hu).mono (fun _ _ h=>h) (fun _ h=>h) hSame⟩⟩;right;split
    ·exact Nat.le_refl _
    ·next hne=>
     rcases hz with rfl|hz
     ·exact absurd rfl hne
     ·exact Nat.le_min.2 ⟨hz,Nat.le_refl _⟩
   obtain⟨r1,e1,o1⟩:=hr.set_ hmem hbl honly hE;have hv:=VR.own (M:=M) (F:=F) (w:=w.freeze ⟨g,vs.size,none⟩ 1) (t:=r) (off:=0) (len:=len) hM hle hmm;simp only[Nat.zero_mul]at hv;exact hnext M F N _ _ ⟨(d,.own r 0 len)::s.fr,_⟩ (r1.put hd hv) e1 o1 hK
theorem IV{e:TypeId} [Ty P u .string] [Ty P t (.slice e)] [Ty P e (.int .u8)] {b:List Nat}(hlt:∀c∈b,c<256)(hb:b.length≤maxLen)(hx:aev s x=some (.str (dE b)))(hd:d<n)
  (hK:K ⟨(d,.ro 1 (b.map aH) .any)::s.fr,s.σ⟩):Hop P n (.convert u t x) ty (some d) s [] K:=by
 intro M F N a w o ho hty hdst hr next Q hnext
 have hu:a.eval x=.string (dE b):=by
  have:=hr.aev hx;generalize a.eval x=v at this⊢;cases this;rfl
 have hsz:(dE b).size=b.length:=by simp[dE,ByteArray.size]
 have hrun:=Lib.run_convert_string_bytes (P:=P) w u t e (dE b) (Ty.und (P:=P) (t:=u)) (Ty.und (P:=P) (t:=t)) (Ty.und (P:=P) (t:=e));have hex:(execOp a.eval o).run P w=.ok (.value (.slice (some ⟨w.heap.size,0,none⟩) b.length (grownCap w b.length 0 e))) (Lib.bytesWorld w e (dE b)):=by
  rw[hsz]at hrun;simp[execOp,ho,hu,hrun]
 unfold Oper.wp;rw[hex,Oper.upon_value,hdst];have hold:∀k,k<w.heap.size→(Lib.bytesWorld w e (dE b)).heap[k]? =w.heap[k]? :=fun k hk=>Lib.bytesWorld_at_old w e (dE b) k hk
 have hgs:(Lib.bytesWorld w e (dE b)).heap.size=w.heap.size+1:=Lib.bytesWorld_size w e (dE b);have hSame:Same F w (Lib.bytesWorld w e (dE b)):=fun g hg=>hold g (hr.st.flt g hg)
 have hsr:=hr.st.growF hold (by omega) (Nat.le_refl _) (by omega:w.heap.size<(Lib.bytesWorld w e (dE b)).heap.size);have hcell:∀(i:Nat) (c:Nat),b[i]? =some c→(Lib.bytesWorld w e (dE b)).cell? ⟨w.heap.size,i,none⟩=some (.int .u8 (c:Int)):=by
  intro i c hc;have hil:=(List.getElem?_eq_some_iff.1 hc).1;rw[Lib.bytesWorld_cell w e (dE b) i (by omega)];have hm:(dE b).data.toList=b.map UInt8.ofNat:=by simp[dE]
  have hc2:=hlt c (List.mem_of_getElem? hc);rw[hm,List.getD_eq_getElem?_getD,List.getElem?_map,hc];simp[Nat.mod_eq_of_lt hc2]
 have hv:VR M (fun g=>F g∨g=w.heap.size) (Lib.bytesWorld w e (dE b)) (.ro 1 (b.map aH) .any) (.slice (some ⟨w.heap.size,0,none⟩) b.length (grownCap w b.length 0 e)):=by
  have:=VR.ro (M:=M) (F:=fun g=>F g∨g=w.heap.size) (w:=Lib.bytesWorld w e (dE b)) (es:=b.map aH) (k:=.any) (b:=w.heap.size) (o:=0) (sz:=1) (cap:=grownCap w b.length 0 e) (us:=fun i j=>.int .u8 ((b[i]!):Int)) (.inr rfl)
   (by intro y hy;obtain⟨c,-,rfl⟩:=List.mem_map.1 hy;exact⟨rfl,by simp[aH,AV.cell]⟩)
   (fun i y j v hi hj=>by
    simp only[List.getElem?_map,Option.map_eq_some_iff]at hi;obtain⟨c,hc,rfl⟩:=hi
    match j,hj with
    |0,hj=>
     have hil:=(List.getElem?_eq_some_iff.1 hc)
     rw[Nat.zero_add,Nat.mul_one,Nat.add_zero,hcell i c hc,getElem!_pos b i hil.1,hil.2]
    |j+1,hj=>cases hj)
   (fun i y j v hi hj=>by
    simp only[List.getElem?_map,Option.map_eq_some_iff]at hi;obtain⟨c,hc,rfl⟩:=hi
    match j,hj with
    |0,hj=>
     have hil:=(List.getElem?_eq_some_iff.1 hc)
     obtain rfl:=Option.some.inj hj;rw[getElem!_pos b i hil.1,hil.2];exact .int _ _
    |j+1,hj=>cases hj)
   (by simpa using grownCap_ge w b.length 0 e) (grownCap_le_maxLen w b.length 0 e hb) (fun h=>by cases h) (fun h=>by cases h)
  rwa [List.length_map]at this
 have honly:∀S,Only S w (Lib.bytesWorld w e (dE b)):=fun S=>⟨rfl,rfl,rfl,by omega,fun k hk _=>hold k hk⟩
 have hext:Ext M F N w s.σ M (fun g=>F g∨g=w.heap.size) N (Lib.bytesWorld w e (dE b)) s.σ:=by
  refine⟨fun _ _ h=>h,fun _ h=>.inl h,Nat.le_refl _,honly _,fun _ h _=>h,fun g hg=> ?_,fun p hp _=>⟨p,hp,rfl⟩⟩;rcases hg with hg|rfl
  ·exact .inl hg
  ·exact .inr (.inl (Nat.le_refl _))
 have hr2:Rel M (fun g=>F g∨g=w.heap.size) N n s a (Lib.bytesWorld w e (dE b)):=hr.step hext hsr rfl;exact hnext M _ N _ _ ⟨(d,.ro 1 (b.map aH) .any)::s.fr,s.σ⟩ (hr2.put hd hv) hext (honly _) hK
end
section
variable {P : Program} {n : Nat} {ops : Array Oper} {rest : List Oper} {fr : Fr} {σ σ' : dU} {K : ASt → Prop} {ty t u : TypeId} {pos : String} {af : Array Edge} {x : Operand} {d : Nat}
theorem cvm{e:TypeId} [Ty P t (.slice e)] [Ty P e (.int .u8)] {r len:Nat}{et:TypeId}{es:List (List AV)}(hs:SSet σ r (.arr et 1 es) r (.arr et 1 es) σ')(hpos:0<len)(hK:RS P n ops rest ⟨(d,.own r 0 len)::fr,σ'⟩ K)
  (hx:aev ⟨fr,σ⟩ x=some (.own r 0 len):=by rfl) (hd:Nat.ble (d+1) n=true:=by rfl):RS P n ops (⟨some d,.convert t t x,ty,pos,af,none⟩::rest) ⟨fr,σ⟩ K:=
 hY (IU hx hs.get hpos (dL hd) (CF (s:=⟨_,_⟩) (fun p hp=>hs.sub p hp) hK))
theorem cvb{e:TypeId} [Ty P u .string] [Ty P t (.slice e)] [Ty P e (.int .u8)] {b:List Nat}(hlt:∀c∈b,c<256)(hK:RS P n ops rest ⟨(d,.ro 1 (b.map aH) .any)::fr,σ⟩ K)(hb:b.length≤maxLen:=by(simp[maxLen];omega))
  (hx:aev ⟨fr,σ⟩ x=some (.str (dE b)):=by rfl) (hd:Nat.ble (d+1) n=true:=by rfl):RS P n ops (⟨some d,.convert u t x,ty,pos,af,none⟩::rest) ⟨fr,σ⟩ K:=
 hY (IV hlt hb hx (dL hd) hK)
end
end Go.Proofs.YtjpdadobblffmaaGreat
namespace Go.Proofs.YtjpdadobblffmaaGreat
open Go.RowKit Go.ChangeShapes Go.WideShapes Go.ChangeAt Go.Deep
attribute [local irreducible] SW RS RD fH eH
theorem YC:iT Tryz.prog 5 151 (fun x=>.agg (dP x)) kP (fun c=>tR c=true∧∀x∈c.bd,x.Ok) 61000 9000000:=
 ⟨Tryz.call151,fun q vs x h _ hvs=>by
  obtain⟨ls,bd⟩:=x;obtain⟨h,hO⟩:=h;unfold tR at h;simp only[Bool.and_eq_true]at h;obtain⟨⟨h1,h2⟩,h3⟩:=h;obtain⟨k1,k2⟩:=cA h2;obtain⟨k3,k4⟩:=cA h3;have hm:∀x∈bd,x.Ok∧dB x=true:=fun x hx=>⟨hO x hx,k4 x hx⟩
  obtain⟨hv1,hv2,hv3⟩:=RZ ls (by omega);have hpl:=AT hm;have hb:bd.length≤300:=by omega
  have hub:=bR 4 (bD (cD ls) iH++iS bd).length (by simp;omega);exact⟨by unfold kP;simp at hub⊢;omega,aMw q vs hvs ls bd (by omega) hb hm⟩⟩
theorem qB{P:Program}{t8:TypeId}{f:FuncId}{α:Type}{ar:α→AV}{pt:α→List Nat}{ok:α→Prop}{c B:Nat}(hf:iT P t8 f ar pt ok c B)(hB:1≤B){l:List α}(hl:∀x∈l,ok x)(hn:l.length≤16)(hc:c≤100000)(no:Nat):(bJ no l pt).length≤10+16*c:=by
 have h1:=lW (pt:=pt) (l:=l) (c:=c) (fun x hx=>(hf.2 0 [0] x (hl x hx) (by simp) hB).1) (by omega);have h2:l.length*c≤16*c:=Nat.mul_le_mul_right c hn;have h3:=bR 4 (bD l pt).length (by omega);unfold bJ;split
 ·simp
 ·simp;omega
def qZ (m:Md):Bool:=(m.co.length==m.fn.length&&cQ m.co 16 tR)&&pE m&&lU m.tb 16 1000&&lU m.me 16 65536
theorem xK(m:Md):mT m=(qZ m&&decide ((fI m).length≤8000)):=rfl
theorem MT{l:Li}{a c:Int}(h:lU l a c=true)(ha:a≤100000)(hc:c≤100000):(∀x∈gP l,RN x)∧(gP l).length≤1:=by
 obtain⟨has,mn,mx⟩:=l;cases has with
 |false=>exact⟨by simp[gP],by simp[gP]⟩
 |true=>
  unfold lU at h;simp only[if_true,Bool.and_eq_true,decide_eq_true_eq]at h;refine⟨fun x hx=> ?_,by simp[gP]⟩;obtain rfl:x=⟨true,mn,mx⟩:=by simpa[gP]using hx
  unfold RN;dsimp only;omega
theorem AZ(m:Md)(h:qZ m=true)(hO:m.Ok):SCall Tryz.prog 56 [.agg (aS m)] [] (fun y σ=>∃r,y=.own r 0 (fI m).length∧σ=[(r,.arr 5 1 ((fI m).map aH))]):=by
 obtain⟨ty,im,fn,tb,me,gl,ex,el,co,da⟩:=m;unfold qZ at h;simp only[Bool.and_eq_true]at h;obtain⟨⟨⟨⟨-,hco⟩,hls⟩,htb⟩,hme⟩:=h;unfold pE at hls;simp only[Bool.and_eq_true]at hls;obtain⟨⟨⟨⟨⟨⟨hty,him⟩,hfn⟩,hgl⟩,hex⟩,hel⟩,hda⟩:=hls;obtain⟨hO1,hO2⟩:=hO;dsimp only at*;obtain⟨a1,a2⟩:=cA hty;obtain⟨b1,b2⟩:=cA him;obtain⟨c1,c2⟩:=cA hfn;obtain⟨d1,d2⟩:=cA hgl;obtain⟨e1,e2⟩:=cA hex;obtain⟨f1,f2⟩:=cA hel;obtain⟨g1,g2⟩:=cA hda;obtain⟨i1,i2⟩:=cA hco;obtain⟨t2,t1⟩:=MT htb (by decide) (by decide);obtain⟨u2,u1⟩:=MT hme (by decide) (by decide);have d2':∀g∈gl,mS g.kd g.n=true∧ -9223372036854775808≤g.n∧g.n≤9223372036854775807:=fun g hg=>⟨d2 g hg,hO2 g hg⟩
 have i2':∀c∈co,tR c=true∧∀x∈c.bd,x.Ok:=fun c hc=>⟨i2 c hc,hO1 c hc⟩
 have L1:=qB XS (by decide) a2 (by omega) (by decide) 1;have L2:=qB XT (by decide) b2 (by omega) (by decide) 2;have L3:=qB GE (by decide) c2 (by omega) (by decide) 3;have L4:=qB XW (by decide) t2 (by omega) (by decide) 4;have L5:=qB XV (by decide) u2 (by omega) (by decide) 5;have L6:=qB XY (by decide) d2' (by omega) (by decide) 6;have L7:=qB XU (by decide) e2 (by omega) (by decide) 7;have L9:=qB XX (by decide) f2 (by omega) (by decide) 9;have L10:=qB YC (by decide) i2' (by omega) (by decide) 10;have hW:fI ⟨ty,im,fn,tb,me,gl,ex,el,co,da⟩=headB++bJ 1 ty wM++bJ 2 im iY++bJ 3 fn cH++bJ 4 (gP tb) (fun l=>112::eM l)++bJ 5 (gP me) eM++bJ 6 gl vJ++bJ 7 ex nO++bJ 9 el vO++bJ 10 co kP++bJ 11 da xH:=rfl;rw[hW];have hH:headB.length=8:=rfl;refine cC 48 [0,1,2,3] Tryz.func56 ?_;unfold aS;dsimp only;refine dG ?_;refine iG fun r1 h1=> ?_;intros
 refine jC ?_;refine eS fun r4 h4=> ?_;intros
 refine cvm (len:=8) cJ (by decide) ?_;refine cZ ?_;rw[show([[.int .u8 0],[.int .u8 97],[.int .u8 115],[.int .u8 109],[.int .u8 1],[.int .u8 0],[.int .u8 0],[.int .u8 0]]:List (List AV))=headB.map aH from rfl,show AV.own r4 0 8=AV.own r4 0 headB.length from rfl];refine lO ?_;refine cw [(r4,.arr 5 1 (headB.map aH))] Tryz.call129 (aH7 XS (by decide) r4 headB 1 (by decide) ty a2 (by omega) (by omega) (by omega)) rfl aC aA ?_;rintro _ σ' ⟨r9,rfl,rfl⟩ h9;have k9:=bB h9;repeat rcases k9 with⟨_,k9⟩
 refine eR ?_;generalize bJ 1 ty wM=S1 at L1⊢;refine lO ?_;refine cw [(r9,.arr 5 1 ((headB++S1).map aH))] Tryz.call133 (aH8 XT (by decide) r9 (headB++S1) 2 (by decide) im b2 (by omega) (by simp;omega) (by omega)) rfl aC aA ?_;rintro _ σ' ⟨r13,rfl,rfl⟩ h13;have k13:=bB h13;repeat rcases k13 with⟨_,k13⟩
 refine eR ?_;generalize bJ 2 im iY=S2 at L2⊢;refine lO ?_;refine cw [(r13,.arr 5 1 ((headB++S1++S2).map aH))] Tryz.call137 (aEJ GE (by decide) r13 (headB++S1++S2) 3 (by decide) fn c2 (by omega) (by simp;omega) (by omega)) rfl aC aA ?_;rintro _ σ' ⟨r17,rfl,rfl⟩ h17;have k17:=bB h17;repeat rcases k17 with⟨_,k17⟩
 refine eR ?_;generalize bJ 3 fn cH=S3 at L3⊢;refine eU ?_;refine oI ?_;refine mP ?_;refine cw [] Tryz.call139 (RM tb) rfl aC aA ?_;rintro _ σ' ⟨q21,rfl,rfl⟩ h21
 replace h21:=gU h21;repeat rcases h21 with⟨_,h21⟩
 apply aZ;exact bN;refine iR (j:=21) rfl bH (aM aO (by simp)) ?_;refine cw [(r17,.arr 5 1 ((headB++S1++S2++S3).map aH))] Tryz.call138 (aB8 XW (by decide) r17 (headB++S1++S2++S3) 4 (by decide) (gP tb) t2 (by omega) (by simp;omega) (by omega)) rfl aC aA ?_;rintro _ σ' ⟨r22,rfl,rfl⟩ h22;have k22:=bB h22;repeat rcases k22 with⟨_,k22⟩
 refine eR ?_;generalize bJ 4 (gP tb) (fun l=>112::eM l)=S4 at L4⊢;refine eU ?_;refine oI ?_;refine mP ?_;refine cw [] Tryz.call139 (RM me) rfl aC aA ?_;rintro _ σ' ⟨q26,rfl,rfl⟩ h26
 replace h26:=gU h26;repeat rcases h26 with⟨_,h26⟩
 apply aZ;exact bN;refine iR (j:=26) rfl bH (aM aO (by simp)) ?_;refine cw [(r22,.arr 5 1 ((headB++S1++S2++S3++S4).map aH))] Tryz.call138 (aB8 XV (by decide) r22 (headB++S1++S2++S3++S4) 5 (by decide) (gP me) u2 (by omega) (by simp;omega) (by omega)) rfl aC aA ?_;rintro _ σ' ⟨r27,rfl,rfl⟩ h27;have k27:=bB h27;repeat rcases k27 with⟨_,k27⟩
 refine eR ?_;generalize bJ 5 (gP me) eM=S5 at L5⊢;refine lO ?_;refine cw [(r27,.arr 5 1 ((headB++S1++S2++S3++S4++S5).map aH))] Tryz.call142 (aH9 XY (by decide) r27 (headB++S1++S2++S3++S4++S5) 6 (by decide) gl d2' (by omega) (by simp;omega) (by omega)) rfl aC aA ?_;rintro _ σ' ⟨r31,rfl,rfl⟩ h31;have k31:=bB h31;repeat rcases k31 with⟨_,k31⟩
 refine eR ?_;generalize bJ 6 gl vJ=S6 at L6⊢;refine lO ?_;refine cw [(r31,.arr 5 1 ((headB++S1++S2++S3++S4++S5++S6).map aH))] Tryz.call145 (aIa XU (by decide) r31 (headB++S1++S2++S3++S4++S5++S6) 7 (by decide) ex e2 (by omega) (by simp;omega) (by omega)) rfl aC aA ?_;rintro _ σ' ⟨r35,rfl,rfl⟩ h35;have k35:=bB h35;repeat rcases k35 with⟨_,k35⟩
 refine eR ?_;generalize bJ 7 ex nO=S7 at L7⊢;refine lO ?_;refine cw [(r35,.arr 5 1 ((headB++S1++S2++S3++S4++S5++S6++S7).map aH))] Tryz.call147 (aIb XX (by decide) r35 (headB++S1++S2++S3++S4++S5++S6++S7) 9 (by decide) el f2 (by omega) (by simp;omega) (by omega)) rfl aC aA ?_;rintro _ σ' ⟨r39,rfl,rfl⟩ h39;have k39:=bB h39;repeat rcases k39 with⟨_,k39⟩
 refine eR ?_;generalize bJ 9 el vO=S9 at L9⊢;refine lO ?_;refine cw [(r39,.arr 5 1 ((headB++S1++S2++S3++S4++S5++S6++S7++S9).map aH))] Tryz.call150 (aIc YC (by decide) r39 (headB++S1++S2++S3++S4++S5++S6++S7++S9) 10 (by decide) co i2' (by omega) (by simp;omega) (by omega)) rfl aC aA ?_;rintro _ σ' ⟨r43,rfl,rfl⟩ h43;have k43:=bB h43;repeat rcases k43 with⟨_,k43⟩
 refine eR ?_;generalize bJ 10 co kP=S10 at L10⊢;refine lO ?_;refine cw [(r43,.arr 5 1 ((headB++S1++S2++S3++S4++S5++S6++S7++S9++S10).map aH))] Tryz.call152 (aId aEK (by decide) r43 (headB++S1++S2++S3++S4++S5++S6++S7++S9++S10) 11 (by decide) da g2 (by omega) (by simp;omega) (by omega)) rfl aC aA ?_;rintro _ σ' ⟨r47,rfl,rfl⟩ h47;have k47:=bB h47;repeat rcases k47 with⟨_,k47⟩
 refine eR ?_;exact aD aE ⟨r47,by rfl,rfl⟩ aA
end Go.Proofs.YtjpdadobblffmaaGreat
namespace Go.Proofs.YtjpdadobblffmaaGreat
open Go.RowKit Go.ChangeShapes Go.WideShapes Go.ChangeAt Go.Deep
def cB (P:Program) (f:FuncId) (caps:List AV) (σ:dU) {α:Type} (ar:α→AV) (p:α→Bool) (ok:α→Prop):Prop:=
 (∀args w,(callFunc f args).run P w=.ok (.enter f args) w)∧∀x,ok x→SCall P f ([]++ [ar x]++caps) σ (fun r σ'=>r=.bool (p x)∧σ'=σ)
theorem aIg{f:FuncId}{caps:List AV}{σ:dU}{p:FT→Bool}{ok:FT→Prop}(hp:cB Tryz.prog f caps σ (fun x=>.agg (cP x)) p ok)(l:List FT)(hok:∀x∈l,ok x):SCall Tryz.prog 309 [.ro 2 (l.map cP) .any,.fn (.func f) [] caps] σ (fun x σ'=>∃m:Int,x=.int .i64 m∧decide (0≤m)=l.any p∧σ'=σ):=by
 refine cC 19 [0,1,4,5,7,8,9,16] Tryz.func309 ?_;refine hZ (i:=0) rfl fun hm=> ?_
 rw[List.length_map]at hm;unfold maxLen at hm;refine sQ ?_;refine lp (β:=Nat) (fun j=>⟨[(0,.ro 2 (l.map cP) .any),(1,.fn (.func f) [] caps),(7,.int .i64 l.length),(8,.int .i64 j)],σ⟩) (fun j=>j≤l.length∧(l.take j).any p=false) (fun j=>l.length-j) 0 ?_ ⟨Nat.zero_le _,rfl⟩ ?_
 ·exact aJ
 rintro j ⟨hj,ht⟩;refine jL ?_;refine aB rfl (fun h1=> ?_) (fun h1=> ?_)
 ·have hlt:j<l.length:=by simp at h1;omega
  obtain⟨x,hx⟩:∃x,l[j]? =some x:=⟨_,List.getElem?_eq_getElem hlt⟩
  refine uI ?_;refine mZ ?_;refine qE σ rfl hp.1 (hp.2 x (hok x (List.mem_of_getElem? hx))) rfl ?_ ?_ ?_
  ·exact aC
  ·exact fun _ h=>h
  rintro r σ' ⟨rfl,rfl⟩-;rw[eF,List.append_nil];refine jI ?_;refine aB rfl (fun h2=> ?_) (fun h2=> ?_)
  ·refine fF ?_;apply aD;exact aE
   ·refine⟨j,rfl, ?_,rfl⟩;rw[decide_eq_true (by omega)];exact(List.any_eq_true.2 ⟨x,List.mem_of_getElem? hx,h2⟩).symm
   ·exact aA
  ·refine lZ ?_;refine⟨j+1,⟨by omega, ?_⟩,by omega, ?_⟩
   ·rw[List.take_add_one,hx,List.any_append,ht];simp[h2]
   ·exact aJ
 ·refine bP ?_;apply aD;exact aE
  ·simp at h1;rw[List.take_of_length_le (by omega)]at ht;exact⟨-1,rfl,by rw[ht];rfl,rfl⟩
  ·exact aA
theorem aIh{f:FuncId}{caps:List AV}{σ:dU}{p:FT→Bool}{ok:FT→Prop}(hp:cB Tryz.prog f caps σ (fun x=>.agg (cP x)) p ok)(l:List FT)(hok:∀x∈l,ok x):SCall Tryz.prog 285 [.ro 2 (l.map cP) .any,.fn (.func f) [] caps] σ (fun x σ'=>x=.bool (l.any p)∧σ'=σ):=by
 refine cC 9 [0,1,4] Tryz.func285 ?_;refine mY ?_;refine cw σ Tryz.call309 (aIg hp l hok) rfl ?_ ?_ ?_
 ·exact aC
 ·exact fun _ h=>h
 rintro x σ' ⟨m,rfl,hm,rfl⟩-;rw[eF,List.append_nil];refine AG ?_;exact aD aE ⟨by simp only[gC];rw[←hm],rfl⟩ aA
theorem aKG{f:FuncId}{p:FT→Bool}{ok:FT→Prop}(hp:cB Tryz.prog f [] [] (fun x=>.agg (cP x)) p ok)(r:Nat):cB Tryz.prog 286 [.ptr r 0] [(r,.box 277 [.fn (.func f) [] []])] (fun x=>.agg (cP x)) (fun x=> !p x) ok:=by
  refine⟨Tryz.call286,fun x hx=> ?_⟩;refine cC 8 [0,1,2,3] Tryz.func286 ?_;refine dG ?_;refine iG fun r2 h2=> ?_;intros
  refine jC ?_;refine rN ?_;refine mP ?_;refine qE [] rfl hp.1 (hp.2 x hx) rfl aC aA ?_;rintro _ σ' ⟨rfl,rfl⟩ h6;refine IM ?_;refine cZ ?_;exact aD aE ⟨by rfl,rfl⟩ aA
theorem aIi{f:FuncId}{p:FT→Bool}{ok:FT→Prop}(hp:cB Tryz.prog f [] [] (fun x=>.agg (cP x)) p ok)(l:List FT)(hok:∀x∈l,ok x)(most:Int):SCall Tryz.prog 221 [.ro 2 (l.map cP) .any,.int .i64 most,.fn (.func f) [] []] [] (fun x σ'=>x=.bool (cQ l most p)∧σ'=[]):=by
 refine cC 17 [0,1,2,5,6] Tryz.func221 ?_;refine dG ?_;refine iG fun r5 h5=> ?_;intros
 refine cZ ?_;by_cases hl:(l.length:Int)≤most
 ·have hE:cQ l most p= !(l.any fun x=> !p x):=by unfold cQ;rw[decide_eq_true hl,List.any_eq_not_all_not];simp
  have hd:decide ((l.length:Int)≤most)=true:=by simpa using hl
  refine mI ?_;rw[hd];refine yH ?_;refine cw [(r5,.box 277 [.fn (.func f) [] []])] Tryz.call285 (aIh (aKG hp r5) l hok) rfl aC aA ?_;rintro _ σ' ⟨rfl,rfl⟩ h14;refine yF ?_;exact aD aE ⟨by rw[hE];rfl,rfl⟩ aA
 ·have hE:cQ l most p=false:=by unfold cQ;rw[decide_eq_false hl];rfl
  have hd:decide ((l.length:Int)≤most)=false:=by simpa using hl
  refine mI ?_;rw[hd];refine yI ?_;exact aD aE ⟨by rw[hE];rfl,rfl⟩ aA
theorem aEN{f:FuncId}{caps:List AV}{σ:dU}{p:Int→Bool}{ok:Int→Prop}(hp:cB Tryz.prog f caps σ (fun n=>.int .i64 n) p ok)(l:List Int)(hok:∀x∈l,ok x):SCall Tryz.prog 205 [.ro 1 (l.map aR) .any,.fn (.func f) [] caps] σ (fun x σ'=>∃m:Int,x=.int .i64 m∧decide (0≤m)=l.any p∧σ'=σ):=by
 refine cC 19 [0,1,4,5,7,8,9,16] Tryz.func205 ?_;refine hZ (i:=0) rfl fun hm=> ?_
 rw[List.length_map]at hm;unfold maxLen at hm;refine sQ ?_;refine lp (β:=Nat) (fun j=>⟨[(0,.ro 1 (l.map aR) .any),(1,.fn (.func f) [] caps),(7,.int .i64 l.length),(8,.int .i64 j)],σ⟩) (fun j=>j≤l.length∧(l.take j).any p=false) (fun j=>l.length-j) 0 ?_ ⟨Nat.zero_le _,rfl⟩ ?_
 ·exact aJ
 rintro j ⟨hj,ht⟩;refine jL ?_;refine aB rfl (fun h1=> ?_) (fun h1=> ?_)
 ·have hlt:j<l.length:=by simp at h1;omega
  obtain⟨x,hx⟩:∃x,l[j]? =some x:=⟨_,List.getElem?_eq_getElem hlt⟩
  refine uI ?_;refine nA ?_;refine qE σ rfl hp.1 (hp.2 x (hok x (List.mem_of_getElem? hx))) rfl ?_ ?_ ?_
  ·exact aC
  ·exact fun _ h=>h
  rintro r σ' ⟨rfl,rfl⟩-;rw[eF,List.append_nil];refine jI ?_;refine aB rfl (fun h2=> ?_) (fun h2=> ?_)
  ·refine fF ?_;apply aD;exact aE
   ·refine⟨j,rfl, ?_,rfl⟩;rw[decide_eq_true (by omega)];exact(List.any_eq_true.2 ⟨x,List.mem_of_getElem? hx,h2⟩).symm
   ·exact aA
  ·refine lZ ?_;refine⟨j+1,⟨by omega, ?_⟩,by omega, ?_⟩
   ·rw[List.take_add_one,hx,List.any_append,ht];simp[h2]
   ·exact aJ
 ·refine bP ?_;apply aD;exact aE
  ·simp at h1;rw[List.take_of_length_le (by omega)]at ht;exact⟨-1,rfl,by rw[ht];rfl,rfl⟩
  ·exact aA
theorem MU{f:FuncId}{caps:List AV}{σ:dU}{p:Int→Bool}{ok:Int→Prop}(hp:cB Tryz.prog f caps σ (fun n=>.int .i64 n) p ok)(l:List Int)(hok:∀x∈l,ok x):SCall Tryz.prog 89 [.ro 1 (l.map aR) .any,.fn (.func f) [] caps] σ (fun x σ'=>x=.bool (l.any p)∧σ'=σ):=by
 refine cC 9 [0,1,4] Tryz.func89 ?_;refine mY ?_;refine cw σ Tryz.call205 (aEN hp l hok) rfl ?_ ?_ ?_
 ·exact aC
 ·exact fun _ h=>h
 rintro x σ' ⟨m,rfl,hm,rfl⟩-;rw[eF,List.append_nil];refine AG ?_;exact aD aE ⟨by simp only[gC];rw[←hm],rfl⟩ aA
theorem aIj{f:FuncId}{p:Int→Bool}{ok:Int→Prop}(hp:cB Tryz.prog f [] [] (fun n=>.int .i64 n) p ok)(r:Nat):cB Tryz.prog 214 [.ptr r 0] [(r,.box 83 [.fn (.func f) [] []])] (fun n=>.int .i64 n) (fun x=> !p x) ok:=by
  refine⟨Tryz.call214,fun x hx=> ?_⟩;refine cC 8 [0,1,3] Tryz.func214 ?_;refine sR ?_;refine rN ?_;refine lo (aF (E rfl)) rfl ?_;refine qE [] rfl hp.1 (hp.2 x hx) rfl aC aA ?_;rintro _ σ' ⟨rfl,rfl⟩ h6;refine IM ?_;refine cZ ?_;exact aD aE ⟨by rfl,rfl⟩ aA
theorem BA{f:FuncId}{p:Int→Bool}{ok:Int→Prop}(hp:cB Tryz.prog f [] [] (fun n=>.int .i64 n) p ok)(l:List Int)(hok:∀x∈l,ok x)(most:Int):SCall Tryz.prog 108 [.ro 1 (l.map aR) .any,.int .i64 most,.fn (.func f) [] []] [] (fun x σ'=>x=.bool (cQ l most p)∧σ'=[]):=by
 refine cC 17 [0,1,2,5,6] Tryz.func108 ?_;refine dG ?_;refine iG fun r5 h5=> ?_;intros
 refine cZ ?_;by_cases hl:(l.length:Int)≤most
 ·have hE:cQ l most p= !(l.any fun x=> !p x):=by unfold cQ;rw[decide_eq_true hl,List.any_eq_not_all_not];simp
  have hd:decide ((l.length:Int)≤most)=true:=by simpa using hl
  refine mI ?_;rw[hd];refine yH ?_;refine cw [(r5,.box 83 [.fn (.func f) [] []])] Tryz.call89 (MU (aIj hp r5) l hok) rfl aC aA ?_;rintro _ σ' ⟨rfl,rfl⟩ h14;refine yF ?_;exact aD aE ⟨by rw[hE];rfl,rfl⟩ aA
 ·have hE:cQ l most p=false:=by unfold cQ;rw[decide_eq_false hl];rfl
  have hd:decide ((l.length:Int)≤most)=false:=by simpa using hl
  refine mI ?_;rw[hd];refine yI ?_;exact aD aE ⟨by rw[hE];rfl,rfl⟩ aA
theorem aIk{f:FuncId}{caps:List AV}{σ:dU}{p:Nat→Bool}{ok:Nat→Prop}(hp:cB Tryz.prog f caps σ (fun(n:Nat)=>.int .u8 n) p ok)(l:List Nat)(hok:∀x∈l,ok x):SCall Tryz.prog 320 [.ro 1 (l.map aH) .any,.fn (.func f) [] caps] σ (fun x σ'=>∃m:Int,x=.int .i64 m∧decide (0≤m)=l.any p∧σ'=σ):=by
 refine cC 19 [0,1,4,5,7,8,9,16] Tryz.func320 ?_;refine hZ (i:=0) rfl fun hm=> ?_
 rw[List.length_map]at hm;unfold maxLen at hm;refine sQ ?_;refine lp (β:=Nat) (fun j=>⟨[(0,.ro 1 (l.map aH) .any),(1,.fn (.func f) [] caps),(7,.int .i64 l.length),(8,.int .i64 j)],σ⟩) (fun j=>j≤l.length∧(l.take j).any p=false) (fun j=>l.length-j) 0 ?_ ⟨Nat.zero_le _,rfl⟩ ?_
 ·exact aJ
 rintro j ⟨hj,ht⟩;refine jL ?_;refine aB rfl (fun h1=> ?_) (fun h1=> ?_)
 ·have hlt:j<l.length:=by simp at h1;omega
  obtain⟨x,hx⟩:∃x,l[j]? =some x:=⟨_,List.getElem?_eq_getElem hlt⟩
  refine uI ?_;refine nA ?_;refine qE σ rfl hp.1 (hp.2 x (hok x (List.mem_of_getElem? hx))) rfl ?_ ?_ ?_
  ·exact aC
  ·exact fun _ h=>h
  rintro r σ' ⟨rfl,rfl⟩-;rw[eF,List.append_nil];refine jI ?_;refine aB rfl (fun h2=> ?_) (fun h2=> ?_)
  ·refine fF ?_;apply aD;exact aE
   ·refine⟨j,rfl, ?_,rfl⟩;rw[decide_eq_true (by omega)];exact(List.any_eq_true.2 ⟨x,List.mem_of_getElem? hx,h2⟩).symm
   ·exact aA
  ·refine lZ ?_;refine⟨j+1,⟨by omega, ?_⟩,by omega, ?_⟩
   ·rw[List.take_add_one,hx,List.any_append,ht];simp[h2]
   ·exact aJ
 ·refine bP ?_;apply aD;exact aE
  ·simp at h1;rw[List.take_of_length_le (by omega)]at ht;exact⟨-1,rfl,by rw[ht];rfl,rfl⟩
  ·exact aA
theorem aIl{f:FuncId}{caps:List AV}{σ:dU}{p:Nat→Bool}{ok:Nat→Prop}(hp:cB Tryz.prog f caps σ (fun(n:Nat)=>.int .u8 n) p ok)(l:List Nat)(hok:∀x∈l,ok x):SCall Tryz.prog 310 [.ro 1 (l.map aH) .any,.fn (.func f) [] caps] σ (fun x σ'=>x=.bool (l.any p)∧σ'=σ):=by
 refine cC 9 [0,1,4] Tryz.func310 ?_;refine mY ?_;refine cw σ Tryz.call320 (aIk hp l hok) rfl ?_ ?_ ?_
 ·exact aC
 ·exact fun _ h=>h
 rintro x σ' ⟨m,rfl,hm,rfl⟩-;rw[eF,List.append_nil];refine AG ?_;exact aD aE ⟨by simp only[gC];rw[←hm],rfl⟩ aA
theorem aKH{f:FuncId}{p:Nat→Bool}{ok:Nat→Prop}(hp:cB Tryz.prog f [] [] (fun(n:Nat)=>.int .u8 n) p ok)(r:Nat):cB Tryz.prog 311 [.ptr r 0] [(r,.box 325 [.fn (.func f) [] []])] (fun(n:Nat)=>.int .u8 n) (fun x=> !p x) ok:=by
  refine⟨Tryz.call311,fun x hx=> ?_⟩;refine cC 8 [0,1,3] Tryz.func311 ?_;refine sR ?_;refine rN ?_;refine lo (aF (E rfl)) rfl ?_;refine qE [] rfl hp.1 (hp.2 x hx) rfl aC aA ?_;rintro _ σ' ⟨rfl,rfl⟩ h6;refine IM ?_;refine cZ ?_;exact aD aE ⟨by rfl,rfl⟩ aA
theorem aIm{f:FuncId}{p:Nat→Bool}{ok:Nat→Prop}(hp:cB Tryz.prog f [] [] (fun(n:Nat)=>.int .u8 n) p ok)(l:List Nat)(hok:∀x∈l,ok x)(most:Int):SCall Tryz.prog 288 [.ro 1 (l.map aH) .any,.int .i64 most,.fn (.func f) [] []] [] (fun x σ'=>x=.bool (cQ l most p)∧σ'=[]):=by
 refine cC 17 [0,1,2,5,6] Tryz.func288 ?_;refine dG ?_;refine iG fun r5 h5=> ?_;intros
 refine cZ ?_;by_cases hl:(l.length:Int)≤most
 ·have hE:cQ l most p= !(l.any fun x=> !p x):=by unfold cQ;rw[decide_eq_true hl,List.any_eq_not_all_not];simp
  have hd:decide ((l.length:Int)≤most)=true:=by simpa using hl
  refine mI ?_;rw[hd];refine yH ?_;refine cw [(r5,.box 325 [.fn (.func f) [] []])] Tryz.call310 (aIl (aKH hp r5) l hok) rfl aC aA ?_;rintro _ σ' ⟨rfl,rfl⟩ h14;refine yF ?_;exact aD aE ⟨by rw[hE];rfl,rfl⟩ aA
 ·have hE:cQ l most p=false:=by unfold cQ;rw[decide_eq_false hl];rfl
  have hd:decide ((l.length:Int)≤most)=false:=by simpa using hl
  refine mI ?_;rw[hd];refine yI ?_;exact aD aE ⟨by rw[hE];rfl,rfl⟩ aA
theorem aIn{f:FuncId}{caps:List AV}{σ:dU}{p:Im→Bool}{ok:Im→Prop}(hp:cB Tryz.prog f caps σ (fun x=>.agg (eE x)) p ok)(l:List Im)(hok:∀x∈l,ok x):SCall Tryz.prog 204 [.ro 3 (l.map eE) .any,.fn (.func f) [] caps] σ (fun x σ'=>∃m:Int,x=.int .i64 m∧decide (0≤m)=l.any p∧σ'=σ):=by
 refine cC 19 [0,1,4,5,7,8,9,16] Tryz.func204 ?_;refine hZ (i:=0) rfl fun hm=> ?_
 rw[List.length_map]at hm;unfold maxLen at hm;refine sQ ?_;refine lp (β:=Nat) (fun j=>⟨[(0,.ro 3 (l.map eE) .any),(1,.fn (.func f) [] caps),(7,.int .i64 l.length),(8,.int .i64 j)],σ⟩) (fun j=>j≤l.length∧(l.take j).any p=false) (fun j=>l.length-j) 0 ?_ ⟨Nat.zero_le _,rfl⟩ ?_
 ·exact aJ
 rintro j ⟨hj,ht⟩;refine jL ?_;refine aB rfl (fun h1=> ?_) (fun h1=> ?_)
 ·have hlt:j<l.length:=by simp at h1;omega
  obtain⟨x,hx⟩:∃x,l[j]? =some x:=⟨_,List.getElem?_eq_getElem hlt⟩
  refine uI ?_;refine mZ ?_;refine qE σ rfl hp.1 (hp.2 x (hok x (List.mem_of_getElem? hx))) rfl ?_ ?_ ?_
  ·exact aC
  ·exact fun _ h=>h
  rintro r σ' ⟨rfl,rfl⟩-;rw[eF,List.append_nil];refine jI ?_;refine aB rfl (fun h2=> ?_) (fun h2=> ?_)
  ·refine fF ?_;apply aD;exact aE
   ·refine⟨j,rfl, ?_,rfl⟩;rw[decide_eq_true (by omega)];exact(List.any_eq_true.2 ⟨x,List.mem_of_getElem? hx,h2⟩).symm
   ·exact aA
  ·refine lZ ?_;refine⟨j+1,⟨by omega, ?_⟩,by omega, ?_⟩
   ·rw[List.take_add_one,hx,List.any_append,ht];simp[h2]
   ·exact aJ
 ·refine bP ?_;apply aD;exact aE
  ·simp at h1;rw[List.take_of_length_le (by omega)]at ht;exact⟨-1,rfl,by rw[ht];rfl,rfl⟩
  ·exact aA
theorem aCi{f:FuncId}{caps:List AV}{σ:dU}{p:Im→Bool}{ok:Im→Prop}(hp:cB Tryz.prog f caps σ (fun x=>.agg (eE x)) p ok)(l:List Im)(hok:∀x∈l,ok x):SCall Tryz.prog 87 [.ro 3 (l.map eE) .any,.fn (.func f) [] caps] σ (fun x σ'=>x=.bool (l.any p)∧σ'=σ):=by
 refine cC 9 [0,1,4] Tryz.func87 ?_;refine mY ?_;refine cw σ Tryz.call204 (aIn hp l hok) rfl ?_ ?_ ?_
 ·exact aC
 ·exact fun _ h=>h
 rintro x σ' ⟨m,rfl,hm,rfl⟩-;rw[eF,List.append_nil];refine AG ?_;exact aD aE ⟨by simp only[gC];rw[←hm],rfl⟩ aA
theorem aKI{f:FuncId}{p:Im→Bool}{ok:Im→Prop}(hp:cB Tryz.prog f [] [] (fun x=>.agg (eE x)) p ok)(r:Nat):cB Tryz.prog 287 [.ptr r 0] [(r,.box 148 [.fn (.func f) [] []])] (fun x=>.agg (eE x)) (fun x=> !p x) ok:=by
  refine⟨Tryz.call287,fun x hx=> ?_⟩;refine cC 8 [0,1,2,3] Tryz.func287 ?_;refine dG ?_;refine iG fun r2 h2=> ?_;intros
  refine jC ?_;refine rN ?_;refine mP ?_;refine qE [] rfl hp.1 (hp.2 x hx) rfl aC aA ?_;rintro _ σ' ⟨rfl,rfl⟩ h6;refine IM ?_;refine cZ ?_;exact aD aE ⟨by rfl,rfl⟩ aA
theorem aIo{f:FuncId}{p:Im→Bool}{ok:Im→Prop}(hp:cB Tryz.prog f [] [] (fun x=>.agg (eE x)) p ok)(l:List Im)(hok:∀x∈l,ok x)(most:Int):SCall Tryz.prog 223 [.ro 3 (l.map eE) .any,.int .i64 most,.fn (.func f) [] []] [] (fun x σ'=>x=.bool (cQ l most p)∧σ'=[]):=by
 refine cC 17 [0,1,2,5,6] Tryz.func223 ?_;refine dG ?_;refine iG fun r5 h5=> ?_;intros
 refine cZ ?_;by_cases hl:(l.length:Int)≤most
 ·have hE:cQ l most p= !(l.any fun x=> !p x):=by unfold cQ;rw[decide_eq_true hl,List.any_eq_not_all_not];simp
  have hd:decide ((l.length:Int)≤most)=true:=by simpa using hl
  refine mI ?_;rw[hd];refine yH ?_;refine cw [(r5,.box 148 [.fn (.func f) [] []])] Tryz.call87 (aCi (aKI hp r5) l hok) rfl aC aA ?_;rintro _ σ' ⟨rfl,rfl⟩ h14;refine yF ?_;exact aD aE ⟨by rw[hE];rfl,rfl⟩ aA
 ·have hE:cQ l most p=false:=by unfold cQ;rw[decide_eq_false hl];rfl
  have hd:decide ((l.length:Int)≤most)=false:=by simpa using hl
  refine mI ?_;rw[hd];refine yI ?_;exact aD aE ⟨by rw[hE];rfl,rfl⟩ aA
theorem aIp{f:FuncId}{caps:List AV}{σ:dU}{p:Gl→Bool}{ok:Gl→Prop}(hp:cB Tryz.prog f caps σ (fun x=>.agg (eA x)) p ok)(l:List Gl)(hok:∀x∈l,ok x):SCall Tryz.prog 312 [.ro 3 (l.map eA) .any,.fn (.func f) [] caps] σ (fun x σ'=>∃m:Int,x=.int .i64 m∧decide (0≤m)=l.any p∧σ'=σ):=by
 refine cC 19 [0,1,4,5,7,8,9,16] Tryz.func312 ?_;refine hZ (i:=0) rfl fun hm=> ?_
 rw[List.length_map]at hm;unfold maxLen at hm;refine sQ ?_;refine lp (β:=Nat) (fun j=>⟨[(0,.ro 3 (l.map eA) .any),(1,.fn (.func f) [] caps),(7,.int .i64 l.length),(8,.int .i64 j)],σ⟩) (fun j=>j≤l.length∧(l.take j).any p=false) (fun j=>l.length-j) 0 ?_ ⟨Nat.zero_le _,rfl⟩ ?_
 ·exact aJ
 rintro j ⟨hj,ht⟩;refine jL ?_;refine aB rfl (fun h1=> ?_) (fun h1=> ?_)
 ·have hlt:j<l.length:=by simp at h1;omega
  obtain⟨x,hx⟩:∃x,l[j]? =some x:=⟨_,List.getElem?_eq_getElem hlt⟩
  refine uI ?_;refine mZ ?_;refine qE σ rfl hp.1 (hp.2 x (hok x (List.mem_of_getElem? hx))) rfl ?_ ?_ ?_
  ·exact aC
  ·exact fun _ h=>h
  rintro r σ' ⟨rfl,rfl⟩-;rw[eF,List.append_nil];refine jI ?_;refine aB rfl (fun h2=> ?_) (fun h2=> ?_)
  ·refine fF ?_;apply aD;exact aE
   ·refine⟨j,rfl, ?_,rfl⟩;rw[decide_eq_true (by omega)];exact(List.any_eq_true.2 ⟨x,List.mem_of_getElem? hx,h2⟩).symm
   ·exact aA
  ·refine lZ ?_;refine⟨j+1,⟨by omega, ?_⟩,by omega, ?_⟩
   ·rw[List.take_add_one,hx,List.any_append,ht];simp[h2]
   ·exact aJ
 ·refine bP ?_;apply aD;exact aE
  ·simp at h1;rw[List.take_of_length_le (by omega)]at ht;exact⟨-1,rfl,by rw[ht];rfl,rfl⟩
  ·exact aA
theorem aIq{f:FuncId}{caps:List AV}{σ:dU}{p:Gl→Bool}{ok:Gl→Prop}(hp:cB Tryz.prog f caps σ (fun x=>.agg (eA x)) p ok)(l:List Gl)(hok:∀x∈l,ok x):SCall Tryz.prog 290 [.ro 3 (l.map eA) .any,.fn (.func f) [] caps] σ (fun x σ'=>x=.bool (l.any p)∧σ'=σ):=by
 refine cC 9 [0,1,4] Tryz.func290 ?_;refine mY ?_;refine cw σ Tryz.call312 (aIp hp l hok) rfl ?_ ?_ ?_
 ·exact aC
 ·exact fun _ h=>h
 rintro x σ' ⟨m,rfl,hm,rfl⟩-;rw[eF,List.append_nil];refine AG ?_;exact aD aE ⟨by simp only[gC];rw[←hm],rfl⟩ aA
theorem aKJ{f:FuncId}{p:Gl→Bool}{ok:Gl→Prop}(hp:cB Tryz.prog f [] [] (fun x=>.agg (eA x)) p ok)(r:Nat):cB Tryz.prog 291 [.ptr r 0] [(r,.box 280 [.fn (.func f) [] []])] (fun x=>.agg (eA x)) (fun x=> !p x) ok:=by
  refine⟨Tryz.call291,fun x hx=> ?_⟩;refine cC 8 [0,1,2,3] Tryz.func291 ?_;refine dG ?_;refine iG fun r2 h2=> ?_;intros
  refine jC ?_;refine rN ?_;refine mP ?_;refine qE [] rfl hp.1 (hp.2 x hx) rfl aC aA ?_;rintro _ σ' ⟨rfl,rfl⟩ h6;refine IM ?_;refine cZ ?_;exact aD aE ⟨by rfl,rfl⟩ aA
theorem aIr{f:FuncId}{p:Gl→Bool}{ok:Gl→Prop}(hp:cB Tryz.prog f [] [] (fun x=>.agg (eA x)) p ok)(l:List Gl)(hok:∀x∈l,ok x)(most:Int):SCall Tryz.prog 227 [.ro 3 (l.map eA) .any,.int .i64 most,.fn (.func f) [] []] [] (fun x σ'=>x=.bool (cQ l most p)∧σ'=[]):=by
 refine cC 17 [0,1,2,5,6] Tryz.func227 ?_;refine dG ?_;refine iG fun r5 h5=> ?_;intros
 refine cZ ?_;by_cases hl:(l.length:Int)≤most
 ·have hE:cQ l most p= !(l.any fun x=> !p x):=by unfold cQ;rw[decide_eq_true hl,List.any_eq_not_all_not];simp
  have hd:decide ((l.length:Int)≤most)=true:=by simpa using hl
  refine mI ?_;rw[hd];refine yH ?_;refine cw [(r5,.box 280 [.fn (.func f) [] []])] Tryz.call290 (aIq (aKJ hp r5) l hok) rfl aC aA ?_;rintro _ σ' ⟨rfl,rfl⟩ h14;refine yF ?_;exact aD aE ⟨by rw[hE];rfl,rfl⟩ aA
 ·have hE:cQ l most p=false:=by unfold cQ;rw[decide_eq_false hl];rfl
  have hd:decide ((l.length:Int)≤most)=false:=by simpa using hl
  refine mI ?_;rw[hd];refine yI ?_;exact aD aE ⟨by rw[hE];rfl,rfl⟩ aA
theorem aIs{f:FuncId}{caps:List AV}{σ:dU}{p:Ex→Bool}{ok:Ex→Prop}(hp:cB Tryz.prog f caps σ (fun x=>.agg (dH x)) p ok)(l:List Ex)(hok:∀x∈l,ok x):SCall Tryz.prog 203 [.ro 2 (l.map dH) .any,.fn (.func f) [] caps] σ (fun x σ'=>∃m:Int,x=.int .i64 m∧decide (0≤m)=l.any p∧σ'=σ):=by
 refine cC 19 [0,1,4,5,7,8,9,16] Tryz.func203 ?_;refine hZ (i:=0) rfl fun hm=> ?_
 rw[List.length_map]at hm;unfold maxLen at hm;refine sQ ?_;refine lp (β:=Nat) (fun j=>⟨[(0,.ro 2 (l.map dH) .any),(1,.fn (.func f) [] caps),(7,.int .i64 l.length),(8,.int .i64 j)],σ⟩) (fun j=>j≤l.length∧(l.take j).any p=false) (fun j=>l.length-j) 0 ?_ ⟨Nat.zero_le _,rfl⟩ ?_
 ·exact aJ
 rintro j ⟨hj,ht⟩;refine jL ?_;refine aB rfl (fun h1=> ?_) (fun h1=> ?_)
 ·have hlt:j<l.length:=by simp at h1;omega
  obtain⟨x,hx⟩:∃x,l[j]? =some x:=⟨_,List.getElem?_eq_getElem hlt⟩
  refine uI ?_;refine mZ ?_;refine qE σ rfl hp.1 (hp.2 x (hok x (List.mem_of_getElem? hx))) rfl ?_ ?_ ?_
  ·exact aC
  ·exact fun _ h=>h
  rintro r σ' ⟨rfl,rfl⟩-;rw[eF,List.append_nil];refine jI ?_;refine aB rfl (fun h2=> ?_) (fun h2=> ?_)
  ·refine fF ?_;apply aD;exact aE
   ·refine⟨j,rfl, ?_,rfl⟩;rw[decide_eq_true (by omega)];exact(List.any_eq_true.2 ⟨x,List.mem_of_getElem? hx,h2⟩).symm
   ·exact aA
  ·refine lZ ?_;refine⟨j+1,⟨by omega, ?_⟩,by omega, ?_⟩
   ·rw[List.take_add_one,hx,List.any_append,ht];simp[h2]
   ·exact aJ
 ·refine bP ?_;apply aD;exact aE
  ·simp at h1;rw[List.take_of_length_le (by omega)]at ht;exact⟨-1,rfl,by rw[ht];rfl,rfl⟩
  ·exact aA
theorem aCj{f:FuncId}{caps:List AV}{σ:dU}{p:Ex→Bool}{ok:Ex→Prop}(hp:cB Tryz.prog f caps σ (fun x=>.agg (dH x)) p ok)(l:List Ex)(hok:∀x∈l,ok x):SCall Tryz.prog 85 [.ro 2 (l.map dH) .any,.fn (.func f) [] caps] σ (fun x σ'=>x=.bool (l.any p)∧σ'=σ):=by
 refine cC 9 [0,1,4] Tryz.func85 ?_;refine mY ?_;refine cw σ Tryz.call203 (aIs hp l hok) rfl ?_ ?_ ?_
 ·exact aC
 ·exact fun _ h=>h
 rintro x σ' ⟨m,rfl,hm,rfl⟩-;rw[eF,List.append_nil];refine AG ?_;exact aD aE ⟨by simp only[gC];rw[←hm],rfl⟩ aA
theorem aKK{f:FuncId}{p:Ex→Bool}{ok:Ex→Prop}(hp:cB Tryz.prog f [] [] (fun x=>.agg (dH x)) p ok)(r:Nat):cB Tryz.prog 292 [.ptr r 0] [(r,.box 146 [.fn (.func f) [] []])] (fun x=>.agg (dH x)) (fun x=> !p x) ok:=by
  refine⟨Tryz.call292,fun x hx=> ?_⟩;refine cC 8 [0,1,2,3] Tryz.func292 ?_;refine dG ?_;refine iG fun r2 h2=> ?_;intros
  refine jC ?_;refine rN ?_;refine mP ?_;refine qE [] rfl hp.1 (hp.2 x hx) rfl aC aA ?_;rintro _ σ' ⟨rfl,rfl⟩ h6;refine IM ?_;refine cZ ?_;exact aD aE ⟨by rfl,rfl⟩ aA
theorem aIt{f:FuncId}{p:Ex→Bool}{ok:Ex→Prop}(hp:cB Tryz.prog f [] [] (fun x=>.agg (dH x)) p ok)(l:List Ex)(hok:∀x∈l,ok x)(most:Int):SCall Tryz.prog 230 [.ro 2 (l.map dH) .any,.int .i64 most,.fn (.func f) [] []] [] (fun x σ'=>x=.bool (cQ l most p)∧σ'=[]):=by
 refine cC 17 [0,1,2,5,6] Tryz.func230 ?_;refine dG ?_;refine iG fun r5 h5=> ?_;intros
 refine cZ ?_;by_cases hl:(l.length:Int)≤most
 ·have hE:cQ l most p= !(l.any fun x=> !p x):=by unfold cQ;rw[decide_eq_true hl,List.any_eq_not_all_not];simp
  have hd:decide ((l.length:Int)≤most)=true:=by simpa using hl
  refine mI ?_;rw[hd];refine yH ?_;refine cw [(r5,.box 146 [.fn (.func f) [] []])] Tryz.call85 (aCj (aKK hp r5) l hok) rfl aC aA ?_;rintro _ σ' ⟨rfl,rfl⟩ h14;refine yF ?_;exact aD aE ⟨by rw[hE];rfl,rfl⟩ aA
 ·have hE:cQ l most p=false:=by unfold cQ;rw[decide_eq_false hl];rfl
  have hd:decide ((l.length:Int)≤most)=false:=by simpa using hl
  refine mI ?_;rw[hd];refine yI ?_;exact aD aE ⟨by rw[hE];rfl,rfl⟩ aA
theorem aIu{f:FuncId}{caps:List AV}{σ:dU}{p:El→Bool}{ok:El→Prop}(hp:cB Tryz.prog f caps σ (fun x=>.agg (dX x)) p ok)(l:List El)(hok:∀x∈l,ok x):SCall Tryz.prog 206 [.ro 2 (l.map dX) .any,.fn (.func f) [] caps] σ (fun x σ'=>∃m:Int,x=.int .i64 m∧decide (0≤m)=l.any p∧σ'=σ):=by
 refine cC 19 [0,1,4,5,7,8,9,16] Tryz.func206 ?_;refine hZ (i:=0) rfl fun hm=> ?_
 rw[List.length_map]at hm;unfold maxLen at hm;refine sQ ?_;refine lp (β:=Nat) (fun j=>⟨[(0,.ro 2 (l.map dX) .any),(1,.fn (.func f) [] caps),(7,.int .i64 l.length),(8,.int .i64 j)],σ⟩) (fun j=>j≤l.length∧(l.take j).any p=false) (fun j=>l.length-j) 0 ?_ ⟨Nat.zero_le _,rfl⟩ ?_
 ·exact aJ
 rintro j ⟨hj,ht⟩;refine jL ?_;refine aB rfl (fun h1=> ?_) (fun h1=> ?_)
 ·have hlt:j<l.length:=by simp at h1;omega
  obtain⟨x,hx⟩:∃x,l[j]? =some x:=⟨_,List.getElem?_eq_getElem hlt⟩
  refine uI ?_;refine mZ ?_;refine qE σ rfl hp.1 (hp.2 x (hok x (List.mem_of_getElem? hx))) rfl ?_ ?_ ?_
  ·exact aC
  ·exact fun _ h=>h
  rintro r σ' ⟨rfl,rfl⟩-;rw[eF,List.append_nil];refine jI ?_;refine aB rfl (fun h2=> ?_) (fun h2=> ?_)
  ·refine fF ?_;apply aD;exact aE
   ·refine⟨j,rfl, ?_,rfl⟩;rw[decide_eq_true (by omega)];exact(List.any_eq_true.2 ⟨x,List.mem_of_getElem? hx,h2⟩).symm
   ·exact aA
  ·refine lZ ?_;refine⟨j+1,⟨by omega, ?_⟩,by omega, ?_⟩
   ·rw[List.take_add_one,hx,List.any_append,ht];simp[h2]
   ·exact aJ
 ·refine bP ?_;apply aD;exact aE
  ·simp at h1;rw[List.take_of_length_le (by omega)]at ht;exact⟨-1,rfl,by rw[ht];rfl,rfl⟩
  ·exact aA
theorem aCk{f:FuncId}{caps:List AV}{σ:dU}{p:El→Bool}{ok:El→Prop}(hp:cB Tryz.prog f caps σ (fun x=>.agg (dX x)) p ok)(l:List El)(hok:∀x∈l,ok x):SCall Tryz.prog 91 [.ro 2 (l.map dX) .any,.fn (.func f) [] caps] σ (fun x σ'=>x=.bool (l.any p)∧σ'=σ):=by
 refine cC 9 [0,1,4] Tryz.func91 ?_;refine mY ?_;refine cw σ Tryz.call206 (aIu hp l hok) rfl ?_ ?_ ?_
 ·exact aC
 ·exact fun _ h=>h
 rintro x σ' ⟨m,rfl,hm,rfl⟩-;rw[eF,List.append_nil];refine AG ?_;exact aD aE ⟨by simp only[gC];rw[←hm],rfl⟩ aA
theorem aKL{f:FuncId}{p:El→Bool}{ok:El→Prop}(hp:cB Tryz.prog f [] [] (fun x=>.agg (dX x)) p ok)(r:Nat):cB Tryz.prog 293 [.ptr r 0] [(r,.box 152 [.fn (.func f) [] []])] (fun x=>.agg (dX x)) (fun x=> !p x) ok:=by
  refine⟨Tryz.call293,fun x hx=> ?_⟩;refine cC 8 [0,1,2,3] Tryz.func293 ?_;refine dG ?_;refine iG fun r2 h2=> ?_;intros
  refine jC ?_;refine rN ?_;refine mP ?_;refine qE [] rfl hp.1 (hp.2 x hx) rfl aC aA ?_;rintro _ σ' ⟨rfl,rfl⟩ h6;refine IM ?_;refine cZ ?_;exact aD aE ⟨by rfl,rfl⟩ aA
theorem aIv{f:FuncId}{p:El→Bool}{ok:El→Prop}(hp:cB Tryz.prog f [] [] (fun x=>.agg (dX x)) p ok)(l:List El)(hok:∀x∈l,ok x)(most:Int):SCall Tryz.prog 232 [.ro 2 (l.map dX) .any,.int .i64 most,.fn (.func f) [] []] [] (fun x σ'=>x=.bool (cQ l most p)∧σ'=[]):=by
 refine cC 17 [0,1,2,5,6] Tryz.func232 ?_;refine dG ?_;refine iG fun r5 h5=> ?_;intros
 refine cZ ?_;by_cases hl:(l.length:Int)≤most
 ·have hE:cQ l most p= !(l.any fun x=> !p x):=by unfold cQ;rw[decide_eq_true hl,List.any_eq_not_all_not];simp
  have hd:decide ((l.length:Int)≤most)=true:=by simpa using hl
  refine mI ?_;rw[hd];refine yH ?_;refine cw [(r5,.box 152 [.fn (.func f) [] []])] Tryz.call91 (aCk (aKL hp r5) l hok) rfl aC aA ?_;rintro _ σ' ⟨rfl,rfl⟩ h14;refine yF ?_;exact aD aE ⟨by rw[hE];rfl,rfl⟩ aA
 ·have hE:cQ l most p=false:=by unfold cQ;rw[decide_eq_false hl];rfl
  have hd:decide ((l.length:Int)≤most)=false:=by simpa using hl
  refine mI ?_;rw[hd];refine yI ?_;exact aD aE ⟨by rw[hE];rfl,rfl⟩ aA
theorem aIw{f:FuncId}{caps:List AV}{σ:dU}{p:Co→Bool}{ok:Co→Prop}(hp:cB Tryz.prog f caps σ (fun x=>.agg (dP x)) p ok)(l:List Co)(hok:∀x∈l,ok x):SCall Tryz.prog 283 [.ro 2 (l.map dP) .any,.fn (.func f) [] caps] σ (fun x σ'=>∃m:Int,x=.int .i64 m∧decide (0≤m)=l.any p∧σ'=σ):=by
 refine cC 19 [0,1,4,5,7,8,9,16] Tryz.func283 ?_;refine hZ (i:=0) rfl fun hm=> ?_
 rw[List.length_map]at hm;unfold maxLen at hm;refine sQ ?_;refine lp (β:=Nat) (fun j=>⟨[(0,.ro 2 (l.map dP) .any),(1,.fn (.func f) [] caps),(7,.int .i64 l.length),(8,.int .i64 j)],σ⟩) (fun j=>j≤l.length∧(l.take j).any p=false) (fun j=>l.length-j) 0 ?_ ⟨Nat.zero_le _,rfl⟩ ?_
 ·exact aJ
 rintro j ⟨hj,ht⟩;refine jL ?_;refine aB rfl (fun h1=> ?_) (fun h1=> ?_)
 ·have hlt:j<l.length:=by simp at h1;omega
  obtain⟨x,hx⟩:∃x,l[j]? =some x:=⟨_,List.getElem?_eq_getElem hlt⟩
  refine uI ?_;refine mZ ?_;refine qE σ rfl hp.1 (hp.2 x (hok x (List.mem_of_getElem? hx))) rfl ?_ ?_ ?_
  ·exact aC
  ·exact fun _ h=>h
  rintro r σ' ⟨rfl,rfl⟩-;rw[eF,List.append_nil];refine jI ?_;refine aB rfl (fun h2=> ?_) (fun h2=> ?_)
  ·refine fF ?_;apply aD;exact aE
   ·refine⟨j,rfl, ?_,rfl⟩;rw[decide_eq_true (by omega)];exact(List.any_eq_true.2 ⟨x,List.mem_of_getElem? hx,h2⟩).symm
   ·exact aA
  ·refine lZ ?_;refine⟨j+1,⟨by omega, ?_⟩,by omega, ?_⟩
   ·rw[List.take_add_one,hx,List.any_append,ht];simp[h2]
   ·exact aJ
 ·refine bP ?_;apply aD;exact aE
  ·simp at h1;rw[List.take_of_length_le (by omega)]at ht;exact⟨-1,rfl,by rw[ht];rfl,rfl⟩
  ·exact aA
theorem aIx{f:FuncId}{caps:List AV}{σ:dU}{p:Co→Bool}{ok:Co→Prop}(hp:cB Tryz.prog f caps σ (fun x=>.agg (dP x)) p ok)(l:List Co)(hok:∀x∈l,ok x):SCall Tryz.prog 212 [.ro 2 (l.map dP) .any,.fn (.func f) [] caps] σ (fun x σ'=>x=.bool (l.any p)∧σ'=σ):=by
 refine cC 9 [0,1,4] Tryz.func212 ?_;refine mY ?_;refine cw σ Tryz.call283 (aIw hp l hok) rfl ?_ ?_ ?_
 ·exact aC
 ·exact fun _ h=>h
 rintro x σ' ⟨m,rfl,hm,rfl⟩-;rw[eF,List.append_nil];refine AG ?_;exact aD aE ⟨by simp only[gC];rw[←hm],rfl⟩ aA
theorem aKM{f:FuncId}{p:Co→Bool}{ok:Co→Prop}(hp:cB Tryz.prog f [] [] (fun x=>.agg (dP x)) p ok)(r:Nat):cB Tryz.prog 213 [.ptr r 0] [(r,.box 182 [.fn (.func f) [] []])] (fun x=>.agg (dP x)) (fun x=> !p x) ok:=by
  refine⟨Tryz.call213,fun x hx=> ?_⟩;refine cC 8 [0,1,2,3] Tryz.func213 ?_;refine dG ?_;refine iG fun r2 h2=> ?_;intros
  refine jC ?_;refine rN ?_;refine mP ?_;refine qE [] rfl hp.1 (hp.2 x hx) rfl aC aA ?_;rintro _ σ' ⟨rfl,rfl⟩ h6;refine IM ?_;refine cZ ?_;exact aD aE ⟨by rfl,rfl⟩ aA
theorem aIy{f:FuncId}{p:Co→Bool}{ok:Co→Prop}(hp:cB Tryz.prog f [] [] (fun x=>.agg (dP x)) p ok)(l:List Co)(hok:∀x∈l,ok x)(most:Int):SCall Tryz.prog 106 [.ro 2 (l.map dP) .any,.int .i64 most,.fn (.func f) [] []] [] (fun x σ'=>x=.bool (cQ l most p)∧σ'=[]):=by
 refine cC 17 [0,1,2,5,6] Tryz.func106 ?_;refine dG ?_;refine iG fun r5 h5=> ?_;intros
 refine cZ ?_;by_cases hl:(l.length:Int)≤most
 ·have hE:cQ l most p= !(l.any fun x=> !p x):=by unfold cQ;rw[decide_eq_true hl,List.any_eq_not_all_not];simp
  have hd:decide ((l.length:Int)≤most)=true:=by simpa using hl
  refine mI ?_;rw[hd];refine yH ?_;refine cw [(r5,.box 182 [.fn (.func f) [] []])] Tryz.call212 (aIx (aKM hp r5) l hok) rfl aC aA ?_;rintro _ σ' ⟨rfl,rfl⟩ h14;refine yF ?_;exact aD aE ⟨by rw[hE];rfl,rfl⟩ aA
 ·have hE:cQ l most p=false:=by unfold cQ;rw[decide_eq_false hl];rfl
  have hd:decide ((l.length:Int)≤most)=false:=by simpa using hl
  refine mI ?_;rw[hd];refine yI ?_;exact aD aE ⟨by rw[hE];rfl,rfl⟩ aA
theorem aIz{f:FuncId}{caps:List AV}{σ:dU}{p:Da→Bool}{ok:Da→Prop}(hp:cB Tryz.prog f caps σ (fun x=>.agg (eB x)) p ok)(l:List Da)(hok:∀x∈l,ok x):SCall Tryz.prog 313 [.ro 2 (l.map eB) .any,.fn (.func f) [] caps] σ (fun x σ'=>∃m:Int,x=.int .i64 m∧decide (0≤m)=l.any p∧σ'=σ):=by
 refine cC 19 [0,1,4,5,7,8,9,16] Tryz.func313 ?_;refine hZ (i:=0) rfl fun hm=> ?_
 rw[List.length_map]at hm;unfold maxLen at hm;refine sQ ?_;refine lp (β:=Nat) (fun j=>⟨[(0,.ro 2 (l.map eB) .any),(1,.fn (.func f) [] caps),(7,.int .i64 l.length),(8,.int .i64 j)],σ⟩) (fun j=>j≤l.length∧(l.take j).any p=false) (fun j=>l.length-j) 0 ?_ ⟨Nat.zero_le _,rfl⟩ ?_
 ·exact aJ
 rintro j ⟨hj,ht⟩;refine jL ?_;refine aB rfl (fun h1=> ?_) (fun h1=> ?_)
 ·have hlt:j<l.length:=by simp at h1;omega
  obtain⟨x,hx⟩:∃x,l[j]? =some x:=⟨_,List.getElem?_eq_getElem hlt⟩
  refine uI ?_;refine mZ ?_;refine qE σ rfl hp.1 (hp.2 x (hok x (List.mem_of_getElem? hx))) rfl ?_ ?_ ?_
  ·exact aC
  ·exact fun _ h=>h
  rintro r σ' ⟨rfl,rfl⟩-;rw[eF,List.append_nil];refine jI ?_;refine aB rfl (fun h2=> ?_) (fun h2=> ?_)
  ·refine fF ?_;apply aD;exact aE
   ·refine⟨j,rfl, ?_,rfl⟩;rw[decide_eq_true (by omega)];exact(List.any_eq_true.2 ⟨x,List.mem_of_getElem? hx,h2⟩).symm
   ·exact aA
  ·refine lZ ?_;refine⟨j+1,⟨by omega, ?_⟩,by omega, ?_⟩
   ·rw[List.take_add_one,hx,List.any_append,ht];simp[h2]
   ·exact aJ
 ·refine bP ?_;apply aD;exact aE
  ·simp at h1;rw[List.take_of_length_le (by omega)]at ht;exact⟨-1,rfl,by rw[ht];rfl,rfl⟩
  ·exact aA
theorem aIA{f:FuncId}{caps:List AV}{σ:dU}{p:Da→Bool}{ok:Da→Prop}(hp:cB Tryz.prog f caps σ (fun x=>.agg (eB x)) p ok)(l:List Da)(hok:∀x∈l,ok x):SCall Tryz.prog 294 [.ro 2 (l.map eB) .any,.fn (.func f) [] caps] σ (fun x σ'=>x=.bool (l.any p)∧σ'=σ):=by
 refine cC 9 [0,1,4] Tryz.func294 ?_;refine mY ?_;refine cw σ Tryz.call313 (aIz hp l hok) rfl ?_ ?_ ?_
 ·exact aC
 ·exact fun _ h=>h
 rintro x σ' ⟨m,rfl,hm,rfl⟩-;rw[eF,List.append_nil];refine AG ?_;exact aD aE ⟨by simp only[gC];rw[←hm],rfl⟩ aA
theorem aKN{f:FuncId}{p:Da→Bool}{ok:Da→Prop}(hp:cB Tryz.prog f [] [] (fun x=>.agg (eB x)) p ok)(r:Nat):cB Tryz.prog 295 [.ptr r 0] [(r,.box 284 [.fn (.func f) [] []])] (fun x=>.agg (eB x)) (fun x=> !p x) ok:=by
  refine⟨Tryz.call295,fun x hx=> ?_⟩;refine cC 8 [0,1,2,3] Tryz.func295 ?_;refine dG ?_;refine iG fun r2 h2=> ?_;intros
  refine jC ?_;refine rN ?_;refine mP ?_;refine qE [] rfl hp.1 (hp.2 x hx) rfl aC aA ?_;rintro _ σ' ⟨rfl,rfl⟩ h6;refine IM ?_;refine cZ ?_;exact aD aE ⟨by rfl,rfl⟩ aA
theorem aIB{f:FuncId}{p:Da→Bool}{ok:Da→Prop}(hp:cB Tryz.prog f [] [] (fun x=>.agg (eB x)) p ok)(l:List Da)(hok:∀x∈l,ok x)(most:Int):SCall Tryz.prog 235 [.ro 2 (l.map eB) .any,.int .i64 most,.fn (.func f) [] []] [] (fun x σ'=>x=.bool (cQ l most p)∧σ'=[]):=by
 refine cC 17 [0,1,2,5,6] Tryz.func235 ?_;refine dG ?_;refine iG fun r5 h5=> ?_;intros
 refine cZ ?_;by_cases hl:(l.length:Int)≤most
 ·have hE:cQ l most p= !(l.any fun x=> !p x):=by unfold cQ;rw[decide_eq_true hl,List.any_eq_not_all_not];simp
  have hd:decide ((l.length:Int)≤most)=true:=by simpa using hl
  refine mI ?_;rw[hd];refine yH ?_;refine cw [(r5,.box 284 [.fn (.func f) [] []])] Tryz.call294 (aIA (aKN hp r5) l hok) rfl aC aA ?_;rintro _ σ' ⟨rfl,rfl⟩ h14;refine yF ?_;exact aD aE ⟨by rw[hE];rfl,rfl⟩ aA
 ·have hE:cQ l most p=false:=by unfold cQ;rw[decide_eq_false hl];rfl
  have hd:decide ((l.length:Int)≤most)=false:=by simpa using hl
  refine mI ?_;rw[hd];refine yI ?_;exact aD aE ⟨by rw[hE];rfl,rfl⟩ aA
theorem aEO{f:FuncId}{caps:List AV}{σ:dU}{p:Ins→Bool}{ok:Ins→Prop}(hp:cB Tryz.prog f caps σ (fun x=>.agg (iv .any x)) p ok)(l:List Ins)(hok:∀x∈l,ok x):SCall Tryz.prog 284 [.ro 4 (l.map (iv .any)) .any,.fn (.func f) [] caps] σ (fun x σ'=>∃m:Int,x=.int .i64 m∧decide (0≤m)=l.any p∧σ'=σ):=by
 refine cC 19 [0,1,4,5,7,8,9,16] Tryz.func284 ?_;refine hZ (i:=0) rfl fun hm=> ?_
 rw[List.length_map]at hm;unfold maxLen at hm;refine sQ ?_;refine lp (β:=Nat) (fun j=>⟨[(0,.ro 4 (l.map (iv .any)) .any),(1,.fn (.func f) [] caps),(7,.int .i64 l.length),(8,.int .i64 j)],σ⟩) (fun j=>j≤l.length∧(l.take j).any p=false) (fun j=>l.length-j) 0 ?_ ⟨Nat.zero_le _,rfl⟩ ?_
 ·exact aJ
 rintro j ⟨hj,ht⟩;refine jL ?_;refine aB rfl (fun h1=> ?_) (fun h1=> ?_)
 ·have hlt:j<l.length:=by simp at h1;omega
  obtain⟨x,hx⟩:∃x,l[j]? =some x:=⟨_,List.getElem?_eq_getElem hlt⟩
  refine uI ?_;refine mZ ?_;refine qE σ rfl hp.1 (hp.2 x (hok x (List.mem_of_getElem? hx))) rfl ?_ ?_ ?_
  ·exact aC
  ·exact fun _ h=>h
  rintro r σ' ⟨rfl,rfl⟩-;rw[eF,List.append_nil];refine jI ?_;refine aB rfl (fun h2=> ?_) (fun h2=> ?_)
  ·refine fF ?_;apply aD;exact aE
   ·refine⟨j,rfl, ?_,rfl⟩;rw[decide_eq_true (by omega)];exact(List.any_eq_true.2 ⟨x,List.mem_of_getElem? hx,h2⟩).symm
   ·exact aA
  ·refine lZ ?_;refine⟨j+1,⟨by omega, ?_⟩,by omega, ?_⟩
   ·rw[List.take_add_one,hx,List.any_append,ht];simp[h2]
   ·exact aJ
 ·refine bP ?_;apply aD;exact aE
  ·simp at h1;rw[List.take_of_length_le (by omega)]at ht;exact⟨-1,rfl,by rw[ht];rfl,rfl⟩
  ·exact aA
theorem aEP{f:FuncId}{caps:List AV}{σ:dU}{p:Ins→Bool}{ok:Ins→Prop}(hp:cB Tryz.prog f caps σ (fun x=>.agg (iv .any x)) p ok)(l:List Ins)(hok:∀x∈l,ok x):SCall Tryz.prog 215 [.ro 4 (l.map (iv .any)) .any,.fn (.func f) [] caps] σ (fun x σ'=>x=.bool (l.any p)∧σ'=σ):=by
 refine cC 9 [0,1,4] Tryz.func215 ?_;refine mY ?_;refine cw σ Tryz.call284 (aEO hp l hok) rfl ?_ ?_ ?_
 ·exact aC
 ·exact fun _ h=>h
 rintro x σ' ⟨m,rfl,hm,rfl⟩-;rw[eF,List.append_nil];refine AG ?_;exact aD aE ⟨by simp only[gC];rw[←hm],rfl⟩ aA
theorem aIC{f:FuncId}{p:Ins→Bool}{ok:Ins→Prop}(hp:cB Tryz.prog f [] [] (fun x=>.agg (iv .any x)) p ok)(r:Nat):cB Tryz.prog 216 [.ptr r 0] [(r,.box 134 [.fn (.func f) [] []])] (fun x=>.agg (iv .any x)) (fun x=> !p x) ok:=by
  refine⟨Tryz.call216,fun x hx=> ?_⟩;refine cC 8 [0,1,2,3] Tryz.func216 ?_;refine dG ?_;refine iG fun r2 h2=> ?_;intros
  refine jC ?_;refine rN ?_;refine mP ?_;refine qE [] rfl hp.1 (hp.2 x hx) rfl aC aA ?_;rintro _ σ' ⟨rfl,rfl⟩ h6;refine IM ?_;refine cZ ?_;exact aD aE ⟨by rfl,rfl⟩ aA
theorem aEQ{f:FuncId}{p:Ins→Bool}{ok:Ins→Prop}(hp:cB Tryz.prog f [] [] (fun x=>.agg (iv .any x)) p ok)(l:List Ins)(hok:∀x∈l,ok x)(most:Int):SCall Tryz.prog 110 [.ro 4 (l.map (iv .any)) .any,.int .i64 most,.fn (.func f) [] []] [] (fun x σ'=>x=.bool (cQ l most p)∧σ'=[]):=by
 refine cC 17 [0,1,2,5,6] Tryz.func110 ?_;refine dG ?_;refine iG fun r5 h5=> ?_;intros
 refine cZ ?_;by_cases hl:(l.length:Int)≤most
 ·have hE:cQ l most p= !(l.any fun x=> !p x):=by unfold cQ;rw[decide_eq_true hl,List.any_eq_not_all_not];simp
  have hd:decide ((l.length:Int)≤most)=true:=by simpa using hl
  refine mI ?_;rw[hd];refine yH ?_;refine cw [(r5,.box 134 [.fn (.func f) [] []])] Tryz.call215 (aEP (aIC hp r5) l hok) rfl aC aA ?_;rintro _ σ' ⟨rfl,rfl⟩ h14;refine yF ?_;exact aD aE ⟨by rw[hE];rfl,rfl⟩ aA
 ·have hE:cQ l most p=false:=by unfold cQ;rw[decide_eq_false hl];rfl
  have hd:decide ((l.length:Int)≤most)=false:=by simpa using hl
  refine mI ?_;rw[hd];refine yI ?_;exact aD aE ⟨by rw[hE];rfl,rfl⟩ aA
end Go.Proofs.YtjpdadobblffmaaGreat
namespace Go.Proofs.YtjpdadobblffmaaGreat
open Go.RowKit Go.ChangeShapes Go.WideShapes Go.ChangeAt Go.Deep
attribute [local irreducible] SW RS RD fH eH
theorem MV:cB Tryz.prog 109 [] [] (fun n=>.int .i64 n) AU (fun _=>True):=by
 refine⟨Tryz.call109,fun k _=> ?_⟩;refine cC 9 [0,2] Tryz.func109 ?_;refine gX ?_;refine lo (cI (E rfl) (E rfl)) rfl ?_;refine lM ?_;refine sL ?_;refine nX ?_;refine cZ ?_;exact aD aE ⟨by rfl,rfl⟩ aA
theorem zI(n:Int):SCall Tryz.prog 226 [.int .i64 n] [] (fun r σ'=>r=.bool (iB n)∧σ'=[]):=by
 refine cC 9 [0,2] Tryz.func226 ?_;refine gX ?_;refine JR ?_;refine LO ?_;refine kM ?_;exact aD aE ⟨by rfl,rfl⟩ aA
theorem SA:cB Tryz.prog 226 [] [] (fun n=>.int .i64 n) iB (fun _=>True):=⟨Tryz.call226,fun n _=>zI n⟩
theorem SB(n:Int):SCall Tryz.prog 234 [.int .i64 n] [] (fun r σ'=>r=.bool (kV n)∧σ'=[]):=by
 refine cC 9 [0,2] Tryz.func234 ?_;refine gX ?_;refine JR ?_;refine LO ?_;refine kM ?_;exact aD aE ⟨by unfold kV;cases h:decide (-2147483648≤n)<;>simp_all [gC],rfl⟩ aA
def chN (c:Nat):Bool:=decide (32≤c)&&decide (c≤126)
theorem aER:cB Tryz.prog 289 [] [] (fun(n:Nat)=>.int .u8 n) chN (fun _=>True):=by
 refine⟨Tryz.call289,fun k _=> ?_⟩;refine cC 9 [0,2] Tryz.func289 ?_;refine gX ?_;refine JR ?_;refine LO ?_;refine kM ?_;exact aD aE ⟨by unfold chN;rw[show decide (32≤k)=decide ((32:Int)≤(k:Int))from decide_eq_decide.2 (by omega),show decide (k≤126)=decide ((k:Int)≤(126:Int))from decide_eq_decide.2 (by omega)];cases h:decide ((32:Int)≤(k:Int))<;>simp_all [gC],rfl⟩ aA
theorem rO(l:Li)(a c:Int):SCall Tryz.prog 113 [.agg (fA l),.int .i64 a,.int .i64 c] [] (fun r σ'=>r=.bool (lU l a c)∧σ'=[]):=by
 obtain⟨has,mn,mx⟩:=l;refine cC 38 [0,1,2,3,6,9] Tryz.func113 ?_;unfold fA;refine dG ?_;refine iG fun r3 h3=> ?_;intros
 refine iX ?_;refine nZ ?_;refine aB rfl (fun g1=> ?_) (fun g1=> ?_)
 ·have hE:lU ⟨has,mn,mx⟩ a c=if(mn==0)=true then(mx==0)else false:=by obtain rfl:has=false:=(by simpa using g1);unfold lU;cases h:mn==0<;>simp_all
  refine fE ?_;refine DH ?_;refine sL ?_;refine kM ?_;exact aD aE ⟨by rw[hE];rfl,rfl⟩ aA
 have hE:lU ⟨has,mn,mx⟩ a c=if(if(if decide (0≤mn)=true then decide (mn≤a)else false)=true then decide (-1≤mx)else false)=true then decide (mx≤c)else false:=by obtain rfl:has=true:=(by simpa using g1);unfold lU;rw[if_pos rfl];cases h:decide (0≤mn)<;>cases h2:decide (mn≤a)<;>cases h3:decide (-1≤mx)<;>rfl
 refine fE ?_;refine lo (gN (E rfl) (E rfl)) rfl ?_;refine pL ?_;refine aBr ?_;refine uX ?_;refine nM ?_;refine US ?_;refine uX ?_;refine pL ?_;refine aBr ?_;refine kM ?_;exact aD aE ⟨by rw[hE];rfl,rfl⟩ aA
theorem aCl(s:List Nat):uO s=if(!decide (s=[]))=true then cQ s 16 chN else false:=by
 unfold uO cQ chN;rcases s with _ |⟨x,s⟩
 ·rfl
 ·rw[if_pos (by simp),if_pos (by simp),show decide ((x::s).length≤16)=decide (((x::s).length:Int)≤16)from decide_eq_decide.2 (by omega)]
theorem CS(s:List Nat)(hs:s.length≤100000)(hlt:∀c∈s,c<256):SCall Tryz.prog 225 [.str (dE s)] [] (fun r σ'=>r=.bool (uO s)∧σ'=[]):=by
 have hz:((dE s).toList==(⟨#[]⟩:ByteArray).toList)=decide (s=[]):=qM (m:=[]) hlt (by simp);refine cC 10 [0,2] Tryz.func225 ?_;refine bP ?_;by_cases hs:s=[]
 ·have hd:(!decide (s=[]))=false:=by rw[decide_eq_true hs];rfl
  refine eU ?_;refine lo (PX (E rfl) (E rfl)) rfl ?_;rw[hz,hd];refine lM ?_;refine ln rfl rfl rfl rfl ?_;refine ln rfl rfl rfl rfl ?_;refine kM ?_;exact aD aE ⟨by rw[aCl,hd];rfl,rfl⟩ aA
 ·have hd:(!decide (s=[]))=true:=by rw[decide_eq_false hs];rfl
  refine eU ?_;refine lo (PX (E rfl) (E rfl)) rfl ?_;rw[hz,hd];refine lM ?_;refine gy rfl rfl ?_;refine cvb hlt ?_ (by simp[maxLen];omega);refine gy rfl rfl ?_;refine lS Tryz.call288 (aIm aER s (fun _ _=>True.intro) 16) rfl aU bC ?_;refine kM ?_;exact aD aE ⟨by rw[aCl,hd];rfl,rfl⟩ aA
def kW (s:List Nat):Prop:=s.length≤100000∧∀c∈s,c<256
structure Md.W (m:Md):Prop where
 im:∀x∈m.im,kW x.mod∧kW x.nm
 ex:∀x∈m.ex,kW x.nm
 co:∀x∈m.co,x.bd.length≤100000
 il:m.im.length≤4294967296
 da:∀x∈m.da,∀c∈x.bs,c<256
theorem jQ(a b:Bool):(if a=true then b else false)=(a&&b):=by cases a<;>rfl
theorem aCm(k n:Int):SCall Tryz.prog 229 [.agg [.int .i64 k,.int .i64 n]] [] (fun r σ'=>r=.bool (mS k n)∧σ'=[]):=by
 refine cC 21 [0,1,2] Tryz.func229 ?_;refine dG ?_;refine iG fun r1 h1=> ?_;intros
 refine iX ?_;refine DH ?_;refine sL ?_;refine aBs ?_;refine aBt ?_;refine aBu ?_;refine aJ6 ?_;refine aD3 ?_;refine aBs ?_;refine aBt ?_;refine aBu ?_;refine aL4 ?_;refine aD3 ?_;refine nX ?_;refine cZ ?_;exact aD aE ⟨by unfold mS;cases h:(k==2)<;>cases h1:(k==1)<;>cases h2:decide (-2147483648≤n)<;>cases h3:decide (n≤2147483647)<;>rfl,rfl⟩ aA
theorem aKO:cB Tryz.prog 222 [] [] (fun x=>.agg (cP x)) (fun t=>cQ t.pr 32 AU&&cQ t.rs 1 AU) (fun _=>True):=by
 refine⟨Tryz.call222,fun t _=> ?_⟩;obtain⟨pr,rs⟩:=t;refine cC 11 [0,1,2] Tryz.func222 ?_;unfold cP;refine dG ?_;refine iG fun r1 h1=> ?_;intros
 refine iX ?_;refine lS Tryz.call108 (BA MV pr (fun _ _=>True.intro) 32) rfl aU bC ?_;refine nM ?_;refine lJ rfl rfl Tryz.call108 (fun _=>(BA MV rs (fun _ _=>True.intro) 1)) rfl aU bC ?_;refine kM ?_;exact aD aE ⟨by simp only[gC];rw[jQ],rfl⟩ aA
theorem aKP:cB Tryz.prog 224 [] [] (fun x=>.agg (eE x)) (fun x=>uO x.mod&&uO x.nm&&iB x.ty) (fun x=>kW x.mod∧kW x.nm):=by
 refine⟨Tryz.call224,fun t ht=> ?_⟩;obtain⟨md,nm,ty⟩:=t;obtain⟨⟨h1,h2⟩,h3,h4⟩:=ht;refine cC 16 [0,1,2] Tryz.func224 ?_;unfold eE;refine dG ?_;apply bx;rfl;rfl;exact wA;rfl;refine bI fun r1 h1=> ?_;repeat rcases h1 with⟨_,h1⟩
 refine iX ?_;refine lS Tryz.call225 (CS md h1 h2) rfl aU bC ?_;refine nM ?_;refine lJ rfl rfl Tryz.call225 (fun _=>(CS nm h3 h4)) rfl aU bC ?_;refine uX ?_;refine nM ?_;refine lJ rfl rfl Tryz.call226 (fun _=>(zI ty)) rfl aU bC ?_;refine kM ?_;exact aD aE ⟨by dsimp only;cases uO md<;>cases uO nm<;>rfl,rfl⟩ aA
theorem aKQ:cB Tryz.prog 228 [] [] (fun x=>.agg (eA x)) (fun g=>mS g.kd g.n) (fun _=>True):=by
 refine⟨Tryz.call228,fun t _=> ?_⟩;obtain⟨mu,k,n⟩:=t;refine cC 6 [0,1,2] Tryz.func228 ?_;unfold eA;refine dG ?_;refine iG fun r1 h1=> ?_;intros
 refine jC ?_;refine oI ?_;refine mP ?_;refine lS Tryz.call229 (aCm k n) rfl aU bC ?_;refine cZ ?_;exact aD aE ⟨by rfl,rfl⟩ aA
theorem aKR:cB Tryz.prog 231 [] [] (fun x=>.agg (dH x)) (fun x=>uO x.nm&&iB x.fn) (fun x=>kW x.nm):=by
 refine⟨Tryz.call231,fun t ht=> ?_⟩;obtain⟨nm,fn⟩:=t;obtain⟨h3,h4⟩:=ht;refine cC 11 [0,1,2] Tryz.func231 ?_;unfold dH;refine dG ?_;refine iG fun r1 h1=> ?_;intros
 refine iX ?_;refine lS Tryz.call225 (CS nm h3 h4) rfl aU bC ?_;refine nM ?_;refine lJ rfl rfl Tryz.call226 (fun _=>(zI fn)) rfl aU bC ?_;refine kM ?_;exact aD aE ⟨by simp only[gC];rw[jQ],rfl⟩ aA
theorem aKS:cB Tryz.prog 233 [] [] (fun x=>.agg (dX x)) (fun x=>kV x.off&&cQ x.fs 50 iB) (fun _=>True):=by
 refine⟨Tryz.call233,fun t _=> ?_⟩;obtain⟨o,fs⟩:=t;refine cC 11 [0,1,2] Tryz.func233 ?_;unfold dX;refine dG ?_;refine iG fun r1 h1=> ?_;intros
 refine iX ?_;refine lS Tryz.call234 (SB o) rfl aU bC ?_;refine nM ?_;refine lJ rfl rfl Tryz.call108 (fun _=>(BA SA fs (fun _ _=>True.intro) 50)) rfl aU bC ?_;refine kM ?_;exact aD aE ⟨by simp only[gC];rw[jQ],rfl⟩ aA
theorem aKT:cB Tryz.prog 236 [] [] (fun x=>.agg (eB x)) (fun x=>kV x.off&&decide (x.bs.length≤1000)) (fun _=>True):=by
 refine⟨Tryz.call236,fun t _=> ?_⟩;obtain⟨o,bs⟩:=t;refine cC 12 [0,1,2] Tryz.func236 ?_;unfold eB;refine dG ?_;refine iG fun r1 h1=> ?_;intros
 refine iX ?_;refine lS Tryz.call234 (SB o) rfl aU bC ?_;refine nM ?_;refine rK ?_;refine LO ?_;refine kM ?_;exact aD aE ⟨by dsimp only;rw[show decide (bs.length≤1000)=decide ((bs.length:Int)≤1000)from decide_eq_decide.2 (by omega)];cases h:kV o<;>simp[gC],rfl⟩ aA
theorem aID:cB Tryz.prog 111 [] [] (fun x=>.agg (iv .any x)) dB (fun _=>True):=⟨Tryz.call111,fun x _=>aAa .any x⟩
theorem aKU:cB Tryz.prog 107 [] [] (fun x=>.agg (dP x)) tR (fun x=>x.bd.length≤100000):=by
 refine⟨Tryz.call107,fun t hb=> ?_⟩;obtain⟨ls,bd⟩:=t;dsimp only at hb;refine cC 22 [0,1,2,4] Tryz.func107 ?_;unfold dP;refine dG ?_;refine iG fun r1 h1=> ?_;intros
 refine iX ?_;refine sE Tryz.call75 (qW bd hb) rfl bW kH ?_;rintro _ σ' ⟨q4,rfl,rfl⟩ h8
 replace h8:=cN h8;repeat rcases h8 with⟨_,h8⟩
 refine yG ?_;refine jK ?_;refine kL ?_;refine qR ?_;refine lJ rfl rfl Tryz.call108 (fun _=>(BA MV ls (fun _ _=>True.intro) 32)) rfl aU bC ?_;refine uX ?_;refine nM ?_;refine lJ rfl rfl Tryz.call110 (fun _=>(aEQ aID bd (fun _ _=>True.intro) 300)) rfl aU bC ?_;refine kM ?_;exact aD aE ⟨by unfold tR;dsimp only;cases xV (cW bd)<;>cases cQ ls 32 AU<;>rfl,rfl⟩ aA
theorem VO(m:Md)(hw:m.W):SCall Tryz.prog 112 [.agg (aS m)] [] (fun r σ'=>r=.bool (pE m)∧σ'=[]):=by
 obtain⟨h1,h2,h3,h4,hd5⟩:=hw;obtain⟨ty,im,fn,tb,me,gl,ex,el,co,da⟩:=m;dsimp only at h1 h2 h3 h4;have hE:∀(a b c d e f g:Bool),(if(if(if(if(if(if a=true then b else false)=true then c else false)=true then d else false)=true then e else false)=true then f else false)=true then g else false)=(a&&b&&c&&d&&e&&f&&g):=by
  intro a b c d e f g;cases a<;>cases b<;>cases c<;>cases d<;>cases e<;>cases f<;>rfl
 refine cC 54 [0,1,2,3,4,5,6,7,8,9] Tryz.func112 ?_;unfold aS;refine dG ?_;apply bx;rfl;rfl;exact wA;rfl;refine bI fun r1 h1=> ?_;repeat rcases h1 with⟨_,h1⟩
 refine iX ?_;refine lS Tryz.call221 (aIi aKO ty (fun _ _=>True.intro) 16) rfl aU bC ?_;refine iX ?_;refine lS Tryz.call223 (aIo aKP im h1 16) rfl aU bC ?_;refine iX ?_;refine nL ?_;refine sK ?_;refine lS Tryz.call108 (BA SA fn (fun _ _=>True.intro) _) rfl aU bC ?_;refine iX ?_;refine lS Tryz.call227 (aIr aKQ gl (fun _ _=>True.intro) 16) rfl aU bC ?_;refine iX ?_;refine lS Tryz.call230 (aIt aKR ex h2 16) rfl aU bC ?_;refine iX ?_;refine lS Tryz.call232 (aIv aKS el (fun _ _=>True.intro) 16) rfl aU bC ?_;refine iX ?_;refine lS Tryz.call235 (aIB aKT da (fun _ _=>True.intro) 16) rfl aU bC ?_;refine nR ?_;refine nW ?_;refine qT ?_;refine qT ?_;refine qT ?_;refine qT ?_;refine qT ?_;refine kM ?_;exact aD aE ⟨by simp only[gC];rw[hE];rfl,rfl⟩ aA
structure Md.WO (m:Md):Prop where
 w:m.W
 ok:m.Ok
theorem BB(m:Md)(h:m.WO):SCall Tryz.prog 51 [.agg (aS m)] [] (fun r σ'=>r=.bool (mT m)∧σ'=[]):=by
 have hM:=xK m;have hA:qZ m=((if((m.co.length:Int)==(m.fn.length:Int))=true then cQ m.co 16 tR else false)&&pE m&&lU m.tb 16 1000&&lU m.me 16 65536):=by
  unfold qZ;rw[jQ,show((m.co.length:Int)==(m.fn.length:Int))=(m.co.length==m.fn.length) by rw[Bool.eq_iff_iff];simp only[beq_iff_eq];omega]
 have hL:decide ((fI m).length≤8000)=decide (((fI m).length:Int)≤8000):=decide_eq_decide.2 (by omega);rw[hL]at hM;refine cC 37 [0,1,2,3] Tryz.func51 ?_;refine dG ?_;refine iG fun r1 h1=> ?_;intros
 refine cZ ?_;have hwr:=fun h'=>AZ m h' h.ok
 obtain⟨⟨h1,h2,h3,h4,hd5⟩,h5⟩:=h;obtain⟨ty,im,fn,tb,me,gl,ex,el,co,da⟩:=m;have hli:=VO ⟨ty,im,fn,tb,me,gl,ex,el,co,da⟩ ⟨h1,h2,h3,h4,hd5⟩;dsimp only at h1 h2 h3 h4 hA hM;refine jH ?_;refine nL ?_;refine nL ?_;refine DH ?_;refine lJ rfl rfl Tryz.call106 (fun _=>(aIy aKU co h3 16)) rfl aU bC ?_;refine kM ?_;by_cases hc:qZ ⟨ty,im,fn,tb,me,gl,ex,el,co,da⟩=true
 ·have hc2:=hc;rw[hA]at hc2;simp only[Bool.and_eq_true]at hc2;obtain⟨⟨⟨e1,e2⟩,e3⟩,e4⟩:=hc2;rw[e2]at hli;have hl1:=rO tb 16 1000;have hl2:=rO me 16 65536;rw[e3]at hl1;rw[e4]at hl2;have hE:mT ⟨ty,im,fn,tb,me,gl,ex,el,co,da⟩=decide (((fI ⟨ty,im,fn,tb,me,gl,ex,el,co,da⟩).length:Int)≤8000):=by rw[hM,hc];rfl
  rw[e1];refine kL ?_;refine aD4 ?_;refine gy rfl rfl ?_;refine lS Tryz.call112 hli rfl aU bC ?_;refine uX ?_;refine xS ?_;refine IK ?_;refine gy rfl rfl ?_;refine lS Tryz.call113 hl1 rfl aU bC ?_;refine uX ?_;refine xS ?_;refine IK ?_;refine gy rfl rfl ?_;refine lS Tryz.call113 hl2 rfl aU bC ?_;refine uX ?_;refine AI ?_;refine gy rfl rfl ?_;refine sE Tryz.call56 (hwr hc) rfl bW kH ?_;rintro _ σ' ⟨q33,rfl,rfl⟩ h33
  replace h33:=cN h33;repeat rcases h33 with⟨_,h33⟩
  apply aZ;exact bN;refine rK ?_;refine LO ?_;refine kM ?_;exact aD aE ⟨by rw[hE];rfl,rfl⟩ aA
 ·rw[Bool.not_eq_true]at hc;have hE:mT ⟨ty,im,fn,tb,me,gl,ex,el,co,da⟩=false:=by rw[hM,hc];rfl
  rw[hc]at hA;simp only[←jQ]at hA;refine kL ?_;refine aD4 ?_;refine lJ rfl rfl Tryz.call112 (fun _=>hli) rfl aU bC ?_;refine uX ?_;refine xS ?_;refine IK ?_;refine lJ rfl rfl Tryz.call113 (fun _=>(rO tb 16 1000)) rfl aU bC ?_;refine uX ?_;refine xS ?_;refine IK ?_;refine lJ rfl rfl Tryz.call113 (fun _=>(rO me 16 65536)) rfl aU bC ?_;refine uX ?_;rw[←hA];refine AI ?_;refine ln rfl rfl rfl rfl ?_;refine rK ?_;refine LO ?_;refine kM ?_;exact aD aE ⟨by rw[hE];rfl,rfl⟩ aA
def oT (m:Md):List Nat:=if mT m=true then fI m else []
theorem KI{m:Md}(h:mT m=true):qZ m=true∧(fI m).length≤8000:=by
 rw[xK]at h;simpa using h
theorem wQ(m:Md)(h:m.WO):SCall Tryz.prog 18 [.agg (aS m)] [] (fun y σ=>∃r,y=.own r 0 (oT m).length∧σ=[(r,.arr 5 1 ((oT m).map aH))]):=by
 have hm:=BB m h;have hw:=fun h'=>AZ m h' h.ok
 refine cC 8 [0,1,2,5] Tryz.func18 ?_;refine dG ?_;refine iG fun r1 h1=> ?_;intros
 refine cZ ?_;obtain⟨ty,im,fn,tb,me,gl,ex,el,co,da⟩:=m;refine jH ?_;refine mP ?_;refine lS Tryz.call51 hm rfl aU bC ?_;refine nZ ?_;refine aB rfl (fun g1=> ?_) (fun g1=> ?_)
 ·refine dG ?_;refine pI ?_;have hE:oT ⟨ty,im,fn,tb,me,gl,ex,el,co,da⟩=[]:=by unfold oT;rw[if_neg];intro e;rw[e]at g1;cases g1
  refine bX 2 5 1 (by decide) rfl (by decide) (bI fun q2 hq2=> ?_);repeat rcases hq2 with⟨_,hq2⟩
  refine aI ?_;exact aD aE ⟨q2,by rw[hE];rfl,by rw[hE]⟩ aA
 have hy:mT ⟨ty,im,fn,tb,me,gl,ex,el,co,da⟩=true:=by simpa using g1
 have hE:oT ⟨ty,im,fn,tb,me,gl,ex,el,co,da⟩=fI ⟨ty,im,fn,tb,me,gl,ex,el,co,da⟩:=by unfold oT;rw[if_pos hy]
 refine pM ?_;refine sE Tryz.call56 (hw (KI hy).1) rfl bW kH ?_;rintro _ σ' ⟨r7,rfl,rfl⟩ h7
 replace h7:=cN h7;repeat rcases h7 with⟨_,h7⟩
 refine eR ?_;exact aD aE ⟨r7,by rw[hE];rfl,by rw[hE]⟩ aA
theorem aIE(n:Nat)(hn:n<4294967296):IntKind.u64.wrap ↑(BitVec.ofInt IntKind.u64.bits (n:Int)&&&BitVec.ofInt IntKind.u64.bits 4294967295).toNat=n:=by
 have h1:(BitVec.ofInt IntKind.u64.bits (n:Int)).toNat=n:=by
  rw[BitVec.toNat_ofInt];simp[IntKind.bits];omega
 have h2:(BitVec.ofInt IntKind.u64.bits 4294967295).toNat=2^32-1:=by decide
 rw[BitVec.toNat_and,h1,h2,Nat.and_two_pow_sub_one_eq_mod,Nat.mod_eq_of_lt (by omega),IntKind.wrap_u64];omega
theorem aKV(n:Nat)(hn:n<4294967296):((n:Int)).fdiv (2^min (Int.toNat 32) IntKind.u64.bits)=0:=by
 have:(2:Int)^min (Int.toNat 32) IntKind.u64.bits=4294967296:=by decide
 rw[this,Int.fdiv_eq_ediv_of_nonneg _ (by omega)];omega
theorem aCn(n:Nat)(hn:n<18446744073709551616):IntKind.u64.wrap (n:Int)=n:=by rw[IntKind.wrap_u64];omega
theorem KJ(n:Nat)(hn:n<4294967296):SCall Tryz.prog 306 [.int .u64 1,.int .u64 n] [] (fun x σ=>x=.tup [.int .u64 0,.int .u64 n]∧σ=[]):=by
 refine cC 51 [0,1,4,5,6,7,8,9,10,11,12,13] Tryz.func306 ?_;refine dG ?_;refine mK ?_;refine lo (gM (E rfl) (E rfl)) rfl ?_;refine iF ?_;refine z2 ?_;refine iF ?_;refine lo (gM (E rfl) (E rfl)) rfl ?_;refine iF ?_;refine z2 ?_;refine nR ?_;refine lo (zT (E rfl) (E rfl)) rfl ?_;refine nR ?_;refine lo (zT (E rfl) (E rfl)) rfl ?_;refine lo (aF (E rfl)) rfl ?_;refine z2 ?_;refine lo (rM (E rfl) (E rfl)) rfl ?_;refine iF ?_;refine lo (gM (E rfl) (E rfl)) rfl ?_;refine iF ?_;refine z2 ?_;refine cZ ?_;refine yD ?_;refine lo (zT (E rfl) (E rfl)) rfl ?_;refine lo (rM (E rfl) (E rfl)) rfl ?_;refine nR ?_;refine lo (zT (E rfl) (E rfl)) rfl ?_;refine lo (aF (E rfl)) rfl ?_;refine lo (rM (E rfl) (E rfl)) rfl ?_;refine lo (aF (E rfl)) rfl ?_;refine z2 ?_;refine lo (rM (E rfl) (E rfl)) rfl ?_;refine nR ?_;refine lo (zT (E rfl) (E rfl)) rfl ?_;refine cZ ?_;have e0:=aIE n hn;have e1:IntKind.u64.wrap ↑(BitVec.ofInt IntKind.u64.bits 1&&&BitVec.ofInt IntKind.u64.bits 4294967295).toNat=1:=aIE 1 (by decide);have e2:=aKV n hn;have e3:Int.fdiv 1 (2^min (Int.toNat 32) IntKind.u64.bits)=0:=aKV 1 (by decide);have e4:=aCn n (by omega);have e5:IntKind.u64.wrap 0=0:=by decide
 have e6:Int.fdiv 0 (2^min (Int.toNat 32) IntKind.u64.bits)=0:=by decide
 have e7:IntKind.u64.wrap ↑(BitVec.ofInt IntKind.u64.bits 0&&&BitVec.ofInt IntKind.u64.bits 4294967295).toNat=0:=aIE 0 (by decide);apply aD;exact aE;refine⟨?_,rfl⟩;simp only[gC,e0,e1,e2,e3,e4,e5,e6,e7,Int.zero_mul,Int.mul_zero,Int.one_mul,Int.add_zero,Int.zero_add];exact aA
theorem YD(n:Nat)(hn:n<4294967296):SCall Tryz.prog 278 [.int .u64 1,.int .u64 n] [] (fun x σ=>x=.tup [.int .u64 0,.int .u64 n]∧σ=[]):=by
 refine cC 30 [0,1,4,5,6,7,8,9] Tryz.func278 ?_;refine dG ?_;refine jK ?_;refine kL ?_
 (first|refine pu [] Tryz.call306 (KJ n hn) rfl cK bC ?_ |refine AB [] rfl rfl Tryz.call306 (fun _=>(KJ n hn)) rfl cK bC ?_);refine vA ?_;refine jK ?_;refine kL ?_;refine jK ?_;apply aD;exact aE;exact⟨rfl,rfl⟩;exact aA
theorem aCo{α:Type}(a z:α)(n k:Nat)(hk:k≤n):List.replicate (k+min k (n-k)) a++List.replicate (n-(k+min k (n-k))) z=
  List.take (0+k) (List.replicate k a++List.replicate (n-k) z)++List.take (min k (n-k)) (List.take (k-0) (List.drop (0+0) (List.replicate k a++List.replicate (n-k) z)))++List.drop (0+k+min k (n-k)) (List.replicate k a++List.replicate (n-k) z):=by
 generalize hm:min k (n-k)=m;have h1:m≤k:=by omega
 have h2:k+m≤n:=by omega
 have t1:List.take k (List.replicate k a++List.replicate (n-k) z)=List.replicate k a:=by rw[List.take_append_of_le_length (by simp)];simp
 have t2:List.drop (k+m) (List.replicate k a++List.replicate (n-k) z)=List.replicate (n-(k+m)) z:=by
  rw[List.drop_append,List.drop_of_length_le (by simp),List.nil_append,List.length_replicate,List.drop_replicate]
  congr 1
  omega
 rw[Nat.zero_add,Nat.sub_zero,Nat.add_zero,List.drop_zero,t1,t2,List.take_replicate,Nat.min_eq_left h1,List.replicate_append_replicate]
theorem GI{v:AV}(hv:v.cell=true)(n:Nat)(hn:n≤100000):SCall Tryz.prog 207 [.ro 1 [[v]] .any,.int .i64 n] [] (fun x σ=>∃r,x=.own r 0 n∧σ=[(r,.arr 3 1 (List.replicate n [v]))]):=by
 refine cC 48 [0,1,4,5,6,7,8,10,26,37] Tryz.func207 ?_;refine gX ?_;refine oP ?_;refine eU ?_;refine pH ?_;refine UP ?_;refine lo (aF (E rfl)) rfl ?_;refine UP ?_
 (first|refine pu [] Tryz.call278 (YD n (by omega)) rfl cK bC ?_ |refine AB [] rfl rfl Tryz.call278 (fun _=>(YD n (by omega))) rfl cK bC ?_);refine vA ?_;refine mK ?_;refine lo (jM (E rfl) (E rfl)) rfl ?_;refine yE ?_;refine z18 ?_;refine z13 ?_;refine jI ?_;refine aB rfl (fun h=> ?_) (fun _=> ?_)
 ·simp at h;omega
 refine dO ?_;refine z44 ?_;apply mk;rfl;rfl;rfl;rfl;omega;(simp[maxLen];omega);exact wA;rfl;refine kE fun r30 h30=> ?_;intros
 refine nR ?_;apply cp (m:=min 1 n) (es':=List.replicate (min 1 n) [v]++List.replicate (n-min 1 n) [.int .i64 0]);rfl;exact cJ;simp;exact .inl ⟨_,rfl⟩;rfl
 ·rcases n with _ |n<;>simp[List.replicate_succ]
 ·rfl
 refine cZ ?_;refine lp (β:=Nat×Nat) (fun b=>⟨[(7,.own b.1 0 n),(8,.int .i64 b.2)],[(b.1,.arr 3 1 (List.replicate b.2 [v]++List.replicate (n-b.2) [.int .i64 0]))]⟩) (fun b=>b.2≤n∧(0<n→0<b.2)) (fun b=>n-b.2) (r30,min 1 n) ?_ ⟨by show min 1 n≤n;omega,fun h=>by show 0<min 1 n;omega⟩ ?_
 ·exact aJ
 rintro⟨r,k⟩ ⟨hk,hk0⟩;simp only at hk hk0⊢;refine oR ?_;refine oP ?_;refine aB rfl (fun h1=> ?_) (fun h1=> ?_)
 ·simp at h1;refine aI ?_;refine fK [(0,true),(1,true),(2,true),(3,true),(4,true),(5,true),(6,true),(7,false),(8,true),(9,true)] ?_;refine CG ?_;refine fY rfl (aF (E rfl)) rfl ?_;refine z84 ?_;refine CG ?_;refine UD ?_;apply dcp (m:=min k (n-k)) (es':=List.replicate (k+min k (n-k)) [v]++List.replicate (n-(k+min k (n-k))) [.int .i64 0]);rfl;infer_instance;infer_instance;rfl;exact cJ
  ·first|(simp;done)|(simp;omega)
  ·exact .inr (.inr ⟨_,_,_,_,_,rfl,aO,by simp,rfl⟩)
  ·first|(simp;done)|(simp;omega)
  ·exact aCo _ _ _ _ hk
  ·rfl
  ·exact fS
  refine aJ9 ?_;refine yV ?_;refine⟨(r,k+min k (n-k)),⟨by show k+min k (n-k)≤n;omega,fun h=>by show 0<k+min k (n-k);omega⟩,by show n-(k+min k (n-k))<n-k;omega, ?_⟩;exact aJ
 ·obtain rfl:k=n:=by simp at h1;omega
  refine fF ?_;exact aD aE ⟨r,by rfl,rfl⟩ aA
theorem GJ{es:List (List AV)}(hn:es.length≤1000000):SCall Tryz.prog 267 [.ro 1 es .any] [] (fun x σ=>∃r,x=.own r 0 es.length∧σ=[(r,.arr 5 1 es)]):=by
 refine cC 8 [0,2,4] Tryz.func267 ?_;refine gX ?_;refine ne rfl rfl rfl fun b hb _=> ?_
 refine kU ?_;cases b
 ·refine dG ?_;refine eS fun r5 h5=> ?_;intros
  refine lo (aF (E rfl)) rfl ?_;apply ap;rfl;rfl;exact aO;rfl;exact .inl ⟨_,rfl⟩;exact List.nil_append _;exact(Nat.zero_add _).symm;(simp[maxLen];omega);omega;rfl;refine bL fun r7 h7=> ?_;intros
  refine cZ ?_;exact aD aE ⟨_,by rfl,rfl⟩ aA
 ·obtain rfl:=hb rfl;refine dG ?_;refine pI ?_;refine bX (ks:=[0,2,4]) 2 5 1 (by decide) rfl (by decide) fun r hr=> ?_
  refine aI ?_;exact aD aE ⟨_,by rfl,rfl⟩ aA
def SOk (s:St):Prop:=s.1.length≤100000∧∀x∈s.1,x<256
theorem SOk.drop {s:St}(h:SOk s)(n:Nat)(b:Bool):SOk (s.1.drop n,b):=⟨by simp;have:=h.1;omega,fun x hx=>h.2 x (List.mem_of_mem_drop hx)⟩
theorem SOk.bad {s:St}(h:SOk s)(b:Bool):SOk (s.1,b):=h
def Kp {α:Type} (get:St→α×St):Prop:=∀s,SOk s→SOk (get s).2
theorem KK{s:St}(h:SOk s)(n:Int)(ok:Bool):SOk (vP s n ok):=by
 unfold vP;dsimp only;split
 ·exact h.bad _
 ·exact h.drop _ _
theorem iO:Kp gI:=fun s h=>KK h _ _
theorem nI:Kp lE:=fun s h=>by
 unfold lE;split
 ·exact h.bad _
 ·exact h.drop _ _
theorem DO:Kp AW:=fun s h=>KK (iO s h) _ _
theorem aG5{α:Type}{get:St→α×St}(hg:Kp get):∀n s,SOk s→SOk (kC get n s).2
 |0,s,h=>h
 |n+1,s,h=>by
  rw[kC];split
  ·exact h
  ·exact aG5 hg n _ (hg s h)
theorem sX{α:Type}{get:St→α×St}(hg:Kp get):Kp (fP get):=fun s h=>aG5 hg _ _ (iO s h)
theorem yK:Kp wP:=fun s h=>by
 have:=nI s h;unfold wP;dsimp only;split
 ·exact this
 ·split
  ·exact this
  ·exact this.bad _
theorem aG6:Kp PT:=fun s h=>by unfold PT;exact nI _ (KK h _ _)
theorem SC:Kp PU:=fun s h=>by unfold PU;exact aG6 _ (nI s h)
theorem aG7:Kp XZ:=fun s h=>by
 have h1:=iO _ (nI s h);unfold XZ;dsimp only;split
 ·exact iO _ h1
 ·exact h1
theorem aG8:∀n s l,SOk s→SOk (VM n s l).2
 |0,s,l,h=>h
 |n+1,s,l,h=>by
  rw[VM];split
  ·exact h
  ·dsimp only;split
   ·exact(yK _ (iO s h)).bad _
   ·exact aG8 n _ _ (yK _ (iO s h))
theorem aCp:Kp zF:=fun s h=>aG8 _ _ _ (iO s h)
theorem aCq:Kp MP:=fun s h=>by
 have h1:=aCp _ (iO s h);unfold MP;dsimp only;split
 ·exact h1
 ·exact KK h1 _ _
theorem aG9:Kp tyN:=fun s h=>sX yK _ (sX yK _ (nI s h))
theorem aCr:Kp inN:=fun s h=>iO s h
theorem aCs:Kp imN:=fun s h=>iO _ (nI _ (DO _ (DO s h)))
theorem aCt:Kp glN:=fun s h=>aG6 _ (nI _ (yK s h))
theorem aCu:Kp exN:=fun s h=>iO _ (nI _ (DO s h))
theorem aHa(b:Bool):Kp (tbN b):=fun s h=>by
 unfold tbN;cases b
 ·exact aG7 _ h
 ·exact aG7 _ (nI s h)
theorem aHb(b:Bool):Kp (RO b):=fun s h=>sX (aHa b) s h
theorem aHc:Kp eeN:=fun s h=>sX aCr _ (SC s h)
theorem aCv:Kp ddN:=fun s h=>DO _ (SC s h)
def dJ (s:St):List AV:=[.ro 1 (s.1.map aH) .any,.bool s.2]
theorem BC(r:Nat)(s:St)(hs:SOk s)(n:Nat)(ok:Bool):SCall Tryz.prog 66 [.ptr r 0,.int .i64 n,.bool ok] [(r,.box 117 (dJ s))]
  (fun x σ=>x=.tup []∧σ=[(r,.box 117 (dJ (vP s n ok)))]):=by
 obtain⟨l,bad⟩:=s;obtain⟨hl,hlt⟩:=hs;dsimp only at hl hlt;have hB:(if(if bad=true then true else !ok)=true then true else decide ((l.length:Int)<n))=(bad|| !ok||decide ((l.length:Int)<n)):=by cases bad<;>cases ok<;>rfl
 refine cC 40 [0,1,2,30] Tryz.func66 ?_;unfold dJ;dsimp only;refine dF ?_;refine nN ?_;refine lM ?_;refine uY ?_;refine nX ?_;refine lM ?_;refine nW ?_;refine XD ?_;refine rK ?_;refine aL5 ?_;refine nX ?_;refine z76 ?_;rw[hB];refine oI ?_;refine jJ ?_;generalize hb:(bad|| !ok||decide ((l.length:Int)<n))=B;refine eU ?_;refine nN ?_;refine nZ ?_;refine aB rfl (fun g1=> ?_) (fun g1=> ?_)
 ·obtain rfl:B=false:=by simpa using g1
  have hn:n≤l.length:=by simp at hb;omega
  have hE:vP (l,bad) n ok=(l.drop n,false):=by unfold vP;dsimp only;rw[hb];rfl
  refine dF ?_;refine JT ?_;refine aHx ?_;refine AF ?_;rw[RH];refine jJ ?_;refine bY ?_;exact aD aE ⟨by rfl,by rw[hE]⟩ aA
 obtain rfl:B=true:=by simpa using g1
 have hE:vP (l,bad) n ok=(l,true):=by unfold vP;dsimp only;rw[hb];rfl
 refine aI ?_;refine bY ?_;exact aD aE ⟨by rfl,by rw[hE]⟩ aA
theorem jR(r:Nat)(s:St)(hs:SOk s):SCall Tryz.prog 68 [.ptr r 0] [(r,.box 117 (dJ s))]
  (fun x σ=>x=.int .i64 ((gI s).1:Nat)∧σ=[(r,.box 117 (dJ (gI s).2))]):=by
 have hgb:=AL s.1;have hsk:=fun n ok=>BC r s hs n ok
 obtain⟨l,bad⟩:=s;obtain⟨hl,hlt⟩:=hs;dsimp only at hl hlt hgb;refine cC 26 [0,2,3,4,5,23] Tryz.func68 ?_;unfold dJ;dsimp only;refine gX ?_;refine nN ?_;refine lS Tryz.call166 (aGF l (by omega) hlt) rfl aU bC ?_;refine vA ?_;refine lo (gT (E rfl) rfl) rfl ?_;refine oQ ?_;refine yD ?_;refine lo (cI (E rfl) (E rfl)) rfl ?_;refine cw [(r,.box 117 (dJ (l,bad)))] Tryz.call66 (hsk (lR l).2.1 ((lR l).2.2==0)) rfl aC aA ?_;rintro _ σ' ⟨rfl,rfl⟩ h19;refine fN ?_;have hN:gI (l,bad)=(if(vP (l,bad) (lR l).2.1 ((lR l).2.2==0)).2 then 0 else(lR l).1,vP (l,bad) (lR l).2.1 ((lR l).2.2==0)):=rfl;generalize vP (l,bad) (lR l).2.1 ((lR l).2.2==0)=s2 at hN⊢;obtain⟨l2,b2⟩:=s2;unfold dJ;dsimp only at hN⊢;refine eU ?_;refine nN ?_;refine jI ?_;refine aB rfl (fun g3=> ?_) (fun g3=> ?_)
 ·have hE:gI (l,bad)=(0,(l2,true)):=by rw[hN,g3];rfl
  rw[g3];refine bP ?_;exact aD aE ⟨by rw[hE];rfl,by rw[hE]⟩ aA
 have hE:gI (l,bad)=((lR l).1,(l2,false)):=by rw[hN,g3];rfl
 rw[g3];refine dO ?_;refine z44 ?_;refine cZ ?_;exact aD aE ⟨by rw[hE];rfl,by rw[hE]⟩ aA
theorem oL(r:Nat)(s:St)(hs:SOk s):SCall Tryz.prog 67 [.ptr r 0] [(r,.box 117 (dJ s))]
  (fun x σ=>x=.int .u8 ((lE s).1:Nat)∧σ=[(r,.box 117 (dJ (lE s).2))]):=by
 obtain⟨l,bad⟩:=s;obtain⟨hl,hlt⟩:=hs;dsimp only at hl hlt;refine cC 34 [0,2,3,15] Tryz.func67 ?_;unfold dJ;dsimp only;refine gX ?_;refine nN ?_;refine lM ?_;refine XD ?_;refine rK ?_;refine sL ?_;refine lP ?_;refine aB rfl (fun g1=> ?_) (fun g1=> ?_)
 ·have hE:lE (l,bad)=(0,(l,true)):=by unfold lE;rw[if_pos];cases bad;(cases l with|nil=>rfl|cons x t=>simp at g1;omega);rfl
  refine uJ ?_;refine nY ?_;refine bP ?_;exact aD aE ⟨by rw[hE];rfl,by rw[hE]⟩ aA
 obtain⟨c,t,rfl⟩:∃c t,l=c::t:=by cases l with|nil=>(cases bad<;>simp at g1)|cons c t=>exact⟨c,t,rfl⟩
 obtain rfl:bad=false:=by cases bad with|false=>rfl|true=>simp at g1
 have hE:lE (c::t,false)=(c,(t,false)):=rfl;have hpos:0<(c::t).length:=Nat.succ_pos _;have hx:(c::t)[(0:Int).toNat]? =some c:=rfl;refine dO ?_;refine nN ?_;refine mJ ?_;refine nR ?_;refine nN ?_;refine aHx ?_;refine AF ?_;rw[show List.take (((c::t).map aH).length-1) (List.drop 1 ((c::t).map aH))=t.map aH by rw[List.map_cons,List.drop_one,List.tail_cons];exact List.take_of_length_le (by simp)];refine nB ?_;refine cZ ?_;exact aD aE ⟨by rw[hE];rfl,by rw[hE]⟩ aA
theorem aCw(r:Nat)(s:St)(hs:SOk s):SCall Tryz.prog 184 [.ptr r 0] [(r,.box 117 (dJ s))]
  (fun x σ=>∃q,Nq q r∧x=.own q 0 (AW s).1.length∧σ=[(q,.arr 5 1 ((AW s).1.map aH)),(r,.box 117 (dJ (AW s).2))]):=by
 have h1:=jR r s hs;have k1:=iO s hs;have hR:AW s=(if(vP (gI s).2 (gI s).1 true).2 then []else(gI s).2.1.take (gI s).1,vP (gI s).2 (gI s).1 true):=rfl;generalize gI s=p at h1 k1 hR;obtain⟨n,s1⟩:=p;dsimp only at h1 k1 hR;have h2:=BC r s1 k1 n true;have hk:(vP s1 n true).2=false→n≤s1.1.length:=fun h=>by unfold vP at h;dsimp only at h;simp at h;omega
 generalize vP s1 n true=s2 at h2 hR hk;obtain⟨l1,b1⟩:=s1;obtain⟨l2,b2⟩:=s2;have hl1:l1.length≤100000:=k1.1;dsimp only at hR hk;rw[hR];refine cC 22 [0,2,3,4,17] Tryz.func184 ?_;refine gX ?_;refine cw [(r,.box 117 (dJ s))] Tryz.call68 h1 rfl aC aA ?_;rintro _ σ' ⟨rfl,rfl⟩ h6;refine eR ?_;unfold dJ;dsimp only;refine eU ?_;refine nN ?_;refine nR ?_;refine cw [(r,.box 117 (dJ (l1,b1)))] Tryz.call66 h2 rfl aC aA ?_;rintro _ σ' ⟨rfl,rfl⟩ h13;refine fN ?_;unfold dJ;dsimp only;refine eU ?_;refine nN ?_;refine jI ?_;refine aB rfl (fun g4=> ?_) (fun g4=> ?_)
 ·have hE:(if b2=true then []else l1.take n)=[]:=if_pos g4;rw[hE,g4];refine dG ?_;refine pI ?_;refine bX 2 5 1 (by decide) rfl (by decide) (bI fun q hq=> ?_);repeat rcases hq with⟨_,hq⟩
  refine aI ?_;exact aD aE ⟨q,by(exact bA),by rfl,rfl⟩ aA
 have hE:(if b2=true then []else l1.take n)=l1.take n:=if_neg (by rw[g4];simp);have hn:=hk g4;rw[hE,g4];refine dF ?_;refine aD1 ?_;rw[show List.take (n-0) (List.drop 0 (l1.map aH))=(l1.take n).map aH by rw[List.drop_zero,Nat.sub_zero,List.map_take]];refine sE Tryz.call267 (GJ (es:=(l1.take n).map aH) (by simp;omega)) rfl bW kH ?_;rintro _ σ' ⟨q,rfl,rfl⟩ h21
 replace h21:=cN h21;repeat rcases h21 with⟨_,h21⟩
 refine eR ?_;rw[List.length_map];exact aD aE ⟨q,by(exact bA),by rfl,rfl⟩ aA
end Go.Proofs.YtjpdadobblffmaaGreat
