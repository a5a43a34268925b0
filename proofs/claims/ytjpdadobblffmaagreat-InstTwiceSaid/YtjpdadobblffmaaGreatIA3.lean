import Derived.Test.YtjpdadobblffmaaGreatIA2
import Derived.Test.YtjpdadobblffmaaGreatIA1
import Derived.ChangeOld
import Derived.Lib.AppendStr
import Derived.Lib.ConvBytes
set_option linter.unusedSimpArgs false
set_option linter.unusedVariables false
set_option maxRecDepth 100000
set_option maxHeartbeats 4000000
namespace Go.Proofs.YtjpdadobblffmaaGreat
open Go.RowKit Go.ChangeShapes Go.WideShapes Go.ChangeAt Go.Deep
attribute [local irreducible] SW RS RD eM dR
def rv (l:List Nat) (n:Nat) (e:Int):List AV:=[.ro 1 (l.map aH) .any,.int .i64 n,.int .i64 e]
def mD (l:List Nat) (n:Nat) (e:Int):Nat×Nat×Int:=
 if(e !=0)=true then(0,n,e)else if((n:Int)==(l.length:Int))=true then(0,n,2)else(l[n]!,n+1,e)
def fD (l:List Nat) (lim:Int) (n:Nat) (e:Int):Nat×Nat×Int:=
 if(e !=0)=true then(0,n,e)else if((jH (l.drop n)).2.2 !=0)=true then(0,n,(jH (l.drop n)).2.2)else if decide (lim<((jH (l.drop n)).1:Int))=true then(0,n,1)else((jH (l.drop n)).1,n+(jH (l.drop n)).2.1,(jH (l.drop n)).2.2)
def wR (l:List Nat) (bits:Nat) (n:Nat):Int×Nat×Int:=((sJ bits (l.drop n)).1,n+(sJ bits (l.drop n)).2.1,(sJ bits (l.drop n)).2.2)
theorem zK(r:Nat)(l:List Nat)(hl:l.length≤1000000)(hlt:∀x∈l,x<256)(n:Nat)(hn:n≤l.length)(e:Int):SCall Tryz.prog 314 [.ptr r 0] [(r,.box 346 (rv l n e))]
  (fun x σ=>x=.int .i64 ((mD l n e).1:Nat)∧σ=[(r,.box 346 (rv l (mD l n e).2.1 (mD l n e).2.2))]):=by
 refine bO 42 [0,2,3,9] Tryz.func314 ?_;unfold rv;refine kM ?_;refine iJ ?_;refine lo (eA (E rfl) (E rfl)) rfl ?_;refine cI ?_;refine aC rfl (fun g1=> ?_) (fun g1=> ?_)
 ·refine bV ?_;apply aE;exact aF
  ·(unfold mD;simp only[g1,if_true,if_false,Bool.false_eq_true];exact⟨rfl,rfl⟩)
  ·exact aA
 refine aJ ?_;refine hU [(0,true),(1,true),(2,true),(3,true),(4,true),(5,true),(6,true),(7,true),(8,true),(9,true),(10,true)] ?_;refine kK ?_;refine kK ?_;refine JM ?_;refine z79 ?_;refine BO ?_;refine aC rfl (fun g2=> ?_) (fun g2=> ?_)
 ·refine mX ?_;refine kY ?_;refine bV ?_;apply aE;exact aF
  ·(unfold mD;simp only[g1,g2,if_true,if_false,Bool.false_eq_true];exact⟨rfl,rfl⟩)
  ·exact aA
 refine bH ?_;refine iJ ?_;refine DL ?_;refine qZ ?_;have hlt2:n<l.length:=by simp at g2;omega
 refine hU [(0,true),(1,true),(2,true),(3,true),(4,true),(5,true),(6,true),(7,true),(8,true),(9,true),(10,true),(11,true),(12,true)] ?_;refine kK ?_;refine kK ?_;refine ZL ?_;rw[show(n:Int)+1-1=(n:Nat) by omega];refine NV ?_;refine UW ?_;rw[Int.toNat_natCast];have hb8:=uH hlt n;refine z83 ?_;refine BO ?_;apply aE;exact aF
 ·(unfold mD;simp only[g1,g2,if_true,if_false,Bool.false_eq_true];exact⟨rfl,rfl⟩)
 ·exact aA
def FP (l:List Nat) (n:Nat) (e:Int):Nat×Int:=if(((mD l n e).1:Int) !=0)=true then((mD l n e).2.1,1)else(mD l n e).2
theorem KW(r:Nat)(l:List Nat)(hl:l.length≤1000000)(hlt:∀x∈l,x<256)(n:Nat)(hn:n≤l.length)(e:Int):SCall Tryz.prog 317 [.ptr r 0] [(r,.box 346 (rv l n e))]
  (fun x σ=>x=.tup []∧σ=[(r,.box 346 (rv l (FP l n e).1 (FP l n e).2))]):=by
 refine bO 8 [0,4] Tryz.func317 ?_;unfold rv;refine bH ?_;refine cw [(r,.box 346 (rv l n e))] Tryz.call314 (zK r l hl hlt n hn e) rfl ?_ ?_ ?_
 ·exact aB
 ·exact aA
 rintro _ σ' ⟨rfl,rfl⟩-;apply bE;exact bX;refine qF ?_;unfold rv;refine aC rfl (fun g1=> ?_) (fun g1=> ?_)
 ·refine bH ?_;refine qZ ?_;refine cK ?_;apply aE;exact aF
  ·unfold FP;rw[if_pos g1];exact⟨rfl,rfl⟩
  ·exact aA
 ·refine aJ ?_;refine cK ?_;apply aE;exact aF
  ·unfold FP;rw[if_neg (by rw[g1];simp)];exact⟨rfl,rfl⟩
  ·exact aA
theorem DW{l:List Nat}{n:Nat}:List.take ((l.map aH).length-n) (List.drop n (l.map aH))=(l.drop n).map aH:=by
 rw[List.map_drop,List.take_of_length_le (by simp)]
theorem FQ{e:Int}{b:Bool}(h:(if(e==0)=true then b else false)=true):e=0∧b=true:=by
 split at h
 ·next h1=>exact⟨by simpa using h1,h⟩
 ·cases h
theorem rH{e:Int}{b:Bool}(h:(if(e==0)=true then b else false)=false)(h0:(e !=0)=false):e=0∧b=false:=by
 have h1:e=0:=by simpa using h0
 subst h1;exact⟨rfl,h⟩
theorem gU(r:Nat)(l:List Nat)(hl:l.length≤1000000)(hlt:∀x∈l,x<256)(lim:Int)(n:Nat)(hn:n≤l.length)(e:Int):SCall Tryz.prog 316 [.ptr r 0,.int .i64 lim] [(r,.box 346 (rv l n e))]
  (fun x σ=>x=.int .i64 ((fD l lim n e).1:Nat)∧σ=[(r,.box 346 (rv l (fD l lim n e).2.1 (fD l lim n e).2.2))]):=by
 have hbd:=uF (l.drop n);obtain⟨hb1,hb2,hb3⟩:=hbd;rw[List.length_drop]at hb2;refine bO 51 [0,1,4,5,6,7,12,34,40] Tryz.func316 ?_;unfold rv;refine kM ?_;refine pU ?_;refine aC rfl (fun g1=> ?_) (fun g1=> ?_)
 ·refine bV ?_;apply aE;exact aF
  ·(unfold fD;simp only[g1,if_true,if_false,Bool.false_eq_true];first|exact⟨rfl,rfl⟩|(have hd:=rH g2 g3;simp only[hd.2,Bool.false_eq_true,if_false];exact⟨rfl,rfl⟩))
  ·exact aA
 refine aJ ?_;refine hU [(0,true),(1,true),(2,true),(3,true),(4,true),(5,true),(6,true),(7,true),(8,true),(9,false),(10,true),(11,true),(12,true),(13,true),(14,true),(15,true),(16,true)] ?_;refine kK ?_;refine kK ?_;refine z84 ?_;rw[DW];refine dpu [] rfl Tryz.call166 (aB8 (l.drop n) (by rw[List.length_drop];omega) (fun x hx=>hlt x (List.mem_of_mem_drop hx))) rfl bM aW ?_;refine fO rfl (aD (E rfl)) rfl ?_;refine z85 ?_;refine z85 ?_;refine z85 ?_;refine fO rfl (aV (E rfl)) rfl ?_;refine aC9 ?_;refine bH ?_;refine lo (bY (E rfl) (E rfl)) rfl ?_;refine mU ?_;refine z80 ?_;refine z4 ?_;refine z81 ?_;refine z7 ?_;refine gQ ?_;refine aC rfl (fun g2=> ?_) (fun g2=> ?_)
 ·refine jF ?_;refine nH ?_;refine lM ?_;refine lo (eA (E rfl) (E rfl)) rfl ?_;refine iI ?_;refine bV ?_;apply aE;exact aF
  ·unfold fD;have hd:=FQ g2;simp only[g1,hd.1,hd.2,bne_self_eq_false,Bool.false_eq_true,if_true,if_false];exact⟨rfl,rfl⟩
  ·exact aA
 refine dB ?_;refine nH ?_;refine lM ?_;refine qF ?_;refine aC rfl (fun g3=> ?_) (fun g3=> ?_)
 ·refine bV ?_;apply aE;exact aF
  ·(unfold fD;simp only[g1,g2,g3,if_true,if_false,Bool.false_eq_true];first|exact⟨rfl,rfl⟩|(have hd:=rH g2 g3;simp only[hd.2,Bool.false_eq_true,if_false];exact⟨rfl,rfl⟩))
  ·exact aA
 refine bH ?_;refine wP ?_;refine DL ?_;refine nH ?_;refine lM ?_;refine z44 ?_;refine cI ?_;apply aE;exact aF
 ·(unfold fD;simp only[g1,g2,g3,if_true,if_false,Bool.false_eq_true];first|exact⟨rfl,rfl⟩|(have hd:=rH g2 g3;simp only[hd.2,Bool.false_eq_true,if_false];exact⟨rfl,rfl⟩))
 ·exact aA
theorem zL(r:Nat)(l:List Nat)(hl:l.length≤1000000)(hlt:∀x∈l,x<256)(bits:Nat)(hb:bits=32∨bits=64)(n:Nat)(hn:n≤l.length)(e:Int):SCall Tryz.prog 318 [.ptr r 0,.int .i64 bits] [(r,.box 346 (rv l n e))]
  (fun x σ=>x=.int .i64 (wR l bits n).1∧σ=[(r,.box 346 (rv l (wR l bits n).2.1 (wR l bits n).2.2))]):=by
 have hbd:=QD bits (l.drop n);rw[List.length_drop]at hbd;refine bO 37 [0,1,4,5,6,7] Tryz.func318 ?_;unfold rv wR;refine bV ?_;refine hU [(0,true),(1,true),(2,true),(3,true),(4,true),(5,true),(6,true),(7,true),(8,true),(9,true),(10,false),(11,true),(12,true),(13,true),(14,true),(15,true),(16,true),(17,true)] ?_;refine kK ?_;refine kK ?_;refine z84 ?_;refine fO rfl (aD (E rfl)) rfl ?_;rw[DW];refine dpu [] rfl Tryz.call322 (aFG (l.drop n) (by rw[List.length_drop];omega) (fun x hx=>hlt x (List.mem_of_mem_drop hx)) bits hb) rfl bM aW ?_;refine fO rfl (aD (E rfl)) rfl ?_;refine z85 ?_;refine z85 ?_;refine z85 ?_;refine fO rfl (aV (E rfl)) rfl ?_;refine aC9 ?_;refine dB ?_;refine lo (aD (E rfl)) rfl ?_;refine wP ?_;refine DL ?_;refine lo (aD (E rfl)) rfl ?_;refine nH ?_;apply zB;rfl;rfl;rfl;rfl;exact iC;refine nH ?_;refine lM ?_;refine cI ?_;exact aE aF ⟨by rfl,rfl⟩ aA
def OG (l:List Int) (y:Int):Int:=match l.findIdx? (· ==y)with|some i=>i|none=> -1
theorem BT{k:Rk}(l:List Int)(y:Int):SCall Tryz.prog 321 [.ro 1 (l.map aL) k,.int .i64 y] [] (fun x σ=>x=.int .i64 (OG l y)∧σ=[]):=by
 refine bO 19 [0,1,4,5,7,8,9,16] Tryz.func321 ?_;refine fN (i:=0) rfl fun hm=> ?_
 rw[List.length_map]at hm;unfold maxLen at hm;refine oL ?_;refine lp (β:=Nat) (fun j=>⟨[(0,.ro 1 (l.map aL) k),(1,.int .i64 y),(7,.int .i64 l.length),(8,.int .i64 j)],[]⟩) (fun j=>j≤l.length∧∀i,i<j→l[i]? ≠some y) (fun j=>l.length-j) 0 ?_ ⟨Nat.zero_le _,fun i hi=>by omega⟩ ?_
 ·exact aN
 rintro j ⟨hj,ht⟩;refine eV ?_;refine aC rfl (fun h1=> ?_) (fun h1=> ?_)
 ·have hlt:j<l.length:=by simp at h1;omega
  obtain⟨x,hx⟩:∃x,l[j]? =some x:=⟨_,List.getElem?_eq_getElem hlt⟩
  refine pV ?_;refine KC ?_;refine pF ?_;refine aC rfl (fun h2=> ?_) (fun h2=> ?_)
  ·have hxy:y=x:=by simpa using h2
   refine eK ?_;apply aE;exact aF
   ·have:l.findIdx? (· ==y)=some j:=by
     rw[List.findIdx?_eq_some_iff_getElem];refine⟨hlt, ?_,fun i hi=> ?_⟩
     ·rw[List.getElem?_eq_getElem hlt]at hx;simp at hx⊢;rw[hx,hxy]
     ·have:=ht i hi;rw[List.getElem?_eq_getElem (by omega)]at this;simpa using this
    unfold OG;rw[this];exact⟨rfl,rfl⟩
   ·exact aA
  ·have hxy:y≠x:=by simpa using h2
   refine gS ?_;refine⟨j+1,⟨by omega,fun i hi=> ?_⟩,by omega, ?_⟩
   ·by_cases hij:i=j
    ·subst hij;rw[hx];simpa using fun e=>hxy e.symm
    ·exact ht i (by omega)
   ·exact aN
 ·obtain rfl:j=l.length:=by simp at h1;omega
  refine bV ?_;apply aE;exact aF
  ·have:l.findIdx? (· ==y)=none:=by
    rw[List.findIdx?_eq_none_iff];intro x hx;obtain⟨i,hi,rfl⟩:=List.mem_iff_getElem.1 hx;have:=ht i hi;rw[List.getElem?_eq_getElem hi]at this;simpa using this
   unfold OG;rw[this];exact⟨rfl,rfl⟩
  ·exact aA
def rI (c:Nat):Int:=OG [64,127,126] c
def FR (l:List Nat) (n:Nat) (e:Int):Int×Nat×Int:=
 if(if decide (rI (mD l n e).1<0)=true then((mD l n e).2.2==0)else false)=true then(if rI (mD l n e).1<0 then 0 else rI (mD l n e).1,(mD l n e).2.1,1)else(if rI (mD l n e).1<0 then 0 else rI (mD l n e).1,(mD l n e).2.1,(mD l n e).2.2)
theorem VT(r:Nat)(l:List Nat)(hl:l.length≤1000000)(hlt:∀x∈l,x<256)(n:Nat)(hn:n≤l.length)(e:Int):SCall Tryz.prog 315 [.ptr r 0] [(r,.box 346 (rv l n e))]
  (fun x σ=>x=.int .i64 (FR l n e).1∧σ=[(r,.box 346 (rv l (FR l n e).2.1 (FR l n e).2.2))]):=by
 refine bO 24 [0,2,3,4,18] Tryz.func315 ?_;unfold rv;refine kM ?_;refine cw [(r,.box 346 (rv l n e))] Tryz.call314 (zK r l hl hlt n hn e) rfl ?_ ?_ ?_
 ·exact aB
 ·exact aA
 rintro _ σ' ⟨rfl,rfl⟩-;refine dS ?_;unfold rv;refine iD ?_;refine eP fun r7 h7=> ?_;intros
 refine lo (aD (E rfl)) rfl ?_;rw[show([[.int .i64 64],[.int .i64 127],[.int .i64 126]]:List (List AV))=[64,127,126].map aL from rfl];refine pu [r7] Tryz.call321 (BT (k:=.any) [64,127,126] ((mD l n e).1:Nat)) rfl ?_ aW ?_
 ·exact aQ
 refine cI ?_;rw[show OG [64,127,126] ((mD l n e).1:Nat)=rI (mD l n e).1 from rfl];refine hX ?_;refine lo (fJ (E rfl) (E rfl)) rfl ?_;refine mU ?_;refine z91 ?_;refine z92 ?_;refine UX ?_;refine z6 ?_;refine z7 ?_;refine gQ ?_;refine aC rfl (fun g1=> ?_) (fun g1=> ?_)
 ·refine mX ?_;refine lM ?_;refine lo (yC (E rfl) (E rfl)) rfl ?_;refine cI ?_;apply aE;exact aF
  ·(unfold FR;simp only[g1,if_true,if_false,Bool.false_eq_true];exact⟨rfl,rfl⟩)
  ·exact aA
 refine bH ?_;refine lo (yC (E rfl) (E rfl)) rfl ?_;refine cI ?_;apply aE;exact aF
 ·(unfold FR;simp only[g1,if_true,if_false,Bool.false_eq_true];exact⟨rfl,rfl⟩)
 ·exact aA
def io (q:Nat) (x:Ins):List AV:=[.int .i64 x.op,.int .i64 x.a,.int .i64 x.b,.own q 0 x.l.length]
def ins0:Ins:=⟨0,0,0,[]⟩
def nU (l:List Nat):Nat→Nat→Int→List Int×Nat×Int
 |0,n,e=>([],n,e)
 |m+1,n,e=>(((nU l m n e).1++ [((fD l 1000 (nU l m n e).2.1 (nU l m n e).2.2).1:Int)]),(fD l 1000 (nU l m n e).2.1 (nU l m n e).2.2).2)
def jQ (x:Ins) (n:Nat) (e:Int):Ins×Nat×Int:=if(e !=0)=true then(ins0,0,e)else(x,n,0)
def pI (l:List Nat) (op:Int) (n:Nat) (e:Int):Ins×Nat×Int:=
 if(aS op==2)=true then jQ ⟨op,(FR l n e).1,0,[]⟩ (FR l n e).2.1 (FR l n e).2.2
 else if(aS op==3)=true then jQ ⟨op,(fD l 1000 n e).1,0,[]⟩ (fD l 1000 n e).2.1 (fD l 1000 n e).2.2
 else if(aS op==5)=true then jQ ⟨op,(fD l 1000 n e).1,0,[]⟩ (FP l (fD l 1000 n e).2.1 (fD l 1000 n e).2.2).1 (FP l (fD l 1000 n e).2.1 (fD l 1000 n e).2.2).2
 else if(aS op==4)=true then
  let u:=fD l 50 n e
  let w:=nU l u.1 u.2.1 u.2.2
  let v:=fD l 1000 w.2.1 w.2.2
  jQ ⟨op,v.1,0,w.1⟩ v.2.1 v.2.2
 else if(aS op==6)=true then
  let u:=fD l 3 n e
  let v:=fD l 4294967295 u.2.1 u.2.2
  jQ ⟨op,u.1,v.1,[]⟩ v.2.1 v.2.2
 else if(aS op==7)=true then jQ ⟨op,0,0,[]⟩ (FP l n e).1 (FP l n e).2
 else if(aS op==8)=true then jQ ⟨op,(wR l 32 n).1,0,[]⟩ (wR l 32 n).2.1 (wR l 32 n).2.2
 else if(aS op==9)=true then jQ ⟨op,(wR l 64 n).1,0,[]⟩ (wR l 64 n).2.1 (wR l 64 n).2.2
 else jQ ⟨op,0,0,[]⟩ n e
def eB (l:List Nat):Ins×Nat×Int:=
 if(aS ((mD l 0 0).1:Nat)==0)=true then(ins0,0,1)
 else if((mD l 0 0).2.2 !=0)=true then(ins0,0,(mD l 0 0).2.2)
 else pI l ((mD l 0 0).1:Nat) (mD l 0 0).2.1 (mD l 0 0).2.2
theorem aDi{l:List Nat}{n:Nat}{e:Int}(h:n≤l.length):(mD l n e).2.1≤l.length:=by
 unfold mD;split
 ·exact h
 ·split
  ·exact h
  ·next h1=>simp at h1⊢;omega
theorem FS{l:List Nat}{lim:Int}{n:Nat}{e:Int}(h:n≤l.length):(fD l lim n e).2.1≤l.length:=by
 have h1:=(uF (l.drop n)).2.1;rw[List.length_drop]at h1;unfold fD;repeat' split
 all_goals first|exact h|(simp;omega)
theorem aDj{l:List Nat}{lim:Int}{n:Nat}{e:Int}(h:0≤lim):((fD l lim n e).1:Int)≤lim:=by
 unfold fD;split
 ·exact h
 ·split
  ·exact h
  ·split
   ·exact h
   ·next h1=>simp at h1⊢;omega
theorem VU{l:List Nat}:∀ {m n:Nat} {e:Int},n≤l.length→(nU l m n e).2.1≤l.length
 |0,_,_,h=>h
 | _ +1,_,_,h=>FS (VU h)
theorem FU{l:List Nat}:∀ {m n:Nat} {e:Int},(nU l m n e).1.length=m
 |0,_,_=>rfl
 |m+1,n,e=>by rw[nU];simp[FU (m:=m)]
theorem DX(l:List Nat)(hl:l.length≤1000000)(hlt:∀x∈l,x<256):SCall Tryz.prog 298 [.ro 1 (l.map aH) .any] []
  (fun y σ=>∃q,y=.tup [.agg (io q (eB l).1),.int .i64 ((eB l).2.1:Nat),.int .i64 (eB l).2.2]∧σ=[(q,.arr 3 1 ((eB l).1.l.map aL))]):=by
 refine bO 104 [0,2,3,4,5,6,7,18,26,32,33,38,43,50,53,54,55,67,75,79,84,93] Tryz.func298 ?_;refine cV ?_;refine gF fun r2 h2=> ?_;intros
 refine nI ?_;refine iA ?_;refine gM fun r10 h10=> ?_;intros
 refine mV ?_;refine cw [(r10,.box 346 (rv l (0) (0)))] Tryz.call314 (zK r10 l hl hlt 0 (by omega) 0) rfl ?_ ?_ ?_
 ·exact aB
 ·exact aA
 rintro _ σ' ⟨rfl,rfl⟩-;apply bE;exact bX;unfold rv;refine iA ?_;refine gF fun r6 h6=> ?_;intros
 refine kY ?_;refine an ?_;refine cE (ks:=[0,2,3,4,5,6,7,18,26,32,33,38,43,50,53,54,55,67,75,79,84,93]) r6 3 3 1 (by decide) bF rfl (by decide) fun q hq=> ?_
 simp only[aM,aT,and_true]at hq;repeat rcases hq with⟨_,hq⟩
 apply Exists.intro;apply And.intro;exact bW;refine aJ ?_;have hn1:=aDi (l:=l) (n:=0) (e:=0) (by omega);generalize hB:mD l 0 0=bb at*;obtain⟨c,n1,e1⟩:=bb;dsimp only at hn1⊢;rw[show([AV.int .i64 (c:Int),.int .i64 0,.int .i64 0,.ro 0 [] .nil].set 3 (.own q 0 0))=[.int .i64 (c:Int),.int .i64 0,.int .i64 0,.own q 0 0]from rfl];refine nL ?_
 (first|refine ln rfl rfl rfl rfl ?_ |refine lw rfl rfl (bN (v:=.bool false)) rfl ?_ |refine pu [] Tryz.call217 (fW _) rfl bM aW ?_ |refine sZ [] rfl rfl Tryz.call217 (fun _=>(fW _)) rfl bM aW ?_ |refine AZ [] rfl rfl Tryz.call217 (fun _=>(fW _)) rfl bM aW ?_);refine mV ?_;refine pF ?_;refine aC rfl (fun g1=> ?_) (fun g1=> ?_)
 ·refine aJ ?_;have hG:eB l=(ins0,0,1):=by unfold eB;rw[hB];simp only[g1,if_true]
  refine hX ?_;refine nH ?_;refine lM ?_;refine pU ?_;refine hU [(0,true),(1,true),(2,true),(3,true),(4,true),(5,false),(6,true),(7,true)] ?_;refine rA ?_;refine cE (ks:=[0,2,3,4,5,6,7,18,26,32,33,38,43,50,53,54,55,67,75,79,84,93]) r2 3 3 1 (by decide) bF rfl (by decide) fun qz hqz=> ?_
  simp only[aM,aT,and_true]at hqz;repeat rcases hqz with⟨_,hqz⟩
  apply Exists.intro;apply And.intro;exact bW;refine aJ ?_;apply aE;exact aF
  ·rw[hG];exact⟨qz,rfl,rfl⟩
  ·exact aA
 refine bH ?_;refine pU ?_;refine aC rfl (fun g2=> ?_) (fun g2=> ?_)
 ·refine aJ ?_;have hG:eB l=(ins0,0,e1):=by unfold eB;rw[hB];simp only[g1,g2,if_true,if_false,Bool.false_eq_true]
  refine hU [(0,true),(1,true),(2,true),(3,true),(4,true),(5,false),(6,true),(7,true)] ?_;refine rA ?_;refine cE (ks:=[0,2,3,4,5,6,7,18,26,32,33,38,43,50,53,54,55,67,75,79,84,93]) r2 3 3 1 (by decide) bF rfl (by decide) fun qz hqz=> ?_
  simp only[aM,aT,and_true]at hqz;repeat rcases hqz with⟨_,hqz⟩
  apply Exists.intro;apply And.intro;exact bW;refine aJ ?_;apply aE;exact aF
  ·rw[hG];exact⟨qz,rfl,rfl⟩
  ·exact aA
 refine bH ?_;refine iI ?_;refine dH ?_;refine aC rfl (fun g3=> ?_) (fun g3=> ?_)
 ·refine aJ ?_;have hG:eB l=jQ ⟨(c:Int),(FR l n1 e1).1,0,[]⟩ (FR l n1 e1).2.1 (FR l n1 e1).2.2:=by unfold eB pI;rw[hB];simp only[g1,g2,g3,if_true,if_false,Bool.false_eq_true]
  refine hX ?_;refine cw [(r10,.box 346 (rv l (n1) (e1)))] Tryz.call315 (VT r10 l hl hlt n1 hn1 e1) rfl ?_ ?_ ?_
  ·exact aB
  ·exact aA
  rintro _ σ' ⟨rfl,rfl⟩-;apply bE;exact bX;unfold rv;refine sG ?_;refine lM ?_;refine pU ?_;refine aC rfl (fun ge=> ?_) (fun ge=> ?_)
  ·unfold jQ at hG;rw[ge]at hG;simp only[if_true]at hG;refine aJ ?_;refine hU [(0,true),(1,true),(2,true),(3,true),(4,true),(5,false),(6,true),(7,true)] ?_;refine rA ?_;refine cE (ks:=[0,2,3,4,5,6,7,18,26,32,33,38,43,50,53,54,55,67,75,79,84,93]) r2 3 3 1 (by decide) bF rfl (by decide) fun qz hqz=> ?_
   simp only[aM,aT,and_true]at hqz;repeat rcases hqz with⟨_,hqz⟩
   apply Exists.intro;apply And.intro;exact bW;refine aJ ?_;apply aE;exact aF
   ·rw[hG];exact⟨qz,rfl,rfl⟩
   ·exact aA
  ·unfold jQ at hG;rw[ge]at hG;simp only[Bool.false_eq_true,if_false]at hG;refine aJ ?_;refine hU [(0,true),(1,true),(2,true),(3,true),(4,true),(5,false),(6,true),(7,true)] ?_;refine JN ?_;refine BN ?_;refine aJ ?_;apply aE;exact aF
   ·rw[hG];exact⟨q,rfl,rfl⟩
   ·exact aA
 refine dH ?_;refine aC rfl (fun g4=> ?_) (fun g4=> ?_)
 ·refine aJ ?_;have hG:eB l=jQ ⟨(c:Int),(fD l 1000 n1 e1).1,0,[]⟩ (fD l 1000 n1 e1).2.1 (fD l 1000 n1 e1).2.2:=by unfold eB pI;rw[hB];simp only[g1,g2,g3,g4,if_true,if_false,Bool.false_eq_true]
  refine hX ?_;refine cw [(r10,.box 346 (rv l (n1) (e1)))] Tryz.call316 (gU r10 l hl hlt 1000 n1 hn1 e1) rfl ?_ ?_ ?_
  ·exact aB
  ·exact aA
  rintro _ σ' ⟨rfl,rfl⟩-;apply bE;exact bX;unfold rv;refine sG ?_;refine lM ?_;refine pU ?_;refine aC rfl (fun ge=> ?_) (fun ge=> ?_)
  ·unfold jQ at hG;rw[ge]at hG;simp only[if_true]at hG;refine aJ ?_;refine hU [(0,true),(1,true),(2,true),(3,true),(4,true),(5,false),(6,true),(7,true)] ?_;refine rA ?_;refine cE (ks:=[0,2,3,4,5,6,7,18,26,32,33,38,43,50,53,54,55,67,75,79,84,93]) r2 3 3 1 (by decide) bF rfl (by decide) fun qz hqz=> ?_
   simp only[aM,aT,and_true]at hqz;repeat rcases hqz with⟨_,hqz⟩
   apply Exists.intro;apply And.intro;exact bW;refine aJ ?_;apply aE;exact aF
   ·rw[hG];exact⟨qz,rfl,rfl⟩
   ·exact aA
  ·unfold jQ at hG;rw[ge]at hG;simp only[Bool.false_eq_true,if_false]at hG;refine aJ ?_;refine hU [(0,true),(1,true),(2,true),(3,true),(4,true),(5,false),(6,true),(7,true)] ?_;refine JN ?_;refine BN ?_;refine aJ ?_;apply aE;exact aF
   ·rw[hG];exact⟨q,rfl,rfl⟩
   ·exact aA
 refine dH ?_;refine aC rfl (fun g5=> ?_) (fun g5=> ?_)
 ·refine aJ ?_;have hG:eB l=jQ ⟨(c:Int),(fD l 1000 n1 e1).1,0,[]⟩ (FP l (fD l 1000 n1 e1).2.1 (fD l 1000 n1 e1).2.2).1 (FP l (fD l 1000 n1 e1).2.1 (fD l 1000 n1 e1).2.2).2:=by unfold eB pI;rw[hB];simp only[g1,g2,g3,g4,g5,if_true,if_false,Bool.false_eq_true]
  have hn2:=FS (lim:=1000) (e:=e1) hn1;refine hX ?_;refine cw [(r10,.box 346 (rv l (n1) (e1)))] Tryz.call316 (gU r10 l hl hlt 1000 n1 hn1 e1) rfl ?_ ?_ ?_
  ·exact aB
  ·exact aA
  rintro _ σ' ⟨rfl,rfl⟩-;apply bE;exact bX;unfold rv;refine sG ?_;refine gL ?_;generalize fD l 1000 n1 e1=u at*;obtain⟨a,n2,e2⟩:=u;dsimp only at hn2 hG⊢;refine hX ?_;refine cw [(r10,.box 346 (rv l (n2) (e2)))] Tryz.call317 (KW r10 l hl hlt n2 hn2 e2) rfl ?_ ?_ ?_
  ·exact aB
  ·exact aA
  rintro _ σ' ⟨rfl,rfl⟩-;apply bE;exact bX;unfold rv;refine pG ?_;refine pU ?_;refine aC rfl (fun ge=> ?_) (fun ge=> ?_)
  ·unfold jQ at hG;rw[ge]at hG;simp only[if_true]at hG;refine aJ ?_;refine hU [(0,true),(1,true),(2,true),(3,true),(4,true),(5,false),(6,true),(7,true)] ?_;refine rA ?_;refine cE (ks:=[0,2,3,4,5,6,7,18,26,32,33,38,43,50,53,54,55,67,75,79,84,93]) r2 3 3 1 (by decide) bF rfl (by decide) fun qz hqz=> ?_
   simp only[aM,aT,and_true]at hqz;repeat rcases hqz with⟨_,hqz⟩
   apply Exists.intro;apply And.intro;exact bW;refine aJ ?_;apply aE;exact aF
   ·rw[hG];exact⟨qz,rfl,rfl⟩
   ·exact aA
  ·unfold jQ at hG;rw[ge]at hG;simp only[Bool.false_eq_true,if_false]at hG;refine aJ ?_;refine hU [(0,true),(1,true),(2,true),(3,true),(4,true),(5,false),(6,true),(7,true)] ?_;refine JN ?_;refine BN ?_;refine aJ ?_;apply aE;exact aF
   ·rw[hG];exact⟨q,rfl,rfl⟩
   ·exact aA
 refine dH ?_;refine aC rfl (fun g6=> ?_) (fun g6=> ?_)
 ·refine aJ ?_;have hG:eB l=jQ ⟨(c:Int),(fD l 1000 (nU l (fD l 50 n1 e1).1 (fD l 50 n1 e1).2.1 (fD l 50 n1 e1).2.2).2.1 (nU l (fD l 50 n1 e1).1 (fD l 50 n1 e1).2.1 (fD l 50 n1 e1).2.2).2.2).1,0,(nU l (fD l 50 n1 e1).1 (fD l 50 n1 e1).2.1 (fD l 50 n1 e1).2.2).1⟩ (fD l 1000 (nU l (fD l 50 n1 e1).1 (fD l 50 n1 e1).2.1 (fD l 50 n1 e1).2.2).2.1 (nU l (fD l 50 n1 e1).1 (fD l 50 n1 e1).2.1 (fD l 50 n1 e1).2.2).2.2).2.1 (fD l 1000 (nU l (fD l 50 n1 e1).1 (fD l 50 n1 e1).2.1 (fD l 50 n1 e1).2.2).2.1 (nU l (fD l 50 n1 e1).1 (fD l 50 n1 e1).2.1 (fD l 50 n1 e1).2.2).2.2).2.2:=by unfold eB pI;rw[hB];simp only[g1,g2,g3,g4,g5,g6,if_true,if_false,Bool.false_eq_true]
  have hn2:=FS (lim:=50) (e:=e1) hn1;have hm50:=aDj (l:=l) (lim:=50) (n:=n1) (e:=e1) (by omega);refine hX ?_;refine cw [(r10,.box 346 (rv l (n1) (e1)))] Tryz.call316 (gU r10 l hl hlt 50 n1 hn1 e1) rfl ?_ ?_ ?_
  ·exact aB
  ·exact aA
  rintro _ σ' ⟨rfl,rfl⟩-;apply bE;exact bX;unfold rv;refine sq8 ?_;generalize fD l 50 n1 e1=u at*;obtain⟨m,n2,e2⟩:=u;dsimp only at hn2 hm50 hG⊢;refine lp (β:=Nat×Nat) (fun b=>⟨[(2,.ptr r2 0),(5,.ptr r10 0),(6,.ptr r6 0),(53,.int .i64 m),(54,.int .i64 b.2)],[(b.1,.arr 3 1 ((nU l b.2 n2 e2).1.map aL)),(r6,.box 46 [.int .i64 c,.int .i64 0,.int .i64 0,.own b.1 0 (nU l b.2 n2 e2).1.length]),(r10,.box 346 (rv l (nU l b.2 n2 e2).2.1 (nU l b.2 n2 e2).2.2)),(r2,.box 46 [.int .i64 0,.int .i64 0,.int .i64 0,.ro 0 [] .nil])]⟩) (fun b=>(Nq b.1 r6∧Nq b.1 r10∧Nq b.1 r2)∧b.2≤m) (fun b=>m-b.2) (q,0) (by(exact aN)) ⟨⟨by(exact dP),by(exact dP),by(exact dP)⟩,Nat.zero_le _⟩ ?_;rintro⟨p,j⟩ ⟨⟨hp1,hp2,hp3⟩,hj⟩;dsimp only at hp1 hp2 hp3 hj⊢;have hn3:=VU (m:=j) (e:=e2) hn2;have hlen:=FU (l:=l) (m:=j) (n:=n2) (e:=e2);have hstep:nU l (j+1) n2 e2=(((nU l j n2 e2).1++ [((fD l 1000 (nU l j n2 e2).2.1 (nU l j n2 e2).2.2).1:Int)]),(fD l 1000 (nU l j n2 e2).2.1 (nU l j n2 e2).2.2).2):=rfl;generalize hW:nU l j n2 e2=w at hn3 hlen hstep⊢;obtain⟨L,n3,e3⟩:=w;dsimp only at hn3 hlen hstep⊢;unfold rv;refine eV ?_;refine aC rfl (fun h1=> ?_) (fun h1=> ?_)
  ·have hlt2:j<m:=by simp at h1;omega
   refine aJ ?_;refine hU [(0,true),(1,true),(2,true),(3,false),(4,false),(5,false),(6,true),(7,false)] ?_;refine kX ?_;refine fO rfl (aD (E rfl)) rfl ?_;refine nR [(r10,.box 346 (rv l n3 e3))] rfl Tryz.call316 (gU r10 l hl hlt 1000 n3 hn3 e3) rfl ?_ ?_ ?_ ?_
   ·exact aB
   ·exact aA
   ·exact eU
   rintro _ σ' ⟨rfl,rfl⟩-;apply dY;exact bX;unfold rv;generalize fD l 1000 n3 e3=u at hstep⊢;obtain⟨v,n4,e4⟩:=u;dsimp only at hstep⊢;refine ZM fun r60 h60=> ?_;intros
   apply dap (es':=(L++ [(v:Int)]).map aL) (len':=(L++ [(v:Int)]).length);rfl;infer_instance;infer_instance;rfl;rfl;exact bF
   ·simp
   ·exact .inr (.inr ⟨_,_,_,_,_,rfl,bF,by simp,rfl⟩)
   ·simp[aL]
   ·simp
   ·simp[maxLen];omega
   ·simp;omega
   ·rfl
   ·exact eU
   refine dG fun r61 h61=> ?_;intros
   refine KD ?_;refine NL ?_;refine FK ?_;refine gS ?_;refine⟨(r61,j+1),⟨⟨by show Nq r61 r6;(exact dP),by show Nq r61 r10;(exact dP),by show Nq r61 r2;(exact dP)⟩,hlt2⟩,by show m-(j+1)<m-j;omega, ?_⟩;dsimp only;rw[hstep];exact aN
  ·obtain rfl:j=m:=by simp at h1;omega
   rw[hW]at hG;dsimp only at hG;refine bH ?_;refine cw [(r10,.box 346 (rv l (n3) (e3)))] Tryz.call316 (gU r10 l hl hlt 1000 n3 hn3 e3) rfl ?_ ?_ ?_
   ·exact aB
   ·exact aA
   rintro _ σ' ⟨rfl,rfl⟩-;apply bE;exact bX;unfold rv;refine sG ?_;refine lM ?_;refine pU ?_;refine aC rfl (fun ge=> ?_) (fun ge=> ?_)
   ·unfold jQ at hG;rw[ge]at hG;simp only[if_true]at hG;refine aJ ?_;refine hU [(0,true),(1,true),(2,true),(3,true),(4,true),(5,false),(6,true),(7,true)] ?_;refine rA ?_;refine cE (ks:=[0,2,3,4,5,6,7,18,26,32,33,38,43,50,53,54,55,67,75,79,84,93]) r2 3 3 1 (by decide) bF rfl (by decide) fun qz hqz=> ?_
    simp only[aM,aT,and_true]at hqz;repeat rcases hqz with⟨_,hqz⟩
    apply Exists.intro;apply And.intro;exact bW;refine aJ ?_;apply aE;exact aF
    ·rw[hG];exact⟨qz,rfl,rfl⟩
    ·exact aA
   ·unfold jQ at hG;rw[ge]at hG;simp only[Bool.false_eq_true,if_false]at hG;refine aJ ?_;refine hU [(0,true),(1,true),(2,true),(3,true),(4,true),(5,false),(6,true),(7,true)] ?_;refine JN ?_;refine BN ?_;refine aJ ?_;apply aE;exact aF
    ·rw[hG];exact⟨p,rfl,rfl⟩
    ·exact aA
 refine dH ?_;refine aC rfl (fun g7=> ?_) (fun g7=> ?_)
 ·refine aJ ?_;have hG:eB l=jQ ⟨(c:Int),(fD l 3 n1 e1).1,(fD l 4294967295 (fD l 3 n1 e1).2.1 (fD l 3 n1 e1).2.2).1,[]⟩ (fD l 4294967295 (fD l 3 n1 e1).2.1 (fD l 3 n1 e1).2.2).2.1 (fD l 4294967295 (fD l 3 n1 e1).2.1 (fD l 3 n1 e1).2.2).2.2:=by unfold eB pI;rw[hB];simp only[g1,g2,g3,g4,g5,g6,g7,if_true,if_false,Bool.false_eq_true]
  have hn2:=FS (lim:=3) (e:=e1) hn1;refine hX ?_;refine cw [(r10,.box 346 (rv l (n1) (e1)))] Tryz.call316 (gU r10 l hl hlt 3 n1 hn1 e1) rfl ?_ ?_ ?_
  ·exact aB
  ·exact aA
  rintro _ σ' ⟨rfl,rfl⟩-;apply bE;exact bX;unfold rv;refine sG ?_;refine gL ?_;generalize fD l 3 n1 e1=u at*;obtain⟨a,n2,e2⟩:=u;dsimp only at hn2 hG⊢;refine hX ?_;refine cw [(r10,.box 346 (rv l (n2) (e2)))] Tryz.call316 (gU r10 l hl hlt 4294967295 n2 hn2 e2) rfl ?_ ?_ ?_
  ·exact aB
  ·exact aA
  rintro _ σ' ⟨rfl,rfl⟩-;apply bE;exact bX;unfold rv;refine sG ?_;refine lM ?_;refine pU ?_;refine aC rfl (fun ge=> ?_) (fun ge=> ?_)
  ·unfold jQ at hG;rw[ge]at hG;simp only[if_true]at hG;refine aJ ?_;refine hU [(0,true),(1,true),(2,true),(3,true),(4,true),(5,false),(6,true),(7,true)] ?_;refine rA ?_;refine cE (ks:=[0,2,3,4,5,6,7,18,26,32,33,38,43,50,53,54,55,67,75,79,84,93]) r2 3 3 1 (by decide) bF rfl (by decide) fun qz hqz=> ?_
   simp only[aM,aT,and_true]at hqz;repeat rcases hqz with⟨_,hqz⟩
   apply Exists.intro;apply And.intro;exact bW;refine aJ ?_;apply aE;exact aF
   ·rw[hG];exact⟨qz,rfl,rfl⟩
   ·exact aA
  ·unfold jQ at hG;rw[ge]at hG;simp only[Bool.false_eq_true,if_false]at hG;refine aJ ?_;refine hU [(0,true),(1,true),(2,true),(3,true),(4,true),(5,false),(6,true),(7,true)] ?_;refine JN ?_;refine BN ?_;refine aJ ?_;apply aE;exact aF
   ·rw[hG];exact⟨q,rfl,rfl⟩
   ·exact aA
 refine dH ?_;refine aC rfl (fun g8=> ?_) (fun g8=> ?_)
 ·refine aJ ?_;have hG:eB l=jQ ⟨(c:Int),0,0,[]⟩ (FP l n1 e1).1 (FP l n1 e1).2:=by unfold eB pI;rw[hB];simp only[g1,g2,g3,g4,g5,g6,g7,g8,if_true,if_false,Bool.false_eq_true]
  refine hX ?_;refine cw [(r10,.box 346 (rv l (n1) (e1)))] Tryz.call317 (KW r10 l hl hlt n1 hn1 e1) rfl ?_ ?_ ?_
  ·exact aB
  ·exact aA
  rintro _ σ' ⟨rfl,rfl⟩-;apply bE;exact bX;unfold rv;refine pG ?_;refine pU ?_;refine aC rfl (fun ge=> ?_) (fun ge=> ?_)
  ·unfold jQ at hG;rw[ge]at hG;simp only[if_true]at hG;refine aJ ?_;refine hU [(0,true),(1,true),(2,true),(3,true),(4,true),(5,false),(6,true),(7,true)] ?_;refine rA ?_;refine cE (ks:=[0,2,3,4,5,6,7,18,26,32,33,38,43,50,53,54,55,67,75,79,84,93]) r2 3 3 1 (by decide) bF rfl (by decide) fun qz hqz=> ?_
   simp only[aM,aT,and_true]at hqz;repeat rcases hqz with⟨_,hqz⟩
   apply Exists.intro;apply And.intro;exact bW;refine aJ ?_;apply aE;exact aF
   ·rw[hG];exact⟨qz,rfl,rfl⟩
   ·exact aA
  ·unfold jQ at hG;rw[ge]at hG;simp only[Bool.false_eq_true,if_false]at hG;refine aJ ?_;refine hU [(0,true),(1,true),(2,true),(3,true),(4,true),(5,false),(6,true),(7,true)] ?_;refine JN ?_;refine BN ?_;refine aJ ?_;apply aE;exact aF
   ·rw[hG];exact⟨q,rfl,rfl⟩
   ·exact aA
 refine dH ?_;refine aC rfl (fun g9=> ?_) (fun g9=> ?_)
 ·refine aJ ?_;have hG:eB l=jQ ⟨(c:Int),(wR l 32 n1).1,0,[]⟩ (wR l 32 n1).2.1 (wR l 32 n1).2.2:=by unfold eB pI;rw[hB];simp only[g1,g2,g3,g4,g5,g6,g7,g8,g9,if_true,if_false,Bool.false_eq_true]
  refine hX ?_;refine cw [(r10,.box 346 (rv l (n1) (e1)))] Tryz.call318 (zL r10 l hl hlt 32 (.inl rfl) n1 hn1 e1) rfl ?_ ?_ ?_
  ·exact aB
  ·exact aA
  rintro _ σ' ⟨rfl,rfl⟩-;apply bE;exact bX;unfold rv;refine sG ?_;refine lM ?_;refine pU ?_;refine aC rfl (fun ge=> ?_) (fun ge=> ?_)
  ·unfold jQ at hG;rw[ge]at hG;simp only[if_true]at hG;refine aJ ?_;refine hU [(0,true),(1,true),(2,true),(3,true),(4,true),(5,false),(6,true),(7,true)] ?_;refine rA ?_;refine cE (ks:=[0,2,3,4,5,6,7,18,26,32,33,38,43,50,53,54,55,67,75,79,84,93]) r2 3 3 1 (by decide) bF rfl (by decide) fun qz hqz=> ?_
   simp only[aM,aT,and_true]at hqz;repeat rcases hqz with⟨_,hqz⟩
   apply Exists.intro;apply And.intro;exact bW;refine aJ ?_;apply aE;exact aF
   ·rw[hG];exact⟨qz,rfl,rfl⟩
   ·exact aA
  ·unfold jQ at hG;rw[ge]at hG;simp only[Bool.false_eq_true,if_false]at hG;refine aJ ?_;refine hU [(0,true),(1,true),(2,true),(3,true),(4,true),(5,false),(6,true),(7,true)] ?_;refine JN ?_;refine BN ?_;refine aJ ?_;apply aE;exact aF
   ·rw[hG];exact⟨q,rfl,rfl⟩
   ·exact aA
 refine dH ?_;refine aC rfl (fun g10=> ?_) (fun g10=> ?_)
 ·refine aJ ?_;have hG:eB l=jQ ⟨(c:Int),(wR l 64 n1).1,0,[]⟩ (wR l 64 n1).2.1 (wR l 64 n1).2.2:=by unfold eB pI;rw[hB];simp only[g1,g2,g3,g4,g5,g6,g7,g8,g9,g10,if_true,if_false,Bool.false_eq_true]
  refine hX ?_;refine cw [(r10,.box 346 (rv l (n1) (e1)))] Tryz.call318 (zL r10 l hl hlt 64 (.inr rfl) n1 hn1 e1) rfl ?_ ?_ ?_
  ·exact aB
  ·exact aA
  rintro _ σ' ⟨rfl,rfl⟩-;apply bE;exact bX;unfold rv;refine sG ?_;refine lM ?_;refine pU ?_;refine aC rfl (fun ge=> ?_) (fun ge=> ?_)
  ·unfold jQ at hG;rw[ge]at hG;simp only[if_true]at hG;refine aJ ?_;refine hU [(0,true),(1,true),(2,true),(3,true),(4,true),(5,false),(6,true),(7,true)] ?_;refine rA ?_;refine cE (ks:=[0,2,3,4,5,6,7,18,26,32,33,38,43,50,53,54,55,67,75,79,84,93]) r2 3 3 1 (by decide) bF rfl (by decide) fun qz hqz=> ?_
   simp only[aM,aT,and_true]at hqz;repeat rcases hqz with⟨_,hqz⟩
   apply Exists.intro;apply And.intro;exact bW;refine aJ ?_;apply aE;exact aF
   ·rw[hG];exact⟨qz,rfl,rfl⟩
   ·exact aA
  ·unfold jQ at hG;rw[ge]at hG;simp only[Bool.false_eq_true,if_false]at hG;refine aJ ?_;refine hU [(0,true),(1,true),(2,true),(3,true),(4,true),(5,false),(6,true),(7,true)] ?_;refine JN ?_;refine BN ?_;refine aJ ?_;apply aE;exact aF
   ·rw[hG];exact⟨q,rfl,rfl⟩
   ·exact aA
 refine aJ ?_;have hG:eB l=jQ ⟨(c:Int),0,0,[]⟩ n1 e1:=by unfold eB pI;rw[hB];simp only[g1,g2,g3,g4,g5,g6,g7,g8,g9,g10,if_true,if_false,Bool.false_eq_true]
 refine hX ?_;refine pU ?_;refine aC rfl (fun ge=> ?_) (fun ge=> ?_)
 ·unfold jQ at hG;rw[ge]at hG;simp only[if_true]at hG;refine aJ ?_;refine hU [(0,true),(1,true),(2,true),(3,true),(4,true),(5,false),(6,true),(7,true)] ?_;refine rA ?_;refine cE (ks:=[0,2,3,4,5,6,7,18,26,32,33,38,43,50,53,54,55,67,75,79,84,93]) r2 3 3 1 (by decide) bF rfl (by decide) fun qz hqz=> ?_
  simp only[aM,aT,and_true]at hqz;repeat rcases hqz with⟨_,hqz⟩
  apply Exists.intro;apply And.intro;exact bW;refine aJ ?_;apply aE;exact aF
  ·rw[hG];exact⟨qz,rfl,rfl⟩
  ·exact aA
 ·unfold jQ at hG;rw[ge]at hG;simp only[Bool.false_eq_true,if_false]at hG;refine aJ ?_;refine hU [(0,true),(1,true),(2,true),(3,true),(4,true),(5,false),(6,true),(7,true)] ?_;refine JN ?_;refine BN ?_;refine aJ ?_;apply aE;exact aF
  ·rw[hG];exact⟨q,rfl,rfl⟩
  ·exact aA
end Go.Proofs.YtjpdadobblffmaaGreat
namespace Go.Proofs.YtjpdadobblffmaaGreat
open Go.RowKit Go.ChangeShapes Go.WideShapes Go.ChangeAt Go.Deep
theorem VV(c:Nat):rI c=if c=64 then 0 else if c=127 then 1 else if c=126 then 2 else-1:=by
 by_cases h1:c=64
 ·subst h1;decide
 by_cases h2:c=127
 ·subst h2;decide
 by_cases h3:c=126
 ·subst h3;decide
 rw[if_neg h1,if_neg h2,if_neg h3];unfold rI OG;have:([64,127,126]:List Int).findIdx? (· ==(c:Int))=none:=by
  rw[List.findIdx?_eq_none_iff];intro x hx;simp at hx;rcases hx with rfl|rfl|rfl<;>simp<;>omega
 rw[this]
theorem uJ{l p r:List Nat}{n:Nat}(h:l.drop n=p++r):l.drop (n+p.length)=r:=by
 rw[←List.drop_drop,h,List.drop_left]
theorem OH{l r:List Nat}{n b:Nat}(h:l.drop n=b::r):mD l n 0=(b,n+1,0):=by
 have hn:n<l.length:=by
  by_cases hc:n<l.length
  ·exact hc
  ·rw[List.drop_of_length_le (by omega)]at h;cases h
 have hb:l[n]! =b:=by
  rw[getElem!_pos l n hn];rw[List.drop_eq_getElem_cons hn]at h;exact(List.cons.inj h).1
 unfold mD;rw[if_neg (by simp),if_neg (by simp;omega),hb]
theorem VW{l r:List Nat}{n:Nat}(h:l.drop n=0::r):FP l n 0=(n+1,0):=by
 unfold FP;rw[OH h,if_neg (by simp)]
theorem tH{l r:List Nat}{n v:Nat}{lim:Int}(h:l.drop n=uB v++r)(h1:v<4294967296)(h2:(v:Int)≤lim):fD l lim n 0=(v,n+(uB v).length,0):=by
 unfold fD;rw[h,QB h1,if_neg (by simp),if_neg (by simp),if_neg (by simp;omega)]
theorem VX{l r:List Nat}{n bits:Nat}(hb:bits=32∨bits=64){v:Int}(h:l.drop n=sB v++r)(h1:-9223372036854775808≤v)(h2:v≤9223372036854775807)(h3:bits=32→ -2147483648≤v∧v≤2147483647):wR l bits n=(v,n+(sB v).length,0):=by
 unfold wR;rw[h,aAr hb h1 h2 h3]
theorem VY{l r:List Nat}{n:Nat}{L:List Int}(h:l.drop n=(L.flatMap fun z=>uB z.toNat)++r)(hL:∀z∈L,0≤z∧z≤1000):∀m,m≤L.length→nU l m n 0=(L.take m,n+((L.take m).flatMap fun z=>uB z.toNat).length,0)
 |0,_=>by simp[nU]
 |m+1,hm=>by
  have ih:=VY h hL m (by omega);obtain⟨y,hy⟩:∃y,L[m]? =some y:=⟨_,List.getElem?_eq_getElem (by omega)⟩
  obtain⟨hy0,hy1⟩:=hL y (List.mem_of_getElem? hy);obtain⟨z,rfl⟩:=Int.eq_ofNat_of_zero_le hy0;have hd:l.drop (n+((L.take m).flatMap fun z=>uB z.toNat).length)=uB z++(((L.drop (m+1)).flatMap fun z=>uB z.toNat)++r):=by
   refine uJ ?_;rw[h,←List.append_assoc,←List.append_assoc]
   congr 1
   have:L=L.take m++(z:Int)::L.drop (m+1):=by
    rw[List.getElem?_eq_getElem (by omega)]at hy;rw[←Option.some.inj hy,←List.drop_eq_getElem_cons (by omega),List.take_append_drop]
   conv=>lhs;rw[this]
   simp[List.flatMap_append]
  rw[nU,ih];dsimp only;rw[tH hd (by omega) hy1,List.take_add_one,hy];simp[List.flatMap_append,Nat.add_assoc]
theorem aHG{x:Ins}(h:cW x=true)(hf:(aS x.op==8)=true):-2147483648≤x.a∧x.a≤2147483647:=by
 rw[beq_iff_eq]at hf;simp[cW,hf,jA]at h;omega
theorem aCa{x:Ins}(h:cW x=true)(hf:(aS x.op==1||aS x.op==7)=true):x.a=0:=by
 unfold cW at h;split at h
 ·cases h
 ·first|(rw[if_pos hf]at h;simpa using h)|simpa using h
theorem aCb{x:Ins}(h:cW x=true)(hf:aS x.op≠6):x.b=0:=by
 unfold cW at h;split at h
 ·cases h
 ·next hp=>
  have h6:(aS x.op !=6)=true:=by simpa using hf
  unfold jI at hp;rw[if_pos h6]at hp;split at hp
  ·simp at hp;exact hp.2
  ·simpa using hp
theorem aCc{x:Ins}(h:cW x=true)(hf:aS x.op≠4):x.l=[]:=by
 unfold cW at h;split at h
 ·cases h
 ·next hp=>
  have h4:(aS x.op !=4)=true:=by simpa using hf
  unfold jI at hp;rw[if_pos h4]at hp;split at hp
  ·simp at hp
  ·next hq=>simpa using hq
theorem FV{x:Ins}(hx:x.Ok)(h:cW x=true)(rest:List Nat):eB (gN x++rest)=(x,(gN x).length,0):=by
 have f1:=OF h;have f2:=aFI h;have f3:=aDe h;have f4:=aDg h;have f5:=aDf h;have f6:=aDh h;have f8:=aHG h;have f17:=aCa h;have fb:=aCb h;have fl:=aCc h;have f9:-9223372036854775808≤x.a∧x.a≤9223372036854775807:=⟨hx.2.2.1,hx.2.2.2.1⟩
 have f0:(aS x.op==0)=false:=by
  by_cases h0:aS x.op=0
  ·rw[KV h0]at h;cases h
  ·simpa using h0
 obtain⟨op,a,b,L⟩:=x;dsimp only at f1 f2 f3 f4 f5 f6 f8 f9 f17 fb fl f0;obtain⟨op,rfl⟩:=Int.eq_ofNat_of_zero_le f1.1;have hp0:gN ⟨(op:Int),a,b,L⟩=op::gW ⟨(op:Int),a,b,L⟩:=rfl;obtain⟨l,hl⟩:∃l,l=gN ⟨(op:Int),a,b,L⟩++rest:=⟨_,rfl⟩
 rw[←hl];have hB:mD l 0 0=(op,1,0):=OH (r:=gW ⟨(op:Int),a,b,L⟩++rest) (by rw[hl,hp0];rfl);have h1:l.drop 1=gW ⟨(op:Int),a,b,L⟩++rest:=by rw[hl,hp0];rfl
 unfold eB;rw[hB,hp0];dsimp only;rw[f0];simp only[Bool.false_eq_true,if_false,bne_self_eq_false];unfold pI;unfold gW at h1⊢;by_cases g2:(aS (op:Int)==2)=true
 ·simp only[g2,if_true]at h1⊢;obtain⟨k1,k2⟩:=f2 g2;have e2:aS (op:Int)=2:=by simpa using g2
  obtain rfl:=fb (by omega);obtain rfl:=fl (by omega);have hk:FR l 1 0=(a,2,0):=by
   unfold FR;rw[OH h1,VV];have:a=0∨a=1∨a=2:=by omega
   rcases this with rfl|rfl|rfl<;>rfl
  rw[hk];rfl
 simp only[g2,Bool.false_eq_true,if_false]at h1⊢;by_cases g3:(aS (op:Int)==3)=true
 ·simp only[g3,if_true]at h1⊢;obtain⟨k1,k2⟩:=f3 g3;have e2:aS (op:Int)=3:=by simpa using g3
  obtain rfl:=fb (by omega);obtain rfl:=fl (by omega);obtain⟨a,rfl⟩:=Int.eq_ofNat_of_zero_le k1;rw[Int.toNat_natCast]at h1⊢;rw[tH h1 (by omega) k2];simp[jQ,Nat.add_comm]
 simp only[g3,Bool.false_eq_true,if_false]at h1⊢;by_cases g5:(aS (op:Int)==5)=true
 ·simp only[g5,if_true]at h1⊢;obtain⟨k1,k2⟩:=f5 g5;have e2:aS (op:Int)=5:=by simpa using g5
  obtain rfl:=fb (by omega);obtain rfl:=fl (by omega);obtain⟨a,rfl⟩:=Int.eq_ofNat_of_zero_le k1;rw[Int.toNat_natCast]at h1⊢;rw[List.append_assoc]at h1;rw[tH h1 (by omega) k2];dsimp only;rw[VW (uJ h1)];simp[jQ];omega
 simp only[g5,Bool.false_eq_true,if_false]at h1⊢;by_cases g4:(aS (op:Int)==4)=true
 ·simp only[g4,if_true]at h1⊢;obtain⟨⟨k1,k2⟩,k3,k4⟩:=f4 g4;have e2:aS (op:Int)=4:=by simpa using g4
  obtain rfl:=fb (by omega);obtain⟨a,rfl⟩:=Int.eq_ofNat_of_zero_le k1;rw[Int.toNat_natCast]at h1⊢;rw[List.append_assoc,List.append_assoc]at h1;have h2:=uJ h1;rw[tH h1 (by omega) (by omega)];dsimp only;rw[VY h2 k4 L.length (Nat.le_refl _),List.take_length];dsimp only;rw[tH (uJ h2) (by omega) k2];simp[jQ];omega
 simp only[g4,Bool.false_eq_true,if_false]at h1⊢;have e4:aS (op:Int)≠4:=by simpa using g4
 obtain rfl:=fl e4;by_cases g6:(aS (op:Int)==6)=true
 ·simp only[g6,if_true]at h1⊢;obtain⟨k1,k2,k3,k4⟩:=f6 g6;obtain⟨a,rfl⟩:=Int.eq_ofNat_of_zero_le k1;obtain⟨b,rfl⟩:=Int.eq_ofNat_of_zero_le k3;rw[Int.toNat_natCast,Int.toNat_natCast]at h1⊢;rw[List.append_assoc]at h1;rw[tH h1 (by omega) k2];dsimp only;rw[tH (uJ h1) (by omega) k4];simp[jQ];omega
 simp only[g6,Bool.false_eq_true,if_false]at h1⊢;have e6:aS (op:Int)≠6:=by simpa using g6
 obtain rfl:=fb e6;by_cases g7:(aS (op:Int)==7)=true
 ·simp only[g7,if_true]at h1⊢;obtain rfl:=f17 (by rw[g7];simp);rw[VW h1];simp[jQ]
 simp only[g7,Bool.false_eq_true,if_false]at h1⊢;by_cases g8:(aS (op:Int)==8)=true
 ·simp only[g8,Bool.true_or,if_true]at h1⊢;obtain⟨k1,k2⟩:=f8 g8;rw[VX (.inl rfl) h1 f9.1 f9.2 (fun _=>⟨k1,k2⟩)];simp[jQ,Nat.add_comm]
 simp only[g8,Bool.false_eq_true,if_false]at h1⊢;by_cases g9:(aS (op:Int)==9)=true
 ·simp only[g9,Bool.or_true,if_true]at h1⊢;rw[VX (.inr rfl) h1 f9.1 f9.2 (fun hc=>by cases hc)];simp[jQ,Nat.add_comm]
 simp only[g9,Bool.or_false,Bool.false_eq_true,if_false]at h1⊢;have ha:a=0:=by
  by_cases g1:aS (op:Int)=1
  ·exact f17 (by rw[g1];rfl)
  ·exfalso;have:cW ⟨(op:Int),a,0,[]⟩=false:=by
    unfold cW;have g1':(aS (op:Int)==1)=false:=by simpa using g1
    simp[g1',g2,g3,g4,g5,g6,g7,g8,g9]
   rw[this]at h;cases h
 subst ha;simp[jQ]
class NoE {α:Type} (enc:α→List AV):Prop where
 no:∀a,∀x∈enc a,NoF x
theorem VZ{α:Type}{enc:α→List AV} [h:NoE enc] {e:TypeId}{sz:Nat}{l:List α}:ENoF (.arr e sz (l.map enc)):=by
 intro y hy x hx;obtain⟨a,-,rfl⟩:=List.mem_map.1 hy;exact h.no a x hx
instance : NoE aH := ⟨fun a x hx => by simp [aH] at hx; subst hx; exact NoF.int⟩
theorem SU{P:Prop}(h:P:=by
  intro x σ' h;repeat(refine Exists.elim h ?_;clear h;intro _ h)
  first|(obtain⟨rfl,rfl⟩:=h)|(obtain⟨_,rfl,rfl⟩:=h)|(obtain⟨_,_,rfl,rfl⟩:=h)
  refine⟨aW, ?_⟩;intro p hp;simp only[List.mem_cons,List.not_mem_nil,or_false]at hp;repeat' (first|(rcases hp with rfl|hp)|(cases hp;done))
  all_goals first|exact VZ|exact enof_nil|exact enof_box aW):P:=h
section
variable {P : Program} {n : Nat} {ops : Array Oper} {rest : List Oper} {fr : Fr} {σ : cR} {K : ASt → Prop} {op : Op} {ty t t' : TypeId} {pos : String} {af : Array Edge} {x y : Operand} {d : Nat} {f : FuncId} {xs : List Operand} {ats : Array TypeId} {args : List AV}
theorem jK{v:AV}(hf:∀args w,(callFunc f args).run P w=.ok (.enter f args) w)(h:SCall P f args [] (fun x σ'=>x=v∧σ'=[]))(hd:Nat.ble (d+1) n=true)
  (hargs:ArgsIf ⟨fr,σ⟩ true (σ.map (·.1)) xs args) (hno:NoF v) (hK:RS P n ops rest ⟨(d,v)::fr,σ⟩ K):RS P n ops (⟨some d,.call { callee:=.value (.func f),args:=xs.toArray,argTypes:=ats },ty,pos,af,none⟩::rest) ⟨fr,σ⟩ K:=pu _ hf h hd hargs hno hK
theorem mE{j dj:Nat}{want b:Bool}{v:AV}(hj:(ops[j]?).bind (·.dst)=some dj)(hb:cN fr dj=some (.bool b))(hf:∀args w,(callFunc f args).run P w=.ok (.enter f args) w)
  (h:(b==want)=true→SCall P f args [] (fun x σ'=>x=v∧σ'=[])) (hd:Nat.ble (d+1) n=true) (hargs:ArgsIf ⟨fr,σ⟩ (b==want) (σ.map (·.1)) xs args) (hno:NoF v) (hK:RS P n ops rest ⟨(d,.when (b==want) v)::fr,σ⟩ K):
  RS P n ops (⟨some d,.call { callee:=.value (.func f),args:=xs.toArray,argTypes:=ats },ty,pos,af,some (j,want)⟩::rest) ⟨fr,σ⟩ K:=sZ _ hj hb hf h hd hargs hno hK
theorem SV{R:AV→cR→Prop}(hf:∀args w,(callFunc f args).run P w=.ok (.enter f args) w)(h:SCall P f args [] R)(hd:Nat.ble (d+1) n=true)
  (hargs:ArgsBor ⟨fr,σ⟩ (σ.map (·.1)) xs args) (hno:∀x σ',R x σ'→NoF x∧∀p∈σ',ENoF p.2) (hK:∀x σ',R x σ'→(∀p∈σ',Fresh p.1 σ)→RS P n ops rest ⟨(d,x)::fr,σ'++σ⟩ K):
  RS P n ops (⟨some d,.call { callee:=.value (.func f),args:=xs.toArray,argTypes:=ats },ty,pos,af,none⟩::rest) ⟨fr,σ⟩ K:=cl _ hf h hd hargs hno hK
theorem aDk{P:Prop}(h:P:=by(first|exact .inl ⟨_,rfl⟩|exact .inr (.inr ⟨_,_,_,_,_,rfl,bF,by simp,rfl⟩)|exact .inr (.inl ⟨_,_,rfl,rfl⟩))):P:=h
theorem aFJ{P:Prop}(h:P:=by(first|rfl|(simp;done)|(simp only[List.map_append,List.drop_zero];rfl)|(simp only[List.drop_zero,List.map_append,List.map_cons,List.map_nil];congr 1;exact List.take_of_length_le (by simp))|(simp only[List.drop_zero,List.map_append];congr 1;exact List.take_of_length_le (by first|(simp;done)|omega)))):P:=h
theorem OI{P:Prop}(h:P:=by(first|rfl|omega|(simp;done)|(simp;omega)|(simp[maxLen];omega))):P:=h
theorem mP{e:TypeId} [Ty P t (.slice e)] {sz by_:Nat}{zv:Value} [Tz P e sz by_ zv] {r len:Nat}{es ys:List (List AV)}(es':List (List AV))(len':Nat)
  (hK:∀r',Fresh r' (dE [r] σ)→∃σ',SSet σ r (.arr e sz es) r' (.arr e sz es') σ'∧RS P n ops rest ⟨(d,.own r' 0 len')::fr,σ'⟩ K)
  (hz:zv.cells.size=sz:=by rfl) (hb:aev ⟨fr,σ⟩ x=some (.own r 0 len):=by rfl) (hg:fB σ r=some (.arr e sz es):=by exact bF) (hlen:len=es.length:=by exact OI) (hy:Src ⟨fr,σ⟩ y sz ys:=by exact aDk)
  (he:es++ys=es':=by exact aFJ) (hl':len'=len+ys.length:=by exact OI) (hmax:len'≤maxLen:=by(simp[maxLen];try omega)) (hby:len'*by_≤140737488355328:=by(simp;try omega)) (hd:Nat.ble (d+1) n=true:=by rfl):
  RS P n ops (⟨some d,.call { callee:=.builtin .append,args:=#[x,y],argTypes:=#[t,t] },ty,pos,af,none⟩::rest) ⟨fr,σ⟩ K:=ap hz hb hg hlen hy he hl' hmax hby hd hK
theorem QE{j q:Nat}{v v':AV}{e:Ent}{σ':cR}(hx:cN fr j=some v)(hd:SDel σ q e σ')(hb:Bor σ [q] v v'):SGo ⟨fr,σ⟩ ⟨(j,v')::fr,σ'⟩:=by
 refine pD [q] (fun i x' hi=> ?_) (fun p hp=> ?_)
 ·simp only[cN]at hi;split at hi
  ·next h=>subst h;obtain rfl:=Option.some.inj hi;exact⟨_,hx,hb⟩
  ·exact⟨x',hi,.refl _⟩
 ·obtain⟨h1,h2⟩:=hd.sub p hp;exact⟨by simpa using h2,p.2,h1,.refl _⟩
theorem gX{j q:Nat}{v v':AV}{e:Ent}{σ':cR}(hx:cN fr j=some v)(hd:SDel σ q e σ')(hb:Bor σ [q] v v')(hK:RS P n ops rest ⟨(j,v')::fr,σ'⟩ K):RS P n ops rest ⟨fr,σ⟩ K:=jW (QE hx hd hb) hK
theorem aAB{ks:List Nat}{c:Code}{Q:Exit→ASt→Prop}{j q:Nat}{v v':AV}{e:Ent}{σ':cR}(hx:cN fr j=some v)(hd:SDel σ q e σ')(hb:Bor σ [q] v v')(hK:SW P n ks c ⟨(j,v')::fr,σ'⟩ Q):SW P n ks c ⟨fr,σ⟩ Q:=dM (QE hx hd hb) hK
theorem aK{q len sz:Nat}{et:TypeId}{es:List (List AV)}(hg:fB σ q=some (.arr et sz es))(hl:len=es.length):Bor σ [q] (.own q 0 len) (.ro sz es .any):=
 UT List.mem_cons_self hg (by omega) (by subst hl;simp)
variable {listed : Array Bool} {todo : List (Nat × Bool)} {held : List (Nat × List Nat)} {i : Nat}
theorem aFK{j dj:Nat}{want b:Bool}{v:AV}(hi:ops[i]? =some ⟨some d,.call { callee:=.value (.func f),args:=xs.toArray,argTypes:=ats },ty,pos,af,some (j,want)⟩)(hj:(ops[j]?).bind (·.dst)=some dj)(hb:cN fr dj=some (.bool b))(hf:∀args w,(callFunc f args).run P w=.ok (.enter f args) w)
  (h:(b==want)=true→SCall P f args [] (fun x σ'=>x=v∧σ'=[])) (hd:Nat.ble (d+1) n=true) (hargs:ArgsIf ⟨fr,σ⟩ (b==want) (σ.map (·.1)) xs args) (hno:NoF v) (hK:RD P n ops (listed.setIfInBounds i true) todo held ⟨(d,.when (b==want) v)::fr,σ⟩ K):
  RD P n ops listed ((i,false)::todo) held ⟨fr,σ⟩ K:=aGV _ hi hj hb hf h hd hargs hno hK
theorem vS{e:TypeId}{sz by_:Nat}{zv:Value}{r len:Nat}{es ys:List (List AV)}(hi:ops[i]? =some ⟨some d,.call { callee:=.builtin .append,args:=#[x,y],argTypes:=#[t,t] },ty,pos,af,none⟩)(es':List (List AV))(len':Nat)
  (hK:∀r',Fresh r' (dE [r] σ)→∃σ',SSet σ r (.arr e sz es) r' (.arr e sz es') σ'∧RD P n ops (listed.setIfInBounds i true) todo held ⟨(d,.own r' 0 len')::fr,σ'⟩ K)
  (i1:Ty P t (.slice e):=by infer_instance) (i2:Tz P e sz by_ zv:=by infer_instance) (hz:zv.cells.size=sz:=by rfl) (hx:aev ⟨fr,σ⟩ x=some (.own r 0 len):=by rfl) (hg:fB σ r=some (.arr e sz es):=by exact bF) (hlen:len=es.length:=by exact OI) (hy:Src ⟨fr,σ⟩ y sz ys:=by exact aDk)
  (he:es++ys=es':=by exact aFJ) (hl':len'=len+ys.length:=by exact OI) (hmax:len'≤maxLen:=by(simp[maxLen];try omega)) (hby:len'*by_≤140737488355328:=by(simp;try omega)) (hd:Nat.ble (d+1) n=true:=by rfl) (hb:HB ops i (σ.map (·.1)) [r] held:=by exact eU):
  RD P n ops listed ((i,false)::todo) held ⟨fr,σ⟩ K:=dap hi i1 i2 hz hx hg hlen hy he hl' hmax hby hd hb hK
end
theorem aDl{p q:Bool}:(if p=true then q else false)=(p&&q):=by cases p<;>rfl
theorem aCd{p q:Bool}:(if p=true then true else q)=(p||q):=by cases p<;>rfl
theorem bT{H R:Prop}(a:H)(h:H→R:=by intro h;(try simp only[aDl,aCd]at h);simp only[Bool.and_eq_true,Bool.or_eq_true,Bool.and_eq_false_iff,Bool.or_eq_false_iff,decide_eq_true_eq,decide_eq_false_iff_not,Bool.not_eq_true',Bool.not_eq_false',bne_iff_ne,beq_iff_eq,ne_eq,Bool.not_eq_eq_eq_not,Bool.not_true,Bool.not_false,bne_eq_false_iff_eq,beq_eq_false_iff_ne]at h;exact h):R:=h a
instance : NoE aL := ⟨fun a x hx => by simp [aL] at hx; subst hx; exact NoF.int⟩
theorem aAC(x:Ins):∀b∈gW x,b<256:=by
 have hf:∀l:List Int,∀b∈(l.flatMap fun n=>uB n.toNat),b<256:=by
  intro l b hb;obtain⟨n,-,hn⟩:=List.mem_flatMap.1 hb;exact jG _ b hn
 intro b hb;unfold gW at hb;split at hb
 ·rw[List.mem_singleton.1 hb];unfold zJ;split<;>(try split)<;>decide
 split at hb
 ·exact jG _ b hb
 split at hb
 ·rcases List.mem_append.1 hb with h|h
  ·exact jG _ b h
  ·rw[List.mem_singleton.1 h];decide
 split at hb
 ·rcases List.mem_append.1 hb with h|h
  ·rcases List.mem_append.1 h with h|h
   ·exact jG _ b h
   ·exact hf _ b h
  ·exact jG _ b h
 split at hb
 ·rcases List.mem_append.1 hb with h|h
  ·exact jG _ b h
  ·exact jG _ b h
 split at hb
 ·rw[List.mem_singleton.1 hb];decide
 split at hb
 ·exact aB6 _ x.a (Nat.le_refl _) b hb
 ·simp at hb
theorem QF{x:Ins}(hm:cW x=true):∀b∈gN x,b<256:=by
 intro b hb;rcases List.mem_cons.1 hb with rfl|hb
 ·have:=OF hm;omega
 ·exact aAC x b hb
theorem zM{x:Ins}(hx:x.Ok)(hm:cW x=true):(gN x).length≤200:=by
 unfold gN;rw[List.length_cons]
 suffices (gW x).length≤199 by omega
 unfold gW;split
 ·simp
 split
 ·next h=>have:=aDe hm h;have:=bS 1 x.a.toNat (by omega);omega
 split
 ·next h=>have:=aDf hm h;have:=bS 1 x.a.toNat (by omega);simp;omega
 split
 ·next h=>
  obtain⟨h1,h2,h3⟩:=aDg hm h;have:=bS 1 x.a.toNat (by omega);have:=bS 0 x.l.length (by omega);have:=uI h3;simp only[List.length_append];omega
 split
 ·next h=>have:=aDh hm h;have:=bS 0 x.a.toNat (by omega);have:=bS 4 x.b.toNat (by omega);simp;omega
 split
 ·simp
 split
 ·obtain⟨-,-,h1,h2,-⟩:=hx;have:=zI 9 x.a (by omega) (by omega);omega
 ·simp
theorem FW{x y:Ins}:eqN x y=true↔x=y:=by
 cases x;cases y
 simp[eqN]
theorem FX{P:Program}{f:Func}(h:(f.params.toList.all fun t=>P.readableRec t&&decide (t<P.types.size))=true):∀t∈f.params.toList,P.readableRec t=true∧t<P.types.size:=by
 intro t ht;have:=List.all_eq_true.1 h t ht;simpa using this
def VR0 (W:World):AV→Value→Prop:=VR (fun _=>none) (fun b=>b<W.heap.size) W
theorem FY{P:Program}{f:FuncId}{args:List AV}(h:SCall P f args [] (fun x _=>x=.bool true)){W:World}{vs:List Value}(hl:vs.length=args.length)(hv:∀(i:Nat) (x:AV) (v:Value),args[i]? =some x→vs[i]? =some v→VR0 W x v):
  Calls P f vs.toArray W fun e w'=>e=.returned (.bool true)∧Below W.heap.size W w':=by
 refine(h (fun _=>none) (fun b=>b<W.heap.size) 0 W vs hl hv ⟨by simp,by simp,fun g ⟨p,hp,_⟩=>by simp at hp,fun _ h=>h,fun _ _=>rfl⟩).mono ?_;rintro e w' ⟨v,x,M',F',N',σ',rfl,he,hvx,_,rfl⟩;cases hvx
 exact⟨rfl,he.only.below (Nat.le_refl _) fun i _ ⟨p,hp,_⟩=>by simp at hp⟩
theorem OJ{W:World}:∀(i:Nat) (x:AV) (v:Value),([]:List AV)[i]? =some x→([]:List Value)[i]? =some v→VR0 W x v:=fun i x v h=>by simp at h
theorem uK{W:World}{x:AV}{v:Value}{xs:List AV}{vs:List Value}(h:VR0 W x v)(k:∀(i:Nat) (x:AV) (v:Value),xs[i]? =some x→vs[i]? =some v→VR0 W x v):
  ∀(i:Nat) (x':AV) (v':Value),(x::xs)[i]? =some x'→(v::vs)[i]? =some v'→VR0 W x' v':=by
 intro i x' v' hx hv
 match i with
 |0=>simp at hx hv;subst hx hv;exact h
 |i+1=>exact k i x' v' (by simpa using hx) (by simpa using hv)
theorem uL:∀ {M:List Ins},(∀x∈M,x.Ok∧cW x=true)→(M.flatMap gN).length≤200*M.length
 |[],_=>by simp
 |x::M,h=>by
  have ih:=uL (M:=M) fun y hy=>h y (List.mem_cons_of_mem _ hy)
  have h1:=zM (h x List.mem_cons_self).1 (h x List.mem_cons_self).2;simp only[List.flatMap_cons,List.length_append,List.length_cons];omega
theorem KX{M:List Ins}(h:∀x∈M,x.Ok∧cW x=true):∀b∈M.flatMap gN,b<256:=by
 intro b hb;obtain⟨x,hx,hb⟩:=List.mem_flatMap.1 hb;exact QF (h x hx).2 b hb
def Sp (l:List Nat) (n m:Nat) (p:List Nat):Prop:=l.drop n=p++l.drop m∧m=n+p.length∧m≤l.length
theorem Sp.trans {l:List Nat}{n m k:Nat}{p q:List Nat}(h:Sp l n m p)(g:Sp l m k q):Sp l n k (p++q):=
 ⟨by rw[h.1,g.1,List.append_assoc],by rw[g.2.1,h.2.1,List.length_append];omega,g.2.2⟩
theorem Sp.nil {l:List Nat}{n:Nat}(h:n≤l.length):Sp l n n []:=⟨rfl,by simp,h⟩
theorem QG{l:List Nat}{n k:Nat}(h:n+k≤l.length):Sp l n (n+k) ((l.drop n).take k):=by
 have hk:((l.drop n).take k).length=k:=by simp;omega
 refine⟨?_,by rw[hk],h⟩;rw[←List.drop_drop];exact(List.take_append_drop k (l.drop n)).symm
theorem OK{l:List Nat}{n:Nat}(hn:n≤l.length)(h:(mD l n 0).2.2=0):Sp l n (mD l n 0).2.1 [(mD l n 0).1]∧(mD l n 0).1∈l:=by
 unfold mD at h⊢;rw[if_neg (by simp)]at h⊢;by_cases hc:((n:Int)==(l.length:Int))=true
 ·rw[if_pos hc]at h;cases h
 ·rw[if_neg hc];have hlt:n<l.length:=by simp at hc;omega
  dsimp only;rw[getElem!_pos l n hlt];exact⟨⟨by rw[List.drop_eq_getElem_cons hlt];rfl,rfl,hlt⟩,List.getElem_mem hlt⟩
theorem tI{l:List Nat}{lim:Int}{n:Nat}(hn:n≤l.length)(h:(fD l lim n 0).2.2=0):Sp l n (fD l lim n 0).2.1 (uB (fD l lim n 0).1)∧((fD l lim n 0).1:Int)≤lim∧(fD l lim n 0).1<4294967296:=by
 obtain⟨b1,b2,-⟩:=uF (l.drop n);unfold fD at h⊢;rw[if_neg (by simp)]at h⊢;split at h
 ·next h1=>simp at h1;exact absurd h (by simpa using h1)
 ·next h1=>
  rw[if_neg h1];split at h
  ·cases h
  ·next h2=>
   rw[if_neg h2];dsimp only;simp only[decide_eq_true_eq,Int.not_lt]at h2;refine⟨?_,h2,b1⟩;simp only[bne_iff_ne,ne_eq,Decidable.not_not]at h1;unfold jH at h1 b2⊢;split at h1
   ·next h3=>exact absurd h1 h3
   ·next h3=>
    rw[if_neg h3]at b2⊢;split at h1
    ·next h4=>
     rw[if_pos h4]at b2⊢;rw[h4.1];simp at b2;exact QG (by simp;omega)
    ·cases h1
theorem KY(n:Int):-9223372036854775808≤IntKind.i64.wrap n∧IntKind.i64.wrap n≤9223372036854775807:=by
 have h1:(2:Int)^IntKind.i64.bits=18446744073709551616:=by decide
 have h3:(2:Int)^(IntKind.i64.bits-1)=9223372036854775808:=by decide
 have h2:IntKind.i64.signed=true:=rfl;unfold IntKind.wrap;simp only[h1,h2,h3,Bool.true_and,decide_eq_true_eq];split<;>omega
theorem WA{l:List Nat}{bits:Nat}(hb:bits=32∨bits=64){n:Nat}(hn:n≤l.length)(h:(wR l bits n).2.2=0):Sp l n (wR l bits n).2.1 (sB (wR l bits n).1)∧(-9223372036854775808≤(wR l bits n).1∧(wR l bits n).1≤9223372036854775807)∧(bits=32→ -2147483648≤(wR l bits n).1∧(wR l bits n).1≤2147483647):=by
 have hv:∀t:List Nat,-9223372036854775808≤jO t∧jO t≤9223372036854775807:=by
  intro t
  match t with
  |[]=>simp[jO]
  |[b]=>unfold jO;split<;>omega
  |b::c::t=>
   rw[jO];exact KY _
 have b2:=QD bits (l.drop n);unfold wR at h⊢;dsimp only at h⊢;unfold sJ at h b2⊢;split at h
 ·next h3=>exact absurd h h3
 ·next h3=>
  rw[if_neg h3]at b2⊢;split at h
  ·next h4=>
   rw[if_pos h4]at b2⊢;dsimp only at b2⊢;refine⟨?_,hv _,h4.2⟩;rw[h4.1];simp at b2;exact QG (by omega)
  ·cases h
theorem WB{l:List Nat}{n:Nat}(hn:n≤l.length)(h:(FP l n 0).2=0):Sp l n (FP l n 0).1 [0]:=by
 unfold FP at h⊢;split at h
 ·cases h
 ·next h1=>
  rw[if_neg h1];have:=(OK hn h).1;rw[show(mD l n 0).1=0 by simpa using h1]at this;exact this
theorem aDm{l:List Nat}{n:Nat}{e:Int}(h:e≠0):mD l n e=(0,n,e):=by unfold mD;rw[if_pos (by simpa using h)]
theorem FZ{l:List Nat}{lim:Int}{n:Nat}{e:Int}(h:e≠0):fD l lim n e=(0,n,e):=by unfold fD;rw[if_pos (by simpa using h)]
theorem aDn{l:List Nat}{n:Nat}(hn:n≤l.length)(h:(FR l n 0).2.2=0):Sp l n (FR l n 0).2.1 [zJ (FR l n 0).1]∧0≤(FR l n 0).1∧(FR l n 0).1≤2:=by
 unfold FR at h⊢;by_cases h1:(if decide (rI (mD l n 0).1<0)=true then((mD l n 0).2.2==0)else false)=true
 ·rw[if_pos h1]at h;cases h
 ·rw[if_neg h1]at h⊢;dsimp only at h⊢;obtain⟨s,-⟩:=OK hn h;have hk:¬rI (mD l n 0).1<0:=by
   intro hk;rw[h,if_pos (by simpa using hk)]at h1;exact h1 rfl
  rw[if_neg hk];generalize hc:(mD l n 0).1=c at hk s⊢;have:c=64∨c=127∨c=126:=by
   by_cases c1:c=64
   ·exact .inl c1
   by_cases c2:c=127
   ·exact .inr (.inl c2)
   by_cases c3:c=126
   ·exact .inr (.inr c3)
   exfalso;apply hk;unfold rI OG;rw[show([64,127,126]:List Int).findIdx? (· ==(c:Int))=none by
    simp only[List.findIdx?_cons,List.findIdx?_nil];rw[if_neg (by simp;omega),if_neg (by simp;omega),if_neg (by simp;omega)];rfl]
   decide
  rcases this with rfl|rfl|rfl<;>exact⟨s,by decide,by decide⟩
theorem OL{l:List Nat}{n:Nat}{e:Int}(h:e≠0):∀m,(nU l m n e).2.2≠0
 |0=>h
 |m+1=>by
  rw[nU];dsimp only;rw[FZ (OL h m)];exact OL h m
theorem WC{l:List Nat}{n:Nat}(hn:n≤l.length):∀m,(nU l m n 0).2.2=0→Sp l n (nU l m n 0).2.1 ((nU l m n 0).1.flatMap fun z=>uB z.toNat)∧∀z∈(nU l m n 0).1,0≤z∧z≤1000
 |0,_=>⟨Sp.nil hn,by simp[nU]⟩
 |m+1,h=>by
  rw[nU]at h⊢;dsimp only at h⊢;have h0:(nU l m n 0).2.2=0:=by
   by_cases hc:(nU l m n 0).2.2=0
   ·exact hc
   ·rw[FZ hc]at h;exact h
  obtain⟨s,hz⟩:=WC hn m h0;rw[h0]at h⊢;obtain⟨s2,h2,-⟩:=tI s.2.2 h;refine⟨?_,fun z hz2=> ?_⟩
  ·rw[List.flatMap_append];simpa using s.trans s2
  ·rcases List.mem_append.1 hz2 with hz2|hz2
   ·exact hz z hz2
   ·rw[List.mem_singleton.1 hz2];omega
theorem pK{x:Ins}{n:Nat}{e:Int}(h:(jQ x n e).2.2=0):e=0∧jQ x n e=(x,n,0):=by
 unfold jQ at h⊢;by_cases he:e=0
 ·subst he;exact⟨rfl,rfl⟩
 ·rw[if_pos (by simpa using he)]at h;exact absurd h he
theorem aDo{l:List Nat}{n:Nat}{e:Int}(h:e≠0):(FP l n e).2≠0:=by unfold FP;rw[aDm h,if_neg (by simp)];exact h
theorem SX(op:Int):aS op=0∨aS op=1∨aS op=2∨aS op=3∨aS op=4∨aS op=5∨aS op=6∨aS op=7∨aS op=8∨aS op=9:=by
 unfold aS nC;repeat' split
 all_goals simp
theorem OM{l:List Nat}{op:Nat}(hop:op<256){n:Nat}(hn:n≤l.length)(hf:(aS (op:Int)==0)=false)(h:(pI l op n 0).2.2=0):
  (pI l op n 0).1.op=op∧(pI l op n 0).1.Ok∧cW (pI l op n 0).1=true∧Sp l n (pI l op n 0).2.1 (gW (pI l op n 0).1):=by
 unfold pI at h⊢;by_cases g2:(aS (op:Int)==2)=true
 ·simp only[g2,if_true]at h⊢;obtain⟨he,hx⟩:=pK h;rw[hx];obtain⟨s,k1,k2⟩:=aDn hn he;have e2:aS (op:Int)=2:=by simpa using g2
  refine⟨rfl,⟨by dsimp only;omega,by dsimp only;omega,by dsimp only;omega,by dsimp only;omega,by simp⟩,by simp[cW,jI,e2,jA];omega, ?_⟩;simp only[gW,e2];exact s
 simp only[g2,Bool.false_eq_true,if_false]at h⊢;by_cases g3:(aS (op:Int)==3)=true
 ·simp only[g3,if_true]at h⊢;obtain⟨he,hx⟩:=pK h;rw[hx];obtain⟨s,k1,k2⟩:=tI hn he;have e2:aS (op:Int)=3:=by simpa using g3
  refine⟨rfl,⟨by dsimp only;omega,by dsimp only;omega,by dsimp only;omega,by dsimp only;omega,by simp⟩,by simp[cW,jI,e2,jA];omega, ?_⟩;simp only[gW,e2];exact s
 simp only[g3,Bool.false_eq_true,if_false]at h⊢;by_cases g5:(aS (op:Int)==5)=true
 ·simp only[g5,if_true]at h⊢;obtain⟨he,hx⟩:=pK h;rw[hx];have h0:(fD l 1000 n 0).2.2=0:=by
   by_cases hc:(fD l 1000 n 0).2.2=0
   ·exact hc
   ·exact absurd he (aDo hc)
  obtain⟨s,k1,k2⟩:=tI hn h0;rw[h0]at he⊢;have s2:=WB s.2.2 he;have e2:aS (op:Int)=5:=by simpa using g5
  refine⟨rfl,⟨by dsimp only;omega,by dsimp only;omega,by dsimp only;omega,by dsimp only;omega,by simp⟩,by simp[cW,jI,e2,jA];omega, ?_⟩;simp only[gW,e2];exact s.trans s2
 simp only[g5,Bool.false_eq_true,if_false]at h⊢;by_cases g4:(aS (op:Int)==4)=true
 ·simp only[g4,if_true]at h⊢;obtain⟨he,hx⟩:=pK h;rw[hx];have h1:(nU l (fD l 50 n 0).1 (fD l 50 n 0).2.1 (fD l 50 n 0).2.2).2.2=0:=by
   by_cases hc:(nU l (fD l 50 n 0).1 (fD l 50 n 0).2.1 (fD l 50 n 0).2.2).2.2=0
   ·exact hc
   ·rw[FZ hc]at he;exact he
  have h0:(fD l 50 n 0).2.2=0:=by
   by_cases hc:(fD l 50 n 0).2.2=0
   ·exact hc
   ·exact absurd h1 (OL hc _)
  obtain⟨s,k1,k2⟩:=tI hn h0;rw[h0]at h1 he⊢;obtain⟨s2,hz⟩:=WC s.2.2 _ h1;have hlen:=FU (l:=l) (m:=(fD l 50 n 0).1) (n:=(fD l 50 n 0).2.1) (e:=0);rw[h1]at he⊢;obtain⟨s3,k3,k4⟩:=tI s2.2.2 he;have e2:aS (op:Int)=4:=by simpa using g4
  generalize nU l (fD l 50 n 0).1 (fD l 50 n 0).2.1 0=w at*;obtain⟨L,m,e⟩:=w;dsimp only at*;have hany:(L.any fun z=> !vI z 0 1000)=false:=by
   rw[List.any_eq_false];intro z hzz;have:=hz z hzz;simp[jA];omega
  refine⟨rfl,⟨by dsimp only;omega,by dsimp only;omega,by dsimp only;omega,by dsimp only;omega,by simp;omega⟩, ?_, ?_⟩
  ·unfold cW jI;dsimp only;rw[e2,hany];simp[jA];omega
  ·unfold gW;dsimp only;rw[e2,hlen];exact(s.trans s2).trans s3
 simp only[g4,Bool.false_eq_true,if_false]at h⊢;by_cases g6:(aS (op:Int)==6)=true
 ·simp only[g6,if_true]at h⊢;obtain⟨he,hx⟩:=pK h;rw[hx];have h0:(fD l 3 n 0).2.2=0:=by
   by_cases hc:(fD l 3 n 0).2.2=0
   ·exact hc
   ·rw[FZ hc]at he;exact absurd he hc
  obtain⟨s,k1,k2⟩:=tI hn h0;rw[h0]at he⊢;obtain⟨s2,k3,k4⟩:=tI s.2.2 he;have e2:aS (op:Int)=6:=by simpa using g6
  refine⟨rfl,⟨by dsimp only;omega,by dsimp only;omega,by dsimp only;omega,by dsimp only;omega,by simp⟩,by simp[cW,jI,e2,jA];omega, ?_⟩;simp only[gW,e2];exact s.trans s2
 simp only[g6,Bool.false_eq_true,if_false]at h⊢;by_cases g7:(aS (op:Int)==7)=true
 ·simp only[g7,if_true]at h⊢;obtain⟨he,hx⟩:=pK h;rw[hx];have s:=WB hn he;have e2:aS (op:Int)=7:=by simpa using g7
  refine⟨rfl,⟨by dsimp only;omega,by dsimp only;omega,by simp,by simp,by simp⟩,by simp[cW,jI,e2], ?_⟩;simp only[gW,e2];exact s
 simp only[g7,Bool.false_eq_true,if_false]at h⊢;by_cases g8:(aS (op:Int)==8)=true
 ·simp only[g8,if_true]at h⊢;obtain⟨he,hx⟩:=pK h;rw[hx];obtain⟨s,k1,k2⟩:=WA (.inl rfl) hn he;have k2:=k2 rfl;have e2:aS (op:Int)=8:=by simpa using g8
  refine⟨rfl,⟨by dsimp only;omega,by dsimp only;omega,by dsimp only;omega,by dsimp only;omega,by simp⟩,by simp[cW,jI,e2,jA];omega, ?_⟩;simp only[gW,e2];exact s
 simp only[g8,Bool.false_eq_true,if_false]at h⊢;by_cases g9:(aS (op:Int)==9)=true
 ·simp only[g9,if_true]at h⊢;obtain⟨he,hx⟩:=pK h;rw[hx];obtain⟨s,k1,k2⟩:=WA (.inr rfl) hn he;have e2:aS (op:Int)=9:=by simpa using g9
  refine⟨rfl,⟨by dsimp only;omega,by dsimp only;omega,by dsimp only;omega,by dsimp only;omega,by simp⟩,by simp[cW,jI,e2], ?_⟩;simp only[gW,e2];exact s
 simp only[g9,Bool.false_eq_true,if_false]at h⊢;have e2:aS (op:Int)=1:=by
  simp at hf g2 g3 g4 g5 g6 g7 g8 g9;have:=SX (op:Int);omega
 obtain⟨he,hx⟩:=pK h;rw[hx];refine⟨rfl,⟨by dsimp only;omega,by dsimp only;omega,by simp,by simp,by simp⟩,by simp[cW,jI,e2], ?_⟩;simp only[gW,e2];exact Sp.nil hn
theorem tJ{l:List Nat}(hlt:∀x∈l,x<256)(h:(eB l).2.2=0):(eB l).1.Ok∧cW (eB l).1=true∧Sp l 0 (eB l).2.1 (gN (eB l).1):=by
 unfold eB at h⊢;by_cases g1:(aS ((mD l 0 0).1:Nat)==0)=true
 ·rw[if_pos g1]at h;cases h
 rw[if_neg g1]at h⊢;by_cases g2:((mD l 0 0).2.2 !=0)=true
 ·rw[if_pos g2]at h;rw[show(mD l 0 0).2.2=0 from h]at g2;simp at g2
 rw[if_neg g2]at h⊢;have he:(mD l 0 0).2.2=0:=by simpa using g2
 obtain⟨s,hm⟩:=OK (Nat.zero_le _) he;rw[he]at h⊢;obtain⟨k1,k2,k3,k4⟩:=OM (hlt _ hm) s.2.2 (by simpa using g1) h;refine⟨k2,k3, ?_⟩;have:=s.trans k4;unfold gN;rw[k1];exact this
theorem aHH{P:Prop}(h:P:=by(first|rfl|(simp;done)|(rw[List.drop_zero];exact List.take_of_length_le (by first|(simp;done)|(simp;omega)|omega))|(simp only[List.map_take,List.map_drop,List.drop_zero];done))):P:=h
theorem WD{α:Type}{l:List α}{n:Nat}(h:l.length≤n):(l.drop 0).take n=l:=by rw[List.drop_zero];exact List.take_of_length_le h
theorem aFM{P:Prop}(h:P:=by(first|exact WD (by first|(simp;done)|(simp;omega)|omega)|rfl)):P:=h
section
variable {P : Program} {n : Nat} {ops : Array Oper} {rest : List Oper} {fr : Fr} {σ : cR} {K : ASt → Prop} {op : Op} {ty t t' : TypeId} {pos : String} {af : Array Edge} {x y : Operand} {d : Nat}
variable {listed : Array Bool} {todo : List (Nat × Bool)} {held : List (Nat × List Nat)} {i : Nat}
theorem aHI{e:TypeId}{sz by_:Nat}{zv:Value}{z:Nat}{k:Rk}{ys:List (List AV)}(hi:ops[i]? =some ⟨some d,.call { callee:=.builtin .append,args:=#[x,y],argTypes:=#[t,t] },ty,pos,af,none⟩)(es':List (List AV))(len':Nat)
  (hK:∀r,Fresh r σ→RD P n ops (listed.setIfInBounds i true) todo held ⟨(d,.own r 0 len')::fr,(r,.arr e sz es')::σ⟩ K)
  (i1:Ty P t (.slice e):=by infer_instance) (i2:Tz P e sz by_ zv:=by infer_instance) (hz:zv.cells.size=sz:=by rfl) (h0:Nat.ble 1 sz=true:=by rfl) (hb:aev ⟨fr,σ⟩ x=some (.ro z [] k):=by rfl) (hk:k≠ .any:=by decide) (hy:Src ⟨fr,σ⟩ y sz ys:=by exact aDk) (he:ys=es':=by exact aHH) (hl:len'=ys.length:=by exact OI) (hby:len'*by_≤140737488355328:=by(simp;try omega)) (hd:Nat.ble (d+1) n=true:=by rfl):
  RD P n ops listed ((i,false)::todo) held ⟨fr,σ⟩ K:=by
 subst he hl;exact vM hi (yU (Nat.le_of_ble_eq_true h0) hz hb hk hy hby (cL hd) hK)
end
theorem iE{fr:Fr}{σ σ1 σ':cR}{r q:Nat}{bt:TypeId}{cs cs':List AV}{e:Ent}(hs:SSet σ r (.box bt cs) r (.box bt cs') σ1)(hd:SDel σ1 q e σ')(hb:BorL σ [q] cs cs'):SGo ⟨fr,σ⟩ ⟨fr,σ'⟩:=by
 refine pD [q] (fun i x' hi=>⟨x',hi,.refl _⟩) (fun p hp=> ?_);obtain⟨h1,h2⟩:=hd.sub p hp;refine⟨by simpa using h2, ?_⟩;rcases List.mem_cons.1 (hs.sub p h1)with rfl|h
 ·exact⟨_,bI hs.get,.box (ZX hb)⟩
 ·exact⟨p.2,(eH h).1,.refl _⟩
theorem yD{fr:Fr}{σ σ':cR}{o:Nat}{e:TypeId}{sz:Nat}{es:List (List AV)}(k:Nat)(hs:SSet σ o (.arr e sz es) o (.arr e sz (es.take k)) σ'):SGo ⟨fr,σ⟩ ⟨fr,σ'⟩:=by
 intro M F N n a w hr;have hmem:∀p∈σ',(∃x,(p.1,x)∈σ)∧ER M F w p.1 p.2:=by
  intro p hp;rcases List.mem_cons.1 (hs.sub p hp)with rfl|h
  ·refine⟨⟨_,bI hs.get⟩, ?_⟩;obtain⟨h0,h1,h2⟩:=hr.st.ent _ (bI hs.get);refine⟨h0,fun x hx=>h1 x (List.mem_of_mem_take hx), ?_⟩;rcases h2 with⟨h2,h3⟩|⟨g,c,vs,h2,h3,h4,h5,h6,h7⟩
   ·exact .inl ⟨h2,by simp[h3]⟩
   ·refine .inr ⟨g,c,vs,h2,h3,h4,by simp;omega,h6,fun i x j b u hi=> ?_⟩;rw[List.getElem?_take]at hi;split at hi
    ·exact h7 i x j b u hi
    ·cases hi
  ·exact⟨⟨p.2,(eH h).1⟩,hr.st.ent p (eH h).1⟩
 exact⟨M,F,N,⟨hr.size,hr.defers,hr.fr,hr.st.retold hmem⟩,Ext.retold fun p hp=>(hmem p hp).1⟩
theorem mQ(a:List Nat):(cU a).size=a.length:=by simp[cU,ByteArray.size]
section
variable {P : Program} {ty t t' : TypeId} {s : ASt} {c : Bool} {x y : Operand}
theorem GA{e:TypeId} [Ty P t (.slice e)] [Ty P e (.int .u8)] [Ty P t' .string] {bs bs':List Nat}{r off len:Nat}{et:TypeId}(h:Ev s c x (.own r off len))(hg:fB s.σ r=some (.arr et 1 (bs.map aH)):=by exact bF)(hle:off+len≤bs.length:=by exact OI)(hbs:(bs.drop off).take len=bs':=by exact aFM):Lop P (.convert t t' x) ty s c (.str (cU bs')) [r]:=BJ h hg hle hbs
end
end Go.Proofs.YtjpdadobblffmaaGreat
namespace Go.Proofs.YtjpdadobblffmaaGreat
open Go.RowKit Go.ChangeShapes Go.WideShapes Go.ChangeAt Go.Deep
attribute [local irreducible] SW RS RD eM dR
def SY (n:Nat):List AV:=[.int .i64 n]
instance : NoE SY := ⟨fun a x hx => by simp [SY] at hx; subst hx; exact NoF.int⟩
structure Bk where
 at_:Nat
 els:Int
 en:Int
def BU (b:Bk):List AV:=[.int .i64 b.at_,.int .i64 b.els,.int .i64 b.en]
instance : NoE BU := ⟨fun a x hx => by simp [BU] at hx; rcases hx with rfl | rfl | rfl <;> exact NoF.int⟩
def tK (op:Int):Bool:=op==2||op==3||op==4
structure MS where
 all:List Bk
 opn:List Nat
def xM (ops:List Int) (s:MS) (i:Nat) (op:Int):Option MS:=
 match s.opn.getLast? with
 |none=>none
 |some k=>match s.all[k]? with
  |none=>none
  |some b=>if op=11 then some ⟨s.all.set k ⟨b.at_,b.els,i⟩,s.opn.dropLast⟩
   else if ops[b.at_]? ≠some (4:Int)∨0≤b.els then none else some ⟨s.all.set k ⟨b.at_,i,b.en⟩,s.opn⟩
def lN (ops:List Int) (s:MS) (i:Nat) (op:Int):Option MS:=
 if tK op=true then(if s.opn.length=40 then none else some ⟨s.all++ [⟨i,-1,-1⟩],s.opn++ [s.all.length]⟩)
 else if op≠5∧op≠11 then some s else xM ops s i op
def nD (ops:List Int):Nat→Option MS
 |0=>some ⟨[],[]⟩
 |j+1=>match nD ops j,ops[j]? with
  |some s,some op=>lN ops s j op
  | _,_=>none
theorem vT{ops:List Int}{j:Nat}{s:MS}{op:Int}(h:nD ops j=some s)(ho:ops[j]? =some op):nD ops (j+1)=lN ops s j op:=by
 rw[nD,h,ho]
theorem vU{ops:List Int}{j:Nat}(h:nD ops j=none):∀d,nD ops (j+d)=none
 |0=>h
 |d+1=>by rw[←Nat.add_assoc,nD,vU h d]
structure MOk (j:Nat) (s:MS):Prop where
 opn:∀k∈s.opn,k<s.all.length
 at_:∀b∈s.all,b.at_<j
 len:s.opn.length≤40
 all:s.all.length≤j
theorem WE{ops:List Int}{j:Nat}{s s':MS}{op:Int}(h:MOk j s)(hs:lN ops s j op=some s'):MOk (j+1) s':=by
 unfold lN at hs;split at hs
 ·split at hs
  ·cases hs
  ·next h40=>
   obtain rfl:=Option.some.inj hs;refine⟨fun k hk=> ?_,fun b hb=> ?_,by have:=h.len;simp;omega,by have:=h.all;simp;omega⟩
   ·rcases List.mem_append.1 hk with hk|hk
    ·have:=h.opn k hk;simp;omega
    ·rw[List.mem_singleton.1 hk];simp
   ·rcases List.mem_append.1 hb with hb|hb
    ·have:=h.at_ b hb;omega
    ·rw[List.mem_singleton.1 hb];exact Nat.lt_succ_self _
 split at hs
 ·obtain rfl:=Option.some.inj hs;exact⟨h.opn,fun b hb=>Nat.lt_succ_of_lt (h.at_ b hb),h.len,Nat.le_succ_of_le h.all⟩
 unfold xM at hs;split at hs
 ·cases hs
 split at hs
 ·cases hs
 ·next k hk b hb=>
  have hbm:=h.at_ b (List.mem_of_getElem? hb);split at hs
  ·obtain rfl:=Option.some.inj hs;refine⟨fun x hx=> ?_,fun x hx=> ?_,by have:=h.len;simp;omega,by have:=h.all;simp;omega⟩
   ·have:=h.opn x ((List.dropLast_sublist _).subset hx);simpa using this
   ·rcases List.mem_or_eq_of_mem_set hx with hx|rfl
    ·exact Nat.lt_succ_of_lt (h.at_ x hx)
    ·exact Nat.lt_succ_of_lt hbm
  split at hs
  ·cases hs
  ·obtain rfl:=Option.some.inj hs;refine⟨fun x hx=> ?_,fun x hx=> ?_,h.len,by have:=h.all;simp;omega⟩
   ·have:=h.opn x hx;simpa using this
   ·rcases List.mem_or_eq_of_mem_set hx with hx|rfl
    ·exact Nat.lt_succ_of_lt (h.at_ x hx)
    ·exact Nat.lt_succ_of_lt hbm
theorem yE{ops:List Int}:∀ {j:Nat} {s:MS},nD ops j=some s→MOk j s
 |0,s,h=>by
  obtain rfl:=Option.some.inj h;exact⟨by simp,by simp,by simp,by simp⟩
 |j+1,s,h=>by
  rw[nD]at h;split at h
  ·next s0 op h1 h2=>exact WE (yE h1) h
  ·cases h
def iP (ops:List Int):Option (List Bk):=if 300<ops.length then none else match nD ops ops.length with|some ⟨all,[]⟩=>some all| _=>none
def WF (ops:List Int):List Bk:=(iP ops).getD []
def wT (ops:List Int):Bool:=(iP ops).isSome
theorem tL{ops:List Int}{j:Nat}(h:nD ops j=none)(hj:j≤ops.length):iP ops=none:=by
 unfold iP;split
 ·rfl
 ·have:=vU h (ops.length-j);rw[Nat.add_sub_cancel' hj]at this;rw[this]
def dQ (l:List Ins):List Int:=l.map Ins.op
theorem zN{l:List Ins}{j:Nat}{x:Ins}(h:l[j]? =some x):(dQ l)[j]? =some x.op:=by simp[dQ,h]
theorem uM{ops:List Int}{q:Nat}{t:TypeId}(h:iP ops=none):∃q2,AV.tup [.own q 0 0,.bool false]=.tup [.own q2 0 (WF ops).length,.bool (wT ops)]∧([(q,.arr t 3 [])]:cR)=[(q2,.arr t 3 ((WF ops).map BU))]:=
 ⟨q,by simp[WF,wT,h],by simp[WF,h]⟩
theorem tM(op:Int):SCall Tryz.prog 186 [.int .i64 op] [] (fun x σ=>x=.bool (tK op)∧σ=[]):=by
 refine bO 13 [0,2] Tryz.func186 ?_;refine kM ?_;refine lo (bY (E rfl) (E rfl)) rfl ?_;refine gA ?_;refine lJ ?_;refine gK ?_;refine gA ?_;refine lJ ?_;refine gK ?_;refine cI ?_;exact aE aF ⟨by show AV.bool _=_;congr 1;simp only[aCd,tK],rfl⟩ aA
theorem DY{ops:List Int}{s:MS}{j:Nat}{op:Int}(h:tK op=true)(hl:s.opn.length≠40):lN ops s j op=some ⟨s.all++ [⟨j,-1,-1⟩],s.opn++ [s.all.length]⟩:=by
 unfold lN;rw[if_pos h,if_neg hl]
theorem DZ{ops:List Int}{s:MS}{j:Nat}{op:Int}(h:tK op=true)(hl:s.opn.length=40):lN ops s j op=none:=by
 unfold lN;rw[if_pos h,if_pos hl]
theorem EA{ops:List Int}{s:MS}{j:Nat}{op:Int}(h:tK op=false)(h1:op≠5)(h2:op≠11):lN ops s j op=some s:=by
 unfold lN;rw[if_neg (by simp[h]),if_pos ⟨h1,h2⟩]
theorem KZ{ops:List Int}{s:MS}{j:Nat}{op:Int}(h:tK op=false)(h1:op=5∨op=11):lN ops s j op=xM ops s j op:=by
 unfold lN;rw[if_neg (by simp[h]),if_neg (by omega)]
theorem WG{ops:List Int}{all:List Bk}{j:Nat}{op:Int}:xM ops ⟨all,[]⟩ j op=none:=rfl
theorem QH{ops:List Int}{all:List Bk}{pre:List Nat}{k j:Nat}{b:Bk}(hb:all[k]? =some b):xM ops ⟨all,pre++ [k]⟩ j 11=some ⟨all.set k ⟨b.at_,b.els,j⟩,pre⟩:=by
 unfold xM;simp[hb]
theorem LA{ops:List Int}{all:List Bk}{pre:List Nat}{k j:Nat}{b:Bk}(hb:all[k]? =some b)(h4:ops[b.at_]? =some 4)(he:¬0≤b.els):xM ops ⟨all,pre++ [k]⟩ j 5=some ⟨all.set k ⟨b.at_,j,b.en⟩,pre++ [k]⟩:=by
 unfold xM;simp[hb,h4,he]
theorem QI{ops:List Int}{all:List Bk}{pre:List Nat}{k j:Nat}{b:Bk}(hb:all[k]? =some b)(h:ops[b.at_]? ≠some 4∨0≤b.els):xM ops ⟨all,pre++ [k]⟩ j 5=none:=by
 unfold xM;simp[hb];intro h4;rcases h with h|h
 ·exact absurd h4 h
 ·exact h
theorem aAD{pre:List Nat}{k:Nat}:(pre++ [k])[(((pre++ [k]).length:Nat)-1:Int).toNat]? =some k:=by
 rw[show(((pre++ [k]).length:Nat)-1:Int).toNat=pre.length by simp];simp
theorem WH{α:Type}{l:List α}{k:Nat}{x:α}(h:l[k]? =some x):l[(k:Int).toNat]? =some x:=by rw[Int.toNat_natCast];exact h
theorem jR(l:List Ins)(hl:l.length≤100000):SCall Tryz.prog 75 [.ro 4 (l.map (iv .any)) .any] []
  (fun y σ=>∃q,y=.tup [.own q 0 (WF (dQ l)).length,.bool (wT (dQ l))]∧σ=[(q,.arr 162 3 ((WF (dQ l)).map BU))]):=by
 have hol:(dQ l).length=l.length:=by simp[dQ]
 refine bO 113 [0,2,3,4,5,6,7,8,11,12,13,14,15,30,38,52,61,64,81,111] Tryz.func75 ?_;refine mA ?_;refine vP ?_;refine KI ?_;refine aC rfl (fun g1=> ?_) (fun g1=> ?_)
 ·refine cV ?_;refine KG ?_;refine an ?_;refine cY 2 162 3 (by decide) rfl (by decide) (cT fun q2 hq2=> ?_);repeat rcases hq2 with⟨_,hq2⟩
  have hN:iP (dQ l)=none:=by unfold iP;rw[if_pos (by simp at g1;omega)]
  refine aJ ?_;apply aE;exact aF
  ·exact uM hN
  ·exact aA
 refine nS ?_;refine cI ?_;refine oK ?_;refine cY 4 162 3 (by decide) rfl (by decide) (cT fun a0 ha0=> ?_);repeat rcases ha0 with⟨_,ha0⟩
 refine cY 5 3 1 (by decide) rfl (by decide) (cT fun o0 ho0=> ?_);repeat rcases ho0 with⟨_,ho0⟩
 refine lp (β:=Nat×Nat×Nat×MS) (fun b=>⟨[(0,.ro 4 (l.map (iv .any)) .any),(4,.own b.1 0 b.2.2.2.all.length),(5,.own b.2.1 0 b.2.2.2.opn.length),(12,.ro 4 (l.map (iv .any)) .any),(13,.int .i64 l.length),(14,.int .i64 b.2.2.1)],[(b.1,.arr 162 3 (b.2.2.2.all.map BU)),(b.2.1,.arr 3 1 (b.2.2.2.opn.map SY))]⟩) (fun b=>Nq b.1 b.2.1∧b.2.2.1≤l.length∧nD (dQ l) b.2.2.1=some b.2.2.2) (fun b=>l.length-b.2.2.1) (a0,o0,0,⟨[],[]⟩) aN ⟨by show Nq a0 o0;(exact dP),Nat.zero_le _,rfl⟩ ?_;rintro⟨a,o,j,all,opn⟩ ⟨hao,hj,hrun⟩;dsimp only at hao hj hrun⊢;obtain⟨hk1,hk2,hk3,hk4⟩:=yE hrun;dsimp only at hk1 hk2 hk3 hk4;refine eV ?_;refine aC rfl (fun g6=> ?_) (fun g6=> ?_)
 ·have hlt:j<l.length:=by simp at g6;omega
  obtain⟨x,hx⟩:∃x,l[j]? =some x:=⟨_,List.getElem?_eq_getElem hlt⟩
  have hnx:=vT hrun (zN hx);refine bH ?_;refine uE ?_;refine gF fun r7 h7=> ?_;intros
  refine zF ?_;refine vP ?_;refine gT ?_;refine jK Tryz.call186 (tM _) rfl aQ aW ?_;refine gA ?_;refine lJ ?_;refine iS ?_;refine aC rfl (fun g10=> ?_) (fun g10=> ?_)
  ·refine cV ?_;refine KG ?_;refine an ?_;refine cY 2 162 3 (by decide) rfl (by decide) (cT fun q2 hq2=> ?_);repeat rcases hq2 with⟨_,hq2⟩
   have hN:iP (dQ l)=none:=by replace g10:=bT g10;exact tL (hnx.trans (DZ (s:=⟨all,opn⟩) g10.1 (by show opn.length=40;omega))) (by omega)
   refine aJ ?_;apply aE;exact aF
   ·exact uM hN
   ·exact aA
  refine kC ?_;refine jK Tryz.call186 (tM _) rfl aQ aW ?_;refine cI ?_;refine aC rfl (fun g12=> ?_) (fun g12=> ?_)
  ·have hnn:=hnx.trans (DY g12 (by intro he;simp[g12,he]at g10));refine dB ?_;refine oG ?_;refine eP fun r45 h45=> ?_;intros
   refine mP ((opn++ [all.length]).map SY) (opn++ [all.length]).length ?_;refine dG fun r46 h46=> ?_;intros
   refine nT ?_;refine iA ?_;refine eP fun r50 h50=> ?_;intros
   refine mP ((all++ [(Bk.mk j (-1) (-1))]).map BU) (all++ [(Bk.mk j (-1) (-1))]).length ?_;refine dG fun r51 h51=> ?_;intros
   refine cI ?_;obtain⟨A,O,hAO,rfl,rfl⟩:∃A O,Nq A O∧A=r51∧O=r46:=⟨_,_,by(exact dP),rfl,rfl⟩
   refine VD ?_;refine⟨(A,O,j+1,_),⟨hAO,hlt,hnn⟩,by show l.length-(j+1)<l.length-j;omega, ?_⟩;dsimp only;exact aN
  refine kC ?_;refine lo (eA (E rfl) (E rfl)) rfl ?_;refine kS ?_;refine aAc ?_;refine iS ?_;refine aC rfl (fun g15=> ?_) (fun g15=> ?_)
  ·have hnn:=hnx.trans (EA g12 (by replace g15:=bT g15;exact g15.1) (by replace g15:=bT g15;exact g15.2));obtain⟨A,O,hAO,rfl,rfl⟩:∃A O,Nq A O∧A=a∧O=o:=⟨_,_,by(exact dP),rfl,rfl⟩
   refine gS ?_;refine⟨(A,O,j+1,_),⟨hAO,hlt,hnn⟩,by show l.length-(j+1)<l.length-j;omega, ?_⟩;dsimp only;exact aN
  have h5:x.op=5∨x.op=11:=by replace g15:=bT g15;omega
  have hnx:=hnx.trans (KZ g12 h5);refine bH ?_;refine sq6 ?_;refine aC rfl (fun g16=> ?_) (fun g16=> ?_)
  ·refine cV ?_;refine KG ?_;refine an ?_;refine cY 2 162 3 (by decide) rfl (by decide) (cT fun q2 hq2=> ?_);repeat rcases hq2 with⟨_,hq2⟩
   have hN:iP (dQ l)=none:=by obtain rfl:opn=[]:=(by simpa using g16);exact tL (hnx.trans WG) (by omega)
   refine aJ ?_;apply aE;exact aF
   ·exact uM hN
   ·exact aA
  have hne:opn≠ []:=by intro h;simp[h]at g16
  obtain⟨pre,k,rfl⟩:∃pre k,opn=pre++ [k]:=⟨opn.dropLast,opn.getLast hne,(List.dropLast_concat_getLast hne).symm⟩
  have hkl:=hk1 k (by simp);obtain⟨b,hb⟩:∃b,all[k]? =some b:=⟨_,List.getElem?_eq_getElem hkl⟩
  have hpl:(pre++ [k]).length=pre.length+1:=by simp
  have hlast:=aAD (pre:=pre) (k:=k);have hbt:=WH hb;refine kC ?_;refine sq6 ?_;refine aC rfl (fun g18=> ?_) (fun g18=> ?_)
  ·have h11:x.op=11:=by simpa using g18
   have hnn:=hnx;rw[h11,QH hb]at hnn;obtain⟨A,O,hAO,rfl,rfl⟩:∃A O,Nq A O∧A=a∧O=o:=⟨_,_,by(exact dP),rfl,rfl⟩
   refine dB ?_;refine lo (aD (E rfl)) rfl ?_;refine zD ?_;refine qG ?_;refine tC ?_;refine BL ?_;refine SF ?_;refine gQ ?_;refine jX ?_;refine zD ?_;refine aFm ?_;refine cI ?_;rw[show((((pre++ [k]).length:Nat):Int)-1).toNat-0=pre.length by simp];refine dM (yD (o:=O) pre.length bW) ?_;rw[show(all.map BU).set (k:Int).toNat [.int .i64 (b.at_:Int),.int .i64 b.els,.int .i64 (j:Int)]=(all.set k ⟨b.at_,b.els,j⟩).map BU by rw[Int.toNat_natCast,List.map_set];rfl,show List.take pre.length ((pre++ [k]).map SY)=pre.map SY by simp];refine VD ?_;refine⟨(A,O,j+1,_),⟨hAO,hlt,hnn⟩,by show l.length-(j+1)<l.length-j;omega, ?_⟩;dsimp only;exact aN
  have h05:x.op=5:=by simp at g18;omega
  have hnx:=by have:=hnx;rw[h05]at this;exact this
  have hba:=hk2 b (List.mem_of_getElem? hb);obtain⟨y,hy⟩:∃y,l[b.at_]? =some y:=⟨_,List.getElem?_eq_getElem (by omega)⟩
  have hyt:=WH hy;have hoy:=zN hy;refine dB ?_;refine FM ?_;refine zD ?_;refine qG ?_;refine ZK ?_;refine BL ?_;refine KC ?_;refine ZK ?_;refine BL ?_;refine KC ?_;refine lo (eA (E rfl) (E rfl)) rfl ?_;refine gA ?_;refine eJ ?_;refine eJ ?_;refine aCY ?_;refine aAd ?_;refine aAe ?_;refine aAd ?_;refine aHt ?_;refine aAe ?_;refine UZ ?_;refine gK ?_;refine cI ?_;refine aC rfl (fun g21=> ?_) (fun g21=> ?_)
  ·refine cV ?_;refine KG ?_;refine an ?_;refine cY 2 162 3 (by decide) rfl (by decide) (cT fun q2 hq2=> ?_);repeat rcases hq2 with⟨_,hq2⟩
   have hN:iP (dQ l)=none:=tL (hnx.trans (QI hb (by rw[hoy];replace g21:=bT g21;rcases g21 with h|h;exact .inl (fun e=>h (Option.some.inj e));exact .inr h))) (by omega);refine aJ ?_;apply aE;exact aF
   ·exact uM hN
   ·exact aA
  have hnn:=hnx.trans (LA hb (by rw[hoy];replace g21:=bT g21;rw[g21.1]) (by replace g21:=bT g21;exact g21.2));obtain⟨A,O,hAO,rfl,rfl⟩:∃A O,Nq A O∧A=a∧O=o:=⟨_,_,by(exact dP),rfl,rfl⟩
  refine dB ?_;refine lo (aD (E rfl)) rfl ?_;refine zD ?_;refine qG ?_;refine tC ?_;refine BL ?_;refine SF ?_;refine gQ ?_;rw[show(all.map BU).set (k:Int).toNat [.int .i64 (b.at_:Int),.int .i64 (j:Int),.int .i64 b.en]=(all.set k ⟨b.at_,j,b.en⟩).map BU by rw[Int.toNat_natCast,List.map_set];rfl];refine VD ?_;refine⟨(A,O,j+1,_),⟨hAO,hlt,hnn⟩,by show l.length-(j+1)<l.length-j;omega, ?_⟩;dsimp only;exact aN
 obtain rfl:j=l.length:=by simp at g6;omega
 refine bH ?_;refine oG ?_;refine KI ?_;refine aC rfl (fun g24=> ?_) (fun g24=> ?_)
 ·refine cV ?_;refine KG ?_;refine an ?_;refine cY 2 162 3 (by decide) rfl (by decide) (cT fun q2 hq2=> ?_);repeat rcases hq2 with⟨_,hq2⟩
  have hN:iP (dQ l)=none:=by unfold iP;rw[hol,hrun,if_neg (by simp at g1;omega)];cases opn with|nil=>simp at g24|cons z zs=>rfl
  refine aJ ?_;apply aE;exact aF
  ·exact uM hN
  ·exact aA
 refine bH ?_;refine rZ ?_;apply aE;exact aF
 ·have hN:iP (dQ l)=some all:=by unfold iP;rw[hol,hrun,if_neg (by simp at g1;omega)];cases opn with|nil=>rfl|cons z zs=>simp at g24
  simp only[WF,wT,hN,Option.getD_some,Option.isSome_some];exact⟨a,rfl,rfl⟩
 ·exact aA
end Go.Proofs.YtjpdadobblffmaaGreat
namespace Go.Proofs.YtjpdadobblffmaaGreat
open Go.RowKit Go.ChangeShapes Go.WideShapes Go.ChangeAt Go.Deep
def jB (l:List Ins):List Nat:=l.flatMap gN++ [11]
def dN (d:Int) (op:Int):Int:=if(op==11)=true then d-1 else if tK op=true then d+1 else d
def LB (b:List Nat):Nat→Nat→Int→List Ins→List Ins×Nat×Int
 |0,_,_,_=>([],0,4)
 |f+1,k,d,l=>
  if((eB (b.drop k)).2.2 !=0)=true then([],0,(eB (b.drop k)).2.2)
  else if dN d (eB (b.drop k)).1.op<0 then(if wT (dQ l)=true then(l,k+(eB (b.drop k)).2.1,0)else([],0,1))
  else LB b f (k+(eB (b.drop k)).2.1) (dN d (eB (b.drop k)).1.op) (l++ [(eB (b.drop k)).1])
def jC (b:List Nat):List Ins×Nat×Int:=LB b 301 0 0 []
theorem aDp{d op:Int}(hd:0≤d):dN d op<0↔((op==11)=true∧d=0):=by
 unfold dN;split
 ·next h=>constructor;intro h2;exact⟨h,by omega⟩;intro h2;omega
 ·next h=>
  constructor
  ·intro h2;split at h2<;>omega
  ·intro h2;exact absurd h2.1 h
theorem QJ(b:List Nat):∀(f k:Nat) (d:Int) (l:List Ins),(LB b f k d l).2.2≠0→(LB b f k d l).1=[]∧(LB b f k d l).2.1=0
 |0,k,d,l=>fun _=>⟨rfl,rfl⟩
 |f+1,k,d,l=>by
  rw[LB];split
  ·exact fun _=>⟨rfl,rfl⟩
  split
  ·split
   ·exact fun h=>absurd rfl h
   ·exact fun _=>⟨rfl,rfl⟩
  ·exact QJ b f _ _ _
theorem WI(b:List Nat)(h:(jC b).2.2≠0):(jC b).1=[]∧(jC b).2.1=0:=QJ _ _ _ _ _ h
theorem aDq{x:Ins}(hx:x.Ok)(hm:cW x=true)(h:x.op=11):x=⟨11,0,0,[]⟩:=by
 have f17:=aCa hm (by rw[h];rfl);have fb:=aCb hm (by rw[h];decide);have fl:=aCc hm (by rw[h];decide);obtain⟨op,a,c,L⟩:=x;dsimp only at h f17 fb fl;subst h f17 fb fl;rfl
theorem Sp.of_drop {b p:List Nat}{k n:Nat}(hk:k≤b.length)(h:Sp (b.drop k) 0 n p):Sp b k (k+n) p:=by
 obtain⟨h1,h2,h3⟩:=h;rw[List.drop_zero,List.drop_drop]at h1;rw[List.length_drop]at h3;exact⟨h1,by omega,by omega⟩
theorem EB{b:List Nat}(hb:∀x∈b,x<256):∀(f k:Nat) (d:Int) (l:List Ins),0≤d→(LB b f k d l).2.2=0→Sp b 0 k (l.flatMap gN)→(∀x∈l,x.Ok∧cW x=true)→
  wT (dQ (LB b f k d l).1)=true∧Sp b 0 (LB b f k d l).2.1 (jB (LB b f k d l).1)∧∀x∈(LB b f k d l).1,x.Ok∧cW x=true
 |0,k,d,l=>fun _ h=>by cases h
 |f+1,k,d,l=>by
  intro hd h hs hl;rw[LB]at h⊢;by_cases h1:((eB (b.drop k)).2.2 !=0)=true
  ·rw[if_pos h1]at h;rw[show(eB (b.drop k)).2.2=0 from h]at h1;simp at h1
  rw[if_neg h1]at h⊢;have he:(eB (b.drop k)).2.2=0:=by simpa using h1
  obtain⟨ho,hm,hsp⟩:=tJ (fun x hx=>hb x (List.mem_of_mem_drop hx)) he;have hsp:=Sp.of_drop hs.2.2 hsp;by_cases h2:dN d (eB (b.drop k)).1.op<0
  ·rw[if_pos h2]at h⊢;by_cases h3:wT (dQ l)=true
   ·rw[if_pos h3]at h⊢;refine⟨h3, ?_,hl⟩;have h11:=((aDp hd).1 h2).1;rw[aDq ho hm (by simpa using h11)]at hsp;exact hs.trans hsp
   ·rw[if_neg h3]at h;cases h
  ·rw[if_neg h2]at h⊢;refine EB hb f _ _ _ (by omega) h ?_ ?_
   ·rw[List.flatMap_append];simpa using hs.trans hsp
   ·intro x hx;rcases List.mem_append.1 hx with hx|hx
    ·exact hl x hx
    ·rw[List.mem_singleton.1 hx];exact⟨ho,hm⟩
theorem ON{b:List Nat}(hb:∀x∈b,x<256)(h:(jC b).2.2=0):wT (dQ (jC b).1)=true∧Sp b 0 (jC b).2.1 (jB (jC b).1)∧∀x∈(jC b).1,x.Ok∧cW x=true:=
 EB hb 301 0 0 [] (Int.le_refl 0) h (Sp.nil (Nat.zero_le _)) (by simp)
theorem QK{ops:List Int}(h:wT ops=true):ops.length≤300:=by
 unfold wT iP at h;split at h
 ·cases h
 ·omega
theorem QL{ops:List Int}(h:wT ops=true):∃all,nD ops ops.length=some ⟨all,[]⟩:=by
 unfold wT iP at h;split at h
 ·cases h
 ·split at h
  ·next all h2=>exact⟨all,h2⟩
  ·cases h
theorem aDr{ops:List Int}(h:wT ops=true){j:Nat}(hj:j≤ops.length):∃s,nD ops j=some s:=by
 obtain⟨all,h⟩:=QL h;cases hs:nD ops j with
 |some s=>exact⟨s,rfl⟩
 |none=>
  have:=vU hs (ops.length-j);rw[Nat.add_sub_cancel' hj,h]at this;cases this
theorem aAE{ops:List Int}{s s':MS}{i:Nat}{op:Int}(h:lN ops s i op=some s'):(s'.opn.length:Int)=dN s.opn.length op:=by
 unfold lN at h;unfold dN;split at h
 ·next ho=>
  split at h
  ·cases h
  ·obtain rfl:=Option.some.inj h;rw[if_neg (by unfold tK at ho;simp at ho⊢;omega),if_pos ho];simp
 next ho=>
 split at h
 ·next h5=>
  obtain rfl:=Option.some.inj h;rw[if_neg (by simpa using h5.2),if_neg ho]
 next h5=>
 unfold xM at h;split at h
 ·cases h
 next k hk=>
 split at h
 ·cases h
 split at h
 ·next h11=>
  obtain rfl:=Option.some.inj h;have:s.opn≠ []:=by intro h0;rw[h0]at hk;cases hk
  have:=List.length_pos_iff.2 this;rw[if_pos (by simpa using h11)];simp;omega
 next h11=>
 split at h
 ·cases h
 ·obtain rfl:=Option.some.inj h;rw[if_neg (by simpa using h11),if_neg ho]
theorem WJ{l:List Ins}(hl:∀x∈l,x.Ok∧cW x=true)(hok:wT (dQ l)=true)(r:List Nat):∀(m j:Nat) (s:MS) (f:Nat),m+j=l.length→m<f→nD (dQ l) j=some s→
  LB (jB l++r) f ((l.take j).flatMap gN).length s.opn.length (l.take j)=(l,(jB l).length,0):=by
 have hol:(dQ l).length=l.length:=by simp[dQ]
 have hdrop:∀j,(jB l++r).drop ((l.take j).flatMap gN).length=(l.drop j).flatMap gN++(11::r):=by
  intro j;have:jB l++r=(l.take j).flatMap gN++((l.drop j).flatMap gN++(11::r)):=by
   unfold jB
   conv=>lhs;rw[←List.take_append_drop j l,List.flatMap_append]
   simp
  rw[this,List.drop_left]
 intro m
 induction m with
 |zero=>
  intro j s f hj hf hs;obtain⟨f,rfl⟩:∃g,f=g+1:=⟨f-1,by omega⟩
  obtain rfl:j=l.length:=by omega
  obtain⟨all,ha⟩:=QL hok;rw[hol,hs]at ha;obtain rfl:=Option.some.inj ha;have hg:eB ((jB l++r).drop ((l.take l.length).flatMap gN).length)=(⟨11,0,0,[]⟩,1,0):=by
   rw[hdrop,List.drop_length];exact FV (x:=⟨11,0,0,[]⟩) ⟨by decide,by decide,by decide,by decide,by decide⟩ (by decide) r
  rw[LB,hg,if_neg (by decide),if_pos (show dN (([]:List Nat).length:Nat) 11<0 by decide),List.take_length,if_pos hok];simp[jB]
 |succ m ih=>
  intro j s f hj hf hs;obtain⟨f,rfl⟩:∃g,f=g+1:=⟨f-1,by omega⟩
  have hlt:j<l.length:=by omega
  obtain⟨x,hx⟩:∃x,l[j]? =some x:=⟨_,List.getElem?_eq_getElem hlt⟩
  obtain⟨hxo,hxm⟩:=hl x (List.mem_of_getElem? hx);have hg:eB ((jB l++r).drop ((l.take j).flatMap gN).length)=(x,(gN x).length,0):=by
   rw[hdrop,List.drop_eq_getElem_cons hlt,(List.getElem?_eq_some_iff.1 hx).2,List.flatMap_cons,List.append_assoc];exact FV hxo hxm _
  obtain⟨s',hs'⟩:=aDr hok (j:=j+1) (by omega);have hst:=vT hs (zN hx);rw[hs']at hst;have hd:=aAE hst.symm;have ht:l.take (j+1)=l.take j++ [x]:=by rw[List.take_add_one,hx];rfl
  have hn:=ih (j+1) s' f (by omega) (by omega) hs';rw[LB,hg,if_neg (by simp)];dsimp only;rw[←hd,if_neg (by omega),←ht,←hn,ht,List.flatMap_append];simp
theorem SZ{l:List Ins}(hl:∀x∈l,x.Ok∧cW x=true)(hok:wT (dQ l)=true)(r:List Nat):jC (jB l++r)=(l,(jB l).length,0):=by
 have:=QK hok;have hol:(dQ l).length=l.length:=by simp[dQ]
 exact WJ hl hok r l.length 0 ⟨[],[]⟩ 301 (by omega) (by omega) rfl
end Go.Proofs.YtjpdadobblffmaaGreat
namespace Go.Proofs.YtjpdadobblffmaaGreat
open Go.RowKit Go.ChangeShapes Go.WideShapes Go.ChangeAt Go.Deep
attribute [local irreducible] SW RS RD eM dR
theorem LC{b:List Nat}{k:Nat}:List.take ((b.map aH).length-k) (List.drop k (b.map aH))=(b.drop k).map aH:=by
 rw[List.map_drop];exact List.take_of_length_le (by simp)
def pJ (l:List Ins) (j:Nat):List Nat:=(l.take j).flatMap gN
theorem aAF{l:List Ins}{j:Nat}{x:Ins}(h:l[j]? =some x):pJ l (j+1)=pJ l j++gN x:=by
 unfold pJ;rw[List.take_add_one,h,List.flatMap_append];simp
theorem WK{l:List Ins}(hm:∀x∈l,x.Ok∧cW x=true)(j:Nat):(pJ l j).length≤200*l.length:=by
 have h1:(pJ l j).length≤200*(l.take j).length:=uL fun x hx=>hm x (List.mem_of_mem_take hx)
 have:(l.take j).length≤l.length:=by simp;omega
 omega
theorem WL{l:List Ins}:pJ l l.length++ [11]=jB l:=by unfold pJ jB;rw[List.take_length]
theorem LD{l:List Ins}(hm:∀x∈l,x.Ok∧cW x=true):(jB l).length≤200*l.length+1:=by
 rw[←WL];have:=WK hm l.length;simp;omega
theorem aAG{l:List Ins}(hm:∀x∈l,x.Ok∧cW x=true):∀b∈jB l,b<256:=by
 intro b hb;rcases List.mem_append.1 hb with hb|hb
 ·exact KX hm b hb
 ·rw[List.mem_singleton.1 hb];decide
theorem LE(q:Nat)(vs:List Nat)(hvs:vs.length≤20000000)(l:List Ins)(hl:l.length≤310)(hm:∀x∈l,x.Ok∧cW x=true):SCall Tryz.prog 248 [.own q 0 vs.length,.ro 4 (l.map (iv .any)) .any] [(q,.arr 5 1 (vs.map aH))]
  (fun y σ=>∃r,y=.own r 0 (vs++jB l).length∧σ=[(r,.arr 5 1 ((vs++jB l).map aH))]):=by
 refine bO 20 [0,1,4,6,7,8,9,10] Tryz.func248 ?_;refine oL ?_;refine lp (β:=Nat×Nat) (fun b=>⟨[(0,.own b.1 0 (vs++pJ l b.2).length),(7,.ro 4 (l.map (iv .any)) .any),(8,.int .i64 l.length),(9,.int .i64 b.2)],[(b.1,.arr 5 1 ((vs++pJ l b.2).map aH))]⟩) (fun b=>b.2≤l.length) (fun b=>l.length-b.2) (q,0) (by dsimp only;rw[show vs++pJ l 0=vs by simp[pJ]];(exact aN)) (Nat.zero_le _) ?_;rintro⟨q1,j⟩ hj;have hpl:=WK hm j;dsimp only at hj⊢;refine eV ?_;refine aC rfl (fun g2=> ?_) (fun g2=> ?_)
 ·have hlt:j<l.length:=by simp at g2;omega
  obtain⟨x,hx⟩:∃x,l[j]? =some x:=⟨_,List.getElem?_eq_getElem hlt⟩
  obtain⟨hxo,hxm⟩:=hm x (List.mem_of_getElem? hx);have hnx:=aAF hx;refine lY ?_;refine gF fun r6 h6=> ?_;intros
  refine lM ?_;refine jN ?_;refine cw [(q1,.arr 5 1 ((vs++pJ l j).map aH))] Tryz.call242 (vR q1 (vs++pJ l j) (by simp;omega) .any x hxo hxm) rfl aB aA ?_;rintro _ σ' ⟨r15,rfl,rfl⟩ h15;have k15:=aO h15;repeat rcases k15 with⟨_,k15⟩
  refine pT ?_;refine⟨(r15,j+1),hlt,by show l.length-(j+1)<l.length-j;omega, ?_⟩;dsimp only;rw[hnx,←List.append_assoc];exact aN
 obtain rfl:j=l.length:=by simp at g2;omega
 refine bH ?_;refine eP fun r18 h18=> ?_;intros
 refine mP (((vs++pJ l l.length)++ [11]).map aH) ((vs++pJ l l.length)++ [11]).length ?_;refine dG fun r19 h19=> ?_;intros
 refine cI ?_;rw[List.append_assoc,WL];exact aE aF ⟨r19,by rfl,rfl⟩ aA
instance : DecidableEq Ins := fun x y => if h : eqN x y = true then .isTrue (FW.1 h) else .isFalse fun e => h (FW.2 e)
theorem WM(b:List Nat)(hb:b.length≤1000000)(hlt:∀x∈b,x<256):SCall Tryz.prog 266 [.ro 1 (b.map aH) .any] []
  (fun y σ=>∃q,y=.tup [.own q 0 (jC b).1.length,.int .i64 ((jC b).2.1:Nat),.int .i64 (jC b).2.2]∧σ=[(q,.arr 46 4 ((jC b).1.map (iv .any)))]):=by
 refine bO 55 [0,2,3,4,5,6,7,8,9,10,12,22,29,34,38,45,54] Tryz.func266 ?_;refine cV ?_;refine lS ?_;refine iD ?_;refine lL ?_;refine lL ?_;refine cI ?_;refine cY 5 46 4 (by decide) rfl (by decide) (cT fun q0 hq0=> ?_);repeat rcases hq0 with⟨_,hq0⟩
 refine lp (β:=Nat×Nat×Int×Nat×List Ins) (fun b'=>⟨[(0,.ro 1 (b.map aH) .any),(5,.own b'.1 0 b'.2.2.2.2.length),(6,.int .i64 b'.2.2.1),(7,.int .i64 b'.2.1)],[(b'.1,.arr 46 4 (b'.2.2.2.2.map (iv .any)))]⟩) (fun b'=>b'.2.1≤b.length∧0≤b'.2.2.1∧b'.2.2.1≤b'.2.2.2.2.length∧b'.2.2.2.1+b'.2.2.2.2.length=301∧1≤b'.2.2.2.1∧jC b=LB b b'.2.2.2.1 b'.2.1 b'.2.2.1 b'.2.2.2.2) (fun b'=>b'.2.2.2.1) (q0,0,0,301,[]) aN ⟨Nat.zero_le _,Int.le_refl 0,Int.le_refl 0,rfl,by show 1≤301;decide,rfl⟩ ?_;rintro⟨q,k,d,f,l⟩ ⟨hk,hd0,hdl,hfl,hf1,hG⟩;dsimp only at hk hd0 hdl hfl hf1 hG⊢;obtain⟨f,rfl⟩:∃g,f=g+1:=⟨f-1,by omega⟩
 have hlt2:∀x∈b.drop k,x<256:=fun x hx=>hlt x (List.mem_of_mem_drop hx)
 have hsnd:=tJ hlt2;rw[LB]at hG;refine dB ?_;refine aAf ?_;rw[LC];refine cw [] Tryz.call298 (DX (b.drop k) (by simp;omega) hlt2) rfl aB aA ?_;rintro _ σ' ⟨q3,rfl,rfl⟩ h17
 replace h17:=fU h17;repeat rcases h17 with⟨_,h17⟩
 apply bE;exact bX;generalize eB (b.drop k)=gp at hG hsnd⊢;obtain⟨x,n,e⟩:=gp;dsimp only at hG hsnd⊢;refine qX ?_;refine lo (bC (E rfl) rfl) rfl ?_;refine gF fun r8 h8=> ?_;intros
 apply zB;rfl;rfl;rfl;rfl;exact iC;refine nI ?_;refine qF ?_;refine aC rfl (fun g5=> ?_) (fun g5=> ?_)
 ·refine bH ?_;refine zE ?_;refine an ?_;refine cY 2 46 4 (by decide) rfl (by decide) (cT fun q2 hq2=> ?_);repeat rcases hq2 with⟨_,hq2⟩
  have hE:jC b=([],0,e):=by rw[hG,if_pos g5]
  refine aJ ?_;exact aE aF ⟨q2,by rw[hE];rfl,by rw[hE]⟩ aA
 rw[if_neg (by simp[g5])]at hG;obtain⟨hxo,hxm,hsp⟩:=hsnd (by simpa using g5);have hkn:k+n≤b.length:=by have:=hsp.2.2;simp at this;omega
 refine dB ?_;refine DL ?_;refine gT ?_;refine pF ?_;refine aC rfl (fun g8=> ?_) (fun g8=> ?_)
 ·have hD:dN d x.op=d-1:=by unfold dN;rw[if_pos g8]
  refine bH ?_;refine zD ?_;refine mV ?_;refine tB ?_;refine aC rfl (fun g12=> ?_) (fun g12=> ?_)
  ·rw[if_pos (by rw[hD];simpa using g12)]at hG;refine bH ?_;refine SV Tryz.call75 (jR l (by omega)) rfl kJ SU ?_;rintro _ σ' ⟨q4,rfl,rfl⟩ h41
   replace h41:=jE h41;repeat rcases h41 with⟨_,h41⟩
   refine qY ?_;refine nI ?_;refine vQ ?_;refine aC rfl (fun g14=> ?_) (fun g14=> ?_)
   ·refine cV ?_;refine zE ?_;refine an ?_;refine cY 2 46 4 (by decide) rfl (by decide) (cT fun q2 hq2=> ?_);repeat rcases hq2 with⟨_,hq2⟩
    have hE:jC b=([],0,1):=by rw[hG,if_neg];intro h;rw[h]at g14;cases g14
    refine aJ ?_;exact aE aF ⟨q2,by rw[hE];rfl,by rw[hE]⟩ aA
   refine dB ?_;refine lS ?_;have hE:jC b=(l,k+n,0):=by rw[hG,if_pos];cases h:wT (dQ l);rw[h]at g14;cases g14;rfl
   exact aE aF ⟨q,by rw[hE];rfl,by rw[hE]⟩ aA
  rw[if_neg (by rw[hD];simpa using g12)]at hG;refine aJ ?_;refine dM (iE (r:=r8) (q:=q3) bW bD (.cons (.refl _) (.cons (.refl _) (.cons (.refl _) (.cons (aK bF (by simp)) .nil))))) ?_;refine hX ?_;refine jN ?_;refine eP fun r50 h50=> ?_;intros
  refine mP ((l++ [x]).map (iv .any)) (l++ [x]).length ?_;refine dG fun r51 h51=> ?_;intros
  refine cI ?_;refine vP ?_;refine KI ?_;refine aC rfl (fun g18=> ?_) (fun g18=> ?_)
  ·refine cV ?_;refine zE ?_;refine an ?_;refine cY 2 46 4 (by decide) rfl (by decide) (cT fun q2 hq2=> ?_);repeat rcases hq2 with⟨_,hq2⟩
   have hE:jC b=([],0,4):=by obtain rfl:f=0:=(by simp at g18;omega);rw[hG];rfl
   refine aJ ?_;exact aE aF ⟨q2,by rw[hE];rfl,by rw[hE]⟩ aA
  refine aJ ?_;have hf0:l.length+1≤300:=by simp at g18;omega
  refine⟨(r51,k+n,dN d x.op,f,l++ [x]),⟨hkn,by show 0≤dN d x.op;rw[hD];simp at g12;omega,by show dN d x.op≤((l++ [x]).length:Nat);rw[hD];simp;omega,by show f+(l++ [x]).length=301;simp;omega,by show 1≤f;omega,hG⟩,Nat.lt_succ_self _, ?_⟩;dsimp only;rw[hD];exact aN
 refine kC ?_;refine jK Tryz.call186 (tM _) rfl aQ aW ?_;refine gQ ?_;refine aC rfl (fun g10=> ?_) (fun g10=> ?_)
 ·have hD:dN d x.op=d+1:=by unfold dN;rw[if_neg (by simp[g8]),if_pos g10]
  refine bH ?_;refine DL ?_;refine mV ?_;refine tB ?_;refine aC rfl (fun g12=> ?_) (fun g12=> ?_)
  ·rw[if_pos (by rw[hD];simpa using g12)]at hG;refine bH ?_;refine SV Tryz.call75 (jR l (by omega)) rfl kJ SU ?_;rintro _ σ' ⟨q4,rfl,rfl⟩ h41
   replace h41:=jE h41;repeat rcases h41 with⟨_,h41⟩
   refine qY ?_;refine nI ?_;refine vQ ?_;refine aC rfl (fun g14=> ?_) (fun g14=> ?_)
   ·refine cV ?_;refine zE ?_;refine an ?_;refine cY 2 46 4 (by decide) rfl (by decide) (cT fun q2 hq2=> ?_);repeat rcases hq2 with⟨_,hq2⟩
    have hE:jC b=([],0,1):=by rw[hG,if_neg];intro h;rw[h]at g14;cases g14
    refine aJ ?_;exact aE aF ⟨q2,by rw[hE];rfl,by rw[hE]⟩ aA
   refine dB ?_;refine lS ?_;have hE:jC b=(l,k+n,0):=by rw[hG,if_pos];cases h:wT (dQ l);rw[h]at g14;cases g14;rfl
   exact aE aF ⟨q,by rw[hE];rfl,by rw[hE]⟩ aA
  rw[if_neg (by rw[hD];simpa using g12)]at hG;refine aJ ?_;refine dM (iE (r:=r8) (q:=q3) bW bD (.cons (.refl _) (.cons (.refl _) (.cons (.refl _) (.cons (aK bF (by simp)) .nil))))) ?_;refine hX ?_;refine jN ?_;refine z1 ?_;refine cT fun r50 h50=> ?_;repeat rcases h50 with⟨_,h50⟩
  refine mP ((l++ [x]).map (iv .any)) (l++ [x]).length ?_;refine dG fun r51 h51=> ?_;intros
  refine cI ?_;refine vP ?_;refine KI ?_;refine aC rfl (fun g18=> ?_) (fun g18=> ?_)
  ·refine cV ?_;refine zE ?_;refine an ?_;refine cY 2 46 4 (by decide) rfl (by decide) (cT fun q2 hq2=> ?_);repeat rcases hq2 with⟨_,hq2⟩
   have hE:jC b=([],0,4):=by obtain rfl:f=0:=(by simp at g18;omega);rw[hG];rfl
   refine aJ ?_;exact aE aF ⟨q2,by rw[hE];rfl,by rw[hE]⟩ aA
  refine aJ ?_;have hf0:l.length+1≤300:=by simp at g18;omega
  refine⟨(r51,k+n,dN d x.op,f,l++ [x]),⟨hkn,by show 0≤dN d x.op;rw[hD];simp at g12;omega,by show dN d x.op≤((l++ [x]).length:Nat);rw[hD];simp;omega,by show f+(l++ [x]).length=301;simp;omega,by show 1≤f;omega,hG⟩,Nat.lt_succ_self _, ?_⟩;dsimp only;rw[hD];exact aN
 have hD:dN d x.op=d:=by unfold dN;rw[if_neg (by simp[g8]),if_neg (by simp[g10])]
 refine bH ?_;refine tB ?_;refine aC rfl (fun g12=> ?_) (fun g12=> ?_)
 ·rw[if_pos (by rw[hD];simpa using g12)]at hG;refine bH ?_;refine SV Tryz.call75 (jR l (by omega)) rfl kJ SU ?_;rintro _ σ' ⟨q4,rfl,rfl⟩ h41
  replace h41:=jE h41;repeat rcases h41 with⟨_,h41⟩
  refine qY ?_;refine nI ?_;refine vQ ?_;refine aC rfl (fun g14=> ?_) (fun g14=> ?_)
  ·refine cV ?_;refine zE ?_;refine an ?_;refine cY 2 46 4 (by decide) rfl (by decide) (cT fun q2 hq2=> ?_);repeat rcases hq2 with⟨_,hq2⟩
   have hE:jC b=([],0,1):=by rw[hG,if_neg];intro h;rw[h]at g14;cases g14
   refine aJ ?_;exact aE aF ⟨q2,by rw[hE];rfl,by rw[hE]⟩ aA
  refine dB ?_;refine lS ?_;have hE:jC b=(l,k+n,0):=by rw[hG,if_pos];cases h:wT (dQ l);rw[h]at g14;cases g14;rfl
  exact aE aF ⟨q,by rw[hE];rfl,by rw[hE]⟩ aA
 rw[if_neg (by rw[hD];simpa using g12)]at hG;refine aJ ?_;refine dM (iE (r:=r8) (q:=q3) bW bD (.cons (.refl _) (.cons (.refl _) (.cons (.refl _) (.cons (aK bF (by simp)) .nil))))) ?_;refine hX ?_;refine jN ?_;refine z1 ?_;refine cT fun r50 h50=> ?_;repeat rcases h50 with⟨_,h50⟩
 refine mP ((l++ [x]).map (iv .any)) (l++ [x]).length ?_;refine dG fun r51 h51=> ?_;intros
 refine cI ?_;refine vP ?_;refine KI ?_;refine aC rfl (fun g18=> ?_) (fun g18=> ?_)
 ·refine cV ?_;refine zE ?_;refine an ?_;refine cY 2 46 4 (by decide) rfl (by decide) (cT fun q2 hq2=> ?_);repeat rcases hq2 with⟨_,hq2⟩
  have hE:jC b=([],0,4):=by obtain rfl:f=0:=(by simp at g18;omega);rw[hG];rfl
  refine aJ ?_;exact aE aF ⟨q2,by rw[hE];rfl,by rw[hE]⟩ aA
 refine aJ ?_;have hf0:l.length+1≤300:=by simp at g18;omega
 refine⟨(r51,k+n,dN d x.op,f,l++ [x]),⟨hkn,by show 0≤dN d x.op;rw[hD];simp at g12;omega,by show dN d x.op≤((l++ [x]).length:Nat);rw[hD];simp;omega,by show f+(l++ [x]).length=301;simp;omega,by show 1≤f;omega,hG⟩,Nat.lt_succ_self _, ?_⟩;dsimp only;rw[hD];exact aN
end Go.Proofs.YtjpdadobblffmaaGreat
namespace Go.Proofs.YtjpdadobblffmaaGreat
open Go.RowKit Go.ChangeShapes Go.WideShapes Go.ChangeAt Go.Deep
theorem VLe.ro {sz:Nat}{es es':List (List AV)}{k:Rk}(hl:es.length=es'.length)(hs:fZ sz es')
  (h:∀(i:Nat) (e e':List AV),es[i]? =some e→es'[i]? =some e'→e.length=e'.length∧∀(j:Nat) (a a':AV),e[j]? =some a→e'[j]? =some a'→VLe a a'):VLe (.ro sz es k) (.ro sz es' k):=fun M F w v hv=>by
 have hx:∀(i:Nat) (e':List AV),es'[i]? =some e'→∃e,es[i]? =some e:=fun i e' h=>⟨_,List.getElem?_eq_getElem (by have:=(List.getElem?_eq_some_iff.1 h).1;omega)⟩
 have hy:∀(i:Nat) (e':List AV) (j:Nat) (a':AV),es'[i]? =some e'→e'[j]? =some a'→∃e a,es[i]? =some e∧e[j]? =some a∧VLe a a':=fun i e' j a' h1 h2=>by
  obtain⟨e,he⟩:=hx i e' h1;obtain⟨g1,g2⟩:=h i e e' he h1;have hj:=(List.getElem?_eq_some_iff.1 h2).1;have ha:e[j]? =some (e[j]'(by omega)):=List.getElem?_eq_getElem (by omega);exact⟨e,_,he,ha,g2 j _ a' ha h2⟩
 cases hv with
 |ro hb hs' hc hr hle hm hf hn=>
  rw[hl];rw[hl]at hle hf
  rename_i b o cap us
  refine .ro (us:=us) hb hs (fun i e' j a' h1 h2=> ?_) (fun i e' j a' h1 h2=> ?_) hle hm hf hn
  ·obtain⟨e,a,he,ha,-⟩:=hy i e' j a' h1 h2;exact hc i e j a he ha
  ·obtain⟨e,a,he,ha,hv⟩:=hy i e' j a' h1 h2;exact hv _ _ _ _ (hr i e j a he ha)
 |ro0 hm hA hf hn=>
  obtain rfl:es'=[]:=List.length_eq_zero_iff.1 hl.symm;exact .ro0 hm hA hf hn
structure FT where
 pr:List Int
 rs:List Int
structure Im where
 mod:List Nat
 nm:List Nat
 ty:Int
structure Gl where
 mu:Bool
 kd:Int
 n:Int
structure Ex where
 nm:List Nat
 fn:Int
structure El where
 off:Int
 fs:List Int
structure Co where
 ls:List Int
 bd:List Ins
structure Da where
 off:Int
 bs:List Nat
structure Li where
 has:Bool
 mn:Int
 mx:Int
structure Md where
 ty:List FT
 im:List Im
 fn:List Int
 tb:Li
 me:Li
 gl:List Gl
 ex:List Ex
 el:List El
 co:List Co
 da:List Da
def BV:Li:=⟨false,0,0⟩
def md0:Md:=⟨[],[],[],BV,BV,[],[],[],[],[]⟩
def dF (x:FT):List AV:=[.ro 1 (x.pr.map aL) .any,.ro 1 (x.rs.map aL) .any]
def eE (x:Im):List AV:=[.str (cU x.mod),.str (cU x.nm),.int .i64 x.ty]
def eF (x:Gl):List AV:=[.bool x.mu,.int .i64 x.kd,.int .i64 x.n]
def dJ (x:Ex):List AV:=[.str (cU x.nm),.int .i64 x.fn]
def dV (x:El):List AV:=[.int .i64 x.off,.ro 1 (x.fs.map aL) .any]
def cZ (x:Co):List AV:=[.ro 1 (x.ls.map aL) .any,.ro 4 (x.bd.map (iv .any)) .any]
def dW (x:Da):List AV:=[.int .i64 x.off,.ro 1 (x.bs.map aH) .any]
def gG (x:Li):List AV:=[.bool x.has,.int .i64 x.mn,.int .i64 x.mx]
def cQ (m:Md):List AV:=[.ro 2 (m.ty.map dF) .any,.ro 3 (m.im.map eE) .any,.ro 1 (m.fn.map aL) .any,.bool m.tb.has,.int .i64 m.tb.mn,.int .i64 m.tb.mx,.bool m.me.has,.int .i64 m.me.mn,.int .i64 m.me.mx,
 .ro 3 (m.gl.map eF) .any,.ro 2 (m.ex.map dJ) .any,.ro 2 (m.el.map dV) .any,.ro 2 (m.co.map cZ) .any,.ro 2 (m.da.map dW) .any]
def aZ {α:Type} (l:List α) (pt:α→List Nat):List Nat:=uB l.length++l.flatMap pt
def eL (s:List Nat):List Nat:=uB s.length++s
def kB (k:Int):List Nat:=if(k==1)=true then [127]else [126]
def gC (n:Int):List Nat:=uB n.toNat
def vV (k n:Int):List Nat:=gN ⟨if(k==2)=true then 66 else 65,n,0,[]⟩++ [11]
def nV (n:Int):List Nat:=0::vV 1 n
def gO (l:Li):List Nat:=if decide (l.mx<0)=true then 0::gC l.mn else 1::(gC l.mn++gC l.mx)
def dA:List Int→List (List Int):=fun l=>l.foldl (fun r k=>match r.getLast? with
 |some (x::xs)=>if x==k then r.dropLast++ [(x::xs)++ [k]]else r++ [[k]]
 | _=>r++ [[k]]) []
def jS (r:List Int):List Nat:=gC r.length++kB (r.headD 0)
def oN (c:Co):List Nat:=uB (aZ (dA c.ls) jS++jB c.bd).length++(aZ (dA c.ls) jS++jB c.bd)
def bP {α:Type} (no:Nat) (l:List α) (pt:α→List Nat):List Nat:=if l.isEmpty then []else no::(uB (aZ l pt).length++aZ l pt)
def QM (t:FT):List Nat:=96::(aZ t.pr kB++aZ t.rs kB)
def LF (x:Im):List Nat:=eL x.mod++eL x.nm++ [0]++gC x.ty
def OO (g:Gl):List Nat:=kB g.kd++ [if g.mu then 1 else 0]++vV g.kd g.n
def NM (x:Ex):List Nat:=eL x.nm++ [0]++gC x.fn
def LG (x:El):List Nat:=nV x.off++aZ x.fs gC
def NN (x:Da):List Nat:=nV x.off++uB x.bs.length++x.bs
def jT (l:Li):List Li:=if l.has then [l]else []
def headB:List Nat:=[0,97,115,109,1,0,0,0]
def eN (m:Md):List Nat:=headB++bP 1 m.ty QM++bP 2 m.im LF++bP 3 m.fn gC++bP 4 (jT m.tb) (fun l=>112::gO l)++bP 5 (jT m.me) gO++bP 6 m.gl OO++bP 7 m.ex NM++bP 9 m.el LG++bP 10 m.co oN++bP 11 m.da NN
def jD (n:Int):Bool:=if decide (0≤n)=true then decide (n≤1000)else false
def NO (k:Int):Bool:=if(k==1)=true then true else(k==2)
def vW (s:List Nat):Bool:=if(s.length !=0)=true then(decide (s.length≤16)&&s.all fun c=>decide (32≤c)&&decide (c≤126))else false
def iT (n:Int):Bool:=decide (-2147483648≤n)&&decide (n≤2147483647)
def nJ (l:Li) (least most:Int):Bool:=if l.has then decide (0≤l.mn)&&decide (l.mn≤least)&&decide (-1≤l.mx)&&decide (l.mx≤most)else(l.mn==0&&l.mx==0)
def cD {α:Type} (l:List α) (most:Int) (p:α→Bool):Bool:=decide ((l.length:Int)≤most)&&l.all p
def nW (k n:Int):Bool:=(k==1&&decide (-2147483648≤n)&&decide (n≤2147483647))||(k==2)
def lB (m:Md):Bool:=cD m.ty 16 (fun t=>cD t.pr 32 NO&&cD t.rs 1 NO)&&cD m.im 16 (fun x=>vW x.mod&&vW x.nm&&jD x.ty)&&cD m.fn (16-m.im.length) jD&&
 cD m.gl 16 (fun g=>nW g.kd g.n)&&cD m.ex 16 (fun x=>vW x.nm&&jD x.fn)&&cD m.el 16 (fun x=>iT x.off&&cD x.fs 50 jD)&&cD m.da 16 (fun x=>iT x.off&&decide (x.bs.length≤1000))
def tN (c:Co):Bool:=wT (dQ c.bd)&&cD c.ls 32 NO&&cD c.bd 300 cW
def lC (m:Md):Bool:=(m.co.length==m.fn.length&&cD m.co 16 tN)&&lB m&&nJ m.tb 16 1000&&nJ m.me 16 65536&&decide ((eN m).length≤8000)
theorem GB{k n:Int}(h:nW k n=true)(hn:-9223372036854775808≤n∧n≤9223372036854775807):(⟨if(k==2)=true then 66 else 65,n,0,[]⟩:Ins).Ok∧cW ⟨if(k==2)=true then 66 else 65,n,0,[]⟩=true∧(k=1∨k=2):=by
 unfold nW at h;simp only[Bool.or_eq_true,Bool.and_eq_true,beq_iff_eq,decide_eq_true_eq]at h;rcases h with⟨⟨rfl,h1⟩,h2⟩|rfl
 ·refine⟨⟨by simp,by simp,hn.1,hn.2,by simp⟩, ?_,.inl rfl⟩;rw[if_neg (by decide)];have:aS 65=8:=by decide
  simp[cW,jI,this,jA];omega
 ·refine⟨⟨by simp,by simp,hn.1,hn.2,by simp⟩, ?_,.inr rfl⟩;rw[if_pos (by decide)];have:aS 66=9:=by decide
  simp[cW,jI,this]
structure Ct where
 op:Int
 kd:Int
 ht:Nat
 dd:Bool
structure PS where
 vs:List Int
 cs:List Ct
 bad:Bool
def jY (c:Ct):List AV:=[.int .i64 c.op,.int .i64 c.kd,.int .i64 c.ht,.bool c.dd]
def ct0:Ct:=⟨0,0,0,false⟩
def PS.top (s:PS):Ct:=s.cs.getLast?.getD ct0
def dX (s:PS) (ok:Bool):PS:=⟨s.vs,s.cs,if s.bad=true then true else !ok⟩
def gH (s:PS) (ks:List Int):PS:=⟨s.vs++ks,s.cs,s.bad⟩
def cF (s:PS) (w:Int):Int×PS:=
 if((s.vs.length:Int)==s.top.ht)=true then(w,dX s s.top.dd)
 else if(s.vs.getLast?.getD 0==0)=true then(w,⟨s.vs.dropLast,s.cs,s.bad⟩)
 else(s.vs.getLast?.getD 0,dX ⟨s.vs.dropLast,s.cs,s.bad⟩ (if(w==0)=true then true else(s.vs.getLast?.getD 0==w)))
def dZ (s:PS) (ks:List Int):PS:=ks.reverse.foldl (fun s k=>(cF s k).2) s
def iF (k:Int):List Int:=if(k==0)=true then []else [k]
def openP (s:PS) (op kd:Int):PS:=⟨s.vs,s.cs++ [⟨op,kd,s.vs.length,false⟩],s.bad⟩
def kU (s:PS):PS:=
 let s1:=dZ s (iF s.top.kd)
 let s2:=dX s1 ((s1.vs.length:Int)==s.top.ht)
 ⟨s2.vs,s2.cs.dropLast,s2.bad⟩
def mB (s:PS):PS:=⟨s.vs.take s.top.ht,s.cs.dropLast++ [⟨s.top.op,s.top.kd,s.top.ht,true⟩],s.bad⟩
def cA (s:PS) (n:Int):List Int×PS:=
 if decide ((s.cs.length:Int)≤n)=true then([],⟨s.vs,s.cs,true⟩)
 else(if((s.cs.getD (s.cs.length-1-n.toNat) ct0).op==3)=true then []else iF (s.cs.getD (s.cs.length-1-n.toNat) ct0).kd,s)
def ft0:FT:=⟨[],[]⟩
def dD (m:Md) (t:Int):FT×Bool:=if(if decide (t<0)=true then true else decide ((m.ty.length:Int)≤t))=true then(ft0,false)else(m.ty.getD t.toNat ft0,true)
def nE (m:Md) (f:Int):Int:=
 if decide (f<m.im.length)=true then(m.im.getD f.toNat ⟨[],[],0⟩).ty
 else if decide (f-m.im.length<m.fn.length)=true then m.fn.getD (f-m.im.length).toNat 0
 else-1
def pL (s:PS) (t:FT) (ok:Bool):PS:=gH (dZ (dX s ok) t.pr) t.rs
def eq1 (a b:List Int):Bool:=if((a.length:Int)==b.length)=true then(if((a.length:Int)==0)=true then true else(a.headD 0==b.headD 0))else false
def vX (w:List Int) (s:PS) (n:Int):PS:=dX (cA s n).2 (eq1 (cA s n).1 w)
def pM (s:PS) (x:Ins):PS:=
 let r:=cA (cF s 1).2 x.a
 mB (dZ (x.l.foldl (vX r.1) r.2) r.1)
def bU (m:Md) (s:PS) (x:Ins):Bool×PS:=
 if(x.op==0)=true then(true,mB s)
 else if(x.op==1)=true then(true,s)
 else if(x.op==2||x.op==3)=true then(true,openP s x.op x.a)
 else if(x.op==4)=true then(true,openP (cF s 1).2 x.op x.a)
 else if(x.op==5)=true then(true,openP (kU s) 5 s.top.kd)
 else if(x.op==11)=true then(true,gH (dX (kU s) (if(s.top.op !=4)=true then true else(s.top.kd==0))) (iF s.top.kd))
 else if(x.op==12)=true then(true,mB (dZ (cA s x.a).2 (cA s x.a).1))
 else if(x.op==13)=true then(true,let r:=cA (cF s 1).2 x.a;gH (dZ r.2 r.1) r.1)
 else if(x.op==14)=true then(true,pM s x)
 else if(x.op==15)=true then(true,mB (dZ s (iF (s.cs.getD 0 ct0).kd)))
 else if(x.op==16)=true then(true,let t:=dD m (nE m x.a);pL s t.1 t.2)
 else if(x.op==17)=true then(true,let t:=dD m x.a;pL (cF (dX s m.tb.has) 1).2 t.1 t.2)
 else(false,s)
def dI (ls:List Int) (s:PS) (n:Int):Int×PS:=if decide ((ls.length:Int)≤n)=true then(0,⟨s.vs,s.cs,true⟩)else(ls.getD n.toNat 0,s)
def gl0:Gl:=⟨false,0,0⟩
def eG (m:Md) (s:PS) (n:Int):Gl×PS:=if decide ((m.gl.length:Int)≤n)=true then(gl0,⟨s.vs,s.cs,true⟩)else(m.gl.getD n.toNat gl0,s)
def fK (m:Md) (s:PS) (x:Ins) (al:Int) (tk mk:List Int):PS:=gH (dZ (dX s (if m.me.has=true then decide (x.a≤al)else false)) tk) mk
def cP (m:Md) (ls:List Int) (s:PS) (x:Ins):PS:=
 if(x.op==26)=true then(cF s 0).2
 else if(x.op==27)=true then
  let s1:=(cF s 1).2;let r:=cF s1 0;let r2:=cF r.2 r.1;gH r2.2 [r2.1]
 else if(x.op==32)=true then let r:=dI ls s x.a;gH r.2 [r.1]
 else if(x.op==33)=true then let r:=dI ls s x.a;(cF r.2 r.1).2
 else if(x.op==34)=true then let r:=dI ls s x.a;let r2:=dI ls (cF r.2 r.1).2 x.a;gH r2.2 [r2.1]
 else if(x.op==35)=true then let r:=eG m s x.a;gH r.2 [r.1.kd]
 else if(x.op==36)=true then let r:=eG m s x.a;(cF (dX r.2 r.1.mu) r.1.kd).2
 else if(x.op==40)=true then fK m s x 2 [1] [1]
 else if(x.op==41)=true then fK m s x 3 [1] [2]
 else if(x.op==44||x.op==45)=true then fK m s x 0 [1] [1]
 else if(x.op==54)=true then fK m s x 2 [1,1] []
 else if(x.op==55)=true then fK m s x 3 [1,2] []
 else if(x.op==58)=true then fK m s x 0 [1,1] []
 else if(x.op==63)=true then fK m s x 0 [] [1]
 else if(x.op==64)=true then fK m s x 0 [1] [1]
 else if(x.op==65)=true then gH s [1]
 else if(x.op==66)=true then gH s [2]
 else let k:=kN x.op;gH (dZ (dX s k.2.2) k.1) [k.2.1]
def nM (m:Md) (ls:List Int) (s:PS) (x:Ins):PS:=let r:=bU m s x;if r.1=true then r.2 else cP m ls r.2 x
def goP (m:Md) (ls:List Int):List Ins→PS→PS
 |[],s=>s
 |x::l,s=>let s':=nM m ls s x;if s'.bad=true then s' else goP m ls l s'
def BW (m:Md) (k:Int):Bool:=
 if(if(if decide (k<0)=true then true else decide ((m.co.length:Int)≤k))=true then true else decide ((m.fn.length:Int)≤k))=true then false
 else
  let c:=m.co.getD k.toNat ⟨[],[]⟩
  let t:=dD m (m.fn.getD k.toNat 0)
  if(if(!t.2)=true then true else !(wT (dQ c.bd)))=true then false
  else
   let ls:=t.1.pr++c.ls
   let s:=goP m ls c.bd (openP ⟨[],[],false⟩ 2 (if decide ((0:Int)<t.1.rs.length)=true then t.1.rs.headD 0 else 0))
   if s.bad=true then false else(if(!(kU s).bad)=true then decide ((ls.length:Int)≤32)else false)
structure PS.Ok0 (s:PS):Prop where
 le:∀c∈s.cs,c.ht≤s.vs.length
 up:s.cs.Pairwise fun a b=>a.ht≤b.ht
structure PS.Ok (s:PS):Prop extends s.Ok0 where
 ne:s.cs≠ []
theorem zO{vs:List Int}{i:List Ct}{t:Ct}{b:Bool}:PS.top ⟨vs,i++ [t],b⟩=t:=by simp[PS.top]
theorem PS.Ok0.split {vs:List Int}{i:List Ct}{t:Ct}{b:Bool}(h:PS.Ok0 ⟨vs,i++ [t],b⟩):(∀c∈i,c.ht≤t.ht)∧t.ht≤vs.length∧i.Pairwise (fun a b=>a.ht≤b.ht):=by
 obtain⟨h1,h2⟩:=h;rw[List.pairwise_append]at h2;exact⟨fun c hc=>h2.2.2 c hc t (by simp),h1 t (by simp),h2.1⟩
theorem PS.Ok.cut {s:PS}(h:s.Ok):∃i,s.cs=i++ [s.top]:=by
 obtain⟨vs,cs,b⟩:=s;have hn:=h.ne;rcases List.eq_nil_or_concat cs with rfl|⟨i,t,rfl⟩
 ·exact absurd rfl hn
 ·rw[List.concat_eq_append];exact⟨i,by rw[zO]⟩
theorem QN(s:PS)(b:Bool):(dX s b).cs=s.cs:=rfl
theorem yF(s:PS)(b:Bool):(dX s b).vs=s.vs:=rfl
theorem PS.Ok.need {s:PS}(h:s.Ok)(b:Bool):(dX s b).Ok:=⟨⟨h.le,h.up⟩,h.ne⟩
theorem tO(s:PS)(w:Int):(cF s w).2.cs=s.cs:=by unfold cF;split<;>(try split)<;>rfl
theorem pN(s:PS)(w:Int):(cF s w).2.vs.length≤s.vs.length:=by
 unfold cF;split
 ·exact Nat.le_refl _
 ·split
  ·simp
  ·simp[dX]
theorem PS.Ok.pop {s:PS}(h:s.Ok)(w:Int):(cF s w).2.Ok:=by
 obtain⟨i,hi⟩:=h.cut;have h0:=h.toOk0;have hne:=h.ne;obtain⟨vs,cs,b⟩:=s;dsimp only at hi;generalize PS.top ⟨vs,cs,b⟩=t at hi;subst hi;obtain⟨h1,h2,h3⟩:=h0.split;have key:¬(vs.length:Int)==t.ht→∀b',PS.Ok ⟨vs.dropLast,i++ [t],b'⟩:=fun hl b'=>by
  have hl:vs.length≠t.ht:=fun e=>hl (by rw[e];exact beq_self_eq_true _)
  refine⟨⟨fun c hc=> ?_,h0.up⟩,by simp⟩;show c.ht≤vs.dropLast.length;rw[List.length_dropLast];rcases List.mem_append.1 hc with hc|hc
  ·have:=h1 c hc;omega
  ·obtain rfl:=List.mem_singleton.1 hc;omega
 unfold cF;rw[zO];split
 ·exact h.need _
 ·next hl=>
  split
  ·exact key hl b
  ·exact(key hl b).need _
theorem TA(s:PS)(ks:List Int)(k:Int):dZ s (ks++ [k])=dZ (cF s k).2 ks:=by simp[dZ]
theorem zP{p:PS→Prop}(h:∀s w,p s→p (cF s w).2):∀(ks:List Int) (s:PS),p s→p (dZ s ks):=by
 have:∀(l:List Int) (s:PS),p s→p (l.foldl (fun s k=>(cF s k).2) s):=by
  intro l
  induction l with
  |nil=>intro s hs;exact hs
  |cons a l ih=>intro s hs;exact ih _ (h s a hs)
 intro ks s hs;exact this _ s hs
theorem mF(s:PS)(ks:List Int):(dZ s ks).cs=s.cs:=zP (p:=fun q=>q.cs=s.cs) (fun q w h=>by rw[tO,h]) ks s rfl
theorem lO(s:PS)(ks:List Int):(dZ s ks).vs.length≤s.vs.length:=zP (p:=fun q=>q.vs.length≤s.vs.length) (fun q w h=>Nat.le_trans (pN q w) h) ks s (Nat.le_refl _)
theorem PS.Ok.pops {s:PS}(h:s.Ok)(ks:List Int):(dZ s ks).Ok:=zP (fun q w h=>h.pop w) ks s h
theorem PS.Ok0.push {s:PS}(h:s.Ok0)(ks:List Int):(gH s ks).Ok0:=⟨fun c hc=>by have:=h.le c hc;simp[gH];omega,h.up⟩
theorem PS.Ok.push {s:PS}(h:s.Ok)(ks:List Int):(gH s ks).Ok:=⟨h.toOk0.push ks,h.ne⟩
theorem PS.Ok0.openP {s:PS}(h:s.Ok0)(op kd:Int):(openP s op kd).Ok:=by
 refine⟨⟨fun c hc=> ?_, ?_⟩,by simp[Proofs.YtjpdadobblffmaaGreat.openP]⟩
 ·rcases List.mem_append.1 hc with hc|hc
  ·exact h.le c hc
  ·obtain rfl:=List.mem_singleton.1 hc;exact Nat.le_refl _
 ·show(s.cs++ [_]).Pairwise _;rw[List.pairwise_append];exact⟨h.up,by simp,fun a ha b hb=>by obtain rfl:=List.mem_singleton.1 hb;exact h.le a ha⟩
theorem PS.Ok.dropc {s:PS}(h:s.Ok):PS.Ok0 ⟨s.vs,s.cs.dropLast,s.bad⟩:=⟨fun c hc=>h.le c (List.dropLast_subset _ hc),h.up.sublist (List.dropLast_sublist _)⟩
theorem PS.Ok.shut {s:PS}(h:s.Ok):(kU s).Ok0:=((h.pops _).need _).dropc
theorem yG(s:PS):(kU s).cs=s.cs.dropLast:=by show(dZ s _).cs.dropLast=_;rw[mF]
theorem zQ(s:PS):(kU s).vs.length≤s.vs.length:=lO _ _
theorem PS.Ok0.ok {s:PS}(h:s.Ok0)(hn:s.cs≠ []):s.Ok:=⟨h,hn⟩
theorem PS.Ok.dead {s:PS}(h:s.Ok):(mB s).Ok:=by
 obtain⟨i,hi⟩:=h.cut;have h0:=h.toOk0;obtain⟨vs,cs,b⟩:=s;dsimp only at hi;have hT:mB ⟨vs,cs,b⟩=⟨vs.take (PS.top ⟨vs,cs,b⟩).ht,cs.dropLast++ [⟨(PS.top ⟨vs,cs,b⟩).op,(PS.top ⟨vs,cs,b⟩).kd,(PS.top ⟨vs,cs,b⟩).ht,true⟩],b⟩:=rfl;rw[hT];generalize PS.top ⟨vs,cs,b⟩=t at hi;subst hi;obtain⟨h1,h2,h3⟩:=h0.split;refine⟨⟨fun c hc=> ?_, ?_⟩,by simp⟩
 ·show c.ht≤(vs.take t.ht).length;rw[List.length_take,Nat.min_eq_left h2];simp only[List.dropLast_concat]at hc;rcases List.mem_append.1 hc with hc|hc
  ·exact h1 c hc
  ·obtain rfl:=List.mem_singleton.1 hc;exact Nat.le_refl _
 ·simp only[List.dropLast_concat];rw[List.pairwise_append];exact⟨h3,by simp,fun a ha b hb=>by obtain rfl:=List.mem_singleton.1 hb;exact h1 a ha⟩
theorem uN(s:PS):(mB s).vs.length≤s.vs.length:=by simp[mB];omega
theorem yH{s:PS}(h:s.Ok):(mB s).cs.length=s.cs.length:=by
 have:0<s.cs.length:=List.length_pos_iff.2 h.ne;simp[mB];omega
theorem rJ(s:PS)(n:Int):(cA s n).2.cs=s.cs:=by unfold cA;split<;>rfl
theorem rK(s:PS)(n:Int):(cA s n).2.vs=s.vs:=by unfold cA;split<;>rfl
theorem PS.Ok.label {s:PS}(h:s.Ok)(n:Int):(cA s n).2.Ok:=by unfold cA;split;exact⟨⟨h.le,h.up⟩,h.ne⟩;exact h
theorem rL(k:Int):(iF k).length≤1:=by unfold iF;split<;>simp
theorem oO(s:PS)(n:Int):(cA s n).1.length≤1:=by
 unfold cA;split
 ·simp
 ·dsimp only;split
  ·simp
  ·exact rL _
theorem uO(w:List Int)(l:List Int)(s:PS):(l.foldl (vX w) s).cs=s.cs∧(l.foldl (vX w) s).vs=s.vs∧(s.Ok→(l.foldl (vX w) s).Ok):=by
 induction l generalizing s with
 |nil=>exact⟨rfl,rfl,id⟩
 |cons a l ih=>
  obtain⟨h1,h2,h3⟩:=ih (vX w s a);rw[List.foldl_cons];exact⟨h1.trans (rJ s a),h2.trans (rK s a),fun h=>h3 ((h.label a).need _)⟩
theorem QO(s:PS)(ks:List Int):(gH s ks).cs=s.cs:=rfl
theorem uP(s:PS)(ks:List Int):(gH s ks).vs.length=s.vs.length+ks.length:=by simp[gH]
theorem zR(s:PS)(op kd:Int):(openP s op kd).cs.length=s.cs.length+1:=by simp[openP]
theorem PS.Ok.calls {s:PS}(h:s.Ok)(t:FT)(ok:Bool):(pL s t ok).Ok:=((h.need ok).pops _).push _
theorem LH(s:PS)(t:FT)(ok:Bool):(pL s t ok).cs=s.cs:=mF _ _
theorem EC(s:PS)(t:FT)(ok:Bool):(pL s t ok).vs.length≤s.vs.length+t.rs.length:=by
 unfold pL;rw[uP];have:=lO (dX s ok) t.pr;rw[yF]at this;omega
theorem PS.Ok.table {s:PS}(h:s.Ok)(x:Ins):(pM s x).Ok:=(((uO _ _ _).2.2 ((h.pop 1).label x.a)).pops _).dead
theorem WN{s:PS}(h:s.Ok)(x:Ins):(pM s x).cs.length=s.cs.length:=by
 unfold pM;dsimp only;rw[yH (((uO _ _ _).2.2 ((h.pop 1).label x.a)).pops _),mF,(uO _ _ _).1,rJ,tO]
theorem TB(s:PS)(x:Ins):(pM s x).vs.length≤s.vs.length:=by
 unfold pM;dsimp only;refine Nat.le_trans (uN _) (Nat.le_trans (lO _ _) ?_);rw[(uO _ _ _).2.1,rK];exact pN _ _
def dK (op:Int):Int:=if(op==2||op==3||op==4)=true then 1 else if(op==11)=true then-1 else 0
def FT.Sm (t:FT):Prop:=t.pr.length≤100∧t.rs.length≤100
def Md.TS (m:Md):Prop:=∀t∈m.ty,t.Sm
theorem cO{α:Type}{c:Prop} [Decidable c] {p:α→Prop}{a b:α}(h1:c→p a)(h2:¬c→p b):p (if c then a else b):=by split;exact h1 ‹_›;exact h2 ‹_›
theorem oP{m:Md}(h:m.TS)(n:Int):(dD m n).1.Sm:=by
 unfold dD;refine cO (p:=fun r:FT×Bool=>r.1.Sm) (fun _=> ?_) (fun _=> ?_)
 ·exact⟨by simp[ft0],by simp[ft0]⟩
 ·show FT.Sm (m.ty.getD n.toNat ft0);rw[List.getD_eq_getElem?_getD];cases hg:m.ty[n.toNat]? with
  |none=>exact⟨by simp[ft0],by simp[ft0]⟩
  |some t=>exact h t (List.mem_of_getElem? hg)
theorem mG{α:Type}(l:List α):l.dropLast.length=l.length-1:=List.length_dropLast
def aFN (s:PS) (x:Ins) (r:Bool×PS):Prop:=r.2.Ok∧r.2.vs.length≤s.vs.length+100∧(r.2.cs.length:Int)=s.cs.length+(if r.1=true then dK x.op else 0)
theorem LI{m:Md}{s:PS}{x:Ins}(h:s.Ok)(hx:x.op=11→2≤s.cs.length)(hT:m.TS):aFN s x (bU m s x):=by
 have hp:0<s.cs.length:=List.length_pos_iff.2 h.ne;unfold bU;refine cO (fun g=> ?_) (fun _=> ?_)
 ·have:=eq_of_beq g;exact⟨h.dead,by have:=uN s;dsimp only;omega,by rw[yH h,this];simp[dK]⟩
 refine cO (fun g=> ?_) (fun _=> ?_)
 ·have:=eq_of_beq g;exact⟨h,by dsimp only;omega,by rw[this];simp[dK]⟩
 refine cO (fun g=> ?_) (fun _=> ?_)
 ·
  refine⟨h.toOk0.openP _ _,by show s.vs.length≤ _;omega, ?_⟩;dsimp only;rw[zR];simp only[Bool.or_eq_true,beq_iff_eq]at g;rcases g with g|g<;>(rw[g];simp[dK])
 refine cO (fun g=> ?_) (fun _=> ?_)
 ·
  refine⟨(h.pop 1).toOk0.openP _ _,by have:=pN s 1;show(cF s 1).2.vs.length≤ _;omega, ?_⟩;dsimp only;rw[zR,tO,eq_of_beq g];simp[dK]
 refine cO (fun g=> ?_) (fun _=> ?_)
 ·
  refine⟨h.shut.openP _ _,by have:=zQ s;show(kU s).vs.length≤ _;omega, ?_⟩;dsimp only;rw[zR,yG,mG,eq_of_beq g];simp[dK];omega
 refine cO (fun g=> ?_) (fun _=> ?_)
 ·
  have h2:=hx (eq_of_beq g);have hne:(kU s).cs≠ []:=by rw[yG];exact List.length_pos_iff.1 (by rw[mG];omega)
  refine⟨((h.shut.ok hne).need _).push _, ?_, ?_⟩
  ·have h3:=zQ s;have h4:=rL s.top.kd;dsimp only;rw[uP,yF];omega
  ·dsimp only;rw[QO,QN,yG,mG,eq_of_beq g];simp[dK];omega
 refine cO (fun g=> ?_) (fun _=> ?_)
 ·
  refine⟨((h.label _).pops _).dead, ?_, ?_⟩
  ·refine Nat.le_trans (uN _) (Nat.le_trans (lO _ _) ?_);rw[rK];omega
  ·dsimp only;rw[yH ((h.label _).pops _),mF,rJ,eq_of_beq g];simp[dK]
 refine cO (fun g=> ?_) (fun _=> ?_)
 ·
  refine⟨(((h.pop 1).label _).pops _).push _, ?_, ?_⟩
  ·dsimp only;rw[uP];have h1:=lO (cA (cF s 1).2 x.a).2 (cA (cF s 1).2 x.a).1;rw[rK]at h1;have h2:=pN s 1;have h3:=oO (cF s 1).2 x.a;omega
  ·dsimp only;rw[QO,mF,rJ,tO,eq_of_beq g];simp[dK]
 refine cO (fun g=> ?_) (fun _=> ?_)
 ·exact⟨h.table x,by have:=TB s x;dsimp only;omega,by dsimp only;rw[WN h,eq_of_beq g];simp[dK]⟩
 refine cO (fun g=> ?_) (fun _=> ?_)
 ·
  refine⟨(h.pops _).dead, ?_, ?_⟩
  ·refine Nat.le_trans (uN _) (Nat.le_trans (lO _ _) ?_);omega
  ·dsimp only;rw[yH (h.pops _),mF,eq_of_beq g];simp[dK]
 refine cO (fun g=> ?_) (fun _=> ?_)
 ·
  refine⟨h.calls _ _, ?_, ?_⟩
  ·have h1:=EC s (dD m (nE m x.a)).1 (dD m (nE m x.a)).2;have h2:=(oP hT (nE m x.a)).2;dsimp only;omega
  ·dsimp only;rw[LH,eq_of_beq g];simp[dK]
 refine cO (fun g=> ?_) (fun _=> ?_)
 ·
  refine⟨((h.need _).pop _).calls _ _, ?_, ?_⟩
  ·have h1:=EC (cF (dX s m.tb.has) 1).2 (dD m x.a).1 (dD m x.a).2;have h2:=(oP hT x.a).2;have h3:=pN (dX s m.tb.has) 1;rw[yF]at h3;dsimp only;omega
  ·dsimp only;rw[LH,tO,QN,eq_of_beq g];simp[dK]
 ·exact⟨h,by dsimp only;omega,by simp⟩
def Nxt (s:PS) (n:Nat) (q:PS):Prop:=q.Ok∧q.vs.length≤s.vs.length+n∧q.cs=s.cs
theorem PS.Ok.nxt {s:PS}(h:s.Ok):Nxt s 0 s:=⟨h,Nat.le_refl _,rfl⟩
theorem Nxt.pop {s q:PS}{n:Nat}(h:Nxt s n q)(w:Int):Nxt s n (cF q w).2:=⟨h.1.pop w,Nat.le_trans (pN q w) h.2.1,(tO q w).trans h.2.2⟩
theorem Nxt.pops {s q:PS}{n:Nat}(h:Nxt s n q)(ks:List Int):Nxt s n (dZ q ks):=⟨h.1.pops ks,Nat.le_trans (lO q ks) h.2.1,(mF q ks).trans h.2.2⟩
theorem Nxt.need {s q:PS}{n:Nat}(h:Nxt s n q)(b:Bool):Nxt s n (dX q b):=⟨h.1.need b,h.2.1,h.2.2⟩
theorem Nxt.bad {s q:PS}{n:Nat}(h:Nxt s n q):Nxt s n ⟨q.vs,q.cs,true⟩:=⟨⟨⟨h.1.le,h.1.up⟩,h.1.ne⟩,h.2.1,h.2.2⟩
theorem Nxt.push {s q:PS}{n:Nat}(h:Nxt s n q)(ks:List Int)(k:Nat)(hk:n+ks.length≤k):Nxt s k (gH q ks):=⟨h.1.push ks,by rw[uP];have:=h.2.1;omega,h.2.2⟩
theorem Nxt.up {s q:PS}{n:Nat}(h:Nxt s n q)(k:Nat)(hk:n≤k):Nxt s k q:=⟨h.1,by have:=h.2.1;omega,h.2.2⟩
theorem Nxt.loc {s q:PS}{n:Nat}(h:Nxt s n q)(ls:List Int)(x:Int):Nxt s n (dI ls q x).2:=by unfold dI;split;exact h.bad;exact h
theorem Nxt.glob {s q:PS}{n:Nat}(h:Nxt s n q)(m:Md)(x:Int):Nxt s n (eG m q x).2:=by unfold eG;split;exact h.bad;exact h
theorem Nxt.acc {s q:PS}{n:Nat}(h:Nxt s n q)(m:Md)(x:Ins)(al:Int)(tk mk:List Int)(k:Nat)(hk:n+mk.length≤k):Nxt s k (fK m q x al tk mk):=((h.need _).pops _).push _ k hk
theorem TC{m:Md}{ls:List Int}{s:PS}{x:Ins}(h:s.Ok):Nxt s 1 (cP m ls s x):=by
 have h:=h.nxt;unfold cP;refine cO (fun _=>(h.pop 0).up 1 (by omega)) (fun _=> ?_);refine cO (fun _=>Nxt.push (((h.pop 1).pop 0).pop _) _ 1 (by simp)) (fun _=> ?_);refine cO (fun _=>(h.loc ls x.a).push _ 1 (by simp)) (fun _=> ?_);refine cO (fun _=>Nxt.up ((h.loc ls x.a).pop _) 1 (by omega)) (fun _=> ?_);refine cO (fun _=>Nxt.push (((h.loc ls x.a).pop _).loc ls x.a) _ 1 (by simp)) (fun _=> ?_);refine cO (fun _=>(h.glob m x.a).push _ 1 (by simp)) (fun _=> ?_);refine cO (fun _=>Nxt.up (((h.glob m x.a).need _).pop _) 1 (by omega)) (fun _=> ?_);refine cO (fun _=>h.acc m x _ _ _ 1 (by simp)) (fun _=> ?_);refine cO (fun _=>h.acc m x _ _ _ 1 (by simp)) (fun _=> ?_);refine cO (fun _=>h.acc m x _ _ _ 1 (by simp)) (fun _=> ?_);refine cO (fun _=>h.acc m x _ _ _ 1 (by simp)) (fun _=> ?_);refine cO (fun _=>h.acc m x _ _ _ 1 (by simp)) (fun _=> ?_);refine cO (fun _=>h.acc m x _ _ _ 1 (by simp)) (fun _=> ?_);refine cO (fun _=>h.acc m x _ _ _ 1 (by simp)) (fun _=> ?_);refine cO (fun _=>h.acc m x _ _ _ 1 (by simp)) (fun _=> ?_);refine cO (fun _=>h.push _ 1 (by simp)) (fun _=> ?_);refine cO (fun _=>h.push _ 1 (by simp)) (fun _=> ?_);exact((h.need _).pops _).push _ 1 (by simp)
theorem rM{P:Program}(w:World)(t u ty e:TypeId)(i:TypeInfo)(ht:P.underlying t=some (.slice e))(hu:P.underlying u=some .string)(hi:P.info? e=some i)(hs1:i.size=1)
  (g sLen sCap:Nat) (cur:Array Value) (fz:Nat×Nat) (hg:w.heap[g]? =some (.cells cur e fz)) (hz:Fz e cur.size fz) (s:ByteArray)
  (hroom:sLen+s.size≤sCap) (hfit:sLen+s.size≤cur.size):
  (Builtin.append_ #[t,u] ty #[.slice (some ⟨g,0,none⟩) sLen sCap,.string s]).run P w=
   .ok (.slice (some ⟨g,0,none⟩) (sLen+s.size) sCap) (w.setRow g (cur.toList.take sLen++Lib.strCells s++cur.toList.drop (sLen+s.size)).toArray):=by
 have hf:=Lib.run_firstCells_string (P:=P) w 1 s;have hst:=fH (P:=P) g sLen e fz (Lib.strCells s) 0 cur w hg hz (by simpa[Lib.strCells_length]using hfit) (Lib.strCells_oneCell s);simp only[Nat.add_zero,Lib.strCells_length]at hst;simp[Builtin.append_,run_underlying ht,run_underlying hu,sizeOf,typeInfo,hi,hs1,Builtin.lenOf,hroom,hf,Addr.add_lit,hst]
theorem xN{P:Program}(w:World)(t u ty e:TypeId)(i:TypeInfo)(ht:P.underlying t=some (.slice e))(hu:P.underlying u=some .string)(hi:P.info? e=some i)(hz:i.zero=some (.int .u8 0))
  (hsize:i.size=1) (hby:i.bytes=1) (v:Value) (n:Nat) (xs:List Value) (hn:0<n) (hown:rowG w 0 e 1 v n xs) (s:ByteArray) (h63:n+s.size≤maxLen) (hbytes:n+s.size≤140737488355328):
  ∃v' w',(Builtin.append_ #[t,u] ty #[v,.string s]).run P w=.ok v' w'∧rowG w' 0 e 1 v' (n+s.size) (xs++Lib.strCells s)∧w.grownBy w' v.ownBlock∧(v'.ownBlock=v.ownBlock∨v'.ownBlock=some w.heap.size):=by
 rcases hown.2 with⟨rfl,rfl⟩|⟨g,cap,cur,fz,rfl,hbg,hg,hfz,hnc,hcm,hcs,htake⟩
 ·omega
 have hl:=Lib.strCells_length s;have hxl:xs.length=n:=by simpa using hown.1
 have hsmall:n+s.size≤9223372036854775807:=by simp only[maxLen]at h63;omega
 have hlen:(xs++Lib.strCells s).length=(n+s.size)*1:=by rw[List.length_append,hxl,hl,Nat.mul_one]
 rw[Nat.mul_one]at hcs htake;by_cases hroom:n+s.size≤cap
 ·have hr:=rM (P:=P) w t u ty e i ht hu hi hsize g n cap cur fz hg hfz s hroom (by omega);have hsz2:(cur.toList.take n++Lib.strCells s++cur.toList.drop (n+s.size)).toArray.size=cur.size:=by
   simp only[List.size_toArray,List.length_append,List.length_take,List.length_drop,Array.length_toList,hl];omega
  refine⟨_,_,hr,⟨hlen,.inr ⟨g,cap,_,fz,rfl,hbg,setRow_heap w g cur _ e _ hg,by rw[hsz2];exact hfz,hroom,hcm,by rw[hsz2];omega, ?_⟩⟩,⟨rfl,rfl,rfl,by simp,fun k _ hk=>setRow_other w g k _ (fun e=>hk (by simp[Value.ownBlock,e]))⟩,Or.inl rfl⟩;rw[htake,←hlen];exact List.take_left
 ·have holds:∀j u,xs[j]? =some u→w.cell? ((⟨g,0,none⟩:Addr).add j)=some u:=by
   intro j u hu;rw[Addr.add_lit,Nat.zero_add,cell_of_row w g j cur e fz hg,←Array.getElem?_toList];rw[←htake,List.getElem?_take]at hu;split at hu
   ·exact hu
   ·cases hu
  have hr:=Lib.run_append_grow_string (P:=P) w t u ty e i (.int .u8 0) ht hu hi hz ⟨g,0,none⟩ n cap xs (by rw[hsize];simpa using hxl) holds s (by omega) (by omega) (by rw[hby];exact growslice_fits (by omega) (by omega));have hge:=grownCap_ge w (n+s.size) cap e;have hcm:=grownCap_le_maxLen w (n+s.size) cap e h63;refine⟨_,_,hr,⟨hlen,.inr ⟨w.heap.size,_,_,(0,0),rfl,Nat.zero_le _,heap_alloc_new w.drew _,Fz.zero,hge,hcm, ?_, ?_⟩⟩,⟨rfl,rfl,rfl,by simp,fun k hk _=>heap_alloc_old w.drew _ hk⟩,Or.inr rfl⟩
  ·have hz1:(Value.int IntKind.u8 0).cells.size=1:=rfl;simp only[Array.size_append,List.size_toArray,size_zeroCells,hz1,hxl,hl];omega
  ·simp only[Array.toList_append,List.append_assoc];rw[←List.append_assoc,←hlen];exact List.take_left
section
variable {P : Program} {n : Nat} {s : ASt} {K : ASt → Prop} {ty t u : TypeId} {x y : Operand} {d : Nat}
theorem zS{e:TypeId} [Ty P t (.slice e)] [Ty P u .string] [Tz P e 1 1 (.int .u8 0)] {r len:Nat}{es:List (List AV)}{b:List Nat}(hb:aev s x=some (.own r 0 len))(hg:fB s.σ r=some (.arr e 1 es))(hlen:len≤es.length)(hpos:0<len)(hy:aev s y=some (.str (cU b)))(hlt:∀c∈b,c<256)
  (hmax:len+b.length≤140737488355328) (hd:d<n)
  (hK:∀r',Fresh r' (dE [r] s.σ)→K ⟨(d,.own r' 0 (len+(b.map aH).length))::s.fr,(r',.arr e 1 (es.take len++b.map aH))::dE [r] s.σ⟩):Hop P n (.call { callee:=.builtin .append,args:=#[x,y],argTypes:=#[t,u] }) ty (some d) s [r] K:=by
 intro M F N a w o ho hty hdst hr next Q hnext
 have hbase:=hr.aev hb;have hmem:=bI hg;obtain⟨h0,hrowsE,h3⟩:=hr.st.ent _ hmem;obtain⟨i,hi,hz0,hs0,hb0⟩:=Tz.parts P e;have he:a.eval y=.string (cU b):=by
  have:=hr.aev hy;generalize a.eval y=v at this⊢;cases this;rfl
 have hsl:(cU b).size=(b.map aH).length:=by simp[cU,ByteArray.size]
 have hnews:Lib.strCells (cU b)=b.map (fun c:Nat=>Value.int .u8 (c:Int)):=by
  unfold Lib.strCells cU;simp only[List.map_map];refine List.map_congr_left fun c hc=> ?_
  have:=hlt c hc;simp[Nat.mod_eq_of_lt this]
 have hrows:RowsAt M F w 1 (b.map aH) (Lib.strCells (cU b)):=by
  rw[hnews];refine⟨by simp,fun i x j a u hi hj hu=> ?_⟩;simp only[List.getElem?_map,Option.map_eq_some_iff]at hi hu;obtain⟨c,hc,rfl⟩:=hi
  match j,hj with
  |0,hj=>
   obtain rfl:=Option.some.inj hj;obtain⟨c',hc',rfl⟩:=hu;rw[Nat.mul_one,Nat.add_zero]at hc';obtain rfl:=Option.some.inj (hc.symm.trans hc');exact .int _ _
  |j+1,hj=>cases hj
 have hok:fZ 1 (b.map aH):=by
  intro x hx;obtain⟨c,-,rfl⟩:=List.mem_map.1 hx;exact⟨rfl,by simp[aH,AV.cell]⟩
 generalize hys:b.map aH=ys at hrows hok hsl hK⊢;have hyl:ys.length=b.length:=by rw[←hys];simp
 obtain⟨news,hns⟩:∃news,news=Lib.strCells (cU b):=⟨_,rfl⟩
 rw[←hns]at hrows;have hokT:fZ 1 (es.take len):=fun x hx=>hrowsE x (List.mem_of_mem_take hx)
 have hlenT:(es.take len).length=len:=by rw[List.length_take];omega
 --what the row holds
 have hown:∃v xs,a.eval x=v∧rowG w 0 e 1 v len xs∧RowsAt M F w 1 (es.take len) xs∧(∀g,v.ownBlock=some g→bB M r=some g)∨(∃A,a.eval x=.slice A 0 0∧len=0∧v=.slice A 0 0∧xs=[]):=by
  generalize a.eval x=u at hbase⊢;cases hbase with
  |own0=>exact⟨_,[],.inr ⟨_,rfl,rfl,rfl,rfl⟩⟩
  |own hM hle hmm=>
   rcases h3 with⟨hv',_⟩|⟨g,cc,vs,hM',hcl,hsz,hle',hmax',hvr⟩
   ·rw[hM]at hv';cases hv'
   ·have hg':=hM'.symm.trans hM;simp only[Option.some.injEq,Blk'.row.injEq]at hg';obtain⟨q1,q2,q3⟩:=hg';subst q1;subst q2;subst q3;obtain⟨fz,hcl,hfz⟩:=hcl;have hfit:len*1≤vs.size:=by rw[hsz];exact Nat.mul_le_mul_right _ (by omega)
    refine⟨_,vs.toList.take (len*1),.inl ⟨rfl,⟨by rw[List.length_take];simp;omega,.inr ⟨g,cc,vs,fz,by simp,Nat.zero_le _,hcl,hfz,by omega,hmm,hsz,rfl⟩⟩,⟨by rw[hlenT,List.length_take];simp;omega,fun i' x' j b u hi' hj hu=> ?_⟩,fun g2 hg2=> ?_⟩⟩
    ·have hil:=(List.getElem?_eq_some_iff.1 hi').1;rw[hlenT]at hil;have hjs:j<1:=by rw[←(hokT x' (List.mem_of_getElem? hi')).1];exact(List.getElem?_eq_some_iff.1 hj).1
     rw[List.getElem?_take_of_lt hil]at hi';rw[List.getElem?_take_of_lt (iM hil hjs)]at hu;exact hvr i' x' j b u hi' hj (by simpa using hu)
    ·simp only[Value.ownBlock,Option.some.injEq]at hg2;subst hg2;simp[bB,hM]
 obtain⟨v,xs,hown|⟨B,hx,rfl,rfl,rfl⟩⟩:=hown
 ·obtain⟨hx,hown,hrT,hblk⟩:=hown;obtain⟨v',w',hrun,ho',hg',hbl⟩:=xN (P:=P) w t u o.type e i (Ty.und (P:=P) (t:=t)) (Ty.und (P:=P) (t:=u)) hi hz0 hs0 hb0 v len xs hpos hown (cU b) (by rw[hsl];simp[maxLen];omega) (by rw[hsl];omega);rw[hsl,←hns]at ho';have hex:(execOp a.eval o).run P w=.ok (.value v') w':=by
   simp only[execOp,ho,resolve,invoke,builtin,Sem.run_bind,Sem.run_pure,Result.andThen_ok,List.map_toArray,List.map_cons,List.map_nil,hx,he,hrun]
  unfold Oper.wp;rw[hex,Oper.upon_value,hdst];have honly:Only (fun k=>bB M r=some k) w w':=⟨hg'.os,hg'.tape,hg'.output,hg'.size,fun k hk hne=>hg'.block k hk (fun e=>hne (hblk k e.symm))⟩
  have hSame:Same F w w':=fun g hgF=>honly.block g (hr.st.flt g hgF) (fun e=>hr.st.nof g ⟨_,hmem,e⟩ hgF)
  have hcat:RowsAt M F w 1 (es.take len++ys) (xs++news):=hrT.append hokT hrows;have hokC:fZ 1 (es.take len++ys):=fun x hx=>(List.mem_append.1 hx).elim (hokT x) (hok x)
  rcases ho'.2 with⟨rfl,hz'⟩|⟨g2,cap,cur,gF,rfl,_,hg2,hfz2,hn2,hm2,hs2,ht2⟩
  ·have hl0:len=0:=by omega
   have hy0:ys=[]:=List.eq_nil_of_length_eq_zero (by omega);subst hl0;subst hy0;have hE:ER (eI M N .virt) F w' N (.arr e 1 (es.take 0++ [])):=⟨h0,fun x hx=>by simp at hx,.inl ⟨bJ _,by simp⟩⟩
   obtain⟨r1,e1,n1,o1⟩:=hr.move_ hmem .virt honly (fun g hg=>by simp[bB,bJ]at hg) hE;exact hnext _ F (N+1) _ _ ⟨(d,.own N 0 (0+0))::s.fr,_⟩ (r1.put hd .own0) e1 o1 (hK N n1)
  ·have hE:ER (eI M N (.row g2 cap 1)) F w' N (.arr e 1 (es.take len++ys)):=by
    refine⟨h0,hokC,.inr ⟨g2,cap,cur,bJ _,⟨gF,hg2,hfz2⟩,hs2,by rw[List.length_append,hlenT];exact hn2,hm2,fun i' x' j b u hi' hj hu=> ?_⟩⟩;refine VR.mono (fun r b' h=>lI hr.st.fresh _ h) (fun _ h=>h) hSame (hcat.2 i' x' j b u hi' hj ?_);have hil:=(List.getElem?_eq_some_iff.1 hi').1;rw[List.length_append,hlenT]at hil;have hjs:j<1:=by rw[←(hokC x' (List.mem_of_getElem? hi')).1];exact(List.getElem?_eq_some_iff.1 hj).1
    rw[←ht2,List.getElem?_take_of_lt (iM hil hjs)];simpa using hu
   obtain⟨r1,e1,n1,o1⟩:=hr.move_ hmem (.row g2 cap 1) honly (fun g hg=>by
    simp only[bB,bJ,Option.some.injEq]at hg;subst hg;rcases hbl with h|h
    ·exact .inl (hblk g2 (h.symm.trans rfl))
    ·simp only[Value.ownBlock,Option.some.injEq]at h;exact .inr (by omega)) hE
   have hv:=VR.own (M:=eI M N (.row g2 cap 1)) (F:=F) (w:=w') (t:=N) (off:=0) (len:=len+ys.length) (bJ _) (by omega) hm2;simp only[Nat.zero_mul,Nat.sub_zero]at hv;exact hnext _ F (N+1) _ _ ⟨(d,.own N 0 (len+ys.length))::s.fr,_⟩ (r1.put hd hv) e1 o1 (hK N n1)
 ·omega
end
section
variable {P : Program} {n : Nat} {ops : Array Oper} {rest : List Oper} {fr : Fr} {σ : cR} {K : ASt → Prop} {ty t u : TypeId} {pos : String} {af : Array Edge} {x y : Operand} {d : Nat}
theorem apS{e:TypeId} [Ty P t (.slice e)] [Ty P u .string] [Tz P e 1 1 (.int .u8 0)] {r len:Nat}(vs b:List Nat)(hlt:∀c∈b,c<256)
  (hK:∀r',Fresh r' (dE [r] σ)→∃σ',SSet σ r (.arr e 1 (vs.map aH)) r' (.arr e 1 ((vs++b).map aH)) σ'∧RS P n ops rest ⟨(d,.own r' 0 (vs++b).length)::fr,σ'⟩ K)
  (hb:aev ⟨fr,σ⟩ x=some (.own r 0 len):=by rfl) (hg:fB σ r=some (.arr e 1 (vs.map aH)):=by exact bF) (hlen:len=vs.length:=by exact OI) (hpos:0<len:=by first|omega|(simp;omega)) (hy:aev ⟨fr,σ⟩ y=some (.str (cU b)):=by rfl)
  (hmax:len+b.length≤140737488355328:=by(simp;try omega)) (hd:Nat.ble (d+1) n=true:=by rfl):
  RS P n ops (⟨some d,.call { callee:=.builtin .append,args:=#[x,y],argTypes:=#[t,u] },ty,pos,af,none⟩::rest) ⟨fr,σ⟩ K:=by
 refine eT (zS hb hg (by simp;omega) hpos hy hlt hmax (cL hd) fun r' hf=> ?_);obtain⟨σ',hs,hK⟩:=hK r' hf;dsimp only;rw[hlen,show vs.length=(vs.map aH).length by simp,List.take_length,←List.map_append];refine vN (fun p hp=>hs.sub p hp) ?_;rw[show(vs.map aH).length+(b.map aH).length=(vs++b).length by simp];exact hK
end
theorem zT{P:Program}{n:Nat}{ops:Array Oper}{listed:Array Bool}{rest:List (Nat×Bool)}{held:List (Nat×List Nat)}{s:ASt}{K:ASt→Prop}{z:Nat}{zb:Bool}(i j:Nat)(t1 t2:List (Nat×Bool)){dst dst':Option Nat}{op op':Op}{ty ty':TypeId}{pos pos':String}{af af':Array Edge}{f1 f2:List Nat}
  (hr:(Region.ready .any ops listed==[i,j]&&(t1.length==rest.length)&&(t2.length==rest.length)&&yW ops (listed.setIfInBounds i true) t1&&yW ops (listed.setIfInBounds j true) t2)=true)
  (hi:ops[i]? =some ⟨dst,op,ty,pos,af,none⟩) (hj:ops[j]? =some ⟨dst',op',ty',pos',af',none⟩)
  (h1:Hop P n op ty dst s f1 fun s'=>RD P n ops (listed.setIfInBounds i true) t1 held s' K) (h2:Hop P n op' ty' dst' s f2 fun s'=>RD P n ops (listed.setIfInBounds j true) t2 held s' K)
  (g1:f1=[]∨((∀r∈f1,r∈s.σ.map (·.1))∧HB ops i (s.σ.map (·.1)) f1 held)) (g2:f2=[]∨((∀r∈f2,r∈s.σ.map (·.1))∧HB ops j (s.σ.map (·.1)) f2 held)):RD P n ops listed ((z,zb)::rest) held s K:=by
 intro hsel _ M F N a w hr0;simp only[Bool.and_eq_true,beq_iff_eq]at hr;obtain⟨⟨⟨⟨hrd,hl1⟩,hl2⟩,hc1⟩,hc2⟩:=hr;have main:∀ {k:Nat} {t:List (Nat×Bool)} {dst:Option Nat} {op:Op} {ty:TypeId} {pos:String} {af:Array Edge} {fp:List Nat},t.length=rest.length→yW ops (listed.setIfInBounds k true) t=true→ops[k]? =some ⟨dst,op,ty,pos,af,none⟩→
   Hop P n op ty dst s fp (fun s'=>RD P n ops (listed.setIfInBounds k true) t held s' K)→(fp=[]∨((∀r∈fp,r∈s.σ.map (·.1))∧HB ops k (s.σ.map (·.1)) fp held))→wpOp P ops (PostN n M F N w s.σ K) k (fun a' w'=>(∀g,Hd ops M F held k g→g<w.heap.size→w'.heap[g]? =w.heap[g]?)∧pB P .any ops (PostN n M F N w s.σ K) (Hd ops M F held) rest.length (listed.setIfInBounds k true) a' w') a w:=by
  intro k t dst op ty pos af fp hl hc hk h hfp;unfold wpOp;simp only[hk];rw[if_pos (by simp[Region.wanted])];refine .inl (h M F N a w _ rfl rfl rfl hr0 _ _ fun M' F' N' a' w' s' hr' he ho hk'=>⟨fun g hg hlt=> ?_, ?_⟩)
  ·rcases hg with hg|⟨r,hrh,hg⟩
   ·exact he.only.block g hlt (fun hB=>hr0.st.nof g hB hg)
   ·rcases hfp with rfl|⟨hf1,hb⟩
    ·exact ho.block g hlt (by simp)
    ·obtain⟨h1,h2⟩:=hb.held r hrh;obtain⟨p,hp,rfl⟩:=List.mem_map.1 h1;refine ho.block g hlt ?_;rintro⟨q,hq,hqg⟩;obtain⟨p2,hp2,rfl⟩:=List.mem_map.1 (hf1 q hq);exact h2 (by rw[hr0.st.inj p hp p2 hp2 g hg hqg];exact hq)
  ·rw[←hl];refine jU (PostN.ext he) ?_ _ _ _ _ (hk' hsel hc M' F' N' a' w' hr');rintro j' g (hg|⟨r,hrr,hg⟩)
   ·exact .inl (he.ff g hg)
   ·refine .inr ⟨r,hrr, ?_⟩;unfold bB at hg⊢;cases hm:M r with
    |none=>rw[hm]at hg;cases hg
    |some b=>rw[hm]at hg;rw[he.mm _ _ hm];exact hg
 refine⟨fun h0=>by rw[hrd]at h0;simp at h0,fun k hk=> ?_⟩;rw[hrd]at hk;rcases List.mem_cons.1 hk with rfl|hk
 ·exact main hl1 hc1 hi h1 g1
 ·obtain rfl:=List.mem_singleton.1 hk;exact main hl2 hc2 hj h2 g2
theorem WP{P:Program}{n:Nat}{fr:Fr}{σ:cR}{K:ASt→Prop}{ty t:TypeId}{d:Nat}{e:TypeId}{sz by_:Nat}{zv:Value}{len:Nat}{parts:Array (Nat×Operand)}{vs:List AV}{es:List (List AV)}(i1:Ty P t (.slice e))(i2:Tz P e sz by_ zv)(hv:AEvs ⟨fr,σ⟩ (parts.toList.map (·.2)) vs)(hp:parts.toList=oE 0 (parts.toList.map (·.2)))(hlen:(len==vs.length)=true)(h0:(decide (0<sz)&&decide (len*sz≤16777216))=true)
  (hc:(vs.all fun v=>v.cells.length==sz&&v.cells.all AV.cell)=true) (he:vs.map AV.cells=es) (hd:Nat.ble (d+1) n=true) (hK:∀r,Fresh r σ→K ⟨(d,.own r 0 len)::fr,(r,.arr e sz es)::σ⟩):Hop P n (.buildSlice t len parts) ty (some d) ⟨fr,σ⟩ [] K:=by
 subst he;exact lR hp hv hlen h0 hc (cL hd) hK
theorem LJ{s s':ASt}(ts:List Nat)(hf:∀i x',cN s'.fr i=some x'→∃x,cN s.fr i=some x∧Bor s.σ ts x x')(hσ:∀p∈s'.σ,p.1∉ts∧∃x,(p.1,x)∈s.σ∧∀(M:Mp) (F:Nat→Prop) (N:Nat) (w:World),SR M F N w s.σ→ER M F w p.1 x→ER M (FPlus M F s.σ ts) w p.1 p.2):SGo s s':=by
 intro M F N n a w hr;refine⟨M,FPlus M F s.σ ts,N,⟨hr.size,hr.defers,fun i x' hi=> ?_, ?_, ?_, ?_,fun b hb=>hb.flt hr.st,hr.st.fresh⟩,fun _ _ h=>h,fun _ h=>.inl h,Nat.le_refl _,Only.refl _ _, ?_, ?_, ?_⟩
 ·obtain⟨x,hx,hb⟩:=hf i x' hi;exact hb.vr hr.st (hr.fr i x hx)
 ·intro p hp;obtain⟨_,x,hx,hb⟩:=hσ p hp;exact hb M F N w hr.st (hr.st.ent _ hx)
 ·intro p hp q hq g h1 h2;obtain⟨_,x,hx,_⟩:=hσ p hp;obtain⟨_,y,hy,_⟩:=hσ q hq;exact hr.st.inj (p.1,x) hx (q.1,y) hy g h1 h2
 ·rintro g ⟨p,hp,hg⟩ hF;obtain⟨hn,x,hx,_⟩:=hσ p hp;rcases hF with hF|⟨q,hq,hqt,hqg⟩
  ·exact hr.st.nof g ⟨_,hx,hg⟩ hF
  ·exact hn (by have:=hr.st.inj _ hx _ hq g hg hqg;simp only at this;rw[this];exact hqt)
 ·rintro g ⟨p,hp,hg⟩ _;obtain⟨_,x,hx,_⟩:=hσ p hp;exact⟨_,hx,hg⟩
 ·rintro b (hb|⟨q,hq,_,hqg⟩)
  ·exact .inl hb
  ·exact .inr (.inr ⟨q,hq,hqg⟩)
 ·intro p hp _;obtain⟨_,x,hx,_⟩:=hσ p hp;exact⟨_,hx,rfl⟩
theorem QP{fr:Fr}{σ σ1 σ':cR}{r q:Nat}{et:TypeId}{sz:Nat}{es es':List (List AV)}{e:Ent}(hs:SSet σ r (.arr et sz es) r (.arr et sz es') σ1)(hd:SDel σ1 q e σ')(hl:es'.length=es.length)(hok:fZ sz es')
  (hb:∀(i:Nat) (x x':List AV),es[i]? =some x→es'[i]? =some x'→BorL σ [q] x x'):SGo ⟨fr,σ⟩ ⟨fr,σ'⟩:=by
 refine LJ [q] (fun i x' hi=>⟨x',hi,.refl _⟩) (fun p hp=> ?_);obtain⟨h1,h2⟩:=hd.sub p hp;refine⟨by simpa using h2, ?_⟩;rcases List.mem_cons.1 (hs.sub p h1)with rfl|h
 ·refine⟨_,bI hs.get,fun M F N w hr hx=> ?_⟩;obtain⟨g0,g1,g2⟩:=hx;refine⟨g0,hok, ?_⟩;rcases g2 with⟨k1,k2⟩|⟨g,c,vs,k1,k2,k3,k4,k5,k6⟩
  ·refine .inl ⟨k1, ?_⟩;subst k2;exact List.length_eq_zero_iff.1 hl
  ·refine .inr ⟨g,c,vs,k1,k2,k3,by rw[hl];exact k4,k5,fun i x' j a' u hi hj hu=> ?_⟩;have hil:=(List.getElem?_eq_some_iff.1 hi).1;have hx:es[i]? =some (es[i]'(by omega)):=List.getElem?_eq_getElem (by omega);obtain⟨hbl,hbe⟩:=(hb i _ x' hx hi).at_;have hjl:=(List.getElem?_eq_some_iff.1 hj).1;have ha:(es[i]'(by omega))[j]? =some ((es[i]'(by omega))[j]'(by omega)):=List.getElem?_eq_getElem (by omega);refine(hbe j a' hj).vr hr ?_;rw[List.getD_eq_getElem?_getD,ha,Option.getD_some];exact k6 i _ j _ u hx ha hu
 ·exact⟨p.2,(eH h).1,fun M F N w hr hx=>hx.mono (fun _ _ h=>h) (fun _ h=>.inl h) (fun _ _=>rfl) (fun _ _=>rfl)⟩
section
variable {P : Program} {n : Nat} {s : ASt} {K : ASt → Prop} {ty t u : TypeId} {x : Operand} {d : Nat}
theorem zU(w:World)(g n k:Nat)(h:k≠g):(w.freeze ⟨g,n,none⟩ 1).heap[k]? =w.heap[k]? :=by
 simp[World.freeze,Array.getElem?_modify,Ne.symm h]
theorem TD(w:World)(g n:Nat){vs:Array Value}{e:TypeId}{fz:Nat×Nat}(h:w.heap[g]? =some (.cells vs e fz)):(w.freeze ⟨g,n,none⟩ 1).heap[g]? =some (.cells vs e (if fz.1==fz.2 then(n,n+1)else(min fz.1 n,max fz.2 (n+1)))):=by
 obtain⟨lo,hi⟩:=fz;simp[World.freeze,Array.getElem?_modify,h]
theorem BX{e:TypeId} [Ty P t (.slice e)] [Ty P e (.int .u8)] {r len:Nat}{et:TypeId}{es:List (List AV)}(he:et≠3)(hx:aev s x=some (.own r 0 len))(hg:fB s.σ r=some (.arr et 1 es))(hpos:0<len)(hd:d<n)
  (hK:K ⟨(d,.own r 0 len)::s.fr,xF s.σ r (.arr et 1 es)⟩):Hop P n (.convert t t x) ty (some d) s [r] K:=by
 intro M F N a w o ho hty hdst hr next Q hnext
 have hbase:=hr.aev hx;have hmem:=bI hg;obtain⟨h0,hrows,h3⟩:=hr.st.ent _ hmem;generalize hu:a.eval x=v at hbase;cases hbase with
 |own0=>omega
 |own hM hle hmm=>
  rcases h3 with⟨hv',_⟩|⟨g,c,vs,hM',hcl,hsz,hlc,hmax,hvr⟩
  ·rw[hM]at hv';cases hv'
  ·have hg':=hM'.symm.trans hM;simp only[Option.some.injEq,Blk'.row.injEq]at hg';obtain⟨q1,q2,q3⟩:=hg';subst q1;subst q2;obtain⟨fz,hcl,hz⟩:=hcl;have hsh:w.shape? g=some (et,vs.size):=by simp[World.shape?,hcl]
   have hex:(execOp a.eval o).run P w=.ok (.value (.slice (some ⟨g,0,none⟩) len (c-0))) (w.freeze ⟨g,vs.size,none⟩ 1):=by
    simp[execOp,ho,hu,convert,run_underlying (Ty.und (P:=P) (t:=t)),run_underlying (Ty.und (P:=P) (t:=e)),markStringish,hsh]
   unfold Oper.wp;rw[hex,Oper.upon_value,hdst];have hbl:bB M r=some g:=by simp[bB,hM]
   have hF:¬F g:=hr.st.nof g ⟨_,hmem,hbl⟩;have honly:Only (fun k=>k=g) w (w.freeze ⟨g,vs.size,none⟩ 1):=⟨rfl,rfl,rfl,by simp[World.freeze],fun k _ hne=>zU w g vs.size k hne⟩
   have hSame:Same F w (w.freeze ⟨g,vs.size,none⟩ 1):=fun b hb=>zU w g vs.size b (fun e=>hF (e▸hb))
   have hE:ER M F (w.freeze ⟨g,vs.size,none⟩ 1) r (.arr et 1 es):=by
    refine⟨h0,hrows,.inr ⟨g,c,vs,hM',⟨_,TD w g vs.size hcl, ?_⟩,hsz,hlc,hmax,fun i x j b u hi hj hu=>(hvr i x j b u hi hj hu).mono (fun _ _ h=>h) (fun _ h=>h) hSame⟩⟩;refine⟨Or.inr ?_,fun e3=>absurd e3 he⟩;split
    ·exact Nat.le_refl _
    ·next hne=>
     rcases hz.1 with rfl|hz
     ·exact absurd rfl hne
     ·exact Nat.le_min.2 ⟨hz,Nat.le_refl _⟩
   obtain⟨r1,e1,o1⟩:=hr.set_ hmem hbl honly hE;have hv:=VR.own (M:=M) (F:=F) (w:=w.freeze ⟨g,vs.size,none⟩ 1) (t:=r) (off:=0) (len:=len) hM hle hmm;simp only[Nat.zero_mul]at hv;exact hnext M F N _ _ ⟨(d,.own r 0 len)::s.fr,_⟩ (r1.put hd hv) e1 o1 hK
theorem BY{e:TypeId} [Ty P u .string] [Ty P t (.slice e)] [Ty P e (.int .u8)] {b:List Nat}(hlt:∀c∈b,c<256)(hb:b.length≤maxLen)(hx:aev s x=some (.str (cU b)))(hd:d<n)
  (hK:K ⟨(d,.ro 1 (b.map aH) .any)::s.fr,s.σ⟩):Hop P n (.convert u t x) ty (some d) s [] K:=by
 intro M F N a w o ho hty hdst hr next Q hnext
 have hu:a.eval x=.string (cU b):=by
  have:=hr.aev hx;generalize a.eval x=v at this⊢;cases this;rfl
 have hsz:(cU b).size=b.length:=by simp[cU,ByteArray.size]
 have hrun:=Lib.run_convert_string_bytes (P:=P) w u t e (cU b) (Ty.und (P:=P) (t:=u)) (Ty.und (P:=P) (t:=t)) (Ty.und (P:=P) (t:=e));have hex:(execOp a.eval o).run P w=.ok (.value (.slice (some ⟨w.heap.size,0,none⟩) b.length (grownCap w b.length 0 e))) (Lib.bytesWorld w e (cU b)):=by
  rw[hsz]at hrun;simp[execOp,ho,hu,hrun]
 unfold Oper.wp;rw[hex,Oper.upon_value,hdst];have hold:∀k,k<w.heap.size→(Lib.bytesWorld w e (cU b)).heap[k]? =w.heap[k]? :=fun k hk=>Lib.bytesWorld_at_old w e (cU b) k hk
 have hgs:(Lib.bytesWorld w e (cU b)).heap.size=w.heap.size+1:=Lib.bytesWorld_size w e (cU b);have hSame:Same F w (Lib.bytesWorld w e (cU b)):=fun g hg=>hold g (hr.st.flt g hg)
 have hsr:=hr.st.growF hold (by omega) (Nat.le_refl _) (by omega:w.heap.size<(Lib.bytesWorld w e (cU b)).heap.size);have hcell:∀(i:Nat) (c:Nat),b[i]? =some c→(Lib.bytesWorld w e (cU b)).cell? ⟨w.heap.size,i,none⟩=some (.int .u8 (c:Int)):=by
  intro i c hc;have hil:=(List.getElem?_eq_some_iff.1 hc).1;rw[Lib.bytesWorld_cell w e (cU b) i (by omega)];have hm:(cU b).data.toList=b.map UInt8.ofNat:=by simp[cU]
  have hc2:=hlt c (List.mem_of_getElem? hc);rw[hm,List.getD_eq_getElem?_getD,List.getElem?_map,hc];simp[Nat.mod_eq_of_lt hc2]
 have hv:VR M (fun g=>F g∨g=w.heap.size) (Lib.bytesWorld w e (cU b)) (.ro 1 (b.map aH) .any) (.slice (some ⟨w.heap.size,0,none⟩) b.length (grownCap w b.length 0 e)):=by
  have:=VR.ro (M:=M) (F:=fun g=>F g∨g=w.heap.size) (w:=Lib.bytesWorld w e (cU b)) (es:=b.map aH) (k:=.any) (b:=w.heap.size) (o:=0) (sz:=1) (cap:=grownCap w b.length 0 e) (us:=fun i j=>.int .u8 ((b[i]!):Int)) (.inr rfl)
   (by intro y hy;obtain⟨c,-,rfl⟩:=List.mem_map.1 hy;exact⟨rfl,by simp[aH,AV.cell]⟩)
   (fun i y j v hi hj=>by
    simp only[List.getElem?_map,Option.map_eq_some_iff]at hi;obtain⟨c,hc,rfl⟩:=hi
    match j,hj with
    |0,hj=>
     have hil:=(List.getElem?_eq_some_iff.1 hc)
     rw[Nat.zero_add,Nat.mul_one,Nat.add_zero,hcell i c hc,getElem!_pos b i hil.1,hil.2]
    |j+1,hj=>cases hj)
   (fun i y j v hi hj=>by
    simp only[List.getElem?_map,Option.map_eq_some_iff]at hi;obtain⟨c,hc,rfl⟩:=hi
    match j,hj with
    |0,hj=>
     have hil:=(List.getElem?_eq_some_iff.1 hc)
     obtain rfl:=Option.some.inj hj;rw[getElem!_pos b i hil.1,hil.2];exact .int _ _
    |j+1,hj=>cases hj)
   (by simpa using grownCap_ge w b.length 0 e) (grownCap_le_maxLen w b.length 0 e hb) (fun h=>by cases h) (fun h=>by cases h)
  rwa [List.length_map]at this
 have honly:∀S,Only S w (Lib.bytesWorld w e (cU b)):=fun S=>⟨rfl,rfl,rfl,by omega,fun k hk _=>hold k hk⟩
 have hext:Ext M F N w s.σ M (fun g=>F g∨g=w.heap.size) N (Lib.bytesWorld w e (cU b)) s.σ:=by
  refine⟨fun _ _ h=>h,fun _ h=>.inl h,Nat.le_refl _,honly _,fun _ h _=>h,fun g hg=> ?_,fun p hp _=>⟨p,hp,rfl⟩⟩;rcases hg with hg|rfl
  ·exact .inl hg
  ·exact .inr (.inl (Nat.le_refl _))
 have hr2:Rel M (fun g=>F g∨g=w.heap.size) N n s a (Lib.bytesWorld w e (cU b)):=hr.step hext hsr rfl;exact hnext M _ N _ _ ⟨(d,.ro 1 (b.map aH) .any)::s.fr,s.σ⟩ (hr2.put hd hv) hext (honly _) hK
end
section
variable {P : Program} {n : Nat} {ops : Array Oper} {rest : List Oper} {fr : Fr} {σ σ' : cR} {K : ASt → Prop} {ty t u : TypeId} {pos : String} {af : Array Edge} {x : Operand} {d : Nat}
theorem cvm{e:TypeId} [Ty P t (.slice e)] [Ty P e (.int .u8)] {r len:Nat}{et:TypeId}{es:List (List AV)}(hs:SSet σ r (.arr et 1 es) r (.arr et 1 es) σ')(hpos:0<len)(hK:RS P n ops rest ⟨(d,.own r 0 len)::fr,σ'⟩ K)
  (hx:aev ⟨fr,σ⟩ x=some (.own r 0 len):=by rfl) (hd:Nat.ble (d+1) n=true:=by rfl) (he:et≠3:=by decide):RS P n ops (⟨some d,.convert t t x,ty,pos,af,none⟩::rest) ⟨fr,σ⟩ K:=
 eT (BX he hx hs.get hpos (cL hd) (vN (s:=⟨_,_⟩) (fun p hp=>hs.sub p hp) hK))
theorem cvb{e:TypeId} [Ty P u .string] [Ty P t (.slice e)] [Ty P e (.int .u8)] {b:List Nat}(hlt:∀c∈b,c<256)(hK:RS P n ops rest ⟨(d,.ro 1 (b.map aH) .any)::fr,σ⟩ K)(hb:b.length≤maxLen:=by(simp[maxLen];omega))
  (hx:aev ⟨fr,σ⟩ x=some (.str (cU b)):=by rfl) (hd:Nat.ble (d+1) n=true:=by rfl):RS P n ops (⟨some d,.convert u t x,ty,pos,af,none⟩::rest) ⟨fr,σ⟩ K:=
 eT (BY hlt hb hx (cL hd) hK)
end
theorem GC(bs:List Nat)(l h:Nat):(cU bs).extract l h=cU ((bs.drop l).take (h-l)):=by
 have:((cU bs).extract l h).data=(cU ((bs.drop l).take (h-l))).data:=by
  rw[ByteArray.data_extract];simp[cU,List.extract_eq_take_drop]
 cases h1:(cU bs).extract l h
 rw[h1]at this;simp only at this;rw[this]
section
variable {P : Program} {ty t : TypeId} {s : ASt} {c : Bool} {x : Operand}
theorem BZ [Ty P t .string] {bs:List Nat}{lo hi:Option Operand}{l h:Nat}(hx:Ev s c x (.str (cU bs)))(hl:OB s c 0 lo l)(hh:OB s c bs.length hi h)(h1:c=true→l≤h∧h≤bs.length):
  Lop P (.slice t x lo hi none) ty s c (.str (cU ((bs.drop l).take (h-l)))) []:=
 Lop.pure_ fun M F N n a w hr hc=>by
  obtain⟨h1,h2⟩:=h1 hc;have hlb:VB 0 (lo.map a.eval) l:=hl.vb hr hc;have hhb:VB bs.length (hi.map a.eval) h:=hh.vb hr hc;have hsz:(cU bs).size=bs.length:=by simp[cU,ByteArray.size]
  have hb:∀(k:IntKind) (b y:Nat) (code:BoundsCode) (w:World),b≤y→(Instr.sliceBound (.int k b) y code).run P w=.ok b w:=fun k b y code w hby=>by
   rw[run_sliceBound w k b y code (by omega) (by omega)];simp
  refine⟨_,.str _,fun w' o ho _=> ?_⟩;have key2:∀(lo' hi':Option Value),VB 0 lo' l→VB bs.length hi' h→(Instr.sliceBounds false bs.length bs.length lo' hi' none).run P w'=.ok (l,h,bs.length) w':=by
   intro lo' hi' k1 k2;cases k1<;>cases k2<;>simp[Instr.sliceBounds,hb,h1,h2]
  have key:=key2 _ _ hlb hhb;have hrun:(Instr.sliceAt t (.string (cU bs)) (lo.map a.eval) (hi.map a.eval) none).run P w'=.ok (.string (cU ((bs.drop l).take (h-l)))) w':=by
   simp[Instr.sliceAt,Instr.slice,run_underlying (Ty.und (P:=P) (t:=t)),hsz,key,GC]
  simp[execOp,ho,hx.str hr hc,hrun]
end
theorem aAJ{P:Program}{rs:Array ResultVar}{R:AV→cR→Prop}{s s':ASt}(hgo:SGo s s')(h:FA P rs R .normal s'):FA P rs R .normal s:=cK (ZU hgo h)
theorem aAK{P:Program}{n:Nat}{op:Op}{ty:TypeId}{d:Nat}{s:ASt}{v:AV}{rs:List Nat}{K:ASt→Prop}(h:Lop P op ty s true v rs)(hd:d<n)(hK:K (s.put d v)):Hop P n op ty (some d) s [] K:=by
 intro M F N a w o ho ht hdst hr next Q hnext
 obtain⟨u,hu,hrun⟩:=h.2 M F N n a w hr rfl;obtain⟨dst,op',ty',pos,after,guard⟩:=o;dsimp only at ho ht hdst;subst ho ht hdst;unfold Oper.wp;rw[hrun w _ rfl rfl (fun _ _=>rfl)];exact hnext _ _ _ _ _ _ (hr.put hd hu) (Ext.refl _ _ _ _ _) (Only.refl _ _) hK
theorem dhl{P:Program}{n i d:Nat}{ops:Array Oper}{listed:Array Bool}{todo:List (Nat×Bool)}{held:List (Nat×List Nat)}{fr:Fr}{σ:cR}{K:ASt→Prop}{op:Op}{ty:TypeId}{pos:String}{af:Array Edge}{v:AV}{rs:List Nat}(hi:ops[i]? =some ⟨some d,op,ty,pos,af,none⟩)(h:Lop P op ty ⟨fr,σ⟩ true v rs)(hd:Nat.ble (d+1) n=true)(hK:RD P n ops (listed.setIfInBounds i true) todo held ⟨(d,v)::fr,σ⟩ K):
  RD P n ops listed ((i,false)::todo) held ⟨fr,σ⟩ K:=vM hi (aAK h (cL hd) hK)
end Go.Proofs.YtjpdadobblffmaaGreat
namespace Go.Proofs.YtjpdadobblffmaaGreat
open Go.RowKit Go.ChangeShapes Go.WideShapes Go.ChangeAt Go.Deep
attribute [local irreducible] SW RS RD eM dR
def gD (P:Program) (t8:TypeId) (f:FuncId) {α:Type} (ar:α→AV) (pt:α→List Nat) (ok:α→Prop) (c B:Nat):Prop:=
 (∀args w,(callFunc f args).run P w=.ok (.enter f args) w)∧∀(q:Nat) (vs:List Nat) (x:α),ok x→0<vs.length→vs.length≤B→(pt x).length≤c∧
  SCall P f ([]++ [.own q 0 vs.length,ar x]++ []) [(q,.arr t8 1 (vs.map aH))] (fun y σ=>∃r,y=.own r 0 (vs++pt x).length∧σ=[(r,.arr t8 1 ((vs++pt x).map aH))])
theorem fE{P:Program}{t8:TypeId}{f:FuncId}{α:Type}{ar:α→AV}{pt:α→List Nat}{ok:α→Prop}{c B:Nat}(hf:gD P t8 f ar pt ok c B)(hB:1≤B){l:List α}(hl:∀x∈l,ok x)(j:Nat):((l.take j).flatMap pt).length≤l.length*c:=by
 have h1:∀(l:List α),(∀x∈l,ok x)→(l.flatMap pt).length≤l.length*c:=by
  intro l
  induction l with
  |nil=>simp
  |cons x l ih=>
   intro h;have:=ih fun y hy=>h y (List.mem_cons_of_mem _ hy)
   have hx:=(hf.2 0 [0] x (h x List.mem_cons_self) (by simp) hB).1;rw[List.flatMap_cons,List.length_append,List.length_cons,Nat.add_mul];omega
 refine Nat.le_trans (h1 (l.take j) fun x hx=>hl x (List.mem_of_mem_take hx)) (Nat.mul_le_mul_right c ?_);simp;omega
theorem dC(q:Nat)(vs:List Nat)(hvs:vs.length≤50000000)(n:Nat)(hn:n<9223372036854775808):SCall Tryz.prog 135 [.own q 0 vs.length,.int .i64 n] [(q,.arr 5 1 (vs.map aH))]
  (fun y σ=>∃r,y=.own r 0 (vs++uB n).length∧σ=[(r,.arr 5 1 ((vs++uB n).map aH))]):=by
 refine bO 9 [0,1,4] Tryz.func135 ?_;refine jF ?_;refine SE ?_;refine cw [(q,.arr 5 1 (vs.map aH))] Tryz.call239 (kO q vs (by omega) n (by omega)) rfl aB aA ?_;rintro _ σ' ⟨r8,rfl,rfl⟩ h8;have k8:=aO h8;repeat rcases k8 with⟨_,k8⟩
 refine dS ?_;exact aE aF ⟨r8,by rfl,rfl⟩ aA
theorem eS{fr:Fr}{σ:cR}{j:Nat}{x y:AV}(h:cN fr j=some x)(hv:VLe x y):SGo ⟨fr,σ⟩ ⟨(j,y)::fr,σ⟩:=by
 refine SGo.of_le (fun i z hi=> ?_) (fun p hp=>hp);by_cases hij:i=j
 ·subst hij;rw[show cN ((i,y)::fr) i=some y by simp[cN]]at hi;obtain rfl:=Option.some.inj hi;exact⟨_,h,hv⟩
 ·rw[show cN ((j,y)::fr) i=cN fr i by simp[cN];intro e;exact absurd e hij]at hi;exact⟨z,hi,VLe.refl z⟩
theorem VLe.agg {cs cs':List AV}(hl:cs.length=cs'.length)(h:∀(j:Nat) (a a':AV),cs[j]? =some a→cs'[j]? =some a'→VLe a a'):VLe (.agg cs) (.agg cs'):=fun M F w v hv=>by
 cases hv with
 |agg hn hc=>
  refine .agg (hn.trans hl) fun j a' u ha' hu=> ?_
  have hj:=(List.getElem?_eq_some_iff.1 ha').1;have ha:cs[j]? =some (cs[j]'(by omega)):=List.getElem?_eq_getElem (by omega);exact h j _ a' ha ha' _ _ _ _ (hc j _ u ha hu)
theorem QQ{op a b:Int}:VLe (.agg [.int .i64 op,.int .i64 a,.int .i64 b,.ro 0 [] .nil]) (.agg (iv .any ⟨op,a,b,[]⟩)):=by
 refine VLe.agg rfl fun j a a' ha ha'=> ?_
 match j with
 |0=>cases ha;cases ha';exact VLe.refl _
 |1=>cases ha;cases ha';exact VLe.refl _
 |2=>cases ha;cases ha';exact VLe.refl _
 |3=>cases ha;cases ha';exact VLe.empty
 | _ +4=>cases ha
theorem lD(q:Nat)(vs:List Nat)(hpos:0<vs.length)(hvs:vs.length≤20000000)(b:List Nat)(hb:b.length≤1000)(hlt:∀c∈b,c<256):SCall Tryz.prog 136 [.own q 0 vs.length,.str (cU b)] [(q,.arr 5 1 (vs.map aH))]
  (fun y σ=>∃r,y=.own r 0 (vs++eL b).length∧σ=[(r,.arr 5 1 ((vs++eL b).map aH))]):=by
 have hu:=bS 1 b.length (by omega);refine bO 11 [0,1,4] Tryz.func136 ?_;refine jF ?_;refine lo (iL (E rfl)) rfl ?_;rw[mQ];refine cw [(q,.arr 5 1 (vs.map aH))] Tryz.call135 (dC q vs (by omega) b.length (by omega)) rfl aB aA ?_;rintro _ σ' ⟨r8,rfl,rfl⟩ h8;have k8:=aO h8;repeat rcases k8 with⟨_,k8⟩
 refine uC ?_;refine apS (vs++uB b.length) (b) hlt ?_;refine dG fun r10 h10=> ?_;intros
 refine cI ?_;rw[show vs++uB b.length++b=vs++eL b by unfold eL;rw[List.append_assoc]];exact aE aF ⟨r10,by rfl,rfl⟩ aA
theorem pO(q:Nat)(vs:List Nat)(hvs:vs.length≤20000000)(k:Int):SCall Tryz.prog 132 [.own q 0 vs.length,.int .i64 k] [(q,.arr 5 1 (vs.map aH))]
  (fun y σ=>∃r,y=.own r 0 (vs++kB k).length∧σ=[(r,.arr 5 1 ((vs++kB k).map aH))]):=by
 refine bO 13 [0,1,4,6] Tryz.func132 ?_;refine kM ?_;refine pF ?_;refine aC rfl (fun g1=> ?_) (fun g1=> ?_)
 ·rw[show kB k=[127] by unfold kB;rw[if_pos g1]];refine bH ?_;refine eP fun r8 h8=> ?_;intros
  refine mP ((vs++ [127]).map aH) (vs++ [127]).length ?_;refine dG fun r9 h9=> ?_;intros
  refine cI ?_;exact aE aF ⟨r9,by rfl,rfl⟩ aA
 rw[show kB k=[126] by unfold kB;rw[if_neg (by simp[g1])]];refine bH ?_;refine eP fun r11 h11=> ?_;intros
 refine mP ((vs++ [126]).map aH) (vs++ [126]).length ?_;refine dG fun r12 h12=> ?_;intros
 refine cI ?_;exact aE aF ⟨r12,by rfl,rfl⟩ aA
theorem nX(q:Nat)(vs:List Nat)(hvs:vs.length≤20000000)(k n:Int)(hv:nW k n=true)(hn:-9223372036854775808≤n∧n≤9223372036854775807):SCall Tryz.prog 144 [.own q 0 vs.length,.agg [.int .i64 k,.int .i64 n]] [(q,.arr 5 1 (vs.map aH))]
  (fun y σ=>∃r,y=.own r 0 (vs++vV k n).length∧σ=[(r,.arr 5 1 ((vs++vV k n).map aH))]):=by
 obtain⟨ho,hm,-⟩:=GB hv hn;have hpl:=zM ho hm;have hcB:vV k n=gN ⟨if(k==2)=true then 66 else 65,n,0,[]⟩++ [11]:=rfl;rw[hcB];generalize hop:(if(k==2)=true then(66:Int)else 65)=op at ho hm hpl hcB⊢;have hop:=hop.symm;refine bO 17 [0,1,3,4,5,8] Tryz.func144 ?_;refine cV ?_;refine gM fun r3 h3=> ?_;intros
 refine lL ?_;refine gT ?_;refine pF ?_;refine aC rfl (fun g2=> ?_) (fun g2=> ?_)
 ·have hco:cH (.int .i64 66)=AV.int .i64 op:=by rw[hop,if_pos g2];rfl
  refine bV ?_;rw[hco];refine jX ?_;refine dL ?_;refine iA ?_;refine jW (eS (j:=13) rfl QQ) ?_;refine cw [(q,.arr 5 1 (vs.map aH))] Tryz.call242 (vR q vs (by omega) .any ⟨op,n,0,[]⟩ ho hm) rfl aB aA ?_;rintro _ σ' ⟨r14,rfl,rfl⟩ h14;have k14:=aO h14;repeat rcases k14 with⟨_,k14⟩
  apply bE;exact bX;refine eP fun r15 h15=> ?_;intros
  refine mP ((vs++gN ⟨op,n,0,[]⟩++ [11]).map aH) (vs++gN ⟨op,n,0,[]⟩++ [11]).length ?_;refine dG fun r16 h16=> ?_;intros
  refine cI ?_;rw[List.append_assoc];exact aE aF ⟨r16,by rfl,rfl⟩ aA
 have hco:cH (.int .i64 65)=AV.int .i64 op:=by rw[hop,if_neg (by simp[g2])];rfl
 refine aJ ?_;rw[hco];refine jX ?_;refine dL ?_;refine iA ?_;refine jW (eS (j:=13) rfl QQ) ?_;refine cw [(q,.arr 5 1 (vs.map aH))] Tryz.call242 (vR q vs (by omega) .any ⟨op,n,0,[]⟩ ho hm) rfl aB aA ?_;rintro _ σ' ⟨r14,rfl,rfl⟩ h14;have k14:=aO h14;repeat rcases k14 with⟨_,k14⟩
 apply bE;exact bX;refine z1 ?_;refine cT fun r15 h15=> ?_;repeat rcases h15 with⟨_,h15⟩
 refine mP ((vs++gN ⟨op,n,0,[]⟩++ [11]).map aH) (vs++gN ⟨op,n,0,[]⟩++ [11]).length ?_;refine dG fun r16 h16=> ?_;intros
 refine cI ?_;rw[List.append_assoc];exact aE aF ⟨r16,by rfl,rfl⟩ aA
theorem aDs{f:FuncId}{pt:FT→List Nat}{ok:FT→Prop}{c B:Nat}(hf:gD Tryz.prog 5 f (fun x=>.agg (dF x)) pt ok c B)(hB:B≤50000000)(q:Nat)(vs:List Nat)(l:List FT)(hok:∀x∈l,ok x)(hl:l.length≤1000)(hb:vs.length+10+l.length*c≤B):
  SCall Tryz.prog 237 [.own q 0 vs.length,.ro 2 (l.map dF) .any,.fn (.func f) [] []] [(q,.arr 5 1 (vs.map aH))] (fun y σ=>∃r,y=.own r 0 (vs++aZ l pt).length∧σ=[(r,.arr 5 1 ((vs++aZ l pt).map aH))]):=by
 have hu:=bS 1 l.length (by omega);have hup:=gB l.length;have hpc:=fE hf (by omega) hok;refine bO 25 [0,1,2,6,8,13,14,15,16] Tryz.func237 ?_;refine jF ?_;refine oG ?_;refine cw [(q,.arr 5 1 (vs.map aH))] Tryz.call135 (dC q vs (by omega) l.length (by omega)) rfl aB aA ?_;rintro _ σ' ⟨r12,rfl,rfl⟩ h12;have k12:=aO h12;repeat rcases k12 with⟨_,k12⟩
 refine dS ?_;refine oK ?_;refine lp (β:=Nat×Nat) (fun b=>⟨[(0,.own b.1 0 (vs++uB l.length++(l.take b.2).flatMap pt).length),(2,.fn (.func f) [] []),(13,.ro 2 (l.map dF) .any),(14,.int .i64 l.length),(15,.int .i64 b.2)],[(b.1,.arr 5 1 ((vs++uB l.length++(l.take b.2).flatMap pt).map aH))]⟩) (fun b=>b.2≤l.length) (fun b=>l.length-b.2) (r12,0) (by dsimp only;rw[show vs++uB l.length++(l.take 0).flatMap pt=vs++uB l.length by simp];(exact aN)) (Nat.zero_le _) ?_;rintro⟨q1,j⟩ hj;have hpj:=hpc j;have hsl:(vs++uB l.length++(l.take j).flatMap pt).length=vs.length+(uB l.length).length+((l.take j).flatMap pt).length:=by simp[Nat.add_assoc]
 dsimp only at hj⊢;refine eV ?_;refine aC rfl (fun g3=> ?_) (fun g3=> ?_)
 ·have hlt:j<l.length:=by simp at g3;omega
  obtain⟨x,hx⟩:∃x,l[j]? =some x:=⟨_,List.getElem?_eq_getElem hlt⟩
  have hnx:vs++uB l.length++(l.take (j+1)).flatMap pt=vs++uB l.length++(l.take j).flatMap pt++pt x:=by rw[List.take_add_one,hx,List.flatMap_append];simp
  refine lY ?_;refine gF fun r8 h8=> ?_;intros
  refine gL ?_;refine jX ?_;refine jN ?_;refine mO [(q1,.arr 5 1 ((vs++uB l.length++(l.take j).flatMap pt).map aH))] rfl hf.1 (hf.2 q1 _ x (hok x (List.mem_of_getElem? hx)) (by omega) (by omega)).2 rfl aB aA ?_;rintro _ σ' ⟨r22,rfl,rfl⟩ h22;have k22:=aO h22;repeat rcases k22 with⟨_,k22⟩
  refine pT ?_;refine⟨(r22,j+1),hlt,by show l.length-(j+1)<l.length-j;omega, ?_⟩;dsimp only;rw[hnx];exact aN
 obtain rfl:j=l.length:=by simp at g3;omega
 refine eK ?_;rw[show vs++uB l.length++(l.take l.length).flatMap pt=vs++aZ l pt by rw[List.take_length,List.append_assoc];rfl];exact aE aF ⟨q1,by rfl,rfl⟩ aA
theorem aAL{f:FuncId}{pt:FT→List Nat}{ok:FT→Prop}{c B:Nat}(hf:gD Tryz.prog 5 f (fun x=>.agg (dF x)) pt ok c B)(hB:B≤50000000)(l:List FT)(hok:∀x∈l,ok x)(hl:l.length≤1000)(hb:10+l.length*c≤B):
  SCall Tryz.prog 237 [.ro 0 [] .nil,.ro 2 (l.map dF) .any,.fn (.func f) [] []] [] (fun y σ=>∃r,y=.own r 0 (aZ l pt).length∧σ=[(r,.arr 5 1 ((aZ l pt).map aH))]):=
 fP (e:=5) (sz:=1) (by decide) fun q _=>aDs hf hB q [] l hok hl (by simpa using hb)
end Go.Proofs.YtjpdadobblffmaaGreat
namespace Go.Proofs.YtjpdadobblffmaaGreat
open Go.RowKit Go.ChangeShapes Go.WideShapes Go.ChangeAt Go.Deep
def rN (r:List Int):List AV:=[.ro 1 (r.map aL) .any]
theorem yI{f:FuncId}{pt:Int→List Nat}{ok:Int→Prop}{c B:Nat}(hf:gD Tryz.prog 5 f (fun n=>.int .i64 n) pt ok c B)(hB:B≤50000000)(q:Nat)(vs:List Nat)(l:List Int)(hok:∀x∈l,ok x)(hl:l.length≤1000)(hb:vs.length+10+l.length*c≤B):
  SCall Tryz.prog 131 [.own q 0 vs.length,.ro 1 (l.map aL) .any,.fn (.func f) [] []] [(q,.arr 5 1 (vs.map aH))] (fun y σ=>∃r,y=.own r 0 (vs++aZ l pt).length∧σ=[(r,.arr 5 1 ((vs++aZ l pt).map aH))]):=by
 have hu:=bS 1 l.length (by omega);have hup:=gB l.length;have hpc:=fE hf (by omega) hok;refine bO 25 [0,1,2,6,8,13,14,15,16] Tryz.func131 ?_;refine jF ?_;refine oG ?_;refine cw [(q,.arr 5 1 (vs.map aH))] Tryz.call135 (dC q vs (by omega) l.length (by omega)) rfl aB aA ?_;rintro _ σ' ⟨r12,rfl,rfl⟩ h12;have k12:=aO h12;repeat rcases k12 with⟨_,k12⟩
 refine dS ?_;refine oK ?_;refine lp (β:=Nat×Nat) (fun b=>⟨[(0,.own b.1 0 (vs++uB l.length++(l.take b.2).flatMap pt).length),(2,.fn (.func f) [] []),(13,.ro 1 (l.map aL) .any),(14,.int .i64 l.length),(15,.int .i64 b.2)],[(b.1,.arr 5 1 ((vs++uB l.length++(l.take b.2).flatMap pt).map aH))]⟩) (fun b=>b.2≤l.length) (fun b=>l.length-b.2) (r12,0) (by dsimp only;rw[show vs++uB l.length++(l.take 0).flatMap pt=vs++uB l.length by simp];(exact aN)) (Nat.zero_le _) ?_;rintro⟨q1,j⟩ hj;have hpj:=hpc j;have hsl:(vs++uB l.length++(l.take j).flatMap pt).length=vs.length+(uB l.length).length+((l.take j).flatMap pt).length:=by simp[Nat.add_assoc]
 dsimp only at hj⊢;refine eV ?_;refine aC rfl (fun g3=> ?_) (fun g3=> ?_)
 ·have hlt:j<l.length:=by simp at g3;omega
  obtain⟨x,hx⟩:∃x,l[j]? =some x:=⟨_,List.getElem?_eq_getElem hlt⟩
  have hnx:vs++uB l.length++(l.take (j+1)).flatMap pt=vs++uB l.length++(l.take j).flatMap pt++pt x:=by rw[List.take_add_one,hx,List.flatMap_append];simp
  refine cV ?_;refine qG ?_;refine nT ?_;refine lo (aD (E rfl)) rfl ?_;refine mO [(q1,.arr 5 1 ((vs++uB l.length++(l.take j).flatMap pt).map aH))] rfl hf.1 (hf.2 q1 _ x (hok x (List.mem_of_getElem? hx)) (by omega) (by omega)).2 rfl aB aA ?_;rintro _ σ' ⟨r22,rfl,rfl⟩ h22;have k22:=aO h22;repeat rcases k22 with⟨_,k22⟩
  refine pT ?_;refine⟨(r22,j+1),hlt,by show l.length-(j+1)<l.length-j;omega, ?_⟩;dsimp only;rw[hnx];exact aN
 obtain rfl:j=l.length:=by simp at g3;omega
 refine eK ?_;rw[show vs++uB l.length++(l.take l.length).flatMap pt=vs++aZ l pt by rw[List.take_length,List.append_assoc];rfl];exact aE aF ⟨q1,by rfl,rfl⟩ aA
theorem WQ{f:FuncId}{pt:Int→List Nat}{ok:Int→Prop}{c B:Nat}(hf:gD Tryz.prog 5 f (fun n=>.int .i64 n) pt ok c B)(hB:B≤50000000)(l:List Int)(hok:∀x∈l,ok x)(hl:l.length≤1000)(hb:10+l.length*c≤B):
  SCall Tryz.prog 131 [.ro 0 [] .nil,.ro 1 (l.map aL) .any,.fn (.func f) [] []] [] (fun y σ=>∃r,y=.own r 0 (aZ l pt).length∧σ=[(r,.arr 5 1 ((aZ l pt).map aH))]):=
 fP (e:=5) (sz:=1) (by decide) fun q _=>yI hf hB q [] l hok hl (by simpa using hb)
theorem aAM{f:FuncId}{pt:(List Int)→List Nat}{ok:(List Int)→Prop}{c B:Nat}(hf:gD Tryz.prog 5 f (fun r=>.ro 1 (r.map aL) .any) pt ok c B)(hB:B≤50000000)(q:Nat)(vs:List Nat)(l:List (List Int))(hok:∀x∈l,ok x)(hl:l.length≤1000)(hb:vs.length+10+l.length*c≤B):
  SCall Tryz.prog 246 [.own q 0 vs.length,.ro 1 (l.map rN) .any,.fn (.func f) [] []] [(q,.arr 5 1 (vs.map aH))] (fun y σ=>∃r,y=.own r 0 (vs++aZ l pt).length∧σ=[(r,.arr 5 1 ((vs++aZ l pt).map aH))]):=by
 have hu:=bS 1 l.length (by omega);have hup:=gB l.length;have hpc:=fE hf (by omega) hok;refine bO 25 [0,1,2,6,8,13,14,15,16] Tryz.func246 ?_;refine jF ?_;refine oG ?_;refine cw [(q,.arr 5 1 (vs.map aH))] Tryz.call135 (dC q vs (by omega) l.length (by omega)) rfl aB aA ?_;rintro _ σ' ⟨r12,rfl,rfl⟩ h12;have k12:=aO h12;repeat rcases k12 with⟨_,k12⟩
 refine dS ?_;refine oK ?_;refine lp (β:=Nat×Nat) (fun b=>⟨[(0,.own b.1 0 (vs++uB l.length++(l.take b.2).flatMap pt).length),(2,.fn (.func f) [] []),(13,.ro 1 (l.map rN) .any),(14,.int .i64 l.length),(15,.int .i64 b.2)],[(b.1,.arr 5 1 ((vs++uB l.length++(l.take b.2).flatMap pt).map aH))]⟩) (fun b=>b.2≤l.length) (fun b=>l.length-b.2) (r12,0) (by dsimp only;rw[show vs++uB l.length++(l.take 0).flatMap pt=vs++uB l.length by simp];(exact aN)) (Nat.zero_le _) ?_;rintro⟨q1,j⟩ hj;have hpj:=hpc j;have hsl:(vs++uB l.length++(l.take j).flatMap pt).length=vs.length+(uB l.length).length+((l.take j).flatMap pt).length:=by simp[Nat.add_assoc]
 dsimp only at hj⊢;refine eV ?_;refine aC rfl (fun g3=> ?_) (fun g3=> ?_)
 ·have hlt:j<l.length:=by simp at g3;omega
  obtain⟨x,hx⟩:∃x,l[j]? =some x:=⟨_,List.getElem?_eq_getElem hlt⟩
  have hnx:vs++uB l.length++(l.take (j+1)).flatMap pt=vs++uB l.length++(l.take j).flatMap pt++pt x:=by rw[List.take_add_one,hx,List.flatMap_append];simp
  refine cV ?_;refine qG ?_;refine nT ?_;refine lo (aD (E rfl)) rfl ?_;refine mO [(q1,.arr 5 1 ((vs++uB l.length++(l.take j).flatMap pt).map aH))] rfl hf.1 (hf.2 q1 _ x (hok x (List.mem_of_getElem? hx)) (by omega) (by omega)).2 rfl aB aA ?_;rintro _ σ' ⟨r22,rfl,rfl⟩ h22;have k22:=aO h22;repeat rcases k22 with⟨_,k22⟩
  refine pT ?_;refine⟨(r22,j+1),hlt,by show l.length-(j+1)<l.length-j;omega, ?_⟩;dsimp only;rw[hnx];exact aN
 obtain rfl:j=l.length:=by simp at g3;omega
 refine eK ?_;rw[show vs++uB l.length++(l.take l.length).flatMap pt=vs++aZ l pt by rw[List.take_length,List.append_assoc];rfl];exact aE aF ⟨q1,by rfl,rfl⟩ aA
theorem LK{f:FuncId}{pt:(List Int)→List Nat}{ok:(List Int)→Prop}{c B:Nat}(hf:gD Tryz.prog 5 f (fun r=>.ro 1 (r.map aL) .any) pt ok c B)(hB:B≤50000000)(l:List (List Int))(hok:∀x∈l,ok x)(hl:l.length≤1000)(hb:10+l.length*c≤B):
  SCall Tryz.prog 246 [.ro 0 [] .nil,.ro 1 (l.map rN) .any,.fn (.func f) [] []] [] (fun y σ=>∃r,y=.own r 0 (aZ l pt).length∧σ=[(r,.arr 5 1 ((aZ l pt).map aH))]):=
 fP (e:=5) (sz:=1) (by decide) fun q _=>aAM hf hB q [] l hok hl (by simpa using hb)
theorem aDt{f:FuncId}{pt:Im→List Nat}{ok:Im→Prop}{c B:Nat}(hf:gD Tryz.prog 5 f (fun x=>.agg (eE x)) pt ok c B)(hB:B≤50000000)(q:Nat)(vs:List Nat)(l:List Im)(hok:∀x∈l,ok x)(hl:l.length≤1000)(hb:vs.length+10+l.length*c≤B):
  SCall Tryz.prog 238 [.own q 0 vs.length,.ro 3 (l.map eE) .any,.fn (.func f) [] []] [(q,.arr 5 1 (vs.map aH))] (fun y σ=>∃r,y=.own r 0 (vs++aZ l pt).length∧σ=[(r,.arr 5 1 ((vs++aZ l pt).map aH))]):=by
 have hu:=bS 1 l.length (by omega);have hup:=gB l.length;have hpc:=fE hf (by omega) hok;refine bO 25 [0,1,2,6,8,13,14,15,16] Tryz.func238 ?_;refine jF ?_;refine oG ?_;refine cw [(q,.arr 5 1 (vs.map aH))] Tryz.call135 (dC q vs (by omega) l.length (by omega)) rfl aB aA ?_;rintro _ σ' ⟨r12,rfl,rfl⟩ h12;have k12:=aO h12;repeat rcases k12 with⟨_,k12⟩
 refine dS ?_;refine oK ?_;refine lp (β:=Nat×Nat) (fun b=>⟨[(0,.own b.1 0 (vs++uB l.length++(l.take b.2).flatMap pt).length),(2,.fn (.func f) [] []),(13,.ro 3 (l.map eE) .any),(14,.int .i64 l.length),(15,.int .i64 b.2)],[(b.1,.arr 5 1 ((vs++uB l.length++(l.take b.2).flatMap pt).map aH))]⟩) (fun b=>b.2≤l.length) (fun b=>l.length-b.2) (r12,0) (by dsimp only;rw[show vs++uB l.length++(l.take 0).flatMap pt=vs++uB l.length by simp];(exact aN)) (Nat.zero_le _) ?_;rintro⟨q1,j⟩ hj;have hpj:=hpc j;have hsl:(vs++uB l.length++(l.take j).flatMap pt).length=vs.length+(uB l.length).length+((l.take j).flatMap pt).length:=by simp[Nat.add_assoc]
 dsimp only at hj⊢;refine eV ?_;refine aC rfl (fun g3=> ?_) (fun g3=> ?_)
 ·have hlt:j<l.length:=by simp at g3;omega
  obtain⟨x,hx⟩:∃x,l[j]? =some x:=⟨_,List.getElem?_eq_getElem hlt⟩
  have hnx:vs++uB l.length++(l.take (j+1)).flatMap pt=vs++uB l.length++(l.take j).flatMap pt++pt x:=by rw[List.take_add_one,hx,List.flatMap_append];simp
  refine lY ?_;refine gF fun r8 h8=> ?_;intros
  refine gL ?_;refine jX ?_;refine jN ?_;refine mO [(q1,.arr 5 1 ((vs++uB l.length++(l.take j).flatMap pt).map aH))] rfl hf.1 (hf.2 q1 _ x (hok x (List.mem_of_getElem? hx)) (by omega) (by omega)).2 rfl aB aA ?_;rintro _ σ' ⟨r22,rfl,rfl⟩ h22;have k22:=aO h22;repeat rcases k22 with⟨_,k22⟩
  refine pT ?_;refine⟨(r22,j+1),hlt,by show l.length-(j+1)<l.length-j;omega, ?_⟩;dsimp only;rw[hnx];exact aN
 obtain rfl:j=l.length:=by simp at g3;omega
 refine eK ?_;rw[show vs++uB l.length++(l.take l.length).flatMap pt=vs++aZ l pt by rw[List.take_length,List.append_assoc];rfl];exact aE aF ⟨q1,by rfl,rfl⟩ aA
theorem aAN{f:FuncId}{pt:Im→List Nat}{ok:Im→Prop}{c B:Nat}(hf:gD Tryz.prog 5 f (fun x=>.agg (eE x)) pt ok c B)(hB:B≤50000000)(l:List Im)(hok:∀x∈l,ok x)(hl:l.length≤1000)(hb:10+l.length*c≤B):
  SCall Tryz.prog 238 [.ro 0 [] .nil,.ro 3 (l.map eE) .any,.fn (.func f) [] []] [] (fun y σ=>∃r,y=.own r 0 (aZ l pt).length∧σ=[(r,.arr 5 1 ((aZ l pt).map aH))]):=
 fP (e:=5) (sz:=1) (by decide) fun q _=>aDt hf hB q [] l hok hl (by simpa using hb)
theorem aDu{f:FuncId}{pt:Li→List Nat}{ok:Li→Prop}{c B:Nat}(hf:gD Tryz.prog 5 f (fun x=>.agg (gG x)) pt ok c B)(hB:B≤50000000)(q:Nat)(vs:List Nat)(l:List Li)(hok:∀x∈l,ok x)(hl:l.length≤1000)(hb:vs.length+10+l.length*c≤B):
  SCall Tryz.prog 240 [.own q 0 vs.length,.ro 3 (l.map gG) .any,.fn (.func f) [] []] [(q,.arr 5 1 (vs.map aH))] (fun y σ=>∃r,y=.own r 0 (vs++aZ l pt).length∧σ=[(r,.arr 5 1 ((vs++aZ l pt).map aH))]):=by
 have hu:=bS 1 l.length (by omega);have hup:=gB l.length;have hpc:=fE hf (by omega) hok;refine bO 25 [0,1,2,6,8,13,14,15,16] Tryz.func240 ?_;refine jF ?_;refine oG ?_;refine cw [(q,.arr 5 1 (vs.map aH))] Tryz.call135 (dC q vs (by omega) l.length (by omega)) rfl aB aA ?_;rintro _ σ' ⟨r12,rfl,rfl⟩ h12;have k12:=aO h12;repeat rcases k12 with⟨_,k12⟩
 refine dS ?_;refine oK ?_;refine lp (β:=Nat×Nat) (fun b=>⟨[(0,.own b.1 0 (vs++uB l.length++(l.take b.2).flatMap pt).length),(2,.fn (.func f) [] []),(13,.ro 3 (l.map gG) .any),(14,.int .i64 l.length),(15,.int .i64 b.2)],[(b.1,.arr 5 1 ((vs++uB l.length++(l.take b.2).flatMap pt).map aH))]⟩) (fun b=>b.2≤l.length) (fun b=>l.length-b.2) (r12,0) (by dsimp only;rw[show vs++uB l.length++(l.take 0).flatMap pt=vs++uB l.length by simp];(exact aN)) (Nat.zero_le _) ?_;rintro⟨q1,j⟩ hj;have hpj:=hpc j;have hsl:(vs++uB l.length++(l.take j).flatMap pt).length=vs.length+(uB l.length).length+((l.take j).flatMap pt).length:=by simp[Nat.add_assoc]
 dsimp only at hj⊢;refine eV ?_;refine aC rfl (fun g3=> ?_) (fun g3=> ?_)
 ·have hlt:j<l.length:=by simp at g3;omega
  obtain⟨x,hx⟩:∃x,l[j]? =some x:=⟨_,List.getElem?_eq_getElem hlt⟩
  have hnx:vs++uB l.length++(l.take (j+1)).flatMap pt=vs++uB l.length++(l.take j).flatMap pt++pt x:=by rw[List.take_add_one,hx,List.flatMap_append];simp
  refine lY ?_;refine gF fun r8 h8=> ?_;intros
  refine gL ?_;refine jX ?_;refine jN ?_;refine mO [(q1,.arr 5 1 ((vs++uB l.length++(l.take j).flatMap pt).map aH))] rfl hf.1 (hf.2 q1 _ x (hok x (List.mem_of_getElem? hx)) (by omega) (by omega)).2 rfl aB aA ?_;rintro _ σ' ⟨r22,rfl,rfl⟩ h22;have k22:=aO h22;repeat rcases k22 with⟨_,k22⟩
  refine pT ?_;refine⟨(r22,j+1),hlt,by show l.length-(j+1)<l.length-j;omega, ?_⟩;dsimp only;rw[hnx];exact aN
 obtain rfl:j=l.length:=by simp at g3;omega
 refine eK ?_;rw[show vs++uB l.length++(l.take l.length).flatMap pt=vs++aZ l pt by rw[List.take_length,List.append_assoc];rfl];exact aE aF ⟨q1,by rfl,rfl⟩ aA
theorem aAO{f:FuncId}{pt:Li→List Nat}{ok:Li→Prop}{c B:Nat}(hf:gD Tryz.prog 5 f (fun x=>.agg (gG x)) pt ok c B)(hB:B≤50000000)(l:List Li)(hok:∀x∈l,ok x)(hl:l.length≤1000)(hb:10+l.length*c≤B):
  SCall Tryz.prog 240 [.ro 0 [] .nil,.ro 3 (l.map gG) .any,.fn (.func f) [] []] [] (fun y σ=>∃r,y=.own r 0 (aZ l pt).length∧σ=[(r,.arr 5 1 ((aZ l pt).map aH))]):=
 fP (e:=5) (sz:=1) (by decide) fun q _=>aDu hf hB q [] l hok hl (by simpa using hb)
theorem aDv{f:FuncId}{pt:Gl→List Nat}{ok:Gl→Prop}{c B:Nat}(hf:gD Tryz.prog 5 f (fun x=>.agg (eF x)) pt ok c B)(hB:B≤50000000)(q:Nat)(vs:List Nat)(l:List Gl)(hok:∀x∈l,ok x)(hl:l.length≤1000)(hb:vs.length+10+l.length*c≤B):
  SCall Tryz.prog 241 [.own q 0 vs.length,.ro 3 (l.map eF) .any,.fn (.func f) [] []] [(q,.arr 5 1 (vs.map aH))] (fun y σ=>∃r,y=.own r 0 (vs++aZ l pt).length∧σ=[(r,.arr 5 1 ((vs++aZ l pt).map aH))]):=by
 have hu:=bS 1 l.length (by omega);have hup:=gB l.length;have hpc:=fE hf (by omega) hok;refine bO 25 [0,1,2,6,8,13,14,15,16] Tryz.func241 ?_;refine jF ?_;refine oG ?_;refine cw [(q,.arr 5 1 (vs.map aH))] Tryz.call135 (dC q vs (by omega) l.length (by omega)) rfl aB aA ?_;rintro _ σ' ⟨r12,rfl,rfl⟩ h12;have k12:=aO h12;repeat rcases k12 with⟨_,k12⟩
 refine dS ?_;refine oK ?_;refine lp (β:=Nat×Nat) (fun b=>⟨[(0,.own b.1 0 (vs++uB l.length++(l.take b.2).flatMap pt).length),(2,.fn (.func f) [] []),(13,.ro 3 (l.map eF) .any),(14,.int .i64 l.length),(15,.int .i64 b.2)],[(b.1,.arr 5 1 ((vs++uB l.length++(l.take b.2).flatMap pt).map aH))]⟩) (fun b=>b.2≤l.length) (fun b=>l.length-b.2) (r12,0) (by dsimp only;rw[show vs++uB l.length++(l.take 0).flatMap pt=vs++uB l.length by simp];(exact aN)) (Nat.zero_le _) ?_;rintro⟨q1,j⟩ hj;have hpj:=hpc j;have hsl:(vs++uB l.length++(l.take j).flatMap pt).length=vs.length+(uB l.length).length+((l.take j).flatMap pt).length:=by simp[Nat.add_assoc]
 dsimp only at hj⊢;refine eV ?_;refine aC rfl (fun g3=> ?_) (fun g3=> ?_)
 ·have hlt:j<l.length:=by simp at g3;omega
  obtain⟨x,hx⟩:∃x,l[j]? =some x:=⟨_,List.getElem?_eq_getElem hlt⟩
  have hnx:vs++uB l.length++(l.take (j+1)).flatMap pt=vs++uB l.length++(l.take j).flatMap pt++pt x:=by rw[List.take_add_one,hx,List.flatMap_append];simp
  refine lY ?_;refine gF fun r8 h8=> ?_;intros
  refine gL ?_;refine jX ?_;refine jN ?_;refine mO [(q1,.arr 5 1 ((vs++uB l.length++(l.take j).flatMap pt).map aH))] rfl hf.1 (hf.2 q1 _ x (hok x (List.mem_of_getElem? hx)) (by omega) (by omega)).2 rfl aB aA ?_;rintro _ σ' ⟨r22,rfl,rfl⟩ h22;have k22:=aO h22;repeat rcases k22 with⟨_,k22⟩
  refine pT ?_;refine⟨(r22,j+1),hlt,by show l.length-(j+1)<l.length-j;omega, ?_⟩;dsimp only;rw[hnx];exact aN
 obtain rfl:j=l.length:=by simp at g3;omega
 refine eK ?_;rw[show vs++uB l.length++(l.take l.length).flatMap pt=vs++aZ l pt by rw[List.take_length,List.append_assoc];rfl];exact aE aF ⟨q1,by rfl,rfl⟩ aA
theorem aAP{f:FuncId}{pt:Gl→List Nat}{ok:Gl→Prop}{c B:Nat}(hf:gD Tryz.prog 5 f (fun x=>.agg (eF x)) pt ok c B)(hB:B≤50000000)(l:List Gl)(hok:∀x∈l,ok x)(hl:l.length≤1000)(hb:10+l.length*c≤B):
  SCall Tryz.prog 241 [.ro 0 [] .nil,.ro 3 (l.map eF) .any,.fn (.func f) [] []] [] (fun y σ=>∃r,y=.own r 0 (aZ l pt).length∧σ=[(r,.arr 5 1 ((aZ l pt).map aH))]):=
 fP (e:=5) (sz:=1) (by decide) fun q _=>aDv hf hB q [] l hok hl (by simpa using hb)
theorem aDw{f:FuncId}{pt:Ex→List Nat}{ok:Ex→Prop}{c B:Nat}(hf:gD Tryz.prog 5 f (fun x=>.agg (dJ x)) pt ok c B)(hB:B≤50000000)(q:Nat)(vs:List Nat)(l:List Ex)(hok:∀x∈l,ok x)(hl:l.length≤1000)(hb:vs.length+10+l.length*c≤B):
  SCall Tryz.prog 243 [.own q 0 vs.length,.ro 2 (l.map dJ) .any,.fn (.func f) [] []] [(q,.arr 5 1 (vs.map aH))] (fun y σ=>∃r,y=.own r 0 (vs++aZ l pt).length∧σ=[(r,.arr 5 1 ((vs++aZ l pt).map aH))]):=by
 have hu:=bS 1 l.length (by omega);have hup:=gB l.length;have hpc:=fE hf (by omega) hok;refine bO 25 [0,1,2,6,8,13,14,15,16] Tryz.func243 ?_;refine jF ?_;refine oG ?_;refine cw [(q,.arr 5 1 (vs.map aH))] Tryz.call135 (dC q vs (by omega) l.length (by omega)) rfl aB aA ?_;rintro _ σ' ⟨r12,rfl,rfl⟩ h12;have k12:=aO h12;repeat rcases k12 with⟨_,k12⟩
 refine dS ?_;refine oK ?_;refine lp (β:=Nat×Nat) (fun b=>⟨[(0,.own b.1 0 (vs++uB l.length++(l.take b.2).flatMap pt).length),(2,.fn (.func f) [] []),(13,.ro 2 (l.map dJ) .any),(14,.int .i64 l.length),(15,.int .i64 b.2)],[(b.1,.arr 5 1 ((vs++uB l.length++(l.take b.2).flatMap pt).map aH))]⟩) (fun b=>b.2≤l.length) (fun b=>l.length-b.2) (r12,0) (by dsimp only;rw[show vs++uB l.length++(l.take 0).flatMap pt=vs++uB l.length by simp];(exact aN)) (Nat.zero_le _) ?_;rintro⟨q1,j⟩ hj;have hpj:=hpc j;have hsl:(vs++uB l.length++(l.take j).flatMap pt).length=vs.length+(uB l.length).length+((l.take j).flatMap pt).length:=by simp[Nat.add_assoc]
 dsimp only at hj⊢;refine eV ?_;refine aC rfl (fun g3=> ?_) (fun g3=> ?_)
 ·have hlt:j<l.length:=by simp at g3;omega
  obtain⟨x,hx⟩:∃x,l[j]? =some x:=⟨_,List.getElem?_eq_getElem hlt⟩
  have hnx:vs++uB l.length++(l.take (j+1)).flatMap pt=vs++uB l.length++(l.take j).flatMap pt++pt x:=by rw[List.take_add_one,hx,List.flatMap_append];simp
  refine lY ?_;refine gF fun r8 h8=> ?_;intros
  refine gL ?_;refine jX ?_;refine jN ?_;refine mO [(q1,.arr 5 1 ((vs++uB l.length++(l.take j).flatMap pt).map aH))] rfl hf.1 (hf.2 q1 _ x (hok x (List.mem_of_getElem? hx)) (by omega) (by omega)).2 rfl aB aA ?_;rintro _ σ' ⟨r22,rfl,rfl⟩ h22;have k22:=aO h22;repeat rcases k22 with⟨_,k22⟩
  refine pT ?_;refine⟨(r22,j+1),hlt,by show l.length-(j+1)<l.length-j;omega, ?_⟩;dsimp only;rw[hnx];exact aN
 obtain rfl:j=l.length:=by simp at g3;omega
 refine eK ?_;rw[show vs++uB l.length++(l.take l.length).flatMap pt=vs++aZ l pt by rw[List.take_length,List.append_assoc];rfl];exact aE aF ⟨q1,by rfl,rfl⟩ aA
theorem aAQ{f:FuncId}{pt:Ex→List Nat}{ok:Ex→Prop}{c B:Nat}(hf:gD Tryz.prog 5 f (fun x=>.agg (dJ x)) pt ok c B)(hB:B≤50000000)(l:List Ex)(hok:∀x∈l,ok x)(hl:l.length≤1000)(hb:10+l.length*c≤B):
  SCall Tryz.prog 243 [.ro 0 [] .nil,.ro 2 (l.map dJ) .any,.fn (.func f) [] []] [] (fun y σ=>∃r,y=.own r 0 (aZ l pt).length∧σ=[(r,.arr 5 1 ((aZ l pt).map aH))]):=
 fP (e:=5) (sz:=1) (by decide) fun q _=>aDw hf hB q [] l hok hl (by simpa using hb)
theorem aDx{f:FuncId}{pt:El→List Nat}{ok:El→Prop}{c B:Nat}(hf:gD Tryz.prog 5 f (fun x=>.agg (dV x)) pt ok c B)(hB:B≤50000000)(q:Nat)(vs:List Nat)(l:List El)(hok:∀x∈l,ok x)(hl:l.length≤1000)(hb:vs.length+10+l.length*c≤B):
  SCall Tryz.prog 244 [.own q 0 vs.length,.ro 2 (l.map dV) .any,.fn (.func f) [] []] [(q,.arr 5 1 (vs.map aH))] (fun y σ=>∃r,y=.own r 0 (vs++aZ l pt).length∧σ=[(r,.arr 5 1 ((vs++aZ l pt).map aH))]):=by
 have hu:=bS 1 l.length (by omega);have hup:=gB l.length;have hpc:=fE hf (by omega) hok;refine bO 25 [0,1,2,6,8,13,14,15,16] Tryz.func244 ?_;refine jF ?_;refine oG ?_;refine cw [(q,.arr 5 1 (vs.map aH))] Tryz.call135 (dC q vs (by omega) l.length (by omega)) rfl aB aA ?_;rintro _ σ' ⟨r12,rfl,rfl⟩ h12;have k12:=aO h12;repeat rcases k12 with⟨_,k12⟩
 refine dS ?_;refine oK ?_;refine lp (β:=Nat×Nat) (fun b=>⟨[(0,.own b.1 0 (vs++uB l.length++(l.take b.2).flatMap pt).length),(2,.fn (.func f) [] []),(13,.ro 2 (l.map dV) .any),(14,.int .i64 l.length),(15,.int .i64 b.2)],[(b.1,.arr 5 1 ((vs++uB l.length++(l.take b.2).flatMap pt).map aH))]⟩) (fun b=>b.2≤l.length) (fun b=>l.length-b.2) (r12,0) (by dsimp only;rw[show vs++uB l.length++(l.take 0).flatMap pt=vs++uB l.length by simp];(exact aN)) (Nat.zero_le _) ?_;rintro⟨q1,j⟩ hj;have hpj:=hpc j;have hsl:(vs++uB l.length++(l.take j).flatMap pt).length=vs.length+(uB l.length).length+((l.take j).flatMap pt).length:=by simp[Nat.add_assoc]
 dsimp only at hj⊢;refine eV ?_;refine aC rfl (fun g3=> ?_) (fun g3=> ?_)
 ·have hlt:j<l.length:=by simp at g3;omega
  obtain⟨x,hx⟩:∃x,l[j]? =some x:=⟨_,List.getElem?_eq_getElem hlt⟩
  have hnx:vs++uB l.length++(l.take (j+1)).flatMap pt=vs++uB l.length++(l.take j).flatMap pt++pt x:=by rw[List.take_add_one,hx,List.flatMap_append];simp
  refine lY ?_;refine gF fun r8 h8=> ?_;intros
  refine gL ?_;refine jX ?_;refine jN ?_;refine mO [(q1,.arr 5 1 ((vs++uB l.length++(l.take j).flatMap pt).map aH))] rfl hf.1 (hf.2 q1 _ x (hok x (List.mem_of_getElem? hx)) (by omega) (by omega)).2 rfl aB aA ?_;rintro _ σ' ⟨r22,rfl,rfl⟩ h22;have k22:=aO h22;repeat rcases k22 with⟨_,k22⟩
  refine pT ?_;refine⟨(r22,j+1),hlt,by show l.length-(j+1)<l.length-j;omega, ?_⟩;dsimp only;rw[hnx];exact aN
 obtain rfl:j=l.length:=by simp at g3;omega
 refine eK ?_;rw[show vs++uB l.length++(l.take l.length).flatMap pt=vs++aZ l pt by rw[List.take_length,List.append_assoc];rfl];exact aE aF ⟨q1,by rfl,rfl⟩ aA
theorem aAR{f:FuncId}{pt:El→List Nat}{ok:El→Prop}{c B:Nat}(hf:gD Tryz.prog 5 f (fun x=>.agg (dV x)) pt ok c B)(hB:B≤50000000)(l:List El)(hok:∀x∈l,ok x)(hl:l.length≤1000)(hb:10+l.length*c≤B):
  SCall Tryz.prog 244 [.ro 0 [] .nil,.ro 2 (l.map dV) .any,.fn (.func f) [] []] [] (fun y σ=>∃r,y=.own r 0 (aZ l pt).length∧σ=[(r,.arr 5 1 ((aZ l pt).map aH))]):=
 fP (e:=5) (sz:=1) (by decide) fun q _=>aDx hf hB q [] l hok hl (by simpa using hb)
theorem aDy{f:FuncId}{pt:Co→List Nat}{ok:Co→Prop}{c B:Nat}(hf:gD Tryz.prog 5 f (fun x=>.agg (cZ x)) pt ok c B)(hB:B≤50000000)(q:Nat)(vs:List Nat)(l:List Co)(hok:∀x∈l,ok x)(hl:l.length≤1000)(hb:vs.length+10+l.length*c≤B):
  SCall Tryz.prog 245 [.own q 0 vs.length,.ro 2 (l.map cZ) .any,.fn (.func f) [] []] [(q,.arr 5 1 (vs.map aH))] (fun y σ=>∃r,y=.own r 0 (vs++aZ l pt).length∧σ=[(r,.arr 5 1 ((vs++aZ l pt).map aH))]):=by
 have hu:=bS 1 l.length (by omega);have hup:=gB l.length;have hpc:=fE hf (by omega) hok;refine bO 25 [0,1,2,6,8,13,14,15,16] Tryz.func245 ?_;refine jF ?_;refine oG ?_;refine cw [(q,.arr 5 1 (vs.map aH))] Tryz.call135 (dC q vs (by omega) l.length (by omega)) rfl aB aA ?_;rintro _ σ' ⟨r12,rfl,rfl⟩ h12;have k12:=aO h12;repeat rcases k12 with⟨_,k12⟩
 refine dS ?_;refine oK ?_;refine lp (β:=Nat×Nat) (fun b=>⟨[(0,.own b.1 0 (vs++uB l.length++(l.take b.2).flatMap pt).length),(2,.fn (.func f) [] []),(13,.ro 2 (l.map cZ) .any),(14,.int .i64 l.length),(15,.int .i64 b.2)],[(b.1,.arr 5 1 ((vs++uB l.length++(l.take b.2).flatMap pt).map aH))]⟩) (fun b=>b.2≤l.length) (fun b=>l.length-b.2) (r12,0) (by dsimp only;rw[show vs++uB l.length++(l.take 0).flatMap pt=vs++uB l.length by simp];(exact aN)) (Nat.zero_le _) ?_;rintro⟨q1,j⟩ hj;have hpj:=hpc j;have hsl:(vs++uB l.length++(l.take j).flatMap pt).length=vs.length+(uB l.length).length+((l.take j).flatMap pt).length:=by simp[Nat.add_assoc]
 dsimp only at hj⊢;refine eV ?_;refine aC rfl (fun g3=> ?_) (fun g3=> ?_)
 ·have hlt:j<l.length:=by simp at g3;omega
  obtain⟨x,hx⟩:∃x,l[j]? =some x:=⟨_,List.getElem?_eq_getElem hlt⟩
  have hnx:vs++uB l.length++(l.take (j+1)).flatMap pt=vs++uB l.length++(l.take j).flatMap pt++pt x:=by rw[List.take_add_one,hx,List.flatMap_append];simp
  refine lY ?_;refine gF fun r8 h8=> ?_;intros
  refine gL ?_;refine jX ?_;refine jN ?_;refine mO [(q1,.arr 5 1 ((vs++uB l.length++(l.take j).flatMap pt).map aH))] rfl hf.1 (hf.2 q1 _ x (hok x (List.mem_of_getElem? hx)) (by omega) (by omega)).2 rfl aB aA ?_;rintro _ σ' ⟨r22,rfl,rfl⟩ h22;have k22:=aO h22;repeat rcases k22 with⟨_,k22⟩
  refine pT ?_;refine⟨(r22,j+1),hlt,by show l.length-(j+1)<l.length-j;omega, ?_⟩;dsimp only;rw[hnx];exact aN
 obtain rfl:j=l.length:=by simp at g3;omega
 refine eK ?_;rw[show vs++uB l.length++(l.take l.length).flatMap pt=vs++aZ l pt by rw[List.take_length,List.append_assoc];rfl];exact aE aF ⟨q1,by rfl,rfl⟩ aA
theorem aAS{f:FuncId}{pt:Co→List Nat}{ok:Co→Prop}{c B:Nat}(hf:gD Tryz.prog 5 f (fun x=>.agg (cZ x)) pt ok c B)(hB:B≤50000000)(l:List Co)(hok:∀x∈l,ok x)(hl:l.length≤1000)(hb:10+l.length*c≤B):
  SCall Tryz.prog 245 [.ro 0 [] .nil,.ro 2 (l.map cZ) .any,.fn (.func f) [] []] [] (fun y σ=>∃r,y=.own r 0 (aZ l pt).length∧σ=[(r,.arr 5 1 ((aZ l pt).map aH))]):=
 fP (e:=5) (sz:=1) (by decide) fun q _=>aDy hf hB q [] l hok hl (by simpa using hb)
theorem aDz{f:FuncId}{pt:Da→List Nat}{ok:Da→Prop}{c B:Nat}(hf:gD Tryz.prog 5 f (fun x=>.agg (dW x)) pt ok c B)(hB:B≤50000000)(q:Nat)(vs:List Nat)(l:List Da)(hok:∀x∈l,ok x)(hl:l.length≤1000)(hb:vs.length+10+l.length*c≤B):
  SCall Tryz.prog 249 [.own q 0 vs.length,.ro 2 (l.map dW) .any,.fn (.func f) [] []] [(q,.arr 5 1 (vs.map aH))] (fun y σ=>∃r,y=.own r 0 (vs++aZ l pt).length∧σ=[(r,.arr 5 1 ((vs++aZ l pt).map aH))]):=by
 have hu:=bS 1 l.length (by omega);have hup:=gB l.length;have hpc:=fE hf (by omega) hok;refine bO 25 [0,1,2,6,8,13,14,15,16] Tryz.func249 ?_;refine jF ?_;refine oG ?_;refine cw [(q,.arr 5 1 (vs.map aH))] Tryz.call135 (dC q vs (by omega) l.length (by omega)) rfl aB aA ?_;rintro _ σ' ⟨r12,rfl,rfl⟩ h12;have k12:=aO h12;repeat rcases k12 with⟨_,k12⟩
 refine dS ?_;refine oK ?_;refine lp (β:=Nat×Nat) (fun b=>⟨[(0,.own b.1 0 (vs++uB l.length++(l.take b.2).flatMap pt).length),(2,.fn (.func f) [] []),(13,.ro 2 (l.map dW) .any),(14,.int .i64 l.length),(15,.int .i64 b.2)],[(b.1,.arr 5 1 ((vs++uB l.length++(l.take b.2).flatMap pt).map aH))]⟩) (fun b=>b.2≤l.length) (fun b=>l.length-b.2) (r12,0) (by dsimp only;rw[show vs++uB l.length++(l.take 0).flatMap pt=vs++uB l.length by simp];(exact aN)) (Nat.zero_le _) ?_;rintro⟨q1,j⟩ hj;have hpj:=hpc j;have hsl:(vs++uB l.length++(l.take j).flatMap pt).length=vs.length+(uB l.length).length+((l.take j).flatMap pt).length:=by simp[Nat.add_assoc]
 dsimp only at hj⊢;refine eV ?_;refine aC rfl (fun g3=> ?_) (fun g3=> ?_)
 ·have hlt:j<l.length:=by simp at g3;omega
  obtain⟨x,hx⟩:∃x,l[j]? =some x:=⟨_,List.getElem?_eq_getElem hlt⟩
  have hnx:vs++uB l.length++(l.take (j+1)).flatMap pt=vs++uB l.length++(l.take j).flatMap pt++pt x:=by rw[List.take_add_one,hx,List.flatMap_append];simp
  refine lY ?_;refine gF fun r8 h8=> ?_;intros
  refine gL ?_;refine jX ?_;refine jN ?_;refine mO [(q1,.arr 5 1 ((vs++uB l.length++(l.take j).flatMap pt).map aH))] rfl hf.1 (hf.2 q1 _ x (hok x (List.mem_of_getElem? hx)) (by omega) (by omega)).2 rfl aB aA ?_;rintro _ σ' ⟨r22,rfl,rfl⟩ h22;have k22:=aO h22;repeat rcases k22 with⟨_,k22⟩
  refine pT ?_;refine⟨(r22,j+1),hlt,by show l.length-(j+1)<l.length-j;omega, ?_⟩;dsimp only;rw[hnx];exact aN
 obtain rfl:j=l.length:=by simp at g3;omega
 refine eK ?_;rw[show vs++uB l.length++(l.take l.length).flatMap pt=vs++aZ l pt by rw[List.take_length,List.append_assoc];rfl];exact aE aF ⟨q1,by rfl,rfl⟩ aA
theorem aAT{f:FuncId}{pt:Da→List Nat}{ok:Da→Prop}{c B:Nat}(hf:gD Tryz.prog 5 f (fun x=>.agg (dW x)) pt ok c B)(hB:B≤50000000)(l:List Da)(hok:∀x∈l,ok x)(hl:l.length≤1000)(hb:10+l.length*c≤B):
  SCall Tryz.prog 249 [.ro 0 [] .nil,.ro 2 (l.map dW) .any,.fn (.func f) [] []] [] (fun y σ=>∃r,y=.own r 0 (aZ l pt).length∧σ=[(r,.arr 5 1 ((aZ l pt).map aH))]):=
 fP (e:=5) (sz:=1) (by decide) fun q _=>aDz hf hB q [] l hok hl (by simpa using hb)
theorem aDA{f:FuncId}{pt:FT→List Nat}{ok:FT→Prop}{c B:Nat}(hf:gD Tryz.prog 5 f (fun x=>.agg (dF x)) pt ok c B)(hB:B≤50000000)(q:Nat)(vs:List Nat)(no:Nat)(hno:no<256)(l:List FT)(hok:∀x∈l,ok x)(hl:l.length≤1000)(hvs:vs.length≤10000000)(hb:10+l.length*c≤B):
  SCall Tryz.prog 129 [.own q 0 vs.length,.int .i64 no,.ro 2 (l.map dF) .any,.fn (.func f) [] []] [(q,.arr 5 1 (vs.map aH))] (fun y σ=>∃r,y=.own r 0 (vs++bP no l pt).length∧σ=[(r,.arr 5 1 ((vs++bP no l pt).map aH))]):=by
 have hu:=bS 1 l.length (by omega);have hup:=gB l.length;have hpc:=fE hf (by omega) hok l.length;rw[List.take_length]at hpc;have hvl:(aZ l pt).length≤50000000:=by unfold aZ;simp only[List.length_append];omega
 have hub:=bS 4 (aZ l pt).length (by omega);refine bO 27 [0,1,2,3,8,9,12] Tryz.func129 ?_;refine oI ?_;refine pF ?_;refine aC rfl (fun g1=> ?_) (fun g1=> ?_)
 ·obtain rfl:l=[]:=by cases l with|nil=>rfl|cons x t=>simp at g1;omega
  refine eK ?_;rw[show vs++bP no ([]:List FT) pt=vs by simp[bP]];exact aE aF ⟨q,by rfl,rfl⟩ aA
 have hs:bP no l pt=[no]++uB (aZ l pt).length++aZ l pt:=by unfold bP;rw[if_neg (by intro e;rw[List.isEmpty_iff.1 e]at g1;simp at g1)];simp
 rw[hs];refine dB ?_;refine cw [] Tryz.call237 (aAL hf hB l hok hl hb) rfl aB aA ?_;rintro _ σ' ⟨r16,rfl,rfl⟩ h16
 replace h16:=fU h16;repeat rcases h16 with⟨_,h16⟩
 refine dS ?_;generalize aZ l pt=P at hvl hub⊢;refine jX ?_;refine z0 ?_;refine eP fun r20 h20=> ?_;intros
 refine mP ((vs++ [no]).map aH) (vs++ [no]).length ?_;refine dG fun r21 h21=> ?_;intros
 refine oH ?_;refine cw [(r21,.arr 5 1 ((vs++ [no]).map aH))] Tryz.call135 (dC r21 (vs++ [no]) (by simp;omega) P.length (by omega)) rfl aB aA ?_;rintro _ σ' ⟨r24,rfl,rfl⟩ h24;have k24:=aO h24;repeat rcases k24 with⟨_,k24⟩
 refine uC ?_;refine mP ((vs++ [no]++uB P.length++P).map aH) (vs++ [no]++uB P.length++P).length ?_;refine dG fun r26 h26=> ?_;intros
 refine cI ?_;rw[show vs++ [no]++uB P.length++P=vs++([no]++uB P.length++P) by simp];exact aE aF ⟨r26,by rfl,rfl⟩ aA
theorem aAU{f:FuncId}{pt:Int→List Nat}{ok:Int→Prop}{c B:Nat}(hf:gD Tryz.prog 5 f (fun n=>.int .i64 n) pt ok c B)(hB:B≤50000000)(q:Nat)(vs:List Nat)(no:Nat)(hno:no<256)(l:List Int)(hok:∀x∈l,ok x)(hl:l.length≤1000)(hvs:vs.length≤10000000)(hb:10+l.length*c≤B):
  SCall Tryz.prog 137 [.own q 0 vs.length,.int .i64 no,.ro 1 (l.map aL) .any,.fn (.func f) [] []] [(q,.arr 5 1 (vs.map aH))] (fun y σ=>∃r,y=.own r 0 (vs++bP no l pt).length∧σ=[(r,.arr 5 1 ((vs++bP no l pt).map aH))]):=by
 have hu:=bS 1 l.length (by omega);have hup:=gB l.length;have hpc:=fE hf (by omega) hok l.length;rw[List.take_length]at hpc;have hvl:(aZ l pt).length≤50000000:=by unfold aZ;simp only[List.length_append];omega
 have hub:=bS 4 (aZ l pt).length (by omega);refine bO 27 [0,1,2,3,8,9,12] Tryz.func137 ?_;refine oI ?_;refine pF ?_;refine aC rfl (fun g1=> ?_) (fun g1=> ?_)
 ·obtain rfl:l=[]:=by cases l with|nil=>rfl|cons x t=>simp at g1;omega
  refine eK ?_;rw[show vs++bP no ([]:List Int) pt=vs by simp[bP]];exact aE aF ⟨q,by rfl,rfl⟩ aA
 have hs:bP no l pt=[no]++uB (aZ l pt).length++aZ l pt:=by unfold bP;rw[if_neg (by intro e;rw[List.isEmpty_iff.1 e]at g1;simp at g1)];simp
 rw[hs];refine dB ?_;refine cw [] Tryz.call131 (WQ hf hB l hok hl hb) rfl aB aA ?_;rintro _ σ' ⟨r16,rfl,rfl⟩ h16
 replace h16:=fU h16;repeat rcases h16 with⟨_,h16⟩
 refine dS ?_;generalize aZ l pt=P at hvl hub⊢;refine jX ?_;refine z0 ?_;refine eP fun r20 h20=> ?_;intros
 refine mP ((vs++ [no]).map aH) (vs++ [no]).length ?_;refine dG fun r21 h21=> ?_;intros
 refine oH ?_;refine cw [(r21,.arr 5 1 ((vs++ [no]).map aH))] Tryz.call135 (dC r21 (vs++ [no]) (by simp;omega) P.length (by omega)) rfl aB aA ?_;rintro _ σ' ⟨r24,rfl,rfl⟩ h24;have k24:=aO h24;repeat rcases k24 with⟨_,k24⟩
 refine uC ?_;refine mP ((vs++ [no]++uB P.length++P).map aH) (vs++ [no]++uB P.length++P).length ?_;refine dG fun r26 h26=> ?_;intros
 refine cI ?_;rw[show vs++ [no]++uB P.length++P=vs++([no]++uB P.length++P) by simp];exact aE aF ⟨r26,by rfl,rfl⟩ aA
theorem aDB{f:FuncId}{pt:Im→List Nat}{ok:Im→Prop}{c B:Nat}(hf:gD Tryz.prog 5 f (fun x=>.agg (eE x)) pt ok c B)(hB:B≤50000000)(q:Nat)(vs:List Nat)(no:Nat)(hno:no<256)(l:List Im)(hok:∀x∈l,ok x)(hl:l.length≤1000)(hvs:vs.length≤10000000)(hb:10+l.length*c≤B):
  SCall Tryz.prog 133 [.own q 0 vs.length,.int .i64 no,.ro 3 (l.map eE) .any,.fn (.func f) [] []] [(q,.arr 5 1 (vs.map aH))] (fun y σ=>∃r,y=.own r 0 (vs++bP no l pt).length∧σ=[(r,.arr 5 1 ((vs++bP no l pt).map aH))]):=by
 have hu:=bS 1 l.length (by omega);have hup:=gB l.length;have hpc:=fE hf (by omega) hok l.length;rw[List.take_length]at hpc;have hvl:(aZ l pt).length≤50000000:=by unfold aZ;simp only[List.length_append];omega
 have hub:=bS 4 (aZ l pt).length (by omega);refine bO 27 [0,1,2,3,8,9,12] Tryz.func133 ?_;refine oI ?_;refine pF ?_;refine aC rfl (fun g1=> ?_) (fun g1=> ?_)
 ·obtain rfl:l=[]:=by cases l with|nil=>rfl|cons x t=>simp at g1;omega
  refine eK ?_;rw[show vs++bP no ([]:List Im) pt=vs by simp[bP]];exact aE aF ⟨q,by rfl,rfl⟩ aA
 have hs:bP no l pt=[no]++uB (aZ l pt).length++aZ l pt:=by unfold bP;rw[if_neg (by intro e;rw[List.isEmpty_iff.1 e]at g1;simp at g1)];simp
 rw[hs];refine dB ?_;refine cw [] Tryz.call238 (aAN hf hB l hok hl hb) rfl aB aA ?_;rintro _ σ' ⟨r16,rfl,rfl⟩ h16
 replace h16:=fU h16;repeat rcases h16 with⟨_,h16⟩
 refine dS ?_;generalize aZ l pt=P at hvl hub⊢;refine jX ?_;refine z0 ?_;refine eP fun r20 h20=> ?_;intros
 refine mP ((vs++ [no]).map aH) (vs++ [no]).length ?_;refine dG fun r21 h21=> ?_;intros
 refine oH ?_;refine cw [(r21,.arr 5 1 ((vs++ [no]).map aH))] Tryz.call135 (dC r21 (vs++ [no]) (by simp;omega) P.length (by omega)) rfl aB aA ?_;rintro _ σ' ⟨r24,rfl,rfl⟩ h24;have k24:=aO h24;repeat rcases k24 with⟨_,k24⟩
 refine uC ?_;refine mP ((vs++ [no]++uB P.length++P).map aH) (vs++ [no]++uB P.length++P).length ?_;refine dG fun r26 h26=> ?_;intros
 refine cI ?_;rw[show vs++ [no]++uB P.length++P=vs++([no]++uB P.length++P) by simp];exact aE aF ⟨r26,by rfl,rfl⟩ aA
theorem WR{f:FuncId}{pt:Li→List Nat}{ok:Li→Prop}{c B:Nat}(hf:gD Tryz.prog 5 f (fun x=>.agg (gG x)) pt ok c B)(hB:B≤50000000)(q:Nat)(vs:List Nat)(no:Nat)(hno:no<256)(l:List Li)(hok:∀x∈l,ok x)(hl:l.length≤1000)(hvs:vs.length≤10000000)(hb:10+l.length*c≤B):
  SCall Tryz.prog 138 [.own q 0 vs.length,.int .i64 no,.ro 3 (l.map gG) .any,.fn (.func f) [] []] [(q,.arr 5 1 (vs.map aH))] (fun y σ=>∃r,y=.own r 0 (vs++bP no l pt).length∧σ=[(r,.arr 5 1 ((vs++bP no l pt).map aH))]):=by
 have hu:=bS 1 l.length (by omega);have hup:=gB l.length;have hpc:=fE hf (by omega) hok l.length;rw[List.take_length]at hpc;have hvl:(aZ l pt).length≤50000000:=by unfold aZ;simp only[List.length_append];omega
 have hub:=bS 4 (aZ l pt).length (by omega);refine bO 27 [0,1,2,3,8,9,12] Tryz.func138 ?_;refine oI ?_;refine pF ?_;refine aC rfl (fun g1=> ?_) (fun g1=> ?_)
 ·obtain rfl:l=[]:=by cases l with|nil=>rfl|cons x t=>simp at g1;omega
  refine eK ?_;rw[show vs++bP no ([]:List Li) pt=vs by simp[bP]];exact aE aF ⟨q,by rfl,rfl⟩ aA
 have hs:bP no l pt=[no]++uB (aZ l pt).length++aZ l pt:=by unfold bP;rw[if_neg (by intro e;rw[List.isEmpty_iff.1 e]at g1;simp at g1)];simp
 rw[hs];refine dB ?_;refine cw [] Tryz.call240 (aAO hf hB l hok hl hb) rfl aB aA ?_;rintro _ σ' ⟨r16,rfl,rfl⟩ h16
 replace h16:=fU h16;repeat rcases h16 with⟨_,h16⟩
 refine dS ?_;generalize aZ l pt=P at hvl hub⊢;refine jX ?_;refine z0 ?_;refine eP fun r20 h20=> ?_;intros
 refine mP ((vs++ [no]).map aH) (vs++ [no]).length ?_;refine dG fun r21 h21=> ?_;intros
 refine oH ?_;refine cw [(r21,.arr 5 1 ((vs++ [no]).map aH))] Tryz.call135 (dC r21 (vs++ [no]) (by simp;omega) P.length (by omega)) rfl aB aA ?_;rintro _ σ' ⟨r24,rfl,rfl⟩ h24;have k24:=aO h24;repeat rcases k24 with⟨_,k24⟩
 refine uC ?_;refine mP ((vs++ [no]++uB P.length++P).map aH) (vs++ [no]++uB P.length++P).length ?_;refine dG fun r26 h26=> ?_;intros
 refine cI ?_;rw[show vs++ [no]++uB P.length++P=vs++([no]++uB P.length++P) by simp];exact aE aF ⟨r26,by rfl,rfl⟩ aA
theorem aDC{f:FuncId}{pt:Gl→List Nat}{ok:Gl→Prop}{c B:Nat}(hf:gD Tryz.prog 5 f (fun x=>.agg (eF x)) pt ok c B)(hB:B≤50000000)(q:Nat)(vs:List Nat)(no:Nat)(hno:no<256)(l:List Gl)(hok:∀x∈l,ok x)(hl:l.length≤1000)(hvs:vs.length≤10000000)(hb:10+l.length*c≤B):
  SCall Tryz.prog 142 [.own q 0 vs.length,.int .i64 no,.ro 3 (l.map eF) .any,.fn (.func f) [] []] [(q,.arr 5 1 (vs.map aH))] (fun y σ=>∃r,y=.own r 0 (vs++bP no l pt).length∧σ=[(r,.arr 5 1 ((vs++bP no l pt).map aH))]):=by
 have hu:=bS 1 l.length (by omega);have hup:=gB l.length;have hpc:=fE hf (by omega) hok l.length;rw[List.take_length]at hpc;have hvl:(aZ l pt).length≤50000000:=by unfold aZ;simp only[List.length_append];omega
 have hub:=bS 4 (aZ l pt).length (by omega);refine bO 27 [0,1,2,3,8,9,12] Tryz.func142 ?_;refine oI ?_;refine pF ?_;refine aC rfl (fun g1=> ?_) (fun g1=> ?_)
 ·obtain rfl:l=[]:=by cases l with|nil=>rfl|cons x t=>simp at g1;omega
  refine eK ?_;rw[show vs++bP no ([]:List Gl) pt=vs by simp[bP]];exact aE aF ⟨q,by rfl,rfl⟩ aA
 have hs:bP no l pt=[no]++uB (aZ l pt).length++aZ l pt:=by unfold bP;rw[if_neg (by intro e;rw[List.isEmpty_iff.1 e]at g1;simp at g1)];simp
 rw[hs];refine dB ?_;refine cw [] Tryz.call241 (aAP hf hB l hok hl hb) rfl aB aA ?_;rintro _ σ' ⟨r16,rfl,rfl⟩ h16
 replace h16:=fU h16;repeat rcases h16 with⟨_,h16⟩
 refine dS ?_;generalize aZ l pt=P at hvl hub⊢;refine jX ?_;refine z0 ?_;refine eP fun r20 h20=> ?_;intros
 refine mP ((vs++ [no]).map aH) (vs++ [no]).length ?_;refine dG fun r21 h21=> ?_;intros
 refine oH ?_;refine cw [(r21,.arr 5 1 ((vs++ [no]).map aH))] Tryz.call135 (dC r21 (vs++ [no]) (by simp;omega) P.length (by omega)) rfl aB aA ?_;rintro _ σ' ⟨r24,rfl,rfl⟩ h24;have k24:=aO h24;repeat rcases k24 with⟨_,k24⟩
 refine uC ?_;refine mP ((vs++ [no]++uB P.length++P).map aH) (vs++ [no]++uB P.length++P).length ?_;refine dG fun r26 h26=> ?_;intros
 refine cI ?_;rw[show vs++ [no]++uB P.length++P=vs++([no]++uB P.length++P) by simp];exact aE aF ⟨r26,by rfl,rfl⟩ aA
theorem aDD{f:FuncId}{pt:Ex→List Nat}{ok:Ex→Prop}{c B:Nat}(hf:gD Tryz.prog 5 f (fun x=>.agg (dJ x)) pt ok c B)(hB:B≤50000000)(q:Nat)(vs:List Nat)(no:Nat)(hno:no<256)(l:List Ex)(hok:∀x∈l,ok x)(hl:l.length≤1000)(hvs:vs.length≤10000000)(hb:10+l.length*c≤B):
  SCall Tryz.prog 145 [.own q 0 vs.length,.int .i64 no,.ro 2 (l.map dJ) .any,.fn (.func f) [] []] [(q,.arr 5 1 (vs.map aH))] (fun y σ=>∃r,y=.own r 0 (vs++bP no l pt).length∧σ=[(r,.arr 5 1 ((vs++bP no l pt).map aH))]):=by
 have hu:=bS 1 l.length (by omega);have hup:=gB l.length;have hpc:=fE hf (by omega) hok l.length;rw[List.take_length]at hpc;have hvl:(aZ l pt).length≤50000000:=by unfold aZ;simp only[List.length_append];omega
 have hub:=bS 4 (aZ l pt).length (by omega);refine bO 27 [0,1,2,3,8,9,12] Tryz.func145 ?_;refine oI ?_;refine pF ?_;refine aC rfl (fun g1=> ?_) (fun g1=> ?_)
 ·obtain rfl:l=[]:=by cases l with|nil=>rfl|cons x t=>simp at g1;omega
  refine eK ?_;rw[show vs++bP no ([]:List Ex) pt=vs by simp[bP]];exact aE aF ⟨q,by rfl,rfl⟩ aA
 have hs:bP no l pt=[no]++uB (aZ l pt).length++aZ l pt:=by unfold bP;rw[if_neg (by intro e;rw[List.isEmpty_iff.1 e]at g1;simp at g1)];simp
 rw[hs];refine dB ?_;refine cw [] Tryz.call243 (aAQ hf hB l hok hl hb) rfl aB aA ?_;rintro _ σ' ⟨r16,rfl,rfl⟩ h16
 replace h16:=fU h16;repeat rcases h16 with⟨_,h16⟩
 refine dS ?_;generalize aZ l pt=P at hvl hub⊢;refine jX ?_;refine z0 ?_;refine eP fun r20 h20=> ?_;intros
 refine mP ((vs++ [no]).map aH) (vs++ [no]).length ?_;refine dG fun r21 h21=> ?_;intros
 refine oH ?_;refine cw [(r21,.arr 5 1 ((vs++ [no]).map aH))] Tryz.call135 (dC r21 (vs++ [no]) (by simp;omega) P.length (by omega)) rfl aB aA ?_;rintro _ σ' ⟨r24,rfl,rfl⟩ h24;have k24:=aO h24;repeat rcases k24 with⟨_,k24⟩
 refine uC ?_;refine mP ((vs++ [no]++uB P.length++P).map aH) (vs++ [no]++uB P.length++P).length ?_;refine dG fun r26 h26=> ?_;intros
 refine cI ?_;rw[show vs++ [no]++uB P.length++P=vs++([no]++uB P.length++P) by simp];exact aE aF ⟨r26,by rfl,rfl⟩ aA
theorem aDE{f:FuncId}{pt:El→List Nat}{ok:El→Prop}{c B:Nat}(hf:gD Tryz.prog 5 f (fun x=>.agg (dV x)) pt ok c B)(hB:B≤50000000)(q:Nat)(vs:List Nat)(no:Nat)(hno:no<256)(l:List El)(hok:∀x∈l,ok x)(hl:l.length≤1000)(hvs:vs.length≤10000000)(hb:10+l.length*c≤B):
  SCall Tryz.prog 147 [.own q 0 vs.length,.int .i64 no,.ro 2 (l.map dV) .any,.fn (.func f) [] []] [(q,.arr 5 1 (vs.map aH))] (fun y σ=>∃r,y=.own r 0 (vs++bP no l pt).length∧σ=[(r,.arr 5 1 ((vs++bP no l pt).map aH))]):=by
 have hu:=bS 1 l.length (by omega);have hup:=gB l.length;have hpc:=fE hf (by omega) hok l.length;rw[List.take_length]at hpc;have hvl:(aZ l pt).length≤50000000:=by unfold aZ;simp only[List.length_append];omega
 have hub:=bS 4 (aZ l pt).length (by omega);refine bO 27 [0,1,2,3,8,9,12] Tryz.func147 ?_;refine oI ?_;refine pF ?_;refine aC rfl (fun g1=> ?_) (fun g1=> ?_)
 ·obtain rfl:l=[]:=by cases l with|nil=>rfl|cons x t=>simp at g1;omega
  refine eK ?_;rw[show vs++bP no ([]:List El) pt=vs by simp[bP]];exact aE aF ⟨q,by rfl,rfl⟩ aA
 have hs:bP no l pt=[no]++uB (aZ l pt).length++aZ l pt:=by unfold bP;rw[if_neg (by intro e;rw[List.isEmpty_iff.1 e]at g1;simp at g1)];simp
 rw[hs];refine dB ?_;refine cw [] Tryz.call244 (aAR hf hB l hok hl hb) rfl aB aA ?_;rintro _ σ' ⟨r16,rfl,rfl⟩ h16
 replace h16:=fU h16;repeat rcases h16 with⟨_,h16⟩
 refine dS ?_;generalize aZ l pt=P at hvl hub⊢;refine jX ?_;refine z0 ?_;refine eP fun r20 h20=> ?_;intros
 refine mP ((vs++ [no]).map aH) (vs++ [no]).length ?_;refine dG fun r21 h21=> ?_;intros
 refine oH ?_;refine cw [(r21,.arr 5 1 ((vs++ [no]).map aH))] Tryz.call135 (dC r21 (vs++ [no]) (by simp;omega) P.length (by omega)) rfl aB aA ?_;rintro _ σ' ⟨r24,rfl,rfl⟩ h24;have k24:=aO h24;repeat rcases k24 with⟨_,k24⟩
 refine uC ?_;refine mP ((vs++ [no]++uB P.length++P).map aH) (vs++ [no]++uB P.length++P).length ?_;refine dG fun r26 h26=> ?_;intros
 refine cI ?_;rw[show vs++ [no]++uB P.length++P=vs++([no]++uB P.length++P) by simp];exact aE aF ⟨r26,by rfl,rfl⟩ aA
theorem aDF{f:FuncId}{pt:Co→List Nat}{ok:Co→Prop}{c B:Nat}(hf:gD Tryz.prog 5 f (fun x=>.agg (cZ x)) pt ok c B)(hB:B≤50000000)(q:Nat)(vs:List Nat)(no:Nat)(hno:no<256)(l:List Co)(hok:∀x∈l,ok x)(hl:l.length≤1000)(hvs:vs.length≤10000000)(hb:10+l.length*c≤B):
  SCall Tryz.prog 150 [.own q 0 vs.length,.int .i64 no,.ro 2 (l.map cZ) .any,.fn (.func f) [] []] [(q,.arr 5 1 (vs.map aH))] (fun y σ=>∃r,y=.own r 0 (vs++bP no l pt).length∧σ=[(r,.arr 5 1 ((vs++bP no l pt).map aH))]):=by
 have hu:=bS 1 l.length (by omega);have hup:=gB l.length;have hpc:=fE hf (by omega) hok l.length;rw[List.take_length]at hpc;have hvl:(aZ l pt).length≤50000000:=by unfold aZ;simp only[List.length_append];omega
 have hub:=bS 4 (aZ l pt).length (by omega);refine bO 27 [0,1,2,3,8,9,12] Tryz.func150 ?_;refine oI ?_;refine pF ?_;refine aC rfl (fun g1=> ?_) (fun g1=> ?_)
 ·obtain rfl:l=[]:=by cases l with|nil=>rfl|cons x t=>simp at g1;omega
  refine eK ?_;rw[show vs++bP no ([]:List Co) pt=vs by simp[bP]];exact aE aF ⟨q,by rfl,rfl⟩ aA
 have hs:bP no l pt=[no]++uB (aZ l pt).length++aZ l pt:=by unfold bP;rw[if_neg (by intro e;rw[List.isEmpty_iff.1 e]at g1;simp at g1)];simp
 rw[hs];refine dB ?_;refine cw [] Tryz.call245 (aAS hf hB l hok hl hb) rfl aB aA ?_;rintro _ σ' ⟨r16,rfl,rfl⟩ h16
 replace h16:=fU h16;repeat rcases h16 with⟨_,h16⟩
 refine dS ?_;generalize aZ l pt=P at hvl hub⊢;refine jX ?_;refine z0 ?_;refine eP fun r20 h20=> ?_;intros
 refine mP ((vs++ [no]).map aH) (vs++ [no]).length ?_;refine dG fun r21 h21=> ?_;intros
 refine oH ?_;refine cw [(r21,.arr 5 1 ((vs++ [no]).map aH))] Tryz.call135 (dC r21 (vs++ [no]) (by simp;omega) P.length (by omega)) rfl aB aA ?_;rintro _ σ' ⟨r24,rfl,rfl⟩ h24;have k24:=aO h24;repeat rcases k24 with⟨_,k24⟩
 refine uC ?_;refine mP ((vs++ [no]++uB P.length++P).map aH) (vs++ [no]++uB P.length++P).length ?_;refine dG fun r26 h26=> ?_;intros
 refine cI ?_;rw[show vs++ [no]++uB P.length++P=vs++([no]++uB P.length++P) by simp];exact aE aF ⟨r26,by rfl,rfl⟩ aA
theorem aDG{f:FuncId}{pt:Da→List Nat}{ok:Da→Prop}{c B:Nat}(hf:gD Tryz.prog 5 f (fun x=>.agg (dW x)) pt ok c B)(hB:B≤50000000)(q:Nat)(vs:List Nat)(no:Nat)(hno:no<256)(l:List Da)(hok:∀x∈l,ok x)(hl:l.length≤1000)(hvs:vs.length≤10000000)(hb:10+l.length*c≤B):
  SCall Tryz.prog 152 [.own q 0 vs.length,.int .i64 no,.ro 2 (l.map dW) .any,.fn (.func f) [] []] [(q,.arr 5 1 (vs.map aH))] (fun y σ=>∃r,y=.own r 0 (vs++bP no l pt).length∧σ=[(r,.arr 5 1 ((vs++bP no l pt).map aH))]):=by
 have hu:=bS 1 l.length (by omega);have hup:=gB l.length;have hpc:=fE hf (by omega) hok l.length;rw[List.take_length]at hpc;have hvl:(aZ l pt).length≤50000000:=by unfold aZ;simp only[List.length_append];omega
 have hub:=bS 4 (aZ l pt).length (by omega);refine bO 27 [0,1,2,3,8,9,12] Tryz.func152 ?_;refine oI ?_;refine pF ?_;refine aC rfl (fun g1=> ?_) (fun g1=> ?_)
 ·obtain rfl:l=[]:=by cases l with|nil=>rfl|cons x t=>simp at g1;omega
  refine eK ?_;rw[show vs++bP no ([]:List Da) pt=vs by simp[bP]];exact aE aF ⟨q,by rfl,rfl⟩ aA
 have hs:bP no l pt=[no]++uB (aZ l pt).length++aZ l pt:=by unfold bP;rw[if_neg (by intro e;rw[List.isEmpty_iff.1 e]at g1;simp at g1)];simp
 rw[hs];refine dB ?_;refine cw [] Tryz.call249 (aAT hf hB l hok hl hb) rfl aB aA ?_;rintro _ σ' ⟨r16,rfl,rfl⟩ h16
 replace h16:=fU h16;repeat rcases h16 with⟨_,h16⟩
 refine dS ?_;generalize aZ l pt=P at hvl hub⊢;refine jX ?_;refine z0 ?_;refine eP fun r20 h20=> ?_;intros
 refine mP ((vs++ [no]).map aH) (vs++ [no]).length ?_;refine dG fun r21 h21=> ?_;intros
 refine oH ?_;refine cw [(r21,.arr 5 1 ((vs++ [no]).map aH))] Tryz.call135 (dC r21 (vs++ [no]) (by simp;omega) P.length (by omega)) rfl aB aA ?_;rintro _ σ' ⟨r24,rfl,rfl⟩ h24;have k24:=aO h24;repeat rcases k24 with⟨_,k24⟩
 refine uC ?_;refine mP ((vs++ [no]++uB P.length++P).map aH) (vs++ [no]++uB P.length++P).length ?_;refine dG fun r26 h26=> ?_;intros
 refine cI ?_;rw[show vs++ [no]++uB P.length++P=vs++([no]++uB P.length++P) by simp];exact aE aF ⟨r26,by rfl,rfl⟩ aA
end Go.Proofs.YtjpdadobblffmaaGreat
