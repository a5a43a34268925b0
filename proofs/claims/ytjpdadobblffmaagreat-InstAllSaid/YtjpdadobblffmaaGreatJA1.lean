import Derived.Test.YtjpdadobblffmaaGreatRows
import Derived.WalkKit
import Derived.WalkSpells
import Derived.WalkLawsBesides
import Derived.ProofKit
import Derived.Lib.Hide
import Derived.Laws.CopyRow
import Derived.Maps.AppendAt
import Derived.Deep.AppendLies
import Derived.Deep.Draws
import Derived.Deep.OwnRows
import Derived.Deep.Slices
import Derived.Deep.Fields
import Derived.Deep.QuietTactic
import Derived.BigQuiet
import Derived.RegionTactic
import Derived.OwnWalk
import Derived.ChangeSame
import Derived.Lib.SmallJoins
import Derived.Deep.RegionHeld3
import Derived.Deep.RegionWith
import Derived.Deep.RegionLaw
import Derived.StillTailTactics
import Derived.Laws.BytesString
import Derived.Deep.LoopGhost
import Derived.Laws.Slices
import Derived.Laws.Tables
import Derived.Lib.SliceRun
set_option linter.unusedSimpArgs false
set_option linter.unusedVariables false
set_option maxRecDepth 100000
set_option maxHeartbeats 4000000
open Array renaming getElem?_eq_getElem->A7
open BitVec renaming ofInt->A9
open Bool renaming and_eq_true->Ap,false_eq_true->Ag
open Int renaming toNat_natCast->Bc
open List renaming all_eq_true->Bw,append_assoc->Aq,append_nil->Be,getElem?_append_left->Ba,getElem?_append_right->A6,getElem?_drop->Bb,getElem?_eq_getElem->Ar,getElem?_eq_some_iff->Ai,getElem?_map->Bg,getElem?_take_of_lt->A2,length_append->Ao,length_cons->Bj,length_drop->Bv,length_map->Az,length_take->Bi,map_cons->Bn,map_nil->B3,mem_append->A8,mem_cons->Av,mem_cons_of_mem->An,mem_map->Bm,mem_of_getElem?->Ah,mem_of_mem_take->Bf,mem_singleton->A1,nil_append->Ay,replicate->Ak,take_length->Aw,take_of_length_le->Aj
open Nat renaming add_assoc->By,le_refl->A3,le_trans->A4,lt_or_ge->Br,mul_le_mul_right->Bq,zero_add->B2,zero_le->Am
open Option renaming getD_some->Bz
namespace Go.Proofs.YtjpdadobblffmaaGreat
open Go.RowKit Go.ChangeShapes Go.WideShapes Go.ChangeAt Go.Deep
theorem Db{c:Prop}{h:Decidable c}(hnc:¬c){α:Sort _}{t e:α}:ite c t e=e:=if_neg hnc
theorem Dc{c:Prop}{h:Decidable c}(hc:c){α:Sort _}{t e:α}:ite c t e=t:=if_pos hc
theorem Dd{α:Sort _}{h:Decidable True}(t e:α):ite True t e=t:=if_true t e
theorem De{α:Sort _}{h:Decidable False}(t e:α):ite False t e=e:=if_false t e
theorem U{P:Prop}(h:P:=by omega):P:=h
theorem V{P:Prop}(h:P:=by decide):P:=h
theorem X{P:Prop}(h:P:=by simp):P:=h
theorem Af{P:Prop}(h:P:=by simp;omega):P:=h
theorem Aa{α:Type}(l:List α)(j:Nat)(h:j<l.length):∃x,l[j]? =some x:=⟨_,List.getElem?_eq_getElem h⟩
theorem Ab{a j:Nat}(h:j<a):a-(j+1)<a-j:=by omega
def Ac:List Nat->List (Nat×Bool)->List (Nat×Bool)
 |[],r=>r
 |a::l,r=>(a,true)::Ac l r
abbrev Ad (a:Nat)(r:List (Nat×Bool)):=(a,false)::r
theorem BV(a:Addr)(n:Nat):(a.add n).block=a.block:=by unfold Addr.add;split<;>rfl
theorem XJ(a:Addr)(i j:Nat):(a.add i).add j=a.add (i+j):=by
 unfold Addr.add;by_cases hi:i=0<;>by_cases hj:j=0<;>simp[hi,hj,By]
def aAl (w:World) (B size:Nat) (A:Option Addr) (n:Nat) (xs:List Value):Prop:=
 xs.length=n*size/\(0<n->∃ad,A=some ad/\ad.block<B/\∀j u,xs[j]? =some u->w.cell? (ad.add j)=some u)
section
variable {P : Program} (w : World)
theorem BW(base:Nat)(t ty e:TypeId)(i:TypeInfo)(size:Nat)(ht:P.underlying t=some (.slice e))(hi:P.info? e=some i)
  (v:Value) (n:Nat) (xs:List Value) (hown:w.ownsRow base e size v n xs) (c:Nat):(Builtin.append_ #[t,t] ty #[v,.slice none 0 c]).run P w=.ok v w:=by
 rcases hown.2 with⟨rfl,rfl⟩|⟨g,cap,cur,rfl,_,_,hnc,_⟩
 ·simp[Builtin.append_,run_underlying ht,sizeOf,typeInfo,hi,Builtin.lenOf,Builtin.firstCells]
 ·simp[Builtin.append_,run_underlying ht,sizeOf,typeInfo,hi,Builtin.lenOf,Builtin.firstCells,hnc,storeCells]
theorem HS(base:Nat)(t ty e:TypeId)(i:TypeInfo)(z:Value)(size bytes:Nat)(ht:P.underlying t=some (.slice e))(hi:P.info? e=some i)(hz:i.zero=some z)
  (hsize:i.size=size) (hby:i.bytes=bytes) (hzs:z.cells.size=size) (hsz:0<size)
  (v:Value) (n:Nat) (xs:List Value) (hown:w.ownsRow base e size v n xs)
  (B:Nat) (A:Option Addr) (m c:Nat) (news:List Value) (hr:aAl w B size A m news) (h1:∀u∈news,u.oneCell'=true)
  (h63:n+m<=maxLen) (hbytes:(n+m)*bytes<=140737488355328) (hbase:base<=w.heap.size):
  ∃v' w',(Builtin.append_ #[t,t] ty #[v,.slice A m c]).run P w=.ok v' w'/\w'.ownsRow base e size v' (n+m) (xs++news)/\w.grownBy w' v.ownBlock/\
   (v'.ownBlock=v.ownBlock\/v'.ownBlock=some w.heap.size):=by
 rcases A with _ |ad
 ·have hm:m=0:=by
   rcases Nat.eq_zero_or_pos m with h0|h0
   ·exact h0
   ·obtain⟨ad,h,_⟩:=hr.2 h0;cases h
  subst hm;have hn:news=[]:=List.eq_nil_of_length_eq_zero (by simpa using hr.1);subst hn;exact⟨v,w,BW w base t ty e i size ht hi v n xs hown c,by simpa using hown,World.grownBy.refl w _,.inl rfl⟩
 ·have hcells:∀j u,news[j]? =some u->w.cell? (ad.add j)=some u:=by
   intro j u hu;rcases Nat.eq_zero_or_pos m with h0|h0
   ·subst h0;have hn:news=[]:=List.eq_nil_of_length_eq_zero (by simpa using hr.1);subst hn;simp at hu
   ·obtain⟨ad',h,_,hc⟩:=hr.2 h0;injection h with h
    subst h;exact hc j u hu
  obtain⟨v',w',hrun,h2,h3,_,h5⟩:=run_append_own_at (P:=P) w base t ty e i z size bytes ht hi hz hsize hby hzs hsz v n xs hown ad m c news hr.1 hcells h1 h63 hbytes hbase;exact⟨v',w',hrun,h2,h3,h5⟩
end
def Fz (ty:TypeId) (n:Nat) (fz:Nat×Nat):Prop:=(fz=(0,0)\/n<=fz.1)/\(ty=3->fz=(0,0))
theorem Fz.zero {ty:TypeId}{n:Nat}:Fz ty n (0,0):=⟨.inl rfl,fun _=>rfl⟩
theorem Fz.at_ {ty:TypeId}{n i:Nat}{fz:Nat×Nat}(h:Fz ty n fz)(hi:i<n):(decide (fz.1<=i)&&decide (i<fz.2))=false:=by
 rcases h.1 with rfl|h
 ·simp
 ·rw[decide_eq_false U,Bool.false_and]
theorem iF{P:Program}(g o:Nat)(t:TypeId)(fz:Nat×Nat):∀(vs:List Value) (i:Nat) (cur:Array Value) (w:World),w.heap[g]? =some (.cells cur t fz)->Fz t cur.size fz->o+i+vs.length<=cur.size->(∀v∈vs,v.oneCell'=true)->
  (storeCells ⟨g,o,none⟩ vs i).run P w=.ok () (w.setRow g (cur.toList.take (o+i)++vs++cur.toList.drop (o+i+vs.length)).toArray)
 |[],i,cur,w,hg,_,_,_=>by
  simp only[storeCells,Be,List.length_nil,Nat.add_zero,List.take_append_drop,Array.toArray_toList];rw[setRow_self w g cur t fz hg];rfl
 |v::rest,i,cur,w,hg,hz,hl,h1=>by
  have hi:o+i<cur.size:=by simp at hl;omega
  have hadd:(⟨g,o,none⟩:Addr).add i=⟨g,o+i,none⟩:=by unfold Addr.add;split<;>simp_all
  have hcell:w.cell? ⟨g,o+i,none⟩=some cur[o+i]:=by simp[World.cell?,hg,hi]
  have hfro:w.frozen? ⟨g,o+i,none⟩=false:=by simp only[World.frozen?,hg];exact hz.at_ hi
  have hst:(store ((⟨g,o,none⟩:Addr).add i) v).run P w=.ok () (w.setRow g (cur.setIfInBounds (o+i) v)):=by
   rw[hadd,run_store P w _ v _ (h1 v X),hcell];simp[hfro,setCell_eq_setRow w g (o+i) cur t fz v hg]
  have ih:=iF (P:=P) g o t fz rest (i+1) (cur.setIfInBounds (o+i) v) (w.setRow g (cur.setIfInBounds (o+i) v)) (setRow_heap w g cur _ t _ hg) (by simpa using hz) (by simp at hl⊢;omega) (fun x hx=>h1 x (by simp[hx]));simp only[storeCells,Sem.run_bind,hst,Result.andThen_ok,ih,setRow_setRow]
  congr 3
  have e:=list_seg_step cur.toList (o+i) v rest (by simp at hl⊢;omega);simpa[Array.toList_setIfInBounds,By]using e
def rowG (w:World) (base:Nat) (e:TypeId) (size:Nat) (v:Value) (n:Nat) (xs:List Value):Prop:=
 xs.length=n*size/\((v=.slice none 0 0/\n=0)\/∃g cap cur fz,v=.slice (some ⟨g,0,none⟩) n cap/\base<=g/\w.heap[g]? =some (.cells cur e fz)/\Fz e cur.size fz/\n<=cap/\cap<=maxLen/\cur.size=cap*size/\cur.toList.take (n*size)=xs)
theorem rowG.of {w:World}{base:Nat}{e:TypeId}{size:Nat}{v:Value}{n:Nat}{xs:List Value}(h:w.ownsRow base e size v n xs):rowG w base e size v n xs:=
 ⟨h.1,h.2.imp id fun⟨g,cap,cur,h1,h2,h3,h4,h5,h6,h7⟩=>⟨g,cap,cur,(0,0),h1,h2,h3,Fz.zero,h4,h5,h6,h7⟩⟩
section
variable {P : Program} (w : World)
theorem EC(t ty e:TypeId)(i:TypeInfo)(ht:P.underlying t=some (.slice e))(hi:P.info? e=some i)
  (g sLen sCap:Nat) (cur:Array Value) (fz:Nat×Nat) (hg:w.heap[g]? =some (.cells cur e fz)) (hz:Fz e cur.size fz)
  (a:Addr) (m c:Nat) (news:List Value) (hl:news.length=m*i.size) (hnews:∀j u,news[j]? =some u->w.cell? (a.add j)=some u) (h1:∀u∈news,u.oneCell'=true)
  (hroom:sLen+m<=sCap) (hfit:sLen*i.size+news.length<=cur.size):
  (Builtin.append_ #[t,t] ty #[.slice (some ⟨g,0,none⟩) sLen sCap,.slice (some a) m c]).run P w=
   .ok (.slice (some ⟨g,0,none⟩) (sLen+m) sCap) (w.setRow g (cur.toList.take (sLen*i.size)++news++cur.toList.drop (sLen*i.size+news.length)).toArray):=by
 have hf:=run_firstCells_some (P:=P) w i.size m a m c news hl hnews;have hst:=iF (P:=P) g (sLen*i.size) e fz news 0 cur w hg hz (by simpa using hfit) h1;simp only[Nat.add_zero]at hst;simp[Builtin.append_,run_underlying ht,sizeOf,typeInfo,hi,Builtin.lenOf,hroom,hf,Addr.add_lit,hst]
theorem GC(base:Nat)(t ty e:TypeId)(i:TypeInfo)(z:Value)(size bytes:Nat)(ht:P.underlying t=some (.slice e))(hi:P.info? e=some i)(hz:i.zero=some z)
  (hsize:i.size=size) (hby:i.bytes=bytes) (hzs:z.cells.size=size) (hsz:0<size)
  (v:Value) (n:Nat) (xs:List Value) (hown:rowG w base e size v n xs)
  (B:Nat) (A:Option Addr) (m c:Nat) (news:List Value) (hr:aAl w B size A m news) (h1:∀u∈news,u.oneCell'=true)
  (h63:n+m<=maxLen) (hbytes:(n+m)*bytes<=140737488355328) (hbase:base<=w.heap.size):
  ∃v' w',(Builtin.append_ #[t,t] ty #[v,.slice A m c]).run P w=.ok v' w'/\rowG w' base e size v' (n+m) (xs++news)/\w.grownBy w' v.ownBlock/\
   (v'.ownBlock=v.ownBlock\/v'.ownBlock=some w.heap.size):=by
 rcases hown.2 with⟨rfl,rfl⟩|⟨g,cap,cur,fz,rfl,hbg,hg,hfz,hnc,hcm,hcs,htake⟩
 ·obtain⟨v',w',a1,a2,a3,a4⟩:=HS (P:=P) w base t ty e i z size bytes ht hi hz hsize hby hzs hsz (.slice none 0 0) 0 xs ⟨hown.1,.inl ⟨rfl,rfl⟩⟩ B A m c news hr h1 h63 hbytes hbase;exact⟨v',w',a1,.of a2,a3,a4⟩
 rcases A with _ |ad
 ·have hm:m=0:=by
   rcases Nat.eq_zero_or_pos m with h0|h0
   ·exact h0
   ·obtain⟨ad,h,_⟩:=hr.2 h0;cases h
  subst hm;have hn:news=[]:=List.eq_nil_of_length_eq_zero (by simpa using hr.1);subst hn;refine⟨_,w, ?_,by simpa using hown,World.grownBy.refl w _,.inl rfl⟩;simp[Builtin.append_,run_underlying ht,sizeOf,typeInfo,hi,Builtin.lenOf,Builtin.firstCells,hnc,storeCells]
 ·have hcells:∀j u,news[j]? =some u->w.cell? (ad.add j)=some u:=by
   intro j u hu;rcases Nat.eq_zero_or_pos m with h0|h0
   ·subst h0;have hn:news=[]:=List.eq_nil_of_length_eq_zero (by simpa using hr.1);subst hn;simp at hu
   ·obtain⟨ad',h,_,hc⟩:=hr.2 h0;injection h with h
    subst h;exact hc j u hu
  subst hsize;subst hby
  have hl:news.length=m*i.size:=hr.1;have hsmall:n+m<=9223372036854775807:=by simp only[maxLen]at h63;omega
  have hlen:(xs++news).length=(n+m)*i.size:=by rw[Ao,hown.1,hl,Nat.add_mul]
  by_cases hroom:n+m<=cap
  ·have hfit:n*i.size+news.length<=cur.size:=by rw[hl,hcs,<-Nat.add_mul];exact Bq _ hroom
   have hr:=EC (P:=P) w t ty e i ht hi g n cap cur fz hg hfz ad m c news hl hcells h1 hroom hfit;have hsz2:(cur.toList.take (n*i.size)++news++cur.toList.drop (n*i.size+news.length)).toArray.size=cur.size:=by
    simp only[List.size_toArray,Ao,Bi,Bv,Array.length_toList];omega
   refine⟨_,_,hr,⟨hlen,.inr ⟨g,cap,_,fz,rfl,hbg,setRow_heap w g cur _ e _ hg,by rw[hsz2];exact hfz,hroom,hcm,by rw[hsz2];exact hcs, ?_⟩⟩,⟨rfl,rfl,rfl,X,fun k _ hk=>setRow_other w g k _ (fun e=>hk (by simp[Value.ownBlock,e]))⟩,Or.inl rfl⟩;rw[htake,<-hlen];exact List.take_left
  ·have holds:∀j u,xs[j]? =some u->w.cell? ((⟨g,0,none⟩:Addr).add j)=some u:=by
    intro j u hu;rw[Addr.add_lit,B2,cell_of_row w g j cur e fz hg,<-Array.getElem?_toList];rw[<-htake,List.getElem?_take]at hu;split at hu
    ·exact hu
    ·cases hu
   have hr:=run_append_grow (P:=P) w t ty e i z ht hi hz ⟨g,0,none⟩ n cap xs hown.1 holds ad m c news hl hcells U U (growslice_fits U U);have hge:=grownCap_ge w (n+m) cap e;have hcm:grownCap w (n+m) cap e<=maxLen:=grownCap_le_maxLen w (n+m) cap e h63;refine⟨_,_,hr,⟨hlen,.inr ⟨w.heap.size,_,_,(0,0),rfl,hbase,heap_alloc_new w.drew _,Fz.zero,hge,hcm, ?_, ?_⟩⟩,⟨rfl,rfl,rfl,X,fun k hk _=>heap_alloc_old w.drew _ hk⟩,Or.inr rfl⟩
   ·simp only[Array.size_append,List.size_toArray,size_zeroCells,hzs,hown.1,hl,<-Nat.add_mul]
    congr 1
    omega
   ·simp only[Array.toList_append,Aq];rw[<-Aq,<-hlen];exact List.take_left
theorem KU(dT sT ty elem:TypeId)(g o dLen dCap:Nat)(a:Addr)(sLen sCap:Nat)(cur:Array Value)(t:TypeId)(cs:List Value)(fz:Nat×Nat)
  (hu:P.underlying dT=some (.slice elem)) (hs:(P.info? elem).map (·.size)=some 1)
  (hg:w.heap[g]? =some (.cells cur t fz)) (hz:Fz t cur.size fz) (hn:cs.length=Nat.min sLen dLen)
  (hsrc:∀j v,cs[j]? =some v->w.cell? (a.add j)=some v) (hfit:o+cs.length<=cur.size) (h1:∀v∈cs,v.oneCell'=true):
  (Builtin.copy_ #[dT,sT] ty #[.slice (some ⟨g,o,none⟩) dLen dCap,.slice (some a) sLen sCap]).run P w=
   .ok (goInt cs.length) (w.setRow g (cur.toList.take o++cs++cur.toList.drop (o+cs.length)).toArray):=by
 have hl:=run_loadCells_list (P:=P) w a cs hsrc;have hst:=iF (P:=P) g o t fz cs 0 cur w hg hz (by simpa using hfit) h1;cases hq:P.info? elem with
 |none=>simp[hq]at hs
 |some i=>
  have hi:i.size=1:=by simpa[hq]using hs
  simp[Builtin.copy_,run_underlying hu,Builtin.lenOf,Builtin.firstCells,sizeOf,typeInfo,hq,hi,<-hn,hl,hst]
end
theorem KV{P:Program}(t e:TypeId)(i:TypeInfo)(z:Value)(ht:P.underlying t=some (.slice e))(hi:P.info? e=some i)(hz:i.zero=some z)
  (kl kc:IntKind) (n c:Nat) (hnc:n<=c) (hbytes:i.bytes*c<=281474976710656) (h63:c<=9223372036854775807) (w:World):
  (Instr.makeSlice t (.int kl (n:Int)) (.int kc (c:Int))).run P w=.ok (.slice (some ⟨w.heap.size,0,none⟩) n c) (w.alloc (.cells (madeCells z.cells (c*i.size)) e)):=by
 have hb:(i.bytes:Int)*(c:Int)<=281474976710656:=by
  have h:((i.bytes*c:Nat):Int)<=281474976710656:=by omega
  rwa [Int.natCast_mul]at h
 have hr:=run_make (P:=P) w t e i z ht hi hz kl kc n c U U hb U;simp only[Bc]at hr;exact hr
section
variable {H : Type} {enc : TypeId × Value -> H} {P : Program}
theorem zX(hl:laidOutB P=true){W W':World}(hb:Below W.heap.size W W'):
  ∀(ts:List TypeId) (vs:List Value) (ds:List (DataW H)) (ps:List MemPlace),(∀t∈ts,P.readableRec t=true/\t<P.types.size)->(∀x∈ps,x.block<W.heap.size)->
   DataW.TrodAll enc P W 0 (fun _=>true) true ts vs ds ps->DataW.TrodAll enc P W' 0 (fun b=>decide (b<W.heap.size)) true ts vs ds ps
 |[],[],[],_,_,_,h=>h
 |t::ts,v::vs,d::ds,ps,hr,hlt,h=>by
  obtain⟨p,q,h1,h2,rfl⟩:=h;exact⟨p,q,Below.trod hl (hr t X).1 (hr t X).2 h1 hb (fun x hx=>hlt x (by simp[hx])),
   zX hl hb ts vs ds q (fun t' ht'=>hr t' (by simp[ht'])) (fun x hx=>hlt x (by simp[hx])) h2,rfl⟩
 |[],[],_:: _,_,_,_,h=>h.elim
 |[],_:: _,_,_,_,_,h=>h.elim
 | _:: _,[],_,_,_,_,h=>h.elim
 | _:: _,_:: _,[],_,_,_,h=>h.elim
theorem aCP{f:Func}{s:ChangeSpec}{tb:TypeId}{fresh handsOn:Bool}{W W':World}{args:Array Value}{ds gs:List (DataW H)}{before:List MemPlace}
  (hl:laidOutB P=true) (hrt:f.resultTypes=#[tb]) (htb:P.underlying tb=some .bool) (hvars:s.vars=[])
  (hfn:s.fn H (ds++gs)= { results:=[.lit (.bool true)],args:=ds }) (hread:∀t∈f.params.toList,P.readableRec t=true/\t<P.types.size)
  (hW:DataW.Whole enc P f.params.toList s.vars false W args.toList ds gs before) (hb:Below W.heap.size W W'):
  s.post enc P f false fresh handsOn false W args (.bool true) W':=by
 have hW0:=hW;obtain⟨p,q,hA,hV,rfl,hz,hn⟩:=hW;have hlt:∀x∈p++q,x.block<W.heap.size:=fun x hx=>hW0.lt x hx
 rw[hvars]at hV;obtain⟨rfl,rfl⟩:=trodVars_none hV;refine⟨ds,[],p++ [],[],p,[],hW0, ?_, ?_, ?_,World.keptBut_mono (fun x hx=>⟨hx, ?_⟩) (hb.frame (· ∈p++ [])),fun h=>by cases h⟩
 ·rw[hrt,hfn];exact⟨[],[],shut_bool htb true,rfl,rfl⟩
 ·rw[hfn];exact zX hl hb _ _ _ _ hread (fun x hx=>hlt x (by simp[hx])) hA
 ·rw[hvars,hfn];rfl
 ·exact Or.inr (Or.inl (by simpa using hx))
end
structure Only (S:Nat->Prop) (w w':World):Prop where
 os:w'.os=w.os
 tape:w'.tape=w.tape
 output:w'.output=w.output
 size:w.heap.size<=w'.heap.size
 block:∀k,k<w.heap.size->¬S k->w'.heap[k]? =w.heap[k]?
section
variable {S T : Nat -> Prop} {a b c w w' : World}
theorem Only.refl (S:Nat->Prop)(w:World):Only S w w:=⟨rfl,rfl,rfl,A3 _,fun _ _ _=>rfl⟩
theorem Only.trans (h:Only S a b)(k:Only S b c):Only S a c:=
 ⟨k.os.trans h.os,k.tape.trans h.tape,k.output.trans h.output,A4 h.size k.size,fun i hi hs=>(k.block i (Nat.lt_of_lt_of_le hi h.size) hs).trans (h.block i hi hs)⟩
theorem Only.trans' (h:Only S a b)(k:Only T b c)(hT:∀i,i<a.heap.size->T i->S i):Only S a c:=
 ⟨k.os.trans h.os,k.tape.trans h.tape,k.output.trans h.output,A4 h.size k.size,fun i hi hs=>(k.block i (Nat.lt_of_lt_of_le hi h.size) (fun t=>hs (hT i hi t))).trans (h.block i hi hs)⟩
theorem Only.mono (h:Only S w w')(hS:∀i,i<w.heap.size->S i->T i):Only T w w':=⟨h.os,h.tape,h.output,h.size,fun i hi hs=>h.block i hi (fun s=>hs (hS i hi s))⟩
theorem Only.below {B:Nat}(h:Only S w w')(hB:B<=w.heap.size)(hS:∀i,i<w.heap.size->S i->B<=i):Below B w w':=
 ⟨h.os,h.tape,h.output,h.size,fun i hi=>h.block i U (fun s=>by have:=hS i U s;omega)⟩
theorem Only.drew (h:Only S a w):Only S a w.drew:=⟨h.os,h.tape,h.output,h.size,h.block⟩
theorem Only.setCell (h:Only S a w){p:Addr}(hp:p.block<a.heap.size->S p.block)(u:Value):Only S a (w.setCell p u):=
 h.trans' (T:=fun i=>i=p.block) ⟨rfl,rfl,rfl,by simp[World.setCell],fun k _ hne=>Below.heap_setCell _ _ _ _ hne⟩ (fun i hi e=>by subst e;exact hp hi)
end
def Same (S:Nat->Prop) (w w':World):Prop:=∀b,S b->w'.heap[b]? =w.heap[b]?
theorem Same.cell {S:Nat->Prop}{w w':World}(h:Same S w w'){p:Addr}(hp:S p.block):w'.cell? p=w.cell? p:=World.cell?_of_block (h p.block hp)
theorem Only.same {S T:Nat->Prop}{w w':World}(h:Only S w w')(hT:∀b,T b->b<w.heap.size/\¬S b):Same T w w':=fun b hb=>h.block b (hT b hb).1 (hT b hb).2
inductive Rk where
 |nil|full|any
 deriving DecidableEq,Repr,Inhabited
inductive AV where
 |undef
 |int (k:IntKind) (n:Int)
 |bool (b:Bool)
 |str (s:ByteArray)
 |nilp
 |ptr (r off:Nat)
 |el (sz:Nat) (es:List (List AV)) (i off:Nat)
 |ow (t i off:Nat)
 |ro (sz:Nat) (es:List (List AV)) (k:Rk)
 |own (t off len:Nat)
 |agg (cs:List AV)
 |tup (cs:List AV)
 |fn (f:Fn) (first captured:List AV)
 |cpx (re im:Nat)
 |flt (b:Nat)
 |mp (r:Nat)
 |mro (ks:List Int) (xs:List AV)
 |when (c:Bool) (x:AV)
 |val (v:Value)
 deriving Inhabited
def AV.cell:AV->Bool
 | .int ..| .bool _ | .str _ | .nilp| .ptr ..| .el ..| .ow ..| .ro ..| .own ..| .fn ..| .cpx ..| .flt ..| .mp ..| .mro ..=>true
 | _=>false
inductive Blk' where
 |row (g c sz:Nat)
 |virt
abbrev Mp:=Nat->Option Blk'
def bP (M:Mp) (r:Nat):Option Nat:=match M r with|some (.row g _ _)=>some g| _=>none
def iY (sz:Nat) (es:List (List AV)):Prop:=∀x∈es,x.length=sz/\∀a∈x,a.cell=true
inductive VR (M:Mp) (F:Nat->Prop) (w:World):AV->Value->Prop
 |undef (v:Value):VR M F w .undef v
 |int (k:IntKind) (n:Int):VR M F w (.int k n) (.int k n)
 |bool (b:Bool):VR M F w (.bool b) (.bool b)
 |str (s:ByteArray):VR M F w (.str s) (.string s)
 |nilp:VR M F w .nilp (.pointer none)
 |ptr {r off g c sz:Nat} (h:M r=some (.row g c sz)):VR M F w (.ptr r off) (.pointer (some ⟨g,off,none⟩))
 |ow {t i off g c sz:Nat} (h:M t=some (.row g c sz)):VR M F w (.ow t i off) (.pointer (some ⟨g,i*sz+off,none⟩))
 |el {es:List (List AV)} {i off b o sz:Nat} {us:Nat->Nat->Value} (hb:F b) (hs:iY sz es)
   (hc:∀(i:Nat) (e:List AV) (j:Nat) (a:AV),es[i]? =some e->e[j]? =some a->w.cell? ⟨b,o+i*sz+j,none⟩=some (us i j)) (hr:∀(i:Nat) (e:List AV) (j:Nat) (a:AV),es[i]? =some e->e[j]? =some a->VR M F w a (us i j)):
   VR M F w (.el sz es i off) (.pointer (some ⟨b,o+i*sz+off,none⟩))
 |ro {es:List (List AV)} {k:Rk} {b o sz cap:Nat} {us:Nat->Nat->Value} (hb:F b) (hs:iY sz es)
   (hc:∀(i:Nat) (e:List AV) (j:Nat) (a:AV),es[i]? =some e->e[j]? =some a->w.cell? ⟨b,o+i*sz+j,none⟩=some (us i j)) (hr:∀(i:Nat) (e:List AV) (j:Nat) (a:AV),es[i]? =some e->e[j]? =some a->VR M F w a (us i j))
   (hle:es.length<=cap) (hm:cap<=maxLen) (hf:k=.full->cap=es.length) (hn:k≠ .nil):VR M F w (.ro sz es k) (.slice (some ⟨b,o,none⟩) es.length cap)
 |ro0 {sz:Nat} {k:Rk} {A:Option Addr} {cap:Nat} (hm:cap<=maxLen) (hA:A=none->cap=0) (hf:k=.full->cap=0) (hn:k=.nil->A=none):VR M F w (.ro sz [] k) (.slice A 0 cap)
 |own {t off len g c sz:Nat} (h:M t=some (.row g c sz)) (hle:off+len<=c) (hm:c<=maxLen):VR M F w (.own t off len) (.slice (some ⟨g,off*sz,none⟩) len (c-off))
 |own0 {t off:Nat} {A:Option Addr} :VR M F w (.own t off 0) (.slice A 0 0)
 |agg {cs:List AV} {vs:Array Value} (hl:vs.size=cs.length) (h:∀(j:Nat) (a:AV) (u:Value),cs[j]? =some a->vs[j]? =some u->VR M F w a u):VR M F w (.agg cs) (.agg vs)
 |tup {cs:List AV} {vs:Array Value} (hl:vs.size=cs.length) (h:∀(j:Nat) (a:AV) (u:Value),cs[j]? =some a->vs[j]? =some u->VR M F w a u):VR M F w (.tup cs) (.tuple vs)
 |fn {f:Fn} {xs cs:List AV} {us vs:Array Value} (h1:us.size=xs.length) (h2:∀(j:Nat) (a:AV) (u:Value),xs[j]? =some a->us[j]? =some u->VR M F w a u)
   (h3:vs.size=cs.length) (h4:∀(j:Nat) (a:AV) (u:Value),cs[j]? =some a->vs[j]? =some u->VR M F w a u):VR M F w (.fn f xs cs) (.func f us vs)
 |cpx (re im:Nat):VR M F w (.cpx re im) (.complex .f64 re im)
 |flt (b:Nat):VR M F w (.flt b) (.float .f64 b)
 |mp {r g c sz:Nat} (h:M r=some (.row g c sz)):VR M F w (.mp r) (.map (some g))
 |mro {ks:List Int} {xs:List AV} {b:Nat} {es:Array MapEntry} {clock:Nat} (hb:F b) (hc:w.heap[b]? =some (.map es clock)) (hl:es.size=ks.length) (hx:xs.length=ks.length)
   (hk:∀(i:Nat) (k:Int) (e:MapEntry),ks[i]? =some k->es[i]? =some e->e.key=.int .i64 k) (hr:∀(i:Nat) (x:AV) (e:MapEntry),xs[i]? =some x->es[i]? =some e->VR M F w x e.val):VR M F w (.mro ks xs) (.map (some b))
 |mro0:VR M F w (.mro [] []) (.map none)
 |when {c:Bool} {x:AV} {v:Value} (h:c=true->VR M F w x v) (h0:c=false->v=Go.undef):VR M F w (.when c x) v
 |val (v:Value):VR M F w (.val v) v
theorem VR.cell_one {M:Mp}{F:Nat->Prop}{w:World}{a:AV}{v:Value}(h:VR M F w a v)(hc:a.cell=true):v.oneCell'=true:=by
 cases h<;>first|rfl|(simp[AV.cell]at hc)
theorem VR.mono {M M':Mp}{F F':Nat->Prop}{w w':World}(hM:∀r b,M r=some b->M' r=some b)(hF:∀b,F b->F' b)(hS:Same F w w'){a:AV}{v:Value}(h:VR M F w a v):VR M' F' w' a v:=by
 induction h with
 |undef v=>exact .undef v
 |int k n=>exact .int k n
 |bool b=>exact .bool b
 |str s=>exact .str s
 |nilp=>exact .nilp
 |ptr h=>exact .ptr (hM _ _ h)
 |ow h=>exact .ow (hM _ _ h)
 |el hb hs hc _ ih=>exact .el (hF _ hb) hs (fun i e j a hi hj=>(hS.cell (p:=⟨_,_,none⟩) hb).trans (hc i e j a hi hj)) ih
 |ro hb hs hc _ hle hm hf hn ih=>exact .ro (hF _ hb) hs (fun i e j a hi hj=>(hS.cell (p:=⟨_,_,none⟩) hb).trans (hc i e j a hi hj)) ih hle hm hf hn
 |ro0 hm hA hf hn=>exact .ro0 hm hA hf hn
 |own h hle hm=>exact .own (hM _ _ h) hle hm
 |own0=>exact .own0
 |agg hl _ ih=>exact .agg hl ih
 |tup hl _ ih=>exact .tup hl ih
 |fn h1 _ h3 _ ih1 ih2=>exact .fn h1 ih1 h3 ih2
 |cpx re im=>exact .cpx re im
 |flt b=>exact .flt b
 |mp h=>exact .mp (hM _ _ h)
 |mro hb hc hl hx hk _ ih=>exact .mro (hF _ hb) ((hS _ hb).trans hc) hl hx hk ih
 |mro0=>exact .mro0
 |when _ h0 ih=>exact .when ih h0
 |val v=>exact .val v
def Cl (w:World) (g:Nat) (ty:TypeId) (vs:Array Value):Prop:=∃fz,w.heap[g]? =some (.cells vs ty fz)/\Fz ty vs.size fz
section
variable {w w' : World} {g : Nat} {ty : TypeId} {vs : Array Value}
theorem Cl.lt (h:Cl w g ty vs):g<w.heap.size:=by
 obtain⟨fz,h,_⟩:=h;exact(Array.getElem?_eq_some_iff.1 h).1
theorem Cl.same (h:Cl w g ty vs)(hs:w'.heap[g]? =w.heap[g]?):Cl w' g ty vs:=by
 obtain⟨fz,h,hz⟩:=h;exact⟨fz,hs.trans h,hz⟩
theorem Cl.cell (h:Cl w g ty vs)(i:Nat):w.cell? ⟨g,i,none⟩=vs[i]? :=by
 obtain⟨fz,h,_⟩:=h;simp[World.cell?,h]
theorem Cl.of (h:w.heap[g]? =some (.cells vs ty (0,0))):Cl w g ty vs:=⟨_,h,Fz.zero⟩
theorem Cl.set_ (h:Cl w g ty vs){cs:Array Value}(hs:cs.size=vs.size):Cl (w.setRow g cs) g ty cs:=by
 obtain⟨fz,h,hz⟩:=h;exact⟨fz,setRow_heap w g vs _ ty fz h,by rw[hs];exact hz⟩
theorem Cl.new (w:World)(ty:TypeId)(vs:Array Value):Cl (w.alloc (.cells vs ty)) w.heap.size ty vs:=.of (heap_alloc_new w _)
end
inductive Ent where
 |box (ty:TypeId) (cs:List AV)
 |arr (e:TypeId) (sz:Nat) (es:List (List AV))
 |map (ks:List Int) (xs:List AV)
def ER (M:Mp) (F:Nat->Prop) (w:World) (r:Nat):Ent->Prop
 | .box ty cs=>∃g vs,M r=some (.row g cs.length 1)/\Cl w g ty vs/\vs.size=cs.length/\(∀(j:Nat) (a:AV) (u:Value),cs[j]? =some a->vs[j]? =some u->VR M F w a u)
 | .arr e sz es=>0<sz/\iY sz es/\((M r=some .virt/\es=[])\/∃g c vs,M r=some (.row g c sz)/\Cl w g e vs/\vs.size=c*sz/\es.length<=c/\c<=maxLen/\
   (∀(i:Nat) (x:List AV) (j:Nat) (a:AV) (u:Value),es[i]? =some x->x[j]? =some a->vs[i*sz+j]? =some u->VR M F w a u))
 | .map ks xs=>∃g es clock,M r=some (.row g 0 0)/\w.heap[g]? =some (.map es clock)/\es.size=ks.length/\xs.length=ks.length/\
   (∀(i:Nat) (k:Int) (e:MapEntry),ks[i]? =some k->es[i]? =some e->e.key=.int .i64 k)/\(∀(i:Nat) (x:AV) (e:MapEntry),xs[i]? =some x->es[i]? =some e->VR M F w x e.val)
theorem ER.mono {M M':Mp}{F F':Nat->Prop}{w w':World}(hM:∀r b,M r=some b->M' r=some b)(hF:∀b,F b->F' b)(hS:Same F w w'){r:Nat}{x:Ent}
  (hb:∀g,bP M r=some g->w'.heap[g]? =w.heap[g]?) (h:ER M F w r x):ER M' F' w' r x:=by
 cases x with
 |box ty cs=>
  obtain⟨g,vs,h1,h2,h3,h4⟩:=h;exact⟨g,vs,hM _ _ h1,h2.same (hb g (by simp[bP,h1])),h3,fun j a u hj hu=>(h4 j a u hj hu).mono hM hF hS⟩
 |arr e sz es=>
  obtain⟨h0,h1,h2⟩:=h;refine⟨h0,h1, ?_⟩;rcases h2 with⟨h2,h3⟩|⟨g,c,vs,h2,h3,h4,h5,h6,h7⟩
  ·exact .inl ⟨hM _ _ h2,h3⟩
  ·exact .inr ⟨g,c,vs,hM _ _ h2,h3.same (hb g (by simp[bP,h2])),h4,h5,h6,fun i x j a u hi hj hu=>(h7 i x j a u hi hj hu).mono hM hF hS⟩
 |map ks xs=>
  obtain⟨g,es,ck,h1,h2,h3,h4,h5,h6⟩:=h;exact⟨g,es,ck,hM _ _ h1,(hb g (by simp[bP,h1])).trans h2,h3,h4,h5,fun i x e hi he=>(h6 i x e hi he).mono hM hF hS⟩
theorem ER.some {M:Mp}{F:Nat->Prop}{w:World}{r:Nat}{x:Ent}(h:ER M F w r x):M r≠none:=by
 cases x with
 |box ty cs=>obtain⟨g,vs,h1,_⟩:=h;simp[h1]
 |arr e sz es=>obtain⟨_,_,⟨h2,_⟩|⟨g,c,vs,h2,_⟩⟩:=h<;>simp[h2]
 |map ks xs=>obtain⟨g,es,ck,h1,_⟩:=h;simp[h1]
theorem ER.lt {M:Mp}{F:Nat->Prop}{w:World}{r:Nat}{x:Ent}(h:ER M F w r x){g:Nat}(hg:bP M r=.some g):g<w.heap.size:=by
 cases x with
 |box ty cs=>obtain⟨g',vs,h1,h2,_⟩:=h;simp[bP,h1]at hg;subst hg;exact h2.lt
 |arr e sz es=>
  obtain⟨_,_,⟨h2,_⟩|⟨g',c,vs,h2,h3,_⟩⟩:=h
  ·simp[bP,h2]at hg
  ·simp[bP,h2]at hg;subst hg;exact h3.lt
 |map ks xs=>obtain⟨g',es,ck,h1,h2,_⟩:=h;simp[bP,h1]at hg;subst hg;exact(Array.getElem?_eq_some_iff.1 h2).1
abbrev dI:=List (Nat×Ent)
def Bs (M:Mp) (Y:dI) (g:Nat):Prop:=∃p∈Y,bP M p.1=some g
structure SR (M:Mp) (F:Nat->Prop) (N:Nat) (w:World) (Y:dI):Prop where
 ent:∀p∈Y,ER M F w p.1 p.2
 inj:∀p∈Y,∀q∈Y,∀g,bP M p.1=some g->bP M q.1=some g->p.1=q.1
 nof:∀g,Bs M Y g->¬F g
 flt:∀b,F b->b<w.heap.size
 fresh:∀r,N<=r->M r=none
theorem SR.lt {M:Mp}{F:Nat->Prop}{N:Nat}{w:World}{Y:dI}(h:SR M F N w Y){g:Nat}(hg:Bs M Y g):g<w.heap.size:=by
 obtain⟨p,hp,hg⟩:=hg;exact(h.ent p hp).lt hg
theorem SR.name {M:Mp}{F:Nat->Prop}{N:Nat}{w:World}{Y:dI}(h:SR M F N w Y){p:Nat×Ent}(hp:p∈Y):p.1<N:=by
 rcases Br p.1 N with hlt|hge
 ·exact hlt
 ·exact absurd (h.fresh _ hge) (h.ent p hp).some
structure Ext (M:Mp) (F:Nat->Prop) (N:Nat) (w:World) (Y:dI) (M':Mp) (F':Nat->Prop) (N':Nat) (w':World) (Y':dI):Prop where
 mm:∀r b,M r=some b->M' r=some b
 ff:∀b,F b->F' b
 nn:N<=N'
 only:Only (Bs M Y) w w'
 old:∀g,Bs M' Y' g->g<w.heap.size->Bs M Y g
 fro:∀b,F' b->F b\/w.heap.size<=b\/Bs M Y b
 nam:∀p∈Y',p.1<N->∃q∈Y,q.1=p.1
section
variable {M M' M'' : Mp} {F F' F'' : Nat -> Prop} {N N' N'' : Nat} {w w' w'' : World} {Y Y' Y'' : dI}
theorem Ext.refl (M:Mp)(F:Nat->Prop)(N:Nat)(w:World)(Y:dI):Ext M F N w Y M F N w Y:=
 ⟨fun _ _ h=>h,fun _ h=>h,A3 _,Only.refl _ _,fun _ h _=>h,fun _ h=>.inl h,fun p hp _=>⟨p,hp,rfl⟩⟩
theorem Ext.trans (h:Ext M F N w Y M' F' N' w' Y')(k:Ext M' F' N' w' Y' M'' F'' N'' w'' Y''):Ext M F N w Y M'' F'' N'' w'' Y'' where
 mm r b hr:=k.mm r b (h.mm r b hr)
 ff b hb:=k.ff b (h.ff b hb)
 nn:=A4 h.nn k.nn
 only:=h.only.trans' k.only fun i hi hb=>h.old i hb hi
 old g hg hlt:=h.old g (k.old g hg (Nat.lt_of_lt_of_le hlt h.only.size)) hlt
 fro b hb:=by
  rcases k.fro b hb with hb|hb|hb
  ·exact h.fro b hb
  ·exact .inr (.inl (A4 h.only.size hb))
  ·rcases Br b w.heap.size with hlt|hge
   ·exact .inr (.inr (h.old b hb hlt))
   ·exact .inr (.inl hge)
 nam p hp hlt:=by
  obtain⟨q,hq,he⟩:=k.nam p hp (Nat.lt_of_lt_of_le hlt h.nn);obtain⟨q',hq',he'⟩:=h.nam q hq U;exact⟨q',hq',he'.trans he⟩
theorem Ext.same (h:Ext M F N w Y M' F' N' w' Y')(hs:SR M F N w Y):Same F w w':=h.only.same fun b hb=>⟨hs.flt b hb,fun hB=>hs.nof b hB hb⟩
theorem Ext.vr (h:Ext M F N w Y M' F' N' w' Y')(hs:SR M F N w Y){a:AV}{v:Value}(hv:VR M F w a v):VR M' F' w' a v:=hv.mono h.mm h.ff (h.same hs)
theorem Ext.sub (h:Ext M F N w Y M' F' N' w' Y')(hsub:∀p∈Y'',p∈Y'):Ext M F N w Y M' F' N' w' Y'':=
 { h with old:=fun g ⟨p,hp,hg⟩ hlt=>h.old g ⟨p,hsub p hp,hg⟩ hlt,nam:=fun p hp hlt=>h.nam p (hsub p hp) hlt }
theorem SR.sub (h:SR M F N w Y)(hsub:∀p∈Y',p∈Y):SR M F N w Y':=
 ⟨fun p hp=>h.ent p (hsub p hp),fun p hp q hq=>h.inj p (hsub p hp) q (hsub q hq),fun g ⟨p,hp,hg⟩=>h.nof g ⟨p,hsub p hp,hg⟩,h.flt,h.fresh⟩
end
abbrev Fr:=List (Nat×AV)
def dR:Fr->Nat->Option AV
 |[],_=>none
 |(j,x)::l,i=>if i=j then some x else dR l i
structure ASt where
 fr:Fr
 Y:dI
def ASt.put (s:ASt) (d:Nat) (x:AV):ASt:=⟨(d,x)::s.fr,s.Y⟩
structure Rel (M:Mp) (F:Nat->Prop) (N n:Nat) (s:ASt) (a:Act) (w:World):Prop where
 size:a.tmps.size=n
 defers:a.defers=[]
 fr:∀i x,dR s.fr i=some x->VR M F w x (a.tmps.getD i Go.undef)
 st:SR M F N w s.Y
section
variable {M M' : Mp} {F F' : Nat -> Prop} {N N' n : Nat} {w w' : World} {s s' : ASt} {a : Act}
theorem Rel.put (h:Rel M F N n s a w){d:Nat}{x:AV}{v:Value}(hd:d<n)(hv:VR M F w x v):Rel M F N n (s.put d x) (a.put (some d) v) w where
 size:=by simp[Act.put,h.size]
 defers:=h.defers
 fr i y hi:=by
  simp only[ASt.put,dR]at hi;by_cases hid:i=d
  ·subst hid;rw[Dc rfl]at hi;obtain rfl:=Option.some.inj hi;simp[Act.put,h.size,hd];exact hv
  ·rw[Db hid]at hi;have:=h.fr i y hi;have he:(a.put (some d) v).tmps.getD i Go.undef=a.tmps.getD i Go.undef:=by
    simp[Act.put,Array.getElem?_setIfInBounds_ne (fun e=>hid e.symm)]
   rw[he];exact this
 st:=h.st
theorem Rel.step (h:Rel M F N n s a w)(he:Ext M F N w s.Y M' F' N' w' s'.Y)(hs:SR M' F' N' w' s'.Y)(hf:s'.fr=s.fr):Rel M' F' N' n s' a w':=
 ⟨h.size,h.defers,fun i x hi=>he.vr h.st (h.fr i x (hf▸hi)),hs⟩
end
class Ty (P:Program) (t:TypeId) (d:outParam TypeDesc):Type where
 und:P.underlying t=some d
class Tz (P:Program) (t:TypeId) (sz bytes:outParam Nat) (z:outParam Value):Prop where
 inf:(P.info? t).map (fun i=>(i.zero,i.size,i.bytes))=some (some z,sz,bytes)
class Tf (P:Program) (t:TypeId) (pl:outParam (List (Nat×Nat))):Prop where
 pls:(match P.underlying t with|some (.struct fs)=>fs.toList.mapM (fun f=>(P.info? f.type).map fun i=>(f.offset,i.size))| _=>none)=some pl
theorem Tz.parts (P:Program)(t:TypeId){sz bytes:Nat}{z:Value} [h:Tz P t sz bytes z]:∃i,P.info? t=some i/\i.zero=some z/\i.size=sz/\i.bytes=bytes:=info_parts h.inf
def xC:Value->AV
 | .int k n=>.int k n
 | .bool b=>.bool b
 | .string s=>.str s
 | .pointer none=>.nilp
 | .slice none 0 0=>.ro 0 [] .nil
 | .complex .f64 re im=>.cpx re im
 | .float .f64 b=>.flt b
 | .map none=>.mro [] []
 |v=>.val v
theorem MA{M:Mp}{F:Nat->Prop}{w:World}:∀v,VR M F w (xC v) v:=by
 intro v;unfold xC;split
 ·exact .int _ _
 ·exact .bool _
 ·exact .str _
 ·exact .nilp
 ·exact .ro0 (by simp[maxLen]) (fun _=>rfl) (fun _=>rfl) (fun _=>rfl)
 ·exact .cpx _ _
 ·exact .flt _
 ·exact .mro0
 ·exact .val _
def cM:Value->AV
 | .int k n=>.int k n
 | .bool b=>.bool b
 | .string s=>.str s
 | .pointer none=>.nilp
 | .slice none 0 0=>.ro 0 [] .nil
 | .agg vs=>.agg (vs.toList.map xC)
 | .complex .f64 re im=>.cpx re im
 | .float .f64 b=>.flt b
 | .map none=>.mro [] []
 |v=>.val v
theorem AP{M:Mp}{F:Nat->Prop}{w:World}:∀v,VR M F w (cM v) v:=by
 intro v;unfold cM;split
 ·exact .int _ _
 ·exact .bool _
 ·exact .str _
 ·exact .nilp
 ·exact .ro0 (by simp[maxLen]) (fun _=>rfl) (fun _=>rfl) (fun _=>rfl)
 ·refine .agg X fun j a u hj hu=> ?_
  rw[Bg,Array.getElem?_toList,hu]at hj;obtain rfl:=Option.some.inj hj;exact MA u
 ·exact .cpx _ _
 ·exact .flt _
 ·exact .mro0
 ·exact .val _
def aev (s:ASt):Operand->Option AV
 | .tmp t=>dR s.fr t
 | .const v=>some (cM v)
 | .func f=>some (.fn (.func f) [] [])
 | .global _=>none
section
variable {M : Mp} {F : Nat -> Prop} {N n : Nat} {w : World} {s : ASt} {a : Act}
theorem Rel.aev (h:Rel M F N n s a w){x:Operand}{v:AV}(hx:aev s x=some v):VR M F w v (a.eval x):=by
 cases x with
 |tmp t=>exact h.fr t v hx
 |const v'=>
  simp only[Go.Proofs.YtjpdadobblffmaaGreat.aev,Option.some.injEq]at hx;subst hx;exact AP v'
 |func f=>
  simp only[Go.Proofs.YtjpdadobblffmaaGreat.aev,Option.some.injEq]at hx;subst hx;exact .fn rfl (fun j a u h=>by simp at h) rfl (fun j a u h=>by simp at h)
 |global g=>simp[Go.Proofs.YtjpdadobblffmaaGreat.aev]at hx
inductive Ev (s:ASt) (c:Bool) (x:Operand) (v:AV):Prop
 |here (h:Go.Proofs.YtjpdadobblffmaaGreat.aev s x=some v):Ev s c x v
 |when {c':Bool} (h:Go.Proofs.YtjpdadobblffmaaGreat.aev s x=some (.when c' v)) (hc:c=true->c'=true):Ev s c x v
theorem Ev.vr (h:Rel M F N n s a w){c:Bool}(hc:c=true){x:Operand}{v:AV}(hx:Ev s c x v):VR M F w v (a.eval x):=by
 cases hx with
 |here hx=>exact h.aev hx
 |when hx hc'=>
  have:=h.aev hx;cases this with
  |when h h0=>exact h (hc' hc)
theorem Ev.int (h:Rel M F N n s a w){c:Bool}(hc:c=true){x:Operand}{k:IntKind}{m:Int}(hx:Ev s c x (.int k m)):a.eval x=.int k m:=by
 have:=hx.vr h hc;generalize a.eval x=u at this;cases this;rfl
theorem Ev.bool (h:Rel M F N n s a w){c:Bool}(hc:c=true){x:Operand}{b:Bool}(hx:Ev s c x (.bool b)):a.eval x=.bool b:=by
 have:=hx.vr h hc;generalize a.eval x=u at this;cases this;rfl
theorem Ev.str (h:Rel M F N n s a w){c:Bool}(hc:c=true){x:Operand}{b:ByteArray}(hx:Ev s c x (.str b)):a.eval x=.string b:=by
 have:=hx.vr h hc;generalize a.eval x=u at this;cases this;rfl
end
def Lop (P:Program) (op:Op) (ty:TypeId) (s:ASt) (c:Bool) (v:AV) (rs:List Nat):Prop:=
 (∀r∈rs,∃p∈s.Y,p.1=r)/\∀(M:Mp) (F:Nat->Prop) (N n:Nat) (a:Act) (w:World),Rel M F N n s a w->c=true->∃u,VR M F w v u/\
  ∀(w':World) (o:Oper),o.op=op->o.type=ty->(∀g,(F g\/∃r∈rs,bP M r=some g)->w'.heap[g]? =w.heap[g]?)->(execOp a.eval o).run P w'=.ok (.value u) w'
section
variable {P : Program} {ty : TypeId} {s : ASt} {c : Bool}
theorem Lop.pure_ {op:Op}{v:AV}(h:∀(M:Mp) (F:Nat->Prop) (N n:Nat) (a:Act) (w:World),Rel M F N n s a w->c=true->∃u,VR M F w v u/\
  ∀(w':World) (o:Oper),o.op=op->o.type=ty->(execOp a.eval o).run P w'=.ok (.value u) w'):Lop P op ty s c v []:=
 ⟨fun r hr=>by simp at hr,fun M F N n a w hr hc=>by
  obtain⟨u,h1,h2⟩:=h M F N n a w hr hc;exact⟨u,h1,fun w' o ho ht _=>h2 w' o ho ht⟩⟩
theorem aF{x:Operand}{v:AV}(h:Ev s c x v):Lop P (.move x) ty s c v []:=
 Lop.pure_ fun M F N n a w hr hc=>⟨_,h.vr hr hc,fun w' o ho _=>by simp[execOp,ho]⟩
theorem aT{x:Operand}{v:AV}(h:Ev s c x v):Lop P (.assign x) ty s c v []:=
 Lop.pure_ fun M F N n a w hr hc=>⟨_,h.vr hr hc,fun w' o ho _=>by simp[execOp,ho]⟩
theorem fL{x y z:Operand}{b b1 b2:Bool}(h:Ev s c x (.bool b))(h1:Ev s (c&&b) y (.bool b1))(h2:Ev s (c&& !b) z (.bool b2)):Lop P (.pick x y z) ty s c (.bool (if b then b1 else b2)) []:=
 Lop.pure_ fun M F N n a w hr hc=>by
  refine⟨_,.bool _,fun w' o ho _=> ?_⟩;have e:=h.bool hr hc;cases b with
  |true=>
   have e1:=h1.bool hr (by simp[hc]);simp[execOp,ho,e,e1,asBool]
  |false=>
   have e2:=h2.bool hr (by simp[hc]);simp[execOp,ho,e,e2,asBool]
theorem dS{x:Operand}{t:TypeId}{b:Bool}(h:Ev s c x (.bool b)):Lop P (.unOp .not t x) ty s c (.bool (!b)) []:=
 Lop.pure_ fun M F N n a w hr hc=>⟨_,.bool _,fun w' o ho _=>by simp[execOp,ho,h.bool hr hc,Op.unary]⟩
section ints
variable {x y : Operand} {t t' : TypeId} {k k' : IntKind} {m m' : Int}
theorem pA(h:Ev s c x (.int k m))(h':Ev s c y (.int k m')):Lop P (.binOp .add t x y t') ty s c (.int k (k.wrap (m+m'))) []:=
 Lop.pure_ fun M F N n a w hr hc=>⟨_,.int _ _,fun w' o ho _=>by simp[execOp,ho,h.int hr hc,h'.int hr hc,binOp,Op.intArith,eqGuard]⟩
theorem GX(h:Ev s c x (.int k m))(h':Ev s c y (.int k m')):Lop P (.binOp .sub t x y t') ty s c (.int k (k.wrap (m-m'))) []:=
 Lop.pure_ fun M F N n a w hr hc=>⟨_,.int _ _,fun w' o ho _=>by simp[execOp,ho,h.int hr hc,h'.int hr hc,binOp,Op.intArith,eqGuard]⟩
theorem lP(h:Ev s c x (.int k m))(h':Ev s c y (.int k m')):Lop P (.binOp .mul t x y t') ty s c (.int k (k.wrap (m*m'))) []:=
 Lop.pure_ fun M F N n a w hr hc=>⟨_,.int _ _,fun w' o ho _=>by simp[execOp,ho,h.int hr hc,h'.int hr hc,binOp,Op.intArith,eqGuard]⟩
theorem aFN(h:Ev s c x (.int k m))(h':Ev s c y (.int k m'))(h0:c=true->m'≠0):Lop P (.binOp .quo t x y t') ty s c (.int k (k.wrap (m.tdiv m'))) []:=
 Lop.pure_ fun M F N n a w hr hc=>⟨_,.int _ _,fun w' o ho _=>by simp[execOp,ho,h.int hr hc,h'.int hr hc,binOp,Op.intDiv,eqGuard,h0 hc]⟩
theorem aFO(h:Ev s c x (.int k m))(h':Ev s c y (.int k m'))(h0:c=true->m'≠0):Lop P (.binOp .rem t x y t') ty s c (.int k (m.tmod m')) []:=
 Lop.pure_ fun M F N n a w hr hc=>⟨_,.int _ _,fun w' o ho _=>by simp[execOp,ho,h.int hr hc,h'.int hr hc,binOp,Op.intDiv,eqGuard,h0 hc]⟩
theorem lQ(h:Ev s c x (.int k m))(h':Ev s c y (.int k m')):Lop P (.binOp .and t x y t') ty s c (.int k (k.wrap (A9 k.bits m&&&A9 k.bits m').toNat)) []:=
 Lop.pure_ fun M F N n a w hr hc=>⟨_,.int _ _,fun w' o ho _=>by simp[execOp,ho,h.int hr hc,h'.int hr hc,binOp,Op.intBits,eqGuard]⟩
theorem OI(h:Ev s c x (.int k m))(h':Ev s c y (.int k m')):Lop P (.binOp .or t x y t') ty s c (.int k (k.wrap (A9 k.bits m|||A9 k.bits m').toNat)) []:=
 Lop.pure_ fun M F N n a w hr hc=>⟨_,.int _ _,fun w' o ho _=>by simp[execOp,ho,h.int hr hc,h'.int hr hc,binOp,Op.intBits,eqGuard]⟩
theorem XK(h:Ev s c x (.int k m))(h':Ev s c y (.int k m')):Lop P (.binOp .andNot t x y t') ty s c (.int k (k.wrap (A9 k.bits m&&&~~~A9 k.bits m').toNat)) []:=
 Lop.pure_ fun M F N n a w hr hc=>⟨_,.int _ _,fun w' o ho _=>by simp[execOp,ho,h.int hr hc,h'.int hr hc,binOp,Op.intBits,eqGuard]⟩
theorem aFP(h:Ev s c x (.int k m))(h':Ev s c y (.int k' m'))(h0:c=true->0<=m'):Lop P (.binOp .shl t x y t') ty s c (.int k (k.wrap (m*2^min m'.toNat k.bits))) []:=
 Lop.pure_ fun M F N n a w hr hc=>⟨_,.int _ _,fun w' o ho _=>by
  have:=h0 hc;simp[execOp,ho,h.int hr hc,h'.int hr hc,binOp,Op.shift,eqGuard,show¬m'<0 by omega]⟩
theorem OJ(h:Ev s c x (.int k m))(h':Ev s c y (.int k' m'))(h0:c=true->0<=m'):Lop P (.binOp .shr t x y t') ty s c (.int k (m.fdiv (2^min m'.toNat k.bits))) []:=
 Lop.pure_ fun M F N n a w hr hc=>⟨_,.int _ _,fun w' o ho _=>by
  have:=h0 hc;simp[execOp,ho,h.int hr hc,h'.int hr hc,binOp,Op.shift,eqGuard,show¬m'<0 by omega]⟩
theorem eJ(h:Ev s c x (.int k m))(h':Ev s c y (.int k m')):Lop P (.binOp .eql t x y t') ty s c (.bool (m==m')) []:=
 Lop.pure_ fun M F N n a w hr hc=>⟨_,.bool _,fun w' o ho _=>by simp[execOp,ho,h.int hr hc,h'.int hr hc,binOp,Op.intCmp,eqGuard]⟩
theorem dM(h:Ev s c x (.int k m))(h':Ev s c y (.int k m')):Lop P (.binOp .neq t x y t') ty s c (.bool (m !=m')) []:=
 Lop.pure_ fun M F N n a w hr hc=>⟨_,.bool _,fun w' o ho _=>by simp[execOp,ho,h.int hr hc,h'.int hr hc,binOp,Op.intCmp,eqGuard]⟩
theorem iI(h:Ev s c x (.int k m))(h':Ev s c y (.int k m')):Lop P (.binOp .lss t x y t') ty s c (.bool (decide (m<m'))) []:=
 Lop.pure_ fun M F N n a w hr hc=>⟨_,.bool _,fun w' o ho _=>by simp[execOp,ho,h.int hr hc,h'.int hr hc,binOp,Op.intCmp,eqGuard]⟩
theorem nU(h:Ev s c x (.int k m))(h':Ev s c y (.int k m')):Lop P (.binOp .leq t x y t') ty s c (.bool (decide (m<=m'))) []:=
 Lop.pure_ fun M F N n a w hr hc=>⟨_,.bool _,fun w' o ho _=>by simp[execOp,ho,h.int hr hc,h'.int hr hc,binOp,Op.intCmp,eqGuard]⟩
theorem iJ(h:Ev s c x (.int k m))(h':Ev s c y (.int k m')):Lop P (.binOp .gtr t x y t') ty s c (.bool (decide (m'<m))) []:=
 Lop.pure_ fun M F N n a w hr hc=>⟨_,.bool _,fun w' o ho _=>by simp[execOp,ho,h.int hr hc,h'.int hr hc,binOp,Op.intCmp,eqGuard]⟩
theorem dH(h:Ev s c x (.int k m))(h':Ev s c y (.int k m')):Lop P (.binOp .geq t x y t') ty s c (.bool (decide (m'<=m))) []:=
 Lop.pure_ fun M F N n a w hr hc=>⟨_,.bool _,fun w' o ho _=>by simp[execOp,ho,h.int hr hc,h'.int hr hc,binOp,Op.intCmp,eqGuard]⟩
theorem xD [Ty P t (.int k)] [Ty P t' (.int k')] (h:Ev s c x (.int k m)):Lop P (.convert t t' x) ty s c (.int k' (k'.wrap m)) []:=
 Lop.pure_ fun M F N n a w hr hc=>⟨_,.int _ _,fun w' o ho _=>by
  simp[execOp,ho,h.int hr hc,convert,run_underlying (Ty.und (P:=P) (t:=t)),run_underlying (Ty.und (P:=P) (t:=t')),Conv.intToInt]⟩
end ints
end
def wO:TypeDesc->Bool
 | .struct _ | .array _ _=>true
 | _=>false
def gM:dI->Nat->Option Ent
 |[],_=>none
 |(j,x)::l,i=>if i=j then some x else gM l i
theorem bV:∀ {Y:dI} {r:Nat} {x:Ent},gM Y r=some x->(r,x)∈Y
 |[],_,_,h=>by simp[gM]at h
 |(j,y)::l,i,x,h=>by
  simp only[gM]at h;split at h
  ·next e=>subst e;obtain rfl:=Option.some.inj h;simp
  ·exact An _ (bV h)
theorem kM{r:Nat}{x:Ent}{Y:dI}:gM ((r,x)::Y) r=some x:=by simp[gM]
theorem kO{r q:Nat}{x y:Ent}{Y:dI}(h:r≠q)(k:gM Y r=some x):gM ((q,y)::Y) r=some x:=by simp[gM,h,k]
def eD (ks:List Nat) (Y:dI):dI:=Y.filter fun p=> !ks.contains p.1
theorem lF{Y:dI}:eD [] Y=Y:=by simp[eD]
theorem nG{ks:List Nat}:eD ks []=[]:=rfl
theorem pK{ks:List Nat}{q:Nat}{y:Ent}{Y:dI}(h:q∈ks):eD ks ((q,y)::Y)=eD ks Y:=by simp[eD,h]
theorem nH{ks:List Nat}{q:Nat}{y:Ent}{Y:dI}(h:q∉ks):eD ks ((q,y)::Y)=(q,y)::eD ks Y:=by simp[eD,h]
theorem fV{ks:List Nat}{Y:dI}{p:Nat×Ent}(h:p∈eD ks Y):p∈Y/\p.1∉ks:=by simpa[eD]using h
def Fresh (r:Nat) (Y:dI):Prop:=∀q∈Y,q.1≠r
theorem Fresh.nil {r:Nat}:Fresh r []:=fun q hq=>by simp at hq
def Nq (a b:Nat):Prop:=a≠b
theorem Nq.en {a b:Nat}(h:Nq b a):a≠b:=fun e=>h e.symm
theorem aN{r q:Nat}{y:Ent}{Y:dI}:Fresh r ((q,y)::Y)=(Nq q r/\Fresh r Y):=by
 simp[Fresh,Nq]
theorem aQ{r:Nat}:Fresh r []=True:=by simp[Fresh]
section
variable {P : Program} {w : World}
theorem nV{t:TypeId}{d:TypeDesc} [h:Ty P t d] (hd:wO d=false){p:Addr}{u:Value}(hu:w.cell? p=some u):(Instr.loadAt t (.pointer (some p))).run P w=.ok u w:=by
 have hd':(isAgg t).run P w=.ok false w:=by
  simp only[isAgg,Sem.run_bind,run_underlying h.und,Result.andThen_ok];cases d<;>simp_all [wO]
 simp[Instr.loadAt,Instr.sureAddr,loadVar,hd',hu]
theorem nW{t:TypeId}{d:TypeDesc} [h:Ty P t d] {sz by_:Nat}{z:Value} [h':Tz P t sz by_ z] (hd:wO d=true){p:Addr}{cs:List Value}(hl:cs.length=sz)(hu:∀j v,cs[j]? =some v->w.cell? (p.add j)=some v):
  (Instr.loadAt t (.pointer (some p))).run P w=.ok (.agg cs.toArray) w:=by
 have hd':(isAgg t).run P w=.ok true w:=by
  simp only[isAgg,Sem.run_bind,run_underlying h.und,Result.andThen_ok];cases d<;>simp_all [wO]
 obtain⟨i,hi,hz,hs,_⟩:=Tz.parts P t;simp[Instr.loadAt,Instr.sureAddr,loadVar,hd',sizeOf,typeInfo,hi,hs,<-hl,run_loadCells_list (P:=P) (w:=w) p cs hu]
theorem xE{t:TypeId}{fs:Array Field} [h:Ty P t (.struct fs)] {i:Nat}{f:Field}(hf:fs[i]? =some f){sz by_:Nat}{z:Value} [h':Tz P f.type sz by_ z] (h0:sz≠0)(p:Addr):
  (Instr.fieldAt t (.pointer (some p)) i).run P w=.ok (.pointer (some (p.add f.offset))) w:=by
 obtain⟨j,hi,hz,hs,_⟩:=Tz.parts P f.type;simp[Instr.fieldAt,Instr.sureAddr,fieldPlace,run_underlying h.und,hf,sizeOf,typeInfo,hi,hs,h0]
theorem xF{t e:TypeId} [h:Ty P t (.slice e)] {sz by_:Nat}{z:Value} [h':Tz P e sz by_ z] {p:Addr}{len cap:Nat}{k:IntKind}{m:Int}(h1:0<=m)(h2:m<len):
  (Instr.indexAt t (.slice (some p) len cap) (.int k m)).run P w=.ok (.pointer (some (p.add (m.toNat*sz)))) w:=by
 obtain⟨j,hi,hz,hs,_⟩:=Tz.parts P e;simp[Instr.indexAt,asIntOf,run_underlying h.und,sizeOf,typeInfo,hi,hs,h1,h2]
end
section
variable {P : Program} {ty : TypeId} {s : ASt} {c : Bool} {t t' : TypeId} {x y : Operand}
theorem oQ{ρ:Operand->Value}{o:Oper}{w:World}{op:BinOp}{u:Value}(ho:o.op=.binOp op t x y t')(hg:(eqGuard op t x y (ρ x) (ρ y)).run P w=.ok () w)(h:(binOp op t (ρ x) (ρ y)).run P w=.ok u w):(execOp ρ o).run P w=.ok (.value u) w:=by
 simp only[execOp,ho,Sem.run_bind,hg,Result.andThen_ok,h,Sem.run_pure]
theorem HT{e:TypeId} [h:Ty P t (.pointer e)]:P.underlying t=some (.pointer (P.pointee t)):=by
 have:=h.und;simp[Program.pointee,this]
theorem RV [Ty P t .bool] {b b':Bool}(h:Ev s c x (.bool b))(h':Ev s c y (.bool b')):Lop P (.binOp .eql t x y t') ty s c (.bool (b==b')) []:=
 Lop.pure_ fun M F N n a w hr hc=>⟨_,.bool _,fun w' o ho _=>oQ ho (by rw[h.bool hr hc,eqGuard_at_bool];rfl) (by rw[h.bool hr hc,h'.bool hr hc];exact run_eql_bool _ _ _ _ (Ty.und (P:=P) (t:=t)))⟩
theorem rD [Ty P t .bool] {b b':Bool}(h:Ev s c x (.bool b))(h':Ev s c y (.bool b')):Lop P (.binOp .neq t x y t') ty s c (.bool (!(b==b'))) []:=
 Lop.pure_ fun M F N n a w hr hc=>⟨_,.bool _,fun w' o ho _=>oQ ho (by rw[h.bool hr hc,eqGuard_at_bool];rfl) (by rw[h.bool hr hc,h'.bool hr hc];exact run_neq_bool _ _ _ _ (Ty.und (P:=P) (t:=t)))⟩
theorem rE{b b':ByteArray}(h:Ev s c x (.str b))(h':Ev s c y (.str b')):Lop P (.binOp .eql t x y t') ty s c (.bool (b.toList==b'.toList)) []:=
 Lop.pure_ fun M F N n a w hr hc=>⟨_,.bool _,fun w' o ho _=>by
  simp[execOp,ho,h.str hr hc,h'.str hr hc,binOp,Op.stringOp,eqGuard]⟩
theorem rF{b b':ByteArray}(h:Ev s c x (.str b))(h':Ev s c y (.str b')):Lop P (.binOp .neq t x y t') ty s c (.bool (!(b.toList==b'.toList))) []:=
 Lop.pure_ fun M F N n a w hr hc=>⟨_,.bool _,fun w' o ho _=>by
  simp[execOp,ho,h.str hr hc,h'.str hr hc,binOp,Op.stringOp,eqGuard]⟩
theorem dY{e:TypeId} [Ty P t (.pointer e)] {v:AV}{b:Bool}(h:Ev s c x v)(h':Ev s c y .nilp)(hv:v=.nilp/\b=true\/(∃r o,v=.ptr r o)/\b=false\/(∃r i o,v=.ow r i o)/\b=false\/(∃z es i o,v=.el z es i o)/\b=false):
  Lop P (.binOp .eql t x y t') ty s c (.bool b) []:=
 Lop.pure_ fun M F N n a w hr hc=>⟨_,.bool _,fun w' o ho _=>by
  have e1:=h.vr hr hc;have e2:=h'.vr hr hc;generalize hu1:a.eval x=u1 at e1;generalize hu2:a.eval y=u2 at e2;cases e2
  have key:∀p:Option Addr,u1=.pointer p->(execOp a.eval o).run P w'=.ok (.value (.bool p.isNone)) w':=fun p hp=>
   oQ ho (by rw[hu1,hp,eqGuard_at_pointer];rfl) (by rw[hu1,hp,hu2];exact run_eql_pointer_nil _ _ _ (HT (P:=P) (t:=t)))
  rcases hv with⟨rfl,rfl⟩|⟨⟨r,o',rfl⟩,rfl⟩|⟨⟨r,i,o',rfl⟩,rfl⟩|⟨⟨z,es,i,o',rfl⟩,rfl⟩<;>cases e1<;>exact key _ rfl⟩
theorem rG{e:TypeId} [Ty P t (.pointer e)] {v:AV}{b:Bool}(h:Ev s c x v)(h':Ev s c y .nilp)(hv:v=.nilp/\b=false\/(∃r o,v=.ptr r o)/\b=true\/(∃r i o,v=.ow r i o)/\b=true\/(∃z es i o,v=.el z es i o)/\b=true):
  Lop P (.binOp .neq t x y t') ty s c (.bool b) []:=
 Lop.pure_ fun M F N n a w hr hc=>⟨_,.bool _,fun w' o ho _=>by
  have e1:=h.vr hr hc;have e2:=h'.vr hr hc;generalize hu1:a.eval x=u1 at e1;generalize hu2:a.eval y=u2 at e2;cases e2
  have key:∀p:Option Addr,u1=.pointer p->(execOp a.eval o).run P w'=.ok (.value (.bool (!p.isNone))) w':=fun p hp=>
   oQ ho (by rw[hu1,hp,eqGuard_at_pointer];rfl) (by rw[hu1,hp,hu2];exact run_neq_pointer_nil _ _ _ (HT (P:=P) (t:=t)))
  rcases hv with⟨rfl,rfl⟩|⟨⟨r,o',rfl⟩,rfl⟩|⟨⟨r,i,o',rfl⟩,rfl⟩|⟨⟨z,es,i,o',rfl⟩,rfl⟩<;>cases e1<;>exact key _ rfl⟩
theorem bI{v:AV}(h:Ev s c x v)(hv:(∃r o,v=.ptr r o)\/(∃r i o,v=.ow r i o)\/∃z es i o,v=.el z es i o):Lop P (.nilCheck x) ty s c v []:=
 Lop.pure_ fun M F N n a w hr hc=>by
  have e1:=h.vr hr hc;refine⟨_,e1,fun w' o ho _=> ?_⟩;generalize hu1:a.eval x=u1 at e1;rcases hv with⟨r,o',rfl⟩|⟨r,i,o',rfl⟩|⟨z,es,i,o',rfl⟩<;>cases e1<;>simp[execOp,ho,hu1]
section
variable {i nfoff : Nat}
theorem aP{fs:Array Field} [Ty P t (.struct fs)] {nm tg pp:String}{ft off:Nat}{em:Bool}{bo:Nat}{sz by_:Nat}{z:Value}{r o1:Nat}(h:Ev s c x (.ptr r o1))(hf:fs[i]? =some ⟨nm,ft,off,em,tg,pp,bo⟩)
  [Tz P ft sz by_ z] (h0:sz≠0):Lop P (.fieldAddr t x i) ty s c (.ptr r (o1+off)) []:=
 Lop.pure_ fun M F N n a w hr hc=>by
  have e1:=h.vr hr hc;generalize hu:a.eval x=u at e1;cases e1 with
  |ptr hM=>
   refine⟨_,.ptr hM,fun w' o ho _=> ?_⟩;have:=xE (P:=P) (w:=w') (t:=t) hf (f:=⟨nm,ft,off,em,tg,pp,bo⟩) (h':=(inferInstance:Tz P ft sz by_ z)) h0;simp[execOp,ho,hu,this,Addr.add_lit]
theorem jW{fs:Array Field} [Ty P t (.struct fs)] {nm tg pp:String}{ft off:Nat}{em:Bool}{bo:Nat}{sz by_:Nat}{z:Value}{r k o1:Nat}(h:Ev s c x (.ow r k o1))(hf:fs[i]? =some ⟨nm,ft,off,em,tg,pp,bo⟩)
  [Tz P ft sz by_ z] (h0:sz≠0):Lop P (.fieldAddr t x i) ty s c (.ow r k (o1+off)) []:=
 Lop.pure_ fun M F N n a w hr hc=>by
  have e1:=h.vr hr hc;generalize hu:a.eval x=u at e1;cases e1 with
  |@ow _ _ _ g cc sz' hM=>
   refine⟨_,.ow hM,fun w' o ho _=> ?_⟩;have:=xE (P:=P) (w:=w') (t:=t) hf (f:=⟨nm,ft,off,em,tg,pp,bo⟩) (h':=(inferInstance:Tz P ft sz by_ z)) h0;simp[execOp,ho,hu,this,Addr.add_lit,By]
theorem hX{fs:Array Field} [Ty P t (.struct fs)] {nm tg pp:String}{ft off:Nat}{em:Bool}{bo:Nat}{sz by_:Nat}{z:Value}{sz':Nat}{es:List (List AV)}{k o1:Nat}(h:Ev s c x (.el sz' es k o1))(hf:fs[i]? =some ⟨nm,ft,off,em,tg,pp,bo⟩)
  [Tz P ft sz by_ z] (h0:sz≠0):Lop P (.fieldAddr t x i) ty s c (.el sz' es k (o1+off)) []:=
 Lop.pure_ fun M F N n a w hr hc=>by
  have e1:=h.vr hr hc;generalize hu:a.eval x=u at e1;cases e1 with
  |el hb hs hcl hrr=>
   refine⟨_,.el hb hs hcl hrr,fun w' o ho _=> ?_⟩;have:=xE (P:=P) (w:=w') (t:=t) hf (f:=⟨nm,ft,off,em,tg,pp,bo⟩) (h':=(inferInstance:Tz P ft sz by_ z)) h0;simp[execOp,ho,hu,this,Addr.add_lit,By]
end
theorem eG{e:TypeId} [Ty P t (.slice e)] {sz by_:Nat}{z:Value} [Tz P e sz by_ z] {es:List (List AV)}{k:Rk}{kk:IntKind}{m:Int}(h:Ev s c x (.ro sz es k))(h':Ev s c y (.int kk m))
  (hm:c=true->0<=m/\m<es.length):Lop P (.indexAddr t x y) ty s c (.el sz es m.toNat 0) []:=
 Lop.pure_ fun M F N n a w hr hc=>by
  have e1:=h.vr hr hc;have e2:=h'.int hr hc;obtain⟨h1,h2⟩:=hm hc;generalize hu:a.eval x=u at e1;cases e1 with
  |ro hb hs hcl hrr hle hmm hf hn=>
   refine⟨_,.el hb hs hcl hrr,fun w' o ho _=> ?_⟩;simp[execOp,ho,hu,e2,xF (P:=P) (t:=t) h1 h2,Addr.add_lit]
  |ro0 hm hA hf hn=>simp at h2;omega
theorem KW{e:TypeId} [Ty P t (.slice e)] {sz by_:Nat}{z:Value} [Tz P e sz by_ z] {r off len:Nat}{et:TypeId}{es:List (List AV)}{kk:IntKind}{m:Int}(h:Ev s c x (.own r off len))(hg:gM s.Y r=some (.arr et sz es))(h':Ev s c y (.int kk m))
  (hm:c=true->0<=m/\m<len):Lop P (.indexAddr t x y) ty s c (.ow r (off+m.toNat) 0) []:=
 Lop.pure_ fun M F N n a w hr hc=>by
  have e1:=h.vr hr hc;have e2:=h'.int hr hc;obtain⟨h1,h2⟩:=hm hc;generalize hu:a.eval x=u at e1;obtain⟨_,_,h3⟩:=hr.st.ent _ (bV hg);cases e1 with
  |own hM hle hmm=>
   rcases h3 with⟨hv,_⟩|⟨g,cc,vs,hM',_⟩
   ·rw[hM]at hv;cases hv
   ·have hsz:=hM.symm.trans hM';simp only[Option.some.injEq,Blk'.row.injEq]at hsz;obtain⟨rfl,rfl,rfl⟩:=hsz;refine⟨_,.ow hM,fun w' o ho _=> ?_⟩;simp[execOp,ho,hu,e2,xF (P:=P) (t:=t) h1 h2,Addr.add_lit,Nat.add_mul]
  |own0=>simp at h2;omega
theorem bE{d:TypeDesc} [Ty P t d] {r off:Nat}{bt:TypeId}{cs:List AV}{v:AV}(h:Ev s c x (.ptr r off))(hd:wO d=false)(hg:gM s.Y r=some (.box bt cs))(hv:c=true->cs[off]? =some v):Lop P (.load t x) ty s c v [r]:=by
 refine⟨fun q hq=>⟨_,bV hg,(A1.1 hq).symm⟩, ?_⟩;intro M F N n a w hr hc;have e1:=h.vr hr hc;have hv:=hv hc;generalize hu:a.eval x=u at e1;obtain⟨g,vs,hM',hcl,hsz,hvr⟩:=hr.st.ent _ (bV hg);cases e1 with
 |ptr hM=>
  have hg':=hM'.symm.trans hM;simp only[Option.some.injEq,Blk'.row.injEq]at hg';obtain⟨q1,q2,q3⟩:=hg';subst q1;have hlt:off<vs.size:=by rw[hsz];exact(Ai.1 hv).1
  refine⟨vs[off],hvr off v _ hv (A7 hlt),fun w' o ho _ hw=> ?_⟩;have hc':=(hcl.same (hw _ (.inr ⟨r,X,by simp[bP,hM]⟩))).cell off;rw[A7 hlt]at hc';simp[execOp,ho,hu,nV (P:=P) (t:=t) hd hc']
theorem gC{d:TypeDesc} [Ty P t d] {sz by_:Nat}{z:Value} [Tz P t sz by_ z] {r off:Nat}{bt:TypeId}{cs:List AV}(h:Ev s c x (.ptr r off))(hd:wO d=true)(hg:gM s.Y r=some (.box bt cs))(hv:c=true->off+sz<=cs.length):
  Lop P (.load t x) ty s c (.agg ((cs.drop off).take sz)) [r]:=by
 refine⟨fun q hq=>⟨_,bV hg,(A1.1 hq).symm⟩, ?_⟩;intro M F N n a w hr hc;have e1:=h.vr hr hc;have hv:=hv hc;generalize hu:a.eval x=u at e1;obtain⟨g,vs,hM',hcl,hsz,hvr⟩:=hr.st.ent _ (bV hg);cases e1 with
 |ptr hM=>
  have hg':=hM'.symm.trans hM;simp only[Option.some.injEq,Blk'.row.injEq]at hg';obtain⟨q1,q2,q3⟩:=hg';subst q1;refine⟨.agg ((vs.toList.drop off).take sz).toArray,.agg (by simp[hsz]) (fun j a u hj hu=> ?_),fun w' o ho _ hw=> ?_⟩
  ·have hjl:j<sz:=by
    have:=(Ai.1 hj).1;simp at this;omega
   rw[A2 hjl,Bb]at hj;simp only[List.getElem?_toArray]at hu;rw[A2 hjl,Bb]at hu;exact hvr _ a u hj (by simpa using hu)
  ·have hcl':=hcl.same (hw _ (.inr ⟨r,X,by simp[bP,hM]⟩));have:=nW (P:=P) (w:=w') (t:=t) hd (p:=⟨g,off,none⟩) (cs:=(vs.toList.drop off).take sz) (by simp[hsz];omega) (fun j v hj=>by
    have hjl:j<sz:=by
     have:=(Ai.1 hj).1;simp at this;omega
    rw[A2 hjl,Bb]at hj;rw[Addr.add_lit,hcl'.cell];simpa using hj)
   simp[execOp,ho,hu,this]
theorem dJ{d:TypeDesc} [Ty P t d] {sz':Nat}{es:List (List AV)}{i off:Nat}{e:List AV}{v:AV}(h:Ev s c x (.el sz' es i off))(hd:wO d=false)(he:c=true->es[i]? =some e)(hv:c=true->e[off]? =some v):Lop P (.load t x) ty s c v []:=by
 refine⟨fun q hq=>by simp at hq, ?_⟩;intro M F N n a w hr hc;have e1:=h.vr hr hc;have he:=he hc;have hv:=hv hc;generalize hu:a.eval x=u at e1;cases e1 with
 |@el _ _ _ b o2 _ us hb hs hcl hrr=>
  refine⟨_,hrr i e off v he hv,fun w' o ho _ hw=> ?_⟩;have hc':=(World.cell?_of_block (w:=w) (w':=w') (a:=⟨b,o2+i*sz'+off,none⟩) (hw b (.inl hb))).trans (hcl i e off v he hv);simp[execOp,ho,hu,nV (P:=P) (t:=t) hd hc']
theorem vN{d:TypeDesc} [Ty P t d] {sz by_:Nat}{z:Value} [Tz P t sz by_ z] {sz':Nat}{es:List (List AV)}{i off:Nat}{e:List AV}(h:Ev s c x (.el sz' es i off))(hd:wO d=true)(he:c=true->es[i]? =some e)(hv:c=true->off+sz<=e.length):
  Lop P (.load t x) ty s c (.agg ((e.drop off).take sz)) []:=by
 refine⟨fun q hq=>by simp at hq, ?_⟩;intro M F N n a w hr hc;have e1:=h.vr hr hc;have he:=he hc;have hv:=hv hc;generalize hu:a.eval x=u at e1;cases e1 with
 |@el _ _ _ b o2 _ us hb hs hcl hrr=>
  refine⟨.agg ((List.range sz).map fun j=>us i (off+j)).toArray,.agg Af (fun j a u hj hu=> ?_),fun w' o ho _ hw=> ?_⟩
  ·have hjl:j<sz:=by
    have:=(Ai.1 hj).1;simp at this;omega
   rw[A2 hjl,Bb]at hj;have hu':us i (off+j)=u:=by simpa[hjl]using hu
   rw[<-hu'];exact hrr i e _ a he hj
  ·have:=nW (P:=P) (w:=w') (t:=t) hd (p:=⟨b,o2+i*sz'+off,none⟩) (cs:=(List.range sz).map fun j=>us i (off+j)) X (fun j v hj=>by
    have hjl:j<sz:=by
     have:=(Ai.1 hj).1;simp at this;omega
    have hv':us i (off+j)=v:=by simpa[hjl]using hj
    rw[Addr.add_lit,<-hv',By];have hj2:off+j<e.length:=by omega
    exact(World.cell?_of_block (w:=w) (w':=w') (a:=⟨b,o2+i*sz'+(off+j),none⟩) (hw b (.inl hb))).trans (hcl i e _ e[off+j] he (Ar hj2)))
   simp[execOp,ho,hu,this]
theorem jS{d:TypeDesc} [Ty P t d] {r i off:Nat}{et:TypeId}{sz':Nat}{es:List (List AV)}{e:List AV}{v:AV}(h:Ev s c x (.ow r i off))(hd:wO d=false)(hg:gM s.Y r=some (.arr et sz' es))(he:c=true->es[i]? =some e)(hv:c=true->e[off]? =some v):
  Lop P (.load t x) ty s c v [r]:=by
 refine⟨fun q hq=>⟨_,bV hg,(A1.1 hq).symm⟩, ?_⟩;intro M F N n a w hr hc;have e1:=h.vr hr hc;have he:=he hc;have hv:=hv hc;generalize hu:a.eval x=u at e1;obtain⟨h0,hrows,h3⟩:=hr.st.ent _ (bV hg);have hel:=hrows e (Ah he);cases e1 with
 |ow hM=>
  rcases h3 with⟨hv',_⟩|⟨g,cc,vs,hM',hcl,hsz,hle,hmax,hvr⟩
  ·rw[hM]at hv';cases hv'
  ·have hg':=hM'.symm.trans hM;simp only[Option.some.injEq,Blk'.row.injEq]at hg';obtain⟨q1,q2,q3⟩:=hg';subst q1;subst q2;subst q3;have hi:i<es.length:=(Ai.1 he).1;have ho:off<sz':=by rw[<-hel.1];exact(Ai.1 hv).1
   have hlt:i*sz'+off<vs.size:=by
    rw[hsz]
    calc i*sz'+off<i*sz'+sz':=by omega
     _=(i+1)*sz':=by rw[Nat.succ_mul]
     _ <=cc*sz':=Bq _ U
   refine⟨vs[i*sz'+off],hvr i e off v _ he hv (A7 hlt),fun w' o ho _ hw=> ?_⟩;have hc':=(hcl.same (hw _ (.inr ⟨r,X,by simp[bP,hM]⟩))).cell (i*sz'+off);rw[A7 hlt]at hc';simp[execOp,ho,hu,nV (P:=P) (t:=t) hd hc']
theorem uT{e:TypeId}{sz:Nat}{es:List (List AV)}{k:Rk} [Ty P t (.slice e)] (h:Ev s c x (.ro sz es k)):Lop P (.call { callee:=.builtin .len,args:=#[x],argTypes:=#[t] }) ty s c (.int .i64 es.length) []:=
 Lop.pure_ fun M F N n a w hr hc=>by
  have e1:=h.vr hr hc;generalize hu:a.eval x=u at e1;cases e1<;>exact⟨_,.int _ _,fun w' o ho _=>by simp[execOp,ho,hu,resolve,invoke,builtin,Builtin.len_,run_underlying (Ty.und (P:=P) (t:=t)),goInt]⟩
theorem cK{e:TypeId}{sz:Nat}{α:Type}{l:List α}{f:α->List AV}{k:Rk} [Ty P t (.slice e)] (h:Ev s c x (.ro sz (l.map f) k)):Lop P (.call { callee:=.builtin .len,args:=#[x],argTypes:=#[t] }) ty s c (.int .i64 l.length) []:=by
 have:=uT (P:=P) (ty:=ty) (t:=t) h
 rwa [Az]at this
theorem jT{e:TypeId}{r off len:Nat} [Ty P t (.slice e)] (h:Ev s c x (.own r off len)):Lop P (.call { callee:=.builtin .len,args:=#[x],argTypes:=#[t] }) ty s c (.int .i64 len) []:=
 Lop.pure_ fun M F N n a w hr hc=>by
  have e1:=h.vr hr hc;generalize hu:a.eval x=u at e1;cases e1<;>exact⟨_,.int _ _,fun w' o ho _=>by simp[execOp,ho,hu,resolve,invoke,builtin,Builtin.len_,run_underlying (Ty.und (P:=P) (t:=t)),goInt]⟩
theorem gJ{b:ByteArray} [Ty P t .string] (h:Ev s c x (.str b)):Lop P (.call { callee:=.builtin .len,args:=#[x],argTypes:=#[t] }) ty s c (.int .i64 b.size) []:=
 Lop.pure_ fun M F N n a w hr hc=>⟨_,.int _ _,fun w' o ho _=>by simp[execOp,ho,h.str hr hc,resolve,invoke,builtin,Builtin.len_,run_underlying (Ty.und (P:=P) (t:=t)),goInt]⟩
theorem bA{cs:List AV}{i:Nat}{v:AV}(h:Ev s c x (.tup cs))(hv:cs[i]? =some v):Lop P (.extract x i) ty s c v []:=
 Lop.pure_ fun M F N n a w hr hc=>by
  have e1:=h.vr hr hc;generalize hu:a.eval x=u at e1;cases e1 with
  |@tup _ vs hl hh=>
   have hlt:i<vs.size:=by rw[hl];exact(Ai.1 hv).1
   refine⟨vs[i],hh i v _ hv (A7 hlt),fun w' o ho _=> ?_⟩;simp[execOp,ho,hu,Instr.extract,A7 hlt]
end
theorem Oper.wp_monoQ {P:Program}{o:Oper}{a:Act}{w:World}{K K':Act->World->Prop}{Q Q':Exit->Act->World->Prop}(h:∀a w,K a w->K' a w)(hQ:∀e a w,Q e a w->Q' e a w)
  (hh:o.wp P a w K Q):o.wp P a w K' Q':=by
 unfold Oper.wp at*;generalize(execOp a.eval o).run P w=r at*;cases r with
 |ok n w'=>
  cases n<;>simp only[Oper.upon]at hh⊢<;>
   first|exact h _ _ hh|exact Calls.mono hh (fun e w'' he=>by cases e<;>first|exact h _ _ he|exact hQ _ _ _ he|(obtain⟨a,w,he⟩:=he;exact⟨a,w,hQ _ _ _ he⟩))|exact Rows.mono hh (fun _ _ he=>h _ _ he)
 |halt x w'=>cases x<;>simp only[Oper.upon]at hh⊢<;>first|exact hQ _ _ _ hh|exact hh
theorem jU{P:Program}{ops:Array Oper}{Q Q':Exit->Act->World->Prop}(hQ:∀e a w,Q e a w->Q' e a w):∀ {l:List Oper} {a:Act} {w:World},wpList P ops Q l a w->wpList P ops Q' l a w
 |[],_,_,h=>hQ _ _ _ h
 |o::l,_,_,h=>by
  unfold wpList at h⊢;split
  ·next hw=>
   rw[Dc hw]at h;rcases h with h|⟨h1,a0,w0,h2⟩
   ·exact .inl (Oper.wp_monoQ (fun _ _ h=>jU hQ h) hQ h)
   ·exact .inr ⟨h1,a0,w0,hQ _ _ _ h2⟩
  ·next hw=>
   rw[Db hw]at h;exact jU hQ h
def PostN (n:Nat) (M:Mp) (F:Nat->Prop) (N:Nat) (w:World) (Y:dI) (K:ASt->Prop):Exit->Act->World->Prop
 | .normal,a',w'=>∃M' F' N' s',Rel M' F' N' n s' a' w'/\Ext M F N w Y M' F' N' w' s'.Y/\K s'
 | _,_,_=>False
theorem PostN.ext {n:Nat}{M M':Mp}{F F':Nat->Prop}{N N':Nat}{w w':World}{Y Y':dI}{K:ASt->Prop}(he:Ext M F N w Y M' F' N' w' Y'):∀e a u,PostN n M' F' N' w' Y' K e a u->PostN n M F N w Y K e a u:=by
 intro e a u h;cases e<;>first|exact h.elim|(obtain⟨M2,F2,N2,s2,h1,h2,h3⟩:=h;exact⟨M2,F2,N2,s2,h1,he.trans h2,h3⟩)
def RS (P:Program) (n:Nat) (ops:Array Oper) (todo:List Oper) (s:ASt) (K:ASt->Prop):Prop:=
 ∀(M:Mp) (F:Nat->Prop) (N:Nat) (a:Act) (w:World),Rel M F N n s a w->wpList P ops (PostN n M F N w s.Y K) todo a w
def Hop (P:Program) (n:Nat) (op:Op) (ty:TypeId) (dst:Option Nat) (s:ASt) (fp:List Nat) (K:ASt->Prop):Prop:=
 ∀(M:Mp) (F:Nat->Prop) (N:Nat) (a:Act) (w:World) (o:Oper),o.op=op->o.type=ty->o.dst=dst->Rel M F N n s a w->∀(next:Act->World->Prop) (Q:Exit->Act->World->Prop),
  (∀(M':Mp) (F':Nat->Prop) (N':Nat) (a':Act) (w':World) (s':ASt),Rel M' F' N' n s' a' w'->Ext M F N w s.Y M' F' N' w' s'.Y->Only (fun g=>∃r∈fp,bP M r=some g) w w'->K s'->next a' w')->o.wp P a w next Q
section
variable {P : Program} {n : Nat} {ops : Array Oper} {rest : List Oper} {s : ASt} {K : ASt -> Prop} {op : Op} {ty : TypeId} {pos : String} {af : Array Edge}
theorem aJx(h:K s):RS P n ops [] s K:=fun M F N _ _ hr=>⟨M,F,N,s,hr,Ext.refl _ _ _ _ _,h⟩
theorem aCQ{d:Nat}{v:AV}{rs:List Nat}(h:Lop P op ty s true v rs)(hd:d<n)(hK:RS P n ops rest (s.put d v) K):RS P n ops (⟨some d,op,ty,pos,af,none⟩::rest) s K:=by
 intro M F N a w hr;obtain⟨u,hu,hrun⟩:=h.2 M F N n a w hr rfl;refine wpList_plain rfl fun K' hK'=> ?_
 unfold Oper.wp;rw[hrun w _ rfl rfl (fun _ _=>rfl)];exact hK' _ _ (hK M F N _ w (hr.put hd hu))
theorem oR{M:Mp}{F:Nat->Prop}{N:Nat}{a:Act}{w:World}(hr:Rel M F N n s a w){o:Oper}{j dj:Nat}{want b:Bool}(hg:o.guard=some (j,want))(hj:(ops[j]?).bind (·.dst)=some dj)
  (hb:dR s.fr dj=some (.bool b)):Region.wanted o (yielded ops a.tmps)=(b==want):=by
 have h1:=hr.fr dj _ hb;have h2:yielded ops a.tmps j=some b:=by
  unfold yielded;rw[hj];simp only[Option.bind_some];rcases hx:a.tmps[dj]? with _ |u
  ·rw[Array.getD_eq_getD_getElem?,hx]at h1;cases h1
  ·rw[Array.getD_eq_getD_getElem?,hx]at h1;simp only[Bz]at h1;cases h1
   rfl
 unfold Region.wanted;rw[hg];simp only[h2];cases b<;>cases want<;>rfl
theorem xG{M:Mp}{F:Nat->Prop}{N:Nat}{a:Act}{w:World}(hr:Rel M F N n s a w){o:Oper}{j dj:Nat}{want b c:Bool}(hg:o.guard=some (j,want))(hj:(ops[j]?).bind (·.dst)=some dj)
  (hb:dR s.fr dj=some (.when c (.bool b))) (hc:c=true):Region.wanted o (yielded ops a.tmps)=(b==want):=by
 have h0:=hr.fr dj _ hb;have h1:VR M F w (.bool b) (a.tmps.getD dj Go.undef):=by cases h0 with|when h _=>exact h hc
 have h2:yielded ops a.tmps j=some b:=by
  unfold yielded;rw[hj];simp only[Option.bind_some];rcases hx:a.tmps[dj]? with _ |u
  ·rw[Array.getD_eq_getD_getElem?,hx]at h1;cases h1
  ·rw[Array.getD_eq_getD_getElem?,hx]at h1;simp only[Bz]at h1;cases h1
   rfl
 unfold Region.wanted;rw[hg];simp only[h2];cases b<;>cases want<;>rfl
theorem RW{d j dj:Nat}{want b:Bool}{v:AV}{rs:List Nat}(hj:(ops[j]?).bind (·.dst)=some dj)(hb:dR s.fr dj=some (.bool b))(h:Lop P op ty s (b==want) v rs)(hd:d<n)
  (hK:RS P n ops rest (s.put d (.when (b==want) v)) K):RS P n ops (⟨some d,op,ty,pos,af,some (j,want)⟩::rest) s K:=by
 intro M F N a w hr;have hw:=oR (o:=⟨some d,op,ty,pos,af,some (j,want)⟩) hr rfl hj hb;refine wpList_step fun K' hK'=> ?_
 rw[hw];by_cases hbw:(b==want)=true
 ·obtain⟨u,hu,hrun⟩:=h.2 M F N n a w hr hbw;rw[Dc hbw];unfold Oper.wp;rw[hrun w _ rfl rfl (fun _ _=>rfl)];exact hK' _ _ (hK M F N _ w (hr.put hd (.when (fun _=>hu) (fun h=>by rw[hbw]at h;cases h))))
 ·rw[Db hbw];exact hK' _ _ (hK M F N _ w (hr.put hd (.when (fun h=>absurd h hbw) (fun _=>rfl))))
theorem KX{d j dj:Nat}{want b c:Bool}{v:AV}{rs:List Nat}(hj:(ops[j]?).bind (·.dst)=some dj)(hb:dR s.fr dj=some (.when c (.bool b)))(h:Lop P op ty s (c&&(b==want)) v rs)(hd:d<n)
  (hK:RS P n ops rest (s.put d (.when (c&&(b==want)) v)) K):RS P n ops (⟨some d,op,ty,pos,af,some (j,want)⟩::rest) s K:=by
 intro M F N a w hr;refine wpList_step fun K' hK'=> ?_
 cases hc:c with
 |false=>
  have hy:yielded ops a.tmps j=none:=by
   have h0:=hr.fr dj _ hb;cases h0 with
   |when _ h0=>
    have h0:=h0 hc;unfold yielded;rw[hj];simp only[Option.bind_some];rcases hx:a.tmps[dj]? with _ |u
    ·rfl
    ·rw[Array.getD_eq_getD_getElem?,hx]at h0;simp only[Bz]at h0;subst h0;rfl
  rw[Db (by simp[Region.wanted,hy])];exact hK' _ _ (hK M F N _ w (hr.put hd (.when (fun h=>by simp[hc]at h) (fun _=>rfl))))
 |true=>
  have hw:=xG (o:=⟨some d,op,ty,pos,af,some (j,want)⟩) hr rfl hj hb hc;rw[hw];by_cases hbw:(b==want)=true
  ·obtain⟨u,hu,hrun⟩:=h.2 M F N n a w hr (by simp[hc,hbw]);rw[Dc hbw];unfold Oper.wp;rw[hrun w _ rfl rfl (fun _ _=>rfl)];exact hK' _ _ (hK M F N _ w (hr.put hd (.when (fun _=>hu) (fun h=>by rw[hc,hbw]at h;cases h))))
  ·rw[Db hbw];exact hK' _ _ (hK M F N _ w (hr.put hd (.when (fun h=>by simp[hc]at h;simp[h]at hbw) (fun _=>rfl))))
theorem gA{dst:Option Nat}{fp:List Nat}(h:Hop P n op ty dst s fp fun s'=>RS P n ops rest s' K):RS P n ops (⟨dst,op,ty,pos,af,none⟩::rest) s K:=by
 intro M F N a w hr;refine wpList_plain rfl fun K' hK'=> ?_
 refine h M F N a w _ rfl rfl rfl hr K' _ fun M' F' N' a' w' s' hr' he _ hk=> ?_
 exact hK' _ _ (jU (PostN.ext he) (hk M' F' N' a' w' hr'))
end
def HU (ks:List Nat) (fr:Fr):Fr:=ks.filterMap fun i=>(dR fr i).map fun x=>(i,x)
theorem AQ{fr:Fr}:∀ {ks:List Nat} {i:Nat} {x:AV},dR (HU ks fr) i=some x->dR fr i=some x
 |[],i,x,h=>by simp[HU,dR]at h
 |k::ks,i,x,h=>by
  unfold HU at h;rw[List.filterMap_cons]at h;cases hk:dR fr k with
  |none=>
   rw[hk]at h;exact AQ (ks:=ks) h
  |some y=>
   rw[hk]at h;simp only[Option.map_some,dR]at h;split at h
   ·next e=>subst e;exact hk.trans h
   ·exact AQ (ks:=ks) h
def ASt.keep (s:ASt) (ks:List Nat):ASt:=⟨HU ks s.fr,s.Y⟩
def SW (P:Program) (n:Nat) (ks:List Nat) (c:Code) (s:ASt) (Q:Exit->ASt->Prop):Prop:=
 ∀(M:Mp) (F:Nat->Prop) (N:Nat) (a:Act) (w:World),Rel M F N n s a w->
  c.wp P (fun e a' w'=>∃M' F' N' s',Rel M' F' N' n s' a' w'/\Ext M F N w s.Y M' F' N' w' s'.Y/\Q e s') a w
def zY (ks:List Nat) (K:ASt->Prop):ASt->Prop:=fun s=>K (s.keep ks)
def fE (K:ASt->Prop) (Q:Exit->ASt->Prop):Exit->ASt->Prop
 | .normal,s=>K s
 |e,s=>Q e s
def eA (id:Nat) (Q:Exit->ASt->Prop):Exit->ASt->Prop
 | .exit id',s=>if id'=id then Q .normal s else Q (.exit id') s
 |e,s=>Q e s
section
variable {P : Program} {n : Nat} {ks : List Nat} {s : ASt} {Q : Exit -> ASt -> Prop}
theorem Rel.keep {ks:List Nat}{M:Mp}{F:Nat->Prop}{N:Nat}{a:Act}{w:World}(h:Rel M F N n s a w):Rel M F N n (s.keep ks) a w:=⟨h.size,h.defers,fun i x hi=>h.fr i x (AQ hi),h.st⟩
theorem MB{id:Nat}{l:List Oper}(h:RS P n l.toArray l s (zY ks (Q .normal))):SW P n ks (.region id l.toArray false) s Q:=by
 intro M F N a w hr;refine wp_region_lit (jU ?_ (h M F N a w hr));intro e a' w' he;cases e<;>first|exact he.elim|skip
 obtain⟨M',F',N',s',h1,h2,h3⟩:=he;exact⟨M',F',N',s'.keep ks,h1.keep,h2,h3⟩
theorem OK(h:Q .normal s):SW P n ks .skip s Q:=fun M F N _ _ hr=>wp_skip ⟨M,F,N,s,hr,Ext.refl _ _ _ _ _,h⟩
theorem aJy(h:Q .ret s):SW P n ks .ret s Q:=fun M F N _ _ hr=>wp_ret ⟨M,F,N,s,hr,Ext.refl _ _ _ _ _,h⟩
theorem aFQ{id:Nat}(h:Q (.exit id) s):SW P n ks (.exit id) s Q:=fun M F N _ _ hr=>wp_exit ⟨M,F,N,s,hr,Ext.refl _ _ _ _ _,h⟩
theorem aFR{l:Nat}(h:Q (.goto l) s):SW P n ks (.goto l) s Q:=fun M F N _ _ hr=>wp_goto ⟨M,F,N,s,hr,Ext.refl _ _ _ _ _,h⟩
theorem aCR{l:Nat}(h:Q .normal s):SW P n ks (.label l) s Q:=fun M F N _ _ hr=>wp_label ⟨M,F,N,s,hr,Ext.refl _ _ _ _ _,h⟩
theorem OL{x y:Code}(h:SW P n ks x s (fE (fun s'=>SW P n ks y s' Q) Q)):SW P n ks (.seq x y) s Q:=by
 intro M F N a w hr;refine wp_seq (wp_mono (h M F N a w hr) ?_);rintro e a' w' ⟨M',F',N',s',h1,h2,h3⟩;cases e<;>first|exact⟨M',F',N',s',h1,h2,h3⟩|skip
 refine wp_mono (h3 M' F' N' a' w' h1) ?_;rintro e2 a2 w2 ⟨M2,F2,N2,s2,k1,k2,k3⟩;exact⟨M2,F2,N2,s2,k1,h2.trans k2,k3⟩
theorem yY{c:Code}{Q':Exit->ASt->Prop}(h:SW P n ks c s Q)(hQ:∀e s,Q e s->Q' e s):SW P n ks c s Q':=fun M F N a w hr=>
 wp_mono (h M F N a w hr) fun _ _ _ ⟨M',F',N',s',h1,h2,h3⟩=>⟨M',F',N',s',h1,h2,hQ _ _ h3⟩
theorem aB{c:Operand}{x y:Code}{b:Bool}(hc:aev s c=some (.bool b))(ht:b=true->SW P n ks x s Q)(hf:b=false->SW P n ks y s Q):SW P n ks (.cond c x y) s Q:=by
 intro M F N a w hr;refine wp_cond_split (t:=b) ?_ (fun h=>ht h M F N a w hr) (fun h=>hf h M F N a w hr);exact(Ev.here hc).bool hr rfl
theorem aCS{id:Nat}{c:Code}(h:SW P n ks c s (eA id Q)):SW P n ks (.block id c) s Q:=by
 intro M F N a w hr;refine wp_block (wp_mono (h M F N a w hr) ?_);rintro e a' w' ⟨M',F',N',s',h1,h2,h3⟩;cases e with
 |exit id'=>
  simp only[Exit.inBlock,eA]at h3⊢;split<;>rename_i hid<;>simp only[hid,Dd,De]at h3<;>exact⟨M',F',N',s',h1,h2,h3⟩
 | _=>exact⟨M',F',N',s',h1,h2,h3⟩
def SGo (s s':ASt):Prop:=∀(M:Mp) (F:Nat->Prop) (N n:Nat) (a:Act) (w:World),Rel M F N n s a w->∃M' F' N',Rel M' F' N' n s' a w/\Ext M F N w s.Y M' F' N' w s'.Y
theorem SGo.refl (s:ASt):SGo s s:=fun M F N _ _ _ hr=>⟨M,F,N,hr,Ext.refl _ _ _ _ _⟩
theorem SGo.trans {s s' s2:ASt}(h:SGo s s')(k:SGo s' s2):SGo s s2:=fun M F N n a w hr=>by
 obtain⟨M',F',N',h1,h2⟩:=h M F N n a w hr;obtain⟨M2,F2,N2,k1,k2⟩:=k M' F' N' n a w h1;exact⟨M2,F2,N2,k1,h2.trans k2⟩
def VLe (x y:AV):Prop:=∀(M:Mp) (F:Nat->Prop) (w:World) (v:Value),VR M F w x v->VR M F w y v
theorem VLe.refl (x:AV):VLe x x:=fun _ _ _ _ h=>h
theorem VLe.empty {sz sz':Nat}{k:Rk}:VLe (.ro sz [] k) (.ro sz' [] .any):=fun _ _ _ _ h=>by
 cases h with
 |ro hb hs hc hr hle hm hf hn=>exact .ro0 hm (fun h=>by cases h) (fun h=>by cases h) (fun h=>by cases h)
 |ro0 hm hA hf hn=>exact .ro0 hm hA (fun h=>by cases h) (fun h=>by cases h)
theorem SGo.of_le {s s':ASt}(hf:∀i x,dR s'.fr i=some x->∃y,dR s.fr i=some y/\VLe y x)(Dg:∀p∈s'.Y,p∈s.Y):SGo s s':=fun M F N n a w hr=>
 ⟨M,F,N,⟨hr.size,hr.defers,fun i x hi=>by obtain⟨y,hy,hle⟩:=hf i x hi;exact hle _ _ _ _ (hr.fr i y hy),hr.st.sub Dg⟩,(Ext.refl M F N w s.Y).sub Dg⟩
theorem dO{c:Code}{s':ASt}(hgo:SGo s s')(h:SW P n ks c s' Q):SW P n ks c s Q:=by
 intro M F N a w hr;obtain⟨M1,F1,N1,hr1,he1⟩:=hgo M F N n a w hr;refine wp_mono (h M1 F1 N1 a w hr1) ?_;rintro e a' w' ⟨M',F',N',s2,h1,h2,h3⟩;exact⟨M',F',N',s2,h1,he1.trans h2,h3⟩
theorem aFS{c:Code}(I:Nat->ASt->Prop)(m0:Nat)(h0:∃s0,SGo s s0/\I m0 s0)(round:∀m s',I m s'->SW P n ks c s' (fE (fun s2=>∃m' s3,SGo s2 s3/\m'<m/\I m' s3) Q)):SW P n ks (.loop c) s Q:=by
 obtain⟨s0,hgo,h0⟩:=h0;refine dO hgo ?_;intro M F N a w hr;refine wp_loop_ghost (I:=fun m a' w'=>∃M' F' N' s',Rel M' F' N' n s' a' w'/\Ext M F N w s0.Y M' F' N' w' s'.Y/\I m s') m0 ⟨M,F,N,s0,hr,Ext.refl _ _ _ _ _,h0⟩ ?_;rintro m a' w' ⟨M',F',N',s',hr',he,hI⟩;refine wp_mono (round m s' hI M' F' N' a' w' hr') ?_;rintro e a1 w1 ⟨M1,F1,N1,s1,r1,e1,q1⟩;cases e<;>first|exact⟨M1,F1,N1,s1,r1,he.trans e1,q1⟩|skip
 obtain⟨m',s3,hgo3,hlt,hI3⟩:=q1;obtain⟨M3,F3,N3,r3,e3⟩:=hgo3 M1 F1 N1 n a1 w1 r1;exact⟨m',hlt,M3,F3,N3,s3,r3,(he.trans e1).trans e3,hI3⟩
def SCall (P:Program) (f:FuncId) (args:List AV) (Y:dI) (R:AV->dI->Prop):Prop:=
 ∀(M:Mp) (F:Nat->Prop) (N:Nat) (w:World) (vs:List Value),vs.length=args.length->(∀(i:Nat) (x:AV) (v:Value),args[i]? =some x->vs[i]? =some v->VR M F w x v)->SR M F N w Y->
  Calls P f vs.toArray w fun e w'=>∃v x M' F' N' Y',e=.returned v/\Ext M F N w Y M' F' N' w' Y'/\VR M' F' w' x v/\SR M' F' N' w' Y'/\R x Y'
theorem SCall.mono {f:FuncId}{args:List AV}{Y:dI}{R R':AV->dI->Prop}(h:SCall P f args Y R)(hR:∀x Y',R x Y'->R' x Y'):SCall P f args Y R':=
 fun M F N w vs hl hv hs=>(h M F N w vs hl hv hs).mono fun _ _ ⟨v,x,M',F',N',Y',h1,h2,h3,h4,h5⟩=>⟨v,x,M',F',N',Y',h1,h2,h3,h4,hR _ _ h5⟩
inductive ResL (P:Program) (s:ASt):List ResultVar->List AV->Prop
 |nil:ResL P s [] []
 |tmp {t:Nat} {x:AV} {rs:List ResultVar} {xs:List AV} (hx:dR s.fr t=some x) (r:ResL P s rs xs):ResL P s (.tmp t::rs) (x::xs)
 |cell {t:Nat} {ty:TypeId} {d:TypeDesc} {r off:Nat} {bt:TypeId} {cs:List AV} {x:AV} {rs:List ResultVar} {xs:List AV} (hp:dR s.fr t=some (.ptr r off)) (i:Ty P ty d) (hd:wO d=false) (hg:gM s.Y r=some (.box bt cs)) (hx:cs[off]? =some x) (l:ResL P s rs xs):ResL P s (.cell t ty::rs) (x::xs)
 |cells {t:Nat} {ty:TypeId} {d:TypeDesc} {sz by_:Nat} {z:Value} {r off:Nat} {bt:TypeId} {cs:List AV} {rs:List ResultVar} {xs:List AV} (hp:dR s.fr t=some (.ptr r off)) (i:Ty P ty d) (i':Tz P ty sz by_ z) (hd:wO d=true) (hg:gM s.Y r=some (.box bt cs)) (hx:off+sz<=cs.length) (l:ResL P s rs xs):ResL P s (.cell t ty::rs) (.agg ((cs.drop off).take sz)::xs)
def fM:List AV->AV
 |[x]=>x
 |xs=>.tup xs
def aCT (P:Program) (rs:Array ResultVar) (s:ASt) (x:AV):Prop:=∃xs,ResL P s rs.toList xs/\fM xs=x
def AR:Nat->List AV->Fr
 | _,[]=>[]
 |i,x::l=>(i,x)::AR (i+1) l
theorem FE:∀ {l:List AV} {i j:Nat} {x:AV},dR (AR i l) j=some x->i<=j/\l[j-i]? =some x
 |[],i,j,x,h=>by simp[AR,dR]at h
 |y::l,i,j,x,h=>by
  simp only[AR,dR]at h;split at h
  ·next e=>subst e;exact⟨A3 _,by simpa using h⟩
  ·next e=>
   obtain⟨h1,h2⟩:=FE h;refine⟨U, ?_⟩;rw[show j-i=(j-(i+1))+1 by omega];simpa using h2
theorem xH{t:TypeId}{p:Addr}{u:Value}{w:World}(h:(Instr.loadAt t (.pointer (some p))).run P w=.ok u w):(loadVar t p).run P w=.ok u w:=by
 simpa[Instr.loadAt,Instr.sureAddr]using h
theorem aCU{M:Mp}{F:Nat->Prop}{N:Nat}{a:Act}{w:World}(hr:Rel M F N n s a w){rs:List ResultVar}{xs:List AV}(h:ResL P s rs xs):
  ∃us,((rs.mapM fun| .tmp t=>pure (a.tmps.getD t Go.undef)| .cell c t=>do loadVar t (<-asAddr (a.tmps.getD c Go.undef)):Sem (List Value))).run P w=.ok us w/\us.length=xs.length/\∀(j:Nat) (b:AV) (u:Value),xs[j]? =some b->us[j]? =some u->VR M F w b u:=by
 have step:∀ {v:ResultVar} {x:AV} {rs:List ResultVar} {xs:List AV} (u:Value),((match v with| .tmp t=>pure (a.tmps.getD t Go.undef)| .cell c t=>do loadVar t (<-asAddr (a.tmps.getD c Go.undef)):Sem Value)).run P w=.ok u w->VR M F w x u->
   (∃us,((rs.mapM fun| .tmp t=>pure (a.tmps.getD t Go.undef)| .cell c t=>do loadVar t (<-asAddr (a.tmps.getD c Go.undef)):Sem (List Value))).run P w=.ok us w/\us.length=xs.length/\∀(j:Nat) (b:AV) (u:Value),xs[j]? =some b->us[j]? =some u->VR M F w b u)->
   ∃us,(((v::rs).mapM fun| .tmp t=>pure (a.tmps.getD t Go.undef)| .cell c t=>do loadVar t (<-asAddr (a.tmps.getD c Go.undef)):Sem (List Value))).run P w=.ok us w/\us.length=(x::xs).length/\∀(j:Nat) (b:AV) (u:Value),(x::xs)[j]? =some b->us[j]? =some u->VR M F w b u:=by
  rintro v x rs xs u hu hv ⟨us,h1,h2,h3⟩;refine⟨u::us, ?_,by simp[h2],fun j b u' hj hu'=> ?_⟩
  ·rw[List.mapM_cons,Sem.run_bind,hu,Result.andThen_ok,Sem.run_bind,h1,Result.andThen_ok,Sem.run_pure]
  ·cases j with
   |zero=>simp at hj hu';subst hj;subst hu';exact hv
   |succ j=>exact h3 j b u' (by simpa using hj) (by simpa using hu')
 induction h with
 |nil=>exact⟨[],X,rfl,fun j b u hj=>by simp at hj⟩
 |@tmp t x rs xs hx _ ih=>exact step _ X (hr.fr t x hx) ih
 |@cell t ty d r off bt cs x rs xs hp i hd hg hx _ ih=>
  have hv:=hr.fr t _ hp;generalize hu:a.tmps.getD t Go.undef=u at hv;obtain⟨g,vs,hM',hcl,hsz,hvr⟩:=hr.st.ent _ (bV hg);cases hv with
  |ptr hM=>
   have hg':=hM'.symm.trans hM;simp only[Option.some.injEq,Blk'.row.injEq]at hg';obtain⟨q1,q2,q3⟩:=hg';subst q1;have hlt:off<vs.size:=by rw[hsz];exact(Ai.1 hx).1
   have hc':=hcl.cell off;rw[A7 hlt]at hc';refine step vs[off] ?_ (hvr off x _ hx (A7 hlt)) ih;have:=xH (P:=P) (nV (P:=P) (w:=w) (t:=ty) (h:=i) hd hc');simp only[hu];simp[asAddr,this]
 |@cells t ty d sz by_ z r off bt cs rs xs hp i i' hd hg hx _ ih=>
  have hv:=hr.fr t _ hp;generalize hu:a.tmps.getD t Go.undef=u at hv;obtain⟨g,vs,hM',hcl,hsz,hvr⟩:=hr.st.ent _ (bV hg);cases hv with
  |ptr hM=>
   have hg':=hM'.symm.trans hM;simp only[Option.some.injEq,Blk'.row.injEq]at hg';obtain⟨q1,q2,q3⟩:=hg';subst q1;have:=nW (P:=P) (w:=w) (t:=ty) (h:=i) (h':=i') hd (p:=⟨g,off,none⟩) (cs:=(vs.toList.drop off).take sz) (by simp[hsz];omega) (fun j v hj=>by
    have hjl:j<sz:=by
     have:=(Ai.1 hj).1;simp at this;omega
    rw[A2 hjl,Bb]at hj;rw[Addr.add_lit,hcl.cell];simpa using hj)
   refine step (.agg ((vs.toList.drop off).take sz).toArray) ?_ (.agg (by simp[hsz]) fun j b u hj hu=> ?_) ih
   ·have:=xH (P:=P) this;simp only[hu];simp[asAddr,this]
   ·have hjl:j<sz:=by
     have:=(Ai.1 hj).1;simp at this;omega
    rw[A2 hjl,Bb]at hj;simp only[List.getElem?_toArray]at hu;rw[A2 hjl,Bb]at hu;exact hvr _ b u hj (by simpa using hu)
theorem RX{M:Mp}{F:Nat->Prop}{N:Nat}{a:Act}{w:World}(hr:Rel M F N n s a w){fn:Func}{x:AV}(h:aCT P fn.results s x):∃v,(results fn a.tmps).run P w=.ok v w/\VR M F w x v:=by
 obtain⟨xs,hl,rfl⟩:=h;obtain⟨us,h1,h2,h3⟩:=aCU (P:=P) hr hl;have hrun:(results fn a.tmps).run P w=.ok (if h:us.toArray.size=1 then us.toArray[0]else .tuple us.toArray) w:=by
  unfold results;rw[Array.mapM_eq_mapM_toList,Sem.run_bind,map_eq_pure_bind,Sem.run_bind]
  erw [h1]
  rfl
 refine⟨_,hrun, ?_⟩
 match xs,us,h2,h3 with
 |[x],[u],_,h3=>exact h3 0 x u rfl rfl
 |[],[],_,h3=>exact .tup rfl fun j b u hj=>by simp at hj
 |x::y::xs,u::v::us,h2,h3=>
  have:¬(u::v::us).toArray.size=1:=by simp
  rw[dif_neg this];exact .tup (by simpa using h2) fun j b u hj hu=>h3 j b u hj (by simpa using hu)
def OM (P:Program) (rs:Array ResultVar) (R:AV->dI->Prop):Exit->ASt->Prop
 | .normal,s| .ret,s=>∃s' x Y',SGo s s'/\aCT P rs s' x/\(∀p∈Y',p∈s'.Y)/\R x Y'
 | _,_=>False
theorem aCV{f:FuncId}{fn:Func}{c:Code}{args:List AV}{Y:dI}{R:AV->dI->Prop}(hf:P.funcs[f]? =some fn)(hb:fn.body=some c)(hn:fn.ntmps=n)(hle:args.length<=n)
  (h:SW P n ks c ⟨AR 0 args,Y⟩ (OM P fn.results R)):SCall P f args Y R:=by
 intro M F N w vs hl hv hs;refine calls_of_wp hf hb ?_;have hr:Rel M F N n ⟨AR 0 args,Y⟩ { tmps:=vs.toArray++Array.replicate (fn.ntmps-vs.toArray.size) Go.undef,defers:=[] } w:=by
  refine⟨by simp[hn,hl];omega,rfl,fun i x hi=> ?_,hs⟩;obtain⟨_,hi⟩:=FE hi;rw[Nat.sub_zero]at hi;have hlt:i<vs.length:=by rw[hl];exact(Ai.1 hi).1
  have he:(vs.toArray++Array.replicate (fn.ntmps-vs.toArray.size) Go.undef).getD i Go.undef=vs[i]:=by
   rw[Array.getD_eq_getD_getElem?,Array.getElem?_append_left (by simpa using hlt)];simp[hlt]
  rw[he];exact hv i x _ hi (Ar hlt)
 refine wp_mono (h M F N _ w hr) ?_;rintro e a' w' ⟨M',F',N',s',h1,h2,h3⟩;have mH:(∃s2 x Y2,SGo s' s2/\aCT P fn.results s2 x/\(∀p∈Y2,p∈s2.Y)/\R x Y2)->a'.defers=[]/\∃v,(results fn a'.tmps).run P w'=.ok v w'/\
   ∃v_1 x M' F' N' Y',Ending.returned v=.returned v_1/\Ext M F N w Y M' F' N' w' Y'/\VR M' F' w' x v_1/\SR M' F' N' w' Y'/\R x Y':=by
  rintro⟨s2,x,Y2,hgo,hres,hsub,hR⟩;obtain⟨M2,F2,N2,r2,e2⟩:=hgo M' F' N' n a' w' h1;obtain⟨v,hv1,hv2⟩:=RX (P:=P) r2 hres;exact⟨h1.defers,v,hv1,v,x,M2,F2,N2,Y2,rfl,(h2.trans e2).sub hsub,hv2,r2.st.sub hsub,hR⟩
 cases e<;>first|exact h3.elim|exact mH h3
theorem bO{P:Program}{f:FuncId}{fn:Func}{c:Code}{args:List AV}{Y:dI}{R:AV->dI->Prop}(n:Nat)(ks:List Nat)(hf:P.funcs[f]? =some fn)(h:SW P n ks c ⟨AR 0 args,Y⟩ (OM P fn.results R))(hb:fn.body=some c:=by exact rfl)(hn:fn.ntmps=n:=by exact rfl)(hle:args.length<=n:=by exact Nat.le_of_ble_eq_true rfl):SCall P f args Y R:=aCV hf hb hn hle h
inductive ArgsLe (s:ASt):List Operand->List AV->Prop
 |nil:ArgsLe s [] []
 |cons {x:Operand} {xs:List Operand} {v y:AV} {ys:List AV} (h:aev s x=some v) (hle:VLe v y) (hr:ArgsLe s xs ys):ArgsLe s (x::xs) (y::ys)
theorem ArgsLe.len {xs:List Operand}{ys:List AV}(h:ArgsLe s xs ys):xs.length=ys.length:=by
 induction h with
 |nil=>rfl
 |cons _ _ _ ih=>simp[ih]
theorem ArgsLe.vr {M:Mp}{F:Nat->Prop}{N:Nat}{a:Act}{w:World}(hr:Rel M F N n s a w){xs:List Operand}{ys:List AV}(h:ArgsLe s xs ys):∀(i:Nat) (y:AV) (v:Value),ys[i]? =some y->(xs.map a.eval)[i]? =some v->VR M F w y v:=by
 induction h with
 |nil=>intro i y v hi;simp at hi
 |@cons x xs v y ys hx hle _ ih=>
  intro i y' v' hi hv;cases i with
  |zero=>
   simp only[List.getElem?_cons_zero,Option.some.injEq,Bn]at hi hv;subst hi;subst hv;exact hle _ _ _ _ (hr.aev hx)
  |succ i=>exact ih i y' v' (by simpa using hi) (by simpa using hv)
theorem Hop.of_call {op:Op}{ty:TypeId}{d:Nat}{f:FuncId}{args:List AV}{Y1:dI}{R:AV->dI->Prop}{K:ASt->Prop}(hd:d<n)(h:SCall P f args Y1 R)(hsub:∀p∈Y1,p∈s.Y)(fargs:Act->List Value)
  (hrun:∀(M:Mp) (F:Nat->Prop) (N:Nat) (a:Act) (w:World) (o:Oper),o.op=op->Rel M F N n s a w->(execOp a.eval o).run P w=.ok (.enter f (fargs a).toArray) w/\(fargs a).length=args.length/\
   ∀(i:Nat) (x:AV) (v:Value),args[i]? =some x->(fargs a)[i]? =some v->VR M F w x v)
  (hK:∀x Y',R x Y'->(∀p∈Y',(∃q∈Y1,q.1=p.1)\/Fresh p.1 s.Y)->K ⟨(d,x)::s.fr,Y'++eD (Y1.map (·.1)) s.Y⟩):Hop P n op ty (some d) s (Y1.map (·.1)) K:=by
 intro M F N a w o ho _ hdst hr next Q hnext
 obtain⟨h1,h2,h3⟩:=hrun M F N a w o ho hr;unfold Oper.wp;rw[h1];show Calls P f (fargs a).toArray w _;have hs1:SR M F N w Y1:=hr.st.sub hsub;refine(h M F N w (fargs a) h2 h3 hs1).mono ?_;rintro e w' ⟨v,x,M',F',N',Y',rfl,he,hv,hs',hR⟩
 --the rest of the store
 have hrest:∀p∈s.Y,p.1∉Y1.map (·.1)->∀g,bP M p.1=some g->¬Bs M Y1 g:=by
  rintro p hp hn g hg ⟨q,hq,hqg⟩;have:=hr.st.inj p hp q (hsub q hq) g hg hqg;exact hn (Bm.2 ⟨q,hq,this.symm⟩)
 have hmem:∀p,p∈eD (Y1.map (·.1)) s.Y->p∈s.Y/\p.1∉Y1.map (·.1):=fun p hp=>fV hp
 have hMeq:∀p∈s.Y,bP M' p.1=bP M p.1:=by
  intro p hp;have hne:=(hr.st.ent p hp).some;unfold bP;cases hm:M p.1 with
  |none=>exact absurd hm hne
  |some b=>rw[he.mm _ _ hm]
 have hext:Ext M F N w s.Y M' F' N' w' (Y'++eD (Y1.map (·.1)) s.Y):=by
  refine⟨he.mm,he.ff,he.nn,he.only.mono fun i _ ⟨q,hq,hqg⟩=>⟨q,hsub q hq,hqg⟩, ?_, ?_, ?_⟩
  ·rintro g ⟨p,hp,hg⟩ hlt;rcases A8.1 hp with hp|hp
   ·obtain⟨q,hq,hqg⟩:=he.old g ⟨p,hp,hg⟩ hlt;exact⟨q,hsub q hq,hqg⟩
   ·exact⟨p,(hmem p hp).1,by rw[<-hMeq p (hmem p hp).1];exact hg⟩
  ·intro b hb;rcases he.fro b hb with hb|hb|⟨q,hq,hqg⟩
   ·exact .inl hb
   ·exact .inr (.inl hb)
   ·exact .inr (.inr ⟨q,hsub q hq,hqg⟩)
  ·intro p hp hlt;rcases A8.1 hp with hp|hp
   ·obtain⟨q,hq,hqg⟩:=he.nam p hp hlt;exact⟨q,hsub q hq,hqg⟩
   ·exact⟨p,(hmem p hp).1,rfl⟩
 have hSame:Same F w w':=he.same hs1;have hSR:SR M' F' N' w' (Y'++eD (Y1.map (·.1)) s.Y):=by
  have hdis:∀p∈Y',∀q∈s.Y,q.1∉Y1.map (·.1)->∀g,bP M' p.1=some g->bP M' q.1=some g->False:=by
   intro p hp q hq hqn g hpg hqg;rw[hMeq q hq]at hqg;have hlt:=(hr.st.ent q hq).lt hqg;exact hrest q hq hqn g hqg (he.old g ⟨p,hp,hpg⟩ hlt)
  refine⟨?_, ?_, ?_,hs'.flt,hs'.fresh⟩
  ·intro p hp;rcases A8.1 hp with hp|hp
   ·exact hs'.ent p hp
   ·obtain⟨hp1,hp2⟩:=hmem p hp;refine ER.mono he.mm he.ff hSame (fun g hg=> ?_) (hr.st.ent p hp1);exact he.only.block g ((hr.st.ent p hp1).lt hg) (hrest p hp1 hp2 g hg)
  ·intro p hp q hq g hpg hqg;rcases A8.1 hp with hp|hp<;>rcases A8.1 hq with hq|hq
   ·exact hs'.inj p hp q hq g hpg hqg
   ·exact(hdis p hp q (hmem q hq).1 (hmem q hq).2 g hpg hqg).elim
   ·exact(hdis q hq p (hmem p hp).1 (hmem p hp).2 g hqg hpg).elim
   ·rw[hMeq p (hmem p hp).1]at hpg;rw[hMeq q (hmem q hq).1]at hqg;exact hr.st.inj p (hmem p hp).1 q (hmem q hq).1 g hpg hqg
  ·rintro g ⟨p,hp,hg⟩ hF;rcases A8.1 hp with hp|hp
   ·exact hs'.nof g ⟨p,hp,hg⟩ hF
   ·obtain⟨hp1,hp2⟩:=hmem p hp;rw[hMeq p hp1]at hg;rcases he.fro g hF with hb|hb|hb
    ·exact hr.st.nof g ⟨p,hp1,hg⟩ hb
    ·have:=(hr.st.ent p hp1).lt hg;omega
    ·exact hrest p hp1 hp2 g hg hb
 have hrel:Rel M' F' N' n ⟨s.fr,Y'++eD (Y1.map (·.1)) s.Y⟩ a w':=
  ⟨hr.size,hr.defers,fun i y hi=>(hr.fr i y hi).mono he.mm he.ff hSame,hSR⟩
 rw[hdst];refine hnext M' F' N' _ w' _ (hrel.put hd hv) hext (he.only.mono fun i _ ⟨q,hq,hqg⟩=>⟨q.1,Bm.2 ⟨q,hq,rfl⟩,hqg⟩) ?_;refine hK x Y' hR fun p hp=> ?_
 rcases Br p.1 N with hlt|hge
 ·exact .inl (he.nam p hp hlt)
 ·exact .inr fun q hq heq=>by have:=hr.st.name hq;omega
theorem rH{ty:TypeId}{d:Nat}{f:FuncId}{xs:List Operand}{ats:Array TypeId}{args:List AV}{Y1:dI}{R:AV->dI->Prop}{K:ASt->Prop}(hf:∀args w,(callFunc f args).run P w=.ok (.enter f args) w)(h:SCall P f args Y1 R)(hd:d<n)
  (hargs:ArgsLe s xs args) (hsub:∀p∈Y1,p∈s.Y)
  (hK:∀x Y',R x Y'->(∀p∈Y',(∃q∈Y1,q.1=p.1)\/Fresh p.1 s.Y)->K ⟨(d,x)::s.fr,Y'++eD (Y1.map (·.1)) s.Y⟩):
  Hop P n (.call { callee:=.value (.func f),args:=xs.toArray,argTypes:=ats }) ty (some d) s (Y1.map (·.1)) K:=by
 refine Hop.of_call hd h hsub (fun a=>xs.map a.eval) (fun M F N a w o ho hr=>⟨?_,by simp[hargs.len],hargs.vr hr⟩) hK;obtain⟨dst,op,ty',pos,after,guard⟩:=o;dsimp only at ho;subst ho;rw[execOp_call_go,Array.append_empty,Array.empty_append,List.map_toArray,hf]
end
def fX (M:Mp) (N:Nat) (b:Blk'):Mp:=fun r=>if r=N then some b else M r
def ED (Y:dI) (r:Nat) (x:Ent):dI:=(r,x)::eD [r] Y
section
variable {M : Mp} {F : Nat -> Prop} {N n : Nat} {w w' : World} {s : ASt} {a : Act}
theorem pL(hf:∀r,N<=r->M r=none)(b:Blk'){r:Nat}{x:Blk'}(h:M r=some x):fX M N b r=some x:=by
 unfold fX;by_cases hr:r=N
 ·subst hr;rw[hf r (A3 _)]at h;cases h
 ·rw[Db hr];exact h
theorem bX(b:Blk'):fX M N b N=some b:=by simp[fX]
theorem Rel.new_ (hr:Rel M F N n s a w)(b:Blk')(x:Ent)(hsame:∀k,k<w.heap.size->w'.heap[k]? =w.heap[k]?)(hos:w'.os=w.os/\w'.tape=w.tape/\w'.output=w.output)(hsz:w.heap.size<=w'.heap.size)
  (hblk:∀g,bP (fX M N b) N=some g->w.heap.size<=g) (hE:ER (fX M N b) F w' N x):
  Rel (fX M N b) F (N+1) n ⟨s.fr,(N,x)::s.Y⟩ a w'/\Ext M F N w s.Y (fX M N b) F (N+1) w' ((N,x)::s.Y)/\Fresh N s.Y:=by
 have hmm:∀r b',M r=some b'->fX M N b r=some b':=fun r b' h=>pL hr.st.fresh b h
 have honly:Only (Bs M s.Y) w w':=⟨hos.1,hos.2.1,hos.2.2,hsz,fun k hk _=>hsame k hk⟩
 have hSame:Same F w w':=fun g hg=>hsame g (hr.st.flt g hg)
 have hnm:∀q∈s.Y,q.1≠N:=fun q hq=>by have:=hr.st.name hq;omega
 have hb:∀q∈s.Y,bP (fX M N b) q.1=bP M q.1:=fun q hq=>by unfold bP fX;rw[Db (hnm q hq)]
 have hext:Ext M F N w s.Y (fX M N b) F (N+1) w' ((N,x)::s.Y):=by
  refine⟨hmm,fun _ h=>h,U,honly, ?_,fun _ h=>.inl h, ?_⟩
  ·rintro g ⟨p,hp,hg⟩ hlt;rcases Av.1 hp with rfl|hp
   ·have:=hblk g hg;omega
   ·exact⟨p,hp,by rw[<-hb p hp];exact hg⟩
  ·intro p hp hlt;rcases Av.1 hp with rfl|hp
   ·exact absurd hlt (Nat.lt_irrefl _)
   ·exact⟨p,hp,rfl⟩
 refine⟨⟨hr.size,hr.defers,fun i y hi=>(hr.fr i y hi).mono hmm (fun _ h=>h) hSame, ?_, ?_, ?_, ?_, ?_⟩,hext,hnm⟩
 ·intro p hp;rcases Av.1 hp with rfl|hp
  ·exact hE
  ·exact ER.mono hmm (fun _ h=>h) hSame (fun g hg=>hsame g ((hr.st.ent p hp).lt hg)) (hr.st.ent p hp)
 ·intro p hp q hq g hpg hqg;rcases Av.1 hp with rfl|hp<;>rcases Av.1 hq with rfl|hq
  ·rfl
  ·rw[hb q hq]at hqg;have:=hblk g hpg;have:=(hr.st.ent q hq).lt hqg;omega
  ·rw[hb p hp]at hpg;have:=hblk g hqg;have:=(hr.st.ent p hp).lt hpg;omega
  ·rw[hb p hp]at hpg;rw[hb q hq]at hqg;exact hr.st.inj p hp q hq g hpg hqg
 ·rintro g ⟨p,hp,hg⟩ hF;rcases Av.1 hp with rfl|hp
  ·have:=hblk g hg;have:=hr.st.flt g hF;omega
  ·rw[hb p hp]at hg;exact hr.st.nof g ⟨p,hp,hg⟩ hF
 ·exact fun b' hb'=>Nat.lt_of_lt_of_le (hr.st.flt b' hb') hsz
 ·intro r hrN;unfold fX;rw[Db U];exact hr.st.fresh r U
theorem Rel.set_ (hr:Rel M F N n s a w){r g:Nat}{x x':Ent}(hx:(r,x)∈s.Y)(hg:bP M r=some g)(ho:Only (fun k=>k=g) w w')(hE:ER M F w' r x'):
  Rel M F N n ⟨s.fr,ED s.Y r x'⟩ a w'/\Ext M F N w s.Y M F N w' (ED s.Y r x')/\Only (fun g=>∃q∈ [r],bP M q=some g) w w':=by
 have hgF:¬F g:=hr.st.nof g ⟨_,hx,hg⟩;have hlt:g<w.heap.size:=(hr.st.ent _ hx).lt hg;have hSame:Same F w w':=fun b hb=>ho.block b (hr.st.flt b hb) (fun e=>hgF (e▸hb))
 have hmem:∀p∈ED s.Y r x',p=(r,x')\/(p∈s.Y/\p.1≠r):=by
  intro p hp;rcases Av.1 hp with rfl|hp
  ·exact .inl rfl
  ·have:=fV hp;exact .inr ⟨this.1,by simpa using this.2⟩
 have hBs:∀b,Bs M (ED s.Y r x') b->Bs M s.Y b:=by
  rintro b ⟨p,hp,hpb⟩;rcases hmem p hp with rfl|⟨hp,_⟩
  ·exact⟨_,hx,hpb⟩
  ·exact⟨p,hp,hpb⟩
 have hext:Ext M F N w s.Y M F N w' (ED s.Y r x'):=by
  refine⟨fun _ _ h=>h,fun _ h=>h,A3 _,ho.mono fun i _ e=>⟨_,hx,by rw[e];exact hg⟩,fun b hb _=>hBs b hb,fun _ h=>.inl h, ?_⟩;intro p hp _;rcases hmem p hp with rfl|⟨hp,_⟩
  ·exact⟨_,hx,rfl⟩
  ·exact⟨p,hp,rfl⟩
 refine⟨⟨hr.size,hr.defers,fun i y hi=>(hr.fr i y hi).mono (fun _ _ h=>h) (fun _ h=>h) hSame, ?_, ?_,fun b hb=>hr.st.nof b (hBs b hb),fun b hb=>Nat.lt_of_lt_of_le (hr.st.flt b hb) ho.size,hr.st.fresh⟩,hext,
  ho.mono fun i _ e=>⟨r,X,by rw[e];exact hg⟩⟩
 ·intro p hp;rcases hmem p hp with rfl|⟨hp,hne⟩
  ·exact hE
  ·refine ER.mono (fun _ _ h=>h) (fun _ h=>h) hSame (fun b hb=> ?_) (hr.st.ent p hp);refine ho.block b ((hr.st.ent p hp).lt hb) ?_;rintro rfl;exact hne (hr.st.inj p hp _ hx b hb hg)
 ·intro p hp q hq b hpb hqb;have h1:∃p'∈s.Y,p'.1=p.1:=by
   rcases hmem p hp with rfl|⟨hp,_⟩
   ·exact⟨_,hx,rfl⟩
   ·exact⟨p,hp,rfl⟩
  have h2:∃q'∈s.Y,q'.1=q.1:=by
   rcases hmem q hq with rfl|⟨hq,_⟩
   ·exact⟨_,hx,rfl⟩
   ·exact⟨q,hq,rfl⟩
  obtain⟨p',hp',e1⟩:=h1;obtain⟨q',hq',e2⟩:=h2;rw[<-e1]at hpb⊢;rw[<-e2]at hqb⊢;exact hr.st.inj p' hp' q' hq' b hpb hqb
end
def AV.cells:AV->List AV
 | .agg cs=>cs
 |v=>[v]
theorem VR.cells {M:Mp}{F:Nat->Prop}{w:World}{v:AV}{u:Value}(h:VR M F w v u)(hc:∀a∈v.cells,a.cell=true):u.cells.size=v.cells.length/\(∀(j:Nat) (a:AV) (x:Value),v.cells[j]? =some a->u.cells[j]? =some x->VR M F w a x)/\∀x∈u.cells.toList,x.oneCell'=true:=by
 have single:v.cells=[v]->u.cells=#[u]->u.cells.size=v.cells.length/\(∀(j:Nat) (a:AV) (x:Value),v.cells[j]? =some a->u.cells[j]? =some x->VR M F w a x)/\∀x∈u.cells.toList,x.oneCell'=true:=by
  intro e1 e2;rw[e1,e2];refine⟨rfl,fun j a x hj hx=> ?_,fun x hx=> ?_⟩
  ·cases j with
   |zero=>simp at hj hx;subst hj;subst hx;exact h
   |succ j=>simp at hj
  ·have hx':x=u:=by simpa using hx
   subst hx';exact h.cell_one (hc v (by rw[e1];simp))
 have hagg:∀ {cs:List AV} {vs:Array Value},v=.agg cs->u=.agg vs->u.cells.size=v.cells.length/\(∀(j:Nat) (a:AV) (x:Value),v.cells[j]? =some a->u.cells[j]? =some x->VR M F w a x)/\∀x∈u.cells.toList,x.oneCell'=true:=by
  rintro cs vs rfl rfl;cases h with
  |agg hl hh=>
   refine⟨hl,hh,fun x hx=> ?_⟩;obtain⟨j,hj,rfl⟩:=List.mem_iff_getElem.1 hx;have hj':j<vs.size:=by simpa[Value.cells]using hj
   have hjc:j<cs.length:=by rw[<-hl];exact hj'
   have:=hh j cs[j] vs[j] (Ar hjc) (A7 hj');have hcell:=hc cs[j] (by simp[AV.cells]);simpa[Value.cells]using this.cell_one hcell
 cases v with
 |agg cs=>
  cases h with
  |agg hl hh=>exact hagg rfl rfl
 |undef=>exact absurd (hc .undef (A1.2 rfl)) (by simp[AV.cell])
 |tup cs=>exact absurd (hc (.tup cs) (A1.2 rfl)) (by simp[AV.cell])
 |when c x=>exact absurd (hc (.when c x) (A1.2 rfl)) (by simp[AV.cell])
 |val x=>exact absurd (hc (.val x) (A1.2 rfl)) (by simp[AV.cell])
 | _=>cases h<;>exact single rfl rfl
section
variable {P : Program} {n : Nat} {s : ASt} {K : ASt -> Prop} {ty t : TypeId} {d : Nat} {x y : Operand}
theorem aAm{v:AV}(h:aev s x=some v)(hcb:v.cells.all AV.cell=true)(hd:d<n)(hK:∀r,Fresh r s.Y->K ⟨(d,.ptr r 0)::s.fr,(r,.box t v.cells)::s.Y⟩):Hop P n (.box t x) ty (some d) s [] K:=by
 have hc:∀a∈v.cells,a.cell=true:=Bw.1 hcb;intro M F N a w o ho _ hdst hr next Q hnext
 obtain⟨h1,h2,_⟩:=(hr.aev h).cells hc;have hrun:(execOp a.eval o).run P w=.ok (.value (.pointer (some ⟨w.heap.size,0,none⟩))) (w.alloc (.cells (a.eval x).cells t)):=by
  simp[execOp,ho,Instr.box,newVar,newRow]
 unfold Oper.wp;rw[hrun,Oper.upon_value,hdst];have hE:ER (fX M N (.row w.heap.size v.cells.length 1)) F (w.alloc (.cells (a.eval x).cells t)) N (.box t v.cells):=
  ⟨w.heap.size,_,bX _,Cl.new _ _ _,h1,fun j b u hj hu=>(h2 j b u hj hu).mono (fun r b h=>pL hr.st.fresh _ h) (fun _ h=>h) (fun g hg=>Below.heap_alloc _ _ _ (hr.st.flt g hg))⟩
 obtain⟨r1,e1,n1⟩:=hr.new_ (w':=w.alloc (.cells (a.eval x).cells t)) (.row w.heap.size v.cells.length 1) (.box t v.cells) (fun k hk=>Below.heap_alloc _ _ _ hk) ⟨rfl,rfl,rfl⟩ X
  (fun g hg=>by simp[bP,bX]at hg;omega) hE
 refine hnext _ F (N+1) _ _ ⟨(d,.ptr N 0)::s.fr,(N,.box t v.cells)::s.Y⟩ (r1.put hd (.ptr (bX _))) e1 ⟨rfl,rfl,rfl,X,fun k hk _=>Below.heap_alloc _ _ _ hk⟩ (hK N n1)
theorem EE{sz by_:Nat}{z:Value} [Tz P t sz by_ z] (hd:d<n)(hK:∀r,Fresh r s.Y->K ⟨(d,.ptr r 0)::s.fr,(r,.box t (z.cells.toList.map cM))::s.Y⟩):Hop P n (.alloc t) ty (some d) s [] K:=by
 intro M F N a w o ho _ hdst hr next Q hnext
 obtain⟨i,hi,hz,hs,_⟩:=Tz.parts P t;have hrun:(execOp a.eval o).run P w=.ok (.value (.pointer (some ⟨w.heap.size,0,none⟩))) (w.alloc (.cells z.cells t)):=by
  simp[execOp,ho,Instr.alloc,zeroValue,typeInfo,hi,hz,newVar,newRow]
 unfold Oper.wp;rw[hrun,Oper.upon_value,hdst];have hE:ER (fX M N (.row w.heap.size (z.cells.toList.map cM).length 1)) F (w.alloc (.cells z.cells t)) N (.box t (z.cells.toList.map cM)):=
  ⟨w.heap.size,_,bX _,Cl.new _ _ _,X,fun j b u hj hu=>by
   rw[Bg]at hj;have hu':z.cells.toList[j]? =some u:=by simpa using hu
   rw[hu']at hj;obtain rfl:=Option.some.inj hj;exact AP u⟩
 obtain⟨r1,e1,n1⟩:=hr.new_ (w':=w.alloc (.cells z.cells t)) (.row w.heap.size (z.cells.toList.map cM).length 1) (.box t (z.cells.toList.map cM)) (fun k hk=>Below.heap_alloc _ _ _ hk) ⟨rfl,rfl,rfl⟩ X
  (fun g hg=>by simp only[bP,bX,Option.some.injEq]at hg;omega) hE
 exact hnext _ F (N+1) _ _ ⟨(d,.ptr N 0)::s.fr,(N,.box t (z.cells.toList.map cM))::s.Y⟩ (r1.put hd (.ptr (bX _))) e1 ⟨rfl,rfl,rfl,X,fun k hk _=>Below.heap_alloc _ _ _ hk⟩ (hK N n1)
theorem FF{w:World}{sz by_:Nat}{z:Value} [Tz P t sz by_ z] {g o:Nat}{et:TypeId}{cur:Array Value}{v:Value}(hv:v.cells.size=sz)(hg:Cl w g et cur)(hfit:o+sz<=cur.size)(h1:∀x∈v.cells.toList,x.oneCell'=true):
  (Instr.storeAt t (.pointer (some ⟨g,o,none⟩)) v).run P w=.ok () (w.setRow g (cur.toList.take o++v.cells.toList++cur.toList.drop (o+sz)).toArray):=by
 obtain⟨i,hi,hz,hs,_⟩:=Tz.parts P t;obtain⟨fz,hg,hz⟩:=hg;have:=iF (P:=P) g o et fz v.cells.toList 0 cur w hg hz (by simp[hv];omega) h1;simp only[Nat.add_zero,Array.length_toList,hv]at this;simp[Instr.storeAt,Instr.sureAddr,storeVar,sizeOf,typeInfo,hi,hs,hv,this]
theorem xI{w:World}{g:Nat}{cs:Array Value}:Only (fun k=>k=g) w (w.setRow g cs):=⟨rfl,rfl,rfl,X,fun k _ hne=>setRow_other w g k cs hne⟩
theorem zZ{sz by_:Nat}{z:Value} [Tz P t sz by_ z] {r off:Nat}{bt:TypeId}{cs:List AV}{v:AV}(h:aev s x=some (.ptr r off))(hg:gM s.Y r=some (.box bt cs))(hv:aev s y=some v)(hcb:v.cells.all AV.cell=true)(hl:v.cells.length=sz)
  (hfit:off+sz<=cs.length) (hK:K ⟨s.fr,ED s.Y r (.box bt (cs.take off++v.cells++cs.drop (off+sz)))⟩):Hop P n (.store t x y) ty none s [r] K:=by
 have hc:∀a∈v.cells,a.cell=true:=Bw.1 hcb;intro M F N a w o ho _ hdst hr next Q hnext
 have hx:=hr.aev h;generalize hu:a.eval x=u at hx;have hmem:=bV hg;obtain⟨g,vs,hM',hcl,hsz,hvr⟩:=hr.st.ent _ hmem;obtain⟨h1,h2,h3⟩:=(hr.aev hv).cells hc;cases hx with
 |ptr hM=>
  have hg':=hM'.symm.trans hM;simp only[Option.some.injEq,Blk'.row.injEq]at hg';obtain⟨q1,_,_⟩:=hg';subst q1;have hrun:=FF (P:=P) (w:=w) (t:=t) (g:=g) (o:=off) (et:=bt) (cur:=vs) (v:=a.eval y) (by rw[h1,hl]) hcl (by rw[hsz];exact hfit) h3;have hex:(execOp a.eval o).run P w=.ok .skip (w.setRow g (vs.toList.take off++(a.eval y).cells.toList++vs.toList.drop (off+sz)).toArray):=by
   simp[execOp,ho,hu]at hrun⊢;simp[hrun]
  unfold Oper.wp;rw[hex,Oper.upon_skip,hdst];have hbl:bP M r=some g:=by simp[bP,hM]
  have hF:¬F g:=hr.st.nof g ⟨_,hmem,hbl⟩;have hSame:Same F w (w.setRow g (vs.toList.take off++(a.eval y).cells.toList++vs.toList.drop (off+sz)).toArray):=fun b hb=>setRow_other w g b _ (fun e=>hF (e▸hb))
  have hlen1:(cs.take off).length=off:=by rw[Bi];omega
  have hlen2:(vs.toList.take off).length=off:=by rw[Bi];simp;omega
  have hE:ER M F (w.setRow g (vs.toList.take off++(a.eval y).cells.toList++vs.toList.drop (off+sz)).toArray) r (.box bt (cs.take off++v.cells++cs.drop (off+sz))):=by
   refine⟨g,_, ?_,hcl.set_ (by simp[h1];omega),by simp[h1,hsz],fun j b u hj hu'=> ?_⟩
   ·rw[hM'];simp[hl];omega
   ·refine VR.mono (fun _ _ h=>h) (fun _ h=>h) hSame ?_;simp only[List.getElem?_toArray]at hu';rw[Aq]at hj hu';rcases Br j off with hjo|hjo
    ·rw[Ba U,A2 hjo]at hj;rw[Ba U,A2 hjo]at hu';exact hvr j b u hj (by simpa using hu')
    ·rw[A6 U,hlen1]at hj;rw[A6 U,hlen2]at hu';rcases Br (j-off) sz with hjs|hjs
     ·rw[Ba U]at hj;rw[Ba (by simp[h1,hl];omega)]at hu';exact h2 _ b u hj (by simpa using hu')
     ·rw[A6 U,hl,Bb]at hj;rw[A6 (by simp[h1,hl];omega),Bb]at hu';simp only[Array.length_toList,h1,hl]at hu';exact hvr _ b u hj (by simpa using hu')
  obtain⟨r1,e1,o1⟩:=hr.set_ hmem hbl xI hE;exact hnext M F N _ _ _ r1 e1 o1 hK
end
theorem lG{sz i j m:Nat}(hi:i<m)(hj:j<sz):i*sz+j<m*sz:=by
 calc i*sz+j<i*sz+sz:=by omega
  _=(i+1)*sz:=by rw[Nat.succ_mul]
  _ <=m*sz:=Bq _ U
theorem aFT{sz i j:Nat}(h0:0<sz)(hj:j<sz):(i*sz+j) / sz=i:=by rw[Nat.mul_comm,Nat.mul_add_div h0,Nat.div_eq_of_lt hj,Nat.add_zero]
theorem aAn{sz i j:Nat}(hj:j<sz):(i*sz+j)%sz=j:=by rw[Nat.mul_comm,Nat.mul_add_mod,Nat.mod_eq_of_lt hj]
def RowsAt (M:Mp) (F:Nat->Prop) (w:World) (sz:Nat) (es:List (List AV)) (us:List Value):Prop:=
 us.length=es.length*sz/\∀(i:Nat) (x:List AV) (j:Nat) (a:AV) (u:Value),es[i]? =some x->x[j]? =some a->us[i*sz+j]? =some u->VR M F w a u
section
variable {M : Mp} {F : Nat -> Prop} {w w' : World} {sz : Nat} {es : List (List AV)} {us : List Value}
theorem RowsAt.one (h:RowsAt M F w sz es us)(h0:0<sz)(hs:iY sz es):∀u∈us,u.oneCell'=true:=by
 intro u hu;obtain⟨q,hq,rfl⟩:=List.mem_iff_getElem.1 hu;have hi:q / sz<es.length:=(Nat.div_lt_iff_lt_mul h0).2 (by rw[<-h.1];exact hq);have hrow:=hs es[q / sz] (List.getElem_mem hi);have hj:q%sz<es[q / sz].length:=by rw[hrow.1];exact Nat.mod_lt _ h0
 have hdm:q / sz*sz+q%sz=q:=by rw[Nat.mul_comm];exact Nat.div_add_mod q _
 have:=h.2 (q / sz) es[q / sz] (q%sz) es[q / sz][q%sz] us[q] (Ar hi) (Ar hj) (by rw[hdm];exact Ar hq);exact this.cell_one (hrow.2 _ (List.getElem_mem hj))
theorem RowsAt.append {ys:List (List AV)}{vs:List Value}(h:RowsAt M F w sz es us)(hs:iY sz es)(k:RowsAt M F w sz ys vs):RowsAt M F w sz (es++ys) (us++vs):=by
 refine⟨by simp[h.1,k.1,Nat.add_mul],fun i x j a u hi hj hu=> ?_⟩;rcases Br i es.length with hlt|hge
 ·rw[Ba hlt]at hi;have hjs:j<sz:=by rw[<-(hs x (Ah hi)).1];exact(Ai.1 hj).1
  rw[Ba (by rw[h.1];exact lG hlt hjs)]at hu;exact h.2 i x j a u hi hj hu
 ·rw[A6 hge]at hi;have hle:es.length*sz<=i*sz:=Bq _ hge;rw[A6 (by rw[h.1];omega),h.1]at hu;refine k.2 (i-es.length) x j a u hi hj ?_;rw[Nat.sub_mul,show i*sz-es.length*sz+j=i*sz+j-es.length*sz by omega];exact hu
end
def Src (s:ASt) (x:Operand) (sz:Nat) (ys:List (List AV)):Prop:=
 (∃k,aev s x=some (.ro sz ys k))\/(∃z k,aev s x=some (.ro z [] k)/\ys=[])\/
  ∃t off len et es,aev s x=some (.own t off len)/\gM s.Y t=some (.arr et sz es)/\off+len<=es.length/\ys=(es.drop off).take len
theorem Src.reads {M:Mp}{F:Nat->Prop}{N n:Nat}{w:World}{s:ASt}{a:Act}(hr:Rel M F N n s a w){x:Operand}{sz:Nat}(h0:0<sz){ys:List (List AV)}(h:Src s x sz ys):
  ∃A c news,a.eval x=.slice A ys.length c/\aAl w w.heap.size sz A ys.length news/\RowsAt M F w sz ys news/\iY sz ys/\ys.length<=maxLen:=by
 have empty:∀ {A:Option Addr} {c:Nat},a.eval x=.slice A 0 c->ys=[]->∃A c news,a.eval x=.slice A ys.length c/\aAl w w.heap.size sz A ys.length news/\RowsAt M F w sz ys news/\iY sz ys/\ys.length<=maxLen:=by
  rintro A c he rfl;exact⟨A,c,[],he,⟨X,fun h=>by simp at h⟩,⟨X,fun i x j a u hi=>by simp at hi⟩,fun x hx=>by simp at hx,X⟩
 rcases h with⟨k,h⟩|⟨z,k,h,rfl⟩|⟨t,off,len,et,es,h,hg,hle,rfl⟩
 ·have hv:=hr.aev h;generalize hu:a.eval x=u at hv empty⊢;cases hv with
  |@ro _ _ b o _ cap us hb hs hc hrr hlc hm hf hn=>
   have hdm:∀q,q / sz*sz+q%sz=q:=fun q=>by rw[Nat.mul_comm];exact Nat.div_add_mod q _
   have hat:∀q,q<ys.length*sz->∃e v,ys[q / sz]? =some e/\e[q%sz]? =some v:=by
    intro q hq;have hi:q / sz<ys.length:=(Nat.div_lt_iff_lt_mul h0).2 hq;have hrow:=hs ys[q / sz] (List.getElem_mem hi);have hj:q%sz<ys[q / sz].length:=by rw[hrow.1];exact Nat.mod_lt _ h0
    exact⟨_,_,Ar hi,Ar hj⟩
   refine⟨_,_,(List.range (ys.length*sz)).map fun q=>us (q / sz) (q%sz),rfl,⟨X,fun _=>⟨_,rfl,hr.st.flt b hb,fun j u hj=> ?_⟩⟩,⟨X,fun i e j v u hi hj hu=> ?_⟩,hs,U⟩
   ·have hjl:j<ys.length*sz:=by have:=(Ai.1 hj).1;simpa using this
    have hu':us (j / sz) (j%sz)=u:=by simpa[hjl]using hj
    obtain⟨e,v,he,hv⟩:=hat j hjl;rw[Addr.add_lit,<-hu',<-hc _ e _ v he hv,By,hdm]
   ·have hi':=(Ai.1 hi).1;have hj':j<sz:=by rw[<-(hs e (Ah hi)).1];exact(Ai.1 hj).1
    have hq:=lG hi' hj';have hu':us i j=u:=by simpa[hq,aFT h0 hj',aAn hj']using hu
    rw[<-hu'];exact hrr i e j v hi hj
  |ro0 hm hA hf hn=>exact empty rfl rfl
 ·have hv:=hr.aev h;generalize hu:a.eval x=u at hv empty⊢;cases hv with
  |ro hb hs hc hrr hlc hm hf hn=>exact empty rfl rfl
  |ro0 hm hA hf hn=>exact empty rfl rfl
 ·have hv:=hr.aev h;generalize hu:a.eval x=u at hv empty⊢;obtain⟨_,hrows,h3⟩:=hr.st.ent _ (bV hg);cases hv with
  |own0=>exact empty rfl X
  |@own _ _ _ g cc _ hM hlc hm=>
   rcases h3 with⟨hv',_⟩|⟨g',c',vs,hM',hcl,hsz,hle',hmax,hvr⟩
   ·rw[hM]at hv';cases hv'
   ·have hg':=hM'.symm.trans hM;simp only[Option.some.injEq,Blk'.row.injEq]at hg';obtain⟨q1,q2,q3⟩:=hg';subst q1;subst q2;subst q3;have hylen:((es.drop off).take len).length=len:=by rw[Bi,Bv];omega
    have hfit:(off+len)*sz<=vs.size:=by rw[hsz];exact Bq _ hlc
    have hsplit:(off+len)*sz=off*sz+len*sz:=Nat.add_mul _ _ _;refine⟨_,_,(vs.toList.drop (off*sz)).take (len*sz),by rw[hylen],⟨?_,fun _=>⟨_,rfl,hcl.lt,fun j u hj=> ?_⟩⟩,⟨?_,fun i e j v u hi hj hu=> ?_⟩,fun e he=>hrows e (List.mem_of_mem_drop (Bf he)),U⟩
    ·rw[hylen,Bi,Bv];simp;omega
    ·have hjl:j<len*sz:=by have:=(Ai.1 hj).1;rw[Bi]at this;omega
     rw[A2 hjl,Bb]at hj;rw[Addr.add_lit,hcl.cell];simpa using hj
    ·rw[hylen,Bi,Bv];simp;omega
    ·have hi':=(Ai.1 hi).1;rw[hylen]at hi';rw[A2 hi',Bb]at hi;have hj':j<sz:=by rw[<-(hrows e (Ah hi)).1];exact(Ai.1 hj).1
     rw[A2 (lG hi' hj'),Bb]at hu;refine hvr (off+i) e j v u hi hj ?_;rw[Nat.add_mul,By];simpa using hu
section
variable {M : Mp} {F : Nat -> Prop} {N n : Nat} {w w' : World} {s : ASt} {a : Act}
theorem Rel.move_ (hr:Rel M F N n s a w){t:Nat}{x0 x:Ent}(ht:(t,x0)∈s.Y)(b:Blk')(ho:Only (fun k=>bP M t=some k) w w')
  (hblk:∀g,bP (fX M N b) N=some g->bP M t=some g\/w.heap.size<=g) (hE:ER (fX M N b) F w' N x):
  Rel (fX M N b) F (N+1) n ⟨s.fr,(N,x)::eD [t] s.Y⟩ a w'/\Ext M F N w s.Y (fX M N b) F (N+1) w' ((N,x)::eD [t] s.Y)/\
   Fresh N (eD [t] s.Y)/\Only (fun g=>∃q∈ [t],bP M q=some g) w w':=by
 have hmm:∀r b',M r=some b'->fX M N b r=some b':=fun r b' h=>pL hr.st.fresh b h
 have hSame:Same F w w':=fun g hg=>ho.block g (hr.st.flt g hg) (fun e=>hr.st.nof g ⟨_,ht,e⟩ hg)
 have hmem:∀p,p∈(eD [t] s.Y)->p∈s.Y/\p.1≠t:=fun p hp=>by simpa using fV hp
 have hnm:∀q∈s.Y,q.1≠N:=fun q hq=>by have:=hr.st.name hq;omega
 have hb:∀q∈s.Y,bP (fX M N b) q.1=bP M q.1:=fun q hq=>by unfold bP fX;rw[Db (hnm q hq)]
 have hext:Ext M F N w s.Y (fX M N b) F (N+1) w' ((N,x)::eD [t] s.Y):=by
  refine⟨hmm,fun _ h=>h,U,ho.mono fun i _ e=>⟨_,ht,e⟩, ?_,fun _ h=>.inl h, ?_⟩
  ·rintro g ⟨p,hp,hg⟩ hlt;rcases Av.1 hp with rfl|hp
   ·rcases hblk g hg with h|h
    ·exact⟨_,ht,h⟩
    ·omega
   ·exact⟨p,(hmem p hp).1,by rw[<-hb p (hmem p hp).1];exact hg⟩
  ·intro p hp hlt;rcases Av.1 hp with rfl|hp
   ·exact absurd hlt (Nat.lt_irrefl _)
   ·exact⟨p,(hmem p hp).1,rfl⟩
 have hdis:∀p∈s.Y,p.1≠t->∀g,bP (fX M N b) N=some g->bP M p.1=some g->False:=by
  intro p hp hne g h1 h2;rcases hblk g h1 with h|h
  ·exact hne (hr.st.inj p hp _ ht g h2 h)
  ·have:=(hr.st.ent p hp).lt h2;omega
 refine⟨⟨hr.size,hr.defers,fun i y hi=>(hr.fr i y hi).mono hmm (fun _ h=>h) hSame, ?_, ?_, ?_,fun b' hb'=>Nat.lt_of_lt_of_le (hr.st.flt b' hb') ho.size, ?_⟩,hext,fun q hq=>hnm q (hmem q hq).1,ho.mono fun i _ e=>⟨t,X,e⟩⟩
 ·intro p hp;rcases Av.1 hp with rfl|hp
  ·exact hE
  ·obtain⟨hp1,hp2⟩:=hmem p hp;exact ER.mono hmm (fun _ h=>h) hSame (fun g hg=>ho.block g ((hr.st.ent p hp1).lt hg) (fun e=>hp2 (hr.st.inj p hp1 _ ht g hg e))) (hr.st.ent p hp1)
 ·intro p hp q hq g hpg hqg;rcases Av.1 hp with rfl|hp<;>rcases Av.1 hq with rfl|hq
  ·rfl
  ·rw[hb q (hmem q hq).1]at hqg;exact(hdis q (hmem q hq).1 (hmem q hq).2 g hpg hqg).elim
  ·rw[hb p (hmem p hp).1]at hpg;exact(hdis p (hmem p hp).1 (hmem p hp).2 g hqg hpg).elim
  ·rw[hb p (hmem p hp).1]at hpg;rw[hb q (hmem q hq).1]at hqg;exact hr.st.inj p (hmem p hp).1 q (hmem q hq).1 g hpg hqg
 ·rintro g ⟨p,hp,hg⟩ hF;rcases Av.1 hp with rfl|hp
  ·rcases hblk g hg with h|h
   ·exact hr.st.nof g ⟨_,ht,h⟩ hF
   ·have:=hr.st.flt g hF;omega
  ·rw[hb p (hmem p hp).1]at hg;exact hr.st.nof g ⟨p,(hmem p hp).1,hg⟩ hF
 ·intro r hrN;unfold fX;rw[Db U];exact hr.st.fresh r U
theorem Rel.newArr (hr:Rel M F N n s a w){e:TypeId}{sz c:Nat}{es:List (List AV)}{vs:Array Value}(h0:0<sz)(hs:iY sz es)(hcl:w'.heap[w.heap.size]? =some (.cells vs e (0,0)))(hsame:∀k,k<w.heap.size->w'.heap[k]? =w.heap[k]?)
  (hos:w'.os=w.os/\w'.tape=w.tape/\w'.output=w.output) (hsz:w.heap.size<=w'.heap.size) (hvs:vs.size=c*sz) (hle:es.length<=c) (hm:c<=maxLen) (hrows:∀(i:Nat) (x:List AV) (j:Nat) (a:AV) (u:Value),es[i]? =some x->x[j]? =some a->vs[i*sz+j]? =some u->VR M F w a u):
  Rel (fX M N (.row w.heap.size c sz)) F (N+1) n ⟨s.fr,(N,.arr e sz es)::s.Y⟩ a w'/\Ext M F N w s.Y (fX M N (.row w.heap.size c sz)) F (N+1) w' ((N,.arr e sz es)::s.Y)/\Fresh N s.Y/\
   VR (fX M N (.row w.heap.size c sz)) F w' (.own N 0 es.length) (.slice (some ⟨w.heap.size,0,none⟩) es.length c):=by
 have hE:ER (fX M N (.row w.heap.size c sz)) F w' N (.arr e sz es):=⟨h0,hs,.inr ⟨w.heap.size,c,vs,bX _,.of hcl,hvs,hle,hm,fun i x j b u hi hj hu=>(hrows i x j b u hi hj hu).mono (fun r b' h=>pL hr.st.fresh _ h) (fun _ h=>h) (fun g hg=>hsame g (hr.st.flt g hg))⟩⟩
 obtain⟨r1,e1,n1⟩:=hr.new_ (w':=w') (.row w.heap.size c sz) (.arr e sz es) hsame hos hsz (fun g hg=>by simp only[bP,bX,Option.some.injEq]at hg;omega) hE;refine⟨r1,e1,n1, ?_⟩;have:=VR.own (M:=fX M N (.row w.heap.size c sz)) (F:=F) (w:=w') (t:=N) (off:=0) (len:=es.length) (bX _) U hm;simpa using this
end
section
variable {P : Program} {n : Nat} {s : ASt} {K : ASt -> Prop} {ty t : TypeId} {d : Nat} {x y : Operand} {pos : String} {af : Array Edge}
theorem HV{e:TypeId} [Ty P t (.slice e)] {sz by_:Nat}{zv:Value} [Tz P e sz by_ zv] (h0:0<sz)(hz:zv.cells.size=sz){z:Nat}{k:Rk}{ys:List (List AV)}(hb:aev s x=some (.ro z [] k))(hk:k≠ .any)(hy:Src s y sz ys)(hby:ys.length*by_<=140737488355328)(hd:d<n)
  (hK:∀r,Fresh r s.Y->K ⟨(d,.own r 0 ys.length)::s.fr,(r,.arr e sz ys)::s.Y⟩):Hop P n (.call { callee:=.builtin .append,args:=#[x,y],argTypes:=#[t,t] }) ty (some d) s [] K:=by
 intro M F N a w o ho hty hdst hr next Q hnext
 have hbase:=hr.aev hb;obtain⟨i,hi,hz0,hs0,hb0⟩:=Tz.parts P e;obtain⟨A,c,news,he,hreads,hrows,hok,hm⟩:=hy.reads hr h0;have hx:∃B,a.eval x=.slice B 0 0/\(B=none->a.eval x=.slice none 0 0):=by
  generalize a.eval x=u at hbase⊢;cases hbase with
  |ro hbb hs hc hrr hle hmm hf hn=>cases k<;>first|exact(hn rfl).elim|(have:=hf rfl;simp at this;subst this;exact⟨_,rfl,fun h=>by cases h⟩)|exact absurd rfl hk
  |ro0 hmm hA hf hn=>
   cases k with
   |nil=>obtain rfl:=hn rfl;obtain rfl:=hA rfl;exact⟨none,rfl,fun _=>rfl⟩
   |full=>obtain rfl:=hf rfl;exact⟨_,rfl,fun h=>by rw[h]⟩
   |any=>exact absurd rfl hk
 obtain⟨B,hx,hxn⟩:=hx;by_cases hlen:ys=[]
 ·subst hlen;have hrun:(execOp a.eval o).run P w=.ok (.value (.slice B 0 0)) w:=by
   have hfirst:(Builtin.firstCells i.size 0 (.slice A 0 c)).run P w=.ok #[] w:=by cases A<;>simp[Builtin.firstCells,loadCells,loadCellsFrom]
   simp only[execOp,ho,resolve,invoke,builtin,Sem.run_bind,Sem.run_pure,Result.andThen_ok,List.map_toArray,Bn,B3,hx,he,List.length_nil];have hap:(Builtin.append_ #[t,t] o.type #[.slice B 0 0,.slice A 0 c]).run P w=.ok (.slice B 0 0) w:=by
    cases B<;>simp[Builtin.append_,run_underlying (Ty.und (P:=P) (t:=t)),sizeOf,typeInfo,hi,Builtin.lenOf,hfirst,storeCells]
   rw[hap];rfl
  unfold Oper.wp;rw[hrun,Oper.upon_value,hdst];have hE:ER (fX M N .virt) F w N (.arr e sz []):=⟨h0,fun x hx=>by simp at hx,.inl ⟨bX _,rfl⟩⟩
  obtain⟨r1,e1,n1⟩:=hr.new_ (w':=w) .virt (.arr e sz []) (fun _ _=>rfl) ⟨rfl,rfl,rfl⟩ (A3 _) (fun g hg=>by simp[bP,bX]at hg) hE;exact hnext _ F (N+1) _ _ ⟨(d,.own N 0 0)::s.fr,(N,.arr e sz [])::s.Y⟩ (r1.put hd .own0) e1 (Only.refl _ _) (hK N n1)
 ·have hpos:0<ys.length:=by cases ys<;>first|exact absurd rfl hlen|simp
  obtain⟨ad,rfl,hadb,hcell⟩:=hreads.2 hpos;have hl:news.length=ys.length*i.size:=by rw[hs0];exact hrows.1
  have h63:((ys.length:Nat):Int)<=9223372036854775807:=by simp[maxLen]at hm;omega
  have h48:ys.length*i.bytes<=281474976710656:=by rw[hb0];omega
  have hap:(Builtin.append_ #[t,t] o.type #[.slice B 0 0,.slice (some ad) ys.length c]).run P w=.ok (.slice (some ⟨w.heap.size,0,none⟩) ys.length (grownCap w ys.length 0 e)) (w.drew.alloc (.cells (news.toArray++Builtin.zeroCells zv.cells (grownCap w ys.length 0 e-ys.length)) e)):=by
   cases B with
   |none=>exact run_append_nil (P:=P) w t o.type e i zv (Ty.und (P:=P) (t:=t)) hi hz0 ad ys.length c news hl hcell hpos h63 h48
   |some b=>
    have hn0:Builtin.nextslicecap (0+ys.length) 0*i.bytes<=281474976710656:=by
     rw[B2];unfold Builtin.nextslicecap;rw[Dc U];exact h48
    have:=run_append_grow (P:=P) w t o.type e i zv (Ty.und (P:=P) (t:=t)) hi hz0 b 0 0 [] X (fun j v h=>by simp at h) ad ys.length c news hl hcell U (by simpa using h63) hn0;simpa using this
  have hrun:(execOp a.eval o).run P w=.ok (.value (.slice (some ⟨w.heap.size,0,none⟩) ys.length (grownCap w ys.length 0 e))) (w.drew.alloc (.cells (news.toArray++Builtin.zeroCells zv.cells (grownCap w ys.length 0 e-ys.length)) e)):=by
   simp only[execOp,ho,resolve,invoke,builtin,Sem.run_bind,Sem.run_pure,Result.andThen_ok,List.map_toArray,Bn,B3,hx,he,hap]
  have hge:=grownCap_ge w ys.length 0 e;have hcm:=grownCap_le_maxLen w ys.length 0 e hm;unfold Oper.wp;rw[hrun,Oper.upon_value,hdst];obtain⟨r1,e1,n1,v1⟩:=hr.newArr (w':=w.drew.alloc (.cells (news.toArray++Builtin.zeroCells zv.cells (grownCap w ys.length 0 e-ys.length)) e)) (e:=e) (c:=grownCap w ys.length 0 e) h0 hok (heap_alloc_new w.drew _) (fun k hk=>heap_alloc_old w.drew _ hk) ⟨rfl,rfl,rfl⟩ X
   (by rw[Array.size_append,List.size_toArray,size_zeroCells,hz,hrows.1,<-Nat.add_mul];congr 1;omega) hge hcm
   (fun i' x' j b u hi' hj hu=>by
    have hil:=(Ai.1 hi').1;have hjs:j<sz:=by rw[<-(hok x' (Ah hi')).1];exact(Ai.1 hj).1
    rw[Array.getElem?_append_left (by simp;rw[hrows.1];exact lG hil hjs)]at hu;exact hrows.2 i' x' j b u hi' hj (by simpa using hu))
  exact hnext _ F (N+1) _ _ ⟨(d,.own N 0 ys.length)::s.fr,(N,.arr e sz ys)::s.Y⟩ (r1.put hd v1) e1 ⟨rfl,rfl,rfl,X,fun k hk _=>heap_alloc_old w.drew _ hk⟩ (hK N n1)
theorem rI{e:TypeId} [Ty P t (.slice e)] {sz by_:Nat}{zv:Value} [Tz P e sz by_ zv] (hz:zv.cells.size=sz){r len:Nat}{es ys:List (List AV)}(hb:aev s x=some (.own r 0 len))(hg:gM s.Y r=some (.arr e sz es))(hlen:len<=es.length)(hy:Src s y sz ys)
  (hmax:len+ys.length<=maxLen) (hby:(len+ys.length)*by_<=140737488355328) (hd:d<n)
  (hK:∀r',Fresh r' (eD [r] s.Y)->K ⟨(d,.own r' 0 (len+ys.length))::s.fr,(r',.arr e sz (es.take len++ys))::eD [r] s.Y⟩):Hop P n (.call { callee:=.builtin .append,args:=#[x,y],argTypes:=#[t,t] }) ty (some d) s [r] K:=by
 intro M F N a w o ho hty hdst hr next Q hnext
 have hbase:=hr.aev hb;have hmem:=bV hg;obtain⟨h0,hrowsE,h3⟩:=hr.st.ent _ hmem;obtain⟨i,hi,hz0,hs0,hb0⟩:=Tz.parts P e;obtain⟨A,c,news,he,hreads,hrows,hok,hm⟩:=hy.reads hr h0;have hokT:iY sz (es.take len):=fun x hx=>hrowsE x (Bf hx)
 have hlenT:(es.take len).length=len:=by rw[Bi];omega
 --what the row holds
 have hown:∃v xs,a.eval x=v/\rowG w 0 e sz v len xs/\RowsAt M F w sz (es.take len) xs/\(∀g,v.ownBlock=some g->bP M r=some g)\/(∃A,a.eval x=.slice A 0 0/\len=0/\v=.slice A 0 0/\xs=[]):=by
  generalize a.eval x=u at hbase⊢;cases hbase with
  |own0=>exact⟨_,[],.inr ⟨_,rfl,rfl,rfl,rfl⟩⟩
  |own hM hle hmm=>
   rcases h3 with⟨hv',_⟩|⟨g,cc,vs,hM',hcl,hsz,hle',hmax',hvr⟩
   ·rw[hM]at hv';cases hv'
   ·have hg':=hM'.symm.trans hM;simp only[Option.some.injEq,Blk'.row.injEq]at hg';obtain⟨q1,q2,q3⟩:=hg';subst q1;subst q2;subst q3;obtain⟨fz,hcl,hfz⟩:=hcl;have hfit:len*sz<=vs.size:=by rw[hsz];exact Bq _ U
    refine⟨_,vs.toList.take (len*sz),.inl ⟨rfl,⟨by rw[Bi];simp;omega,.inr ⟨g,cc,vs,fz,X,Am _,hcl,hfz,U,hmm,hsz,rfl⟩⟩,⟨by rw[hlenT,Bi];simp;omega,fun i' x' j b u hi' hj hu=> ?_⟩,fun g2 hg2=> ?_⟩⟩
    ·have hil:=(Ai.1 hi').1;rw[hlenT]at hil;have hjs:j<sz:=by rw[<-(hokT x' (Ah hi')).1];exact(Ai.1 hj).1
     rw[A2 hil]at hi';rw[A2 (lG hil hjs)]at hu;exact hvr i' x' j b u hi' hj (by simpa using hu)
    ·simp only[Value.ownBlock,Option.some.injEq]at hg2;subst hg2;simp[bP,hM]
 obtain⟨v,xs,hown|⟨B,hx,rfl,rfl,rfl⟩⟩:=hown
 ·obtain⟨hx,hown,hrT,hblk⟩:=hown;obtain⟨v',w',hrun,ho',hg',hbl⟩:=GC (P:=P) w 0 t o.type e i zv sz by_ (Ty.und (P:=P) (t:=t)) hi hz0 hs0 hb0 hz h0 v len xs hown w.heap.size A ys.length c news hreads (hrows.one h0 hok) hmax hby (Am _)
  have hex:(execOp a.eval o).run P w=.ok (.value v') w':=by
   simp only[execOp,ho,resolve,invoke,builtin,Sem.run_bind,Sem.run_pure,Result.andThen_ok,List.map_toArray,Bn,B3,hx,he,hrun]
  unfold Oper.wp;rw[hex,Oper.upon_value,hdst];have honly:Only (fun k=>bP M r=some k) w w':=⟨hg'.os,hg'.tape,hg'.output,hg'.size,fun k hk hne=>hg'.block k hk (fun e=>hne (hblk k e.symm))⟩
  have hSame:Same F w w':=fun g hgF=>honly.block g (hr.st.flt g hgF) (fun e=>hr.st.nof g ⟨_,hmem,e⟩ hgF)
  have hcat:RowsAt M F w sz (es.take len++ys) (xs++news):=hrT.append hokT hrows;have hokC:iY sz (es.take len++ys):=fun x hx=>(A8.1 hx).elim (hokT x) (hok x)
  rcases ho'.2 with⟨rfl,hz'⟩|⟨g2,cap,cur,iD,rfl,_,hg2,hfz2,hn2,hm2,hs2,ht2⟩
  ·have hl0:len=0:=by omega
   have hy0:ys=[]:=List.eq_nil_of_length_eq_zero U;subst hl0;subst hy0;have hE:ER (fX M N .virt) F w' N (.arr e sz (es.take 0++ [])):=⟨h0,fun x hx=>by simp at hx,.inl ⟨bX _,X⟩⟩
   obtain⟨r1,e1,n1,o1⟩:=hr.move_ hmem .virt honly (fun g hg=>by simp[bP,bX]at hg) hE;exact hnext _ F (N+1) _ _ ⟨(d,.own N 0 (0+0))::s.fr,_⟩ (r1.put hd .own0) e1 o1 (hK N n1)
  ·have hE:ER (fX M N (.row g2 cap sz)) F w' N (.arr e sz (es.take len++ys)):=by
    refine⟨h0,hokC,.inr ⟨g2,cap,cur,bX _,⟨iD,hg2,hfz2⟩,hs2,by rw[Ao,hlenT];exact hn2,hm2,fun i' x' j b u hi' hj hu=> ?_⟩⟩;refine VR.mono (fun r b' h=>pL hr.st.fresh _ h) (fun _ h=>h) hSame (hcat.2 i' x' j b u hi' hj ?_);have hil:=(Ai.1 hi').1;rw[Ao,hlenT]at hil;have hjs:j<sz:=by rw[<-(hokC x' (Ah hi')).1];exact(Ai.1 hj).1
    rw[<-ht2,A2 (lG hil hjs)];simpa using hu
   obtain⟨r1,e1,n1,o1⟩:=hr.move_ hmem (.row g2 cap sz) honly (fun g hg=>by
    simp only[bP,bX,Option.some.injEq]at hg;subst hg;rcases hbl with h|h
    ·exact .inl (hblk g2 (h.symm.trans rfl))
    ·simp only[Value.ownBlock,Option.some.injEq]at h;exact .inr U) hE
   have hv:=VR.own (M:=fX M N (.row g2 cap sz)) (F:=F) (w:=w') (t:=N) (off:=0) (len:=len+ys.length) (bX _) U hm2;simp only[Nat.zero_mul,Nat.sub_zero]at hv;exact hnext _ F (N+1) _ _ ⟨(d,.own N 0 (len+ys.length))::s.fr,_⟩ (r1.put hd hv) e1 o1 (hK N n1)
 ·--a row that has no block yet
  have hes:es.take 0=[]:=by simp
  by_cases hlen0:ys=[]
  ·subst hlen0;have hfirst:(Builtin.firstCells i.size 0 (.slice A 0 c)).run P w=.ok #[] w:=by cases A<;>simp[Builtin.firstCells,loadCells,loadCellsFrom]
   have hap:(Builtin.append_ #[t,t] o.type #[.slice B 0 0,.slice A 0 c]).run P w=.ok (.slice B 0 0) w:=by
    cases B<;>simp[Builtin.append_,run_underlying (Ty.und (P:=P) (t:=t)),sizeOf,typeInfo,hi,Builtin.lenOf,hfirst,storeCells]
   have hex:(execOp a.eval o).run P w=.ok (.value (.slice B 0 0)) w:=by
    simp only[execOp,ho,resolve,invoke,builtin,Sem.run_bind,Sem.run_pure,Result.andThen_ok,List.map_toArray,Bn,B3,hx,he,List.length_nil,hap]
   unfold Oper.wp;rw[hex,Oper.upon_value,hdst];have hE:ER (fX M N .virt) F w N (.arr e sz (es.take 0++ [])):=⟨h0,fun x hx=>by simp at hx,.inl ⟨bX _,X⟩⟩
   obtain⟨r1,e1,n1,o1⟩:=hr.move_ hmem .virt (Only.refl _ w) (fun g hg=>by simp[bP,bX]at hg) hE;exact hnext _ F (N+1) _ _ ⟨(d,.own N 0 (0+0))::s.fr,_⟩ (r1.put hd .own0) e1 o1 (hK N n1)
  ·have hpos:0<ys.length:=by cases ys<;>first|exact absurd rfl hlen0|simp
   obtain⟨ad,rfl,hadb,hcell⟩:=hreads.2 hpos;have hl:news.length=ys.length*i.size:=by rw[hs0];exact hrows.1
   have h63:((ys.length:Nat):Int)<=9223372036854775807:=by simp[maxLen]at hm;omega
   have h48:ys.length*i.bytes<=281474976710656:=by rw[hb0];simp only[B2]at hby;omega
   have hap:(Builtin.append_ #[t,t] o.type #[.slice B 0 0,.slice (some ad) ys.length c]).run P w=.ok (.slice (some ⟨w.heap.size,0,none⟩) ys.length (grownCap w ys.length 0 e)) (w.drew.alloc (.cells (news.toArray++Builtin.zeroCells zv.cells (grownCap w ys.length 0 e-ys.length)) e)):=by
    cases B with
    |none=>exact run_append_nil (P:=P) w t o.type e i zv (Ty.und (P:=P) (t:=t)) hi hz0 ad ys.length c news hl hcell hpos h63 h48
    |some b=>
     have hn0:Builtin.nextslicecap (0+ys.length) 0*i.bytes<=281474976710656:=by
      rw[B2];unfold Builtin.nextslicecap;rw[Dc U];exact h48
     have:=run_append_grow (P:=P) w t o.type e i zv (Ty.und (P:=P) (t:=t)) hi hz0 b 0 0 [] X (fun j v h=>by simp at h) ad ys.length c news hl hcell U (by simpa using h63) hn0;simpa using this
   have hex:(execOp a.eval o).run P w=.ok (.value (.slice (some ⟨w.heap.size,0,none⟩) ys.length (grownCap w ys.length 0 e))) (w.drew.alloc (.cells (news.toArray++Builtin.zeroCells zv.cells (grownCap w ys.length 0 e-ys.length)) e)):=by
    simp only[execOp,ho,resolve,invoke,builtin,Sem.run_bind,Sem.run_pure,Result.andThen_ok,List.map_toArray,Bn,B3,hx,he,hap]
   have hge:=grownCap_ge w ys.length 0 e;have hcm:=grownCap_le_maxLen w ys.length 0 e hm;unfold Oper.wp;rw[hex,Oper.upon_value,hdst];have honly:Only (fun k=>bP M r=some k) w (w.drew.alloc (.cells (news.toArray++Builtin.zeroCells zv.cells (grownCap w ys.length 0 e-ys.length)) e)):=⟨rfl,rfl,rfl,X,fun k hk _=>heap_alloc_old w.drew _ hk⟩
   have hE:ER (fX M N (.row w.heap.size (grownCap w ys.length 0 e) sz)) F (w.drew.alloc (.cells (news.toArray++Builtin.zeroCells zv.cells (grownCap w ys.length 0 e-ys.length)) e)) N (.arr e sz (es.take 0++ys)):=by
    rw[hes,Ay];refine⟨h0,hok,.inr ⟨w.heap.size,grownCap w ys.length 0 e,_,bX _,.of (heap_alloc_new w.drew _),by rw[Array.size_append,List.size_toArray,size_zeroCells,hz,hrows.1,<-Nat.add_mul];congr 1;omega,hge,hcm,fun i' x' j b u hi' hj hu=> ?_⟩⟩;have hil:=(Ai.1 hi').1;have hjs:j<sz:=by rw[<-(hok x' (Ah hi')).1];exact(Ai.1 hj).1
    rw[Array.getElem?_append_left (by simp;rw[hrows.1];exact lG hil hjs)]at hu;exact VR.mono (w:=w) (M:=M) (fun r b' h=>pL hr.st.fresh _ h) (fun _ h=>h) (fun g hg=>heap_alloc_old w.drew _ (hr.st.flt g hg)) (hrows.2 i' x' j b u hi' hj (by simpa using hu))
   obtain⟨r1,e1,n1,o1⟩:=hr.move_ hmem (.row w.heap.size (grownCap w ys.length 0 e) sz) honly (fun g hg=>by
    simp only[bP,bX,Option.some.injEq]at hg;exact .inr U) hE
   have hv:=VR.own (M:=fX M N (.row w.heap.size (grownCap w ys.length 0 e) sz)) (F:=F) (w:=w.drew.alloc (.cells (news.toArray++Builtin.zeroCells zv.cells (grownCap w ys.length 0 e-ys.length)) e)) (t:=N) (off:=0) (len:=0+ys.length) (bX _) U hcm;rw[Nat.zero_mul,Nat.sub_zero]at hv;have hv':∀q,q=ys.length->VR (fX M N (.row w.heap.size (grownCap w ys.length 0 e) sz)) F (w.drew.alloc (.cells (news.toArray++Builtin.zeroCells zv.cells (grownCap w ys.length 0 e-ys.length)) e)) (.own N 0 (0+ys.length)) (.slice (some ⟨w.heap.size,0,none⟩) q (grownCap w ys.length 0 e)):=by
    intro q hq;rw[show q=0+ys.length by omega];exact hv
   exact hnext _ F (N+1) _ _ ⟨(d,.own N 0 (0+ys.length))::s.fr,_⟩ (r1.put hd (hv' _ rfl)) e1 o1 (hK N n1)
end
section
variable {P : Program} {ops : Array Oper} {Q : Exit -> Act -> World -> Prop} {md : Region.Mode}
def uU (P:Program) (md:Region.Mode) (ops:Array Oper) (Q:Exit->Act->World->Prop) (H:Nat->Nat->Prop):Nat->Array Bool->Act->World->Prop
 |0,listed,a,w=>Region.ready md ops listed=[]/\Q .normal a w
 |fuel+1,listed,a,w=>
  (Region.ready md ops listed=[]->Q .normal a w)/\
  ∀i∈Region.ready md ops listed,wpOp P ops Q i (fun a' w'=>(∀g,H i g->g<w.heap.size->w'.heap[g]? =w.heap[g]?)/\uU P md ops Q H fuel (listed.setIfInBounds i true) a' w') a w
theorem HW{H:Nat->Nat->Prop}:∀(fuel:Nat) (listed:Array Bool) (a:Act) (w:World),uU P md ops Q H fuel listed a w->wpAny P md ops Q fuel listed a w
 |0,_,_,_,h=>h
 |fuel+1,_,_,_,h=>⟨h.1,fun i hi=>wpOp_mono (fun a' w' h'=>HW fuel _ a' w' h'.2) (h.2 i hi)⟩
theorem XL{Q':Exit->Act->World->Prop}{i:Nat}{a:Act}{w:World}{K K':Act->World->Prop}(h:∀a w,K a w->K' a w)(hQ:∀e a w,Q e a w->Q' e a w)(hh:wpOp P ops Q i K a w):wpOp P ops Q' i K' a w:=by
 unfold wpOp at*;split
 ·exact h _ _ (by simpa[*]using hh)
 ·rename_i o ho
  simp only[ho]at hh;split
  ·rename_i hw
   simp only[hw,Dd]at hh;exact hh.imp (Oper.wp_monoQ h hQ) (fun⟨h1,a0,w0,h2⟩=>⟨h1,a0,w0,hQ _ _ _ h2⟩)
  ·rename_i hw
   simp only[hw]at hh;exact h _ _ hh
theorem jV{H H':Nat->Nat->Prop}{Q':Exit->Act->World->Prop}(hQ:∀e a w,Q e a w->Q' e a w)(hH:∀j g,H' j g->H j g):∀(fuel:Nat) (listed:Array Bool) (a:Act) (w:World),uU P md ops Q H fuel listed a w->uU P md ops Q' H' fuel listed a w
 |0,_,_,_,h=>⟨h.1,hQ _ _ _ h.2⟩
 |fuel+1,_,_,_,h=>⟨fun hr=>hQ _ _ _ (h.1 hr),fun i hi=>XL (fun a' w' h'=>⟨fun g hg=>h'.1 g (hH i g hg),jV hQ hH fuel _ a' w' h'.2⟩) hQ (h.2 i hi)⟩
theorem ON{C:World->Prop}{H H':Nat->Nat->Prop}{i:Nat}{oi:Oper}{v:Value}(hi:ops[i]? =some oi)(hsel:∀(j:Nat) (o:Oper) cs b,ops[j]? =some o->o.op≠ .select cs b)
  (hQ:∀c a w,Q (.panic c) (a.put oi.dst v) w->Q (.panic c) a w) (hHH:∀j g,H j g->H' j g)
  (hE:∀(j:Nat) (oj:Oper) (w w':World),ops[j]? =some oj->j≠i->(∀e∈oj.after,Region.binds md e=true->e.on≠i)->(∀g,H' j g->g<w.heap.size->w'.heap[g]? =w.heap[g]?)->C w->C w'):
  ∀(fuel:Nat) (listed:Array Bool) (a:Act) (w:World),
   (∀j oj,ops[j]? =some oj->j≠i->listed.getD j true=false->(∀e∈oj.after,Region.binds md e=true->e.on≠i)->oi.apart ops oj=true)->
   i∈Region.ready md ops listed->YieldsIf P ops C oi v a->C w->
   uU P md ops Q H' fuel (listed.setIfInBounds i true) (a.put oi.dst v) w->uU P md ops Q H (fuel+1) listed a w:=by
 intro fuel
 induction fuel with
 |zero=>
  intro listed a w _ hr hy hS HH;refine⟨fun h=>(by rw[h]at hr;cases hr),fun j hj=> ?_⟩;by_cases hji:j=i
  ·subst hji;exact hy.wpOp hi hS ⟨fun _ _ _=>rfl,HH⟩
  ·have:=ready_mono hj hji;rw[HH.1]at this;cases this
 |succ fuel ih=>
  intro listed a w hfree hr hy hS HH;refine⟨fun h=>(by rw[h]at hr;cases hr),fun j hj=> ?_⟩;by_cases hji:j=i
  ·subst hji;exact hy.wpOp hi hS ⟨fun _ _ _=>rfl,jV (fun _ _ _ h=>h) hHH _ _ _ _ HH⟩
  ·have h1:=HH.2 j (ready_mono hj hji);obtain⟨hjun,oj,hoj,hall⟩:=mem_ready.1 hj;have hnot:∀e∈oj.after,Region.binds md e=true->e.on≠i:=fun e he hb heq=>by
    have h1:=hall e he hb;have h0:=(mem_ready.1 hr).1;rw[heq]at h1;rcases Br i listed.size with h'|h'
    ·simp[h']at h0 h1;rw[h0]at h1;cases h1
    ·simp[Array.getElem?_eq_none h']at h1
   have h2:=wpOp_putIf hoj (hfree j oj hoj hji hjun hnot) (fun cs b=>hsel i oi cs b hi) (fun cs b=>hsel j oj cs b hoj) hQ hy h1;have hfree':∀k ok,ops[k]? =some ok->k≠i->(listed.setIfInBounds j true).getD k true=false->
     (∀e∈ok.after,Region.binds md e=true->e.on≠i)->oi.apart ops ok=true:=fun k ok hk hki hun hno=>by
    refine hfree k ok hk hki ?_ hno;by_cases hjk:j=k
    ·subst hjk;exact hjun
    ·rw[getD_set_ne true hjk]at hun;exact hun
   refine wpOp_mono (fun a' w' h3=> ?_) h2;have hSw:C w':=hE j oj w w' hoj hji hnot h3.2.1 hS;refine⟨fun g hg=>h3.2.1 g (hHH j g hg),ih (listed.setIfInBounds j true) a' w' hfree' (ready_mono hr (Ne.symm hji)) h3.1 hSw ?_⟩;rw[Array.setIfInBounds_comm _ _ hji];exact h3.2.2
end
def sZ (ops:Array Oper) (held:List (Nat×List Nat)) (j:Nat):List Nat:=
 held.flatMap fun p=>if((ops[j]?).map fun o=>o.after.any fun e=>Region.binds .any e&&e.on==p.1).getD false then []else p.2
def Hd (ops:Array Oper) (M:Mp) (F:Nat->Prop) (held:List (Nat×List Nat)) (j g:Nat):Prop:=F g\/∃r∈sZ ops held j,bP M r=some g
def HX (ops:Array Oper):Array Bool->List (Nat×Bool)->Bool
 |listed,[]=>(Region.ready .any ops listed).isEmpty
 |listed,(i,l)::rest=>decide (ops.size<=i)||((if l then(Region.ready .any ops listed).contains i&&Region.free .any ops listed i else Region.ready .any ops listed==[i])&&HX ops (listed.setIfInBounds i true) rest)
theorem yZ{ops:Array Oper}{listed:Array Bool}{i:Nat}{l:Bool}{rest:List (Nat×Bool)}{o:Oper}(hi:ops[i]? =some o)(hc:HX ops listed ((i,l)::rest)=true):
  (if l then(Region.ready .any ops listed).contains i&&Region.free .any ops listed i else Region.ready .any ops listed==[i])=true/\HX ops (listed.setIfInBounds i true) rest=true:=by
 have hlt:¬ops.size<=i:=by have:=(Array.getElem?_eq_some_iff.1 hi).1;omega
 rw[HX,decide_eq_false hlt,Bool.false_or,Ap]at hc;exact hc
def RD (P:Program) (n:Nat) (ops:Array Oper) (listed:Array Bool) (todo:List (Nat×Bool)) (held:List (Nat×List Nat)) (s:ASt) (K:ASt->Prop):Prop:=
 Region.noSelect ops=true->HX ops listed todo=true->∀(M:Mp) (F:Nat->Prop) (N:Nat) (a:Act) (w:World),Rel M F N n s a w->
  uU P .any ops (PostN n M F N w s.Y K) (Hd ops M F held) todo.length listed a w
section
variable {P : Program} {n : Nat} {ops : Array Oper} {listed : Array Bool} {todo : List (Nat × Bool)} {held : List (Nat × List Nat)} {s : ASt} {K : ASt -> Prop} {op : Op} {ty : TypeId} {pos : String} {af : Array Edge} {i : Nat}
theorem aJz(h:K s):RD P n ops listed [] held s K:=by
 intro _ hc M F N a w hr;have:Region.ready .any ops listed=[]:=by simpa[HX]using hc
 exact⟨this,M,F,N,s,hr,Ext.refl _ _ _ _ _,h⟩
theorem GY{d:Nat}{g:Option (Nat×Bool)}{v:AV}{rs:List Nat}(hrs:∀r∈rs,∃p∈s.Y,p.1=r)(hi:ops[i]? =some ⟨some d,op,ty,pos,af,g⟩)(hd:d<n)
  (hy:∀(M:Mp) (F:Nat->Prop) (N:Nat) (a:Act) (w:World),Rel M F N n s a w->∃u,VR M F w v u/\YieldsIf P ops (fun w'=>∀b,(F b\/∃r∈rs,bP M r=some b)->w'.heap[b]? =w.heap[b]?) ⟨some d,op,ty,pos,af,g⟩ u a)
  (hK:RD P n ops (listed.setIfInBounds i true) todo ((i,rs)::held) (s.put d v) K):RD P n ops listed ((i,true)::todo) held s K:=by
 intro hsel hc M F N a w hr;obtain⟨hc0,hc3⟩:=yZ hi hc;simp only[Dd,Ap]at hc0;obtain⟨hc1,hc2⟩:=hc0;obtain⟨u,hu,hyy⟩:=hy M F N a w hr;have hrest:=hK hsel hc3 M F N _ w (hr.put hd hu);refine ON (H':=Hd ops M F ((i,rs)::held)) hi (Region.noSelect_spec hsel) (fun c a w h=>h) ?_ ?_ todo.length listed a w (Region.free_spec hi hc2) (by simpa using hc1) hyy (fun _ _=>rfl) hrest
 ·rintro j g (h|⟨r,hr,hg⟩)
  ·exact .inl h
  ·exact .inr ⟨r,by simp only[sZ,List.flatMap_cons]at hr⊢;exact List.mem_append_right _ hr,hg⟩
 ·intro j oj w1 w2 hj _ hno hH hC b hb;have hlt:b<w.heap.size:=by
   rcases hb with hb|⟨r,hrr,hg⟩
   ·exact hr.st.flt b hb
   ·obtain⟨p,hp,rfl⟩:=hrs r hrr;exact(hr.st.ent p hp).lt hg
  have hlt1:b<w1.heap.size:=by
   have h1:=hC b hb;rw[A7 hlt]at h1;exact(Array.getElem?_eq_some_iff.1 h1).1
  refine(hH b ?_ hlt1).trans (hC b hb);rcases hb with hb|⟨r,hr,hg⟩
  ·exact .inl hb
  ·refine .inr ⟨r, ?_,hg⟩;simp only[sZ,List.flatMap_cons];refine List.mem_append_left _ ?_;have hw:((ops[j]?).map fun o=>o.after.any fun e=>Region.binds .any e&&e.on==i).getD false=false:=by
    rw[hj];simp only[Option.map_some,Bz];rw[Bool.eq_false_iff];intro hany;obtain⟨e,he,hb⟩:=Array.any_eq_true'.1 hany;simp only[Ap,beq_iff_eq]at hb;exact hno e he hb.1 hb.2
   rw[Db (by rw[hw];simp)];exact hr
theorem aCW{d:Nat}{v:AV}{rs:List Nat}(hi:ops[i]? =some ⟨some d,op,ty,pos,af,none⟩)(h:Lop P op ty s true v rs)(hd:d<n)(hK:RD P n ops (listed.setIfInBounds i true) todo ((i,rs)::held) (s.put d v) K):
  RD P n ops listed ((i,true)::todo) held s K:=by
 refine GY h.1 hi hd (fun M F N a w hr=> ?_) hK;obtain⟨u,hu,hrun⟩:=h.2 M F N n a w hr rfl;exact⟨u,hu,.inl ⟨rfl,fun w' hw=>hrun w' _ rfl rfl hw⟩⟩
theorem RY{d j dj:Nat}{want b:Bool}{v:AV}{rs:List Nat}(hi:ops[i]? =some ⟨some d,op,ty,pos,af,some (j,want)⟩)(hj:(ops[j]?).bind (·.dst)=some dj)(hb:dR s.fr dj=some (.bool b))(h:Lop P op ty s (b==want) v rs)(hd:d<n)
  (hK:RD P n ops (listed.setIfInBounds i true) todo ((i,rs)::held) (s.put d (.when (b==want) v)) K):RD P n ops listed ((i,true)::todo) held s K:=by
 refine GY h.1 hi hd (fun M F N a w hr=> ?_) hK;have hw:=oR (o:=⟨some d,op,ty,pos,af,some (j,want)⟩) hr rfl hj hb;by_cases hbw:(b==want)=true
 ·obtain⟨u,hu,hrun⟩:=h.2 M F N n a w hr hbw;exact⟨u,.when (fun _=>hu) (fun h=>by rw[hbw]at h;cases h),.inl ⟨hw.trans hbw,fun w' hww=>hrun w' _ rfl rfl hww⟩⟩
 ·simp only[Bool.not_eq_true]at hbw;exact⟨_,.when (fun h=>by rw[hbw]at h;cases h) (fun _=>rfl),.inr ⟨hw.trans hbw,rfl⟩⟩
theorem OO{d j dj:Nat}{want:Bool}{v:AV}{rs:List Nat}(hi:ops[i]? =some ⟨some d,op,ty,pos,af,some (j,want)⟩)(hj:(ops[j]?).bind (·.dst)=some dj)(hb:dR s.fr dj=some (.bool want))(h:Lop P op ty s true v rs)(hd:d<n)
  (hK:RD P n ops (listed.setIfInBounds i true) todo ((i,rs)::held) (s.put d v) K):RD P n ops listed ((i,true)::todo) held s K:=by
 refine GY h.1 hi hd (fun M F N a w hr=> ?_) hK;have hw:=oR (o:=⟨some d,op,ty,pos,af,some (j,want)⟩) hr rfl hj hb;obtain⟨u,hu,hrun⟩:=h.2 M F N n a w hr rfl;exact⟨u,hu,.inl ⟨hw.trans (by cases want<;>rfl),fun w' hww=>hrun w' _ rfl rfl hww⟩⟩
theorem OP{M:Mp}{F:Nat->Prop}{N:Nat}{a:Act}{w:World}(hr:Rel M F N n s a w){j dj:Nat}{x:AV}{c:Bool}(hj:(ops[j]?).bind (·.dst)=some dj)(hb:dR s.fr dj=some (.when c x))(hc:c=false):yielded ops a.tmps j=none:=by
 have h0:=hr.fr dj _ hb;cases h0 with
 |when _ h0=>
  have h0:=h0 hc;unfold yielded;rw[hj];simp only[Option.bind_some];rcases hx:a.tmps[dj]? with _ |u
  ·rfl
  ·rw[Array.getD_eq_getD_getElem?,hx]at h0;simp only[Bz]at h0;subst h0;rfl
theorem KY{d j dj:Nat}{want b c:Bool}{v:AV}{rs:List Nat}(hi:ops[i]? =some ⟨some d,op,ty,pos,af,some (j,want)⟩)(hj:(ops[j]?).bind (·.dst)=some dj)(hb:dR s.fr dj=some (.when c (.bool b)))(h:Lop P op ty s (c&&(b==want)) v rs)(hd:d<n)
  (hK:RD P n ops (listed.setIfInBounds i true) todo ((i,rs)::held) (s.put d (.when (c&&(b==want)) v)) K):RD P n ops listed ((i,true)::todo) held s K:=by
 refine GY h.1 hi hd (fun M F N a w hr=> ?_) hK;cases hc:c with
 |false=>
  have hy:=OP hr hj hb hc;exact⟨_,.when (fun h=>by simp at h) (fun _=>rfl),.inr ⟨by simp[Region.wanted,hy],rfl⟩⟩
 |true=>
  have hw:=xG (o:=⟨some d,op,ty,pos,af,some (j,want)⟩) hr rfl hj hb hc;rw[hc]at h;by_cases hbw:(b==want)=true
  ·obtain⟨u,hu,hrun⟩:=h.2 M F N n a w hr (by simp[hbw]);exact⟨u,.when (fun _=>hu) (fun h=>by rw[hbw]at h;cases h),.inl ⟨hw.trans hbw,fun w' hww=>hrun w' _ rfl rfl hww⟩⟩
  ·simp only[Bool.not_eq_true]at hbw;exact⟨_,.when (fun h=>by rw[hbw]at h;cases h) (fun _=>rfl),.inr ⟨hw.trans hbw,rfl⟩⟩
theorem RZ{dst:Option Nat}{fp:List Nat}(hi:ops[i]? =some ⟨dst,op,ty,pos,af,none⟩)(h:Hop P n op ty dst s fp fun s'=>RD P n ops (listed.setIfInBounds i true) todo held s' K)
  (hfp:fp=[]\/((∀r∈fp,r∈s.Y.map (·.1))/\∀r∈sZ ops held i,r∈s.Y.map (·.1)/\r∉fp)):RD P n ops listed ((i,false)::todo) held s K:=by
 intro hsel hc M F N a w hr;obtain⟨hc1,hc3⟩:=yZ hi hc;simp only[Ag,De,beq_iff_eq]at hc1;refine⟨fun h0=>by rw[hc1]at h0;simp at h0,fun j hj=> ?_⟩;rw[hc1]at hj;obtain rfl:j=i:=by simpa using hj
 unfold wpOp;simp only[hi];rw[Dc (by simp[Region.wanted])];refine .inl (h M F N a w _ rfl rfl rfl hr _ _ fun M' F' N' a' w' s' hr' he ho hk=>⟨fun g hg hlt=> ?_, ?_⟩)
 ·rcases hg with hg|⟨r,hrh,hg⟩
  ·exact he.only.block g hlt (fun hB=>hr.st.nof g hB hg)
  ·rcases hfp with rfl|⟨hf1,hf2⟩
   ·exact ho.block g hlt X
   ·obtain⟨h1,h2⟩:=hf2 r hrh;obtain⟨p,hp,rfl⟩:=Bm.1 h1;refine ho.block g hlt ?_;rintro⟨q,hq,hqg⟩;obtain⟨p2,hp2,rfl⟩:=Bm.1 (hf1 q hq);exact h2 (by rw[hr.st.inj p hp p2 hp2 g hg hqg];exact hq)
 ·refine jV (PostN.ext he) ?_ _ _ _ _ (hk hsel hc3 M' F' N' a' w' hr');rintro j g (hg|⟨r,hr,hg⟩)
  ·exact .inl (he.ff g hg)
  ·refine .inr ⟨r,hr, ?_⟩;unfold bP at hg⊢;cases hm:M r with
   |none=>rw[hm]at hg;cases hg
   |some b=>rw[hm]at hg;rw[he.mm _ _ hm];exact hg
end
theorem Ext.drew {M:Mp}{F:Nat->Prop}{N:Nat}{w:World}{Y:dI}:Ext M F N w Y M F N { w with drawn:=w.drawn+1 } Y:=
 ⟨fun _ _ h=>h,fun _ h=>h,A3 _,⟨rfl,rfl,rfl,A3 _,fun _ _ _=>rfl⟩,fun _ h _=>h,fun _ h=>.inl h,fun p hp _=>⟨p,hp,rfl⟩⟩
theorem GD{P:Program}{n:Nat}{ks:List Nat}{s:ASt}{Q:Exit->ASt->Prop}{id:Nat}{ops:Array Oper}(order:List (Nat×Bool))(hm:P.follows .mixedOrders=true)(hsel:Region.noSelect ops=true)
  (hchk:(HX ops (Array.replicate ops.size false) order&&order.length==ops.size)=true) (h:RD P n ops (Array.replicate ops.size false) order [] s (zY ks (Q .normal))):SW P n ks (.region id ops true) s Q:=by
 intro M F N a w hr;simp only[Ap,beq_iff_eq]at hchk;have hr':Rel M F N n s a { w with drawn:=w.drawn+1 } :=hr.step (Ext.drew (Y:=s.Y)) ⟨fun p hp=>ER.mono (w:=w) (w':= { w with drawn:=w.drawn+1 }) (fun _ _ h=>h) (fun _ h=>h) (fun _ _=>rfl) (fun _ _=>rfl) (hr.st.ent p hp),hr.st.inj,hr.st.nof,hr.st.flt,hr.st.fresh⟩ rfl;have h1:=h hsel hchk.1 M F N a _ hr';rw[hchk.2]at h1;refine wp_mono (wp_region_any hm (HW _ _ _ _ h1)) ?_;intro e a' w' he;cases e<;>first|exact he.elim|skip
 obtain⟨M',F',N',s',k1,k2,k3⟩:=he;exact⟨M',F',N',s'.keep ks,k1.keep,Ext.drew.trans k2,k3⟩
theorem KZ{P:Program}{n:Nat}{ks:List Nat}{s:ASt}{Q:Exit->ASt->Prop}{id:Nat}{l:List Oper}{y:Code}(h:RS P n l.toArray l s (zY ks fun s'=>SW P n ks y s' Q)):SW P n ks (.seq (.region id l.toArray false) y) s Q:=OL (MB h)
inductive KeepIs (fr:Fr):List Nat->Fr->Prop
 |nil:KeepIs fr [] []
 |take {k:Nat} {ks:List Nat} {x:AV} {fr':Fr} (h:dR fr k=some x) (r:KeepIs fr ks fr'):KeepIs fr (k::ks) ((k,x)::fr')
 |skip {k:Nat} {ks:List Nat} {fr':Fr} (h:dR fr k=none) (r:KeepIs fr ks fr'):KeepIs fr (k::ks) fr'
theorem KeepIs.eq {fr:Fr}{ks:List Nat}{fr':Fr}(h:KeepIs fr ks fr'):HU ks fr=fr':=by
 induction h with
 |nil=>rfl
 |take h _ ih=>unfold HU at ih⊢;rw[List.filterMap_cons,h];simp[ih]
 |skip h _ ih=>unfold HU at ih⊢;rw[List.filterMap_cons,h];simp[ih]
theorem aJA{s:ASt}{d:Nat}{x:AV}:(s.put d x).Y=s.Y:=rfl
theorem aLY{fr:Fr}{Y:dI}:(⟨fr,Y⟩:ASt).Y=Y:=rfl
theorem MC{ks:List Nat}{s:ASt}{fr':Fr}{Y':dI}(h:KeepIs s.fr ks fr')(Dg:s.Y=Y'):s.keep ks=⟨fr',Y'⟩:=by
 unfold ASt.keep;rw[h.eq,Dg]
theorem aJB{P:Program}{n:Nat}{ks:List Nat}{ops:Array Oper}{s:ASt}{fr':Fr}{Y':dI}{K:ASt->Prop}(h:KeepIs s.fr ks fr')(Dg:s.Y=Y')(hK:K ⟨fr',Y'⟩):RS P n ops [] s (zY ks K):=aJx (by unfold zY;rw[MC h Dg];exact hK)
theorem aJC{P:Program}{n:Nat}{ks:List Nat}{ops:Array Oper}{listed:Array Bool}{held:List (Nat×List Nat)}{s:ASt}{fr':Fr}{Y':dI}{K:ASt->Prop}(h:KeepIs s.fr ks fr')(Dg:s.Y=Y')(hK:K ⟨fr',Y'⟩):RD P n ops listed [] held s (zY ks K):=
 aJz (by unfold zY;rw[MC h Dg];exact hK)
theorem XM{i:Nat}{Q:Exit->ASt->Prop}{s:ASt}(h:Q .normal s):eA i Q (.exit i) s:=by simp[eA,h]
theorem aCX{i j:Nat}{Q:Exit->ASt->Prop}{s:ASt}(hne:(j==i)=false)(h:Q (.exit j) s):eA i Q (.exit j) s:=by
 simp only[beq_eq_false_iff_ne]at hne;simp[eA,hne,h]
theorem iG{P:Program}{n:Nat}{ks:List Nat}{c:Code}{s:ASt}{Q:Exit->ASt->Prop}{i sz:Nat}{es:List (List AV)}{k:Rk}(hx:dR s.fr i=some (.ro sz es k))(h:es.length<=maxLen->SW P n ks c s Q):SW P n ks c s Q:=by
 intro M F N a w hr;refine h ?_ M F N a w hr;have hv:=hr.fr i _ hx;generalize a.tmps.getD i Go.undef=u at hv;cases hv with
 |ro hb hs hc hrr hle hm hf hn=>omega
 |ro0 hm hA hf hn=>simp
theorem OQ{P:Program}{n:Nat}{ks:List Nat}{s:ASt}{Q:Exit->ASt->Prop}{c:Operand}{x y:Code}(hc:aev s c=some (.bool true))(h:SW P n ks x s Q):SW P n ks (.cond c x y) s Q:=aB hc (fun _=>h) (fun h=>by cases h)
theorem LA{P:Program}{n:Nat}{ks:List Nat}{s:ASt}{Q:Exit->ASt->Prop}{c:Operand}{x y:Code}(hc:aev s c=some (.bool false))(h:SW P n ks y s Q):SW P n ks (.cond c x y) s Q:=aB hc (fun h=>by cases h) (fun _=>h)
theorem aD{P:Program}{rs:Array ResultVar}{R:AV->dI->Prop}{s:ASt}{xs:List AV}{Y':dI}(hx:ResL P s rs.toList xs)(h:R (fM xs) Y')(Dg:∀p∈Y',p∈s.Y):OM P rs R .ret s:=⟨s,_,Y',SGo.refl _,⟨xs,hx,rfl⟩,Dg,h⟩
theorem bS{P:Program}{rs:Array ResultVar}{R:AV->dI->Prop}{s:ASt}(h:OM P rs R .ret s):OM P rs R .normal s:=h
theorem aFU{P:Program}{rs:Array ResultVar}{R:AV->dI->Prop}{s s':ASt}(hgo:SGo s s')(h:OM P rs R .ret s'):OM P rs R .ret s:=by
 obtain⟨s2,x,Y2,h1,h2,h3⟩:=h;exact⟨s2,x,Y2,hgo.trans h1,h2,h3⟩
inductive FrLe (fr:Fr):Fr->Prop
 |nil:FrLe fr []
 |cons {i:Nat} {x y:AV} {l:Fr} (h:dR fr i=some x) (hle:VLe x y) (r:FrLe fr l):FrLe fr ((i,y)::l)
theorem FrLe.get {fr:Fr}{l:Fr}(h:FrLe fr l):∀i y,dR l i=some y->∃x,dR fr i=some x/\VLe x y:=by
 induction h with
 |nil=>intro i y h;simp[dR]at h
 |cons h hle _ ih=>
  intro i y hi;simp only[dR]at hi;split at hi
  ·next e=>subst e;obtain rfl:=Option.some.inj hi;exact⟨_,h,hle⟩
  ·exact ih i y hi
theorem VLe.of_eq {x y:AV}(h:x=y):VLe x y:=h▸VLe.refl x
theorem aJD{s:ASt}:∀p∈([]:dI),p∈s.Y:=fun p hp=>by simp at hp
theorem cU{α:Type}{f:α->List AV}{l:List α}{i:Nat}{x:α}(h:l[i]? =some x):(l.map f)[i]? =some (f x):=by rw[Bg,h];rfl
section
variable {P : Program} {ty t t' : TypeId} {s : ASt} {c : Bool} {x y : Operand} {m m' : Int}
theorem fD{m:Int}(h1:-9223372036854775808<=m)(h2:m<=9223372036854775807):IntKind.i64.wrap m=m:=by rw[IntKind.wrap_i64];omega
theorem oS(h:Ev s c x (.int .i64 m))(h':Ev s c y (.int .i64 m'))(h1:-9223372036854775808<=m+m')(h2:m+m'<=9223372036854775807):Lop P (.binOp .add t x y t') ty s c (.int .i64 (m+m')) []:=by
 have:=pA (P:=P) (ty:=ty) (t:=t) (t':=t') h h'
 rwa [fD h1 h2]at this
theorem oT(h:Ev s c x (.int .i64 m))(h':Ev s c y (.int .i64 m'))(h1:-9223372036854775808<=m-m')(h2:m-m'<=9223372036854775807):Lop P (.binOp .sub t x y t') ty s c (.int .i64 (m-m')) []:=by
 have:=GX (P:=P) (ty:=ty) (t:=t) (t':=t') h h'
 rwa [fD h1 h2]at this
end
theorem aBn(l:List Value):∀(m off:Nat) (cells:Array Value),((l.zipIdx m).foldl (fun(cs:Array Value) (p:Value×Nat)=>cs.setIfInBounds (off+p.2) p.1) cells).size=cells.size/\
  ∀q,((l.zipIdx m).foldl (fun(cs:Array Value) (p:Value×Nat)=>cs.setIfInBounds (off+p.2) p.1) cells)[q]? =if off+m<=q/\q<off+m+l.length/\q<cells.size then l[q-(off+m)]? else cells[q]? :=by
 induction l with
 |nil=>intro m off cells;simp;intro q h1 h2;omega
 |cons v l ih=>
  intro m off cells;obtain⟨h1,h2⟩:=ih (m+1) off (cells.setIfInBounds (off+m) v);simp only[List.zipIdx_cons,List.foldl_cons];refine⟨by rw[h1];simp,fun q=> ?_⟩;rw[h2];simp only[Array.size_setIfInBounds,Bj];by_cases hq:off+m=q
  ·subst hq;rw[Db U];by_cases hs:off+m<cells.size
   ·rw[Dc ⟨U,U,hs⟩,Nat.sub_self];simp[hs]
   ·rw[Db U];simp[hs]
  ·by_cases hc:off+(m+1)<=q/\q<off+(m+1)+l.length/\q<cells.size
   ·rw[Dc hc,Dc ⟨U,U,hc.2.2⟩,show q-(off+m)=(q-(off+(m+1)))+1 by omega,List.getElem?_cons_succ]
   ·rw[Db hc,Db U,Array.getElem?_setIfInBounds_ne hq]
theorem HY(v:Value)(off:Nat)(cells:Array Value):(v.cells.zipIdx.foldl (fun(cs:Array Value) (p:Value×Nat)=>cs.setIfInBounds (off+p.2) p.1) cells).size=cells.size/\
  ∀q,(v.cells.zipIdx.foldl (fun(cs:Array Value) (p:Value×Nat)=>cs.setIfInBounds (off+p.2) p.1) cells)[q]? =if off<=q/\q<off+v.cells.size/\q<cells.size then v.cells[q-off]? else cells[q]? :=by
 have:=aBn v.cells.toList 0 off cells;rw[<-Array.foldl_toList,Array.toList_zipIdx];simpa using this
def tK {α:Type} :Nat->List α->List (Nat×α)
 | _,[]=>[]
 |k,x::xs=>(k,x)::tK (k+1) xs
theorem SA{sz:Nat}:∀(vs:List Value) (k:Nat) (cells:Array Value),(∀v∈vs,v.cells.size=sz)->(k+vs.length)*sz<=cells.size->
  ∃r,Instr.fill (fun i=>some (i*sz,sz)) cells (tK k vs)=some r/\r.size=cells.size/\(∀q,q<k*sz->r[q]? =cells[q]?)/\∀(i:Nat) (v:Value),vs[i]? =some v->∀j,j<sz->r[(k+i)*sz+j]? =v.cells[j]?
 |[],k,cells,_,_=>⟨cells,rfl,rfl,fun _ _=>rfl,fun i v h=>by simp at h⟩
 |v::vs,k,cells,hs,hfit=>by
  have hv:=hs v X;have hk:(k+1)*sz<=cells.size:=by
   refine A4 (Bq _ ?_) hfit;rw[Bj];omega
  have hk':k*sz+sz<=cells.size:=by rw[Nat.succ_mul]at hk;exact hk
  obtain⟨f1,f2⟩:=HY v (k*sz) cells;obtain⟨r,h1,h2,h3,h4⟩:=SA vs (k+1) _ (fun v hv=>hs v (by simp[hv])) (by rw[f1];refine A4 (Nat.le_of_eq ?_) hfit;rw[Bj,By,Nat.add_comm 1]);refine⟨r, ?_,by rw[h2,f1],fun q hq=> ?_,fun i u hu j hj=> ?_⟩
  ·simp only[tK,Instr.fill];rw[Db (by simp[hv];omega)];exact h1
  ·rw[h3 q (by rw[Nat.succ_mul];omega),f2,Db U]
  ·cases i with
   |zero=>
    obtain rfl:v=u:=by simpa using hu
    rw[Nat.add_zero,h3 _ (by rw[Nat.succ_mul];omega),f2,Dc ⟨U,U,U⟩];rw[Nat.add_sub_cancel_left]
   |succ i=>
    have:=h4 i u (by simpa using hu) j hj
    rwa [show k+(i+1)=k+1+i by omega]
inductive AEvs (s:ASt):List Operand->List AV->Prop
 |nil:AEvs s [] []
 |cons {x:Operand} {xs:List Operand} {v:AV} {vs:List AV} (h:aev s x=some v) (r:AEvs s xs vs):AEvs s (x::xs) (v::vs)
theorem AEvs.at_ {M:Mp}{F:Nat->Prop}{N n:Nat}{s:ASt}{a:Act}{w:World}(hr:Rel M F N n s a w){xs:List Operand}{vs:List AV}(h:AEvs s xs vs):(xs.map a.eval).length=vs.length/\∀(i:Nat) (v:AV),vs[i]? =some v->∃u,(xs.map a.eval)[i]? =some u/\VR M F w v u:=by
 induction h with
 |nil=>exact⟨rfl,fun i v h=>by simp at h⟩
 |@cons x xs v vs hx _ ih=>
  refine⟨by simp only[Bn,Bj];rw[ih.1],fun i u hu=> ?_⟩;cases i with
  |zero=>
   obtain rfl:v=u:=by simpa using hu
   exact⟨a.eval x,X,hr.aev hx⟩
  |succ i=>simpa using ih.2 i u (by simpa using hu)
theorem MD{α β:Type}(f:α->β):∀(k:Nat) (xs:List α),(tK k xs).map (fun p=>(p.1,f p.2))=tK k (xs.map f)
 | _,[]=>rfl
 |k,x::xs=>by simp[tK,MD f (k+1) xs]
section
variable {P : Program} {n : Nat} {s : ASt} {K : ASt -> Prop} {ty t : TypeId} {d : Nat} {x y : Operand}
theorem HZ{e:TypeId} [Ty P t (.slice e)] {sz by_:Nat}{zv:Value} [Tz P e sz by_ zv] {len:Nat}{parts:Array (Nat×Operand)}{xs:List Operand}{vs:List AV}(hp:parts.toList=tK 0 xs)(hv:AEvs s xs vs)(hlen:(len==vs.length)=true)(h0:(decide (0<sz)&&decide (len*sz<=16777216))=true)
  (hc:(vs.all fun v=>v.cells.length==sz&&v.cells.all AV.cell)=true) (hd:d<n) (hK:∀r,Fresh r s.Y->K ⟨(d,.own r 0 len)::s.fr,(r,.arr e sz (vs.map AV.cells))::s.Y⟩):Hop P n (.buildSlice t len parts) ty (some d) s [] K:=by
 simp only[beq_iff_eq]at hlen;simp only[Ap,decide_eq_true_eq]at h0;obtain⟨h0,h24⟩:=h0;subst hlen;intro M F N a w o ho _ hdst hr next Q hnext
 obtain⟨i,hi,hz0,hs0,_⟩:=Tz.parts P e;obtain⟨hl,hat⟩:=hv.at_ hr;have hck:∀v∈vs,v.cells.length=sz/\∀a∈v.cells,a.cell=true:=fun v hv=>by
  have:=Bw.1 hc v hv;simp only[Ap,beq_iff_eq]at this;exact⟨this.1,Bw.1 this.2⟩
 have hsz:∀u∈xs.map a.eval,u.cells.size=sz:=by
  intro u hu;obtain⟨k,hk,rfl⟩:=List.mem_iff_getElem.1 hu;have hkv:k<vs.length:=by rw[<-hl];exact hk
  obtain⟨u',hu',hvr⟩:=hat k vs[k] (Ar hkv);rw[Ar hk]at hu';obtain rfl:=Option.some.inj hu';obtain⟨q1,q2⟩:=hck vs[k] (List.getElem_mem hkv);rw[(hvr.cells q2).1,q1]
 have hparts:(parts.map fun(p:Nat×Operand)=>(p.1,a.eval p.2)).toList=tK 0 (xs.map a.eval):=by
  rw[Array.toList_map,hp];exact MD a.eval 0 xs
 have key:∀cells:Array Value,cells.size=vs.length*sz->∃r:Array Value,Instr.fill (fun i=>some (i*sz,sz)) cells (tK 0 (xs.map a.eval))=some r/\r.size=vs.length*sz/\
   ∀(i:Nat) (x:List AV) (j:Nat) (b:AV) (u:Value),(vs.map AV.cells)[i]? =some x->x[j]? =some b->r[i*sz+j]? =some u->VR M F w b u:=by
  intro cells hcs;obtain⟨r,f1,f2,_,f4⟩:=SA (xs.map a.eval) 0 cells hsz (by rw[hl,hcs,B2];exact A3 _);refine⟨r,f1,f2.trans hcs,fun i x j b u hi hj hu=> ?_⟩;rw[Bg]at hi;obtain⟨v,hv,rfl⟩:=Option.map_eq_some_iff.1 hi;obtain⟨u',hu',hvr⟩:=hat i v hv;obtain⟨q1,q2⟩:=hck v (Ah hv);have hjs:j<sz:=by rw[<-q1];exact(Ai.1 hj).1
  have:=f4 i u' hu' j hjs;rw[B2,hu]at this;exact(hvr.cells q2).2.1 j b u hj this.symm
 have hrun:∃r:Array Value,(execOp a.eval o).run P w=.ok (.value (.slice (some ⟨w.heap.size,0,none⟩) vs.length vs.length)) (w.alloc (.cells r e))/\r.size=vs.length*sz/\
   ∀(i:Nat) (x:List AV) (j:Nat) (b:AV) (u:Value),(vs.map AV.cells)[i]? =some x->x[j]? =some b->r[i*sz+j]? =some u->VR M F w b u:=by
  have h24':¬(2^24<vs.length*sz):=by omega
  by_cases hz:vs.length*sz=0
  ·obtain⟨r,f1,f2,f3⟩:=key #[] (by simp[hz]);refine⟨r, ?_,f2,f3⟩;rw[<-hparts,Array.toList_map]at f1;subst hs0;simp only[execOp,ho,Instr.buildSlice,Sem.run_bind,run_underlying (Ty.und (P:=P) (t:=t)),Result.andThen_ok,sizeOf,Sem.run_pure];simp[h24',hz,typeInfo,hi,show Array.range 0=#[]from rfl,f1,newRow]
  ·obtain⟨r,f1,f2,f3⟩:=key ((Array.range (vs.length*sz)).map (zv.cells[· %zv.cells.size]!)) X;refine⟨r, ?_,f2,f3⟩;rw[<-hparts,Array.toList_map]at f1;subst hs0;simp only[execOp,ho,Instr.buildSlice,Sem.run_bind,run_underlying (Ty.und (P:=P) (t:=t)),Result.andThen_ok,sizeOf,Sem.run_pure];simp[h24',hz,zeroValue,typeInfo,hi,hz0,f1,newRow]
 obtain⟨r,hrun,hrs,hrr⟩:=hrun;unfold Oper.wp;rw[hrun,Oper.upon_value,hdst];have hlm:(vs.map AV.cells).length=vs.length:=by simp
 obtain⟨r1,e1,n1,v1⟩:=hr.newArr (w':=w.alloc (.cells r e)) (e:=e) (sz:=sz) (c:=vs.length) (es:=vs.map AV.cells) h0 (fun x hx=>by
   obtain⟨v,hv,rfl⟩:=Bm.1 hx;exact hck v hv) (heap_alloc_new w _) (fun k hk=>heap_alloc_old w _ hk) ⟨rfl,rfl,rfl⟩ X hrs X (by
   have:vs.length*1<=vs.length*sz:=Nat.mul_le_mul_left _ h0;simp[maxLen];omega) hrr
 rw[hlm]at v1;exact hnext _ F (N+1) _ _ ⟨(d,.own N 0 vs.length)::s.fr,(N,.arr e sz (vs.map AV.cells))::s.Y⟩ (r1.put hd v1) e1 ⟨rfl,rfl,rfl,X,fun k hk _=>heap_alloc_old w _ hk⟩ (hK N n1)
theorem aCY{e:TypeId} [Ty P t (.slice e)] {sz by_:Nat}{zv:Value} [Tz P e sz by_ zv] {k k':IntKind}{m:Int}{l:Nat}(hl:aev s x=some (.int k m))(hc:aev s y=some (.int k' m))(hm:m=(l:Int))(h0:(decide (0<sz)&&(zv.cells.size==sz)&&(zv.cells.toList.map cM).all AV.cell)=true)
  (hby:by_*l<=281474976710656) (hml:l<=maxLen) (hd:d<n) (hK:∀r,Fresh r s.Y->K ⟨(d,.own r 0 l)::s.fr,(r,.arr e sz (Ak l (zv.cells.toList.map cM)))::s.Y⟩):Hop P n (.makeSlice t x y) ty (some d) s [] K:=by
 simp only[Ap,decide_eq_true_eq,beq_iff_eq]at h0;obtain⟨⟨h0,hz⟩,hcell⟩:=h0;subst hm;intro M F N a w o ho _ hdst hr next Q hnext
 obtain⟨i,hi,hz0,hs0,hb0⟩:=Tz.parts P e;have e1:=(Ev.here hl:Ev s true x _).int hr rfl;have e2:=(Ev.here hc:Ev s true y _).int hr rfl;have hrun:=KV (P:=P) t e i zv (Ty.und (P:=P) (t:=t)) hi hz0 k k' l l (A3 _) (by rw[hb0];exact hby) (by simpa[maxLen]using hml) w;have hex:(execOp a.eval o).run P w=.ok (.value (.slice (some ⟨w.heap.size,0,none⟩) l l)) (w.alloc (.cells (madeCells zv.cells (l*i.size)) e)):=by
  simp only[execOp,ho,Sem.run_bind,e1,e2,hrun,Result.andThen_ok,Sem.run_pure]
 unfold Oper.wp;rw[hex,Oper.upon_value,hdst];obtain⟨r1,e1,n1,v1⟩:=hr.newArr (w':=w.alloc (.cells (madeCells zv.cells (l*i.size)) e)) (e:=e) (sz:=sz) (c:=l) (es:=Ak l (zv.cells.toList.map cM)) h0 (fun x hx=>by
   obtain rfl:=List.eq_of_mem_replicate hx;exact⟨by simp[hz],Bw.1 hcell⟩) (heap_alloc_new w _) (fun k hk=>heap_alloc_old w _ hk) ⟨rfl,rfl,rfl⟩ X (by rw[size_madeCells,hs0]) X hml (fun i' x' j b u hi' hj hu=>by
   rw[List.getElem?_replicate]at hi';split at hi'
   ·next hil=>
    obtain rfl:=Option.some.inj hi';rw[Bg]at hj;obtain⟨q,hq,rfl⟩:=Option.map_eq_some_iff.1 hj;have hjs:j<sz:=by rw[<-hz];have:=(Ai.1 hq).1;simpa using this
    have hlt:i'*sz+j<l*sz:=lG hil hjs;have hmod:(i'*sz+j)%zv.cells.size=j:=by rw[hz];exact aAn hjs
    have hu':zv.cells[j]! =u:=by
     have:(madeCells zv.cells (l*i.size))[i'*sz+j]? =some (zv.cells[(i'*sz+j)%zv.cells.size]!):=by
      unfold madeCells;rw[hs0];simp[hlt]
     rw[this,hmod]at hu;exact Option.some.inj hu
    have hq':zv.cells[j]! =q:=by
     have hj2:j<zv.cells.size:=by omega
     have:zv.cells.toList[j]? =some zv.cells[j]:=by simp[hj2]
     rw[this]at hq;simp[hj2,Option.some.inj hq]
    rw[<-hu',hq'];exact AP q
   ·cases hi')
 rw[List.length_replicate]at v1;exact hnext _ F (N+1) _ _ ⟨(d,.own N 0 l)::s.fr,(N,.arr e sz (Ak l (zv.cells.toList.map cM)))::s.Y⟩ (r1.put hd v1) e1 ⟨rfl,rfl,rfl,X,fun k hk _=>heap_alloc_old w _ hk⟩ (hK N n1)
theorem SB{e tS:TypeId} [Ty P t (.slice e)] {by_:Nat}{zv:Value} [Tz P e 1 by_ zv] {r off len m:Nat}{et:TypeId}{es ys:List (List AV)}(hb:aev s x=some (.own r off len))(hg:gM s.Y r=some (.arr et 1 es))(hle:off+len<=es.length)(hy:Src s y 1 ys)(hm:m=min ys.length len)(hd:d<n)
  (hK:K ⟨(d,.int .i64 m)::s.fr,ED s.Y r (.arr et 1 (es.take off++ys.take m++es.drop (off+m)))⟩):Hop P n (.call { callee:=.builtin .copy,args:=#[x,y],argTypes:=#[t,tS] }) ty (some d) s [r] K:=by
 intro M F N a w o ho _ hdst hr next Q hnext
 have hbase:=hr.aev hb;have hmem:=bV hg;obtain⟨h0,hrowsE,h3⟩:=hr.st.ent _ hmem;obtain⟨i,hi,hz0,hs0,hb0⟩:=Tz.parts P e;obtain⟨A,c,news,he,hreads,hrows,hok,hmx⟩:=hy.reads hr h0;have hnl:news.length=ys.length:=by simpa using hrows.1
 have hsz1:(P.info? e).map (·.size)=some 1:=by rw[hi];simp[hs0]
 generalize hu:a.eval x=u at hbase;have mH:∀(w':World) (g:Nat) (vs:Array Value) (cc:Nat),bP M r=some g->M r=some (.row g cc 1)->Cl w g et vs->vs.size=cc->es.length<=cc->cc<=maxLen->(∀(i:Nat) (x:List AV) (j:Nat) (a:AV) (u:Value),es[i]? =some x->x[j]? =some a->vs[i*1+j]? =some u->VR M F w a u)->
   w'=w.setRow g (vs.toList.take off++news.take m++vs.toList.drop (off+m)).toArray->(execOp a.eval o).run P w=.ok (.value (goInt m)) w'->o.wp P a w next Q:=by
  intro w' g vs cc hbl hMr hcl hsz hle' hmax hvr hw' hex;subst hw';unfold Oper.wp;rw[hex,Oper.upon_value,hdst];have hF:¬F g:=hr.st.nof g ⟨_,hmem,hbl⟩;have hSame:Same F w (w.setRow g (vs.toList.take off++news.take m++vs.toList.drop (off+m)).toArray):=fun b hb=>setRow_other w g b _ (fun e=>hF (e▸hb))
  have hml:m<=len/\m<=ys.length:=by omega
  have l1:(es.take off).length=off:=by rw[Bi];omega
  have l2:(ys.take m).length=m:=by rw[Bi];omega
  have k1:(vs.toList.take off).length=off:=by rw[Bi];simp;omega
  have k2:(news.take m).length=m:=by rw[Bi];omega
  have hE:ER M F (w.setRow g (vs.toList.take off++news.take m++vs.toList.drop (off+m)).toArray) r (.arr et 1 (es.take off++ys.take m++es.drop (off+m))):=by
   refine⟨h0,fun x hx=> ?_,.inr ⟨g,cc,_,hMr,hcl.set_ (by simp only[List.size_toArray,Ao,k1,k2,Bv,Array.length_toList];omega), ?_, ?_,hmax,fun k x j b u hk hj hu'=> ?_⟩⟩
   ·rcases A8.1 hx with hx|hx
    ·rcases A8.1 hx with hx|hx
     ·exact hrowsE x (Bf hx)
     ·exact hok x (Bf hx)
    ·exact hrowsE x (List.mem_of_mem_drop hx)
   ·simp only[List.size_toArray,Ao,k1,k2,Bv,Array.length_toList];omega
   ·simp only[Ao,l1,l2,Bv];omega
   ·refine VR.mono (fun _ _ h=>h) (fun _ h=>h) hSame ?_;have hrow:x.length=1:=by
     have hx:=Ah hk;rcases A8.1 hx with hx|hx
     ·rcases A8.1 hx with hx|hx
      ·exact(hrowsE x (Bf hx)).1
      ·exact(hok x (Bf hx)).1
     ·exact(hrowsE x (List.mem_of_mem_drop hx)).1
    have hj0:j=0:=by have:=(Ai.1 hj).1;omega
    subst hj0;simp only[List.getElem?_toArray,Nat.mul_one,Nat.add_zero,Aq]at hu' hk;rcases Br k off with hko|hko
    ·rw[Ba U,A2 hko]at hk hu';exact hvr k x 0 b u hk hj (by simpa using hu')
    ·rw[A6 U,l1]at hk;rw[A6 U,k1]at hu';rcases Br (k-off) m with hkm|hkm
     ·rw[Ba U,A2 hkm]at hk hu';exact hrows.2 (k-off) x 0 b u hk hj (by simpa using hu')
     ·rw[A6 U,l2,Bb]at hk;rw[A6 U,k2,Bb]at hu';exact hvr _ x 0 b u hk hj (by simpa using hu')
  obtain⟨r1,e1,o1⟩:=hr.set_ hmem hbl xI hE;exact hnext M F N _ _ ⟨(d,.int .i64 m)::s.fr,_⟩ (r1.put hd (.int _ _)) e1 o1 hK
 cases hbase with
 |@own0 _ _ A0=>
  --nothing to copy into
  have hm0:m=0:=by omega
  subst hm0;have hex:(execOp a.eval o).run P w=.ok (.value (goInt 0)) w:=by
   simp only[execOp,ho,resolve,invoke,builtin,Sem.run_bind,Sem.run_pure,Result.andThen_ok,List.map_toArray,Bn,B3,hu,he];rw[run_copy_none (P:=P) w t tS o.type e A0 A 0 0 ys.length c (Ty.und (P:=P) (t:=t)) hsz1 (by simp[Nat.min])];rfl
  unfold Oper.wp;rw[hex,Oper.upon_value,hdst];have hes:es.take off++ys.take 0++es.drop (off+0)=es:=by simp
  rw[hes]at hK;have hin:∀p∈ED s.Y r (Ent.arr et 1 es),p∈s.Y:=by
   intro p hp;rcases Av.1 hp with rfl|hp
   ·exact hmem
   ·exact(fV hp).1
  have hr2:Rel M F N n ⟨s.fr,ED s.Y r (.arr et 1 es)⟩ a w:=⟨hr.size,hr.defers,hr.fr,hr.st.sub hin⟩
  exact hnext M F N _ _ ⟨(d,.int .i64 ((0:Nat):Int))::s.fr,_⟩ (hr2.put hd (.int _ _)) ((Ext.refl M F N w s.Y).sub hin) (Only.refl _ _) hK
 |own hM hlc hmm=>
  rcases h3 with⟨hv',_⟩|⟨g,cc,vs,hM',hcl,hsz,hle',hmax,hvr⟩
  ·rw[hM]at hv';cases hv'
  ·have hg':=hM'.symm.trans hM;simp only[Option.some.injEq,Blk'.row.injEq]at hg';obtain⟨q1,q2,q3⟩:=hg';subst q1;subst q2;subst q3;have hbl:bP M r=some g:=by simp[bP,hM]
   rw[Nat.mul_one]at hsz hu;have hmlen:(news.take m).length=m:=by rw[Bi];omega
   by_cases hm0:m=0
   ·have hnm:Nat.min ys.length len=0:=by show min ys.length len=0;omega
    refine mH w g vs cc hbl hM hcl hsz hle' hmax hvr ?_ ?_
    ·subst hm0;simp only[List.take_zero,Be,Nat.add_zero,List.take_append_drop,Array.toArray_toList];obtain⟨fz,hcl,-⟩:=hcl;exact(setRow_self w g vs et fz hcl).symm
    ·simp only[execOp,ho,resolve,invoke,builtin,Sem.run_bind,Sem.run_pure,Result.andThen_ok,List.map_toArray,Bn,B3,hu,he];rw[run_copy_none (P:=P) w t tS o.type e (some ⟨g,off,none⟩) A len (cc-off) ys.length c (Ty.und (P:=P) (t:=t)) hsz1 hnm,hm0];rfl
   ·have hpos:0<ys.length:=by omega
    obtain⟨ad,rfl,_,hcell⟩:=hreads.2 hpos;obtain⟨fz,hcl1,hz1⟩:=id hcl;have hrun:=KU (P:=P) w t tS o.type e g off len (cc-off) ad ys.length c vs et (news.take m) fz (Ty.und (P:=P) (t:=t)) hsz1 hcl1 hz1 (by rw[hmlen];exact hm) (fun j v hj=>hcell j v (by
     have:=(Ai.1 hj).1;rw[hmlen]at this
     rwa [A2 this]at hj)) (by rw[hmlen];omega) (fun v hv=>(hrows.one h0 hok) v (Bf hv))
    rw[hmlen]at hrun;refine mH _ g vs cc hbl hM hcl hsz hle' hmax hvr rfl ?_;simp only[execOp,ho,resolve,invoke,builtin,Sem.run_bind,Sem.run_pure,Result.andThen_ok,List.map_toArray,Bn,B3,hu,he,hrun]
end
def ME (pl:List (Nat×Nat)):List AV->List (Nat×AV)->Option (List AV)
 |cs,[]=>some cs
 |cs,(i,v)::r=>match pl[i]? with
  |none=>none
  |some (off,sz)=>if v.cells.length==sz&&decide (off+sz<=cs.length)&&v.cells.all AV.cell then ME pl (cs.take off++v.cells++cs.drop (off+sz)) r else none
inductive PEvs (s:ASt) (c:Bool):List (Nat×Operand)->List (Nat×AV)->Prop
 |nil:PEvs s c [] []
 |cons {i:Nat} {x:Operand} {xs:List (Nat×Operand)} {v:AV} {vs:List (Nat×AV)} (h:Ev s c x v) (r:PEvs s c xs vs):PEvs s c ((i,x)::xs) ((i,v)::vs)
theorem aCZ{M:Mp}{F:Nat->Prop}{N n:Nat}{w:World}{s:ASt}{a:Act}{c:Bool}{pl:List (Nat×Nat)}(hr:Rel M F N n s a w)(hc:c=true){xs:List (Nat×Operand)}{vs:List (Nat×AV)}(h:PEvs s c xs vs):∀(cs out:List AV) (us:Array Value),us.size=cs.length->
  (∀(j:Nat) (b:AV) (u:Value),cs[j]? =some b->us[j]? =some u->VR M F w b u)->ME pl cs vs=some out->
  ∃r,Instr.fill (pl.toArray[·]?) us (xs.map fun p=>(p.1,a.eval p.2))=some r/\r.size=out.length/\∀(j:Nat) (b:AV) (u:Value),out[j]? =some b->r[j]? =some u->VR M F w b u:=by
 induction h with
 |nil=>
  intro cs out us hs hv hf;obtain rfl:=Option.some.inj hf;exact⟨us,rfl,hs,hv⟩
 |@cons i x xs v vs hx _ ih=>
  intro cs out us hs hv hf;unfold ME at hf;cases hp:pl[i]? with
  |none=>rw[hp]at hf;cases hf
  |some q=>
   obtain⟨off,sz⟩:=q;rw[hp]at hf;simp only at hf;split at hf
   ·next hcond=>
    simp only[Ap,beq_iff_eq,decide_eq_true_eq]at hcond;obtain⟨⟨h1,h2⟩,h3⟩:=hcond;obtain⟨q1,q2,_⟩:=(hx.vr hr hc).cells (Bw.1 h3);obtain⟨f1,f2⟩:=HY (a.eval x) off us;have hlen:(cs.take off++v.cells++cs.drop (off+sz)).length=cs.length:=by simp[Bi,Bv,h1];omega
    obtain⟨r,k1,k2,k3⟩:=ih _ out (Array.foldl (fun cs p=>cs.setIfInBounds (off+p.2) p.1) us (a.eval x).cells.zipIdx) (by rw[f1,hs,hlen]) (fun j b u hj hu=>by
     rw[f2]at hu;rw[Aq]at hj;rcases Br j off with hlt|hge
     ·rw[Ba (by rw[Bi];omega),A2 hlt]at hj;rw[Db U]at hu;exact hv j b u hj hu
     ·rw[A6 (by rw[Bi];omega),Bi,Nat.min_eq_left U]at hj;rcases Br (j-off) sz with hlt2|hge2
      ·rw[Ba U]at hj;rw[Dc ⟨hge,U,U⟩]at hu;exact q2 _ b u hj hu
      ·rw[A6 U,Bb,h1,show off+sz+(j-off-sz)=j by omega]at hj;rw[Db U]at hu;exact hv j b u hj hu) hf
    refine⟨r, ?_,k2,k3⟩;simp only[Bn,Instr.fill,List.getElem?_toArray,hp];rw[Db Af];simpa using k1
   ·cases hf
section
variable {P : Program} {ty : TypeId} {s : ASt} {c : Bool} {t t' : TypeId} {x y : Operand}
theorem aBo{fs:Array Field} [Ty P t (.struct fs)] {sz by_:Nat}{z:Value} [Tz P t sz by_ z] {pl:List (Nat×Nat)} [Tf P t pl] {parts:Array (Nat×Operand)}{xs:List (Nat×Operand)}{vs:List (Nat×AV)}{out:List AV}(hx:parts.toList=xs)(hp:PEvs s c xs vs)(hf:ME pl (z.cells.toList.map xC) vs=some out):
  Lop P (.build t parts) ty s c (.agg out) []:=
 Lop.pure_ fun M F N n a w hr hc=>by
  obtain⟨i,hi,hz,hs,_⟩:=Tz.parts P t;have hpl:=Tf.pls (P:=P) (t:=t);rw[Ty.und (P:=P) (t:=t)]at hpl;simp only at hpl;obtain⟨r,h1,h2,h3⟩:=aCZ hr hc hp (z.cells.toList.map xC) out z.cells X (fun j b u hj hu=>by
   rw[Bg,Array.getElem?_toList,hu]at hj;obtain rfl:=Option.some.inj hj;exact MA u) hf
  refine⟨.agg r,.agg h2 h3,fun w' o ho _=> ?_⟩;have hb:P.built t (parts.map fun(p:Nat×Operand)=>(p.1,a.eval p.2)).toList=some r:=by
   unfold Program.built;simp only[hi,Ty.und (P:=P) (t:=t),hz,hpl];rw[Array.toList_map,hx];exact h1
  simp only[execOp,ho];rw[Sem.run_bind,run_build w' t _ r hb];simp
theorem BX{d:TypeDesc} [h:Ty P t d] (hd:wO d=false){w:World}{vs:Array Value}{off:Nat}{u:Value}(hu:vs[off]? =some u):(part t vs off).run P w=.ok u w:=by
 have hd':(isAgg t).run P w=.ok false w:=by
  simp only[isAgg,Sem.run_bind,run_underlying h.und,Result.andThen_ok];cases d<;>simp_all [wO]
 simp[part,hd',hu]
theorem aFV{fs:Array Field} [Ty P t (.struct fs)] {cs:List AV}{i:Nat}{nm tg pp:String}{ft off:Nat}{em:Bool}{bo:Nat}{d:TypeDesc}{v:AV}(h:Ev s c x (.agg cs))(hf:fs[i]? =some ⟨nm,ft,off,em,tg,pp,bo⟩) [Ty P ft d] (hd:wO d=false)(hv:c=true->cs[off]? =some v):
  Lop P (.field t x i) ty s c v []:=
 Lop.pure_ fun M F N n a w hr hc=>by
  have e1:=h.vr hr hc;have hv:=hv hc;generalize hu:a.eval x=u at e1;cases e1 with
  |@agg _ vs hl hh=>
   have hlt:off<vs.size:=by rw[hl];exact(Ai.1 hv).1
   refine⟨vs[off],hh off v _ hv (A7 hlt),fun w' o ho _=> ?_⟩;have:=BX (P:=P) (t:=ft) hd (w:=w') (A7 hlt);simp[execOp,ho,hu,Instr.field,run_underlying (Ty.und (P:=P) (t:=t)),hf,asAgg,this]
theorem SC{fs:Array Field} [Ty P t (.struct fs)] {cs:List AV}{i:Nat}{nm tg pp:String}{ft off:Nat}{em:Bool}{bo:Nat}{d:TypeDesc}(h:Ev s c x (.agg cs))(hf:fs[i]? =some ⟨nm,ft,off,em,tg,pp,bo⟩) [Ty P ft d] (hd:wO d=true){sz by_:Nat}{z:Value} [Tz P ft sz by_ z] (hv:c=true->off+sz<=cs.length):
  Lop P (.field t x i) ty s c (.agg ((cs.drop off).take sz)) []:=
 Lop.pure_ fun M F N n a w hr hc=>by
  have e1:=h.vr hr hc;have hv:=hv hc;obtain⟨j,hi,hz,hs,_⟩:=Tz.parts P ft;generalize hu:a.eval x=u at e1;cases e1 with
  |@agg _ vs hl hh=>
   refine⟨.agg (vs.extract off (off+sz)),.agg (by simp[hl];omega) (fun j a u hj hu=> ?_),fun w' o ho _=> ?_⟩
   ·have hjl:j<sz:=by
     have:=(Ai.1 hj).1;simp at this;omega
    rw[A2 hjl,Bb]at hj;rw[Array.getElem?_extract]at hu;split at hu
    ·exact hh _ a u hj hu
    ·cases hu
   ·have hd':(isAgg ft).run P w'=.ok true w':=by
     simp only[isAgg,Sem.run_bind,run_underlying (Ty.und (P:=P) (t:=ft)),Result.andThen_ok];cases d<;>simp_all [wO]
    simp[execOp,ho,hu,Instr.field,run_underlying (Ty.und (P:=P) (t:=t)),hf,asAgg,part,hd',sizeOf,typeInfo,hi,hs]
theorem GZ{k k':IntKind}{m m':Int}{ats:Array TypeId}(h:Ev s c x (.int k m))(h':Ev s c y (.int k' m')):Lop P (.call { callee:=.builtin .max,args:=#[x,y],argTypes:=ats }) ty s c (.int k (if m<m' then m' else m)) []:=
 Lop.pure_ fun M F N n a w hr hc=>⟨_,.int _ _,fun w' o ho _=>by
  have e1:=h.int hr hc;have e2:=h'.int hr hc;simp[execOp,ho,e1,e2,resolve,invoke,builtin,Builtin.max_,Builtin.max2]⟩
theorem aFW{k k':IntKind}{m m':Int}{ats:Array TypeId}(h:Ev s c x (.int k m))(h':Ev s c y (.int k' m')):Lop P (.call { callee:=.builtin .min,args:=#[x,y],argTypes:=ats }) ty s c (.int k (if m'<m then m' else m)) []:=
 Lop.pure_ fun M F N n a w hr hc=>⟨_,.int _ _,fun w' o ho _=>by
  have e1:=h.int hr hc;have e2:=h'.int hr hc;simp[execOp,ho,e1,e2,resolve,invoke,builtin,Builtin.min_,Builtin.min2]⟩
inductive OB (s:ASt) (c:Bool) (dflt:Nat):Option Operand->Nat->Prop
 |none:OB s c dflt Option.none dflt
 |some {x:Operand} {k:IntKind} {m:Int} {b:Nat} (h:Ev s c x (.int k m)) (hm:c=true->m=(b:Int)):OB s c dflt (Option.some x) b
inductive VB (dflt:Nat):Option Value->Nat->Prop
 |none:VB dflt Option.none dflt
 |some {k:IntKind} {b:Nat} :VB dflt (Option.some (.int k b)) b
theorem OB.vb {M:Mp}{F:Nat->Prop}{N n:Nat}{w:World}{a:Act}(hr:Rel M F N n s a w)(hc:c=true){dflt b:Nat}{o:Option Operand}(h:OB s c dflt o b):VB dflt (o.map a.eval) b:=by
 cases h with
 |none=>exact .none
 |some h hm=>
  have:=h.int hr hc;rw[hm hc]at this;rw[Option.map_some,this];exact .some
theorem OR{e:TypeId} [Ty P t (.slice e)] {sz by_:Nat}{z:Value} [Tz P e sz by_ z] {w:World}{A:Option Addr}{len cap l h m:Nat}{lo hi mx:Option Value}(hl:VB 0 lo l)(hh:VB len hi h)(hm:VB cap mx m)(hx:mx.isSome=true->hi.isSome=true)
  (h1:l<=h) (h2:h<=m) (h3:m<=cap):(Instr.sliceAt t (.slice A len cap) lo hi mx).run P w=.ok (.slice (if m=l then A else A.map (·.add (l*sz))) (h-l) (m-l)) w:=by
 obtain⟨j,hi',hz,hs,_⟩:=Tz.parts P e;have hb:∀(k:IntKind) (b y:Nat) (code:BoundsCode),b<=y->(Instr.sliceBound (.int k b) y code).run P w=.ok b w:=fun k b y code hle=>by
  rw[run_sliceBound w k b y code U U];simp
 have hat:∀lo hi mx,(Instr.sliceAt t (.slice A len cap) lo hi mx).run P w=(Instr.slice t (.slice A len cap) lo hi mx).run P w:=fun _ _ _=>by
  simp[Instr.sliceAt,run_underlying (Ty.und (P:=P) (t:=t))]
 have key:(Instr.sliceBounds true len cap lo hi mx).run P w=.ok (l,h,m) w:=by
  cases hl<;>cases hh<;>cases hm<;>first|(simp at hx;done)|(simp[Instr.sliceBounds,hb,h1,h2,h3])
 rw[hat];simp[Instr.slice,run_underlying (Ty.und (P:=P) (t:=t)),key,sizeOf,typeInfo,hi',hs]
theorem lR{e:TypeId} [Ty P t (.slice e)] {sz by_:Nat}{z:Value} [Tz P e sz by_ z] {es:List (List AV)}{k:Rk}{lo hi:Option Operand}{l h:Nat}(hx:Ev s c x (.ro sz es k))(hl:OB s c 0 lo l)(hh:OB s c es.length hi h)(h1:c=true->l<=h/\h<=es.length):
  Lop P (.slice t x lo hi none) ty s c (.ro sz ((es.drop l).take (h-l)) .any) []:=
 Lop.pure_ fun M F N n a w hr hc=>by
  have e1:=hx.vr hr hc;obtain⟨h1',h2⟩:=h1 hc;clear h1;have h1:=h1';have hlb:VB 0 (lo.map a.eval) l:=hl.vb hr hc;have hhb:VB es.length (hi.map a.eval) h:=hh.vb hr hc;generalize hu:a.eval x=u at e1;have hlen:((es.drop l).take (h-l)).length=h-l:=by rw[Bi,Bv];omega
  cases e1 with
  |@ro _ _ b o _ cap us hb hs hcl hrr hle hmm hf hn=>
   have hrun:∀w',(Instr.sliceAt t (.slice (some ⟨b,o,none⟩) es.length cap) (lo.map a.eval) (hi.map a.eval) none).run P w'=.ok (.slice (if cap=l then some ⟨b,o,none⟩else some ⟨b,o+l*sz,none⟩) (h-l) (cap-l)) w':=fun w'=>by
    rw[OR (P:=P) (t:=t) (mx:=none) hlb hhb .none (fun h=>by cases h) h1 U (A3 _)];simp[Addr.add_lit]
   refine⟨_, ?_,fun w' o' ho _=>by simp[execOp,ho,hu,hrun];rfl⟩;by_cases hcl':cap=l
   ·have h0:h-l=0:=by omega
    rw[Dc hcl',h0,List.take_zero];exact .ro0 U (fun h=>by cases h) (fun h=>by cases h) (fun h=>by cases h)
   ·rw[Db hcl'];have:VR M F w (.ro sz ((es.drop l).take (h-l)) .any) (.slice (some ⟨b,o+l*sz,none⟩) ((es.drop l).take (h-l)).length (cap-l)):=by
     refine .ro (us:=fun i j=>us (l+i) j) hb (fun x hx=>hs x (List.mem_of_mem_drop (Bf hx))) ?_ ?_ U U (fun h=>by cases h) (fun h=>by cases h)
     ·intro i e j a hi hj;have hil:=(Ai.1 hi).1;rw[hlen]at hil;rw[A2 hil,Bb]at hi;have:=hcl (l+i) e j a hi hj
      rwa [Nat.add_mul,<-By]at this
     ·intro i e j a hi hj;have hil:=(Ai.1 hi).1;rw[hlen]at hil;rw[A2 hil,Bb]at hi;exact hrr (l+i) e j a hi hj
    rwa [hlen]at this
  |@ro0 _ _ A cap hmm hA hf hn=>
   simp only[List.length_nil]at h2 hhb;have hrun:∀w',(Instr.sliceAt t (.slice A 0 cap) (lo.map a.eval) (hi.map a.eval) none).run P w'=.ok (.slice (if cap=l then A else A.map (·.add (l*sz))) (h-l) (cap-l)) w':=fun w'=>
    OR (P:=P) (t:=t) (mx:=none) hlb hhb .none (fun h=>by cases h) h1 U (A3 _)
   refine⟨_, ?_,fun w' o' ho _=>by simp[execOp,ho,hu,hrun];rfl⟩;have h0:h-l=0:=by omega
   rw[h0,List.take_zero];refine .ro0 U (fun h=> ?_) (fun h=>by cases h) (fun h=>by cases h);split at h
   ·omega
   ·simp only[Option.map_eq_none_iff]at h;have:=hA h;omega
theorem mN{e:TypeId} [Ty P t (.slice e)] {sz by_:Nat}{z:Value} [Tz P e sz by_ z] {r off len:Nat}{et:TypeId}{es:List (List AV)}{lo hi:Option Operand}{l h:Nat}(hx:Ev s c x (.own r off len))(hg:gM s.Y r=some (.arr et sz es))(hl:OB s c 0 lo l)(hh:OB s c len hi h)(h1:c=true->l<=h/\h<=len):
  Lop P (.slice t x lo hi none) ty s c (.own r (off+l) (h-l)) []:=
 Lop.pure_ fun M F N n a w hr hc=>by
  have e1:=hx.vr hr hc;obtain⟨h1',h2⟩:=h1 hc;clear h1;have h1:=h1';have hlb:VB 0 (lo.map a.eval) l:=hl.vb hr hc;have hhb:VB len (hi.map a.eval) h:=hh.vb hr hc;generalize hu:a.eval x=u at e1;obtain⟨_,_,h3⟩:=hr.st.ent _ (bV hg);cases e1 with
  |@own _ _ _ g cc _ hM hle hmm=>
   rcases h3 with⟨hv,_⟩|⟨g',cc',vs,hM',_⟩
   ·rw[hM]at hv;cases hv
   ·have hsz:=hM'.symm.trans hM;simp only[Option.some.injEq,Blk'.row.injEq]at hsz;obtain⟨q1,q2,q3⟩:=hsz;subst q1;subst q2;subst q3;have hrun:∀w',(Instr.sliceAt t (.slice (some ⟨g',off*sz,none⟩) len (cc'-off)) (lo.map a.eval) (hi.map a.eval) none).run P w'=.ok (.slice (if cc'-off=l then some ⟨g',off*sz,none⟩else some ⟨g',(off+l)*sz,none⟩) (h-l) (cc'-off-l)) w':=fun w'=>by
     rw[OR (P:=P) (t:=t) (mx:=none) hlb hhb .none (fun h=>by cases h) h1 U (A3 _)];simp[Nat.add_mul,Addr.add_lit]
    refine⟨_, ?_,fun w' o' ho _=>by simp[execOp,ho,hu,hrun];rfl⟩;by_cases hcl':cc'-off=l
    ·rw[Dc hcl',show h-l=0 by omega,show cc'-off-l=0 by omega];exact .own0
    ·rw[Db hcl',Nat.sub_sub];exact .own hM U hmm
  |@own0 _ _ A=>
   have hrun:∀w',(Instr.sliceAt t (.slice A 0 0) (lo.map a.eval) (hi.map a.eval) none).run P w'=.ok (.slice A 0 0) w':=fun w'=>by
    rw[OR (P:=P) (t:=t) (mx:=none) hlb hhb .none (fun h=>by cases h) h1 U (A3 _),Dc U,show h-l=0 by omega,Nat.zero_sub]
   refine⟨_, ?_,fun w' o' ho _=>by simp[execOp,ho,hu,hrun];rfl⟩;rw[show h-l=0 by omega];exact .own0
end
inductive Bor (Y:dI) (ts:List Nat):AV->AV->Prop
 |refl (x:AV):Bor Y ts x x
 |le {x y:AV} (h:VLe x y):Bor Y ts x y
 |own {t off len sz:Nat} {et:TypeId} {es:List (List AV)} (ht:t∈ts) (hg:gM Y t=some (.arr et sz es)) (hle:off+len<=es.length):Bor Y ts (.own t off len) (.ro sz ((es.drop off).take len) .any)
 |ownR {t off len sz:Nat} {et:TypeId} {es es':List (List AV)} (f:Nat->Nat->AV) (ht:t∈ts) (hg:gM Y t=some (.arr et sz es)) (hle:off+len<=es.length) (hl:es'.length=len) (hs:iY sz es')
   (h1:∀(i:Nat) (e:List AV) (j:Nat) (a:AV),es[i]? =some e->e[j]? =some a->f i j=a) (h2:∀(i:Nat) (e':List AV) (j:Nat) (a':AV),es'[i]? =some e'->e'[j]? =some a'->Bor Y ts (f (off+i) j) a'):Bor Y ts (.own t off len) (.ro sz es' .any)
 |agg {cs cs':List AV} (f:Nat->AV) (hl:cs'.length=cs.length) (h1:∀(j:Nat) (a:AV),cs[j]? =some a->f j=a) (h2:∀(j:Nat) (a':AV),cs'[j]? =some a'->Bor Y ts (f j) a'):Bor Y ts (.agg cs) (.agg cs')
 |bx {r off:Nat} {bt:TypeId} {cs cs':List AV} (f:Nat->AV) (ht:r∈ts) (hg:gM Y r=some (.box bt cs)) (hl:cs'.length=cs.length) (hc:∀a∈cs',a.cell=true) (h1:∀(j:Nat) (a:AV),cs[j]? =some a->f j=a) (h2:∀(j:Nat) (a':AV),cs'[j]? =some a'->Bor Y ts (f j) a'):Bor Y ts (.ptr r off) (.el cs.length [cs'] 0 off)
 |mp {r:Nat} {ks:List Int} {xs xs':List AV} (f:Nat->AV) (ht:r∈ts) (hg:gM Y r=some (.map ks xs)) (hl:xs'.length=xs.length) (h1:∀(j:Nat) (a:AV),xs[j]? =some a->f j=a) (h2:∀(j:Nat) (a':AV),xs'[j]? =some a'->Bor Y ts (f j) a'):Bor Y ts (.mp r) (.mro ks xs')
def FPlus (M:Mp) (F:Nat->Prop) (Y:dI) (ts:List Nat) (b:Nat):Prop:=F b\/∃p∈Y,p.1∈ts/\bP M p.1=some b
theorem Bor.vr {M:Mp}{F:Nat->Prop}{N:Nat}{w:World}{Y:dI}{ts:List Nat}(hr:SR M F N w Y){x y:AV}(h:Bor Y ts x y):∀ {v:Value},VR M F w x v->VR M (FPlus M F Y ts) w y v:=by
 have up:∀ {x:AV} {v:Value},VR M F w x v->VR M (FPlus M F Y ts) w x v:=fun h=>h.mono (fun _ _ h=>h) (fun _ h=>.inl h) (fun _ _=>rfl)
 have row:∀ {t off len sz:Nat} {et:TypeId} {es es':List (List AV)},t∈ts->gM Y t=some (.arr et sz es)->off+len<=es.length->es'.length=len->iY sz es'->
   (∀(i:Nat) (e':List AV) (j:Nat) (a':AV) (e:List AV) (a:AV) (u:Value),es'[i]? =some e'->e'[j]? =some a'->es[off+i]? =some e->e[j]? =some a->VR M F w a u->VR M (FPlus M F Y ts) w a' u)->
   ∀ {v:Value},VR M F w (.own t off len) v->VR M (FPlus M F Y ts) w (.ro sz es' .any) v:=by
  intro t off len sz et es es' ht hg hle hl hs hst v hv;obtain⟨h0,hrows,h3⟩:=hr.ent _ (bV hg);cases hv with
  |own0=>
   obtain rfl:=List.eq_nil_of_length_eq_zero hl;exact .ro0 (by simp[maxLen]) (fun _=>rfl) (fun h=>by cases h) (fun h=>by cases h)
  |@own _ _ _ g cc _ hM hlc hm=>
   rcases h3 with⟨hv',_⟩|⟨g',c',vs,hM',hcl,hsz,hle',hmax,hvr⟩
   ·rw[hM]at hv';cases hv'
   ·have hg':=hM'.symm.trans hM;simp only[Option.some.injEq,Blk'.row.injEq]at hg';obtain⟨q1,q2,q3⟩:=hg';subst q1;subst q2;subst q3;have at_:∀(i:Nat) (e':List AV) (j:Nat) (a':AV),es'[i]? =some e'->e'[j]? =some a'->∃e a u,es[off+i]? =some e/\e[j]? =some a/\vs[(off+i)*sz+j]? =some u:=by
     intro i e' j a' hi hj;have hil:=(Ai.1 hi).1;have hjs:j<sz:=by rw[<-(hs e' (Ah hi)).1];exact(Ai.1 hj).1
     have hi2:off+i<es.length:=by omega
     have hj2:j<(es[off+i]).length:=by rw[(hrows _ (List.getElem_mem hi2)).1];exact hjs
     have hu:(off+i)*sz+j<vs.size:=by rw[hsz];exact lG U hjs
     exact⟨_,_,_,Ar hi2,Ar hj2,A7 hu⟩
    have:VR M (FPlus M F Y ts) w (.ro sz es' .any) (.slice (some ⟨g',off*sz,none⟩) es'.length (c'-off)):=by
     refine .ro (us:=fun i j=>vs[(off+i)*sz+j]!) (.inr ⟨_,bV hg,ht,by simp[bP,hM]⟩) hs ?_ ?_ U U (fun h=>by cases h) (fun h=>by cases h)
     ·intro i e' j a' hi hj;obtain⟨e,a,u,k1,k2,k3⟩:=at_ i e' j a' hi hj;have:=hcl.cell ((off+i)*sz+j);rw[k3]at this;rw[<-Nat.add_mul,this];show some u=some (vs[(off+i)*sz+j]!);rw[Array.getElem!_eq_getD,Array.getD_eq_getD_getElem?,k3,Bz]
     ·intro i e' j a' hi hj;obtain⟨e,a,u,k1,k2,k3⟩:=at_ i e' j a' hi hj;have:=hst i e' j a' e a u hi hj k1 k2 (hvr _ e j a u k1 k2 k3)
      rwa [Array.getElem!_eq_getD,Array.getD_eq_getD_getElem?,k3,Bz]
    rwa [hl]at this
 induction h with
 |refl x=>exact up
 |le h=>exact fun hv=>up (h _ _ _ _ hv)
 |@own t off len sz et es ht hg hle=>
  intro v;refine row ht hg hle (by rw[Bi,Bv];exact Nat.min_eq_left U) (fun x hx=>(hr.ent _ (bV hg)).2.1 x (List.mem_of_mem_drop (Bf hx))) fun i e' j a' e a u hi hj k1 k2 hv=> ?_
  have hil:i<len:=by have:=(Ai.1 hi).1;rw[Bi]at this;omega
  rw[A2 hil,Bb,k1]at hi;obtain rfl:=Option.some.inj hi;rw[k2]at hj;obtain rfl:=Option.some.inj hj;exact up hv
 |ownR f ht hg hle hl hs h1 h2 ih=>
  intro v;refine row ht hg hle hl hs fun i e' j a' e a u hi hj k1 k2 hv=> ?_
  refine ih i e' j a' hi hj ?_;rw[h1 _ e j a k1 k2];exact hv
 |@agg cs cs' f hl h1 h2 ih=>
  intro v hv;cases hv with
  |@agg _ vs hl' hh=>
   refine .agg (by rw[hl',hl]) fun j a u hj hu=>ih j a hj ?_
   have hlt:j<vs.size:=(Array.getElem?_eq_some_iff.1 hu).1;have hlt':j<cs.length:=by omega
   rw[h1 j cs[j] (Ar hlt')];exact hh j _ u (Ar hlt') hu
 |@bx r off bt cs cs' f ht hg hl hc h1 h2 ih=>
  intro v hv;obtain⟨g,vs,hM,hcl,hsz,hvr⟩:=hr.ent _ (bV hg);cases hv with
  |ptr hM2=>
   simp only at hM;rw[hM]at hM2;cases hM2
   have h0:∀(i:Nat) (e:List AV) (j:Nat) (a:AV),[cs'][i]? =some e->e[j]? =some a->i=0/\cs'[j]? =some a/\j<vs.size:=by
    intro i e j a hi hj;have hi0:i=0:=by have:=(Ai.1 hi).1;simpa using this
    subst hi0;simp at hi;subst hi;have:=(Ai.1 hj).1;exact⟨rfl,hj,U⟩
   have:=VR.el (M:=M) (F:=FPlus M F Y ts) (w:=w) (es:=[cs']) (i:=0) (off:=off) (b:=g) (o:=0) (sz:=cs.length) (us:=fun _ j=>vs[j]!) (.inr ⟨_,bV hg,ht,by simp[bP,hM]⟩)
    (fun x hx=>by obtain rfl:=A1.1 hx;exact⟨hl,hc⟩)
    (fun i e j a hi hj=>by
     obtain⟨rfl,k1,k2⟩:=h0 i e j a hi hj;rw[Nat.zero_mul,B2,hcl.cell];simp[k2])
    (fun i e j a hi hj=>by
     obtain⟨rfl,k1,k2⟩:=h0 i e j a hi hj;have hlt:j<cs.length:=by omega
     refine ih j a k1 ?_;rw[h1 j cs[j] (Ar hlt)];exact hvr j _ _ (Ar hlt) (by simp[k2]))
   simpa using this
 |@mp r ks xs xs' f ht hg hl h1 h2 ih=>
  intro v hv;obtain⟨g,es,ck,hM,hh,hsz,hxl,hk,hvr⟩:=hr.ent _ (bV hg);cases hv with
  |mp hM2=>
   simp only at hM;rw[hM]at hM2;cases hM2
   refine .mro (.inr ⟨_,bV hg,ht,by simp[bP,hM]⟩) hh hsz U hk fun i x e hi he=>ih i x hi ?_
   have hlt:i<xs.length:=by have:=(Ai.1 hi).1;omega
   rw[h1 i xs[i] (Ar hlt)];exact hvr i _ e (Ar hlt) he
theorem FPlus.flt {M:Mp}{F:Nat->Prop}{N:Nat}{w:World}{Y:dI}{ts:List Nat}(hr:SR M F N w Y){b:Nat}(h:FPlus M F Y ts b):b<w.heap.size:=by
 rcases h with h|⟨p,hp,_,h⟩
 ·exact hr.flt b h
 ·exact(hr.ent p hp).lt h
inductive EBor (Y:dI) (ts:List Nat):Ent->Ent->Prop
 |refl (x:Ent):EBor Y ts x x
 |box {bt:TypeId} {cs cs':List AV} (h:Bor Y ts (.agg cs) (.agg cs')):EBor Y ts (.box bt cs) (.box bt cs')
 |map {ks:List Int} {xs xs':List AV} (h:Bor Y ts (.agg xs) (.agg xs')):EBor Y ts (.map ks xs) (.map ks xs')
theorem EBor.er {M:Mp}{F:Nat->Prop}{N:Nat}{w:World}{Y:dI}{ts:List Nat}(hr:SR M F N w Y){x y:Ent}(h:EBor Y ts x y){r:Nat}(hx:ER M F w r x):ER M (FPlus M F Y ts) w r y:=by
 cases h with
 |refl=>exact hx.mono (fun _ _ h=>h) (fun _ h=>.inl h) (fun _ _=>rfl) (fun _ _=>rfl)
 |@box bt cs cs' h=>
  obtain⟨g,vs,h1,h2,h3,h4⟩:=hx;have hv:=h.vr hr (.agg (vs:=vs) h3 h4);cases hv with
  |agg hl hh=>exact⟨g,vs,by rw[h1,<-hl,h3],h2,hl,hh⟩
 |@map ks xs xs' h=>
  obtain⟨g,es,ck,h1,h2,h3,h4,h5,h6⟩:=hx;have hv:=h.vr hr (.agg (vs:=es.map (·.val)) (by simp[h3,h4]) fun j a u hj hu=>by
   rw[Array.getElem?_map,Option.map_eq_some_iff]at hu;obtain⟨e,he,rfl⟩:=hu;exact h6 j a e hj he)
  cases hv with
  |agg hl hh=>exact⟨g,es,ck,h1,h2,h3,by simp at hl;omega,h5,fun i x e hi he=>hh i x e.val hi (by simp[he])⟩
theorem uV{s s':ASt}(ts:List Nat)(hf:∀i x',dR s'.fr i=some x'->∃x,dR s.fr i=some x/\Bor s.Y ts x x')(Dg:∀p∈s'.Y,p.1∉ts/\∃x,(p.1,x)∈s.Y/\EBor s.Y ts x p.2):SGo s s':=by
 intro M F N n a w hr;refine⟨M,FPlus M F s.Y ts,N,⟨hr.size,hr.defers,fun i x' hi=> ?_, ?_, ?_, ?_,fun b hb=>hb.flt hr.st,hr.st.fresh⟩,fun _ _ h=>h,fun _ h=>.inl h,A3 _,Only.refl _ _, ?_, ?_, ?_⟩
 ·obtain⟨x,hx,hb⟩:=hf i x' hi;exact hb.vr hr.st (hr.fr i x hx)
 ·intro p hp;obtain⟨_,x,hx,hb⟩:=Dg p hp;exact hb.er hr.st (hr.st.ent _ hx)
 ·intro p hp q hq g h1 h2;obtain⟨_,x,hx,_⟩:=Dg p hp;obtain⟨_,y,hy,_⟩:=Dg q hq;exact hr.st.inj (p.1,x) hx (q.1,y) hy g h1 h2
 ·rintro g ⟨p,hp,hg⟩ hF;obtain⟨hn,x,hx,_⟩:=Dg p hp;rcases hF with hF|⟨q,hq,hqt,hqg⟩
  ·exact hr.st.nof g ⟨_,hx,hg⟩ hF
  ·exact hn (by have:=hr.st.inj _ hx _ hq g hg hqg;simp only at this;rw[this];exact hqt)
 ·rintro g ⟨p,hp,hg⟩ _;obtain⟨_,x,hx,_⟩:=Dg p hp;exact⟨_,hx,hg⟩
 ·rintro b (hb|⟨q,hq,_,hqg⟩)
  ·exact .inl hb
  ·exact .inr (.inr ⟨q,hq,hqg⟩)
 ·intro p hp _;obtain⟨_,x,hx,_⟩:=Dg p hp;exact⟨_,hx,rfl⟩
theorem mC{P:Program}{n:Nat}{ops:Array Oper}{rest:List Oper}{s s':ASt}{K:ASt->Prop}(hgo:SGo s s')(h:RS P n ops rest s' K):RS P n ops rest s K:=by
 intro M F N a w hr;obtain⟨M1,F1,N1,hr1,he1⟩:=hgo M F N n a w hr;exact jU (PostN.ext he1) (h M1 F1 N1 a w hr1)
def NoF (x:AV):Prop:=∀(M:Mp) (F F':Nat->Prop) (w:World) (v:Value),VR M F w x v->VR M F' w x v
theorem NoF.int {k:IntKind}{m:Int}:NoF (.int k m):=fun _ _ _ _ _ h=>by cases h;exact .int _ _
theorem NoF.bool {b:Bool}:NoF (.bool b):=fun _ _ _ _ _ h=>by cases h;exact .bool _
theorem NoF.str {b:ByteArray}:NoF (.str b):=fun _ _ _ _ _ h=>by cases h;exact .str _
theorem NoF.nilp:NoF .nilp:=fun _ _ _ _ _ h=>by cases h;exact .nilp
theorem NoF.own {r o l:Nat}:NoF (.own r o l):=fun _ _ _ _ _ h=>by
 cases h with
 |own h h1 h2=>exact .own h h1 h2
 |own0=>exact .own0
theorem NoF.tup {cs:List AV}(h:∀x∈cs,NoF x):NoF (.tup cs):=fun _ _ _ _ _ hv=>by
 cases hv with
 |tup hl hh=>exact .tup hl fun j a u hj hu=>h a (Ah hj) _ _ _ _ _ (hh j a u hj hu)
def ENoF:Ent->Prop
 | .box _ cs=>∀x∈cs,NoF x
 | .arr _ _ es=>∀e∈es,∀x∈e,NoF x
 | .map _ xs=>∀x∈xs,NoF x
theorem ENoF.er {M:Mp}{F F':Nat->Prop}{w:World}{r:Nat}{x:Ent}(h:ENoF x)(hx:ER M F w r x):ER M F' w r x:=by
 cases x with
 |box bt cs=>
  obtain⟨g,vs,h1,h2,h3,h4⟩:=hx;exact⟨g,vs,h1,h2,h3,fun j a u hj hu=>h a (Ah hj) _ _ _ _ _ (h4 j a u hj hu)⟩
 |arr e sz es=>
  obtain⟨h0,h1,h2⟩:=hx;refine⟨h0,h1, ?_⟩;rcases h2 with h2|⟨g,c,vs,h2,h3,h4,h5,h6,h7⟩
  ·exact .inl h2
  ·exact .inr ⟨g,c,vs,h2,h3,h4,h5,h6,fun i x j a u hi hj hu=>h x (Ah hi) a (Ah hj) _ _ _ _ _ (h7 i x j a u hi hj hu)⟩
 |map ks xs=>
  obtain⟨g,es,ck,h1,h2,h3,h4,h5,h6⟩:=hx;exact⟨g,es,ck,h1,h2,h3,h4,h5,fun i x e hi he=>h x (Ah hi) _ _ _ _ _ (h6 i x e hi he)⟩
inductive ArgsBor (s:ASt) (ts:List Nat):List Operand->List AV->Prop
 |nil:ArgsBor s ts [] []
 |cons {x:Operand} {xs:List Operand} {v y:AV} {ys:List AV} (h:aev s x=some v) (hb:Bor s.Y ts v y) (hr:ArgsBor s ts xs ys):ArgsBor s ts (x::xs) (y::ys)
theorem ArgsBor.len {s:ASt}{ts:List Nat}{xs:List Operand}{ys:List AV}(h:ArgsBor s ts xs ys):xs.length=ys.length:=by
 induction h with
 |nil=>rfl
 |cons _ _ _ ih=>simp[ih]
theorem ArgsBor.vr {s:ASt}{ts:List Nat}{M:Mp}{F:Nat->Prop}{N n:Nat}{a:Act}{w:World}(hr:Rel M F N n s a w){xs:List Operand}{ys:List AV}(h:ArgsBor s ts xs ys):∀(i:Nat) (y:AV) (v:Value),ys[i]? =some y->(xs.map a.eval)[i]? =some v->VR M (FPlus M F s.Y ts) w y v:=by
 induction h with
 |nil=>intro i y v hi;simp at hi
 |@cons x xs v y ys hx hb _ ih=>
  intro i y' v' hi hv;cases i with
  |zero=>
   simp only[List.getElem?_cons_zero,Option.some.injEq,Bn]at hi hv;subst hi;subst hv;exact hb.vr hr.st (hr.aev hx)
  |succ i=>exact ih i y' v' (by simpa using hi) (by simpa using hv)
theorem tA{P:Program}{n:Nat}{s:ASt}{ty:TypeId}{d:Nat}{f:FuncId}{xs:List Operand}{ats:Array TypeId}{args:List AV}{R:AV->dI->Prop}{K:ASt->Prop}(ts:List Nat)(hf:∀args w,(callFunc f args).run P w=.ok (.enter f args) w)(h:SCall P f args [] R)(hd:d<n)
  (hargs:ArgsBor s ts xs args) (hno:∀x Y',R x Y'->NoF x/\∀p∈Y',ENoF p.2)
  (hK:∀x Y',R x Y'->(∀p∈Y',Fresh p.1 s.Y)->K ⟨(d,x)::s.fr,Y'++s.Y⟩):
  Hop P n (.call { callee:=.value (.func f),args:=xs.toArray,argTypes:=ats }) ty (some d) s [] K:=by
 intro M F N a w o ho _ hdst hr next Q hnext
 have h1:(execOp a.eval o).run P w=.ok (.enter f (xs.map a.eval).toArray) w:=by
  obtain⟨dst,op,ty',pos,after,guard⟩:=o;dsimp only at ho;subst ho;rw[execOp_call_go,Array.append_empty,Array.empty_append,List.map_toArray,hf]
 unfold Oper.wp;rw[h1];show Calls P f (xs.map a.eval).toArray w _;have hs1:SR M (FPlus M F s.Y ts) N w []:=⟨fun p hp=>(by simp at hp),fun p hp=>(by simp at hp),fun g ⟨p,hp,_⟩=>(by simp at hp),fun b hb=>hb.flt hr.st,hr.st.fresh⟩
 refine(h M (FPlus M F s.Y ts) N w (xs.map a.eval) (by simp[hargs.len]) (hargs.vr hr) hs1).mono ?_;rintro e w' ⟨v,x,M',F',N',Y',rfl,he,hv,hs',hR⟩;obtain⟨hnx,hnY⟩:=hno x Y' hR;have hold:∀g,g<w.heap.size->w'.heap[g]? =w.heap[g]? :=fun g hg=>he.only.block g hg (fun⟨p,hp,_⟩=>by simp at hp)
 have hSame:Same F w w':=fun g hg=>hold g (hr.st.flt g hg)
 have hnew:∀g,Bs M' Y' g->w.heap.size<=g:=fun g hg=>by
  rcases Br g w.heap.size with hlt|hge
  ·obtain⟨p,hp,_⟩:=he.old g hg hlt;simp at hp
  ·exact hge
 have hMeq:∀p∈s.Y,bP M' p.1=bP M p.1:=by
  intro p hp;have hne:=(hr.st.ent p hp).some;unfold bP;cases hm:M p.1 with
  |none=>exact absurd hm hne
  |some b=>rw[he.mm _ _ hm]
 have honly:∀S:Nat->Prop,Only S w w':=fun S=>⟨he.only.os,he.only.tape,he.only.output,he.only.size,fun k hk _=>hold k hk⟩
 have hext:Ext M F N w s.Y M' F N' w' (Y'++s.Y):=by
  refine⟨he.mm,fun _ h=>h,he.nn,honly _, ?_,fun b hb=>.inl hb, ?_⟩
  ·rintro g ⟨p,hp,hg⟩ hlt;rcases A8.1 hp with hp|hp
   ·have:=hnew g ⟨p,hp,hg⟩;omega
   ·exact⟨p,hp,by rw[<-hMeq p hp];exact hg⟩
  ·intro p hp hlt;rcases A8.1 hp with hp|hp
   ·obtain⟨q,hq,_⟩:=he.nam p hp hlt;simp at hq
   ·exact⟨p,hp,rfl⟩
 have hSR:SR M' F N' w' (Y'++s.Y):=by
  refine⟨?_, ?_, ?_,fun b hb=>Nat.lt_of_lt_of_le (hr.st.flt b hb) he.only.size,hs'.fresh⟩
  ·intro p hp;rcases A8.1 hp with hp|hp
   ·exact(hnY p hp).er (hs'.ent p hp)
   ·exact ER.mono he.mm (fun _ h=>h) hSame (fun g hg=>hold g ((hr.st.ent p hp).lt hg)) (hr.st.ent p hp)
  ·intro p hp q hq g hpg hqg;rcases A8.1 hp with hp|hp<;>rcases A8.1 hq with hq|hq
   ·exact hs'.inj p hp q hq g hpg hqg
   ·have h1:=hnew g ⟨p,hp,hpg⟩;rw[hMeq q hq]at hqg;have:=(hr.st.ent q hq).lt hqg;omega
   ·have h1:=hnew g ⟨q,hq,hqg⟩;rw[hMeq p hp]at hpg;have:=(hr.st.ent p hp).lt hpg;omega
   ·rw[hMeq p hp]at hpg;rw[hMeq q hq]at hqg;exact hr.st.inj p hp q hq g hpg hqg
  ·rintro g ⟨p,hp,hg⟩ hF;rcases A8.1 hp with hp|hp
   ·have h1:=hnew g ⟨p,hp,hg⟩;have:=hr.st.flt g hF;omega
   ·rw[hMeq p hp]at hg;exact hr.st.nof g ⟨p,hp,hg⟩ hF
 have hrel:Rel M' F N' n ⟨s.fr,Y'++s.Y⟩ a w':=⟨hr.size,hr.defers,fun i y hi=>(hr.fr i y hi).mono he.mm (fun _ h=>h) hSame,hSR⟩
 rw[hdst];refine hnext M' F N' _ w' _ (hrel.put hd (hnx _ _ _ _ _ hv)) hext (honly _) ?_;refine hK x Y' hR fun p hp q hq heq=> ?_
 rcases Br p.1 N with hlt|hge
 ·obtain⟨q',hq',_⟩:=he.nam p hp hlt;simp at hq'
 ·have:=hr.st.name hq;omega
section
variable {P : Program} {n : Nat} {ops : Array Oper} {rest : List Oper} {s : ASt} {K : ASt -> Prop} {op : Op} {ty t t' : TypeId} {pos : String} {af : Array Edge} {x y : Operand}
inductive ArgsIf (s:ASt) (c:Bool) (ts:List Nat):List Operand->List AV->Prop
 |nil:ArgsIf s c ts [] []
 |cons {x:Operand} {xs:List Operand} {v y:AV} {ys:List AV} (h:Ev s c x v) (hb:Bor s.Y ts v y) (hr:ArgsIf s c ts xs ys):ArgsIf s c ts (x::xs) (y::ys)
theorem ArgsIf.len {s:ASt}{c:Bool}{ts:List Nat}{xs:List Operand}{ys:List AV}(h:ArgsIf s c ts xs ys):xs.length=ys.length:=by
 induction h with
 |nil=>rfl
 |cons _ _ _ ih=>simp[ih]
theorem ArgsIf.vr {s:ASt}{c:Bool}{ts:List Nat}{M:Mp}{F:Nat->Prop}{N n:Nat}{a:Act}{w:World}(hr:Rel M F N n s a w)(hc:c=true){xs:List Operand}{ys:List AV}(h:ArgsIf s c ts xs ys):∀(i:Nat) (y:AV) (v:Value),ys[i]? =some y->(xs.map a.eval)[i]? =some v->VR M (FPlus M F s.Y ts) w y v:=by
 induction h with
 |nil=>intro i y v hi;simp at hi
 |@cons x xs v y ys hx hb _ ih=>
  intro i y' v' hi hv;cases i with
  |zero=>
   simp only[List.getElem?_cons_zero,Option.some.injEq,Bn]at hi hv;subst hi;subst hv;exact hb.vr hr.st (hx.vr hr hc)
  |succ i=>exact ih i y' v' (by simpa using hi) (by simpa using hv)
theorem tL{c:Bool}{f:FuncId}{xs:List Operand}{ats:Array TypeId}{args:List AV}{v:AV}(ts:List Nat)(hf:∀args w,(callFunc f args).run P w=.ok (.enter f args) w)(h:c=true->SCall P f args [] (fun x Y'=>x=v/\Y'=[]))(hc:c=true)
  (hargs:ArgsIf s c ts xs args) (hno:NoF v) {M:Mp} {F:Nat->Prop} {N:Nat} {a:Act} {w:World} (hr:Rel M F N n s a w) {o:Oper} (ho:o.op=.call { callee:=.value (.func f),args:=xs.toArray,argTypes:=ats }) {next:Act->World->Prop} {Q:Exit->Act->World->Prop}
  (hnext:∀(M':Mp) (N':Nat) (w':World) (u:Value),Rel M' F N' n s a w'->Ext M F N w s.Y M' F N' w' s.Y->(∀S,Only S w w')->VR M' F w' v u->next (a.put o.dst u) w'):o.wp P a w next Q:=by
 have h1:(execOp a.eval o).run P w=.ok (.enter f (xs.map a.eval).toArray) w:=by
  obtain⟨dst,op,ty',pos,after,guard⟩:=o;dsimp only at ho;subst ho;rw[execOp_call_go,Array.append_empty,Array.empty_append,List.map_toArray,hf]
 unfold Oper.wp;rw[h1];show Calls P f (xs.map a.eval).toArray w _;have hs1:SR M (FPlus M F s.Y ts) N w []:=⟨fun p hp=>(by simp at hp),fun p hp=>(by simp at hp),fun g ⟨p,hp,_⟩=>(by simp at hp),fun b hb=>hb.flt hr.st,hr.st.fresh⟩
 refine(h hc M (FPlus M F s.Y ts) N w (xs.map a.eval) (by simp[hargs.len]) (hargs.vr hr hc) hs1).mono ?_;rintro e w' ⟨u,x,M',F',N',Y',rfl,he,hv,hs',rfl,rfl⟩;have hold:∀g,g<w.heap.size->w'.heap[g]? =w.heap[g]? :=fun g hg=>he.only.block g hg (fun⟨p,hp,_⟩=>by simp at hp)
 have hSame:Same F w w':=fun g hg=>hold g (hr.st.flt g hg)
 have hMeq:∀p∈s.Y,bP M' p.1=bP M p.1:=by
  intro p hp;have hne:=(hr.st.ent p hp).some;unfold bP;cases hm:M p.1 with
  |none=>exact absurd hm hne
  |some b=>rw[he.mm _ _ hm]
 have honly:∀S:Nat->Prop,Only S w w':=fun S=>⟨he.only.os,he.only.tape,he.only.output,he.only.size,fun k hk _=>hold k hk⟩
 refine hnext M' N' w' u ⟨hr.size,hr.defers,fun i y hi=>(hr.fr i y hi).mono he.mm (fun _ h=>h) hSame, ?_, ?_, ?_,fun b hb=>Nat.lt_of_lt_of_le (hr.st.flt b hb) he.only.size,hs'.fresh⟩ ⟨he.mm,fun _ h=>h,he.nn,honly _, ?_,fun b hb=>.inl hb,fun p hp _=>⟨p,hp,rfl⟩⟩ honly (hno _ _ _ _ _ hv)
 ·intro p hp;exact ER.mono he.mm (fun _ h=>h) hSame (fun g hg=>hold g ((hr.st.ent p hp).lt hg)) (hr.st.ent p hp)
 ·intro p hp q hq g hpg hqg;rw[hMeq p hp]at hpg;rw[hMeq q hq]at hqg;exact hr.st.inj p hp q hq g hpg hqg
 ·rintro g ⟨p,hp,hg⟩ hF;rw[hMeq p hp]at hg;exact hr.st.nof g ⟨p,hp,hg⟩ hF
 ·rintro g ⟨p,hp,hg⟩ _;exact⟨p,hp,by rw[<-hMeq p hp];exact hg⟩
theorem aFX{f:FuncId}{d:Nat}{xs:List Operand}{ats:Array TypeId}{args:List AV}{v:AV}(ts:List Nat)(hf:∀args w,(callFunc f args).run P w=.ok (.enter f args) w)(h:SCall P f args [] (fun x Y'=>x=v/\Y'=[]))(hd:d<n)
  (hargs:ArgsIf s true ts xs args) (hno:NoF v) (hK:RS P n ops rest (s.put d v) K):RS P n ops (⟨some d,.call { callee:=.value (.func f),args:=xs.toArray,argTypes:=ats },ty,pos,af,none⟩::rest) s K:=by
 refine gA (fp:=[]) ?_;intro M F N a w o ho _ hdst hr next Q hnext
 refine tL ts hf (fun _=>h) rfl hargs hno hr ho fun M' N' w' u hr' he ho' hv=> ?_
 rw[hdst];exact hnext M' F N' _ w' (s.put d v) (hr'.put hd hv) he (ho' _) hK
theorem SD{f:FuncId}{d:Nat}{xs:List Operand}{ats:Array TypeId}{args:List AV}{v:AV}(ts:List Nat)(hf:∀args w,(callFunc f args).run P w=.ok (.enter f args) w)(h:SCall P f args [] (fun x Y'=>x=v/\Y'=[]))(hd:d<n)
  (hargs:ArgsIf s true ts xs args) (hno:NoF v) (hK:K (s.put d v)):Hop P n (.call { callee:=.value (.func f),args:=xs.toArray,argTypes:=ats }) ty (some d) s [] K:=by
 intro M F N a w o ho _ hdst hr next Q hnext
 refine tL ts hf (fun _=>h) rfl hargs hno hr ho fun M' N' w' u hr' he ho' hv=> ?_
 rw[hdst];exact hnext M' F N' _ w' (s.put d v) (hr'.put hd hv) he (ho' _) hK
theorem LB{f:FuncId}{d j dj:Nat}{want b:Bool}{xs:List Operand}{ats:Array TypeId}{args:List AV}{v:AV}(ts:List Nat)(hj:(ops[j]?).bind (·.dst)=some dj)(hb:dR s.fr dj=some (.bool b))(hf:∀args w,(callFunc f args).run P w=.ok (.enter f args) w)
  (h:(b==want)=true->SCall P f args [] (fun x Y'=>x=v/\Y'=[])) (hd:d<n) (hargs:ArgsIf s (b==want) ts xs args) (hno:NoF v) (hK:RS P n ops rest (s.put d (.when (b==want) v)) K):
  RS P n ops (⟨some d,.call { callee:=.value (.func f),args:=xs.toArray,argTypes:=ats },ty,pos,af,some (j,want)⟩::rest) s K:=by
 intro M F N a w hr;have hw:=oR (o:=⟨some d,.call { callee:=.value (.func f),args:=xs.toArray,argTypes:=ats },ty,pos,af,some (j,want)⟩) hr rfl hj hb;refine wpList_step fun K' hK'=> ?_
 rw[hw];by_cases hbw:(b==want)=true
 ·rw[Dc hbw];refine tL ts hf h hbw hargs hno hr rfl fun M' N' w' u hr' he _ hv=> ?_
  exact hK' _ _ (jU (PostN.ext he) (hK M' F N' _ w' (hr'.put hd (.when (fun _=>hv) (fun h=>by rw[hbw]at h;cases h)))))
 ·simp only[Bool.not_eq_true]at hbw;rw[Db (by rw[hbw];simp)];exact hK' _ _ (hK M F N _ w (hr.put hd (.when (fun h=>by rw[hbw]at h;cases h) (fun _=>rfl))))
theorem IA{e:TypeId} [Ty P t (.slice e)] {o:Oper}{a:Act}{w:World}(ho:o.op=.binOp .eql t x y t'){A:Option Addr}{l c:Nat}(hx:a.eval x=.slice A l c)(hy:a.eval y=.slice none 0 0):(execOp a.eval o).run P w=.ok (.value (.bool A.isNone)) w:=by
 refine oQ ho ?_ ?_
 ·rw[hx];simp[eqGuard]
 ·rw[hx,hy];exact Lib.run_eql_slice_nil w t _ A l c 0 0 (Ty.und (P:=P) (t:=t))
theorem aBp{e:TypeId} [Ty P t (.slice e)] {d sz:Nat}{es:List (List AV)}{k:Rk}(h:aev s x=some (.ro sz es k))(hy:y=.const (.slice none 0 0))(hd:d<n)(hK:∀b,(b=true->es=[])->(k=.nil->b=true)->RS P n ops rest (s.put d (.bool b)) K):
  RS P n ops (⟨some d,.binOp .eql t x y t',ty,pos,af,none⟩::rest) s K:=by
 subst hy;intro M F N a w hr;refine wpList_plain rfl fun K' hK'=> ?_
 have hv:=hr.aev h;generalize hu:a.eval x=u at hv;unfold Oper.wp;cases hv with
 |@ro _ _ b o _ cap us hb hs hc hrr hle hm hf hn=>
  rw[IA (P:=P) (t:=t) (o:=⟨some d,.binOp .eql t x (.const (.slice none 0 0)) t',ty,pos,af,none⟩) rfl hu rfl];exact hK' _ _ (hK false (fun h=>by cases h) (fun h=>absurd h hn) M F N _ w (hr.put hd (.bool _)))
 |@ro0 _ _ A cap hm hA hf hn=>
  rw[IA (P:=P) (t:=t) (o:=⟨some d,.binOp .eql t x (.const (.slice none 0 0)) t',ty,pos,af,none⟩) rfl hu rfl];exact hK' _ _ (hK A.isNone (fun _=>rfl) (fun h=>by rw[hn h];rfl) M F N _ w (hr.put hd (.bool _)))
theorem xJ{sz1 by_:Nat}{z:Value} [Tz P t sz1 by_ z] {r i off:Nat}{et:TypeId}{sz:Nat}{es:List (List AV)}{e:List AV}{v:AV}(h:aev s x=some (.ow r i off))(hg:gM s.Y r=some (.arr et sz es))(he:es[i]? =some e)(ho':off+sz1<=e.length)(hv:aev s y=some v)(hcb:v.cells.all AV.cell=true)(hl:v.cells.length=sz1)
  (hK:K ⟨s.fr,ED s.Y r (.arr et sz (es.set i (e.take off++v.cells++e.drop (off+sz1))))⟩):Hop P n (.store t x y) ty none s [r] K:=by
 have hc:∀a∈v.cells,a.cell=true:=Bw.1 hcb;intro M F N a w o ho _ hdst hr next Q hnext
 have hx:=hr.aev h;generalize hu:a.eval x=u at hx;have hmem:=bV hg;obtain⟨h0,hrows,h3⟩:=hr.st.ent _ hmem;obtain⟨c1,c2,c3⟩:=(hr.aev hv).cells hc;have hel:=hrows e (Ah he);cases hx with
 |ow hM=>
  rcases h3 with⟨hv',_⟩|⟨g,cc,vs,hM',hcl,hsz,hle,hmax,hvr⟩
  ·rw[hM]at hv';cases hv'
  ·have hg':=hM'.symm.trans hM;simp only[Option.some.injEq,Blk'.row.injEq]at hg';obtain⟨q1,q2,q3⟩:=hg';subst q1;subst q2;subst q3;have hi:i<es.length:=(Ai.1 he).1;have hfit:i*sz+(off+sz1)<=vs.size:=by
    rw[hsz]
    calc i*sz+(off+sz1)<=i*sz+sz:=by omega
     _=(i+1)*sz:=by rw[Nat.succ_mul]
     _ <=cc*sz:=Bq _ U
   have hrun:=FF (P:=P) (w:=w) (t:=t) (g:=g) (o:=i*sz+off) (et:=et) (cur:=vs) (v:=a.eval y) (by rw[c1,hl]) hcl U c3;have hex:(execOp a.eval o).run P w=.ok .skip (w.setRow g (vs.toList.take (i*sz+off)++(a.eval y).cells.toList++vs.toList.drop (i*sz+off+sz1)).toArray):=by
    simp[execOp,ho,hu]at hrun⊢;simp[hrun]
   unfold Oper.wp;rw[hex,Oper.upon_skip,hdst];have hbl:bP M r=some g:=by simp[bP,hM]
   have hF:¬F g:=hr.st.nof g ⟨_,hmem,hbl⟩;have hSame:Same F w (w.setRow g (vs.toList.take (i*sz+off)++(a.eval y).cells.toList++vs.toList.drop (i*sz+off+sz1)).toArray):=fun b hb=>setRow_other w g b _ (fun e=>hF (e▸hb))
   have k1:(vs.toList.take (i*sz+off)).length=i*sz+off:=by rw[Bi];simp;omega
   have k2:(a.eval y).cells.toList.length=sz1:=by simp[c1,hl]
   have l1:(e.take off).length=off:=by rw[Bi];omega
   have hE:ER M F (w.setRow g (vs.toList.take (i*sz+off)++(a.eval y).cells.toList++vs.toList.drop (i*sz+off+sz1)).toArray) r (.arr et sz (es.set i (e.take off++v.cells++e.drop (off+sz1)))):=by
    refine⟨h0, ?_,.inr ⟨g,cc,_,hM',hcl.set_ (by simp only[List.size_toArray,Ao,k1,k2,Bv,Array.length_toList];omega), ?_,by simpa using hle,hmax,fun k xs j b u hk hj hu'=> ?_⟩⟩
    ·intro xs hxs;rcases List.mem_or_eq_of_mem_set hxs with hxs|rfl
     ·exact hrows xs hxs
     ·refine⟨by simp only[Ao,l1,hl,Bv];omega,fun b hb=> ?_⟩;rcases A8.1 hb with hb|hb
      ·rcases A8.1 hb with hb|hb
       ·exact hel.2 b (Bf hb)
       ·exact hc b hb
      ·exact hel.2 b (List.mem_of_mem_drop hb)
    ·simp only[List.size_toArray,Ao,k1,k2,Bv,Array.length_toList];omega
    ·refine VR.mono (fun _ _ h=>h) (fun _ h=>h) hSame ?_;simp only[List.getElem?_toArray,Aq]at hu';by_cases hki:i=k
     ·subst hki;rw[List.getElem?_set_self hi]at hk;obtain rfl:=Option.some.inj hk;rw[Aq]at hj;rcases Br j off with hjo|hjo
      ·rw[Ba U,A2 hjo]at hj;rw[Ba U,A2 U]at hu';exact hvr i e j b u he hj (by simpa using hu')
      ·rw[A6 U,l1]at hj;rw[A6 U,k1,show i*sz+j-(i*sz+off)=j-off by omega]at hu';rcases Br (j-off) sz1 with hjs|hjs
       ·rw[Ba U]at hj;rw[Ba U]at hu';exact c2 _ b u hj (by simpa using hu')
       ·rw[A6 U,hl,Bb,show off+sz1+(j-off-sz1)=j by omega]at hj;rw[A6 U,k2,Bb,show i*sz+off+sz1+(j-off-sz1)=i*sz+j by omega]at hu';exact hvr i e j b u he hj (by simpa using hu')
     ·rw[List.getElem?_set_ne hki]at hk;have hjl:j<sz:=by rw[<-(hrows xs (Ah hk)).1];exact(Ai.1 hj).1
      refine hvr k xs j b u hk hj ?_;rcases Br k i with hlt|hge
      ·have:(k+1)*sz<=i*sz:=Bq _ U;rw[Nat.succ_mul]at this;rw[Ba U,A2 U]at hu';simpa using hu'
      ·have:(i+1)*sz<=k*sz:=Bq _ U;rw[Nat.succ_mul]at this;rw[A6 U,k1,A6 U,k2,Bb,show i*sz+off+sz1+(k*sz+j-(i*sz+off)-sz1)=k*sz+j by omega]at hu';simpa using hu'
   obtain⟨r1,e1,o1⟩:=hr.set_ hmem hbl xI hE;exact hnext M F N _ _ _ r1 e1 o1 hK
theorem SE{s:ASt}{i z:Nat}{k:Rk}(e:TypeId){sz:Nat}(h0:0<sz)(hx:dR s.fr i=some (.ro z [] k))(hk:k≠ .any){M:Mp}{F:Nat->Prop}{N n:Nat}{a:Act}{w:World}(hr:Rel M F N n s a w):
  Rel (fX M N .virt) F (N+1) n ⟨(i,.own N 0 0)::s.fr,(N,.arr e sz [])::s.Y⟩ a w/\Ext M F N w s.Y (fX M N .virt) F (N+1) w ((N,.arr e sz [])::s.Y)/\Fresh N s.Y:=by
 have hE:ER (fX M N .virt) F w N (.arr e sz []):=⟨h0,fun x hx=>by simp at hx,.inl ⟨bX _,rfl⟩⟩
 obtain⟨r1,e1,n1⟩:=hr.new_ (w':=w) .virt (.arr e sz []) (fun _ _=>rfl) ⟨rfl,rfl,rfl⟩ (A3 _) (fun g hg=>by simp[bP,bX]at hg) hE;refine⟨⟨r1.size,r1.defers,fun j y hj=> ?_,r1.st⟩,e1,n1⟩;simp only[dR]at hj;split at hj
 ·next e=>
  subst e;obtain rfl:=Option.some.inj hj;have hv:=r1.fr j _ hx;generalize a.tmps.getD j Go.undef=u at hv;cases hv with
  |@ro _ _ b o _ cap us hb hs hc hrr hle hm hf hn=>
   cases k with
   |nil=>exact absurd rfl hn
   |full=>have:=hf rfl;simp at this;subst this;exact .own0
   |any=>exact absurd rfl hk
  |ro0 hm hA hf hn=>
   cases k with
   |nil=>obtain rfl:=hn rfl;obtain rfl:=hA rfl;exact .own0
   |full=>obtain rfl:=hf rfl;exact .own0
   |any=>exact absurd rfl hk
 ·exact r1.fr j y hj
theorem bQ{ks:List Nat}{c:Code}{Q:Exit->ASt->Prop}(i:Nat)(e:TypeId)(sz:Nat)(h0:0<sz){z:Nat}{k:Rk}(hx:dR s.fr i=some (.ro z [] k))(hk:k≠ .any)(h:∀r,Fresh r s.Y->SW P n ks c ⟨(i,.own r 0 0)::s.fr,(r,.arr e sz [])::s.Y⟩ Q):SW P n ks c s Q:=by
 intro M F N a w hr;obtain⟨r1,e1,n1⟩:=SE e h0 hx hk hr;refine wp_mono (h N n1 _ F _ a w r1) ?_;rintro e' a' w' ⟨M',F',N',s2,h1,h2,h3⟩;exact⟨M',F',N',s2,h1,e1.trans h2,h3⟩
end
inductive StLe (Y:dI):dI->Prop
 |nil:StLe Y []
 |cons {r:Nat} {x y:Ent} {l:dI} (h:(r,x)∈Y) (he:x=y) (t:StLe Y l):StLe Y ((r,y)::l)
theorem StLe.mem {Y l:dI}(h:StLe Y l):∀p∈l,p∈Y:=by
 induction h with
 |nil=>intro p hp;simp at hp
 |cons h he _ ih=>
  intro p hp;rcases Av.1 hp with rfl|hp
  ·exact he▸h
  ·exact ih p hp
theorem aJE{s:ASt}{fr':Fr}{Y':dI}(h:FrLe s.fr fr')(Dg:StLe s.Y Y'):SGo s ⟨fr',Y'⟩:=SGo.of_le h.get Dg.mem
theorem aR{P:Program}{n:Nat}{ops:Array Oper}{rest:List Oper}{fr:Fr}{Y Y':dI}{K:ASt->Prop}(h:Y=Y')(hK:RS P n ops rest ⟨fr,Y'⟩ K):RS P n ops rest ⟨fr,Y⟩ K:=h▸hK
theorem bC{P:Program}{n:Nat}{ops:Array Oper}{listed:Array Bool}{todo:List (Nat×Bool)}{held:List (Nat×List Nat)}{fr:Fr}{Y Y':dI}{K:ASt->Prop}(h:Y=Y')(hK:RD P n ops listed todo held ⟨fr,Y'⟩ K):RD P n ops listed todo held ⟨fr,Y⟩ K:=h▸hK
inductive HB (ops:Array Oper) (j:Nat) (names fp:List Nat):List (Nat×List Nat)->Prop
 |nil:HB ops j names fp []
 |none {i:Nat} {l:List (Nat×List Nat)} (h:HB ops j names fp l):HB ops j names fp ((i,[])::l)
 |waits {i:Nat} {rs:List Nat} {l:List (Nat×List Nat)} (hw:(((ops[j]?).map fun o=>o.after.any fun e=>Region.binds .any e&&e.on==i).getD false)=true) (h:HB ops j names fp l):HB ops j names fp ((i,rs)::l)
 |ok {i:Nat} {rs:List Nat} {l:List (Nat×List Nat)} (h1:∀r∈rs,r∈names/\r∉fp) (h:HB ops j names fp l):HB ops j names fp ((i,rs)::l)
theorem HB.held {ops:Array Oper}{j:Nat}{names fp:List Nat}{held:List (Nat×List Nat)}(h:HB ops j names fp held):∀r∈sZ ops held j,r∈names/\r∉fp:=by
 have cons:∀ {i:Nat} {rs:List Nat} {l:List (Nat×List Nat)},(∀r∈sZ ops l j,r∈names/\r∉fp)->((((ops[j]?).map fun o=>o.after.any fun e=>Region.binds .any e&&e.on==i).getD false)=true\/∀r∈rs,r∈names/\r∉fp)->∀r∈sZ ops ((i,rs)::l) j,r∈names/\r∉fp:=by
  intro i rs l h1 h2 r hr;simp only[sZ,List.flatMap_cons]at hr;rcases A8.1 hr with hr|hr
  ·split at hr
   ·simp at hr
   ·next hn=>exact h2.elim (fun h=>absurd h hn) (fun h=>h r hr)
  ·exact h1 r hr
 induction h with
 |nil=>intro r hr;simp[sZ]at hr
 |none _ ih=>exact cons ih (.inr X)
 |waits hw _ ih=>exact cons ih (.inl hw)
 |ok h1 _ ih=>exact cons ih (.inr h1)
section
variable {P : Program} {n : Nat} {ops : Array Oper} {listed : Array Bool} {todo : List (Nat × Bool)} {held : List (Nat × List Nat)} {s : ASt} {K : ASt -> Prop} {op : Op} {ty : TypeId} {pos : String} {af : Array Edge} {i : Nat}
theorem AS{dst:Option Nat}(hi:ops[i]? =some ⟨dst,op,ty,pos,af,none⟩)(h:Hop P n op ty dst s [] fun s'=>RD P n ops (listed.setIfInBounds i true) todo held s' K):RD P n ops listed ((i,false)::todo) held s K:=RZ hi h (.inl rfl)
theorem BY{dst:Option Nat}{fp:List Nat}(hi:ops[i]? =some ⟨dst,op,ty,pos,af,none⟩)(h:Hop P n op ty dst s fp fun s'=>RD P n ops (listed.setIfInBounds i true) todo held s' K)
  (hf:∀r∈fp,r∈s.Y.map (·.1)) (hb:HB ops i (s.Y.map (·.1)) fp held):RD P n ops listed ((i,false)::todo) held s K:=RZ hi h (.inr ⟨hf,hb.held⟩)
theorem LC{f:FuncId}{d j dj:Nat}{want b:Bool}{xs:List Operand}{ats:Array TypeId}{args:List AV}{v:AV}(ts:List Nat)(hi:ops[i]? =some ⟨some d,.call { callee:=.value (.func f),args:=xs.toArray,argTypes:=ats },ty,pos,af,some (j,want)⟩)(hj:(ops[j]?).bind (·.dst)=some dj)(hb:dR s.fr dj=some (.bool b))(hf:∀args w,(callFunc f args).run P w=.ok (.enter f args) w)
  (h:(b==want)=true->SCall P f args [] (fun x Y'=>x=v/\Y'=[])) (hd:d<n) (hargs:ArgsIf s (b==want) ts xs args) (hno:NoF v) (hK:RD P n ops (listed.setIfInBounds i true) todo held (s.put d (.when (b==want) v)) K):
  RD P n ops listed ((i,false)::todo) held s K:=by
 intro hsel hc M F N a w hr;obtain⟨hc1,hc3⟩:=yZ hi hc;simp only[Ag,De,beq_iff_eq]at hc1;refine⟨fun h0=>by rw[hc1]at h0;simp at h0,fun k hk=> ?_⟩;rw[hc1]at hk;obtain rfl:k=i:=by simpa using hk
 unfold wpOp;simp only[hi];have hw:=oR (o:=⟨some d,.call { callee:=.value (.func f),args:=xs.toArray,argTypes:=ats },ty,pos,af,some (j,want)⟩) hr rfl hj hb;rw[hw];have mH:∀(M':Mp) (N':Nat) (w':World) (u:Value),(∀r b',M r=some b'->M' r=some b')->Rel M' F N' n (s.put d (.when (b==want) v)) (a.put (some d) u) w'->Ext M F N w s.Y M' F N' w' s.Y->(∀S,Only S w w')->
   (∀g,Hd ops M F held k g->g<w.heap.size->w'.heap[g]? =w.heap[g]?)/\uU P .any ops (PostN n M F N w s.Y K) (Hd ops M F held) todo.length (listed.setIfInBounds k true) (a.put (some d) u) w':=by
  intro M' N' w' u hmm hr' he ho;refine⟨fun g _ hlt=>(ho fun _=>False).block g hlt id,jV (PostN.ext he) ?_ _ _ _ _ (hK hsel hc3 M' F N' _ w' hr')⟩;rintro j' g (hg|⟨r,hr,hg⟩)
  ·exact .inl hg
  ·refine .inr ⟨r,hr, ?_⟩;unfold bP at hg⊢;cases hm:M r with
   |none=>rw[hm]at hg;cases hg
   |some b'=>rw[hm]at hg;rw[hmm _ _ hm];exact hg
 by_cases hbw:(b==want)=true
 ·rw[Dc hbw];refine .inl (tL ts hf h hbw hargs hno hr rfl fun M' N' w' u hr' he ho hv=> ?_);exact mH M' N' w' u he.mm (hr'.put hd (.when (fun _=>hv) (fun h=>by rw[hbw]at h;cases h))) he ho
 ·simp only[Bool.not_eq_true]at hbw;rw[Db (by rw[hbw];simp)];have:=mH M N w _ (fun _ _ h=>h) (hr.put hd (.when (fun h=>by rw[hbw]at h;cases h) (fun _=>rfl))) (Ext.refl _ _ _ _ _) (fun _=>Only.refl _ _);simpa using this
end
theorem aBq{α:Type}{l:List α}:l.take l.length=l:=Aw
theorem jX{α β:Type}{l:List α}{f:α->β}:(l.map f).take l.length=l.map f:=by rw[Aj];simp
section
variable {P : Program} {n : Nat} {s : ASt} {K : ASt -> Prop} {ty t t' : TypeId} {d : Nat} {x y : Operand} {c : Bool}
theorem pZ{e:TypeId} [Ty P t (.slice e)] {sz by_:Nat}{zv:Value} [Tz P e sz by_ zv] {len:Nat}{parts:Array (Nat×Operand)}{vs:List AV}(hp:parts.toList=tK 0 (parts.toList.map (·.2)))(hv:AEvs s (parts.toList.map (·.2)) vs)(hlen:(len==vs.length)=true)(h0:(decide (0<sz)&&decide (len*sz<=16777216))=true)
  (hc:(vs.all fun v=>v.cells.length==sz&&v.cells.all AV.cell)=true) (hd:d<n) (hK:∀r,Fresh r s.Y->K ⟨(d,.own r 0 len)::s.fr,(r,.arr e sz (vs.map AV.cells))::s.Y⟩):Hop P n (.buildSlice t len parts) ty (some d) s [] K:=
 HZ hp hv hlen h0 hc hd hK
theorem FG{m:Int}(h1:0<=m)(h2:m<=18446744073709551615):IntKind.u64.wrap m=m:=by rw[IntKind.wrap_u64];omega
theorem IB{m:Int}(h1:0<=m)(h2:m<=255):IntKind.u8.wrap m=m:=by rw[IntKind.wrap_u8];omega
theorem lH{k k':IntKind}{m:Int} [Ty P t (.int k)] [Ty P t' (.int k')] (h:Ev s c x (.int k m))(hw:k'.wrap m=m):Lop P (.convert t t' x) ty s c (.int k' m) []:=by
 have:=xD (P:=P) (ty:=ty) (t:=t) (t':=t') h
 rwa [hw]at this
theorem jK{e:TypeId} [Ty P t (.slice e)] {sz by_:Nat}{z:Value} [Tz P e sz by_ z] {r len:Nat}{et:TypeId}{es:List (List AV)}{kk:IntKind}{m:Int}(h:Ev s c x (.own r 0 len))(hg:gM s.Y r=some (.arr et sz es))(h':Ev s c y (.int kk m))
  (hm:c=true->0<=m/\m<len):Lop P (.indexAddr t x y) ty s c (.ow r m.toNat 0) []:=by
 have:=KW (P:=P) (ty:=ty) (t:=t) h hg h' hm
 rwa [B2]at this
theorem vO{d:TypeDesc} [Ty P t d] {sz by_:Nat}{z:Value} [Tz P t sz by_ z] {r i off:Nat}{et:TypeId}{sz':Nat}{es:List (List AV)}{e:List AV}(h:Ev s c x (.ow r i off))(hd:wO d=true)(hg:gM s.Y r=some (.arr et sz' es))(he:c=true->es[i]? =some e)(hv:c=true->off+sz<=e.length):
  Lop P (.load t x) ty s c (.agg ((e.drop off).take sz)) [r]:=by
 refine⟨fun q hq=>⟨_,bV hg,(A1.1 hq).symm⟩, ?_⟩;intro M F N n a w hr hc;have e1:=h.vr hr hc;have he:=he hc;have hv:=hv hc;generalize hu:a.eval x=u at e1;obtain⟨h0,hrows,h3⟩:=hr.st.ent _ (bV hg);have hel:=hrows e (Ah he);cases e1 with
 |ow hM=>
  rcases h3 with⟨hv',_⟩|⟨g,cc,vs,hM',hcl,hsz,hle,hmax,hvr⟩
  ·rw[hM]at hv';cases hv'
  ·have hg':=hM'.symm.trans hM;simp only[Option.some.injEq,Blk'.row.injEq]at hg';obtain⟨q1,q2,q3⟩:=hg';subst q1;subst q2;subst q3;have hi:i<es.length:=(Ai.1 he).1;have hfit:i*sz'+sz'<=vs.size:=by
    rw[hsz]
    calc i*sz'+sz'=(i+1)*sz':=by rw[Nat.succ_mul]
     _ <=cc*sz':=Bq _ U
   refine⟨.agg ((vs.toList.drop (i*sz'+off)).take sz).toArray,.agg Af (fun j b u hj hu=> ?_),fun w' o ho _ hw=> ?_⟩
   ·have hjl:j<sz:=by
     have:=(Ai.1 hj).1;simp at this;omega
    rw[A2 hjl,Bb]at hj;simp only[List.getElem?_toArray]at hu;rw[A2 hjl,Bb,By]at hu;exact hvr i e _ b u he hj (by simpa using hu)
   ·have hcl':=hcl.same (hw _ (.inr ⟨r,X,by simp[bP,hM]⟩));have:=nW (P:=P) (w:=w') (t:=t) hd (p:=⟨g,i*sz'+off,none⟩) (cs:=(vs.toList.drop (i*sz'+off)).take sz) Af (fun j v hj=>by
     have hjl:j<sz:=by
      have:=(Ai.1 hj).1;simp at this;omega
     rw[A2 hjl,Bb]at hj;rw[Addr.add_lit,hcl'.cell];simpa using hj)
    simp[execOp,ho,hu,this]
end
end Go.Proofs.YtjpdadobblffmaaGreat
