/-
  What the statements end with: a module out of Full, its body told; a row told weaker.
-/
import Derived.Test.YtjpdadobblffmaaGreatCC6
import Derived.Test.YtjpdadobblffmaaGreatCC7
namespace Go.Proofs.YtjpdadobblffmaaGreat
open Go.RowKit Go.ChangeShapes Go.WideShapes Go.ChangeAt Go.Deep
set_option linter.unusedSimpArgs false
set_option linter.unusedVariables false
theorem aGQ{fr:Fr}{σ σ':dS}{o:Nat}{e:TypeId}{sz:Nat}{es es':List (List AV)}(hs:SSet σ o (.arr e sz es) o (.arr e sz es') σ')(hl:es.length=es'.length)(hro:gZ sz es')
  (h:∀(i:Nat) (x x':List AV),es[i]? =some x→es'[i]? =some x'→x.length=x'.length∧∀(j:Nat) (a a':AV),x[j]? =some a→x'[j]? =some a'→VLe a a'):SGo ⟨fr,σ⟩ ⟨fr,σ'⟩:=by
 intro M F N n a w hr;have hmem:∀p∈σ',(∃x,(p.1,x)∈σ)∧ER M F w p.1 p.2:=by
  intro p hp;rcases List.mem_cons.1 (hs.sub p hp)with rfl|hp
  ·refine⟨⟨_,bX hs.get⟩, ?_⟩;obtain⟨h0,h1,h2⟩:=hr.st.ent _ (bX hs.get);refine⟨h0,hro, ?_⟩;rcases h2 with⟨h2,h3⟩|⟨g,c,vs,h2,h3,h4,h5,h6,h7⟩
   ·refine .inl ⟨h2, ?_⟩;subst h3;exact List.eq_nil_of_length_eq_zero hl.symm
   ·refine .inr ⟨g,c,vs,h2,h3,h4,by rw[←hl];exact h5,h6,fun i x' j b' u hi hj hu=> ?_⟩;have hlt:i<es.length:=by rw[hl];exact(List.getElem?_eq_some_iff.1 hi).1
    obtain⟨g1,g2⟩:=h i _ _ (List.getElem?_eq_getElem hlt) hi;have hjt:j<(es[i]).length:=by rw[g1];exact(List.getElem?_eq_some_iff.1 hj).1
    exact g2 j _ _ (List.getElem?_eq_getElem hjt) hj _ _ _ _ (h7 i _ j _ u (List.getElem?_eq_getElem hlt) (List.getElem?_eq_getElem hjt) hu)
  ·exact⟨⟨p.2,(eT hp).1⟩,hr.st.ent p (eT hp).1⟩
 exact⟨M,F,N,⟨hr.size,hr.defers,hr.fr,hr.st.retold hmem⟩,Ext.retold fun p hp=>(hmem p hp).1⟩
def aM1:List Int→AV
 |[]=>.ro 0 [] .nil
 |a::l=>.ro 1 ((a::l).map aP) .any
def aD6 (x:Ins):List AV:=[.int .i64 x.op,.int .i64 x.a,.int .i64 x.b,aM1 x.l]
inductive Nvs:List (List AV)→List Ins→Prop
 |nil:Nvs [] []
 |nv {y:List AV} {x:Ins} {es:List (List AV)} {l:List Ins} (hy:y=aD6 x) (h:Nvs es l):Nvs (y::es) (x::l)
 |iv {y:List AV} {x:Ins} {es:List (List AV)} {l:List Ins} (hy:y=iv .any x) (h:Nvs es l):Nvs (y::es) (x::l)
theorem Nvs.at_ {es:List (List AV)}{l:List Ins}(h:Nvs es l):es.length=l.length∧∀(i:Nat) (y:List AV) (x:Ins),es[i]? =some y→l[i]? =some x→y=Go.Proofs.YtjpdadobblffmaaGreat.iv .any x∨y=aD6 x:=by
 induction h with
 |nil=>exact⟨rfl,fun i y x h=>by simp at h⟩
 |nv hy _ ih=>
  refine⟨by simp[ih.1],fun i y x h1 h2=> ?_⟩;cases i with
  |zero=>cases h1;cases h2;exact .inr hy
  |succ i=>exact ih.2 i y x (by simpa using h1) (by simpa using h2)
 |iv hy _ ih=>
  refine⟨by simp[ih.1],fun i y x h1 h2=> ?_⟩;cases i with
  |zero=>cases h1;cases h2;exact .inl hy
  |succ i=>exact ih.2 i y x (by simpa using h1) (by simpa using h2)
theorem WF(l:List Ins):gZ 4 (l.map (iv .any)):=by
 intro x hx;obtain⟨o,-,rfl⟩:=List.mem_map.1 hx;exact⟨rfl,by simp[iv,AV.cell]⟩
theorem aAA{x:Ins}{e:List AV}(he:e=iv .any x∨e=aD6 x):e.length=(iv .any x).length∧∀(j:Nat) (a a':AV),e[j]? =some a→(iv .any x)[j]? =some a'→VLe a a':=by
 rcases he with rfl|rfl
 ·exact⟨rfl,fun j a a' ha ha'=>by obtain rfl:=Option.some.inj (ha.symm.trans ha');exact VLe.refl _⟩
 ·refine⟨rfl,fun j a a' ha ha'=> ?_⟩
  match j with
  |0=>cases ha;cases ha';exact VLe.refl _
  |1=>cases ha;cases ha';exact VLe.refl _
  |2=>cases ha;cases ha';exact VLe.refl _
  |3=>
   obtain rfl:=Option.some.inj ha;obtain rfl:=Option.some.inj ha';cases h:x.l with
   |nil=>exact VLe.empty
   |cons a l=>exact VLe.refl _
  | _ +4=>cases ha
theorem RC{es:List (List AV)}{l:List Ins}(h:Nvs es l){k:Rk}:VLe (.ro 4 es k) (.ro 4 (l.map (iv .any)) k):=by
 refine VLe.ro (by simp[h.at_.1]) (WF l) fun i e e' h1 h2=> ?_
 simp only[List.getElem?_map,Option.map_eq_some_iff]at h2;obtain⟨o,ho,rfl⟩:=h2;exact aAA (h.at_.2 i e o h1 ho)
theorem aAB{fr:Fr}{σ σ':dS}{o:Nat}{e:TypeId}{es:List (List AV)}{l:List Ins}(h:Nvs es l)(hs:SSet σ o (.arr e 4 es) o (.arr e 4 (l.map (iv .any))) σ'):SGo ⟨fr,σ⟩ ⟨fr,σ'⟩:=by
 refine aGQ hs (by simp[h.at_.1]) (WF l) fun i x x' h1 h2=> ?_
 simp only[List.getElem?_map,Option.map_eq_some_iff]at h2;obtain⟨o,ho,rfl⟩:=h2;exact aAA (h.at_.2 i x o h1 ho)
theorem aLK{σ:dS}{q p:Nat}{et et':TypeId}{sz' n:Nat}{es':List (List AV)}{x:AV}{y:List AV}(hx:x.cell=true)(hy:y.length=2∧∀a∈y,a.cell=true)(hg:gN σ q=some (.arr et 2 [[.own p 0 n,x],y]))(hp:gN σ p=some (.arr et' sz' es'))(hn:n=es'.length):Bor σ [q,p] (.own q 0 2) (.ro 2 [[.ro sz' es' .any,x],y] .any):=by
 refine .ownR (fun i j=>if i=0∧j=0 then .own p 0 n else if i=0 then x else y.getD j .undef) List.mem_cons_self hg (by simp) rfl (fun z hz=> ?_) (fun i e j a h1 h2=> ?_) (fun i e j a h1 h2=> ?_)
 ·simp only[List.mem_cons,List.not_mem_nil,or_false]at hz;rcases hz with rfl|rfl
  ·exact⟨rfl,fun a ha=>by
    simp only[List.mem_cons,List.not_mem_nil,or_false]at ha;rcases ha with rfl|rfl
    ·rfl
    ·exact hx⟩
  ·exact hy
 ·match i with
  |0=>
   cases h1
   match j with
   |0=>cases h2;rfl
   |1=>cases h2;rfl
   | _ +2=>cases h2
  |1=>cases h1;simp[h2]
  | _ +2=>cases h1
 ·match i with
  |0=>
   cases h1
   match j with
   |0=>
    cases h2
    have:=Bor.own (σ:=σ) (ts:=[q,p]) (t:=p) (off:=0) (len:=n) (List.mem_cons_of_mem _ List.mem_cons_self) hp (by omega);rw[hn,List.drop_zero,List.take_length]at this;simp only[Nat.add_zero,and_self,if_true];rw[hn];exact this
   |1=>cases h2;exact .refl _
   | _ +2=>cases h2
  |1=>
   cases h1
   have:(if 0+1=0∧j=0 then AV.own p 0 n else if 0+1=0 then x else y.getD j .undef)=a:=by simp[h2]
   rw[this];exact .refl _
  | _ +2=>cases h1
theorem aLW(c:Co):(dA c).length=2∧∀a∈dA c,a.cell=true:=⟨rfl,by simp[dA,AV.cell]⟩
def rA (o a:Int):Ins:=⟨o,a,0,[]⟩
theorem qS{o a:Int}(ho:0≤o∧o≤100)(ha:0≤a∧a≤100):(rA o a).Ok:=⟨by show _ ≤o;omega,by show o≤ _;omega,by show _ ≤a;omega,by show a≤ _;omega,by show 0≤ _;omega⟩
theorem aAC{o a:Int}:∀x∈ [rA o a],x.l=[]:=fun x hx=>by rw[List.mem_singleton.1 hx];rfl
theorem YT(w:Int){k:Int}(hk:0<k):(-k<w.tmod k∧w.tmod k<k)∧(0≤(w.tmod k+k).tmod k∧(w.tmod k+k).tmod k<k):=by
 have h1:-k<w.tmod k∧w.tmod k<k:=⟨Int.lt_tmod_of_pos w hk,Int.tmod_lt_of_pos w hk⟩
 have h2:=Int.tmod_nonneg (a:=w.tmod k+k) k (by omega);have h3:=Int.tmod_lt_of_pos (w.tmod k+k) hk;exact⟨h1,h2,h3⟩
def putJs:List Ins:=[⟨65,0,0,[]⟩,⟨66,0,0,[]⟩,⟨1,0,0,[]⟩]
def ST (A:Int):Ins:=putJs.getD A.toNat ⟨1,0,0,[]⟩
theorem YU{A:Int}(hA:0≤A∧A<3):putJs[A.toNat]? =some (ST A):=by
 have:A=0∨A=1∨A=2:=by omega
 rcases this with rfl|rfl|rfl<;>rfl
def aHE (x:Ins):Bool:=decide (-9223372036854775808≤x.op)&&decide (x.op≤9223372036854775807)&&decide (-9223372036854775808≤x.a)&&decide (x.a≤9223372036854775807)&&decide (x.l.length≤9223372036854775807)
theorem IN{x:Ins}(h:aHE x=true):x.Ok:=by
 unfold aHE at h;simp only[Bool.and_eq_true,decide_eq_true_eq]at h;exact⟨h.1.1.1.1,h.1.1.1.2,h.1.1.2,h.1.2,h.2⟩
theorem YV{A:Int}(hA:0≤A∧A<3):(ST A).Ok:=by
 have:A=0∨A=1∨A=2:=by omega
 rcases this with rfl|rfl|rfl<;>exact IN (by decide)
def b7 (w:Int):Int:=IntKind.wrap .i64 ((BitVec.ofInt (IntKind.bits .i64) w&&&BitVec.ofInt (IntKind.bits .i64) 7).toNat:Int)
theorem aLL(w:Int):0≤b7 w∧b7 w≤7:=by
 have h:(BitVec.ofInt (IntKind.bits .i64) w&&&BitVec.ofInt (IntKind.bits .i64) 7).toNat≤7:=by
  rw[BitVec.toNat_and];exact Nat.and_le_right
 unfold b7;rw[jH (by omega) (by omega)];omega
def brT (k:Int):List Ins:=[⟨12,k,0,[]⟩,⟨13,k,0,[]⟩,⟨14,k,0,[0]⟩]
def brJ (k A:Int):Ins:=(brT k).getD A.toNat ⟨12,k,0,[]⟩
theorem aJO{k A:Int}(hA:0≤A∧A<3):(brT k)[A.toNat]? =some (brJ k A):=by
 have:A=0∨A=1∨A=2:=by omega
 rcases this with rfl|rfl|rfl<;>rfl
theorem aJP{k A:Int}(hk:0≤k∧k≤7)(hA:0≤A∧A<3):(brJ k A).Ok:=by
 have:A=0∨A=1∨A=2:=by omega
 rcases this with rfl|rfl|rfl
 ·exact⟨by show _ ≤(12:Int);decide,by show(12:Int)≤ _;decide,by show _ ≤k;omega,by show k≤ _;omega,by show 0≤ _;omega⟩
 ·exact⟨by show _ ≤(13:Int);decide,by show(13:Int)≤ _;decide,by show _ ≤k;omega,by show k≤ _;omega,by show 0≤ _;omega⟩
 ·exact⟨by show _ ≤(14:Int);decide,by show(14:Int)≤ _;decide,by show _ ≤k;omega,by show k≤ _;omega,by show 1≤ _;omega⟩
def deadT:List Ins:=[⟨0,0,0,[]⟩,⟨15,0,0,[]⟩,⟨12,0,0,[]⟩,⟨12,1,0,[]⟩,⟨14,0,0,[0]⟩,⟨1,0,0,[]⟩]
def dJ (D:Int):Ins:=deadT.getD D.toNat ⟨1,0,0,[]⟩
theorem six{D:Int}(h:0≤D∧D<6):D=0∨D=1∨D=2∨D=3∨D=4∨D=5:=by omega
theorem aLM{D:Int}(h:0≤D∧D<6):deadT[D.toNat]? =some (dJ D):=by
 rcases six h with rfl|rfl|rfl|rfl|rfl|rfl<;>rfl
theorem aLN{D:Int}(h:0≤D∧D<6):(dJ D).Ok:=by
 rcases six h with rfl|rfl|rfl|rfl|rfl|rfl<;>exact IN (by decide)
theorem aJQ(ps:List Int):(KZ ps).length≤5:=by unfold KZ;simp;omega
theorem aJR(r:Int):(uR r).length≤1:=by unfold uR;exact aI (p:=fun l:List Int=>l.length≤1) (fun _=>by simp) (fun _=>by simp)
theorem aLO{x:Ins}(h:x.Wf):x.Ok:=⟨h.1.1,h.1.2,h.2.1.1,h.2.1.2,by have:=h.2.2.2.1;unfold maxLen at this;omega⟩
theorem RE(ps:List Int)(r:Int)(lo:List Int)(l:List Ins)(hl:l.length≤100000)(hi:∀x∈l,x.Ok):(gW (KZ ps) (uR r) [⟨lo,l⟩,QQ]).WO:=by
 refine⟨⟨fun x hx=> ?_,fun x hx=> ?_,fun x hx=> ?_,by simp[gW],by simp[gW]⟩,fun c hc=> ?_,fun g hg=> ?_⟩
 ·simp only[gW,List.mem_cons,List.not_mem_nil,or_false]at hx;rcases hx with rfl|rfl<;>exact⟨⟨by decide,by decide⟩,by decide,by decide⟩
 ·simp only[gW,List.mem_cons,List.not_mem_nil,or_false]at hx;subst hx;exact⟨by decide,by decide⟩
 ·simp only[gW,List.mem_cons,List.not_mem_nil,or_false]at hx;rcases hx with rfl|rfl
  ·exact hl
  ·decide
 ·simp only[gW,List.mem_cons,List.not_mem_nil,or_false]at hc;rcases hc with rfl|rfl
  ·exact hi
  ·intro x hx;simp only[QQ,HZ,List.mem_cons,List.not_mem_nil,or_false]at hx;subst hx;exact⟨by decide,by decide,by decide,by decide,by decide⟩
 ·simp only[gW,List.mem_cons,List.not_mem_nil,or_false]at hg;rcases hg with rfl|rfl<;>exact⟨by decide,by decide⟩
theorem YW(ps:List Int)(r:Int)(lo:List Int)(l:List Ins)(hlo:lo.length≤5):(gW (KZ ps) (uR r) [⟨lo,l⟩,QQ]).Z:=by
 have h1:=aJQ ps;have h2:=aJR r;refine⟨⟨by simp[gW],fun x hx=> ?_⟩,by simp[gW],by simp[gW],by simp[gW],by simp[gW],⟨by simp[gW],fun x hx=> ?_⟩,⟨by simp[gW],fun x hx=> ?_⟩,⟨by simp[gW],fun x hx=> ?_⟩⟩
 ·simp only[gW,List.mem_cons,List.not_mem_nil,or_false]at hx;rcases hx with rfl|rfl|rfl|rfl<;>(constructor<;>simp<;>omega)
 ·simp only[gW,List.mem_cons,List.not_mem_nil,or_false]at hx;subst hx;simp
 ·simp only[gW,List.mem_cons,List.not_mem_nil,or_false]at hx;rcases hx with rfl|rfl
  ·show lo.length≤ _;omega
  ·decide
 ·simp[gW]at hx
theorem nH{m:Md}(hw:m.WO)(hm:nR m=true):(m.Fn∧m.RFn)∧(HU m 0==VV m 0)=true:=by
 have h:=(VA hm).1;exact⟨aD1 h hw,by rw[aDV h];simp⟩
end Go.Proofs.YtjpdadobblffmaaGreat
