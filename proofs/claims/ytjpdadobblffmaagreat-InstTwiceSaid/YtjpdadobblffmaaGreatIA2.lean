import Derived.Test.YtjpdadobblffmaaGreatIA1
import Derived.Laws.BytesString
import Derived.ScopeJumps
import Derived.Test.YtjpdadobblffmaaGreatProg
import Derived.ArgAppend
set_option linter.unusedSimpArgs false
set_option linter.unusedVariables false
set_option maxRecDepth 100000
set_option maxHeartbeats 4000000
namespace Go.Proofs.YtjpdadobblffmaaGreat
open Go.RowKit Go.ChangeShapes Go.WideShapes Go.ChangeAt Go.Deep
inductive Put:List AV→Nat→List AV→List AV→Prop
 |done {l:List AV} :Put l 0 [] l
 |put {a v:AV} {l vs l':List AV} (h:Put l 0 vs l'):Put (a::l) 0 (v::vs) (v::l')
 |skip {a:AV} {k:Nat} {l vs l':List AV} (h:Put l k vs l'):Put (a::l) (k+1) vs (a::l')
theorem Put.eq {cs:List AV}{k:Nat}{vs out:List AV}(h:Put cs k vs out):k+vs.length≤cs.length∧out=cs.take k++vs++cs.drop (k+vs.length):=by
 induction h with
 |done=>simp
 |put _ ih=>
  obtain⟨h1,h2⟩:=ih;refine⟨by simp at h1⊢;omega, ?_⟩;simp at h2⊢;exact h2
 |@skip a k l vs l' _ ih=>
  obtain⟨h1,h2⟩:=ih;refine⟨by simp at h1⊢;omega, ?_⟩;rw[show k+1+vs.length=(k+vs.length)+1 by omega];simp at h2⊢;exact h2
inductive Fill (pl:List (Nat×Nat)):List AV→List (Nat×AV)→List AV→Prop
 |nil {cs:List AV} :Fill pl cs [] cs
 |cons {cs cs' out:List AV} {i off sz:Nat} {v:AV} {r:List (Nat×AV)} (hp:pl[i]? =some (off,sz)) (hl:v.cells.length=sz) (hc:v.cells.all AV.cell=true) (h:Put cs off v.cells cs') (hr:Fill pl cs' r out):Fill pl cs ((i,v)::r) out
theorem Fill.eq {pl:List (Nat×Nat)}{cs out:List AV}{r:List (Nat×AV)}(h:Fill pl cs r out):DJ pl cs r=some out:=by
 induction h with
 |nil=>rfl
 |@cons cs cs' out i off sz v r hp hl hc h _ ih=>
  obtain⟨h1,h2⟩:=h.eq;unfold DJ;rw[hp];simp only;rw[if_pos (by simp[hl,hc];rw[hl]at h1;exact h1),←hl,←h2,ih]
inductive SPut:cR→Nat→Nat→List AV→cR→Prop
 |here {r off:Nat} {bt:TypeId} {cs vs cs':List AV} {σ:cR} (h:Put cs off vs cs') (hn:Fresh r σ):SPut ((r,.box bt cs)::σ) r off vs ((r,.box bt cs')::σ)
 |next {r q off:Nat} {y:Ent} {vs:List AV} {σ σ':cR} (hne:r≠q) (h:SPut σ r off vs σ'):SPut ((q,y)::σ) r off vs ((q,y)::σ')
inductive SSet:cR→Nat→Ent→Nat→Ent→cR→Prop
 |here {r r':Nat} {x x':Ent} {σ:cR} (hn:Fresh r σ):SSet ((r,x)::σ) r x r' x' ((r',x')::σ)
 |next {r q r':Nat} {x x' y:Ent} {σ σ':cR} (hne:r≠q) (h:SSet σ r x r' x' σ'):SSet ((q,y)::σ) r x r' x' ((q,y)::σ')
theorem SSet.get {σ σ':cR}{r r':Nat}{x x':Ent}(h:SSet σ r x r' x' σ'):fB σ r=some x:=by
 induction h with
 |here _=>exact gZ
 |next hne _ ih=>exact hJ hne ih
theorem Fresh.cons {r q:Nat}{y:Ent}{σ:cR}(h:q≠r)(k:Fresh r σ):Fresh r ((q,y)::σ):=by rw[aM];exact⟨h,k⟩
theorem SSet.sub {σ σ':cR}{r r':Nat}{x x':Ent}(h:SSet σ r x r' x' σ'):∀p∈σ',p∈(r',x')::dE [r] σ:=by
 induction h with
 |@here r r' x x' σ hn=>
  intro p hp;rcases List.mem_cons.1 hp with rfl|hp
  ·simp
  ·refine List.mem_cons_of_mem _ ?_;simp only[dE,List.mem_filter];exact⟨List.mem_cons_of_mem _ hp,by simpa using hn p hp⟩
 |@next r q r' x x' y σ σ' hne _ ih=>
  intro p hp;rcases List.mem_cons.1 hp with rfl|hp
  ·refine List.mem_cons_of_mem _ ?_;simp only[dE,List.mem_filter];exact⟨by simp,by simpa using fun e=>hne e.symm⟩
  ·rcases List.mem_cons.1 (ih p hp)with rfl|h
   ·simp
   ·refine List.mem_cons_of_mem _ ?_;simp only[dE,List.mem_filter]at h⊢;exact⟨List.mem_cons_of_mem _ h.1,h.2⟩
inductive SDel:cR→Nat→Ent→cR→Prop
 |here {r:Nat} {x:Ent} {σ:cR} (hn:Fresh r σ):SDel ((r,x)::σ) r x σ
 |next {r q:Nat} {x y:Ent} {σ σ':cR} (hne:r≠q) (h:SDel σ r x σ'):SDel ((q,y)::σ) r x ((q,y)::σ')
theorem SDel.get {σ σ':cR}{r:Nat}{x:Ent}(h:SDel σ r x σ'):fB σ r=some x:=by
 induction h with
 |here _=>exact gZ
 |next hne _ ih=>exact hJ hne ih
theorem SDel.sub {σ σ':cR}{r:Nat}{x:Ent}(h:SDel σ r x σ'):∀p∈σ',p∈σ∧p.1≠r:=by
 induction h with
 |here hn=>intro p hp;exact⟨List.mem_cons_of_mem _ hp,hn p hp⟩
 |next hne _ ih=>
  intro p hp;rcases List.mem_cons.1 hp with rfl|hp
  ·exact⟨List.mem_cons_self,fun e=>hne e.symm⟩
  ·exact⟨List.mem_cons_of_mem _ (ih p hp).1,(ih p hp).2⟩
theorem aCQ{fr:Fr}{σ σ':cR}{i q off len sz:Nat}{et:TypeId}{es es':List (List AV)}(hx:cN fr i=some (.own q off len))(hd:SDel σ q (.arr et sz es) σ')(hle:off+len≤es.length)(he:(es.drop off).take len=es'):SGo ⟨fr,σ⟩ ⟨(i,.ro sz es' .any)::fr,σ'⟩:=by
 refine pD [q] (fun j x' hj=> ?_) (fun p hp=> ?_)
 ·simp only[cN]at hj;split at hj
  ·next e=>
   subst e;obtain rfl:=Option.some.inj hj;exact⟨_,hx,he▸Bor.own List.mem_cons_self hd.get hle⟩
  ·exact⟨x',hj,.refl _⟩
 ·obtain⟨h1,h2⟩:=hd.sub p hp;exact⟨by simpa using h2,p.2,h1,.refl _⟩
theorem SPut.set {σ σ':cR}{r off:Nat}{vs:List AV}(h:SPut σ r off vs σ'):∃bt cs cs',Put cs off vs cs'∧SSet σ r (.box bt cs) r (.box bt cs') σ':=by
 induction h with
 |here h hn=>exact⟨_,_,_,h,.here hn⟩
 |next hne _ ih=>obtain⟨bt,cs,cs',h1,h2⟩:=ih;exact⟨bt,cs,cs',h1,.next hne h2⟩
section
variable {P : Program} {n : Nat} {ops : Array Oper} {rest : List Oper} {fr : Fr} {σ σ' : cR} {K : ASt → Prop} {op : Op} {ty t t' : TypeId} {pos : String} {af : Array Edge} {x y : Operand} {c : Bool} {d : Nat}
theorem E{s:ASt}{v:AV}(h:aev s x=some v):Ev s c x v:=.here h
theorem W{s:ASt}{v:AV}{c':Bool}(h:aev s x=some (.when c' v))(hc:c=true→c'=true):Ev s c x v:=.when h hc
theorem aX{α:Type} [Inhabited α] {l:List α}{j:Nat}(h:j<l.length):l[j]? =some l[j]! :=by simp[h]
theorem bN{P:Program}{op:Op}{ty:TypeId}{s:ASt}{v:AV}:Lop P op ty s false v []:=⟨fun r hr=>by simp at hr,fun _ _ _ _ _ _ _ hc=>by cases hc⟩
theorem sY{P:Program}{ty t t':TypeId}{s:ASt}{c:Bool}{x y:Operand}{m m':Int} [Ty P t (.int .i64)] (h:Ev s c x (.int .i64 m))(h':Ev s c y (.int .i64 m'))(hb:c=true→ -9223372036854775808≤m-m'∧m-m'≤9223372036854775807):Lop P (.binOp .sub t x y t') ty s c (.int .i64 (m-m')) []:=by
 cases c with
 |false=>exact bN
 |true=>exact jV h h' (hb rfl).1 (hb rfl).2
theorem StLe.of_mem {σ:cR}:∀ {l:cR},(∀p∈l,p∈σ)→StLe σ l
 |[],_=>.nil
 |(r,y)::l,h=>.cons (h (r,y) (by simp)) rfl (StLe.of_mem fun p hp=>h p (by simp[hp]))
theorem StLe.refl (σ:cR):StLe σ σ:=.of_mem fun _ h=>h
theorem cL{a b:Nat}(h:Nat.ble (a+1) b=true):a<b:=Nat.le_of_ble_eq_true h
theorem lo{v:AV}{rs:List Nat}(h:Lop P op ty ⟨fr,σ⟩ true v rs)(hd:Nat.ble (d+1) n=true)(hK:RS P n ops rest ⟨(d,v)::fr,σ⟩ K):RS P n ops (⟨some d,op,ty,pos,af,none⟩::rest) ⟨fr,σ⟩ K:=UJ h (cL hd) hK
theorem lg{j dj:Nat}{want b:Bool}{v:AV}{rs:List Nat}(hj:(ops[j]?).bind (·.dst)=some dj)(hb:cN fr dj=some (.bool b))(h:Lop P op ty ⟨fr,σ⟩ (b==want) v rs)(hd:Nat.ble (d+1) n=true)
  (hK:RS P n ops rest ⟨(d,.when (b==want) v)::fr,σ⟩ K):RS P n ops (⟨some d,op,ty,pos,af,some (j,want)⟩::rest) ⟨fr,σ⟩ K:=JR hj hb h (cL hd) hK
theorem lw{j dj:Nat}{want b c0:Bool}{v:AV}{rs:List Nat}(hj:(ops[j]?).bind (·.dst)=some dj)(hb:cN fr dj=some (.when c0 (.bool b)))(h:Lop P op ty ⟨fr,σ⟩ (c0&&(b==want)) v rs)(hd:Nat.ble (d+1) n=true)
  (hK:RS P n ops rest ⟨(d,.when (c0&&(b==want)) v)::fr,σ⟩ K):RS P n ops (⟨some d,op,ty,pos,af,some (j,want)⟩::rest) ⟨fr,σ⟩ K:=BC hj hb h (cL hd) hK
theorem ln{j dj:Nat}{want b:Bool}(hj:(ops[j]?).bind (·.dst)=some dj)(hb:cN fr dj=some (.bool b))(hne:(b==want)=false)(hd:Nat.ble (d+1) n=true)
  (hK:RS P n ops rest ⟨(d,.when false (.bool false))::fr,σ⟩ K):RS P n ops (⟨some d,op,ty,pos,af,some (j,want)⟩::rest) ⟨fr,σ⟩ K:=by
 refine JR (v:=.bool false) (rs:=[]) hj hb ?_ (cL hd) ?_
 ·rw[hne];exact bN
 ·rw[hne];exact hK
theorem le{ks:List Nat}{fr':Fr}(h:KeepIs fr ks fr')(hK:K ⟨fr',σ⟩):RS P n ops [] ⟨fr,σ⟩ (sO ks K):=aCM h rfl hK
theorem FH{s:ASt}{fs:Array Field} [Ty P t (.struct fs)] {sz by_:Nat}{z:Value} [Tz P t sz by_ z] {pl:List (Nat×Nat)} [Tf P t pl] {parts:Array (Nat×Operand)}{vs:List (Nat×AV)}{out zs:List AV}(hp:PEvs s c parts.toList vs)(hz:z.cells.toList.map qL=zs)(hf:Fill pl zs vs out):
  Lop P (.build t parts) ty s c (.agg out) []:=RZ rfl hp (by rw[hz];exact hf.eq)
theorem UT{ts:List Nat}{q off len sz:Nat}{et:TypeId}{es es':List (List AV)}(ht:q∈ts)(hg:fB σ q=some (.arr et sz es))(hle:off+len≤es.length)(he:(es.drop off).take len=es'):Bor σ ts (.own q off len) (.ro sz es' .any):=he▸Bor.own ht hg hle
theorem eX{s:ASt}{x y z:Operand}{v:AV}(h:Ev s c x (.bool true))(h1:Ev s c y v):Lop P (.pick x y z) ty s c v []:=
 Lop.pure_ fun M F N n a w hr hc=>⟨_,h1.vr hr hc,fun w' o ho _=>by
  have e:=h.bool hr hc;simp[execOp,ho,e,asBool]⟩
theorem eD{s:ASt}{x y z:Operand}{v:AV}(h:Ev s c x (.bool false))(h1:Ev s c z v):Lop P (.pick x y z) ty s c v []:=
 Lop.pure_ fun M F N n a w hr hc=>⟨_,h1.vr hr hc,fun w' o ho _=>by
  have e:=h.bool hr hc;simp[execOp,ho,e,asBool]⟩
theorem UU:∀x∈([]:List AV),NoF x:=fun x hx=>by simp at hx
theorem SC{a:AV}{l:List AV}(h:NoF a)(k:∀x∈l,NoF x):∀x∈a::l,NoF x:=fun x hx=>by
 rcases List.mem_cons.1 hx with rfl|hx
 ·exact h
 ·exact k x hx
inductive BorL (σ:cR) (ts:List Nat):List AV→List AV→Prop
 |nil:BorL σ ts [] []
 |cons {x y:AV} {xs ys:List AV} (h:Bor σ ts x y) (r:BorL σ ts xs ys):BorL σ ts (x::xs) (y::ys)
theorem BorL.at_ {ts:List Nat}{cs cs':List AV}(h:BorL σ ts cs cs'):cs'.length=cs.length∧∀(j:Nat) (a':AV),cs'[j]? =some a'→Bor σ ts (cs.getD j .undef) a':=by
 induction h with
 |nil=>exact⟨rfl,fun j a h=>by simp at h⟩
 |cons h _ ih=>
  refine⟨by simp[ih.1],fun j a' hj=> ?_⟩;cases j with
  |zero=>simp at hj;subst hj;simpa using h
  |succ j=>simpa using ih.2 j a' (by simpa using hj)
theorem aGR{ts:List Nat}{r off sz:Nat}{bt:TypeId}{cs cs':List AV}(ht:r∈ts)(hg:fB σ r=some (.box bt cs))(hz:cs.length=sz)(hc:cs'.all AV.cell=true)(h:BorL σ ts cs cs'):Bor σ ts (.ptr r off) (.el sz [cs'] 0 off):=by
 subst hz;exact .bx (fun j=>cs.getD j .undef) ht hg h.at_.1 (List.all_eq_true.1 hc) (fun j a hj=>by simp[hj]) h.at_.2
theorem ZX{ts:List Nat}{cs cs':List AV}(h:BorL σ ts cs cs'):Bor σ ts (.agg cs) (.agg cs'):=
 .agg (fun j=>cs.getD j .undef) h.at_.1 (fun j a hj=>by simp[hj]) h.at_.2
theorem bx{v:AV}{cs:List AV}(h:aev ⟨fr,σ⟩ x=some v)(hc:v.cells.all AV.cell=true)(hv:v.cells=cs)(hd:Nat.ble (d+1) n=true)(hK:∀r,Fresh r σ→RS P n ops rest ⟨(d,.ptr r 0)::fr,(r,.box t cs)::σ⟩ K):RS P n ops (⟨some d,.box t x,ty,pos,af,none⟩::rest) ⟨fr,σ⟩ K:=by
 subst hv;exact eT (PW h hc (cL hd) hK)
theorem al{sz by_:Nat}{z:Value} [Tz P t sz by_ z] {cs:List AV}(hd:Nat.ble (d+1) n=true)(hz:z.cells.toList.map cH=cs)(hK:∀r,Fresh r σ→RS P n ops rest ⟨(d,.ptr r 0)::fr,(r,.box t cs)::σ⟩ K):RS P n ops (⟨some d,.alloc t,ty,pos,af,none⟩::rest) ⟨fr,σ⟩ K:=by
 subst hz;exact eT (DG (cL hd) hK)
theorem vN{s:ASt}{σ2:cR}(h:∀p∈σ2,p∈s.σ)(hK:RS P n ops rest ⟨s.fr,σ2⟩ K):RS P n ops rest s K:=jW (s':=⟨s.fr,σ2⟩) (SGo.of_le (fun _ x h=>⟨x,h,VLe.refl x⟩) h) hK
theorem FI{listed:Array Bool}{todo:List (Nat×Bool)}{held:List (Nat×List Nat)}{s:ASt}{σ2:cR}(h:∀p∈σ2,p∈s.σ)(hK:RD P n ops listed todo held ⟨s.fr,σ2⟩ K):RD P n ops listed todo held s K:=by
 intro hsel hc M F N a w hr;exact jU (PostN.ext ((Ext.refl M F N w s.σ).sub h)) (fun _ _ h=>h) _ _ _ _ (hK hsel hc M F N a w ⟨hr.size,hr.defers,hr.fr,hr.st.sub h⟩)
theorem zB{sz by_:Nat}{z:Value} [Tz P t sz by_ z] {r off:Nat}{v:AV}(h:aev ⟨fr,σ⟩ x=some (.ptr r off))(hv:aev ⟨fr,σ⟩ y=some v)(hc:v.cells.all AV.cell=true)(hl:v.cells.length=sz)(hs:SPut σ r off v.cells σ')
  (hK:RS P n ops rest ⟨fr,σ'⟩ K):RS P n ops (⟨none,.store t x y,ty,pos,af,none⟩::rest) ⟨fr,σ⟩ K:=by
 obtain⟨bt,cs,cs',h1,h2⟩:=hs.set;obtain⟨k1,k2⟩:=h1.eq;refine eT (sP h h2.get hv hc hl (by omega) ?_);refine vN (fun p hp=> ?_) hK;rw[hl]at k2;rw[←k2];exact h2.sub p hp
theorem sto{sz1 by_:Nat}{z:Value} [Tz P t sz1 by_ z] {r i off:Nat}{et:TypeId}{sz:Nat}{es es':List (List AV)}{e e':List AV}{v:AV}(h:aev ⟨fr,σ⟩ x=some (.ow r i off))(hv:aev ⟨fr,σ⟩ y=some v)(hc:v.cells.all AV.cell=true)(hl:v.cells.length=sz1)
  (hs:SSet σ r (.arr et sz es) r (.arr et sz es') σ') (he:es[i]? =some e) (hp:Put e off v.cells e') (he':es'=es.set i e') (hK:RS P n ops rest ⟨fr,σ'⟩ K):RS P n ops (⟨none,.store t x y,ty,pos,af,none⟩::rest) ⟨fr,σ⟩ K:=by
 obtain⟨k1,k2⟩:=hp.eq;refine eT (qV h hs.get he (by omega) hv hc hl ?_);refine vN (fun p hp=> ?_) hK;rw[hl]at k2;rw[←k2,←he'];exact hs.sub p hp
theorem bs{e:TypeId} [Ty P t (.slice e)] {sz by_:Nat}{zv:Value} [Tz P e sz by_ zv] {len:Nat}{parts:Array (Nat×Operand)}{vs:List AV}{es:List (List AV)}(hv:AEvs ⟨fr,σ⟩ (parts.toList.map (·.2)) vs)(hp:parts.toList=oE 0 (parts.toList.map (·.2)))(hlen:(len==vs.length)=true)(h0:(decide (0<sz)&&decide (len*sz≤16777216))=true)
  (hc:(vs.all fun v=>v.cells.length==sz&&v.cells.all AV.cell)=true) (he:vs.map AV.cells=es) (hd:Nat.ble (d+1) n=true) (hK:∀r,Fresh r σ→RS P n ops rest ⟨(d,.own r 0 len)::fr,(r,.arr e sz es)::σ⟩ K):RS P n ops (⟨some d,.buildSlice t len parts,ty,pos,af,none⟩::rest) ⟨fr,σ⟩ K:=by
 subst he;exact eT (lR hp hv hlen h0 hc (cL hd) hK)
theorem mk{e:TypeId} [Ty P t (.slice e)] {sz by_:Nat}{zv:Value} [Tz P e sz by_ zv] {k k':IntKind}{m:Int}{l:Nat}{z:List AV}(hl:aev ⟨fr,σ⟩ x=some (.int k m))(hc:aev ⟨fr,σ⟩ y=some (.int k' m))(hm:m=(l:Int))(h0:(decide (0<sz)&&(zv.cells.size==sz)&&(zv.cells.toList.map cH).all AV.cell)=true)
  (hby:by_*l≤281474976710656) (hml:l≤maxLen) (hz:zv.cells.toList.map cH=z) (hd:Nat.ble (d+1) n=true) (hK:∀r,Fresh r σ→RS P n ops rest ⟨(d,.own r 0 l)::fr,(r,.arr e sz (List.replicate l z))::σ⟩ K):RS P n ops (⟨some d,.makeSlice t x y,ty,pos,af,none⟩::rest) ⟨fr,σ⟩ K:=by
 subst hz;exact eT (UQ hl hc hm h0 hby hml (cL hd) hK)
theorem ap{e:TypeId} [Ty P t (.slice e)] {sz by_:Nat}{zv:Value} [Tz P e sz by_ zv] {r len len':Nat}{es ys es':List (List AV)}(hz:zv.cells.size=sz)(hb:aev ⟨fr,σ⟩ x=some (.own r 0 len))(hg:fB σ r=some (.arr e sz es))(hlen:len=es.length)(hy:Src ⟨fr,σ⟩ y sz ys)
  (he:es++ys=es') (hl':len'=len+ys.length) (hmax:len'≤maxLen) (hby:len'*by_≤140737488355328) (hd:Nat.ble (d+1) n=true)
  (hK:∀r',Fresh r' (dE [r] σ)→∃σ',SSet σ r (.arr e sz es) r' (.arr e sz es') σ'∧RS P n ops rest ⟨(d,.own r' 0 len')::fr,σ'⟩ K):RS P n ops (⟨some d,.call { callee:=.builtin .append,args:=#[x,y],argTypes:=#[t,t] },ty,pos,af,none⟩::rest) ⟨fr,σ⟩ K:=by
 subst he hl';refine eT (qU hz hb hg (by omega) hy hmax hby (cL hd) fun r' hf=> ?_);obtain⟨σ',hs,hK⟩:=hK r' hf;rw[hlen,List.take_length];refine vN (fun p hp=>hs.sub p hp) ?_;rw[←hlen];exact hK
theorem cp{e tS:TypeId} [Ty P t (.slice e)] {by_:Nat}{zv:Value} [Tz P e 1 by_ zv] {r off len m:Nat}{et:TypeId}{es ys es':List (List AV)}(hb:aev ⟨fr,σ⟩ x=some (.own r off len))(hs:SSet σ r (.arr et 1 es) r (.arr et 1 es') σ')(hle:off+len≤es.length)(hy:Src ⟨fr,σ⟩ y 1 ys)(hm:m=min ys.length len)
  (he:es'=es.take off++ys.take m++es.drop (off+m)) (hd:Nat.ble (d+1) n=true) (hK:RS P n ops rest ⟨(d,.int .i64 m)::fr,σ'⟩ K):RS P n ops (⟨some d,.call { callee:=.builtin .copy,args:=#[x,y],argTypes:=#[t,tS] },ty,pos,af,none⟩::rest) ⟨fr,σ⟩ K:=by
 subst he;exact eT (JW hb hs.get hle hy hm (cL hd) (vN (s:=⟨_,_⟩) (fun p hp=>hs.sub p hp) hK))
theorem pu{f:FuncId}{xs:List Operand}{ats:Array TypeId}{args:List AV}{v:AV}(ts:List Nat)(hf:∀args w,(callFunc f args).run P w=.ok (.enter f args) w)(h:SCall P f args [] (fun x σ'=>x=v∧σ'=[]))(hd:Nat.ble (d+1) n=true)
  (hargs:ArgsIf ⟨fr,σ⟩ true ts xs args) (hno:NoF v) (hK:RS P n ops rest ⟨(d,v)::fr,σ⟩ K):RS P n ops (⟨some d,.call { callee:=.value (.func f),args:=xs.toArray,argTypes:=ats },ty,pos,af,none⟩::rest) ⟨fr,σ⟩ K:=ZW ts hf h (cL hd) hargs hno hK
theorem sZ{f:FuncId}{j dj:Nat}{want b:Bool}{xs:List Operand}{ats:Array TypeId}{args:List AV}{v:AV}(ts:List Nat)(hj:(ops[j]?).bind (·.dst)=some dj)(hb:cN fr dj=some (.bool b))(hf:∀args w,(callFunc f args).run P w=.ok (.enter f args) w)
  (h:(b==want)=true→SCall P f args [] (fun x σ'=>x=v∧σ'=[])) (hd:Nat.ble (d+1) n=true) (hargs:ArgsIf ⟨fr,σ⟩ (b==want) ts xs args) (hno:NoF v) (hK:RS P n ops rest ⟨(d,.when (b==want) v)::fr,σ⟩ K):
  RS P n ops (⟨some d,.call { callee:=.value (.func f),args:=xs.toArray,argTypes:=ats },ty,pos,af,some (j,want)⟩::rest) ⟨fr,σ⟩ K:=BH ts hj hb hf h (cL hd) hargs hno hK
theorem ne{e:TypeId} [Ty P t (.slice e)] {sz:Nat}{es:List (List AV)}{k:Rk}(h:aev ⟨fr,σ⟩ x=some (.ro sz es k))(hy:y=.const (.slice none 0 0))(hd:Nat.ble (d+1) n=true)(hK:∀b,(b=true→es=[])→(k=.nil→b=true)→RS P n ops rest ⟨(d,.bool b)::fr,σ⟩ K):
  RS P n ops (⟨some d,.binOp .eql t x y t',ty,pos,af,none⟩::rest) ⟨fr,σ⟩ K:=SA h hy (cL hd) hK
theorem cl{f:FuncId}{xs:List Operand}{ats:Array TypeId}{args:List AV}{R:AV→cR→Prop}(ts:List Nat)(hf:∀args w,(callFunc f args).run P w=.ok (.enter f args) w)(h:SCall P f args [] R)(hd:Nat.ble (d+1) n=true)
  (hargs:ArgsBor ⟨fr,σ⟩ ts xs args) (hno:∀x σ',R x σ'→NoF x∧∀p∈σ',ENoF p.2) (hK:∀x σ',R x σ'→(∀p∈σ',Fresh p.1 σ)→RS P n ops rest ⟨(d,x)::fr,σ'++σ⟩ K):
  RS P n ops (⟨some d,.call { callee:=.value (.func f),args:=xs.toArray,argTypes:=ats },ty,pos,af,none⟩::rest) ⟨fr,σ⟩ K:=eT (BG ts hf h (cL hd) hargs hno hK)
theorem cw{f:FuncId}{xs:List Operand}{ats:Array TypeId}{args:List AV}{R:AV→cR→Prop}(σ1:cR)(hf:∀args w,(callFunc f args).run P w=.ok (.enter f args) w)(h:SCall P f args σ1 R)(hd:Nat.ble (d+1) n=true)
  (hargs:ArgsLe ⟨fr,σ⟩ xs args) (hsub:∀p∈σ1,p∈σ) (hK:∀x σ',R x σ'→(∀p∈σ',(∃q∈σ1,q.1=p.1)∨Fresh p.1 σ)→RS P n ops rest ⟨(d,x)::fr,σ'++dE (σ1.map (·.1)) σ⟩ K):
  RS P n ops (⟨some d,.call { callee:=.value (.func f),args:=xs.toArray,argTypes:=ats },ty,pos,af,none⟩::rest) ⟨fr,σ⟩ K:=eT (qS hf h (cL hd) hargs hsub hK)
theorem fz{i q off len sz:Nat}{et:TypeId}{es es':List (List AV)}(hx:cN fr i=some (.own q off len))(hd:SDel σ q (.arr et sz es) σ')(hle:off+len≤es.length)(he:(es.drop off).take len=es')(hK:RS P n ops rest ⟨(i,.ro sz es' .any)::fr,σ'⟩ K):RS P n ops rest ⟨fr,σ⟩ K:=
 jW (aCQ hx hd hle he) hK
theorem gy{dst:Option Nat}{s:ASt}{j dj:Nat}{want:Bool}(hj:(ops[j]?).bind (·.dst)=some dj)(hb:cN s.fr dj=some (.bool want))(h:RS P n (ops) (⟨dst,op,ty,pos,af,none⟩::rest) s K):RS P n ops (⟨dst,op,ty,pos,af,some (j,want)⟩::rest) s K:=by
 intro M F N a w hr;have hw:=mL (o:=⟨dst,op,ty,pos,af,some (j,want)⟩) hr rfl hj hb;have h1:=h M F N a w hr;unfold wpList at h1⊢;rw[hw,if_pos (by cases want<;>rfl)];rw[if_pos (by rfl)]at h1;exact h1
variable {listed : Array Bool} {todo : List (Nat × Bool)} {held : List (Nat × List Nat)} {i : Nat}
theorem fO{v:AV}{rs:List Nat}(hi:ops[i]? =some ⟨some d,op,ty,pos,af,none⟩)(h:Lop P op ty ⟨fr,σ⟩ true v rs)(hd:Nat.ble (d+1) n=true)(hK:RD P n ops (listed.setIfInBounds i true) todo ((i,rs)::held) ⟨(d,v)::fr,σ⟩ K):
  RD P n ops listed ((i,true)::todo) held ⟨fr,σ⟩ K:=UP hi h (cL hd) hK
theorem fI{j dj:Nat}{want b:Bool}{v:AV}{rs:List Nat}(hi:ops[i]? =some ⟨some d,op,ty,pos,af,some (j,want)⟩)(hj:(ops[j]?).bind (·.dst)=some dj)(hb:cN fr dj=some (.bool b))(h:Lop P op ty ⟨fr,σ⟩ (b==want) v rs)(hd:Nat.ble (d+1) n=true)
  (hK:RD P n ops (listed.setIfInBounds i true) todo ((i,rs)::held) ⟨(d,.when (b==want) v)::fr,σ⟩ K):RD P n ops listed ((i,true)::todo) held ⟨fr,σ⟩ K:=JT hi hj hb h (cL hd) hK
theorem gJ{j dj:Nat}{want b c0:Bool}{v:AV}{rs:List Nat}(hi:ops[i]? =some ⟨some d,op,ty,pos,af,some (j,want)⟩)(hj:(ops[j]?).bind (·.dst)=some dj)(hb:cN fr dj=some (.when c0 (.bool b)))(h:Lop P op ty ⟨fr,σ⟩ (c0&&(b==want)) v rs)(hd:Nat.ble (d+1) n=true)
  (hK:RD P n ops (listed.setIfInBounds i true) todo ((i,rs)::held) ⟨(d,.when (c0&&(b==want)) v)::fr,σ⟩ K):RD P n ops listed ((i,true)::todo) held ⟨fr,σ⟩ K:=BD hi hj hb h (cL hd) hK
theorem mN{j dj:Nat}{want b:Bool}(hi:ops[i]? =some ⟨some d,op,ty,pos,af,some (j,want)⟩)(hj:(ops[j]?).bind (·.dst)=some dj)(hb:cN fr dj=some (.bool b))(hne:(b==want)=false)(hd:Nat.ble (d+1) n=true)
  (hK:RD P n ops (listed.setIfInBounds i true) todo ((i,[])::held) ⟨(d,.when false (.bool false))::fr,σ⟩ K):RD P n ops listed ((i,true)::todo) held ⟨fr,σ⟩ K:=by
 refine JT (v:=.bool false) (rs:=[]) hi hj hb ?_ (cL hd) ?_
 ·rw[hne];exact bN
 ·rw[hne];exact hK
theorem de{ks:List Nat}{fr':Fr}(h:KeepIs fr ks fr')(hK:K ⟨fr',σ⟩):RD P n ops listed [] held ⟨fr,σ⟩ (sO ks K):=aCN h rfl hK
theorem dbx{v:AV}{cs:List AV}(hi:ops[i]? =some ⟨some d,.box t x,ty,pos,af,none⟩)(h:aev ⟨fr,σ⟩ x=some v)(hc:v.cells.all AV.cell=true)(hv:v.cells=cs)(hd:Nat.ble (d+1) n=true)(hK:∀r,Fresh r σ→RD P n ops (listed.setIfInBounds i true) todo held ⟨(d,.ptr r 0)::fr,(r,.box t cs)::σ⟩ K):
  RD P n ops listed ((i,false)::todo) held ⟨fr,σ⟩ K:=by
 subst hv;exact vM hi (PW h hc (cL hd) hK)
theorem dal{sz by_:Nat}{z:Value}{cs:List AV}(hi:ops[i]? =some ⟨some d,.alloc t,ty,pos,af,none⟩)(i1:Tz P t sz by_ z)(hd:Nat.ble (d+1) n=true)(hz:z.cells.toList.map cH=cs)(hK:∀r,Fresh r σ→RD P n ops (listed.setIfInBounds i true) todo held ⟨(d,.ptr r 0)::fr,(r,.box t cs)::σ⟩ K):
  RD P n ops listed ((i,false)::todo) held ⟨fr,σ⟩ K:=by
 subst hz;exact vM hi (DG (cL hd) hK)
theorem aGT{sz by_:Nat}{z:Value}{r off:Nat}{v:AV}(hi:ops[i]? =some ⟨none,.store t x y,ty,pos,af,none⟩)(i1:Tz P t sz by_ z)(h:aev ⟨fr,σ⟩ x=some (.ptr r off))(hv:aev ⟨fr,σ⟩ y=some v)(hc:v.cells.all AV.cell=true)(hl:v.cells.length=sz)(hs:SPut σ r off v.cells σ')
  (hb:HB ops i (σ.map (·.1)) [r] held) (hK:RD P n ops (listed.setIfInBounds i true) todo held ⟨fr,σ'⟩ K):RD P n ops listed ((i,false)::todo) held ⟨fr,σ⟩ K:=by
 obtain⟨bt,cs,cs',h1,h2⟩:=hs.set;obtain⟨k1,k2⟩:=h1.eq;refine tY hi (sP h h2.get hv hc hl (by omega) ?_) (fun q hq=> ?_) hb
 ·refine FI (fun p hp=> ?_) hK;rw[hl]at k2;rw[←k2];exact h2.sub p hp
 ·obtain rfl:=List.mem_singleton.1 hq;exact List.mem_map.2 ⟨_,bI h2.get,rfl⟩
theorem ZY{sz1 by_:Nat}{z:Value}{r j off:Nat}{et:TypeId}{sz:Nat}{es es':List (List AV)}{e e':List AV}{v:AV}(hi:ops[i]? =some ⟨none,.store t x y,ty,pos,af,none⟩)(i1:Tz P t sz1 by_ z)(h:aev ⟨fr,σ⟩ x=some (.ow r j off))(hv:aev ⟨fr,σ⟩ y=some v)(hc:v.cells.all AV.cell=true)(hl:v.cells.length=sz1)
  (hs:SSet σ r (.arr et sz es) r (.arr et sz es') σ') (he:es[j]? =some e) (hp:Put e off v.cells e') (he':es'=es.set j e') (hb:HB ops i (σ.map (·.1)) [r] held) (hK:RD P n ops (listed.setIfInBounds i true) todo held ⟨fr,σ'⟩ K):RD P n ops listed ((i,false)::todo) held ⟨fr,σ⟩ K:=by
 obtain⟨k1,k2⟩:=hp.eq;refine tY hi (qV h hs.get he (by omega) hv hc hl ?_) (fun q hq=> ?_) hb
 ·refine FI (fun p hp=> ?_) hK;rw[hl]at k2;rw[←k2,←he'];exact hs.sub p hp
 ·obtain rfl:=List.mem_singleton.1 hq;exact List.mem_map.2 ⟨_,bI hs.get,rfl⟩
theorem dbs{e:TypeId}{sz by_:Nat}{zv:Value}{len:Nat}{parts:Array (Nat×Operand)}{vs:List AV}{es:List (List AV)}(hi:ops[i]? =some ⟨some d,.buildSlice t len parts,ty,pos,af,none⟩)(i1:Ty P t (.slice e))(i2:Tz P e sz by_ zv)(hv:AEvs ⟨fr,σ⟩ (parts.toList.map (·.2)) vs)(hp:parts.toList=oE 0 (parts.toList.map (·.2)))(hlen:(len==vs.length)=true)(h0:(decide (0<sz)&&decide (len*sz≤16777216))=true)
  (hc:(vs.all fun v=>v.cells.length==sz&&v.cells.all AV.cell)=true) (he:vs.map AV.cells=es) (hd:Nat.ble (d+1) n=true) (hK:∀r,Fresh r σ→RD P n ops (listed.setIfInBounds i true) todo held ⟨(d,.own r 0 len)::fr,(r,.arr e sz es)::σ⟩ K):RD P n ops listed ((i,false)::todo) held ⟨fr,σ⟩ K:=by
 subst he;exact vM hi (lR hp hv hlen h0 hc (cL hd) hK)
theorem dap{e:TypeId}{sz by_:Nat}{zv:Value}{r len len':Nat}{es ys es':List (List AV)}(hi:ops[i]? =some ⟨some d,.call { callee:=.builtin .append,args:=#[x,y],argTypes:=#[t,t] },ty,pos,af,none⟩)(i1:Ty P t (.slice e))(i2:Tz P e sz by_ zv)(hz:zv.cells.size=sz)(hx:aev ⟨fr,σ⟩ x=some (.own r 0 len))(hg:fB σ r=some (.arr e sz es))(hlen:len=es.length)(hy:Src ⟨fr,σ⟩ y sz ys)
  (he:es++ys=es') (hl':len'=len+ys.length) (hmax:len'≤maxLen) (hby:len'*by_≤140737488355328) (hd:Nat.ble (d+1) n=true) (hb:HB ops i (σ.map (·.1)) [r] held)
  (hK:∀r',Fresh r' (dE [r] σ)→∃σ',SSet σ r (.arr e sz es) r' (.arr e sz es') σ'∧RD P n ops (listed.setIfInBounds i true) todo held ⟨(d,.own r' 0 len')::fr,σ'⟩ K):RD P n ops listed ((i,false)::todo) held ⟨fr,σ⟩ K:=by
 subst he hl';refine tY hi (qU hz hx hg (by omega) hy hmax hby (cL hd) fun r' hf=> ?_) (fun q hq=> ?_) hb
 ·obtain⟨σ',hs,hK⟩:=hK r' hf;rw[hlen,List.take_length];refine FI (fun p hp=>hs.sub p hp) ?_;rw[←hlen];exact hK
 ·obtain rfl:=List.mem_singleton.1 hq;exact List.mem_map.2 ⟨_,bI hg,rfl⟩
theorem dpu{f:FuncId}{xs:List Operand}{ats:Array TypeId}{args:List AV}{v:AV}(ts:List Nat)(hi:ops[i]? =some ⟨some d,.call { callee:=.value (.func f),args:=xs.toArray,argTypes:=ats },ty,pos,af,none⟩)(hf:∀args w,(callFunc f args).run P w=.ok (.enter f args) w)(h:SCall P f args [] (fun x σ'=>x=v∧σ'=[]))(hd:Nat.ble (d+1) n=true)
  (hargs:ArgsIf ⟨fr,σ⟩ true ts xs args) (hno:NoF v) (hK:RD P n ops (listed.setIfInBounds i true) todo held ⟨(d,v)::fr,σ⟩ K):RD P n ops listed ((i,false)::todo) held ⟨fr,σ⟩ K:=vM hi (US ts hf h (cL hd) hargs hno hK)
theorem aGV{f:FuncId}{j dj:Nat}{want b:Bool}{xs:List Operand}{ats:Array TypeId}{args:List AV}{v:AV}(ts:List Nat)(hi:ops[i]? =some ⟨some d,.call { callee:=.value (.func f),args:=xs.toArray,argTypes:=ats },ty,pos,af,some (j,want)⟩)(hj:(ops[j]?).bind (·.dst)=some dj)(hb:cN fr dj=some (.bool b))(hf:∀args w,(callFunc f args).run P w=.ok (.enter f args) w)
  (h:(b==want)=true→SCall P f args [] (fun x σ'=>x=v∧σ'=[])) (hd:Nat.ble (d+1) n=true) (hargs:ArgsIf ⟨fr,σ⟩ (b==want) ts xs args) (hno:NoF v) (hK:RD P n ops (listed.setIfInBounds i true) todo held ⟨(d,.when (b==want) v)::fr,σ⟩ K):
  RD P n ops listed ((i,false)::todo) held ⟨fr,σ⟩ K:=BI ts hi hj hb hf h (cL hd) hargs hno hK
theorem nR{f:FuncId}{xs:List Operand}{ats:Array TypeId}{args:List AV}{R:AV→cR→Prop}(σ1:cR)(hi:ops[i]? =some ⟨some d,.call { callee:=.value (.func f),args:=xs.toArray,argTypes:=ats },ty,pos,af,none⟩)(hf:∀args w,(callFunc f args).run P w=.ok (.enter f args) w)(h:SCall P f args σ1 R)(hd:Nat.ble (d+1) n=true)
  (hargs:ArgsLe ⟨fr,σ⟩ xs args) (hsub:∀p∈σ1,p∈σ) (hb:HB ops i (σ.map (·.1)) (σ1.map (·.1)) held) (hK:∀x σ',R x σ'→(∀p∈σ',(∃q∈σ1,q.1=p.1)∨Fresh p.1 σ)→RD P n ops (listed.setIfInBounds i true) todo held ⟨(d,x)::fr,σ'++dE (σ1.map (·.1)) σ⟩ K):
  RD P n ops listed ((i,false)::todo) held ⟨fr,σ⟩ K:=tY hi (qS hf h (cL hd) hargs hsub hK) (fun r hr=>by obtain⟨p,hp,rfl⟩:=List.mem_map.1 hr;exact List.mem_map.2 ⟨p,hsub p hp,rfl⟩) hb
theorem dcp{e tS:TypeId}{by_:Nat}{zv:Value}{r off len m:Nat}{et:TypeId}{es ys es':List (List AV)}(hi:ops[i]? =some ⟨some d,.call { callee:=.builtin .copy,args:=#[x,y],argTypes:=#[t,tS] },ty,pos,af,none⟩)(i1:Ty P t (.slice e))(i2:Tz P e 1 by_ zv)(hx:aev ⟨fr,σ⟩ x=some (.own r off len))(hs:SSet σ r (.arr et 1 es) r (.arr et 1 es') σ')(hle:off+len≤es.length)(hy:Src ⟨fr,σ⟩ y 1 ys)(hm:m=min ys.length len)
  (he:es'=es.take off++ys.take m++es.drop (off+m)) (hd:Nat.ble (d+1) n=true) (hb:HB ops i (σ.map (·.1)) [r] held) (hK:RD P n ops (listed.setIfInBounds i true) todo held ⟨(d,.int .i64 m)::fr,σ'⟩ K):RD P n ops listed ((i,false)::todo) held ⟨fr,σ⟩ K:=by
 subst he;refine tY hi (JW hx hs.get hle hy hm (cL hd) (FI (s:=⟨_,_⟩) (fun p hp=>hs.sub p hp) hK)) (fun q hq=> ?_) hb;obtain rfl:=List.mem_singleton.1 hq;exact List.mem_map.2 ⟨_,bI hs.get,rfl⟩
end
theorem SR.retold {M:Mp}{F:Nat→Prop}{N:Nat}{w:World}{σ σ':cR}(h:SR M F N w σ)(hs:∀p∈σ',(∃x,(p.1,x)∈σ)∧ER M F w p.1 p.2):SR M F N w σ':=by
 refine⟨fun p hp=>(hs p hp).2,fun p hp q hq g h1 h2=> ?_, ?_,h.flt,h.fresh⟩
 ·obtain⟨x,hx⟩:=(hs p hp).1;obtain⟨y,hy⟩:=(hs q hq).1;exact h.inj (p.1,x) hx (q.1,y) hy g h1 h2
 ·rintro g ⟨p,hp,hg⟩;obtain⟨x,hx⟩:=(hs p hp).1;exact h.nof g ⟨_,hx,hg⟩
theorem Ext.retold {M:Mp}{F:Nat→Prop}{N:Nat}{w:World}{σ σ':cR}(hs:∀p∈σ',∃x,(p.1,x)∈σ):Ext M F N w σ M F N w σ':=by
 refine⟨fun _ _ h=>h,fun _ h=>h,Nat.le_refl _,Only.refl _ _, ?_,fun _ h=>.inl h, ?_⟩
 ·rintro g ⟨p,hp,hg⟩ _;obtain⟨x,hx⟩:=hs p hp;exact⟨_,hx,hg⟩
 ·intro p hp _;obtain⟨x,hx⟩:=hs p hp;exact⟨_,hx,rfl⟩
theorem cE{P:Program}{n:Nat}{ks:List Nat}{s:ASt}{c:Code}{Q:Exit→ASt→Prop}(r off:Nat)(e:TypeId)(sz:Nat)(h0:0<sz){bt:TypeId}{cs:List AV}{z:Nat}{k:Rk}(hg:fB s.σ r=some (.box bt cs))(hx:cs[off]? =some (.ro z [] k))(hk:k≠ .any)
  (h:∀q,Fresh q s.σ→∃σ',SSet s.σ r (.box bt cs) r (.box bt (cs.set off (.own q 0 0))) σ'∧SW P n ks c ⟨s.fr,(q,.arr e sz [])::σ'⟩ Q):SW P n ks c s Q:=by
 intro M F N a w hr;have hE:ER (eI M N .virt) F w N (.arr e sz []):=⟨h0,fun x hx=>by simp at hx,.inl ⟨bJ _,rfl⟩⟩
 obtain⟨r1,e1,n1⟩:=hr.new_ (w':=w) .virt (.arr e sz []) (fun _ _=>rfl) ⟨rfl,rfl,rfl⟩ (Nat.le_refl _) (fun g hg=>by simp[bB,bJ]at hg) hE;obtain⟨σ',hs,hK⟩:=h N n1;have hmem:∀p∈(N,Ent.arr e sz [])::σ',∃x,(p.1,x)∈(N,Ent.arr e sz [])::s.σ:=by
  intro p hp;rcases List.mem_cons.1 hp with rfl|hp
  ·exact⟨_,List.mem_cons_self⟩
  ·rcases List.mem_cons.1 (hs.sub p hp)with rfl|hp
   ·exact⟨_,List.mem_cons_of_mem _ (bI hg)⟩
   ·exact⟨_,List.mem_cons_of_mem _ (eH hp).1⟩
 have hr2:Rel (eI M N .virt) F (N+1) n ⟨s.fr,(N,.arr e sz [])::σ'⟩ a w:=by
  refine⟨r1.size,r1.defers,r1.fr,r1.st.retold fun p hp=>⟨hmem p hp, ?_⟩⟩;rcases List.mem_cons.1 hp with rfl|hp
  ·exact hE
  ·rcases List.mem_cons.1 (hs.sub p hp)with rfl|hp
   ·obtain⟨g,vs,h1,h2,h3,h4⟩:=r1.st.ent _ (List.mem_cons_of_mem _ (bI hg));refine⟨g,vs,by simpa using h1,h2,by simpa using h3,fun j b u hj hu=> ?_⟩;by_cases hjo:off=j
    ·subst hjo;have hlt:off<cs.length:=(List.getElem?_eq_some_iff.1 hx).1;rw[List.getElem?_set_self hlt]at hj;obtain rfl:=Option.some.inj hj;have hv:=h4 off _ u hx hu;cases hv with
     |@ro _ _ b o _ cap us hb hs hc hrr hle hm hf hn=>
      cases k with
      |nil=>exact absurd rfl hn
      |full=>have:=hf rfl;simp at this;subst this;exact .own0
      |any=>exact absurd rfl hk
     |ro0 hm hA hf hn=>
      cases k with
      |nil=>obtain rfl:=hn rfl;obtain rfl:=hA rfl;exact .own0
      |full=>obtain rfl:=hf rfl;exact .own0
      |any=>exact absurd rfl hk
    ·rw[List.getElem?_set_ne hjo]at hj;exact h4 j b u hj hu
   ·exact r1.st.ent p (List.mem_cons_of_mem _ (eH hp).1)
 refine wp_mono (hK _ F _ a w hr2) ?_;rintro e' a' w' ⟨M',F',N',s2,h1,h2,h3⟩;exact⟨M',F',N',s2,h1,(e1.trans (Ext.retold hmem)).trans h2,h3⟩
section
variable {P : Program} {n : Nat} {ks : List Nat} {s : ASt} {Q : Exit → ASt → Prop}
theorem cs{x y:Code}(h:SW P n ks x s (eM (fun s'=>SW P n ks y s' Q) Q)):SW P n ks (.seq x y) s Q:=EZ h
theorem cb{id:Nat}{c:Code}(h:SW P n ks c s (dR id Q)):SW P n ks (.block id c) s Q:=UL h
theorem ck(h:Q .normal s):SW P n ks .skip s Q:=EY h
theorem cr(h:Q .ret s):SW P n ks .ret s Q:=aCJ h
theorem cx{id:Nat}(h:Q (.exit id) s):SW P n ks (.exit id) s Q:=ZQ h
theorem lp{β:Type}{c:Code}(st:β→ASt)(ok:β→Prop)(ms:β→Nat)(b0:β)(h0:SGo s (st b0))(hok:ok b0)(round:∀b,ok b→SW P n ks c (st b) (eM (fun s2=>∃b',ok b'∧ms b'<ms b∧SGo s2 (st b')) Q)):SW P n ks (.loop c) s Q:=
 ZS (fun m s=>∃b,ok b∧ms b=m∧st b=s) (ms b0) ⟨_,h0,b0,hok,rfl,rfl⟩ (by
  rintro m s' ⟨b,hb,rfl,rfl⟩;refine rY (round b hb) fun e s2 h=> ?_
  cases e<;>first|exact h|(obtain⟨b',h1,h2,h3⟩:=h;exact⟨_,_,h3,h2,b',h1,rfl,rfl⟩))
theorem sj{β:Type}{x y:Code}(st:β→ASt)(ok:β→Prop)(hx:SW P n ks x s (eM (fun s2=>∃b,ok b∧SGo s2 (st b)) Q))(hy:∀b,ok b→SW P n ks y (st b) Q):SW P n ks (.seq x y) s Q:=
 EZ (rY hx fun e s2 h=>by cases e<;>first|exact h|(obtain⟨b,h1,h2⟩:=h;exact dM h2 (hy b h1)))
theorem ct{c:Operand}{x y:Code}(hc:aev s c=some (.bool true))(h:SW P n ks x s Q):SW P n ks (.cond c x y) s Q:=FE hc h
theorem cf{c:Operand}{x y:Code}(hc:aev s c=some (.bool false))(h:SW P n ks y s Q):SW P n ks (.cond c x y) s Q:=BF hc h
end
theorem an{K:ASt→Prop}{Q:Exit→ASt→Prop}{s:ASt}(h:K s):eM K Q .normal s:=h
theorem ae{K:ASt→Prop}{Q:Exit→ASt→Prop}{s:ASt}{i:Nat}(h:Q (.exit i) s):eM K Q (.exit i) s:=h
theorem ar{K:ASt→Prop}{Q:Exit→ASt→Prop}{s:ASt}(h:Q .ret s):eM K Q .ret s:=h
theorem bn{i:Nat}{Q:Exit→ASt→Prop}{s:ASt}(h:Q .normal s):dR i Q .normal s:=h
theorem bh{i:Nat}{Q:Exit→ASt→Prop}{s:ASt}(h:Q .normal s):dR i Q (.exit i) s:=NS h
theorem br{i:Nat}{Q:Exit→ASt→Prop}{s:ASt}(h:Q .ret s):dR i Q .ret s:=h
theorem JZ{P:Program}{n:Nat}{ops:Array Oper}{rest:List Oper}{s:ASt}{K:ASt→Prop}(r off:Nat)(e:TypeId)(sz:Nat)(h0:0<sz){bt:TypeId}{cs:List AV}{z:Nat}{k:Rk}(hg:fB s.σ r=some (.box bt cs))(hx:cs[off]? =some (.ro z [] k))(hk:k≠ .any)
  (h:∀q,Fresh q s.σ→∃σ',SSet s.σ r (.box bt cs) r (.box bt (cs.set off (.own q 0 0))) σ'∧RS P n ops rest ⟨s.fr,(q,.arr e sz [])::σ'⟩ K):RS P n ops rest s K:=by
 intro M F N a w hr;have hE:ER (eI M N .virt) F w N (.arr e sz []):=⟨h0,fun x hx=>by simp at hx,.inl ⟨bJ _,rfl⟩⟩
 obtain⟨r1,e1,n1⟩:=hr.new_ (w':=w) .virt (.arr e sz []) (fun _ _=>rfl) ⟨rfl,rfl,rfl⟩ (Nat.le_refl _) (fun g hg=>by simp[bB,bJ]at hg) hE;obtain⟨σ',hs,hK⟩:=h N n1;have hmem:∀p∈(N,Ent.arr e sz [])::σ',∃x,(p.1,x)∈(N,Ent.arr e sz [])::s.σ:=by
  intro p hp;rcases List.mem_cons.1 hp with rfl|hp
  ·exact⟨_,List.mem_cons_self⟩
  ·rcases List.mem_cons.1 (hs.sub p hp)with rfl|hp
   ·exact⟨_,List.mem_cons_of_mem _ (bI hg)⟩
   ·exact⟨_,List.mem_cons_of_mem _ (eH hp).1⟩
 have hr2:Rel (eI M N .virt) F (N+1) n ⟨s.fr,(N,.arr e sz [])::σ'⟩ a w:=by
  refine⟨r1.size,r1.defers,r1.fr,r1.st.retold fun p hp=>⟨hmem p hp, ?_⟩⟩;rcases List.mem_cons.1 hp with rfl|hp
  ·exact hE
  ·rcases List.mem_cons.1 (hs.sub p hp)with rfl|hp
   ·obtain⟨g,vs,h1,h2,h3,h4⟩:=r1.st.ent _ (List.mem_cons_of_mem _ (bI hg));refine⟨g,vs,by simpa using h1,h2,by simpa using h3,fun j b u hj hu=> ?_⟩;by_cases hjo:off=j
    ·subst hjo;have hlt:off<cs.length:=(List.getElem?_eq_some_iff.1 hx).1;rw[List.getElem?_set_self hlt]at hj;obtain rfl:=Option.some.inj hj;have hv:=h4 off _ u hx hu;cases hv with
     |@ro _ _ b o _ cap us hb hs hc hrr hle hm hf hn=>
      cases k with
      |nil=>exact absurd rfl hn
      |full=>have:=hf rfl;simp at this;subst this;exact .own0
      |any=>exact absurd rfl hk
     |ro0 hm hA hf hn=>
      cases k with
      |nil=>obtain rfl:=hn rfl;obtain rfl:=hA rfl;exact .own0
      |full=>obtain rfl:=hf rfl;exact .own0
      |any=>exact absurd rfl hk
    ·rw[List.getElem?_set_ne hjo]at hj;exact h4 j b u hj hu
   ·exact r1.st.ent p (List.mem_cons_of_mem _ (eH hp).1)
 exact gP (PostN.ext (e1.trans (Ext.retold hmem))) (hK _ F _ a w hr2)
theorem tA{e:Nat}{σ1 σ:cR}(h:(∃q∈σ1,q.1=e)∨Fresh e σ):Fresh e (dE (σ1.map (·.1)) σ):=by
 intro p hp;obtain⟨h1,h2⟩:=eH hp;rcases h with⟨q,hq,rfl⟩|h
 ·exact fun e=>h2 (e▸List.mem_map.2 ⟨q,hq,rfl⟩)
 ·exact h p h1
theorem aCR{P:Program}{n:Nat}{ks:List Nat}{s:ASt}{c:Code}{Q:Exit→ASt→Prop}(r off d:Nat){bt e:TypeId}{cs:List AV}{sz o len:Nat}{es:List (List AV)}(hg:fB s.σ r=some (.box bt cs))(hx:cs[off]? =some (.own d o len))(hd:fB s.σ d=some (.arr e sz es))
  (h:∀q,Fresh q s.σ→∃σ1,SSet s.σ r (.box bt cs) r (.box bt (cs.set off (.own q o len))) σ1∧∃σ2,SSet σ1 d (.arr e sz es) q (.arr e sz es) σ2∧SW P n ks c ⟨s.fr,σ2⟩ Q):SW P n ks c s Q:=by
 intro M F N a w hr;have hmd:=bI hd;have hmr:=bI hg;obtain⟨b,hb⟩:∃b,M d=some b:=by
  cases hM:M d with
  |none=>exact absurd hM (hr.st.ent _ hmd).some
  |some b=>exact⟨b,rfl⟩
 have hblk:∀g,bB (eI M N b) N=some g→bB M d=some g:=fun g hg=>by
  simp only[bB,bJ]at hg;simp only[bB,hb];exact hg
 have hE0:=hr.st.ent _ hmd;have hmm:∀q b',M q=some b'→eI M N b q=some b':=fun q b' hq=>lI hr.st.fresh b hq
 have hE:ER (eI M N b) F w N (.arr e sz es):=by
  obtain⟨k0,k1,k2⟩:=hE0;refine⟨k0,k1, ?_⟩;rcases k2 with⟨k2,k3⟩|⟨g,cc,vs,k2,k3,k4,k5,k6,k7⟩
  ·simp only at k2;exact .inl ⟨by rw[bJ,←k2,hb],k3⟩
  ·simp only at k2;exact .inr ⟨g,cc,vs,by rw[bJ,←k2,hb],k3,k4,k5,k6,fun i x j a u hi hj hu=>(k7 i x j a u hi hj hu).mono hmm (fun _ h=>h) (fun _ _=>rfl)⟩
 obtain⟨r1,e1,n1,-⟩:=hr.move_ hmd b (Only.refl _ w) (fun g hg=>.inl (hblk g hg)) hE;have hnN:Fresh N s.σ:=fun p hp=>by have:=hr.st.name hp;omega
 obtain⟨σ1,hs1,σ2,hs2,hK⟩:=h N hnN;have hmem:∀p∈σ2,p=(N,Ent.arr e sz es)∨p=(r,.box bt (cs.set off (.own N o len)))∨(p∈s.σ∧p.1≠d):=by
  intro p hp;rcases List.mem_cons.1 (hs2.sub p hp)with rfl|hp
  ·exact .inl rfl
  ·obtain⟨hp1,hp2⟩:=eH hp;rcases List.mem_cons.1 (hs1.sub p hp1)with rfl|hp3
   ·exact .inr (.inl rfl)
   ·exact .inr (.inr ⟨(eH hp3).1,by simpa using hp2⟩)
 have hrd:r≠d:=by
  rintro rfl;rw[hg]at hd;cases hd
 have hin:∀p∈σ2,∃x,(p.1,x)∈(N,Ent.arr e sz es)::dE [d] s.σ:=by
  intro p hp;rcases hmem p hp with rfl|rfl|⟨hp1,hp2⟩
  ·exact⟨_,List.mem_cons_self⟩
  ·refine⟨.box bt cs,List.mem_cons_of_mem _ ?_⟩;simp only[dE,List.mem_filter];exact⟨hmr,by simpa using hrd⟩
  ·refine⟨p.2,List.mem_cons_of_mem _ ?_⟩;simp only[dE,List.mem_filter];exact⟨hp1,by simpa using hp2⟩
 have hr2:Rel (eI M N b) F (N+1) n ⟨s.fr,σ2⟩ a w:=by
  refine⟨r1.size,r1.defers,r1.fr,r1.st.retold fun p hp=>⟨hin p hp, ?_⟩⟩;rcases hmem p hp with rfl|rfl|⟨hp1,hp2⟩
  ·exact hE
  ·obtain⟨g,vs,h1,h2,h3,h4⟩:=hr.st.ent _ hmr;refine⟨g,vs,by simpa using hmm _ _ h1,h2,by simpa using h3,fun j x u hj hu=> ?_⟩;by_cases hjo:off=j
   ·subst hjo;have hlt:off<cs.length:=(List.getElem?_eq_some_iff.1 hx).1;rw[List.getElem?_set_self hlt]at hj;obtain rfl:=Option.some.inj hj;have hv:=h4 off _ u hx hu;cases hv with
    |own hM hle hm=>exact .own (by rw[bJ,←hM,hb]) hle hm
    |own0=>exact .own0
   ·rw[List.getElem?_set_ne hjo]at hj;exact(h4 j x u hj hu).mono hmm (fun _ h=>h) (fun _ _=>rfl)
  ·exact ER.mono hmm (fun _ h=>h) (fun _ _=>rfl) (fun _ _=>rfl) (hr.st.ent p hp1)
 refine wp_mono (hK _ F _ a w hr2) ?_;rintro e' a' w' ⟨M',F',N',s2,h1,h2,h3⟩;exact⟨M',F',N',s2,h1,(e1.trans (Ext.retold hin)).trans h2,h3⟩
theorem AZ{P:Program}{n:Nat}{ops:Array Oper}{rest:List Oper}{fr:Fr}{σ:cR}{K:ASt→Prop}{ty:TypeId}{pos:String}{af:Array Edge}{f:FuncId}{d j dj:Nat}{want b c0:Bool}{xs:List Operand}{ats:Array TypeId}{args:List AV}{v:AV}(ts:List Nat)(hj:(ops[j]?).bind (·.dst)=some dj)(hb:cN fr dj=some (.when c0 (.bool b)))(hf:∀args w,(callFunc f args).run P w=.ok (.enter f args) w)
  (h:(c0&&(b==want))=true→SCall P f args [] (fun x σ'=>x=v∧σ'=[])) (hd:Nat.ble (d+1) n=true) (hargs:ArgsIf ⟨fr,σ⟩ (c0&&(b==want)) ts xs args) (hno:NoF v) (hK:RS P n ops rest ⟨(d,.when (c0&&(b==want)) v)::fr,σ⟩ K):
  RS P n ops (⟨some d,.call { callee:=.value (.func f),args:=xs.toArray,argTypes:=ats },ty,pos,af,some (j,want)⟩::rest) ⟨fr,σ⟩ K:=by
 intro M F N a w hr;refine wpList_step fun K' hK'=> ?_
 cases hc:c0 with
 |false=>
  have hy:yielded ops a.tmps j=none:=by
   have h0:=hr.fr dj _ hb;cases h0 with
   |when _ h0=>
    have h0:=h0 hc;unfold yielded;rw[hj];simp only[Option.bind_some];rcases hx:a.tmps[dj]? with _ |u
    ·rfl
    ·rw[Array.getD_eq_getD_getElem?,hx]at h0;simp only[Option.getD_some]at h0;subst h0;rfl
  rw[if_neg (by simp[Region.wanted,hy])];exact hK' _ _ (hK M F N _ w (hr.put (cL hd) (.when (fun h=>by simp[hc]at h) (fun _=>rfl))))
 |true=>
  have hw:=qQ (o:=⟨some d,.call { callee:=.value (.func f),args:=xs.toArray,argTypes:=ats },ty,pos,af,some (j,want)⟩) hr rfl hj hb hc;rw[hw];by_cases hbw:(b==want)=true
  ·rw[if_pos hbw];refine oF ts hf h (by simp[hc,hbw]) hargs hno hr rfl fun M' N' w' u hr' he _ hv=> ?_
   exact hK' _ _ (gP (PostN.ext he) (hK M' F N' _ w' (hr'.put (cL hd) (.when (fun _=>hv) (fun h=>by rw[hc,hbw]at h;cases h)))))
  ·simp only[Bool.not_eq_true]at hbw;rw[if_neg (by rw[hbw];simp)];exact hK' _ _ (hK M F N _ w (hr.put (cL hd) (.when (fun h=>by simp[hbw]at h) (fun _=>rfl))))
def aH (n:Nat):List AV:=[.int .u8 n]
def cU (bs:List Nat):ByteArray:=⟨(bs.map UInt8.ofNat).toArray⟩
theorem wM(bs:List Nat):(cU bs).toList=bs.map UInt8.ofNat:=by
 rw[Go.ByteArray.toList_eq];simp[cU]
theorem NT(ns:List Nat):∀acc:ByteArray,(ns.map Int.ofNat).foldl (fun r n=>r.push (UInt8.ofNat n.toNat)) acc=⟨acc.data++(ns.map UInt8.ofNat).toArray⟩:=by
 induction ns with
 |nil=>intro acc;simp
 |cons n ns ih=>
  intro acc;rw[List.map_cons,List.foldl_cons,ih];simp[ByteArray.push]
theorem ZZ(ns:List Nat):(ns.map Int.ofNat).foldl (fun r n=>r.push (UInt8.ofNat n.toNat)) ByteArray.empty=cU ns:=by
 rw[NT];simp[cU,ByteArray.empty,ByteArray.emptyWithCapacity];rfl
theorem aCS{a b:Nat}(ha:a<256)(hb:b<256)(h:UInt8.ofNat a=UInt8.ofNat b):a=b:=by
 have:=congrArg UInt8.toNat h;simp at this;omega
theorem mS:∀ {l m:List Nat},(∀x∈l,x<256)→(∀x∈m,x<256)→((cU l).toList==(cU m).toList)=decide (l=m):=by
 intro l m hl hm;rw[wM,wM];by_cases h:l=m
 ·subst h;simp
 ·rw[decide_eq_false h,beq_eq_false_iff_ne];intro e;apply h;clear h
  induction l generalizing m with
  |nil=>cases m<;>first|rfl|simp at e
  |cons a l ih=>
   cases m with
   |nil=>simp at e
   |cons b m=>
    simp only[List.map_cons,List.cons.injEq]at e;rw[aCS (hl a (by simp)) (hm b (by simp)) e.1,ih (fun x hx=>hl x (by simp[hx])) (fun x hx=>hm x (by simp[hx])) e.2]
section
variable {P : Program} {ty : TypeId} {s : ASt} {c : Bool} {t t' e : TypeId} {x y : Operand}
theorem lF{w:World} [Ty P t (.slice e)] [Ty P e (.int .u8)] [Ty P t' .string] {ρ:Operand→Value}{o:Oper}(ho:o.op=.convert t t' x){A:Option Addr}{cap:Nat}{bs:List Nat}(hx:ρ x=.slice A bs.length cap)(hn:A=none→bs=[])
  (hc:∀p,A=some p→∀(j:Nat) (n:Nat),bs[j]? =some n→w.cell? (p.add j)=some (.int .u8 n)):(execOp ρ o).run P w=.ok (.value (.string (cU bs))) w:=by
 have h1:(Conv.bytesToString (.slice A bs.length cap)).run P w=.ok (.string (cU bs)) w:=by
  cases A with
  |none=>
   obtain rfl:=hn rfl;simp[Conv.bytesToString,cU,ByteArray.empty,ByteArray.emptyWithCapacity];rfl
  |some p=>
   have hl:=run_loadCells_list (P:=P) (w:=w) p ((bs.map Int.ofNat).map (Value.int .u8)) (fun j v hj=>by
    rw[List.getElem?_map,List.getElem?_map,Option.map_map]at hj;obtain⟨n,hn,rfl⟩:=Option.map_eq_some_iff.1 hj;exact hc p rfl j n hn)
   rw[List.length_map,List.length_map]at hl;rw[run_bytesToString w p bs.length cap (bs.map Int.ofNat) hl,ZZ]
 simp only[execOp,ho,hx,Sem.run_bind,run_convert_bytes_string w t t' e A bs.length cap (Ty.und (P:=P) (t:=t)) (Ty.und (P:=P) (t:=e)) (Ty.und (P:=P) (t:=t')),h1,Result.andThen_ok,Sem.run_pure]
theorem pE [Ty P t (.slice e)] [Ty P e (.int .u8)] [Ty P t' .string] {bs:List Nat}{k:Rk}(h:Ev s c x (.ro 1 (bs.map aH) k)):Lop P (.convert t t' x) ty s c (.str (cU bs)) []:=by
 refine⟨fun r hr=>by simp at hr,fun M F N n a w hr hc=>⟨_,.str _,fun w' o ho _ hsame=> ?_⟩⟩;have e1:=h.vr hr hc;generalize hu:a.eval x=u at e1;generalize hes:bs.map aH=es at e1;cases e1 with
 |@ro _ _ b o' _ cap us hb hs hcc hrr hle hm hf hn=>
  subst hes;refine lF (e:=e) ho (by rw[hu,List.length_map]) (fun h=>by cases h) (fun p hp j n hj=> ?_);cases hp
  have h1:=hcc j (aH n) 0 (.int .u8 n) (by rw[List.getElem?_map,hj];rfl) rfl;have h2:=hrr j (aH n) 0 (.int .u8 n) (by rw[List.getElem?_map,hj];rfl) rfl;rw[Addr.add_lit,World.cell?_of_block (w:=w) (w':=w') (hsame b (.inl hb))];rw[Nat.mul_one,Nat.add_zero]at h1;rw[h1];generalize us j 0=q at h2;cases h2
  rfl
 |@ro0 _ _ A cap hm hA hf hn=>
  have:bs=[]:=by simpa using hes
  subst this;exact lF (e:=e) ho (A:=A) (cap:=cap) hu (fun _=>rfl) (fun p _ j n hj=>by simp at hj)
theorem BJ [Ty P t (.slice e)] [Ty P e (.int .u8)] [Ty P t' .string] {bs bs':List Nat}{r off len:Nat}{et:TypeId}(h:Ev s c x (.own r off len))(hg:fB s.σ r=some (.arr et 1 (bs.map aH)))(hle:off+len≤bs.length)(hbs:(bs.drop off).take len=bs'):Lop P (.convert t t' x) ty s c (.str (cU bs')) [r]:=by
 subst hbs;refine⟨fun q hq=>⟨_,bI hg,(List.mem_singleton.1 hq).symm⟩,fun M F N n a w hr hc=>⟨_,.str _,fun w' o ho _ hsame=> ?_⟩⟩;have e1:=h.vr hr hc;have hl:((bs.drop off).take len).length=len:=by simp;omega
 generalize hu:a.eval x=u at e1;obtain⟨h0,hrows,h3⟩:=hr.st.ent _ (bI hg);cases e1 with
 |own hM hle' hm=>
  rcases h3 with⟨hv',_⟩|⟨g,cc,vs,hM',hcl,hsz,hlc,hmax,hvr⟩
  ·rw[hM]at hv';cases hv'
  ·have hg':=hM'.symm.trans hM;simp only[Option.some.injEq,Blk'.row.injEq]at hg';obtain⟨q1,q2,q3⟩:=hg';subst q1;subst q2;subst q3;refine lF (e:=e) ho (by rw[hu,hl]) (fun h=>by cases h) (fun p hp j n hj=> ?_);cases hp
   rw[Addr.add_lit,World.cell?_of_block (w:=w) (w':=w') (hsame g (.inr ⟨r,by simp,by simp[bB,hM]⟩)),hcl.cell];have hj2:bs[off+j]? =some n:=by
    rw[List.getElem?_take]at hj;split at hj
    ·rwa [List.getElem?_drop]at hj
    ·cases hj
   have hjl:=(List.getElem?_eq_some_iff.1 hj2).1;rw[List.length_map]at hlc;have hlt:off*1+j<vs.size:=by omega
   have h1:=hvr (off+j) (aH n) 0 (.int .u8 n) vs[off*1+j] (by rw[List.getElem?_map,hj2];rfl) rfl (by rw[show(off+j)*1+0=off*1+j by omega];exact Array.getElem?_eq_getElem hlt);rw[Array.getElem?_eq_getElem hlt];generalize vs[off*1+j]=q at h1;cases h1
   rfl
 |own0=>
  refine lF (e:=e) ho (by rw[hu,hl]) (fun _=>by simp) (fun p _ j n hj=>by simp at hj)
end
theorem gE{P:Program}{n:Nat}{ops:Array Oper}{fr:Fr}{σ:cR}{K:ASt→Prop}{op:Op}{ty:TypeId}{pos:String}{af:Array Edge}{listed:Array Bool}{todo:List (Nat×Bool)}{held:List (Nat×List Nat)}{i d j dj:Nat}{want:Bool}{v:AV}{rs:List Nat}(hi:ops[i]? =some ⟨some d,op,ty,pos,af,some (j,want)⟩)(hj:(ops[j]?).bind (·.dst)=some dj)(hb:cN fr dj=some (.bool want))(h:Lop P op ty ⟨fr,σ⟩ true v rs)(hd:Nat.ble (d+1) n=true)
  (hK:RD P n ops (listed.setIfInBounds i true) todo ((i,rs)::held) ⟨(d,v)::fr,σ⟩ K):RD P n ops listed ((i,true)::todo) held ⟨fr,σ⟩ K:=FC hi hj hb h (cL hd) hK
inductive FDel (t:Nat):Fr→Fr→Prop
 |nil:FDel t [] []
 |hit {x:AV} {l l':Fr} (h:FDel t l l'):FDel t ((t,x)::l) l'
 |miss {i:Nat} {x:AV} {l l':Fr} (hne:(i==t)=false) (h:FDel t l l'):FDel t ((i,x)::l) ((i,x)::l')
theorem FDel.get {t:Nat}{l l':Fr}(h:FDel t l l'):∀i x,cN l' i=some x→i≠t∧cN l i=some x:=by
 induction h with
 |nil=>intro i x h;simp[cN]at h
 |hit _ ih=>
  intro i x h;obtain⟨h1,h2⟩:=ih i x h;exact⟨h1,by simp only[cN];rw[if_neg h1];exact h2⟩
 |@miss j y l l' hne _ ih=>
  intro i x h;simp only[cN]at h⊢;split at h
  ·next e=>subst e;exact⟨by simpa using hne,by rw[if_pos rfl];exact h⟩
  ·next e=>obtain⟨h1,h2⟩:=ih i x h;exact⟨h1,by rw[if_neg e];exact h2⟩
theorem kW{P:Program}{n:Nat}{ks:List Nat}{fr fr0:Fr}{σ:cR}{t:Nat}{b c:Bool}{y rest:Code}{Q Q':Exit→ASt→Prop}(hx:cN fr t=some (.bool b))(hd:FDel t fr fr0)(h2:b=false→SW P n ks y ⟨fr,σ⟩ (eM (fun s2=>SGo s2 ⟨(t,.bool c)::fr0,σ⟩) Q'))(h:SW P n ks rest ⟨(t,.bool (b||c))::fr0,σ⟩ Q):
  SW P n ks (.cond (.tmp t) .skip y) ⟨fr,σ⟩ (eM (fun s'=>SW P n ks rest s' Q) Q'):=by
 have key:∀(fr':Fr) (x:Bool),cN fr' t=some (.bool x)→x=(b||c)→(∀i z,cN fr0 i=some z→cN fr' i=some z)→SGo ⟨fr',σ⟩ ⟨(t,.bool (b||c))::fr0,σ⟩:=fun fr' x hxx he ho=>SGo.of_le (fun j z hj=>by
  simp only[cN]at hj⊢;split at hj
  ·next e=>subst e;obtain rfl:=Option.some.inj hj;exact⟨_,hxx,by rw[he];exact VLe.refl _⟩
  ·next e=>exact⟨z,ho j z hj,VLe.refl _⟩) (fun _ h=>h)
 refine aC (b:=b) hx (fun hb=> ?_) (fun hb=> ?_)
 ·exact EY (dM (key fr b hx (by rw[hb];rfl) (fun i z hz=>(hd.get i z hz).2)) h)
 ·refine rY (h2 hb) fun e s2 hs=> ?_
  cases e<;>first|exact hs|skip
  refine dM (SGo.trans hs (key _ c (by simp[cN]) (by rw[hb];rfl) (fun i z hz=>by
   have:=(hd.get i z hz).1;simp only[cN];rw[if_neg this];exact hz))) h
theorem iO{P:Program}{n:Nat}{ks:List Nat}{fr fr0:Fr}{σ:cR}{t:Nat}{b c:Bool}{y:Code}{s0:ASt}{Q':Exit→ASt→Prop}(hx:cN fr t=some (.bool b))(hd:FDel t fr fr0)(h2:b=false→SW P n ks y ⟨fr,σ⟩ (eM (fun s2=>SGo s2 ⟨(t,.bool c)::fr0,σ⟩) Q'))(h:SGo ⟨(t,.bool (b||c))::fr0,σ⟩ s0):
  SW P n ks (.cond (.tmp t) .skip y) ⟨fr,σ⟩ (eM (fun s2=>SGo s2 s0) Q'):=by
 refine aC (b:=b) hx (fun hb=> ?_) (fun hb=> ?_)
 ·refine EY (SGo.trans (s':=⟨(t,.bool (b||c))::fr0,σ⟩) (SGo.of_le (fun j z hj=> ?_) (fun _ h=>h)) h);simp only[cN]at hj;split at hj
  ·next e=>subst e;obtain rfl:=Option.some.inj hj;exact⟨_,hx,by rw[hb];exact VLe.refl _⟩
  ·next e=>exact⟨z,(hd.get j z hj).2,VLe.refl _⟩
 ·refine rY (h2 hb) fun e s2 hs=> ?_
  cases e<;>first|exact hs|skip
  refine SGo.trans hs (SGo.trans (s':=⟨(t,.bool (b||c))::fr0,σ⟩) (SGo.of_le (fun j z hj=> ?_) (fun _ h=>h)) h);simp only[cN]at hj⊢;split at hj
  ·next e=>subst e;obtain rfl:=Option.some.inj hj;exact⟨_,by rw[if_pos rfl],by rw[hb];exact VLe.refl _⟩
  ·next e=>exact⟨z,by rw[if_neg e];exact hj,VLe.refl _⟩
theorem sja{P:Program}{n:Nat}{ks:List Nat}{s:ASt}{Q Q':Exit→ASt→Prop}{β:Type}{x y:Code}(st:β→ASt)(ok:β→Prop)(hx:SW P n ks x s (eM (fun s2=>∃b,ok b∧SGo s2 (st b)) Q'))(hy:∀b,ok b→SW P n ks y (st b) Q):SW P n ks x s (eM (fun s'=>SW P n ks y s' Q) Q'):=
 rY hx fun e s2 h=>by cases e<;>first|exact h|(obtain⟨b,h1,h2⟩:=h;exact dM h2 (hy b h1))
theorem KA{p:Nat→Prop}:∀(n m:Nat),m≤n→p m→∃k,p k∧∀j,p j→k≤j
 |0,m,hm,h=>⟨0,by rwa [show m=0 by omega]at h,fun j _=>Nat.zero_le _⟩
 |n+1,m,hm,h=>by
  by_cases hc:∃j,j≤n∧p j
  ·obtain⟨j,h1,h2⟩:=hc;exact KA n j h1 h2
  ·refine⟨m,h,fun j hj=> ?_⟩;by_cases hjm:m≤j
   ·exact hjm
   ·exact absurd ⟨j,by omega,hj⟩ hc
theorem zC{P:Program}{a:Act}{w:World}{Q:Exit→Act→World→Prop}{c rest:Code}(l:Nat)(J:Nat→Act→World→Prop)(hf:findLabel c l=some rest)
  (first:c.wp P (Exit.jump l (fun a w=>∃m,J m a w) Q) a w)
  (pass:∀m a w,J m a w→rest.wp P (Exit.jump l (fun a' w'=>∃m',m'<m∧J m' a' w') Q) a w):(Code.scope c).wp P Q a w:=by
 have hm:∀a w,∃k,∀m,J m a w→J k a w∧k≤m:=by
  intro a w;by_cases h:∃m,J m a w
  ·obtain⟨m,h⟩:=h;obtain⟨k,h1,h2⟩:=KA (p:=fun m=>J m a w) m m (Nat.le_refl _) h;exact⟨k,fun j hj=>⟨h1,h2 j hj⟩⟩
  ·exact⟨0,fun m hj=>absurd ⟨m,hj⟩ h⟩
 refine wp_scope_jumps l (fun a w=>∃m,J m a w) (fun a w=>(hm a w).choose) hf first ?_
 rintro a w ⟨m,h⟩;obtain⟨h1,-⟩:=(hm a w).choose_spec m h;refine wp_mono (pass _ a w h1) ?_;intro e a' w' hq;cases e<;>first|exact hq|skip
 obtain⟨h2,m',h3,h4⟩:=hq;exact⟨h2,⟨m',h4⟩,Nat.lt_of_le_of_lt ((hm a' w').choose_spec m' h4).2 h3⟩
def KB (l:Nat) (J:ASt→Prop) (Q:Exit→ASt→Prop):Exit→ASt→Prop
 | .goto l',s=>l'=l∧J s
 |e,s=>Q e s
section
variable {P : Program} {n : Nat} {ks : List Nat} {s : ASt} {Q : Exit → ASt → Prop}
theorem scj{β:Type}{c body:Code}(l:Nat)(hf:findLabel c l=some (.seq .skip body))(st:β→ASt)(ok:β→Prop)(ms:β→Nat)
  (pass:∀b,ok b→SW P n ks body (st b) (KB l (fun s2=>∃b',ok b'∧ms b'<ms b∧SGo s2 (st b')) Q))
  (first:(∀b s',ok b→SGo s' (st b)→SW P n ks (.seq (.label l) body) s' (KB l (fun s2=>∃b',ok b'∧SGo s2 (st b')) Q))→SW P n ks c s (KB l (fun s2=>∃b',ok b'∧SGo s2 (st b')) Q)):SW P n ks (.scope c) s Q:=by
 have hfirst:=first fun b s' hb hgo=>dM hgo (EZ (UK (rY (pass b hb) fun e s2 h=>by
  cases e<;>first|exact h|skip
  obtain⟨h1,b',h2,-,h3⟩:=h;exact⟨h1,b',h2,h3⟩)))
 intro M F N a w hr;refine zC l (fun m a' w'=>∃M' F' N' b,ok b∧ms b=m∧Rel M' F' N' n (st b) a' w'∧Ext M F N w s.σ M' F' N' w' (st b).σ) hf ?_ ?_
 ·refine wp_mono (hfirst M F N a w hr) ?_;rintro e a' w' ⟨M',F',N',s',h1,h2,h3⟩;cases e<;>first|exact⟨M',F',N',s',h1,h2,h3⟩|skip
  obtain⟨h3,b,h4,h5⟩:=h3;obtain⟨M2,F2,N2,r2,e2⟩:=h5 M' F' N' n a' w' h1;exact⟨h3,_,M2,F2,N2,b,h4,rfl,r2,h2.trans e2⟩
 ·rintro m a' w' ⟨M1,F1,N1,b,hb,rfl,r1,e1⟩;refine wp_seq (wp_skip ?_);refine wp_mono (pass b hb M1 F1 N1 a' w' r1) ?_;rintro e a2 w2 ⟨M',F',N',s',h1,h2,h3⟩;cases e<;>first|exact⟨M',F',N',s',h1,e1.trans h2,h3⟩|skip
  obtain⟨h3,b',h4,h6,h5⟩:=h3;obtain⟨M2,F2,N2,r2,e2⟩:=h5 M' F' N' n a2 w2 h1;exact⟨h3,_,h6,M2,F2,N2,b',h4,rfl,r2,e1.trans (h2.trans e2)⟩
theorem cg{l:Nat}(h:Q (.goto l) s):SW P n ks (.goto l) s Q:=ZR h
end
theorem ag{K:ASt→Prop}{Q:Exit→ASt→Prop}{s:ASt}{i:Nat}(h:Q (.goto i) s):eM K Q (.goto i) s:=h
theorem bg{i j:Nat}{Q:Exit→ASt→Prop}{s:ASt}(h:Q (.goto j) s):dR i Q (.goto j) s:=h
theorem jg{J:ASt→Prop}{Q:Exit→ASt→Prop}{s:ASt}{l:Nat}(h:J s):KB l J Q (.goto l) s:=⟨rfl,h⟩
theorem jr{J:ASt→Prop}{Q:Exit→ASt→Prop}{s:ASt}{l:Nat}(h:Q .ret s):KB l J Q .ret s:=h
theorem fP{P:Program}{f:FuncId}{e:TypeId}{sz z:Nat}{args:List AV}{σ:cR}{R:AV→cR→Prop}(h0:0<sz)(h:∀q,Fresh q σ→SCall P f (.own q 0 0::args) ((q,.arr e sz [])::σ) R):SCall P f (.ro z [] .nil::args) σ R:=by
 intro M F N w vs hl hv hs;have hr:Rel M F N 0 ⟨[],σ⟩ ⟨#[],[]⟩ w:=⟨rfl,rfl,fun i x hi=>by simp[cN]at hi,hs⟩
 have hE:ER (eI M N .virt) F w N (.arr e sz []):=⟨h0,fun x hx=>by simp at hx,.inl ⟨bJ _,rfl⟩⟩
 obtain⟨r1,e1,n1⟩:=hr.new_ (w':=w) .virt (.arr e sz []) (fun _ _=>rfl) ⟨rfl,rfl,rfl⟩ (Nat.le_refl _) (fun g hg=>by simp[bB,bJ]at hg) hE;refine(h N n1 (eI M N .virt) F (N+1) w vs (by simpa using hl) ?_ r1.st).mono ?_
 ·intro i x v hx hvv;cases i with
  |zero=>
   obtain rfl:AV.own N 0 0=x:=by simpa using hx
   have hv0:=hv 0 _ v rfl hvv;cases hv0 with
   |@ro _ _ b o _ cap us hb hs hc hrr hle hm hf hn=>exact absurd rfl hn
   |ro0 hm hA hf hn=>
    obtain rfl:=hn rfl;obtain rfl:=hA rfl;exact .own0
  |succ i=>exact VR.mono e1.mm e1.ff (fun _ _=>rfl) (hv (i+1) x v (by simpa using hx) hvv)
 ·rintro e' w' ⟨v,x,M',F',N',σ',k1,k2,k3,k4,k5⟩;exact⟨v,x,M',F',N',σ',k1,e1.trans k2,k3,k4,k5⟩
section
variable {P : Program} {ty : TypeId} {s : ASt} {c : Bool} {t : TypeId} {x y : Operand}
theorem SD{e k:Nat}{d:TypeDesc} [Ty P t (.array k e)] [Ty P e d] (hd:qC d=false){by_:Nat}{z:Value} [Tz P e 1 by_ z] {ki:IntKind}{m:Int}{cs:List AV}{v:AV}(h:Ev s c x (.agg cs))(hi:Ev s c y (.int ki m))(hb:c=true→0≤m∧m<k)(hv:c=true→cs[m.toNat]? =some v):Lop P (.index t x y) ty s c v []:=
 Lop.pure_ fun M F N n a w hr hc=>by
  have e1:=h.vr hr hc;have hv:=hv hc;have hb:=hb hc;obtain⟨j,hi',hz,hs,_⟩:=Tz.parts P e;generalize hu:a.eval x=u at e1;cases e1 with
  |@agg _ vs hl hh=>
   have hlt:m.toNat<vs.size:=by rw[hl];exact(List.getElem?_eq_some_iff.1 hv).1
   refine⟨vs[m.toNat],hh _ v _ hv (Array.getElem?_eq_getElem hlt),fun w' o ho _=> ?_⟩;have:=tX (P:=P) (t:=e) hd (w:=w') (Array.getElem?_eq_getElem hlt);simp[execOp,ho,hu,hi.int hr hc,Instr.index,asIntOf,run_underlying (Ty.und (P:=P) (t:=t)),hb,sizeOf,typeInfo,hi',hs,this]
theorem UV{e:Nat} [Ty P t (.array 3 e)] {by_ by':Nat}{z z':Value} [Tz P t 3 by_ z] [Tz P e 1 by' z'] {k:IntKind}{m0 m1 m2:Int}(h3:∃a0 a1 a2,z=.agg #[a0,a1,a2]):Lop P (.build t #[(0,.const (.int k m0)),(1,.const (.int k m1)),(2,.const (.int k m2))]) ty s c (.agg [.int k m0,.int k m1,.int k m2]) []:=by
 obtain⟨a0,a1,a2,h3⟩:=h3;refine Lop.pure_ fun M F N n a w hr hc=>⟨.agg #[.int k m0,.int k m1,.int k m2],.agg rfl (fun j b u hj hu=> ?_),fun w' o ho _=> ?_⟩
 ·rcases j with _ | _ | _ |j
  ·simp at hj hu;subst hj hu;exact .int _ _
  ·simp at hj hu;subst hj hu;exact .int _ _
  ·simp at hj hu;subst hj hu;exact .int _ _
  ·simp at hj
 ·obtain⟨i,hi,hz0,hs0,_⟩:=Tz.parts P t;obtain⟨i',hi',hz0',hs0',_⟩:=Tz.parts P e;simp[execOp,ho,Instr.build,zeroValue,typeInfo,hi,hz0,run_underlying (Ty.und (P:=P) (t:=t)),sizeOf,hi',hs0',Instr.fill,h3,Act.eval,Value.cells]
end
end Go.Proofs.YtjpdadobblffmaaGreat
namespace Go.Proofs.YtjpdadobblffmaaGreat
@[reducible] def ty2:=Ty.mk Tryz.underlying2
attribute [instance] ty2
instance tz2:Tz Tryz.prog 2 1 8 (.int .i64 0):=⟨by kernel_rfl⟩
@[reducible] def ty3:=Ty.mk Tryz.underlying3
attribute [instance] ty3
instance tz3:Tz Tryz.prog 3 1 8 (.int .i64 0):=⟨by kernel_rfl⟩
@[reducible] def ty4:=Ty.mk Tryz.underlying4
attribute [instance] ty4
instance tz4:Tz Tryz.prog 4 1 1 (.bool false):=⟨by kernel_rfl⟩
@[reducible] def ty5:=Ty.mk Tryz.underlying5
attribute [instance] ty5
instance tz5:Tz Tryz.prog 5 1 1 (.int .u8 0):=⟨by kernel_rfl⟩
@[reducible] def ty9:=Ty.mk Tryz.underlying9
attribute [instance] ty9
instance tz9:Tz Tryz.prog 9 1 16 (.string .empty):=⟨by kernel_rfl⟩
@[reducible] def aGW:=Ty.mk Tryz.underlying22
attribute [instance] aGW
instance tz22:Tz Tryz.prog 22 1 24 (.slice none 0 0):=⟨by kernel_rfl⟩
@[reducible] def aGX:=Ty.mk Tryz.underlying23
attribute [instance] aGX
instance tz23:Tz Tryz.prog 23 1 24 (.slice none 0 0):=⟨by kernel_rfl⟩
@[reducible] def aGY:=Ty.mk Tryz.underlying24
attribute [instance] aGY
instance tz24:Tz Tryz.prog 24 1 24 (.slice none 0 0):=⟨by kernel_rfl⟩
@[reducible] def aGZ:=Ty.mk Tryz.underlying26
attribute [instance] aGZ
instance tz26:Tz Tryz.prog 26 3 24 (.agg #[.bool false,.int .i64 0,.int .i64 0]):=⟨by kernel_rfl⟩
instance tf26:Tf Tryz.prog 26 [(0,1),(1,1),(2,1)]:=⟨by kernel_rfl⟩
@[reducible] def aG0:=Ty.mk Tryz.underlying27
attribute [instance] aG0
instance tz27:Tz Tryz.prog 27 1 24 (.slice none 0 0):=⟨by kernel_rfl⟩
@[reducible] def aG1:=Ty.mk Tryz.underlying28
attribute [instance] aG1
instance tz28:Tz Tryz.prog 28 1 24 (.slice none 0 0):=⟨by kernel_rfl⟩
@[reducible] def aG2:=Ty.mk Tryz.underlying29
attribute [instance] aG2
instance tz29:Tz Tryz.prog 29 1 24 (.slice none 0 0):=⟨by kernel_rfl⟩
@[reducible] def aG3:=Ty.mk Tryz.underlying30
attribute [instance] aG3
instance tz30:Tz Tryz.prog 30 1 24 (.slice none 0 0):=⟨by kernel_rfl⟩
@[reducible] def aG4:=Ty.mk Tryz.underlying31
attribute [instance] aG4
instance tz31:Tz Tryz.prog 31 1 24 (.slice none 0 0):=⟨by kernel_rfl⟩
@[reducible] def aG5:=Ty.mk Tryz.underlying33
attribute [instance] aG5
instance tz33:Tz Tryz.prog 33 14 240 (.agg #[.slice none 0 0,.slice none 0 0,.slice none 0 0,.bool false,.int .i64 0,.int .i64 0,.bool false,.int .i64 0,.int .i64 0,.slice none 0 0,.slice none 0 0,.slice none 0 0,.slice none 0 0,.slice none 0 0]):=⟨by kernel_rfl⟩
instance tf33:Tf Tryz.prog 33 [(0,1),(1,1),(2,1),(3,3),(6,3),(9,1),(10,1),(11,1),(12,1),(13,1)]:=⟨by kernel_rfl⟩
@[reducible] def aG6:=Ty.mk Tryz.underlying36
attribute [instance] aG6
instance tz36:Tz Tryz.prog 36 1 24 (.slice none 0 0):=⟨by kernel_rfl⟩
@[reducible] def aG7:=Ty.mk Tryz.underlying39
attribute [instance] aG7
instance tz39:Tz Tryz.prog 39 1 8 (.int .i64 0):=⟨by kernel_rfl⟩
@[reducible] def aG8:=Ty.mk Tryz.underlying42
attribute [instance] aG8
instance tz42:Tz Tryz.prog 42 1 24 (.slice none 0 0):=⟨by kernel_rfl⟩
@[reducible] def aG9:=Ty.mk Tryz.underlying44
attribute [instance] aG9
instance tz44:Tz Tryz.prog 44 2 48 (.agg #[.slice none 0 0,.slice none 0 0]):=⟨by kernel_rfl⟩
instance tf44:Tf Tryz.prog 44 [(0,1),(1,1)]:=⟨by kernel_rfl⟩
@[reducible] def aHa:=Ty.mk Tryz.underlying46
attribute [instance] aHa
instance tz46:Tz Tryz.prog 46 4 48 (.agg #[.int .i64 0,.int .i64 0,.int .i64 0,.slice none 0 0]):=⟨by kernel_rfl⟩
instance tf46:Tf Tryz.prog 46 [(0,1),(1,1),(2,1),(3,1)]:=⟨by kernel_rfl⟩
@[reducible] def aHb:=Ty.mk Tryz.underlying48
attribute [instance] aHb
instance tz48:Tz Tryz.prog 48 2 32 (.agg #[.int .i64 0,.slice none 0 0]):=⟨by kernel_rfl⟩
instance tf48:Tf Tryz.prog 48 [(0,1),(1,1)]:=⟨by kernel_rfl⟩
@[reducible] def aHc:=Ty.mk Tryz.underlying50
attribute [instance] aHc
instance tz50:Tz Tryz.prog 50 2 48 (.agg #[.slice none 0 0,.slice none 0 0]):=⟨by kernel_rfl⟩
instance tf50:Tf Tryz.prog 50 [(0,1),(1,1)]:=⟨by kernel_rfl⟩
@[reducible] def aHd:=Ty.mk Tryz.underlying64
attribute [instance] aHd
instance tz64:Tz Tryz.prog 64 3 40 (.agg #[.string .empty,.string .empty,.int .i64 0]):=⟨by kernel_rfl⟩
instance tf64:Tf Tryz.prog 64 [(0,1),(1,1),(2,1)]:=⟨by kernel_rfl⟩
@[reducible] def aHe:=Ty.mk Tryz.underlying66
attribute [instance] aHe
instance tz66:Tz Tryz.prog 66 2 24 (.agg #[.string .empty,.int .i64 0]):=⟨by kernel_rfl⟩
instance tf66:Tf Tryz.prog 66 [(0,1),(1,1)]:=⟨by kernel_rfl⟩
@[reducible] def aHf:=Ty.mk Tryz.underlying69
attribute [instance] aHf
instance tz69:Tz Tryz.prog 69 2 32 (.agg #[.int .i64 0,.slice none 0 0]):=⟨by kernel_rfl⟩
instance tf69:Tf Tryz.prog 69 [(0,1),(1,1)]:=⟨by kernel_rfl⟩
@[reducible] def aHg:=Ty.mk Tryz.underlying71
attribute [instance] aHg
instance tz71:Tz Tryz.prog 71 2 16 (.agg #[.int .i64 0,.int .i64 0]):=⟨by kernel_rfl⟩
instance tf71:Tf Tryz.prog 71 [(0,1),(1,1)]:=⟨by kernel_rfl⟩
@[reducible] def aHh:=Ty.mk Tryz.underlying73
attribute [instance] aHh
instance tz73:Tz Tryz.prog 73 3 24 (.agg #[.bool false,.int .i64 0,.int .i64 0]):=⟨by kernel_rfl⟩
instance tf73:Tf Tryz.prog 73 [(0,1),(1,2)]:=⟨by kernel_rfl⟩
@[reducible] def aHi:=Ty.mk Tryz.underlying74
attribute [instance] aHi
@[reducible] def aHj:=Ty.mk Tryz.underlying79
attribute [instance] aHj
instance tz79:Tz Tryz.prog 79 1 8 (.pointer none):=⟨by kernel_rfl⟩
@[reducible] def aHk:=Ty.mk Tryz.underlying81
attribute [instance] aHk
instance tz81:Tz Tryz.prog 81 1 8 (.pointer none):=⟨by kernel_rfl⟩
@[reducible] def aHl:=Ty.mk Tryz.underlying83
attribute [instance] aHl
instance tz83:Tz Tryz.prog 83 1 8 (.nilFunc):=⟨by kernel_rfl⟩
@[reducible] def aHm:=Ty.mk Tryz.underlying87
attribute [instance] aHm
@[reducible] def aEU:=Ty.mk Tryz.underlying114
attribute [instance] aEU
@[reducible] def aEV:=Ty.mk Tryz.underlying117
attribute [instance] aEV
instance tz117:Tz Tryz.prog 117 2 32 (.agg #[.slice none 0 0,.bool false]):=⟨by kernel_rfl⟩
instance tf117:Tf Tryz.prog 117 [(0,1),(1,1)]:=⟨by kernel_rfl⟩
@[reducible] def aEW:=Ty.mk Tryz.underlying126
attribute [instance] aEW
instance tz126:Tz Tryz.prog 126 1 24 (.slice none 0 0):=⟨by kernel_rfl⟩
@[reducible] def aEX:=Ty.mk Tryz.underlying128
attribute [instance] aEX
instance tz128:Tz Tryz.prog 128 18 320 (.agg #[.slice none 0 0,.slice none 0 0,.slice none 0 0,.bool false,.int .i64 0,.int .i64 0,.bool false,.int .i64 0,.int .i64 0,.slice none 0 0,.slice none 0 0,.slice none 0 0,.slice none 0 0,.slice none 0 0,.slice none 0 0,.slice none 0 0,.slice none 0 0,.bool false]):=⟨by kernel_rfl⟩
instance tf128:Tf Tryz.prog 128 [(0,14),(14,1),(15,1),(16,1),(17,1)]:=⟨by kernel_rfl⟩
@[reducible] def aEY:=Ty.mk Tryz.underlying130
attribute [instance] aEY
@[reducible] def aEZ:=Ty.mk Tryz.underlying134
attribute [instance] aEZ
@[reducible] def aE0:=Ty.mk Tryz.underlying137
attribute [instance] aE0
instance tz137:Tz Tryz.prog 137 4 32 (.agg #[.int .i64 0,.int .i64 0,.int .i64 0,.bool false]):=⟨by kernel_rfl⟩
instance tf137:Tf Tryz.prog 137 [(0,1),(1,1),(2,1),(3,1)]:=⟨by kernel_rfl⟩
@[reducible] def aE1:=Ty.mk Tryz.underlying140
attribute [instance] aE1
@[reducible] def aE2:=Ty.mk Tryz.underlying146
attribute [instance] aE2
@[reducible] def aE3:=Ty.mk Tryz.underlying148
attribute [instance] aE3
@[reducible] def aE4:=Ty.mk Tryz.underlying152
attribute [instance] aE4
@[reducible] def aE5:=Ty.mk Tryz.underlying155
attribute [instance] aE5
instance tz155:Tz Tryz.prog 155 1 24 (.slice none 0 0):=⟨by kernel_rfl⟩
@[reducible] def aE6:=Ty.mk Tryz.underlying157
attribute [instance] aE6
instance tz157:Tz Tryz.prog 157 17 280 (.agg #[.slice none 0 0,.slice none 0 0,.slice none 0 0,.bool false,.int .i64 0,.int .i64 0,.bool false,.int .i64 0,.int .i64 0,.slice none 0 0,.slice none 0 0,.slice none 0 0,.slice none 0 0,.slice none 0 0,.pointer none,.pointer none,.slice none 0 0]):=⟨by kernel_rfl⟩
instance tf157:Tf Tryz.prog 157 [(0,14),(14,1),(15,1),(16,1)]:=⟨by kernel_rfl⟩
instance tz160:Tz Tryz.prog 160 1 8 (.map none):=⟨by kernel_rfl⟩
@[reducible] def aE7:=Ty.mk Tryz.underlying162
attribute [instance] aE7
instance tz162:Tz Tryz.prog 162 3 24 (.agg #[.int .i64 0,.int .i64 0,.int .i64 0]):=⟨by kernel_rfl⟩
instance tf162:Tf Tryz.prog 162 [(0,1),(1,1),(2,1)]:=⟨by kernel_rfl⟩
@[reducible] def aE8:=Ty.mk Tryz.underlying163
attribute [instance] aE8
instance tz163:Tz Tryz.prog 163 1 24 (.slice none 0 0):=⟨by kernel_rfl⟩
@[reducible] def aE9:=Ty.mk Tryz.underlying165
attribute [instance] aE9
instance tz165:Tz Tryz.prog 165 2 48 (.agg #[.slice none 0 0,.slice none 0 0]):=⟨by kernel_rfl⟩
instance tf165:Tf Tryz.prog 165 [(0,1),(1,1)]:=⟨by kernel_rfl⟩
@[reducible] def aFa:=Ty.mk Tryz.underlying167
attribute [instance] aFa
@[reducible] def aFb:=Ty.mk Tryz.underlying169
attribute [instance] aFb
instance tz169:Tz Tryz.prog 169 3 56 (.agg #[.slice none 0 0,.int .i64 0,.slice none 0 0]):=⟨by kernel_rfl⟩
instance tf169:Tf Tryz.prog 169 [(0,1),(1,1),(2,1)]:=⟨by kernel_rfl⟩
@[reducible] def aFc:=Ty.mk Tryz.underlying182
attribute [instance] aFc
@[reducible] def aFd:=Ty.mk Tryz.underlying204
attribute [instance] aFd
@[reducible] def aFe:=Ty.mk Tryz.underlying277
attribute [instance] aFe
@[reducible] def aFf:=Ty.mk Tryz.underlying280
attribute [instance] aFf
@[reducible] def aFg:=Ty.mk Tryz.underlying284
attribute [instance] aFg
@[reducible] def aFh:=Ty.mk Tryz.underlying325
attribute [instance] aFh
@[reducible] def aFi:=Ty.mk Tryz.underlying328
attribute [instance] aFi
instance tz328:Tz Tryz.prog 328 3 3 (.agg #[.int .u8 0,.int .u8 0,.int .u8 0]):=⟨by kernel_rfl⟩
@[reducible] def aFj:=Ty.mk Tryz.underlying346
attribute [instance] aFj
instance tz346:Tz Tryz.prog 346 3 40 (.agg #[.slice none 0 0,.int .i64 0,.int .i64 0]):=⟨by kernel_rfl⟩
instance tf346:Tf Tryz.prog 346 [(0,1),(1,1),(2,1)]:=⟨by kernel_rfl⟩
theorem PY:Tryz.prog.follows .mixedOrders=true:=by kernel_rfl
end Go.Proofs.YtjpdadobblffmaaGreat
namespace Go.Proofs.YtjpdadobblffmaaGreat
open Go.RowKit Go.ChangeShapes Go.WideShapes Go.ChangeAt Go.Deep
structure Hold (Q:Prop):Prop where
 h:Q
theorem dP{P:Prop}(h:P:=by(first|assumption|(apply Nq.en;assumption)|omega|(simp only[Nq]at*;omega))):P:=h
theorem bF{P:Prop}(h:P:=by(repeat(first|exact gZ|(apply hJ;(first|assumption|(apply Nq.en;assumption)|omega|(simp only[Nq]at*;omega)))))):P:=h
theorem aF{P:Prop}(h:P:=by(repeat(first|exact ResL.nil|(apply ResL.tmp;rfl)|(apply ResL.cell;rfl;infer_instance;rfl;(repeat(first|exact gZ|(apply hJ;(first|assumption|(apply Nq.en;assumption)|omega|(simp only[Nq]at*;omega)))));rfl)|(apply ResL.cells;rfl;infer_instance;infer_instance;rfl;(repeat(first|exact gZ|(apply hJ;(first|assumption|(apply Nq.en;assumption)|omega|(simp only[Nq]at*;omega)))));exact Nat.le_of_ble_eq_true rfl)))):P:=h
theorem aA{P:Prop}(h:P:=by(first|exact aCO|exact(fun _ h=>h)|(apply StLe.mem;(repeat(first|exact StLe.nil|(apply StLe.cons;(repeat(first|exact List.mem_cons_self|apply List.mem_cons_of_mem));first|rfl|focus (congr 1;done)|focus (simp;done)|(simp;rfl))))))):P:=h
theorem aB{P:Prop}(h:P:=by(repeat(first|exact ArgsLe.nil|(apply ArgsLe.cons;rfl;first|exact VLe.refl _ |exact VLe.when rfl|exact VLe.any|exact VLe.empty|exact VLe.of_eq (by simp))))):P:=h
theorem aBX{P:Prop}(h:P:=by(
     first
      |exact Bor.refl _
      |exact Bor.le VLe.any
      |exact Bor.le VLe.empty
      |(apply UT;(repeat(
        first
         |exact List.mem_cons_self
         |apply List.mem_cons_of_mem));(repeat(
        first
         |exact gZ
         |(apply hJ;(
          first
           |assumption
           |(apply Nq.en;assumption)
           |omega
           |(simp only[Nq]at*;omega)))));(
       first
        |focus (simp;done)
        |omega
        |focus (simp;omega));(
       first
        |rfl
        |focus (simp;done)
        |focus (exact List.take_of_length_le (by
         first
          |(simp;done)
          |(simp;omega)))))
      |focus (apply aGR;(repeat(
        first
         |exact List.mem_cons_self
         |apply List.mem_cons_of_mem));(repeat(
        first
         |exact gZ
         |(apply hJ;(
          first
           |assumption
           |(apply Nq.en;assumption)
           |omega
           |(simp only[Nq]at*;omega)))));rfl;rfl;(repeat(
        first
         |exact BorL.nil
         |(apply BorL.cons;(
          first
           |exact Bor.refl _
           |exact Bor.le VLe.any
           |exact Bor.le VLe.empty
           |(apply UT;(repeat(
             first
              |exact List.mem_cons_self
              |apply List.mem_cons_of_mem));(repeat(
             first
              |exact gZ
              |(apply hJ;(
               first
                |assumption
                |(apply Nq.en;assumption)
                |omega
                |(simp only[Nq]at*;omega)))));(
            first
             |focus (simp;done)
             |omega);(
            first
             |rfl
             |focus (simp;done)
             |focus (exact List.take_of_length_le (by
              first
               |(simp;done)
               |(simp;omega)))))
           |focus (apply Bor.le;apply VLe.of_eq;simp;done)))));done)
      |focus (apply ZX;(repeat(
        first
         |exact BorL.nil
         |(apply BorL.cons;(
          first
           |exact Bor.refl _
           |exact Bor.le VLe.any
           |exact Bor.le VLe.empty
           |(apply UT;(repeat(
             first
              |exact List.mem_cons_self
              |apply List.mem_cons_of_mem));(repeat(
             first
              |exact gZ
              |(apply hJ;(
               first
                |assumption
                |(apply Nq.en;assumption)
                |omega
                |(simp only[Nq]at*;omega)))));(
            first
             |focus (simp;done)
             |omega);(
            first
             |rfl
             |focus (simp;done)
             |focus (exact List.take_of_length_le (by
              first
               |(simp;done)
               |(simp;omega)))))
           |focus (apply Bor.le;apply VLe.of_eq;simp;done)))));done)
      |focus (apply Bor.le;apply VLe.of_eq;simp;done))):P:=h
theorem aQ{P:Prop}(h:P:=by(repeat(first|exact ArgsIf.nil|(apply ArgsIf.cons;(first|exact W rfl id|exact W rfl (fun _=>rfl)|exact E rfl);exact aBX)))):P:=h
theorem kJ{P:Prop}(h:P:=by(repeat(first|exact ArgsBor.nil|(apply ArgsBor.cons;rfl;exact aBX)))):P:=h
theorem bM{P:Prop}(h:P:=by(repeat(first|exact ArgsIf.nil|refine ArgsIf.cons (by first|exact Ev.when rfl (by first|exact id|simp)|exact Ev.here rfl) (by first|exact Bor.refl _ |exact Bor.le VLe.any|exact Bor.le VLe.empty|exact Bor.own (by simp) (by repeat(first|exact gZ|refine hJ (by(first|assumption|(apply Nq.en;assumption)|omega|(simp only[Nq]at*;omega))) ?_)) (by simp)|exact Bor.le (VLe.of_eq (by simp))) ?_))):P:=h
theorem aW{P:Prop}(h:P:=by(repeat(first|exact NoF.int|exact NoF.bool|exact NoF.nilp|exact NoF.nil|exact NoF.own|exact NoF.ptr|exact NoF.str|exact UU|apply NoF.tup|apply NoF.agg|apply SC))):P:=h
theorem eU{P:Prop}(h:P:=by(repeat(first|exact HB.nil|apply HB.none|(apply HB.ok;focus (simp only[List.mem_cons,List.not_mem_nil,or_false,List.map_cons,List.map_nil,forall_eq_or_imp,forall_eq,true_or,or_true,true_and,and_true,not_false_eq_true,not_or];(repeat' (first|apply And.intro|(first|assumption|(apply Nq.en;assumption)|omega|(simp only[Nq]at*;omega))));done))|(apply HB.waits;kernel_rfl)))):P:=h
theorem atT{P:Prop}(h:P:=by(first|rfl|exact aG (by assumption)|assumption)):P:=h
theorem wO{P:Prop}(h:P:=by(repeat(first|exact Put.done|apply Put.put|apply Put.skip))):P:=h
theorem iC{P:Prop}(h:P:=by(repeat(first|(apply SPut.here;(repeat(first|exact Put.done|apply Put.put|apply Put.skip));(repeat(first|exact Fresh.nil|(apply Fresh.cons;(first|assumption|(apply Nq.en;assumption)|omega|(simp only[Nq]at*;omega))))))|(apply SPut.next;(first|assumption|(apply Nq.en;assumption)|omega|(simp only[Nq]at*;omega)))))):P:=h
theorem bW{P:Prop}(h:P:=by(repeat(first|(apply SSet.here;(repeat(first|exact Fresh.nil|(apply Fresh.cons;(first|assumption|(apply Nq.en;assumption)|omega|(simp only[Nq]at*;omega))))))|(apply SSet.next;(first|assumption|(apply Nq.en;assumption)|omega|(simp only[Nq]at*;omega)))))):P:=h
theorem bD{P:Prop}(h:P:=by(repeat(first|(apply SDel.here;(repeat(first|exact Fresh.nil|(apply Fresh.cons;(first|assumption|(apply Nq.en;assumption)|omega|(simp only[Nq]at*;omega))))))|(apply SDel.next;(first|assumption|(apply Nq.en;assumption)|omega|(simp only[Nq]at*;omega)))))):P:=h
theorem qD{P:Prop}(h:P:=by(repeat(first|exact Fresh.nil|(apply Fresh.cons;(first|assumption|(apply Nq.en;assumption)|omega|(simp only[Nq]at*;omega)))))):P:=h
theorem DK{P:Prop}(h:P:=by(repeat(first|exact AEvs.nil|(apply AEvs.cons;rfl)))):P:=h
theorem FJ{P:Prop}(h:P:=by(first|(simp only[Value.cells,AV.cells,List.map_cons,List.map_nil,cH,qL];rfl)|rfl)):P:=h
theorem bX{P:Prop}(h:P:=by(first|(simp(disch:=(first|(simp only[List.mem_cons,List.not_mem_nil,true_or,or_true,or_false];done)|(focus (simp only[List.mem_cons,List.not_mem_nil,or_false,not_or];(repeat' (first|apply And.intro|(first|assumption|(apply Nq.en;assumption)|omega|(simp only[Nq]at*;omega))));done))|omega)) only[↓aCL,↓aES,AV.cells,xF,kV,mJ,oC,mK,List.nil_append,List.cons_append,List.append_nil,List.map_nil,List.map_cons,List.take_succ_cons,List.take_zero,List.drop_succ_cons,List.drop_zero,SB,tZ,Nat.zero_add,Nat.add_zero,qL,cH];rfl)|rfl)):P:=h
theorem nK{P:Program}{n:Nat}{ops:Array Oper}{rest:List Oper}{K:ASt→Prop}{fr:Fr}{σ σ2 s1:cR}{d:Nat}{ty:TypeId}{pos: _}{af: _}{f:FuncId}{xs:List Operand}{ats:Array TypeId}{args:List AV}{v:AV}(σ1:cR)(hf:∀args w,(callFunc f args).run P w=.ok (.enter f args) w)(h:SCall P f args σ1 (fun y σ=>y=v∧σ=s1))(hK:RS P n ops rest ⟨(d,v)::fr,σ2⟩ K)(hd:Nat.ble (d+1) n=true:=by exact rfl)
  (hargs:ArgsLe ⟨fr,σ⟩ xs args:=by exact aB) (hsub:∀p∈σ1,p∈σ:=by exact aA) (he:s1++dE (σ1.map (·.1)) σ=σ2:=by exact bX):RS P n ops (⟨some d,.call { callee:=.value (.func f),args:=xs.toArray,argTypes:=ats },ty,pos,af,none⟩::rest) ⟨fr,σ⟩ K:=
 cw σ1 hf h hd hargs hsub fun _ _ hr _=>by obtain⟨rfl,rfl⟩:=hr;exact he▸hK
theorem aN{P:Prop}(h:P:=by(refine aCP ?_ ?_ <;>(repeat(first|exact FrLe.nil|(apply FrLe.cons;rfl;first|exact VLe.refl _ |exact VLe.any|exact VLe.empty|exact VLe.of_eq (by simp)|exact VLe.of_eq (by congr 1;omega))|exact StLe.nil|exact StLe.refl _ |(apply StLe.cons;(repeat(first|exact List.mem_cons_self|apply List.mem_cons_of_mem));first|rfl|focus (congr 1;done)|focus (simp;done)|(simp;rfl)))))):P:=h
theorem aBY{P:Prop}(h:P:=by(repeat(first|(apply KeepIs.take;rfl)|(apply KeepIs.skip;rfl)|exact KeepIs.nil))):P:=h
theorem fL{P:Prop}(h:P:=by(repeat(first|exact FDel.nil|apply FDel.hit|apply FDel.miss rfl))):P:=h
section
variable {P Q:Prop}
theorem aJ(k:Q)(h:Hold Q→P:=by intro k;(repeat(first|refine cs ?_ |refine cb ?_ |refine ck ?_ |refine cx ?_ |refine cr ?_ |refine an ?_ |refine ae ?_ |refine ar ?_ |refine bn ?_ |refine bh ?_ |refine be rfl ?_ |refine br ?_ |refine ct rfl ?_ |refine cf rfl ?_));exact k.h):P:=h ⟨k⟩
theorem sF(k:Q)(h:Hold Q→P:=by intro k;(repeat(first|refine cs ?_ |refine cb ?_ |refine ck ?_ |refine cx ?_ |refine cr ?_ |refine an ?_ |refine ae ?_ |refine ar ?_ |refine bn ?_ |refine bh ?_ |refine be rfl ?_ |refine br ?_ |refine ct rfl ?_ |refine cf rfl ?_ |refine cg ?_ |refine ag ?_ |refine bg ?_ |refine jg ?_ |refine jn ?_ |refine jr ?_ |refine je ?_));exact k.h):P:=h ⟨k⟩
theorem iD(k:Q)(h:Hold Q→P:=by intro k;(first|refine BE ?_ |refine DF ?_);exact k.h):P:=h ⟨k⟩
theorem iI(k:Q)(h:Hold Q→P:=by intro k;(apply le;exact aBY);exact k.h):P:=h ⟨k⟩
theorem FK(k:Q)(h:Hold Q→P:=by intro k;(apply de;exact aBY);exact k.h):P:=h ⟨k⟩
end
structure Tag (o:List (Nat×Bool)):Prop where
 h:True
theorem BK{o:List (Nat×Bool)}(_:Tag o){P:Program}{n:Nat}{ks:List Nat}{s:ASt}{Q:Exit→ASt→Prop}{id:Nat}{ops:Array Oper}(hm:P.follows .mixedOrders=true)(hsel:Region.noSelect ops=true)
  (hchk:(yW ops (Array.replicate ops.size false) o&&o.length==ops.size)=true) (h:RD P n ops (Array.replicate ops.size false) o [] s (sO ks (Q .normal))):SW P n ks (.region id ops true) s Q:=xG o hm hsel hchk h
theorem hU{P Q:Prop}(o:List (Nat×Bool))(k:Q)(h:Hold Q→Tag o→P:=by intro k t;(first|refine sw_seq_tag t PY (by kernel_rfl) (by kernel_rfl) ?_ |refine BK t PY (by kernel_rfl) (by kernel_rfl) ?_);exact k.h):P:=h ⟨k⟩ ⟨trivial⟩
theorem cT{S R T G:Nat→Prop}(k:∀r,R r→T r)(h:Hold (∀r,R r→T r)→∀r,S r→G r:=by intro k r h;refine k.h r ?_;(first|(simp only[aM,aT,and_true]at h;exact h)|exact trivial)):∀r,S r→G r:=h ⟨k⟩
theorem aCT{A B G:Prop}(h:B→A→G):A∧B→G:=fun⟨a,b⟩=>h b a
theorem jM{S C G:Nat→Prop}(k:∀r,C r)(h:Hold (∀r,C r)→∀r,S r→G r:=by intro k r h;first|(simp only[aM,aT,and_true]at h;revert h;(repeat refine aCT ?_);exact k.h r)|exact k.h r True.intro):∀r,S r→G r:=h ⟨k⟩
theorem aIo{S R T G:Nat→Prop}(k:∀r,R r→T r)(h:Hold (∀r,R r→T r)→∀r,S r→G r:=by intro k r h;simp(disch:=(first|(simp only[List.mem_cons,List.not_mem_nil,true_or,or_true,or_false];done)|(focus (simp only[List.mem_cons,List.not_mem_nil,or_false,not_or];(repeat' (first|apply And.intro|(first|assumption|(apply Nq.en;assumption)|omega|(simp only[Nq]at*;omega))));done))|omega)) only[aM,aT,and_true,kV,mJ,oC,mK]at h;have h2:=h;(repeat(rcases h2 with⟨_,h2⟩));apply Exists.intro;apply And.intro;exact bW;exact k.h r h):∀r,S r→G r:=h ⟨k⟩
theorem dG{S C G:Nat→Prop}(k:∀r,C r)(h:Hold (∀r,C r)→∀r,S r→G r:=by intro k r h;simp(disch:=(first|(simp only[List.mem_cons,List.not_mem_nil,true_or,or_true,or_false];done)|(focus (simp only[List.mem_cons,List.not_mem_nil,or_false,not_or];(repeat' (first|apply And.intro|(first|assumption|(apply Nq.en;assumption)|omega|(simp only[Nq]at*;omega))));done))|omega)) only[aM,aT,and_true,kV,mJ,oC,mK]at h;have h2:=h;(repeat(rcases h2 with⟨_,h2⟩));apply Exists.intro;apply And.intro;exact bW;revert h;(repeat refine aCT ?_);exact k.h r):∀r,S r→G r:=h ⟨k⟩
theorem fU{H R:Prop}(a:H)(h:H→R:=by intro h;replace h:=(h _ List.mem_cons_self).resolve_left (by simp only[List.mem_cons,List.not_mem_nil,or_false,exists_eq_or_imp,exists_eq_left,not_or,false_and,exists_false,not_false_eq_true];(repeat' (first|apply And.intro|exact dP));done);simp only[aM,aT,and_true]at h;exact h):R:=h a
theorem jE{H R:Prop}(a:H)(h:H→R:=by intro h;simp only[List.mem_cons,List.mem_singleton,List.not_mem_nil,or_false,forall_eq_or_imp,forall_eq,aM,aT,and_true,and_assoc]at h;exact h):R:=h a
theorem aO{H R:Prop}(a:H)(h:H→R:=by intro h;have h:=tA (h _ List.mem_cons_self);simp(disch:=(first|(simp only[List.mem_cons,List.not_mem_nil,true_or,or_true,or_false];done)|(focus (simp only[List.mem_cons,List.not_mem_nil,or_false,not_or];(repeat' (first|apply And.intro|(first|assumption|(apply Nq.en;assumption)|omega|(simp only[Nq]at*;omega))));done))|omega)) only[List.map_cons,List.map_nil,kV,mJ,oC,mK,aM,aT,and_true]at h;exact h):R:=h a
theorem NU{H R:Prop}(a:H)(h:H→R:=by intro h;have h:=tA (h _ (List.mem_cons_of_mem _ (List.mem_cons_of_mem _ List.mem_cons_self)));simp(disch:=(first|(simp only[List.mem_cons,List.not_mem_nil,true_or,or_true,or_false];done)|(focus (simp only[List.mem_cons,List.not_mem_nil,or_false,not_or];(repeat' (first|apply And.intro|(first|assumption|(apply Nq.en;assumption)|omega|(simp only[Nq]at*;omega))));done))|omega)) only[List.map_cons,List.map_nil,kV,mJ,oC,mK,aM,aT,and_true]at h;exact h):R:=h a
section
variable {P Q:Prop}
theorem z0(k:Q)(h:Hold Q→P:=by intro k;(first|refine lo (iN (E rfl) (zA (by omega) (by omega))) rfl ?_ |refine lo (qM (E rfl)) rfl ?_);exact k.h):P:=h ⟨k⟩
theorem z1(k:Q)(h:Hold Q→P:=by intro k;(apply bs;exact DK;rfl;rfl;rfl;rfl;exact FJ;rfl);exact k.h):P:=h ⟨k⟩
theorem z2(k:Q)(h:Hold Q→P:=by intro k;(refine lo (EX (E rfl) (E rfl) (fun _=>by first|decide|omega)) rfl ?_);exact k.h):P:=h ⟨k⟩
theorem z3(k:Q)(h:Hold Q→P:=by intro k;(refine lo (NQ (E rfl) (E rfl)) rfl ?_);exact k.h):P:=h ⟨k⟩
theorem z4(k:Q)(h:Hold Q→P:=by intro k;(first|refine ln rfl rfl rfl rfl ?_ |refine lg rfl rfl (aD (E rfl)) rfl ?_);exact k.h):P:=h ⟨k⟩
theorem z5(k:Q)(h:Hold Q→P:=by intro k;(refine lg rfl rfl (kF (W rfl id) (E rfl)) rfl ?_);exact k.h):P:=h ⟨k⟩
theorem z6(k:Q)(h:Hold Q→P:=by intro k;(first|refine ln rfl rfl rfl rfl ?_ |refine lg rfl rfl (bY (W rfl id) (E rfl)) rfl ?_);exact k.h):P:=h ⟨k⟩
theorem z7(k:Q)(h:Hold Q→P:=by intro k;(first|refine lo (eX (E rfl) (W rfl (by simp))) rfl ?_ |refine lo (eD (E rfl) (E rfl)) rfl ?_ |refine lo (eO (E rfl) (W rfl (by simp)) (E rfl)) rfl ?_);exact k.h):P:=h ⟨k⟩
theorem z8(k:Q)(h:Hold Q→P:=by intro k;(first|refine ln rfl rfl rfl rfl ?_ |refine lg rfl rfl (aD (W rfl id)) rfl ?_);exact k.h):P:=h ⟨k⟩
theorem z9(k:Q)(h:Hold Q→P:=by intro k;(refine lw rfl rfl (aD (E rfl)) rfl ?_);exact k.h):P:=h ⟨k⟩
theorem z10(k:Q)(h:Hold Q→P:=by intro k;(refine lw rfl rfl (kF (W rfl (by first|exact id|simp)) (E rfl)) rfl ?_);exact k.h):P:=h ⟨k⟩
theorem z11(k:Q)(h:Hold Q→P:=by intro k;(refine lw rfl rfl (eA (W rfl (by first|exact id|simp)) (E rfl)) rfl ?_);exact k.h):P:=h ⟨k⟩
theorem z12(k:Q)(h:Hold Q→P:=by intro k;(refine lg rfl rfl (eO (W rfl id) (W rfl (by simp)) (E rfl)) rfl ?_);exact k.h):P:=h ⟨k⟩
theorem JL(k:Q)(h:Hold Q→P:=by intro k;(first|refine lo (eD (E rfl) (W rfl (by simp))) rfl ?_ |refine lo (eO (E rfl) (E rfl) (W rfl (by simp))) rfl ?_);exact k.h):P:=h ⟨k⟩
theorem oG(k:Q)(h:Hold Q→P:=by intro k;(first|refine lo (fR (E rfl)) rfl ?_ |refine lo (iK (E rfl)) rfl ?_ |refine lo (fS (E rfl)) rfl ?_);exact k.h):P:=h ⟨k⟩
theorem ZK(k:Q)(h:Hold Q→P:=by intro k;(first|refine lo (aY (E rfl) (E rfl) (fun hc=>by(simp only[List.length_map];omega))) rfl ?_ |refine lo (aR (E rfl) bF (E rfl) (fun hc=>by omega)) rfl ?_);exact k.h):P:=h ⟨k⟩
theorem KC(k:Q)(h:Hold Q→P:=by intro k;(first|refine lo (aP (E rfl) rfl (fun hc=>by first|rfl|exact aG (by assumption)|assumption|exact aG (aX (by omega))) (fun _=>rfl)) rfl ?_ |refine lo (bG (E rfl) rfl bF (fun hc=>by first|rfl|exact aG (by assumption)|assumption|exact aG (aX (by omega))) (fun _=>rfl)) rfl ?_);exact k.h):P:=h ⟨k⟩
theorem DL(k:Q)(h:Hold Q→P:=by intro k;(first|refine lo (mM (E rfl) (E rfl) (by omega) (by omega)) rfl ?_ |refine lo (kE (E rfl) (E rfl)) rfl ?_);exact k.h):P:=h ⟨k⟩
theorem z18(k:Q)(h:Hold Q→P:=by intro k;(refine lg rfl rfl (fQ (W rfl id) (E rfl)) rfl ?_);exact k.h):P:=h ⟨k⟩
theorem zD(k:Q)(h:Hold Q→P:=by intro k;(first|refine lo (jV (E rfl) (E rfl) (by omega) (by omega)) rfl ?_ |refine lo (oZ (E rfl) (E rfl)) rfl ?_);exact k.h):P:=h ⟨k⟩
theorem z20(k:Q)(h:Hold Q→P:=by intro k;(refine lo (ZO (E rfl) (E rfl) (fun _=>by first|decide|omega)) rfl ?_);exact k.h):P:=h ⟨k⟩
theorem z21(k:Q)(h:Hold Q→P:=by intro k;(refine lg rfl rfl (fJ (W rfl id) (W rfl id)) rfl ?_);exact k.h):P:=h ⟨k⟩
theorem z23(k:Q)(h:Hold Q→P:=by intro k;(refine lo (ZP (E rfl) (E rfl) (fun _=>by first|decide|omega)) rfl ?_);exact k.h):P:=h ⟨k⟩
theorem SE(k:Q)(h:Hold Q→P:=by intro k;(first|refine lo (iN (E rfl) (qW (by omega) (by omega))) rfl ?_ |refine lo (qM (E rfl)) rfl ?_);exact k.h):P:=h ⟨k⟩
theorem z25(k:Q)(h:Hold Q→P:=by intro k;(first|refine fO rfl (eR (E rfl) OB.none (OB.some (E rfl) (fun _=>by first|rfl|exact(Int.toNat_of_nonneg (by omega)).symm)) (fun _=>by first|(simp only[List.length_map];omega)|omega)) rfl ?_ |refine fO rfl (eC (E rfl) bF OB.none (OB.some (E rfl) (fun _=>by first|rfl|exact(Int.toNat_of_nonneg (by omega)).symm)) (fun _=>by first|(simp only[List.length_map];omega)|omega)) rfl ?_);exact k.h):P:=h ⟨k⟩
theorem z26(k:Q)(h:Hold Q→P:=by intro k;(refine fI rfl rfl rfl (aD (E rfl)) rfl ?_);exact k.h):P:=h ⟨k⟩
theorem z27(k:Q)(h:Hold Q→P:=by intro k;(refine fI rfl rfl rfl (fJ (W rfl id) (E rfl)) rfl ?_);exact k.h):P:=h ⟨k⟩
theorem z28(k:Q)(h:Hold Q→P:=by intro k;(refine fI rfl rfl rfl (aD (W rfl id)) rfl ?_);exact k.h):P:=h ⟨k⟩
theorem z29(k:Q)(h:Hold Q→P:=by intro k;(refine gJ rfl rfl rfl (aD (E rfl)) rfl ?_);exact k.h):P:=h ⟨k⟩
theorem z30(k:Q)(h:Hold Q→P:=by intro k;(refine gJ rfl rfl rfl (EX (W rfl (by first|exact id|simp)) (W rfl (by first|exact id|simp)) (fun _=>by first|decide|omega)) rfl ?_);exact k.h):P:=h ⟨k⟩
theorem z31(k:Q)(h:Hold Q→P:=by intro k;(refine gJ rfl rfl rfl (eA (W rfl (by first|exact id|simp)) (E rfl)) rfl ?_);exact k.h):P:=h ⟨k⟩
theorem z32(k:Q)(h:Hold Q→P:=by intro k;(first|refine fI rfl rfl rfl (eX (W rfl id) (W rfl (by simp))) rfl ?_ |refine fI rfl rfl rfl (eO (W rfl id) (W rfl (by simp)) (E rfl)) rfl ?_);exact k.h):P:=h ⟨k⟩
theorem z33(k:Q)(h:Hold Q→P:=by intro k;(refine fO rfl (eO (E rfl) (E rfl) (W rfl (by simp))) rfl ?_);exact k.h):P:=h ⟨k⟩
theorem z34(k:Q)(h:Hold Q→P:=by intro k;(first|refine ln rfl rfl rfl rfl ?_ |refine lg rfl rfl (eW (W rfl id) (E rfl)) rfl ?_);exact k.h):P:=h ⟨k⟩
theorem z44(k:Q)(h:Hold Q→P:=by intro k;(first|refine lo (iN (E rfl) (fT (by omega) (by omega))) rfl ?_ |refine lo (qM (E rfl)) rfl ?_);exact k.h):P:=h ⟨k⟩
theorem z45(k:Q)(h:Hold Q→P:=by intro k;(refine fI rfl rfl rfl (eA (W rfl id) (E rfl)) rfl ?_);exact k.h):P:=h ⟨k⟩
theorem z46(k:Q)(h:Hold Q→P:=by intro k;(refine fO rfl (fJ (E rfl) (E rfl)) rfl ?_);exact k.h):P:=h ⟨k⟩
theorem z54(k:Q)(h:Hold Q→P:=by intro k;(first|refine ln rfl rfl rfl rfl ?_ |refine lg rfl rfl (pA (W rfl id) (W rfl id)) rfl ?_);exact k.h):P:=h ⟨k⟩
theorem z55(k:Q)(h:Hold Q→P:=by intro k;(refine lg rfl rfl (pA (W rfl id) (E rfl)) rfl ?_);exact k.h):P:=h ⟨k⟩
theorem NV(k:Q)(h:Hold Q→P:=by intro k;(first|refine fO rfl (aY (E rfl) (E rfl) (fun hc=>by(simp only[List.length_map];omega))) rfl ?_ |refine fO rfl (aR (E rfl) bF (E rfl) (fun hc=>by omega)) rfl ?_);exact k.h):P:=h ⟨k⟩
theorem UW(k:Q)(h:Hold Q→P:=by intro k;(first|refine fO rfl (aP (E rfl) rfl (fun hc=>by first|rfl|exact aG (by assumption)|assumption|exact aG (aX (by omega))) (fun _=>rfl)) rfl ?_ |refine fO rfl (bG (E rfl) rfl bF (fun hc=>by first|rfl|exact aG (by assumption)|assumption|exact aG (aX (by omega))) (fun _=>rfl)) rfl ?_);exact k.h):P:=h ⟨k⟩
theorem z58(k:Q)(h:Hold Q→P:=by intro k;(refine fO rfl (eA (E rfl) (E rfl)) rfl ?_);exact k.h):P:=h ⟨k⟩
theorem sG(k:Q)(h:Hold Q→P:=by intro k;(first|refine lo (cJ (E rfl) rfl (by decide)) rfl ?_ |refine lo (fC (E rfl) rfl (by decide)) rfl ?_);exact k.h):P:=h ⟨k⟩
theorem qE(k:Q)(h:Hold Q→P:=by intro k;(first|refine lo (aU (E rfl) rfl bF (fun _=>rfl)) rfl ?_ |refine lo (aU (E rfl) rfl bF (fun _=>by assumption)) rfl ?_ |refine lo (aP (E rfl) rfl (fun hc=>by first|rfl|assumption) (fun _=>rfl)) rfl ?_);exact k.h):P:=h ⟨k⟩
theorem z61(k:Q)(h:Hold Q→P:=by intro k;(refine lg rfl rfl (cJ (E rfl) rfl (by decide)) rfl ?_);exact k.h):P:=h ⟨k⟩
theorem UX(k:Q)(h:Hold Q→P:=by intro k;(first|refine ln rfl rfl rfl rfl ?_ |refine lg rfl rfl (aU (W rfl id) rfl bF (fun _=>rfl)) rfl ?_ |refine lg rfl rfl (aU (W rfl id) rfl bF (fun _=>by assumption)) rfl ?_ |refine lg rfl rfl (aP (W rfl id) rfl (fun hc=>by first|rfl|assumption) (fun _=>rfl)) rfl ?_);exact k.h):P:=h ⟨k⟩
theorem z63(k:Q)(h:Hold Q→P:=by intro k;(first|refine ln rfl rfl rfl rfl ?_ |refine lg rfl rfl (fR (W rfl id)) rfl ?_ |refine lg rfl rfl (fS (W rfl id)) rfl ?_);exact k.h):P:=h ⟨k⟩
theorem z64(k:Q)(h:Hold Q→P:=by intro k;(refine lg rfl rfl (eA (W rfl id) (E rfl)) rfl ?_);exact k.h):P:=h ⟨k⟩
theorem z65(k:Q)(h:Hold Q→P:=by intro k;(refine lw rfl rfl (cJ (E rfl) rfl (by decide)) rfl ?_);exact k.h):P:=h ⟨k⟩
theorem z66(k:Q)(h:Hold Q→P:=by intro k;(first|refine lw rfl rfl (aU (W rfl (by first|exact id|simp)) rfl bF (fun _=>rfl)) rfl ?_ |refine lw rfl rfl (aU (W rfl (by first|exact id|simp)) rfl bF (fun _=>by assumption)) rfl ?_);exact k.h):P:=h ⟨k⟩
theorem z67(k:Q)(h:Hold Q→P:=by intro k;(first|refine ln rfl rfl rfl rfl ?_ |refine lg rfl rfl (fA (by exact W rfl id)) rfl ?_);exact k.h):P:=h ⟨k⟩
theorem mT(k:Q)(h:Hold Q→P:=by intro k;(first|refine lo (eX (E rfl) (by first|exact W rfl (by simp)|exact E rfl)) rfl ?_ |refine lo (eD (E rfl) (E rfl)) rfl ?_ |refine lo (eO (E rfl) (by first|exact W rfl (by simp)|exact E rfl) (E rfl)) rfl ?_);exact k.h):P:=h ⟨k⟩
theorem z69(k:Q)(h:Hold Q→P:=by intro k;(refine lg rfl rfl (fJ (W rfl id) (E rfl)) rfl ?_);exact k.h):P:=h ⟨k⟩
theorem z70(k:Q)(h:Hold Q→P:=by intro k;(refine lg rfl rfl (bY (W rfl id) (W rfl id)) rfl ?_);exact k.h):P:=h ⟨k⟩
theorem z71(k:Q)(h:Hold Q→P:=by intro k;(first|refine lg rfl rfl (aY (W rfl id) (W rfl id) (fun hc=>by(try simp at hc)<;>(simp only[List.length_map];omega))) rfl ?_ |refine lg rfl rfl (aR (W rfl id) bF (W rfl id) (fun hc=>by(try simp at hc)<;>omega)) rfl ?_);exact k.h):P:=h ⟨k⟩
theorem z72(k:Q)(h:Hold Q→P:=by intro k;(first|refine lg rfl rfl (aP (W rfl id) rfl (fun hc=>by first|rfl|exact aG (by assumption)|assumption|exact aG (aX (by(try simp at hc)<;>omega))) (fun _=>rfl)) rfl ?_ |refine lg rfl rfl (bG (W rfl id) rfl bF (fun hc=>by first|rfl|exact aG (by assumption)|assumption|exact aG (aX (by(try simp at hc)<;>omega))) (fun _=>rfl)) rfl ?_);exact k.h):P:=h ⟨k⟩
theorem KD(k:Q)(h:Hold Q→P:=by intro k;(refine fO rfl (cJ (E rfl) rfl (by decide)) rfl ?_);exact k.h):P:=h ⟨k⟩
theorem z74(k:Q)(h:Hold Q→P:=by intro k;(first|refine fO rfl (aU (E rfl) rfl bF (fun _=>rfl)) rfl ?_ |refine fO rfl (aU (E rfl) rfl bF (fun _=>by assumption)) rfl ?_);exact k.h):P:=h ⟨k⟩
theorem z75(k:Q)(h:Hold Q→P:=by intro k;(refine fO rfl (iN (E rfl) (qW (by omega) (by omega))) rfl ?_);exact k.h):P:=h ⟨k⟩
theorem z76(k:Q)(h:Hold Q→P:=by intro k;(first|refine lo (cB (E rfl) (.inl ⟨_,_,rfl⟩)) rfl ?_ |refine lo (cB (E rfl) (.inr (.inl ⟨_,_,_,rfl⟩))) rfl ?_ |refine lo (cB (E rfl) (.inr (.inr ⟨_,_,_,_,rfl⟩))) rfl ?_);exact k.h):P:=h ⟨k⟩
theorem z77(k:Q)(h:Hold Q→P:=by intro k;(first|refine fO rfl (cB (E rfl) (.inl ⟨_,_,rfl⟩)) rfl ?_ |refine fO rfl (cB (E rfl) (.inr (.inl ⟨_,_,_,rfl⟩))) rfl ?_ |refine fO rfl (cB (E rfl) (.inr (.inr ⟨_,_,_,_,rfl⟩))) rfl ?_);exact k.h):P:=h ⟨k⟩
theorem JM(k:Q)(h:Hold Q→P:=by intro k;(first|refine fO rfl (fR (E rfl)) rfl ?_ |refine fO rfl (fS (E rfl)) rfl ?_);exact k.h):P:=h ⟨k⟩
theorem z79(k:Q)(h:Hold Q→P:=by intro k;(refine fO rfl (bY (E rfl) (E rfl)) rfl ?_);exact k.h):P:=h ⟨k⟩
theorem z80(k:Q)(h:Hold Q→P:=by intro k;(refine lg rfl rfl (iN (W rfl id) (fT (by omega) (by omega))) rfl ?_);exact k.h):P:=h ⟨k⟩
theorem z81(k:Q)(h:Hold Q→P:=by intro k;(refine lg rfl rfl (fQ (W rfl id) (W rfl id)) rfl ?_);exact k.h):P:=h ⟨k⟩
theorem ZL(k:Q)(h:Hold Q→P:=by intro k;(first|refine fO rfl (jV (E rfl) (E rfl) (by omega) (by omega)) rfl ?_ |refine fO rfl (oZ (E rfl) (E rfl)) rfl ?_);exact k.h):P:=h ⟨k⟩
theorem z83(k:Q)(h:Hold Q→P:=by intro k;(refine fO rfl (iN (E rfl) (fT (by omega) (by omega))) rfl ?_);exact k.h):P:=h ⟨k⟩
theorem z84(k:Q)(h:Hold Q→P:=by intro k;(first|refine fO rfl (eR (E rfl) (OB.some (E rfl) (fun _=>by first|rfl|exact(Int.toNat_of_nonneg (by omega)).symm)) OB.none (fun _=>by first|(simp only[List.length_map];omega)|omega)) rfl ?_ |refine fO rfl (eC (E rfl) bF (OB.some (E rfl) (fun _=>by first|rfl|exact(Int.toNat_of_nonneg (by omega)).symm)) OB.none (fun _=>by first|(simp only[List.length_map];omega)|omega)) rfl ?_);exact k.h):P:=h ⟨k⟩
theorem z85(k:Q)(h:Hold Q→P:=by intro k;(refine fO rfl (bC (E rfl) rfl) rfl ?_);exact k.h):P:=h ⟨k⟩
theorem z91(k:Q)(h:Hold Q→P:=by intro k;(first|refine ln rfl rfl rfl rfl ?_ |refine lg rfl rfl (cB (W rfl id) (.inl ⟨_,_,rfl⟩)) rfl ?_ |refine lg rfl rfl (cB (W rfl id) (.inr (.inl ⟨_,_,_,rfl⟩))) rfl ?_ |refine lg rfl rfl (cB (W rfl id) (.inr (.inr ⟨_,_,_,_,rfl⟩))) rfl ?_);exact k.h):P:=h ⟨k⟩
theorem z92(k:Q)(h:Hold Q→P:=by intro k;(first|refine ln rfl rfl rfl rfl ?_ |refine lg rfl rfl (cJ (W rfl id) rfl (by decide)) rfl ?_ |refine lg rfl rfl (fC (W rfl id) rfl (by decide)) rfl ?_);exact k.h):P:=h ⟨k⟩
theorem iA(k:Q)(h:Hold Q→P:=by intro k;(refine lo (FH (by repeat(first|exact PEvs.nil|(apply PEvs.cons;exact E rfl))) (by(exact FJ)) (by repeat(first|exact Fill.nil|(apply Fill.cons;rfl;rfl;rfl;(exact wO))))) rfl ?_);exact k.h):P:=h ⟨k⟩
theorem z94(k:Q)(h:Hold Q→P:=by intro k;(refine fO rfl (FH (by repeat(first|exact PEvs.nil|(apply PEvs.cons;exact E rfl))) (by(exact FJ)) (by repeat(first|exact Fill.nil|(apply Fill.cons;rfl;rfl;rfl;(exact wO))))) rfl ?_);exact k.h):P:=h ⟨k⟩
theorem NL(k:Q)(h:Hold Q→P:=by intro k;(apply aGT;rfl;infer_instance;rfl;rfl;rfl;rfl;exact iC;(exact eU));exact k.h):P:=h ⟨k⟩
theorem JN(k:Q)(h:Hold Q→P:=by intro k;(refine fO rfl (fG (E rfl) rfl bF (fun _=>Nat.le_of_ble_eq_true rfl)) rfl ?_);exact k.h):P:=h ⟨k⟩
theorem z97(k:Q)(h:Hold Q→P:=by intro k;(apply dbs;rfl;infer_instance;infer_instance;exact DK;rfl;rfl;rfl;rfl;exact FJ;rfl);exact k.h):P:=h ⟨k⟩
theorem jN(k:Q)(h:Hold Q→P:=by intro k;(refine lo (fG (E rfl) rfl bF (fun _=>Nat.le_of_ble_eq_true rfl)) rfl ?_);exact k.h):P:=h ⟨k⟩
theorem aFm(k:Q)(h:Hold Q→P:=by intro k;(first|refine lo (eR (E rfl) OB.none (OB.some (E rfl) (fun _=>by first|rfl|exact(Int.toNat_of_nonneg (by omega)).symm)) (fun _=>by first|(simp only[List.length_map];omega)|omega)) rfl ?_ |refine lo (eC (E rfl) bF OB.none (OB.some (E rfl) (fun _=>by first|rfl|exact(Int.toNat_of_nonneg (by omega)).symm)) (fun _=>by first|(simp only[List.length_map];omega)|omega)) rfl ?_);exact k.h):P:=h ⟨k⟩
theorem eJ(k:Q)(h:Hold Q→P:=by intro k;(first|refine ln rfl rfl rfl rfl ?_ |(refine gy rfl rfl ?_;refine lo (aD (E rfl)) rfl ?_)|refine lg rfl rfl (aD (E rfl)) rfl ?_);exact k.h):P:=h ⟨k⟩
theorem aCX(k:Q)(h:Hold Q→P:=by intro k;(first|refine ln rfl rfl rfl rfl ?_ |(refine gy rfl rfl ?_;refine lo (fJ (by first|exact W rfl id|exact E rfl) (by first|exact W rfl id|exact E rfl)) rfl ?_)|refine lg rfl rfl (fJ (by first|exact W rfl id|exact E rfl) (by first|exact W rfl id|exact E rfl)) rfl ?_);exact k.h):P:=h ⟨k⟩
theorem xH(k:Q)(h:Hold Q→P:=by intro k;(first|refine lo (pR (E rfl) rfl (fun hc=>by first|rfl|exact aG (by assumption)|assumption|exact aG (aX (by omega))) (fun _=>Nat.le_of_ble_eq_true rfl)) rfl ?_ |refine lo (pS (E rfl) rfl bF (fun hc=>by first|rfl|exact aG (by assumption)|assumption|exact aG (aX (by omega))) (fun _=>Nat.le_of_ble_eq_true rfl)) rfl ?_);exact k.h):P:=h ⟨k⟩
theorem lJ(k:Q)(h:Hold Q→P:=by intro k;(first|(refine gy rfl rfl ?_;refine lo (bY (by first|exact W rfl id|exact E rfl) (E rfl)) rfl ?_)|refine lg rfl rfl (bY (by first|exact W rfl id|exact E rfl) (E rfl)) rfl ?_);exact k.h):P:=h ⟨k⟩
theorem gK(k:Q)(h:Hold Q→P:=by intro k;(first|refine lo (eX (E rfl) (E rfl)) rfl ?_ |refine lo (eD (E rfl) (by first|exact W rfl (by simp)|exact E rfl)) rfl ?_ |refine lo (eO (E rfl) (E rfl) (by first|exact W rfl (by simp)|exact E rfl)) rfl ?_);exact k.h):P:=h ⟨k⟩
theorem UY(k:Q)(h:Hold Q→P:=by intro k;(first|refine ln rfl rfl rfl rfl ?_ |(refine gy rfl rfl ?_;(refine lo (cJ (E rfl) rfl (by decide)) rfl ?_))|refine lg rfl rfl (cJ (E rfl) rfl (by decide)) rfl ?_);exact k.h):P:=h ⟨k⟩
theorem aAb(k:Q)(h:Hold Q→P:=by intro k;(first|refine ln rfl rfl rfl rfl ?_ |(refine gy rfl rfl ?_;(first|refine lo (aU (by first|exact W rfl id|exact E rfl) rfl bF (fun _=>rfl)) rfl ?_ |refine lo (aU (by first|exact W rfl id|exact E rfl) rfl bF (fun _=>by assumption)) rfl ?_))|refine lg rfl rfl (aU (by first|exact W rfl id|exact E rfl) rfl bF (fun _=>rfl)) rfl ?_ |refine lg rfl rfl (aU (by first|exact W rfl id|exact E rfl) rfl bF (fun _=>by assumption)) rfl ?_);exact k.h):P:=h ⟨k⟩
theorem aAc(k:Q)(h:Hold Q→P:=by intro k;(first|refine ln rfl rfl rfl rfl ?_ |(refine gy rfl rfl ?_;refine lo (eA (by first|exact W rfl id|exact E rfl) (E rfl)) rfl ?_)|refine lg rfl rfl (eA (by first|exact W rfl id|exact E rfl) (E rfl)) rfl ?_);exact k.h):P:=h ⟨k⟩
theorem BL(k:Q)(h:Hold Q→P:=by intro k;(first|refine lo (fC (E rfl) rfl (by decide)) rfl ?_ |refine lo (kI (E rfl) rfl (by decide)) rfl ?_);exact k.h):P:=h ⟨k⟩
theorem SF(k:Q)(h:Hold Q→P:=by intro k;(apply sto;rfl;rfl;rfl;rfl;exact bW;exact atT;exact wO;rfl);exact k.h):P:=h ⟨k⟩
theorem aCY(k:Q)(h:Hold Q→P:=by intro k;(first|refine ln rfl rfl rfl rfl ?_ |refine lg rfl rfl (jV (by first|exact W rfl id|exact E rfl) (E rfl) (by omega) (by omega)) rfl ?_);exact k.h):P:=h ⟨k⟩
theorem aAd(k:Q)(h:Hold Q→P:=by intro k;(first|refine ln rfl rfl rfl rfl ?_ |refine lg rfl rfl (aY (by exact W rfl id) (by exact W rfl id) (fun hc=>by(try simp at hc)<;>(simp only[List.length_map];omega))) rfl ?_ |refine lg rfl rfl (aR (by exact W rfl id) bF (by exact W rfl id) (fun hc=>by(try simp at hc)<;>omega)) rfl ?_);exact k.h):P:=h ⟨k⟩
theorem aAe(k:Q)(h:Hold Q→P:=by intro k;(first|refine ln rfl rfl rfl rfl ?_ |refine lg rfl rfl (aP (by exact W rfl id) rfl (fun hc=>by first|rfl|exact aG (by assumption)|assumption) (fun _=>rfl)) rfl ?_ |refine lg rfl rfl (bG (by exact W rfl id) rfl bF (fun hc=>by first|rfl|exact aG (by assumption)|assumption) (fun _=>rfl)) rfl ?_);exact k.h):P:=h ⟨k⟩
theorem aHt(k:Q)(h:Hold Q→P:=by intro k;(first|refine lg rfl rfl (fC (by exact W rfl id) rfl (by decide)) rfl ?_ |refine lg rfl rfl (kI (by exact W rfl id) rfl (by decide)) rfl ?_);exact k.h):P:=h ⟨k⟩
theorem UZ(k:Q)(h:Hold Q→P:=by intro k;(first|refine ln rfl rfl rfl rfl ?_ |(refine gy rfl rfl ?_;refine lo (eW (by first|exact W rfl id|exact E rfl) (E rfl)) rfl ?_)|refine lg rfl rfl (eW (by first|exact W rfl id|exact E rfl) (E rfl)) rfl ?_);exact k.h):P:=h ⟨k⟩
theorem vO(k:Q)(h:Hold Q→P:=by intro k;(first|refine ln rfl rfl rfl rfl ?_ |(refine gy rfl rfl ?_;(first|refine lo (fR (by first|exact W rfl id|exact E rfl)) rfl ?_ |refine lo (iK (by first|exact W rfl id|exact E rfl)) rfl ?_ |refine lo (fS (by first|exact W rfl id|exact E rfl)) rfl ?_))|refine lg rfl rfl (fR (by first|exact W rfl id|exact E rfl)) rfl ?_ |refine lg rfl rfl (iK (by first|exact W rfl id|exact E rfl)) rfl ?_ |refine lg rfl rfl (fS (by first|exact W rfl id|exact E rfl)) rfl ?_);exact k.h):P:=h ⟨k⟩
theorem SG(k:Q)(h:Hold Q→P:=by intro k;(first|(refine gy rfl rfl ?_;refine lo (fQ (by first|exact W rfl id|exact E rfl) (E rfl)) rfl ?_)|refine lg rfl rfl (fQ (by first|exact W rfl id|exact E rfl) (E rfl)) rfl ?_);exact k.h):P:=h ⟨k⟩
theorem BM(k:Q)(h:Hold Q→P:=by intro k;(first|refine fO rfl (pR (E rfl) rfl (fun hc=>by first|rfl|exact aG (by assumption)|assumption) (fun _=>Nat.le_of_ble_eq_true rfl)) rfl ?_ |refine fO rfl (pS (E rfl) rfl bF (fun hc=>by first|rfl|exact aG (by assumption)|assumption) (fun _=>Nat.le_of_ble_eq_true rfl)) rfl ?_);exact k.h):P:=h ⟨k⟩
theorem aAf(k:Q)(h:Hold Q→P:=by intro k;(first|refine lo (eR (E rfl) (OB.some (E rfl) (fun _=>by first|rfl|exact(Int.toNat_of_nonneg (by omega)).symm)) OB.none (fun _=>by first|(simp only[List.length_map];omega)|omega)) rfl ?_ |refine lo (eC (E rfl) bF (OB.some (E rfl) (fun _=>by first|rfl|exact(Int.toNat_of_nonneg (by omega)).symm)) OB.none (fun _=>by first|(simp only[List.length_map];omega)|omega)) rfl ?_);exact k.h):P:=h ⟨k⟩
theorem aAg(k:Q)(h:Hold Q→P:=by intro k;(first|refine ln rfl rfl rfl rfl ?_ |(refine gy rfl rfl ?_;refine lo (bY (by first|exact W rfl id|exact E rfl) (by first|exact W rfl id|exact E rfl)) rfl ?_)|refine lg rfl rfl (bY (by first|exact W rfl id|exact E rfl) (by first|exact W rfl id|exact E rfl)) rfl ?_);exact k.h):P:=h ⟨k⟩
theorem aFn(k:Q)(h:Hold Q→P:=by intro k;(first|refine ln rfl rfl rfl rfl ?_ |(refine gy rfl rfl ?_;refine lo (rG .nil (.cons rfl .nil)) rfl ?_));exact k.h):P:=h ⟨k⟩
theorem uA(k:Q)(h:Hold Q→P:=by intro k;(first|refine ln rfl rfl rfl rfl ?_ |(refine gy rfl rfl ?_;refine lo (fA (by first|exact W rfl id|exact E rfl)) rfl ?_)|refine lg rfl rfl (fA (by first|exact W rfl id|exact E rfl)) rfl ?_);exact k.h):P:=h ⟨k⟩
theorem NW(k:Q)(h:Hold Q→P:=by intro k;(first|refine ln rfl rfl rfl rfl ?_ |(refine gy rfl rfl ?_;refine lo (pA (by first|exact W rfl id|exact E rfl) (E rfl)) rfl ?_)|refine lg rfl rfl (pA (by first|exact W rfl id|exact E rfl) (E rfl)) rfl ?_);exact k.h):P:=h ⟨k⟩
theorem aCZ(k:Q)(h:Hold Q→P:=by intro k;(refine lg rfl rfl (pA (by exact W rfl id) (by exact W rfl id)) rfl ?_);exact k.h):P:=h ⟨k⟩
theorem VA(k:Q)(h:Hold Q→P:=by intro k;(first|(refine gy rfl rfl ?_;refine lo (aD (by first|exact W rfl id|exact E rfl)) rfl ?_)|refine lg rfl rfl (aD (by first|exact W rfl id|exact E rfl)) rfl ?_);exact k.h):P:=h ⟨k⟩
theorem aC0(k:Q)(h:Hold Q→P:=by intro k;(refine lw rfl rfl (cJ (E rfl) rfl (by decide)) rfl ?_);exact k.h):P:=h ⟨k⟩
end
theorem aC1{P Q:Prop}(k:Q)(h:Hold Q→P:=by intro k;(
     first
      |refine ln rfl rfl rfl rfl ?_
      |(refine gy rfl rfl ?_;(
       first
        |refine lo (aU (by
         first
          |exact W rfl id
          |exact E rfl) rfl bF (fun _=>rfl)) rfl ?_
        |refine lo (aU (by
         first
          |exact W rfl id
          |exact E rfl) rfl bF (fun _=>by assumption)) rfl ?_
        |refine lo (aP (by
         first
          |exact W rfl id
          |exact E rfl) rfl (fun hc=>by
         first
          |rfl
          |exact aG (by assumption)
          |assumption
          |exact aG (aX (by omega))) (fun _=>rfl)) rfl ?_))
      |refine lg rfl rfl (aU (by
       first
        |exact W rfl (by
        first
         |exact id
         |simp)
        |exact E rfl) rfl bF (fun _=>rfl)) rfl ?_
      |refine lg rfl rfl (aU (by
       first
        |exact W rfl (by
        first
         |exact id
         |simp)
        |exact E rfl) rfl bF (fun _=>by assumption)) rfl ?_
      |refine lg rfl rfl (aP (by
       first
        |exact W rfl (by
        first
         |exact id
         |simp)
        |exact E rfl) rfl (fun hc=>by
       first
        |rfl
        |exact aG (by assumption)
        |assumption
        |exact aG (aX (by(try simp at hc)<;>omega))) (fun _=>rfl)) rfl ?_
      |refine lw rfl rfl (aU (by
       first
        |exact W rfl (by
        first
         |exact id
         |simp)
        |exact E rfl) rfl bF (fun _=>rfl)) rfl ?_
      |refine lw rfl rfl (aU (by
       first
        |exact W rfl (by
        first
         |exact id
         |simp)
        |exact E rfl) rfl bF (fun _=>by assumption)) rfl ?_
      |refine lw rfl rfl (aP (by
       first
        |exact W rfl (by
        first
         |exact id
         |simp)
        |exact E rfl) rfl (fun hc=>by
       first
        |rfl
        |exact aG (by assumption)
        |assumption
        |exact aG (aX (by(try simp at hc)<;>omega))) (fun _=>rfl)) rfl ?_
      |refine lw rfl rfl (bN (v:=.bool false)) rfl ?_);exact k.h):P:=h ⟨k⟩
section
variable {P Q:Prop}
theorem aHu(k:Q)(h:Hold Q→P:=by intro k;(refine lw rfl rfl (eW (by first|exact W rfl (by first|exact id|simp)|exact E rfl) (E rfl)) rfl ?_);exact k.h):P:=h ⟨k⟩
theorem aFo(k:Q)(h:Hold Q→P:=by intro k;(refine lg rfl rfl (eO (by first|exact W rfl id|exact E rfl) (by first|exact W rfl (by simp)|exact E rfl) (E rfl)) rfl ?_);exact k.h):P:=h ⟨k⟩
theorem aHv(k:Q)(h:Hold Q→P:=by intro k;(refine lw rfl rfl (pA (by first|exact W rfl (by first|exact id|simp)|exact E rfl) (E rfl)) rfl ?_);exact k.h):P:=h ⟨k⟩
theorem aAh(k:Q)(h:Hold Q→P:=by intro k;(first|refine ln rfl rfl rfl rfl ?_ |(refine gy rfl rfl ?_;(refine lo (fG (E rfl) rfl bF (fun _=>Nat.le_of_ble_eq_true rfl)) rfl ?_))|refine lg rfl rfl (fG (E rfl) rfl bF (fun _=>Nat.le_of_ble_eq_true rfl)) rfl ?_);exact k.h):P:=h ⟨k⟩
theorem KE(k:Q)(h:Hold Q→P:=by intro k;(first|(refine gy rfl rfl ?_;(refine lo (fG (by first|exact W rfl id|exact E rfl) rfl bF (fun _=>Nat.le_of_ble_eq_true rfl)) rfl ?_))|refine lg rfl rfl (fG (by first|exact W rfl id|exact E rfl) rfl bF (fun _=>Nat.le_of_ble_eq_true rfl)) rfl ?_);exact k.h):P:=h ⟨k⟩
theorem aAi(k:Q)(h:Hold Q→P:=by intro k;(first|refine ln rfl rfl rfl rfl ?_ |refine lg rfl rfl (cB (by exact W rfl id) (.inl ⟨_,_,rfl⟩)) rfl ?_ |refine lg rfl rfl (cB (by exact W rfl id) (.inr (.inl ⟨_,_,_,rfl⟩))) rfl ?_ |refine lg rfl rfl (cB (by exact W rfl id) (.inr (.inr ⟨_,_,_,_,rfl⟩))) rfl ?_);exact k.h):P:=h ⟨k⟩
theorem aAj(k:Q)(h:Hold Q→P:=by intro k;(first|refine ln rfl rfl rfl rfl ?_ |refine lg rfl rfl (cJ (by exact W rfl id) rfl (by decide)) rfl ?_);exact k.h):P:=h ⟨k⟩
theorem aHw(k:Q)(h:Hold Q→P:=by intro k;(refine lg rfl rfl (fQ (by exact W rfl id) (by exact W rfl id)) rfl ?_);exact k.h):P:=h ⟨k⟩
theorem VC(k:Q)(h:Hold Q→P:=by intro k;(first|refine fO rfl (mM (E rfl) (E rfl) (by omega) (by omega)) rfl ?_ |refine fO rfl (kE (E rfl) (E rfl)) rfl ?_);exact k.h):P:=h ⟨k⟩
theorem aAk(k:Q)(h:Hold Q→P:=by intro k;(first|refine lo (pE (E rfl)) rfl ?_ |refine lo (GA (E rfl)) rfl ?_);exact k.h):P:=h ⟨k⟩
theorem aFp(k:Q)(h:Hold Q→P:=by intro k;(first|refine lg rfl rfl (bY (by first|exact W rfl (by first|exact id|simp)|exact E rfl) (E rfl)) rfl ?_ |refine lw rfl rfl (bY (by first|exact W rfl (by first|exact id|simp)|exact E rfl) (E rfl)) rfl ?_);exact k.h):P:=h ⟨k⟩
theorem aC2(k:Q)(h:Hold Q→P:=by intro k;(first|(refine gy rfl rfl ?_;(first|refine lo (eD (by first|exact W rfl id|exact E rfl) (by first|exact W rfl (by simp)|exact E rfl)) rfl ?_ |refine lo (eO (by first|exact W rfl id|exact E rfl) (E rfl) (by first|exact W rfl (by simp)|exact E rfl)) rfl ?_))|refine lg rfl rfl (eD (by first|exact W rfl id|exact E rfl) (by first|exact W rfl (by simp)|exact E rfl)) rfl ?_ |refine lg rfl rfl (eO (by first|exact W rfl id|exact E rfl) (E rfl) (by first|exact W rfl (by simp)|exact E rfl)) rfl ?_);exact k.h):P:=h ⟨k⟩
theorem aC3(k:Q)(h:Hold Q→P:=by intro k;(refine lo (FF (E rfl) rfl rfl (fun _=>rfl)) rfl ?_);exact k.h):P:=h ⟨k⟩
theorem KF(k:Q)(h:Hold Q→P:=by intro k;(refine lo (rG (.cons rfl .nil) .nil) rfl ?_);exact k.h):P:=h ⟨k⟩
theorem aHx(k:Q)(h:Hold Q→P:=by intro k;(refine lo (rG .nil (.cons rfl (.cons rfl .nil))) rfl ?_);exact k.h):P:=h ⟨k⟩
theorem aHy(k:Q)(h:Hold Q→P:=by intro k;(refine fO rfl (rG (.cons rfl .nil) .nil) rfl ?_);exact k.h):P:=h ⟨k⟩
theorem SH(k:Q)(h:Hold Q→P:=by intro k;(refine lo (rG .nil (.cons rfl .nil)) rfl ?_);exact k.h):P:=h ⟨k⟩
theorem aFq(k:Q)(h:Hold Q→P:=by intro k;(first|refine ln rfl rfl rfl rfl ?_ |(refine gy rfl rfl ?_;refine lo (iL (by first|exact W rfl id|exact E rfl)) rfl ?_)|refine lg rfl rfl (iL (by first|exact W rfl id|exact E rfl)) rfl ?_);exact k.h):P:=h ⟨k⟩
theorem aFr(k:Q)(h:Hold Q→P:=by intro k;(first|refine ln rfl rfl rfl rfl ?_ |(refine gy rfl rfl ?_;refine lo (BZ (by exact E rfl) OB.none (OB.some (by exact E rfl) (fun _=>by first|rfl|exact(Int.toNat_of_nonneg (by omega)).symm)) (fun hc=>by(try simp at hc);omega)) rfl ?_));exact k.h):P:=h ⟨k⟩
theorem aFs(k:Q)(h:Hold Q→P:=by intro k;(first|refine ln rfl rfl rfl rfl ?_ |(refine gy rfl rfl ?_;refine lo (qP (by exact E rfl) (by exact E rfl)) rfl ?_));exact k.h):P:=h ⟨k⟩
theorem SI(k:Q)(h:Hold Q→P:=by intro k;(first|refine mN rfl rfl rfl rfl rfl ?_ |(refine gE rfl rfl rfl (aD (E rfl)) rfl ?_)|refine fI rfl rfl rfl (aD (E rfl)) rfl ?_);exact k.h):P:=h ⟨k⟩
theorem aHz(k:Q)(h:Hold Q→P:=by intro k;(first|refine fO rfl (eX (E rfl) (by first|exact W rfl (by simp)|exact E rfl)) rfl ?_ |refine fO rfl (eD (E rfl) (E rfl)) rfl ?_ |refine fO rfl (eO (E rfl) (by first|exact W rfl (by simp)|exact E rfl) (E rfl)) rfl ?_);exact k.h):P:=h ⟨k⟩
theorem aC4(k:Q)(h:Hold Q→P:=by intro k;(first|refine fO rfl (fC (E rfl) rfl (by decide)) rfl ?_ |refine fO rfl (kI (E rfl) rfl (by decide)) rfl ?_);exact k.h):P:=h ⟨k⟩
theorem SJ(k:Q)(h:Hold Q→P:=by intro k;(first|(refine gy rfl rfl ?_;refine lo (fJ (by first|exact W rfl id|exact E rfl) (E rfl)) rfl ?_)|refine lg rfl rfl (fJ (by first|exact W rfl id|exact E rfl) (E rfl)) rfl ?_);exact k.h):P:=h ⟨k⟩
theorem aFt(k:Q)(h:Hold Q→P:=by intro k;(first|refine mN rfl rfl rfl rfl rfl ?_ |(refine gE rfl rfl rfl (cJ (E rfl) rfl (by decide)) rfl ?_)|refine fI rfl rfl rfl (cJ (E rfl) rfl (by decide)) rfl ?_);exact k.h):P:=h ⟨k⟩
theorem aC5(k:Q)(h:Hold Q→P:=by intro k;(first|refine mN rfl rfl rfl rfl rfl ?_ |(first|refine gE rfl rfl rfl (aU (by first|exact W rfl id|exact E rfl) rfl bF (fun _=>rfl)) rfl ?_ |refine gE rfl rfl rfl (aU (by first|exact W rfl id|exact E rfl) rfl bF (fun _=>by assumption)) rfl ?_)|refine fI rfl rfl rfl (aU (by first|exact W rfl id|exact E rfl) rfl bF (fun _=>rfl)) rfl ?_ |refine fI rfl rfl rfl (aU (by first|exact W rfl id|exact E rfl) rfl bF (fun _=>by assumption)) rfl ?_);exact k.h):P:=h ⟨k⟩
theorem aAl(k:Q)(h:Hold Q→P:=by intro k;(first|refine fO rfl (eX (E rfl) (E rfl)) rfl ?_ |refine fO rfl (eD (E rfl) (by first|exact W rfl (by simp)|exact E rfl)) rfl ?_ |refine fO rfl (eO (E rfl) (E rfl) (by first|exact W rfl (by simp)|exact E rfl)) rfl ?_);exact k.h):P:=h ⟨k⟩
theorem aC6(k:Q)(h:Hold Q→P:=by intro k;((refine gy rfl rfl ?_;refine lo (FH (by repeat(first|exact PEvs.nil|(apply PEvs.cons;exact E rfl))) (by(exact FJ)) (by repeat(first|exact Fill.nil|(apply Fill.cons;rfl;rfl;rfl;(exact wO))))) rfl ?_));exact k.h):P:=h ⟨k⟩
theorem aHA(k:Q)(h:Hold Q→P:=by intro k;((refine gy rfl rfl ?_;apply bs;exact DK;rfl;rfl;rfl;rfl;exact FJ;rfl));exact k.h):P:=h ⟨k⟩
theorem sq0(k:Q)(h:Hold Q→P:=by intro k;refine lo (aV (E rfl)) rfl ?_;refine iI ?_;exact k.h):P:=h ⟨k⟩
theorem hX(k:Q)(h:Hold Q→P:=by intro k;refine iD ?_;refine lo (aD (E rfl)) rfl ?_;exact k.h):P:=h ⟨k⟩
theorem cI(k:Q)(h:Hold Q→P:=by intro k;refine sq0 ?_;refine aJ ?_;exact k.h):P:=h ⟨k⟩
theorem cV(k:Q)(h:Hold Q→P:=by intro k;refine aJ ?_;refine iD ?_;exact k.h):P:=h ⟨k⟩
theorem gQ(k:Q)(h:Hold Q→P:=by intro k;refine iI ?_;refine aJ ?_;exact k.h):P:=h ⟨k⟩
theorem jX(k:Q)(h:Hold Q→P:=by intro k;refine hX ?_;refine lo (aD (E rfl)) rfl ?_;exact k.h):P:=h ⟨k⟩
theorem sq6(k:Q)(h:Hold Q→P:=by intro k;refine lo (bY (E rfl) (E rfl)) rfl ?_;refine cI ?_;exact k.h):P:=h ⟨k⟩
theorem sq7(k:Q)(h:Hold Q→P:=by intro k;(first|refine mN rfl rfl rfl rfl rfl ?_ |(first|refine gE rfl rfl rfl (cB (by first|exact W rfl id|exact E rfl) (.inl ⟨_,_,rfl⟩)) rfl ?_ |refine gE rfl rfl rfl (cB (by first|exact W rfl id|exact E rfl) (.inr (.inl ⟨_,_,_,rfl⟩))) rfl ?_ |refine gE rfl rfl rfl (cB (by first|exact W rfl id|exact E rfl) (.inr (.inr ⟨_,_,_,_,rfl⟩))) rfl ?_)|refine fI rfl rfl rfl (cB (by first|exact W rfl id|exact E rfl) (.inl ⟨_,_,rfl⟩)) rfl ?_ |refine fI rfl rfl rfl (cB (by first|exact W rfl id|exact E rfl) (.inr (.inl ⟨_,_,_,rfl⟩))) rfl ?_ |refine fI rfl rfl rfl (cB (by first|exact W rfl id|exact E rfl) (.inr (.inr ⟨_,_,_,_,rfl⟩))) rfl ?_);(first|refine mN rfl rfl rfl rfl rfl ?_ |(first|refine gE rfl rfl rfl (cJ (by first|exact W rfl id|exact E rfl) rfl (by decide)) rfl ?_ |refine gE rfl rfl rfl (fC (by first|exact W rfl id|exact E rfl) rfl (by decide)) rfl ?_)|refine fI rfl rfl rfl (cJ (by first|exact W rfl id|exact E rfl) rfl (by decide)) rfl ?_ |refine fI rfl rfl rfl (fC (by first|exact W rfl id|exact E rfl) rfl (by decide)) rfl ?_);exact k.h):P:=h ⟨k⟩
theorem sq8(k:Q)(h:Hold Q→P:=by intro k;refine lo (aD (E rfl)) rfl ?_;refine gQ ?_;exact k.h):P:=h ⟨k⟩
theorem rZ(k:Q)(h:Hold Q→P:=by intro k;refine lo (aV (E rfl)) rfl ?_;refine cI ?_;exact k.h):P:=h ⟨k⟩
theorem gL(k:Q)(h:Hold Q→P:=by intro k;apply zB;rfl;rfl;rfl;rfl;exact iC;refine gQ ?_;exact k.h):P:=h ⟨k⟩
theorem bH(k:Q)(h:Hold Q→P:=by intro k;refine aJ ?_;refine hX ?_;exact k.h):P:=h ⟨k⟩
theorem xI(k:Q)(h:Hold Q→P:=by intro k;refine hX ?_;(first|refine lo (aI (E rfl) (E rfl) (.inl ⟨rfl,rfl⟩)) rfl ?_ |refine lo (aI (E rfl) (E rfl) (.inr (.inl ⟨⟨_,_,rfl⟩,rfl⟩))) rfl ?_ |refine lo (aI (E rfl) (E rfl) (.inr (.inr (.inl ⟨⟨_,_,_,rfl⟩,rfl⟩)))) rfl ?_ |refine lo (aI (E rfl) (E rfl) (.inr (.inr (.inr ⟨⟨_,_,_,_,rfl⟩,rfl⟩)))) rfl ?_);exact k.h):P:=h ⟨k⟩
theorem bV(k:Q)(h:Hold Q→P:=by intro k;refine cV ?_;refine cI ?_;exact k.h):P:=h ⟨k⟩
theorem dL(k:Q)(h:Hold Q→P:=by intro k;refine sG ?_;refine qE ?_;exact k.h):P:=h ⟨k⟩
theorem gA(k:Q)(h:Hold Q→P:=by intro k;refine lo (aD (E rfl)) rfl ?_;refine eJ ?_;exact k.h):P:=h ⟨k⟩
theorem NY(k:Q)(h:Hold Q→P:=by intro k;refine lo (bC (E rfl) rfl) rfl ?_;refine lo (bC (E rfl) rfl) rfl ?_;exact k.h):P:=h ⟨k⟩
theorem tB(k:Q)(h:Hold Q→P:=by intro k;refine lo (fJ (E rfl) (E rfl)) rfl ?_;refine gQ ?_;exact k.h):P:=h ⟨k⟩
theorem lK(k:Q)(h:Hold Q→P:=by intro k;unfold cG kD;(try dsimp only);apply bE;exact bX;exact k.h):P:=h ⟨k⟩
theorem SK(k:Q)(h:Hold Q→P:=by intro k;refine fO rfl (aD (E rfl)) rfl ?_;refine z77 ?_;exact k.h):P:=h ⟨k⟩
theorem aAn(k:Q)(h:Hold Q→P:=by intro k;(first|refine mN rfl rfl rfl rfl rfl ?_ |(first|refine gE rfl rfl rfl (eX (by first|exact W rfl id|exact E rfl) (E rfl)) rfl ?_ |refine gE rfl rfl rfl (eD (by first|exact W rfl id|exact E rfl) (by first|exact W rfl (by simp)|exact E rfl)) rfl ?_ |refine gE rfl rfl rfl (eO (by first|exact W rfl id|exact E rfl) (E rfl) (by first|exact W rfl (by simp)|exact E rfl)) rfl ?_)|refine fI rfl rfl rfl (eX (by first|exact W rfl id|exact E rfl) (E rfl)) rfl ?_ |refine fI rfl rfl rfl (eD (by first|exact W rfl id|exact E rfl) (by first|exact W rfl (by simp)|exact E rfl)) rfl ?_ |refine fI rfl rfl rfl (eO (by first|exact W rfl id|exact E rfl) (E rfl) (by first|exact W rfl (by simp)|exact E rfl)) rfl ?_);refine aHz ?_;exact k.h):P:=h ⟨k⟩
theorem aC7(k:Q)(h:Hold Q→P:=by intro k;(first|refine mN rfl rfl rfl rfl rfl ?_ |(first|refine gE rfl rfl rfl (fR (by first|exact W rfl id|exact E rfl)) rfl ?_ |refine gE rfl rfl rfl (iK (by first|exact W rfl id|exact E rfl)) rfl ?_ |refine gE rfl rfl rfl (fS (by first|exact W rfl id|exact E rfl)) rfl ?_)|refine fI rfl rfl rfl (fR (by first|exact W rfl id|exact E rfl)) rfl ?_ |refine fI rfl rfl rfl (iK (by first|exact W rfl id|exact E rfl)) rfl ?_ |refine fI rfl rfl rfl (fS (by first|exact W rfl id|exact E rfl)) rfl ?_);(first|refine mN rfl rfl rfl rfl rfl ?_ |(refine gE rfl rfl rfl (bY (by first|exact W rfl id|exact E rfl) (E rfl)) rfl ?_)|refine fI rfl rfl rfl (bY (by first|exact W rfl id|exact E rfl) (E rfl)) rfl ?_);exact k.h):P:=h ⟨k⟩
theorem aFw(k:Q)(h:Hold Q→P:=by intro k;refine aC5 ?_;(first|refine mN rfl rfl rfl rfl rfl ?_ |(first|refine gE rfl rfl rfl (fR (by first|exact W rfl id|exact E rfl)) rfl ?_ |refine gE rfl rfl rfl (iK (by first|exact W rfl id|exact E rfl)) rfl ?_ |refine gE rfl rfl rfl (fS (by first|exact W rfl id|exact E rfl)) rfl ?_)|refine fI rfl rfl rfl (fR (by first|exact W rfl id|exact E rfl)) rfl ?_ |refine fI rfl rfl rfl (iK (by first|exact W rfl id|exact E rfl)) rfl ?_ |refine fI rfl rfl rfl (fS (by first|exact W rfl id|exact E rfl)) rfl ?_);exact k.h):P:=h ⟨k⟩
theorem dS(k:Q)(h:Hold Q→P:=by intro k;apply bE;exact bX;refine cI ?_;exact k.h):P:=h ⟨k⟩
theorem aC8(k:Q)(h:Hold Q→P:=by intro k;refine fO rfl (aV (E rfl)) rfl ?_;refine FK ?_;exact k.h):P:=h ⟨k⟩
theorem sH(k:Q)(h:Hold Q→P:=by intro k;refine fO rfl (aD (E rfl)) rfl ?_;refine fO rfl (aD (E rfl)) rfl ?_;exact k.h):P:=h ⟨k⟩
theorem uC(k:Q)(h:Hold Q→P:=by intro k;apply bE;exact bX;refine lo (aD (E rfl)) rfl ?_;exact k.h):P:=h ⟨k⟩
theorem FL(k:Q)(h:Hold Q→P:=by intro k;refine lo (aD (E rfl)) rfl ?_;refine UY ?_;exact k.h):P:=h ⟨k⟩
theorem aAo(k:Q)(h:Hold Q→P:=by intro k;(first|refine mN rfl rfl rfl rfl rfl ?_ |(first|refine gE rfl rfl rfl (cJ (by first|exact W rfl id|exact E rfl) rfl (by decide)) rfl ?_ |refine gE rfl rfl rfl (fC (by first|exact W rfl id|exact E rfl) rfl (by decide)) rfl ?_)|refine fI rfl rfl rfl (cJ (by first|exact W rfl id|exact E rfl) rfl (by decide)) rfl ?_ |refine fI rfl rfl rfl (fC (by first|exact W rfl id|exact E rfl) rfl (by decide)) rfl ?_);refine aFw ?_;exact k.h):P:=h ⟨k⟩
theorem kX(k:Q)(h:Hold Q→P:=by intro k;refine KD ?_;refine z74 ?_;exact k.h):P:=h ⟨k⟩
theorem dB(k:Q)(h:Hold Q→P:=by intro k;refine aJ ?_;refine jX ?_;exact k.h):P:=h ⟨k⟩
theorem aHB(k:Q)(h:Hold Q→P:=by intro k;refine lo (aD (E rfl)) rfl ?_;refine lo (pA (E rfl) (E rfl)) rfl ?_;exact k.h):P:=h ⟨k⟩
theorem qF(k:Q)(h:Hold Q→P:=by intro k;refine lo (eA (E rfl) (E rfl)) rfl ?_;refine gQ ?_;exact k.h):P:=h ⟨k⟩
theorem kY(k:Q)(h:Hold Q→P:=by intro k;apply zB;rfl;rfl;rfl;rfl;exact iC;refine iI ?_;exact k.h):P:=h ⟨k⟩
theorem eK(k:Q)(h:Hold Q→P:=by intro k;refine bH ?_;refine cI ?_;exact k.h):P:=h ⟨k⟩
theorem vP(k:Q)(h:Hold Q→P:=by intro k;refine hX ?_;refine oG ?_;exact k.h):P:=h ⟨k⟩
theorem aFx(k:Q)(h:Hold Q→P:=by intro k;refine gA ?_;(first|refine ln rfl rfl rfl rfl ?_ |(refine gy rfl rfl ?_;(first|refine lo (aI (by first|exact W rfl id|exact E rfl) (E rfl) (.inl ⟨rfl,rfl⟩)) rfl ?_ |refine lo (aI (by first|exact W rfl id|exact E rfl) (E rfl) (.inr (.inl ⟨⟨_,_,rfl⟩,rfl⟩))) rfl ?_ |refine lo (aI (by first|exact W rfl id|exact E rfl) (E rfl) (.inr (.inr (.inl ⟨⟨_,_,_,rfl⟩,rfl⟩)))) rfl ?_ |refine lo (aI (by first|exact W rfl id|exact E rfl) (E rfl) (.inr (.inr (.inr ⟨⟨_,_,_,_,rfl⟩,rfl⟩)))) rfl ?_))|refine lg rfl rfl (aI (by first|exact W rfl id|exact E rfl) (E rfl) (.inl ⟨rfl,rfl⟩)) rfl ?_ |refine lg rfl rfl (aI (by first|exact W rfl id|exact E rfl) (E rfl) (.inr (.inl ⟨⟨_,_,rfl⟩,rfl⟩))) rfl ?_ |refine lg rfl rfl (aI (by first|exact W rfl id|exact E rfl) (E rfl) (.inr (.inr (.inl ⟨⟨_,_,_,rfl⟩,rfl⟩)))) rfl ?_ |refine lg rfl rfl (aI (by first|exact W rfl id|exact E rfl) (E rfl) (.inr (.inr (.inr ⟨⟨_,_,_,_,rfl⟩,rfl⟩)))) rfl ?_);exact k.h):P:=h ⟨k⟩
theorem dH(k:Q)(h:Hold Q→P:=by intro k;refine cV ?_;refine sq6 ?_;exact k.h):P:=h ⟨k⟩
theorem NZ(k:Q)(h:Hold Q→P:=by intro k;refine DL ?_;refine sq8 ?_;exact k.h):P:=h ⟨k⟩
theorem iB(k:Q)(h:Hold Q→P:=by intro k;apply bE;exact bX;refine gQ ?_;exact k.h):P:=h ⟨k⟩
theorem aC9(k:Q)(h:Hold Q→P:=by intro k;refine fO rfl (aV (E rfl)) rfl ?_;refine aC8 ?_;exact k.h):P:=h ⟨k⟩
theorem lS(k:Q)(h:Hold Q→P:=by intro k;refine lo (aV (E rfl)) rfl ?_;refine rZ ?_;exact k.h):P:=h ⟨k⟩
theorem lL(k:Q)(h:Hold Q→P:=by intro k;refine cI ?_;refine iD ?_;exact k.h):P:=h ⟨k⟩
theorem kK(k:Q)(h:Hold Q→P:=by intro k;refine SK ?_;refine kX ?_;exact k.h):P:=h ⟨k⟩
theorem tC(k:Q)(h:Hold Q→P:=by intro k;refine lo (aD (E rfl)) rfl ?_;refine ZK ?_;exact k.h):P:=h ⟨k⟩
theorem iS(k:Q)(h:Hold Q→P:=by intro k;refine mT ?_;refine cI ?_;exact k.h):P:=h ⟨k⟩
theorem iJ(k:Q)(h:Hold Q→P:=by intro k;refine z76 ?_;refine dL ?_;exact k.h):P:=h ⟨k⟩
theorem eV(k:Q)(h:Hold Q→P:=by intro k;refine cV ?_;refine tB ?_;exact k.h):P:=h ⟨k⟩
theorem nH(k:Q)(h:Hold Q→P:=by intro k;refine z76 ?_;refine sG ?_;exact k.h):P:=h ⟨k⟩
theorem mU(k:Q)(h:Hold Q→P:=by intro k;refine lo (aD (E rfl)) rfl ?_;refine z4 ?_;exact k.h):P:=h ⟨k⟩
theorem pF(k:Q)(h:Hold Q→P:=by intro k;refine lo (bY (E rfl) (E rfl)) rfl ?_;refine gQ ?_;exact k.h):P:=h ⟨k⟩
theorem sI(k:Q)(h:Hold Q→P:=by intro k;apply bE;exact bX;refine lo (fA (E rfl)) rfl ?_;exact k.h):P:=h ⟨k⟩
theorem gS(k:Q)(h:Hold Q→P:=by intro k;refine cV ?_;refine NZ ?_;exact k.h):P:=h ⟨k⟩
theorem aDa(k:Q)(h:Hold Q→P:=by intro k;refine hX ?_;(first|refine lo (eZ (E rfl) (E rfl) (.inl ⟨rfl,rfl⟩)) rfl ?_ |refine lo (eZ (E rfl) (E rfl) (.inr (.inl ⟨⟨_,_,rfl⟩,rfl⟩))) rfl ?_ |refine lo (eZ (E rfl) (E rfl) (.inr (.inr (.inl ⟨⟨_,_,_,rfl⟩,rfl⟩)))) rfl ?_ |refine lo (eZ (E rfl) (E rfl) (.inr (.inr (.inr ⟨⟨_,_,_,_,rfl⟩,rfl⟩)))) rfl ?_);exact k.h):P:=h ⟨k⟩
theorem oH(k:Q)(h:Hold Q→P:=by intro k;refine lo (aD (E rfl)) rfl ?_;refine oG ?_;exact k.h):P:=h ⟨k⟩
theorem gT(k:Q)(h:Hold Q→P:=by intro k;refine lL ?_;refine dL ?_;exact k.h):P:=h ⟨k⟩
theorem qX(k:Q)(h:Hold Q→P:=by intro k;refine lo (aD (E rfl)) rfl ?_;refine NY ?_;exact k.h):P:=h ⟨k⟩
theorem aDb(k:Q)(h:Hold Q→P:=by intro k;refine vO ?_;(first|refine ln rfl rfl rfl rfl ?_ |(refine gy rfl rfl ?_;refine lo (eW (by first|exact W rfl id|exact E rfl) (by first|exact W rfl id|exact E rfl)) rfl ?_)|refine lg rfl rfl (eW (by first|exact W rfl id|exact E rfl) (by first|exact W rfl id|exact E rfl)) rfl ?_);exact k.h):P:=h ⟨k⟩
theorem kL(k:Q)(h:Hold Q→P:=by intro k;refine iD ?_;refine sq6 ?_;exact k.h):P:=h ⟨k⟩
theorem uD(k:Q)(h:Hold Q→P:=by intro k;refine lo (eW (E rfl) (E rfl)) rfl ?_;refine cI ?_;exact k.h):P:=h ⟨k⟩
theorem kS(k:Q)(h:Hold Q→P:=by intro k;refine FL ?_;refine aAb ?_;exact k.h):P:=h ⟨k⟩
theorem KG(k:Q)(h:Hold Q→P:=by intro k;refine lo (aV (E rfl)) rfl ?_;refine sq0 ?_;exact k.h):P:=h ⟨k⟩
theorem oI(k:Q)(h:Hold Q→P:=by intro k;refine bV ?_;refine vP ?_;exact k.h):P:=h ⟨k⟩
theorem mV(k:Q)(h:Hold Q→P:=by intro k;refine cI ?_;refine hX ?_;exact k.h):P:=h ⟨k⟩
theorem pG(k:Q)(h:Hold Q→P:=by intro k;refine gQ ?_;refine hX ?_;exact k.h):P:=h ⟨k⟩
theorem uE(k:Q)(h:Hold Q→P:=by intro k;refine ZK ?_;refine xH ?_;exact k.h):P:=h ⟨k⟩
theorem xJ(k:Q)(h:Hold Q→P:=by intro k;refine bH ?_;refine lo (fQ (E rfl) (E rfl)) rfl ?_;exact k.h):P:=h ⟨k⟩
theorem jF(k:Q)(h:Hold Q→P:=by intro k;refine bV ?_;refine jX ?_;exact k.h):P:=h ⟨k⟩
theorem kC(k:Q)(h:Hold Q→P:=by intro k;refine cV ?_;refine dL ?_;exact k.h):P:=h ⟨k⟩
theorem FM(k:Q)(h:Hold Q→P:=by intro k;refine lo (aD (E rfl)) rfl ?_;refine lo (aD (E rfl)) rfl ?_;exact k.h):P:=h ⟨k⟩
theorem kM(k:Q)(h:Hold Q→P:=by intro k;refine bV ?_;refine hX ?_;exact k.h):P:=h ⟨k⟩
theorem vQ(k:Q)(h:Hold Q→P:=by intro k;refine lo (fA (E rfl)) rfl ?_;refine gQ ?_;exact k.h):P:=h ⟨k⟩
theorem lM(k:Q)(h:Hold Q→P:=by intro k;refine gL ?_;refine hX ?_;exact k.h):P:=h ⟨k⟩
theorem tD(k:Q)(h:Hold Q→P:=by intro k;refine uA ?_;refine iS ?_;exact k.h):P:=h ⟨k⟩
theorem aHC(k:Q)(h:Hold Q→P:=by intro k;refine lo (aD (E rfl)) rfl ?_;refine z61 ?_;exact k.h):P:=h ⟨k⟩
theorem aFy(k:Q)(h:Hold Q→P:=by intro k;refine fO rfl (aD (E rfl)) rfl ?_;(first|refine fO rfl (aI (E rfl) (E rfl) (.inl ⟨rfl,rfl⟩)) rfl ?_ |refine fO rfl (aI (E rfl) (E rfl) (.inr (.inl ⟨⟨_,_,rfl⟩,rfl⟩))) rfl ?_ |refine fO rfl (aI (E rfl) (E rfl) (.inr (.inr (.inl ⟨⟨_,_,_,rfl⟩,rfl⟩)))) rfl ?_ |refine fO rfl (aI (E rfl) (E rfl) (.inr (.inr (.inr ⟨⟨_,_,_,_,rfl⟩,rfl⟩)))) rfl ?_);exact k.h):P:=h ⟨k⟩
theorem aHD(k:Q)(h:Hold Q→P:=by intro k;refine kK ?_;refine NL ?_;exact k.h):P:=h ⟨k⟩
theorem BN(k:Q)(h:Hold Q→P:=by intro k;refine aHD ?_;refine aC9 ?_;exact k.h):P:=h ⟨k⟩
theorem xK(k:Q)(h:Hold Q→P:=by intro k;refine aFn ?_;refine ln rfl rfl rfl rfl ?_;exact k.h):P:=h ⟨k⟩
theorem lT(k:Q)(h:Hold Q→P:=by intro k;refine oG ?_;refine sq8 ?_;exact k.h):P:=h ⟨k⟩
theorem oJ(k:Q)(h:Hold Q→P:=by intro k;refine vP ?_;refine aHB ?_;exact k.h):P:=h ⟨k⟩
theorem BO(k:Q)(h:Hold Q→P:=by intro k;refine aC8 ?_;refine aJ ?_;exact k.h):P:=h ⟨k⟩
theorem aFz(k:Q)(h:Hold Q→P:=by intro k;refine bH ?_;(first|refine lo (eZ (E rfl) (E rfl) (.inl ⟨rfl,rfl⟩)) rfl ?_ |refine lo (eZ (E rfl) (E rfl) (.inr (.inl ⟨⟨_,_,rfl⟩,rfl⟩))) rfl ?_ |refine lo (eZ (E rfl) (E rfl) (.inr (.inr (.inl ⟨⟨_,_,_,rfl⟩,rfl⟩)))) rfl ?_ |refine lo (eZ (E rfl) (E rfl) (.inr (.inr (.inr ⟨⟨_,_,_,_,rfl⟩,rfl⟩)))) rfl ?_);exact k.h):P:=h ⟨k⟩
theorem qY(k:Q)(h:Hold Q→P:=by intro k;refine uC ?_;refine NY ?_;exact k.h):P:=h ⟨k⟩
theorem mW(k:Q)(h:Hold Q→P:=by intro k;refine mT ?_;refine gA ?_;exact k.h):P:=h ⟨k⟩
theorem nI(k:Q)(h:Hold Q→P:=by intro k;refine rZ ?_;refine hX ?_;exact k.h):P:=h ⟨k⟩
theorem xL(k:Q)(h:Hold Q→P:=by intro k;apply dY;exact bX;refine BO ?_;exact k.h):P:=h ⟨k⟩
theorem KH(k:Q)(h:Hold Q→P:=by intro k;apply zB;rfl;rfl;rfl;rfl;exact iC;refine cI ?_;exact k.h):P:=h ⟨k⟩
theorem nS(k:Q)(h:Hold Q→P:=by intro k;refine bV ?_;refine iD ?_;exact k.h):P:=h ⟨k⟩
theorem nT(k:Q)(h:Hold Q→P:=by intro k;refine cI ?_;refine jX ?_;exact k.h):P:=h ⟨k⟩
theorem OA(k:Q)(h:Hold Q→P:=by intro k;refine fO rfl (aD (E rfl)) rfl ?_;refine SI ?_;exact k.h):P:=h ⟨k⟩
theorem KI(k:Q)(h:Hold Q→P:=by intro k;refine lo (fQ (E rfl) (E rfl)) rfl ?_;refine gQ ?_;exact k.h):P:=h ⟨k⟩
theorem qG(k:Q)(h:Hold Q→P:=by intro k;refine ZK ?_;refine KC ?_;exact k.h):P:=h ⟨k⟩
theorem SL(k:Q)(h:Hold Q→P:=by intro k;refine aAj ?_;refine aAb ?_;exact k.h):P:=h ⟨k⟩
theorem KJ(k:Q)(h:Hold Q→P:=by intro k;refine fO rfl (aD (E rfl)) rfl ?_;refine kX ?_;exact k.h):P:=h ⟨k⟩
theorem qZ(k:Q)(h:Hold Q→P:=by intro k;refine nH ?_;refine gL ?_;exact k.h):P:=h ⟨k⟩
theorem aFA(k:Q)(h:Hold Q→P:=by intro k;(first|refine mN rfl rfl rfl rfl rfl ?_ |(refine gE rfl rfl rfl (eW (by first|exact W rfl id|exact E rfl) (by first|exact W rfl id|exact E rfl)) rfl ?_)|refine fI rfl rfl rfl (eW (by first|exact W rfl id|exact E rfl) (by first|exact W rfl id|exact E rfl)) rfl ?_);refine aAl ?_;exact k.h):P:=h ⟨k⟩
theorem qH(k:Q)(h:Hold Q→P:=by intro k;refine FK ?_;refine aJ ?_;exact k.h):P:=h ⟨k⟩
theorem VD(k:Q)(h:Hold Q→P:=by intro k;refine iD ?_;refine NZ ?_;exact k.h):P:=h ⟨k⟩
theorem BP(k:Q)(h:Hold Q→P:=by intro k;apply bE;exact bX;refine tD ?_;exact k.h):P:=h ⟨k⟩
theorem wP(k:Q)(h:Hold Q→P:=by intro k;refine iJ ?_;refine lo (aD (E rfl)) rfl ?_;exact k.h):P:=h ⟨k⟩
theorem wQ(k:Q)(h:Hold Q→P:=by intro k;refine lo (aD (E rfl)) rfl ?_;refine aAh ?_;exact k.h):P:=h ⟨k⟩
theorem zE(k:Q)(h:Hold Q→P:=by intro k;refine lo (aV (E rfl)) rfl ?_;refine KG ?_;exact k.h):P:=h ⟨k⟩
theorem sQ(k:Q)(h:Hold Q→P:=by intro k;apply bE;exact bX;refine iI ?_;exact k.h):P:=h ⟨k⟩
theorem lY(k:Q)(h:Hold Q→P:=by intro k;refine cV ?_;refine uE ?_;exact k.h):P:=h ⟨k⟩
theorem zF(k:Q)(h:Hold Q→P:=by intro k;refine lo (aV (E rfl)) rfl ?_;refine gL ?_;exact k.h):P:=h ⟨k⟩
theorem mX(k:Q)(h:Hold Q→P:=by intro k;refine bH ?_;refine nH ?_;exact k.h):P:=h ⟨k⟩
theorem aB0(k:Q)(h:Hold Q→P:=by intro k;refine aFn ?_;refine gy rfl rfl ?_;exact k.h):P:=h ⟨k⟩
theorem mY(k:Q)(h:Hold Q→P:=by intro k;refine lK ?_;refine pG ?_;exact k.h):P:=h ⟨k⟩
theorem aB1(k:Q)(h:Hold Q→P:=by intro k;(first|refine ln rfl rfl rfl rfl ?_ |refine lg rfl rfl (eX (W rfl id) (E rfl)) rfl ?_ |refine lg rfl rfl (eD (W rfl id) (W rfl (by simp))) rfl ?_ |refine lg rfl rfl (eO (W rfl id) (E rfl) (W rfl (by simp))) rfl ?_);refine z7 ?_;exact k.h):P:=h ⟨k⟩
theorem mZ(k:Q)(h:Hold Q→P:=by intro k;refine UY ?_;refine aAb ?_;exact k.h):P:=h ⟨k⟩
theorem nA(k:Q)(h:Hold Q→P:=by intro k;refine lK ?_;refine gQ ?_;exact k.h):P:=h ⟨k⟩
theorem aB2(k:Q)(h:Hold Q→P:=by intro k;refine OA ?_;(first|refine mN rfl rfl rfl rfl rfl ?_ |(refine gE rfl rfl rfl (fJ (by first|exact W rfl id|exact E rfl) (E rfl)) rfl ?_)|refine fI rfl rfl rfl (fJ (by first|exact W rfl id|exact E rfl) (E rfl)) rfl ?_);exact k.h):P:=h ⟨k⟩
theorem lZ(k:Q)(h:Hold Q→P:=by intro k;refine sq0 ?_;refine an ?_;exact k.h):P:=h ⟨k⟩
theorem aB3(k:Q)(h:Hold Q→P:=by intro k;refine aC7 ?_;(first|refine mN rfl rfl rfl rfl rfl ?_ |(refine gE rfl rfl rfl (aD (by first|exact W rfl id|exact E rfl)) rfl ?_)|refine fI rfl rfl rfl (aD (by first|exact W rfl id|exact E rfl)) rfl ?_);exact k.h):P:=h ⟨k⟩
theorem nB(k:Q)(h:Hold Q→P:=by intro k;refine hX ?_;refine dL ?_;exact k.h):P:=h ⟨k⟩
theorem mA(k:Q)(h:Hold Q→P:=by intro k;refine cV ?_;refine rZ ?_;exact k.h):P:=h ⟨k⟩
theorem DM(k:Q)(h:Hold Q→P:=by intro k;refine lo (bY (E rfl) (E rfl)) rfl ?_;refine kS ?_;exact k.h):P:=h ⟨k⟩
theorem KK(k:Q)(h:Hold Q→P:=by intro k;refine mT ?_;refine gQ ?_;exact k.h):P:=h ⟨k⟩
theorem DO(k:Q)(h:Hold Q→P:=by intro k;refine fO rfl (aD (E rfl)) rfl ?_;refine kK ?_;exact k.h):P:=h ⟨k⟩
theorem aB4(k:Q)(h:Hold Q→P:=by intro k;refine aAi ?_;refine SL ?_;exact k.h):P:=h ⟨k⟩
theorem nL(k:Q)(h:Hold Q→P:=by intro k;refine iD ?_;refine dL ?_;exact k.h):P:=h ⟨k⟩
theorem VE(k:Q)(h:Hold Q→P:=by intro k;refine gA ?_;refine aB4 ?_;exact k.h):P:=h ⟨k⟩
theorem pT(k:Q)(h:Hold Q→P:=by intro k;refine dS ?_;refine VD ?_;exact k.h):P:=h ⟨k⟩
theorem KL(k:Q)(h:Hold Q→P:=by intro k;unfold cG kD;(try dsimp only);apply dY;exact bX;exact k.h):P:=h ⟨k⟩
theorem pU(k:Q)(h:Hold Q→P:=by intro k;refine iJ ?_;refine qF ?_;exact k.h):P:=h ⟨k⟩
theorem aFB(k:Q)(h:Hold Q→P:=by intro k;refine z94 ?_;refine BN ?_;exact k.h):P:=h ⟨k⟩
theorem rA(k:Q)(h:Hold Q→P:=by intro k;refine aFB ?_;refine an ?_;exact k.h):P:=h ⟨k⟩
theorem aFC(k:Q)(h:Hold Q→P:=by intro k;refine eK ?_;refine jX ?_;exact k.h):P:=h ⟨k⟩
theorem pV(k:Q)(h:Hold Q→P:=by intro k;refine aFC ?_;refine tC ?_;exact k.h):P:=h ⟨k⟩
theorem aB5(k:Q)(h:Hold Q→P:=by intro k;refine uA ?_;refine KK ?_;exact k.h):P:=h ⟨k⟩
theorem oK(k:Q)(h:Hold Q→P:=by intro k;refine vP ?_;refine sq8 ?_;exact k.h):P:=h ⟨k⟩
theorem DP(k:Q)(h:Hold Q→P:=by intro k;refine jX ?_;refine lo (aD (E rfl)) rfl ?_;exact k.h):P:=h ⟨k⟩
theorem pW(k:Q)(h:Hold Q→P:=by intro k;refine iD ?_;refine rZ ?_;exact k.h):P:=h ⟨k⟩
theorem KM(k:Q)(h:Hold Q→P:=by intro k;refine qY ?_;refine lo (bC (E rfl) rfl) rfl ?_;exact k.h):P:=h ⟨k⟩
theorem oL(k:Q)(h:Hold Q→P:=by intro k;refine oI ?_;refine sq8 ?_;exact k.h):P:=h ⟨k⟩
theorem KN(k:Q)(h:Hold Q→P:=by intro k;refine JM ?_;refine fO rfl (aD (E rfl)) rfl ?_;exact k.h):P:=h ⟨k⟩
theorem rB(k:Q)(h:Hold Q→P:=by intro k;refine VE ?_;refine aB5 ?_;exact k.h):P:=h ⟨k⟩
theorem sR(k:Q)(h:Hold Q→P:=by intro k;refine gA ?_;refine aB0 ?_;exact k.h):P:=h ⟨k⟩
theorem rC(k:Q)(h:Hold Q→P:=by intro k;refine sH ?_;refine NV ?_;exact k.h):P:=h ⟨k⟩
theorem oM(k:Q)(h:Hold Q→P:=by intro k;refine cV ?_;refine jN ?_;exact k.h):P:=h ⟨k⟩
theorem KO(k:Q)(h:Hold Q→P:=by intro k;refine lo (eW (E rfl) (E rfl)) rfl ?_;refine gQ ?_;exact k.h):P:=h ⟨k⟩
theorem rD(k:Q)(h:Hold Q→P:=by intro k;refine mV ?_;refine zD ?_;exact k.h):P:=h ⟨k⟩
theorem pX(k:Q)(h:Hold Q→P:=by intro k;refine aHC ?_;refine UX ?_;exact k.h):P:=h ⟨k⟩
end
theorem eP{P:Prop}{C:Nat→Prop}(k:∀r,C r)(h:Hold (∀r,C r)→P:=by intro k;refine z1 ?_;exact jM k.h):P:=h ⟨k⟩
theorem gM{P:Prop}{C:Nat→Prop}(k:∀r,C r)(h:Hold (∀r,C r)→P:=by intro k;apply bx;rfl;rfl;exact FJ;rfl;exact jM k.h):P:=h ⟨k⟩
theorem gF{P:Prop}{C:Nat→Prop}(k:∀r,C r)(h:Hold (∀r,C r)→P:=by intro k;apply al;rfl;exact FJ;exact jM k.h):P:=h ⟨k⟩
theorem ZM{P:Prop}{C:Nat→Prop}(k:∀r,C r)(h:Hold (∀r,C r)→P:=by intro k;refine z97 ?_;exact jM k.h):P:=h ⟨k⟩
theorem fz4{P:Prop}{C:Nat→Prop}(k:∀r,C r)(h:Hold (∀r,C r)→P:=by intro k;refine aHA ?_;exact jM k.h):P:=h ⟨k⟩
theorem fz5{P:Prop}{C:Nat→Prop}(k:∀r,C r)(h:Hold (∀r,C r)→P:=by intro k;apply dbx;rfl;rfl;rfl;exact FJ;rfl;exact jM k.h):P:=h ⟨k⟩
def uB (n:Nat):List Nat:=if h:n<128 then [n]else(n%128+128)::uB (n / 128)
termination_by n
decreasing_by omega
theorem rE{n:Nat}(h:n<128):uB n=[n]:=by rw[uB,dif_pos h]
theorem zG{n:Nat}(h:¬n<128):uB n=(n%128+128)::uB (n / 128):=by rw[uB,dif_neg h]
theorem jG(n:Nat):∀x∈uB n,x<256:=by
 induction n using Nat.strongRecOn with
 | _ n ih=>
  by_cases h:n<128
  ·rw[rE h];simp;omega
  ·rw[zG h];intro x hx;rcases List.mem_cons.1 hx with rfl|hx
   ·omega
   ·exact ih (n / 128) (by omega) x hx
theorem gB(n:Nat):1≤(uB n).length:=by
 by_cases h:n<128
 ·rw[rE h];simp
 ·rw[zG h];simp
theorem bS:∀(k n:Nat),n<128^(k+1)→(uB n).length≤k+1
 |0,n,h=>by rw[rE (by simpa using h)];simp
 |k+1,n,h=>by
  by_cases hn:n<128
  ·rw[rE hn];simp
  ·rw[zG hn,List.length_cons];have:=bS k (n / 128) (by rw[Nat.pow_succ]at h;exact Nat.div_lt_of_lt_mul (by omega));omega
def tE:List Nat→Nat
 |[]=>0
 |b::t=>b%128+128*tE t
theorem aAp(n:Nat):tE (uB n)=n:=by
 induction n using Nat.strongRecOn with
 | _ n ih=>
  by_cases h:n<128
  ·rw[rE h];simp[tE];omega
  ·rw[zG h,tE,ih (n / 128) (by omega)];omega
theorem PZ:∀(l:List Nat),tE l<128^l.length
 |[]=>by simp[tE]
 |b::t=>by
  have:=PZ t;rw[tE,List.length_cons,Nat.pow_succ];omega
def dO:List Nat→Nat→Nat×Int
 | _,0=>(0,1)
 |[],_ +1=>(0,2)
 |b::t,m+1=>if b<128 then(1,0)else(if(dO t m).2=0 then((dO t m).1+1,0)else dO t m)
theorem sA:∀(bs:List Nat) (m:Nat),(dO bs m).2=0→1≤(dO bs m).1∧(dO bs m).1≤m∧(dO bs m).1≤bs.length
 |bs,0,h=>by cases bs<;>simp[dO]at h
 |[],_ +1,h=>by simp[dO]at h
 |b::t,m+1,h=>by
  have ih:=sA t m;rw[dO]at h⊢;by_cases hb:b<128
  ·rw[if_pos hb];simp
  ·rw[if_neg hb]at h⊢;by_cases h2:(dO t m).2=0
   ·rw[if_pos h2];have:=ih h2;simp;omega
   ·rw[if_neg h2]at h;exact absurd h h2
theorem QA(rest:List Nat):∀(m n:Nat),(uB n).length≤m→dO (uB n++rest) m=((uB n).length,0)
 |0,n,h=>by have:=gB n;omega
 |m+1,n,h=>by
  by_cases hn:n<128
  ·rw[rE hn];simp[dO,hn]
  ·rw[zG hn]at h⊢;rw[List.cons_append,dO,if_neg (by omega),QA rest m (n / 128) (by simpa using h)];simp
def jH (bs:List Nat):Nat×Nat×Int:=
 if(dO bs 5).2≠0 then(0,0,(dO bs 5).2)
 else if uB (tE (bs.take (dO bs 5).1))=bs.take (dO bs 5).1∧tE (bs.take (dO bs 5).1)<4294967296 then(tE (bs.take (dO bs 5).1),(dO bs 5).1,0)else(0,0,1)
theorem QB{n:Nat}(hn:n<4294967296)(rest:List Nat):jH (uB n++rest)=(n,(uB n).length,0):=by
 have hl:=bS 4 n (by omega);unfold jH;rw[QA rest 5 n hl];simp only[ne_eq,not_true_eq_false,if_false];rw[List.take_left,aAp,if_pos ⟨rfl,hn⟩]
theorem uF(bs:List Nat):(jH bs).1<4294967296∧(jH bs).2.1≤bs.length∧(jH bs).2.1≤5:=by
 unfold jH;split
 ·simp
 ·next h=>
  have:=sA bs 5 (by simpa using h);split
  ·next h2=>exact⟨h2.2,this.2.2,this.2.1⟩
  ·simp
def sB (n:Int):List Nat:=if h:-64≤n∧n≤63 then [(n%128).toNat]else((n%128).toNat+128)::sB (n / 128)
termination_by n.natAbs
decreasing_by omega
theorem uG{n:Int}(h:-64≤n∧n≤63):sB n=[(n%128).toNat]:=by rw[sB,dif_pos h]
theorem zH{n:Int}(h:¬(-64≤n∧n≤63)):sB n=((n%128).toNat+128)::sB (n / 128):=by rw[sB,dif_neg h]
theorem OC(n:Int):1≤(sB n).length:=by
 by_cases h:-64≤n∧n≤63
 ·rw[uG h];simp
 ·rw[zH h];simp
theorem aB6(m:Nat):∀(n:Int),n.natAbs≤m→∀x∈sB n,x<256:=by
 induction m with
 |zero=>intro n hn;rw[uG (by omega)];simp;omega
 |succ m ih=>
  intro n hn;by_cases h:-64≤n∧n≤63
  ·rw[uG h];simp;omega
  ·rw[zH h];intro x hx;rcases List.mem_cons.1 hx with rfl|hx
   ·omega
   ·exact ih (n / 128) (by omega) x hx
theorem zI:∀(k:Nat) (n:Int),-(64*128^k:Nat)≤n→n<(64*128^k:Nat)→(sB n).length≤k+1
 |0,n,h,h'=>by rw[uG (by simp at h h';omega)];simp
 |k+1,n,h,h'=>by
  by_cases hn:-64≤n∧n≤63
  ·rw[uG hn];simp
  ·rw[zH hn,List.length_cons];have e:(64*128^(k+1):Nat)=128*(64*128^k):=by rw[Nat.pow_succ];omega
   rw[e]at h h';have:=zI k (n / 128) (by omega) (by omega);omega
theorem QC(rest:List Nat):∀(m:Nat) (n:Int),(sB n).length≤m→dO (sB n++rest) m=((sB n).length,0)
 |0,n,h=>by have:=OC n;omega
 |m+1,n,h=>by
  by_cases hn:-64≤n∧n≤63
  ·rw[uG hn];rw[List.cons_append,dO,if_pos (by omega)];rfl
  ·rw[zH hn]at h⊢;rw[List.cons_append,dO,if_neg (by omega),QC rest m (n / 128) (by simpa using h)];simp
def jO:List Nat→Int
 |[]=>0
 |[b]=>if 64≤b%128 then((b%128:Nat):Int)-128 else((b%128:Nat):Int)
 |b::c::t=>IntKind.i64.wrap (jO (c::t)*128+((b%128:Nat):Int))
theorem DQ(b:Nat){t:List Nat}(h:1≤t.length):jO (b::t)=IntKind.i64.wrap (jO t*128+((b%128:Nat):Int)):=by
 cases t with
 |nil=>simp at h
 |cons c t=>rfl
theorem aAq(m:Nat):∀(n:Int),n.natAbs≤m→ -9223372036854775808≤n→n≤9223372036854775807→jO (sB n)=n:=by
 induction m with
 |zero=>intro n hn _ _;rw[uG (by omega)];simp[jO];omega
 |succ m ih=>
  intro n hn h1 h2;by_cases h:-64≤n∧n≤63
  ·rw[uG h,jO];split<;>omega
  ·rw[zH h,DQ _ (OC _),ih (n / 128) (by omega) (by omega) (by omega)];rw[IntKind.wrap_i64];omega
def kT (bits:Nat):Nat:=(bits+6) / 7
def sJ (bits:Nat) (bs:List Nat):Int×Nat×Int:=
 if(dO bs (kT bits)).2≠0 then(0,0,(dO bs (kT bits)).2)
 else if sB (jO (bs.take (dO bs (kT bits)).1))=bs.take (dO bs (kT bits)).1∧(bits=32→ -2147483648≤jO (bs.take (dO bs (kT bits)).1)∧jO (bs.take (dO bs (kT bits)).1)≤2147483647)then(jO (bs.take (dO bs (kT bits)).1),(dO bs (kT bits)).1,0)else(0,0,1)
theorem aAr{bits:Nat}(hb:bits=32∨bits=64){n:Int}(h1:-9223372036854775808≤n)(h2:n≤9223372036854775807)(h3:bits=32→ -2147483648≤n∧n≤2147483647)(rest:List Nat):sJ bits (sB n++rest)=(n,(sB n).length,0):=by
 have hl:(sB n).length≤kT bits:=by
  rcases hb with rfl|rfl
  ·have:=h3 rfl;exact zI 4 n (by omega) (by omega)
  ·exact zI 9 n (by omega) (by omega)
 unfold sJ;rw[QC rest _ n hl];simp only[ne_eq,not_true_eq_false,if_false];rw[List.take_left,aAq n.natAbs n (Nat.le_refl _) h1 h2,if_pos ⟨rfl,h3⟩]
theorem QD(bits:Nat)(bs:List Nat):(sJ bits bs).2.1≤bs.length:=by
 unfold sJ;split
 ·simp
 ·next h=>
  have:=sA bs (kT bits) (by simpa using h);split
  ·exact this.2.2
  ·simp
end Go.Proofs.YtjpdadobblffmaaGreat
namespace Go.Proofs.YtjpdadobblffmaaGreat
open Go.RowKit Go.ChangeShapes Go.WideShapes Go.ChangeAt Go.Deep
attribute [local irreducible] SW RS RD eM dR
theorem sC{l:List Nat}{x:Nat}:l.map aH++ [[.int .u8 x]]=(l++ [x]).map aH:=by simp[aH]
theorem FN{x:Nat}(h:x<256):(BitVec.ofInt IntKind.u8.bits (x:Int)).toNat=x:=by
 rw[BitVec.toNat_ofInt];simp[IntKind.bits];omega
theorem KP{x:Nat}(h:x<256):IntKind.u8.wrap ↑(BitVec.ofInt IntKind.u8.bits (x:Int)|||BitVec.ofInt IntKind.u8.bits 128).toNat=((x%128+128:Nat):Int):=by
 have h1:∀x<256,x|||128=x%128+128:=by decide
 rw[BitVec.toNat_or,FN h,show(BitVec.ofInt IntKind.u8.bits 128).toNat=128 by decide,h1 x h,IntKind.wrap_u8];omega
theorem aHE{m:Nat}:(m:Int).fdiv (2^min (Int.toNat 7) IntKind.u64.bits)=((m / 128:Nat):Int):=by
 have:(2:Int)^min (Int.toNat 7) IntKind.u64.bits=128:=by decide
 rw[this,Int.fdiv_eq_ediv_of_nonneg _ (by omega)];omega
theorem VF(m:Nat):IntKind.u8.wrap (m:Int)=((m%256:Nat):Int):=by rw[IntKind.wrap_u8];omega
theorem aAs(m:Nat):IntKind.u8.wrap ↑(BitVec.ofInt IntKind.u8.bits (IntKind.u8.wrap (m:Int))|||BitVec.ofInt IntKind.u8.bits 128).toNat=((m%128+128:Nat):Int):=by
 rw[VF m,KP (by omega)];omega
theorem VG{n:Nat}(h:n<18446744073709551616):(uB n).length≤10:=bS 9 n (by omega)
theorem kO(q:Nat)(vs:List Nat)(hb:vs.length≤100000000)(n:Nat)(hn:n<18446744073709551616):SCall Tryz.prog 239 [.own q 0 vs.length,.int .u64 n] [(q,.arr 5 1 (vs.map aH))]
  (fun x σ=>∃r,x=.own r 0 (vs++uB n).length∧σ=[(r,.arr 5 1 ((vs++uB n).map aH))]):=by
 have hL:=VG hn;refine bO 20 [0,1,4,6] Tryz.func239 ?_;refine bV ?_;refine scj (β:=Nat×List Nat×Nat) 0 rfl (fun b=>⟨[(0,.own b.1 0 b.2.1.length),(1,.int .u64 b.2.2)],[(b.1,.arr 5 1 (b.2.1.map aH))]⟩) (fun b=>b.2.1++uB b.2.2=vs++uB n∧b.2.2<18446744073709551616) (fun b=>b.2.2) ?_ (fun P=> ?_)
 ·rintro⟨r,us,m⟩ ⟨he,hm⟩;simp only at he hm⊢;have hcl:us.length+(uB m).length=vs.length+(uB n).length:=by rw[←List.length_append,he,List.length_append]
  have hup:=gB m;refine bH ?_;refine tB ?_;refine aC rfl (fun h=> ?_) (fun h=> ?_)
  ·have h1:m<128:=by simp at h;omega
   rw[rE h1]at he;refine dB ?_;refine z0 ?_;refine eP fun r10 h10=> ?_;intros
   apply ap (es':=(vs++uB n).map aH) (len':=(vs++uB n).length);rfl;rfl;exact bF
   ·simp
   ·exact .inr (.inr ⟨_,_,_,_,_,rfl,bF,by simp,rfl⟩)
   ·rw[←he,←sC];rfl
   ·rw[←he];simp
   ·simp[maxLen];omega
   ·simp;omega
   ·rfl
   refine dG fun r11 h11=> ?_;intros
   refine cI ?_;refine sF ?_;exact aE aF ⟨r11,by rfl,rfl⟩ aA
  ·have h1:¬m<128:=by simp at h;omega
   have hcl2:us.length+(uB (m / 128)).length+1=vs.length+(uB n).length:=by rw[zG h1]at hcl;simp at hcl;omega
   rw[zG h1]at he;refine dB ?_;refine z0 ?_;refine lo (vK (E rfl) (E rfl)) rfl ?_;refine eP fun r16 h16=> ?_;intros
   apply ap (es':=(us++ [m%128+128]).map aH) (len':=(us++ [m%128+128]).length);rfl;rfl;exact bF
   ·simp
   ·exact .inr (.inr ⟨_,_,_,_,_,rfl,bF,by simp,rfl⟩)
   ·rw[←sC,aAs];rfl
   ·simp
   ·simp[maxLen];omega
   ·simp;omega
   ·rfl
   refine dG fun r17 h17=> ?_;intros
   refine mV ?_;refine z2 ?_;refine cI ?_;refine sF ?_;rw[aHE];refine⟨(r17,us++ [m%128+128],m / 128),⟨?_, ?_⟩, ?_, ?_⟩
   ·simpa using he
   ·show m / 128< _;omega
   ·show m / 128<m;omega
   ·exact aN
 ·refine P (q,vs,n) _ ⟨rfl,hn⟩ ?_;exact aN
theorem VH(n:Int):IntKind.u8.wrap n=((n%256).toNat:Int):=by rw[IntKind.wrap_u8];omega
theorem tF{x:Nat}(h:x<256):IntKind.u8.wrap ↑(BitVec.ofInt IntKind.u8.bits (x:Int)&&&~~~BitVec.ofInt IntKind.u8.bits 128).toNat=((x%128:Nat):Int):=by
 have h1:∀x<256,x&&&127=x%128:=by decide
 rw[BitVec.toNat_and,FN h,show(~~~BitVec.ofInt IntKind.u8.bits 128).toNat=127 by decide,h1 x h,IntKind.wrap_u8];omega
theorem VI{x:Nat}(h:x<128):IntKind.u8.wrap ↑(BitVec.ofInt IntKind.u8.bits (x:Int)&&&BitVec.ofInt IntKind.u8.bits 64).toNat=if x<64 then 0 else 64:=by
 have h1:∀x<128,x&&&64=if x<64 then 0 else 64:=by decide
 rw[BitVec.toNat_and,FN (by omega),show(BitVec.ofInt IntKind.u8.bits 64).toNat=64 by decide,h1 x h,IntKind.wrap_u8];split<;>rfl
def cS (n:Int):Nat:=(n%128).toNat
theorem aB7(n:Int):cS n<128:=by unfold cS;omega
theorem SM(n:Int):IntKind.u8.wrap ↑(BitVec.ofInt IntKind.u8.bits (IntKind.u8.wrap n)&&&~~~BitVec.ofInt IntKind.u8.bits 128).toNat=(cS n:Int):=by
 rw[VH n,tF (by omega)];unfold cS;omega
theorem VJ(n:Int):IntKind.u8.wrap ↑(BitVec.ofInt IntKind.u8.bits (cS n:Int)|||BitVec.ofInt IntKind.u8.bits 128).toNat=((cS n+128:Nat):Int):=by
 have:=aB7 n;rw[KP (by omega)];omega
theorem aFD{m:Int}:m.fdiv (2^min (Int.toNat 7) IntKind.i64.bits)=m / 128:=by
 have:(2:Int)^min (Int.toNat 7) IntKind.i64.bits=128:=by decide
 rw[this,Int.fdiv_eq_ediv_of_nonneg _ (by omega)]
theorem KQ(q:Nat)(vs:List Nat)(hb:vs.length≤100000000)(n:Int)(hn:-9223372036854775808≤n∧n≤9223372036854775807):SCall Tryz.prog 296 [.own q 0 vs.length,.int .i64 n] [(q,.arr 5 1 (vs.map aH))]
  (fun x σ=>∃r,x=.own r 0 (vs++sB n).length∧σ=[(r,.arr 5 1 ((vs++sB n).map aH))]):=by
 have hL:(sB n).length≤10:=zI 9 n (by omega) (by omega);refine bO 36 [0,1,4,5,26] Tryz.func296 ?_;refine bV ?_;refine scj (β:=Nat×List Nat×Int) 0 rfl (fun b=>⟨[(0,.own b.1 0 b.2.1.length),(1,.int .i64 b.2.2)],[(b.1,.arr 5 1 (b.2.1.map aH))]⟩) (fun b=>b.2.1++sB b.2.2=vs++sB n∧ -9223372036854775808≤b.2.2∧b.2.2≤9223372036854775807) (fun b=>b.2.2.natAbs) ?_ (fun P=> ?_)
 ·rintro⟨r,us,m⟩ ⟨he,hm,hm2⟩;simp only at he hm hm2⊢;have hcl:us.length+(sB m).length=vs.length+(sB n).length:=by rw[←List.length_append,he,List.length_append]
  have hup:=OC m;have hc7:=aB7 m;refine bH ?_;refine z0 ?_;refine z3 ?_;refine cI ?_;rw[SM];refine hX ?_;refine z2 ?_;refine cI ?_;rw[aFD];refine hX ?_;refine lo (bY (E rfl) (E rfl)) rfl ?_;refine mU ?_;refine z5 ?_;refine z6 ?_;refine z7 ?_;refine mU ?_;refine z6 ?_;refine z8 ?_;refine z9 ?_;refine z10 ?_;refine z11 ?_;refine z12 ?_;refine JL ?_;refine gQ ?_;rw[VI hc7];have hb64:(-64≤m∧m≤63)↔(m / 128=0∧cS m<64∨m / 128=-1∧¬cS m<64):=by unfold cS;omega
  refine aC rfl (fun h=> ?_) (fun h=> ?_)
  ·have h1:-64≤m∧m≤63:=by
    rw[hb64];by_cases h6:cS m<64<;>simp[h6]at h⊢<;>omega
   rw[uG h1]at he;refine dB ?_;refine eP fun r29 h29=> ?_;intros
   apply ap (es':=(vs++sB n).map aH) (len':=(vs++sB n).length);rfl;rfl;exact bF
   ·simp
   ·exact .inr (.inr ⟨_,_,_,_,_,rfl,bF,by simp,rfl⟩)
   ·rw[←he,←sC];rfl
   ·rw[←he];simp
   ·simp[maxLen];omega
   ·simp;omega
   ·rfl
   refine dG fun r30 h30=> ?_;intros
   refine cI ?_;refine sF ?_;exact aE aF ⟨r30,by rfl,rfl⟩ aA
  ·have h1:¬(-64≤m∧m≤63):=by
    rw[hb64];by_cases h6:cS m<64<;>simp[h6]at h⊢<;>omega
   have hcl2:us.length+(sB (m / 128)).length+1=vs.length+(sB n).length:=by rw[zH h1]at hcl;simp at hcl;omega
   rw[zH h1]at he;refine dB ?_;refine lo (vK (E rfl) (E rfl)) rfl ?_;refine eP fun r34 h34=> ?_;intros
   apply ap (es':=(us++ [cS m+128]).map aH) (len':=(us++ [cS m+128]).length);rfl;rfl;exact bF
   ·simp
   ·exact .inr (.inr ⟨_,_,_,_,_,rfl,bF,by simp,rfl⟩)
   ·rw[←sC,VJ];rfl
   ·simp
   ·simp[maxLen];omega
   ·simp;omega
   ·rfl
   refine dG fun r35 h35=> ?_;intros
   refine cI ?_;refine sF ?_;refine⟨(r35,us++ [cS m+128],m / 128),⟨?_, ?_⟩, ?_, ?_⟩
   ·simpa[cS]using he
   ·show _ ≤m / 128∧m / 128≤ _;omega
   ·show(m / 128).natAbs<m.natAbs;omega
   ·exact aN
 ·refine P (q,vs,n) _ ⟨rfl,hn⟩ ?_;exact aN
def BQ (n:Nat) (r:Nat×Int):Nat×Int:=if r.2=0 then(r.1+n,0)else r
theorem SN(r:Nat×Int):BQ 0 r=r:=by obtain⟨x,y⟩:=r;unfold BQ;split<;>simp_all
theorem VK(n k:Nat)(r:Nat×Int):BQ n (BQ k r)=BQ (n+k) r:=by
 unfold BQ;by_cases h:r.2=0<;>simp[h];omega
theorem SO{l:List Nat}{m n:Nat}(h1:n<m)(h2:n<l.length):dO (l.drop n) (m-n)=if l[n]! <128 then(1,0)else BQ 1 (dO (l.drop (n+1)) (m-(n+1))):=by
 rw[List.drop_eq_getElem_cons h2,show m-n=(m-(n+1))+1 by omega,dO,getElem!_pos l n h2];rfl
theorem SP{l:List Nat}:dO l 0=(0,1):=by cases l<;>rfl
theorem VL{m:Nat}(h:0<m):dO [] m=(0,2):=by
 cases m with
 |zero=>omega
 |succ m=>rfl
theorem pH(l:List Nat)(hl:l.length≤1000000)(bits:Int)(m:Nat)(hm:bits=32∧m=5∨bits=64∧m=10):SCall Tryz.prog 257 [.ro 1 (l.map aH) .any,.int .i64 bits] []
  (fun x σ=>x=.tup [.int .i64 ((dO l m).1:Nat),.int .i64 (dO l m).2]∧σ=[]):=by
 have hq:IntKind.i64.wrap ((bits+7-1).tdiv 7)=m:=by rcases hm with⟨rfl,rfl⟩|⟨rfl,rfl⟩<;>decide
 refine bO 37 [0,1,4,5,6,7,13,18,22,27] Tryz.func257 ?_;refine mA ?_;refine scj (β:=Nat) 0 rfl (fun b=>⟨[(0,.ro 1 (l.map aH) .any),(6,.int .i64 b),(7,.int .i64 m)],[]⟩) (fun b=>b≤m∧b≤l.length∧dO l m=BQ b (dO (l.drop b) (m-b))) (fun b=>m-b) ?_ (fun P=> ?_)
 ·rintro n ⟨hn1,hn2,he⟩;try dsimp only at hn1 hn2 he⊢
  refine dB ?_;refine sq6 ?_;refine aC rfl (fun h=> ?_) (fun h=> ?_)
  ·obtain rfl:n=m:=by simp at h;omega
   rw[Nat.sub_self,SP]at he;refine mA ?_;refine sF ?_;apply aE;exact aF
   ·rw[he];exact⟨rfl,rfl⟩
   ·exact aA
  have h1:n<m:=by simp at h;omega
  refine dB ?_;refine oG ?_;refine sq6 ?_;refine aC rfl (fun h=> ?_) (fun h=> ?_)
  ·obtain rfl:n=l.length:=by simp at h;omega
   rw[List.drop_length,VL (by omega)]at he;refine mA ?_;refine sF ?_;apply aE;exact aF
   ·rw[he];exact⟨rfl,rfl⟩
   ·exact aA
  have h2:n<l.length:=by simp at h;omega
  rw[SO h1 h2]at he;refine dB ?_;refine qG ?_;refine uD ?_;refine aC rfl (fun h=> ?_) (fun h=> ?_)
  ·have h3:¬l[n]! <128:=by rw[Int.toNat_natCast]at h;first|(have:=of_decide_eq_true h;omega)|(have:=of_decide_eq_false h;omega)
   rw[if_neg h3,VK]at he;refine bH ?_;refine DL ?_;refine cI ?_;refine sF ?_;refine⟨n+1,⟨by omega,by omega,he⟩,by omega, ?_⟩;exact aN
  ·have h3:l[n]! <128:=by rw[Int.toNat_natCast]at h;first|(have:=of_decide_eq_true h;omega)|(have:=of_decide_eq_false h;omega)
   rw[if_pos h3]at he;refine bH ?_;refine DL ?_;refine rZ ?_;refine sF ?_;apply aE;exact aF
   ·rw[he,show BQ n (1,0)=(n+1,0) by simp[BQ,Nat.add_comm]];exact⟨rfl,rfl⟩
   ·exact aA
 ·refine bH ?_;refine lo (fJ (E rfl) (E rfl)) rfl ?_;refine mU ?_;refine z18 ?_;refine JL ?_;refine gQ ?_;refine aC rfl (fun h=> ?_) (fun h=> ?_)
  ·exfalso;simp at h;omega
  refine bH ?_;refine DL ?_;refine zD ?_;refine z20 ?_;refine KG ?_;refine an ?_;rw[hq];refine P 0 _ ⟨by omega,by omega,by simp[SN]⟩ ?_;exact aN
theorem KR(a c:List Nat)(ha:∀x∈a,x<256)(hc:∀x∈c,x<256):SCall Tryz.prog 258 [.ro 1 (a.map aH) .any,.ro 1 (c.map aH) .any] []
  (fun x σ=>x=.bool (decide (c=a))∧σ=[]):=by
 refine bO 10 [0,1,4] Tryz.func258 ?_;refine kM ?_;refine lo (pE (e:=5) (bs:=a) (E rfl)) rfl ?_;refine lo (aD (E rfl)) rfl ?_;refine lo (pE (e:=5) (bs:=c) (E rfl)) rfl ?_;refine lo (qP (E rfl) (E rfl)) rfl ?_;refine cI ?_;apply aE;exact aF
 ·refine⟨?_,rfl⟩;rw[mS ha hc];show AV.bool _=_
  congr 1
  rw[decide_eq_decide];exact eq_comm
 ·exact aA
theorem aAt{n:Nat}(hn:n<18446744073709551616):IntKind.u64.wrap (n:Int)=n:=by rw[IntKind.wrap_u64];omega
theorem VM(n:Nat)(hn:n<18446744073709551616):SCall Tryz.prog 239 [.ro 0 [] .nil,.int .u64 n] []
  (fun x σ=>∃r,x=.own r 0 (uB n).length∧σ=[(r,.arr 5 1 ((uB n).map aH))]):=
 fP (e:=5) (sz:=1) (by decide) fun q _=>kO q [] (by simp) n hn
theorem VN(n:Int)(hn:-9223372036854775808≤n∧n≤9223372036854775807):SCall Tryz.prog 296 [.ro 0 [] .nil,.int .i64 n] []
  (fun x σ=>∃r,x=.own r 0 (sB n).length∧σ=[(r,.arr 5 1 ((sB n).map aH))]):=
 fP (e:=5) (sz:=1) (by decide) fun q _=>KQ q [] (by simp) n hn
theorem uH{l:List Nat}(h:∀x∈l,x<256)(i:Nat):l[i]! <256:=by
 by_cases hi:i<l.length
 ·rw[getElem!_pos l i hi];exact h _ (List.getElem_mem hi)
 ·simp[hi]
theorem DR{l:List Nat}{k c:Nat}(h:c<k)(hk:k≤l.length):(l.take k).drop c=l[c]! ::(l.take k).drop (c+1):=by
 have h1:c<(l.take k).length:=by simp;omega
 rw[List.drop_eq_getElem_cons h1,List.getElem_take,getElem!_pos l c (by omega)]
theorem DS{n:Nat}(hn:n<18446744073709551616):(BitVec.ofInt IntKind.u64.bits (n:Int)).toNat=n:=by
 rw[BitVec.toNat_ofInt];simp[IntKind.bits];omega
theorem aFE{x y:Nat}(hx:x<34359738368)(hy:y<256):IntKind.u64.wrap ↑(BitVec.ofInt IntKind.u64.bits (IntKind.u64.wrap ((x:Int)*2^min (Int.toNat 7) IntKind.u64.bits))|||BitVec.ofInt IntKind.u64.bits (((y%128:Nat):Int))).toNat=((y%128+128*x:Nat):Int):=by
 have h0:(2:Int)^min (Int.toNat 7) IntKind.u64.bits=128:=by decide
 have h1:IntKind.u64.wrap ((x:Int)*128)=((x*128:Nat):Int):=by rw[IntKind.wrap_u64];omega
 rw[h0,h1,BitVec.toNat_or,DS (by omega),DS (by omega),show x*128=2^7*x by omega,←Nat.two_pow_add_eq_or_of_lt (by omega),IntKind.wrap_u64];omega
theorem aFF{x:Nat}:(x:Int).fdiv (2^min (Int.toNat 32) IntKind.u64.bits)=((x / 4294967296:Nat):Int):=by
 have:(2:Int)^min (Int.toNat 32) IntKind.u64.bits=4294967296:=by decide
 rw[this,Int.fdiv_eq_ediv_of_nonneg _ (by omega)];omega
theorem KS{l:List Nat}{k c:Nat}(hk:k≤5):tE ((l.take k).drop c)<34359738368:=by
 have h1:=PZ ((l.take k).drop c);have h2:((l.take k).drop c).length≤5:=by simp;omega
 exact Nat.lt_of_lt_of_le h1 (Nat.le_trans (Nat.pow_le_pow_right (by decide) h2) (by decide))
theorem aB8(l:List Nat)(hl:l.length≤1000000)(hlt:∀x∈l,x<256):SCall Tryz.prog 166 [.ro 1 (l.map aH) .any,.int .i64 32] []
  (fun x σ=>x=.tup [.int .u64 ((jH l).1:Nat),.int .i64 ((jH l).2.1:Nat),.int .i64 (jH l).2.2]∧σ=[]):=by
 refine bO 53 [0,1,4,5,6,7,8,9,10,18,22,50] Tryz.func166 ?_;refine cV ?_;refine lS ?_;refine scj (β:=Nat) 0 rfl (fun b=>⟨[(0,.ro 1 (l.map aH) .any),(1,.int .i64 32),(7,.int .i64 ((dO l 5).1:Nat)),(9,.int .u64 (tE ((l.take (dO l 5).1).drop b):Nat)),(10,.int .i64 b)],[]⟩) (fun b=>b≤(dO l 5).1∧(dO l 5).2=0) (fun b=>b) ?_ (fun P=> ?_)
 ·rintro n ⟨hn1,hk0⟩;try dsimp only at hn1 hk0⊢
  obtain⟨hk1,hk2,hk3⟩:=sA l 5 hk0;generalize hk:(dO l 5).1=k at*;refine xJ ?_;refine gQ ?_;refine aC rfl (fun h=> ?_) (fun h=> ?_)
  ·obtain⟨c,rfl⟩:∃c,n=c+1:=⟨n-1,by simp at h;omega⟩
   refine bH ?_;refine zD ?_;refine cI ?_;rw[show((c+1:Nat):Int)-1=(c:Nat) by omega];refine hX ?_;refine z23 ?_;refine lo (aD (E rfl)) rfl ?_;refine tC ?_;refine KC ?_;refine z3 ?_;refine SE ?_;refine lo (vK (E rfl) (E rfl)) rfl ?_;refine cI ?_;rw[Int.toNat_natCast,tF (uH hlt c),aAt (n:=l[c]! %128) (by omega),aFE (KS hk2) (uH hlt c)];refine sF ?_;refine⟨c,⟨by omega,hk0⟩,by omega, ?_⟩;rw[DR (c:=c) (by omega) hk3,tE];exact aN
  ·obtain rfl:n=0:=by simp at h;omega
   rw[List.drop_zero];have hv:tE (l.take k)<34359738368:=KS (c:=0) hk2;generalize hx:tE (l.take k)=x at hv⊢;refine aJ ?_;refine hU [(0,true),(1,true),(2,true),(3,true),(4,false),(5,false),(6,true),(7,true),(8,true),(9,true),(10,true),(11,true),(12,true),(13,true),(14,true),(15,true),(16,true)] ?_;refine sH ?_;refine z25 ?_;refine fO rfl (aD (E rfl)) rfl ?_;refine nR [] rfl Tryz.call239 (VM x (by omega)) rfl ?_ ?_ ?_ ?_
   ·exact aB
   ·exact aA
   ·exact eU
   rintro _ σ' ⟨r,rfl,rfl⟩ hr
   replace hr:=fU hr;repeat rcases hr with⟨_,hr⟩
   apply dY;exact bX;refine dpu [r] rfl Tryz.call258 (KR (l.take k) (uB x) (fun y hy=>hlt y (List.mem_of_mem_take hy)) (jG x)) rfl ?_ aW ?_
   ·exact aQ
   refine fO rfl (fA (E rfl)) rfl ?_;refine fO rfl (aD (E rfl)) rfl ?_;refine z26 ?_;refine z27 ?_;refine z28 ?_;refine z29 ?_;refine z29 ?_;refine z30 ?_;refine z31 ?_;refine z32 ?_;refine z33 ?_;refine qH ?_;have hc:(if(!decide (uB x=l.take k))=true then true else(x:Int).fdiv (2^min (Int.toNat 32) IntKind.u64.bits) !=0)= !decide (uB x=l.take k∧x<4294967296):=by
    rw[aFF];by_cases h1:uB x=l.take k
    ·by_cases h2:x<4294967296
     ·simp[h1,h2];omega
     ·simp[h1,h2];omega
    ·simp[h1]
   rw[hc];refine aC rfl (fun h=> ?_) (fun h=> ?_)
   ·have h1:¬(uB x=l.take k∧x<4294967296):=by
     rintro⟨h1,h2⟩;simp[h1]at h;omega
    refine cV ?_;refine lS ?_;refine sF ?_;apply aE;exact aF
    ·unfold jH;rw[if_neg (by rw[hk0];simp),hk,hx,if_neg h1];exact⟨rfl,rfl⟩
    ·exact aA
   ·have h1:uB x=l.take k∧x<4294967296:=by simpa using h
    refine dB ?_;refine lS ?_;refine sF ?_;apply aE;exact aF
    ·unfold jH;rw[if_neg (by rw[hk0];simp),hk,hx,if_pos h1];exact⟨rfl,rfl⟩
    ·exact aA
 ·refine dB ?_
  (first|refine pu [] Tryz.call257 (pH l hl 32 5 (.inl ⟨rfl,rfl⟩)) rfl bM aW ?_ |refine sZ [] rfl rfl Tryz.call257 (fun _=>(pH l hl 32 5 (.inl ⟨rfl,rfl⟩))) rfl bM aW ?_);refine qX ?_;refine nI ?_;refine qF ?_;refine aC rfl (fun h=> ?_) (fun h=> ?_)
  ·have h1:(dO l 5).2≠0:=by simpa using h
   refine bH ?_;refine lS ?_;refine sF ?_;apply aE;exact aF
   ·unfold jH;rw[if_pos h1];exact⟨rfl,rfl⟩
   ·exact aA
  ·have h1:(dO l 5).2=0:=by simpa using h
   refine bH ?_;refine KG ?_;refine an ?_;refine P (dO l 5).1 _ ⟨Nat.le_refl _,h1⟩ ?_;rw[show(l.take (dO l 5).1).drop (dO l 5).1=[] by rw[List.drop_eq_nil_iff];simp;omega];exact aN
theorem aAu:∀(l:List Nat),-9223372036854775808≤jO l∧jO l≤9223372036854775807
 |[]=>by simp[jO]
 |[b]=>by rw[jO];split<;>omega
 |b::c::t=>by rw[jO,IntKind.wrap_i64];omega
def sv (l:List Nat) (k c:Nat):Int:=if c<k then jO ((l.take k).drop c)else if 64≤l[k-1]! %128 then-1 else 0
theorem aAv{l:List Nat}{k:Nat}(hk:1≤k):sv l k 0=jO (l.take k):=by
 unfold sv;rw[if_pos (by omega),List.drop_zero]
theorem aAw{l:List Nat}{k c:Nat}(h:c<k)(hk:k≤l.length):sv l k c=IntKind.i64.wrap (sv l k (c+1)*128+((l[c]! %128:Nat):Int)):=by
 unfold sv;rw[if_pos h,DR h hk];by_cases h1:c+1<k
 ·rw[if_pos h1,DQ _ (by simp;omega)]
 ·obtain rfl:k=c+1:=by omega
  rw[if_neg h1,show(l.take (c+1)).drop (c+1)=[] by rw[List.drop_eq_nil_iff];simp;omega,jO,Nat.add_sub_cancel];generalize l[c]! =y;split<;>rw[IntKind.wrap_i64]<;>omega
theorem DT(y:Int):(BitVec.ofInt IntKind.i64.bits y).toNat=(y%18446744073709551616).toNat:=by
 rw[BitVec.toNat_ofInt];simp[IntKind.bits]
theorem aDc{x:Int}{y:Nat}:IntKind.i64.wrap ↑(BitVec.ofInt IntKind.i64.bits (IntKind.i64.wrap (x*2^min (Int.toNat 7) IntKind.i64.bits))|||BitVec.ofInt IntKind.i64.bits (((y%128:Nat):Int))).toNat=IntKind.i64.wrap (x*128+((y%128:Nat):Int)):=by
 have h0:(2:Int)^min (Int.toNat 7) IntKind.i64.bits=128:=by decide
 obtain⟨z,hz⟩:∃z:Nat,(IntKind.i64.wrap (x*128)%18446744073709551616).toNat=2^7*z:=by
  refine⟨(IntKind.i64.wrap (x*128)%18446744073709551616).toNat / 128, ?_⟩;rw[IntKind.wrap_i64];omega
 have h2:(((y%128:Nat):Int)%18446744073709551616).toNat=y%128:=by omega
 rw[h0,BitVec.toNat_or,DT,DT,hz,h2,←Nat.two_pow_add_eq_or_of_lt (by omega)];rw[IntKind.wrap_i64]at hz;rw[IntKind.wrap_i64,IntKind.wrap_i64];omega
theorem SQ{x:Nat}(h:x<256):IntKind.u8.wrap ↑(BitVec.ofInt IntKind.u8.bits (x:Int)&&&BitVec.ofInt IntKind.u8.bits 64).toNat=if x%128<64 then 0 else 64:=by
 have h1:∀x<256,x&&&64=if x%128<64 then 0 else 64:=by decide
 rw[BitVec.toNat_and,FN (by omega),show(BitVec.ofInt IntKind.u8.bits 64).toNat=64 by decide,h1 x h,IntKind.wrap_u8];split<;>rfl
theorem SS{n:Nat}(h:n<256):IntKind.i64.wrap (n:Int)=n:=by rw[IntKind.wrap_i64];omega
theorem KT{bits:Nat}(hb:bits=32∨bits=64):(bits:Int)=32∧kT bits=5∨(bits:Int)=64∧kT bits=10:=by
 rcases hb with rfl|rfl
 ·exact .inl ⟨rfl,rfl⟩
 ·exact .inr ⟨rfl,rfl⟩
theorem aHF{bits:Nat}(hb:bits=32∨bits=64){x:Int}(hv:-9223372036854775808≤x∧x≤9223372036854775807):(x.fdiv (2^min ((bits:Int)-1).toNat IntKind.i64.bits)=0∨x.fdiv (2^min ((bits:Int)-1).toNat IntKind.i64.bits)=-1)↔(bits=32→ -2147483648≤x∧x≤2147483647):=by
 rcases hb with rfl|rfl
 ·rw[show(2:Int)^min (((32:Nat):Int)-1).toNat IntKind.i64.bits=2147483648 by decide,Int.fdiv_eq_ediv_of_nonneg _ (by omega)];omega
 ·rw[show(2:Int)^min (((64:Nat):Int)-1).toNat IntKind.i64.bits=9223372036854775808 by decide,Int.fdiv_eq_ediv_of_nonneg _ (by omega)];omega
theorem aAx{bits:Nat}{l:List Nat}{k:Nat}(hk0:(dO l (kT bits)).2=0)(hk:(dO l (kT bits)).1=k)(h:¬(sB (jO (l.take k))=l.take k∧(bits=32→ -2147483648≤jO (l.take k)∧jO (l.take k)≤2147483647))):sJ bits l=(0,0,1):=by
 unfold sJ;rw[if_neg (by rw[hk0];simp),hk,if_neg h]
theorem VO{bits:Nat}{l:List Nat}{k:Nat}(hk0:(dO l (kT bits)).2=0)(hk:(dO l (kT bits)).1=k)(h:sB (jO (l.take k))=l.take k∧(bits=32→ -2147483648≤jO (l.take k)∧jO (l.take k)≤2147483647)):sJ bits l=(jO (l.take k),k,0):=by
 unfold sJ;rw[if_neg (by rw[hk0];simp),hk,if_pos h]
theorem aFG(l:List Nat)(hl:l.length≤1000000)(hlt:∀x∈l,x<256)(bits:Nat)(hb:bits=32∨bits=64):SCall Tryz.prog 322 [.ro 1 (l.map aH) .any,.int .i64 bits] []
  (fun x σ=>x=.tup [.int .i64 (sJ bits l).1,.int .i64 ((sJ bits l).2.1:Nat),.int .i64 (sJ bits l).2.2]∧σ=[]):=by
 refine bO 63 [0,1,4,5,6,7,8,9,10,11,19,28,30,60] Tryz.func322 ?_;refine cV ?_;refine lS ?_;obtain⟨m,hm⟩:∃m,m=kT bits:=⟨_,rfl⟩
 have hlen:dO l (kT bits)=dO l m:=by rw[hm]
 refine scj (β:=Nat) 0 rfl (fun b=>⟨[(0,.ro 1 (l.map aH) .any),(1,.int .i64 bits),(7,.int .i64 ((dO l m).1:Nat)),(9,.int .i64 (sv l (dO l m).1 b)),(10,.int .i64 b)],[]⟩) (fun b=>b≤(dO l m).1∧(dO l m).2=0) (fun b=>b) ?_ (fun P=> ?_)
 ·rintro n ⟨hn1,hk0⟩;try dsimp only at hn1 hk0⊢
  obtain⟨hk1,hk2,hk3⟩:=sA l m hk0;generalize hk:(dO l m).1=k at*;refine xJ ?_;refine gQ ?_;refine aC rfl (fun h=> ?_) (fun h=> ?_)
  ·obtain⟨c,rfl⟩:∃c,n=c+1:=⟨n-1,by simp at h;omega⟩
   refine bH ?_;refine zD ?_;refine cI ?_;rw[show((c+1:Nat):Int)-1=(c:Nat) by omega];refine hX ?_;refine z23 ?_;refine lo (aD (E rfl)) rfl ?_;refine tC ?_;refine KC ?_;refine z3 ?_;refine z44 ?_;refine lo (vK (E rfl) (E rfl)) rfl ?_;refine cI ?_;rw[Int.toNat_natCast,tF (uH hlt c),SS (n:=l[c]! %128) (by omega),aDc,←aAw (by omega) hk3];refine sF ?_;refine⟨c,⟨by omega,hk0⟩,by omega, ?_⟩;exact aN
  ·obtain rfl:n=0:=by simp at h;omega
   rw[aAv hk1];have hv:=aAu (l.take k);generalize hx:jO (l.take k)=x at hv⊢;refine dB ?_;refine zD ?_;refine z2 ?_;refine cI ?_;refine hU [(0,true),(1,true),(2,true),(3,true),(4,false),(5,false),(6,true),(7,true),(8,true),(9,true),(10,true),(11,true),(12,true),(13,true),(14,true)] ?_;refine sH ?_;refine z25 ?_;refine fO rfl (aD (E rfl)) rfl ?_;refine nR [] rfl Tryz.call296 (VN x hv) rfl ?_ ?_ ?_ ?_
   ·exact aB
   ·exact aA
   ·exact eU
   rintro _ σ' ⟨r,rfl,rfl⟩ hr
   replace hr:=fU hr;repeat rcases hr with⟨_,hr⟩
   apply dY;exact bX;refine dpu [r] rfl Tryz.call258 (KR (l.take k) (sB x) (fun y hy=>hlt y (List.mem_of_mem_take hy)) (aB6 _ x (Nat.le_refl _))) rfl ?_ aW ?_
   ·exact aQ
   refine fO rfl (fA (E rfl)) rfl ?_;refine fO rfl (aD (E rfl)) rfl ?_;refine z26 ?_;refine z45 ?_;refine z28 ?_;refine z29 ?_;refine z31 ?_;refine z32 ?_;refine z33 ?_;refine qH ?_;have ht:=aHF hb hv;generalize x.fdiv (2^min ((bits:Int)-1).toNat IntKind.i64.bits)=y at ht⊢;refine aC rfl (fun h=> ?_) (fun h=> ?_)
   ·have h1:¬(sB x=l.take k∧(bits=32→ -2147483648≤x∧x≤2147483647)):=by
     rintro⟨h1,h2⟩;rcases ht.2 h2 with rfl|rfl<;>simp[h1]at h
    rw[←hx]at h1;refine cV ?_;refine lS ?_;refine sF ?_;apply aE;exact aF
    ·rw[aAx (by rw[hlen];exact hk0) (by rw[hlen];exact hk) h1];exact⟨rfl,rfl⟩
    ·exact aA
   ·have h1:sB x=l.take k∧(bits=32→ -2147483648≤x∧x≤2147483647):=by
     by_cases h2:sB x=l.take k
     ·refine⟨h2,ht.1 ?_⟩;by_cases h3:y=0
      ·exact .inl h3
      ·exact .inr (by simpa[h2,h3]using h)
     ·simp[h2]at h
    rw[←hx]at h1;refine dB ?_;refine lS ?_;refine sF ?_;apply aE;exact aF
    ·rw[VO (by rw[hlen];exact hk0) (by rw[hlen];exact hk) h1,hx];exact⟨rfl,rfl⟩
    ·exact aA
 ·refine dB ?_
  (first|refine pu [] Tryz.call257 (pH l hl bits m (by rw[hm];exact KT hb)) rfl bM aW ?_ |refine sZ [] rfl rfl Tryz.call257 (fun _=>(pH l hl bits m (by rw[hm];exact KT hb))) rfl bM aW ?_);refine qX ?_;refine nI ?_;refine qF ?_;refine aC rfl (fun h=> ?_) (fun h=> ?_)
  ·have h1:(dO l m).2≠0:=by simpa using h
   refine bH ?_;refine lS ?_;refine sF ?_;apply aE;exact aF
   ·unfold sJ;rw[hlen,if_pos h1];exact⟨rfl,rfl⟩
   ·exact aA
  ·have hk0:(dO l m).2=0:=by simpa using h
   obtain⟨hk1,hk2,hk3⟩:=sA l m hk0;have hsv:sv l (dO l m).1 (dO l m).1=if 64≤l[(dO l m).1-1]! %128 then-1 else 0:=by unfold sv;rw[if_neg (by omega)]
   obtain⟨j,hj⟩:∃j,(dO l m).1=j+1:=⟨(dO l m).1-1,by omega⟩
   rw[hj]at hsv P hk1 hk2 hk3⊢;rw[Nat.add_sub_cancel]at hsv;refine bH ?_;refine rZ ?_;refine jX ?_;refine zD ?_;rw[show((j+1:Nat):Int)-1=(j:Nat) by omega];refine qG ?_;refine lo (kF (E rfl) (E rfl)) rfl ?_;refine qF ?_;rw[Int.toNat_natCast,SQ (uH hlt j)];refine aC rfl (fun h=> ?_) (fun h=> ?_)
   ·have h2:64≤l[j]! %128:=by
     by_cases h3:l[j]! %128<64
     ·rw[if_pos h3]at h;simp at h
     ·omega
    rw[if_pos h2]at hsv;refine iD ?_;refine lZ ?_;refine P (j+1) _ ⟨Nat.le_refl _,hk0⟩ ?_;rw[hsv];exact aN
   ·have h2:¬64≤l[j]! %128:=by
     by_cases h3:l[j]! %128<64
     ·omega
     ·rw[if_neg h3]at h;simp at h
    rw[if_neg h2]at hsv;refine ck ?_;refine an ?_;refine P (j+1) _ ⟨Nat.le_refl _,hk0⟩ ?_;rw[hsv];exact aN
def aL (n:Int):List AV:=[.int .i64 n]
def vI (n a b:Int):Bool:=if decide (a≤n)=true then decide (n≤b)else false
theorem cC(n a b:Int):SCall Tryz.prog 270 [.int .i64 n,.int .i64 a,.int .i64 b] [] (fun x σ=>x=.bool (vI n a b)∧σ=[]):=by
 refine bO 15 [0,1,2,6] Tryz.func270 ?_;refine jF ?_;refine lo (eW (E rfl) (E rfl)) rfl ?_;refine mU ?_;refine z4 ?_;refine z54 ?_;refine z7 ?_;refine cI ?_;exact aE aF ⟨by rfl,rfl⟩ aA
def DU (op:Int):Int×Int:=
 if(vI op 69 79||vI op 103 120)=true then(1,op)else if vI op 80 90=true then(2,IntKind.i64.wrap (IntKind.i64.wrap (op-80)+69))else if vI op 121 138=true then(2,IntKind.i64.wrap (IntKind.i64.wrap (op-121)+103))else(0,0)
theorem FO(op:Int):SCall Tryz.prog 269 [.int .i64 op] [] (fun x σ=>x=.tup [.int .i64 (DU op).1,.int .i64 (DU op).2]∧σ=[]):=by
 refine bO 22 [0,2,3,4,10,16] Tryz.func269 ?_;refine cV ?_;refine nI ?_
 (first|refine ln rfl rfl rfl rfl ?_ |refine lw rfl rfl (bN (v:=.bool false)) rfl ?_ |refine pu [] Tryz.call270 (cC _ _ _) rfl bM aW ?_ |refine sZ [] rfl rfl Tryz.call270 (fun _=>(cC _ _ _)) rfl bM aW ?_ |refine AZ [] rfl rfl Tryz.call270 (fun _=>(cC _ _ _)) rfl bM aW ?_);refine cI ?_;apply kW rfl;exact fL
 ·intro _;(refine aJ ?_);refine hX ?_
  (first|refine ln rfl rfl rfl rfl ?_ |refine lw rfl rfl (bN (v:=.bool false)) rfl ?_ |refine pu [] Tryz.call270 (cC _ _ _) rfl bM aW ?_ |refine sZ [] rfl rfl Tryz.call270 (fun _=>(cC _ _ _)) rfl bM aW ?_ |refine AZ [] rfl rfl Tryz.call270 (fun _=>(cC _ _ _)) rfl bM aW ?_);refine cI ?_;exact aN
 refine aJ ?_;refine aC rfl (fun g1=> ?_) (fun g1=> ?_)
 ·refine bH ?_;refine rZ ?_;apply aE;exact aF
  ·(unfold DU;simp only[g1,if_true,if_false,Bool.false_eq_true];exact⟨rfl,rfl⟩)
  ·exact aA
 refine bH ?_
 (first|refine ln rfl rfl rfl rfl ?_ |refine lw rfl rfl (bN (v:=.bool false)) rfl ?_ |refine pu [] Tryz.call270 (cC _ _ _) rfl bM aW ?_ |refine sZ [] rfl rfl Tryz.call270 (fun _=>(cC _ _ _)) rfl bM aW ?_ |refine AZ [] rfl rfl Tryz.call270 (fun _=>(cC _ _ _)) rfl bM aW ?_);refine cI ?_;refine aC rfl (fun g2=> ?_) (fun g2=> ?_)
 ·refine bH ?_;refine zD ?_;refine DL ?_;refine rZ ?_;apply aE;exact aF
  ·(unfold DU;simp only[g1,g2,if_true,if_false,Bool.false_eq_true];exact⟨rfl,rfl⟩)
  ·exact aA
 refine bH ?_
 (first|refine ln rfl rfl rfl rfl ?_ |refine lw rfl rfl (bN (v:=.bool false)) rfl ?_ |refine pu [] Tryz.call270 (cC _ _ _) rfl bM aW ?_ |refine sZ [] rfl rfl Tryz.call270 (fun _=>(cC _ _ _)) rfl bM aW ?_ |refine AZ [] rfl rfl Tryz.call270 (fun _=>(cC _ _ _)) rfl bM aW ?_);refine cI ?_;refine aC rfl (fun g3=> ?_) (fun g3=> ?_)
 ·refine bH ?_;refine zD ?_;refine DL ?_;refine rZ ?_;apply aE;exact aF
  ·(unfold DU;simp only[g1,g2,g3,if_true,if_false,Bool.false_eq_true];exact⟨rfl,rfl⟩)
  ·exact aA
 refine mA ?_;apply aE;exact aF
 ·(unfold DU;simp only[g1,g2,g3,if_true,if_false,Bool.false_eq_true];exact⟨rfl,rfl⟩)
 ·exact aA
def kN (op:Int):List Int×Int×Bool:=
 if(op==167)=true then([2],1,true)else if(op==172||op==173)=true then([1],2,true)
 else if((DU op).1==0)=true then([],0,false)else if((DU op).2==69)=true then([(DU op).1],1,true)
 else if vI (DU op).2 70 79=true then([(DU op).1,(DU op).1],1,true)else if vI (DU op).2 103 105=true then([(DU op).1],(DU op).1,true)
 else([(DU op).1,(DU op).1],(DU op).1,true)
def rF (r:List Int×Int×Bool) (x:AV) (σ:cR):Prop:=
 if r.2.2=true then∃q,x=.tup [.own q 0 r.1.length,.int .i64 r.2.1,.bool true]∧σ=[(q,.arr 3 1 (r.1.map aL))]else x=.tup [.ro 0 [] .nil,.int .i64 0,.bool false]∧σ=[]
theorem jP{l:List Int}{r:Int}{q:Nat}{x:AV}{σ:cR}(hx:x=.tup [.own q 0 l.length,.int .i64 r,.bool true])(hs:σ=[(q,.arr 3 1 (l.map aL))]):rF (l,r,true) x σ:=by
 unfold rF;rw[if_pos rfl];exact⟨q,hx,hs⟩
theorem kZ{l:List Int}{r:Int}{x:AV}{σ:cR}(hx:x=.tup [.ro 0 [] .nil,.int .i64 0,.bool false])(hs:σ=[]):rF (l,r,false) x σ:=by
 unfold rF;rw[if_neg (by simp)];exact⟨hx,hs⟩
theorem tG(op:Int):SCall Tryz.prog 200 [.int .i64 op] [] (rF (kN op)):=by
 refine bO 44 [0,2,3,4,5,6,7,8,11,20,23,28,34] Tryz.func200 ?_;refine cV ?_;refine lS ?_;refine hX ?_;refine iI ?_;refine dH ?_;refine aC rfl (fun g1=> ?_) (fun g1=> ?_)
 ·refine cV ?_;refine eP fun r10 h10=> ?_;intros
  refine lS ?_;apply aE;exact aF
  ·(unfold kN;simp only[g1,if_true,if_false,Bool.false_eq_true];first|exact jP rfl rfl|exact kZ rfl rfl)
  ·exact aA
 refine dH ?_;apply kW rfl;exact fL
 ·intro _;(refine aJ ?_);refine kL ?_;exact aN
 refine aJ ?_;refine aC rfl (fun g2=> ?_) (fun g2=> ?_)
 ·refine cV ?_;refine eP fun r14 h14=> ?_;intros
  refine lS ?_;apply aE;exact aF
  ·(unfold kN;simp only[g1,g2,if_true,if_false,Bool.false_eq_true];first|exact jP rfl rfl|exact kZ rfl rfl)
  ·exact aA
 refine bH ?_
 (first|refine ln rfl rfl rfl rfl ?_ |refine lw rfl rfl (bN (v:=.bool false)) rfl ?_ |refine pu [] Tryz.call269 (FO _) rfl bM aW ?_ |refine sZ [] rfl rfl Tryz.call269 (fun _=>(FO _)) rfl bM aW ?_ |refine AZ [] rfl rfl Tryz.call269 (fun _=>(FO _)) rfl bM aW ?_);refine qX ?_;refine nI ?_;refine sq6 ?_;refine aC rfl (fun g3=> ?_) (fun g3=> ?_)
 ·refine cV ?_;refine lS ?_;apply aE;exact aF
  ·(unfold kN;simp only[g1,g2,g3,if_true,if_false,Bool.false_eq_true];first|exact jP rfl rfl|exact kZ rfl rfl)
  ·exact aA
 refine bH ?_;refine sq6 ?_;refine aC rfl (fun g4=> ?_) (fun g4=> ?_)
 ·refine bH ?_;refine eP fun r27 h27=> ?_;intros
  refine lS ?_;apply aE;exact aF
  ·(unfold kN;simp only[g1,g2,g3,g4,if_true,if_false,Bool.false_eq_true];first|exact jP rfl rfl|exact kZ rfl rfl)
  ·exact aA
 refine bH ?_
 (first|refine ln rfl rfl rfl rfl ?_ |refine lw rfl rfl (bN (v:=.bool false)) rfl ?_ |refine pu [] Tryz.call270 (cC _ _ _) rfl bM aW ?_ |refine sZ [] rfl rfl Tryz.call270 (fun _=>(cC _ _ _)) rfl bM aW ?_ |refine AZ [] rfl rfl Tryz.call270 (fun _=>(cC _ _ _)) rfl bM aW ?_);refine cI ?_;refine aC rfl (fun g5=> ?_) (fun g5=> ?_)
 ·refine dB ?_;refine eP fun r33 h33=> ?_;intros
  refine lS ?_;apply aE;exact aF
  ·(unfold kN;simp only[g1,g2,g3,g4,g5,if_true,if_false,Bool.false_eq_true];first|exact jP rfl rfl|exact kZ rfl rfl)
  ·exact aA
 refine bH ?_
 (first|refine ln rfl rfl rfl rfl ?_ |refine lw rfl rfl (bN (v:=.bool false)) rfl ?_ |refine pu [] Tryz.call270 (cC _ _ _) rfl bM aW ?_ |refine sZ [] rfl rfl Tryz.call270 (fun _=>(cC _ _ _)) rfl bM aW ?_ |refine AZ [] rfl rfl Tryz.call270 (fun _=>(cC _ _ _)) rfl bM aW ?_);refine cI ?_;refine aC rfl (fun g6=> ?_) (fun g6=> ?_)
 ·refine bH ?_;refine eP fun r38 h38=> ?_;intros
  refine lo (aD (E rfl)) rfl ?_;refine lS ?_;apply aE;exact aF
  ·(unfold kN;simp only[g1,g2,g3,g4,g5,g6,if_true,if_false,Bool.false_eq_true];first|exact jP rfl rfl|exact kZ rfl rfl)
  ·exact aA
 refine dB ?_;refine eP fun r42 h42=> ?_;intros
 refine lo (aD (E rfl)) rfl ?_;refine lS ?_;apply aE;exact aF
 ·(unfold kN;simp only[g1,g2,g3,g4,g5,g6,if_true,if_false,Bool.false_eq_true];first|exact jP rfl rfl|exact kZ rfl rfl)
 ·exact aA
def nC (op:Int) (k:Bool):Int:=
 if(op==0||(op==1||(op==5||(op==11||(op==15||(op==26||op==27))))))=true then 1
 else if(op==2||(op==3||op==4))=true then 2
 else if(op==12||(op==13||(op==16||(op==32||(op==33||(op==34||(op==35||op==36)))))))=true then 3
 else if(op==14)=true then 4 else if(op==17)=true then 5
 else if(op==40||(op==41||(op==44||(op==45||(op==54||(op==55||op==58))))))=true then 6
 else if(op==63||op==64)=true then 7 else if(op==65)=true then 8 else if(op==66)=true then 9
 else if k=true then 1 else 0
theorem BR(op:Int):SCall Tryz.prog 200 [.int .i64 op] [] (fun x _=>∃a b,x=.tup [a,b,.bool (kN op).2.2]):=
 (tG op).mono fun x σ h=>by
  unfold rF at h;split at h
  ·next e=>obtain⟨q,rfl,-⟩:=h;exact⟨_,_,by rw[e]⟩
  ·next e=>obtain⟨rfl,-⟩:=h;exact⟨_,_,by rw[show(kN op).2.2=false by simpa using e]⟩
theorem OD(op:Int):SCall Tryz.prog 217 [.int .i64 op] [] (fun x σ=>x=.int .i64 (nC op (kN op).2.2)∧σ=[]):=by
 refine bO 54 [0,2,5,6,7,15,19,28,30,32,40,43,45,53] Tryz.func217 ?_;refine kM ?_;refine iI ?_;refine dH ?_;apply kW rfl;exact fL
 ·intro _;(refine aJ ?_);refine kL ?_;apply iO rfl;exact fL
  ·intro _;(refine aJ ?_);refine kL ?_;apply iO rfl;exact fL
   ·intro _;(refine aJ ?_);refine kL ?_;apply iO rfl;exact fL
    ·intro _;(refine aJ ?_);refine kL ?_;apply iO rfl;exact fL
     ·intro _;(refine aJ ?_);refine kL ?_;apply iO rfl;exact fL
      ·intro _;(refine aJ ?_);refine kL ?_;exact aN
      exact aN
     exact aN
    exact aN
   exact aN
  exact aN
 refine aJ ?_;refine aC rfl (fun g1=> ?_) (fun g1=> ?_)
 ·refine bV ?_;apply aE;exact aF
  ·(unfold nC;simp only[g1,if_true,if_false,Bool.false_eq_true];exact⟨rfl,rfl⟩)
  ·exact aA
 refine dH ?_;apply kW rfl;exact fL
 ·intro _;(refine aJ ?_);refine kL ?_;apply iO rfl;exact fL
  ·intro _;(refine aJ ?_);refine kL ?_;exact aN
  exact aN
 refine aJ ?_;refine aC rfl (fun g2=> ?_) (fun g2=> ?_)
 ·refine bV ?_;apply aE;exact aF
  ·(unfold nC;simp only[g1,g2,if_true,if_false,Bool.false_eq_true];exact⟨rfl,rfl⟩)
  ·exact aA
 refine dH ?_;apply kW rfl;exact fL
 ·intro _;(refine aJ ?_);refine kL ?_;apply iO rfl;exact fL
  ·intro _;(refine aJ ?_);refine kL ?_;apply iO rfl;exact fL
   ·intro _;(refine aJ ?_);refine kL ?_;apply iO rfl;exact fL
    ·intro _;(refine aJ ?_);refine kL ?_;apply iO rfl;exact fL
     ·intro _;(refine aJ ?_);refine kL ?_;apply iO rfl;exact fL
      ·intro _;(refine aJ ?_);refine kL ?_;apply iO rfl;exact fL
       ·intro _;(refine aJ ?_);refine kL ?_;exact aN
       exact aN
      exact aN
     exact aN
    exact aN
   exact aN
  exact aN
 refine aJ ?_;refine aC rfl (fun g3=> ?_) (fun g3=> ?_)
 ·refine bV ?_;apply aE;exact aF
  ·(unfold nC;simp only[g1,g2,g3,if_true,if_false,Bool.false_eq_true];exact⟨rfl,rfl⟩)
  ·exact aA
 refine dH ?_;refine aC rfl (fun g4=> ?_) (fun g4=> ?_)
 ·refine bV ?_;apply aE;exact aF
  ·(unfold nC;simp only[g1,g2,g3,g4,if_true,if_false,Bool.false_eq_true];exact⟨rfl,rfl⟩)
  ·exact aA
 refine dH ?_;refine aC rfl (fun g5=> ?_) (fun g5=> ?_)
 ·refine bV ?_;apply aE;exact aF
  ·(unfold nC;simp only[g1,g2,g3,g4,g5,if_true,if_false,Bool.false_eq_true];exact⟨rfl,rfl⟩)
  ·exact aA
 refine dH ?_;apply kW rfl;exact fL
 ·intro _;(refine aJ ?_);refine kL ?_;apply iO rfl;exact fL
  ·intro _;(refine aJ ?_);refine kL ?_;apply iO rfl;exact fL
   ·intro _;(refine aJ ?_);refine kL ?_;apply iO rfl;exact fL
    ·intro _;(refine aJ ?_);refine kL ?_;apply iO rfl;exact fL
     ·intro _;(refine aJ ?_);refine kL ?_;apply iO rfl;exact fL
      ·intro _;(refine aJ ?_);refine kL ?_;exact aN
      exact aN
     exact aN
    exact aN
   exact aN
  exact aN
 refine aJ ?_;refine aC rfl (fun g6=> ?_) (fun g6=> ?_)
 ·refine bV ?_;apply aE;exact aF
  ·(unfold nC;simp only[g1,g2,g3,g4,g5,g6,if_true,if_false,Bool.false_eq_true];exact⟨rfl,rfl⟩)
  ·exact aA
 refine dH ?_;apply kW rfl;exact fL
 ·intro _;(refine aJ ?_);refine kL ?_;exact aN
 refine aJ ?_;refine aC rfl (fun g7=> ?_) (fun g7=> ?_)
 ·refine bV ?_;apply aE;exact aF
  ·(unfold nC;simp only[g1,g2,g3,g4,g5,g6,g7,if_true,if_false,Bool.false_eq_true];exact⟨rfl,rfl⟩)
  ·exact aA
 refine dH ?_;refine aC rfl (fun g8=> ?_) (fun g8=> ?_)
 ·refine bV ?_;apply aE;exact aF
  ·(unfold nC;simp only[g1,g2,g3,g4,g5,g6,g7,g8,if_true,if_false,Bool.false_eq_true];exact⟨rfl,rfl⟩)
  ·exact aA
 refine dH ?_;refine aC rfl (fun g9=> ?_) (fun g9=> ?_)
 ·refine bV ?_;apply aE;exact aF
  ·(unfold nC;simp only[g1,g2,g3,g4,g5,g6,g7,g8,g9,if_true,if_false,Bool.false_eq_true];exact⟨rfl,rfl⟩)
  ·exact aA
 refine bH ?_;refine cw [] Tryz.call200 (BR op) rfl ?_ ?_ ?_
 ·exact aB
 ·exact aA
 rintro _ σ' ⟨a,b,rfl⟩-;refine KM ?_;refine lS ?_;refine hX ?_;refine gQ ?_;refine aC rfl (fun g10=> ?_) (fun g10=> ?_)
 ·refine bV ?_;apply aE;exact aF
  ·(unfold nC;simp only[g1,g2,g3,g4,g5,g6,g7,g8,g9,g10,if_true,if_false,Bool.false_eq_true];exact⟨rfl,rfl⟩)
  ·exact aA
 refine bV ?_;apply aE;exact aF
 ·(unfold nC;simp only[g1,g2,g3,g4,g5,g6,g7,g8,g9,g10,if_true,if_false,Bool.false_eq_true];exact⟨rfl,rfl⟩)
 ·exact aA
def kOk (op:Int):Bool:=decide (69≤op∧op≤90∨103≤op∧op≤138∨op=167∨op=172∨op=173)
theorem jA(n a b:Int):vI n a b=decide (a≤n∧n≤b):=by
 unfold vI;by_cases h:a≤n<;>simp[h]
theorem VP(op:Int):((DU op).1==0)= !decide (69≤op∧op≤90∨103≤op∧op≤138):=by
 unfold DU;simp only[jA,Bool.or_eq_true,decide_eq_true_eq];repeat' split
 ·rw[decide_eq_true (by omega)];rfl
 ·rw[decide_eq_true (by omega)];rfl
 ·rw[decide_eq_true (by omega)];rfl
 ·rw[decide_eq_false (by omega)];rfl
theorem aFH(op:Int):(kN op).2.2=kOk op:=by
 unfold kN;rw[VP];unfold kOk;by_cases h1:op=167
 ·subst h1;decide
 by_cases h2:op=172∨op=173
 ·rcases h2 with rfl|rfl<;>decide
 by_cases h3:69≤op∧op≤90∨103≤op∧op≤138
 ·rw[decide_eq_true h3,decide_eq_true (by omega)];repeat' split
  all_goals first|rfl|simp_all
 ·rw[decide_eq_false h3,decide_eq_false (by omega),if_neg (by simp;omega),if_neg (by simp;omega)];rfl
def aS (op:Int):Int:=nC op (kOk op)
end Go.Proofs.YtjpdadobblffmaaGreat
namespace Go.Proofs.YtjpdadobblffmaaGreat
open Go.RowKit Go.ChangeShapes Go.WideShapes Go.ChangeAt Go.Deep
theorem SR.growF {M:Mp}{F:Nat→Prop}{N:Nat}{w w':World}{σ:cR}(h:SR M F N w σ)(hold:∀k,k<w.heap.size→w'.heap[k]? =w.heap[k]?)(hsz:w.heap.size≤w'.heap.size){g:Nat}(hg:w.heap.size≤g)(hg':g<w'.heap.size):
  SR M (fun b=>F b∨b=g) N w' σ where
 ent p hp:=ER.mono (fun _ _ h=>h) (fun _ h=>.inl h) (fun b hb=>hold b (h.flt b hb)) (fun g hg=>hold g ((h.ent p hp).lt hg)) (h.ent p hp)
 inj:=h.inj
 nof g' hB hF:=by
  rcases hF with hF|rfl
  ·exact h.nof g' hB hF
  ·have:=h.lt hB;omega
 flt b hb:=by
  rcases hb with hb|rfl
  ·have:=h.flt b hb;omega
  ·exact hg'
 fresh:=h.fresh
theorem aB9{M:Mp}{F:Nat→Prop}{w:World}{xs:List AV}{us:List Value}(hl:us.length=xs.length)(h:∀(i:Nat) (v:AV),xs[i]? =some v→∃u,us[i]? =some u∧VR M F w v u):∀(j:Nat) (a:AV) (u:Value),xs[j]? =some a→us[j]? =some u→VR M F w a u:=by
 intro j a u ha hu;obtain⟨u',hu',hv⟩:=h j a ha;rw[hu]at hu';cases hu'
 exact hv
theorem rG{P:Program}{ty:TypeId}{s:ASt}{c:Bool}{fn:Fn}{first captured:Array Operand}{xs cs:List AV}(h1:AEvs s first.toList xs)(h2:AEvs s captured.toList cs):Lop P (.makeFunc fn first captured) ty s c (.fn fn xs cs) []:=
 Lop.pure_ fun M F N n a w hr hc=>by
  obtain⟨l1,k1⟩:=h1.at_ hr;obtain⟨l2,k2⟩:=h2.at_ hr;refine⟨.func fn (first.map a.eval) (captured.map a.eval),.fn ?_ ?_ ?_ ?_,fun w' o ho _=> ?_⟩
  ·rw[←l1];simp
  ·intro j a' u ha hu;refine aB9 l1 k1 j a' u ha ?_;rw[←hu,←Array.getElem?_toList];simp
  ·rw[←l2];simp
  ·intro j a' u ha hu;refine aB9 l2 k2 j a' u ha ?_;rw[←hu,←Array.getElem?_toList];simp
  ·simp only[execOp,ho,Instr.makeFunc,Sem.run_bind,Sem.run_pure,Result.andThen_ok]
theorem DV{M:Mp}{F:Nat→Prop}{w:World}{xs ys:List AV}{us vs:List Value}(hl:us.length=xs.length)(h:∀(j:Nat) (a:AV) (u:Value),xs[j]? =some a→us[j]? =some u→VR M F w a u)
  (k:∀(j:Nat) (a:AV) (u:Value),ys[j]? =some a→vs[j]? =some u→VR M F w a u):∀(j:Nat) (a:AV) (u:Value),(xs++ys)[j]? =some a→(us++vs)[j]? =some u→VR M F w a u:=by
 intro j a u ha hu;by_cases hj:j<xs.length
 ·rw[List.getElem?_append_left hj]at ha;rw[List.getElem?_append_left (by omega)]at hu;exact h j a u ha hu
 ·rw[List.getElem?_append_right (by omega)]at ha;rw[List.getElem?_append_right (by omega)]at hu;exact k (j-xs.length) a u ha (by rw[←hl];exact hu)
def OE (a:Act) (x:Operand) (xs:List Operand):List Value:=match a.eval x with
 | .func _ us vs=>us.toList++xs.map a.eval++vs.toList
 | _=>[]
theorem KU{P:Program}{n:Nat}{s:ASt}{ty:TypeId}{d:Nat}{x:Operand}{f:FuncId}{us vs:List AV}{xs:List Operand}{ats:Array TypeId}{args:List AV}{σ1:cR}{R:AV→cR→Prop}{K:ASt→Prop}(hx:aev s x=some (.fn (.func f) us vs))(hf:∀args w,(callFunc f args).run P w=.ok (.enter f args) w)
  (h:SCall P f (us++args++vs) σ1 R) (hd:d<n) (hargs:ArgsLe s xs args) (hsub:∀p∈σ1,p∈s.σ)
  (hK:∀x σ',R x σ'→(∀p∈σ',(∃q∈σ1,q.1=p.1)∨Fresh p.1 s.σ)→K ⟨(d,x)::s.fr,σ'++dE (σ1.map (·.1)) s.σ⟩):
  Hop P n (.call { callee:=.value x,args:=xs.toArray,argTypes:=ats }) ty (some d) s (σ1.map (·.1)) K:=by
 refine Hop.of_call hd h hsub (fun a=>OE a x xs) (fun M F N a w o ho hr=> ?_) hK;have hv:=hr.aev hx;have hl:=hargs.len;have ha:=hargs.vr hr;obtain⟨dst,op,ty',pos,after,guard⟩:=o;dsimp only at ho;subst ho;generalize hu:a.eval x=u at hv;cases hv with
 |@fn _ _ _ us' vs' h1 h2 h3 h4=>
  have hfa:OE a x xs=us'.toList++xs.map a.eval++vs'.toList:=by unfold OE;rw[hu]
  refine⟨?_, ?_, ?_⟩
  ·have:execOp a.eval { dst,op:=.call { callee:=.value x,args:=xs.toArray,argTypes:=ats },type:=ty',pos,after,guard } =(do
     let d←Deferred.ofValue (a.eval x) (xs.toArray.map a.eval)
     invoke d.target d.args):=rfl
   rw[this,hu,hfa];simp only[Deferred.ofValue,Sem.run_bind,Sem.run_pure,Result.andThen_ok,invoke,hf];simp
  ·rw[hfa];simp only[List.length_append,List.length_map,Array.length_toList];omega
  ·rw[hfa];refine DV (by simp;omega) (DV (by simpa using h1) (fun j a' u' h5 h6=>h2 j a' u' h5 (by simpa using h6)) (fun j a' u' h5 h6=>ha j a' u' h5 h6)) (fun j a' u' h5 h6=>h4 j a' u' h5 (by simpa using h6))
theorem cX{σ:cR}:dE (σ.map (·.1)) σ=[]:=by
 unfold dE;rw[List.filter_eq_nil_iff];intro p hp;simp;exact⟨_,hp⟩
section
variable {P : Program} {n : Nat} {ops : Array Oper} {rest : List Oper} {fr : Fr} {σ : cR} {K : ASt → Prop} {ty : TypeId} {pos : String} {af : Array Edge} {d : Nat}
theorem mO{x:Operand}{f:FuncId}{us vs:List AV}{xs:List Operand}{ats:Array TypeId}{args:List AV}{R:AV→cR→Prop}(σ1:cR)(hx:aev ⟨fr,σ⟩ x=some (.fn (.func f) us vs))(hf:∀args w,(callFunc f args).run P w=.ok (.enter f args) w)(h:SCall P f (us++args++vs) σ1 R)(hd:Nat.ble (d+1) n=true)
  (hargs:ArgsLe ⟨fr,σ⟩ xs args) (hsub:∀p∈σ1,p∈σ) (hK:∀x σ',R x σ'→(∀p∈σ',(∃q∈σ1,q.1=p.1)∨Fresh p.1 σ)→RS P n ops rest ⟨(d,x)::fr,σ'++dE (σ1.map (·.1)) σ⟩ K):
  RS P n ops (⟨some d,.call { callee:=.value x,args:=xs.toArray,argTypes:=ats },ty,pos,af,none⟩::rest) ⟨fr,σ⟩ K:=eT (KU hx hf h (cL hd) hargs hsub hK)
end
end Go.Proofs.YtjpdadobblffmaaGreat
namespace Go.Proofs.YtjpdadobblffmaaGreat
open Go.RowKit Go.ChangeShapes Go.WideShapes Go.ChangeAt Go.Deep
attribute [local irreducible] SW RS RD eM dR
theorem fF{k1 k2:Rk}(xs ys:List Int):SCall Tryz.prog 116 [.ro 1 (xs.map aL) k1,.ro 1 (ys.map aL) k2] [] (fun x σ=>x=.bool (decide (xs=ys))∧σ=[]):=by
 refine bO 26 [0,1,4,5,10,12,13,14,24] Tryz.func116 ?_;refine fN (i:=0) rfl fun hm=> ?_
 rw[List.length_map]at hm;unfold maxLen at hm;refine oI ?_;refine oH ?_;refine qF ?_;refine aC rfl (fun h=> ?_) (fun h=> ?_)
 ·refine bV ?_;apply aE;exact aF
  ·have hne:xs≠ys:=by rintro rfl;simp at h
   exact⟨by simp[dU,cH,hne],rfl⟩
  ·exact aA
 have hl:xs.length=ys.length:=by simp at h;omega
 refine bH ?_;refine lT ?_;refine lp (β:=Nat) (fun k=>⟨[(0,.ro 1 (xs.map aL) k1),(1,.ro 1 (ys.map aL) k2),(4,.bool false),(12,.int .i64 xs.length),(13,.int .i64 k)],[]⟩) (fun k=>k≤xs.length∧xs.take k=ys.take k) (fun k=>xs.length-k) 0 ?_ ⟨Nat.zero_le _,rfl⟩ ?_
 ·exact aN
 rintro k ⟨hk,ht⟩;refine eV ?_;refine aC rfl (fun h1=> ?_) (fun h1=> ?_)
 ·have hlt:k<xs.length:=by simp at h1;omega
  obtain⟨x,hx⟩:∃x,xs[k]? =some x:=⟨_,List.getElem?_eq_getElem hlt⟩
  obtain⟨y,hy⟩:∃y,ys[k]? =some y:=⟨_,List.getElem?_eq_getElem (by omega)⟩
  refine eK ?_;refine hU [(0,true),(1,true),(2,true),(3,true),(4,true),(5,true),(6,true),(7,true),(8,true)] ?_;refine rC ?_;refine UW ?_;refine rC ?_;refine UW ?_;refine z58 ?_;refine qH ?_;refine aC rfl (fun h2=> ?_) (fun h2=> ?_)
  ·refine bV ?_;apply aE;exact aF
   ·have hne:xs≠ys:=by rintro rfl;rw[hx]at hy;simp at hy;subst hy;simp at h2
    exact⟨by simp[dU,cH,hne],rfl⟩
   ·exact aA
  ·refine gS ?_;refine⟨k+1,⟨by omega, ?_⟩,by omega, ?_⟩
   ·rw[List.take_add_one,List.take_add_one,ht,hx,hy];simp at h2;rw[h2]
   ·exact aN
 ·refine bV ?_;apply aE;exact aF
  ·simp at h1;have:xs=ys:=by rwa [List.take_of_length_le (by omega),List.take_of_length_le (by omega)]at ht
   exact⟨by simp[dU,cH,this],rfl⟩
  ·exact aA
def VQ (P:Program) (f:FuncId) (caps:List AV) (σ:cR) (p:Int→Bool):Prop:=
 (∀args w,(callFunc f args).run P w=.ok (.enter f args) w)∧∀c,SCall P f ([]++ [.int .i64 c]++caps) σ (fun r σ'=>r=.bool (p c)∧σ'=σ)
theorem BS{k:Rk}{f:FuncId}{caps:List AV}{σ:cR}{p:Int→Bool}(hp:VQ Tryz.prog f caps σ p)(l:List Int):SCall Tryz.prog 205 [.ro 1 (l.map aL) k,.fn (.func f) [] caps] σ (fun x σ'=>∃m:Int,x=.int .i64 m∧decide (0≤m)=l.any p∧σ'=σ):=by
 refine bO 19 [0,1,4,5,7,8,9,16] Tryz.func205 ?_;refine fN (i:=0) rfl fun hm=> ?_
 rw[List.length_map]at hm;unfold maxLen at hm;refine oL ?_;refine lp (β:=Nat) (fun j=>⟨[(0,.ro 1 (l.map aL) k),(1,.fn (.func f) [] caps),(7,.int .i64 l.length),(8,.int .i64 j)],σ⟩) (fun j=>j≤l.length∧(l.take j).any p=false) (fun j=>l.length-j) 0 ?_ ⟨Nat.zero_le _,rfl⟩ ?_
 ·exact aN
 rintro j ⟨hj,ht⟩;refine eV ?_;refine aC rfl (fun h1=> ?_) (fun h1=> ?_)
 ·have hlt:j<l.length:=by simp at h1;omega
  obtain⟨x,hx⟩:∃x,l[j]? =some x:=⟨_,List.getElem?_eq_getElem hlt⟩
  refine pV ?_;refine KC ?_;refine mO σ rfl hp.1 (hp.2 x) rfl ?_ ?_ ?_
  ·exact aB
  ·exact fun _ h=>h
  rintro r σ' ⟨rfl,rfl⟩-;rw[cX,List.append_nil];refine gQ ?_;refine aC rfl (fun h2=> ?_) (fun h2=> ?_)
  ·refine eK ?_;apply aE;exact aF
   ·refine⟨j,rfl, ?_,rfl⟩;rw[decide_eq_true (by omega)];exact(List.any_eq_true.2 ⟨x,List.mem_of_getElem? hx,h2⟩).symm
   ·exact aA
  ·refine gS ?_;refine⟨j+1,⟨by omega, ?_⟩,by omega, ?_⟩
   ·rw[List.take_add_one,hx,List.any_append,ht];simp[h2]
   ·exact aN
 ·refine bV ?_;apply aE;exact aF
  ·simp at h1;rw[List.take_of_length_le (by omega)]at ht;exact⟨-1,rfl,by rw[ht];rfl,rfl⟩
  ·exact aA
theorem lA{k:Rk}{f:FuncId}{caps:List AV}{σ:cR}{p:Int→Bool}(hp:VQ Tryz.prog f caps σ p)(l:List Int):SCall Tryz.prog 89 [.ro 1 (l.map aL) k,.fn (.func f) [] caps] σ (fun x σ'=>x=.bool (l.any p)∧σ'=σ):=by
 refine bO 9 [0,1,4] Tryz.func89 ?_;refine jF ?_;refine cw σ Tryz.call205 (BS (k:=k) hp l) rfl ?_ ?_ ?_
 ·exact aB
 ·exact fun _ h=>h
 rintro x σ' ⟨m,rfl,hm,rfl⟩-;rw[cX,List.append_nil];refine uD ?_;exact aE aF ⟨by simp only[dU];rw[←hm],rfl⟩ aA
structure Ins where
 op:Int
 a:Int
 b:Int
 l:List Int
def iv (k:Rk) (x:Ins):List AV:=[.int .i64 x.op,.int .i64 x.a,.int .i64 x.b,.ro 1 (x.l.map aL) k]
def Ins.Ok (x:Ins):Prop:=-9223372036854775808≤x.op∧x.op≤9223372036854775807∧ -9223372036854775808≤x.a∧x.a≤9223372036854775807∧x.l.length≤9223372036854775807
theorem cM(n a b:Int):SCall Tryz.prog 218 [.int .i64 n,.int .i64 a,.int .i64 b] [] (fun x σ=>x=.bool (vI n a b)∧σ=[]):=by
 refine bO 15 [0,1,2,6] Tryz.func218 ?_;refine jF ?_;refine lo (eW (E rfl) (E rfl)) rfl ?_;refine mU ?_;refine z4 ?_;refine z54 ?_;refine z7 ?_;refine cI ?_;exact aE aF ⟨by rfl,rfl⟩ aA
theorem fV(n:Int):SCall Tryz.prog 219 [.int .i64 n] [] (fun x σ=>x=.bool (vI n 0 1000)∧σ=[]):=by
 refine bO 5 [0,2] Tryz.func219 ?_;refine kM ?_
 (first|refine ln rfl rfl rfl rfl ?_ |refine lw rfl rfl (bN (v:=.bool false)) rfl ?_ |refine pu [] Tryz.call218 (cM _ _ _) rfl bM aW ?_ |refine sZ [] rfl rfl Tryz.call218 (fun _=>(cM _ _ _)) rfl bM aW ?_ |refine AZ [] rfl rfl Tryz.call218 (fun _=>(cM _ _ _)) rfl bM aW ?_);refine cI ?_;exact aE aF ⟨by rfl,rfl⟩ aA
theorem lU:VQ Tryz.prog 220 [] [] (fun n=> !vI n 0 1000):=by
 refine⟨Tryz.call220,fun n=> ?_⟩;refine bO 6 [0,2] Tryz.func220 ?_;refine kM ?_
 (first|refine ln rfl rfl rfl rfl ?_ |refine lw rfl rfl (bN (v:=.bool false)) rfl ?_ |refine pu [] Tryz.call219 (fV _) rfl bM aW ?_ |refine sZ [] rfl rfl Tryz.call219 (fun _=>(fV _)) rfl bM aW ?_ |refine AZ [] rfl rfl Tryz.call219 (fun _=>(fV _)) rfl bM aW ?_);refine lo (fA (E rfl)) rfl ?_;refine cI ?_;exact aE aF ⟨by rfl,rfl⟩ aA
theorem fW(op:Int):SCall Tryz.prog 217 [.int .i64 op] [] (fun x σ=>x=.int .i64 (aS op)∧σ=[]):=by
 have:=OD op
 rwa [aFH]at this
def jI (x:Ins) (f:Int):Bool:=if(if(f !=4)=true then decide (0<(x.l.length:Int))else false)=true then true else if(f !=6)=true then(x.b !=0)else false
def cW (x:Ins):Bool:=
 if jI x (aS x.op)=true then false
 else if(aS x.op==1||aS x.op==7)=true then(x.a==0)
 else if(aS x.op==2)=true then vI x.a 0 2
 else if(aS x.op==3||aS x.op==5)=true then vI x.a 0 1000
 else if(aS x.op==4)=true then(if(if vI x.a 0 1000=true then decide ((x.l.length:Int)≤50)else false)=true then !(x.l.any fun n=> !vI n 0 1000)else false)
 else if(aS x.op==6)=true then(if vI x.a 0 3=true then vI x.b 0 4294967295 else false)
 else if(aS x.op==8)=true then vI x.a (-2147483648) 2147483647
 else(aS x.op==9)
theorem ST(k:Rk)(x:Ins):SCall Tryz.prog 111 [.agg (iv k x)] [] (fun r σ=>r=.bool (cW x)∧σ=[]):=by
 refine bO 76 [0,1,2,3,23,24,25,31,36,42,59,69,74] Tryz.func111 ?_;unfold iv;refine cV ?_;refine gM fun r1 h1=> ?_;intros
 refine gT ?_
 (first|refine ln rfl rfl rfl rfl ?_ |refine lw rfl rfl (bN (v:=.bool false)) rfl ?_ |refine pu [] Tryz.call217 (fW _) rfl bM aW ?_ |refine sZ [] rfl rfl Tryz.call217 (fun _=>(fW _)) rfl bM aW ?_ |refine AZ [] rfl rfl Tryz.call217 (fun _=>(fW _)) rfl bM aW ?_);refine mV ?_;refine lo (eA (E rfl) (E rfl)) rfl ?_;refine pX ?_;refine z63 ?_;refine z18 ?_;refine z7 ?_;refine mU ?_;refine z64 ?_;refine z8 ?_;refine z65 ?_;refine z66 ?_;refine z11 ?_;refine z12 ?_;refine JL ?_;refine gQ ?_;refine aC rfl (fun g1=> ?_) (fun g1=> ?_)
 ·refine bV ?_;apply aE;exact aF
  ·(unfold cW jI;simp only[g1,if_true,if_false,Bool.false_eq_true];exact⟨rfl,rfl⟩)
  ·exact aA
 refine bH ?_;refine iI ?_;refine dH ?_;apply kW rfl;exact fL
 ·intro _;(refine aJ ?_);refine kL ?_;exact aN
 refine aJ ?_;refine aC rfl (fun g2=> ?_) (fun g2=> ?_)
 ·refine kC ?_;refine sq6 ?_;apply aE;exact aF
  ·(unfold cW jI;simp only[g1,g2,if_true,if_false,Bool.false_eq_true];exact⟨rfl,rfl⟩)
  ·exact aA
 refine dH ?_;refine aC rfl (fun g3=> ?_) (fun g3=> ?_)
 ·refine kC ?_
  (first|refine ln rfl rfl rfl rfl ?_ |refine lw rfl rfl (bN (v:=.bool false)) rfl ?_ |refine pu [] Tryz.call218 (cM _ _ _) rfl bM aW ?_ |refine sZ [] rfl rfl Tryz.call218 (fun _=>(cM _ _ _)) rfl bM aW ?_ |refine AZ [] rfl rfl Tryz.call218 (fun _=>(cM _ _ _)) rfl bM aW ?_);refine cI ?_;apply aE;exact aF
  ·(unfold cW jI;simp only[g1,g2,g3,if_true,if_false,Bool.false_eq_true];exact⟨rfl,rfl⟩)
  ·exact aA
 refine dH ?_;apply kW rfl;exact fL
 ·intro _;(refine aJ ?_);refine kL ?_;exact aN
 refine aJ ?_;refine aC rfl (fun g4=> ?_) (fun g4=> ?_)
 ·refine kC ?_
  (first|refine ln rfl rfl rfl rfl ?_ |refine lw rfl rfl (bN (v:=.bool false)) rfl ?_ |refine pu [] Tryz.call219 (fV _) rfl bM aW ?_ |refine sZ [] rfl rfl Tryz.call219 (fun _=>(fV _)) rfl bM aW ?_ |refine AZ [] rfl rfl Tryz.call219 (fun _=>(fV _)) rfl bM aW ?_);refine cI ?_;apply aE;exact aF
  ·(unfold cW jI;simp only[g1,g2,g3,g4,if_true,if_false,Bool.false_eq_true];exact⟨rfl,rfl⟩)
  ·exact aA
 refine dH ?_;refine aC rfl (fun g5=> ?_) (fun g5=> ?_)
 ·refine kC ?_
  (first|refine ln rfl rfl rfl rfl ?_ |refine lw rfl rfl (bN (v:=.bool false)) rfl ?_ |refine pu [] Tryz.call219 (fV _) rfl bM aW ?_ |refine sZ [] rfl rfl Tryz.call219 (fun _=>(fV _)) rfl bM aW ?_ |refine AZ [] rfl rfl Tryz.call219 (fun _=>(fV _)) rfl bM aW ?_);refine pX ?_;refine z63 ?_;refine z55 ?_;refine z7 ?_;refine pX ?_
  (first|refine ln rfl rfl rfl rfl ?_ |refine lw rfl rfl (bN (v:=.bool false)) rfl ?_ |refine pu [] Tryz.call89 (lA lU x.l) rfl bM aW ?_ |refine sZ [] rfl rfl Tryz.call89 (fun _=>(lA lU x.l)) rfl bM aW ?_ |refine AZ [] rfl rfl Tryz.call89 (fun _=>(lA lU x.l)) rfl bM aW ?_);refine z67 ?_;refine z7 ?_;refine cI ?_;apply aE;exact aF
  ·(unfold cW jI;simp only[g1,g2,g3,g4,g5,if_true,if_false,Bool.false_eq_true];exact⟨rfl,rfl⟩)
  ·exact aA
 refine dH ?_;refine aC rfl (fun g6=> ?_) (fun g6=> ?_)
 ·refine kC ?_
  (first|refine ln rfl rfl rfl rfl ?_ |refine lw rfl rfl (bN (v:=.bool false)) rfl ?_ |refine pu [] Tryz.call218 (cM _ _ _) rfl bM aW ?_ |refine sZ [] rfl rfl Tryz.call218 (fun _=>(cM _ _ _)) rfl bM aW ?_ |refine AZ [] rfl rfl Tryz.call218 (fun _=>(cM _ _ _)) rfl bM aW ?_);refine pX ?_
  (first|refine ln rfl rfl rfl rfl ?_ |refine lw rfl rfl (bN (v:=.bool false)) rfl ?_ |refine pu [] Tryz.call218 (cM _ _ _) rfl bM aW ?_ |refine sZ [] rfl rfl Tryz.call218 (fun _=>(cM _ _ _)) rfl bM aW ?_ |refine AZ [] rfl rfl Tryz.call218 (fun _=>(cM _ _ _)) rfl bM aW ?_);refine iS ?_;apply aE;exact aF
  ·(unfold cW jI;simp only[g1,g2,g3,g4,g5,g6,if_true,if_false,Bool.false_eq_true];exact⟨rfl,rfl⟩)
  ·exact aA
 refine dH ?_;refine aC rfl (fun g7=> ?_) (fun g7=> ?_)
 ·refine kC ?_
  (first|refine ln rfl rfl rfl rfl ?_ |refine lw rfl rfl (bN (v:=.bool false)) rfl ?_ |refine pu [] Tryz.call218 (cM _ _ _) rfl bM aW ?_ |refine sZ [] rfl rfl Tryz.call218 (fun _=>(cM _ _ _)) rfl bM aW ?_ |refine AZ [] rfl rfl Tryz.call218 (fun _=>(cM _ _ _)) rfl bM aW ?_);refine cI ?_;apply aE;exact aF
  ·(unfold cW jI;simp only[g1,g2,g3,g4,g5,g6,g7,if_true,if_false,Bool.false_eq_true];exact⟨rfl,rfl⟩)
  ·exact aA
 refine dH ?_;refine aC rfl (fun g8=> ?_) (fun g8=> ?_)
 ·refine bV ?_;apply aE;exact aF
  ·(unfold cW jI;simp only[g1,g2,g3,g4,g5,g6,g7,g8,if_true,if_false,Bool.false_eq_true];exact⟨rfl,rfl⟩)
  ·exact aA
 refine bV ?_;apply aE;exact aF
 ·(unfold cW jI;simp only[g1,g2,g3,g4,g5,g6,g7,g8,if_true,if_false,Bool.false_eq_true];exact⟨rfl,rfl⟩)
 ·exact aA
def eqN (x y:Ins):Bool:=decide (x.op=y.op∧x.a=y.a∧x.b=y.b∧x.l=y.l)
theorem aAy(x y:Ins):(if(if(if(x.op==y.op)=true then x.a==y.a else false)=true then x.b==y.b else false)=true then decide (x.l=y.l)else false)=eqN x y:=by
 unfold eqN;by_cases h1:x.op=y.op<;>by_cases h2:x.a=y.a<;>by_cases h3:x.b=y.b<;>simp[h1,h2,h3]
theorem VS(k k2:Rk)(x y:Ins):SCall Tryz.prog 122 [.agg (iv k x),.agg (iv k2 y)] [] (fun r σ=>r=.bool (eqN x y)∧σ=[]):=by
 refine bO 31 [0,1,2,3,4] Tryz.func122 ?_;unfold iv;refine cV ?_;refine gM fun r2 h2=> ?_;intros
 refine gM fun r3 h3=> ?_;intros
 refine gT ?_;refine dL ?_;refine lo (bY (E rfl) (E rfl)) rfl ?_;refine pX ?_;refine z61 ?_;refine UX ?_;refine z70 ?_;refine z7 ?_;refine pX ?_;refine z61 ?_;refine UX ?_;refine z70 ?_;refine z7 ?_;refine pX ?_;refine z61 ?_;refine UX ?_
 (first|refine ln rfl rfl rfl rfl ?_ |refine lw rfl rfl (bN (v:=.bool false)) rfl ?_ |refine pu [] Tryz.call116 (fF x.l y.l) rfl bM aW ?_ |refine sZ [] rfl rfl Tryz.call116 (fun _=>(fF x.l y.l)) rfl bM aW ?_ |refine AZ [] rfl rfl Tryz.call116 (fun _=>(fF x.l y.l)) rfl bM aW ?_);refine iS ?_;exact aE aF ⟨by exact congrArg AV.bool (aAy x y),rfl⟩ aA
theorem KV{x:Ins}(h:aS x.op=0):cW x=false:=by
 unfold cW;split
 ·rfl
 ·simp[h]
theorem aAz{op:Int}(h:aS op≠0):0≤op∧op≤173:=by
 unfold aS nC kOk at h;simp only[Bool.or_eq_true,beq_iff_eq,decide_eq_true_eq]at h;by_cases hc:0≤op∧op≤173
 ·exact hc
 ·exfalso;repeat rw[if_neg (by omega)]at h
  exact h rfl
theorem OF{x:Ins}(h:cW x=true):0≤x.op∧x.op≤173:=by
 refine aAz fun h0=> ?_
 rw[KV h0]at h;cases h
theorem aFI{x:Ins}(h:cW x=true)(hf:(aS x.op==2)=true):0≤x.a∧x.a≤2:=by
 rw[beq_iff_eq]at hf;simp[cW,hf,jA]at h;omega
theorem aDe{x:Ins}(h:cW x=true)(hf:(aS x.op==3)=true):0≤x.a∧x.a≤1000:=by
 rw[beq_iff_eq]at hf;simp[cW,hf,jA]at h;omega
theorem aDf{x:Ins}(h:cW x=true)(hf:(aS x.op==5)=true):0≤x.a∧x.a≤1000:=by
 rw[beq_iff_eq]at hf;simp[cW,hf,jA]at h;omega
theorem aDg{x:Ins}(h:cW x=true)(hf:(aS x.op==4)=true):(0≤x.a∧x.a≤1000)∧x.l.length≤50∧∀n∈x.l,0≤n∧n≤1000:=by
 rw[beq_iff_eq]at hf;simp[cW,hf,jA]at h;obtain⟨h1,⟨h2,h3⟩,h4⟩:=h;exact⟨h2,by omega,h4⟩
theorem aDh{x:Ins}(h:cW x=true)(hf:(aS x.op==6)=true):0≤x.a∧x.a≤3∧0≤x.b∧x.b≤4294967295:=by
 rw[beq_iff_eq]at hf;simp[cW,hf,jA]at h;omega
def zJ (a:Int):Nat:=if a=0 then 64 else if a=1 then 127 else 126
def gW (x:Ins):List Nat:=
 if(aS x.op==2)=true then [zJ x.a]else if(aS x.op==3)=true then uB x.a.toNat else if(aS x.op==5)=true then uB x.a.toNat++ [0]
 else if(aS x.op==4)=true then uB x.l.length++(x.l.flatMap fun n=>uB n.toNat)++uB x.a.toNat else if(aS x.op==6)=true then uB x.a.toNat++uB x.b.toNat
 else if(aS x.op==7)=true then [0]else if(aS x.op==8||aS x.op==9)=true then sB x.a else []
def gN (x:Ins):List Nat:=x.op.toNat::gW x
theorem uI:∀ {l:List Int},(∀n∈l,0≤n∧n≤1000)→(l.flatMap fun n=>uB n.toNat).length≤2*l.length
 |[],_=>by simp
 |n::l,h=>by
  have ih:=uI (l:=l) fun m hm=>h m (List.mem_cons_of_mem _ hm)
  have hn:=h n List.mem_cons_self;have h1:=bS 1 n.toNat (by omega);simp only[List.flatMap_cons,List.length_append,List.length_cons];omega
theorem aAA{a:Int}(h:0≤a∧a≤2):([.int .u8 64,.int .u8 127,.int .u8 126]:List AV)[a.toNat]? =some (.int .u8 (zJ a:Nat)):=by
 have:a=0∨a=1∨a=2:=by omega
 rcases this with rfl|rfl|rfl<;>rfl
theorem vR(q:Nat)(vs:List Nat)(hvs:vs.length≤50000000)(k:Rk)(x:Ins)(hx:x.Ok)(hm:cW x=true):SCall Tryz.prog 242 [.own q 0 vs.length,.agg (iv k x)] [(q,.arr 5 1 (vs.map aH))]
  (fun y σ=>∃r,y=.own r 0 (vs++gN x).length∧σ=[(r,.arr 5 1 ((vs++gN x).map aH))]):=by
 have f1:=OF hm;have f2:=aFI hm;have f3:=aDe hm;have f4:=aDg hm;have f5:=aDf hm;have f6:=aDh hm;have f8:-9223372036854775808≤x.a∧x.a≤9223372036854775807:=⟨hx.2.2.1,hx.2.2.2.1⟩
 obtain⟨op,ai,bi,l⟩:=x;dsimp only at f1 f2 f3 f4 f5 f6 f8;obtain⟨op,rfl⟩:=Int.eq_ofNat_of_zero_le f1.1;have hvo:vs++gN ⟨(op:Int),ai,bi,l⟩=(vs++ [op])++gW ⟨(op:Int),ai,bi,l⟩:=by simp[gN]
 rw[hvo];obtain⟨us,hus⟩:∃us,us=vs++ [op]:=⟨_,rfl⟩
 have hul:us.length≤50000001:=by rw[hus];simp;omega
 refine bO 90 [0,1,3,4,6,15,16,25,32,41,50,51,52,53,66,77,82] Tryz.func242 ?_;unfold iv;dsimp only;refine cV ?_;refine gM fun r3 h3=> ?_;intros
 refine mV ?_;refine dL ?_;refine z0 ?_;refine eP fun r11 h11=> ?_;intros
 apply ap (es':=(vs++ [op]).map aH) (len':=(vs++ [op]).length);rfl;rfl;exact bF
 ·simp
 ·exact .inr (.inr ⟨_,_,_,_,_,rfl,bF,by simp,rfl⟩)
 ·first|(simp[aH];done)|(simp only[List.drop_zero,List.map_append];congr 1;exact List.take_of_length_le (by simp))
 ·simp;try omega
 ·simp[maxLen];try omega
 ·simp;try omega
 ·rfl
 refine dG fun r12 h12=> ?_;intros
 refine cI ?_;rw[←hus];refine nL ?_
 (first|refine ln rfl rfl rfl rfl ?_ |refine lw rfl rfl (bN (v:=.bool false)) rfl ?_ |refine pu [] Tryz.call217 (fW _) rfl bM aW ?_ |refine sZ [] rfl rfl Tryz.call217 (fun _=>(fW _)) rfl bM aW ?_ |refine AZ [] rfl rfl Tryz.call217 (fun _=>(fW _)) rfl bM aW ?_);refine iI ?_;refine dH ?_;refine aC rfl (fun g1=> ?_) (fun g1=> ?_)
 ·refine aJ ?_;have ha:=f2 g1;have hp:gW ⟨(op:Int),ai,bi,l⟩=[zJ ai]:=by unfold gW;simp only[g1,if_true,if_false,Bool.false_eq_true]
  refine hX ?_;refine lo (UV (z:=_) ⟨_,_,_,rfl⟩) rfl ?_;refine dL ?_;refine lo (SD rfl (E rfl) (E rfl) (fun _=>by omega) (fun _=>aAA ha)) rfl ?_;refine eP fun r23 h23=> ?_;intros
  apply ap (es':=(us++ [zJ ai]).map aH) (len':=(us++ [zJ ai]).length);rfl;rfl;exact bF
  ·simp
  ·exact .inr (.inr ⟨_,_,_,_,_,rfl,bF,by simp,rfl⟩)
  ·first|(simp[aH];done)|(simp only[List.drop_zero,List.map_append];congr 1;exact List.take_of_length_le (by simp))
  ·simp;try omega
  ·simp[maxLen];try omega
  ·simp;try omega
  ·rfl
  refine dG fun r24 h24=> ?_;intros
  refine cI ?_;rw[hp];exact aE aF ⟨_,by rfl,rfl⟩ aA
 refine dH ?_;refine aC rfl (fun g2=> ?_) (fun g2=> ?_)
 ·refine aJ ?_;have ha:=f3 g2;obtain⟨a,rfl⟩:=Int.eq_ofNat_of_zero_le ha.1;have hp:gW ⟨(op:Int),(a:Int),bi,l⟩=uB a:=by unfold gW;simp only[g1,g2,if_true,if_false,Bool.false_eq_true,Int.toNat_natCast]
  refine nB ?_;refine SE ?_;refine cw [(r12,.arr 5 1 ((us).map aH))] Tryz.call239 (kO r12 (us) (by first|omega|(simp;omega)) a (by omega)) rfl ?_ ?_ ?_
  ·exact aB
  ·exact aA
  rintro _ σ' ⟨ra,rfl,rfl⟩ hra;have kra:=aO hra;repeat rcases kra with⟨_,kra⟩
  refine dS ?_;rw[hp];exact aE aF ⟨_,by rfl,rfl⟩ aA
 refine dH ?_;refine aC rfl (fun g3=> ?_) (fun g3=> ?_)
 ·refine aJ ?_;have ha:=f5 g3;obtain⟨a,rfl⟩:=Int.eq_ofNat_of_zero_le ha.1;have hp:gW ⟨(op:Int),(a:Int),bi,l⟩=uB a++ [0]:=by unfold gW;simp only[g1,g2,g3,if_true,if_false,Bool.false_eq_true,Int.toNat_natCast]
  have hal:=bS 1 a (by omega);refine nB ?_;refine SE ?_;refine cw [(r12,.arr 5 1 ((us).map aH))] Tryz.call239 (kO r12 (us) (by first|omega|(simp;omega)) a (by omega)) rfl ?_ ?_ ?_
  ·exact aB
  ·exact aA
  rintro _ σ' ⟨ra,rfl,rfl⟩ hra;have kra:=aO hra;repeat rcases kra with⟨_,kra⟩
  apply bE;exact bX;refine eP fun r39 h39=> ?_;intros
  apply ap (es':=((us++uB a)++ [0]).map aH) (len':=((us++uB a)++ [0]).length);rfl;rfl;exact bF
  ·simp
  ·exact .inr (.inr ⟨_,_,_,_,_,rfl,bF,by simp,rfl⟩)
  ·first|(simp[aH];done)|(simp only[List.drop_zero,List.map_append];congr 1;exact List.take_of_length_le (by simp))
  ·simp;try omega
  ·simp[maxLen];try omega
  ·simp;try omega
  ·rfl
  refine dG fun r40 h40=> ?_;intros
  refine cI ?_;rw[hp,←List.append_assoc];exact aE aF ⟨_,by rfl,rfl⟩ aA
 refine dH ?_;refine aC rfl (fun g4=> ?_) (fun g4=> ?_)
 ·refine aJ ?_;have ha:=f4 g4;obtain⟨⟨ha0,ha1⟩,hl50,hall⟩:=ha;obtain⟨a,rfl⟩:=Int.eq_ofNat_of_zero_le ha0;have hp:gW ⟨(op:Int),(a:Int),bi,l⟩=uB l.length++(l.flatMap fun n=>uB n.toNat)++uB a:=by unfold gW;simp only[g1,g2,g3,g4,if_true,if_false,Bool.false_eq_true,Int.toNat_natCast]
  have hal:=bS 1 a (by omega);have hll:=bS 1 l.length (by omega);have hfl:=uI hall;refine nB ?_;refine oG ?_;refine SE ?_;refine cw [(r12,.arr 5 1 ((us).map aH))] Tryz.call239 (kO r12 (us) (by first|omega|(simp;omega)) l.length (by omega)) rfl ?_ ?_ ?_
  ·exact aB
  ·exact aA
  rintro _ σ' ⟨ra,rfl,rfl⟩ hra;have kra:=aO hra;repeat rcases kra with⟨_,kra⟩
  refine dS ?_;refine nL ?_;refine lT ?_;obtain⟨ws,hws⟩:∃ws,ws=us++uB l.length:=⟨_,rfl⟩
  have hwl:ws.length≤50000003:=by rw[hws];simp;omega
  rw[←hws];have hpre:∀j,(us++uB l.length++((l.take j).flatMap fun n=>uB n.toNat)).length≤50000103:=fun j=>by
   have:=uI (l:=l.take j) fun n hn=>hall n (List.mem_of_mem_take hn)
   simp at this⊢;omega
  refine lp (β:=Nat×Nat) (fun b=>⟨[(0,.own b.1 0 (ws++((l.take b.2).flatMap fun n=>uB n.toNat)).length),(3,.ptr r3 0),(50,.ro 1 (l.map aL) k),(51,.int .i64 l.length),(52,.int .i64 b.2)],[(b.1,.arr 5 1 ((ws++((l.take b.2).flatMap fun n=>uB n.toNat)).map aH)),(r3,.box 46 [.int .i64 op,.int .i64 a,.int .i64 bi,.ro 1 (l.map aL) k])]⟩) (fun b=>Nq b.1 r3∧b.2≤l.length) (fun b=>l.length-b.2) (ra,0) ?_ ⟨?_,Nat.zero_le _⟩ ?_
  ·simp only[List.take_zero,List.flatMap_nil,List.append_nil];exact aN
  ·show Nq ra r3;exact dP
  rintro⟨rb,j⟩ ⟨hrb,hj⟩;dsimp only at hrb hj⊢;have hpj:=hpre j;rw[←hws]at hpj;refine eV ?_;refine aC rfl (fun h1=> ?_) (fun h1=> ?_)
  ·have hlt:j<l.length:=by simp at h1;omega
   obtain⟨y,hy⟩:∃y,l[j]? =some y:=⟨_,List.getElem?_eq_getElem hlt⟩
   obtain⟨hy0,hy1⟩:=hall y (List.mem_of_getElem? hy);obtain⟨z,rfl⟩:=Int.eq_ofNat_of_zero_le hy0;refine cV ?_;refine qG ?_;refine nT ?_;refine SE ?_;refine cw [(rb,.arr 5 1 ((ws++((l.take j).flatMap fun n=>uB n.toNat)).map aH))] Tryz.call239 (kO rb (ws++((l.take j).flatMap fun n=>uB n.toNat)) (by first|omega|(simp;omega)) z (by omega)) rfl ?_ ?_ ?_
   ·exact aB
   ·exact aA
   rintro _ σ' ⟨rc,rfl,rfl⟩ hrc;have krc:=aO hrc;repeat rcases krc with⟨_,krc⟩
   refine pT ?_;have hnx:ws++((l.take j).flatMap fun n=>uB n.toNat)++uB z=ws++((l.take (j+1)).flatMap fun n=>uB n.toNat):=by
    rw[List.take_add_one,hy,List.flatMap_append,List.append_assoc];simp
   rw[hnx];refine⟨(rc,j+1),⟨by show Nq rc r3;(exact dP),hlt⟩,by show l.length-(j+1)<l.length-j;omega, ?_⟩;exact aN
  ·obtain rfl:j=l.length:=by simp at h1;omega
   rw[List.take_length]at hpj⊢;refine bH ?_;refine dL ?_;refine SE ?_;refine cw [(rb,.arr 5 1 ((ws++(l.flatMap fun n=>uB n.toNat)).map aH))] Tryz.call239 (kO rb (ws++(l.flatMap fun n=>uB n.toNat)) (by first|omega|(simp;omega)) a (by omega)) rfl ?_ ?_ ?_
   ·exact aB
   ·exact aA
   rintro _ σ' ⟨rd,rfl,rfl⟩ hrd;have krd:=aO hrd;repeat rcases krd with⟨_,krd⟩
   refine dS ?_;rw[hp,show us++(uB l.length++(l.flatMap fun n=>uB n.toNat)++uB a)=ws++(l.flatMap fun n=>uB n.toNat)++uB a by rw[hws];simp];exact aE aF ⟨_,by rfl,rfl⟩ aA
 refine dH ?_;refine aC rfl (fun g5=> ?_) (fun g5=> ?_)
 ·refine aJ ?_;have ha:=f6 g5;obtain⟨ha0,ha1,hb0,hb1⟩:=ha;obtain⟨a,rfl⟩:=Int.eq_ofNat_of_zero_le ha0;obtain⟨b,rfl⟩:=Int.eq_ofNat_of_zero_le hb0;have hp:gW ⟨(op:Int),(a:Int),(b:Int),l⟩=uB a++uB b:=by unfold gW;simp only[g1,g2,g3,g4,g5,if_true,if_false,Bool.false_eq_true,Int.toNat_natCast]
  have hal:=bS 1 a (by omega);refine hU [(0,true),(1,true),(2,true),(3,true),(5,true),(6,true),(7,true),(4,false),(8,false),(9,true)] ?_;refine KJ ?_;refine z75 ?_;refine kX ?_;refine z75 ?_;refine nR [(r12,.arr 5 1 ((us).map aH))] rfl Tryz.call239 (kO r12 (us) (by first|omega|(simp;omega)) a (by omega)) rfl ?_ ?_ ?_ ?_
  ·exact aB
  ·exact aA
  ·exact eU
  rintro _ σ' ⟨ra,rfl,rfl⟩ hra;have kra:=aO hra;repeat rcases kra with⟨_,kra⟩
  apply dY;exact bX;refine nR [(ra,.arr 5 1 ((us++uB a).map aH))] rfl Tryz.call239 (kO ra (us++uB a) (by first|omega|(simp;omega)) b (by omega)) rfl ?_ ?_ ?_ ?_
  ·exact aB
  ·exact aA
  ·exact eU
  rintro _ σ' ⟨rb,rfl,rfl⟩ hrb;have krb:=aO hrb;repeat rcases krb with⟨_,krb⟩
  refine xL ?_;rw[hp,←List.append_assoc];exact aE aF ⟨_,by rfl,rfl⟩ aA
 refine dH ?_;refine aC rfl (fun g6=> ?_) (fun g6=> ?_)
 ·refine aJ ?_;have hp:gW ⟨(op:Int),ai,bi,l⟩=[0]:=by unfold gW;simp only[g1,g2,g3,g4,g5,g6,if_true,if_false,Bool.false_eq_true]
  refine hX ?_;refine eP fun r80 h80=> ?_;intros
  apply ap (es':=(us++ [0]).map aH) (len':=(us++ [0]).length);rfl;rfl;exact bF
  ·simp
  ·exact .inr (.inr ⟨_,_,_,_,_,rfl,bF,by simp,rfl⟩)
  ·first|(simp[aH];done)|(simp only[List.drop_zero,List.map_append];congr 1;exact List.take_of_length_le (by simp))
  ·simp;try omega
  ·simp[maxLen];try omega
  ·simp;try omega
  ·rfl
  refine dG fun r81 h81=> ?_;intros
  refine cI ?_;rw[hp];exact aE aF ⟨_,by rfl,rfl⟩ aA
 refine dH ?_;apply kW rfl;exact fL
 ·intro _;(refine aJ ?_);refine kL ?_;exact aN
 refine aJ ?_;refine aC rfl (fun g7=> ?_) (fun g7=> ?_)
 ·refine aJ ?_;have hp:gW ⟨(op:Int),ai,bi,l⟩=sB ai:=by unfold gW;simp only[g1,g2,g3,g4,g5,g6,g7,if_true,if_false,Bool.false_eq_true]
  refine nB ?_;refine cw [(r12,.arr 5 1 (us.map aH))] Tryz.call296 (KQ r12 us (by omega) ai f8) rfl ?_ ?_ ?_
  ·exact aB
  ·exact aA
  rintro _ σ' ⟨ra,rfl,rfl⟩ hra;refine dS ?_;rw[hp];exact aE aF ⟨_,by rfl,rfl⟩ aA
 refine eK ?_;apply aE;exact aF
 ·(unfold gW;simp only[g1,g2,g3,g4,g5,g6,g7,if_true,if_false,Bool.false_eq_true,List.append_nil];exact⟨_,rfl,rfl⟩)
 ·exact aA
end Go.Proofs.YtjpdadobblffmaaGreat
