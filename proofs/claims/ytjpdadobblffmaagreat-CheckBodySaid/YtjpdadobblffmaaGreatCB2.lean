import Derived.Test.YtjpdadobblffmaaGreatCB1
import Derived.Laws.BytesString
import Derived.ScopeJumps
import Derived.Test.YtjpdadobblffmaaGreatProg
import Derived.ArgAppend
set_option linter.unusedSimpArgs false
set_option linter.unusedVariables false
set_option maxRecDepth 100000
set_option maxHeartbeats 4000000
namespace Go.Proofs.YtjpdadobblffmaaGreat
open Go.RowKit Go.ChangeShapes Go.WideShapes Go.ChangeAt Go.Deep
inductive Put:List AV→Nat→List AV→List AV→Prop
 |done {l:List AV} :Put l 0 [] l
 |put {a v:AV} {l vs l':List AV} (h:Put l 0 vs l'):Put (a::l) 0 (v::vs) (v::l')
 |skip {a:AV} {k:Nat} {l vs l':List AV} (h:Put l k vs l'):Put (a::l) (k+1) vs (a::l')
theorem Put.eq {cs:List AV}{k:Nat}{vs out:List AV}(h:Put cs k vs out):k+vs.length≤cs.length∧out=cs.take k++vs++cs.drop (k+vs.length):=by
 induction h with
 |done=>simp
 |put _ ih=>
  obtain⟨h1,h2⟩:=ih;refine⟨by simp at h1⊢;omega, ?_⟩;simp at h2⊢;exact h2
 |@skip a k l vs l' _ ih=>
  obtain⟨h1,h2⟩:=ih;refine⟨by simp at h1⊢;omega, ?_⟩;rw[show k+1+vs.length=(k+vs.length)+1 by omega];simp at h2⊢;exact h2
inductive Fill (pl:List (Nat×Nat)):List AV→List (Nat×AV)→List AV→Prop
 |nil {cs:List AV} :Fill pl cs [] cs
 |cons {cs cs' out:List AV} {i off sz:Nat} {v:AV} {r:List (Nat×AV)} (hp:pl[i]? =some (off,sz)) (hl:v.cells.length=sz) (hc:v.cells.all AV.cell=true) (h:Put cs off v.cells cs') (hr:Fill pl cs' r out):Fill pl cs ((i,v)::r) out
theorem Fill.eq {pl:List (Nat×Nat)}{cs out:List AV}{r:List (Nat×AV)}(h:Fill pl cs r out):GN pl cs r=some out:=by
 induction h with
 |nil=>rfl
 |@cons cs cs' out i off sz v r hp hl hc h _ ih=>
  obtain⟨h1,h2⟩:=h.eq;unfold GN;rw[hp];simp only;rw[if_pos (by simp[hl,hc];rw[hl]at h1;exact h1),←hl,←h2,ih]
inductive SPut:dY→Nat→Nat→List AV→dY→Prop
 |here {r off:Nat} {bt:TypeId} {cs vs cs':List AV} {σ:dY} (h:Put cs off vs cs') (hn:Fresh r σ):SPut ((r,.box bt cs)::σ) r off vs ((r,.box bt cs')::σ)
 |next {r q off:Nat} {y:Ent} {vs:List AV} {σ σ':dY} (hne:r≠q) (h:SPut σ r off vs σ'):SPut ((q,y)::σ) r off vs ((q,y)::σ')
inductive SSet:dY→Nat→Ent→Nat→Ent→dY→Prop
 |here {r r':Nat} {x x':Ent} {σ:dY} (hn:Fresh r σ):SSet ((r,x)::σ) r x r' x' ((r',x')::σ)
 |next {r q r':Nat} {x x' y:Ent} {σ σ':dY} (hne:r≠q) (h:SSet σ r x r' x' σ'):SSet ((q,y)::σ) r x r' x' ((q,y)::σ')
theorem SSet.get {σ σ':dY}{r r':Nat}{x x':Ent}(h:SSet σ r x r' x' σ'):gU σ r=some x:=by
 induction h with
 |here _=>exact jS
 |next hne _ ih=>exact jT hne ih
theorem Fresh.cons {r q:Nat}{y:Ent}{σ:dY}(h:q≠r)(k:Fresh r σ):Fresh r ((q,y)::σ):=by rw[aM];exact⟨h,k⟩
theorem SSet.sub {σ σ':dY}{r r':Nat}{x x':Ent}(h:SSet σ r x r' x' σ'):∀p∈σ',p∈(r',x')::eZ [r] σ:=by
 induction h with
 |@here r r' x x' σ hn=>
  intro p hp;rcases List.mem_cons.1 hp with rfl|hp
  ·simp
  ·refine List.mem_cons_of_mem _ ?_;simp only[eZ,List.mem_filter];exact⟨List.mem_cons_of_mem _ hp,by simpa using hn p hp⟩
 |@next r q r' x x' y σ σ' hne _ ih=>
  intro p hp;rcases List.mem_cons.1 hp with rfl|hp
  ·refine List.mem_cons_of_mem _ ?_;simp only[eZ,List.mem_filter];exact⟨by simp,by simpa using fun e=>hne e.symm⟩
  ·rcases List.mem_cons.1 (ih p hp)with rfl|h
   ·simp
   ·refine List.mem_cons_of_mem _ ?_;simp only[eZ,List.mem_filter]at h⊢;exact⟨List.mem_cons_of_mem _ h.1,h.2⟩
inductive SDel:dY→Nat→Ent→dY→Prop
 |here {r:Nat} {x:Ent} {σ:dY} (hn:Fresh r σ):SDel ((r,x)::σ) r x σ
 |next {r q:Nat} {x y:Ent} {σ σ':dY} (hne:r≠q) (h:SDel σ r x σ'):SDel ((q,y)::σ) r x ((q,y)::σ')
theorem SDel.get {σ σ':dY}{r:Nat}{x:Ent}(h:SDel σ r x σ'):gU σ r=some x:=by
 induction h with
 |here _=>exact jS
 |next hne _ ih=>exact jT hne ih
theorem SDel.sub {σ σ':dY}{r:Nat}{x:Ent}(h:SDel σ r x σ'):∀p∈σ',p∈σ∧p.1≠r:=by
 induction h with
 |here hn=>intro p hp;exact⟨List.mem_cons_of_mem _ hp,hn p hp⟩
 |next hne _ ih=>
  intro p hp;rcases List.mem_cons.1 hp with rfl|hp
  ·exact⟨List.mem_cons_self,fun e=>hne e.symm⟩
  ·exact⟨List.mem_cons_of_mem _ (ih p hp).1,(ih p hp).2⟩
theorem aEc{fr:Fr}{σ σ':dY}{i q off len sz:Nat}{et:TypeId}{es es':List (List AV)}(hx:dU fr i=some (.own q off len))(hd:SDel σ q (.arr et sz es) σ')(hle:off+len≤es.length)(he:(es.drop off).take len=es'):SGo ⟨fr,σ⟩ ⟨(i,.ro sz es' .any)::fr,σ'⟩:=by
 refine oT [q] (fun j x' hj=> ?_) (fun p hp=> ?_)
 ·simp only[dU]at hj;split at hj
  ·next e=>
   subst e;obtain rfl:=Option.some.inj hj;exact⟨_,hx,he▸Bor.own List.mem_cons_self hd.get hle⟩
  ·exact⟨x',hj,.refl _⟩
 ·obtain⟨h1,h2⟩:=hd.sub p hp;exact⟨by simpa using h2,p.2,h1,.refl _⟩
theorem SPut.set {σ σ':dY}{r off:Nat}{vs:List AV}(h:SPut σ r off vs σ'):∃bt cs cs',Put cs off vs cs'∧SSet σ r (.box bt cs) r (.box bt cs') σ':=by
 induction h with
 |here h hn=>exact⟨_,_,_,h,.here hn⟩
 |next hne _ ih=>obtain⟨bt,cs,cs',h1,h2⟩:=ih;exact⟨bt,cs,cs',h1,.next hne h2⟩
section
variable {P : Program} {n : Nat} {ops : Array Oper} {rest : List Oper} {fr : Fr} {σ σ' : dY} {K : ASt → Prop} {op : Op} {ty t t' : TypeId} {pos : String} {af : Array Edge} {x y : Operand} {c : Bool} {d : Nat}
theorem E{s:ASt}{v:AV}(h:aev s x=some v):Ev s c x v:=.here h
theorem W{s:ASt}{v:AV}{c':Bool}(h:aev s x=some (.when c' v))(hc:c=true→c'=true):Ev s c x v:=.when h hc
theorem aO{α:Type} [Inhabited α] {l:List α}{j:Nat}(h:j<l.length):l[j]? =some l[j]! :=by simp[h]
theorem VLe.when {cc:Bool}{x:AV}(h:cc=true):VLe (.when cc x) x:=fun _ _ _ _ hv=>by
 cases hv with
 |when k _=>exact k h
theorem bI{P:Program}{op:Op}{ty:TypeId}{s:ASt}{v:AV}:Lop P op ty s false v []:=⟨fun r hr=>by simp at hr,fun _ _ _ _ _ _ _ hc=>by cases hc⟩
theorem StLe.of_mem {σ:dY}:∀ {l:dY},(∀p∈l,p∈σ)→StLe σ l
 |[],_=>.nil
 |(r,y)::l,h=>.cons (h (r,y) (by simp)) rfl (StLe.of_mem fun p hp=>h p (by simp[hp]))
theorem StLe.refl (σ:dY):StLe σ σ:=.of_mem fun _ h=>h
theorem dF{a b:Nat}(h:Nat.ble (a+1) b=true):a<b:=Nat.le_of_ble_eq_true h
theorem lo{v:AV}{rs:List Nat}(h:Lop P op ty ⟨fr,σ⟩ true v rs)(hd:Nat.ble (d+1) n=true)(hK:RS P n ops rest ⟨(d,v)::fr,σ⟩ K):RS P n ops (⟨some d,op,ty,pos,af,none⟩::rest) ⟨fr,σ⟩ K:=WJ h (dF hd) hK
theorem lg{j dj:Nat}{want b:Bool}{v:AV}{rs:List Nat}(hj:(ops[j]?).bind (·.dst)=some dj)(hb:dU fr dj=some (.bool b))(h:Lop P op ty ⟨fr,σ⟩ (b==want) v rs)(hd:Nat.ble (d+1) n=true)
  (hK:RS P n ops rest ⟨(d,.when (b==want) v)::fr,σ⟩ K):RS P n ops (⟨some d,op,ty,pos,af,some (j,want)⟩::rest) ⟨fr,σ⟩ K:=LM hj hb h (dF hd) hK
theorem lw{j dj:Nat}{want b c0:Bool}{v:AV}{rs:List Nat}(hj:(ops[j]?).bind (·.dst)=some dj)(hb:dU fr dj=some (.when c0 (.bool b)))(h:Lop P op ty ⟨fr,σ⟩ (c0&&(b==want)) v rs)(hd:Nat.ble (d+1) n=true)
  (hK:RS P n ops rest ⟨(d,.when (c0&&(b==want)) v)::fr,σ⟩ K):RS P n ops (⟨some d,op,ty,pos,af,some (j,want)⟩::rest) ⟨fr,σ⟩ K:=EO hj hb h (dF hd) hK
theorem ln{j dj:Nat}{want b:Bool}(hj:(ops[j]?).bind (·.dst)=some dj)(hb:dU fr dj=some (.bool b))(hne:(b==want)=false)(hd:Nat.ble (d+1) n=true)
  (hK:RS P n ops rest ⟨(d,.when false (.bool false))::fr,σ⟩ K):RS P n ops (⟨some d,op,ty,pos,af,some (j,want)⟩::rest) ⟨fr,σ⟩ K:=by
 refine LM (v:=.bool false) (rs:=[]) hj hb ?_ (dF hd) ?_
 ·rw[hne];exact bI
 ·rw[hne];exact hK
theorem le{ks:List Nat}{fr':Fr}(h:KeepIs fr ks fr')(hK:K ⟨fr',σ⟩):RS P n ops [] ⟨fr,σ⟩ (xF ks K):=aD8 h rfl hK
theorem BF{s:ASt}{fs:Array Field} [Ty P t (.struct fs)] {sz by_:Nat}{z:Value} [Tz P t sz by_ z] {pl:List (Nat×Nat)} [Tf P t pl] {parts:Array (Nat×Operand)}{vs:List (Nat×AV)}{out zs:List AV}(hp:PEvs s c parts.toList vs)(hz:z.cells.toList.map tK=zs)(hf:Fill pl zs vs out):
  Lop P (.build t parts) ty s c (.agg out) []:=TP rfl hp (by rw[hz];exact hf.eq)
theorem aA7{ts:List Nat}{q off len sz:Nat}{et:TypeId}{es es':List (List AV)}(ht:q∈ts)(hg:gU σ q=some (.arr et sz es))(hle:off+len≤es.length)(he:(es.drop off).take len=es'):Bor σ ts (.own q off len) (.ro sz es' .any):=he▸Bor.own ht hg hle
theorem eQ{s:ASt}{x y z:Operand}{v:AV}(h:Ev s c x (.bool true))(h1:Ev s c y v):Lop P (.pick x y z) ty s c v []:=
 Lop.pure_ fun M F N n a w hr hc=>⟨_,h1.vr hr hc,fun w' o ho _=>by
  have e:=h.bool hr hc;simp[execOp,ho,e,asBool]⟩
theorem eR{s:ASt}{x y z:Operand}{v:AV}(h:Ev s c x (.bool false))(h1:Ev s c z v):Lop P (.pick x y z) ty s c v []:=
 Lop.pure_ fun M F N n a w hr hc=>⟨_,h1.vr hr hc,fun w' o ho _=>by
  have e:=h.bool hr hc;simp[execOp,ho,e,asBool]⟩
theorem WV:∀x∈([]:List AV),NoF x:=fun x hx=>by simp at hx
theorem TT{a:AV}{l:List AV}(h:NoF a)(k:∀x∈l,NoF x):∀x∈a::l,NoF x:=fun x hx=>by
 rcases List.mem_cons.1 hx with rfl|hx
 ·exact h
 ·exact k x hx
inductive BorL (σ:dY) (ts:List Nat):List AV→List AV→Prop
 |nil:BorL σ ts [] []
 |cons {x y:AV} {xs ys:List AV} (h:Bor σ ts x y) (r:BorL σ ts xs ys):BorL σ ts (x::xs) (y::ys)
theorem BorL.at_ {ts:List Nat}{cs cs':List AV}(h:BorL σ ts cs cs'):cs'.length=cs.length∧∀(j:Nat) (a':AV),cs'[j]? =some a'→Bor σ ts (cs.getD j .undef) a':=by
 induction h with
 |nil=>exact⟨rfl,fun j a h=>by simp at h⟩
 |cons h _ ih=>
  refine⟨by simp[ih.1],fun j a' hj=> ?_⟩;cases j with
  |zero=>simp at hj;subst hj;simpa using h
  |succ j=>simpa using ih.2 j a' (by simpa using hj)
theorem WW{ts:List Nat}{cs cs':List AV}(h:BorL σ ts cs cs'):Bor σ ts (.agg cs) (.agg cs'):=
 .agg (fun j=>cs.getD j .undef) h.at_.1 (fun j a hj=>by simp[hj]) h.at_.2
theorem bx{v:AV}{cs:List AV}(h:aev ⟨fr,σ⟩ x=some v)(hc:v.cells.all AV.cell=true)(hv:v.cells=cs)(hd:Nat.ble (d+1) n=true)(hK:∀r,Fresh r σ→RS P n ops rest ⟨(d,.ptr r 0)::fr,(r,.box t cs)::σ⟩ K):RS P n ops (⟨some d,.box t x,ty,pos,af,none⟩::rest) ⟨fr,σ⟩ K:=by
 subst hv;exact iA (RE h hc (dF hd) hK)
theorem al{sz by_:Nat}{z:Value} [Tz P t sz by_ z] {cs:List AV}(hd:Nat.ble (d+1) n=true)(hz:z.cells.toList.map cW=cs)(hK:∀r,Fresh r σ→RS P n ops rest ⟨(d,.ptr r 0)::fr,(r,.box t cs)::σ⟩ K):RS P n ops (⟨some d,.alloc t,ty,pos,af,none⟩::rest) ⟨fr,σ⟩ K:=by
 subst hz;exact iA (zE (dF hd) hK)
theorem zG{s:ASt}{σ2:dY}(h:∀p∈σ2,p∈s.σ)(hK:RS P n ops rest ⟨s.fr,σ2⟩ K):RS P n ops rest s K:=mM (s':=⟨s.fr,σ2⟩) (SGo.of_le (fun _ x h=>⟨x,h,VLe.refl x⟩) h) hK
theorem CG{listed:Array Bool}{todo:List (Nat×Bool)}{held:List (Nat×List Nat)}{s:ASt}{σ2:dY}(h:∀p∈σ2,p∈s.σ)(hK:RD P n ops listed todo held ⟨s.fr,σ2⟩ K):RD P n ops listed todo held s K:=by
 intro hsel hc M F N a w hr;exact jI (PostN.ext ((Ext.refl M F N w s.σ).sub h)) (fun _ _ h=>h) _ _ _ _ (hK hsel hc M F N a w ⟨hr.size,hr.defers,hr.fr,hr.st.sub h⟩)
theorem WX{sz by_:Nat}{z:Value} [Tz P t sz by_ z] {r off:Nat}{v:AV}(h:aev ⟨fr,σ⟩ x=some (.ptr r off))(hv:aev ⟨fr,σ⟩ y=some v)(hc:v.cells.all AV.cell=true)(hl:v.cells.length=sz)(hs:SPut σ r off v.cells σ')
  (hK:RS P n ops rest ⟨fr,σ'⟩ K):RS P n ops (⟨none,.store t x y,ty,pos,af,none⟩::rest) ⟨fr,σ⟩ K:=by
 obtain⟨bt,cs,cs',h1,h2⟩:=hs.set;obtain⟨k1,k2⟩:=h1.eq;refine iA (vW h h2.get hv hc hl (by omega) ?_);refine zG (fun p hp=> ?_) hK;rw[hl]at k2;rw[←k2];exact h2.sub p hp
theorem sto{sz1 by_:Nat}{z:Value} [Tz P t sz1 by_ z] {r i off:Nat}{et:TypeId}{sz:Nat}{es es':List (List AV)}{e e':List AV}{v:AV}(h:aev ⟨fr,σ⟩ x=some (.ow r i off))(hv:aev ⟨fr,σ⟩ y=some v)(hc:v.cells.all AV.cell=true)(hl:v.cells.length=sz1)
  (hs:SSet σ r (.arr et sz es) r (.arr et sz es') σ') (he:es[i]? =some e) (hp:Put e off v.cells e') (he':es'=es.set i e') (hK:RS P n ops rest ⟨fr,σ'⟩ K):RS P n ops (⟨none,.store t x y,ty,pos,af,none⟩::rest) ⟨fr,σ⟩ K:=by
 obtain⟨k1,k2⟩:=hp.eq;refine iA (tQ h hs.get he (by omega) hv hc hl ?_);refine zG (fun p hp=> ?_) hK;rw[hl]at k2;rw[←k2,←he'];exact hs.sub p hp
theorem bs{e:TypeId} [Ty P t (.slice e)] {sz by_:Nat}{zv:Value} [Tz P e sz by_ zv] {len:Nat}{parts:Array (Nat×Operand)}{vs:List AV}{es:List (List AV)}(hv:AEvs ⟨fr,σ⟩ (parts.toList.map (·.2)) vs)(hp:parts.toList=qS 0 (parts.toList.map (·.2)))(hlen:(len==vs.length)=true)(h0:(decide (0<sz)&&decide (len*sz≤16777216))=true)
  (hc:(vs.all fun v=>v.cells.length==sz&&v.cells.all AV.cell)=true) (he:vs.map AV.cells=es) (hd:Nat.ble (d+1) n=true) (hK:∀r,Fresh r σ→RS P n ops rest ⟨(d,.own r 0 len)::fr,(r,.arr e sz es)::σ⟩ K):RS P n ops (⟨some d,.buildSlice t len parts,ty,pos,af,none⟩::rest) ⟨fr,σ⟩ K:=by
 subst he;exact iA (nR hp hv hlen h0 hc (dF hd) hK)
theorem mk{e:TypeId} [Ty P t (.slice e)] {sz by_:Nat}{zv:Value} [Tz P e sz by_ zv] {k k':IntKind}{m:Int}{l:Nat}{z:List AV}(hl:aev ⟨fr,σ⟩ x=some (.int k m))(hc:aev ⟨fr,σ⟩ y=some (.int k' m))(hm:m=(l:Int))(h0:(decide (0<sz)&&(zv.cells.size==sz)&&(zv.cells.toList.map cW).all AV.cell)=true)
  (hby:by_*l≤281474976710656) (hml:l≤maxLen) (hz:zv.cells.toList.map cW=z) (hd:Nat.ble (d+1) n=true) (hK:∀r,Fresh r σ→RS P n ops rest ⟨(d,.own r 0 l)::fr,(r,.arr e sz (List.replicate l z))::σ⟩ K):RS P n ops (⟨some d,.makeSlice t x y,ty,pos,af,none⟩::rest) ⟨fr,σ⟩ K:=by
 subst hz;exact iA (WT hl hc hm h0 hby hml (dF hd) hK)
theorem ap{e:TypeId} [Ty P t (.slice e)] {sz by_:Nat}{zv:Value} [Tz P e sz by_ zv] {r len len':Nat}{es ys es':List (List AV)}(hz:zv.cells.size=sz)(hb:aev ⟨fr,σ⟩ x=some (.own r 0 len))(hg:gU σ r=some (.arr e sz es))(hlen:len=es.length)(hy:Src ⟨fr,σ⟩ y sz ys)
  (he:es++ys=es') (hl':len'=len+ys.length) (hmax:len'≤maxLen) (hby:len'*by_≤140737488355328) (hd:Nat.ble (d+1) n=true)
  (hK:∀r',Fresh r' (eZ [r] σ)→∃σ',SSet σ r (.arr e sz es) r' (.arr e sz es') σ'∧RS P n ops rest ⟨(d,.own r' 0 len')::fr,σ'⟩ K):RS P n ops (⟨some d,.call { callee:=.builtin .append,args:=#[x,y],argTypes:=#[t,t] },ty,pos,af,none⟩::rest) ⟨fr,σ⟩ K:=by
 subst he hl';refine iA (oS hz hb hg (by omega) hy hmax hby (dF hd) fun r' hf=> ?_);obtain⟨σ',hs,hK⟩:=hK r' hf;rw[hlen,List.take_length];refine zG (fun p hp=>hs.sub p hp) ?_;rw[←hlen];exact hK
theorem cp{e tS:TypeId} [Ty P t (.slice e)] {by_:Nat}{zv:Value} [Tz P e 1 by_ zv] {r off len m:Nat}{et:TypeId}{es ys es':List (List AV)}(hb:aev ⟨fr,σ⟩ x=some (.own r off len))(hs:SSet σ r (.arr et 1 es) r (.arr et 1 es') σ')(hle:off+len≤es.length)(hy:Src ⟨fr,σ⟩ y 1 ys)(hm:m=min ys.length len)
  (he:es'=es.take off++ys.take m++es.drop (off+m)) (hd:Nat.ble (d+1) n=true) (hK:RS P n ops rest ⟨(d,.int .i64 m)::fr,σ'⟩ K):RS P n ops (⟨some d,.call { callee:=.builtin .copy,args:=#[x,y],argTypes:=#[t,tS] },ty,pos,af,none⟩::rest) ⟨fr,σ⟩ K:=by
 subst he;exact iA (LS hb hs.get hle hy hm (dF hd) (zG (s:=⟨_,_⟩) (fun p hp=>hs.sub p hp) hK))
theorem pu{f:FuncId}{xs:List Operand}{ats:Array TypeId}{args:List AV}{v:AV}(ts:List Nat)(hf:∀args w,(callFunc f args).run P w=.ok (.enter f args) w)(h:SCall P f args [] (fun x σ'=>x=v∧σ'=[]))(hd:Nat.ble (d+1) n=true)
  (hargs:ArgsIf ⟨fr,σ⟩ true ts xs args) (hno:NoF v) (hK:RS P n ops rest ⟨(d,v)::fr,σ⟩ K):RS P n ops (⟨some d,.call { callee:=.value (.func f),args:=xs.toArray,argTypes:=ats },ty,pos,af,none⟩::rest) ⟨fr,σ⟩ K:=aA6 ts hf h (dF hd) hargs hno hK
theorem xJ{f:FuncId}{j dj:Nat}{want b:Bool}{xs:List Operand}{ats:Array TypeId}{args:List AV}{v:AV}(ts:List Nat)(hj:(ops[j]?).bind (·.dst)=some dj)(hb:dU fr dj=some (.bool b))(hf:∀args w,(callFunc f args).run P w=.ok (.enter f args) w)
  (h:(b==want)=true→SCall P f args [] (fun x σ'=>x=v∧σ'=[])) (hd:Nat.ble (d+1) n=true) (hargs:ArgsIf ⟨fr,σ⟩ (b==want) ts xs args) (hno:NoF v) (hK:RS P n ops rest ⟨(d,.when (b==want) v)::fr,σ⟩ K):
  RS P n ops (⟨some d,.call { callee:=.value (.func f),args:=xs.toArray,argTypes:=ats },ty,pos,af,some (j,want)⟩::rest) ⟨fr,σ⟩ K:=ES ts hj hb hf h (dF hd) hargs hno hK
theorem ne{e:TypeId} [Ty P t (.slice e)] {sz:Nat}{es:List (List AV)}{k:Rk}(h:aev ⟨fr,σ⟩ x=some (.ro sz es k))(hy:y=.const (.slice none 0 0))(hd:Nat.ble (d+1) n=true)(hK:∀b,(b=true→es=[])→(k=.nil→b=true)→RS P n ops rest ⟨(d,.bool b)::fr,σ⟩ K):
  RS P n ops (⟨some d,.binOp .eql t x y t',ty,pos,af,none⟩::rest) ⟨fr,σ⟩ K:=TQ h hy (dF hd) hK
theorem cl{f:FuncId}{xs:List Operand}{ats:Array TypeId}{args:List AV}{R:AV→dY→Prop}(ts:List Nat)(hf:∀args w,(callFunc f args).run P w=.ok (.enter f args) w)(h:SCall P f args [] R)(hd:Nat.ble (d+1) n=true)
  (hargs:ArgsBor ⟨fr,σ⟩ ts xs args) (hno:∀x σ',R x σ'→NoF x∧∀p∈σ',ENoF p.2) (hK:∀x σ',R x σ'→(∀p∈σ',Fresh p.1 σ)→RS P n ops rest ⟨(d,x)::fr,σ'++σ⟩ K):
  RS P n ops (⟨some d,.call { callee:=.value (.func f),args:=xs.toArray,argTypes:=ats },ty,pos,af,none⟩::rest) ⟨fr,σ⟩ K:=iA (qF ts hf h (dF hd) hargs hno hK)
theorem cw{f:FuncId}{xs:List Operand}{ats:Array TypeId}{args:List AV}{R:AV→dY→Prop}(σ1:dY)(hf:∀args w,(callFunc f args).run P w=.ok (.enter f args) w)(h:SCall P f args σ1 R)(hd:Nat.ble (d+1) n=true)
  (hargs:ArgsLe ⟨fr,σ⟩ xs args) (hsub:∀p∈σ1,p∈σ) (hK:∀x σ',R x σ'→(∀p∈σ',(∃q∈σ1,q.1=p.1)∨Fresh p.1 σ)→RS P n ops rest ⟨(d,x)::fr,σ'++eZ (σ1.map (·.1)) σ⟩ K):
  RS P n ops (⟨some d,.call { callee:=.value (.func f),args:=xs.toArray,argTypes:=ats },ty,pos,af,none⟩::rest) ⟨fr,σ⟩ K:=iA (qR hf h (dF hd) hargs hsub hK)
theorem fz{i q off len sz:Nat}{et:TypeId}{es es':List (List AV)}(hx:dU fr i=some (.own q off len))(hd:SDel σ q (.arr et sz es) σ')(hle:off+len≤es.length)(he:(es.drop off).take len=es')(hK:RS P n ops rest ⟨(i,.ro sz es' .any)::fr,σ'⟩ K):RS P n ops rest ⟨fr,σ⟩ K:=
 mM (aEc hx hd hle he) hK
theorem gy{dst:Option Nat}{s:ASt}{j dj:Nat}{want:Bool}(hj:(ops[j]?).bind (·.dst)=some dj)(hb:dU s.fr dj=some (.bool want))(h:RS P n (ops) (⟨dst,op,ty,pos,af,none⟩::rest) s K):RS P n ops (⟨dst,op,ty,pos,af,some (j,want)⟩::rest) s K:=by
 intro M F N a w hr;have hw:=mR (o:=⟨dst,op,ty,pos,af,some (j,want)⟩) hr rfl hj hb;have h1:=h M F N a w hr;unfold wpList at h1⊢;rw[hw,if_pos (by cases want<;>rfl)];rw[if_pos (by rfl)]at h1;exact h1
variable {listed : Array Bool} {todo : List (Nat × Bool)} {held : List (Nat × List Nat)} {i : Nat}
theorem gD{v:AV}{rs:List Nat}(hi:ops[i]? =some ⟨some d,op,ty,pos,af,none⟩)(h:Lop P op ty ⟨fr,σ⟩ true v rs)(hd:Nat.ble (d+1) n=true)(hK:RD P n ops (listed.setIfInBounds i true) todo ((i,rs)::held) ⟨(d,v)::fr,σ⟩ K):
  RD P n ops listed ((i,true)::todo) held ⟨fr,σ⟩ K:=WR hi h (dF hd) hK
theorem eE{j dj:Nat}{want b:Bool}{v:AV}{rs:List Nat}(hi:ops[i]? =some ⟨some d,op,ty,pos,af,some (j,want)⟩)(hj:(ops[j]?).bind (·.dst)=some dj)(hb:dU fr dj=some (.bool b))(h:Lop P op ty ⟨fr,σ⟩ (b==want) v rs)(hd:Nat.ble (d+1) n=true)
  (hK:RD P n ops (listed.setIfInBounds i true) todo ((i,rs)::held) ⟨(d,.when (b==want) v)::fr,σ⟩ K):RD P n ops listed ((i,true)::todo) held ⟨fr,σ⟩ K:=LO hi hj hb h (dF hd) hK
theorem eG{j dj:Nat}{want b c0:Bool}{v:AV}{rs:List Nat}(hi:ops[i]? =some ⟨some d,op,ty,pos,af,some (j,want)⟩)(hj:(ops[j]?).bind (·.dst)=some dj)(hb:dU fr dj=some (.when c0 (.bool b)))(h:Lop P op ty ⟨fr,σ⟩ (c0&&(b==want)) v rs)(hd:Nat.ble (d+1) n=true)
  (hK:RD P n ops (listed.setIfInBounds i true) todo ((i,rs)::held) ⟨(d,.when (c0&&(b==want)) v)::fr,σ⟩ K):RD P n ops listed ((i,true)::todo) held ⟨fr,σ⟩ K:=EP hi hj hb h (dF hd) hK
theorem jA{j dj:Nat}{want b:Bool}(hi:ops[i]? =some ⟨some d,op,ty,pos,af,some (j,want)⟩)(hj:(ops[j]?).bind (·.dst)=some dj)(hb:dU fr dj=some (.bool b))(hne:(b==want)=false)(hd:Nat.ble (d+1) n=true)
  (hK:RD P n ops (listed.setIfInBounds i true) todo ((i,[])::held) ⟨(d,.when false (.bool false))::fr,σ⟩ K):RD P n ops listed ((i,true)::todo) held ⟨fr,σ⟩ K:=by
 refine LO (v:=.bool false) (rs:=[]) hi hj hb ?_ (dF hd) ?_
 ·rw[hne];exact bI
 ·rw[hne];exact hK
theorem de{ks:List Nat}{fr':Fr}(h:KeepIs fr ks fr')(hK:K ⟨fr',σ⟩):RD P n ops listed [] held ⟨fr,σ⟩ (xF ks K):=aD9 h rfl hK
theorem dbx{v:AV}{cs:List AV}(hi:ops[i]? =some ⟨some d,.box t x,ty,pos,af,none⟩)(h:aev ⟨fr,σ⟩ x=some v)(hc:v.cells.all AV.cell=true)(hv:v.cells=cs)(hd:Nat.ble (d+1) n=true)(hK:∀r,Fresh r σ→RD P n ops (listed.setIfInBounds i true) todo held ⟨(d,.ptr r 0)::fr,(r,.box t cs)::σ⟩ K):
  RD P n ops listed ((i,false)::todo) held ⟨fr,σ⟩ K:=by
 subst hv;exact tR hi (RE h hc (dF hd) hK)
theorem dal{sz by_:Nat}{z:Value}{cs:List AV}(hi:ops[i]? =some ⟨some d,.alloc t,ty,pos,af,none⟩)(i1:Tz P t sz by_ z)(hd:Nat.ble (d+1) n=true)(hz:z.cells.toList.map cW=cs)(hK:∀r,Fresh r σ→RD P n ops (listed.setIfInBounds i true) todo held ⟨(d,.ptr r 0)::fr,(r,.box t cs)::σ⟩ K):
  RD P n ops listed ((i,false)::todo) held ⟨fr,σ⟩ K:=by
 subst hz;exact tR hi (zE (dF hd) hK)
theorem aIc{sz by_:Nat}{z:Value}{r off:Nat}{v:AV}(hi:ops[i]? =some ⟨none,.store t x y,ty,pos,af,none⟩)(i1:Tz P t sz by_ z)(h:aev ⟨fr,σ⟩ x=some (.ptr r off))(hv:aev ⟨fr,σ⟩ y=some v)(hc:v.cells.all AV.cell=true)(hl:v.cells.length=sz)(hs:SPut σ r off v.cells σ')
  (hb:HB ops i (σ.map (·.1)) [r] held) (hK:RD P n ops (listed.setIfInBounds i true) todo held ⟨fr,σ'⟩ K):RD P n ops listed ((i,false)::todo) held ⟨fr,σ⟩ K:=by
 obtain⟨bt,cs,cs',h1,h2⟩:=hs.set;obtain⟨k1,k2⟩:=h1.eq;refine xI hi (vW h h2.get hv hc hl (by omega) ?_) (fun q hq=> ?_) hb
 ·refine CG (fun p hp=> ?_) hK;rw[hl]at k2;rw[←k2];exact h2.sub p hp
 ·obtain rfl:=List.mem_singleton.1 hq;exact List.mem_map.2 ⟨_,bV h2.get,rfl⟩
theorem aA8{sz1 by_:Nat}{z:Value}{r j off:Nat}{et:TypeId}{sz:Nat}{es es':List (List AV)}{e e':List AV}{v:AV}(hi:ops[i]? =some ⟨none,.store t x y,ty,pos,af,none⟩)(i1:Tz P t sz1 by_ z)(h:aev ⟨fr,σ⟩ x=some (.ow r j off))(hv:aev ⟨fr,σ⟩ y=some v)(hc:v.cells.all AV.cell=true)(hl:v.cells.length=sz1)
  (hs:SSet σ r (.arr et sz es) r (.arr et sz es') σ') (he:es[j]? =some e) (hp:Put e off v.cells e') (he':es'=es.set j e') (hb:HB ops i (σ.map (·.1)) [r] held) (hK:RD P n ops (listed.setIfInBounds i true) todo held ⟨fr,σ'⟩ K):RD P n ops listed ((i,false)::todo) held ⟨fr,σ⟩ K:=by
 obtain⟨k1,k2⟩:=hp.eq;refine xI hi (tQ h hs.get he (by omega) hv hc hl ?_) (fun q hq=> ?_) hb
 ·refine CG (fun p hp=> ?_) hK;rw[hl]at k2;rw[←k2,←he'];exact hs.sub p hp
 ·obtain rfl:=List.mem_singleton.1 hq;exact List.mem_map.2 ⟨_,bV hs.get,rfl⟩
theorem dbs{e:TypeId}{sz by_:Nat}{zv:Value}{len:Nat}{parts:Array (Nat×Operand)}{vs:List AV}{es:List (List AV)}(hi:ops[i]? =some ⟨some d,.buildSlice t len parts,ty,pos,af,none⟩)(i1:Ty P t (.slice e))(i2:Tz P e sz by_ zv)(hv:AEvs ⟨fr,σ⟩ (parts.toList.map (·.2)) vs)(hp:parts.toList=qS 0 (parts.toList.map (·.2)))(hlen:(len==vs.length)=true)(h0:(decide (0<sz)&&decide (len*sz≤16777216))=true)
  (hc:(vs.all fun v=>v.cells.length==sz&&v.cells.all AV.cell)=true) (he:vs.map AV.cells=es) (hd:Nat.ble (d+1) n=true) (hK:∀r,Fresh r σ→RD P n ops (listed.setIfInBounds i true) todo held ⟨(d,.own r 0 len)::fr,(r,.arr e sz es)::σ⟩ K):RD P n ops listed ((i,false)::todo) held ⟨fr,σ⟩ K:=by
 subst he;exact tR hi (nR hp hv hlen h0 hc (dF hd) hK)
theorem dap{e:TypeId}{sz by_:Nat}{zv:Value}{r len len':Nat}{es ys es':List (List AV)}(hi:ops[i]? =some ⟨some d,.call { callee:=.builtin .append,args:=#[x,y],argTypes:=#[t,t] },ty,pos,af,none⟩)(i1:Ty P t (.slice e))(i2:Tz P e sz by_ zv)(hz:zv.cells.size=sz)(hx:aev ⟨fr,σ⟩ x=some (.own r 0 len))(hg:gU σ r=some (.arr e sz es))(hlen:len=es.length)(hy:Src ⟨fr,σ⟩ y sz ys)
  (he:es++ys=es') (hl':len'=len+ys.length) (hmax:len'≤maxLen) (hby:len'*by_≤140737488355328) (hd:Nat.ble (d+1) n=true) (hb:HB ops i (σ.map (·.1)) [r] held)
  (hK:∀r',Fresh r' (eZ [r] σ)→∃σ',SSet σ r (.arr e sz es) r' (.arr e sz es') σ'∧RD P n ops (listed.setIfInBounds i true) todo held ⟨(d,.own r' 0 len')::fr,σ'⟩ K):RD P n ops listed ((i,false)::todo) held ⟨fr,σ⟩ K:=by
 subst he hl';refine xI hi (oS hz hx hg (by omega) hy hmax hby (dF hd) fun r' hf=> ?_) (fun q hq=> ?_) hb
 ·obtain⟨σ',hs,hK⟩:=hK r' hf;rw[hlen,List.take_length];refine CG (fun p hp=>hs.sub p hp) ?_;rw[←hlen];exact hK
 ·obtain rfl:=List.mem_singleton.1 hq;exact List.mem_map.2 ⟨_,bV hg,rfl⟩
theorem dpu{f:FuncId}{xs:List Operand}{ats:Array TypeId}{args:List AV}{v:AV}(ts:List Nat)(hi:ops[i]? =some ⟨some d,.call { callee:=.value (.func f),args:=xs.toArray,argTypes:=ats },ty,pos,af,none⟩)(hf:∀args w,(callFunc f args).run P w=.ok (.enter f args) w)(h:SCall P f args [] (fun x σ'=>x=v∧σ'=[]))(hd:Nat.ble (d+1) n=true)
  (hargs:ArgsIf ⟨fr,σ⟩ true ts xs args) (hno:NoF v) (hK:RD P n ops (listed.setIfInBounds i true) todo held ⟨(d,v)::fr,σ⟩ K):RD P n ops listed ((i,false)::todo) held ⟨fr,σ⟩ K:=tR hi (LU ts hf h (dF hd) hargs hno hK)
theorem dcl{f:FuncId}{xs:List Operand}{ats:Array TypeId}{args:List AV}{R:AV→dY→Prop}(ts:List Nat)(hi:ops[i]? =some ⟨some d,.call { callee:=.value (.func f),args:=xs.toArray,argTypes:=ats },ty,pos,af,none⟩)(hf:∀args w,(callFunc f args).run P w=.ok (.enter f args) w)(h:SCall P f args [] R)(hd:Nat.ble (d+1) n=true)
  (hargs:ArgsBor ⟨fr,σ⟩ ts xs args) (hno:∀x σ',R x σ'→NoF x∧∀p∈σ',ENoF p.2) (hK:∀x σ',R x σ'→(∀p∈σ',Fresh p.1 σ)→RD P n ops (listed.setIfInBounds i true) todo held ⟨(d,x)::fr,σ'++σ⟩ K):
  RD P n ops listed ((i,false)::todo) held ⟨fr,σ⟩ K:=tR hi (qF ts hf h (dF hd) hargs hno hK)
theorem qT{f:FuncId}{xs:List Operand}{ats:Array TypeId}{args:List AV}{R:AV→dY→Prop}(σ1:dY)(hi:ops[i]? =some ⟨some d,.call { callee:=.value (.func f),args:=xs.toArray,argTypes:=ats },ty,pos,af,none⟩)(hf:∀args w,(callFunc f args).run P w=.ok (.enter f args) w)(h:SCall P f args σ1 R)(hd:Nat.ble (d+1) n=true)
  (hargs:ArgsLe ⟨fr,σ⟩ xs args) (hsub:∀p∈σ1,p∈σ) (hb:HB ops i (σ.map (·.1)) (σ1.map (·.1)) held) (hK:∀x σ',R x σ'→(∀p∈σ',(∃q∈σ1,q.1=p.1)∨Fresh p.1 σ)→RD P n ops (listed.setIfInBounds i true) todo held ⟨(d,x)::fr,σ'++eZ (σ1.map (·.1)) σ⟩ K):
  RD P n ops listed ((i,false)::todo) held ⟨fr,σ⟩ K:=xI hi (qR hf h (dF hd) hargs hsub hK) (fun r hr=>by obtain⟨p,hp,rfl⟩:=List.mem_map.1 hr;exact List.mem_map.2 ⟨p,hsub p hp,rfl⟩) hb
theorem dcp{e tS:TypeId}{by_:Nat}{zv:Value}{r off len m:Nat}{et:TypeId}{es ys es':List (List AV)}(hi:ops[i]? =some ⟨some d,.call { callee:=.builtin .copy,args:=#[x,y],argTypes:=#[t,tS] },ty,pos,af,none⟩)(i1:Ty P t (.slice e))(i2:Tz P e 1 by_ zv)(hx:aev ⟨fr,σ⟩ x=some (.own r off len))(hs:SSet σ r (.arr et 1 es) r (.arr et 1 es') σ')(hle:off+len≤es.length)(hy:Src ⟨fr,σ⟩ y 1 ys)(hm:m=min ys.length len)
  (he:es'=es.take off++ys.take m++es.drop (off+m)) (hd:Nat.ble (d+1) n=true) (hb:HB ops i (σ.map (·.1)) [r] held) (hK:RD P n ops (listed.setIfInBounds i true) todo held ⟨(d,.int .i64 m)::fr,σ'⟩ K):RD P n ops listed ((i,false)::todo) held ⟨fr,σ⟩ K:=by
 subst he;refine xI hi (LS hx hs.get hle hy hm (dF hd) (CG (s:=⟨_,_⟩) (fun p hp=>hs.sub p hp) hK)) (fun q hq=> ?_) hb;obtain rfl:=List.mem_singleton.1 hq;exact List.mem_map.2 ⟨_,bV hs.get,rfl⟩
end
theorem SR.retold {M:Mp}{F:Nat→Prop}{N:Nat}{w:World}{σ σ':dY}(h:SR M F N w σ)(hs:∀p∈σ',(∃x,(p.1,x)∈σ)∧ER M F w p.1 p.2):SR M F N w σ':=by
 refine⟨fun p hp=>(hs p hp).2,fun p hp q hq g h1 h2=> ?_, ?_,h.flt,h.fresh⟩
 ·obtain⟨x,hx⟩:=(hs p hp).1;obtain⟨y,hy⟩:=(hs q hq).1;exact h.inj (p.1,x) hx (q.1,y) hy g h1 h2
 ·rintro g ⟨p,hp,hg⟩;obtain⟨x,hx⟩:=(hs p hp).1;exact h.nof g ⟨_,hx,hg⟩
theorem Ext.retold {M:Mp}{F:Nat→Prop}{N:Nat}{w:World}{σ σ':dY}(hs:∀p∈σ',∃x,(p.1,x)∈σ):Ext M F N w σ M F N w σ':=by
 refine⟨fun _ _ h=>h,fun _ h=>h,Nat.le_refl _,Only.refl _ _, ?_,fun _ h=>.inl h, ?_⟩
 ·rintro g ⟨p,hp,hg⟩ _;obtain⟨x,hx⟩:=hs p hp;exact⟨_,hx,hg⟩
 ·intro p hp _;obtain⟨x,hx⟩:=hs p hp;exact⟨_,hx,rfl⟩
theorem dZ{P:Program}{n:Nat}{ks:List Nat}{s:ASt}{c:Code}{Q:Exit→ASt→Prop}(r off:Nat)(e:TypeId)(sz:Nat)(h0:0<sz){bt:TypeId}{cs:List AV}{z:Nat}{k:Rk}(hg:gU s.σ r=some (.box bt cs))(hx:cs[off]? =some (.ro z [] k))(hk:k≠ .any)
  (h:∀q,Fresh q s.σ→∃σ',SSet s.σ r (.box bt cs) r (.box bt (cs.set off (.own q 0 0))) σ'∧SW P n ks c ⟨s.fr,(q,.arr e sz [])::σ'⟩ Q):SW P n ks c s Q:=by
 intro M F N a w hr;have hE:ER (gH M N .virt) F w N (.arr e sz []):=⟨h0,fun x hx=>by simp at hx,.inl ⟨cN _,rfl⟩⟩
 obtain⟨r1,e1,n1⟩:=hr.new_ (w':=w) .virt (.arr e sz []) (fun _ _=>rfl) ⟨rfl,rfl,rfl⟩ (Nat.le_refl _) (fun g hg=>by simp[bY,cN]at hg) hE;obtain⟨σ',hs,hK⟩:=h N n1;have hmem:∀p∈(N,Ent.arr e sz [])::σ',∃x,(p.1,x)∈(N,Ent.arr e sz [])::s.σ:=by
  intro p hp;rcases List.mem_cons.1 hp with rfl|hp
  ·exact⟨_,List.mem_cons_self⟩
  ·rcases List.mem_cons.1 (hs.sub p hp)with rfl|hp
   ·exact⟨_,List.mem_cons_of_mem _ (bV hg)⟩
   ·exact⟨_,List.mem_cons_of_mem _ (fC hp).1⟩
 have hr2:Rel (gH M N .virt) F (N+1) n ⟨s.fr,(N,.arr e sz [])::σ'⟩ a w:=by
  refine⟨r1.size,r1.defers,r1.fr,r1.st.retold fun p hp=>⟨hmem p hp, ?_⟩⟩;rcases List.mem_cons.1 hp with rfl|hp
  ·exact hE
  ·rcases List.mem_cons.1 (hs.sub p hp)with rfl|hp
   ·obtain⟨g,vs,h1,h2,h3,h4⟩:=r1.st.ent _ (List.mem_cons_of_mem _ (bV hg));refine⟨g,vs,by simpa using h1,h2,by simpa using h3,fun j b u hj hu=> ?_⟩;by_cases hjo:off=j
    ·subst hjo;have hlt:off<cs.length:=(List.getElem?_eq_some_iff.1 hx).1;rw[List.getElem?_set_self hlt]at hj;obtain rfl:=Option.some.inj hj;have hv:=h4 off _ u hx hu;cases hv with
     |@ro _ _ b o _ cap us hb hs hc hrr hle hm hf hn=>
      cases k with
      |nil=>exact absurd rfl hn
      |full=>have:=hf rfl;simp at this;subst this;exact .own0
      |any=>exact absurd rfl hk
     |ro0 hm hA hf hn=>
      cases k with
      |nil=>obtain rfl:=hn rfl;obtain rfl:=hA rfl;exact .own0
      |full=>obtain rfl:=hf rfl;exact .own0
      |any=>exact absurd rfl hk
    ·rw[List.getElem?_set_ne hjo]at hj;exact h4 j b u hj hu
   ·exact r1.st.ent p (List.mem_cons_of_mem _ (fC hp).1)
 refine wp_mono (hK _ F _ a w hr2) ?_;rintro e' a' w' ⟨M',F',N',s2,h1,h2,h3⟩;exact⟨M',F',N',s2,h1,(e1.trans (Ext.retold hmem)).trans h2,h3⟩
section
variable {P : Program} {n : Nat} {ks : List Nat} {s : ASt} {Q : Exit → ASt → Prop}
theorem cs{x y:Code}(h:SW P n ks x s (gJ (fun s'=>SW P n ks y s' Q) Q)):SW P n ks (.seq x y) s Q:=WL h
theorem cb{id:Nat}{c:Code}(h:SW P n ks c s (fA id Q)):SW P n ks (.block id c) s Q:=WM h
theorem ck(h:Q .normal s):SW P n ks .skip s Q:=IH h
theorem cr(h:Q .ret s):SW P n ks .ret s Q:=aD5 h
theorem cx{id:Nat}(h:Q (.exit id) s):SW P n ks (.exit id) s Q:=aA0 h
theorem lp{β:Type}{c:Code}(st:β→ASt)(ok:β→Prop)(ms:β→Nat)(b0:β)(h0:SGo s (st b0))(hok:ok b0)(round:∀b,ok b→SW P n ks c (st b) (gJ (fun s2=>∃b',ok b'∧ms b'<ms b∧SGo s2 (st b')) Q)):SW P n ks (.loop c) s Q:=
 aA2 (fun m s=>∃b,ok b∧ms b=m∧st b=s) (ms b0) ⟨_,h0,b0,hok,rfl,rfl⟩ (by
  rintro m s' ⟨b,hb,rfl,rfl⟩;refine xG (round b hb) fun e s2 h=> ?_
  cases e<;>first|exact h|(obtain⟨b',h1,h2,h3⟩:=h;exact⟨_,_,h3,h2,b',h1,rfl,rfl⟩))
theorem ct{c:Operand}{x y:Code}(hc:aev s c=some (.bool true))(h:SW P n ks x s Q):SW P n ks (.cond c x y) s Q:=IM hc h
theorem cf{c:Operand}{x y:Code}(hc:aev s c=some (.bool false))(h:SW P n ks y s Q):SW P n ks (.cond c x y) s Q:=EQ hc h
end
theorem an{K:ASt→Prop}{Q:Exit→ASt→Prop}{s:ASt}(h:K s):gJ K Q .normal s:=h
theorem ae{K:ASt→Prop}{Q:Exit→ASt→Prop}{s:ASt}{i:Nat}(h:Q (.exit i) s):gJ K Q (.exit i) s:=h
theorem ar{K:ASt→Prop}{Q:Exit→ASt→Prop}{s:ASt}(h:Q .ret s):gJ K Q .ret s:=h
theorem bn{i:Nat}{Q:Exit→ASt→Prop}{s:ASt}(h:Q .normal s):fA i Q .normal s:=h
theorem bh{i:Nat}{Q:Exit→ASt→Prop}{s:ASt}(h:Q .normal s):fA i Q (.exit i) s:=PB h
theorem be{i j:Nat}{Q:Exit→ASt→Prop}{s:ASt}(hne:(j==i)=false)(h:Q (.exit j) s):fA i Q (.exit j) s:=WS hne h
theorem br{i:Nat}{Q:Exit→ASt→Prop}{s:ASt}(h:Q .ret s):fA i Q .ret s:=h
theorem LW{P:Program}{n:Nat}{ops:Array Oper}{rest:List Oper}{s:ASt}{K:ASt→Prop}(r off:Nat)(e:TypeId)(sz:Nat)(h0:0<sz){bt:TypeId}{cs:List AV}{z:Nat}{k:Rk}(hg:gU s.σ r=some (.box bt cs))(hx:cs[off]? =some (.ro z [] k))(hk:k≠ .any)
  (h:∀q,Fresh q s.σ→∃σ',SSet s.σ r (.box bt cs) r (.box bt (cs.set off (.own q 0 0))) σ'∧RS P n ops rest ⟨s.fr,(q,.arr e sz [])::σ'⟩ K):RS P n ops rest s K:=by
 intro M F N a w hr;have hE:ER (gH M N .virt) F w N (.arr e sz []):=⟨h0,fun x hx=>by simp at hx,.inl ⟨cN _,rfl⟩⟩
 obtain⟨r1,e1,n1⟩:=hr.new_ (w':=w) .virt (.arr e sz []) (fun _ _=>rfl) ⟨rfl,rfl,rfl⟩ (Nat.le_refl _) (fun g hg=>by simp[bY,cN]at hg) hE;obtain⟨σ',hs,hK⟩:=h N n1;have hmem:∀p∈(N,Ent.arr e sz [])::σ',∃x,(p.1,x)∈(N,Ent.arr e sz [])::s.σ:=by
  intro p hp;rcases List.mem_cons.1 hp with rfl|hp
  ·exact⟨_,List.mem_cons_self⟩
  ·rcases List.mem_cons.1 (hs.sub p hp)with rfl|hp
   ·exact⟨_,List.mem_cons_of_mem _ (bV hg)⟩
   ·exact⟨_,List.mem_cons_of_mem _ (fC hp).1⟩
 have hr2:Rel (gH M N .virt) F (N+1) n ⟨s.fr,(N,.arr e sz [])::σ'⟩ a w:=by
  refine⟨r1.size,r1.defers,r1.fr,r1.st.retold fun p hp=>⟨hmem p hp, ?_⟩⟩;rcases List.mem_cons.1 hp with rfl|hp
  ·exact hE
  ·rcases List.mem_cons.1 (hs.sub p hp)with rfl|hp
   ·obtain⟨g,vs,h1,h2,h3,h4⟩:=r1.st.ent _ (List.mem_cons_of_mem _ (bV hg));refine⟨g,vs,by simpa using h1,h2,by simpa using h3,fun j b u hj hu=> ?_⟩;by_cases hjo:off=j
    ·subst hjo;have hlt:off<cs.length:=(List.getElem?_eq_some_iff.1 hx).1;rw[List.getElem?_set_self hlt]at hj;obtain rfl:=Option.some.inj hj;have hv:=h4 off _ u hx hu;cases hv with
     |@ro _ _ b o _ cap us hb hs hc hrr hle hm hf hn=>
      cases k with
      |nil=>exact absurd rfl hn
      |full=>have:=hf rfl;simp at this;subst this;exact .own0
      |any=>exact absurd rfl hk
     |ro0 hm hA hf hn=>
      cases k with
      |nil=>obtain rfl:=hn rfl;obtain rfl:=hA rfl;exact .own0
      |full=>obtain rfl:=hf rfl;exact .own0
      |any=>exact absurd rfl hk
    ·rw[List.getElem?_set_ne hjo]at hj;exact h4 j b u hj hu
   ·exact r1.st.ent p (List.mem_cons_of_mem _ (fC hp).1)
 exact kC (PostN.ext (e1.trans (Ext.retold hmem))) (hK _ F _ a w hr2)
theorem cM{e:Nat}{σ1 σ:dY}(h:(∃q∈σ1,q.1=e)∨Fresh e σ):Fresh e (eZ (σ1.map (·.1)) σ):=by
 intro p hp;obtain⟨h1,h2⟩:=fC hp;rcases h with⟨q,hq,rfl⟩|h
 ·exact fun e=>h2 (e▸List.mem_map.2 ⟨q,hq,rfl⟩)
 ·exact h p h1
theorem IP{P:Program}{n:Nat}{ops:Array Oper}{listed:Array Bool}{todo:List (Nat×Bool)}{held:List (Nat×List Nat)}{s:ASt}{K:ASt→Prop}{op:Op}{ty:TypeId}{pos:String}{af:Array Edge}{i gj dj:Nat}{want:Bool}{dst:Option Nat}{fp:List Nat}(hi:ops[i]? =some ⟨dst,op,ty,pos,af,some (gj,want)⟩)(hj:(ops[gj]?).bind (·.dst)=some dj)(hb:dU s.fr dj=some (.bool want))(h:Hop P n op ty dst s fp fun s'=>RD P n ops (listed.setIfInBounds i true) todo held s' K)
  (hfp:fp=[]∨((∀r∈fp,r∈s.σ.map (·.1))∧∀r∈qE ops held i,r∈s.σ.map (·.1)∧r∉fp)):RD P n ops listed ((i,false)::todo) held s K:=by
 intro hsel hc M F N a w hr;obtain⟨hc1,hc3⟩:=vA hi hc;simp only[Bool.false_eq_true,if_false,beq_iff_eq]at hc1;refine⟨fun h0=>by rw[hc1]at h0;simp at h0,fun j hj'=> ?_⟩;rw[hc1]at hj';obtain rfl:j=i:=by simpa using hj'
 unfold wpOp;simp only[hi];rw[mR (o:=⟨dst,op,ty,pos,af,some (gj,want)⟩) hr rfl hj hb,if_pos (by cases want<;>rfl)];refine .inl (h M F N a w _ rfl rfl rfl hr _ _ fun M' F' N' a' w' s' hr' he ho hk=>⟨fun g hg hlt=> ?_, ?_⟩)
 ·rcases hg with hg|⟨r,hrh,hg⟩
  ·exact he.only.block g hlt (fun hB=>hr.st.nof g hB hg)
  ·rcases hfp with rfl|⟨hf1,hf2⟩
   ·exact ho.block g hlt (by simp)
   ·obtain⟨h1,h2⟩:=hf2 r hrh;obtain⟨p,hp,rfl⟩:=List.mem_map.1 h1;refine ho.block g hlt ?_;rintro⟨q,hq,hqg⟩;obtain⟨p2,hp2,rfl⟩:=List.mem_map.1 (hf1 q hq);exact h2 (by rw[hr.st.inj p hp p2 hp2 g hg hqg];exact hq)
 ·refine jI (PostN.ext he) ?_ _ _ _ _ (hk hsel hc3 M' F' N' a' w' hr');rintro j g (hg|⟨r,hr,hg⟩)
  ·exact .inl (he.ff g hg)
  ·refine .inr ⟨r,hr, ?_⟩;unfold bY at hg⊢;cases hm:M r with
   |none=>rw[hm]at hg;cases hg
   |some b=>rw[hm]at hg;rw[he.mm _ _ hm];exact hg
theorem LX{P:Program}{n:Nat}{ops:Array Oper}{listed:Array Bool}{todo:List (Nat×Bool)}{held:List (Nat×List Nat)}{s:ASt}{K:ASt→Prop}{op:Op}{ty:TypeId}{pos:String}{af:Array Edge}{i d gj dj:Nat}{want b:Bool}(hi:ops[i]? =some ⟨some d,op,ty,pos,af,some (gj,want)⟩)(hj:(ops[gj]?).bind (·.dst)=some dj)(hb:dU s.fr dj=some (.bool b))(hne:(b==want)=false)(hd:Nat.ble (d+1) n=true)
  (hK:RD P n ops (listed.setIfInBounds i true) todo held (s.put d (.when false (.bool false))) K):RD P n ops listed ((i,false)::todo) held s K:=by
 intro hsel hc M F N a w hr;obtain⟨hc1,hc3⟩:=vA hi hc;simp only[Bool.false_eq_true,if_false,beq_iff_eq]at hc1;refine⟨fun h0=>by rw[hc1]at h0;simp at h0,fun k hk=> ?_⟩;rw[hc1]at hk;obtain rfl:k=i:=by simpa using hk
 unfold wpOp;simp only[hi];rw[mR (o:=⟨some d,op,ty,pos,af,some (gj,want)⟩) hr rfl hj hb,if_neg (by rw[hne];simp)];have:=hK hsel hc3 M F N _ w (hr.put (dF hd) (.when (x:=.bool false) (c:=false) (fun h=>by cases h) (fun _=>rfl)));refine⟨by simp,jI (PostN.ext (Ext.refl _ _ _ _ _)) (fun _ _ h=>h) _ _ _ _ this⟩
def aH (n:Nat):List AV:=[.int .u8 n]
def dV (bs:List Nat):ByteArray:=⟨(bs.map UInt8.ofNat).toArray⟩
theorem AD(bs:List Nat):(dV bs).toList=bs.map UInt8.ofNat:=by
 rw[Go.ByteArray.toList_eq];simp[dV]
theorem PD(ns:List Nat):∀acc:ByteArray,(ns.map Int.ofNat).foldl (fun r n=>r.push (UInt8.ofNat n.toNat)) acc=⟨acc.data++(ns.map UInt8.ofNat).toArray⟩:=by
 induction ns with
 |nil=>intro acc;simp
 |cons n ns ih=>
  intro acc;rw[List.map_cons,List.foldl_cons,ih];simp[ByteArray.push]
theorem aA9(ns:List Nat):(ns.map Int.ofNat).foldl (fun r n=>r.push (UInt8.ofNat n.toNat)) ByteArray.empty=dV ns:=by
 rw[PD];simp[dV,ByteArray.empty,ByteArray.emptyWithCapacity];rfl
theorem aEd{a b:Nat}(ha:a<256)(hb:b<256)(h:UInt8.ofNat a=UInt8.ofNat b):a=b:=by
 have:=congrArg UInt8.toNat h;simp at this;omega
theorem oU:∀ {l m:List Nat},(∀x∈l,x<256)→(∀x∈m,x<256)→((dV l).toList==(dV m).toList)=decide (l=m):=by
 intro l m hl hm;rw[AD,AD];by_cases h:l=m
 ·subst h;simp
 ·rw[decide_eq_false h,beq_eq_false_iff_ne];intro e;apply h;clear h
  induction l generalizing m with
  |nil=>cases m<;>first|rfl|simp at e
  |cons a l ih=>
   cases m with
   |nil=>simp at e
   |cons b m=>
    simp only[List.map_cons,List.cons.injEq]at e;rw[aEd (hl a (by simp)) (hm b (by simp)) e.1,ih (fun x hx=>hl x (by simp[hx])) (fun x hx=>hm x (by simp[hx])) e.2]
section
variable {P : Program} {ty : TypeId} {s : ASt} {c : Bool} {t t' e : TypeId} {x y : Operand}
theorem nA{w:World} [Ty P t (.slice e)] [Ty P e (.int .u8)] [Ty P t' .string] {ρ:Operand→Value}{o:Oper}(ho:o.op=.convert t t' x){A:Option Addr}{cap:Nat}{bs:List Nat}(hx:ρ x=.slice A bs.length cap)(hn:A=none→bs=[])
  (hc:∀p,A=some p→∀(j:Nat) (n:Nat),bs[j]? =some n→w.cell? (p.add j)=some (.int .u8 n)):(execOp ρ o).run P w=.ok (.value (.string (dV bs))) w:=by
 have h1:(Conv.bytesToString (.slice A bs.length cap)).run P w=.ok (.string (dV bs)) w:=by
  cases A with
  |none=>
   obtain rfl:=hn rfl;simp[Conv.bytesToString,dV,ByteArray.empty,ByteArray.emptyWithCapacity];rfl
  |some p=>
   have hl:=run_loadCells_list (P:=P) (w:=w) p ((bs.map Int.ofNat).map (Value.int .u8)) (fun j v hj=>by
    rw[List.getElem?_map,List.getElem?_map,Option.map_map]at hj;obtain⟨n,hn,rfl⟩:=Option.map_eq_some_iff.1 hj;exact hc p rfl j n hn)
   rw[List.length_map,List.length_map]at hl;rw[run_bytesToString w p bs.length cap (bs.map Int.ofNat) hl,aA9]
 simp only[execOp,ho,hx,Sem.run_bind,run_convert_bytes_string w t t' e A bs.length cap (Ty.und (P:=P) (t:=t)) (Ty.und (P:=P) (t:=e)) (Ty.und (P:=P) (t:=t')),h1,Result.andThen_ok,Sem.run_pure]
theorem rR [Ty P t (.slice e)] [Ty P e (.int .u8)] [Ty P t' .string] {bs:List Nat}{k:Rk}(h:Ev s c x (.ro 1 (bs.map aH) k)):Lop P (.convert t t' x) ty s c (.str (dV bs)) []:=by
 refine⟨fun r hr=>by simp at hr,fun M F N n a w hr hc=>⟨_,.str _,fun w' o ho _ hsame=> ?_⟩⟩;have e1:=h.vr hr hc;generalize hu:a.eval x=u at e1;generalize hes:bs.map aH=es at e1;cases e1 with
 |@ro _ _ b o' _ cap us hb hs hcc hrr hle hm hf hn=>
  subst hes;refine nA (e:=e) ho (by rw[hu,List.length_map]) (fun h=>by cases h) (fun p hp j n hj=> ?_);cases hp
  have h1:=hcc j (aH n) 0 (.int .u8 n) (by rw[List.getElem?_map,hj];rfl) rfl;have h2:=hrr j (aH n) 0 (.int .u8 n) (by rw[List.getElem?_map,hj];rfl) rfl;rw[Addr.add_lit,World.cell?_of_block (w:=w) (w':=w') (hsame b (.inl hb))];rw[Nat.mul_one,Nat.add_zero]at h1;rw[h1];generalize us j 0=q at h2;cases h2
  rfl
 |@ro0 _ _ A cap hm hA hf hn=>
  have:bs=[]:=by simpa using hes
  subst this;exact nA (e:=e) ho (A:=A) (cap:=cap) hu (fun _=>rfl) (fun p _ j n hj=>by simp at hj)
theorem ET [Ty P t (.slice e)] [Ty P e (.int .u8)] [Ty P t' .string] {bs bs':List Nat}{r off len:Nat}{et:TypeId}(h:Ev s c x (.own r off len))(hg:gU s.σ r=some (.arr et 1 (bs.map aH)))(hle:off+len≤bs.length)(hbs:(bs.drop off).take len=bs'):Lop P (.convert t t' x) ty s c (.str (dV bs')) [r]:=by
 subst hbs;refine⟨fun q hq=>⟨_,bV hg,(List.mem_singleton.1 hq).symm⟩,fun M F N n a w hr hc=>⟨_,.str _,fun w' o ho _ hsame=> ?_⟩⟩;have e1:=h.vr hr hc;have hl:((bs.drop off).take len).length=len:=by simp;omega
 generalize hu:a.eval x=u at e1;obtain⟨h0,hrows,h3⟩:=hr.st.ent _ (bV hg);cases e1 with
 |own hM hle' hm=>
  rcases h3 with⟨hv',_⟩|⟨g,cc,vs,hM',hcl,hsz,hlc,hmax,hvr⟩
  ·rw[hM]at hv';cases hv'
  ·have hg':=hM'.symm.trans hM;simp only[Option.some.injEq,Blk'.row.injEq]at hg';obtain⟨q1,q2,q3⟩:=hg';subst q1;subst q2;subst q3;refine nA (e:=e) ho (by rw[hu,hl]) (fun h=>by cases h) (fun p hp j n hj=> ?_);cases hp
   rw[Addr.add_lit,World.cell?_of_block (w:=w) (w':=w') (hsame g (.inr ⟨r,by simp,by simp[bY,hM]⟩)),hcl.cell];have hj2:bs[off+j]? =some n:=by
    rw[List.getElem?_take]at hj;split at hj
    ·rwa [List.getElem?_drop]at hj
    ·cases hj
   have hjl:=(List.getElem?_eq_some_iff.1 hj2).1;rw[List.length_map]at hlc;have hlt:off*1+j<vs.size:=by omega
   have h1:=hvr (off+j) (aH n) 0 (.int .u8 n) vs[off*1+j] (by rw[List.getElem?_map,hj2];rfl) rfl (by rw[show(off+j)*1+0=off*1+j by omega];exact Array.getElem?_eq_getElem hlt);rw[Array.getElem?_eq_getElem hlt];generalize vs[off*1+j]=q at h1;cases h1
   rfl
 |own0=>
  refine nA (e:=e) ho (by rw[hu,hl]) (fun _=>by simp) (fun p _ j n hj=>by simp at hj)
end
theorem eN{P:Program}{n:Nat}{ops:Array Oper}{fr:Fr}{σ:dY}{K:ASt→Prop}{op:Op}{ty:TypeId}{pos:String}{af:Array Edge}{listed:Array Bool}{todo:List (Nat×Bool)}{held:List (Nat×List Nat)}{i d j dj:Nat}{want:Bool}{v:AV}{rs:List Nat}(hi:ops[i]? =some ⟨some d,op,ty,pos,af,some (j,want)⟩)(hj:(ops[j]?).bind (·.dst)=some dj)(hb:dU fr dj=some (.bool want))(h:Lop P op ty ⟨fr,σ⟩ true v rs)(hd:Nat.ble (d+1) n=true)
  (hK:RD P n ops (listed.setIfInBounds i true) todo ((i,rs)::held) ⟨(d,v)::fr,σ⟩ K):RD P n ops listed ((i,true)::todo) held ⟨fr,σ⟩ K:=IK hi hj hb h (dF hd) hK
inductive FDel (t:Nat):Fr→Fr→Prop
 |nil:FDel t [] []
 |hit {x:AV} {l l':Fr} (h:FDel t l l'):FDel t ((t,x)::l) l'
 |miss {i:Nat} {x:AV} {l l':Fr} (hne:(i==t)=false) (h:FDel t l l'):FDel t ((i,x)::l) ((i,x)::l')
theorem FDel.get {t:Nat}{l l':Fr}(h:FDel t l l'):∀i x,dU l' i=some x→i≠t∧dU l i=some x:=by
 induction h with
 |nil=>intro i x h;simp[dU]at h
 |hit _ ih=>
  intro i x h;obtain⟨h1,h2⟩:=ih i x h;exact⟨h1,by simp only[dU];rw[if_neg h1];exact h2⟩
 |@miss j y l l' hne _ ih=>
  intro i x h;simp only[dU]at h⊢;split at h
  ·next e=>subst e;exact⟨by simpa using hne,by rw[if_pos rfl];exact h⟩
  ·next e=>obtain⟨h1,h2⟩:=ih i x h;exact⟨h1,by rw[if_neg e];exact h2⟩
theorem fF{P:Program}{n:Nat}{ks:List Nat}{fr fr0:Fr}{σ:dY}{t:Nat}{b c:Bool}{y rest:Code}{Q Q':Exit→ASt→Prop}(hx:dU fr t=some (.bool b))(hd:FDel t fr fr0)(h2:b=false→SW P n ks y ⟨fr,σ⟩ (gJ (fun s2=>SGo s2 ⟨(t,.bool c)::fr0,σ⟩) Q'))(h:SW P n ks rest ⟨(t,.bool (b||c))::fr0,σ⟩ Q):
  SW P n ks (.cond (.tmp t) .skip y) ⟨fr,σ⟩ (gJ (fun s'=>SW P n ks rest s' Q) Q'):=by
 have key:∀(fr':Fr) (x:Bool),dU fr' t=some (.bool x)→x=(b||c)→(∀i z,dU fr0 i=some z→dU fr' i=some z)→SGo ⟨fr',σ⟩ ⟨(t,.bool (b||c))::fr0,σ⟩:=fun fr' x hxx he ho=>SGo.of_le (fun j z hj=>by
  simp only[dU]at hj⊢;split at hj
  ·next e=>subst e;obtain rfl:=Option.some.inj hj;exact⟨_,hxx,by rw[he];exact VLe.refl _⟩
  ·next e=>exact⟨z,ho j z hj,VLe.refl _⟩) (fun _ h=>h)
 refine aB (b:=b) hx (fun hb=> ?_) (fun hb=> ?_)
 ·exact IH (eU (key fr b hx (by rw[hb];rfl) (fun i z hz=>(hd.get i z hz).2)) h)
 ·refine xG (h2 hb) fun e s2 hs=> ?_
  cases e<;>first|exact hs|skip
  refine eU (SGo.trans hs (key _ c (by simp[dU]) (by rw[hb];rfl) (fun i z hz=>by
   have:=(hd.get i z hz).1;simp only[dU];rw[if_neg this];exact hz))) h
theorem eB{P:Program}{n:Nat}{ks:List Nat}{fr fr0:Fr}{σ:dY}{t:Nat}{b c:Bool}{y:Code}{s0:ASt}{Q':Exit→ASt→Prop}(hx:dU fr t=some (.bool b))(hd:FDel t fr fr0)(h2:b=false→SW P n ks y ⟨fr,σ⟩ (gJ (fun s2=>SGo s2 ⟨(t,.bool c)::fr0,σ⟩) Q'))(h:SGo ⟨(t,.bool (b||c))::fr0,σ⟩ s0):
  SW P n ks (.cond (.tmp t) .skip y) ⟨fr,σ⟩ (gJ (fun s2=>SGo s2 s0) Q'):=by
 refine aB (b:=b) hx (fun hb=> ?_) (fun hb=> ?_)
 ·refine IH (SGo.trans (s':=⟨(t,.bool (b||c))::fr0,σ⟩) (SGo.of_le (fun j z hj=> ?_) (fun _ h=>h)) h);simp only[dU]at hj;split at hj
  ·next e=>subst e;obtain rfl:=Option.some.inj hj;exact⟨_,hx,by rw[hb];exact VLe.refl _⟩
  ·next e=>exact⟨z,(hd.get j z hj).2,VLe.refl _⟩
 ·refine xG (h2 hb) fun e s2 hs=> ?_
  cases e<;>first|exact hs|skip
  refine SGo.trans hs (SGo.trans (s':=⟨(t,.bool (b||c))::fr0,σ⟩) (SGo.of_le (fun j z hj=> ?_) (fun _ h=>h)) h);simp only[dU]at hj⊢;split at hj
  ·next e=>subst e;obtain rfl:=Option.some.inj hj;exact⟨_,by rw[if_pos rfl],by rw[hb];exact VLe.refl _⟩
  ·next e=>exact⟨z,by rw[if_neg e];exact hj,VLe.refl _⟩
theorem TU{P:Program}{n:Nat}{ks:List Nat}{s:ASt}{Q Q':Exit→ASt→Prop}{β:Type}{x y:Code}(st:β→ASt)(ok:β→Prop)(hx:SW P n ks x s (gJ (fun s2=>∃b,ok b∧SGo s2 (st b)) Q'))(hy:∀b,ok b→SW P n ks y (st b) Q):SW P n ks x s (gJ (fun s'=>SW P n ks y s' Q) Q'):=
 xG hx fun e s2 h=>by cases e<;>first|exact h|(obtain⟨b,h1,h2⟩:=h;exact eU h2 (hy b h1))
section
variable {P : Program} {n : Nat} {ops : Array Oper} {rest : List Oper} {fr : Fr} {σ σ' : dY} {K : ASt → Prop} {ty t : TypeId} {pos : String} {af : Array Edge} {x y : Operand}
end
section
variable {P : Program} {ty : TypeId} {s : ASt} {c : Bool} {t t' e : TypeId} {x y : Operand}
end
theorem LY{p:Nat→Prop}:∀(n m:Nat),m≤n→p m→∃k,p k∧∀j,p j→k≤j
 |0,m,hm,h=>⟨0,by rwa [show m=0 by omega]at h,fun j _=>Nat.zero_le _⟩
 |n+1,m,hm,h=>by
  by_cases hc:∃j,j≤n∧p j
  ·obtain⟨j,h1,h2⟩:=hc;exact LY n j h1 h2
  ·refine⟨m,h,fun j hj=> ?_⟩;by_cases hjm:m≤j
   ·exact hjm
   ·exact absurd ⟨j,by omega,hj⟩ hc
theorem CH{P:Program}{a:Act}{w:World}{Q:Exit→Act→World→Prop}{c rest:Code}(l:Nat)(J:Nat→Act→World→Prop)(hf:findLabel c l=some rest)
  (first:c.wp P (Exit.jump l (fun a w=>∃m,J m a w) Q) a w)
  (pass:∀m a w,J m a w→rest.wp P (Exit.jump l (fun a' w'=>∃m',m'<m∧J m' a' w') Q) a w):(Code.scope c).wp P Q a w:=by
 have hm:∀a w,∃k,∀m,J m a w→J k a w∧k≤m:=by
  intro a w;by_cases h:∃m,J m a w
  ·obtain⟨m,h⟩:=h;obtain⟨k,h1,h2⟩:=LY (p:=fun m=>J m a w) m m (Nat.le_refl _) h;exact⟨k,fun j hj=>⟨h1,h2 j hj⟩⟩
  ·exact⟨0,fun m hj=>absurd ⟨m,hj⟩ h⟩
 refine wp_scope_jumps l (fun a w=>∃m,J m a w) (fun a w=>(hm a w).choose) hf first ?_
 rintro a w ⟨m,h⟩;obtain⟨h1,-⟩:=(hm a w).choose_spec m h;refine wp_mono (pass _ a w h1) ?_;intro e a' w' hq;cases e<;>first|exact hq|skip
 obtain⟨h2,m',h3,h4⟩:=hq;exact⟨h2,⟨m',h4⟩,Nat.lt_of_le_of_lt ((hm a' w').choose_spec m' h4).2 h3⟩
def LZ (l:Nat) (J:ASt→Prop) (Q:Exit→ASt→Prop):Exit→ASt→Prop
 | .goto l',s=>l'=l∧J s
 |e,s=>Q e s
section
variable {P : Program} {n : Nat} {ks : List Nat} {s : ASt} {Q : Exit → ASt → Prop}
theorem scj{β:Type}{c body:Code}(l:Nat)(hf:findLabel c l=some (.seq .skip body))(st:β→ASt)(ok:β→Prop)(ms:β→Nat)
  (pass:∀b,ok b→SW P n ks body (st b) (LZ l (fun s2=>∃b',ok b'∧ms b'<ms b∧SGo s2 (st b')) Q))
  (first:(∀b s',ok b→SGo s' (st b)→SW P n ks (.seq (.label l) body) s' (LZ l (fun s2=>∃b',ok b'∧SGo s2 (st b')) Q))→SW P n ks c s (LZ l (fun s2=>∃b',ok b'∧SGo s2 (st b')) Q)):SW P n ks (.scope c) s Q:=by
 have hfirst:=first fun b s' hb hgo=>eU hgo (WL (WK (xG (pass b hb) fun e s2 h=>by
  cases e<;>first|exact h|skip
  obtain⟨h1,b',h2,-,h3⟩:=h;exact⟨h1,b',h2,h3⟩)))
 intro M F N a w hr;refine CH l (fun m a' w'=>∃M' F' N' b,ok b∧ms b=m∧Rel M' F' N' n (st b) a' w'∧Ext M F N w s.σ M' F' N' w' (st b).σ) hf ?_ ?_
 ·refine wp_mono (hfirst M F N a w hr) ?_;rintro e a' w' ⟨M',F',N',s',h1,h2,h3⟩;cases e<;>first|exact⟨M',F',N',s',h1,h2,h3⟩|skip
  obtain⟨h3,b,h4,h5⟩:=h3;obtain⟨M2,F2,N2,r2,e2⟩:=h5 M' F' N' n a' w' h1;exact⟨h3,_,M2,F2,N2,b,h4,rfl,r2,h2.trans e2⟩
 ·rintro m a' w' ⟨M1,F1,N1,b,hb,rfl,r1,e1⟩;refine wp_seq (wp_skip ?_);refine wp_mono (pass b hb M1 F1 N1 a' w' r1) ?_;rintro e a2 w2 ⟨M',F',N',s',h1,h2,h3⟩;cases e<;>first|exact⟨M',F',N',s',h1,e1.trans h2,h3⟩|skip
  obtain⟨h3,b',h4,h6,h5⟩:=h3;obtain⟨M2,F2,N2,r2,e2⟩:=h5 M' F' N' n a2 w2 h1;exact⟨h3,_,h6,M2,F2,N2,b',h4,rfl,r2,e1.trans (h2.trans e2)⟩
theorem cg{l:Nat}(h:Q (.goto l) s):SW P n ks (.goto l) s Q:=aA1 h
end
theorem ag{K:ASt→Prop}{Q:Exit→ASt→Prop}{s:ASt}{i:Nat}(h:Q (.goto i) s):gJ K Q (.goto i) s:=h
theorem bg{i j:Nat}{Q:Exit→ASt→Prop}{s:ASt}(h:Q (.goto j) s):fA i Q (.goto j) s:=h
theorem jg{J:ASt→Prop}{Q:Exit→ASt→Prop}{s:ASt}{l:Nat}(h:J s):LZ l J Q (.goto l) s:=⟨rfl,h⟩
theorem jr{J:ASt→Prop}{Q:Exit→ASt→Prop}{s:ASt}{l:Nat}(h:Q .ret s):LZ l J Q .ret s:=h
theorem iL{P:Program}{f:FuncId}{e:TypeId}{sz z:Nat}{args:List AV}{σ:dY}{R:AV→dY→Prop}(h0:0<sz)(h:∀q,Fresh q σ→SCall P f (.own q 0 0::args) ((q,.arr e sz [])::σ) R):SCall P f (.ro z [] .nil::args) σ R:=by
 intro M F N w vs hl hv hs;have hr:Rel M F N 0 ⟨[],σ⟩ ⟨#[],[]⟩ w:=⟨rfl,rfl,fun i x hi=>by simp[dU]at hi,hs⟩
 have hE:ER (gH M N .virt) F w N (.arr e sz []):=⟨h0,fun x hx=>by simp at hx,.inl ⟨cN _,rfl⟩⟩
 obtain⟨r1,e1,n1⟩:=hr.new_ (w':=w) .virt (.arr e sz []) (fun _ _=>rfl) ⟨rfl,rfl,rfl⟩ (Nat.le_refl _) (fun g hg=>by simp[bY,cN]at hg) hE;refine(h N n1 (gH M N .virt) F (N+1) w vs (by simpa using hl) ?_ r1.st).mono ?_
 ·intro i x v hx hvv;cases i with
  |zero=>
   obtain rfl:AV.own N 0 0=x:=by simpa using hx
   have hv0:=hv 0 _ v rfl hvv;cases hv0 with
   |@ro _ _ b o _ cap us hb hs hc hrr hle hm hf hn=>exact absurd rfl hn
   |ro0 hm hA hf hn=>
    obtain rfl:=hn rfl;obtain rfl:=hA rfl;exact .own0
  |succ i=>exact VR.mono e1.mm e1.ff (fun _ _=>rfl) (hv (i+1) x v (by simpa using hx) hvv)
 ·rintro e' w' ⟨v,x,M',F',N',σ',k1,k2,k3,k4,k5⟩;exact⟨v,x,M',F',N',σ',k1,e1.trans k2,k3,k4,k5⟩
section
variable {P : Program} {ty : TypeId} {s : ASt} {c : Bool} {t : TypeId} {x y : Operand}
theorem TV{e k:Nat}{d:TypeDesc} [Ty P t (.array k e)] [Ty P e d] (hd:tB d=false){by_:Nat}{z:Value} [Tz P e 1 by_ z] {ki:IntKind}{m:Int}{cs:List AV}{v:AV}(h:Ev s c x (.agg cs))(hi:Ev s c y (.int ki m))(hb:c=true→0≤m∧m<k)(hv:c=true→cs[m.toNat]? =some v):Lop P (.index t x y) ty s c v []:=
 Lop.pure_ fun M F N n a w hr hc=>by
  have e1:=h.vr hr hc;have hv:=hv hc;have hb:=hb hc;obtain⟨j,hi',hz,hs,_⟩:=Tz.parts P e;generalize hu:a.eval x=u at e1;cases e1 with
  |@agg _ vs hl hh=>
   have hlt:m.toNat<vs.size:=by rw[hl];exact(List.getElem?_eq_some_iff.1 hv).1
   refine⟨vs[m.toNat],hh _ v _ hv (Array.getElem?_eq_getElem hlt),fun w' o ho _=> ?_⟩;have:=xH (P:=P) (t:=e) hd (w:=w') (Array.getElem?_eq_getElem hlt);simp[execOp,ho,hu,hi.int hr hc,Instr.index,asIntOf,run_underlying (Ty.und (P:=P) (t:=t)),hb,sizeOf,typeInfo,hi',hs,this]
theorem WY{e:Nat} [Ty P t (.array 3 e)] {by_ by':Nat}{z z':Value} [Tz P t 3 by_ z] [Tz P e 1 by' z'] {k:IntKind}{m0 m1 m2:Int}(h3:∃a0 a1 a2,z=.agg #[a0,a1,a2]):Lop P (.build t #[(0,.const (.int k m0)),(1,.const (.int k m1)),(2,.const (.int k m2))]) ty s c (.agg [.int k m0,.int k m1,.int k m2]) []:=by
 obtain⟨a0,a1,a2,h3⟩:=h3;refine Lop.pure_ fun M F N n a w hr hc=>⟨.agg #[.int k m0,.int k m1,.int k m2],.agg rfl (fun j b u hj hu=> ?_),fun w' o ho _=> ?_⟩
 ·rcases j with _ | _ | _ |j
  ·simp at hj hu;subst hj hu;exact .int _ _
  ·simp at hj hu;subst hj hu;exact .int _ _
  ·simp at hj hu;subst hj hu;exact .int _ _
  ·simp at hj
 ·obtain⟨i,hi,hz0,hs0,_⟩:=Tz.parts P t;obtain⟨i',hi',hz0',hs0',_⟩:=Tz.parts P e;simp[execOp,ho,Instr.build,zeroValue,typeInfo,hi,hz0,run_underlying (Ty.und (P:=P) (t:=t)),sizeOf,hi',hs0',Instr.fill,h3,Act.eval,Value.cells]
end
end Go.Proofs.YtjpdadobblffmaaGreat
namespace Go.Proofs.YtjpdadobblffmaaGreat
@[reducible] def ty2:=Ty.mk Tryz.underlying2
attribute [instance] ty2
instance tz2:Tz Tryz.prog 2 1 8 (.int .i64 0):=⟨by kernel_rfl⟩
@[reducible] def ty3:=Ty.mk Tryz.underlying3
attribute [instance] ty3
instance tz3:Tz Tryz.prog 3 1 8 (.int .i64 0):=⟨by kernel_rfl⟩
@[reducible] def ty4:=Ty.mk Tryz.underlying4
attribute [instance] ty4
instance tz4:Tz Tryz.prog 4 1 1 (.bool false):=⟨by kernel_rfl⟩
@[reducible] def ty5:=Ty.mk Tryz.underlying5
attribute [instance] ty5
instance tz5:Tz Tryz.prog 5 1 1 (.int .u8 0):=⟨by kernel_rfl⟩
@[reducible] def ty9:=Ty.mk Tryz.underlying9
attribute [instance] ty9
instance tz9:Tz Tryz.prog 9 1 16 (.string .empty):=⟨by kernel_rfl⟩
@[reducible] def aId:=Ty.mk Tryz.underlying22
attribute [instance] aId
instance tz22:Tz Tryz.prog 22 1 24 (.slice none 0 0):=⟨by kernel_rfl⟩
@[reducible] def aIe:=Ty.mk Tryz.underlying23
attribute [instance] aIe
instance tz23:Tz Tryz.prog 23 1 24 (.slice none 0 0):=⟨by kernel_rfl⟩
@[reducible] def aIf:=Ty.mk Tryz.underlying24
attribute [instance] aIf
instance tz24:Tz Tryz.prog 24 1 24 (.slice none 0 0):=⟨by kernel_rfl⟩
@[reducible] def aIg:=Ty.mk Tryz.underlying26
attribute [instance] aIg
instance tz26:Tz Tryz.prog 26 3 24 (.agg #[.bool false,.int .i64 0,.int .i64 0]):=⟨by kernel_rfl⟩
instance tf26:Tf Tryz.prog 26 [(0,1),(1,1),(2,1)]:=⟨by kernel_rfl⟩
@[reducible] def aIh:=Ty.mk Tryz.underlying27
attribute [instance] aIh
instance tz27:Tz Tryz.prog 27 1 24 (.slice none 0 0):=⟨by kernel_rfl⟩
@[reducible] def aIi:=Ty.mk Tryz.underlying28
attribute [instance] aIi
instance tz28:Tz Tryz.prog 28 1 24 (.slice none 0 0):=⟨by kernel_rfl⟩
@[reducible] def aIj:=Ty.mk Tryz.underlying29
attribute [instance] aIj
instance tz29:Tz Tryz.prog 29 1 24 (.slice none 0 0):=⟨by kernel_rfl⟩
@[reducible] def aIk:=Ty.mk Tryz.underlying30
attribute [instance] aIk
instance tz30:Tz Tryz.prog 30 1 24 (.slice none 0 0):=⟨by kernel_rfl⟩
@[reducible] def aIl:=Ty.mk Tryz.underlying31
attribute [instance] aIl
instance tz31:Tz Tryz.prog 31 1 24 (.slice none 0 0):=⟨by kernel_rfl⟩
@[reducible] def aIm:=Ty.mk Tryz.underlying33
attribute [instance] aIm
instance tz33:Tz Tryz.prog 33 14 240 (.agg #[.slice none 0 0,.slice none 0 0,.slice none 0 0,.bool false,.int .i64 0,.int .i64 0,.bool false,.int .i64 0,.int .i64 0,.slice none 0 0,.slice none 0 0,.slice none 0 0,.slice none 0 0,.slice none 0 0]):=⟨by kernel_rfl⟩
instance tf33:Tf Tryz.prog 33 [(0,1),(1,1),(2,1),(3,3),(6,3),(9,1),(10,1),(11,1),(12,1),(13,1)]:=⟨by kernel_rfl⟩
@[reducible] def aIn:=Ty.mk Tryz.underlying36
attribute [instance] aIn
instance tz36:Tz Tryz.prog 36 1 24 (.slice none 0 0):=⟨by kernel_rfl⟩
@[reducible] def aIo:=Ty.mk Tryz.underlying39
attribute [instance] aIo
instance tz39:Tz Tryz.prog 39 1 8 (.int .i64 0):=⟨by kernel_rfl⟩
@[reducible] def aIp:=Ty.mk Tryz.underlying42
attribute [instance] aIp
instance tz42:Tz Tryz.prog 42 1 24 (.slice none 0 0):=⟨by kernel_rfl⟩
@[reducible] def aIq:=Ty.mk Tryz.underlying44
attribute [instance] aIq
instance tz44:Tz Tryz.prog 44 2 48 (.agg #[.slice none 0 0,.slice none 0 0]):=⟨by kernel_rfl⟩
instance tf44:Tf Tryz.prog 44 [(0,1),(1,1)]:=⟨by kernel_rfl⟩
@[reducible] def aIr:=Ty.mk Tryz.underlying46
attribute [instance] aIr
instance tz46:Tz Tryz.prog 46 4 48 (.agg #[.int .i64 0,.int .i64 0,.int .i64 0,.slice none 0 0]):=⟨by kernel_rfl⟩
instance tf46:Tf Tryz.prog 46 [(0,1),(1,1),(2,1),(3,1)]:=⟨by kernel_rfl⟩
@[reducible] def aIs:=Ty.mk Tryz.underlying48
attribute [instance] aIs
instance tz48:Tz Tryz.prog 48 2 32 (.agg #[.int .i64 0,.slice none 0 0]):=⟨by kernel_rfl⟩
instance tf48:Tf Tryz.prog 48 [(0,1),(1,1)]:=⟨by kernel_rfl⟩
@[reducible] def aIt:=Ty.mk Tryz.underlying50
attribute [instance] aIt
instance tz50:Tz Tryz.prog 50 2 48 (.agg #[.slice none 0 0,.slice none 0 0]):=⟨by kernel_rfl⟩
instance tf50:Tf Tryz.prog 50 [(0,1),(1,1)]:=⟨by kernel_rfl⟩
@[reducible] def aIu:=Ty.mk Tryz.underlying64
attribute [instance] aIu
instance tz64:Tz Tryz.prog 64 3 40 (.agg #[.string .empty,.string .empty,.int .i64 0]):=⟨by kernel_rfl⟩
instance tf64:Tf Tryz.prog 64 [(0,1),(1,1),(2,1)]:=⟨by kernel_rfl⟩
@[reducible] def aIv:=Ty.mk Tryz.underlying66
attribute [instance] aIv
instance tz66:Tz Tryz.prog 66 2 24 (.agg #[.string .empty,.int .i64 0]):=⟨by kernel_rfl⟩
instance tf66:Tf Tryz.prog 66 [(0,1),(1,1)]:=⟨by kernel_rfl⟩
@[reducible] def aIw:=Ty.mk Tryz.underlying69
attribute [instance] aIw
instance tz69:Tz Tryz.prog 69 2 32 (.agg #[.int .i64 0,.slice none 0 0]):=⟨by kernel_rfl⟩
instance tf69:Tf Tryz.prog 69 [(0,1),(1,1)]:=⟨by kernel_rfl⟩
@[reducible] def aIx:=Ty.mk Tryz.underlying71
attribute [instance] aIx
instance tz71:Tz Tryz.prog 71 2 16 (.agg #[.int .i64 0,.int .i64 0]):=⟨by kernel_rfl⟩
instance tf71:Tf Tryz.prog 71 [(0,1),(1,1)]:=⟨by kernel_rfl⟩
@[reducible] def aIy:=Ty.mk Tryz.underlying73
attribute [instance] aIy
instance tz73:Tz Tryz.prog 73 3 24 (.agg #[.bool false,.int .i64 0,.int .i64 0]):=⟨by kernel_rfl⟩
instance tf73:Tf Tryz.prog 73 [(0,1),(1,2)]:=⟨by kernel_rfl⟩
@[reducible] def aIz:=Ty.mk Tryz.underlying83
attribute [instance] aIz
@[reducible] def aIA:=Ty.mk Tryz.underlying87
attribute [instance] aIA
@[reducible] def aGl:=Ty.mk Tryz.underlying114
attribute [instance] aGl
@[reducible] def aGm:=Ty.mk Tryz.underlying117
attribute [instance] aGm
instance tz117:Tz Tryz.prog 117 2 32 (.agg #[.slice none 0 0,.bool false]):=⟨by kernel_rfl⟩
instance tf117:Tf Tryz.prog 117 [(0,1),(1,1)]:=⟨by kernel_rfl⟩
@[reducible] def aGn:=Ty.mk Tryz.underlying126
attribute [instance] aGn
instance tz126:Tz Tryz.prog 126 1 24 (.slice none 0 0):=⟨by kernel_rfl⟩
@[reducible] def aGo:=Ty.mk Tryz.underlying128
attribute [instance] aGo
instance tz128:Tz Tryz.prog 128 18 320 (.agg #[.slice none 0 0,.slice none 0 0,.slice none 0 0,.bool false,.int .i64 0,.int .i64 0,.bool false,.int .i64 0,.int .i64 0,.slice none 0 0,.slice none 0 0,.slice none 0 0,.slice none 0 0,.slice none 0 0,.slice none 0 0,.slice none 0 0,.slice none 0 0,.bool false]):=⟨by kernel_rfl⟩
instance tf128:Tf Tryz.prog 128 [(0,14),(14,1),(15,1),(16,1),(17,1)]:=⟨by kernel_rfl⟩
@[reducible] def aGp:=Ty.mk Tryz.underlying130
attribute [instance] aGp
@[reducible] def aGq:=Ty.mk Tryz.underlying134
attribute [instance] aGq
@[reducible] def aGr:=Ty.mk Tryz.underlying137
attribute [instance] aGr
instance tz137:Tz Tryz.prog 137 4 32 (.agg #[.int .i64 0,.int .i64 0,.int .i64 0,.bool false]):=⟨by kernel_rfl⟩
instance tf137:Tf Tryz.prog 137 [(0,1),(1,1),(2,1),(3,1)]:=⟨by kernel_rfl⟩
@[reducible] def aGs:=Ty.mk Tryz.underlying140
attribute [instance] aGs
instance tz140:Tz Tryz.prog 140 1 24 (.slice none 0 0):=⟨by kernel_rfl⟩
@[reducible] def aGt:=Ty.mk Tryz.underlying142
attribute [instance] aGt
instance tz142:Tz Tryz.prog 142 20 352 (.agg #[.slice none 0 0,.slice none 0 0,.slice none 0 0,.bool false,.int .i64 0,.int .i64 0,.bool false,.int .i64 0,.int .i64 0,.slice none 0 0,.slice none 0 0,.slice none 0 0,.slice none 0 0,.slice none 0 0,.slice none 0 0,.slice none 0 0,.slice none 0 0,.int .i64 0,.slice none 0 0,.bool false]):=⟨by kernel_rfl⟩
instance tf142:Tf Tryz.prog 142 [(0,14),(14,1),(15,1),(16,1),(17,1),(18,1),(19,1)]:=⟨by kernel_rfl⟩
@[reducible] def aGu:=Ty.mk Tryz.underlying146
attribute [instance] aGu
@[reducible] def aGv:=Ty.mk Tryz.underlying148
attribute [instance] aGv
@[reducible] def aGw:=Ty.mk Tryz.underlying152
attribute [instance] aGw
@[reducible] def aGx:=Ty.mk Tryz.underlying162
attribute [instance] aGx
instance tz162:Tz Tryz.prog 162 3 24 (.agg #[.int .i64 0,.int .i64 0,.int .i64 0]):=⟨by kernel_rfl⟩
instance tf162:Tf Tryz.prog 162 [(0,1),(1,1),(2,1)]:=⟨by kernel_rfl⟩
@[reducible] def aGy:=Ty.mk Tryz.underlying167
attribute [instance] aGy
@[reducible] def aGz:=Ty.mk Tryz.underlying182
attribute [instance] aGz
@[reducible] def aGA:=Ty.mk Tryz.underlying204
attribute [instance] aGA
@[reducible] def aGB:=Ty.mk Tryz.underlying218
attribute [instance] aGB
@[reducible] def aGC:=Ty.mk Tryz.underlying261
attribute [instance] aGC
instance tz261:Tz Tryz.prog 261 2 32 (.agg #[.slice none 0 0,.bool false]):=⟨by kernel_rfl⟩
instance tf261:Tf Tryz.prog 261 [(0,1),(1,1)]:=⟨by kernel_rfl⟩
@[reducible] def aGD:=Ty.mk Tryz.underlying277
attribute [instance] aGD
@[reducible] def aGE:=Ty.mk Tryz.underlying280
attribute [instance] aGE
@[reducible] def aGF:=Ty.mk Tryz.underlying284
attribute [instance] aGF
@[reducible] def aGG:=Ty.mk Tryz.underlying298
attribute [instance] aGG
instance tz298:Tz Tryz.prog 298 3 24 (.agg #[.int .i64 0,.int .i64 0,.int .i64 0]):=⟨by kernel_rfl⟩
instance tf298:Tf Tryz.prog 298 [(0,1),(1,1),(2,1)]:=⟨by kernel_rfl⟩
@[reducible] def aGH:=Ty.mk Tryz.underlying325
attribute [instance] aGH
@[reducible] def aGI:=Ty.mk Tryz.underlying328
attribute [instance] aGI
instance tz328:Tz Tryz.prog 328 3 3 (.agg #[.int .u8 0,.int .u8 0,.int .u8 0]):=⟨by kernel_rfl⟩
@[reducible] def aGJ:=Ty.mk Tryz.underlying346
attribute [instance] aGJ
instance tz346:Tz Tryz.prog 346 3 40 (.agg #[.slice none 0 0,.int .i64 0,.int .i64 0]):=⟨by kernel_rfl⟩
instance tf346:Tf Tryz.prog 346 [(0,1),(1,1),(2,1)]:=⟨by kernel_rfl⟩
theorem aDk:Tryz.prog.follows .mixedOrders=true:=by kernel_rfl
end Go.Proofs.YtjpdadobblffmaaGreat
namespace Go.Proofs.YtjpdadobblffmaaGreat
open Go.RowKit Go.ChangeShapes Go.WideShapes Go.ChangeAt Go.Deep
structure Hold (Q:Prop):Prop where
 h:Q
theorem cF{P:Prop}(h:P:=by(first|assumption|(apply Nq.en;assumption)|omega|(simp only[Nq]at*;omega))):P:=h
theorem bH{P:Prop}(h:P:=by(repeat(first|exact jS|(apply jT;(first|assumption|(apply Nq.en;assumption)|omega|(simp only[Nq]at*;omega)))))):P:=h
theorem aG{P:Prop}(h:P:=by(repeat(first|exact ResL.nil|(apply ResL.tmp;rfl)|(apply ResL.cell;rfl;infer_instance;rfl;(repeat(first|exact jS|(apply jT;(first|assumption|(apply Nq.en;assumption)|omega|(simp only[Nq]at*;omega)))));rfl)|(apply ResL.cells;rfl;infer_instance;infer_instance;rfl;(repeat(first|exact jS|(apply jT;(first|assumption|(apply Nq.en;assumption)|omega|(simp only[Nq]at*;omega)))));exact Nat.le_of_ble_eq_true rfl)))):P:=h
theorem aA{P:Prop}(h:P:=by(first|exact aEa|exact(fun _ h=>h)|(apply StLe.mem;(repeat(first|exact StLe.nil|(apply StLe.cons;(repeat(first|exact List.mem_cons_self|apply List.mem_cons_of_mem));first|rfl|focus (congr 1;done)|focus (simp;done)|(simp;rfl))))))):P:=h
theorem aC{P:Prop}(h:P:=by(repeat(first|exact ArgsLe.nil|(apply ArgsLe.cons;rfl;first|exact VLe.refl _ |exact VLe.when rfl|exact VLe.any|exact VLe.empty|exact VLe.of_eq (by simp))))):P:=h
theorem aDl{P:Prop}(h:P:=by(
     first
      |exact Bor.refl _
      |exact Bor.le VLe.any
      |exact Bor.le VLe.empty
      |(apply aA7;(repeat(
        first
         |exact List.mem_cons_self
         |apply List.mem_cons_of_mem));(repeat(
        first
         |exact jS
         |(apply jT;(
          first
           |assumption
           |(apply Nq.en;assumption)
           |omega
           |(simp only[Nq]at*;omega)))));(
       first
        |focus (simp;done)
        |omega
        |focus (simp;omega));(
       first
        |rfl
        |focus (simp;done)
        |focus (exact List.take_of_length_le (by
         first
          |(simp;done)
          |(simp;omega)))))
      |focus (apply bbox;(repeat(
        first
         |exact List.mem_cons_self
         |apply List.mem_cons_of_mem));(repeat(
        first
         |exact jS
         |(apply jT;(
          first
           |assumption
           |(apply Nq.en;assumption)
           |omega
           |(simp only[Nq]at*;omega)))));rfl;rfl;(repeat(
        first
         |exact BorL.nil
         |(apply BorL.cons;(
          first
           |exact Bor.refl _
           |exact Bor.le VLe.any
           |exact Bor.le VLe.empty
           |(apply aA7;(repeat(
             first
              |exact List.mem_cons_self
              |apply List.mem_cons_of_mem));(repeat(
             first
              |exact jS
              |(apply jT;(
               first
                |assumption
                |(apply Nq.en;assumption)
                |omega
                |(simp only[Nq]at*;omega)))));(
            first
             |focus (simp;done)
             |omega);(
            first
             |rfl
             |focus (simp;done)
             |focus (exact List.take_of_length_le (by
              first
               |(simp;done)
               |(simp;omega)))))
           |focus (apply Bor.le;apply VLe.of_eq;simp;done)))));done)
      |focus (apply WW;(repeat(
        first
         |exact BorL.nil
         |(apply BorL.cons;(
          first
           |exact Bor.refl _
           |exact Bor.le VLe.any
           |exact Bor.le VLe.empty
           |(apply aA7;(repeat(
             first
              |exact List.mem_cons_self
              |apply List.mem_cons_of_mem));(repeat(
             first
              |exact jS
              |(apply jT;(
               first
                |assumption
                |(apply Nq.en;assumption)
                |omega
                |(simp only[Nq]at*;omega)))));(
            first
             |focus (simp;done)
             |omega);(
            first
             |rfl
             |focus (simp;done)
             |focus (exact List.take_of_length_le (by
              first
               |(simp;done)
               |(simp;omega)))))
           |focus (apply Bor.le;apply VLe.of_eq;simp;done)))));done)
      |focus (apply Bor.le;apply VLe.of_eq;simp;done))):P:=h
theorem bG{P:Prop}(h:P:=by(repeat(first|exact ArgsIf.nil|(apply ArgsIf.cons;(first|exact W rfl id|exact W rfl (fun _=>rfl)|exact E rfl);exact aDl)))):P:=h
theorem bS{P:Prop}(h:P:=by(repeat(first|exact ArgsBor.nil|(apply ArgsBor.cons;rfl;exact aDl)))):P:=h
theorem cD{P:Prop}(h:P:=by(repeat(first|exact ArgsIf.nil|refine ArgsIf.cons (by first|exact Ev.when rfl (by first|exact id|simp)|exact Ev.here rfl) (by first|exact Bor.refl _ |exact Bor.le VLe.any|exact Bor.le VLe.empty|exact Bor.own (by simp) (by repeat(first|exact jS|refine jT (by(first|assumption|(apply Nq.en;assumption)|omega|(simp only[Nq]at*;omega))) ?_)) (by simp)|exact Bor.le (VLe.of_eq (by simp))) ?_))):P:=h
theorem bK{P:Prop}(h:P:=by(repeat(first|exact NoF.int|exact NoF.bool|exact NoF.nilp|exact NoF.nil|exact NoF.own|exact NoF.ptr|exact NoF.str|exact WV|apply NoF.tup|apply NoF.agg|apply TT))):P:=h
theorem gE{P:Prop}(h:P:=by(repeat(first|exact HB.nil|apply HB.none|(apply HB.ok;focus (simp only[List.mem_cons,List.not_mem_nil,or_false,List.map_cons,List.map_nil,forall_eq_or_imp,forall_eq,true_or,or_true,true_and,and_true,not_false_eq_true,not_or];(repeat' (first|apply And.intro|(first|assumption|(apply Nq.en;assumption)|omega|(simp only[Nq]at*;omega))));done))|(apply HB.waits;kernel_rfl)))):P:=h
theorem atT{P:Prop}(h:P:=by(first|rfl|exact aE (by assumption)|assumption)):P:=h
theorem xK{P:Prop}(h:P:=by(repeat(first|exact Put.done|apply Put.put|apply Put.skip))):P:=h
theorem sK{P:Prop}(h:P:=by(repeat(first|(apply SPut.here;(repeat(first|exact Put.done|apply Put.put|apply Put.skip));(repeat(first|exact Fresh.nil|(apply Fresh.cons;(first|assumption|(apply Nq.en;assumption)|omega|(simp only[Nq]at*;omega))))))|(apply SPut.next;(first|assumption|(apply Nq.en;assumption)|omega|(simp only[Nq]at*;omega)))))):P:=h
theorem cZ{P:Prop}(h:P:=by(repeat(first|(apply SSet.here;(repeat(first|exact Fresh.nil|(apply Fresh.cons;(first|assumption|(apply Nq.en;assumption)|omega|(simp only[Nq]at*;omega))))))|(apply SSet.next;(first|assumption|(apply Nq.en;assumption)|omega|(simp only[Nq]at*;omega)))))):P:=h
theorem bP{P:Prop}(h:P:=by(repeat(first|(apply SDel.here;(repeat(first|exact Fresh.nil|(apply Fresh.cons;(first|assumption|(apply Nq.en;assumption)|omega|(simp only[Nq]at*;omega))))))|(apply SDel.next;(first|assumption|(apply Nq.en;assumption)|omega|(simp only[Nq]at*;omega)))))):P:=h
theorem tC{P:Prop}(h:P:=by(repeat(first|exact Fresh.nil|(apply Fresh.cons;(first|assumption|(apply Nq.en;assumption)|omega|(simp only[Nq]at*;omega)))))):P:=h
theorem qU{P:Prop}(h:P:=by(repeat(first|exact AEvs.nil|(apply AEvs.cons;rfl)))):P:=h
theorem dM{P:Prop}(h:P:=by(first|(simp only[Value.cells,AV.cells,List.map_cons,List.map_nil,cW,tK];rfl)|rfl)):P:=h
theorem bF{P:Prop}(h:P:=by(first|(simp(disch:=(first|(simp only[List.mem_cons,List.not_mem_nil,true_or,or_true,or_false];done)|(focus (simp only[List.mem_cons,List.not_mem_nil,or_false,not_or];(repeat' (first|apply And.intro|(first|assumption|(apply Nq.en;assumption)|omega|(simp only[Nq]at*;omega))));done))|omega)) only[↓aD7,↓aGg,AV.cells,AN,cJ,cX,dO,cY,List.nil_append,List.cons_append,List.append_nil,List.map_nil,List.map_cons,List.take_succ_cons,List.take_zero,List.drop_succ_cons,List.drop_zero,TR,IO,Nat.zero_add,Nat.add_zero,tK,cW];rfl)|rfl)):P:=h
theorem aK{P:Prop}(h:P:=by(refine aEb ?_ ?_ <;>(repeat(first|exact FrLe.nil|(apply FrLe.cons;rfl;first|exact VLe.refl _ |exact VLe.any|exact VLe.empty|exact VLe.of_eq (by simp)|exact VLe.of_eq (by congr 1;omega))|exact StLe.nil|exact StLe.refl _ |(apply StLe.cons;(repeat(first|exact List.mem_cons_self|apply List.mem_cons_of_mem));first|rfl|focus (congr 1;done)|focus (simp;done)|(simp;rfl)))))):P:=h
theorem aDm{P:Prop}(h:P:=by(repeat(first|(apply KeepIs.take;rfl)|(apply KeepIs.skip;rfl)|exact KeepIs.nil))):P:=h
theorem cU{P:Prop}(h:P:=by(repeat(first|exact FDel.nil|apply FDel.hit|apply FDel.miss rfl))):P:=h
theorem aP{P Q:Prop}(k:Q)(h:Hold Q→P:=by intro k;(repeat(first|refine cs ?_ |refine cb ?_ |refine ck ?_ |refine cx ?_ |refine cr ?_ |refine an ?_ |refine ae ?_ |refine ar ?_ |refine bn ?_ |refine bh ?_ |refine be rfl ?_ |refine br ?_ |refine ct rfl ?_ |refine cf rfl ?_));exact k.h):P:=h ⟨k⟩
theorem vP{P Q:Prop}(k:Q)(h:Hold Q→P:=by intro k;(repeat(first|refine cs ?_ |refine cb ?_ |refine ck ?_ |refine cx ?_ |refine cr ?_ |refine an ?_ |refine ae ?_ |refine ar ?_ |refine bn ?_ |refine bh ?_ |refine be rfl ?_ |refine br ?_ |refine ct rfl ?_ |refine cf rfl ?_ |refine cg ?_ |refine ag ?_ |refine bg ?_ |refine jg ?_ |refine jn ?_ |refine jr ?_ |refine je ?_));exact k.h):P:=h ⟨k⟩
theorem BG{P Q:Prop}(k:Q)(h:Hold Q→P:=by intro k;(first|refine sw_seq_region ?_ |refine TN ?_);exact k.h):P:=h ⟨k⟩
theorem EU{P Q:Prop}(k:Q)(h:Hold Q→P:=by intro k;(apply le;exact aDm);exact k.h):P:=h ⟨k⟩
theorem MA{P Q:Prop}(k:Q)(h:Hold Q→P:=by intro k;(apply de;exact aDm);exact k.h):P:=h ⟨k⟩
structure Tag (o:List (Nat×Bool)):Prop where
 h:True
theorem EV{o:List (Nat×Bool)}(_:Tag o){P:Program}{n:Nat}{ks:List Nat}{s:ASt}{Q:Exit→ASt→Prop}{id:Nat}{ops:Array Oper}(hm:P.follows .mixedOrders=true)(hsel:Region.noSelect ops=true)
  (hchk:(CC ops (Array.replicate ops.size false) o&&o.length==ops.size)=true) (h:RD P n ops (Array.replicate ops.size false) o [] s (xF ks (Q .normal))):SW P n ks (.region id ops true) s Q:=AO o hm hsel hchk h
theorem gI{P Q:Prop}(o:List (Nat×Bool))(k:Q)(h:Hold Q→Tag o→P:=by intro k t;(first|refine sw_seq_tag t aDk (by kernel_rfl) (by kernel_rfl) ?_ |refine EV t aDk (by kernel_rfl) (by kernel_rfl) ?_);exact k.h):P:=h ⟨k⟩ ⟨trivial⟩
theorem aD{S R T G:Nat→Prop}(k:∀r,R r→T r)(h:Hold (∀r,R r→T r)→∀r,S r→G r:=by intro k r h;refine k.h r ?_;(first|(simp only[aM,aQ,and_true]at h;exact h)|exact trivial)):∀r,S r→G r:=h ⟨k⟩
theorem bM{S R T G:Nat→Prop}(k:∀r,R r→T r)(h:Hold (∀r,R r→T r)→∀r,S r→G r:=by intro k r h;simp(disch:=(first|(simp only[List.mem_cons,List.not_mem_nil,true_or,or_true,or_false];done)|(focus (simp only[List.mem_cons,List.not_mem_nil,or_false,not_or];(repeat' (first|apply And.intro|(first|assumption|(apply Nq.en;assumption)|omega|(simp only[Nq]at*;omega))));done))|omega)) only[aM,aQ,and_true,cJ,cX,dO,cY]at h;have h2:=h;(repeat(rcases h2 with⟨_,h2⟩));apply Exists.intro;apply And.intro;exact cZ;exact k.h r h):∀r,S r→G r:=h ⟨k⟩
theorem iC{H R:Prop}(a:H)(h:H→R:=by intro h;replace h:=(h _ List.mem_cons_self).resolve_left (by simp only[List.mem_cons,List.not_mem_nil,or_false,exists_eq_or_imp,exists_eq_left,not_or,false_and,exists_false,not_false_eq_true];(repeat' (first|apply And.intro|exact cF));done);simp only[aM,aQ,and_true]at h;exact h):R:=h a
theorem cO{H R:Prop}(a:H)(h:H→R:=by intro h;simp only[List.mem_cons,List.mem_singleton,List.not_mem_nil,or_false,forall_eq_or_imp,forall_eq,aM,aQ,and_true,and_assoc]at h;exact h):R:=h a
theorem bC{H R:Prop}(a:H)(h:H→R:=by intro h;have h:=cM (h _ List.mem_cons_self);simp(disch:=(first|(simp only[List.mem_cons,List.not_mem_nil,true_or,or_true,or_false];done)|(focus (simp only[List.mem_cons,List.not_mem_nil,or_false,not_or];(repeat' (first|apply And.intro|(first|assumption|(apply Nq.en;assumption)|omega|(simp only[Nq]at*;omega))));done))|omega)) only[List.map_cons,List.map_nil,cJ,cX,dO,cY,aM,aQ,and_true]at h;exact h):R:=h a
theorem z0{P Q:Prop}(k:Q)(h:Hold Q→P:=by intro k;(first|refine lo (lP (E rfl) (PC (by omega) (by omega))) rfl ?_ |refine lo (oQ (E rfl)) rfl ?_);exact k.h):P:=h ⟨k⟩
theorem z1{P Q:Prop}(k:Q)(h:Hold Q→P:=by intro k;(apply bs;(exact qU);rfl;rfl;rfl;rfl;(exact dM);rfl);exact k.h):P:=h ⟨k⟩
theorem z2{P Q:Prop}(k:Q)(h:Hold Q→P:=by intro k;(refine lo (IG (E rfl) (E rfl) (fun _=>by first|decide|omega)) rfl ?_);exact k.h):P:=h ⟨k⟩
theorem z3{P Q:Prop}(k:Q)(h:Hold Q→P:=by intro k;(refine lo (OZ (E rfl) (E rfl)) rfl ?_);exact k.h):P:=h ⟨k⟩
theorem z4{P Q:Prop}(k:Q)(h:Hold Q→P:=by intro k;(first|refine ln rfl rfl rfl rfl ?_ |refine lg rfl rfl (aI (E rfl)) rfl ?_);exact k.h):P:=h ⟨k⟩
theorem z5{P Q:Prop}(k:Q)(h:Hold Q→P:=by intro k;(first|refine ln rfl rfl rfl rfl ?_ |refine lg rfl rfl (jJ (W rfl id) (E rfl)) rfl ?_);exact k.h):P:=h ⟨k⟩
theorem z6{P Q:Prop}(k:Q)(h:Hold Q→P:=by intro k;(first|refine ln rfl rfl rfl rfl ?_ |refine lg rfl rfl (dD (W rfl id) (E rfl)) rfl ?_);exact k.h):P:=h ⟨k⟩
theorem z7{P Q:Prop}(k:Q)(h:Hold Q→P:=by intro k;(first|refine lo (eQ (E rfl) (W rfl (by simp))) rfl ?_ |refine lo (eR (E rfl) (E rfl)) rfl ?_ |refine lo (gA (E rfl) (W rfl (by simp)) (E rfl)) rfl ?_);exact k.h):P:=h ⟨k⟩
theorem z8{P Q:Prop}(k:Q)(h:Hold Q→P:=by intro k;(first|refine ln rfl rfl rfl rfl ?_ |refine lg rfl rfl (aI (W rfl id)) rfl ?_);exact k.h):P:=h ⟨k⟩
theorem z9{P Q:Prop}(k:Q)(h:Hold Q→P:=by intro k;(first|refine ln rfl rfl rfl rfl ?_ |refine lg rfl rfl (aI (E rfl)) rfl ?_ |refine lw rfl rfl (aI (E rfl)) rfl ?_ |refine lw rfl rfl (bI (v:=.bool false)) rfl ?_);exact k.h):P:=h ⟨k⟩
theorem z10{P Q:Prop}(k:Q)(h:Hold Q→P:=by intro k;(first|refine ln rfl rfl rfl rfl ?_ |refine lg rfl rfl (jJ (W rfl (by first|exact id|simp)) (E rfl)) rfl ?_ |refine lw rfl rfl (jJ (W rfl (by first|exact id|simp)) (E rfl)) rfl ?_ |refine lw rfl rfl (bI (v:=.bool false)) rfl ?_);exact k.h):P:=h ⟨k⟩
theorem z11{P Q:Prop}(k:Q)(h:Hold Q→P:=by intro k;(first|refine ln rfl rfl rfl rfl ?_ |refine lg rfl rfl (fE (W rfl (by first|exact id|simp)) (E rfl)) rfl ?_ |refine lw rfl rfl (fE (W rfl (by first|exact id|simp)) (E rfl)) rfl ?_ |refine lw rfl rfl (bI (v:=.bool false)) rfl ?_);exact k.h):P:=h ⟨k⟩
theorem z12{P Q:Prop}(k:Q)(h:Hold Q→P:=by intro k;(first|refine ln rfl rfl rfl rfl ?_ |refine lg rfl rfl (eQ (W rfl id) (W rfl (by simp))) rfl ?_ |refine lg rfl rfl (eR (W rfl id) (E rfl)) rfl ?_ |refine lg rfl rfl (gA (W rfl id) (W rfl (by simp)) (E rfl)) rfl ?_);exact k.h):P:=h ⟨k⟩
theorem z13{P Q:Prop}(k:Q)(h:Hold Q→P:=by intro k;(first|refine lo (eQ (E rfl) (E rfl)) rfl ?_ |refine lo (eR (E rfl) (W rfl (by simp))) rfl ?_ |refine lo (gA (E rfl) (E rfl) (W rfl (by simp))) rfl ?_);exact k.h):P:=h ⟨k⟩
theorem lU{P Q:Prop}(k:Q)(h:Hold Q→P:=by intro k;(first|refine lo (gB (E rfl)) rfl ?_ |refine lo (gO (E rfl)) rfl ?_ |refine lo (gC (E rfl)) rfl ?_);exact k.h):P:=h ⟨k⟩
theorem VZ{P Q:Prop}(k:Q)(h:Hold Q→P:=by intro k;(first|refine lo (bE (E rfl) (E rfl) (fun hc=>by(simp only[List.length_map];omega))) rfl ?_ |refine lo (aU (E rfl) bH (E rfl) (fun hc=>by omega)) rfl ?_ |refine lo (aW (E rfl) bH (E rfl) (fun hc=>by omega)) rfl ?_);exact k.h):P:=h ⟨k⟩
theorem MB{P Q:Prop}(k:Q)(h:Hold Q→P:=by intro k;(first|refine lo (aL (E rfl) rfl (fun hc=>by first|rfl|exact aE (by assumption)|assumption|exact aE (aO (by omega))) (fun _=>rfl)) rfl ?_ |refine lo (bJ (E rfl) rfl bH (fun hc=>by first|rfl|exact aE (by assumption)|assumption|exact aE (aO (by omega))) (fun _=>rfl)) rfl ?_);exact k.h):P:=h ⟨k⟩
theorem RH{P Q:Prop}(k:Q)(h:Hold Q→P:=by intro k;(first|refine lo (vB (E rfl) (E rfl) (by omega) (by omega)) rfl ?_ |refine lo (lX (E rfl) (E rfl)) rfl ?_);exact k.h):P:=h ⟨k⟩
theorem z18{P Q:Prop}(k:Q)(h:Hold Q→P:=by intro k;(first|refine ln rfl rfl rfl rfl ?_ |refine lg rfl rfl (lE (W rfl id) (E rfl)) rfl ?_);exact k.h):P:=h ⟨k⟩
theorem rP{P Q:Prop}(k:Q)(h:Hold Q→P:=by intro k;(first|refine lo (oL (E rfl) (E rfl) (by omega) (by omega)) rfl ?_ |refine lo (rQ (E rfl) (E rfl)) rfl ?_);exact k.h):P:=h ⟨k⟩
theorem z20{P Q:Prop}(k:Q)(h:Hold Q→P:=by intro k;(refine lo (aAX (E rfl) (E rfl) (fun _=>by first|decide|omega)) rfl ?_);exact k.h):P:=h ⟨k⟩
theorem z22{P Q:Prop}(k:Q)(h:Hold Q→P:=by intro k;(refine lo (aAY (E rfl) (E rfl) (fun _=>by first|decide|omega)) rfl ?_);exact k.h):P:=h ⟨k⟩
theorem z23{P Q:Prop}(k:Q)(h:Hold Q→P:=by intro k;(refine lo (aAZ (E rfl) (E rfl) (fun _=>by first|decide|omega)) rfl ?_);exact k.h):P:=h ⟨k⟩
theorem PE{P Q:Prop}(k:Q)(h:Hold Q→P:=by intro k;(first|refine lo (lP (E rfl) (AC (by omega) (by omega))) rfl ?_ |refine lo (oQ (E rfl)) rfl ?_);exact k.h):P:=h ⟨k⟩
theorem WA{P Q:Prop}(k:Q)(h:Hold Q→P:=by intro k;(first|refine gD rfl (nZ (E rfl) OB.none (OB.some (E rfl) (fun _=>by first|rfl|exact(Int.toNat_of_nonneg (by omega)).symm)) (fun _=>by first|(simp only[List.length_map];omega)|omega)) rfl ?_ |refine gD rfl (mZ (E rfl) bH OB.none (OB.some (E rfl) (fun _=>by first|rfl|exact(Int.toNat_of_nonneg (by omega)).symm)) (fun _=>by first|(simp only[List.length_map];omega)|omega)) rfl ?_);exact k.h):P:=h ⟨k⟩
theorem z26{P Q:Prop}(k:Q)(h:Hold Q→P:=by intro k;(first|refine jA rfl rfl rfl rfl rfl ?_ |refine eE rfl rfl rfl (aI (E rfl)) rfl ?_);exact k.h):P:=h ⟨k⟩
theorem z27{P Q:Prop}(k:Q)(h:Hold Q→P:=by intro k;(first|refine jA rfl rfl rfl rfl rfl ?_ |refine eE rfl rfl rfl (gT (W rfl id) (E rfl)) rfl ?_);exact k.h):P:=h ⟨k⟩
theorem z28{P Q:Prop}(k:Q)(h:Hold Q→P:=by intro k;(first|refine jA rfl rfl rfl rfl rfl ?_ |refine eE rfl rfl rfl (aI (W rfl id)) rfl ?_);exact k.h):P:=h ⟨k⟩
theorem z29{P Q:Prop}(k:Q)(h:Hold Q→P:=by intro k;(first|refine jA rfl rfl rfl rfl rfl ?_ |refine eE rfl rfl rfl (aI (E rfl)) rfl ?_ |refine eG rfl rfl rfl (aI (E rfl)) rfl ?_ |refine eG rfl rfl rfl (bI (v:=.bool false)) rfl ?_);exact k.h):P:=h ⟨k⟩
theorem z30{P Q:Prop}(k:Q)(h:Hold Q→P:=by intro k;(first|refine jA rfl rfl rfl rfl rfl ?_ |refine eE rfl rfl rfl (IG (W rfl (by first|exact id|simp)) (W rfl (by first|exact id|simp)) (fun _=>by first|decide|omega)) rfl ?_ |refine eG rfl rfl rfl (IG (W rfl (by first|exact id|simp)) (W rfl (by first|exact id|simp)) (fun _=>by first|decide|omega)) rfl ?_ |refine eG rfl rfl rfl (bI (v:=.bool false)) rfl ?_);exact k.h):P:=h ⟨k⟩
theorem z31{P Q:Prop}(k:Q)(h:Hold Q→P:=by intro k;(first|refine jA rfl rfl rfl rfl rfl ?_ |refine eE rfl rfl rfl (fE (W rfl (by first|exact id|simp)) (E rfl)) rfl ?_ |refine eG rfl rfl rfl (fE (W rfl (by first|exact id|simp)) (E rfl)) rfl ?_ |refine eG rfl rfl rfl (bI (v:=.bool false)) rfl ?_);exact k.h):P:=h ⟨k⟩
theorem z32{P Q:Prop}(k:Q)(h:Hold Q→P:=by intro k;(first|refine jA rfl rfl rfl rfl rfl ?_ |refine eE rfl rfl rfl (eQ (W rfl id) (W rfl (by simp))) rfl ?_ |refine eE rfl rfl rfl (eR (W rfl id) (E rfl)) rfl ?_ |refine eE rfl rfl rfl (gA (W rfl id) (W rfl (by simp)) (E rfl)) rfl ?_);exact k.h):P:=h ⟨k⟩
theorem z33{P Q:Prop}(k:Q)(h:Hold Q→P:=by intro k;(first|refine gD rfl (eQ (E rfl) (E rfl)) rfl ?_ |refine gD rfl (eR (E rfl) (W rfl (by simp))) rfl ?_ |refine gD rfl (gA (E rfl) (E rfl) (W rfl (by simp))) rfl ?_);exact k.h):P:=h ⟨k⟩
theorem z34{P Q:Prop}(k:Q)(h:Hold Q→P:=by intro k;(first|refine ln rfl rfl rfl rfl ?_ |refine lg rfl rfl (fI (W rfl id) (E rfl)) rfl ?_);exact k.h):P:=h ⟨k⟩
theorem z44{P Q:Prop}(k:Q)(h:Hold Q→P:=by intro k;(first|refine lo (lP (E rfl) (lO (by omega) (by omega))) rfl ?_ |refine lo (oQ (E rfl)) rfl ?_);exact k.h):P:=h ⟨k⟩
theorem z45{P Q:Prop}(k:Q)(h:Hold Q→P:=by intro k;(first|refine jA rfl rfl rfl rfl rfl ?_ |refine eE rfl rfl rfl (fE (W rfl id) (E rfl)) rfl ?_);exact k.h):P:=h ⟨k⟩
theorem z46{P Q:Prop}(k:Q)(h:Hold Q→P:=by intro k;(refine gD rfl (gT (E rfl) (E rfl)) rfl ?_);exact k.h):P:=h ⟨k⟩
theorem z54{P Q:Prop}(k:Q)(h:Hold Q→P:=by intro k;(first|refine ln rfl rfl rfl rfl ?_ |refine lg rfl rfl (jX (W rfl id) (W rfl id)) rfl ?_);exact k.h):P:=h ⟨k⟩
theorem z55{P Q:Prop}(k:Q)(h:Hold Q→P:=by intro k;(first|refine ln rfl rfl rfl rfl ?_ |refine lg rfl rfl (jX (W rfl id) (E rfl)) rfl ?_);exact k.h):P:=h ⟨k⟩
theorem MC{P Q:Prop}(k:Q)(h:Hold Q→P:=by intro k;(first|refine gD rfl (bE (E rfl) (E rfl) (fun hc=>by(simp only[List.length_map];omega))) rfl ?_ |refine gD rfl (aU (E rfl) bH (E rfl) (fun hc=>by omega)) rfl ?_ |refine gD rfl (aW (E rfl) bH (E rfl) (fun hc=>by omega)) rfl ?_);exact k.h):P:=h ⟨k⟩
theorem LD{P Q:Prop}(k:Q)(h:Hold Q→P:=by intro k;(first|refine gD rfl (aL (E rfl) rfl (fun hc=>by first|rfl|exact aE (by assumption)|assumption|exact aE (aO (by omega))) (fun _=>rfl)) rfl ?_ |refine gD rfl (bJ (E rfl) rfl bH (fun hc=>by first|rfl|exact aE (by assumption)|assumption|exact aE (aO (by omega))) (fun _=>rfl)) rfl ?_);exact k.h):P:=h ⟨k⟩
theorem z58{P Q:Prop}(k:Q)(h:Hold Q→P:=by intro k;(refine gD rfl (fE (E rfl) (E rfl)) rfl ?_);exact k.h):P:=h ⟨k⟩
theorem wI{P Q:Prop}(k:Q)(h:Hold Q→P:=by intro k;(first|refine lo (aY (E rfl) rfl (by decide)) rfl ?_ |refine lo (aS (E rfl) rfl (by decide)) rfl ?_);exact k.h):P:=h ⟨k⟩
theorem vC{P Q:Prop}(k:Q)(h:Hold Q→P:=by intro k;(first|refine lo (aN (E rfl) rfl bH (fun _=>rfl)) rfl ?_ |refine lo (aN (E rfl) rfl bH (fun _=>by assumption)) rfl ?_ |refine lo (aL (E rfl) rfl (fun hc=>by first|rfl|exact aE (by assumption)|assumption|exact aE (aO (by omega))) (fun _=>rfl)) rfl ?_);exact k.h):P:=h ⟨k⟩
theorem z61{P Q:Prop}(k:Q)(h:Hold Q→P:=by intro k;(first|refine ln rfl rfl rfl rfl ?_ |refine lg rfl rfl (aY (E rfl) rfl (by decide)) rfl ?_ |refine lg rfl rfl (aS (E rfl) rfl (by decide)) rfl ?_);exact k.h):P:=h ⟨k⟩
theorem z62{P Q:Prop}(k:Q)(h:Hold Q→P:=by intro k;(first|refine ln rfl rfl rfl rfl ?_ |refine lg rfl rfl (aN (W rfl id) rfl bH (fun _=>rfl)) rfl ?_ |refine lg rfl rfl (aN (W rfl id) rfl bH (fun _=>by assumption)) rfl ?_ |refine lg rfl rfl (aL (W rfl id) rfl (fun hc=>by first|rfl|exact aE (by assumption)|assumption|exact aE (aO (by(try simp at hc)<;>omega))) (fun _=>rfl)) rfl ?_);exact k.h):P:=h ⟨k⟩
theorem z63{P Q:Prop}(k:Q)(h:Hold Q→P:=by intro k;(first|refine ln rfl rfl rfl rfl ?_ |refine lg rfl rfl (gB (W rfl id)) rfl ?_ |refine lg rfl rfl (gO (W rfl id)) rfl ?_ |refine lg rfl rfl (gC (W rfl id)) rfl ?_);exact k.h):P:=h ⟨k⟩
theorem z64{P Q:Prop}(k:Q)(h:Hold Q→P:=by intro k;(first|refine ln rfl rfl rfl rfl ?_ |refine lg rfl rfl (fE (W rfl id) (E rfl)) rfl ?_);exact k.h):P:=h ⟨k⟩
theorem z65{P Q:Prop}(k:Q)(h:Hold Q→P:=by intro k;(first|refine ln rfl rfl rfl rfl ?_ |refine lg rfl rfl (aY (E rfl) rfl (by decide)) rfl ?_ |refine lg rfl rfl (aS (E rfl) rfl (by decide)) rfl ?_ |refine lw rfl rfl (aY (E rfl) rfl (by decide)) rfl ?_ |refine lw rfl rfl (aS (E rfl) rfl (by decide)) rfl ?_ |refine lw rfl rfl (bI (v:=.bool false)) rfl ?_);exact k.h):P:=h ⟨k⟩
theorem z66{P Q:Prop}(k:Q)(h:Hold Q→P:=by intro k;(first|refine ln rfl rfl rfl rfl ?_ |refine lg rfl rfl (aN (W rfl (by first|exact id|simp)) rfl bH (fun _=>rfl)) rfl ?_ |refine lg rfl rfl (aN (W rfl (by first|exact id|simp)) rfl bH (fun _=>by assumption)) rfl ?_ |refine lg rfl rfl (aL (W rfl (by first|exact id|simp)) rfl (fun hc=>by first|rfl|exact aE (by assumption)|assumption|exact aE (aO (by(try simp at hc)<;>omega))) (fun _=>rfl)) rfl ?_ |refine lw rfl rfl (aN (W rfl (by first|exact id|simp)) rfl bH (fun _=>rfl)) rfl ?_ |refine lw rfl rfl (aN (W rfl (by first|exact id|simp)) rfl bH (fun _=>by assumption)) rfl ?_ |refine lw rfl rfl (aL (W rfl (by first|exact id|simp)) rfl (fun hc=>by first|rfl|exact aE (by assumption)|assumption|exact aE (aO (by(try simp at hc)<;>omega))) (fun _=>rfl)) rfl ?_ |refine lw rfl rfl (bI (v:=.bool false)) rfl ?_);exact k.h):P:=h ⟨k⟩
theorem z67{P Q:Prop}(k:Q)(h:Hold Q→P:=by intro k;(first|refine ln rfl rfl rfl rfl ?_ |refine lg rfl rfl (eI (by first|exact W rfl id|exact E rfl)) rfl ?_);exact k.h):P:=h ⟨k⟩
theorem rS{P Q:Prop}(k:Q)(h:Hold Q→P:=by intro k;(first|refine lo (eQ (E rfl) (by first|exact W rfl (by simp)|exact E rfl)) rfl ?_ |refine lo (eR (E rfl) (E rfl)) rfl ?_ |refine lo (gA (E rfl) (by first|exact W rfl (by simp)|exact E rfl) (E rfl)) rfl ?_);exact k.h):P:=h ⟨k⟩
theorem z69{P Q:Prop}(k:Q)(h:Hold Q→P:=by intro k;(first|refine ln rfl rfl rfl rfl ?_ |refine lg rfl rfl (gT (W rfl id) (E rfl)) rfl ?_);exact k.h):P:=h ⟨k⟩
theorem z70{P Q:Prop}(k:Q)(h:Hold Q→P:=by intro k;(first|refine ln rfl rfl rfl rfl ?_ |refine lg rfl rfl (dD (W rfl id) (W rfl id)) rfl ?_);exact k.h):P:=h ⟨k⟩
theorem z71{P Q:Prop}(k:Q)(h:Hold Q→P:=by intro k;(first|refine ln rfl rfl rfl rfl ?_ |refine lg rfl rfl (bE (W rfl id) (W rfl id) (fun hc=>by(try simp at hc)<;>(simp only[List.length_map];omega))) rfl ?_ |refine lg rfl rfl (aU (W rfl id) bH (W rfl id) (fun hc=>by(try simp at hc)<;>omega)) rfl ?_ |refine lg rfl rfl (aW (W rfl id) bH (W rfl id) (fun hc=>by(try simp at hc)<;>omega)) rfl ?_);exact k.h):P:=h ⟨k⟩
theorem z72{P Q:Prop}(k:Q)(h:Hold Q→P:=by intro k;(first|refine ln rfl rfl rfl rfl ?_ |refine lg rfl rfl (aL (W rfl id) rfl (fun hc=>by first|rfl|exact aE (by assumption)|assumption|exact aE (aO (by(try simp at hc)<;>omega))) (fun _=>rfl)) rfl ?_ |refine lg rfl rfl (bJ (W rfl id) rfl bH (fun hc=>by first|rfl|exact aE (by assumption)|assumption|exact aE (aO (by(try simp at hc)<;>omega))) (fun _=>rfl)) rfl ?_);exact k.h):P:=h ⟨k⟩
theorem OX{P Q:Prop}(k:Q)(h:Hold Q→P:=by intro k;(first|refine gD rfl (aY (E rfl) rfl (by decide)) rfl ?_ |refine gD rfl (aS (E rfl) rfl (by decide)) rfl ?_);exact k.h):P:=h ⟨k⟩
theorem z74{P Q:Prop}(k:Q)(h:Hold Q→P:=by intro k;(first|refine gD rfl (aN (E rfl) rfl bH (fun _=>rfl)) rfl ?_ |refine gD rfl (aN (E rfl) rfl bH (fun _=>by assumption)) rfl ?_ |refine gD rfl (aL (E rfl) rfl (fun hc=>by first|rfl|exact aE (by assumption)|assumption|exact aE (aO (by omega))) (fun _=>rfl)) rfl ?_);exact k.h):P:=h ⟨k⟩
theorem z75{P Q:Prop}(k:Q)(h:Hold Q→P:=by intro k;(first|refine gD rfl (lP (E rfl) (AC (by omega) (by omega))) rfl ?_ |refine gD rfl (oQ (E rfl)) rfl ?_);exact k.h):P:=h ⟨k⟩
theorem z76{P Q:Prop}(k:Q)(h:Hold Q→P:=by intro k;(first|refine lo (bA (E rfl) (.inl ⟨_,_,rfl⟩)) rfl ?_ |refine lo (bA (E rfl) (.inr (.inl ⟨_,_,_,rfl⟩))) rfl ?_ |refine lo (bA (E rfl) (.inr (.inr ⟨_,_,_,_,rfl⟩))) rfl ?_);exact k.h):P:=h ⟨k⟩
theorem WB{P Q:Prop}(k:Q)(h:Hold Q→P:=by intro k;(first|refine gD rfl (bA (E rfl) (.inl ⟨_,_,rfl⟩)) rfl ?_ |refine gD rfl (bA (E rfl) (.inr (.inl ⟨_,_,_,rfl⟩))) rfl ?_ |refine gD rfl (bA (E rfl) (.inr (.inr ⟨_,_,_,_,rfl⟩))) rfl ?_);exact k.h):P:=h ⟨k⟩
theorem IQ{P Q:Prop}(k:Q)(h:Hold Q→P:=by intro k;(first|refine gD rfl (gB (E rfl)) rfl ?_ |refine gD rfl (gO (E rfl)) rfl ?_ |refine gD rfl (gC (E rfl)) rfl ?_);exact k.h):P:=h ⟨k⟩
theorem z79{P Q:Prop}(k:Q)(h:Hold Q→P:=by intro k;(refine gD rfl (dD (E rfl) (E rfl)) rfl ?_);exact k.h):P:=h ⟨k⟩
theorem z80{P Q:Prop}(k:Q)(h:Hold Q→P:=by intro k;(first|refine ln rfl rfl rfl rfl ?_ |refine lg rfl rfl (lP (W rfl id) (lO (by omega) (by omega))) rfl ?_ |refine lg rfl rfl (oQ (W rfl id)) rfl ?_);exact k.h):P:=h ⟨k⟩
theorem z81{P Q:Prop}(k:Q)(h:Hold Q→P:=by intro k;(first|refine ln rfl rfl rfl rfl ?_ |refine lg rfl rfl (lE (W rfl id) (W rfl id)) rfl ?_);exact k.h):P:=h ⟨k⟩
theorem z82{P Q:Prop}(k:Q)(h:Hold Q→P:=by intro k;(first|refine gD rfl (oL (E rfl) (E rfl) (by omega) (by omega)) rfl ?_ |refine gD rfl (rQ (E rfl) (E rfl)) rfl ?_);exact k.h):P:=h ⟨k⟩
theorem z83{P Q:Prop}(k:Q)(h:Hold Q→P:=by intro k;(first|refine gD rfl (lP (E rfl) (lO (by omega) (by omega))) rfl ?_ |refine gD rfl (oQ (E rfl)) rfl ?_);exact k.h):P:=h ⟨k⟩
theorem z84{P Q:Prop}(k:Q)(h:Hold Q→P:=by intro k;(first|refine gD rfl (nZ (E rfl) (OB.some (E rfl) (fun _=>by first|rfl|exact(Int.toNat_of_nonneg (by omega)).symm)) OB.none (fun _=>by first|(simp only[List.length_map];omega)|omega)) rfl ?_ |refine gD rfl (mZ (E rfl) bH (OB.some (E rfl) (fun _=>by first|rfl|exact(Int.toNat_of_nonneg (by omega)).symm)) OB.none (fun _=>by first|(simp only[List.length_map];omega)|omega)) rfl ?_);exact k.h):P:=h ⟨k⟩
theorem z85{P Q:Prop}(k:Q)(h:Hold Q→P:=by intro k;(refine gD rfl (lN (E rfl) rfl) rfl ?_);exact k.h):P:=h ⟨k⟩
theorem z91{P Q:Prop}(k:Q)(h:Hold Q→P:=by intro k;(first|refine ln rfl rfl rfl rfl ?_ |refine lg rfl rfl (bA (W rfl id) (.inl ⟨_,_,rfl⟩)) rfl ?_ |refine lg rfl rfl (bA (W rfl id) (.inr (.inl ⟨_,_,_,rfl⟩))) rfl ?_ |refine lg rfl rfl (bA (W rfl id) (.inr (.inr ⟨_,_,_,_,rfl⟩))) rfl ?_);exact k.h):P:=h ⟨k⟩
theorem z92{P Q:Prop}(k:Q)(h:Hold Q→P:=by intro k;(first|refine ln rfl rfl rfl rfl ?_ |refine lg rfl rfl (aY (W rfl id) rfl (by decide)) rfl ?_ |refine lg rfl rfl (aS (W rfl id) rfl (by decide)) rfl ?_);exact k.h):P:=h ⟨k⟩
theorem nF{P Q:Prop}(k:Q)(h:Hold Q→P:=by intro k;(refine lo (BF (by repeat(first|exact PEvs.nil|(apply PEvs.cons;first|exact W rfl id|exact E rfl))) (by(exact dM)) (by repeat(first|exact Fill.nil|(apply Fill.cons;rfl;rfl;rfl;(exact xK))))) rfl ?_);exact k.h):P:=h ⟨k⟩
theorem z94{P Q:Prop}(k:Q)(h:Hold Q→P:=by intro k;(refine gD rfl (BF (by repeat(first|exact PEvs.nil|(apply PEvs.cons;first|exact W rfl id|exact E rfl))) (by(exact dM)) (by repeat(first|exact Fill.nil|(apply Fill.cons;rfl;rfl;rfl;(exact xK))))) rfl ?_);exact k.h):P:=h ⟨k⟩
theorem WZ{P Q:Prop}(k:Q)(h:Hold Q→P:=by intro k;(apply aIc;rfl;infer_instance;rfl;rfl;rfl;rfl;(exact sK);(exact gE));exact k.h):P:=h ⟨k⟩
theorem OY{P Q:Prop}(k:Q)(h:Hold Q→P:=by intro k;(first|refine gD rfl (fD (E rfl) rfl bH (fun _=>Nat.le_of_ble_eq_true rfl)) rfl ?_ |refine gD rfl (eT (E rfl) rfl (fun hc=>by first|rfl|exact aE (by assumption)|assumption|exact aE (aO (by omega))) (fun _=>Nat.le_of_ble_eq_true rfl)) rfl ?_);exact k.h):P:=h ⟨k⟩
theorem GO{P Q:Prop}(k:Q)(h:Hold Q→P:=by intro k;(apply dbs;rfl;infer_instance;infer_instance;(exact qU);rfl;rfl;rfl;rfl;(exact dM);rfl);exact k.h):P:=h ⟨k⟩
theorem oV{P Q:Prop}(k:Q)(h:Hold Q→P:=by intro k;(first|refine lo (fD (E rfl) rfl bH (fun _=>Nat.le_of_ble_eq_true rfl)) rfl ?_ |refine lo (eT (E rfl) rfl (fun hc=>by first|rfl|exact aE (by assumption)|assumption|exact aE (aO (by omega))) (fun _=>Nat.le_of_ble_eq_true rfl)) rfl ?_);exact k.h):P:=h ⟨k⟩
theorem aEh{P Q:Prop}(k:Q)(h:Hold Q→P:=by intro k;(first|refine lo (nZ (E rfl) OB.none (OB.some (E rfl) (fun _=>by first|rfl|exact(Int.toNat_of_nonneg (by omega)).symm)) (fun _=>by first|(simp only[List.length_map];omega)|omega)) rfl ?_ |refine lo (mZ (E rfl) bH OB.none (OB.some (E rfl) (fun _=>by first|rfl|exact(Int.toNat_of_nonneg (by omega)).symm)) (fun _=>by first|(simp only[List.length_map];omega)|omega)) rfl ?_);exact k.h):P:=h ⟨k⟩
theorem qV{P Q:Prop}(k:Q)(h:Hold Q→P:=by intro k;(first|refine ln rfl rfl rfl rfl ?_ |(refine gy rfl rfl ?_;refine lo (aI (E rfl)) rfl ?_)|refine lg rfl rfl (aI (E rfl)) rfl ?_);exact k.h):P:=h ⟨k⟩
theorem aEi{P Q:Prop}(k:Q)(h:Hold Q→P:=by intro k;(first|refine ln rfl rfl rfl rfl ?_ |(refine gy rfl rfl ?_;refine lo (gT (by first|exact W rfl id|exact E rfl) (by first|exact W rfl id|exact E rfl)) rfl ?_)|refine lg rfl rfl (gT (by first|exact W rfl id|exact E rfl) (by first|exact W rfl id|exact E rfl)) rfl ?_);exact k.h):P:=h ⟨k⟩
theorem aEj{P Q:Prop}(k:Q)(h:Hold Q→P:=by intro k;(first|refine lo (eT (E rfl) rfl (fun hc=>by first|rfl|exact aE (by assumption)|assumption|exact aE (aO (by omega))) (fun _=>Nat.le_of_ble_eq_true rfl)) rfl ?_ |refine lo (sJ (E rfl) rfl bH (fun hc=>by first|rfl|exact aE (by assumption)|assumption|exact aE (aO (by omega))) (fun _=>Nat.le_of_ble_eq_true rfl)) rfl ?_);exact k.h):P:=h ⟨k⟩
theorem wJ{P Q:Prop}(k:Q)(h:Hold Q→P:=by intro k;(first|refine ln rfl rfl rfl rfl ?_ |(refine gy rfl rfl ?_;refine lo (dD (by first|exact W rfl id|exact E rfl) (E rfl)) rfl ?_)|refine lg rfl rfl (dD (by first|exact W rfl id|exact E rfl) (E rfl)) rfl ?_);exact k.h):P:=h ⟨k⟩
theorem qG{P Q:Prop}(k:Q)(h:Hold Q→P:=by intro k;(first|refine lo (eQ (E rfl) (E rfl)) rfl ?_ |refine lo (eR (E rfl) (by first|exact W rfl (by simp)|exact E rfl)) rfl ?_ |refine lo (gA (E rfl) (E rfl) (by first|exact W rfl (by simp)|exact E rfl)) rfl ?_);exact k.h):P:=h ⟨k⟩
theorem aBb{P Q:Prop}(k:Q)(h:Hold Q→P:=by intro k;(first|refine ln rfl rfl rfl rfl ?_ |(refine gy rfl rfl ?_;(first|refine lo (aY (E rfl) rfl (by decide)) rfl ?_ |refine lo (aS (E rfl) rfl (by decide)) rfl ?_))|refine lg rfl rfl (aY (E rfl) rfl (by decide)) rfl ?_ |refine lg rfl rfl (aS (E rfl) rfl (by decide)) rfl ?_);exact k.h):P:=h ⟨k⟩
theorem aBc{P Q:Prop}(k:Q)(h:Hold Q→P:=by intro k;(first|refine ln rfl rfl rfl rfl ?_ |(refine gy rfl rfl ?_;(first|refine lo (aN (by first|exact W rfl id|exact E rfl) rfl bH (fun _=>rfl)) rfl ?_ |refine lo (aN (by first|exact W rfl id|exact E rfl) rfl bH (fun _=>by assumption)) rfl ?_ |refine lo (aL (by first|exact W rfl id|exact E rfl) rfl (fun hc=>by first|rfl|exact aE (by assumption)|assumption|exact aE (aO (by omega))) (fun _=>rfl)) rfl ?_))|refine lg rfl rfl (aN (by first|exact W rfl id|exact E rfl) rfl bH (fun _=>rfl)) rfl ?_ |refine lg rfl rfl (aN (by first|exact W rfl id|exact E rfl) rfl bH (fun _=>by assumption)) rfl ?_ |refine lg rfl rfl (aL (by first|exact W rfl id|exact E rfl) rfl (fun hc=>by first|rfl|exact aE (by assumption)|assumption|exact aE (aO (by(try simp at hc)<;>omega))) (fun _=>rfl)) rfl ?_);exact k.h):P:=h ⟨k⟩
theorem aBd{P Q:Prop}(k:Q)(h:Hold Q→P:=by intro k;(first|refine ln rfl rfl rfl rfl ?_ |(refine gy rfl rfl ?_;refine lo (fE (by first|exact W rfl id|exact E rfl) (E rfl)) rfl ?_)|refine lg rfl rfl (fE (by first|exact W rfl id|exact E rfl) (E rfl)) rfl ?_);exact k.h):P:=h ⟨k⟩
theorem PF{P Q:Prop}(k:Q)(h:Hold Q→P:=by intro k;(first|refine lo (aS (E rfl) rfl (by decide)) rfl ?_ |refine lo (eM (E rfl) rfl (by decide)) rfl ?_);exact k.h):P:=h ⟨k⟩
theorem PG{P Q:Prop}(k:Q)(h:Hold Q→P:=by intro k;(apply sto;rfl;rfl;rfl;rfl;(exact cZ);(exact atT);(exact xK);rfl);exact k.h):P:=h ⟨k⟩
theorem aEk{P Q:Prop}(k:Q)(h:Hold Q→P:=by intro k;(first|refine ln rfl rfl rfl rfl ?_ |(refine gy rfl rfl ?_;(first|refine lo (oL (by first|exact W rfl id|exact E rfl) (E rfl) (by omega) (by omega)) rfl ?_ |refine lo (rQ (by first|exact W rfl id|exact E rfl) (E rfl)) rfl ?_))|refine lg rfl rfl (oL (by first|exact W rfl id|exact E rfl) (E rfl) (by omega) (by omega)) rfl ?_ |refine lg rfl rfl (lop_sub64c (by first|exact W rfl id|exact E rfl) (E rfl) (fun hc=>by simp at hc<;>first|omega|(have hov:=hov hc;omega))) rfl ?_ |refine lg rfl rfl (rQ (by first|exact W rfl id|exact E rfl) (E rfl)) rfl ?_);exact k.h):P:=h ⟨k⟩
theorem AP{P Q:Prop}(k:Q)(h:Hold Q→P:=by intro k;(first|refine ln rfl rfl rfl rfl ?_ |(refine gy rfl rfl ?_;(first|refine lo (bE (by first|exact W rfl id|exact E rfl) (by first|exact W rfl id|exact E rfl) (fun hc=>by(simp only[List.length_map];omega))) rfl ?_ |refine lo (aU (by first|exact W rfl id|exact E rfl) bH (by first|exact W rfl id|exact E rfl) (fun hc=>by omega)) rfl ?_ |refine lo (aW (by first|exact W rfl id|exact E rfl) bH (by first|exact W rfl id|exact E rfl) (fun hc=>by omega)) rfl ?_))|refine lg rfl rfl (bE (by first|exact W rfl id|exact E rfl) (by first|exact W rfl id|exact E rfl) (fun hc=>by(try simp at hc)<;>(simp only[List.length_map];omega))) rfl ?_ |refine lg rfl rfl (aU (by first|exact W rfl id|exact E rfl) bH (by first|exact W rfl id|exact E rfl) (fun hc=>by(try simp at hc)<;>omega)) rfl ?_ |refine lg rfl rfl (aW (by first|exact W rfl id|exact E rfl) bH (by first|exact W rfl id|exact E rfl) (fun hc=>by(try simp at hc)<;>omega)) rfl ?_);exact k.h):P:=h ⟨k⟩
theorem AQ{P Q:Prop}(k:Q)(h:Hold Q→P:=by intro k;(first|refine ln rfl rfl rfl rfl ?_ |(refine gy rfl rfl ?_;(first|refine lo (aL (by first|exact W rfl id|exact E rfl) rfl (fun hc=>by first|rfl|exact aE (by assumption)|assumption|exact aE (aO (by omega))) (fun _=>rfl)) rfl ?_ |refine lo (bJ (by first|exact W rfl id|exact E rfl) rfl bH (fun hc=>by first|rfl|exact aE (by assumption)|assumption|exact aE (aO (by omega))) (fun _=>rfl)) rfl ?_))|refine lg rfl rfl (aL (by first|exact W rfl id|exact E rfl) rfl (fun hc=>by first|rfl|exact aE (by assumption)|assumption|exact aE (aO (by(try simp at hc)<;>omega))) (fun _=>rfl)) rfl ?_ |refine lg rfl rfl (bJ (by first|exact W rfl id|exact E rfl) rfl bH (fun hc=>by first|rfl|exact aE (by assumption)|assumption|exact aE (aO (by(try simp at hc)<;>omega))) (fun _=>rfl)) rfl ?_);exact k.h):P:=h ⟨k⟩
theorem MD{P Q:Prop}(k:Q)(h:Hold Q→P:=by intro k;(first|refine ln rfl rfl rfl rfl ?_ |(refine gy rfl rfl ?_;(first|refine lo (aS (by first|exact W rfl id|exact E rfl) rfl (by decide)) rfl ?_ |refine lo (eM (by first|exact W rfl id|exact E rfl) rfl (by decide)) rfl ?_))|refine lg rfl rfl (aS (by first|exact W rfl id|exact E rfl) rfl (by decide)) rfl ?_ |refine lg rfl rfl (eM (by first|exact W rfl id|exact E rfl) rfl (by decide)) rfl ?_);exact k.h):P:=h ⟨k⟩
theorem aBe{P Q:Prop}(k:Q)(h:Hold Q→P:=by intro k;(first|refine ln rfl rfl rfl rfl ?_ |(refine gy rfl rfl ?_;refine lo (fI (by first|exact W rfl id|exact E rfl) (E rfl)) rfl ?_)|refine lg rfl rfl (fI (by first|exact W rfl id|exact E rfl) (E rfl)) rfl ?_);exact k.h):P:=h ⟨k⟩
theorem pP{P Q:Prop}(k:Q)(h:Hold Q→P:=by intro k;(first|refine ln rfl rfl rfl rfl ?_ |(refine gy rfl rfl ?_;(first|refine lo (gB (by first|exact W rfl id|exact E rfl)) rfl ?_ |refine lo (gO (by first|exact W rfl id|exact E rfl)) rfl ?_ |refine lo (gC (by first|exact W rfl id|exact E rfl)) rfl ?_))|refine lg rfl rfl (gB (by first|exact W rfl id|exact E rfl)) rfl ?_ |refine lg rfl rfl (gO (by first|exact W rfl id|exact E rfl)) rfl ?_ |refine lg rfl rfl (gC (by first|exact W rfl id|exact E rfl)) rfl ?_);exact k.h):P:=h ⟨k⟩
theorem IR{P Q:Prop}(k:Q)(h:Hold Q→P:=by intro k;(first|refine ln rfl rfl rfl rfl ?_ |(refine gy rfl rfl ?_;refine lo (lE (by first|exact W rfl id|exact E rfl) (E rfl)) rfl ?_)|refine lg rfl rfl (lE (by first|exact W rfl id|exact E rfl) (E rfl)) rfl ?_);exact k.h):P:=h ⟨k⟩
theorem zH{P Q:Prop}(k:Q)(h:Hold Q→P:=by intro k;(first|refine gD rfl (eT (E rfl) rfl (fun hc=>by first|rfl|exact aE (by assumption)|assumption|exact aE (aO (by omega))) (fun _=>Nat.le_of_ble_eq_true rfl)) rfl ?_ |refine gD rfl (sJ (E rfl) rfl bH (fun hc=>by first|rfl|exact aE (by assumption)|assumption|exact aE (aO (by omega))) (fun _=>Nat.le_of_ble_eq_true rfl)) rfl ?_);exact k.h):P:=h ⟨k⟩
theorem aEl{P Q:Prop}(k:Q)(h:Hold Q→P:=by intro k;(first|refine lo (nZ (E rfl) (OB.some (E rfl) (fun _=>by first|rfl|exact(Int.toNat_of_nonneg (by omega)).symm)) OB.none (fun _=>by first|(simp only[List.length_map];omega)|omega)) rfl ?_ |refine lo (mZ (E rfl) bH (OB.some (E rfl) (fun _=>by first|rfl|exact(Int.toNat_of_nonneg (by omega)).symm)) OB.none (fun _=>by first|(simp only[List.length_map];omega)|omega)) rfl ?_);exact k.h):P:=h ⟨k⟩
theorem aEm{P Q:Prop}(k:Q)(h:Hold Q→P:=by intro k;(first|refine ln rfl rfl rfl rfl ?_ |(refine gy rfl rfl ?_;refine lo (dD (by first|exact W rfl id|exact E rfl) (by first|exact W rfl id|exact E rfl)) rfl ?_)|refine lg rfl rfl (dD (by first|exact W rfl id|exact E rfl) (by first|exact W rfl id|exact E rfl)) rfl ?_);exact k.h):P:=h ⟨k⟩
theorem aIH{P Q:Prop}(k:Q)(h:Hold Q→P:=by intro k;(first|refine ln rfl rfl rfl rfl ?_ |(refine gy rfl rfl ?_;refine lo (rE .nil (.cons rfl .nil)) rfl ?_)|refine lg rfl rfl (rE .nil (.cons rfl .nil)) rfl ?_);exact k.h):P:=h ⟨k⟩
theorem tT{P Q:Prop}(k:Q)(h:Hold Q→P:=by intro k;(first|refine ln rfl rfl rfl rfl ?_ |(refine gy rfl rfl ?_;refine lo (eI (by first|exact W rfl id|exact E rfl)) rfl ?_)|refine lg rfl rfl (eI (by first|exact W rfl id|exact E rfl)) rfl ?_);exact k.h):P:=h ⟨k⟩
theorem IS{P Q:Prop}(k:Q)(h:Hold Q→P:=by intro k;(first|refine ln rfl rfl rfl rfl ?_ |(refine gy rfl rfl ?_;refine lo (jX (by first|exact W rfl id|exact E rfl) (E rfl)) rfl ?_)|refine lg rfl rfl (jX (by first|exact W rfl id|exact E rfl) (E rfl)) rfl ?_);exact k.h):P:=h ⟨k⟩
theorem XA{P Q:Prop}(k:Q)(h:Hold Q→P:=by intro k;(first|refine ln rfl rfl rfl rfl ?_ |(refine gy rfl rfl ?_;refine lo (jX (by first|exact W rfl id|exact E rfl) (by first|exact W rfl id|exact E rfl)) rfl ?_)|refine lg rfl rfl (jX (by first|exact W rfl id|exact E rfl) (by first|exact W rfl id|exact E rfl)) rfl ?_);exact k.h):P:=h ⟨k⟩
theorem XB{P Q:Prop}(k:Q)(h:Hold Q→P:=by intro k;(first|refine ln rfl rfl rfl rfl ?_ |(refine gy rfl rfl ?_;refine lo (aI (by first|exact W rfl id|exact E rfl)) rfl ?_)|refine lg rfl rfl (aI (by first|exact W rfl id|exact E rfl)) rfl ?_);exact k.h):P:=h ⟨k⟩
theorem XC{P Q:Prop}(k:Q)(h:Hold Q→P:=by intro k;(first|refine ln rfl rfl rfl rfl ?_ |(refine gy rfl rfl ?_;(first|refine lo (aY (E rfl) rfl (by decide)) rfl ?_ |refine lo (aS (E rfl) rfl (by decide)) rfl ?_))|refine lg rfl rfl (aY (E rfl) rfl (by decide)) rfl ?_ |refine lg rfl rfl (aS (E rfl) rfl (by decide)) rfl ?_ |refine lw rfl rfl (aY (E rfl) rfl (by decide)) rfl ?_ |refine lw rfl rfl (aS (E rfl) rfl (by decide)) rfl ?_ |refine lw rfl rfl (bI (v:=.bool false)) rfl ?_);exact k.h):P:=h ⟨k⟩
theorem XD{P Q:Prop}(k:Q)(h:Hold Q→P:=by intro k;(
     first
      |refine ln rfl rfl rfl rfl ?_
      |(refine gy rfl rfl ?_;(
       first
        |refine lo (aN (by
         first
          |exact W rfl id
          |exact E rfl) rfl bH (fun _=>rfl)) rfl ?_
        |refine lo (aN (by
         first
          |exact W rfl id
          |exact E rfl) rfl bH (fun _=>by assumption)) rfl ?_
        |refine lo (aL (by
         first
          |exact W rfl id
          |exact E rfl) rfl (fun hc=>by
         first
          |rfl
          |exact aE (by assumption)
          |assumption
          |exact aE (aO (by omega))) (fun _=>rfl)) rfl ?_))
      |refine lg rfl rfl (aN (by
       first
        |exact W rfl (by
        first
         |exact id
         |simp)
        |exact E rfl) rfl bH (fun _=>rfl)) rfl ?_
      |refine lg rfl rfl (aN (by
       first
        |exact W rfl (by
        first
         |exact id
         |simp)
        |exact E rfl) rfl bH (fun _=>by assumption)) rfl ?_
      |refine lg rfl rfl (aL (by
       first
        |exact W rfl (by
        first
         |exact id
         |simp)
        |exact E rfl) rfl (fun hc=>by
       first
        |rfl
        |exact aE (by assumption)
        |assumption
        |exact aE (aO (by(try simp at hc)<;>omega))) (fun _=>rfl)) rfl ?_
      |refine lw rfl rfl (aN (by
       first
        |exact W rfl (by
        first
         |exact id
         |simp)
        |exact E rfl) rfl bH (fun _=>rfl)) rfl ?_
      |refine lw rfl rfl (aN (by
       first
        |exact W rfl (by
        first
         |exact id
         |simp)
        |exact E rfl) rfl bH (fun _=>by assumption)) rfl ?_
      |refine lw rfl rfl (aL (by
       first
        |exact W rfl (by
        first
         |exact id
         |simp)
        |exact E rfl) rfl (fun hc=>by
       first
        |rfl
        |exact aE (by assumption)
        |assumption
        |exact aE (aO (by(try simp at hc)<;>omega))) (fun _=>rfl)) rfl ?_
      |refine lw rfl rfl (bI (v:=.bool false)) rfl ?_);exact k.h):P:=h ⟨k⟩
theorem aGO{P Q:Prop}(k:Q)(h:Hold Q→P:=by intro k;(first|refine ln rfl rfl rfl rfl ?_ |(refine gy rfl rfl ?_;refine lo (fI (by first|exact W rfl id|exact E rfl) (E rfl)) rfl ?_)|refine lg rfl rfl (fI (by first|exact W rfl (by first|exact id|simp)|exact E rfl) (E rfl)) rfl ?_ |refine lw rfl rfl (fI (by first|exact W rfl (by first|exact id|simp)|exact E rfl) (E rfl)) rfl ?_ |refine lw rfl rfl (bI (v:=.bool false)) rfl ?_);exact k.h):P:=h ⟨k⟩
theorem aBf{P Q:Prop}(k:Q)(h:Hold Q→P:=by intro k;(first|refine ln rfl rfl rfl rfl ?_ |(refine gy rfl rfl ?_;(first|refine lo (eQ (by first|exact W rfl id|exact E rfl) (by first|exact W rfl (by simp)|exact E rfl)) rfl ?_ |refine lo (eR (by first|exact W rfl id|exact E rfl) (E rfl)) rfl ?_ |refine lo (gA (by first|exact W rfl id|exact E rfl) (by first|exact W rfl (by simp)|exact E rfl) (E rfl)) rfl ?_))|refine lg rfl rfl (eQ (by first|exact W rfl id|exact E rfl) (by first|exact W rfl (by simp)|exact E rfl)) rfl ?_ |refine lg rfl rfl (eR (by first|exact W rfl id|exact E rfl) (E rfl)) rfl ?_ |refine lg rfl rfl (gA (by first|exact W rfl id|exact E rfl) (by first|exact W rfl (by simp)|exact E rfl) (E rfl)) rfl ?_);exact k.h):P:=h ⟨k⟩
theorem aII{P Q:Prop}(k:Q)(h:Hold Q→P:=by intro k;(first|refine ln rfl rfl rfl rfl ?_ |(refine gy rfl rfl ?_;refine lo (jX (by first|exact W rfl id|exact E rfl) (E rfl)) rfl ?_)|refine lg rfl rfl (jX (by first|exact W rfl (by first|exact id|simp)|exact E rfl) (E rfl)) rfl ?_ |refine lw rfl rfl (jX (by first|exact W rfl (by first|exact id|simp)|exact E rfl) (E rfl)) rfl ?_ |refine lw rfl rfl (bI (v:=.bool false)) rfl ?_);exact k.h):P:=h ⟨k⟩
theorem aBg{P Q:Prop}(k:Q)(h:Hold Q→P:=by intro k;(first|refine ln rfl rfl rfl rfl ?_ |(refine gy rfl rfl ?_;(first|refine lo (fD (E rfl) rfl bH (fun _=>Nat.le_of_ble_eq_true rfl)) rfl ?_ |refine lo (eT (E rfl) rfl (fun hc=>by first|rfl|exact aE (by assumption)|assumption|exact aE (aO (by omega))) (fun _=>Nat.le_of_ble_eq_true rfl)) rfl ?_))|refine lg rfl rfl (fD (E rfl) rfl bH (fun _=>Nat.le_of_ble_eq_true rfl)) rfl ?_ |refine lg rfl rfl (eT (E rfl) rfl (fun hc=>by first|rfl|exact aE (by assumption)|assumption|exact aE (aO (by(try simp at hc)<;>omega))) (fun _=>Nat.le_of_ble_eq_true rfl)) rfl ?_);exact k.h):P:=h ⟨k⟩
theorem EW{P Q:Prop}(k:Q)(h:Hold Q→P:=by intro k;(first|refine ln rfl rfl rfl rfl ?_ |(refine gy rfl rfl ?_;(first|refine lo (fD (by first|exact W rfl id|exact E rfl) rfl bH (fun _=>Nat.le_of_ble_eq_true rfl)) rfl ?_ |refine lo (eT (by first|exact W rfl id|exact E rfl) rfl (fun hc=>by first|rfl|exact aE (by assumption)|assumption|exact aE (aO (by omega))) (fun _=>Nat.le_of_ble_eq_true rfl)) rfl ?_))|refine lg rfl rfl (fD (by first|exact W rfl id|exact E rfl) rfl bH (fun _=>Nat.le_of_ble_eq_true rfl)) rfl ?_ |refine lg rfl rfl (eT (by first|exact W rfl id|exact E rfl) rfl (fun hc=>by first|rfl|exact aE (by assumption)|assumption|exact aE (aO (by(try simp at hc)<;>omega))) (fun _=>Nat.le_of_ble_eq_true rfl)) rfl ?_);exact k.h):P:=h ⟨k⟩
theorem aIJ{P Q:Prop}(k:Q)(h:Hold Q→P:=by intro k;(first|refine ln rfl rfl rfl rfl ?_ |(refine gy rfl rfl ?_;(first|refine lo (bA (by first|exact W rfl id|exact E rfl) (.inl ⟨_,_,rfl⟩)) rfl ?_ |refine lo (bA (by first|exact W rfl id|exact E rfl) (.inr (.inl ⟨_,_,_,rfl⟩))) rfl ?_ |refine lo (bA (by first|exact W rfl id|exact E rfl) (.inr (.inr ⟨_,_,_,_,rfl⟩))) rfl ?_))|refine lg rfl rfl (bA (by first|exact W rfl id|exact E rfl) (.inl ⟨_,_,rfl⟩)) rfl ?_ |refine lg rfl rfl (bA (by first|exact W rfl id|exact E rfl) (.inr (.inl ⟨_,_,_,rfl⟩))) rfl ?_ |refine lg rfl rfl (bA (by first|exact W rfl id|exact E rfl) (.inr (.inr ⟨_,_,_,_,rfl⟩))) rfl ?_);exact k.h):P:=h ⟨k⟩
theorem aGP{P Q:Prop}(k:Q)(h:Hold Q→P:=by intro k;(first|refine ln rfl rfl rfl rfl ?_ |(refine gy rfl rfl ?_;(first|refine lo (aY (by first|exact W rfl id|exact E rfl) rfl (by decide)) rfl ?_ |refine lo (aS (by first|exact W rfl id|exact E rfl) rfl (by decide)) rfl ?_))|refine lg rfl rfl (aY (by first|exact W rfl id|exact E rfl) rfl (by decide)) rfl ?_ |refine lg rfl rfl (aS (by first|exact W rfl id|exact E rfl) rfl (by decide)) rfl ?_);exact k.h):P:=h ⟨k⟩
theorem aIK{P Q:Prop}(k:Q)(h:Hold Q→P:=by intro k;(first|refine ln rfl rfl rfl rfl ?_ |(refine gy rfl rfl ?_;refine lo (lE (by first|exact W rfl id|exact E rfl) (by first|exact W rfl id|exact E rfl)) rfl ?_)|refine lg rfl rfl (lE (by first|exact W rfl id|exact E rfl) (by first|exact W rfl id|exact E rfl)) rfl ?_);exact k.h):P:=h ⟨k⟩
theorem aEn{P Q:Prop}(k:Q)(h:Hold Q→P:=by intro k;(first|refine gD rfl (vB (E rfl) (E rfl) (by omega) (by omega)) rfl ?_ |refine gD rfl (lX (E rfl) (E rfl)) rfl ?_);exact k.h):P:=h ⟨k⟩
theorem aBh{P Q:Prop}(k:Q)(h:Hold Q→P:=by intro k;(first|refine lo (rR (E rfl)) rfl ?_ |refine lo (JQ (E rfl)) rfl ?_);exact k.h):P:=h ⟨k⟩
theorem aIL{P Q:Prop}(k:Q)(h:Hold Q→P:=by intro k;(first|refine ln rfl rfl rfl rfl ?_ |(refine gy rfl rfl ?_;refine lo (dD (by first|exact W rfl id|exact E rfl) (E rfl)) rfl ?_)|refine lg rfl rfl (dD (by first|exact W rfl (by first|exact id|simp)|exact E rfl) (E rfl)) rfl ?_ |refine lw rfl rfl (dD (by first|exact W rfl (by first|exact id|simp)|exact E rfl) (E rfl)) rfl ?_ |refine lw rfl rfl (bI (v:=.bool false)) rfl ?_);exact k.h):P:=h ⟨k⟩
theorem aIM{P Q:Prop}(k:Q)(h:Hold Q→P:=by intro k;(first|refine ln rfl rfl rfl rfl ?_ |(refine gy rfl rfl ?_;(first|refine lo (eQ (by first|exact W rfl id|exact E rfl) (E rfl)) rfl ?_ |refine lo (eR (by first|exact W rfl id|exact E rfl) (by first|exact W rfl (by simp)|exact E rfl)) rfl ?_ |refine lo (gA (by first|exact W rfl id|exact E rfl) (E rfl) (by first|exact W rfl (by simp)|exact E rfl)) rfl ?_))|refine lg rfl rfl (eQ (by first|exact W rfl id|exact E rfl) (E rfl)) rfl ?_ |refine lg rfl rfl (eR (by first|exact W rfl id|exact E rfl) (by first|exact W rfl (by simp)|exact E rfl)) rfl ?_ |refine lg rfl rfl (gA (by first|exact W rfl id|exact E rfl) (E rfl) (by first|exact W rfl (by simp)|exact E rfl)) rfl ?_);exact k.h):P:=h ⟨k⟩
theorem aEo{P Q:Prop}(k:Q)(h:Hold Q→P:=by intro k;(refine lo (aA5 (E rfl) rfl rfl (fun _=>rfl)) rfl ?_);exact k.h):P:=h ⟨k⟩
theorem ME{P Q:Prop}(k:Q)(h:Hold Q→P:=by intro k;(refine lo (rE (.cons rfl .nil) .nil) rfl ?_);exact k.h):P:=h ⟨k⟩
theorem aIN{P Q:Prop}(k:Q)(h:Hold Q→P:=by intro k;(refine lo (rE .nil (.cons rfl (.cons rfl .nil))) rfl ?_);exact k.h):P:=h ⟨k⟩
theorem aIO{P Q:Prop}(k:Q)(h:Hold Q→P:=by intro k;(refine gD rfl (rE (.cons rfl .nil) .nil) rfl ?_);exact k.h):P:=h ⟨k⟩
theorem aGQ{P Q:Prop}(k:Q)(h:Hold Q→P:=by intro k;(refine lo (rE .nil (.cons rfl .nil)) rfl ?_);exact k.h):P:=h ⟨k⟩
theorem aEp{P Q:Prop}(k:Q)(h:Hold Q→P:=by intro k;(first|refine ln rfl rfl rfl rfl ?_ |(refine gy rfl rfl ?_;refine lo (gZ (by first|exact W rfl id|exact E rfl)) rfl ?_)|refine lg rfl rfl (gZ (by first|exact W rfl id|exact E rfl)) rfl ?_);exact k.h):P:=h ⟨k⟩
theorem aGR{P Q:Prop}(k:Q)(h:Hold Q→P:=by intro k;(first|refine ln rfl rfl rfl rfl ?_ |(refine gy rfl rfl ?_;refine lo (wD (by first|exact W rfl id|exact E rfl) OB.none (OB.some (by first|exact W rfl id|exact E rfl) (fun _=>by first|rfl|exact(Int.toNat_of_nonneg (by omega)).symm)) (fun hc=>by(try simp at hc);omega)) rfl ?_)|refine lg rfl rfl (wD (by first|exact W rfl id|exact E rfl) OB.none (OB.some (by first|exact W rfl id|exact E rfl) (fun _=>by first|rfl|exact(Int.toNat_of_nonneg (by omega)).symm)) (fun hc=>by(try simp at hc);omega)) rfl ?_);exact k.h):P:=h ⟨k⟩
theorem aGS{P Q:Prop}(k:Q)(h:Hold Q→P:=by intro k;(first|refine ln rfl rfl rfl rfl ?_ |(refine gy rfl rfl ?_;refine lo (xE (by first|exact W rfl id|exact E rfl) (by first|exact W rfl id|exact E rfl)) rfl ?_)|refine lg rfl rfl (xE (by first|exact W rfl id|exact E rfl) (by first|exact W rfl id|exact E rfl)) rfl ?_);exact k.h):P:=h ⟨k⟩
theorem xL{P Q:Prop}(k:Q)(h:Hold Q→P:=by intro k;(first|refine jA rfl rfl rfl rfl rfl ?_ |(refine eN rfl rfl rfl (aI (E rfl)) rfl ?_)|refine eE rfl rfl rfl (aI (E rfl)) rfl ?_);exact k.h):P:=h ⟨k⟩
theorem MF{P Q:Prop}(k:Q)(h:Hold Q→P:=by intro k;(first|refine jA rfl rfl rfl rfl rfl ?_ |(first|refine eN rfl rfl rfl (bE (by first|exact W rfl id|exact E rfl) (by first|exact W rfl id|exact E rfl) (fun hc=>by(simp only[List.length_map];omega))) rfl ?_ |refine eN rfl rfl rfl (aU (by first|exact W rfl id|exact E rfl) bH (by first|exact W rfl id|exact E rfl) (fun hc=>by omega)) rfl ?_ |refine eN rfl rfl rfl (aW (by first|exact W rfl id|exact E rfl) bH (by first|exact W rfl id|exact E rfl) (fun hc=>by omega)) rfl ?_)|refine eE rfl rfl rfl (bE (by first|exact W rfl id|exact E rfl) (by first|exact W rfl id|exact E rfl) (fun hc=>by(try simp at hc)<;>(simp only[List.length_map];omega))) rfl ?_ |refine eE rfl rfl rfl (aU (by first|exact W rfl id|exact E rfl) bH (by first|exact W rfl id|exact E rfl) (fun hc=>by(try simp at hc)<;>omega)) rfl ?_ |refine eE rfl rfl rfl (aW (by first|exact W rfl id|exact E rfl) bH (by first|exact W rfl id|exact E rfl) (fun hc=>by(try simp at hc)<;>omega)) rfl ?_);exact k.h):P:=h ⟨k⟩
theorem PH{P Q:Prop}(k:Q)(h:Hold Q→P:=by intro k;(first|refine jA rfl rfl rfl rfl rfl ?_ |(first|refine eN rfl rfl rfl (aL (by first|exact W rfl id|exact E rfl) rfl (fun hc=>by first|rfl|exact aE (by assumption)|assumption|exact aE (aO (by omega))) (fun _=>rfl)) rfl ?_ |refine eN rfl rfl rfl (bJ (by first|exact W rfl id|exact E rfl) rfl bH (fun hc=>by first|rfl|exact aE (by assumption)|assumption|exact aE (aO (by omega))) (fun _=>rfl)) rfl ?_)|refine eE rfl rfl rfl (aL (by first|exact W rfl id|exact E rfl) rfl (fun hc=>by first|rfl|exact aE (by assumption)|assumption|exact aE (aO (by(try simp at hc)<;>omega))) (fun _=>rfl)) rfl ?_ |refine eE rfl rfl rfl (bJ (by first|exact W rfl id|exact E rfl) rfl bH (fun hc=>by first|rfl|exact aE (by assumption)|assumption|exact aE (aO (by(try simp at hc)<;>omega))) (fun _=>rfl)) rfl ?_);exact k.h):P:=h ⟨k⟩
theorem aBi{P Q:Prop}(k:Q)(h:Hold Q→P:=by intro k;(first|refine jA rfl rfl rfl rfl rfl ?_ |(refine eN rfl rfl rfl (dD (by first|exact W rfl id|exact E rfl) (by first|exact W rfl id|exact E rfl)) rfl ?_)|refine eE rfl rfl rfl (dD (by first|exact W rfl id|exact E rfl) (by first|exact W rfl id|exact E rfl)) rfl ?_);exact k.h):P:=h ⟨k⟩
theorem TW{P Q:Prop}(k:Q)(h:Hold Q→P:=by intro k;(first|refine gD rfl (eQ (E rfl) (by first|exact W rfl (by simp)|exact E rfl)) rfl ?_ |refine gD rfl (eR (E rfl) (E rfl)) rfl ?_ |refine gD rfl (gA (E rfl) (by first|exact W rfl (by simp)|exact E rfl) (E rfl)) rfl ?_);exact k.h):P:=h ⟨k⟩
theorem aGT{P Q:Prop}(k:Q)(h:Hold Q→P:=by intro k;(first|refine gD rfl (aS (E rfl) rfl (by decide)) rfl ?_ |refine gD rfl (eM (E rfl) rfl (by decide)) rfl ?_);exact k.h):P:=h ⟨k⟩
theorem XE{P Q:Prop}(k:Q)(h:Hold Q→P:=by intro k;(first|refine ln rfl rfl rfl rfl ?_ |(refine gy rfl rfl ?_;refine lo (gT (by first|exact W rfl id|exact E rfl) (E rfl)) rfl ?_)|refine lg rfl rfl (gT (by first|exact W rfl id|exact E rfl) (E rfl)) rfl ?_);exact k.h):P:=h ⟨k⟩
theorem aIP{P Q:Prop}(k:Q)(h:Hold Q→P:=by intro k;(first|refine ln rfl rfl rfl rfl ?_ |(refine gy rfl rfl ?_;refine lo (gT (by first|exact W rfl id|exact E rfl) (E rfl)) rfl ?_)|refine lg rfl rfl (gT (by first|exact W rfl (by first|exact id|simp)|exact E rfl) (E rfl)) rfl ?_ |refine lw rfl rfl (gT (by first|exact W rfl (by first|exact id|simp)|exact E rfl) (E rfl)) rfl ?_ |refine lw rfl rfl (bI (v:=.bool false)) rfl ?_);exact k.h):P:=h ⟨k⟩
theorem aIQ{P Q:Prop}(k:Q)(h:Hold Q→P:=by intro k;(refine lo (qL (E rfl) (E rfl) (fun _=>by omega) (fun _=>by assumption) (fun _=>by assumption)) rfl ?_);exact k.h):P:=h ⟨k⟩
theorem aIR{P Q:Prop}(k:Q)(h:Hold Q→P:=by intro k;(first|refine ln rfl rfl rfl rfl ?_ |(refine gy rfl rfl ?_;refine lo (qL (by first|exact W rfl id|exact E rfl) (by first|exact W rfl id|exact E rfl) (fun _=>by omega) (fun _=>by assumption) (fun _=>by assumption)) rfl ?_)|refine lg rfl rfl (qL (by first|exact W rfl id|exact E rfl) (by first|exact W rfl id|exact E rfl) (fun _=>by omega) (fun _=>by assumption) (fun _=>by assumption)) rfl ?_);exact k.h):P:=h ⟨k⟩
theorem aIS{P Q:Prop}(k:Q)(h:Hold Q→P:=by intro k;(first|refine ln rfl rfl rfl rfl ?_ |(refine gy rfl rfl ?_;(first|refine lo (vB (by first|exact W rfl id|exact E rfl) (by first|exact W rfl id|exact E rfl) (by omega) (by omega)) rfl ?_ |refine lo (lX (by first|exact W rfl id|exact E rfl) (by first|exact W rfl id|exact E rfl)) rfl ?_))|refine lg rfl rfl (vB (by first|exact W rfl id|exact E rfl) (by first|exact W rfl id|exact E rfl) (by omega) (by omega)) rfl ?_ |refine lg rfl rfl (lop_add64c (by first|exact W rfl id|exact E rfl) (by first|exact W rfl id|exact E rfl) (fun hc=>by simp at hc<;>first|omega|(have hov:=hov hc;omega))) rfl ?_ |refine lg rfl rfl (lX (by first|exact W rfl id|exact E rfl) (by first|exact W rfl id|exact E rfl)) rfl ?_);exact k.h):P:=h ⟨k⟩
theorem aIT{P Q:Prop}(k:Q)(h:Hold Q→P:=by intro k;(first|refine ln rfl rfl rfl rfl ?_ |(refine gy rfl rfl ?_;refine lo (fE (by first|exact W rfl id|exact E rfl) (by first|exact W rfl id|exact E rfl)) rfl ?_)|refine lg rfl rfl (fE (by first|exact W rfl id|exact E rfl) (by first|exact W rfl id|exact E rfl)) rfl ?_);exact k.h):P:=h ⟨k⟩
theorem PI{P Q:Prop}(k:Q)(h:Hold Q→P:=by intro k;(first|refine jA rfl rfl rfl rfl rfl ?_ |(first|refine eN rfl rfl rfl (aY (E rfl) rfl (by decide)) rfl ?_ |refine eN rfl rfl rfl (aS (E rfl) rfl (by decide)) rfl ?_)|refine eE rfl rfl rfl (aY (E rfl) rfl (by decide)) rfl ?_ |refine eE rfl rfl rfl (aS (E rfl) rfl (by decide)) rfl ?_);exact k.h):P:=h ⟨k⟩
theorem qH{P Q:Prop}(k:Q)(h:Hold Q→P:=by intro k;(first|refine jA rfl rfl rfl rfl rfl ?_ |(first|refine eN rfl rfl rfl (aN (by first|exact W rfl id|exact E rfl) rfl bH (fun _=>rfl)) rfl ?_ |refine eN rfl rfl rfl (aN (by first|exact W rfl id|exact E rfl) rfl bH (fun _=>by assumption)) rfl ?_ |refine eN rfl rfl rfl (aL (by first|exact W rfl id|exact E rfl) rfl (fun hc=>by first|rfl|exact aE (by assumption)|assumption|exact aE (aO (by omega))) (fun _=>rfl)) rfl ?_)|refine eE rfl rfl rfl (aN (by first|exact W rfl id|exact E rfl) rfl bH (fun _=>rfl)) rfl ?_ |refine eE rfl rfl rfl (aN (by first|exact W rfl id|exact E rfl) rfl bH (fun _=>by assumption)) rfl ?_ |refine eE rfl rfl rfl (aL (by first|exact W rfl id|exact E rfl) rfl (fun hc=>by first|rfl|exact aE (by assumption)|assumption|exact aE (aO (by(try simp at hc)<;>omega))) (fun _=>rfl)) rfl ?_);exact k.h):P:=h ⟨k⟩
theorem aGU{P Q:Prop}(k:Q)(h:Hold Q→P:=by intro k;(first|refine jA rfl rfl rfl rfl rfl ?_ |(first|refine eN rfl rfl rfl (aS (by first|exact W rfl id|exact E rfl) rfl (by decide)) rfl ?_ |refine eN rfl rfl rfl (eM (by first|exact W rfl id|exact E rfl) rfl (by decide)) rfl ?_)|refine eE rfl rfl rfl (aS (by first|exact W rfl id|exact E rfl) rfl (by decide)) rfl ?_ |refine eE rfl rfl rfl (eM (by first|exact W rfl id|exact E rfl) rfl (by decide)) rfl ?_);exact k.h):P:=h ⟨k⟩
theorem aIU{P Q:Prop}(k:Q)(h:Hold Q→P:=by intro k;(first|refine jA rfl rfl rfl rfl rfl ?_ |(refine eN rfl rfl rfl (eI (by first|exact W rfl id|exact E rfl)) rfl ?_)|refine eE rfl rfl rfl (eI (by first|exact W rfl id|exact E rfl)) rfl ?_);exact k.h):P:=h ⟨k⟩
theorem AR{P Q:Prop}(k:Q)(h:Hold Q→P:=by intro k;(first|refine gD rfl (eQ (E rfl) (E rfl)) rfl ?_ |refine gD rfl (eR (E rfl) (by first|exact W rfl (by simp)|exact E rfl)) rfl ?_ |refine gD rfl (gA (E rfl) (E rfl) (by first|exact W rfl (by simp)|exact E rfl)) rfl ?_);exact k.h):P:=h ⟨k⟩
theorem aEq{P Q:Prop}(k:Q)(h:Hold Q→P:=by intro k;(first|refine ln rfl rfl rfl rfl ?_ |(refine gy rfl rfl ?_;refine lo (BF (by repeat(first|exact PEvs.nil|(apply PEvs.cons;first|exact W rfl id|exact E rfl))) (by(exact dM)) (by repeat(first|exact Fill.nil|(apply Fill.cons;rfl;rfl;rfl;(exact xK))))) rfl ?_)|refine lg rfl rfl (BF (by repeat(first|exact PEvs.nil|(apply PEvs.cons;first|exact W rfl id|exact E rfl))) (by(exact dM)) (by repeat(first|exact Fill.nil|(apply Fill.cons;rfl;rfl;rfl;(exact xK))))) rfl ?_);exact k.h):P:=h ⟨k⟩
theorem aIV{P Q:Prop}(k:Q)(h:Hold Q→P:=by intro k;((refine gy rfl rfl ?_;apply bs;(exact qU);rfl;rfl;rfl;rfl;(exact dM);rfl));exact k.h):P:=h ⟨k⟩
theorem aBj{P Q:Prop}(k:Q)(h:Hold Q→P:=by intro k;(first|refine jA rfl rfl rfl rfl rfl ?_ |(first|refine eN rfl rfl rfl (fD (E rfl) rfl bH (fun _=>Nat.le_of_ble_eq_true rfl)) rfl ?_ |refine eN rfl rfl rfl (eT (E rfl) rfl (fun hc=>by first|rfl|exact aE (by assumption)|assumption|exact aE (aO (by omega))) (fun _=>Nat.le_of_ble_eq_true rfl)) rfl ?_)|refine eE rfl rfl rfl (fD (E rfl) rfl bH (fun _=>Nat.le_of_ble_eq_true rfl)) rfl ?_ |refine eE rfl rfl rfl (eT (E rfl) rfl (fun hc=>by first|rfl|exact aE (by assumption)|assumption|exact aE (aO (by(try simp at hc)<;>omega))) (fun _=>Nat.le_of_ble_eq_true rfl)) rfl ?_);exact k.h):P:=h ⟨k⟩
theorem aGV{P Q:Prop}(k:Q)(h:Hold Q→P:=by intro k;(first|refine jA rfl rfl rfl rfl rfl ?_ |(refine eN rfl rfl rfl (LK (by first|exact W rfl id|exact E rfl) (by first|exact W rfl id|exact E rfl)) rfl ?_)|refine eE rfl rfl rfl (LK (by first|exact W rfl id|exact E rfl) (by first|exact W rfl id|exact E rfl)) rfl ?_);exact k.h):P:=h ⟨k⟩
theorem sq0{P Q:Prop}(k:Q)(h:Hold Q→P:=by intro k;refine lo (hZ (E rfl)) rfl ?_;refine EU ?_;exact k.h):P:=h ⟨k⟩
theorem gK{P Q:Prop}(k:Q)(h:Hold Q→P:=by intro k;refine BG ?_;refine lo (aI (E rfl)) rfl ?_;exact k.h):P:=h ⟨k⟩
theorem dG{P Q:Prop}(k:Q)(h:Hold Q→P:=by intro k;refine sq0 ?_;refine aP ?_;exact k.h):P:=h ⟨k⟩
theorem dW{P Q:Prop}(k:Q)(h:Hold Q→P:=by intro k;refine aP ?_;refine BG ?_;exact k.h):P:=h ⟨k⟩
theorem jP{P Q:Prop}(k:Q)(h:Hold Q→P:=by intro k;refine EU ?_;refine aP ?_;exact k.h):P:=h ⟨k⟩
theorem mK{P Q:Prop}(k:Q)(h:Hold Q→P:=by intro k;refine gK ?_;refine lo (aI (E rfl)) rfl ?_;exact k.h):P:=h ⟨k⟩
theorem MG{P Q:Prop}(k:Q)(h:Hold Q→P:=by intro k;refine lo (dD (E rfl) (E rfl)) rfl ?_;refine dG ?_;exact k.h):P:=h ⟨k⟩
theorem sq7{P Q:Prop}(k:Q)(h:Hold Q→P:=by intro k;(first|refine jA rfl rfl rfl rfl rfl ?_ |(first|refine eN rfl rfl rfl (bA (by first|exact W rfl id|exact E rfl) (.inl ⟨_,_,rfl⟩)) rfl ?_ |refine eN rfl rfl rfl (bA (by first|exact W rfl id|exact E rfl) (.inr (.inl ⟨_,_,_,rfl⟩))) rfl ?_ |refine eN rfl rfl rfl (bA (by first|exact W rfl id|exact E rfl) (.inr (.inr ⟨_,_,_,_,rfl⟩))) rfl ?_)|refine eE rfl rfl rfl (bA (by first|exact W rfl id|exact E rfl) (.inl ⟨_,_,rfl⟩)) rfl ?_ |refine eE rfl rfl rfl (bA (by first|exact W rfl id|exact E rfl) (.inr (.inl ⟨_,_,_,rfl⟩))) rfl ?_ |refine eE rfl rfl rfl (bA (by first|exact W rfl id|exact E rfl) (.inr (.inr ⟨_,_,_,_,rfl⟩))) rfl ?_);(first|refine jA rfl rfl rfl rfl rfl ?_ |(first|refine eN rfl rfl rfl (aY (by first|exact W rfl id|exact E rfl) rfl (by decide)) rfl ?_ |refine eN rfl rfl rfl (aS (by first|exact W rfl id|exact E rfl) rfl (by decide)) rfl ?_)|refine eE rfl rfl rfl (aY (by first|exact W rfl id|exact E rfl) rfl (by decide)) rfl ?_ |refine eE rfl rfl rfl (aS (by first|exact W rfl id|exact E rfl) rfl (by decide)) rfl ?_);exact k.h):P:=h ⟨k⟩
theorem dX{P Q:Prop}(k:Q)(h:Hold Q→P:=by intro k;refine aP ?_;refine gK ?_;exact k.h):P:=h ⟨k⟩
theorem sq9{P Q:Prop}(k:Q)(h:Hold Q→P:=by intro k;(first|refine jA rfl rfl rfl rfl rfl ?_ |(first|refine eN rfl rfl rfl (gB (by first|exact W rfl id|exact E rfl)) rfl ?_ |refine eN rfl rfl rfl (gO (by first|exact W rfl id|exact E rfl)) rfl ?_ |refine eN rfl rfl rfl (gC (by first|exact W rfl id|exact E rfl)) rfl ?_)|refine eE rfl rfl rfl (gB (by first|exact W rfl id|exact E rfl)) rfl ?_ |refine eE rfl rfl rfl (gO (by first|exact W rfl id|exact E rfl)) rfl ?_ |refine eE rfl rfl rfl (gC (by first|exact W rfl id|exact E rfl)) rfl ?_);(first|refine jA rfl rfl rfl rfl rfl ?_ |(refine eN rfl rfl rfl (fI (by first|exact W rfl id|exact E rfl) (by first|exact W rfl id|exact E rfl)) rfl ?_)|refine eE rfl rfl rfl (fI (by first|exact W rfl id|exact E rfl) (by first|exact W rfl id|exact E rfl)) rfl ?_);exact k.h):P:=h ⟨k⟩
theorem iD{P Q:Prop}(k:Q)(h:Hold Q→P:=by intro k;apply WX;rfl;rfl;rfl;rfl;(exact sK);refine jP ?_;exact k.h):P:=h ⟨k⟩
theorem gF{P Q:Prop}(k:Q)(h:Hold Q→P:=by intro k;refine wI ?_;refine vC ?_;exact k.h):P:=h ⟨k⟩
theorem bQ{P Q:Prop}(k:Q)(h:Hold Q→P:=by intro k;refine dW ?_;refine dG ?_;exact k.h):P:=h ⟨k⟩
theorem xM{P Q:Prop}(k:Q)(h:Hold Q→P:=by intro k;refine lo (gT (E rfl) (E rfl)) rfl ?_;refine jP ?_;exact k.h):P:=h ⟨k⟩
theorem CI{P Q:Prop}(k:Q)(h:Hold Q→P:=by intro k;refine gD rfl (aI (E rfl)) rfl ?_;refine WB ?_;exact k.h):P:=h ⟨k⟩
theorem dQ{P Q:Prop}(k:Q)(h:Hold Q→P:=by intro k;apply aT;(exact bF);refine jP ?_;exact k.h):P:=h ⟨k⟩
theorem kJ{P Q:Prop}(k:Q)(h:Hold Q→P:=by intro k;refine lo (hZ (E rfl)) rfl ?_;refine dG ?_;exact k.h):P:=h ⟨k⟩
theorem aEs{P Q:Prop}(k:Q)(h:Hold Q→P:=by intro k;refine lo (aI (E rfl)) rfl ?_;refine jP ?_;exact k.h):P:=h ⟨k⟩
theorem jK{P Q:Prop}(k:Q)(h:Hold Q→P:=by intro k;refine lo (aI (E rfl)) rfl ?_;refine qV ?_;exact k.h):P:=h ⟨k⟩
theorem PJ{P Q:Prop}(k:Q)(h:Hold Q→P:=by intro k;refine gD rfl (hZ (E rfl)) rfl ?_;refine MA ?_;exact k.h):P:=h ⟨k⟩
theorem IT{P Q:Prop}(k:Q)(h:Hold Q→P:=by intro k;refine lo (lN (E rfl) rfl) rfl ?_;refine lo (lN (E rfl) rfl) rfl ?_;exact k.h):P:=h ⟨k⟩
theorem aBk{P Q:Prop}(k:Q)(h:Hold Q→P:=by intro k;(first|refine jA rfl rfl rfl rfl rfl ?_ |(first|refine eN rfl rfl rfl (eQ (by first|exact W rfl id|exact E rfl) (E rfl)) rfl ?_ |refine eN rfl rfl rfl (eR (by first|exact W rfl id|exact E rfl) (by first|exact W rfl (by simp)|exact E rfl)) rfl ?_ |refine eN rfl rfl rfl (gA (by first|exact W rfl id|exact E rfl) (E rfl) (by first|exact W rfl (by simp)|exact E rfl)) rfl ?_)|refine eE rfl rfl rfl (eQ (by first|exact W rfl id|exact E rfl) (E rfl)) rfl ?_ |refine eE rfl rfl rfl (eR (by first|exact W rfl id|exact E rfl) (by first|exact W rfl (by simp)|exact E rfl)) rfl ?_ |refine eE rfl rfl rfl (gA (by first|exact W rfl id|exact E rfl) (E rfl) (by first|exact W rfl (by simp)|exact E rfl)) rfl ?_);refine TW ?_;exact k.h):P:=h ⟨k⟩
theorem aEt{P Q:Prop}(k:Q)(h:Hold Q→P:=by intro k;(first|refine jA rfl rfl rfl rfl rfl ?_ |(first|refine eN rfl rfl rfl (gB (by first|exact W rfl id|exact E rfl)) rfl ?_ |refine eN rfl rfl rfl (gO (by first|exact W rfl id|exact E rfl)) rfl ?_ |refine eN rfl rfl rfl (gC (by first|exact W rfl id|exact E rfl)) rfl ?_)|refine eE rfl rfl rfl (gB (by first|exact W rfl id|exact E rfl)) rfl ?_ |refine eE rfl rfl rfl (gO (by first|exact W rfl id|exact E rfl)) rfl ?_ |refine eE rfl rfl rfl (gC (by first|exact W rfl id|exact E rfl)) rfl ?_);(first|refine jA rfl rfl rfl rfl rfl ?_ |(refine eN rfl rfl rfl (dD (by first|exact W rfl id|exact E rfl) (E rfl)) rfl ?_)|refine eE rfl rfl rfl (dD (by first|exact W rfl id|exact E rfl) (E rfl)) rfl ?_);exact k.h):P:=h ⟨k⟩
theorem eP{P Q:Prop}(k:Q)(h:Hold Q→P:=by intro k;apply aT;(exact bF);refine dG ?_;exact k.h):P:=h ⟨k⟩
theorem cL{P Q:Prop}(k:Q)(h:Hold Q→P:=by intro k;refine aP ?_;refine mK ?_;exact k.h):P:=h ⟨k⟩
theorem jE{P Q:Prop}(k:Q)(h:Hold Q→P:=by intro k;refine OX ?_;refine z74 ?_;exact k.h):P:=h ⟨k⟩
theorem IU{P Q:Prop}(k:Q)(h:Hold Q→P:=by intro k;refine lo (aI (E rfl)) rfl ?_;refine aBb ?_;exact k.h):P:=h ⟨k⟩
theorem aEu{P Q:Prop}(k:Q)(h:Hold Q→P:=by intro k;refine lo (aI (E rfl)) rfl ?_;refine VZ ?_;exact k.h):P:=h ⟨k⟩
theorem xN{P Q:Prop}(k:Q)(h:Hold Q→P:=by intro k;refine gD rfl (aI (E rfl)) rfl ?_;refine gD rfl (aI (E rfl)) rfl ?_;exact k.h):P:=h ⟨k⟩
theorem dE{P Q:Prop}(k:Q)(h:Hold Q→P:=by intro k;refine dW ?_;refine MG ?_;exact k.h):P:=h ⟨k⟩
theorem oA{P Q:Prop}(k:Q)(h:Hold Q→P:=by intro k;refine lU ?_;refine lo (aI (E rfl)) rfl ?_;exact k.h):P:=h ⟨k⟩
theorem wK{P Q:Prop}(k:Q)(h:Hold Q→P:=by intro k;apply aT;(exact bF);refine lo (aI (E rfl)) rfl ?_;exact k.h):P:=h ⟨k⟩
theorem TX{P Q:Prop}(k:Q)(h:Hold Q→P:=by intro k;refine pP ?_;(first|refine ln rfl rfl rfl rfl ?_ |(refine gy rfl rfl ?_;refine lo (fI (by first|exact W rfl id|exact E rfl) (by first|exact W rfl id|exact E rfl)) rfl ?_)|refine lg rfl rfl (fI (by first|exact W rfl id|exact E rfl) (by first|exact W rfl id|exact E rfl)) rfl ?_);exact k.h):P:=h ⟨k⟩
theorem nG{P Q:Prop}(k:Q)(h:Hold Q→P:=by intro k;refine lo (hZ (E rfl)) rfl ?_;refine kJ ?_;exact k.h):P:=h ⟨k⟩
theorem qI{P Q:Prop}(k:Q)(h:Hold Q→P:=by intro k;refine lo (dD (E rfl) (E rfl)) rfl ?_;refine jP ?_;exact k.h):P:=h ⟨k⟩
theorem eV{P Q:Prop}(k:Q)(h:Hold Q→P:=by intro k;refine BG ?_;refine MG ?_;exact k.h):P:=h ⟨k⟩
theorem lH{P Q:Prop}(k:Q)(h:Hold Q→P:=by intro k;refine lo (fE (E rfl) (E rfl)) rfl ?_;refine jP ?_;exact k.h):P:=h ⟨k⟩
theorem CJ{P Q:Prop}(k:Q)(h:Hold Q→P:=by intro k;refine CI ?_;refine jE ?_;exact k.h):P:=h ⟨k⟩
theorem fN{P Q:Prop}(k:Q)(h:Hold Q→P:=by intro k;refine dX ?_;refine dG ?_;exact k.h):P:=h ⟨k⟩
theorem nS{P Q:Prop}(k:Q)(h:Hold Q→P:=by intro k;apply WX;rfl;rfl;rfl;rfl;(exact sK);refine EU ?_;exact k.h):P:=h ⟨k⟩
theorem kY{P Q:Prop}(k:Q)(h:Hold Q→P:=by intro k;refine dG ?_;refine BG ?_;exact k.h):P:=h ⟨k⟩
theorem xO{P Q:Prop}(k:Q)(h:Hold Q→P:=by intro k;refine z76 ?_;refine wI ?_;exact k.h):P:=h ⟨k⟩
theorem fV{P Q:Prop}(k:Q)(h:Hold Q→P:=by intro k;refine bQ ?_;refine gK ?_;exact k.h):P:=h ⟨k⟩
theorem aEv{P Q:Prop}(k:Q)(h:Hold Q→P:=by intro k;refine gD rfl (hZ (E rfl)) rfl ?_;refine PJ ?_;exact k.h):P:=h ⟨k⟩
theorem aEw{P Q:Prop}(k:Q)(h:Hold Q→P:=by intro k;refine oA ?_;refine lo (jX (E rfl) (E rfl)) rfl ?_;exact k.h):P:=h ⟨k⟩
theorem fS{P Q:Prop}(k:Q)(h:Hold Q→P:=by intro k;refine dW ?_;refine gF ?_;exact k.h):P:=h ⟨k⟩
theorem aBl{P Q:Prop}(k:Q)(h:Hold Q→P:=by intro k;refine RH ?_;refine aEs ?_;exact k.h):P:=h ⟨k⟩
theorem kD{P Q:Prop}(k:Q)(h:Hold Q→P:=by intro k;refine rS ?_;refine dG ?_;exact k.h):P:=h ⟨k⟩
theorem nT{P Q:Prop}(k:Q)(h:Hold Q→P:=by intro k;refine z76 ?_;refine gF ?_;exact k.h):P:=h ⟨k⟩
theorem PK{P Q:Prop}(k:Q)(h:Hold Q→P:=by intro k;refine jE ?_;refine gD rfl (aI (E rfl)) rfl ?_;exact k.h):P:=h ⟨k⟩
theorem AS{P Q:Prop}(k:Q)(h:Hold Q→P:=by intro k;refine RH ?_;refine dG ?_;exact k.h):P:=h ⟨k⟩
theorem tU{P Q:Prop}(k:Q)(h:Hold Q→P:=by intro k;refine lo (eI (E rfl)) rfl ?_;refine jP ?_;exact k.h):P:=h ⟨k⟩
theorem aIX{P Q:Prop}(k:Q)(h:Hold Q→P:=by intro k;refine lo (hZ (E rfl)) rfl ?_;refine sq0 ?_;exact k.h):P:=h ⟨k⟩
theorem aGW{P Q:Prop}(k:Q)(h:Hold Q→P:=by intro k;(first|refine jA rfl rfl rfl rfl rfl ?_ |(first|refine eN rfl rfl rfl (eQ (by first|exact W rfl id|exact E rfl) (by first|exact W rfl (by simp)|exact E rfl)) rfl ?_ |refine eN rfl rfl rfl (eR (by first|exact W rfl id|exact E rfl) (E rfl)) rfl ?_ |refine eN rfl rfl rfl (gA (by first|exact W rfl id|exact E rfl) (by first|exact W rfl (by simp)|exact E rfl) (E rfl)) rfl ?_)|refine eE rfl rfl rfl (eQ (by first|exact W rfl id|exact E rfl) (by first|exact W rfl (by simp)|exact E rfl)) rfl ?_ |refine eE rfl rfl rfl (eR (by first|exact W rfl id|exact E rfl) (E rfl)) rfl ?_ |refine eE rfl rfl rfl (gA (by first|exact W rfl id|exact E rfl) (by first|exact W rfl (by simp)|exact E rfl) (E rfl)) rfl ?_);refine AR ?_;exact k.h):P:=h ⟨k⟩
theorem nH{P Q:Prop}(k:Q)(h:Hold Q→P:=by intro k;refine IU ?_;refine aBc ?_;exact k.h):P:=h ⟨k⟩
theorem PL{P Q:Prop}(k:Q)(h:Hold Q→P:=by intro k;refine lo (lE (E rfl) (E rfl)) rfl ?_;refine jP ?_;exact k.h):P:=h ⟨k⟩
theorem oW{P Q:Prop}(k:Q)(h:Hold Q→P:=by intro k;refine xO ?_;refine iD ?_;exact k.h):P:=h ⟨k⟩
theorem iE{P Q:Prop}(k:Q)(h:Hold Q→P:=by intro k;refine dG ?_;refine gK ?_;exact k.h):P:=h ⟨k⟩
theorem tD{P Q:Prop}(k:Q)(h:Hold Q→P:=by intro k;refine cL ?_;refine lo (aI (E rfl)) rfl ?_;exact k.h):P:=h ⟨k⟩
theorem oX{P Q:Prop}(k:Q)(h:Hold Q→P:=by intro k;refine dX ?_;refine AS ?_;exact k.h):P:=h ⟨k⟩
theorem jF{P Q:Prop}(k:Q)(h:Hold Q→P:=by intro k;refine kY ?_;refine gF ?_;exact k.h):P:=h ⟨k⟩
theorem CK{P Q:Prop}(k:Q)(h:Hold Q→P:=by intro k;refine lo (fI (E rfl) (E rfl)) rfl ?_;refine lo (aI (E rfl)) rfl ?_;exact k.h):P:=h ⟨k⟩
theorem qW{P Q:Prop}(k:Q)(h:Hold Q→P:=by intro k;refine dX ?_;refine gF ?_;exact k.h):P:=h ⟨k⟩
theorem jQ{P Q:Prop}(k:Q)(h:Hold Q→P:=by intro k;refine dW ?_;refine xM ?_;exact k.h):P:=h ⟨k⟩
theorem nI{P Q:Prop}(k:Q)(h:Hold Q→P:=by intro k;refine lU ?_;refine aEs ?_;exact k.h):P:=h ⟨k⟩
theorem kK{P Q:Prop}(k:Q)(h:Hold Q→P:=by intro k;refine MA ?_;refine aP ?_;exact k.h):P:=h ⟨k⟩
theorem kL{P Q:Prop}(k:Q)(h:Hold Q→P:=by intro k;refine gK ?_;refine gF ?_;exact k.h):P:=h ⟨k⟩
theorem lV{P Q:Prop}(k:Q)(h:Hold Q→P:=by intro k;refine dW ?_;refine aBl ?_;exact k.h):P:=h ⟨k⟩
theorem zI{P Q:Prop}(k:Q)(h:Hold Q→P:=by intro k;refine gD rfl (aI (E rfl)) rfl ?_;refine xL ?_;exact k.h):P:=h ⟨k⟩
theorem aEx{P Q:Prop}(k:Q)(h:Hold Q→P:=by intro k;refine lo (lE (E rfl) (E rfl)) rfl ?_;refine jK ?_;exact k.h):P:=h ⟨k⟩
theorem tV{P Q:Prop}(k:Q)(h:Hold Q→P:=by intro k;refine PJ ?_;refine aP ?_;exact k.h):P:=h ⟨k⟩
theorem rT{P Q:Prop}(k:Q)(h:Hold Q→P:=by intro k;refine BG ?_;refine dG ?_;exact k.h):P:=h ⟨k⟩
theorem AT{P Q:Prop}(k:Q)(h:Hold Q→P:=by intro k;refine lo (fI (E rfl) (E rfl)) rfl ?_;refine dG ?_;exact k.h):P:=h ⟨k⟩
theorem EX{P Q:Prop}(k:Q)(h:Hold Q→P:=by intro k;apply aT;(exact bF);refine lo (eI (E rfl)) rfl ?_;exact k.h):P:=h ⟨k⟩
theorem CL{P Q:Prop}(k:Q)(h:Hold Q→P:=by intro k;refine lU ?_;refine xM ?_;exact k.h):P:=h ⟨k⟩
theorem mA{P Q:Prop}(k:Q)(h:Hold Q→P:=by intro k;refine bQ ?_;refine mK ?_;exact k.h):P:=h ⟨k⟩
theorem aGX{P Q:Prop}(k:Q)(h:Hold Q→P:=by intro k;(first|refine jA rfl rfl rfl rfl rfl ?_ |(refine eN rfl rfl rfl (dD (by first|exact W rfl id|exact E rfl) (E rfl)) rfl ?_)|refine eE rfl rfl rfl (dD (by first|exact W rfl id|exact E rfl) (E rfl)) rfl ?_);(first|refine jA rfl rfl rfl rfl rfl ?_ |(refine eN rfl rfl rfl (aI (by first|exact W rfl id|exact E rfl)) rfl ?_)|refine eE rfl rfl rfl (aI (by first|exact W rfl id|exact E rfl)) rfl ?_);exact k.h):P:=h ⟨k⟩
theorem aIY{P Q:Prop}(k:Q)(h:Hold Q→P:=by intro k;refine lo (aI (E rfl)) rfl ?_;refine z61 ?_;exact k.h):P:=h ⟨k⟩
theorem EY{P Q:Prop}(k:Q)(h:Hold Q→P:=by intro k;refine lo (gT (E rfl) (E rfl)) rfl ?_;refine jK ?_;exact k.h):P:=h ⟨k⟩
theorem aBm{P Q:Prop}(k:Q)(h:Hold Q→P:=by intro k;refine tT ?_;refine kD ?_;exact k.h):P:=h ⟨k⟩
theorem EZ{P Q:Prop}(k:Q)(h:Hold Q→P:=by intro k;refine gD rfl (aI (E rfl)) rfl ?_;refine jE ?_;exact k.h):P:=h ⟨k⟩
theorem oY{P Q:Prop}(k:Q)(h:Hold Q→P:=by intro k;refine gK ?_;refine nT ?_;exact k.h):P:=h ⟨k⟩
theorem aIZ{P Q:Prop}(k:Q)(h:Hold Q→P:=by intro k;refine CJ ?_;refine WZ ?_;exact k.h):P:=h ⟨k⟩
theorem FA{P Q:Prop}(k:Q)(h:Hold Q→P:=by intro k;refine aIZ ?_;refine aEv ?_;exact k.h):P:=h ⟨k⟩
theorem pQ{P Q:Prop}(k:Q)(h:Hold Q→P:=by intro k;refine VZ ?_;refine aEj ?_;exact k.h):P:=h ⟨k⟩
theorem FB{P Q:Prop}(k:Q)(h:Hold Q→P:=by intro k;refine lo (hZ (E rfl)) rfl ?_;refine nG ?_;exact k.h):P:=h ⟨k⟩
theorem PM{P Q:Prop}(k:Q)(h:Hold Q→P:=by intro k;refine lo (aI (E rfl)) rfl ?_;refine lo (aI (E rfl)) rfl ?_;exact k.h):P:=h ⟨k⟩
theorem aBn{P Q:Prop}(k:Q)(h:Hold Q→P:=by intro k;refine aIX ?_;refine an ?_;exact k.h):P:=h ⟨k⟩
theorem aGY{P Q:Prop}(k:Q)(h:Hold Q→P:=by intro k;refine jK ?_;refine aIH ?_;exact k.h):P:=h ⟨k⟩
theorem aEy{P Q:Prop}(k:Q)(h:Hold Q→P:=by intro k;apply aT;(exact bF);refine EU ?_;exact k.h):P:=h ⟨k⟩
theorem wL{P Q:Prop}(k:Q)(h:Hold Q→P:=by intro k;refine CJ ?_;refine CJ ?_;exact k.h):P:=h ⟨k⟩
theorem IV{P Q:Prop}(k:Q)(h:Hold Q→P:=by intro k;refine lo (fI (E rfl) (E rfl)) rfl ?_;refine jP ?_;exact k.h):P:=h ⟨k⟩
theorem XF{P Q:Prop}(k:Q)(h:Hold Q→P:=by intro k;refine MC ?_;refine aGT ?_;exact k.h):P:=h ⟨k⟩
theorem FC{P Q:Prop}(k:Q)(h:Hold Q→P:=by intro k;refine lo (aI (E rfl)) rfl ?_;refine IT ?_;exact k.h):P:=h ⟨k⟩
theorem FD{P Q:Prop}(k:Q)(h:Hold Q→P:=by intro k;refine mK ?_;refine lo (aI (E rfl)) rfl ?_;exact k.h):P:=h ⟨k⟩
theorem tE{P Q:Prop}(k:Q)(h:Hold Q→P:=by intro k;refine dX ?_;refine oW ?_;exact k.h):P:=h ⟨k⟩
theorem qJ{P Q:Prop}(k:Q)(h:Hold Q→P:=by intro k;refine qG ?_;refine jP ?_;exact k.h):P:=h ⟨k⟩
theorem qX{P Q:Prop}(k:Q)(h:Hold Q→P:=by intro k;refine gK ?_;refine aEw ?_;exact k.h):P:=h ⟨k⟩
theorem qY{P Q:Prop}(k:Q)(h:Hold Q→P:=by intro k;refine VZ ?_;refine MB ?_;exact k.h):P:=h ⟨k⟩
theorem vQ{P Q:Prop}(k:Q)(h:Hold Q→P:=by intro k;refine sq0 ?_;refine an ?_;exact k.h):P:=h ⟨k⟩
theorem sL{P Q:Prop}(k:Q)(h:Hold Q→P:=by intro k;apply bZ;(exact bF);refine tV ?_;exact k.h):P:=h ⟨k⟩
theorem AE{P Q:Prop}(k:Q)(h:Hold Q→P:=by intro k;apply WX;rfl;rfl;rfl;rfl;(exact sK);refine dG ?_;exact k.h):P:=h ⟨k⟩
theorem mB{P Q:Prop}(k:Q)(h:Hold Q→P:=by intro k;refine aEu ?_;refine aEj ?_;exact k.h):P:=h ⟨k⟩
theorem vX{P Q:Prop}(k:Q)(h:Hold Q→P:=by intro k;refine lo (aI (E rfl)) rfl ?_;refine z4 ?_;exact k.h):P:=h ⟨k⟩
theorem kZ{P Q:Prop}(k:Q)(h:Hold Q→P:=by intro k;refine BG ?_;refine gF ?_;exact k.h):P:=h ⟨k⟩
theorem AF{P Q:Prop}(k:Q)(h:Hold Q→P:=by intro k;refine lo (dD (E rfl) (E rfl)) rfl ?_;refine nH ?_;exact k.h):P:=h ⟨k⟩
theorem xP{P Q:Prop}(k:Q)(h:Hold Q→P:=by intro k;refine lo (aI (E rfl)) rfl ?_;refine aBg ?_;exact k.h):P:=h ⟨k⟩
theorem pU{P Q:Prop}(k:Q)(h:Hold Q→P:=by intro k;refine wK ?_;refine IT ?_;exact k.h):P:=h ⟨k⟩
theorem mC{P Q:Prop}(k:Q)(h:Hold Q→P:=by intro k;refine qW ?_;refine CL ?_;exact k.h):P:=h ⟨k⟩
theorem CM{P Q:Prop}(k:Q)(h:Hold Q→P:=by intro k;apply WX;rfl;rfl;rfl;rfl;(exact sK);refine vQ ?_;exact k.h):P:=h ⟨k⟩
theorem mD{P Q:Prop}(k:Q)(h:Hold Q→P:=by intro k;refine aBb ?_;refine aBc ?_;exact k.h):P:=h ⟨k⟩
theorem tW{P Q:Prop}(k:Q)(h:Hold Q→P:=by intro k;refine rS ?_;refine jP ?_;exact k.h):P:=h ⟨k⟩
theorem aGZ{P Q:Prop}(k:Q)(h:Hold Q→P:=by intro k;refine aGY ?_;refine ln rfl rfl rfl rfl ?_;exact k.h):P:=h ⟨k⟩
theorem xQ{P Q:Prop}(k:Q)(h:Hold Q→P:=by intro k;refine lo (aI (E rfl)) rfl ?_;refine lU ?_;exact k.h):P:=h ⟨k⟩
theorem mN{P Q:Prop}(k:Q)(h:Hold Q→P:=by intro k;refine kJ ?_;refine gK ?_;exact k.h):P:=h ⟨k⟩
theorem nJ{P Q:Prop}(k:Q)(h:Hold Q→P:=by intro k;refine aEu ?_;refine MB ?_;exact k.h):P:=h ⟨k⟩
theorem pV{P Q:Prop}(k:Q)(h:Hold Q→P:=by intro k;refine PJ ?_;refine oX ?_;exact k.h):P:=h ⟨k⟩
theorem mO{P Q:Prop}(k:Q)(h:Hold Q→P:=by intro k;refine dQ ?_;refine gK ?_;exact k.h):P:=h ⟨k⟩
theorem vY{P Q:Prop}(k:Q)(h:Hold Q→P:=by intro k;apply aT;(exact bF);refine aBm ?_;exact k.h):P:=h ⟨k⟩
theorem RI{P Q:Prop}(k:Q)(h:Hold Q→P:=by intro k;refine XF ?_;refine LD ?_;exact k.h):P:=h ⟨k⟩
theorem CN{P Q:Prop}(k:Q)(h:Hold Q→P:=by intro k;refine gD rfl (aI (E rfl)) rfl ?_;refine PI ?_;exact k.h):P:=h ⟨k⟩
theorem MH{P Q:Prop}(k:Q)(h:Hold Q→P:=by intro k;refine BG ?_;refine aBl ?_;exact k.h):P:=h ⟨k⟩
theorem CO{P Q:Prop}(k:Q)(h:Hold Q→P:=by intro k;refine gD rfl (aI (E rfl)) rfl ?_;refine wL ?_;exact k.h):P:=h ⟨k⟩
theorem CP{P Q:Prop}(k:Q)(h:Hold Q→P:=by intro k;refine lo (hZ (E rfl)) rfl ?_;refine aBn ?_;exact k.h):P:=h ⟨k⟩
theorem oZ{P Q:Prop}(k:Q)(h:Hold Q→P:=by intro k;refine aEu ?_;refine PF ?_;exact k.h):P:=h ⟨k⟩
theorem pW{P Q:Prop}(k:Q)(h:Hold Q→P:=by intro k;refine PK ?_;refine RI ?_;exact k.h):P:=h ⟨k⟩
theorem nK{P Q:Prop}(k:Q)(h:Hold Q→P:=by intro k;refine dG ?_;refine mK ?_;exact k.h):P:=h ⟨k⟩
theorem pA{P Q:Prop}(k:Q)(h:Hold Q→P:=by intro k;refine xN ?_;refine MC ?_;exact k.h):P:=h ⟨k⟩
theorem nX{P Q:Prop}(k:Q)(h:Hold Q→P:=by intro k;refine bQ ?_;refine rT ?_;exact k.h):P:=h ⟨k⟩
theorem aDo{P Q:Prop}(k:Q)(h:Hold Q→P:=by intro k;refine PH ?_;(first|refine jA rfl rfl rfl rfl rfl ?_ |(refine eN rfl rfl rfl (gT (by first|exact W rfl id|exact E rfl) (E rfl)) rfl ?_)|refine eE rfl rfl rfl (gT (by first|exact W rfl id|exact E rfl) (E rfl)) rfl ?_);exact k.h):P:=h ⟨k⟩
theorem aDp{P Q:Prop}(k:Q)(h:Hold Q→P:=by intro k;refine aEt ?_;(first|refine jA rfl rfl rfl rfl rfl ?_ |(refine eN rfl rfl rfl (aI (by first|exact W rfl id|exact E rfl)) rfl ?_)|refine eE rfl rfl rfl (aI (by first|exact W rfl id|exact E rfl)) rfl ?_);exact k.h):P:=h ⟨k⟩
theorem aDq{P Q:Prop}(k:Q)(h:Hold Q→P:=by intro k;refine aIJ ?_;refine aGP ?_;exact k.h):P:=h ⟨k⟩
theorem RJ{P Q:Prop}(k:Q)(h:Hold Q→P:=by intro k;refine aDq ?_;refine aBc ?_;exact k.h):P:=h ⟨k⟩
theorem GP{P Q:Prop}(k:Q)(h:Hold Q→P:=by intro k;refine lo (fI (E rfl) (E rfl)) rfl ?_;refine jK ?_;exact k.h):P:=h ⟨k⟩
theorem vZ{P Q:Prop}(k:Q)(h:Hold Q→P:=by intro k;refine aGY ?_;refine gy rfl rfl ?_;exact k.h):P:=h ⟨k⟩
theorem pX{P Q:Prop}(k:Q)(h:Hold Q→P:=by intro k;refine dQ ?_;refine mK ?_;exact k.h):P:=h ⟨k⟩
theorem sM{P Q:Prop}(k:Q)(h:Hold Q→P:=by intro k;refine eP ?_;refine MH ?_;exact k.h):P:=h ⟨k⟩
theorem qZ{P Q:Prop}(k:Q)(h:Hold Q→P:=by intro k;refine nH ?_;refine qV ?_;exact k.h):P:=h ⟨k⟩
theorem pB{P Q:Prop}(k:Q)(h:Hold Q→P:=by intro k;refine EU ?_;refine dE ?_;exact k.h):P:=h ⟨k⟩
theorem xR{P Q:Prop}(k:Q)(h:Hold Q→P:=by intro k;refine dX ?_;refine oV ?_;exact k.h):P:=h ⟨k⟩
theorem GQ{P Q:Prop}(k:Q)(h:Hold Q→P:=by intro k;refine lo (hZ (E rfl)) rfl ?_;refine iD ?_;exact k.h):P:=h ⟨k⟩
theorem GR{P Q:Prop}(k:Q)(h:Hold Q→P:=by intro k;refine xR ?_;refine lo (aI (E rfl)) rfl ?_;exact k.h):P:=h ⟨k⟩
theorem tX{P Q:Prop}(k:Q)(h:Hold Q→P:=by intro k;refine dW ?_;refine aBn ?_;exact k.h):P:=h ⟨k⟩
theorem rA{P Q:Prop}(k:Q)(h:Hold Q→P:=by intro k;refine fV ?_;refine nI ?_;exact k.h):P:=h ⟨k⟩
theorem aG0{P Q:Prop}(k:Q)(h:Hold Q→P:=by intro k;refine z94 ?_;refine FA ?_;exact k.h):P:=h ⟨k⟩
theorem tY{P Q:Prop}(k:Q)(h:Hold Q→P:=by intro k;refine aG0 ?_;refine an ?_;exact k.h):P:=h ⟨k⟩
theorem pY{P Q:Prop}(k:Q)(h:Hold Q→P:=by intro k;refine dW ?_;refine oV ?_;exact k.h):P:=h ⟨k⟩
theorem sN{P Q:Prop}(k:Q)(h:Hold Q→P:=by intro k;refine fN ?_;refine mK ?_;exact k.h):P:=h ⟨k⟩
theorem rB{P Q:Prop}(k:Q)(h:Hold Q→P:=by intro k;refine OX ?_;refine WZ ?_;exact k.h):P:=h ⟨k⟩
theorem rC{P Q:Prop}(k:Q)(h:Hold Q→P:=by intro k;refine lU ?_;refine qI ?_;exact k.h):P:=h ⟨k⟩
theorem GS{P Q:Prop}(k:Q)(h:Hold Q→P:=by intro k;refine nT ?_;refine lo (aI (E rfl)) rfl ?_;exact k.h):P:=h ⟨k⟩
theorem sO{P Q:Prop}(k:Q)(h:Hold Q→P:=by intro k;refine dX ?_;refine xO ?_;exact k.h):P:=h ⟨k⟩
theorem MI{P Q:Prop}(k:Q)(h:Hold Q→P:=by intro k;refine pU ?_;refine lo (lN (E rfl) rfl) rfl ?_;exact k.h):P:=h ⟨k⟩
theorem sP{P Q:Prop}(k:Q)(h:Hold Q→P:=by intro k;refine aIY ?_;refine z62 ?_;exact k.h):P:=h ⟨k⟩
theorem sQ{P Q:Prop}(k:Q)(h:Hold Q→P:=by intro k;refine lU ?_;refine PL ?_;exact k.h):P:=h ⟨k⟩
theorem tZ{P Q:Prop}(k:Q)(h:Hold Q→P:=by intro k;refine aEy ?_;refine bQ ?_;exact k.h):P:=h ⟨k⟩
theorem MJ{P Q:Prop}(k:Q)(h:Hold Q→P:=by intro k;refine IQ ?_;refine gD rfl (aI (E rfl)) rfl ?_;exact k.h):P:=h ⟨k⟩
theorem rD{P Q:Prop}(k:Q)(h:Hold Q→P:=by intro k;refine IQ ?_;refine z82 ?_;exact k.h):P:=h ⟨k⟩
theorem CQ{P Q:Prop}(k:Q)(h:Hold Q→P:=by intro k;apply aT;(exact bF);refine tU ?_;exact k.h):P:=h ⟨k⟩
theorem sR{P Q:Prop}(k:Q)(h:Hold Q→P:=by intro k;refine iD ?_;refine gK ?_;exact k.h):P:=h ⟨k⟩
theorem sS{P Q:Prop}(k:Q)(h:Hold Q→P:=by intro k;refine dW ?_;refine nF ?_;exact k.h):P:=h ⟨k⟩
theorem wA{P Q:Prop}(k:Q)(h:Hold Q→P:=by intro k;refine aGZ ?_;refine aBm ?_;exact k.h):P:=h ⟨k⟩
theorem aG1{P Q:Prop}(k:Q)(h:Hold Q→P:=by intro k;refine aEx ?_;refine RJ ?_;exact k.h):P:=h ⟨k⟩
theorem aG2{P Q:Prop}(k:Q)(h:Hold Q→P:=by intro k;refine aG1 ?_;refine tT ?_;exact k.h):P:=h ⟨k⟩
theorem uA{P Q:Prop}(k:Q)(h:Hold Q→P:=by intro k;refine aG2 ?_;refine tW ?_;exact k.h):P:=h ⟨k⟩
theorem sU{P Q:Prop}(k:Q)(h:Hold Q→P:=by intro k;refine bQ ?_;refine BG ?_;exact k.h):P:=h ⟨k⟩
def uB (n:Nat):List Nat:=if h:n<128 then [n]else(n%128+128)::uB (n / 128)
termination_by n
decreasing_by omega
theorem sV{n:Nat}(h:n<128):uB n=[n]:=by rw[uB,dif_pos h]
theorem xS{n:Nat}(h:¬n<128):uB n=(n%128+128)::uB (n / 128):=by rw[uB,dif_neg h]
theorem lA(n:Nat):∀x∈uB n,x<256:=by
 induction n using Nat.strongRecOn with
 | _ n ih=>
  by_cases h:n<128
  ·rw[sV h];simp;omega
  ·rw[xS h];intro x hx;rcases List.mem_cons.1 hx with rfl|hx
   ·omega
   ·exact ih (n / 128) (by omega) x hx
theorem iJ(n:Nat):1≤(uB n).length:=by
 by_cases h:n<128
 ·rw[sV h];simp
 ·rw[xS h];simp
theorem bN:∀(k n:Nat),n<128^(k+1)→(uB n).length≤k+1
 |0,n,h=>by rw[sV (by simpa using h)];simp
 |k+1,n,h=>by
  by_cases hn:n<128
  ·rw[sV hn];simp
  ·rw[xS hn,List.length_cons];have:=bN k (n / 128) (by rw[Nat.pow_succ]at h;exact Nat.div_lt_of_lt_mul (by omega));omega
def wM:List Nat→Nat
 |[]=>0
 |b::t=>b%128+128*wM t
theorem aBo(n:Nat):wM (uB n)=n:=by
 induction n using Nat.strongRecOn with
 | _ n ih=>
  by_cases h:n<128
  ·rw[sV h];simp[wM];omega
  ·rw[xS h,wM,ih (n / 128) (by omega)];omega
theorem RK:∀(l:List Nat),wM l<128^l.length
 |[]=>by simp[wM]
 |b::t=>by
  have:=RK t;rw[wM,List.length_cons,Nat.pow_succ];omega
def eW:List Nat→Nat→Nat×Int
 | _,0=>(0,1)
 |[],_ +1=>(0,2)
 |b::t,m+1=>if b<128 then(1,0)else(if(eW t m).2=0 then((eW t m).1+1,0)else eW t m)
theorem vD:∀(bs:List Nat) (m:Nat),(eW bs m).2=0→1≤(eW bs m).1∧(eW bs m).1≤m∧(eW bs m).1≤bs.length
 |bs,0,h=>by cases bs<;>simp[eW]at h
 |[],_ +1,h=>by simp[eW]at h
 |b::t,m+1,h=>by
  have ih:=vD t m;rw[eW]at h⊢;by_cases hb:b<128
  ·rw[if_pos hb];simp
  ·rw[if_neg hb]at h⊢;by_cases h2:(eW t m).2=0
   ·rw[if_pos h2];have:=ih h2;simp;omega
   ·rw[if_neg h2]at h;exact absurd h h2
theorem RL(rest:List Nat):∀(m n:Nat),(uB n).length≤m→eW (uB n++rest) m=((uB n).length,0)
 |0,n,h=>by have:=iJ n;omega
 |m+1,n,h=>by
  by_cases hn:n<128
  ·rw[sV hn];simp[eW,hn]
  ·rw[xS hn]at h⊢;rw[List.cons_append,eW,if_neg (by omega),RL rest m (n / 128) (by simpa using h)];simp
def lB (bs:List Nat):Nat×Nat×Int:=
 if(eW bs 5).2≠0 then(0,0,(eW bs 5).2)
 else if uB (wM (bs.take (eW bs 5).1))=bs.take (eW bs 5).1∧wM (bs.take (eW bs 5).1)<4294967296 then(wM (bs.take (eW bs 5).1),(eW bs 5).1,0)else(0,0,1)
theorem RM{n:Nat}(hn:n<4294967296)(rest:List Nat):lB (uB n++rest)=(n,(uB n).length,0):=by
 have hl:=bN 4 n (by omega);unfold lB;rw[RL rest 5 n hl];simp only[ne_eq,not_true_eq_false,if_false];rw[List.take_left,aBo,if_pos ⟨rfl,hn⟩]
theorem xT(bs:List Nat):(lB bs).1<4294967296∧(lB bs).2.1≤bs.length∧(lB bs).2.1≤5:=by
 unfold lB;split
 ·simp
 ·next h=>
  have:=vD bs 5 (by simpa using h);split
  ·next h2=>exact⟨h2.2,this.2.2,this.2.1⟩
  ·simp
def sB (n:Int):List Nat:=if h:-64≤n∧n≤63 then [(n%128).toNat]else((n%128).toNat+128)::sB (n / 128)
termination_by n.natAbs
decreasing_by omega
theorem wB{n:Int}(h:-64≤n∧n≤63):sB n=[(n%128).toNat]:=by rw[sB,dif_pos h]
theorem xU{n:Int}(h:¬(-64≤n∧n≤63)):sB n=((n%128).toNat+128)::sB (n / 128):=by rw[sB,dif_neg h]
theorem IW(n:Int):1≤(sB n).length:=by
 by_cases h:-64≤n∧n≤63
 ·rw[wB h];simp
 ·rw[xU h];simp
theorem aDr(m:Nat):∀(n:Int),n.natAbs≤m→∀x∈sB n,x<256:=by
 induction m with
 |zero=>intro n hn;rw[wB (by omega)];simp;omega
 |succ m ih=>
  intro n hn;by_cases h:-64≤n∧n≤63
  ·rw[wB h];simp;omega
  ·rw[xU h];intro x hx;rcases List.mem_cons.1 hx with rfl|hx
   ·omega
   ·exact ih (n / 128) (by omega) x hx
theorem wN:∀(k:Nat) (n:Int),-(64*128^k:Nat)≤n→n<(64*128^k:Nat)→(sB n).length≤k+1
 |0,n,h,h'=>by rw[wB (by simp at h h';omega)];simp
 |k+1,n,h,h'=>by
  by_cases hn:-64≤n∧n≤63
  ·rw[wB hn];simp
  ·rw[xU hn,List.length_cons];have e:(64*128^(k+1):Nat)=128*(64*128^k):=by rw[Nat.pow_succ];omega
   rw[e]at h h';have:=wN k (n / 128) (by omega) (by omega);omega
theorem RN(rest:List Nat):∀(m:Nat) (n:Int),(sB n).length≤m→eW (sB n++rest) m=((sB n).length,0)
 |0,n,h=>by have:=IW n;omega
 |m+1,n,h=>by
  by_cases hn:-64≤n∧n≤63
  ·rw[wB hn];rw[List.cons_append,eW,if_pos (by omega)];rfl
  ·rw[xU hn]at h⊢;rw[List.cons_append,eW,if_neg (by omega),RN rest m (n / 128) (by simpa using h)];simp
def lI:List Nat→Int
 |[]=>0
 |[b]=>if 64≤b%128 then((b%128:Nat):Int)-128 else((b%128:Nat):Int)
 |b::c::t=>IntKind.i64.wrap (lI (c::t)*128+((b%128:Nat):Int))
theorem GT(b:Nat){t:List Nat}(h:1≤t.length):lI (b::t)=IntKind.i64.wrap (lI t*128+((b%128:Nat):Int)):=by
 cases t with
 |nil=>simp at h
 |cons c t=>rfl
theorem aBp(m:Nat):∀(n:Int),n.natAbs≤m→ -9223372036854775808≤n→n≤9223372036854775807→lI (sB n)=n:=by
 induction m with
 |zero=>intro n hn _ _;rw[wB (by omega)];simp[lI];omega
 |succ m ih=>
  intro n hn h1 h2;by_cases h:-64≤n∧n≤63
  ·rw[wB h,lI];split<;>omega
  ·rw[xU h,GT _ (IW _),ih (n / 128) (by omega) (by omega) (by omega)];rw[IntKind.wrap_i64];omega
def mP (bits:Nat):Nat:=(bits+6) / 7
def vR (bits:Nat) (bs:List Nat):Int×Nat×Int:=
 if(eW bs (mP bits)).2≠0 then(0,0,(eW bs (mP bits)).2)
 else if sB (lI (bs.take (eW bs (mP bits)).1))=bs.take (eW bs (mP bits)).1∧(bits=32→ -2147483648≤lI (bs.take (eW bs (mP bits)).1)∧lI (bs.take (eW bs (mP bits)).1)≤2147483647)then(lI (bs.take (eW bs (mP bits)).1),(eW bs (mP bits)).1,0)else(0,0,1)
theorem aBq{bits:Nat}(hb:bits=32∨bits=64){n:Int}(h1:-9223372036854775808≤n)(h2:n≤9223372036854775807)(h3:bits=32→ -2147483648≤n∧n≤2147483647)(rest:List Nat):vR bits (sB n++rest)=(n,(sB n).length,0):=by
 have hl:(sB n).length≤mP bits:=by
  rcases hb with rfl|rfl
  ·have:=h3 rfl;exact wN 4 n (by omega) (by omega)
  ·exact wN 9 n (by omega) (by omega)
 unfold vR;rw[RN rest _ n hl];simp only[ne_eq,not_true_eq_false,if_false];rw[List.take_left,aBp n.natAbs n (Nat.le_refl _) h1 h2,if_pos ⟨rfl,h3⟩]
theorem RO(bits:Nat)(bs:List Nat):(vR bits bs).2.1≤bs.length:=by
 unfold vR;split
 ·simp
 ·next h=>
  have:=vD bs (mP bits) (by simpa using h);split
  ·exact this.2.2
  ·simp
end Go.Proofs.YtjpdadobblffmaaGreat
namespace Go.Proofs.YtjpdadobblffmaaGreat
open Go.RowKit Go.ChangeShapes Go.WideShapes Go.ChangeAt Go.Deep
attribute [local irreducible] SW RS RD gJ fA
theorem lQ{l:List Nat}{x:Nat}:l.map aH++ [[.int .u8 x]]=(l++ [x]).map aH:=by simp[aH]
theorem IX{x:Nat}(h:x<256):(BitVec.ofInt IntKind.u8.bits (x:Int)).toNat=x:=by
 rw[BitVec.toNat_ofInt];simp[IntKind.bits];omega
theorem MK{x:Nat}(h:x<256):IntKind.u8.wrap ↑(BitVec.ofInt IntKind.u8.bits (x:Int)|||BitVec.ofInt IntKind.u8.bits 128).toNat=((x%128+128:Nat):Int):=by
 have h1:∀x<256,x|||128=x%128+128:=by decide
 rw[BitVec.toNat_or,IX h,show(BitVec.ofInt IntKind.u8.bits 128).toNat=128 by decide,h1 x h,IntKind.wrap_u8];omega
theorem aI0{m:Nat}:(m:Int).fdiv (2^min (Int.toNat 7) IntKind.u64.bits)=((m / 128:Nat):Int):=by
 have:(2:Int)^min (Int.toNat 7) IntKind.u64.bits=128:=by decide
 rw[this,Int.fdiv_eq_ediv_of_nonneg _ (by omega)];omega
theorem XG(m:Nat):IntKind.u8.wrap (m:Int)=((m%256:Nat):Int):=by rw[IntKind.wrap_u8];omega
theorem aBr(m:Nat):IntKind.u8.wrap ↑(BitVec.ofInt IntKind.u8.bits (IntKind.u8.wrap (m:Int))|||BitVec.ofInt IntKind.u8.bits 128).toNat=((m%128+128:Nat):Int):=by
 rw[XG m,MK (by omega)];omega
theorem ML{n:Nat}(h:n<18446744073709551616):(uB n).length≤10:=bN 9 n (by omega)
theorem mE(q:Nat)(vs:List Nat)(hb:vs.length≤100000000)(n:Nat)(hn:n<18446744073709551616):SCall Tryz.prog 239 [.own q 0 vs.length,.int .u64 n] [(q,.arr 5 1 (vs.map aH))]
  (fun x σ=>∃r,x=.own r 0 (vs++uB n).length∧σ=[(r,.arr 5 1 ((vs++uB n).map aH))]):=by
 have hL:=ML hn;refine cC 20 [0,1,4,6] Tryz.func239 ?_;refine bQ ?_;refine scj (β:=Nat×List Nat×Nat) 0 rfl (fun b=>⟨[(0,.own b.1 0 b.2.1.length),(1,.int .u64 b.2.2)],[(b.1,.arr 5 1 (b.2.1.map aH))]⟩) (fun b=>b.2.1++uB b.2.2=vs++uB n∧b.2.2<18446744073709551616) (fun b=>b.2.2) ?_ (fun P=> ?_)
 ·rintro⟨r,us,m⟩ ⟨he,hm⟩;simp only at he hm⊢;have hcl:us.length+(uB m).length=vs.length+(uB n).length:=by rw[←List.length_append,he,List.length_append]
  have hup:=iJ m;refine dX ?_;refine xM ?_;refine aB rfl (fun h=> ?_) (fun h=> ?_)
  ·have h1:m<128:=by simp at h;omega
   rw[sV h1]at he;refine cL ?_;refine z0 ?_;refine z1 ?_;refine aD fun r10 h10=> ?_;repeat rcases h10 with⟨_,h10⟩
   apply ap (es':=(vs++uB n).map aH) (len':=(vs++uB n).length);rfl;rfl;(exact bH)
   ·simp
   ·exact .inr (.inr ⟨_,_,_,_,_,rfl,bH,by simp,rfl⟩)
   ·rw[←he,←lQ];rfl
   ·rw[←he];simp
   ·simp[maxLen];omega
   ·simp;omega
   ·rfl
   refine bM fun r11 h11=> ?_;repeat rcases h11 with⟨_,h11⟩
   refine dG ?_;refine vP ?_;apply aF;exact aG
   ·exact⟨r11,rfl,rfl⟩
   ·exact aA
  ·have h1:¬m<128:=by simp at h;omega
   have hcl2:us.length+(uB (m / 128)).length+1=vs.length+(uB n).length:=by rw[xS h1]at hcl;simp at hcl;omega
   rw[xS h1]at he;refine cL ?_;refine z0 ?_;refine lo (IF (E rfl) (E rfl)) rfl ?_;refine z1 ?_;refine aD fun r16 h16=> ?_;repeat rcases h16 with⟨_,h16⟩
   apply ap (es':=(us++ [m%128+128]).map aH) (len':=(us++ [m%128+128]).length);rfl;rfl;(exact bH)
   ·simp
   ·exact .inr (.inr ⟨_,_,_,_,_,rfl,bH,by simp,rfl⟩)
   ·rw[←lQ,aBr];rfl
   ·simp
   ·simp[maxLen];omega
   ·simp;omega
   ·rfl
   refine bM fun r17 h17=> ?_;repeat rcases h17 with⟨_,h17⟩
   refine iE ?_;refine z2 ?_;refine dG ?_;refine vP ?_;rw[aI0];refine⟨(r17,us++ [m%128+128],m / 128),⟨?_, ?_⟩, ?_, ?_⟩
   ·simpa using he
   ·show m / 128< _;omega
   ·show m / 128<m;omega
   ·exact aK
 ·refine P (q,vs,n) _ ⟨rfl,hn⟩ ?_;exact aK
theorem XH(n:Int):IntKind.u8.wrap n=((n%256).toNat:Int):=by rw[IntKind.wrap_u8];omega
theorem wO{x:Nat}(h:x<256):IntKind.u8.wrap ↑(BitVec.ofInt IntKind.u8.bits (x:Int)&&&~~~BitVec.ofInt IntKind.u8.bits 128).toNat=((x%128:Nat):Int):=by
 have h1:∀x<256,x&&&127=x%128:=by decide
 rw[BitVec.toNat_and,IX h,show(~~~BitVec.ofInt IntKind.u8.bits 128).toNat=127 by decide,h1 x h,IntKind.wrap_u8];omega
theorem XI{x:Nat}(h:x<128):IntKind.u8.wrap ↑(BitVec.ofInt IntKind.u8.bits (x:Int)&&&BitVec.ofInt IntKind.u8.bits 64).toNat=if x<64 then 0 else 64:=by
 have h1:∀x<128,x&&&64=if x<64 then 0 else 64:=by decide
 rw[BitVec.toNat_and,IX (by omega),show(BitVec.ofInt IntKind.u8.bits 64).toNat=64 by decide,h1 x h,IntKind.wrap_u8];split<;>rfl
def cS (n:Int):Nat:=(n%128).toNat
theorem RP(n:Int):cS n<128:=by unfold cS;omega
theorem TY(n:Int):IntKind.u8.wrap ↑(BitVec.ofInt IntKind.u8.bits (IntKind.u8.wrap n)&&&~~~BitVec.ofInt IntKind.u8.bits 128).toNat=(cS n:Int):=by
 rw[XH n,wO (by omega)];unfold cS;omega
theorem XJ(n:Int):IntKind.u8.wrap ↑(BitVec.ofInt IntKind.u8.bits (cS n:Int)|||BitVec.ofInt IntKind.u8.bits 128).toNat=((cS n+128:Nat):Int):=by
 have:=RP n;rw[MK (by omega)];omega
theorem aDs{m:Int}:m.fdiv (2^min (Int.toNat 7) IntKind.i64.bits)=m / 128:=by
 have:(2:Int)^min (Int.toNat 7) IntKind.i64.bits=128:=by decide
 rw[this,Int.fdiv_eq_ediv_of_nonneg _ (by omega)]
theorem MM(q:Nat)(vs:List Nat)(hb:vs.length≤100000000)(n:Int)(hn:-9223372036854775808≤n∧n≤9223372036854775807):SCall Tryz.prog 296 [.own q 0 vs.length,.int .i64 n] [(q,.arr 5 1 (vs.map aH))]
  (fun x σ=>∃r,x=.own r 0 (vs++sB n).length∧σ=[(r,.arr 5 1 ((vs++sB n).map aH))]):=by
 have hL:(sB n).length≤10:=wN 9 n (by omega) (by omega);refine cC 36 [0,1,4,5,26] Tryz.func296 ?_;refine bQ ?_;refine scj (β:=Nat×List Nat×Int) 0 rfl (fun b=>⟨[(0,.own b.1 0 b.2.1.length),(1,.int .i64 b.2.2)],[(b.1,.arr 5 1 (b.2.1.map aH))]⟩) (fun b=>b.2.1++sB b.2.2=vs++sB n∧ -9223372036854775808≤b.2.2∧b.2.2≤9223372036854775807) (fun b=>b.2.2.natAbs) ?_ (fun P=> ?_)
 ·rintro⟨r,us,m⟩ ⟨he,hm,hm2⟩;simp only at he hm hm2⊢;have hcl:us.length+(sB m).length=vs.length+(sB n).length:=by rw[←List.length_append,he,List.length_append]
  have hup:=IW m;have hc7:=RP m;refine dX ?_;refine z0 ?_;refine z3 ?_;refine dG ?_;rw[TY];refine gK ?_;refine z2 ?_;refine dG ?_;rw[aDs];refine gK ?_;refine lo (dD (E rfl) (E rfl)) rfl ?_;refine vX ?_;refine z5 ?_;refine z6 ?_;refine z7 ?_;refine vX ?_;refine z6 ?_;refine z8 ?_;refine z9 ?_;refine z10 ?_;refine z11 ?_;refine z12 ?_;refine z13 ?_;refine jP ?_;rw[XI hc7];have hb64:(-64≤m∧m≤63)↔(m / 128=0∧cS m<64∨m / 128=-1∧¬cS m<64):=by unfold cS;omega
  refine aB rfl (fun h=> ?_) (fun h=> ?_)
  ·have h1:-64≤m∧m≤63:=by
    rw[hb64];by_cases h6:cS m<64<;>simp[h6]at h⊢<;>omega
   rw[wB h1]at he;refine cL ?_;refine z1 ?_;refine aD fun r29 h29=> ?_;repeat rcases h29 with⟨_,h29⟩
   apply ap (es':=(vs++sB n).map aH) (len':=(vs++sB n).length);rfl;rfl;(exact bH)
   ·simp
   ·exact .inr (.inr ⟨_,_,_,_,_,rfl,bH,by simp,rfl⟩)
   ·rw[←he,←lQ];rfl
   ·rw[←he];simp
   ·simp[maxLen];omega
   ·simp;omega
   ·rfl
   refine bM fun r30 h30=> ?_;repeat rcases h30 with⟨_,h30⟩
   refine dG ?_;refine vP ?_;apply aF;exact aG
   ·exact⟨r30,rfl,rfl⟩
   ·exact aA
  ·have h1:¬(-64≤m∧m≤63):=by
    rw[hb64];by_cases h6:cS m<64<;>simp[h6]at h⊢<;>omega
   have hcl2:us.length+(sB (m / 128)).length+1=vs.length+(sB n).length:=by rw[xU h1]at hcl;simp at hcl;omega
   rw[xU h1]at he;refine cL ?_;refine lo (IF (E rfl) (E rfl)) rfl ?_;refine z1 ?_;refine aD fun r34 h34=> ?_;repeat rcases h34 with⟨_,h34⟩
   apply ap (es':=(us++ [cS m+128]).map aH) (len':=(us++ [cS m+128]).length);rfl;rfl;(exact bH)
   ·simp
   ·exact .inr (.inr ⟨_,_,_,_,_,rfl,bH,by simp,rfl⟩)
   ·rw[←lQ,XJ];rfl
   ·simp
   ·simp[maxLen];omega
   ·simp;omega
   ·rfl
   refine bM fun r35 h35=> ?_;repeat rcases h35 with⟨_,h35⟩
   refine dG ?_;refine vP ?_;refine⟨(r35,us++ [cS m+128],m / 128),⟨?_, ?_⟩, ?_, ?_⟩
   ·simpa[cS]using he
   ·show _ ≤m / 128∧m / 128≤ _;omega
   ·show(m / 128).natAbs<m.natAbs;omega
   ·exact aK
 ·refine P (q,vs,n) _ ⟨rfl,hn⟩ ?_;exact aK
def FE (n:Nat) (r:Nat×Int):Nat×Int:=if r.2=0 then(r.1+n,0)else r
theorem TZ(r:Nat×Int):FE 0 r=r:=by obtain⟨x,y⟩:=r;unfold FE;split<;>simp_all
theorem XK(n k:Nat)(r:Nat×Int):FE n (FE k r)=FE (n+k) r:=by
 unfold FE;by_cases h:r.2=0<;>simp[h];omega
theorem UA{l:List Nat}{m n:Nat}(h1:n<m)(h2:n<l.length):eW (l.drop n) (m-n)=if l[n]! <128 then(1,0)else FE 1 (eW (l.drop (n+1)) (m-(n+1))):=by
 rw[List.drop_eq_getElem_cons h2,show m-n=(m-(n+1))+1 by omega,eW,getElem!_pos l n h2];rfl
theorem UB{l:List Nat}:eW l 0=(0,1):=by cases l<;>rfl
theorem XL{m:Nat}(h:0<m):eW [] m=(0,2):=by
 cases m with
 |zero=>omega
 |succ m=>rfl
theorem rU(l:List Nat)(hl:l.length≤1000000)(bits:Int)(m:Nat)(hm:bits=32∧m=5∨bits=64∧m=10):SCall Tryz.prog 257 [.ro 1 (l.map aH) .any,.int .i64 bits] []
  (fun x σ=>x=.tup [.int .i64 ((eW l m).1:Nat),.int .i64 (eW l m).2]∧σ=[]):=by
 have hq:IntKind.i64.wrap ((bits+7-1).tdiv 7)=m:=by rcases hm with⟨rfl,rfl⟩|⟨rfl,rfl⟩<;>decide
 refine cC 37 [0,1,4,5,6,7,13,18,22,27] Tryz.func257 ?_;refine dW ?_;refine kJ ?_;refine scj (β:=Nat) 0 rfl (fun b=>⟨[(0,.ro 1 (l.map aH) .any),(6,.int .i64 b),(7,.int .i64 m)],[]⟩) (fun b=>b≤m∧b≤l.length∧eW l m=FE b (eW (l.drop b) (m-b))) (fun b=>m-b) ?_ (fun P=> ?_)
 ·rintro n ⟨hn1,hn2,he⟩;try dsimp only at hn1 hn2 he⊢
  refine cL ?_;refine MG ?_;refine aB rfl (fun h=> ?_) (fun h=> ?_)
  ·obtain rfl:n=m:=by simp at h;omega
   rw[Nat.sub_self,UB]at he;refine dW ?_;refine kJ ?_;refine vP ?_;apply aF;exact aG
   ·rw[he];exact⟨rfl,rfl⟩
   ·exact aA
  have h1:n<m:=by simp at h;omega
  refine cL ?_;refine lU ?_;refine MG ?_;refine aB rfl (fun h=> ?_) (fun h=> ?_)
  ·obtain rfl:n=l.length:=by simp at h;omega
   rw[List.drop_length,XL (by omega)]at he;refine dW ?_;refine kJ ?_;refine vP ?_;apply aF;exact aG
   ·rw[he];exact⟨rfl,rfl⟩
   ·exact aA
  have h2:n<l.length:=by simp at h;omega
  rw[UA h1 h2]at he;refine cL ?_;refine qY ?_;refine AT ?_;refine aB rfl (fun h=> ?_) (fun h=> ?_)
  ·have h3:¬l[n]! <128:=by rw[Int.toNat_natCast]at h;first|(have:=of_decide_eq_true h;omega)|(have:=of_decide_eq_false h;omega)
   rw[if_neg h3,XK]at he;refine oX ?_;refine vP ?_;refine⟨n+1,⟨by omega,by omega,he⟩,by omega, ?_⟩;exact aK
  ·have h3:l[n]! <128:=by rw[Int.toNat_natCast]at h;first|(have:=of_decide_eq_true h;omega)|(have:=of_decide_eq_false h;omega)
   rw[if_pos h3]at he;refine dX ?_;refine RH ?_;refine kJ ?_;refine vP ?_;apply aF;exact aG
   ·rw[he,show FE n (1,0)=(n+1,0) by simp[FE,Nat.add_comm]];exact⟨rfl,rfl⟩
   ·exact aA
 ·refine dX ?_;refine lo (gT (E rfl) (E rfl)) rfl ?_;refine vX ?_;refine z18 ?_;refine z13 ?_;refine jP ?_;refine aB rfl (fun h=> ?_) (fun h=> ?_)
  ·exfalso;simp at h;omega
  refine dX ?_;refine RH ?_;refine rP ?_;refine z20 ?_;refine aBn ?_;rw[hq];refine P 0 _ ⟨by omega,by omega,by simp[TZ]⟩ ?_;exact aK
theorem MN(a c:List Nat)(ha:∀x∈a,x<256)(hc:∀x∈c,x<256):SCall Tryz.prog 258 [.ro 1 (a.map aH) .any,.ro 1 (c.map aH) .any] []
  (fun x σ=>x=.bool (decide (c=a))∧σ=[]):=by
 refine cC 10 [0,1,4] Tryz.func258 ?_;refine fV ?_;refine lo (rR (e:=5) (bs:=a) (E rfl)) rfl ?_;refine lo (aI (E rfl)) rfl ?_;refine lo (rR (e:=5) (bs:=c) (E rfl)) rfl ?_;refine lo (xE (E rfl) (E rfl)) rfl ?_;refine dG ?_;apply aF;exact aG
 ·refine⟨?_,rfl⟩;rw[oU ha hc];show AV.bool _=_
  congr 1
  rw[decide_eq_decide];exact eq_comm
 ·exact aA
theorem aBs{n:Nat}(hn:n<18446744073709551616):IntKind.u64.wrap (n:Int)=n:=by rw[IntKind.wrap_u64];omega
theorem UC(m:Nat):IntKind.u8.wrap (IntKind.u8.wrap ((m:Int).tmod 128)+128)=((m%128+128:Nat):Int):=by
 rw[Int.tmod_eq_emod_of_nonneg (by omega),IntKind.wrap_u8,IntKind.wrap_u8];omega
theorem UD{m:Nat}(hm:m<18446744073709551616):IntKind.u64.wrap ((m:Int).tdiv 128)=((m / 128:Nat):Int):=by
 rw[Int.tdiv_eq_ediv_of_nonneg (by omega),IntKind.wrap_u64];omega
theorem XM(m:Int):IntKind.i64.wrap ↑(BitVec.ofInt IntKind.i64.bits m&&&BitVec.ofInt IntKind.i64.bits 127).toNat=(cS m:Int):=by
 have h1:(BitVec.ofInt IntKind.i64.bits m).toNat=(m%18446744073709551616).toNat:=by
  rw[BitVec.toNat_ofInt];simp[IntKind.bits]
 rw[BitVec.toNat_and,h1,show(BitVec.ofInt IntKind.i64.bits 127).toNat=2^7-1 by decide,Nat.and_two_pow_sub_one_eq_mod,IntKind.wrap_i64];unfold cS;omega
theorem aDt(m:Int):IntKind.u8.wrap (cS m:Int)=cS m:=by
 have:=RP m;rw[IntKind.wrap_u8];omega
theorem XN(m:Int):IntKind.u8.wrap ((cS m:Int)+128)=((cS m+128:Nat):Int):=by
 have:=RP m;rw[IntKind.wrap_u8];omega
theorem AG(n:Nat)(hn:n<18446744073709551616):SCall Tryz.prog 252 [.int .u64 n] []
  (fun x σ=>∃r,x=.own r 0 (uB n).length∧σ=[(r,.arr 5 1 ((uB n).map aH))]):=by
 have hL:=ML hn;refine cC 20 [0,2,3,5] Tryz.func252 ?_;refine sU ?_;refine vQ ?_;refine bU 3 5 1 (by decide) (k:=.nil) rfl (by decide) (fun q hq=> ?_);refine aP ?_;refine lp (β:=Nat×List Nat×Nat) (fun b=>⟨[(3,.own b.1 0 b.2.1.length),(0,.int .u64 b.2.2)],[(b.1,.arr 5 1 (b.2.1.map aH))]⟩) (fun b=>b.2.1++uB b.2.2=uB n∧b.2.2<18446744073709551616) (fun b=>b.2.2) (q,[],n) (by(exact aK)) ⟨rfl,hn⟩ ?_;rintro⟨r,us,m⟩ ⟨he,hm⟩;simp only at he hm⊢;have hcl:us.length+(uB m).length=(uB n).length:=by rw[←List.length_append,he]
 have hup:=iJ m;refine dX ?_;refine IV ?_;refine aB rfl (fun h=> ?_) (fun h=> ?_)
 ·have h1:¬m<128:=by simp at h;omega
  have hcl2:us.length+(uB (m / 128)).length+1=(uB n).length:=by rw[xS h1]at hcl;simp at hcl;omega
  rw[xS h1]at he;refine cL ?_;refine z22 ?_;refine z0 ?_;refine lo (lX (E rfl) (E rfl)) rfl ?_;refine z1 ?_;refine aD fun r11 h11=> ?_;repeat rcases h11 with⟨_,h11⟩
  apply ap (es':=(us++ [m%128+128]).map aH) (len':=(us++ [m%128+128]).length);rfl;rfl;(exact bH)
  ·simp
  ·exact .inr (.inr ⟨_,_,_,_,_,rfl,bH,by simp,rfl⟩)
  ·rw[←lQ,UC];rfl
  ·simp
  ·simp[maxLen];omega
  ·simp;omega
  ·rfl
  refine bM fun r12 h12=> ?_;repeat rcases h12 with⟨_,h12⟩
  refine iE ?_;refine z20 ?_;refine dG ?_;refine⟨(r12,us++ [m%128+128],m / 128),⟨?_, ?_⟩, ?_, ?_⟩
  ·simpa using he
  ·show m / 128< _;omega
  ·show m / 128<m;omega
  ·rw[UD hm];(exact aK)
 ·have h1:m<128:=by simp at h;omega
  rw[sV h1]at he;refine cL ?_;refine z0 ?_;refine z1 ?_;refine aD fun r18 h18=> ?_;repeat rcases h18 with⟨_,h18⟩
  apply ap (es':=(uB n).map aH) (len':=(uB n).length);rfl;rfl;(exact bH)
  ·simp
  ·exact .inr (.inr ⟨_,_,_,_,_,rfl,bH,by simp,rfl⟩)
  ·rw[←he,←lQ];rfl
  ·rw[←he];simp
  ·simp[maxLen];omega
  ·simp;omega
  ·rfl
  refine bM fun r19 h19=> ?_;repeat rcases h19 with⟨_,h19⟩
  refine dG ?_;apply aF;exact aG
  ·exact⟨r19,rfl,rfl⟩
  ·exact aA
theorem aG3(n:Int)(hn:-9223372036854775808≤n∧n≤9223372036854775807):SCall Tryz.prog 297 [.int .i64 n] []
  (fun x σ=>∃r,x=.own r 0 (sB n).length∧σ=[(r,.arr 5 1 ((sB n).map aH))]):=by
 have hL:(sB n).length≤10:=wN 9 n (by omega) (by omega);refine cC 25 [0,2,3,9] Tryz.func297 ?_;refine sU ?_;refine vQ ?_;refine bU 3 5 1 (by decide) (k:=.nil) rfl (by decide) (fun q hq=> ?_);refine aP ?_;refine lp (β:=Nat×List Nat×Int) (fun b=>⟨[(3,.own b.1 0 b.2.1.length),(0,.int .i64 b.2.2)],[(b.1,.arr 5 1 (b.2.1.map aH))]⟩) (fun b=>b.2.1++sB b.2.2=sB n∧ -9223372036854775808≤b.2.2∧b.2.2≤9223372036854775807) (fun b=>b.2.2.natAbs) (q,[],n) (by(exact aK)) ⟨rfl,hn⟩ ?_;rintro⟨r,us,m⟩ ⟨he,hm,hm2⟩;simp only at he hm hm2⊢;have hcl:us.length+(sB m).length=(sB n).length:=by rw[←List.length_append,he]
 have hup:=IW m;refine dX ?_;refine lo (gT (E rfl) (E rfl)) rfl ?_;refine vX ?_;refine z18 ?_;refine z13 ?_;refine jP ?_;refine aB rfl (fun h=> ?_) (fun h=> ?_)
 ·have h1:¬(-64≤m∧m≤63):=by simp at h;omega
  have hcl2:us.length+(sB (m / 128)).length+1=(sB n).length:=by rw[xU h1]at hcl;simp at hcl;omega
  rw[xU h1]at he;refine cL ?_;refine lo (jJ (E rfl) (E rfl)) rfl ?_;refine z0 ?_;refine lo (lX (E rfl) (E rfl)) rfl ?_;refine z1 ?_;refine aD fun r15 h15=> ?_;repeat rcases h15 with⟨_,h15⟩
  apply ap (es':=(us++ [cS m+128]).map aH) (len':=(us++ [cS m+128]).length);rfl;rfl;(exact bH)
  ·simp
  ·exact .inr (.inr ⟨_,_,_,_,_,rfl,bH,by simp,rfl⟩)
  ·rw[←lQ,XM,aDt,XN];rfl
  ·simp
  ·simp[maxLen];omega
  ·simp;omega
  ·rfl
  refine bM fun r16 h16=> ?_;repeat rcases h16 with⟨_,h16⟩
  refine iE ?_;refine z2 ?_;refine dG ?_;refine⟨(r16,us++ [cS m+128],m / 128),⟨?_, ?_⟩, ?_, ?_⟩
  ·simpa[cS]using he
  ·show _ ≤m / 128∧m / 128≤ _;omega
  ·show(m / 128).natAbs<m.natAbs;omega
  ·rw[aDs];(exact aK)
 ·have h1:-64≤m∧m≤63:=by simp at h;omega
  rw[wB h1]at he;refine cL ?_;refine lo (jJ (E rfl) (E rfl)) rfl ?_;refine z0 ?_;refine z1 ?_;refine aD fun r23 h23=> ?_;repeat rcases h23 with⟨_,h23⟩
  apply ap (es':=(sB n).map aH) (len':=(sB n).length);rfl;rfl;(exact bH)
  ·simp
  ·exact .inr (.inr ⟨_,_,_,_,_,rfl,bH,by simp,rfl⟩)
  ·rw[←he,←lQ,XM,aDt];rfl
  ·rw[←he];simp
  ·simp[maxLen];omega
  ·simp;omega
  ·rfl
  refine bM fun r24 h24=> ?_;repeat rcases h24 with⟨_,h24⟩
  refine dG ?_;apply aF;exact aG
  ·exact⟨r24,rfl,rfl⟩
  ·exact aA
theorem XO(n:Nat)(hn:n<18446744073709551616):SCall Tryz.prog 239 [.ro 0 [] .nil,.int .u64 n] []
  (fun x σ=>∃r,x=.own r 0 (uB n).length∧σ=[(r,.arr 5 1 ((uB n).map aH))]):=
 iL (e:=5) (sz:=1) (by decide) fun q _=>mE q [] (by simp) n hn
theorem XP(n:Int)(hn:-9223372036854775808≤n∧n≤9223372036854775807):SCall Tryz.prog 296 [.ro 0 [] .nil,.int .i64 n] []
  (fun x σ=>∃r,x=.own r 0 (sB n).length∧σ=[(r,.arr 5 1 ((sB n).map aH))]):=
 iL (e:=5) (sz:=1) (by decide) fun q _=>MM q [] (by simp) n hn
theorem xV{l:List Nat}(h:∀x∈l,x<256)(i:Nat):l[i]! <256:=by
 by_cases hi:i<l.length
 ·rw[getElem!_pos l i hi];exact h _ (List.getElem_mem hi)
 ·simp[hi]
theorem GU{l:List Nat}{k c:Nat}(h:c<k)(hk:k≤l.length):(l.take k).drop c=l[c]! ::(l.take k).drop (c+1):=by
 have h1:c<(l.take k).length:=by simp;omega
 rw[List.drop_eq_getElem_cons h1,List.getElem_take,getElem!_pos l c (by omega)]
theorem GV{n:Nat}(hn:n<18446744073709551616):(BitVec.ofInt IntKind.u64.bits (n:Int)).toNat=n:=by
 rw[BitVec.toNat_ofInt];simp[IntKind.bits];omega
theorem aG4{x y:Nat}(hx:x<34359738368)(hy:y<256):IntKind.u64.wrap ↑(BitVec.ofInt IntKind.u64.bits (IntKind.u64.wrap ((x:Int)*2^min (Int.toNat 7) IntKind.u64.bits))|||BitVec.ofInt IntKind.u64.bits (((y%128:Nat):Int))).toNat=((y%128+128*x:Nat):Int):=by
 have h0:(2:Int)^min (Int.toNat 7) IntKind.u64.bits=128:=by decide
 have h1:IntKind.u64.wrap ((x:Int)*128)=((x*128:Nat):Int):=by rw[IntKind.wrap_u64];omega
 rw[h0,h1,BitVec.toNat_or,GV (by omega),GV (by omega),show x*128=2^7*x by omega,←Nat.two_pow_add_eq_or_of_lt (by omega),IntKind.wrap_u64];omega
theorem aG5{x:Nat}:(x:Int).fdiv (2^min (Int.toNat 32) IntKind.u64.bits)=((x / 4294967296:Nat):Int):=by
 have:(2:Int)^min (Int.toNat 32) IntKind.u64.bits=4294967296:=by decide
 rw[this,Int.fdiv_eq_ediv_of_nonneg _ (by omega)];omega
theorem MO{l:List Nat}{k c:Nat}(hk:k≤5):wM ((l.take k).drop c)<34359738368:=by
 have h1:=RK ((l.take k).drop c);have h2:((l.take k).drop c).length≤5:=by simp;omega
 exact Nat.lt_of_lt_of_le h1 (Nat.le_trans (Nat.pow_le_pow_right (by decide) h2) (by decide))
theorem aDu(l:List Nat)(hl:l.length≤1000000)(hlt:∀x∈l,x<256):SCall Tryz.prog 166 [.ro 1 (l.map aH) .any,.int .i64 32] []
  (fun x σ=>x=.tup [.int .u64 ((lB l).1:Nat),.int .i64 ((lB l).2.1:Nat),.int .i64 (lB l).2.2]∧σ=[]):=by
 refine cC 53 [0,1,4,5,6,7,8,9,10,18,22,50] Tryz.func166 ?_;refine dW ?_;refine nG ?_;refine scj (β:=Nat) 0 rfl (fun b=>⟨[(0,.ro 1 (l.map aH) .any),(1,.int .i64 32),(7,.int .i64 ((eW l 5).1:Nat)),(9,.int .u64 (wM ((l.take (eW l 5).1).drop b):Nat)),(10,.int .i64 b)],[]⟩) (fun b=>b≤(eW l 5).1∧(eW l 5).2=0) (fun b=>b) ?_ (fun P=> ?_)
 ·rintro n ⟨hn1,hk0⟩;try dsimp only at hn1 hk0⊢
  obtain⟨hk1,hk2,hk3⟩:=vD l 5 hk0;generalize hk:(eW l 5).1=k at*;refine dX ?_;refine PL ?_;refine aB rfl (fun h=> ?_) (fun h=> ?_)
  ·obtain⟨c,rfl⟩:∃c,n=c+1:=⟨n-1,by simp at h;omega⟩
   refine dX ?_;refine rP ?_;refine dG ?_;rw[show((c+1:Nat):Int)-1=(c:Nat) by omega];refine gK ?_;refine z23 ?_;refine lo (aI (E rfl)) rfl ?_;refine nJ ?_;refine z3 ?_;refine PE ?_;refine lo (IF (E rfl) (E rfl)) rfl ?_;refine dG ?_;rw[Int.toNat_natCast,wO (xV hlt c),aBs (n:=l[c]! %128) (by omega),aG4 (MO hk2) (xV hlt c)];refine vP ?_;refine⟨c,⟨by omega,hk0⟩,by omega, ?_⟩;rw[GU (c:=c) (by omega) hk3,wM];exact aK
  ·obtain rfl:n=0:=by simp at h;omega
   rw[List.drop_zero];have hv:wM (l.take k)<34359738368:=MO (c:=0) hk2;generalize hx:wM (l.take k)=x at hv⊢;refine aP ?_;refine gI [(0,true),(1,true),(2,true),(3,true),(4,false),(5,false),(6,true),(7,true),(8,true),(9,true),(10,true),(11,true),(12,true),(13,true),(14,true),(15,true),(16,true)] ?_;refine xN ?_;refine WA ?_;refine gD rfl (aI (E rfl)) rfl ?_;refine qT [] rfl Tryz.call239 (XO x (by omega)) rfl ?_ ?_ ?_ ?_
   ·exact aC
   ·exact aA
   ·exact gE
   rintro _ σ' ⟨r,rfl,rfl⟩ hr
   replace hr:=iC hr;repeat rcases hr with⟨_,hr⟩
   apply bZ;(exact bF);refine dpu [r] rfl Tryz.call258 (MN (l.take k) (uB x) (fun y hy=>hlt y (List.mem_of_mem_take hy)) (lA x)) rfl ?_ bK ?_
   ·exact bG
   refine gD rfl (eI (E rfl)) rfl ?_;refine gD rfl (aI (E rfl)) rfl ?_;refine z26 ?_;refine z27 ?_;refine z28 ?_;refine z29 ?_;refine z29 ?_;refine z30 ?_;refine z31 ?_;refine z32 ?_;refine z33 ?_;refine kK ?_;have hc:(if(!decide (uB x=l.take k))=true then true else(x:Int).fdiv (2^min (Int.toNat 32) IntKind.u64.bits) !=0)= !decide (uB x=l.take k∧x<4294967296):=by
    rw[aG5];by_cases h1:uB x=l.take k
    ·by_cases h2:x<4294967296
     ·simp[h1,h2];omega
     ·simp[h1,h2];omega
    ·simp[h1]
   rw[hc];refine aB rfl (fun h=> ?_) (fun h=> ?_)
   ·have h1:¬(uB x=l.take k∧x<4294967296):=by
     rintro⟨h1,h2⟩;simp[h1]at h;omega
    refine dW ?_;refine nG ?_;refine vP ?_;apply aF;exact aG
    ·unfold lB;rw[if_neg (by rw[hk0];simp),hk,hx,if_neg h1];exact⟨rfl,rfl⟩
    ·exact aA
   ·have h1:uB x=l.take k∧x<4294967296:=by simpa using h
    refine cL ?_;refine nG ?_;refine vP ?_;apply aF;exact aG
    ·unfold lB;rw[if_neg (by rw[hk0];simp),hk,hx,if_pos h1];exact⟨rfl,rfl⟩
    ·exact aA
 ·refine cL ?_
  (first|refine pu [] Tryz.call257 (rU l hl 32 5 (.inl ⟨rfl,rfl⟩)) rfl cD bK ?_ |refine xJ [] rfl rfl Tryz.call257 (fun _=>(rU l hl 32 5 (.inl ⟨rfl,rfl⟩))) rfl cD bK ?_);refine FC ?_;refine mN ?_;refine lH ?_;refine aB rfl (fun h=> ?_) (fun h=> ?_)
  ·have h1:(eW l 5).2≠0:=by simpa using h
   refine dX ?_;refine nG ?_;refine vP ?_;apply aF;exact aG
   ·unfold lB;rw[if_pos h1];exact⟨rfl,rfl⟩
   ·exact aA
  ·have h1:(eW l 5).2=0:=by simpa using h
   refine dX ?_;refine aBn ?_;refine P (eW l 5).1 _ ⟨Nat.le_refl _,h1⟩ ?_;rw[show(l.take (eW l 5).1).drop (eW l 5).1=[] by rw[List.drop_eq_nil_iff];simp;omega];exact aK
theorem aBt:∀(l:List Nat),-9223372036854775808≤lI l∧lI l≤9223372036854775807
 |[]=>by simp[lI]
 |[b]=>by rw[lI];split<;>omega
 |b::c::t=>by rw[lI,IntKind.wrap_i64];omega
def sv (l:List Nat) (k c:Nat):Int:=if c<k then lI ((l.take k).drop c)else if 64≤l[k-1]! %128 then-1 else 0
theorem aBu{l:List Nat}{k:Nat}(hk:1≤k):sv l k 0=lI (l.take k):=by
 unfold sv;rw[if_pos (by omega),List.drop_zero]
theorem aBv{l:List Nat}{k c:Nat}(h:c<k)(hk:k≤l.length):sv l k c=IntKind.i64.wrap (sv l k (c+1)*128+((l[c]! %128:Nat):Int)):=by
 unfold sv;rw[if_pos h,GU h hk];by_cases h1:c+1<k
 ·rw[if_pos h1,GT _ (by simp;omega)]
 ·obtain rfl:k=c+1:=by omega
  rw[if_neg h1,show(l.take (c+1)).drop (c+1)=[] by rw[List.drop_eq_nil_iff];simp;omega,lI,Nat.add_sub_cancel];generalize l[c]! =y;split<;>rw[IntKind.wrap_i64]<;>omega
theorem GW(y:Int):(BitVec.ofInt IntKind.i64.bits y).toNat=(y%18446744073709551616).toNat:=by
 rw[BitVec.toNat_ofInt];simp[IntKind.bits]
theorem aEz{x:Int}{y:Nat}:IntKind.i64.wrap ↑(BitVec.ofInt IntKind.i64.bits (IntKind.i64.wrap (x*2^min (Int.toNat 7) IntKind.i64.bits))|||BitVec.ofInt IntKind.i64.bits (((y%128:Nat):Int))).toNat=IntKind.i64.wrap (x*128+((y%128:Nat):Int)):=by
 have h0:(2:Int)^min (Int.toNat 7) IntKind.i64.bits=128:=by decide
 obtain⟨z,hz⟩:∃z:Nat,(IntKind.i64.wrap (x*128)%18446744073709551616).toNat=2^7*z:=by
  refine⟨(IntKind.i64.wrap (x*128)%18446744073709551616).toNat / 128, ?_⟩;rw[IntKind.wrap_i64];omega
 have h2:(((y%128:Nat):Int)%18446744073709551616).toNat=y%128:=by omega
 rw[h0,BitVec.toNat_or,GW,GW,hz,h2,←Nat.two_pow_add_eq_or_of_lt (by omega)];rw[IntKind.wrap_i64]at hz;rw[IntKind.wrap_i64,IntKind.wrap_i64];omega
theorem UE{x:Nat}(h:x<256):IntKind.u8.wrap ↑(BitVec.ofInt IntKind.u8.bits (x:Int)&&&BitVec.ofInt IntKind.u8.bits 64).toNat=if x%128<64 then 0 else 64:=by
 have h1:∀x<256,x&&&64=if x%128<64 then 0 else 64:=by decide
 rw[BitVec.toNat_and,IX (by omega),show(BitVec.ofInt IntKind.u8.bits 64).toNat=64 by decide,h1 x h,IntKind.wrap_u8];split<;>rfl
theorem UF{n:Nat}(h:n<256):IntKind.i64.wrap (n:Int)=n:=by rw[IntKind.wrap_i64];omega
theorem MP{bits:Nat}(hb:bits=32∨bits=64):(bits:Int)=32∧mP bits=5∨(bits:Int)=64∧mP bits=10:=by
 rcases hb with rfl|rfl
 ·exact .inl ⟨rfl,rfl⟩
 ·exact .inr ⟨rfl,rfl⟩
theorem aI1{bits:Nat}(hb:bits=32∨bits=64){x:Int}(hv:-9223372036854775808≤x∧x≤9223372036854775807):(x.fdiv (2^min ((bits:Int)-1).toNat IntKind.i64.bits)=0∨x.fdiv (2^min ((bits:Int)-1).toNat IntKind.i64.bits)=-1)↔(bits=32→ -2147483648≤x∧x≤2147483647):=by
 rcases hb with rfl|rfl
 ·rw[show(2:Int)^min (((32:Nat):Int)-1).toNat IntKind.i64.bits=2147483648 by decide,Int.fdiv_eq_ediv_of_nonneg _ (by omega)];omega
 ·rw[show(2:Int)^min (((64:Nat):Int)-1).toNat IntKind.i64.bits=9223372036854775808 by decide,Int.fdiv_eq_ediv_of_nonneg _ (by omega)];omega
theorem aBw{bits:Nat}{l:List Nat}{k:Nat}(hk0:(eW l (mP bits)).2=0)(hk:(eW l (mP bits)).1=k)(h:¬(sB (lI (l.take k))=l.take k∧(bits=32→ -2147483648≤lI (l.take k)∧lI (l.take k)≤2147483647))):vR bits l=(0,0,1):=by
 unfold vR;rw[if_neg (by rw[hk0];simp),hk,if_neg h]
theorem XQ{bits:Nat}{l:List Nat}{k:Nat}(hk0:(eW l (mP bits)).2=0)(hk:(eW l (mP bits)).1=k)(h:sB (lI (l.take k))=l.take k∧(bits=32→ -2147483648≤lI (l.take k)∧lI (l.take k)≤2147483647)):vR bits l=(lI (l.take k),k,0):=by
 unfold vR;rw[if_neg (by rw[hk0];simp),hk,if_pos h]
theorem aG6(l:List Nat)(hl:l.length≤1000000)(hlt:∀x∈l,x<256)(bits:Nat)(hb:bits=32∨bits=64):SCall Tryz.prog 322 [.ro 1 (l.map aH) .any,.int .i64 bits] []
  (fun x σ=>x=.tup [.int .i64 (vR bits l).1,.int .i64 ((vR bits l).2.1:Nat),.int .i64 (vR bits l).2.2]∧σ=[]):=by
 refine cC 63 [0,1,4,5,6,7,8,9,10,11,19,28,30,60] Tryz.func322 ?_;refine dW ?_;refine nG ?_;obtain⟨m,hm⟩:∃m,m=mP bits:=⟨_,rfl⟩
 have hlen:eW l (mP bits)=eW l m:=by rw[hm]
 refine scj (β:=Nat) 0 rfl (fun b=>⟨[(0,.ro 1 (l.map aH) .any),(1,.int .i64 bits),(7,.int .i64 ((eW l m).1:Nat)),(9,.int .i64 (sv l (eW l m).1 b)),(10,.int .i64 b)],[]⟩) (fun b=>b≤(eW l m).1∧(eW l m).2=0) (fun b=>b) ?_ (fun P=> ?_)
 ·rintro n ⟨hn1,hk0⟩;try dsimp only at hn1 hk0⊢
  obtain⟨hk1,hk2,hk3⟩:=vD l m hk0;generalize hk:(eW l m).1=k at*;refine dX ?_;refine PL ?_;refine aB rfl (fun h=> ?_) (fun h=> ?_)
  ·obtain⟨c,rfl⟩:∃c,n=c+1:=⟨n-1,by simp at h;omega⟩
   refine dX ?_;refine rP ?_;refine dG ?_;rw[show((c+1:Nat):Int)-1=(c:Nat) by omega];refine gK ?_;refine z23 ?_;refine lo (aI (E rfl)) rfl ?_;refine nJ ?_;refine z3 ?_;refine z44 ?_;refine lo (IF (E rfl) (E rfl)) rfl ?_;refine dG ?_;rw[Int.toNat_natCast,wO (xV hlt c),UF (n:=l[c]! %128) (by omega),aEz,←aBv (by omega) hk3];refine vP ?_;refine⟨c,⟨by omega,hk0⟩,by omega, ?_⟩;exact aK
  ·obtain rfl:n=0:=by simp at h;omega
   rw[aBu hk1];have hv:=aBt (l.take k);generalize hx:lI (l.take k)=x at hv⊢;refine cL ?_;refine rP ?_;refine z2 ?_;refine dG ?_;refine gI [(0,true),(1,true),(2,true),(3,true),(4,false),(5,false),(6,true),(7,true),(8,true),(9,true),(10,true),(11,true),(12,true),(13,true),(14,true)] ?_;refine xN ?_;refine WA ?_;refine gD rfl (aI (E rfl)) rfl ?_;refine qT [] rfl Tryz.call296 (XP x hv) rfl ?_ ?_ ?_ ?_
   ·exact aC
   ·exact aA
   ·exact gE
   rintro _ σ' ⟨r,rfl,rfl⟩ hr
   replace hr:=iC hr;repeat rcases hr with⟨_,hr⟩
   apply bZ;(exact bF);refine dpu [r] rfl Tryz.call258 (MN (l.take k) (sB x) (fun y hy=>hlt y (List.mem_of_mem_take hy)) (aDr _ x (Nat.le_refl _))) rfl ?_ bK ?_
   ·exact bG
   refine gD rfl (eI (E rfl)) rfl ?_;refine gD rfl (aI (E rfl)) rfl ?_;refine z26 ?_;refine z45 ?_;refine z28 ?_;refine z29 ?_;refine z31 ?_;refine z32 ?_;refine z33 ?_;refine kK ?_;have ht:=aI1 hb hv;generalize x.fdiv (2^min ((bits:Int)-1).toNat IntKind.i64.bits)=y at ht⊢;refine aB rfl (fun h=> ?_) (fun h=> ?_)
   ·have h1:¬(sB x=l.take k∧(bits=32→ -2147483648≤x∧x≤2147483647)):=by
     rintro⟨h1,h2⟩;rcases ht.2 h2 with rfl|rfl<;>simp[h1]at h
    rw[←hx]at h1;refine dW ?_;refine nG ?_;refine vP ?_;apply aF;exact aG
    ·rw[aBw (by rw[hlen];exact hk0) (by rw[hlen];exact hk) h1];exact⟨rfl,rfl⟩
    ·exact aA
   ·have h1:sB x=l.take k∧(bits=32→ -2147483648≤x∧x≤2147483647):=by
     by_cases h2:sB x=l.take k
     ·refine⟨h2,ht.1 ?_⟩;by_cases h3:y=0
      ·exact .inl h3
      ·exact .inr (by simpa[h2,h3]using h)
     ·simp[h2]at h
    rw[←hx]at h1;refine cL ?_;refine nG ?_;refine vP ?_;apply aF;exact aG
    ·rw[XQ (by rw[hlen];exact hk0) (by rw[hlen];exact hk) h1,hx];exact⟨rfl,rfl⟩
    ·exact aA
 ·refine cL ?_
  (first|refine pu [] Tryz.call257 (rU l hl bits m (by rw[hm];exact MP hb)) rfl cD bK ?_ |refine xJ [] rfl rfl Tryz.call257 (fun _=>(rU l hl bits m (by rw[hm];exact MP hb))) rfl cD bK ?_);refine FC ?_;refine mN ?_;refine lH ?_;refine aB rfl (fun h=> ?_) (fun h=> ?_)
  ·have h1:(eW l m).2≠0:=by simpa using h
   refine dX ?_;refine nG ?_;refine vP ?_;apply aF;exact aG
   ·unfold vR;rw[hlen,if_pos h1];exact⟨rfl,rfl⟩
   ·exact aA
  ·have hk0:(eW l m).2=0:=by simpa using h
   obtain⟨hk1,hk2,hk3⟩:=vD l m hk0;have hsv:sv l (eW l m).1 (eW l m).1=if 64≤l[(eW l m).1-1]! %128 then-1 else 0:=by unfold sv;rw[if_neg (by omega)]
   obtain⟨j,hj⟩:∃j,(eW l m).1=j+1:=⟨(eW l m).1-1,by omega⟩
   rw[hj]at hsv P hk1 hk2 hk3⊢;rw[Nat.add_sub_cancel]at hsv;refine dX ?_;refine kJ ?_;refine mK ?_;refine rP ?_;rw[show((j+1:Nat):Int)-1=(j:Nat) by omega];refine qY ?_;refine lo (jJ (E rfl) (E rfl)) rfl ?_;refine lH ?_;rw[Int.toNat_natCast,UE (xV hlt j)];refine aB rfl (fun h=> ?_) (fun h=> ?_)
   ·have h2:64≤l[j]! %128:=by
     by_cases h3:l[j]! %128<64
     ·rw[if_pos h3]at h;simp at h
     ·omega
    rw[if_pos h2]at hsv;refine BG ?_;refine vQ ?_;refine P (j+1) _ ⟨Nat.le_refl _,hk0⟩ ?_;rw[hsv];exact aK
   ·have h2:¬64≤l[j]! %128:=by
     by_cases h3:l[j]! %128<64
     ·omega
     ·rw[if_neg h3]at h;simp at h
    rw[if_neg h2]at hsv;refine ck ?_;refine an ?_;refine P (j+1) _ ⟨Nat.le_refl _,hk0⟩ ?_;rw[hsv];exact aK
def aX (n:Int):List AV:=[.int .i64 n]
def oB (n a b:Int):Bool:=if decide (a≤n)=true then decide (n≤b)else false
theorem dJ(n a b:Int):SCall Tryz.prog 270 [.int .i64 n,.int .i64 a,.int .i64 b] [] (fun x σ=>x=.bool (oB n a b)∧σ=[]):=by
 refine cC 15 [0,1,2,6] Tryz.func270 ?_;refine mA ?_;refine CK ?_;refine z4 ?_;refine z4 ?_;refine z54 ?_;refine z7 ?_;refine dG ?_;apply aF;exact aG
 ·exact⟨rfl,rfl⟩
 ·exact aA
def GX (op:Int):Int×Int:=
 if(oB op 69 79||oB op 103 120)=true then(1,op)else if oB op 80 90=true then(2,IntKind.i64.wrap (IntKind.i64.wrap (op-80)+69))else if oB op 121 138=true then(2,IntKind.i64.wrap (IntKind.i64.wrap (op-121)+103))else(0,0)
theorem IY(op:Int):SCall Tryz.prog 269 [.int .i64 op] [] (fun x σ=>x=.tup [.int .i64 (GX op).1,.int .i64 (GX op).2]∧σ=[]):=by
 refine cC 22 [0,2,3,4,10,16] Tryz.func269 ?_;refine dW ?_;refine mN ?_
 (first|refine ln rfl rfl rfl rfl ?_ |refine lw rfl rfl (bI (v:=.bool false)) rfl ?_ |refine pu [] Tryz.call270 (dJ _ _ _) rfl cD bK ?_ |refine xJ [] rfl rfl Tryz.call270 (fun _=>(dJ _ _ _)) rfl cD bK ?_ |refine puw [] rfl rfl Tryz.call270 (fun _=>(dJ _ _ _)) rfl cD bK ?_);refine dG ?_;apply fF rfl;exact cU
 ·intro _;(refine aP ?_);refine gK ?_
  (first|refine ln rfl rfl rfl rfl ?_ |refine lw rfl rfl (bI (v:=.bool false)) rfl ?_ |refine pu [] Tryz.call270 (dJ _ _ _) rfl cD bK ?_ |refine xJ [] rfl rfl Tryz.call270 (fun _=>(dJ _ _ _)) rfl cD bK ?_ |refine puw [] rfl rfl Tryz.call270 (fun _=>(dJ _ _ _)) rfl cD bK ?_);refine dG ?_;exact aK
 refine aP ?_;refine aB rfl (fun g1=> ?_) (fun g1=> ?_)
 ·refine dX ?_;refine kJ ?_;apply aF;exact aG
  ·(unfold GX;simp only[g1,if_true,if_false,Bool.false_eq_true];exact⟨rfl,rfl⟩)
  ·exact aA
 refine dX ?_
 (first|refine ln rfl rfl rfl rfl ?_ |refine lw rfl rfl (bI (v:=.bool false)) rfl ?_ |refine pu [] Tryz.call270 (dJ _ _ _) rfl cD bK ?_ |refine xJ [] rfl rfl Tryz.call270 (fun _=>(dJ _ _ _)) rfl cD bK ?_ |refine puw [] rfl rfl Tryz.call270 (fun _=>(dJ _ _ _)) rfl cD bK ?_);refine dG ?_;refine aB rfl (fun g2=> ?_) (fun g2=> ?_)
 ·refine dX ?_;refine rP ?_;refine RH ?_;refine kJ ?_;apply aF;exact aG
  ·(unfold GX;simp only[g1,g2,if_true,if_false,Bool.false_eq_true];exact⟨rfl,rfl⟩)
  ·exact aA
 refine dX ?_
 (first|refine ln rfl rfl rfl rfl ?_ |refine lw rfl rfl (bI (v:=.bool false)) rfl ?_ |refine pu [] Tryz.call270 (dJ _ _ _) rfl cD bK ?_ |refine xJ [] rfl rfl Tryz.call270 (fun _=>(dJ _ _ _)) rfl cD bK ?_ |refine puw [] rfl rfl Tryz.call270 (fun _=>(dJ _ _ _)) rfl cD bK ?_);refine dG ?_;refine aB rfl (fun g3=> ?_) (fun g3=> ?_)
 ·refine dX ?_;refine rP ?_;refine RH ?_;refine kJ ?_;apply aF;exact aG
  ·(unfold GX;simp only[g1,g2,g3,if_true,if_false,Bool.false_eq_true];exact⟨rfl,rfl⟩)
  ·exact aA
 refine dW ?_;refine kJ ?_;apply aF;exact aG
 ·(unfold GX;simp only[g1,g2,g3,if_true,if_false,Bool.false_eq_true];exact⟨rfl,rfl⟩)
 ·exact aA
def kN (op:Int):List Int×Int×Bool:=
 if(op==167)=true then([2],1,true)else if(op==172||op==173)=true then([1],2,true)
 else if((GX op).1==0)=true then([],0,false)else if((GX op).2==69)=true then([(GX op).1],1,true)
 else if oB (GX op).2 70 79=true then([(GX op).1,(GX op).1],1,true)else if oB (GX op).2 103 105=true then([(GX op).1],(GX op).1,true)
 else([(GX op).1,(GX op).1],(GX op).1,true)
def uC (r:List Int×Int×Bool) (x:AV) (σ:dY):Prop:=
 if r.2.2=true then∃q,x=.tup [.own q 0 r.1.length,.int .i64 r.2.1,.bool true]∧σ=[(q,.arr 3 1 (r.1.map aX))]else x=.tup [.ro 0 [] .nil,.int .i64 0,.bool false]∧σ=[]
theorem lJ{l:List Int}{r:Int}{q:Nat}{x:AV}{σ:dY}(hx:x=.tup [.own q 0 l.length,.int .i64 r,.bool true])(hs:σ=[(q,.arr 3 1 (l.map aX))]):uC (l,r,true) x σ:=by
 unfold uC;rw[if_pos rfl];exact⟨q,hx,hs⟩
theorem mS{l:List Int}{r:Int}{x:AV}{σ:dY}(hx:x=.tup [.ro 0 [] .nil,.int .i64 0,.bool false])(hs:σ=[]):uC (l,r,false) x σ:=by
 unfold uC;rw[if_neg (by simp)];exact⟨hx,hs⟩
theorem wP(op:Int):SCall Tryz.prog 200 [.int .i64 op] [] (uC (kN op)):=by
 refine cC 44 [0,2,3,4,5,6,7,8,11,20,23,28,34] Tryz.func200 ?_;refine dW ?_;refine nG ?_;refine gK ?_;refine pB ?_;refine aB rfl (fun g1=> ?_) (fun g1=> ?_)
 ·refine dW ?_;refine z1 ?_;refine aD fun r10 h10=> ?_;repeat rcases h10 with⟨_,h10⟩
  refine nG ?_;apply aF;exact aG
  ·(unfold kN;simp only[g1,if_true,if_false,Bool.false_eq_true];first|exact lJ rfl rfl|exact mS rfl rfl)
  ·exact aA
 refine dE ?_;apply fF rfl;exact cU
 ·intro _;(refine aP ?_);refine eV ?_;exact aK
 refine aP ?_;refine aB rfl (fun g2=> ?_) (fun g2=> ?_)
 ·refine dW ?_;refine z1 ?_;refine aD fun r14 h14=> ?_;repeat rcases h14 with⟨_,h14⟩
  refine nG ?_;apply aF;exact aG
  ·(unfold kN;simp only[g1,g2,if_true,if_false,Bool.false_eq_true];first|exact lJ rfl rfl|exact mS rfl rfl)
  ·exact aA
 refine dX ?_
 (first|refine ln rfl rfl rfl rfl ?_ |refine lw rfl rfl (bI (v:=.bool false)) rfl ?_ |refine pu [] Tryz.call269 (IY _) rfl cD bK ?_ |refine xJ [] rfl rfl Tryz.call269 (fun _=>(IY _)) rfl cD bK ?_ |refine puw [] rfl rfl Tryz.call269 (fun _=>(IY _)) rfl cD bK ?_);refine FC ?_;refine mN ?_;refine MG ?_;refine aB rfl (fun g3=> ?_) (fun g3=> ?_)
 ·refine dW ?_;refine nG ?_;apply aF;exact aG
  ·(unfold kN;simp only[g1,g2,g3,if_true,if_false,Bool.false_eq_true];first|exact lJ rfl rfl|exact mS rfl rfl)
  ·exact aA
 refine dX ?_;refine MG ?_;refine aB rfl (fun g4=> ?_) (fun g4=> ?_)
 ·refine dX ?_;refine z1 ?_;refine aD fun r27 h27=> ?_;repeat rcases h27 with⟨_,h27⟩
  refine nG ?_;apply aF;exact aG
  ·(unfold kN;simp only[g1,g2,g3,g4,if_true,if_false,Bool.false_eq_true];first|exact lJ rfl rfl|exact mS rfl rfl)
  ·exact aA
 refine dX ?_
 (first|refine ln rfl rfl rfl rfl ?_ |refine lw rfl rfl (bI (v:=.bool false)) rfl ?_ |refine pu [] Tryz.call270 (dJ _ _ _) rfl cD bK ?_ |refine xJ [] rfl rfl Tryz.call270 (fun _=>(dJ _ _ _)) rfl cD bK ?_ |refine puw [] rfl rfl Tryz.call270 (fun _=>(dJ _ _ _)) rfl cD bK ?_);refine dG ?_;refine aB rfl (fun g5=> ?_) (fun g5=> ?_)
 ·refine cL ?_;refine z1 ?_;refine aD fun r33 h33=> ?_;repeat rcases h33 with⟨_,h33⟩
  refine nG ?_;apply aF;exact aG
  ·(unfold kN;simp only[g1,g2,g3,g4,g5,if_true,if_false,Bool.false_eq_true];first|exact lJ rfl rfl|exact mS rfl rfl)
  ·exact aA
 refine dX ?_
 (first|refine ln rfl rfl rfl rfl ?_ |refine lw rfl rfl (bI (v:=.bool false)) rfl ?_ |refine pu [] Tryz.call270 (dJ _ _ _) rfl cD bK ?_ |refine xJ [] rfl rfl Tryz.call270 (fun _=>(dJ _ _ _)) rfl cD bK ?_ |refine puw [] rfl rfl Tryz.call270 (fun _=>(dJ _ _ _)) rfl cD bK ?_);refine dG ?_;refine aB rfl (fun g6=> ?_) (fun g6=> ?_)
 ·refine dX ?_;refine z1 ?_;refine aD fun r38 h38=> ?_;repeat rcases h38 with⟨_,h38⟩
  refine lo (aI (E rfl)) rfl ?_;refine nG ?_;apply aF;exact aG
  ·(unfold kN;simp only[g1,g2,g3,g4,g5,g6,if_true,if_false,Bool.false_eq_true];first|exact lJ rfl rfl|exact mS rfl rfl)
  ·exact aA
 refine cL ?_;refine z1 ?_;refine aD fun r42 h42=> ?_;repeat rcases h42 with⟨_,h42⟩
 refine lo (aI (E rfl)) rfl ?_;refine nG ?_;apply aF;exact aG
 ·(unfold kN;simp only[g1,g2,g3,g4,g5,g6,if_true,if_false,Bool.false_eq_true];first|exact lJ rfl rfl|exact mS rfl rfl)
 ·exact aA
def oC (op:Int):Int×Int:=
 if(oB op 69 79||oB op 103 120)=true then(op,1)else if oB op 80 90=true then(IntKind.i64.wrap (IntKind.i64.wrap (op-80)+69),2)else if oB op 121 138=true then(IntKind.i64.wrap (IntKind.i64.wrap (op-121)+103),2)
 else if(op==167)=true then(op,2)else if(op==172||op==173)=true then(op,1)else(0,0)
theorem zJ(op:Int):SCall Tryz.prog 303 [.int .i64 op] [] (fun x σ=>x=.tup [.int .i64 (oC op).1,.int .i64 (oC op).2]∧σ=[]):=by
 refine cC 48 [0,2,3,4,18,28,38,42] Tryz.func303 ?_;refine dW ?_;refine mN ?_;refine CK ?_;refine z4 ?_;refine z55 ?_;refine z7 ?_;refine dG ?_;apply fF rfl;exact cU
 ·intro _;(refine aP ?_);refine gK ?_;refine CK ?_;refine z4 ?_;refine z55 ?_;refine z7 ?_;refine dG ?_;exact aK
 refine aP ?_;refine aB rfl (fun g1=> ?_) (fun g1=> ?_)
 ·refine dX ?_;refine kJ ?_;apply aF;exact aG
  ·(unfold oC oB;simp only[g1,if_true,if_false,Bool.false_eq_true];exact⟨rfl,rfl⟩)
  ·exact aA
 refine dX ?_;refine CK ?_;refine z4 ?_;refine z55 ?_;refine z7 ?_;refine dG ?_;refine aB rfl (fun g2=> ?_) (fun g2=> ?_)
 ·refine dX ?_;refine rP ?_;refine RH ?_;refine kJ ?_;apply aF;exact aG
  ·(unfold oC oB;simp only[g1,g2,if_true,if_false,Bool.false_eq_true];exact⟨rfl,rfl⟩)
  ·exact aA
 refine dX ?_;refine CK ?_;refine z4 ?_;refine z55 ?_;refine z7 ?_;refine dG ?_;refine aB rfl (fun g3=> ?_) (fun g3=> ?_)
 ·refine dX ?_;refine rP ?_;refine RH ?_;refine kJ ?_;apply aF;exact aG
  ·(unfold oC oB;simp only[g1,g2,g3,if_true,if_false,Bool.false_eq_true];exact⟨rfl,rfl⟩)
  ·exact aA
 refine dX ?_;refine MG ?_;refine aB rfl (fun g4=> ?_) (fun g4=> ?_)
 ·refine dX ?_;refine kJ ?_;apply aF;exact aG
  ·(unfold oC oB;simp only[g1,g2,g3,g4,if_true,if_false,Bool.false_eq_true];exact⟨rfl,rfl⟩)
  ·exact aA
 refine dX ?_;refine MG ?_;apply fF rfl;exact cU
 ·intro _;(refine aP ?_);refine gK ?_;refine MG ?_;exact aK
 refine aP ?_;refine aB rfl (fun g5=> ?_) (fun g5=> ?_)
 ·refine dX ?_;refine kJ ?_;apply aF;exact aG
  ·(unfold oC oB;simp only[g1,g2,g3,g4,g5,if_true,if_false,Bool.false_eq_true];exact⟨rfl,rfl⟩)
  ·exact aA
 refine dW ?_;refine kJ ?_;apply aF;exact aG
 ·(unfold oC oB;simp only[g1,g2,g3,g4,g5,if_true,if_false,Bool.false_eq_true];exact⟨rfl,rfl⟩)
 ·exact aA
def nQ (op:Int):Int×Int×Int×Bool:=
 if((oC op).1==0)=true then(0,0,0,false)else if((oC op).1==69)=true then(1,(oC op).2,1,true)else if decide ((oC op).1≤79)=true then(2,(oC op).2,1,true)
 else if decide ((oC op).1≤105)=true then(1,(oC op).2,(oC op).2,true)else if decide ((oC op).1≤120)=true then(2,(oC op).2,(oC op).2,true)
 else if((oC op).1==167)=true then(1,(oC op).2,1,true)else(1,(oC op).2,2,true)
theorem vE(op:Int):SCall Tryz.prog 276 [.int .i64 op] [] (fun x σ=>x=.tup [.int .i64 (nQ op).1,.int .i64 (nQ op).2.1,.int .i64 (nQ op).2.2.1,.bool (nQ op).2.2.2]∧σ=[]):=by
 refine cC 39 [0,2,3,4,5,6,7,13,16,20,24,29,34] Tryz.func276 ?_;refine dW ?_;refine FB ?_;refine gK ?_
 (first|refine ln rfl rfl rfl rfl ?_ |refine lw rfl rfl (bI (v:=.bool false)) rfl ?_ |refine pu [] Tryz.call303 (zJ _) rfl cD bK ?_ |refine xJ [] rfl rfl Tryz.call303 (fun _=>(zJ _)) rfl cD bK ?_ |refine puw [] rfl rfl Tryz.call303 (fun _=>(zJ _)) rfl cD bK ?_);refine FC ?_;refine mN ?_;refine MG ?_;refine aB rfl (fun g1=> ?_) (fun g1=> ?_)
 ·refine dW ?_;refine FB ?_;apply aF;exact aG
  ·(unfold nQ;simp only[g1,if_true,if_false,Bool.false_eq_true];exact⟨rfl,rfl⟩)
  ·exact aA
 refine dX ?_;refine MG ?_;refine aB rfl (fun g2=> ?_) (fun g2=> ?_)
 ·refine dX ?_;refine FB ?_;apply aF;exact aG
  ·(unfold nQ;simp only[g1,g2,if_true,if_false,Bool.false_eq_true];exact⟨rfl,rfl⟩)
  ·exact aA
 refine dX ?_;refine lo (jX (E rfl) (E rfl)) rfl ?_;refine dG ?_;refine aB rfl (fun g3=> ?_) (fun g3=> ?_)
 ·refine dX ?_;refine FB ?_;apply aF;exact aG
  ·(unfold nQ;simp only[g1,g2,g3,if_true,if_false,Bool.false_eq_true];exact⟨rfl,rfl⟩)
  ·exact aA
 refine dX ?_;refine lo (jX (E rfl) (E rfl)) rfl ?_;refine dG ?_;refine aB rfl (fun g4=> ?_) (fun g4=> ?_)
 ·refine cL ?_;refine FB ?_;apply aF;exact aG
  ·(unfold nQ;simp only[g1,g2,g3,g4,if_true,if_false,Bool.false_eq_true];exact⟨rfl,rfl⟩)
  ·exact aA
 refine dX ?_;refine lo (jX (E rfl) (E rfl)) rfl ?_;refine dG ?_;refine aB rfl (fun g5=> ?_) (fun g5=> ?_)
 ·refine cL ?_;refine FB ?_;apply aF;exact aG
  ·(unfold nQ;simp only[g1,g2,g3,g4,g5,if_true,if_false,Bool.false_eq_true];exact⟨rfl,rfl⟩)
  ·exact aA
 refine dX ?_;refine MG ?_;refine aB rfl (fun g6=> ?_) (fun g6=> ?_)
 ·refine dX ?_;refine FB ?_;apply aF;exact aG
  ·(unfold nQ;simp only[g1,g2,g3,g4,g5,g6,if_true,if_false,Bool.false_eq_true];exact⟨rfl,rfl⟩)
  ·exact aA
 refine dX ?_;refine FB ?_;apply aF;exact aG
 ·(unfold nQ;simp only[g1,g2,g3,g4,g5,g6,if_true,if_false,Bool.false_eq_true];exact⟨rfl,rfl⟩)
 ·exact aA
def iX (op:Int) (k:Bool):Int:=
 if(op==0||(op==1||(op==5||(op==11||(op==15||(op==26||op==27))))))=true then 1
 else if(op==2||(op==3||op==4))=true then 2
 else if(op==12||(op==13||(op==16||(op==32||(op==33||(op==34||(op==35||op==36)))))))=true then 3
 else if(op==14)=true then 4 else if(op==17)=true then 5
 else if(op==40||(op==41||(op==44||(op==45||(op==54||(op==55||op==58))))))=true then 6
 else if(op==63||op==64)=true then 7 else if(op==65)=true then 8 else if(op==66)=true then 9
 else if k=true then 1 else 0
theorem XR(op:Int):SCall Tryz.prog 250 [.int .i64 op] [] (fun x σ=>x=.int .i64 (iX op (nQ op).2.2.2)∧σ=[]):=by
 refine cC 56 [0,2,6,7,8,16,20,29,31,33,41,44,46,55] Tryz.func250 ?_;refine fV ?_;refine pB ?_;apply fF rfl;exact cU
 ·intro _;(refine aP ?_);refine eV ?_;apply eB rfl;exact cU
  ·intro _;(refine aP ?_);refine eV ?_;apply eB rfl;exact cU
   ·intro _;(refine aP ?_);refine eV ?_;apply eB rfl;exact cU
    ·intro _;(refine aP ?_);refine eV ?_;apply eB rfl;exact cU
     ·intro _;(refine aP ?_);refine eV ?_;apply eB rfl;exact cU
      ·intro _;(refine aP ?_);refine eV ?_;exact aK
      exact aK
     exact aK
    exact aK
   exact aK
  exact aK
 refine aP ?_;refine aB rfl (fun g1=> ?_) (fun g1=> ?_)
 ·refine bQ ?_;apply aF;exact aG
  ·(unfold iX;simp only[g1,if_true,if_false,Bool.false_eq_true];exact⟨rfl,rfl⟩)
  ·exact aA
 refine dE ?_;apply fF rfl;exact cU
 ·intro _;(refine aP ?_);refine eV ?_;apply eB rfl;exact cU
  ·intro _;(refine aP ?_);refine eV ?_;exact aK
  exact aK
 refine aP ?_;refine aB rfl (fun g2=> ?_) (fun g2=> ?_)
 ·refine bQ ?_;apply aF;exact aG
  ·(unfold iX;simp only[g1,g2,if_true,if_false,Bool.false_eq_true];exact⟨rfl,rfl⟩)
  ·exact aA
 refine dE ?_;apply fF rfl;exact cU
 ·intro _;(refine aP ?_);refine eV ?_;apply eB rfl;exact cU
  ·intro _;(refine aP ?_);refine eV ?_;apply eB rfl;exact cU
   ·intro _;(refine aP ?_);refine eV ?_;apply eB rfl;exact cU
    ·intro _;(refine aP ?_);refine eV ?_;apply eB rfl;exact cU
     ·intro _;(refine aP ?_);refine eV ?_;apply eB rfl;exact cU
      ·intro _;(refine aP ?_);refine eV ?_;apply eB rfl;exact cU
       ·intro _;(refine aP ?_);refine eV ?_;exact aK
       exact aK
      exact aK
     exact aK
    exact aK
   exact aK
  exact aK
 refine aP ?_;refine aB rfl (fun g3=> ?_) (fun g3=> ?_)
 ·refine bQ ?_;apply aF;exact aG
  ·(unfold iX;simp only[g1,g2,g3,if_true,if_false,Bool.false_eq_true];exact⟨rfl,rfl⟩)
  ·exact aA
 refine dE ?_;refine aB rfl (fun g4=> ?_) (fun g4=> ?_)
 ·refine bQ ?_;apply aF;exact aG
  ·(unfold iX;simp only[g1,g2,g3,g4,if_true,if_false,Bool.false_eq_true];exact⟨rfl,rfl⟩)
  ·exact aA
 refine dE ?_;refine aB rfl (fun g5=> ?_) (fun g5=> ?_)
 ·refine bQ ?_;apply aF;exact aG
  ·(unfold iX;simp only[g1,g2,g3,g4,g5,if_true,if_false,Bool.false_eq_true];exact⟨rfl,rfl⟩)
  ·exact aA
 refine dE ?_;apply fF rfl;exact cU
 ·intro _;(refine aP ?_);refine eV ?_;apply eB rfl;exact cU
  ·intro _;(refine aP ?_);refine eV ?_;apply eB rfl;exact cU
   ·intro _;(refine aP ?_);refine eV ?_;apply eB rfl;exact cU
    ·intro _;(refine aP ?_);refine eV ?_;apply eB rfl;exact cU
     ·intro _;(refine aP ?_);refine eV ?_;apply eB rfl;exact cU
      ·intro _;(refine aP ?_);refine eV ?_;exact aK
      exact aK
     exact aK
    exact aK
   exact aK
  exact aK
 refine aP ?_;refine aB rfl (fun g6=> ?_) (fun g6=> ?_)
 ·refine bQ ?_;apply aF;exact aG
  ·(unfold iX;simp only[g1,g2,g3,g4,g5,g6,if_true,if_false,Bool.false_eq_true];exact⟨rfl,rfl⟩)
  ·exact aA
 refine dE ?_;apply fF rfl;exact cU
 ·intro _;(refine aP ?_);refine eV ?_;exact aK
 refine aP ?_;refine aB rfl (fun g7=> ?_) (fun g7=> ?_)
 ·refine bQ ?_;apply aF;exact aG
  ·(unfold iX;simp only[g1,g2,g3,g4,g5,g6,g7,if_true,if_false,Bool.false_eq_true];exact⟨rfl,rfl⟩)
  ·exact aA
 refine dE ?_;refine aB rfl (fun g8=> ?_) (fun g8=> ?_)
 ·refine bQ ?_;apply aF;exact aG
  ·(unfold iX;simp only[g1,g2,g3,g4,g5,g6,g7,g8,if_true,if_false,Bool.false_eq_true];exact⟨rfl,rfl⟩)
  ·exact aA
 refine dE ?_;refine aB rfl (fun g9=> ?_) (fun g9=> ?_)
 ·refine bQ ?_;apply aF;exact aG
  ·(unfold iX;simp only[g1,g2,g3,g4,g5,g6,g7,g8,g9,if_true,if_false,Bool.false_eq_true];exact⟨rfl,rfl⟩)
  ·exact aA
 refine dX ?_
 (first|refine ln rfl rfl rfl rfl ?_ |refine lw rfl rfl (bI (v:=.bool false)) rfl ?_ |refine pu [] Tryz.call276 (vE _) rfl cD bK ?_ |refine xJ [] rfl rfl Tryz.call276 (fun _=>(vE _)) rfl cD bK ?_ |refine puw [] rfl rfl Tryz.call276 (fun _=>(vE _)) rfl cD bK ?_);refine FC ?_;refine IT ?_;refine FB ?_;refine gK ?_;refine jP ?_;refine aB rfl (fun g10=> ?_) (fun g10=> ?_)
 ·refine bQ ?_;apply aF;exact aG
  ·(unfold iX;simp only[g1,g2,g3,g4,g5,g6,g7,g8,g9,g10,if_true,if_false,Bool.false_eq_true];exact⟨rfl,rfl⟩)
  ·exact aA
 refine bQ ?_;apply aF;exact aG
 ·(unfold iX;simp only[g1,g2,g3,g4,g5,g6,g7,g8,g9,g10,if_true,if_false,Bool.false_eq_true];exact⟨rfl,rfl⟩)
 ·exact aA
theorem FF(op:Int):SCall Tryz.prog 200 [.int .i64 op] [] (fun x _=>∃a b,x=.tup [a,b,.bool (kN op).2.2]):=
 (wP op).mono fun x σ h=>by
  unfold uC at h;split at h
  ·next e=>obtain⟨q,rfl,-⟩:=h;exact⟨_,_,by rw[e]⟩
  ·next e=>obtain⟨rfl,-⟩:=h;exact⟨_,_,by rw[show(kN op).2.2=false by simpa using e]⟩
theorem PN(op:Int):SCall Tryz.prog 217 [.int .i64 op] [] (fun x σ=>x=.int .i64 (iX op (kN op).2.2)∧σ=[]):=by
 refine cC 54 [0,2,5,6,7,15,19,28,30,32,40,43,45,53] Tryz.func217 ?_;refine fV ?_;refine pB ?_;apply fF rfl;exact cU
 ·intro _;(refine aP ?_);refine eV ?_;apply eB rfl;exact cU
  ·intro _;(refine aP ?_);refine eV ?_;apply eB rfl;exact cU
   ·intro _;(refine aP ?_);refine eV ?_;apply eB rfl;exact cU
    ·intro _;(refine aP ?_);refine eV ?_;apply eB rfl;exact cU
     ·intro _;(refine aP ?_);refine eV ?_;apply eB rfl;exact cU
      ·intro _;(refine aP ?_);refine eV ?_;exact aK
      exact aK
     exact aK
    exact aK
   exact aK
  exact aK
 refine aP ?_;refine aB rfl (fun g1=> ?_) (fun g1=> ?_)
 ·refine bQ ?_;apply aF;exact aG
  ·(unfold iX;simp only[g1,if_true,if_false,Bool.false_eq_true];exact⟨rfl,rfl⟩)
  ·exact aA
 refine dE ?_;apply fF rfl;exact cU
 ·intro _;(refine aP ?_);refine eV ?_;apply eB rfl;exact cU
  ·intro _;(refine aP ?_);refine eV ?_;exact aK
  exact aK
 refine aP ?_;refine aB rfl (fun g2=> ?_) (fun g2=> ?_)
 ·refine bQ ?_;apply aF;exact aG
  ·(unfold iX;simp only[g1,g2,if_true,if_false,Bool.false_eq_true];exact⟨rfl,rfl⟩)
  ·exact aA
 refine dE ?_;apply fF rfl;exact cU
 ·intro _;(refine aP ?_);refine eV ?_;apply eB rfl;exact cU
  ·intro _;(refine aP ?_);refine eV ?_;apply eB rfl;exact cU
   ·intro _;(refine aP ?_);refine eV ?_;apply eB rfl;exact cU
    ·intro _;(refine aP ?_);refine eV ?_;apply eB rfl;exact cU
     ·intro _;(refine aP ?_);refine eV ?_;apply eB rfl;exact cU
      ·intro _;(refine aP ?_);refine eV ?_;apply eB rfl;exact cU
       ·intro _;(refine aP ?_);refine eV ?_;exact aK
       exact aK
      exact aK
     exact aK
    exact aK
   exact aK
  exact aK
 refine aP ?_;refine aB rfl (fun g3=> ?_) (fun g3=> ?_)
 ·refine bQ ?_;apply aF;exact aG
  ·(unfold iX;simp only[g1,g2,g3,if_true,if_false,Bool.false_eq_true];exact⟨rfl,rfl⟩)
  ·exact aA
 refine dE ?_;refine aB rfl (fun g4=> ?_) (fun g4=> ?_)
 ·refine bQ ?_;apply aF;exact aG
  ·(unfold iX;simp only[g1,g2,g3,g4,if_true,if_false,Bool.false_eq_true];exact⟨rfl,rfl⟩)
  ·exact aA
 refine dE ?_;refine aB rfl (fun g5=> ?_) (fun g5=> ?_)
 ·refine bQ ?_;apply aF;exact aG
  ·(unfold iX;simp only[g1,g2,g3,g4,g5,if_true,if_false,Bool.false_eq_true];exact⟨rfl,rfl⟩)
  ·exact aA
 refine dE ?_;apply fF rfl;exact cU
 ·intro _;(refine aP ?_);refine eV ?_;apply eB rfl;exact cU
  ·intro _;(refine aP ?_);refine eV ?_;apply eB rfl;exact cU
   ·intro _;(refine aP ?_);refine eV ?_;apply eB rfl;exact cU
    ·intro _;(refine aP ?_);refine eV ?_;apply eB rfl;exact cU
     ·intro _;(refine aP ?_);refine eV ?_;apply eB rfl;exact cU
      ·intro _;(refine aP ?_);refine eV ?_;exact aK
      exact aK
     exact aK
    exact aK
   exact aK
  exact aK
 refine aP ?_;refine aB rfl (fun g6=> ?_) (fun g6=> ?_)
 ·refine bQ ?_;apply aF;exact aG
  ·(unfold iX;simp only[g1,g2,g3,g4,g5,g6,if_true,if_false,Bool.false_eq_true];exact⟨rfl,rfl⟩)
  ·exact aA
 refine dE ?_;apply fF rfl;exact cU
 ·intro _;(refine aP ?_);refine eV ?_;exact aK
 refine aP ?_;refine aB rfl (fun g7=> ?_) (fun g7=> ?_)
 ·refine bQ ?_;apply aF;exact aG
  ·(unfold iX;simp only[g1,g2,g3,g4,g5,g6,g7,if_true,if_false,Bool.false_eq_true];exact⟨rfl,rfl⟩)
  ·exact aA
 refine dE ?_;refine aB rfl (fun g8=> ?_) (fun g8=> ?_)
 ·refine bQ ?_;apply aF;exact aG
  ·(unfold iX;simp only[g1,g2,g3,g4,g5,g6,g7,g8,if_true,if_false,Bool.false_eq_true];exact⟨rfl,rfl⟩)
  ·exact aA
 refine dE ?_;refine aB rfl (fun g9=> ?_) (fun g9=> ?_)
 ·refine bQ ?_;apply aF;exact aG
  ·(unfold iX;simp only[g1,g2,g3,g4,g5,g6,g7,g8,g9,if_true,if_false,Bool.false_eq_true];exact⟨rfl,rfl⟩)
  ·exact aA
 refine dX ?_;refine cw [] Tryz.call200 (FF op) rfl ?_ ?_ ?_
 ·exact aC
 ·exact aA
 rintro _ σ' ⟨a,b,rfl⟩-;refine MI ?_;refine nG ?_;refine gK ?_;refine jP ?_;refine aB rfl (fun g10=> ?_) (fun g10=> ?_)
 ·refine bQ ?_;apply aF;exact aG
  ·(unfold iX;simp only[g1,g2,g3,g4,g5,g6,g7,g8,g9,g10,if_true,if_false,Bool.false_eq_true];exact⟨rfl,rfl⟩)
  ·exact aA
 refine bQ ?_;apply aF;exact aG
 ·(unfold iX;simp only[g1,g2,g3,g4,g5,g6,g7,g8,g9,g10,if_true,if_false,Bool.false_eq_true];exact⟨rfl,rfl⟩)
 ·exact aA
def MQ (op:Int):Bool:=decide (69≤op∧op≤90∨103≤op∧op≤138∨op=167∨op=172∨op=173)
theorem jW(n a b:Int):oB n a b=decide (a≤n∧n≤b):=by
 unfold oB;by_cases h:a≤n<;>simp[h]
theorem XS(op:Int):((GX op).1==0)= !decide (69≤op∧op≤90∨103≤op∧op≤138):=by
 unfold GX;simp only[jW,Bool.or_eq_true,decide_eq_true_eq];repeat' split
 ·rw[decide_eq_true (by omega)];rfl
 ·rw[decide_eq_true (by omega)];rfl
 ·rw[decide_eq_true (by omega)];rfl
 ·rw[decide_eq_false (by omega)];rfl
theorem aG7(op:Int):(kN op).2.2=MQ op:=by
 unfold kN;rw[XS];unfold MQ;by_cases h1:op=167
 ·subst h1;decide
 by_cases h2:op=172∨op=173
 ·rcases h2 with rfl|rfl<;>decide
 by_cases h3:69≤op∧op≤90∨103≤op∧op≤138
 ·rw[decide_eq_true h3,decide_eq_true (by omega)];repeat' split
  all_goals first|rfl|simp_all
 ·rw[decide_eq_false h3,decide_eq_false (by omega),if_neg (by simp;omega),if_neg (by simp;omega)];rfl
theorem UG(op:Int)(h:-9223372036854775808≤op∧op≤9223372036854775807):((oC op).1==0)= !MQ op:=by
 unfold oC MQ;simp only[jW,Bool.or_eq_true,decide_eq_true_eq,beq_iff_eq];repeat' split
 all_goals first
  |(rw[decide_eq_true (by omega)];simp only[IntKind.wrap_i64,Bool.not_true,beq_eq_false_iff_ne];omega)
  |(rw[decide_eq_false (by omega)];rfl)
theorem aEA(op:Int)(h:-9223372036854775808≤op∧op≤9223372036854775807):(nQ op).2.2.2=MQ op:=by
 unfold nQ;rw[UG op h];cases MQ op
 ·rfl
 ·repeat' split
  all_goals first|rfl|simp_all
def aZ (op:Int):Int:=iX op (MQ op)
end Go.Proofs.YtjpdadobblffmaaGreat
namespace Go.Proofs.YtjpdadobblffmaaGreat
open Go.RowKit Go.ChangeShapes Go.WideShapes Go.ChangeAt Go.Deep
theorem SR.growF {M:Mp}{F:Nat→Prop}{N:Nat}{w w':World}{σ:dY}(h:SR M F N w σ)(hold:∀k,k<w.heap.size→w'.heap[k]? =w.heap[k]?)(hsz:w.heap.size≤w'.heap.size){g:Nat}(hg:w.heap.size≤g)(hg':g<w'.heap.size):
  SR M (fun b=>F b∨b=g) N w' σ where
 ent p hp:=ER.mono (fun _ _ h=>h) (fun _ h=>.inl h) (fun b hb=>hold b (h.flt b hb)) (fun g hg=>hold g ((h.ent p hp).lt hg)) (h.ent p hp)
 inj:=h.inj
 nof g' hB hF:=by
  rcases hF with hF|rfl
  ·exact h.nof g' hB hF
  ·have:=h.lt hB;omega
 flt b hb:=by
  rcases hb with hb|rfl
  ·have:=h.flt b hb;omega
  ·exact hg'
 fresh:=h.fresh
theorem AU{P:Program}{n:Nat}{s:ASt}{x y:Operand}{t ty:TypeId}{d:Nat}{K:ASt→Prop}{e:TypeId} [Ty P t (.slice e)] {sz by_:Nat}{zv:Value} [Tz P e sz by_ zv] (h0:0<sz)(hz:zv.cells.size=sz){es ys:List (List AV)}(hb:aev s x=some (.ro sz es .full))(hy:Src s y sz ys)
  (hmax:es.length+ys.length≤maxLen) (hby:(es.length+ys.length)*by_≤140737488355328) (hd:d<n) (hK:K ⟨(d,.ro sz (es++ys) .any)::s.fr,s.σ⟩):
  Hop P n (.call { callee:=.builtin .append,args:=#[x,y],argTypes:=#[t,t] }) ty (some d) s [] K:=by
 intro M F N a w o ho hty hdst hr next Q hnext
 have hbase:=hr.aev hb;obtain⟨i,hi,hz0,hs0,hb0⟩:=Tz.parts P e;obtain⟨A,c,news,he,hreads,hrows,hok,hm⟩:=hy.reads hr h0;obtain⟨B,c0,olds,hx,hreads0,hrows0,hok0,hm0⟩:=Src.reads hr h0 (.inl ⟨_,hb⟩:Src s x sz es);have hc0:c0=es.length:=by
  rw[hx]at hbase;cases hbase with
  |ro hbb hs hc hrr hle hmm hf hn=>exact hf rfl
  |ro0 hmm hA hf hn=>simpa using hf rfl
 subst hc0;by_cases hlen:ys=[]
 ·subst hlen;have hrun:(execOp a.eval o).run P w=.ok (.value (.slice B es.length es.length)) w:=by
   have hfirst:(Builtin.firstCells i.size 0 (.slice A 0 c)).run P w=.ok #[] w:=by cases A<;>simp[Builtin.firstCells,loadCells,loadCellsFrom]
   simp only[execOp,ho,resolve,invoke,builtin,Sem.run_bind,Sem.run_pure,Result.andThen_ok,List.map_toArray,List.map_cons,List.map_nil,hx,he,List.length_nil];have hap:(Builtin.append_ #[t,t] o.type #[.slice B es.length es.length,.slice A 0 c]).run P w=.ok (.slice B es.length es.length) w:=by
    cases B<;>simp[Builtin.append_,run_underlying (Ty.und (P:=P) (t:=t)),sizeOf,typeInfo,hi,Builtin.lenOf,hfirst,storeCells]
   rw[hap];rfl
  unfold Oper.wp;rw[hrun,Oper.upon_value,hdst];rw[List.append_nil]at hK;rw[hx]at hbase;exact hnext M F N _ w ⟨(d,.ro sz es .any)::s.fr,s.σ⟩ (hr.put hd (VLe.any M F w _ hbase)) (Ext.refl _ _ _ _ _) (Only.refl _ _) hK
 ·have hpos:0<ys.length:=by cases ys<;>first|exact absurd rfl hlen|simp
  obtain⟨ad,rfl,hadb,hcell⟩:=hreads.2 hpos;have hap:∃v' w',(Builtin.append_ #[t,t] o.type #[.slice B es.length es.length,.slice (some ad) ys.length c]).run P w=.ok v' w'∧w'.ownsRow w.heap.size e sz v' (es.length+ys.length) (olds++news)∧w.grownBy w' none:=by
   cases B with
   |none=>
    have hn0:es.length=0:=by
     rcases Nat.eq_zero_or_pos es.length with h|h
     ·exact h
     ·obtain⟨ad',h',_⟩:=hreads0.2 h;cases h'
    have ho0:olds=[]:=List.eq_nil_of_length_eq_zero (by have:=hreads0.1;rw[hn0]at this;simpa using this);subst ho0;rw[hn0];obtain⟨v',w',h1,h2,h3,_⟩:=tJ (P:=P) w w.heap.size t o.type e i zv sz by_ (Ty.und (P:=P) (t:=t)) hi hz0 hs0 hb0 hz h0 (.slice none 0 0) 0 [] ⟨by simp,.inl ⟨rfl,rfl⟩⟩ w.heap.size (some ad) ys.length c news hreads (hrows.one h0 hok) (by omega) (by rw[hn0]at hby;exact hby) (Nat.le_refl _);exact⟨v',w',h1,h2,h3⟩
   |some b=>
    have hcell0:∀j u,olds[j]? =some u→w.cell? (b.add j)=some u:=by
     intro j u hu;rcases Nat.eq_zero_or_pos es.length with h|h
     ·have ho0:olds=[]:=List.eq_nil_of_length_eq_zero (by have:=hreads0.1;rw[h]at this;simpa using this);rw[ho0]at hu;simp at hu
     ·obtain⟨ad',h',_,hc⟩:=hreads0.2 h;injection h' with h'
      subst h';exact hc j u hu
    exact run_append_arg_grows (P:=P) w t o.type e i zv sz by_ (Ty.und (P:=P) (t:=t)) hi hz0 hs0 hb0 hz h0 b es.length es.length olds hreads0.1 hcell0 ad ys.length c news hreads.1 hcell (by omega) hmax hby
  obtain⟨v',w',hap,hown,hgr⟩:=hap;have hrun:(execOp a.eval o).run P w=.ok (.value v') w':=by
   simp only[execOp,ho,resolve,invoke,builtin,Sem.run_bind,Sem.run_pure,Result.andThen_ok,List.map_toArray,List.map_cons,List.map_nil,hx,he,hap]
  unfold Oper.wp;rw[hrun,Oper.upon_value,hdst];rcases hown.2 with⟨_,hz'⟩|⟨g,cap,cur,rfl,hbg,hg,hn,hm2,hs2,ht2⟩
  ·omega
  ·have hgl:g<w'.heap.size:=(Array.getElem?_eq_some_iff.1 hg).1;have hold:∀k,k<w.heap.size→w'.heap[k]? =w.heap[k]? :=fun k hk=>hgr.block k hk (by simp)
   have hSame:Same F w w':=fun b hb=>hold b (hr.st.flt b hb)
   have hsr:=hr.st.growF hold hgr.size hbg hgl;have hcat:RowsAt M F w sz (es++ys) (olds++news):=hrows0.append hok0 hrows;have hokC:iT sz (es++ys):=fun x hx=>(List.mem_append.1 hx).elim (hok0 x) (hok x)
   have hat:∀(i':Nat) (e':List AV) (j:Nat) (a':AV),(es++ys)[i']? =some e'→e'[j]? =some a'→∃u,(olds++news)[i'*sz+j]? =some u∧w'.cell? ⟨g,0+i'*sz+j,none⟩=some u:=by
    intro i' e' j a' hi' hj;have hil:=(List.getElem?_eq_some_iff.1 hi').1;have hjs:j<sz:=by rw[←(hokC e' (List.mem_of_getElem? hi')).1];exact(List.getElem?_eq_some_iff.1 hj).1
    have hlt:i'*sz+j<(olds++news).length:=by rw[hown.1,←List.length_append];exact jO hil hjs
    refine⟨_,List.getElem?_eq_getElem hlt, ?_⟩;rw[Nat.zero_add,Cl.cell (ty:=e) (.of hg),←Array.getElem?_toList];have h1:(cur.toList.take ((es.length+ys.length)*sz))[i'*sz+j]? =some (olds++news)[i'*sz+j]:=by rw[ht2];exact List.getElem?_eq_getElem hlt
    rw[List.getElem?_take]at h1;split at h1
    ·exact h1
    ·cases h1
   have hv:VR M (fun b=>F b∨b=g) w' (.ro sz (es++ys) .any) (.slice (some ⟨g,0,none⟩) (es.length+ys.length) cap):=by
    have:=VR.ro (M:=M) (F:=fun b=>F b∨b=g) (w:=w') (es:=es++ys) (k:=.any) (b:=g) (o:=0) (sz:=sz) (cap:=cap) (us:=fun i' j=>((olds++news)[i'*sz+j]?).getD Go.undef) (.inr rfl) hokC
     (fun i' e' j a' hi' hj=>by obtain⟨u,hu,hc⟩:=hat i' e' j a' hi' hj;rw[hc,hu];rfl)
     (fun i' e' j a' hi' hj=>by
      obtain⟨u,hu,_⟩:=hat i' e' j a' hi' hj;rw[hu];exact VR.mono (fun _ _ h=>h) (fun _ h=>.inl h) hSame (hcat.2 i' e' j a' u hi' hj hu))
     (by rw[List.length_append];exact hn) hm2 (fun h=>by cases h) (fun h=>by cases h)
    rwa [List.length_append]at this
   have hext:Ext M F N w s.σ M (fun b=>F b∨b=g) N w' s.σ:=by
    refine⟨fun _ _ h=>h,fun _ h=>.inl h,Nat.le_refl _,⟨hgr.os,hgr.tape,hgr.output,hgr.size,fun k hk _=>hold k hk⟩,fun _ h _=>h,fun b hb=> ?_,fun p hp _=>⟨p,hp,rfl⟩⟩;rcases hb with hb|rfl
    ·exact .inl hb
    ·exact .inr (.inl hbg)
   have hr2:Rel M (fun b=>F b∨b=g) N n s a w':=hr.step hext hsr rfl;exact hnext M _ N _ w' ⟨(d,.ro sz (es++ys) .any)::s.fr,s.σ⟩ (hr2.put hd hv) hext ⟨hgr.os,hgr.tape,hgr.output,hgr.size,fun k hk _=>hold k hk⟩ hK
theorem daf{P:Program}{n:Nat}{ops:Array Oper}{fr:Fr}{σ:dY}{K:ASt→Prop}{ty t:TypeId}{pos:String}{af:Array Edge}{listed:Array Bool}{todo:List (Nat×Bool)}{held:List (Nat×List Nat)}{i d:Nat}{x y:Operand}{e:TypeId}{sz by_:Nat}{zv:Value}{es ys:List (List AV)}
  (hi:ops[i]? =some ⟨some d,.call { callee:=.builtin .append,args:=#[x,y],argTypes:=#[t,t] },ty,pos,af,none⟩) (i1:Ty P t (.slice e)) (i2:Tz P e sz by_ zv) (h0:(decide (0<sz)&&zv.cells.size==sz)=true) (hx:aev ⟨fr,σ⟩ x=some (.ro sz es .full)) (hy:Src ⟨fr,σ⟩ y sz ys)
  (hmax:es.length+ys.length≤maxLen) (hby:(es.length+ys.length)*by_≤140737488355328) (hd:Nat.ble (d+1) n=true) (hK:RD P n ops (listed.setIfInBounds i true) todo held ⟨(d,.ro sz (es++ys) .any)::fr,σ⟩ K):RD P n ops listed ((i,false)::todo) held ⟨fr,σ⟩ K:=by
 simp only[Bool.and_eq_true,decide_eq_true_eq,beq_iff_eq]at h0;exact tR hi (AU h0.1 h0.2 hx hy hmax hby (dF hd) hK)
theorem aDv{M:Mp}{F:Nat→Prop}{w:World}{xs:List AV}{us:List Value}(hl:us.length=xs.length)(h:∀(i:Nat) (v:AV),xs[i]? =some v→∃u,us[i]? =some u∧VR M F w v u):∀(j:Nat) (a:AV) (u:Value),xs[j]? =some a→us[j]? =some u→VR M F w a u:=by
 intro j a u ha hu;obtain⟨u',hu',hv⟩:=h j a ha;rw[hu]at hu';cases hu'
 exact hv
theorem rE{P:Program}{ty:TypeId}{s:ASt}{c:Bool}{fn:Fn}{first captured:Array Operand}{xs cs:List AV}(h1:AEvs s first.toList xs)(h2:AEvs s captured.toList cs):Lop P (.makeFunc fn first captured) ty s c (.fn fn xs cs) []:=
 Lop.pure_ fun M F N n a w hr hc=>by
  obtain⟨l1,k1⟩:=h1.at_ hr;obtain⟨l2,k2⟩:=h2.at_ hr;refine⟨.func fn (first.map a.eval) (captured.map a.eval),.fn ?_ ?_ ?_ ?_,fun w' o ho _=> ?_⟩
  ·rw[←l1];simp
  ·intro j a' u ha hu;refine aDv l1 k1 j a' u ha ?_;rw[←hu,←Array.getElem?_toList];simp
  ·rw[←l2];simp
  ·intro j a' u ha hu;refine aDv l2 k2 j a' u ha ?_;rw[←hu,←Array.getElem?_toList];simp
  ·simp only[execOp,ho,Instr.makeFunc,Sem.run_bind,Sem.run_pure,Result.andThen_ok]
theorem GY{M:Mp}{F:Nat→Prop}{w:World}{xs ys:List AV}{us vs:List Value}(hl:us.length=xs.length)(h:∀(j:Nat) (a:AV) (u:Value),xs[j]? =some a→us[j]? =some u→VR M F w a u)
  (k:∀(j:Nat) (a:AV) (u:Value),ys[j]? =some a→vs[j]? =some u→VR M F w a u):∀(j:Nat) (a:AV) (u:Value),(xs++ys)[j]? =some a→(us++vs)[j]? =some u→VR M F w a u:=by
 intro j a u ha hu;by_cases hj:j<xs.length
 ·rw[List.getElem?_append_left hj]at ha;rw[List.getElem?_append_left (by omega)]at hu;exact h j a u ha hu
 ·rw[List.getElem?_append_right (by omega)]at ha;rw[List.getElem?_append_right (by omega)]at hu;exact k (j-xs.length) a u ha (by rw[←hl];exact hu)
def PO (a:Act) (x:Operand) (xs:List Operand):List Value:=match a.eval x with
 | .func _ us vs=>us.toList++xs.map a.eval++vs.toList
 | _=>[]
theorem MR{P:Program}{n:Nat}{s:ASt}{ty:TypeId}{d:Nat}{x:Operand}{f:FuncId}{us vs:List AV}{xs:List Operand}{ats:Array TypeId}{args:List AV}{σ1:dY}{R:AV→dY→Prop}{K:ASt→Prop}(hx:aev s x=some (.fn (.func f) us vs))(hf:∀args w,(callFunc f args).run P w=.ok (.enter f args) w)
  (h:SCall P f (us++args++vs) σ1 R) (hd:d<n) (hargs:ArgsLe s xs args) (hsub:∀p∈σ1,p∈s.σ)
  (hK:∀x σ',R x σ'→(∀p∈σ',(∃q∈σ1,q.1=p.1)∨Fresh p.1 s.σ)→K ⟨(d,x)::s.fr,σ'++eZ (σ1.map (·.1)) s.σ⟩):
  Hop P n (.call { callee:=.value x,args:=xs.toArray,argTypes:=ats }) ty (some d) s (σ1.map (·.1)) K:=by
 refine Hop.of_call hd h hsub (fun a=>PO a x xs) (fun M F N a w o ho hr=> ?_) hK;have hv:=hr.aev hx;have hl:=hargs.len;have ha:=hargs.vr hr;obtain⟨dst,op,ty',pos,after,guard⟩:=o;dsimp only at ho;subst ho;generalize hu:a.eval x=u at hv;cases hv with
 |@fn _ _ _ us' vs' h1 h2 h3 h4=>
  have hfa:PO a x xs=us'.toList++xs.map a.eval++vs'.toList:=by unfold PO;rw[hu]
  refine⟨?_, ?_, ?_⟩
  ·have:execOp a.eval { dst,op:=.call { callee:=.value x,args:=xs.toArray,argTypes:=ats },type:=ty',pos,after,guard } =(do
     let d←Deferred.ofValue (a.eval x) (xs.toArray.map a.eval)
     invoke d.target d.args):=rfl
   rw[this,hu,hfa];simp only[Deferred.ofValue,Sem.run_bind,Sem.run_pure,Result.andThen_ok,invoke,hf];simp
  ·rw[hfa];simp only[List.length_append,List.length_map,Array.length_toList];omega
  ·rw[hfa];refine GY (by simp;omega) (GY (by simpa using h1) (fun j a' u' h5 h6=>h2 j a' u' h5 (by simpa using h6)) (fun j a' u' h5 h6=>ha j a' u' h5 h6)) (fun j a' u' h5 h6=>h4 j a' u' h5 (by simpa using h6))
theorem eC{σ:dY}:eZ (σ.map (·.1)) σ=[]:=by
 unfold eZ;rw[List.filter_eq_nil_iff];intro p hp;simp;exact⟨_,hp⟩
section
variable {P : Program} {n : Nat} {ops : Array Oper} {rest : List Oper} {fr : Fr} {σ : dY} {K : ASt → Prop} {ty : TypeId} {pos : String} {af : Array Edge} {d : Nat}
theorem pR{x:Operand}{f:FuncId}{us vs:List AV}{xs:List Operand}{ats:Array TypeId}{args:List AV}{R:AV→dY→Prop}(σ1:dY)(hx:aev ⟨fr,σ⟩ x=some (.fn (.func f) us vs))(hf:∀args w,(callFunc f args).run P w=.ok (.enter f args) w)(h:SCall P f (us++args++vs) σ1 R)(hd:Nat.ble (d+1) n=true)
  (hargs:ArgsLe ⟨fr,σ⟩ xs args) (hsub:∀p∈σ1,p∈σ) (hK:∀x σ',R x σ'→(∀p∈σ',(∃q∈σ1,q.1=p.1)∨Fresh p.1 σ)→RS P n ops rest ⟨(d,x)::fr,σ'++eZ (σ1.map (·.1)) σ⟩ K):
  RS P n ops (⟨some d,.call { callee:=.value x,args:=xs.toArray,argTypes:=ats },ty,pos,af,none⟩::rest) ⟨fr,σ⟩ K:=iA (MR hx hf h (dF hd) hargs hsub hK)
end
end Go.Proofs.YtjpdadobblffmaaGreat
namespace Go.Proofs.YtjpdadobblffmaaGreat
open Go.RowKit Go.ChangeShapes Go.WideShapes Go.ChangeAt Go.Deep
attribute [local irreducible] SW RS RD gJ fA
theorem PP{k1 k2:Rk}(xs ys:List Int):SCall Tryz.prog 47 [.ro 1 (xs.map aX) k1,.ro 1 (ys.map aX) k2] [] (fun x σ=>x=.bool (decide (xs=ys))∧σ=[]):=by
 refine cC 26 [0,1,4,5,10,14,25] Tryz.func47 ?_;refine iB (i:=0) rfl fun hm=> ?_
 rw[List.length_map]at hm;unfold maxLen at hm;refine fV ?_;refine oA ?_;refine lU ?_;refine lH ?_;refine aB rfl (fun h=> ?_) (fun h=> ?_)
 ·refine bQ ?_;apply aF;exact aG
  ·have hne:xs≠ys:=by rintro rfl;simp at h
   exact⟨by simp[iH,cW,hne],rfl⟩
  ·exact aA
 have hl:xs.length=ys.length:=by simp at h;omega
 refine bQ ?_;refine lp (β:=Nat) (fun k=>⟨[(0,.ro 1 (xs.map aX) k1),(1,.ro 1 (ys.map aX) k2),(4,.bool false),(5,.int .i64 k)],[]⟩) (fun k=>k≤xs.length∧xs.take k=ys.take k) (fun k=>xs.length-k) 0 ?_ ⟨Nat.zero_le _,rfl⟩ ?_
 ·exact aK
 rintro k ⟨hk,ht⟩;refine cL ?_;refine CL ?_;refine aB rfl (fun h1=> ?_) (fun h1=> ?_)
 ·have hlt:k<xs.length:=by simp at h1;omega
  obtain⟨x,hx⟩:∃x,xs[k]? =some x:=⟨_,List.getElem?_eq_getElem hlt⟩
  obtain⟨y,hy⟩:∃y,ys[k]? =some y:=⟨_,List.getElem?_eq_getElem (by omega)⟩
  refine aP ?_;refine gI [(0,true),(1,true),(2,true),(3,true),(4,true),(5,true),(6,true),(7,true),(8,true)] ?_;refine pA ?_;refine LD ?_;refine pA ?_;refine LD ?_;refine z58 ?_;refine kK ?_;refine aB rfl (fun h2=> ?_) (fun h2=> ?_)
  ·refine bQ ?_;apply aF;exact aG
   ·have hne:xs≠ys:=by rintro rfl;rw[hx]at hy;simp at hy;subst hy;simp at h2
    exact⟨by simp[iH,cW,hne],rfl⟩
   ·exact aA
  ·refine oX ?_;refine⟨k+1,⟨by omega, ?_⟩,by omega, ?_⟩
   ·rw[List.take_add_one,List.take_add_one,ht,hx,hy];simp at h2;rw[h2]
   ·exact aK
 ·refine bQ ?_;apply aF;exact aG
  ·simp at h1;have:xs=ys:=by rwa [List.take_of_length_le (by omega),List.take_of_length_le (by omega)]at ht
   exact⟨by simp[iH,cW,this],rfl⟩
  ·exact aA
theorem hX{k1 k2:Rk}(xs ys:List Int):SCall Tryz.prog 116 [.ro 1 (xs.map aX) k1,.ro 1 (ys.map aX) k2] [] (fun x σ=>x=.bool (decide (xs=ys))∧σ=[]):=by
 refine cC 26 [0,1,4,5,10,12,13,14,24] Tryz.func116 ?_;refine iB (i:=0) rfl fun hm=> ?_
 rw[List.length_map]at hm;unfold maxLen at hm;refine fV ?_;refine oA ?_;refine lU ?_;refine lH ?_;refine aB rfl (fun h=> ?_) (fun h=> ?_)
 ·refine bQ ?_;apply aF;exact aG
  ·have hne:xs≠ys:=by rintro rfl;simp at h
   exact⟨by simp[iH,cW,hne],rfl⟩
  ·exact aA
 have hl:xs.length=ys.length:=by simp at h;omega
 refine dX ?_;refine nI ?_;refine lp (β:=Nat) (fun k=>⟨[(0,.ro 1 (xs.map aX) k1),(1,.ro 1 (ys.map aX) k2),(4,.bool false),(12,.int .i64 xs.length),(13,.int .i64 k)],[]⟩) (fun k=>k≤xs.length∧xs.take k=ys.take k) (fun k=>xs.length-k) 0 ?_ ⟨Nat.zero_le _,rfl⟩ ?_
 ·exact aK
 rintro k ⟨hk,ht⟩;refine jQ ?_;refine aB rfl (fun h1=> ?_) (fun h1=> ?_)
 ·have hlt:k<xs.length:=by simp at h1;omega
  obtain⟨x,hx⟩:∃x,xs[k]? =some x:=⟨_,List.getElem?_eq_getElem hlt⟩
  obtain⟨y,hy⟩:∃y,ys[k]? =some y:=⟨_,List.getElem?_eq_getElem (by omega)⟩
  refine fN ?_;refine gI [(0,true),(1,true),(2,true),(3,true),(4,true),(5,true),(6,true),(7,true),(8,true)] ?_;refine pA ?_;refine LD ?_;refine pA ?_;refine LD ?_;refine z58 ?_;refine kK ?_;refine aB rfl (fun h2=> ?_) (fun h2=> ?_)
  ·refine bQ ?_;apply aF;exact aG
   ·have hne:xs≠ys:=by rintro rfl;rw[hx]at hy;simp at hy;subst hy;simp at h2
    exact⟨by simp[iH,cW,hne],rfl⟩
   ·exact aA
  ·refine lV ?_;refine⟨k+1,⟨by omega, ?_⟩,by omega, ?_⟩
   ·rw[List.take_add_one,List.take_add_one,ht,hx,hy];simp at h2;rw[h2]
   ·exact aK
 ·refine bQ ?_;apply aF;exact aG
  ·simp at h1;have:xs=ys:=by rwa [List.take_of_length_le (by omega),List.take_of_length_le (by omega)]at ht
   exact⟨by simp[iH,cW,this],rfl⟩
  ·exact aA
def XT (P:Program) (f:FuncId) (caps:List AV) (σ:dY) (p:Int→Bool):Prop:=
 (∀args w,(callFunc f args).run P w=.ok (.enter f args) w)∧∀c,SCall P f ([]++ [.int .i64 c]++caps) σ (fun r σ'=>r=.bool (p c)∧σ'=σ)
theorem FG{k:Rk}{f:FuncId}{caps:List AV}{σ:dY}{p:Int→Bool}(hp:XT Tryz.prog f caps σ p)(l:List Int):SCall Tryz.prog 205 [.ro 1 (l.map aX) k,.fn (.func f) [] caps] σ (fun x σ'=>∃m:Int,x=.int .i64 m∧decide (0≤m)=l.any p∧σ'=σ):=by
 refine cC 19 [0,1,4,5,7,8,9,16] Tryz.func205 ?_;refine iB (i:=0) rfl fun hm=> ?_
 rw[List.length_map]at hm;unfold maxLen at hm;refine rA ?_;refine lp (β:=Nat) (fun j=>⟨[(0,.ro 1 (l.map aX) k),(1,.fn (.func f) [] caps),(7,.int .i64 l.length),(8,.int .i64 j)],σ⟩) (fun j=>j≤l.length∧(l.take j).any p=false) (fun j=>l.length-j) 0 ?_ ⟨Nat.zero_le _,rfl⟩ ?_
 ·exact aK
 rintro j ⟨hj,ht⟩;refine jQ ?_;refine aB rfl (fun h1=> ?_) (fun h1=> ?_)
 ·have hlt:j<l.length:=by simp at h1;omega
  obtain⟨x,hx⟩:∃x,l[j]? =some x:=⟨_,List.getElem?_eq_getElem hlt⟩
  refine sN ?_;refine nJ ?_;refine pR σ rfl hp.1 (hp.2 x) rfl ?_ ?_ ?_
  ·exact aC
  ·exact fun _ h=>h
  rintro r σ' ⟨rfl,rfl⟩-;rw[eC,List.append_nil];refine jP ?_;refine aB rfl (fun h2=> ?_) (fun h2=> ?_)
  ·refine fN ?_;apply aF;exact aG
   ·refine⟨j,rfl, ?_,rfl⟩;rw[decide_eq_true (by omega)];exact(List.any_eq_true.2 ⟨x,List.mem_of_getElem? hx,h2⟩).symm
   ·exact aA
  ·refine lV ?_;refine⟨j+1,⟨by omega, ?_⟩,by omega, ?_⟩
   ·rw[List.take_add_one,hx,List.any_append,ht];simp[h2]
   ·exact aK
 ·refine bQ ?_;apply aF;exact aG
  ·simp at h1;rw[List.take_of_length_le (by omega)]at ht;exact⟨-1,rfl,by rw[ht];rfl,rfl⟩
  ·exact aA
theorem mT{k:Rk}{f:FuncId}{caps:List AV}{σ:dY}{p:Int→Bool}(hp:XT Tryz.prog f caps σ p)(l:List Int):SCall Tryz.prog 89 [.ro 1 (l.map aX) k,.fn (.func f) [] caps] σ (fun x σ'=>x=.bool (l.any p)∧σ'=σ):=by
 refine cC 9 [0,1,4] Tryz.func89 ?_;refine mA ?_;refine cw σ Tryz.call205 (FG (k:=k) hp l) rfl ?_ ?_ ?_
 ·exact aC
 ·exact fun _ h=>h
 rintro x σ' ⟨m,rfl,hm,rfl⟩-;rw[eC,List.append_nil];refine AT ?_;apply aF;exact aG
 ·exact⟨by simp only[iH];rw[←hm],rfl⟩
 ·exact aA
end Go.Proofs.YtjpdadobblffmaaGreat
