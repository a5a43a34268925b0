import Derived.Test.YtjpdadobblffmaaGreatCC1
import Derived.Laws.BytesString
import Derived.ScopeJumps
import Derived.Test.YtjpdadobblffmaaGreatProg
import Derived.ArgAppend
set_option linter.unusedSimpArgs false
set_option linter.unusedVariables false
set_option maxRecDepth 100000
set_option maxHeartbeats 4000000
namespace Go.Proofs.YtjpdadobblffmaaGreat
open Go.RowKit Go.ChangeShapes Go.WideShapes Go.ChangeAt Go.Deep
inductive Put:List AV→Nat→List AV→List AV→Prop
 |done {l:List AV} :Put l 0 [] l
 |put {a v:AV} {l vs l':List AV} (h:Put l 0 vs l'):Put (a::l) 0 (v::vs) (v::l')
 |skip {a:AV} {k:Nat} {l vs l':List AV} (h:Put l k vs l'):Put (a::l) (k+1) vs (a::l')
theorem Put.eq {cs:List AV}{k:Nat}{vs out:List AV}(h:Put cs k vs out):k+vs.length≤cs.length∧out=cs.take k++vs++cs.drop (k+vs.length):=by
 induction h with
 |done=>simp
 |put _ ih=>
  obtain⟨h1,h2⟩:=ih;refine⟨by simp at h1⊢;omega, ?_⟩;simp at h2⊢;exact h2
 |@skip a k l vs l' _ ih=>
  obtain⟨h1,h2⟩:=ih;refine⟨by simp at h1⊢;omega, ?_⟩;rw[show k+1+vs.length=(k+vs.length)+1 by omega];simp at h2⊢;exact h2
inductive Fill (pl:List (Nat×Nat)):List AV→List (Nat×AV)→List AV→Prop
 |nil {cs:List AV} :Fill pl cs [] cs
 |cons {cs cs' out:List AV} {i off sz:Nat} {v:AV} {r:List (Nat×AV)} (hp:pl[i]? =some (off,sz)) (hl:v.cells.length=sz) (hc:v.cells.all AV.cell=true) (h:Put cs off v.cells cs') (hr:Fill pl cs' r out):Fill pl cs ((i,v)::r) out
theorem Fill.eq {pl:List (Nat×Nat)}{cs out:List AV}{r:List (Nat×AV)}(h:Fill pl cs r out):MQ pl cs r=some out:=by
 induction h with
 |nil=>rfl
 |@cons cs cs' out i off sz v r hp hl hc h _ ih=>
  obtain⟨h1,h2⟩:=h.eq;unfold MQ;rw[hp];simp only;rw[if_pos (by simp[hl,hc];rw[hl]at h1;exact h1),←hl,←h2,ih]
inductive SPut:dS→Nat→Nat→List AV→dS→Prop
 |here {r off:Nat} {bt:TypeId} {cs vs cs':List AV} {σ:dS} (h:Put cs off vs cs') (hn:Fresh r σ):SPut ((r,.box bt cs)::σ) r off vs ((r,.box bt cs')::σ)
 |next {r q off:Nat} {y:Ent} {vs:List AV} {σ σ':dS} (hne:r≠q) (h:SPut σ r off vs σ'):SPut ((q,y)::σ) r off vs ((q,y)::σ')
inductive SSet:dS→Nat→Ent→Nat→Ent→dS→Prop
 |here {r r':Nat} {x x':Ent} {σ:dS} (hn:Fresh r σ):SSet ((r,x)::σ) r x r' x' ((r',x')::σ)
 |next {r q r':Nat} {x x' y:Ent} {σ σ':dS} (hne:r≠q) (h:SSet σ r x r' x' σ'):SSet ((q,y)::σ) r x r' x' ((q,y)::σ')
theorem SSet.get {σ σ':dS}{r r':Nat}{x x':Ent}(h:SSet σ r x r' x' σ'):gN σ r=some x:=by
 induction h with
 |here _=>exact jS
 |next hne _ ih=>exact jT hne ih
theorem Fresh.cons {r q:Nat}{y:Ent}{σ:dS}(h:q≠r)(k:Fresh r σ):Fresh r ((q,y)::σ):=by rw[aO];exact⟨h,k⟩
theorem SSet.sub {σ σ':dS}{r r':Nat}{x x':Ent}(h:SSet σ r x r' x' σ'):∀p∈σ',p∈(r',x')::eO [r] σ:=by
 induction h with
 |@here r r' x x' σ hn=>
  intro p hp;rcases List.mem_cons.1 hp with rfl|hp
  ·simp
  ·refine List.mem_cons_of_mem _ ?_;simp only[eO,List.mem_filter];exact⟨List.mem_cons_of_mem _ hp,by simpa using hn p hp⟩
 |@next r q r' x x' y σ σ' hne _ ih=>
  intro p hp;rcases List.mem_cons.1 hp with rfl|hp
  ·refine List.mem_cons_of_mem _ ?_;simp only[eO,List.mem_filter];exact⟨by simp,by simpa using fun e=>hne e.symm⟩
  ·rcases List.mem_cons.1 (ih p hp)with rfl|h
   ·simp
   ·refine List.mem_cons_of_mem _ ?_;simp only[eO,List.mem_filter]at h⊢;exact⟨List.mem_cons_of_mem _ h.1,h.2⟩
inductive SDel:dS→Nat→Ent→dS→Prop
 |here {r:Nat} {x:Ent} {σ:dS} (hn:Fresh r σ):SDel ((r,x)::σ) r x σ
 |next {r q:Nat} {x y:Ent} {σ σ':dS} (hne:r≠q) (h:SDel σ r x σ'):SDel ((q,y)::σ) r x ((q,y)::σ')
theorem SDel.get {σ σ':dS}{r:Nat}{x:Ent}(h:SDel σ r x σ'):gN σ r=some x:=by
 induction h with
 |here _=>exact jS
 |next hne _ ih=>exact jT hne ih
theorem SDel.sub {σ σ':dS}{r:Nat}{x:Ent}(h:SDel σ r x σ'):∀p∈σ',p∈σ∧p.1≠r:=by
 induction h with
 |here hn=>intro p hp;exact⟨List.mem_cons_of_mem _ hp,hn p hp⟩
 |next hne _ ih=>
  intro p hp;rcases List.mem_cons.1 hp with rfl|hp
  ·exact⟨List.mem_cons_self,fun e=>hne e.symm⟩
  ·exact⟨List.mem_cons_of_mem _ (ih p hp).1,(ih p hp).2⟩
theorem aHN{fr:Fr}{σ σ':dS}{i q off len sz:Nat}{et:TypeId}{es es':List (List AV)}(hx:dW fr i=some (.own q off len))(hd:SDel σ q (.arr et sz es) σ')(hle:off+len≤es.length)(he:(es.drop off).take len=es'):SGo ⟨fr,σ⟩ ⟨(i,.ro sz es' .any)::fr,σ'⟩:=by
 refine pU [q] (fun j x' hj=> ?_) (fun p hp=> ?_)
 ·simp only[dW]at hj;split at hj
  ·next e=>
   subst e;obtain rfl:=Option.some.inj hj;exact⟨_,hx,he▸Bor.own List.mem_cons_self hd.get hle⟩
  ·exact⟨x',hj,.refl _⟩
 ·obtain⟨h1,h2⟩:=hd.sub p hp;exact⟨by simpa using h2,p.2,h1,.refl _⟩
theorem SPut.set {σ σ':dS}{r off:Nat}{vs:List AV}(h:SPut σ r off vs σ'):∃bt cs cs',Put cs off vs cs'∧SSet σ r (.box bt cs) r (.box bt cs') σ':=by
 induction h with
 |here h hn=>exact⟨_,_,_,h,.here hn⟩
 |next hne _ ih=>obtain⟨bt,cs,cs',h1,h2⟩:=ih;exact⟨bt,cs,cs',h1,.next hne h2⟩
section
variable {P : Program} {n : Nat} {ops : Array Oper} {rest : List Oper} {fr : Fr} {σ σ' : dS} {K : ASt → Prop} {op : Op} {ty t t' : TypeId} {pos : String} {af : Array Edge} {x y : Operand} {c : Bool} {d : Nat}
theorem E{s:ASt}{v:AV}(h:aev s x=some v):Ev s c x v:=.here h
theorem W{s:ASt}{v:AV}{c':Bool}(h:aev s x=some (.when c' v))(hc:c=true→c'=true):Ev s c x v:=.when h hc
theorem aQ{α:Type} [Inhabited α] {l:List α}{j:Nat}(h:j<l.length):l[j]? =some l[j]! :=by simp[h]
theorem bS{P:Program}{op:Op}{ty:TypeId}{s:ASt}{v:AV}:Lop P op ty s false v []:=⟨fun r hr=>by simp at hr,fun _ _ _ _ _ _ _ hc=>by cases hc⟩
theorem StLe.of_mem {σ:dS}:∀ {l:dS},(∀p∈l,p∈σ)→StLe σ l
 |[],_=>.nil
 |(r,y)::l,h=>.cons (h (r,y) (by simp)) rfl (StLe.of_mem fun p hp=>h p (by simp[hp]))
theorem StLe.refl (σ:dS):StLe σ σ:=.of_mem fun _ h=>h
theorem cW{a b:Nat}(h:Nat.ble (a+1) b=true):a<b:=Nat.le_of_ble_eq_true h
theorem lo{v:AV}{rs:List Nat}(h:Lop P op ty ⟨fr,σ⟩ true v rs)(hd:Nat.ble (d+1) n=true)(hK:RS P n ops rest ⟨(d,v)::fr,σ⟩ K):RS P n ops (⟨some d,op,ty,pos,af,none⟩::rest) ⟨fr,σ⟩ K:=aBT h (cW hd) hK
theorem lg{j dj:Nat}{want b:Bool}{v:AV}{rs:List Nat}(hj:(ops[j]?).bind (·.dst)=some dj)(hb:dW fr dj=some (.bool b))(h:Lop P op ty ⟨fr,σ⟩ (b==want) v rs)(hd:Nat.ble (d+1) n=true)
  (hK:RS P n ops rest ⟨(d,.when (b==want) v)::fr,σ⟩ K):RS P n ops (⟨some d,op,ty,pos,af,some (j,want)⟩::rest) ⟨fr,σ⟩ K:=SV hj hb h (cW hd) hK
theorem lw{j dj:Nat}{want b c0:Bool}{v:AV}{rs:List Nat}(hj:(ops[j]?).bind (·.dst)=some dj)(hb:dW fr dj=some (.when c0 (.bool b)))(h:Lop P op ty ⟨fr,σ⟩ (c0&&(b==want)) v rs)(hd:Nat.ble (d+1) n=true)
  (hK:RS P n ops rest ⟨(d,.when (c0&&(b==want)) v)::fr,σ⟩ K):RS P n ops (⟨some d,op,ty,pos,af,some (j,want)⟩::rest) ⟨fr,σ⟩ K:=KE hj hb h (cW hd) hK
theorem ln{j dj:Nat}{want b:Bool}(hj:(ops[j]?).bind (·.dst)=some dj)(hb:dW fr dj=some (.bool b))(hne:(b==want)=false)(hd:Nat.ble (d+1) n=true)
  (hK:RS P n ops rest ⟨(d,.when false (.bool false))::fr,σ⟩ K):RS P n ops (⟨some d,op,ty,pos,af,some (j,want)⟩::rest) ⟨fr,σ⟩ K:=by
 refine SV (v:=.bool false) (rs:=[]) hj hb ?_ (cW hd) ?_
 ·rw[hne];exact bS
 ·rw[hne];exact hK
theorem le{ks:List Nat}{fr':Fr}(h:KeepIs fr ks fr')(hK:K ⟨fr',σ⟩):RS P n ops [] ⟨fr,σ⟩ (zA ks K):=aHJ h rfl hK
theorem OS{s:ASt}{fs:Array Field} [Ty P t (.struct fs)] {sz by_:Nat}{z:Value} [Tz P t sz by_ z] {pl:List (Nat×Nat)} [Tf P t pl] {parts:Array (Nat×Operand)}{vs:List (Nat×AV)}{out zs:List AV}(hp:PEvs s c parts.toList vs)(hz:z.cells.toList.map uW=zs)(hf:Fill pl zs vs out):
  Lop P (.build t parts) ty s c (.agg out) []:=aAF rfl hp (by rw[hz];exact hf.eq)
theorem aEl{ts:List Nat}{q off len sz:Nat}{et:TypeId}{es es':List (List AV)}(ht:q∈ts)(hg:gN σ q=some (.arr et sz es))(hle:off+len≤es.length)(he:(es.drop off).take len=es'):Bor σ ts (.own q off len) (.ro sz es' .any):=he▸Bor.own ht hg hle
theorem jI{s:ASt}{x y z:Operand}{v:AV}(h:Ev s c x (.bool true))(h1:Ev s c y v):Lop P (.pick x y z) ty s c v []:=
 Lop.pure_ fun M F N n a w hr hc=>⟨_,h1.vr hr hc,fun w' o ho _=>by
  have e:=h.bool hr hc;simp[execOp,ho,e,asBool]⟩
theorem jJ{s:ASt}{x y z:Operand}{v:AV}(h:Ev s c x (.bool false))(h1:Ev s c z v):Lop P (.pick x y z) ty s c v []:=
 Lop.pure_ fun M F N n a w hr hc=>⟨_,h1.vr hr hc,fun w' o ho _=>by
  have e:=h.bool hr hc;simp[execOp,ho,e,asBool]⟩
theorem aB4:∀x∈([]:List AV),NoF x:=fun x hx=>by simp at hx
theorem aAI{a:AV}{l:List AV}(h:NoF a)(k:∀x∈l,NoF x):∀x∈a::l,NoF x:=fun x hx=>by
 rcases List.mem_cons.1 hx with rfl|hx
 ·exact h
 ·exact k x hx
inductive BorL (σ:dS) (ts:List Nat):List AV→List AV→Prop
 |nil:BorL σ ts [] []
 |cons {x y:AV} {xs ys:List AV} (h:Bor σ ts x y) (r:BorL σ ts xs ys):BorL σ ts (x::xs) (y::ys)
theorem BorL.at_ {ts:List Nat}{cs cs':List AV}(h:BorL σ ts cs cs'):cs'.length=cs.length∧∀(j:Nat) (a':AV),cs'[j]? =some a'→Bor σ ts (cs.getD j .undef) a':=by
 induction h with
 |nil=>exact⟨rfl,fun j a h=>by simp at h⟩
 |cons h _ ih=>
  refine⟨by simp[ih.1],fun j a' hj=> ?_⟩;cases j with
  |zero=>simp at hj;subst hj;simpa using h
  |succ j=>simpa using ih.2 j a' (by simpa using hj)
theorem aB5{ts:List Nat}{cs cs':List AV}(h:BorL σ ts cs cs'):Bor σ ts (.agg cs) (.agg cs'):=
 .agg (fun j=>cs.getD j .undef) h.at_.1 (fun j a hj=>by simp[hj]) h.at_.2
theorem bx{v:AV}{cs:List AV}(h:aev ⟨fr,σ⟩ x=some v)(hc:v.cells.all AV.cell=true)(hv:v.cells=cs)(hd:Nat.ble (d+1) n=true)(hK:∀r,Fresh r σ→RS P n ops rest ⟨(d,.ptr r 0)::fr,(r,.box t cs)::σ⟩ K):RS P n ops (⟨some d,.box t x,ty,pos,af,none⟩::rest) ⟨fr,σ⟩ K:=by
 subst hv;exact gK (YZ h hc (cW hd) hK)
theorem al{sz by_:Nat}{z:Value} [Tz P t sz by_ z] {cs:List AV}(hd:Nat.ble (d+1) n=true)(hz:z.cells.toList.map cV=cs)(hK:∀r,Fresh r σ→RS P n ops rest ⟨(d,.ptr r 0)::fr,(r,.box t cs)::σ⟩ K):RS P n ops (⟨some d,.alloc t,ty,pos,af,none⟩::rest) ⟨fr,σ⟩ K:=by
 subst hz;exact gK (BK (cW hd) hK)
theorem BN{s:ASt}{σ2:dS}(h:∀p∈σ2,p∈s.σ)(hK:RS P n ops rest ⟨s.fr,σ2⟩ K):RS P n ops rest s K:=iK (s':=⟨s.fr,σ2⟩) (SGo.of_le (fun _ x h=>⟨x,h,VLe.refl x⟩) h) hK
theorem GI{listed:Array Bool}{todo:List (Nat×Bool)}{held:List (Nat×List Nat)}{s:ASt}{σ2:dS}(h:∀p∈σ2,p∈s.σ)(hK:RD P n ops listed todo held ⟨s.fr,σ2⟩ K):RD P n ops listed todo held s K:=by
 intro hsel hc M F N a w hr;exact jG (PostN.ext ((Ext.refl M F N w s.σ).sub h)) (fun _ _ h=>h) _ _ _ _ (hK hsel hc M F N a w ⟨hr.size,hr.defers,hr.fr,hr.st.sub h⟩)
theorem SO{sz by_:Nat}{z:Value} [Tz P t sz by_ z] {r off:Nat}{v:AV}(h:aev ⟨fr,σ⟩ x=some (.ptr r off))(hv:aev ⟨fr,σ⟩ y=some v)(hc:v.cells.all AV.cell=true)(hl:v.cells.length=sz)(hs:SPut σ r off v.cells σ')
  (hK:RS P n ops rest ⟨fr,σ'⟩ K):RS P n ops (⟨none,.store t x y,ty,pos,af,none⟩::rest) ⟨fr,σ⟩ K:=by
 obtain⟨bt,cs,cs',h1,h2⟩:=hs.set;obtain⟨k1,k2⟩:=h1.eq;refine gK (xJ h h2.get hv hc hl (by omega) ?_);refine BN (fun p hp=> ?_) hK;rw[hl]at k2;rw[←k2];exact h2.sub p hp
theorem sto{sz1 by_:Nat}{z:Value} [Tz P t sz1 by_ z] {r i off:Nat}{et:TypeId}{sz:Nat}{es es':List (List AV)}{e e':List AV}{v:AV}(h:aev ⟨fr,σ⟩ x=some (.ow r i off))(hv:aev ⟨fr,σ⟩ y=some v)(hc:v.cells.all AV.cell=true)(hl:v.cells.length=sz1)
  (hs:SSet σ r (.arr et sz es) r (.arr et sz es') σ') (he:es[i]? =some e) (hp:Put e off v.cells e') (he':es'=es.set i e') (hK:RS P n ops rest ⟨fr,σ'⟩ K):RS P n ops (⟨none,.store t x y,ty,pos,af,none⟩::rest) ⟨fr,σ⟩ K:=by
 obtain⟨k1,k2⟩:=hp.eq;refine gK (vD h hs.get he (by omega) hv hc hl ?_);refine BN (fun p hp=> ?_) hK;rw[hl]at k2;rw[←k2,←he'];exact hs.sub p hp
theorem bs{e:TypeId} [Ty P t (.slice e)] {sz by_:Nat}{zv:Value} [Tz P e sz by_ zv] {len:Nat}{parts:Array (Nat×Operand)}{vs:List AV}{es:List (List AV)}(hv:AEvs ⟨fr,σ⟩ (parts.toList.map (·.2)) vs)(hp:parts.toList=sD 0 (parts.toList.map (·.2)))(hlen:(len==vs.length)=true)(h0:(decide (0<sz)&&decide (len*sz≤16777216))=true)
  (hc:(vs.all fun v=>v.cells.length==sz&&v.cells.all AV.cell)=true) (he:vs.map AV.cells=es) (hd:Nat.ble (d+1) n=true) (hK:∀r,Fresh r σ→RS P n ops rest ⟨(d,.own r 0 len)::fr,(r,.arr e sz es)::σ⟩ K):RS P n ops (⟨some d,.buildSlice t len parts,ty,pos,af,none⟩::rest) ⟨fr,σ⟩ K:=by
 subst he;exact gK (oU hp hv hlen h0 hc (cW hd) hK)
theorem mk{e:TypeId} [Ty P t (.slice e)] {sz by_:Nat}{zv:Value} [Tz P e sz by_ zv] {k k':IntKind}{m:Int}{l:Nat}{z:List AV}(hl:aev ⟨fr,σ⟩ x=some (.int k m))(hc:aev ⟨fr,σ⟩ y=some (.int k' m))(hm:m=(l:Int))(h0:(decide (0<sz)&&(zv.cells.size==sz)&&(zv.cells.toList.map cV).all AV.cell)=true)
  (hby:by_*l≤281474976710656) (hml:l≤maxLen) (hz:zv.cells.toList.map cV=z) (hd:Nat.ble (d+1) n=true) (hK:∀r,Fresh r σ→RS P n ops rest ⟨(d,.own r 0 l)::fr,(r,.arr e sz (List.replicate l z))::σ⟩ K):RS P n ops (⟨some d,.makeSlice t x y,ty,pos,af,none⟩::rest) ⟨fr,σ⟩ K:=by
 subst hz;exact gK (aB2 hl hc hm h0 hby hml (cW hd) hK)
theorem ap{e:TypeId} [Ty P t (.slice e)] {sz by_:Nat}{zv:Value} [Tz P e sz by_ zv] {r len len':Nat}{es ys es':List (List AV)}(hz:zv.cells.size=sz)(hb:aev ⟨fr,σ⟩ x=some (.own r 0 len))(hg:gN σ r=some (.arr e sz es))(hlen:len=es.length)(hy:Src ⟨fr,σ⟩ y sz ys)
  (he:es++ys=es') (hl':len'=len+ys.length) (hmax:len'≤maxLen) (hby:len'*by_≤140737488355328) (hd:Nat.ble (d+1) n=true)
  (hK:∀r',Fresh r' (eO [r] σ)→∃σ',SSet σ r (.arr e sz es) r' (.arr e sz es') σ'∧RS P n ops rest ⟨(d,.own r' 0 len')::fr,σ'⟩ K):RS P n ops (⟨some d,.call { callee:=.builtin .append,args:=#[x,y],argTypes:=#[t,t] },ty,pos,af,none⟩::rest) ⟨fr,σ⟩ K:=by
 subst he hl';refine gK (pT hz hb hg (by omega) hy hmax hby (cW hd) fun r' hf=> ?_);obtain⟨σ',hs,hK⟩:=hK r' hf;rw[hlen,List.take_length];refine BN (fun p hp=>hs.sub p hp) ?_;rw[←hlen];exact hK
theorem cp{e tS:TypeId} [Ty P t (.slice e)] {by_:Nat}{zv:Value} [Tz P e 1 by_ zv] {r off len m:Nat}{et:TypeId}{es ys es':List (List AV)}(hb:aev ⟨fr,σ⟩ x=some (.own r off len))(hs:SSet σ r (.arr et 1 es) r (.arr et 1 es') σ')(hle:off+len≤es.length)(hy:Src ⟨fr,σ⟩ y 1 ys)(hm:m=min ys.length len)
  (he:es'=es.take off++ys.take m++es.drop (off+m)) (hd:Nat.ble (d+1) n=true) (hK:RS P n ops rest ⟨(d,.int .i64 m)::fr,σ'⟩ K):RS P n ops (⟨some d,.call { callee:=.builtin .copy,args:=#[x,y],argTypes:=#[t,tS] },ty,pos,af,none⟩::rest) ⟨fr,σ⟩ K:=by
 subst he;exact gK (TB hb hs.get hle hy hm (cW hd) (BN (s:=⟨_,_⟩) (fun p hp=>hs.sub p hp) hK))
theorem pu{f:FuncId}{xs:List Operand}{ats:Array TypeId}{args:List AV}{v:AV}(ts:List Nat)(hf:∀args w,(callFunc f args).run P w=.ok (.enter f args) w)(h:SCall P f args [] (fun x σ'=>x=v∧σ'=[]))(hd:Nat.ble (d+1) n=true)
  (hargs:ArgsIf ⟨fr,σ⟩ true ts xs args) (hno:NoF v) (hK:RS P n ops rest ⟨(d,v)::fr,σ⟩ K):RS P n ops (⟨some d,.call { callee:=.value (.func f),args:=xs.toArray,argTypes:=ats },ty,pos,af,none⟩::rest) ⟨fr,σ⟩ K:=aEk ts hf h (cW hd) hargs hno hK
theorem zE{f:FuncId}{j dj:Nat}{want b:Bool}{xs:List Operand}{ats:Array TypeId}{args:List AV}{v:AV}(ts:List Nat)(hj:(ops[j]?).bind (·.dst)=some dj)(hb:dW fr dj=some (.bool b))(hf:∀args w,(callFunc f args).run P w=.ok (.enter f args) w)
  (h:(b==want)=true→SCall P f args [] (fun x σ'=>x=v∧σ'=[])) (hd:Nat.ble (d+1) n=true) (hargs:ArgsIf ⟨fr,σ⟩ (b==want) ts xs args) (hno:NoF v) (hK:RS P n ops rest ⟨(d,.when (b==want) v)::fr,σ⟩ K):
  RS P n ops (⟨some d,.call { callee:=.value (.func f),args:=xs.toArray,argTypes:=ats },ty,pos,af,some (j,want)⟩::rest) ⟨fr,σ⟩ K:=KH ts hj hb hf h (cW hd) hargs hno hK
theorem ne{e:TypeId} [Ty P t (.slice e)] {sz:Nat}{es:List (List AV)}{k:Rk}(h:aev ⟨fr,σ⟩ x=some (.ro sz es k))(hy:y=.const (.slice none 0 0))(hd:Nat.ble (d+1) n=true)(hK:∀b,(b=true→es=[])→(k=.nil→b=true)→RS P n ops rest ⟨(d,.bool b)::fr,σ⟩ K):
  RS P n ops (⟨some d,.binOp .eql t x y t',ty,pos,af,none⟩::rest) ⟨fr,σ⟩ K:=aAG h hy (cW hd) hK
theorem cl{f:FuncId}{xs:List Operand}{ats:Array TypeId}{args:List AV}{R:AV→dS→Prop}(ts:List Nat)(hf:∀args w,(callFunc f args).run P w=.ok (.enter f args) w)(h:SCall P f args [] R)(hd:Nat.ble (d+1) n=true)
  (hargs:ArgsBor ⟨fr,σ⟩ ts xs args) (hno:∀x σ',R x σ'→NoF x∧∀p∈σ',ENoF p.2) (hK:∀x σ',R x σ'→(∀p∈σ',Fresh p.1 σ)→RS P n ops rest ⟨(d,x)::fr,σ'++σ⟩ K):
  RS P n ops (⟨some d,.call { callee:=.value (.func f),args:=xs.toArray,argTypes:=ats },ty,pos,af,none⟩::rest) ⟨fr,σ⟩ K:=gK (rL ts hf h (cW hd) hargs hno hK)
theorem cw{f:FuncId}{xs:List Operand}{ats:Array TypeId}{args:List AV}{R:AV→dS→Prop}(σ1:dS)(hf:∀args w,(callFunc f args).run P w=.ok (.enter f args) w)(h:SCall P f args σ1 R)(hd:Nat.ble (d+1) n=true)
  (hargs:ArgsLe ⟨fr,σ⟩ xs args) (hsub:∀p∈σ1,p∈σ) (hK:∀x σ',R x σ'→(∀p∈σ',(∃q∈σ1,q.1=p.1)∨Fresh p.1 σ)→RS P n ops rest ⟨(d,x)::fr,σ'++eO (σ1.map (·.1)) σ⟩ K):
  RS P n ops (⟨some d,.call { callee:=.value (.func f),args:=xs.toArray,argTypes:=ats },ty,pos,af,none⟩::rest) ⟨fr,σ⟩ K:=gK (sA hf h (cW hd) hargs hsub hK)
theorem fz{i q off len sz:Nat}{et:TypeId}{es es':List (List AV)}(hx:dW fr i=some (.own q off len))(hd:SDel σ q (.arr et sz es) σ')(hle:off+len≤es.length)(he:(es.drop off).take len=es')(hK:RS P n ops rest ⟨(i,.ro sz es' .any)::fr,σ'⟩ K):RS P n ops rest ⟨fr,σ⟩ K:=
 iK (aHN hx hd hle he) hK
theorem gy{dst:Option Nat}{s:ASt}{j dj:Nat}{want:Bool}(hj:(ops[j]?).bind (·.dst)=some dj)(hb:dW s.fr dj=some (.bool want))(h:RS P n (ops) (⟨dst,op,ty,pos,af,none⟩::rest) s K):RS P n ops (⟨dst,op,ty,pos,af,some (j,want)⟩::rest) s K:=by
 intro M F N a w hr;have hw:=nO (o:=⟨dst,op,ty,pos,af,some (j,want)⟩) hr rfl hj hb;have h1:=h M F N a w hr;unfold wpList at h1⊢;rw[hw,if_pos (by cases want<;>rfl)];rw[if_pos (by rfl)]at h1;exact h1
variable {listed : Array Bool} {todo : List (Nat × Bool)} {held : List (Nat × List Nat)} {i : Nat}
theorem fI{v:AV}{rs:List Nat}(hi:ops[i]? =some ⟨some d,op,ty,pos,af,none⟩)(h:Lop P op ty ⟨fr,σ⟩ true v rs)(hd:Nat.ble (d+1) n=true)(hK:RD P n ops (listed.setIfInBounds i true) todo ((i,rs)::held) ⟨(d,v)::fr,σ⟩ K):
  RD P n ops listed ((i,true)::todo) held ⟨fr,σ⟩ K:=aB0 hi h (cW hd) hK
theorem eQ{j dj:Nat}{want b:Bool}{v:AV}{rs:List Nat}(hi:ops[i]? =some ⟨some d,op,ty,pos,af,some (j,want)⟩)(hj:(ops[j]?).bind (·.dst)=some dj)(hb:dW fr dj=some (.bool b))(h:Lop P op ty ⟨fr,σ⟩ (b==want) v rs)(hd:Nat.ble (d+1) n=true)
  (hK:RD P n ops (listed.setIfInBounds i true) todo ((i,rs)::held) ⟨(d,.when (b==want) v)::fr,σ⟩ K):RD P n ops listed ((i,true)::todo) held ⟨fr,σ⟩ K:=SY hi hj hb h (cW hd) hK
theorem eJ{j dj:Nat}{want b c0:Bool}{v:AV}{rs:List Nat}(hi:ops[i]? =some ⟨some d,op,ty,pos,af,some (j,want)⟩)(hj:(ops[j]?).bind (·.dst)=some dj)(hb:dW fr dj=some (.when c0 (.bool b)))(h:Lop P op ty ⟨fr,σ⟩ (c0&&(b==want)) v rs)(hd:Nat.ble (d+1) n=true)
  (hK:RD P n ops (listed.setIfInBounds i true) todo ((i,rs)::held) ⟨(d,.when (c0&&(b==want)) v)::fr,σ⟩ K):RD P n ops listed ((i,true)::todo) held ⟨fr,σ⟩ K:=KF hi hj hb h (cW hd) hK
theorem jY{j dj:Nat}{want b:Bool}(hi:ops[i]? =some ⟨some d,op,ty,pos,af,some (j,want)⟩)(hj:(ops[j]?).bind (·.dst)=some dj)(hb:dW fr dj=some (.bool b))(hne:(b==want)=false)(hd:Nat.ble (d+1) n=true)
  (hK:RD P n ops (listed.setIfInBounds i true) todo ((i,[])::held) ⟨(d,.when false (.bool false))::fr,σ⟩ K):RD P n ops listed ((i,true)::todo) held ⟨fr,σ⟩ K:=by
 refine SY (v:=.bool false) (rs:=[]) hi hj hb ?_ (cW hd) ?_
 ·rw[hne];exact bS
 ·rw[hne];exact hK
theorem de{ks:List Nat}{fr':Fr}(h:KeepIs fr ks fr')(hK:K ⟨fr',σ⟩):RD P n ops listed [] held ⟨fr,σ⟩ (zA ks K):=aHK h rfl hK
theorem dbx{v:AV}{cs:List AV}(hi:ops[i]? =some ⟨some d,.box t x,ty,pos,af,none⟩)(h:aev ⟨fr,σ⟩ x=some v)(hc:v.cells.all AV.cell=true)(hv:v.cells=cs)(hd:Nat.ble (d+1) n=true)(hK:∀r,Fresh r σ→RD P n ops (listed.setIfInBounds i true) todo held ⟨(d,.ptr r 0)::fr,(r,.box t cs)::σ⟩ K):
  RD P n ops listed ((i,false)::todo) held ⟨fr,σ⟩ K:=by
 subst hv;exact vE hi (YZ h hc (cW hd) hK)
theorem dal{sz by_:Nat}{z:Value}{cs:List AV}(hi:ops[i]? =some ⟨some d,.alloc t,ty,pos,af,none⟩)(i1:Tz P t sz by_ z)(hd:Nat.ble (d+1) n=true)(hz:z.cells.toList.map cV=cs)(hK:∀r,Fresh r σ→RD P n ops (listed.setIfInBounds i true) todo held ⟨(d,.ptr r 0)::fr,(r,.box t cs)::σ⟩ K):
  RD P n ops listed ((i,false)::todo) held ⟨fr,σ⟩ K:=by
 subst hz;exact vE hi (BK (cW hd) hK)
theorem aLY{sz by_:Nat}{z:Value}{r off:Nat}{v:AV}(hi:ops[i]? =some ⟨none,.store t x y,ty,pos,af,none⟩)(i1:Tz P t sz by_ z)(h:aev ⟨fr,σ⟩ x=some (.ptr r off))(hv:aev ⟨fr,σ⟩ y=some v)(hc:v.cells.all AV.cell=true)(hl:v.cells.length=sz)(hs:SPut σ r off v.cells σ')
  (hb:HB ops i (σ.map (·.1)) [r] held) (hK:RD P n ops (listed.setIfInBounds i true) todo held ⟨fr,σ'⟩ K):RD P n ops listed ((i,false)::todo) held ⟨fr,σ⟩ K:=by
 obtain⟨bt,cs,cs',h1,h2⟩:=hs.set;obtain⟨k1,k2⟩:=h1.eq;refine zD hi (xJ h h2.get hv hc hl (by omega) ?_) (fun q hq=> ?_) hb
 ·refine GI (fun p hp=> ?_) hK;rw[hl]at k2;rw[←k2];exact h2.sub p hp
 ·obtain rfl:=List.mem_singleton.1 hq;exact List.mem_map.2 ⟨_,bX h2.get,rfl⟩
theorem aHO{sz1 by_:Nat}{z:Value}{r j off:Nat}{et:TypeId}{sz:Nat}{es es':List (List AV)}{e e':List AV}{v:AV}(hi:ops[i]? =some ⟨none,.store t x y,ty,pos,af,none⟩)(i1:Tz P t sz1 by_ z)(h:aev ⟨fr,σ⟩ x=some (.ow r j off))(hv:aev ⟨fr,σ⟩ y=some v)(hc:v.cells.all AV.cell=true)(hl:v.cells.length=sz1)
  (hs:SSet σ r (.arr et sz es) r (.arr et sz es') σ') (he:es[j]? =some e) (hp:Put e off v.cells e') (he':es'=es.set j e') (hb:HB ops i (σ.map (·.1)) [r] held) (hK:RD P n ops (listed.setIfInBounds i true) todo held ⟨fr,σ'⟩ K):RD P n ops listed ((i,false)::todo) held ⟨fr,σ⟩ K:=by
 obtain⟨k1,k2⟩:=hp.eq;refine zD hi (vD h hs.get he (by omega) hv hc hl ?_) (fun q hq=> ?_) hb
 ·refine GI (fun p hp=> ?_) hK;rw[hl]at k2;rw[←k2,←he'];exact hs.sub p hp
 ·obtain rfl:=List.mem_singleton.1 hq;exact List.mem_map.2 ⟨_,bX hs.get,rfl⟩
theorem dbs{e:TypeId}{sz by_:Nat}{zv:Value}{len:Nat}{parts:Array (Nat×Operand)}{vs:List AV}{es:List (List AV)}(hi:ops[i]? =some ⟨some d,.buildSlice t len parts,ty,pos,af,none⟩)(i1:Ty P t (.slice e))(i2:Tz P e sz by_ zv)(hv:AEvs ⟨fr,σ⟩ (parts.toList.map (·.2)) vs)(hp:parts.toList=sD 0 (parts.toList.map (·.2)))(hlen:(len==vs.length)=true)(h0:(decide (0<sz)&&decide (len*sz≤16777216))=true)
  (hc:(vs.all fun v=>v.cells.length==sz&&v.cells.all AV.cell)=true) (he:vs.map AV.cells=es) (hd:Nat.ble (d+1) n=true) (hK:∀r,Fresh r σ→RD P n ops (listed.setIfInBounds i true) todo held ⟨(d,.own r 0 len)::fr,(r,.arr e sz es)::σ⟩ K):RD P n ops listed ((i,false)::todo) held ⟨fr,σ⟩ K:=by
 subst he;exact vE hi (oU hp hv hlen h0 hc (cW hd) hK)
theorem dap{e:TypeId}{sz by_:Nat}{zv:Value}{r len len':Nat}{es ys es':List (List AV)}(hi:ops[i]? =some ⟨some d,.call { callee:=.builtin .append,args:=#[x,y],argTypes:=#[t,t] },ty,pos,af,none⟩)(i1:Ty P t (.slice e))(i2:Tz P e sz by_ zv)(hz:zv.cells.size=sz)(hx:aev ⟨fr,σ⟩ x=some (.own r 0 len))(hg:gN σ r=some (.arr e sz es))(hlen:len=es.length)(hy:Src ⟨fr,σ⟩ y sz ys)
  (he:es++ys=es') (hl':len'=len+ys.length) (hmax:len'≤maxLen) (hby:len'*by_≤140737488355328) (hd:Nat.ble (d+1) n=true) (hb:HB ops i (σ.map (·.1)) [r] held)
  (hK:∀r',Fresh r' (eO [r] σ)→∃σ',SSet σ r (.arr e sz es) r' (.arr e sz es') σ'∧RD P n ops (listed.setIfInBounds i true) todo held ⟨(d,.own r' 0 len')::fr,σ'⟩ K):RD P n ops listed ((i,false)::todo) held ⟨fr,σ⟩ K:=by
 subst he hl';refine zD hi (pT hz hx hg (by omega) hy hmax hby (cW hd) fun r' hf=> ?_) (fun q hq=> ?_) hb
 ·obtain⟨σ',hs,hK⟩:=hK r' hf;rw[hlen,List.take_length];refine GI (fun p hp=>hs.sub p hp) ?_;rw[←hlen];exact hK
 ·obtain rfl:=List.mem_singleton.1 hq;exact List.mem_map.2 ⟨_,bX hg,rfl⟩
theorem dpu{f:FuncId}{xs:List Operand}{ats:Array TypeId}{args:List AV}{v:AV}(ts:List Nat)(hi:ops[i]? =some ⟨some d,.call { callee:=.value (.func f),args:=xs.toArray,argTypes:=ats },ty,pos,af,none⟩)(hf:∀args w,(callFunc f args).run P w=.ok (.enter f args) w)(h:SCall P f args [] (fun x σ'=>x=v∧σ'=[]))(hd:Nat.ble (d+1) n=true)
  (hargs:ArgsIf ⟨fr,σ⟩ true ts xs args) (hno:NoF v) (hK:RD P n ops (listed.setIfInBounds i true) todo held ⟨(d,v)::fr,σ⟩ K):RD P n ops listed ((i,false)::todo) held ⟨fr,σ⟩ K:=vE hi (TD ts hf h (cW hd) hargs hno hK)
theorem dcl{f:FuncId}{xs:List Operand}{ats:Array TypeId}{args:List AV}{R:AV→dS→Prop}(ts:List Nat)(hi:ops[i]? =some ⟨some d,.call { callee:=.value (.func f),args:=xs.toArray,argTypes:=ats },ty,pos,af,none⟩)(hf:∀args w,(callFunc f args).run P w=.ok (.enter f args) w)(h:SCall P f args [] R)(hd:Nat.ble (d+1) n=true)
  (hargs:ArgsBor ⟨fr,σ⟩ ts xs args) (hno:∀x σ',R x σ'→NoF x∧∀p∈σ',ENoF p.2) (hK:∀x σ',R x σ'→(∀p∈σ',Fresh p.1 σ)→RD P n ops (listed.setIfInBounds i true) todo held ⟨(d,x)::fr,σ'++σ⟩ K):
  RD P n ops listed ((i,false)::todo) held ⟨fr,σ⟩ K:=vE hi (rL ts hf h (cW hd) hargs hno hK)
theorem rW{f:FuncId}{xs:List Operand}{ats:Array TypeId}{args:List AV}{R:AV→dS→Prop}(σ1:dS)(hi:ops[i]? =some ⟨some d,.call { callee:=.value (.func f),args:=xs.toArray,argTypes:=ats },ty,pos,af,none⟩)(hf:∀args w,(callFunc f args).run P w=.ok (.enter f args) w)(h:SCall P f args σ1 R)(hd:Nat.ble (d+1) n=true)
  (hargs:ArgsLe ⟨fr,σ⟩ xs args) (hsub:∀p∈σ1,p∈σ) (hb:HB ops i (σ.map (·.1)) (σ1.map (·.1)) held) (hK:∀x σ',R x σ'→(∀p∈σ',(∃q∈σ1,q.1=p.1)∨Fresh p.1 σ)→RD P n ops (listed.setIfInBounds i true) todo held ⟨(d,x)::fr,σ'++eO (σ1.map (·.1)) σ⟩ K):
  RD P n ops listed ((i,false)::todo) held ⟨fr,σ⟩ K:=zD hi (sA hf h (cW hd) hargs hsub hK) (fun r hr=>by obtain⟨p,hp,rfl⟩:=List.mem_map.1 hr;exact List.mem_map.2 ⟨p,hsub p hp,rfl⟩) hb
theorem dcp{e tS:TypeId}{by_:Nat}{zv:Value}{r off len m:Nat}{et:TypeId}{es ys es':List (List AV)}(hi:ops[i]? =some ⟨some d,.call { callee:=.builtin .copy,args:=#[x,y],argTypes:=#[t,tS] },ty,pos,af,none⟩)(i1:Ty P t (.slice e))(i2:Tz P e 1 by_ zv)(hx:aev ⟨fr,σ⟩ x=some (.own r off len))(hs:SSet σ r (.arr et 1 es) r (.arr et 1 es') σ')(hle:off+len≤es.length)(hy:Src ⟨fr,σ⟩ y 1 ys)(hm:m=min ys.length len)
  (he:es'=es.take off++ys.take m++es.drop (off+m)) (hd:Nat.ble (d+1) n=true) (hb:HB ops i (σ.map (·.1)) [r] held) (hK:RD P n ops (listed.setIfInBounds i true) todo held ⟨(d,.int .i64 m)::fr,σ'⟩ K):RD P n ops listed ((i,false)::todo) held ⟨fr,σ⟩ K:=by
 subst he;refine zD hi (TB hx hs.get hle hy hm (cW hd) (GI (s:=⟨_,_⟩) (fun p hp=>hs.sub p hp) hK)) (fun q hq=> ?_) hb;obtain rfl:=List.mem_singleton.1 hq;exact List.mem_map.2 ⟨_,bX hs.get,rfl⟩
end
theorem SR.retold {M:Mp}{F:Nat→Prop}{N:Nat}{w:World}{σ σ':dS}(h:SR M F N w σ)(hs:∀p∈σ',(∃x,(p.1,x)∈σ)∧ER M F w p.1 p.2):SR M F N w σ':=by
 refine⟨fun p hp=>(hs p hp).2,fun p hp q hq g h1 h2=> ?_, ?_,h.flt,h.fresh⟩
 ·obtain⟨x,hx⟩:=(hs p hp).1;obtain⟨y,hy⟩:=(hs q hq).1;exact h.inj (p.1,x) hx (q.1,y) hy g h1 h2
 ·rintro g ⟨p,hp,hg⟩;obtain⟨x,hx⟩:=(hs p hp).1;exact h.nof g ⟨_,hx,hg⟩
theorem Ext.retold {M:Mp}{F:Nat→Prop}{N:Nat}{w:World}{σ σ':dS}(hs:∀p∈σ',∃x,(p.1,x)∈σ):Ext M F N w σ M F N w σ':=by
 refine⟨fun _ _ h=>h,fun _ h=>h,Nat.le_refl _,Only.refl _ _, ?_,fun _ h=>.inl h, ?_⟩
 ·rintro g ⟨p,hp,hg⟩ _;obtain⟨x,hx⟩:=hs p hp;exact⟨_,hx,hg⟩
 ·intro p hp _;obtain⟨x,hx⟩:=hs p hp;exact⟨_,hx,rfl⟩
theorem cM{P:Program}{n:Nat}{ks:List Nat}{s:ASt}{c:Code}{Q:Exit→ASt→Prop}(r off:Nat)(e:TypeId)(sz:Nat)(h0:0<sz){bt:TypeId}{cs:List AV}{z:Nat}{k:Rk}(hg:gN s.σ r=some (.box bt cs))(hx:cs[off]? =some (.ro z [] k))(hk:k≠ .any)
  (h:∀q,Fresh q s.σ→∃σ',SSet s.σ r (.box bt cs) r (.box bt (cs.set off (.own q 0 0))) σ'∧SW P n ks c ⟨s.fr,(q,.arr e sz [])::σ'⟩ Q):SW P n ks c s Q:=by
 intro M F N a w hr;have hE:ER (fZ M N .virt) F w N (.arr e sz []):=⟨h0,fun x hx=>by simp at hx,.inl ⟨cN _,rfl⟩⟩
 obtain⟨r1,e1,n1⟩:=hr.new_ (w':=w) .virt (.arr e sz []) (fun _ _=>rfl) ⟨rfl,rfl,rfl⟩ (Nat.le_refl _) (fun g hg=>by simp[cD,cN]at hg) hE;obtain⟨σ',hs,hK⟩:=h N n1;have hmem:∀p∈(N,Ent.arr e sz [])::σ',∃x,(p.1,x)∈(N,Ent.arr e sz [])::s.σ:=by
  intro p hp;rcases List.mem_cons.1 hp with rfl|hp
  ·exact⟨_,List.mem_cons_self⟩
  ·rcases List.mem_cons.1 (hs.sub p hp)with rfl|hp
   ·exact⟨_,List.mem_cons_of_mem _ (bX hg)⟩
   ·exact⟨_,List.mem_cons_of_mem _ (eT hp).1⟩
 have hr2:Rel (fZ M N .virt) F (N+1) n ⟨s.fr,(N,.arr e sz [])::σ'⟩ a w:=by
  refine⟨r1.size,r1.defers,r1.fr,r1.st.retold fun p hp=>⟨hmem p hp, ?_⟩⟩;rcases List.mem_cons.1 hp with rfl|hp
  ·exact hE
  ·rcases List.mem_cons.1 (hs.sub p hp)with rfl|hp
   ·obtain⟨g,vs,h1,h2,h3,h4⟩:=r1.st.ent _ (List.mem_cons_of_mem _ (bX hg));refine⟨g,vs,by simpa using h1,h2,by simpa using h3,fun j b u hj hu=> ?_⟩;by_cases hjo:off=j
    ·subst hjo;have hlt:off<cs.length:=(List.getElem?_eq_some_iff.1 hx).1;rw[List.getElem?_set_self hlt]at hj;obtain rfl:=Option.some.inj hj;have hv:=h4 off _ u hx hu;cases hv with
     |@ro _ _ b o _ cap us hb hs hc hrr hle hm hf hn=>
      cases k with
      |nil=>exact absurd rfl hn
      |full=>have:=hf rfl;simp at this;subst this;exact .own0
      |any=>exact absurd rfl hk
     |ro0 hm hA hf hn=>
      cases k with
      |nil=>obtain rfl:=hn rfl;obtain rfl:=hA rfl;exact .own0
      |full=>obtain rfl:=hf rfl;exact .own0
      |any=>exact absurd rfl hk
    ·rw[List.getElem?_set_ne hjo]at hj;exact h4 j b u hj hu
   ·exact r1.st.ent p (List.mem_cons_of_mem _ (eT hp).1)
 refine wp_mono (hK _ F _ a w hr2) ?_;rintro e' a' w' ⟨M',F',N',s2,h1,h2,h3⟩;exact⟨M',F',N',s2,h1,(e1.trans (Ext.retold hmem)).trans h2,h3⟩
section
variable {P : Program} {n : Nat} {ks : List Nat} {s : ASt} {Q : Exit → ASt → Prop}
theorem cs{x y:Code}(h:SW P n ks x s (fG (fun s'=>SW P n ks y s' Q) Q)):SW P n ks (.seq x y) s Q:=aBV h
theorem cb{id:Nat}{c:Code}(h:SW P n ks c s (eH id Q)):SW P n ks (.block id c) s Q:=aBW h
theorem ck(h:Q .normal s):SW P n ks .skip s Q:=OK h
theorem cr(h:Q .ret s):SW P n ks .ret s Q:=aHG h
theorem cx{id:Nat}(h:Q (.exit id) s):SW P n ks (.exit id) s Q:=aEe h
theorem lp{β:Type}{c:Code}(st:β→ASt)(ok:β→Prop)(ms:β→Nat)(b0:β)(h0:SGo s (st b0))(hok:ok b0)(round:∀b,ok b→SW P n ks c (st b) (fG (fun s2=>∃b',ok b'∧ms b'<ms b∧SGo s2 (st b')) Q)):SW P n ks (.loop c) s Q:=
 aEg (fun m s=>∃b,ok b∧ms b=m∧st b=s) (ms b0) ⟨_,h0,b0,hok,rfl,rfl⟩ (by
  rintro m s' ⟨b,hb,rfl,rfl⟩;refine zB (round b hb) fun e s2 h=> ?_
  cases e<;>first|exact h|(obtain⟨b',h1,h2,h3⟩:=h;exact⟨_,_,h3,h2,b',h1,rfl,rfl⟩))
theorem ct{c:Operand}{x y:Code}(hc:aev s c=some (.bool true))(h:SW P n ks x s Q):SW P n ks (.cond c x y) s Q:=OP hc h
theorem cf{c:Operand}{x y:Code}(hc:aev s c=some (.bool false))(h:SW P n ks y s Q):SW P n ks (.cond c x y) s Q:=KG hc h
end
theorem an{K:ASt→Prop}{Q:Exit→ASt→Prop}{s:ASt}(h:K s):fG K Q .normal s:=h
theorem ae{K:ASt→Prop}{Q:Exit→ASt→Prop}{s:ASt}{i:Nat}(h:Q (.exit i) s):fG K Q (.exit i) s:=h
theorem ar{K:ASt→Prop}{Q:Exit→ASt→Prop}{s:ASt}(h:Q .ret s):fG K Q .ret s:=h
theorem bn{i:Nat}{Q:Exit→ASt→Prop}{s:ASt}(h:Q .normal s):eH i Q .normal s:=h
theorem bh{i:Nat}{Q:Exit→ASt→Prop}{s:ASt}(h:Q .normal s):eH i Q (.exit i) s:=WW h
theorem be{i j:Nat}{Q:Exit→ASt→Prop}{s:ASt}(hne:(j==i)=false)(h:Q (.exit j) s):eH i Q (.exit j) s:=aB1 hne h
theorem br{i:Nat}{Q:Exit→ASt→Prop}{s:ASt}(h:Q .ret s):eH i Q .ret s:=h
theorem TF{P:Program}{n:Nat}{ops:Array Oper}{rest:List Oper}{s:ASt}{K:ASt→Prop}(r off:Nat)(e:TypeId)(sz:Nat)(h0:0<sz){bt:TypeId}{cs:List AV}{z:Nat}{k:Rk}(hg:gN s.σ r=some (.box bt cs))(hx:cs[off]? =some (.ro z [] k))(hk:k≠ .any)
  (h:∀q,Fresh q s.σ→∃σ',SSet s.σ r (.box bt cs) r (.box bt (cs.set off (.own q 0 0))) σ'∧RS P n ops rest ⟨s.fr,(q,.arr e sz [])::σ'⟩ K):RS P n ops rest s K:=by
 intro M F N a w hr;have hE:ER (fZ M N .virt) F w N (.arr e sz []):=⟨h0,fun x hx=>by simp at hx,.inl ⟨cN _,rfl⟩⟩
 obtain⟨r1,e1,n1⟩:=hr.new_ (w':=w) .virt (.arr e sz []) (fun _ _=>rfl) ⟨rfl,rfl,rfl⟩ (Nat.le_refl _) (fun g hg=>by simp[cD,cN]at hg) hE;obtain⟨σ',hs,hK⟩:=h N n1;have hmem:∀p∈(N,Ent.arr e sz [])::σ',∃x,(p.1,x)∈(N,Ent.arr e sz [])::s.σ:=by
  intro p hp;rcases List.mem_cons.1 hp with rfl|hp
  ·exact⟨_,List.mem_cons_self⟩
  ·rcases List.mem_cons.1 (hs.sub p hp)with rfl|hp
   ·exact⟨_,List.mem_cons_of_mem _ (bX hg)⟩
   ·exact⟨_,List.mem_cons_of_mem _ (eT hp).1⟩
 have hr2:Rel (fZ M N .virt) F (N+1) n ⟨s.fr,(N,.arr e sz [])::σ'⟩ a w:=by
  refine⟨r1.size,r1.defers,r1.fr,r1.st.retold fun p hp=>⟨hmem p hp, ?_⟩⟩;rcases List.mem_cons.1 hp with rfl|hp
  ·exact hE
  ·rcases List.mem_cons.1 (hs.sub p hp)with rfl|hp
   ·obtain⟨g,vs,h1,h2,h3,h4⟩:=r1.st.ent _ (List.mem_cons_of_mem _ (bX hg));refine⟨g,vs,by simpa using h1,h2,by simpa using h3,fun j b u hj hu=> ?_⟩;by_cases hjo:off=j
    ·subst hjo;have hlt:off<cs.length:=(List.getElem?_eq_some_iff.1 hx).1;rw[List.getElem?_set_self hlt]at hj;obtain rfl:=Option.some.inj hj;have hv:=h4 off _ u hx hu;cases hv with
     |@ro _ _ b o _ cap us hb hs hc hrr hle hm hf hn=>
      cases k with
      |nil=>exact absurd rfl hn
      |full=>have:=hf rfl;simp at this;subst this;exact .own0
      |any=>exact absurd rfl hk
     |ro0 hm hA hf hn=>
      cases k with
      |nil=>obtain rfl:=hn rfl;obtain rfl:=hA rfl;exact .own0
      |full=>obtain rfl:=hf rfl;exact .own0
      |any=>exact absurd rfl hk
    ·rw[List.getElem?_set_ne hjo]at hj;exact h4 j b u hj hu
   ·exact r1.st.ent p (List.mem_cons_of_mem _ (eT hp).1)
 exact kJ (PostN.ext (e1.trans (Ext.retold hmem))) (hK _ F _ a w hr2)
theorem tB{e:Nat}{σ1 σ:dS}(h:(∃q∈σ1,q.1=e)∨Fresh e σ):Fresh e (eO (σ1.map (·.1)) σ):=by
 intro p hp;obtain⟨h1,h2⟩:=eT hp;rcases h with⟨q,hq,rfl⟩|h
 ·exact fun e=>h2 (e▸List.mem_map.2 ⟨q,hq,rfl⟩)
 ·exact h p h1
theorem OT{P:Program}{n:Nat}{ops:Array Oper}{listed:Array Bool}{todo:List (Nat×Bool)}{held:List (Nat×List Nat)}{s:ASt}{K:ASt→Prop}{op:Op}{ty:TypeId}{pos:String}{af:Array Edge}{i gj dj:Nat}{want:Bool}{dst:Option Nat}{fp:List Nat}(hi:ops[i]? =some ⟨dst,op,ty,pos,af,some (gj,want)⟩)(hj:(ops[gj]?).bind (·.dst)=some dj)(hb:dW s.fr dj=some (.bool want))(h:Hop P n op ty dst s fp fun s'=>RD P n ops (listed.setIfInBounds i true) todo held s' K)
  (hfp:fp=[]∨((∀r∈fp,r∈s.σ.map (·.1))∧∀r∈rJ ops held i,r∈s.σ.map (·.1)∧r∉fp)):RD P n ops listed ((i,false)::todo) held s K:=by
 intro hsel hc M F N a w hr;obtain⟨hc1,hc3⟩:=wK hi hc;simp only[Bool.false_eq_true,if_false,beq_iff_eq]at hc1;refine⟨fun h0=>by rw[hc1]at h0;simp at h0,fun j hj'=> ?_⟩;rw[hc1]at hj';obtain rfl:j=i:=by simpa using hj'
 unfold wpOp;simp only[hi];rw[nO (o:=⟨dst,op,ty,pos,af,some (gj,want)⟩) hr rfl hj hb,if_pos (by cases want<;>rfl)];refine .inl (h M F N a w _ rfl rfl rfl hr _ _ fun M' F' N' a' w' s' hr' he ho hk=>⟨fun g hg hlt=> ?_, ?_⟩)
 ·rcases hg with hg|⟨r,hrh,hg⟩
  ·exact he.only.block g hlt (fun hB=>hr.st.nof g hB hg)
  ·rcases hfp with rfl|⟨hf1,hf2⟩
   ·exact ho.block g hlt (by simp)
   ·obtain⟨h1,h2⟩:=hf2 r hrh;obtain⟨p,hp,rfl⟩:=List.mem_map.1 h1;refine ho.block g hlt ?_;rintro⟨q,hq,hqg⟩;obtain⟨p2,hp2,rfl⟩:=List.mem_map.1 (hf1 q hq);exact h2 (by rw[hr.st.inj p hp p2 hp2 g hg hqg];exact hq)
 ·refine jG (PostN.ext he) ?_ _ _ _ _ (hk hsel hc3 M' F' N' a' w' hr');rintro j g (hg|⟨r,hr,hg⟩)
  ·exact .inl (he.ff g hg)
  ·refine .inr ⟨r,hr, ?_⟩;unfold cD at hg⊢;cases hm:M r with
   |none=>rw[hm]at hg;cases hg
   |some b=>rw[hm]at hg;rw[he.mm _ _ hm];exact hg
theorem TG{P:Program}{n:Nat}{ops:Array Oper}{listed:Array Bool}{todo:List (Nat×Bool)}{held:List (Nat×List Nat)}{s:ASt}{K:ASt→Prop}{op:Op}{ty:TypeId}{pos:String}{af:Array Edge}{i d gj dj:Nat}{want b:Bool}(hi:ops[i]? =some ⟨some d,op,ty,pos,af,some (gj,want)⟩)(hj:(ops[gj]?).bind (·.dst)=some dj)(hb:dW s.fr dj=some (.bool b))(hne:(b==want)=false)(hd:Nat.ble (d+1) n=true)
  (hK:RD P n ops (listed.setIfInBounds i true) todo held (s.put d (.when false (.bool false))) K):RD P n ops listed ((i,false)::todo) held s K:=by
 intro hsel hc M F N a w hr;obtain⟨hc1,hc3⟩:=wK hi hc;simp only[Bool.false_eq_true,if_false,beq_iff_eq]at hc1;refine⟨fun h0=>by rw[hc1]at h0;simp at h0,fun k hk=> ?_⟩;rw[hc1]at hk;obtain rfl:k=i:=by simpa using hk
 unfold wpOp;simp only[hi];rw[nO (o:=⟨some d,op,ty,pos,af,some (gj,want)⟩) hr rfl hj hb,if_neg (by rw[hne];simp)];have:=hK hsel hc3 M F N _ w (hr.put (cW hd) (.when (x:=.bool false) (c:=false) (fun h=>by cases h) (fun _=>rfl)));refine⟨by simp,jG (PostN.ext (Ext.refl _ _ _ _ _)) (fun _ _ h=>h) _ _ _ _ this⟩
def aG (n:Nat):List AV:=[.int .u8 n]
def dC (bs:List Nat):ByteArray:=⟨(bs.map UInt8.ofNat).toArray⟩
theorem CV(bs:List Nat):(dC bs).toList=bs.map UInt8.ofNat:=by
 rw[Go.ByteArray.toList_eq];simp[dC]
theorem WY(ns:List Nat):∀acc:ByteArray,(ns.map Int.ofNat).foldl (fun r n=>r.push (UInt8.ofNat n.toNat)) acc=⟨acc.data++(ns.map UInt8.ofNat).toArray⟩:=by
 induction ns with
 |nil=>intro acc;simp
 |cons n ns ih=>
  intro acc;rw[List.map_cons,List.foldl_cons,ih];simp[ByteArray.push]
theorem aEm(ns:List Nat):(ns.map Int.ofNat).foldl (fun r n=>r.push (UInt8.ofNat n.toNat)) ByteArray.empty=dC ns:=by
 rw[WY];simp[dC,ByteArray.empty,ByteArray.emptyWithCapacity];rfl
theorem aHP{a b:Nat}(ha:a<256)(hb:b<256)(h:UInt8.ofNat a=UInt8.ofNat b):a=b:=by
 have:=congrArg UInt8.toNat h;simp at this;omega
theorem pV:∀ {l m:List Nat},(∀x∈l,x<256)→(∀x∈m,x<256)→((dC l).toList==(dC m).toList)=decide (l=m):=by
 intro l m hl hm;rw[CV,CV];by_cases h:l=m
 ·subst h;simp
 ·rw[decide_eq_false h,beq_eq_false_iff_ne];intro e;apply h;clear h
  induction l generalizing m with
  |nil=>cases m<;>first|rfl|simp at e
  |cons a l ih=>
   cases m with
   |nil=>simp at e
   |cons b m=>
    simp only[List.map_cons,List.cons.injEq]at e;rw[aHP (hl a (by simp)) (hm b (by simp)) e.1,ih (fun x hx=>hl x (by simp[hx])) (fun x hx=>hm x (by simp[hx])) e.2]
section
variable {P : Program} {ty : TypeId} {s : ASt} {c : Bool} {t t' e : TypeId} {x y : Operand}
theorem nX{w:World} [Ty P t (.slice e)] [Ty P e (.int .u8)] [Ty P t' .string] {ρ:Operand→Value}{o:Oper}(ho:o.op=.convert t t' x){A:Option Addr}{cap:Nat}{bs:List Nat}(hx:ρ x=.slice A bs.length cap)(hn:A=none→bs=[])
  (hc:∀p,A=some p→∀(j:Nat) (n:Nat),bs[j]? =some n→w.cell? (p.add j)=some (.int .u8 n)):(execOp ρ o).run P w=.ok (.value (.string (dC bs))) w:=by
 have h1:(Conv.bytesToString (.slice A bs.length cap)).run P w=.ok (.string (dC bs)) w:=by
  cases A with
  |none=>
   obtain rfl:=hn rfl;simp[Conv.bytesToString,dC,ByteArray.empty,ByteArray.emptyWithCapacity];rfl
  |some p=>
   have hl:=run_loadCells_list (P:=P) (w:=w) p ((bs.map Int.ofNat).map (Value.int .u8)) (fun j v hj=>by
    rw[List.getElem?_map,List.getElem?_map,Option.map_map]at hj;obtain⟨n,hn,rfl⟩:=Option.map_eq_some_iff.1 hj;exact hc p rfl j n hn)
   rw[List.length_map,List.length_map]at hl;rw[run_bytesToString w p bs.length cap (bs.map Int.ofNat) hl,aEm]
 simp only[execOp,ho,hx,Sem.run_bind,run_convert_bytes_string w t t' e A bs.length cap (Ty.und (P:=P) (t:=t)) (Ty.und (P:=P) (t:=e)) (Ty.und (P:=P) (t:=t')),h1,Result.andThen_ok,Sem.run_pure]
theorem tC [Ty P t (.slice e)] [Ty P e (.int .u8)] [Ty P t' .string] {bs:List Nat}{k:Rk}(h:Ev s c x (.ro 1 (bs.map aG) k)):Lop P (.convert t t' x) ty s c (.str (dC bs)) []:=by
 refine⟨fun r hr=>by simp at hr,fun M F N n a w hr hc=>⟨_,.str _,fun w' o ho _ hsame=> ?_⟩⟩;have e1:=h.vr hr hc;generalize hu:a.eval x=u at e1;generalize hes:bs.map aG=es at e1;cases e1 with
 |@ro _ _ b o' _ cap us hb hs hcc hrr hle hm hf hn=>
  subst hes;refine nX (e:=e) ho (by rw[hu,List.length_map]) (fun h=>by cases h) (fun p hp j n hj=> ?_);cases hp
  have h1:=hcc j (aG n) 0 (.int .u8 n) (by rw[List.getElem?_map,hj];rfl) rfl;have h2:=hrr j (aG n) 0 (.int .u8 n) (by rw[List.getElem?_map,hj];rfl) rfl;rw[Addr.add_lit,World.cell?_of_block (w:=w) (w':=w') (hsame b (.inl hb))];rw[Nat.mul_one,Nat.add_zero]at h1;rw[h1];generalize us j 0=q at h2;cases h2
  rfl
 |@ro0 _ _ A cap hm hA hf hn=>
  have:bs=[]:=by simpa using hes
  subst this;exact nX (e:=e) ho (A:=A) (cap:=cap) hu (fun _=>rfl) (fun p _ j n hj=>by simp at hj)
theorem KI [Ty P t (.slice e)] [Ty P e (.int .u8)] [Ty P t' .string] {bs bs':List Nat}{r off len:Nat}{et:TypeId}(h:Ev s c x (.own r off len))(hg:gN s.σ r=some (.arr et 1 (bs.map aG)))(hle:off+len≤bs.length)(hbs:(bs.drop off).take len=bs'):Lop P (.convert t t' x) ty s c (.str (dC bs')) [r]:=by
 subst hbs;refine⟨fun q hq=>⟨_,bX hg,(List.mem_singleton.1 hq).symm⟩,fun M F N n a w hr hc=>⟨_,.str _,fun w' o ho _ hsame=> ?_⟩⟩;have e1:=h.vr hr hc;have hl:((bs.drop off).take len).length=len:=by simp;omega
 generalize hu:a.eval x=u at e1;obtain⟨h0,hrows,h3⟩:=hr.st.ent _ (bX hg);cases e1 with
 |own hM hle' hm=>
  rcases h3 with⟨hv',_⟩|⟨g,cc,vs,hM',hcl,hsz,hlc,hmax,hvr⟩
  ·rw[hM]at hv';cases hv'
  ·have hg':=hM'.symm.trans hM;simp only[Option.some.injEq,Blk'.row.injEq]at hg';obtain⟨q1,q2,q3⟩:=hg';subst q1;subst q2;subst q3;refine nX (e:=e) ho (by rw[hu,hl]) (fun h=>by cases h) (fun p hp j n hj=> ?_);cases hp
   rw[Addr.add_lit,World.cell?_of_block (w:=w) (w':=w') (hsame g (.inr ⟨r,by simp,by simp[cD,hM]⟩)),hcl.cell];have hj2:bs[off+j]? =some n:=by
    rw[List.getElem?_take]at hj;split at hj
    ·rwa [List.getElem?_drop]at hj
    ·cases hj
   have hjl:=(List.getElem?_eq_some_iff.1 hj2).1;rw[List.length_map]at hlc;have hlt:off*1+j<vs.size:=by omega
   have h1:=hvr (off+j) (aG n) 0 (.int .u8 n) vs[off*1+j] (by rw[List.getElem?_map,hj2];rfl) rfl (by rw[show(off+j)*1+0=off*1+j by omega];exact Array.getElem?_eq_getElem hlt);rw[Array.getElem?_eq_getElem hlt];generalize vs[off*1+j]=q at h1;cases h1
   rfl
 |own0=>
  refine nX (e:=e) ho (by rw[hu,hl]) (fun _=>by simp) (fun p _ j n hj=>by simp at hj)
end
theorem eS{P:Program}{n:Nat}{ops:Array Oper}{fr:Fr}{σ:dS}{K:ASt→Prop}{op:Op}{ty:TypeId}{pos:String}{af:Array Edge}{listed:Array Bool}{todo:List (Nat×Bool)}{held:List (Nat×List Nat)}{i d j dj:Nat}{want:Bool}{v:AV}{rs:List Nat}(hi:ops[i]? =some ⟨some d,op,ty,pos,af,some (j,want)⟩)(hj:(ops[j]?).bind (·.dst)=some dj)(hb:dW fr dj=some (.bool want))(h:Lop P op ty ⟨fr,σ⟩ true v rs)(hd:Nat.ble (d+1) n=true)
  (hK:RD P n ops (listed.setIfInBounds i true) todo ((i,rs)::held) ⟨(d,v)::fr,σ⟩ K):RD P n ops listed ((i,true)::todo) held ⟨fr,σ⟩ K:=ON hi hj hb h (cW hd) hK
inductive FDel (t:Nat):Fr→Fr→Prop
 |nil:FDel t [] []
 |hit {x:AV} {l l':Fr} (h:FDel t l l'):FDel t ((t,x)::l) l'
 |miss {i:Nat} {x:AV} {l l':Fr} (hne:(i==t)=false) (h:FDel t l l'):FDel t ((i,x)::l) ((i,x)::l')
theorem FDel.get {t:Nat}{l l':Fr}(h:FDel t l l'):∀i x,dW l' i=some x→i≠t∧dW l i=some x:=by
 induction h with
 |nil=>intro i x h;simp[dW]at h
 |hit _ ih=>
  intro i x h;obtain⟨h1,h2⟩:=ih i x h;exact⟨h1,by simp only[dW];rw[if_neg h1];exact h2⟩
 |@miss j y l l' hne _ ih=>
  intro i x h;simp only[dW]at h⊢;split at h
  ·next e=>subst e;exact⟨by simpa using hne,by rw[if_pos rfl];exact h⟩
  ·next e=>obtain⟨h1,h2⟩:=ih i x h;exact⟨h1,by rw[if_neg e];exact h2⟩
theorem fE{P:Program}{n:Nat}{ks:List Nat}{fr fr0:Fr}{σ:dS}{t:Nat}{b c:Bool}{y rest:Code}{Q Q':Exit→ASt→Prop}(hx:dW fr t=some (.bool b))(hd:FDel t fr fr0)(h2:b=false→SW P n ks y ⟨fr,σ⟩ (fG (fun s2=>SGo s2 ⟨(t,.bool c)::fr0,σ⟩) Q'))(h:SW P n ks rest ⟨(t,.bool (b||c))::fr0,σ⟩ Q):
  SW P n ks (.cond (.tmp t) .skip y) ⟨fr,σ⟩ (fG (fun s'=>SW P n ks rest s' Q) Q'):=by
 have key:∀(fr':Fr) (x:Bool),dW fr' t=some (.bool x)→x=(b||c)→(∀i z,dW fr0 i=some z→dW fr' i=some z)→SGo ⟨fr',σ⟩ ⟨(t,.bool (b||c))::fr0,σ⟩:=fun fr' x hxx he ho=>SGo.of_le (fun j z hj=>by
  simp only[dW]at hj⊢;split at hj
  ·next e=>subst e;obtain rfl:=Option.some.inj hj;exact⟨_,hxx,by rw[he];exact VLe.refl _⟩
  ·next e=>exact⟨z,ho j z hj,VLe.refl _⟩) (fun _ h=>h)
 refine aB (b:=b) hx (fun hb=> ?_) (fun hb=> ?_)
 ·exact OK (dQ (key fr b hx (by rw[hb];rfl) (fun i z hz=>(hd.get i z hz).2)) h)
 ·refine zB (h2 hb) fun e s2 hs=> ?_
  cases e<;>first|exact hs|skip
  refine dQ (SGo.trans hs (key _ c (by simp[dW]) (by rw[hb];rfl) (fun i z hz=>by
   have:=(hd.get i z hz).1;simp only[dW];rw[if_neg this];exact hz))) h
theorem eD{P:Program}{n:Nat}{ks:List Nat}{fr fr0:Fr}{σ:dS}{t:Nat}{b c:Bool}{y:Code}{s0:ASt}{Q':Exit→ASt→Prop}(hx:dW fr t=some (.bool b))(hd:FDel t fr fr0)(h2:b=false→SW P n ks y ⟨fr,σ⟩ (fG (fun s2=>SGo s2 ⟨(t,.bool c)::fr0,σ⟩) Q'))(h:SGo ⟨(t,.bool (b||c))::fr0,σ⟩ s0):
  SW P n ks (.cond (.tmp t) .skip y) ⟨fr,σ⟩ (fG (fun s2=>SGo s2 s0) Q'):=by
 refine aB (b:=b) hx (fun hb=> ?_) (fun hb=> ?_)
 ·refine OK (SGo.trans (s':=⟨(t,.bool (b||c))::fr0,σ⟩) (SGo.of_le (fun j z hj=> ?_) (fun _ h=>h)) h);simp only[dW]at hj;split at hj
  ·next e=>subst e;obtain rfl:=Option.some.inj hj;exact⟨_,hx,by rw[hb];exact VLe.refl _⟩
  ·next e=>exact⟨z,(hd.get j z hj).2,VLe.refl _⟩
 ·refine zB (h2 hb) fun e s2 hs=> ?_
  cases e<;>first|exact hs|skip
  refine SGo.trans hs (SGo.trans (s':=⟨(t,.bool (b||c))::fr0,σ⟩) (SGo.of_le (fun j z hj=> ?_) (fun _ h=>h)) h);simp only[dW]at hj⊢;split at hj
  ·next e=>subst e;obtain rfl:=Option.some.inj hj;exact⟨_,by rw[if_pos rfl],by rw[hb];exact VLe.refl _⟩
  ·next e=>exact⟨z,by rw[if_neg e];exact hj,VLe.refl _⟩
theorem WZ{P:Program}{n:Nat}{ks:List Nat}{s:ASt}{Q Q':Exit→ASt→Prop}{β:Type}{x y:Code}(st:β→ASt)(ok:β→Prop)(hx:SW P n ks x s (fG (fun s2=>∃b,ok b∧SGo s2 (st b)) Q'))(hy:∀b,ok b→SW P n ks y (st b) Q):SW P n ks x s (fG (fun s'=>SW P n ks y s' Q) Q'):=
 zB hx fun e s2 h=>by cases e<;>first|exact h|(obtain⟨b,h1,h2⟩:=h;exact dQ h2 (hy b h1))
theorem TH{p:Nat→Prop}:∀(n m:Nat),m≤n→p m→∃k,p k∧∀j,p j→k≤j
 |0,m,hm,h=>⟨0,by rwa [show m=0 by omega]at h,fun j _=>Nat.zero_le _⟩
 |n+1,m,hm,h=>by
  by_cases hc:∃j,j≤n∧p j
  ·obtain⟨j,h1,h2⟩:=hc;exact TH n j h1 h2
  ·refine⟨m,h,fun j hj=> ?_⟩;by_cases hjm:m≤j
   ·exact hjm
   ·exact absurd ⟨j,by omega,hj⟩ hc
theorem GJ{P:Program}{a:Act}{w:World}{Q:Exit→Act→World→Prop}{c rest:Code}(l:Nat)(J:Nat→Act→World→Prop)(hf:findLabel c l=some rest)
  (first:c.wp P (Exit.jump l (fun a w=>∃m,J m a w) Q) a w)
  (pass:∀m a w,J m a w→rest.wp P (Exit.jump l (fun a' w'=>∃m',m'<m∧J m' a' w') Q) a w):(Code.scope c).wp P Q a w:=by
 have hm:∀a w,∃k,∀m,J m a w→J k a w∧k≤m:=by
  intro a w;by_cases h:∃m,J m a w
  ·obtain⟨m,h⟩:=h;obtain⟨k,h1,h2⟩:=TH (p:=fun m=>J m a w) m m (Nat.le_refl _) h;exact⟨k,fun j hj=>⟨h1,h2 j hj⟩⟩
  ·exact⟨0,fun m hj=>absurd ⟨m,hj⟩ h⟩
 refine wp_scope_jumps l (fun a w=>∃m,J m a w) (fun a w=>(hm a w).choose) hf first ?_
 rintro a w ⟨m,h⟩;obtain⟨h1,-⟩:=(hm a w).choose_spec m h;refine wp_mono (pass _ a w h1) ?_;intro e a' w' hq;cases e<;>first|exact hq|skip
 obtain⟨h2,m',h3,h4⟩:=hq;exact⟨h2,⟨m',h4⟩,Nat.lt_of_le_of_lt ((hm a' w').choose_spec m' h4).2 h3⟩
def TI (l:Nat) (J:ASt→Prop) (Q:Exit→ASt→Prop):Exit→ASt→Prop
 | .goto l',s=>l'=l∧J s
 |e,s=>Q e s
section
variable {P : Program} {n : Nat} {ks : List Nat} {s : ASt} {Q : Exit → ASt → Prop}
theorem scj{β:Type}{c body:Code}(l:Nat)(hf:findLabel c l=some (.seq .skip body))(st:β→ASt)(ok:β→Prop)(ms:β→Nat)
  (pass:∀b,ok b→SW P n ks body (st b) (TI l (fun s2=>∃b',ok b'∧ms b'<ms b∧SGo s2 (st b')) Q))
  (first:(∀b s',ok b→SGo s' (st b)→SW P n ks (.seq (.label l) body) s' (TI l (fun s2=>∃b',ok b'∧SGo s2 (st b')) Q))→SW P n ks c s (TI l (fun s2=>∃b',ok b'∧SGo s2 (st b')) Q)):SW P n ks (.scope c) s Q:=by
 have hfirst:=first fun b s' hb hgo=>dQ hgo (aBV (aBU (zB (pass b hb) fun e s2 h=>by
  cases e<;>first|exact h|skip
  obtain⟨h1,b',h2,-,h3⟩:=h;exact⟨h1,b',h2,h3⟩)))
 intro M F N a w hr;refine GJ l (fun m a' w'=>∃M' F' N' b,ok b∧ms b=m∧Rel M' F' N' n (st b) a' w'∧Ext M F N w s.σ M' F' N' w' (st b).σ) hf ?_ ?_
 ·refine wp_mono (hfirst M F N a w hr) ?_;rintro e a' w' ⟨M',F',N',s',h1,h2,h3⟩;cases e<;>first|exact⟨M',F',N',s',h1,h2,h3⟩|skip
  obtain⟨h3,b,h4,h5⟩:=h3;obtain⟨M2,F2,N2,r2,e2⟩:=h5 M' F' N' n a' w' h1;exact⟨h3,_,M2,F2,N2,b,h4,rfl,r2,h2.trans e2⟩
 ·rintro m a' w' ⟨M1,F1,N1,b,hb,rfl,r1,e1⟩;refine wp_seq (wp_skip ?_);refine wp_mono (pass b hb M1 F1 N1 a' w' r1) ?_;rintro e a2 w2 ⟨M',F',N',s',h1,h2,h3⟩;cases e<;>first|exact⟨M',F',N',s',h1,e1.trans h2,h3⟩|skip
  obtain⟨h3,b',h4,h6,h5⟩:=h3;obtain⟨M2,F2,N2,r2,e2⟩:=h5 M' F' N' n a2 w2 h1;exact⟨h3,_,h6,M2,F2,N2,b',h4,rfl,r2,e1.trans (h2.trans e2)⟩
theorem cg{l:Nat}(h:Q (.goto l) s):SW P n ks (.goto l) s Q:=aEf h
end
theorem ag{K:ASt→Prop}{Q:Exit→ASt→Prop}{s:ASt}{i:Nat}(h:Q (.goto i) s):fG K Q (.goto i) s:=h
theorem bg{i j:Nat}{Q:Exit→ASt→Prop}{s:ASt}(h:Q (.goto j) s):eH i Q (.goto j) s:=h
theorem jg{J:ASt→Prop}{Q:Exit→ASt→Prop}{s:ASt}{l:Nat}(h:J s):TI l J Q (.goto l) s:=⟨rfl,h⟩
theorem jr{J:ASt→Prop}{Q:Exit→ASt→Prop}{s:ASt}{l:Nat}(h:Q .ret s):TI l J Q .ret s:=h
theorem iI{P:Program}{f:FuncId}{e:TypeId}{sz z:Nat}{args:List AV}{σ:dS}{R:AV→dS→Prop}(h0:0<sz)(h:∀q,Fresh q σ→SCall P f (.own q 0 0::args) ((q,.arr e sz [])::σ) R):SCall P f (.ro z [] .nil::args) σ R:=by
 intro M F N w vs hl hv hs;have hr:Rel M F N 0 ⟨[],σ⟩ ⟨#[],[]⟩ w:=⟨rfl,rfl,fun i x hi=>by simp[dW]at hi,hs⟩
 have hE:ER (fZ M N .virt) F w N (.arr e sz []):=⟨h0,fun x hx=>by simp at hx,.inl ⟨cN _,rfl⟩⟩
 obtain⟨r1,e1,n1⟩:=hr.new_ (w':=w) .virt (.arr e sz []) (fun _ _=>rfl) ⟨rfl,rfl,rfl⟩ (Nat.le_refl _) (fun g hg=>by simp[cD,cN]at hg) hE;refine(h N n1 (fZ M N .virt) F (N+1) w vs (by simpa using hl) ?_ r1.st).mono ?_
 ·intro i x v hx hvv;cases i with
  |zero=>
   obtain rfl:AV.own N 0 0=x:=by simpa using hx
   have hv0:=hv 0 _ v rfl hvv;cases hv0 with
   |@ro _ _ b o _ cap us hb hs hc hrr hle hm hf hn=>exact absurd rfl hn
   |ro0 hm hA hf hn=>
    obtain rfl:=hn rfl;obtain rfl:=hA rfl;exact .own0
  |succ i=>exact VR.mono e1.mm e1.ff (fun _ _=>rfl) (hv (i+1) x v (by simpa using hx) hvv)
 ·rintro e' w' ⟨v,x,M',F',N',σ',k1,k2,k3,k4,k5⟩;exact⟨v,x,M',F',N',σ',k1,e1.trans k2,k3,k4,k5⟩
section
variable {P : Program} {ty : TypeId} {s : ASt} {c : Bool} {t : TypeId} {x y : Operand}
theorem aAJ{e k:Nat}{d:TypeDesc} [Ty P t (.array k e)] [Ty P e d] (hd:uL d=false){by_:Nat}{z:Value} [Tz P e 1 by_ z] {ki:IntKind}{m:Int}{cs:List AV}{v:AV}(h:Ev s c x (.agg cs))(hi:Ev s c y (.int ki m))(hb:c=true→0≤m∧m<k)(hv:c=true→cs[m.toNat]? =some v):Lop P (.index t x y) ty s c v []:=
 Lop.pure_ fun M F N n a w hr hc=>by
  have e1:=h.vr hr hc;have hv:=hv hc;have hb:=hb hc;obtain⟨j,hi',hz,hs,_⟩:=Tz.parts P e;generalize hu:a.eval x=u at e1;cases e1 with
  |@agg _ vs hl hh=>
   have hlt:m.toNat<vs.size:=by rw[hl];exact(List.getElem?_eq_some_iff.1 hv).1
   refine⟨vs[m.toNat],hh _ v _ hv (Array.getElem?_eq_getElem hlt),fun w' o ho _=> ?_⟩;have:=zC (P:=P) (t:=e) hd (w:=w') (Array.getElem?_eq_getElem hlt);simp[execOp,ho,hu,hi.int hr hc,Instr.index,asIntOf,run_underlying (Ty.und (P:=P) (t:=t)),hb,sizeOf,typeInfo,hi',hs,this]
theorem aB6{e:Nat} [Ty P t (.array 3 e)] {by_ by':Nat}{z z':Value} [Tz P t 3 by_ z] [Tz P e 1 by' z'] {k:IntKind}{m0 m1 m2:Int}(h3:∃a0 a1 a2,z=.agg #[a0,a1,a2]):Lop P (.build t #[(0,.const (.int k m0)),(1,.const (.int k m1)),(2,.const (.int k m2))]) ty s c (.agg [.int k m0,.int k m1,.int k m2]) []:=by
 obtain⟨a0,a1,a2,h3⟩:=h3;refine Lop.pure_ fun M F N n a w hr hc=>⟨.agg #[.int k m0,.int k m1,.int k m2],.agg rfl (fun j b u hj hu=> ?_),fun w' o ho _=> ?_⟩
 ·rcases j with _ | _ | _ |j
  ·simp at hj hu;subst hj hu;exact .int _ _
  ·simp at hj hu;subst hj hu;exact .int _ _
  ·simp at hj hu;subst hj hu;exact .int _ _
  ·simp at hj
 ·obtain⟨i,hi,hz0,hs0,_⟩:=Tz.parts P t;obtain⟨i',hi',hz0',hs0',_⟩:=Tz.parts P e;simp[execOp,ho,Instr.build,zeroValue,typeInfo,hi,hz0,run_underlying (Ty.und (P:=P) (t:=t)),sizeOf,hi',hs0',Instr.fill,h3,Act.eval,Value.cells]
end
end Go.Proofs.YtjpdadobblffmaaGreat
namespace Go.Proofs.YtjpdadobblffmaaGreat
@[reducible] def ty2:=Ty.mk Tryz.underlying2
attribute [instance] ty2
instance tz2:Tz Tryz.prog 2 1 8 (.int .i64 0):=⟨by kernel_rfl⟩
@[reducible] def ty3:=Ty.mk Tryz.underlying3
attribute [instance] ty3
instance tz3:Tz Tryz.prog 3 1 8 (.int .i64 0):=⟨by kernel_rfl⟩
@[reducible] def ty4:=Ty.mk Tryz.underlying4
attribute [instance] ty4
instance tz4:Tz Tryz.prog 4 1 1 (.bool false):=⟨by kernel_rfl⟩
@[reducible] def ty5:=Ty.mk Tryz.underlying5
attribute [instance] ty5
instance tz5:Tz Tryz.prog 5 1 1 (.int .u8 0):=⟨by kernel_rfl⟩
@[reducible] def ty9:=Ty.mk Tryz.underlying9
attribute [instance] ty9
instance tz9:Tz Tryz.prog 9 1 16 (.string .empty):=⟨by kernel_rfl⟩
@[reducible] def aLZ:=Ty.mk Tryz.underlying22
attribute [instance] aLZ
instance tz22:Tz Tryz.prog 22 1 24 (.slice none 0 0):=⟨by kernel_rfl⟩
@[reducible] def aL0:=Ty.mk Tryz.underlying23
attribute [instance] aL0
instance tz23:Tz Tryz.prog 23 1 24 (.slice none 0 0):=⟨by kernel_rfl⟩
@[reducible] def aL1:=Ty.mk Tryz.underlying24
attribute [instance] aL1
instance tz24:Tz Tryz.prog 24 1 24 (.slice none 0 0):=⟨by kernel_rfl⟩
@[reducible] def aL2:=Ty.mk Tryz.underlying26
attribute [instance] aL2
instance tz26:Tz Tryz.prog 26 3 24 (.agg #[.bool false,.int .i64 0,.int .i64 0]):=⟨by kernel_rfl⟩
instance tf26:Tf Tryz.prog 26 [(0,1),(1,1),(2,1)]:=⟨by kernel_rfl⟩
@[reducible] def aL3:=Ty.mk Tryz.underlying27
attribute [instance] aL3
instance tz27:Tz Tryz.prog 27 1 24 (.slice none 0 0):=⟨by kernel_rfl⟩
@[reducible] def aL4:=Ty.mk Tryz.underlying28
attribute [instance] aL4
instance tz28:Tz Tryz.prog 28 1 24 (.slice none 0 0):=⟨by kernel_rfl⟩
@[reducible] def aL5:=Ty.mk Tryz.underlying29
attribute [instance] aL5
instance tz29:Tz Tryz.prog 29 1 24 (.slice none 0 0):=⟨by kernel_rfl⟩
@[reducible] def aL6:=Ty.mk Tryz.underlying30
attribute [instance] aL6
instance tz30:Tz Tryz.prog 30 1 24 (.slice none 0 0):=⟨by kernel_rfl⟩
@[reducible] def aL7:=Ty.mk Tryz.underlying31
attribute [instance] aL7
instance tz31:Tz Tryz.prog 31 1 24 (.slice none 0 0):=⟨by kernel_rfl⟩
@[reducible] def aL8:=Ty.mk Tryz.underlying33
attribute [instance] aL8
instance tz33:Tz Tryz.prog 33 14 240 (.agg #[.slice none 0 0,.slice none 0 0,.slice none 0 0,.bool false,.int .i64 0,.int .i64 0,.bool false,.int .i64 0,.int .i64 0,.slice none 0 0,.slice none 0 0,.slice none 0 0,.slice none 0 0,.slice none 0 0]):=⟨by kernel_rfl⟩
instance tf33:Tf Tryz.prog 33 [(0,1),(1,1),(2,1),(3,3),(6,3),(9,1),(10,1),(11,1),(12,1),(13,1)]:=⟨by kernel_rfl⟩
@[reducible] def aL9:=Ty.mk Tryz.underlying36
attribute [instance] aL9
instance tz36:Tz Tryz.prog 36 1 24 (.slice none 0 0):=⟨by kernel_rfl⟩
@[reducible] def aMa:=Ty.mk Tryz.underlying39
attribute [instance] aMa
instance tz39:Tz Tryz.prog 39 1 8 (.int .i64 0):=⟨by kernel_rfl⟩
@[reducible] def aMb:=Ty.mk Tryz.underlying42
attribute [instance] aMb
instance tz42:Tz Tryz.prog 42 1 24 (.slice none 0 0):=⟨by kernel_rfl⟩
@[reducible] def aMc:=Ty.mk Tryz.underlying44
attribute [instance] aMc
instance tz44:Tz Tryz.prog 44 2 48 (.agg #[.slice none 0 0,.slice none 0 0]):=⟨by kernel_rfl⟩
instance tf44:Tf Tryz.prog 44 [(0,1),(1,1)]:=⟨by kernel_rfl⟩
@[reducible] def aMd:=Ty.mk Tryz.underlying46
attribute [instance] aMd
instance tz46:Tz Tryz.prog 46 4 48 (.agg #[.int .i64 0,.int .i64 0,.int .i64 0,.slice none 0 0]):=⟨by kernel_rfl⟩
instance tf46:Tf Tryz.prog 46 [(0,1),(1,1),(2,1),(3,1)]:=⟨by kernel_rfl⟩
@[reducible] def aMe:=Ty.mk Tryz.underlying48
attribute [instance] aMe
instance tz48:Tz Tryz.prog 48 2 32 (.agg #[.int .i64 0,.slice none 0 0]):=⟨by kernel_rfl⟩
instance tf48:Tf Tryz.prog 48 [(0,1),(1,1)]:=⟨by kernel_rfl⟩
@[reducible] def aMf:=Ty.mk Tryz.underlying50
attribute [instance] aMf
instance tz50:Tz Tryz.prog 50 2 48 (.agg #[.slice none 0 0,.slice none 0 0]):=⟨by kernel_rfl⟩
instance tf50:Tf Tryz.prog 50 [(0,1),(1,1)]:=⟨by kernel_rfl⟩
@[reducible] def aMg:=Ty.mk Tryz.underlying64
attribute [instance] aMg
instance tz64:Tz Tryz.prog 64 3 40 (.agg #[.string .empty,.string .empty,.int .i64 0]):=⟨by kernel_rfl⟩
instance tf64:Tf Tryz.prog 64 [(0,1),(1,1),(2,1)]:=⟨by kernel_rfl⟩
@[reducible] def aMh:=Ty.mk Tryz.underlying66
attribute [instance] aMh
instance tz66:Tz Tryz.prog 66 2 24 (.agg #[.string .empty,.int .i64 0]):=⟨by kernel_rfl⟩
instance tf66:Tf Tryz.prog 66 [(0,1),(1,1)]:=⟨by kernel_rfl⟩
@[reducible] def aMi:=Ty.mk Tryz.underlying69
attribute [instance] aMi
instance tz69:Tz Tryz.prog 69 2 32 (.agg #[.int .i64 0,.slice none 0 0]):=⟨by kernel_rfl⟩
instance tf69:Tf Tryz.prog 69 [(0,1),(1,1)]:=⟨by kernel_rfl⟩
@[reducible] def aMj:=Ty.mk Tryz.underlying71
attribute [instance] aMj
instance tz71:Tz Tryz.prog 71 2 16 (.agg #[.int .i64 0,.int .i64 0]):=⟨by kernel_rfl⟩
instance tf71:Tf Tryz.prog 71 [(0,1),(1,1)]:=⟨by kernel_rfl⟩
@[reducible] def aMk:=Ty.mk Tryz.underlying73
attribute [instance] aMk
instance tz73:Tz Tryz.prog 73 3 24 (.agg #[.bool false,.int .i64 0,.int .i64 0]):=⟨by kernel_rfl⟩
instance tf73:Tf Tryz.prog 73 [(0,1),(1,2)]:=⟨by kernel_rfl⟩
@[reducible] def aMl:=Ty.mk Tryz.underlying83
attribute [instance] aMl
@[reducible] def aMm:=Ty.mk Tryz.underlying87
attribute [instance] aMm
@[reducible] def aJ3:=Ty.mk Tryz.underlying114
attribute [instance] aJ3
@[reducible] def aJ4:=Ty.mk Tryz.underlying117
attribute [instance] aJ4
instance tz117:Tz Tryz.prog 117 2 32 (.agg #[.slice none 0 0,.bool false]):=⟨by kernel_rfl⟩
instance tf117:Tf Tryz.prog 117 [(0,1),(1,1)]:=⟨by kernel_rfl⟩
@[reducible] def aJ5:=Ty.mk Tryz.underlying126
attribute [instance] aJ5
instance tz126:Tz Tryz.prog 126 1 24 (.slice none 0 0):=⟨by kernel_rfl⟩
@[reducible] def aJ6:=Ty.mk Tryz.underlying128
attribute [instance] aJ6
instance tz128:Tz Tryz.prog 128 18 320 (.agg #[.slice none 0 0,.slice none 0 0,.slice none 0 0,.bool false,.int .i64 0,.int .i64 0,.bool false,.int .i64 0,.int .i64 0,.slice none 0 0,.slice none 0 0,.slice none 0 0,.slice none 0 0,.slice none 0 0,.slice none 0 0,.slice none 0 0,.slice none 0 0,.bool false]):=⟨by kernel_rfl⟩
instance tf128:Tf Tryz.prog 128 [(0,14),(14,1),(15,1),(16,1),(17,1)]:=⟨by kernel_rfl⟩
@[reducible] def aJ7:=Ty.mk Tryz.underlying130
attribute [instance] aJ7
@[reducible] def aJ8:=Ty.mk Tryz.underlying134
attribute [instance] aJ8
@[reducible] def aJ9:=Ty.mk Tryz.underlying137
attribute [instance] aJ9
instance tz137:Tz Tryz.prog 137 4 32 (.agg #[.int .i64 0,.int .i64 0,.int .i64 0,.bool false]):=⟨by kernel_rfl⟩
instance tf137:Tf Tryz.prog 137 [(0,1),(1,1),(2,1),(3,1)]:=⟨by kernel_rfl⟩
@[reducible] def aKa:=Ty.mk Tryz.underlying140
attribute [instance] aKa
instance tz140:Tz Tryz.prog 140 1 24 (.slice none 0 0):=⟨by kernel_rfl⟩
@[reducible] def aKb:=Ty.mk Tryz.underlying142
attribute [instance] aKb
instance tz142:Tz Tryz.prog 142 20 352 (.agg #[.slice none 0 0,.slice none 0 0,.slice none 0 0,.bool false,.int .i64 0,.int .i64 0,.bool false,.int .i64 0,.int .i64 0,.slice none 0 0,.slice none 0 0,.slice none 0 0,.slice none 0 0,.slice none 0 0,.slice none 0 0,.slice none 0 0,.slice none 0 0,.int .i64 0,.slice none 0 0,.bool false]):=⟨by kernel_rfl⟩
instance tf142:Tf Tryz.prog 142 [(0,14),(14,1),(15,1),(16,1),(17,1),(18,1),(19,1)]:=⟨by kernel_rfl⟩
@[reducible] def aKc:=Ty.mk Tryz.underlying146
attribute [instance] aKc
@[reducible] def aKd:=Ty.mk Tryz.underlying148
attribute [instance] aKd
@[reducible] def aKe:=Ty.mk Tryz.underlying152
attribute [instance] aKe
@[reducible] def aKf:=Ty.mk Tryz.underlying162
attribute [instance] aKf
instance tz162:Tz Tryz.prog 162 3 24 (.agg #[.int .i64 0,.int .i64 0,.int .i64 0]):=⟨by kernel_rfl⟩
instance tf162:Tf Tryz.prog 162 [(0,1),(1,1),(2,1)]:=⟨by kernel_rfl⟩
@[reducible] def aKg:=Ty.mk Tryz.underlying167
attribute [instance] aKg
@[reducible] def aKh:=Ty.mk Tryz.underlying182
attribute [instance] aKh
@[reducible] def aKi:=Ty.mk Tryz.underlying204
attribute [instance] aKi
@[reducible] def aKj:=Ty.mk Tryz.underlying218
attribute [instance] aKj
@[reducible] def aKk:=Ty.mk Tryz.underlying261
attribute [instance] aKk
instance tz261:Tz Tryz.prog 261 2 32 (.agg #[.slice none 0 0,.bool false]):=⟨by kernel_rfl⟩
instance tf261:Tf Tryz.prog 261 [(0,1),(1,1)]:=⟨by kernel_rfl⟩
@[reducible] def aKl:=Ty.mk Tryz.underlying277
attribute [instance] aKl
@[reducible] def aKm:=Ty.mk Tryz.underlying280
attribute [instance] aKm
@[reducible] def aKn:=Ty.mk Tryz.underlying284
attribute [instance] aKn
@[reducible] def aKo:=Ty.mk Tryz.underlying298
attribute [instance] aKo
instance tz298:Tz Tryz.prog 298 3 24 (.agg #[.int .i64 0,.int .i64 0,.int .i64 0]):=⟨by kernel_rfl⟩
instance tf298:Tf Tryz.prog 298 [(0,1),(1,1),(2,1)]:=⟨by kernel_rfl⟩
@[reducible] def aKp:=Ty.mk Tryz.underlying325
attribute [instance] aKp
@[reducible] def aKq:=Ty.mk Tryz.underlying328
attribute [instance] aKq
instance tz328:Tz Tryz.prog 328 3 3 (.agg #[.int .u8 0,.int .u8 0,.int .u8 0]):=⟨by kernel_rfl⟩
@[reducible] def aKr:=Ty.mk Tryz.underlying346
attribute [instance] aKr
instance tz346:Tz Tryz.prog 346 3 40 (.agg #[.slice none 0 0,.int .i64 0,.int .i64 0]):=⟨by kernel_rfl⟩
instance tf346:Tf Tryz.prog 346 [(0,1),(1,1),(2,1)]:=⟨by kernel_rfl⟩
theorem aGS:Tryz.prog.follows .mixedOrders=true:=by kernel_rfl
end Go.Proofs.YtjpdadobblffmaaGreat
namespace Go.Proofs.YtjpdadobblffmaaGreat
open Go.RowKit Go.ChangeShapes Go.WideShapes Go.ChangeAt Go.Deep
structure Hold (Q:Prop):Prop where
 h:Q
theorem bV{P:Prop}(h:P:=by(first|assumption|(apply Nq.en;assumption)|omega|(simp only[Nq]at*;omega))):P:=h
theorem bA{P:Prop}(h:P:=by(repeat(first|exact jS|(apply jT;(first|assumption|(apply Nq.en;assumption)|omega|(simp only[Nq]at*;omega)))))):P:=h
theorem aF{P:Prop}(h:P:=by(repeat(first|exact ResL.nil|(apply ResL.tmp;rfl)|(apply ResL.cell;rfl;infer_instance;rfl;(repeat(first|exact jS|(apply jT;(first|assumption|(apply Nq.en;assumption)|omega|(simp only[Nq]at*;omega)))));rfl)|(apply ResL.cells;rfl;infer_instance;infer_instance;rfl;(repeat(first|exact jS|(apply jT;(first|assumption|(apply Nq.en;assumption)|omega|(simp only[Nq]at*;omega)))));exact Nat.le_of_ble_eq_true rfl)))):P:=h
theorem aA{P:Prop}(h:P:=by(first|exact aHL|exact(fun _ h=>h)|(apply StLe.mem;(repeat(first|exact StLe.nil|(apply StLe.cons;(repeat(first|exact List.mem_cons_self|apply List.mem_cons_of_mem));first|rfl|focus (congr 1;done)|focus (simp;done)|(simp;rfl))))))):P:=h
theorem aC{P:Prop}(h:P:=by(repeat(first|exact ArgsLe.nil|(apply ArgsLe.cons;rfl;first|exact VLe.refl _ |exact VLe.when rfl|exact VLe.any|exact VLe.empty|exact VLe.of_eq (by simp))))):P:=h
theorem aGT{P:Prop}(h:P:=by(
     first
      |exact Bor.refl _
      |exact Bor.le VLe.any
      |exact Bor.le VLe.empty
      |(apply aEl;(repeat(
        first
         |exact List.mem_cons_self
         |apply List.mem_cons_of_mem));(repeat(
        first
         |exact jS
         |(apply jT;(
          first
           |assumption
           |(apply Nq.en;assumption)
           |omega
           |(simp only[Nq]at*;omega)))));(
       first
        |focus (simp;done)
        |omega
        |focus (simp;omega));(
       first
        |rfl
        |focus (simp;done)
        |focus (exact List.take_of_length_le (by
         first
          |(simp;done)
          |(simp;omega)))))
      |focus (apply bbox;(repeat(
        first
         |exact List.mem_cons_self
         |apply List.mem_cons_of_mem));(repeat(
        first
         |exact jS
         |(apply jT;(
          first
           |assumption
           |(apply Nq.en;assumption)
           |omega
           |(simp only[Nq]at*;omega)))));rfl;rfl;(repeat(
        first
         |exact BorL.nil
         |(apply BorL.cons;(
          first
           |exact Bor.refl _
           |exact Bor.le VLe.any
           |exact Bor.le VLe.empty
           |(apply aEl;(repeat(
             first
              |exact List.mem_cons_self
              |apply List.mem_cons_of_mem));(repeat(
             first
              |exact jS
              |(apply jT;(
               first
                |assumption
                |(apply Nq.en;assumption)
                |omega
                |(simp only[Nq]at*;omega)))));(
            first
             |focus (simp;done)
             |omega);(
            first
             |rfl
             |focus (simp;done)
             |focus (exact List.take_of_length_le (by
              first
               |(simp;done)
               |(simp;omega)))))
           |focus (apply Bor.le;apply VLe.of_eq;simp;done)))));done)
      |focus (apply aB5;(repeat(
        first
         |exact BorL.nil
         |(apply BorL.cons;(
          first
           |exact Bor.refl _
           |exact Bor.le VLe.any
           |exact Bor.le VLe.empty
           |(apply aEl;(repeat(
             first
              |exact List.mem_cons_self
              |apply List.mem_cons_of_mem));(repeat(
             first
              |exact jS
              |(apply jT;(
               first
                |assumption
                |(apply Nq.en;assumption)
                |omega
                |(simp only[Nq]at*;omega)))));(
            first
             |focus (simp;done)
             |omega);(
            first
             |rfl
             |focus (simp;done)
             |focus (exact List.take_of_length_le (by
              first
               |(simp;done)
               |(simp;omega)))))
           |focus (apply Bor.le;apply VLe.of_eq;simp;done)))));done)
      |focus (apply Bor.le;apply VLe.of_eq;simp;done))):P:=h
theorem aR{P:Prop}(h:P:=by(repeat(first|exact ArgsIf.nil|(apply ArgsIf.cons;(first|exact W rfl id|exact W rfl (fun _=>rfl)|exact E rfl);exact aGT)))):P:=h
theorem bU{P:Prop}(h:P:=by(repeat(first|exact ArgsBor.nil|(apply ArgsBor.cons;rfl;exact aGT)))):P:=h
theorem cH{P:Prop}(h:P:=by(repeat(first|exact ArgsIf.nil|refine ArgsIf.cons (by first|exact Ev.when rfl (by first|exact id|simp)|exact Ev.here rfl) (by first|exact Bor.refl _ |exact Bor.le VLe.any|exact Bor.le VLe.empty|exact Bor.own (by simp) (by repeat(first|exact jS|refine jT (by(first|assumption|(apply Nq.en;assumption)|omega|(simp only[Nq]at*;omega))) ?_)) (by simp)|exact Bor.le (VLe.of_eq (by simp))) ?_))):P:=h
theorem bB{P:Prop}(h:P:=by(repeat(first|exact NoF.int|exact NoF.bool|exact NoF.nilp|exact NoF.nil|exact NoF.own|exact NoF.ptr|exact NoF.str|exact aB4|apply NoF.tup|apply NoF.agg|apply aAI))):P:=h
theorem fV{P:Prop}(h:P:=by(repeat(first|exact HB.nil|apply HB.none|(apply HB.ok;focus (simp only[List.mem_cons,List.not_mem_nil,or_false,List.map_cons,List.map_nil,forall_eq_or_imp,forall_eq,true_or,or_true,true_and,and_true,not_false_eq_true,not_or];(repeat' (first|apply And.intro|(first|assumption|(apply Nq.en;assumption)|omega|(simp only[Nq]at*;omega))));done))|(apply HB.waits;kernel_rfl)))):P:=h
theorem atT{P:Prop}(h:P:=by(first|rfl|exact aH (by assumption)|assumption)):P:=h
theorem GK{P:Prop}(h:P:=by(repeat(first|exact Put.done|apply Put.put|apply Put.skip))):P:=h
theorem mU{P:Prop}(h:P:=by(repeat(first|(apply SPut.here;(repeat(first|exact Put.done|apply Put.put|apply Put.skip));(repeat(first|exact Fresh.nil|(apply Fresh.cons;(first|assumption|(apply Nq.en;assumption)|omega|(simp only[Nq]at*;omega))))))|(apply SPut.next;(first|assumption|(apply Nq.en;assumption)|omega|(simp only[Nq]at*;omega)))))):P:=h
theorem cA{P:Prop}(h:P:=by(repeat(first|(apply SSet.here;(repeat(first|exact Fresh.nil|(apply Fresh.cons;(first|assumption|(apply Nq.en;assumption)|omega|(simp only[Nq]at*;omega))))))|(apply SSet.next;(first|assumption|(apply Nq.en;assumption)|omega|(simp only[Nq]at*;omega)))))):P:=h
theorem aU{P:Prop}(h:P:=by(repeat(first|(apply SDel.here;(repeat(first|exact Fresh.nil|(apply Fresh.cons;(first|assumption|(apply Nq.en;assumption)|omega|(simp only[Nq]at*;omega))))))|(apply SDel.next;(first|assumption|(apply Nq.en;assumption)|omega|(simp only[Nq]at*;omega)))))):P:=h
theorem uM{P:Prop}(h:P:=by(repeat(first|exact Fresh.nil|(apply Fresh.cons;(first|assumption|(apply Nq.en;assumption)|omega|(simp only[Nq]at*;omega)))))):P:=h
theorem sE{P:Prop}(h:P:=by(repeat(first|exact AEvs.nil|(apply AEvs.cons;rfl)))):P:=h
theorem wY{P:Prop}(h:P:=by(first|(simp only[Value.cells,AV.cells,List.map_cons,List.map_nil,cV,uW];rfl)|rfl)):P:=h
theorem bN{P:Prop}(h:P:=by(first|(simp(disch:=(first|(simp only[List.mem_cons,List.not_mem_nil,true_or,or_true,or_false];done)|(focus (simp only[List.mem_cons,List.not_mem_nil,or_false,not_or];(repeat' (first|apply And.intro|(first|assumption|(apply Nq.en;assumption)|omega|(simp only[Nq]at*;omega))));done))|omega)) only[↓aHI,↓aJZ,AV.cells,DH,lV,nM,pR,nN,List.nil_append,List.cons_append,List.append_nil,List.map_nil,List.map_cons,List.take_succ_cons,List.take_zero,List.drop_succ_cons,List.drop_zero,aAH,OR,Nat.zero_add,Nat.add_zero,uW,cV];rfl)|rfl)):P:=h
theorem MR{P:Program}{n:Nat}{ops:Array Oper}{rest:List Oper}{K:ASt→Prop}{fr:Fr}{σ σ2 s1:dS}{d:Nat}{ty:TypeId}{pos: _}{af: _}{f:FuncId}{xs:List Operand}{ats:Array TypeId}{args:List AV}{v:AV}(σ1:dS)(hf:∀args w,(callFunc f args).run P w=.ok (.enter f args) w)(h:SCall P f args σ1 (fun y σ=>y=v∧σ=s1))(hK:RS P n ops rest ⟨(d,v)::fr,σ2⟩ K)(hd:Nat.ble (d+1) n=true:=by exact rfl)
  (hargs:ArgsLe ⟨fr,σ⟩ xs args:=by exact aC) (hsub:∀p∈σ1,p∈σ:=by exact aA) (he:s1++eO (σ1.map (·.1)) σ=σ2:=by exact bN):RS P n ops (⟨some d,.call { callee:=.value (.func f),args:=xs.toArray,argTypes:=ats },ty,pos,af,none⟩::rest) ⟨fr,σ⟩ K:=
 cw σ1 hf h hd hargs hsub fun _ _ hr _=>by obtain⟨rfl,rfl⟩:=hr;exact he▸hK
theorem aL{P:Prop}(h:P:=by(refine aHM ?_ ?_ <;>(repeat(first|exact FrLe.nil|(apply FrLe.cons;rfl;first|exact VLe.refl _ |exact VLe.any|exact VLe.empty|exact VLe.of_eq (by simp)|exact VLe.of_eq (by congr 1;omega))|exact StLe.nil|exact StLe.refl _ |(apply StLe.cons;(repeat(first|exact List.mem_cons_self|apply List.mem_cons_of_mem));first|rfl|focus (congr 1;done)|focus (simp;done)|(simp;rfl)))))):P:=h
theorem aGU{P:Prop}(h:P:=by(repeat(first|(apply KeepIs.take;rfl)|(apply KeepIs.skip;rfl)|exact KeepIs.nil))):P:=h
theorem cT{P:Prop}(h:P:=by(repeat(first|exact FDel.nil|apply FDel.hit|apply FDel.miss rfl))):P:=h
section
variable {P Q:Prop}
theorem aJ(k:Q)(h:Hold Q→P:=by intro k;(repeat(first|refine cs ?_ |refine cb ?_ |refine ck ?_ |refine cx ?_ |refine cr ?_ |refine an ?_ |refine ae ?_ |refine ar ?_ |refine bn ?_ |refine bh ?_ |refine be rfl ?_ |refine br ?_ |refine ct rfl ?_ |refine cf rfl ?_));exact k.h):P:=h ⟨k⟩
theorem wZ(k:Q)(h:Hold Q→P:=by intro k;(repeat(first|refine cs ?_ |refine cb ?_ |refine ck ?_ |refine cx ?_ |refine cr ?_ |refine an ?_ |refine ae ?_ |refine ar ?_ |refine bn ?_ |refine bh ?_ |refine be rfl ?_ |refine br ?_ |refine ct rfl ?_ |refine cf rfl ?_ |refine cg ?_ |refine ag ?_ |refine bg ?_ |refine jg ?_ |refine jn ?_ |refine jr ?_ |refine je ?_));exact k.h):P:=h ⟨k⟩
theorem jQ(k:Q)(h:Hold Q→P:=by intro k;(first|refine sw_seq_region ?_ |refine aAD ?_);exact k.h):P:=h ⟨k⟩
theorem iF(k:Q)(h:Hold Q→P:=by intro k;(apply le;exact aGU);exact k.h):P:=h ⟨k⟩
theorem xA(k:Q)(h:Hold Q→P:=by intro k;(apply de;exact aGU);exact k.h):P:=h ⟨k⟩
end
structure Tag (o:List (Nat×Bool)):Prop where
 h:True
theorem KJ{o:List (Nat×Bool)}(_:Tag o){P:Program}{n:Nat}{ks:List Nat}{s:ASt}{Q:Exit→ASt→Prop}{id:Nat}{ops:Array Oper}(hm:P.follows .mixedOrders=true)(hsel:Region.noSelect ops=true)
  (hchk:(GE ops (Array.replicate ops.size false) o&&o.length==ops.size)=true) (h:RD P n ops (Array.replicate ops.size false) o [] s (zA ks (Q .normal))):SW P n ks (.region id ops true) s Q:=DI o hm hsel hchk h
theorem fM{P Q:Prop}(o:List (Nat×Bool))(k:Q)(h:Hold Q→Tag o→P:=by intro k t;(first|refine sw_seq_tag t aGS (by kernel_rfl) (by kernel_rfl) ?_ |refine KJ t aGS (by kernel_rfl) (by kernel_rfl) ?_);exact k.h):P:=h ⟨k⟩ ⟨trivial⟩
theorem bL{S R T G:Nat→Prop}(k:∀r,R r→T r)(h:Hold (∀r,R r→T r)→∀r,S r→G r:=by intro k r h;refine k.h r ?_;(first|(simp only[aO,aT,and_true]at h;exact h)|exact trivial)):∀r,S r→G r:=h ⟨k⟩
theorem aB7{A B G:Prop}(h:B→A→G):A∧B→G:=fun⟨a,b⟩=>h b a
theorem jZ{S C G:Nat→Prop}(k:∀r,C r)(h:Hold (∀r,C r)→∀r,S r→G r:=by intro k r h;first|(simp only[aO,aT,and_true]at h;revert h;(repeat refine aB7 ?_);exact k.h r)|exact k.h r True.intro):∀r,S r→G r:=h ⟨k⟩
theorem aNu{S R T G:Nat→Prop}(k:∀r,R r→T r)(h:Hold (∀r,R r→T r)→∀r,S r→G r:=by intro k r h;simp(disch:=(first|(simp only[List.mem_cons,List.not_mem_nil,true_or,or_true,or_false];done)|(focus (simp only[List.mem_cons,List.not_mem_nil,or_false,not_or];(repeat' (first|apply And.intro|(first|assumption|(apply Nq.en;assumption)|omega|(simp only[Nq]at*;omega))));done))|omega)) only[aO,aT,and_true,lV,nM,pR,nN]at h;have h2:=h;(repeat(rcases h2 with⟨_,h2⟩));apply Exists.intro;apply And.intro;exact cA;exact k.h r h):∀r,S r→G r:=h ⟨k⟩
theorem bH{S C G:Nat→Prop}(k:∀r,C r)(h:Hold (∀r,C r)→∀r,S r→G r:=by intro k r h;simp(disch:=(first|(simp only[List.mem_cons,List.not_mem_nil,true_or,or_true,or_false];done)|(focus (simp only[List.mem_cons,List.not_mem_nil,or_false,not_or];(repeat' (first|apply And.intro|(first|assumption|(apply Nq.en;assumption)|omega|(simp only[Nq]at*;omega))));done))|omega)) only[aO,aT,and_true,lV,nM,pR,nN]at h;have h2:=h;(repeat(rcases h2 with⟨_,h2⟩));apply Exists.intro;apply And.intro;exact cA;revert h;(repeat refine aB7 ?_);exact k.h r):∀r,S r→G r:=h ⟨k⟩
theorem gL{H R:Prop}(a:H)(h:H→R:=by intro h;replace h:=(h _ List.mem_cons_self).resolve_left (by simp only[List.mem_cons,List.not_mem_nil,or_false,exists_eq_or_imp,exists_eq_left,not_or,false_and,exists_false,not_false_eq_true];(repeat' (first|apply And.intro|exact bV));done);simp only[aO,aT,and_true]at h;exact h):R:=h a
theorem cL{H R:Prop}(a:H)(h:H→R:=by intro h;simp only[List.mem_cons,List.mem_singleton,List.not_mem_nil,or_false,forall_eq_or_imp,forall_eq,aO,aT,and_true,and_assoc]at h;exact h):R:=h a
theorem aZ{H R:Prop}(a:H)(h:H→R:=by intro h;have h:=tB (h _ List.mem_cons_self);simp(disch:=(first|(simp only[List.mem_cons,List.not_mem_nil,true_or,or_true,or_false];done)|(focus (simp only[List.mem_cons,List.not_mem_nil,or_false,not_or];(repeat' (first|apply And.intro|(first|assumption|(apply Nq.en;assumption)|omega|(simp only[Nq]at*;omega))));done))|omega)) only[List.map_cons,List.map_nil,lV,nM,pR,nN,aO,aT,and_true]at h;exact h):R:=h a
section
variable {P Q:Prop}
theorem z0(k:Q)(h:Hold Q→P:=by intro k;(first|refine lo (mG (E rfl) (WX (by omega) (by omega))) rfl ?_ |refine lo (yZ (E rfl)) rfl ?_);exact k.h):P:=h ⟨k⟩
theorem z1(k:Q)(h:Hold Q→P:=by intro k;(apply bs;exact sE;rfl;rfl;rfl;rfl;exact wY;rfl);exact k.h):P:=h ⟨k⟩
theorem z2(k:Q)(h:Hold Q→P:=by intro k;(refine lo (YY (E rfl) (E rfl) (fun _=>by first|decide|omega)) rfl ?_);exact k.h):P:=h ⟨k⟩
theorem z3(k:Q)(h:Hold Q→P:=by intro k;(refine lo (WU (E rfl) (E rfl)) rfl ?_);exact k.h):P:=h ⟨k⟩
theorem z4(k:Q)(h:Hold Q→P:=by intro k;(refine lg rfl rfl (aD (E rfl)) rfl ?_);exact k.h):P:=h ⟨k⟩
theorem z5(k:Q)(h:Hold Q→P:=by intro k;(refine lg rfl rfl (iX (W rfl id) (E rfl)) rfl ?_);exact k.h):P:=h ⟨k⟩
theorem z6(k:Q)(h:Hold Q→P:=by intro k;(refine lg rfl rfl (dI (W rfl id) (E rfl)) rfl ?_);exact k.h):P:=h ⟨k⟩
theorem z7(k:Q)(h:Hold Q→P:=by intro k;(refine lo (hX (E rfl) (W rfl (by simp)) (E rfl)) rfl ?_);exact k.h):P:=h ⟨k⟩
theorem z8(k:Q)(h:Hold Q→P:=by intro k;(refine lg rfl rfl (aD (W rfl id)) rfl ?_);exact k.h):P:=h ⟨k⟩
theorem z9(k:Q)(h:Hold Q→P:=by intro k;(refine lw rfl rfl (aD (E rfl)) rfl ?_);exact k.h):P:=h ⟨k⟩
theorem z10(k:Q)(h:Hold Q→P:=by intro k;(refine lw rfl rfl (iX (W rfl (by first|exact id|simp)) (E rfl)) rfl ?_);exact k.h):P:=h ⟨k⟩
theorem z11(k:Q)(h:Hold Q→P:=by intro k;(refine lw rfl rfl (gA (W rfl (by first|exact id|simp)) (E rfl)) rfl ?_);exact k.h):P:=h ⟨k⟩
theorem z12(k:Q)(h:Hold Q→P:=by intro k;(refine lg rfl rfl (hX (W rfl id) (W rfl (by simp)) (E rfl)) rfl ?_);exact k.h):P:=h ⟨k⟩
theorem z13(k:Q)(h:Hold Q→P:=by intro k;(first|refine lo (jJ (E rfl) (W rfl (by simp))) rfl ?_ |refine lo (hX (E rfl) (E rfl) (W rfl (by simp))) rfl ?_);exact k.h):P:=h ⟨k⟩
theorem kU(k:Q)(h:Hold Q→P:=by intro k;(first|refine lo (fT (E rfl)) rfl ?_ |refine lo (kI (E rfl)) rfl ?_ |refine lo (gT (E rfl)) rfl ?_);exact k.h):P:=h ⟨k⟩
theorem OU(k:Q)(h:Hold Q→P:=by intro k;(first|refine lo (bF (E rfl) (E rfl) (fun hc=>by(simp only[List.length_map];omega))) rfl ?_ |refine lo (aV (E rfl) bA (E rfl) (fun hc=>by omega)) rfl ?_);exact k.h):P:=h ⟨k⟩
theorem OV(k:Q)(h:Hold Q→P:=by intro k;(first|refine lo (aN (E rfl) rfl (fun hc=>by first|rfl|exact aH (by assumption)|assumption|exact aH (aQ (by omega))) (fun _=>rfl)) rfl ?_ |refine lo (bO (E rfl) rfl bA (fun hc=>by first|rfl|exact aH (by assumption)|assumption|exact aH (aQ (by omega))) (fun _=>rfl)) rfl ?_);exact k.h):P:=h ⟨k⟩
theorem FH(k:Q)(h:Hold Q→P:=by intro k;(first|refine lo (BL (E rfl) (E rfl) (by omega) (by omega)) rfl ?_ |refine lo (rB (E rfl) (E rfl)) rfl ?_);exact k.h):P:=h ⟨k⟩
theorem z18(k:Q)(h:Hold Q→P:=by intro k;(refine lg rfl rfl (kV (W rfl id) (E rfl)) rfl ?_);exact k.h):P:=h ⟨k⟩
theorem tA(k:Q)(h:Hold Q→P:=by intro k;(first|refine lo (sC (E rfl) (E rfl) (by omega) (by omega)) rfl ?_ |refine lo (FF (E rfl) (E rfl)) rfl ?_);exact k.h):P:=h ⟨k⟩
theorem z20(k:Q)(h:Hold Q→P:=by intro k;(refine lo (aEc (E rfl) (E rfl) (fun _=>by first|decide|omega)) rfl ?_);exact k.h):P:=h ⟨k⟩
theorem z22(k:Q)(h:Hold Q→P:=by intro k;(refine lo (yY (E rfl) (E rfl) (fun _=>by first|decide|omega)) rfl ?_);exact k.h):P:=h ⟨k⟩
theorem z23(k:Q)(h:Hold Q→P:=by intro k;(refine lo (aEd (E rfl) (E rfl) (fun _=>by first|decide|omega)) rfl ?_);exact k.h):P:=h ⟨k⟩
theorem XA(k:Q)(h:Hold Q→P:=by intro k;(first|refine lo (mG (E rfl) (CU (by omega) (by omega))) rfl ?_ |refine lo (yZ (E rfl)) rfl ?_);exact k.h):P:=h ⟨k⟩
theorem z25(k:Q)(h:Hold Q→P:=by intro k;(first|refine fI rfl (pB (E rfl) OB.none (OB.some (E rfl) (fun _=>by first|rfl|exact(Int.toNat_of_nonneg (by omega)).symm)) (fun _=>by first|(simp only[List.length_map];omega)|omega)) rfl ?_ |refine fI rfl (rK (E rfl) bA OB.none (OB.some (E rfl) (fun _=>by first|rfl|exact(Int.toNat_of_nonneg (by omega)).symm)) (fun _=>by first|(simp only[List.length_map];omega)|omega)) rfl ?_);exact k.h):P:=h ⟨k⟩
theorem z26(k:Q)(h:Hold Q→P:=by intro k;(refine eQ rfl rfl rfl (aD (E rfl)) rfl ?_);exact k.h):P:=h ⟨k⟩
theorem z27(k:Q)(h:Hold Q→P:=by intro k;(refine eQ rfl rfl rfl (iB (W rfl id) (E rfl)) rfl ?_);exact k.h):P:=h ⟨k⟩
theorem z28(k:Q)(h:Hold Q→P:=by intro k;(refine eQ rfl rfl rfl (aD (W rfl id)) rfl ?_);exact k.h):P:=h ⟨k⟩
theorem z29(k:Q)(h:Hold Q→P:=by intro k;(refine eJ rfl rfl rfl (aD (E rfl)) rfl ?_);exact k.h):P:=h ⟨k⟩
theorem z30(k:Q)(h:Hold Q→P:=by intro k;(refine eJ rfl rfl rfl (YY (W rfl (by first|exact id|simp)) (W rfl (by first|exact id|simp)) (fun _=>by first|decide|omega)) rfl ?_);exact k.h):P:=h ⟨k⟩
theorem z31(k:Q)(h:Hold Q→P:=by intro k;(refine eJ rfl rfl rfl (gA (W rfl (by first|exact id|simp)) (E rfl)) rfl ?_);exact k.h):P:=h ⟨k⟩
theorem z32(k:Q)(h:Hold Q→P:=by intro k;(first|refine eQ rfl rfl rfl (jI (W rfl id) (W rfl (by simp))) rfl ?_ |refine eQ rfl rfl rfl (hX (W rfl id) (W rfl (by simp)) (E rfl)) rfl ?_);exact k.h):P:=h ⟨k⟩
theorem z33(k:Q)(h:Hold Q→P:=by intro k;(refine fI rfl (hX (E rfl) (E rfl) (W rfl (by simp))) rfl ?_);exact k.h):P:=h ⟨k⟩
theorem z34(k:Q)(h:Hold Q→P:=by intro k;(refine lg rfl rfl (gB (W rfl id) (E rfl)) rfl ?_);exact k.h):P:=h ⟨k⟩
theorem z44(k:Q)(h:Hold Q→P:=by intro k;(first|refine lo (mG (E rfl) (jH (by omega) (by omega))) rfl ?_ |refine lo (yZ (E rfl)) rfl ?_);exact k.h):P:=h ⟨k⟩
theorem z45(k:Q)(h:Hold Q→P:=by intro k;(refine eQ rfl rfl rfl (gA (W rfl id) (E rfl)) rfl ?_);exact k.h):P:=h ⟨k⟩
theorem z46(k:Q)(h:Hold Q→P:=by intro k;(refine fI rfl (iB (E rfl) (E rfl)) rfl ?_);exact k.h):P:=h ⟨k⟩
theorem z54(k:Q)(h:Hold Q→P:=by intro k;(refine lg rfl rfl (lR (W rfl id) (W rfl id)) rfl ?_);exact k.h):P:=h ⟨k⟩
theorem z55(k:Q)(h:Hold Q→P:=by intro k;(refine lg rfl rfl (lR (W rfl id) (E rfl)) rfl ?_);exact k.h):P:=h ⟨k⟩
theorem MT(k:Q)(h:Hold Q→P:=by intro k;(first|refine fI rfl (bF (E rfl) (E rfl) (fun hc=>by(simp only[List.length_map];omega))) rfl ?_ |refine fI rfl (aV (E rfl) bA (E rfl) (fun hc=>by omega)) rfl ?_);exact k.h):P:=h ⟨k⟩
theorem WR(k:Q)(h:Hold Q→P:=by intro k;(first|refine fI rfl (aN (E rfl) rfl (fun hc=>by first|rfl|exact aH (by assumption)|assumption|exact aH (aQ (by omega))) (fun _=>rfl)) rfl ?_ |refine fI rfl (bO (E rfl) rfl bA (fun hc=>by first|rfl|exact aH (by assumption)|assumption|exact aH (aQ (by omega))) (fun _=>rfl)) rfl ?_);exact k.h):P:=h ⟨k⟩
theorem z58(k:Q)(h:Hold Q→P:=by intro k;(refine fI rfl (gA (E rfl) (E rfl)) rfl ?_);exact k.h):P:=h ⟨k⟩
theorem wL(k:Q)(h:Hold Q→P:=by intro k;(refine lo (bD (E rfl) rfl (by decide)) rfl ?_);exact k.h):P:=h ⟨k⟩
theorem uN(k:Q)(h:Hold Q→P:=by intro k;(first|refine lo (aM (E rfl) rfl bA (fun _=>rfl)) rfl ?_ |refine lo (aM (E rfl) rfl bA (fun _=>by assumption)) rfl ?_);exact k.h):P:=h ⟨k⟩
theorem z61(k:Q)(h:Hold Q→P:=by intro k;(refine lg rfl rfl (bD (E rfl) rfl (by decide)) rfl ?_);exact k.h):P:=h ⟨k⟩
theorem z62(k:Q)(h:Hold Q→P:=by intro k;(first|refine lg rfl rfl (aM (W rfl id) rfl bA (fun _=>rfl)) rfl ?_ |refine lg rfl rfl (aM (W rfl id) rfl bA (fun _=>by assumption)) rfl ?_);exact k.h):P:=h ⟨k⟩
theorem z63(k:Q)(h:Hold Q→P:=by intro k;(refine lg rfl rfl (fT (W rfl id)) rfl ?_);exact k.h):P:=h ⟨k⟩
theorem z64(k:Q)(h:Hold Q→P:=by intro k;(refine lg rfl rfl (gA (W rfl id) (E rfl)) rfl ?_);exact k.h):P:=h ⟨k⟩
theorem z65(k:Q)(h:Hold Q→P:=by intro k;(refine lw rfl rfl (bD (E rfl) rfl (by decide)) rfl ?_);exact k.h):P:=h ⟨k⟩
theorem z66(k:Q)(h:Hold Q→P:=by intro k;(first|refine lw rfl rfl (aM (W rfl (by first|exact id|simp)) rfl bA (fun _=>rfl)) rfl ?_ |refine lw rfl rfl (aM (W rfl (by first|exact id|simp)) rfl bA (fun _=>by assumption)) rfl ?_);exact k.h):P:=h ⟨k⟩
theorem z67(k:Q)(h:Hold Q→P:=by intro k;(refine lg rfl rfl (dF (by exact W rfl id)) rfl ?_);exact k.h):P:=h ⟨k⟩
theorem rX(k:Q)(h:Hold Q→P:=by intro k;(first|refine lo (jI (E rfl) (by first|exact W rfl (by simp)|exact E rfl)) rfl ?_ |refine lo (jJ (E rfl) (E rfl)) rfl ?_ |refine lo (hX (E rfl) (by first|exact W rfl (by simp)|exact E rfl) (E rfl)) rfl ?_);exact k.h):P:=h ⟨k⟩
theorem z69(k:Q)(h:Hold Q→P:=by intro k;(refine lg rfl rfl (iB (W rfl id) (E rfl)) rfl ?_);exact k.h):P:=h ⟨k⟩
theorem z70(k:Q)(h:Hold Q→P:=by intro k;(refine lg rfl rfl (dI (W rfl id) (W rfl id)) rfl ?_);exact k.h):P:=h ⟨k⟩
theorem z71(k:Q)(h:Hold Q→P:=by intro k;(refine lg rfl rfl (bF (W rfl id) (W rfl id) (fun hc=>by(try simp at hc)<;>(simp only[List.length_map];omega))) rfl ?_);exact k.h):P:=h ⟨k⟩
theorem z72(k:Q)(h:Hold Q→P:=by intro k;(refine lg rfl rfl (aN (W rfl id) rfl (fun hc=>by first|rfl|exact aH (by assumption)|assumption|exact aH (aQ (by(try simp at hc)<;>omega))) (fun _=>rfl)) rfl ?_);exact k.h):P:=h ⟨k⟩
theorem OW(k:Q)(h:Hold Q→P:=by intro k;(refine fI rfl (bD (E rfl) rfl (by decide)) rfl ?_);exact k.h):P:=h ⟨k⟩
theorem z74(k:Q)(h:Hold Q→P:=by intro k;(first|refine fI rfl (aM (E rfl) rfl bA (fun _=>rfl)) rfl ?_ |refine fI rfl (aM (E rfl) rfl bA (fun _=>by assumption)) rfl ?_);exact k.h):P:=h ⟨k⟩
theorem z75(k:Q)(h:Hold Q→P:=by intro k;(refine fI rfl (mG (E rfl) (CU (by omega) (by omega))) rfl ?_);exact k.h):P:=h ⟨k⟩
theorem z76(k:Q)(h:Hold Q→P:=by intro k;(first|refine lo (bE (E rfl) (.inl ⟨_,_,rfl⟩)) rfl ?_ |refine lo (bE (E rfl) (.inr (.inl ⟨_,_,_,rfl⟩))) rfl ?_ |refine lo (bE (E rfl) (.inr (.inr ⟨_,_,_,_,rfl⟩))) rfl ?_);exact k.h):P:=h ⟨k⟩
theorem z77(k:Q)(h:Hold Q→P:=by intro k;(first|refine fI rfl (bE (E rfl) (.inl ⟨_,_,rfl⟩)) rfl ?_ |refine fI rfl (bE (E rfl) (.inr (.inl ⟨_,_,_,rfl⟩))) rfl ?_ |refine fI rfl (bE (E rfl) (.inr (.inr ⟨_,_,_,_,rfl⟩))) rfl ?_);exact k.h):P:=h ⟨k⟩
theorem WS(k:Q)(h:Hold Q→P:=by intro k;(first|refine fI rfl (fT (E rfl)) rfl ?_ |refine fI rfl (gT (E rfl)) rfl ?_);exact k.h):P:=h ⟨k⟩
theorem z79(k:Q)(h:Hold Q→P:=by intro k;(refine fI rfl (dI (E rfl) (E rfl)) rfl ?_);exact k.h):P:=h ⟨k⟩
theorem z80(k:Q)(h:Hold Q→P:=by intro k;(refine lg rfl rfl (mG (W rfl id) (jH (by omega) (by omega))) rfl ?_);exact k.h):P:=h ⟨k⟩
theorem z81(k:Q)(h:Hold Q→P:=by intro k;(refine lg rfl rfl (kV (W rfl id) (W rfl id)) rfl ?_);exact k.h):P:=h ⟨k⟩
theorem z82(k:Q)(h:Hold Q→P:=by intro k;(refine fI rfl (sC (E rfl) (E rfl) (by omega) (by omega)) rfl ?_);exact k.h):P:=h ⟨k⟩
theorem z83(k:Q)(h:Hold Q→P:=by intro k;(refine fI rfl (mG (E rfl) (jH (by omega) (by omega))) rfl ?_);exact k.h):P:=h ⟨k⟩
theorem z84(k:Q)(h:Hold Q→P:=by intro k;(first|refine fI rfl (pB (E rfl) (OB.some (E rfl) (fun _=>by first|rfl|exact(Int.toNat_of_nonneg (by omega)).symm)) OB.none (fun _=>by first|(simp only[List.length_map];omega)|omega)) rfl ?_ |refine fI rfl (rK (E rfl) bA (OB.some (E rfl) (fun _=>by first|rfl|exact(Int.toNat_of_nonneg (by omega)).symm)) OB.none (fun _=>by first|(simp only[List.length_map];omega)|omega)) rfl ?_);exact k.h):P:=h ⟨k⟩
theorem z85(k:Q)(h:Hold Q→P:=by intro k;(refine fI rfl (mF (E rfl) rfl) rfl ?_);exact k.h):P:=h ⟨k⟩
theorem z91(k:Q)(h:Hold Q→P:=by intro k;(first|refine lg rfl rfl (bE (W rfl id) (.inl ⟨_,_,rfl⟩)) rfl ?_ |refine lg rfl rfl (bE (W rfl id) (.inr (.inl ⟨_,_,_,rfl⟩))) rfl ?_ |refine lg rfl rfl (bE (W rfl id) (.inr (.inr ⟨_,_,_,_,rfl⟩))) rfl ?_);exact k.h):P:=h ⟨k⟩
theorem z92(k:Q)(h:Hold Q→P:=by intro k;(refine lg rfl rfl (bD (W rfl id) rfl (by decide)) rfl ?_);exact k.h):P:=h ⟨k⟩
theorem jK(k:Q)(h:Hold Q→P:=by intro k;(refine lo (OS (by repeat(first|exact PEvs.nil|(apply PEvs.cons;exact E rfl))) (by(exact wY)) (by repeat(first|exact Fill.nil|(apply Fill.cons;rfl;rfl;rfl;(exact GK))))) rfl ?_);exact k.h):P:=h ⟨k⟩
theorem XB(k:Q)(h:Hold Q→P:=by intro k;(refine fI rfl (OS (by repeat(first|exact PEvs.nil|(apply PEvs.cons;exact E rfl))) (by(exact wY)) (by repeat(first|exact Fill.nil|(apply Fill.cons;rfl;rfl;rfl;(exact GK))))) rfl ?_);exact k.h):P:=h ⟨k⟩
theorem z95(k:Q)(h:Hold Q→P:=by intro k;(apply aLY;rfl;infer_instance;rfl;rfl;rfl;rfl;exact mU;(exact fV));exact k.h):P:=h ⟨k⟩
theorem DJ(k:Q)(h:Hold Q→P:=by intro k;(refine fI rfl (fP (E rfl) rfl bA (fun _=>Nat.le_of_ble_eq_true rfl)) rfl ?_);exact k.h):P:=h ⟨k⟩
theorem z97(k:Q)(h:Hold Q→P:=by intro k;(apply dbs;rfl;infer_instance;infer_instance;exact sE;rfl;rfl;rfl;rfl;exact wY;rfl);exact k.h):P:=h ⟨k⟩
theorem oS(k:Q)(h:Hold Q→P:=by intro k;(refine lo (fP (E rfl) rfl bA (fun _=>Nat.le_of_ble_eq_true rfl)) rfl ?_);exact k.h):P:=h ⟨k⟩
theorem aEo(k:Q)(h:Hold Q→P:=by intro k;(first|refine lo (pB (E rfl) OB.none (OB.some (E rfl) (fun _=>by first|rfl|exact(Int.toNat_of_nonneg (by omega)).symm)) (fun _=>by first|(simp only[List.length_map];omega)|omega)) rfl ?_ |refine lo (rK (E rfl) bA OB.none (OB.some (E rfl) (fun _=>by first|rfl|exact(Int.toNat_of_nonneg (by omega)).symm)) (fun _=>by first|(simp only[List.length_map];omega)|omega)) rfl ?_);exact k.h):P:=h ⟨k⟩
theorem pW(k:Q)(h:Hold Q→P:=by intro k;(first|refine ln rfl rfl rfl rfl ?_ |(refine gy rfl rfl ?_;refine lo (aD (E rfl)) rfl ?_)|refine lg rfl rfl (aD (E rfl)) rfl ?_);exact k.h):P:=h ⟨k⟩
theorem aEp(k:Q)(h:Hold Q→P:=by intro k;(first|(refine gy rfl rfl ?_;refine lo (iB (by first|exact W rfl id|exact E rfl) (by first|exact W rfl id|exact E rfl)) rfl ?_)|refine lg rfl rfl (iB (by first|exact W rfl id|exact E rfl) (by first|exact W rfl id|exact E rfl)) rfl ?_);exact k.h):P:=h ⟨k⟩
theorem aAL(k:Q)(h:Hold Q→P:=by intro k;(first|refine lo (tV (E rfl) rfl (fun hc=>by first|rfl|exact aH (by assumption)|assumption) (fun _=>Nat.le_of_ble_eq_true rfl)) rfl ?_ |refine lo (tW (E rfl) rfl bA (fun hc=>by first|rfl|exact aH (by assumption)|assumption) (fun _=>Nat.le_of_ble_eq_true rfl)) rfl ?_);exact k.h):P:=h ⟨k⟩
theorem xY(k:Q)(h:Hold Q→P:=by intro k;(first|(refine gy rfl rfl ?_;refine lo (dI (by first|exact W rfl id|exact E rfl) (E rfl)) rfl ?_)|refine lg rfl rfl (dI (by first|exact W rfl id|exact E rfl) (E rfl)) rfl ?_);exact k.h):P:=h ⟨k⟩
theorem rM(k:Q)(h:Hold Q→P:=by intro k;(first|refine lo (jI (E rfl) (E rfl)) rfl ?_ |refine lo (jJ (E rfl) (by first|exact W rfl (by simp)|exact E rfl)) rfl ?_ |refine lo (hX (E rfl) (E rfl) (by first|exact W rfl (by simp)|exact E rfl)) rfl ?_);exact k.h):P:=h ⟨k⟩
theorem aEq(k:Q)(h:Hold Q→P:=by intro k;(first|refine ln rfl rfl rfl rfl ?_ |(refine gy rfl rfl ?_;(refine lo (bD (E rfl) rfl (by decide)) rfl ?_))|refine lg rfl rfl (bD (E rfl) rfl (by decide)) rfl ?_);exact k.h):P:=h ⟨k⟩
theorem aEr(k:Q)(h:Hold Q→P:=by intro k;(first|refine ln rfl rfl rfl rfl ?_ |(refine gy rfl rfl ?_;(first|refine lo (aM (by first|exact W rfl id|exact E rfl) rfl bA (fun _=>rfl)) rfl ?_ |refine lo (aM (by first|exact W rfl id|exact E rfl) rfl bA (fun _=>by assumption)) rfl ?_))|refine lg rfl rfl (aM (by first|exact W rfl id|exact E rfl) rfl bA (fun _=>rfl)) rfl ?_ |refine lg rfl rfl (aM (by first|exact W rfl id|exact E rfl) rfl bA (fun _=>by assumption)) rfl ?_);exact k.h):P:=h ⟨k⟩
theorem aEs(k:Q)(h:Hold Q→P:=by intro k;(refine lg rfl rfl (gA (by first|exact W rfl id|exact E rfl) (E rfl)) rfl ?_);exact k.h):P:=h ⟨k⟩
theorem OX(k:Q)(h:Hold Q→P:=by intro k;(first|refine lo (bK (E rfl) rfl (by decide)) rfl ?_ |refine lo (fJ (E rfl) rfl (by decide)) rfl ?_);exact k.h):P:=h ⟨k⟩
theorem OY(k:Q)(h:Hold Q→P:=by intro k;(apply sto;rfl;rfl;rfl;rfl;exact cA;exact atT;exact GK;rfl);exact k.h):P:=h ⟨k⟩
theorem aHT(k:Q)(h:Hold Q→P:=by intro k;(first|refine ln rfl rfl rfl rfl ?_ |refine lg rfl rfl (sC (by first|exact W rfl id|exact E rfl) (E rfl) (by omega) (by omega)) rfl ?_ |refine lg rfl rfl (lop_sub64c (by first|exact W rfl id|exact E rfl) (E rfl) (fun hc=>by simp at hc<;>first|omega|(have hov:=hov hc;omega))) rfl ?_);exact k.h):P:=h ⟨k⟩
theorem DK(k:Q)(h:Hold Q→P:=by intro k;(first|refine ln rfl rfl rfl rfl ?_ |refine lg rfl rfl (bF (by exact W rfl id) (by exact W rfl id) (fun hc=>by(try simp at hc)<;>(simp only[List.length_map];omega))) rfl ?_ |refine lg rfl rfl (aV (by exact W rfl id) bA (by exact W rfl id) (fun hc=>by(try simp at hc)<;>omega)) rfl ?_);exact k.h):P:=h ⟨k⟩
theorem DL(k:Q)(h:Hold Q→P:=by intro k;(first|refine ln rfl rfl rfl rfl ?_ |refine lg rfl rfl (aN (by exact W rfl id) rfl (fun hc=>by first|rfl|exact aH (by assumption)|assumption) (fun _=>rfl)) rfl ?_ |refine lg rfl rfl (bO (by exact W rfl id) rfl bA (fun hc=>by first|rfl|exact aH (by assumption)|assumption) (fun _=>rfl)) rfl ?_);exact k.h):P:=h ⟨k⟩
theorem TJ(k:Q)(h:Hold Q→P:=by intro k;(first|refine lg rfl rfl (bK (by exact W rfl id) rfl (by decide)) rfl ?_ |refine lg rfl rfl (fJ (by exact W rfl id) rfl (by decide)) rfl ?_);exact k.h):P:=h ⟨k⟩
theorem aEt(k:Q)(h:Hold Q→P:=by intro k;(refine lg rfl rfl (gB (by first|exact W rfl id|exact E rfl) (E rfl)) rfl ?_);exact k.h):P:=h ⟨k⟩
theorem qU(k:Q)(h:Hold Q→P:=by intro k;(first|refine ln rfl rfl rfl rfl ?_ |(refine gy rfl rfl ?_;(first|refine lo (fT (by first|exact W rfl id|exact E rfl)) rfl ?_ |refine lo (gT (by first|exact W rfl id|exact E rfl)) rfl ?_))|refine lg rfl rfl (fT (by first|exact W rfl id|exact E rfl)) rfl ?_ |refine lg rfl rfl (gT (by first|exact W rfl id|exact E rfl)) rfl ?_);exact k.h):P:=h ⟨k⟩
theorem KK(k:Q)(h:Hold Q→P:=by intro k;(first|(refine gy rfl rfl ?_;refine lo (kV (by first|exact W rfl id|exact E rfl) (E rfl)) rfl ?_)|refine lg rfl rfl (kV (by first|exact W rfl id|exact E rfl) (E rfl)) rfl ?_);exact k.h):P:=h ⟨k⟩
theorem xB(k:Q)(h:Hold Q→P:=by intro k;(first|refine fI rfl (tV (E rfl) rfl (fun hc=>by first|rfl|exact aH (by assumption)|assumption) (fun _=>Nat.le_of_ble_eq_true rfl)) rfl ?_ |refine fI rfl (tW (E rfl) rfl bA (fun hc=>by first|rfl|exact aH (by assumption)|assumption) (fun _=>Nat.le_of_ble_eq_true rfl)) rfl ?_);exact k.h):P:=h ⟨k⟩
theorem aHU(k:Q)(h:Hold Q→P:=by intro k;(refine lo (pB (E rfl) (OB.some (E rfl) (fun _=>by first|rfl|exact(Int.toNat_of_nonneg (by omega)).symm)) OB.none (fun _=>by first|(simp only[List.length_map];omega)|omega)) rfl ?_);exact k.h):P:=h ⟨k⟩
theorem aHV(k:Q)(h:Hold Q→P:=by intro k;(first|refine ln rfl rfl rfl rfl ?_ |refine lg rfl rfl (dI (by exact W rfl id) (by exact W rfl id)) rfl ?_);exact k.h):P:=h ⟨k⟩
theorem aMv(k:Q)(h:Hold Q→P:=by intro k;(first|refine ln rfl rfl rfl rfl ?_ |(refine gy rfl rfl ?_;refine lo (vM .nil (.cons rfl .nil)) rfl ?_));exact k.h):P:=h ⟨k⟩
theorem vF(k:Q)(h:Hold Q→P:=by intro k;(first|refine ln rfl rfl rfl rfl ?_ |(refine gy rfl rfl ?_;refine lo (dF (by first|exact W rfl id|exact E rfl)) rfl ?_)|refine lg rfl rfl (dF (by first|exact W rfl id|exact E rfl)) rfl ?_);exact k.h):P:=h ⟨k⟩
theorem OZ(k:Q)(h:Hold Q→P:=by intro k;(first|refine ln rfl rfl rfl rfl ?_ |(refine gy rfl rfl ?_;refine lo (lR (by first|exact W rfl id|exact E rfl) (E rfl)) rfl ?_)|refine lg rfl rfl (lR (by first|exact W rfl id|exact E rfl) (E rfl)) rfl ?_);exact k.h):P:=h ⟨k⟩
theorem aB9(k:Q)(h:Hold Q→P:=by intro k;(refine lg rfl rfl (lR (by exact W rfl id) (by exact W rfl id)) rfl ?_);exact k.h):P:=h ⟨k⟩
theorem aCa(k:Q)(h:Hold Q→P:=by intro k;(refine lg rfl rfl (aD (by exact W rfl id)) rfl ?_);exact k.h):P:=h ⟨k⟩
theorem aCb(k:Q)(h:Hold Q→P:=by intro k;(refine lw rfl rfl (bD (E rfl) rfl (by decide)) rfl ?_);exact k.h):P:=h ⟨k⟩
end
theorem aCc{P Q:Prop}(k:Q)(h:Hold Q→P:=by intro k;(
     first
      |refine ln rfl rfl rfl rfl ?_
      |(refine gy rfl rfl ?_;(
       first
        |refine lo (aM (by
         first
          |exact W rfl id
          |exact E rfl) rfl bA (fun _=>rfl)) rfl ?_
        |refine lo (aM (by
         first
          |exact W rfl id
          |exact E rfl) rfl bA (fun _=>by assumption)) rfl ?_
        |refine lo (aN (by
         first
          |exact W rfl id
          |exact E rfl) rfl (fun hc=>by
         first
          |rfl
          |exact aH (by assumption)
          |assumption
          |exact aH (aQ (by omega))) (fun _=>rfl)) rfl ?_))
      |refine lg rfl rfl (aM (by
       first
        |exact W rfl (by
        first
         |exact id
         |simp)
        |exact E rfl) rfl bA (fun _=>rfl)) rfl ?_
      |refine lg rfl rfl (aM (by
       first
        |exact W rfl (by
        first
         |exact id
         |simp)
        |exact E rfl) rfl bA (fun _=>by assumption)) rfl ?_
      |refine lg rfl rfl (aN (by
       first
        |exact W rfl (by
        first
         |exact id
         |simp)
        |exact E rfl) rfl (fun hc=>by
       first
        |rfl
        |exact aH (by assumption)
        |assumption
        |exact aH (aQ (by(try simp at hc)<;>omega))) (fun _=>rfl)) rfl ?_
      |refine lw rfl rfl (aM (by
       first
        |exact W rfl (by
        first
         |exact id
         |simp)
        |exact E rfl) rfl bA (fun _=>rfl)) rfl ?_
      |refine lw rfl rfl (aM (by
       first
        |exact W rfl (by
        first
         |exact id
         |simp)
        |exact E rfl) rfl bA (fun _=>by assumption)) rfl ?_
      |refine lw rfl rfl (aN (by
       first
        |exact W rfl (by
        first
         |exact id
         |simp)
        |exact E rfl) rfl (fun hc=>by
       first
        |rfl
        |exact aH (by assumption)
        |assumption
        |exact aH (aQ (by(try simp at hc)<;>omega))) (fun _=>rfl)) rfl ?_
      |refine lw rfl rfl (bS (v:=.bool false)) rfl ?_);exact k.h):P:=h ⟨k⟩
section
variable {P Q:Prop}
theorem aKv(k:Q)(h:Hold Q→P:=by intro k;(refine lw rfl rfl (gB (by first|exact W rfl (by first|exact id|simp)|exact E rfl) (E rfl)) rfl ?_);exact k.h):P:=h ⟨k⟩
theorem aEu(k:Q)(h:Hold Q→P:=by intro k;(refine lg rfl rfl (hX (by first|exact W rfl id|exact E rfl) (by first|exact W rfl (by simp)|exact E rfl) (E rfl)) rfl ?_);exact k.h):P:=h ⟨k⟩
theorem aMw(k:Q)(h:Hold Q→P:=by intro k;(refine lw rfl rfl (lR (by first|exact W rfl (by first|exact id|simp)|exact E rfl) (E rfl)) rfl ?_);exact k.h):P:=h ⟨k⟩
theorem aEv(k:Q)(h:Hold Q→P:=by intro k;(first|refine ln rfl rfl rfl rfl ?_ |(refine gy rfl rfl ?_;(refine lo (fP (E rfl) rfl bA (fun _=>Nat.le_of_ble_eq_true rfl)) rfl ?_))|refine lg rfl rfl (fP (E rfl) rfl bA (fun _=>Nat.le_of_ble_eq_true rfl)) rfl ?_);exact k.h):P:=h ⟨k⟩
theorem KL(k:Q)(h:Hold Q→P:=by intro k;(first|(refine gy rfl rfl ?_;(refine lo (fP (by first|exact W rfl id|exact E rfl) rfl bA (fun _=>Nat.le_of_ble_eq_true rfl)) rfl ?_))|refine lg rfl rfl (fP (by first|exact W rfl id|exact E rfl) rfl bA (fun _=>Nat.le_of_ble_eq_true rfl)) rfl ?_);exact k.h):P:=h ⟨k⟩
theorem aMx(k:Q)(h:Hold Q→P:=by intro k;(first|refine lg rfl rfl (bE (by exact W rfl id) (.inl ⟨_,_,rfl⟩)) rfl ?_ |refine lg rfl rfl (bE (by exact W rfl id) (.inr (.inl ⟨_,_,_,rfl⟩))) rfl ?_ |refine lg rfl rfl (bE (by exact W rfl id) (.inr (.inr ⟨_,_,_,_,rfl⟩))) rfl ?_);exact k.h):P:=h ⟨k⟩
theorem aKw(k:Q)(h:Hold Q→P:=by intro k;(refine lg rfl rfl (bD (by exact W rfl id) rfl (by decide)) rfl ?_);exact k.h):P:=h ⟨k⟩
theorem aMy(k:Q)(h:Hold Q→P:=by intro k;(refine lg rfl rfl (kV (by exact W rfl id) (by exact W rfl id)) rfl ?_);exact k.h):P:=h ⟨k⟩
theorem aEw(k:Q)(h:Hold Q→P:=by intro k;(refine fI rfl (BL (E rfl) (E rfl) (by omega) (by omega)) rfl ?_);exact k.h):P:=h ⟨k⟩
theorem aEx(k:Q)(h:Hold Q→P:=by intro k;(first|refine lo (tC (E rfl)) rfl ?_ |refine lo (PW (E rfl)) rfl ?_);exact k.h):P:=h ⟨k⟩
theorem aMz(k:Q)(h:Hold Q→P:=by intro k;(refine lw rfl rfl (dI (by first|exact W rfl (by first|exact id|simp)|exact E rfl) (E rfl)) rfl ?_);exact k.h):P:=h ⟨k⟩
theorem aMA(k:Q)(h:Hold Q→P:=by intro k;(refine lg rfl rfl (hX (by first|exact W rfl id|exact E rfl) (E rfl) (by first|exact W rfl (by simp)|exact E rfl)) rfl ?_);exact k.h):P:=h ⟨k⟩
theorem aHW(k:Q)(h:Hold Q→P:=by intro k;(refine lo (aEj (E rfl) rfl rfl (fun _=>rfl)) rfl ?_);exact k.h):P:=h ⟨k⟩
theorem TK(k:Q)(h:Hold Q→P:=by intro k;(refine lo (vM (.cons rfl .nil) .nil) rfl ?_);exact k.h):P:=h ⟨k⟩
theorem aMB(k:Q)(h:Hold Q→P:=by intro k;(refine lo (vM .nil (.cons rfl (.cons rfl .nil))) rfl ?_);exact k.h):P:=h ⟨k⟩
theorem aMC(k:Q)(h:Hold Q→P:=by intro k;(refine fI rfl (vM (.cons rfl .nil) .nil) rfl ?_);exact k.h):P:=h ⟨k⟩
theorem aKx(k:Q)(h:Hold Q→P:=by intro k;(refine lo (vM .nil (.cons rfl .nil)) rfl ?_);exact k.h):P:=h ⟨k⟩
theorem aHX(k:Q)(h:Hold Q→P:=by intro k;(first|refine ln rfl rfl rfl rfl ?_ |(refine gy rfl rfl ?_;refine lo (fU (by first|exact W rfl id|exact E rfl)) rfl ?_)|refine lg rfl rfl (fU (by first|exact W rfl id|exact E rfl)) rfl ?_);exact k.h):P:=h ⟨k⟩
theorem aKy(k:Q)(h:Hold Q→P:=by intro k;(first|refine ln rfl rfl rfl rfl ?_ |(refine gy rfl rfl ?_;refine lo (xT (by exact E rfl) OB.none (OB.some (by exact E rfl) (fun _=>by first|rfl|exact(Int.toNat_of_nonneg (by omega)).symm)) (fun hc=>by(try simp at hc);omega)) rfl ?_));exact k.h):P:=h ⟨k⟩
theorem aKz(k:Q)(h:Hold Q→P:=by intro k;(first|refine ln rfl rfl rfl rfl ?_ |(refine gy rfl rfl ?_;refine lo (GB (by exact E rfl) (by exact E rfl)) rfl ?_));exact k.h):P:=h ⟨k⟩
theorem zF(k:Q)(h:Hold Q→P:=by intro k;(first|refine jY rfl rfl rfl rfl rfl ?_ |(refine eS rfl rfl rfl (aD (E rfl)) rfl ?_)|refine eQ rfl rfl rfl (aD (E rfl)) rfl ?_);exact k.h):P:=h ⟨k⟩
theorem TL(k:Q)(h:Hold Q→P:=by intro k;(first|refine jY rfl rfl rfl rfl rfl ?_ |(refine eS rfl rfl rfl (bF (by first|exact W rfl id|exact E rfl) (by first|exact W rfl id|exact E rfl) (fun hc=>by(simp only[List.length_map];omega))) rfl ?_)|refine eQ rfl rfl rfl (bF (by first|exact W rfl id|exact E rfl) (by first|exact W rfl id|exact E rfl) (fun hc=>by(try simp at hc)<;>(simp only[List.length_map];omega))) rfl ?_);exact k.h):P:=h ⟨k⟩
theorem XC(k:Q)(h:Hold Q→P:=by intro k;(first|refine jY rfl rfl rfl rfl rfl ?_ |(refine eS rfl rfl rfl (aN (by first|exact W rfl id|exact E rfl) rfl (fun hc=>by first|rfl|exact aH (by assumption)|assumption|exact aH (aQ (by omega))) (fun _=>rfl)) rfl ?_)|refine eQ rfl rfl rfl (aN (by first|exact W rfl id|exact E rfl) rfl (fun hc=>by first|rfl|exact aH (by assumption)|assumption|exact aH (aQ (by(try simp at hc)<;>omega))) (fun _=>rfl)) rfl ?_);exact k.h):P:=h ⟨k⟩
theorem aEy(k:Q)(h:Hold Q→P:=by intro k;(first|refine jY rfl rfl rfl rfl rfl ?_ |(refine eS rfl rfl rfl (dI (by first|exact W rfl id|exact E rfl) (by first|exact W rfl id|exact E rfl)) rfl ?_)|refine eQ rfl rfl rfl (dI (by first|exact W rfl id|exact E rfl) (by first|exact W rfl id|exact E rfl)) rfl ?_);exact k.h):P:=h ⟨k⟩
theorem aAM(k:Q)(h:Hold Q→P:=by intro k;(first|refine fI rfl (jI (E rfl) (by first|exact W rfl (by simp)|exact E rfl)) rfl ?_ |refine fI rfl (jJ (E rfl) (E rfl)) rfl ?_ |refine fI rfl (hX (E rfl) (by first|exact W rfl (by simp)|exact E rfl) (E rfl)) rfl ?_);exact k.h):P:=h ⟨k⟩
theorem aEz(k:Q)(h:Hold Q→P:=by intro k;(first|refine fI rfl (bK (E rfl) rfl (by decide)) rfl ?_ |refine fI rfl (fJ (E rfl) rfl (by decide)) rfl ?_);exact k.h):P:=h ⟨k⟩
theorem DM(k:Q)(h:Hold Q→P:=by intro k;(refine lg rfl rfl (iB (by first|exact W rfl id|exact E rfl) (E rfl)) rfl ?_);exact k.h):P:=h ⟨k⟩
theorem aMD(k:Q)(h:Hold Q→P:=by intro k;(refine lw rfl rfl (iB (by first|exact W rfl (by first|exact id|simp)|exact E rfl) (E rfl)) rfl ?_);exact k.h):P:=h ⟨k⟩
theorem aME(k:Q)(h:Hold Q→P:=by intro k;(refine lo (xU (E rfl) (E rfl) (fun _=>by omega) (fun _=>by assumption) (fun _=>by assumption)) rfl ?_);exact k.h):P:=h ⟨k⟩
theorem aMF(k:Q)(h:Hold Q→P:=by intro k;(refine lg rfl rfl (xU (by exact W rfl id) (by exact W rfl id) (fun _=>by omega) (fun _=>by assumption) (fun _=>by assumption)) rfl ?_);exact k.h):P:=h ⟨k⟩
theorem aMG(k:Q)(h:Hold Q→P:=by intro k;(first|refine lg rfl rfl (BL (by exact W rfl id) (by exact W rfl id) (by omega) (by omega)) rfl ?_ |refine lg rfl rfl (lop_add64c (by exact W rfl id) (by exact W rfl id) (fun hc=>by simp at hc<;>first|omega|(have hov:=hov hc;omega))) rfl ?_);exact k.h):P:=h ⟨k⟩
theorem aMH(k:Q)(h:Hold Q→P:=by intro k;(refine lg rfl rfl (gA (by exact W rfl id) (by exact W rfl id)) rfl ?_);exact k.h):P:=h ⟨k⟩
theorem XD(k:Q)(h:Hold Q→P:=by intro k;(first|refine jY rfl rfl rfl rfl rfl ?_ |(refine eS rfl rfl rfl (bD (E rfl) rfl (by decide)) rfl ?_)|refine eQ rfl rfl rfl (bD (E rfl) rfl (by decide)) rfl ?_);exact k.h):P:=h ⟨k⟩
theorem rN(k:Q)(h:Hold Q→P:=by intro k;(first|refine jY rfl rfl rfl rfl rfl ?_ |(first|refine eS rfl rfl rfl (aM (by first|exact W rfl id|exact E rfl) rfl bA (fun _=>rfl)) rfl ?_ |refine eS rfl rfl rfl (aM (by first|exact W rfl id|exact E rfl) rfl bA (fun _=>by assumption)) rfl ?_)|refine eQ rfl rfl rfl (aM (by first|exact W rfl id|exact E rfl) rfl bA (fun _=>rfl)) rfl ?_ |refine eQ rfl rfl rfl (aM (by first|exact W rfl id|exact E rfl) rfl bA (fun _=>by assumption)) rfl ?_);exact k.h):P:=h ⟨k⟩
theorem aKA(k:Q)(h:Hold Q→P:=by intro k;(first|refine jY rfl rfl rfl rfl rfl ?_ |(refine eS rfl rfl rfl (bK (by first|exact W rfl id|exact E rfl) rfl (by decide)) rfl ?_)|refine eQ rfl rfl rfl (bK (by first|exact W rfl id|exact E rfl) rfl (by decide)) rfl ?_);exact k.h):P:=h ⟨k⟩
theorem aMI(k:Q)(h:Hold Q→P:=by intro k;(refine eQ rfl rfl rfl (dF (by exact W rfl id)) rfl ?_);exact k.h):P:=h ⟨k⟩
theorem xC(k:Q)(h:Hold Q→P:=by intro k;(first|refine fI rfl (jI (E rfl) (E rfl)) rfl ?_ |refine fI rfl (jJ (E rfl) (by first|exact W rfl (by simp)|exact E rfl)) rfl ?_ |refine fI rfl (hX (E rfl) (E rfl) (by first|exact W rfl (by simp)|exact E rfl)) rfl ?_);exact k.h):P:=h ⟨k⟩
theorem aHY(k:Q)(h:Hold Q→P:=by intro k;((refine gy rfl rfl ?_;refine lo (OS (by repeat(first|exact PEvs.nil|(apply PEvs.cons;exact E rfl))) (by(exact wY)) (by repeat(first|exact Fill.nil|(apply Fill.cons;rfl;rfl;rfl;(exact GK))))) rfl ?_));exact k.h):P:=h ⟨k⟩
theorem aMJ(k:Q)(h:Hold Q→P:=by intro k;((refine gy rfl rfl ?_;apply bs;exact sE;rfl;rfl;rfl;rfl;exact wY;rfl));exact k.h):P:=h ⟨k⟩
theorem aMK(k:Q)(h:Hold Q→P:=by intro k;(refine fI rfl (aBS (E rfl) (E rfl)) rfl ?_);exact k.h):P:=h ⟨k⟩
theorem DO(k:Q)(h:Hold Q→P:=by intro k;(first|refine jY rfl rfl rfl rfl rfl ?_ |(refine eS rfl rfl rfl (fP (E rfl) rfl bA (fun _=>Nat.le_of_ble_eq_true rfl)) rfl ?_));exact k.h):P:=h ⟨k⟩
theorem aAN(k:Q)(h:Hold Q→P:=by intro k;(first|refine jY rfl rfl rfl rfl rfl ?_ |(refine eS rfl rfl rfl (aBR (by exact E rfl) (by exact E rfl)) rfl ?_));exact k.h):P:=h ⟨k⟩
theorem sq0(k:Q)(h:Hold Q→P:=by intro k;refine lo (bG (E rfl)) rfl ?_;refine iF ?_;exact k.h):P:=h ⟨k⟩
theorem iC(k:Q)(h:Hold Q→P:=by intro k;refine jQ ?_;refine lo (aD (E rfl)) rfl ?_;exact k.h):P:=h ⟨k⟩
theorem dE(k:Q)(h:Hold Q→P:=by intro k;refine sq0 ?_;refine aJ ?_;exact k.h):P:=h ⟨k⟩
theorem dX(k:Q)(h:Hold Q→P:=by intro k;refine aJ ?_;refine jQ ?_;exact k.h):P:=h ⟨k⟩
theorem dM(k:Q)(h:Hold Q→P:=by intro k;refine aJ ?_;refine iC ?_;exact k.h):P:=h ⟨k⟩
theorem lD(k:Q)(h:Hold Q→P:=by intro k;refine iF ?_;refine aJ ?_;exact k.h):P:=h ⟨k⟩
theorem TM(k:Q)(h:Hold Q→P:=by intro k;refine lo (dI (E rfl) (E rfl)) rfl ?_;refine dE ?_;exact k.h):P:=h ⟨k⟩
theorem sq7(k:Q)(h:Hold Q→P:=by intro k;(first|refine jY rfl rfl rfl rfl rfl ?_ |(first|refine eS rfl rfl rfl (bE (by first|exact W rfl id|exact E rfl) (.inl ⟨_,_,rfl⟩)) rfl ?_ |refine eS rfl rfl rfl (bE (by first|exact W rfl id|exact E rfl) (.inr (.inl ⟨_,_,_,rfl⟩))) rfl ?_ |refine eS rfl rfl rfl (bE (by first|exact W rfl id|exact E rfl) (.inr (.inr ⟨_,_,_,_,rfl⟩))) rfl ?_)|refine eQ rfl rfl rfl (bE (by first|exact W rfl id|exact E rfl) (.inl ⟨_,_,rfl⟩)) rfl ?_ |refine eQ rfl rfl rfl (bE (by first|exact W rfl id|exact E rfl) (.inr (.inl ⟨_,_,_,rfl⟩))) rfl ?_ |refine eQ rfl rfl rfl (bE (by first|exact W rfl id|exact E rfl) (.inr (.inr ⟨_,_,_,_,rfl⟩))) rfl ?_);(first|refine jY rfl rfl rfl rfl rfl ?_ |(first|refine eS rfl rfl rfl (bD (by first|exact W rfl id|exact E rfl) rfl (by decide)) rfl ?_ |refine eS rfl rfl rfl (bK (by first|exact W rfl id|exact E rfl) rfl (by decide)) rfl ?_)|refine eQ rfl rfl rfl (bD (by first|exact W rfl id|exact E rfl) rfl (by decide)) rfl ?_ |refine eQ rfl rfl rfl (bK (by first|exact W rfl id|exact E rfl) rfl (by decide)) rfl ?_);exact k.h):P:=h ⟨k⟩
theorem eX(k:Q)(h:Hold Q→P:=by intro k;refine dM ?_;refine lo (aD (E rfl)) rfl ?_;exact k.h):P:=h ⟨k⟩
theorem sq9(k:Q)(h:Hold Q→P:=by intro k;(first|refine jY rfl rfl rfl rfl rfl ?_ |(first|refine eS rfl rfl rfl (fT (by first|exact W rfl id|exact E rfl)) rfl ?_ |refine eS rfl rfl rfl (kI (by first|exact W rfl id|exact E rfl)) rfl ?_ |refine eS rfl rfl rfl (gT (by first|exact W rfl id|exact E rfl)) rfl ?_)|refine eQ rfl rfl rfl (fT (by first|exact W rfl id|exact E rfl)) rfl ?_ |refine eQ rfl rfl rfl (kI (by first|exact W rfl id|exact E rfl)) rfl ?_ |refine eQ rfl rfl rfl (gT (by first|exact W rfl id|exact E rfl)) rfl ?_);(first|refine jY rfl rfl rfl rfl rfl ?_ |(refine eS rfl rfl rfl (gB (by first|exact W rfl id|exact E rfl) (by first|exact W rfl id|exact E rfl)) rfl ?_)|refine eQ rfl rfl rfl (gB (by first|exact W rfl id|exact E rfl) (by first|exact W rfl id|exact E rfl)) rfl ?_);exact k.h):P:=h ⟨k⟩
theorem xD(k:Q)(h:Hold Q→P:=by intro k;(try unfold fL);(try unfold jX);(try unfold jF);(try unfold nG);(try dsimp only[List.cons_append,List.nil_append]);apply aY;exact bN;exact k.h):P:=h ⟨k⟩
theorem fW(k:Q)(h:Hold Q→P:=by intro k;refine wL ?_;refine uN ?_;exact k.h):P:=h ⟨k⟩
theorem bM(k:Q)(h:Hold Q→P:=by intro k;refine dX ?_;refine dE ?_;exact k.h):P:=h ⟨k⟩
theorem kK(k:Q)(h:Hold Q→P:=by intro k;refine iC ?_;refine lo (aD (E rfl)) rfl ?_;exact k.h):P:=h ⟨k⟩
theorem jL(k:Q)(h:Hold Q→P:=by intro k;refine lo (aD (E rfl)) rfl ?_;refine pW ?_;exact k.h):P:=h ⟨k⟩
theorem GL(k:Q)(h:Hold Q→P:=by intro k;refine fI rfl (aD (E rfl)) rfl ?_;refine z77 ?_;exact k.h):P:=h ⟨k⟩
theorem lE(k:Q)(h:Hold Q→P:=by intro k;refine lo (bG (E rfl)) rfl ?_;refine dE ?_;exact k.h):P:=h ⟨k⟩
theorem BO(k:Q)(h:Hold Q→P:=by intro k;refine lo (iB (E rfl) (E rfl)) rfl ?_;refine lD ?_;exact k.h):P:=h ⟨k⟩
theorem aH0(k:Q)(h:Hold Q→P:=by intro k;refine lo (aD (E rfl)) rfl ?_;refine lD ?_;exact k.h):P:=h ⟨k⟩
theorem pX(k:Q)(h:Hold Q→P:=by intro k;apply SO;rfl;rfl;rfl;rfl;exact mU;refine iF ?_;exact k.h):P:=h ⟨k⟩
theorem XE(k:Q)(h:Hold Q→P:=by intro k;refine fI rfl (bG (E rfl)) rfl ?_;refine xA ?_;exact k.h):P:=h ⟨k⟩
theorem lW(k:Q)(h:Hold Q→P:=by intro k;apply SO;rfl;rfl;rfl;rfl;exact mU;refine lD ?_;exact k.h):P:=h ⟨k⟩
theorem fX(k:Q)(h:Hold Q→P:=by intro k;refine OW ?_;refine z74 ?_;exact k.h):P:=h ⟨k⟩
theorem oE(k:Q)(h:Hold Q→P:=by intro k;unfold dO mR;(try dsimp only);apply aY;exact bN;exact k.h):P:=h ⟨k⟩
theorem PA(k:Q)(h:Hold Q→P:=by intro k;refine lo (mF (E rfl) rfl) rfl ?_;refine lo (mF (E rfl) rfl) rfl ?_;exact k.h):P:=h ⟨k⟩
theorem aEA(k:Q)(h:Hold Q→P:=by intro k;(first|refine jY rfl rfl rfl rfl rfl ?_ |(first|refine eS rfl rfl rfl (jI (by first|exact W rfl id|exact E rfl) (E rfl)) rfl ?_ |refine eS rfl rfl rfl (jJ (by first|exact W rfl id|exact E rfl) (by first|exact W rfl (by simp)|exact E rfl)) rfl ?_ |refine eS rfl rfl rfl (hX (by first|exact W rfl id|exact E rfl) (E rfl) (by first|exact W rfl (by simp)|exact E rfl)) rfl ?_)|refine eQ rfl rfl rfl (jI (by first|exact W rfl id|exact E rfl) (E rfl)) rfl ?_ |refine eQ rfl rfl rfl (jJ (by first|exact W rfl id|exact E rfl) (by first|exact W rfl (by simp)|exact E rfl)) rfl ?_ |refine eQ rfl rfl rfl (hX (by first|exact W rfl id|exact E rfl) (E rfl) (by first|exact W rfl (by simp)|exact E rfl)) rfl ?_);refine aAM ?_;exact k.h):P:=h ⟨k⟩
theorem aH1(k:Q)(h:Hold Q→P:=by intro k;(first|refine jY rfl rfl rfl rfl rfl ?_ |(first|refine eS rfl rfl rfl (fT (by first|exact W rfl id|exact E rfl)) rfl ?_ |refine eS rfl rfl rfl (kI (by first|exact W rfl id|exact E rfl)) rfl ?_ |refine eS rfl rfl rfl (gT (by first|exact W rfl id|exact E rfl)) rfl ?_)|refine eQ rfl rfl rfl (fT (by first|exact W rfl id|exact E rfl)) rfl ?_ |refine eQ rfl rfl rfl (kI (by first|exact W rfl id|exact E rfl)) rfl ?_ |refine eQ rfl rfl rfl (gT (by first|exact W rfl id|exact E rfl)) rfl ?_);(first|refine jY rfl rfl rfl rfl rfl ?_ |(refine eS rfl rfl rfl (dI (by first|exact W rfl id|exact E rfl) (E rfl)) rfl ?_)|refine eQ rfl rfl rfl (dI (by first|exact W rfl id|exact E rfl) (E rfl)) rfl ?_);exact k.h):P:=h ⟨k⟩
theorem eZ(k:Q)(h:Hold Q→P:=by intro k;apply aY;exact bN;refine dE ?_;exact k.h):P:=h ⟨k⟩
theorem PB(k:Q)(h:Hold Q→P:=by intro k;refine lo (aD (E rfl)) rfl ?_;refine aEq ?_;exact k.h):P:=h ⟨k⟩
theorem aH2(k:Q)(h:Hold Q→P:=by intro k;refine lo (aD (E rfl)) rfl ?_;refine OU ?_;exact k.h):P:=h ⟨k⟩
theorem aAO(k:Q)(h:Hold Q→P:=by intro k;refine fI rfl (aD (E rfl)) rfl ?_;refine MT ?_;exact k.h):P:=h ⟨k⟩
theorem cZ(k:Q)(h:Hold Q→P:=by intro k;refine dX ?_;refine TM ?_;exact k.h):P:=h ⟨k⟩
theorem zG(k:Q)(h:Hold Q→P:=by intro k;refine kU ?_;refine lo (aD (E rfl)) rfl ?_;exact k.h):P:=h ⟨k⟩
theorem aAP(k:Q)(h:Hold Q→P:=by intro k;refine qU ?_;(first|refine ln rfl rfl rfl rfl ?_ |(refine gy rfl rfl ?_;refine lo (gB (by first|exact W rfl id|exact E rfl) (by first|exact W rfl id|exact E rfl)) rfl ?_)|refine lg rfl rfl (gB (by first|exact W rfl id|exact E rfl) (by first|exact W rfl id|exact E rfl)) rfl ?_);exact k.h):P:=h ⟨k⟩
theorem oF(k:Q)(h:Hold Q→P:=by intro k;refine lo (bG (E rfl)) rfl ?_;refine lE ?_;exact k.h):P:=h ⟨k⟩
theorem rO(k:Q)(h:Hold Q→P:=by intro k;refine lo (dI (E rfl) (E rfl)) rfl ?_;refine lD ?_;exact k.h):P:=h ⟨k⟩
theorem gX(k:Q)(h:Hold Q→P:=by intro k;apply aY;exact bN;refine lD ?_;exact k.h):P:=h ⟨k⟩
theorem eU(k:Q)(h:Hold Q→P:=by intro k;refine jQ ?_;refine TM ?_;exact k.h):P:=h ⟨k⟩
theorem lX(k:Q)(h:Hold Q→P:=by intro k;refine lo (gA (E rfl) (E rfl)) rfl ?_;refine lD ?_;exact k.h):P:=h ⟨k⟩
theorem xZ(k:Q)(h:Hold Q→P:=by intro k;apply aY;exact bN;refine lo (aD (E rfl)) rfl ?_;exact k.h):P:=h ⟨k⟩
theorem pC(k:Q)(h:Hold Q→P:=by intro k;refine GL ?_;refine fX ?_;exact k.h):P:=h ⟨k⟩
theorem fA(k:Q)(h:Hold Q→P:=by intro k;refine dM ?_;refine dE ?_;exact k.h):P:=h ⟨k⟩
theorem lJ(k:Q)(h:Hold Q→P:=by intro k;refine dE ?_;refine jQ ?_;exact k.h):P:=h ⟨k⟩
theorem iD(k:Q)(h:Hold Q→P:=by intro k;refine bM ?_;refine iC ?_;exact k.h):P:=h ⟨k⟩
theorem uO(k:Q)(h:Hold Q→P:=by intro k;refine z76 ?_;refine wL ?_;exact k.h):P:=h ⟨k⟩
theorem aH3(k:Q)(h:Hold Q→P:=by intro k;refine fI rfl (bG (E rfl)) rfl ?_;refine XE ?_;exact k.h):P:=h ⟨k⟩
theorem aH4(k:Q)(h:Hold Q→P:=by intro k;refine zG ?_;refine lo (lR (E rfl) (E rfl)) rfl ?_;exact k.h):P:=h ⟨k⟩
theorem GM(k:Q)(h:Hold Q→P:=by intro k;refine FH ?_;refine dE ?_;exact k.h):P:=h ⟨k⟩
theorem fN(k:Q)(h:Hold Q→P:=by intro k;refine dX ?_;refine fW ?_;exact k.h):P:=h ⟨k⟩
theorem kA(k:Q)(h:Hold Q→P:=by intro k;refine dM ?_;refine fW ?_;exact k.h):P:=h ⟨k⟩
theorem aEB(k:Q)(h:Hold Q→P:=by intro k;refine FH ?_;refine aH0 ?_;exact k.h):P:=h ⟨k⟩
theorem kL(k:Q)(h:Hold Q→P:=by intro k;refine rX ?_;refine dE ?_;exact k.h):P:=h ⟨k⟩
theorem PC(k:Q)(h:Hold Q→P:=by intro k;refine lo (kV (E rfl) (E rfl)) rfl ?_;refine lD ?_;exact k.h):P:=h ⟨k⟩
theorem BP(k:Q)(h:Hold Q→P:=by intro k;refine fI rfl (aD (E rfl)) rfl ?_;refine fI rfl (aD (E rfl)) rfl ?_;exact k.h):P:=h ⟨k⟩
theorem kG(k:Q)(h:Hold Q→P:=by intro k;refine z76 ?_;refine fW ?_;exact k.h):P:=h ⟨k⟩
theorem lY(k:Q)(h:Hold Q→P:=by intro k;refine dM ?_;refine GM ?_;exact k.h):P:=h ⟨k⟩
theorem aMM(k:Q)(h:Hold Q→P:=by intro k;refine lo (bG (E rfl)) rfl ?_;refine sq0 ?_;exact k.h):P:=h ⟨k⟩
theorem aKB(k:Q)(h:Hold Q→P:=by intro k;(first|refine jY rfl rfl rfl rfl rfl ?_ |(first|refine eS rfl rfl rfl (jI (by first|exact W rfl id|exact E rfl) (by first|exact W rfl (by simp)|exact E rfl)) rfl ?_ |refine eS rfl rfl rfl (jJ (by first|exact W rfl id|exact E rfl) (E rfl)) rfl ?_ |refine eS rfl rfl rfl (hX (by first|exact W rfl id|exact E rfl) (by first|exact W rfl (by simp)|exact E rfl) (E rfl)) rfl ?_)|refine eQ rfl rfl rfl (jI (by first|exact W rfl id|exact E rfl) (by first|exact W rfl (by simp)|exact E rfl)) rfl ?_ |refine eQ rfl rfl rfl (jJ (by first|exact W rfl id|exact E rfl) (E rfl)) rfl ?_ |refine eQ rfl rfl rfl (hX (by first|exact W rfl id|exact E rfl) (by first|exact W rfl (by simp)|exact E rfl) (E rfl)) rfl ?_);refine xC ?_;exact k.h):P:=h ⟨k⟩
theorem qV(k:Q)(h:Hold Q→P:=by intro k;refine lo (dF (E rfl)) rfl ?_;refine lD ?_;exact k.h):P:=h ⟨k⟩
theorem oG(k:Q)(h:Hold Q→P:=by intro k;refine PB ?_;refine aEr ?_;exact k.h):P:=h ⟨k⟩
theorem hZ(k:Q)(h:Hold Q→P:=by intro k;refine dE ?_;refine iC ?_;exact k.h):P:=h ⟨k⟩
theorem vG(k:Q)(h:Hold Q→P:=by intro k;refine lo (iB (E rfl) (E rfl)) rfl ?_;refine jL ?_;exact k.h):P:=h ⟨k⟩
theorem tD(k:Q)(h:Hold Q→P:=by intro k;refine eX ?_;refine lo (aD (E rfl)) rfl ?_;exact k.h):P:=h ⟨k⟩
theorem iW(k:Q)(h:Hold Q→P:=by intro k;refine lJ ?_;refine fW ?_;exact k.h):P:=h ⟨k⟩
theorem GN(k:Q)(h:Hold Q→P:=by intro k;refine lo (gB (E rfl) (E rfl)) rfl ?_;refine lo (aD (E rfl)) rfl ?_;exact k.h):P:=h ⟨k⟩
theorem jR(k:Q)(h:Hold Q→P:=by intro k;refine dX ?_;refine BO ?_;exact k.h):P:=h ⟨k⟩
theorem oH(k:Q)(h:Hold Q→P:=by intro k;refine kU ?_;refine aH0 ?_;exact k.h):P:=h ⟨k⟩
theorem zH(k:Q)(h:Hold Q→P:=by intro k;refine fI rfl (aD (E rfl)) rfl ?_;refine aAO ?_;exact k.h):P:=h ⟨k⟩
theorem zI(k:Q)(h:Hold Q→P:=by intro k;refine fI rfl (aD (E rfl)) rfl ?_;refine fX ?_;exact k.h):P:=h ⟨k⟩
theorem KM(k:Q)(h:Hold Q→P:=by intro k;refine dM ?_;refine uO ?_;exact k.h):P:=h ⟨k⟩
theorem lF(k:Q)(h:Hold Q→P:=by intro k;refine xA ?_;refine aJ ?_;exact k.h):P:=h ⟨k⟩
theorem mP(k:Q)(h:Hold Q→P:=by intro k;refine dX ?_;refine aEB ?_;exact k.h):P:=h ⟨k⟩
theorem BQ(k:Q)(h:Hold Q→P:=by intro k;refine fI rfl (aD (E rfl)) rfl ?_;refine zF ?_;exact k.h):P:=h ⟨k⟩
theorem yA(k:Q)(h:Hold Q→P:=by intro k;refine lo (aD (E rfl)) rfl ?_;refine PA ?_;exact k.h):P:=h ⟨k⟩
theorem aH5(k:Q)(h:Hold Q→P:=by intro k;refine lo (kV (E rfl) (E rfl)) rfl ?_;refine jL ?_;exact k.h):P:=h ⟨k⟩
theorem sF(k:Q)(h:Hold Q→P:=by intro k;refine jQ ?_;refine dE ?_;exact k.h):P:=h ⟨k⟩
theorem aEC(k:Q)(h:Hold Q→P:=by intro k;refine aEz ?_;refine WR ?_;exact k.h):P:=h ⟨k⟩
theorem uP(k:Q)(h:Hold Q→P:=by intro k;apply aY;exact bN;refine iF ?_;exact k.h):P:=h ⟨k⟩
theorem aCd(k:Q)(h:Hold Q→P:=by intro k;refine aAO ?_;refine aEC ?_;exact k.h):P:=h ⟨k⟩
theorem mV(k:Q)(h:Hold Q→P:=by intro k;refine oE ?_;refine iF ?_;exact k.h):P:=h ⟨k⟩
theorem DP(k:Q)(h:Hold Q→P:=by intro k;refine lo (gB (E rfl) (E rfl)) rfl ?_;refine dE ?_;exact k.h):P:=h ⟨k⟩
theorem mW(k:Q)(h:Hold Q→P:=by intro k;refine bM ?_;refine kK ?_;exact k.h):P:=h ⟨k⟩
theorem KN(k:Q)(h:Hold Q→P:=by intro k;apply aY;exact bN;refine lo (dF (E rfl)) rfl ?_;exact k.h):P:=h ⟨k⟩
theorem yB(k:Q)(h:Hold Q→P:=by intro k;refine XE ?_;refine aJ ?_;exact k.h):P:=h ⟨k⟩
theorem GO(k:Q)(h:Hold Q→P:=by intro k;refine kU ?_;refine BO ?_;exact k.h):P:=h ⟨k⟩
theorem aKC(k:Q)(h:Hold Q→P:=by intro k;(first|refine jY rfl rfl rfl rfl rfl ?_ |(refine eS rfl rfl rfl (dI (by first|exact W rfl id|exact E rfl) (E rfl)) rfl ?_)|refine eQ rfl rfl rfl (dI (by first|exact W rfl id|exact E rfl) (E rfl)) rfl ?_);(first|refine jY rfl rfl rfl rfl rfl ?_ |(refine eS rfl rfl rfl (aD (by first|exact W rfl id|exact E rfl)) rfl ?_)|refine eQ rfl rfl rfl (aD (by first|exact W rfl id|exact E rfl)) rfl ?_);exact k.h):P:=h ⟨k⟩
theorem aMN(k:Q)(h:Hold Q→P:=by intro k;refine lo (aD (E rfl)) rfl ?_;refine z61 ?_;exact k.h):P:=h ⟨k⟩
theorem pY(k:Q)(h:Hold Q→P:=by intro k;refine fX ?_;refine aCd ?_;exact k.h):P:=h ⟨k⟩
theorem pD(k:Q)(h:Hold Q→P:=by intro k;refine pX ?_;refine dM ?_;exact k.h):P:=h ⟨k⟩
theorem pE(k:Q)(h:Hold Q→P:=by intro k;refine iC ?_;refine fW ?_;exact k.h):P:=h ⟨k⟩
theorem aED(k:Q)(h:Hold Q→P:=by intro k;refine vF ?_;refine kL ?_;exact k.h):P:=h ⟨k⟩
theorem vH(k:Q)(h:Hold Q→P:=by intro k;refine rX ?_;refine lD ?_;exact k.h):P:=h ⟨k⟩
theorem qW(k:Q)(h:Hold Q→P:=by intro k;refine xD ?_;refine lD ?_;exact k.h):P:=h ⟨k⟩
theorem aMO(k:Q)(h:Hold Q→P:=by intro k;refine pC ?_;refine z95 ?_;exact k.h):P:=h ⟨k⟩
theorem KO(k:Q)(h:Hold Q→P:=by intro k;refine aMO ?_;refine aH3 ?_;exact k.h):P:=h ⟨k⟩
theorem qX(k:Q)(h:Hold Q→P:=by intro k;refine OU ?_;refine aAL ?_;exact k.h):P:=h ⟨k⟩
theorem KP(k:Q)(h:Hold Q→P:=by intro k;refine lo (bG (E rfl)) rfl ?_;refine oF ?_;exact k.h):P:=h ⟨k⟩
theorem XF(k:Q)(h:Hold Q→P:=by intro k;refine lo (aD (E rfl)) rfl ?_;refine lo (aD (E rfl)) rfl ?_;exact k.h):P:=h ⟨k⟩
theorem aEE(k:Q)(h:Hold Q→P:=by intro k;refine aMM ?_;refine an ?_;exact k.h):P:=h ⟨k⟩
theorem aKD(k:Q)(h:Hold Q→P:=by intro k;refine jL ?_;refine aMv ?_;exact k.h):P:=h ⟨k⟩
theorem zJ(k:Q)(h:Hold Q→P:=by intro k;refine lo (gB (E rfl) (E rfl)) rfl ?_;refine lD ?_;exact k.h):P:=h ⟨k⟩
theorem zK(k:Q)(h:Hold Q→P:=by intro k;refine fI rfl (aD (E rfl)) rfl ?_;refine pC ?_;exact k.h):P:=h ⟨k⟩
theorem lK(k:Q)(h:Hold Q→P:=by intro k;refine dE ?_;refine kK ?_;exact k.h):P:=h ⟨k⟩
theorem tX(k:Q)(h:Hold Q→P:=by intro k;apply bZ;exact bN;refine yB ?_;exact k.h):P:=h ⟨k⟩
theorem mH(k:Q)(h:Hold Q→P:=by intro k;refine iC ?_;refine aH4 ?_;exact k.h):P:=h ⟨k⟩
theorem mI(k:Q)(h:Hold Q→P:=by intro k;refine OU ?_;refine OV ?_;exact k.h):P:=h ⟨k⟩
theorem lL(k:Q)(h:Hold Q→P:=by intro k;refine rM ?_;refine lD ?_;exact k.h):P:=h ⟨k⟩
theorem CW(k:Q)(h:Hold Q→P:=by intro k;apply SO;rfl;rfl;rfl;rfl;exact mU;refine dE ?_;exact k.h):P:=h ⟨k⟩
theorem mX(k:Q)(h:Hold Q→P:=by intro k;refine aH2 ?_;refine aAL ?_;exact k.h):P:=h ⟨k⟩
theorem xK(k:Q)(h:Hold Q→P:=by intro k;refine lo (aD (E rfl)) rfl ?_;refine z4 ?_;exact k.h):P:=h ⟨k⟩
theorem oZ(k:Q)(h:Hold Q→P:=by intro k;refine sq0 ?_;refine an ?_;exact k.h):P:=h ⟨k⟩
theorem CX(k:Q)(h:Hold Q→P:=by intro k;refine lo (dI (E rfl) (E rfl)) rfl ?_;refine oG ?_;exact k.h):P:=h ⟨k⟩
theorem CY(k:Q)(h:Hold Q→P:=by intro k;refine pC ?_;refine WS ?_;exact k.h):P:=h ⟨k⟩
theorem mJ(k:Q)(h:Hold Q→P:=by intro k;refine OW ?_;refine z95 ?_;exact k.h):P:=h ⟨k⟩
theorem zL(k:Q)(h:Hold Q→P:=by intro k;refine lo (aD (E rfl)) rfl ?_;refine aEv ?_;exact k.h):P:=h ⟨k⟩
theorem GP(k:Q)(h:Hold Q→P:=by intro k;apply SO;rfl;rfl;rfl;rfl;exact mU;refine oZ ?_;exact k.h):P:=h ⟨k⟩
theorem mK(k:Q)(h:Hold Q→P:=by intro k;refine jQ ?_;refine fW ?_;exact k.h):P:=h ⟨k⟩
theorem mY(k:Q)(h:Hold Q→P:=by intro k;refine kA ?_;refine GO ?_;exact k.h):P:=h ⟨k⟩
theorem nJ(k:Q)(h:Hold Q→P:=by intro k;refine aH2 ?_;refine OV ?_;exact k.h):P:=h ⟨k⟩
theorem mZ(k:Q)(h:Hold Q→P:=by intro k;refine lE ?_;refine iC ?_;exact k.h):P:=h ⟨k⟩
theorem nA(k:Q)(h:Hold Q→P:=by intro k;refine aEq ?_;refine aEr ?_;exact k.h):P:=h ⟨k⟩
theorem aKE(k:Q)(h:Hold Q→P:=by intro k;refine aKD ?_;refine ln rfl rfl rfl rfl ?_;exact k.h):P:=h ⟨k⟩
theorem zM(k:Q)(h:Hold Q→P:=by intro k;refine lo (aD (E rfl)) rfl ?_;refine kU ?_;exact k.h):P:=h ⟨k⟩
theorem oI(k:Q)(h:Hold Q→P:=by intro k;refine uO ?_;refine lW ?_;exact k.h):P:=h ⟨k⟩
theorem rC(k:Q)(h:Hold Q→P:=by intro k;refine XE ?_;refine lY ?_;exact k.h):P:=h ⟨k⟩
theorem xL(k:Q)(h:Hold Q→P:=by intro k;apply aY;exact bN;refine aED ?_;exact k.h):P:=h ⟨k⟩
theorem GQ(k:Q)(h:Hold Q→P:=by intro k;refine fI rfl (aD (E rfl)) rfl ?_;refine XD ?_;exact k.h):P:=h ⟨k⟩
theorem TN(k:Q)(h:Hold Q→P:=by intro k;refine jQ ?_;refine aEB ?_;exact k.h):P:=h ⟨k⟩
theorem GR(k:Q)(h:Hold Q→P:=by intro k;refine lo (bG (E rfl)) rfl ?_;refine aEE ?_;exact k.h):P:=h ⟨k⟩
theorem pZ(k:Q)(h:Hold Q→P:=by intro k;refine aH2 ?_;refine OX ?_;exact k.h):P:=h ⟨k⟩
theorem oJ(k:Q)(h:Hold Q→P:=by intro k;refine bM ?_;refine sF ?_;exact k.h):P:=h ⟨k⟩
theorem oK(k:Q)(h:Hold Q→P:=by intro k;refine dM ?_;refine kG ?_;exact k.h):P:=h ⟨k⟩
theorem sG(k:Q)(h:Hold Q→P:=by intro k;refine KM ?_;refine lW ?_;exact k.h):P:=h ⟨k⟩
theorem aGW(k:Q)(h:Hold Q→P:=by intro k;refine XC ?_;(first|refine jY rfl rfl rfl rfl rfl ?_ |(refine eS rfl rfl rfl (iB (by first|exact W rfl id|exact E rfl) (E rfl)) rfl ?_)|refine eQ rfl rfl rfl (iB (by first|exact W rfl id|exact E rfl) (E rfl)) rfl ?_);exact k.h):P:=h ⟨k⟩
theorem aGX(k:Q)(h:Hold Q→P:=by intro k;refine aH1 ?_;(first|refine jY rfl rfl rfl rfl rfl ?_ |(refine eS rfl rfl rfl (aD (by first|exact W rfl id|exact E rfl)) rfl ?_)|refine eQ rfl rfl rfl (aD (by first|exact W rfl id|exact E rfl)) rfl ?_);exact k.h):P:=h ⟨k⟩
theorem aGY(k:Q)(h:Hold Q→P:=by intro k;refine aMx ?_;refine aKw ?_;exact k.h):P:=h ⟨k⟩
theorem xM(k:Q)(h:Hold Q→P:=by intro k;refine pX ?_;refine eX ?_;exact k.h):P:=h ⟨k⟩
theorem ZC(k:Q)(h:Hold Q→P:=by intro k;refine aGY ?_;refine aEr ?_;exact k.h):P:=h ⟨k⟩
theorem MU(k:Q)(h:Hold Q→P:=by intro k;refine lo (gB (E rfl) (E rfl)) rfl ?_;refine jL ?_;exact k.h):P:=h ⟨k⟩
theorem xN(k:Q)(h:Hold Q→P:=by intro k;refine aKD ?_;refine gy rfl rfl ?_;exact k.h):P:=h ⟨k⟩
theorem tY(k:Q)(h:Hold Q→P:=by intro k;refine eZ ?_;refine TN ?_;exact k.h):P:=h ⟨k⟩
theorem sH(k:Q)(h:Hold Q→P:=by intro k;refine oG ?_;refine pW ?_;exact k.h):P:=h ⟨k⟩
theorem qA(k:Q)(h:Hold Q→P:=by intro k;refine iF ?_;refine cZ ?_;exact k.h):P:=h ⟨k⟩
theorem zN(k:Q)(h:Hold Q→P:=by intro k;refine xZ ?_;refine PA ?_;exact k.h):P:=h ⟨k⟩
theorem zO(k:Q)(h:Hold Q→P:=by intro k;refine dM ?_;refine oS ?_;exact k.h):P:=h ⟨k⟩
theorem qB(k:Q)(h:Hold Q→P:=by intro k;refine dX ?_;refine oS ?_;exact k.h):P:=h ⟨k⟩
theorem sI(k:Q)(h:Hold Q→P:=by intro k;refine CY ?_;refine z82 ?_;exact k.h):P:=h ⟨k⟩
theorem tZ(k:Q)(h:Hold Q→P:=by intro k;refine fA ?_;refine kK ?_;exact k.h):P:=h ⟨k⟩
theorem TO(k:Q)(h:Hold Q→P:=by intro k;unfold dO mR;(try dsimp only);apply bZ;exact bN;exact k.h):P:=h ⟨k⟩
theorem MV(k:Q)(h:Hold Q→P:=by intro k;refine zO ?_;refine lo (aD (E rfl)) rfl ?_;exact k.h):P:=h ⟨k⟩
theorem vI(k:Q)(h:Hold Q→P:=by intro k;refine dX ?_;refine aEE ?_;exact k.h):P:=h ⟨k⟩
theorem sJ(k:Q)(h:Hold Q→P:=by intro k;refine iD ?_;refine oH ?_;exact k.h):P:=h ⟨k⟩
theorem MW(k:Q)(h:Hold Q→P:=by intro k;refine kK ?_;refine lo (aD (E rfl)) rfl ?_;exact k.h):P:=h ⟨k⟩
theorem aKF(k:Q)(h:Hold Q→P:=by intro k;refine XB ?_;refine KO ?_;exact k.h):P:=h ⟨k⟩
theorem vJ(k:Q)(h:Hold Q→P:=by intro k;refine aKF ?_;refine an ?_;exact k.h):P:=h ⟨k⟩
theorem sK(k:Q)(h:Hold Q→P:=by intro k;refine kU ?_;refine rO ?_;exact k.h):P:=h ⟨k⟩
theorem TP(k:Q)(h:Hold Q→P:=by intro k;refine zN ?_;refine lo (mF (E rfl) rfl) rfl ?_;exact k.h):P:=h ⟨k⟩
theorem uA(k:Q)(h:Hold Q→P:=by intro k;refine aMN ?_;refine z62 ?_;exact k.h):P:=h ⟨k⟩
theorem uC(k:Q)(h:Hold Q→P:=by intro k;refine kU ?_;refine PC ?_;exact k.h):P:=h ⟨k⟩
theorem uD(k:Q)(h:Hold Q→P:=by intro k;refine iD ?_;refine zG ?_;exact k.h):P:=h ⟨k⟩
theorem uE(k:Q)(h:Hold Q→P:=by intro k;refine dX ?_;refine jK ?_;exact k.h):P:=h ⟨k⟩
theorem xO(k:Q)(h:Hold Q→P:=by intro k;refine aKE ?_;refine aED ?_;exact k.h):P:=h ⟨k⟩
theorem xP(k:Q)(h:Hold Q→P:=by intro k;refine KM ?_;refine pX ?_;exact k.h):P:=h ⟨k⟩
theorem aKG(k:Q)(h:Hold Q→P:=by intro k;refine aH5 ?_;refine ZC ?_;exact k.h):P:=h ⟨k⟩
theorem aKH(k:Q)(h:Hold Q→P:=by intro k;refine aKG ?_;refine vF ?_;exact k.h):P:=h ⟨k⟩
theorem vK(k:Q)(h:Hold Q→P:=by intro k;refine aKH ?_;refine vH ?_;exact k.h):P:=h ⟨k⟩
theorem TQ(k:Q)(h:Hold Q→P:=by intro k;refine lo (bG (E rfl)) rfl ?_;refine xM ?_;exact k.h):P:=h ⟨k⟩
end
theorem eN{P:Prop}{C:Nat→Prop}(k:∀r,C r)(h:Hold (∀r,C r)→P:=by intro k;refine z1 ?_;exact jZ k.h):P:=h ⟨k⟩
theorem iQ{P:Prop}{C:Nat→Prop}(k:∀r,C r)(h:Hold (∀r,C r)→P:=by intro k;apply bx;rfl;rfl;exact wY;rfl;exact jZ k.h):P:=h ⟨k⟩
theorem jU{P:Prop}{C:Nat→Prop}(k:∀r,C r)(h:Hold (∀r,C r)→P:=by intro k;apply al;rfl;exact wY;exact jZ k.h):P:=h ⟨k⟩
theorem DQ{P:Prop}{C:Nat→Prop}(k:∀r,C r)(h:Hold (∀r,C r)→P:=by intro k;refine z97 ?_;exact jZ k.h):P:=h ⟨k⟩
theorem fz4{P:Prop}{C:Nat→Prop}(k:∀r,C r)(h:Hold (∀r,C r)→P:=by intro k;refine aMJ ?_;exact jZ k.h):P:=h ⟨k⟩
theorem fz5{P:Prop}{C:Nat→Prop}(k:∀r,C r)(h:Hold (∀r,C r)→P:=by intro k;apply dbx;rfl;rfl;rfl;exact wY;rfl;exact jZ k.h):P:=h ⟨k⟩
def uB (n:Nat):List Nat:=if h:n<128 then [n]else(n%128+128)::uB (n / 128)
termination_by n
decreasing_by omega
theorem uF{n:Nat}(h:n<128):uB n=[n]:=by rw[uB,dif_pos h]
theorem zP{n:Nat}(h:¬n<128):uB n=(n%128+128)::uB (n / 128):=by rw[uB,dif_neg h]
theorem lM(n:Nat):∀x∈uB n,x<256:=by
 induction n using Nat.strongRecOn with
 | _ n ih=>
  by_cases h:n<128
  ·rw[uF h];simp;omega
  ·rw[zP h];intro x hx;rcases List.mem_cons.1 hx with rfl|hx
   ·omega
   ·exact ih (n / 128) (by omega) x hx
theorem iG(n:Nat):1≤(uB n).length:=by
 by_cases h:n<128
 ·rw[uF h];simp
 ·rw[zP h];simp
theorem bP:∀(k n:Nat),n<128^(k+1)→(uB n).length≤k+1
 |0,n,h=>by rw[uF (by simpa using h)];simp
 |k+1,n,h=>by
  by_cases hn:n<128
  ·rw[uF hn];simp
  ·rw[zP hn,List.length_cons];have:=bP k (n / 128) (by rw[Nat.pow_succ]at h;exact Nat.div_lt_of_lt_mul (by omega));omega
def yC:List Nat→Nat
 |[]=>0
 |b::t=>b%128+128*yC t
theorem aEF(n:Nat):yC (uB n)=n:=by
 induction n using Nat.strongRecOn with
 | _ n ih=>
  by_cases h:n<128
  ·rw[uF h];simp[yC];omega
  ·rw[zP h,yC,ih (n / 128) (by omega)];omega
theorem ZD:∀(l:List Nat),yC l<128^l.length
 |[]=>by simp[yC]
 |b::t=>by
  have:=ZD t;rw[yC,List.length_cons,Nat.pow_succ];omega
def eV:List Nat→Nat→Nat×Int
 | _,0=>(0,1)
 |[],_ +1=>(0,2)
 |b::t,m+1=>if b<128 then(1,0)else(if(eV t m).2=0 then((eV t m).1+1,0)else eV t m)
theorem wM:∀(bs:List Nat) (m:Nat),(eV bs m).2=0→1≤(eV bs m).1∧(eV bs m).1≤m∧(eV bs m).1≤bs.length
 |bs,0,h=>by cases bs<;>simp[eV]at h
 |[],_ +1,h=>by simp[eV]at h
 |b::t,m+1,h=>by
  have ih:=wM t m;rw[eV]at h⊢;by_cases hb:b<128
  ·rw[if_pos hb];simp
  ·rw[if_neg hb]at h⊢;by_cases h2:(eV t m).2=0
   ·rw[if_pos h2];have:=ih h2;simp;omega
   ·rw[if_neg h2]at h;exact absurd h h2
theorem ZE(rest:List Nat):∀(m n:Nat),(uB n).length≤m→eV (uB n++rest) m=((uB n).length,0)
 |0,n,h=>by have:=iG n;omega
 |m+1,n,h=>by
  by_cases hn:n<128
  ·rw[uF hn];simp[eV,hn]
  ·rw[zP hn]at h⊢;rw[List.cons_append,eV,if_neg (by omega),ZE rest m (n / 128) (by simpa using h)];simp
def lN (bs:List Nat):Nat×Nat×Int:=
 if(eV bs 5).2≠0 then(0,0,(eV bs 5).2)
 else if uB (yC (bs.take (eV bs 5).1))=bs.take (eV bs 5).1∧yC (bs.take (eV bs 5).1)<4294967296 then(yC (bs.take (eV bs 5).1),(eV bs 5).1,0)else(0,0,1)
theorem ZF{n:Nat}(hn:n<4294967296)(rest:List Nat):lN (uB n++rest)=(n,(uB n).length,0):=by
 have hl:=bP 4 n (by omega);unfold lN;rw[ZE rest 5 n hl];simp only[ne_eq,not_true_eq_false,if_false];rw[List.take_left,aEF,if_pos ⟨rfl,hn⟩]
theorem zQ(bs:List Nat):(lN bs).1<4294967296∧(lN bs).2.1≤bs.length∧(lN bs).2.1≤5:=by
 unfold lN;split
 ·simp
 ·next h=>
  have:=wM bs 5 (by simpa using h);split
  ·next h2=>exact⟨h2.2,this.2.2,this.2.1⟩
  ·simp
def sB (n:Int):List Nat:=if h:-64≤n∧n≤63 then [(n%128).toNat]else((n%128).toNat+128)::sB (n / 128)
termination_by n.natAbs
decreasing_by omega
theorem xQ{n:Int}(h:-64≤n∧n≤63):sB n=[(n%128).toNat]:=by rw[sB,dif_pos h]
theorem zR{n:Int}(h:¬(-64≤n∧n≤63)):sB n=((n%128).toNat+128)::sB (n / 128):=by rw[sB,dif_neg h]
theorem PD(n:Int):1≤(sB n).length:=by
 by_cases h:-64≤n∧n≤63
 ·rw[xQ h];simp
 ·rw[zR h];simp
theorem aGZ(m:Nat):∀(n:Int),n.natAbs≤m→∀x∈sB n,x<256:=by
 induction m with
 |zero=>intro n hn;rw[xQ (by omega)];simp;omega
 |succ m ih=>
  intro n hn;by_cases h:-64≤n∧n≤63
  ·rw[xQ h];simp;omega
  ·rw[zR h];intro x hx;rcases List.mem_cons.1 hx with rfl|hx
   ·omega
   ·exact ih (n / 128) (by omega) x hx
theorem yD:∀(k:Nat) (n:Int),-(64*128^k:Nat)≤n→n<(64*128^k:Nat)→(sB n).length≤k+1
 |0,n,h,h'=>by rw[xQ (by simp at h h';omega)];simp
 |k+1,n,h,h'=>by
  by_cases hn:-64≤n∧n≤63
  ·rw[xQ hn];simp
  ·rw[zR hn,List.length_cons];have e:(64*128^(k+1):Nat)=128*(64*128^k):=by rw[Nat.pow_succ];omega
   rw[e]at h h';have:=yD k (n / 128) (by omega) (by omega);omega
theorem ZG(rest:List Nat):∀(m:Nat) (n:Int),(sB n).length≤m→eV (sB n++rest) m=((sB n).length,0)
 |0,n,h=>by have:=PD n;omega
 |m+1,n,h=>by
  by_cases hn:-64≤n∧n≤63
  ·rw[xQ hn];rw[List.cons_append,eV,if_pos (by omega)];rfl
  ·rw[zR hn]at h⊢;rw[List.cons_append,eV,if_neg (by omega),ZG rest m (n / 128) (by simpa using h)];simp
def lZ:List Nat→Int
 |[]=>0
 |[b]=>if 64≤b%128 then((b%128:Nat):Int)-128 else((b%128:Nat):Int)
 |b::c::t=>IntKind.i64.wrap (lZ (c::t)*128+((b%128:Nat):Int))
theorem MX(b:Nat){t:List Nat}(h:1≤t.length):lZ (b::t)=IntKind.i64.wrap (lZ t*128+((b%128:Nat):Int)):=by
 cases t with
 |nil=>simp at h
 |cons c t=>rfl
theorem aEG(m:Nat):∀(n:Int),n.natAbs≤m→ -9223372036854775808≤n→n≤9223372036854775807→lZ (sB n)=n:=by
 induction m with
 |zero=>intro n hn _ _;rw[xQ (by omega)];simp[lZ];omega
 |succ m ih=>
  intro n hn h1 h2;by_cases h:-64≤n∧n≤63
  ·rw[xQ h,lZ];split<;>omega
  ·rw[zR h,MX _ (PD _),ih (n / 128) (by omega) (by omega) (by omega)];rw[IntKind.wrap_i64];omega
def nK (bits:Nat):Nat:=(bits+6) / 7
def xE (bits:Nat) (bs:List Nat):Int×Nat×Int:=
 if(eV bs (nK bits)).2≠0 then(0,0,(eV bs (nK bits)).2)
 else if sB (lZ (bs.take (eV bs (nK bits)).1))=bs.take (eV bs (nK bits)).1∧(bits=32→ -2147483648≤lZ (bs.take (eV bs (nK bits)).1)∧lZ (bs.take (eV bs (nK bits)).1)≤2147483647)then(lZ (bs.take (eV bs (nK bits)).1),(eV bs (nK bits)).1,0)else(0,0,1)
theorem aEH{bits:Nat}(hb:bits=32∨bits=64){n:Int}(h1:-9223372036854775808≤n)(h2:n≤9223372036854775807)(h3:bits=32→ -2147483648≤n∧n≤2147483647)(rest:List Nat):xE bits (sB n++rest)=(n,(sB n).length,0):=by
 have hl:(sB n).length≤nK bits:=by
  rcases hb with rfl|rfl
  ·have:=h3 rfl;exact yD 4 n (by omega) (by omega)
  ·exact yD 9 n (by omega) (by omega)
 unfold xE;rw[ZG rest _ n hl];simp only[ne_eq,not_true_eq_false,if_false];rw[List.take_left,aEG n.natAbs n (Nat.le_refl _) h1 h2,if_pos ⟨rfl,h3⟩]
theorem ZH(bits:Nat)(bs:List Nat):(xE bits bs).2.1≤bs.length:=by
 unfold xE;split
 ·simp
 ·next h=>
  have:=wM bs (nK bits) (by simpa using h);split
  ·exact this.2.2
  ·simp
end Go.Proofs.YtjpdadobblffmaaGreat
namespace Go.Proofs.YtjpdadobblffmaaGreat
open Go.RowKit Go.ChangeShapes Go.WideShapes Go.ChangeAt Go.Deep
attribute [local irreducible] SW RS RD fG eH
theorem mL{l:List Nat}{x:Nat}:l.map aG++ [[.int .u8 x]]=(l++ [x]).map aG:=by simp[aG]
theorem PE{x:Nat}(h:x<256):(BitVec.ofInt IntKind.u8.bits (x:Int)).toNat=x:=by
 rw[BitVec.toNat_ofInt];simp[IntKind.bits];omega
theorem TR{x:Nat}(h:x<256):IntKind.u8.wrap ↑(BitVec.ofInt IntKind.u8.bits (x:Int)|||BitVec.ofInt IntKind.u8.bits 128).toNat=((x%128+128:Nat):Int):=by
 have h1:∀x<256,x|||128=x%128+128:=by decide
 rw[BitVec.toNat_or,PE h,show(BitVec.ofInt IntKind.u8.bits 128).toNat=128 by decide,h1 x h,IntKind.wrap_u8];omega
theorem aMP{m:Nat}:(m:Int).fdiv (2^min (Int.toNat 7) IntKind.u64.bits)=((m / 128:Nat):Int):=by
 have:(2:Int)^min (Int.toNat 7) IntKind.u64.bits=128:=by decide
 rw[this,Int.fdiv_eq_ediv_of_nonneg _ (by omega)];omega
theorem aCe(m:Nat):IntKind.u8.wrap (m:Int)=((m%256:Nat):Int):=by rw[IntKind.wrap_u8];omega
theorem aEI(m:Nat):IntKind.u8.wrap ↑(BitVec.ofInt IntKind.u8.bits (IntKind.u8.wrap (m:Int))|||BitVec.ofInt IntKind.u8.bits 128).toNat=((m%128+128:Nat):Int):=by
 rw[aCe m,TR (by omega)];omega
theorem TT{n:Nat}(h:n<18446744073709551616):(uB n).length≤10:=bP 9 n (by omega)
theorem nB(q:Nat)(vs:List Nat)(hb:vs.length≤100000000)(n:Nat)(hn:n<18446744073709551616):SCall Tryz.prog 239 [.own q 0 vs.length,.int .u64 n] [(q,.arr 5 1 (vs.map aG))]
  (fun x σ=>∃r,x=.own r 0 (vs++uB n).length∧σ=[(r,.arr 5 1 ((vs++uB n).map aG))]):=by
 have hL:=TT hn;refine cF 20 [0,1,4,6] Tryz.func239 ?_;refine bM ?_;refine scj (β:=Nat×List Nat×Nat) 0 rfl (fun b=>⟨[(0,.own b.1 0 b.2.1.length),(1,.int .u64 b.2.2)],[(b.1,.arr 5 1 (b.2.1.map aG))]⟩) (fun b=>b.2.1++uB b.2.2=vs++uB n∧b.2.2<18446744073709551616) (fun b=>b.2.2) ?_ (fun P=> ?_)
 ·rintro⟨r,us,m⟩ ⟨he,hm⟩;simp only at he hm⊢;have hcl:us.length+(uB m).length=vs.length+(uB n).length:=by rw[←List.length_append,he,List.length_append]
  have hup:=iG m;refine dM ?_;refine BO ?_;refine aB rfl (fun h=> ?_) (fun h=> ?_)
  ·have h1:m<128:=by simp at h;omega
   rw[uF h1]at he;refine eX ?_;refine z0 ?_;refine eN fun r10 h10=> ?_;intros
   apply ap (es':=(vs++uB n).map aG) (len':=(vs++uB n).length);rfl;rfl;exact bA
   ·simp
   ·exact .inr (.inr ⟨_,_,_,_,_,rfl,bA,by simp,rfl⟩)
   ·rw[←he,←mL];rfl
   ·rw[←he];simp
   ·simp[maxLen];omega
   ·simp;omega
   ·rfl
   refine bH fun r11 h11=> ?_;intros
   refine dE ?_;refine wZ ?_;exact aE aF ⟨r11,by rfl,rfl⟩ aA
  ·have h1:¬m<128:=by simp at h;omega
   have hcl2:us.length+(uB (m / 128)).length+1=vs.length+(uB n).length:=by rw[zP h1]at hcl;simp at hcl;omega
   rw[zP h1]at he;refine eX ?_;refine z0 ?_;refine lo (OJ (E rfl) (E rfl)) rfl ?_;refine eN fun r16 h16=> ?_;intros
   apply ap (es':=(us++ [m%128+128]).map aG) (len':=(us++ [m%128+128]).length);rfl;rfl;exact bA
   ·simp
   ·exact .inr (.inr ⟨_,_,_,_,_,rfl,bA,by simp,rfl⟩)
   ·rw[←mL,aEI];rfl
   ·simp
   ·simp[maxLen];omega
   ·simp;omega
   ·rfl
   refine bH fun r17 h17=> ?_;intros
   refine hZ ?_;refine z2 ?_;refine dE ?_;refine wZ ?_;rw[aMP];refine⟨(r17,us++ [m%128+128],m / 128),⟨?_, ?_⟩, ?_, ?_⟩
   ·simpa using he
   ·show m / 128< _;omega
   ·show m / 128<m;omega
   ·exact aL
 ·refine P (q,vs,n) _ ⟨rfl,hn⟩ ?_;exact aL
theorem aCf(n:Int):IntKind.u8.wrap n=((n%256).toNat:Int):=by rw[IntKind.wrap_u8];omega
theorem yE{x:Nat}(h:x<256):IntKind.u8.wrap ↑(BitVec.ofInt IntKind.u8.bits (x:Int)&&&~~~BitVec.ofInt IntKind.u8.bits 128).toNat=((x%128:Nat):Int):=by
 have h1:∀x<256,x&&&127=x%128:=by decide
 rw[BitVec.toNat_and,PE h,show(~~~BitVec.ofInt IntKind.u8.bits 128).toNat=127 by decide,h1 x h,IntKind.wrap_u8];omega
theorem aCg{x:Nat}(h:x<128):IntKind.u8.wrap ↑(BitVec.ofInt IntKind.u8.bits (x:Int)&&&BitVec.ofInt IntKind.u8.bits 64).toNat=if x<64 then 0 else 64:=by
 have h1:∀x<128,x&&&64=if x<64 then 0 else 64:=by decide
 rw[BitVec.toNat_and,PE (by omega),show(BitVec.ofInt IntKind.u8.bits 64).toNat=64 by decide,h1 x h,IntKind.wrap_u8];split<;>rfl
def cS (n:Int):Nat:=(n%128).toNat
theorem ZI(n:Int):cS n<128:=by unfold cS;omega
theorem aAQ(n:Int):IntKind.u8.wrap ↑(BitVec.ofInt IntKind.u8.bits (IntKind.u8.wrap n)&&&~~~BitVec.ofInt IntKind.u8.bits 128).toNat=(cS n:Int):=by
 rw[aCf n,yE (by omega)];unfold cS;omega
theorem aCh(n:Int):IntKind.u8.wrap ↑(BitVec.ofInt IntKind.u8.bits (cS n:Int)|||BitVec.ofInt IntKind.u8.bits 128).toNat=((cS n+128:Nat):Int):=by
 have:=ZI n;rw[TR (by omega)];omega
theorem aG0{m:Int}:m.fdiv (2^min (Int.toNat 7) IntKind.i64.bits)=m / 128:=by
 have:(2:Int)^min (Int.toNat 7) IntKind.i64.bits=128:=by decide
 rw[this,Int.fdiv_eq_ediv_of_nonneg _ (by omega)]
theorem TU(q:Nat)(vs:List Nat)(hb:vs.length≤100000000)(n:Int)(hn:-9223372036854775808≤n∧n≤9223372036854775807):SCall Tryz.prog 296 [.own q 0 vs.length,.int .i64 n] [(q,.arr 5 1 (vs.map aG))]
  (fun x σ=>∃r,x=.own r 0 (vs++sB n).length∧σ=[(r,.arr 5 1 ((vs++sB n).map aG))]):=by
 have hL:(sB n).length≤10:=yD 9 n (by omega) (by omega);refine cF 36 [0,1,4,5,26] Tryz.func296 ?_;refine bM ?_;refine scj (β:=Nat×List Nat×Int) 0 rfl (fun b=>⟨[(0,.own b.1 0 b.2.1.length),(1,.int .i64 b.2.2)],[(b.1,.arr 5 1 (b.2.1.map aG))]⟩) (fun b=>b.2.1++sB b.2.2=vs++sB n∧ -9223372036854775808≤b.2.2∧b.2.2≤9223372036854775807) (fun b=>b.2.2.natAbs) ?_ (fun P=> ?_)
 ·rintro⟨r,us,m⟩ ⟨he,hm,hm2⟩;simp only at he hm hm2⊢;have hcl:us.length+(sB m).length=vs.length+(sB n).length:=by rw[←List.length_append,he,List.length_append]
  have hup:=PD m;have hc7:=ZI m;refine dM ?_;refine z0 ?_;refine z3 ?_;refine dE ?_;rw[aAQ];refine iC ?_;refine z2 ?_;refine dE ?_;rw[aG0];refine iC ?_;refine lo (dI (E rfl) (E rfl)) rfl ?_;refine xK ?_;refine z5 ?_;refine z6 ?_;refine z7 ?_;refine xK ?_;refine z6 ?_;refine z8 ?_;refine z9 ?_;refine z10 ?_;refine z11 ?_;refine z12 ?_;refine z13 ?_;refine lD ?_;rw[aCg hc7];have hb64:(-64≤m∧m≤63)↔(m / 128=0∧cS m<64∨m / 128=-1∧¬cS m<64):=by unfold cS;omega
  refine aB rfl (fun h=> ?_) (fun h=> ?_)
  ·have h1:-64≤m∧m≤63:=by
    rw[hb64];by_cases h6:cS m<64<;>simp[h6]at h⊢<;>omega
   rw[xQ h1]at he;refine eX ?_;refine eN fun r29 h29=> ?_;intros
   apply ap (es':=(vs++sB n).map aG) (len':=(vs++sB n).length);rfl;rfl;exact bA
   ·simp
   ·exact .inr (.inr ⟨_,_,_,_,_,rfl,bA,by simp,rfl⟩)
   ·rw[←he,←mL];rfl
   ·rw[←he];simp
   ·simp[maxLen];omega
   ·simp;omega
   ·rfl
   refine bH fun r30 h30=> ?_;intros
   refine dE ?_;refine wZ ?_;exact aE aF ⟨r30,by rfl,rfl⟩ aA
  ·have h1:¬(-64≤m∧m≤63):=by
    rw[hb64];by_cases h6:cS m<64<;>simp[h6]at h⊢<;>omega
   have hcl2:us.length+(sB (m / 128)).length+1=vs.length+(sB n).length:=by rw[zR h1]at hcl;simp at hcl;omega
   rw[zR h1]at he;refine eX ?_;refine lo (OJ (E rfl) (E rfl)) rfl ?_;refine eN fun r34 h34=> ?_;intros
   apply ap (es':=(us++ [cS m+128]).map aG) (len':=(us++ [cS m+128]).length);rfl;rfl;exact bA
   ·simp
   ·exact .inr (.inr ⟨_,_,_,_,_,rfl,bA,by simp,rfl⟩)
   ·rw[←mL,aCh];rfl
   ·simp
   ·simp[maxLen];omega
   ·simp;omega
   ·rfl
   refine bH fun r35 h35=> ?_;intros
   refine dE ?_;refine wZ ?_;refine⟨(r35,us++ [cS m+128],m / 128),⟨?_, ?_⟩, ?_, ?_⟩
   ·simpa[cS]using he
   ·show _ ≤m / 128∧m / 128≤ _;omega
   ·show(m / 128).natAbs<m.natAbs;omega
   ·exact aL
 ·refine P (q,vs,n) _ ⟨rfl,hn⟩ ?_;exact aL
def KQ (n:Nat) (r:Nat×Int):Nat×Int:=if r.2=0 then(r.1+n,0)else r
theorem aAR(r:Nat×Int):KQ 0 r=r:=by obtain⟨x,y⟩:=r;unfold KQ;split<;>simp_all
theorem aCi(n k:Nat)(r:Nat×Int):KQ n (KQ k r)=KQ (n+k) r:=by
 unfold KQ;by_cases h:r.2=0<;>simp[h];omega
theorem aAS{l:List Nat}{m n:Nat}(h1:n<m)(h2:n<l.length):eV (l.drop n) (m-n)=if l[n]! <128 then(1,0)else KQ 1 (eV (l.drop (n+1)) (m-(n+1))):=by
 rw[List.drop_eq_getElem_cons h2,show m-n=(m-(n+1))+1 by omega,eV,getElem!_pos l n h2];rfl
theorem aAT{l:List Nat}:eV l 0=(0,1):=by cases l<;>rfl
theorem aCj{m:Nat}(h:0<m):eV [] m=(0,2):=by
 cases m with
 |zero=>omega
 |succ m=>rfl
theorem tE(l:List Nat)(hl:l.length≤1000000)(bits:Int)(m:Nat)(hm:bits=32∧m=5∨bits=64∧m=10):SCall Tryz.prog 257 [.ro 1 (l.map aG) .any,.int .i64 bits] []
  (fun x σ=>x=.tup [.int .i64 ((eV l m).1:Nat),.int .i64 (eV l m).2]∧σ=[]):=by
 have hq:IntKind.i64.wrap ((bits+7-1).tdiv 7)=m:=by rcases hm with⟨rfl,rfl⟩|⟨rfl,rfl⟩<;>decide
 refine cF 37 [0,1,4,5,6,7,13,18,22,27] Tryz.func257 ?_;refine dX ?_;refine lE ?_;refine scj (β:=Nat) 0 rfl (fun b=>⟨[(0,.ro 1 (l.map aG) .any),(6,.int .i64 b),(7,.int .i64 m)],[]⟩) (fun b=>b≤m∧b≤l.length∧eV l m=KQ b (eV (l.drop b) (m-b))) (fun b=>m-b) ?_ (fun P=> ?_)
 ·rintro n ⟨hn1,hn2,he⟩;try dsimp only at hn1 hn2 he⊢
  refine eX ?_;refine TM ?_;refine aB rfl (fun h=> ?_) (fun h=> ?_)
  ·obtain rfl:n=m:=by simp at h;omega
   rw[Nat.sub_self,aAT]at he;refine dX ?_;refine lE ?_;refine wZ ?_;apply aE;exact aF
   ·rw[he];exact⟨rfl,rfl⟩
   ·exact aA
  have h1:n<m:=by simp at h;omega
  refine eX ?_;refine kU ?_;refine TM ?_;refine aB rfl (fun h=> ?_) (fun h=> ?_)
  ·obtain rfl:n=l.length:=by simp at h;omega
   rw[List.drop_length,aCj (by omega)]at he;refine dX ?_;refine lE ?_;refine wZ ?_;apply aE;exact aF
   ·rw[he];exact⟨rfl,rfl⟩
   ·exact aA
  have h2:n<l.length:=by simp at h;omega
  rw[aAS h1 h2]at he;refine eX ?_;refine mI ?_;refine DP ?_;refine aB rfl (fun h=> ?_) (fun h=> ?_)
  ·have h3:¬l[n]! <128:=by rw[Int.toNat_natCast]at h;first|(have:=of_decide_eq_true h;omega)|(have:=of_decide_eq_false h;omega)
   rw[if_neg h3,aCi]at he;refine lY ?_;refine wZ ?_;refine⟨n+1,⟨by omega,by omega,he⟩,by omega, ?_⟩;exact aL
  ·have h3:l[n]! <128:=by rw[Int.toNat_natCast]at h;first|(have:=of_decide_eq_true h;omega)|(have:=of_decide_eq_false h;omega)
   rw[if_pos h3]at he;refine dM ?_;refine FH ?_;refine lE ?_;refine wZ ?_;apply aE;exact aF
   ·rw[he,show KQ n (1,0)=(n+1,0) by simp[KQ,Nat.add_comm]];exact⟨rfl,rfl⟩
   ·exact aA
 ·refine dM ?_;refine lo (iB (E rfl) (E rfl)) rfl ?_;refine xK ?_;refine z18 ?_;refine z13 ?_;refine lD ?_;refine aB rfl (fun h=> ?_) (fun h=> ?_)
  ·exfalso;simp at h;omega
  refine dM ?_;refine FH ?_;refine tA ?_;refine z20 ?_;refine aEE ?_;rw[hq];refine P 0 _ ⟨by omega,by omega,by simp[aAR]⟩ ?_;exact aL
theorem TV(a c:List Nat)(ha:∀x∈a,x<256)(hc:∀x∈c,x<256):SCall Tryz.prog 258 [.ro 1 (a.map aG) .any,.ro 1 (c.map aG) .any] []
  (fun x σ=>x=.bool (decide (c=a))∧σ=[]):=by
 refine cF 10 [0,1,4] Tryz.func258 ?_;refine iD ?_;refine lo (tC (e:=5) (bs:=a) (E rfl)) rfl ?_;refine lo (aD (E rfl)) rfl ?_;refine lo (tC (e:=5) (bs:=c) (E rfl)) rfl ?_;refine lo (GB (E rfl) (E rfl)) rfl ?_;refine dE ?_;apply aE;exact aF
 ·refine⟨?_,rfl⟩;rw[pV ha hc];show AV.bool _=_
  congr 1
  rw[decide_eq_decide];exact eq_comm
 ·exact aA
theorem aEJ{n:Nat}(hn:n<18446744073709551616):IntKind.u64.wrap (n:Int)=n:=by rw[IntKind.wrap_u64];omega
theorem aAU(m:Nat):IntKind.u8.wrap (IntKind.u8.wrap ((m:Int).tmod 128)+128)=((m%128+128:Nat):Int):=by
 rw[Int.tmod_eq_emod_of_nonneg (by omega),IntKind.wrap_u8,IntKind.wrap_u8];omega
theorem aAV{m:Nat}(hm:m<18446744073709551616):IntKind.u64.wrap ((m:Int).tdiv 128)=((m / 128:Nat):Int):=by
 rw[Int.tdiv_eq_ediv_of_nonneg (by omega),IntKind.wrap_u64];omega
theorem aCk(m:Int):IntKind.i64.wrap ↑(BitVec.ofInt IntKind.i64.bits m&&&BitVec.ofInt IntKind.i64.bits 127).toNat=(cS m:Int):=by
 have h1:(BitVec.ofInt IntKind.i64.bits m).toNat=(m%18446744073709551616).toNat:=by
  rw[BitVec.toNat_ofInt];simp[IntKind.bits]
 rw[BitVec.toNat_and,h1,show(BitVec.ofInt IntKind.i64.bits 127).toNat=2^7-1 by decide,Nat.and_two_pow_sub_one_eq_mod,IntKind.wrap_i64];unfold cS;omega
theorem aG1(m:Int):IntKind.u8.wrap (cS m:Int)=cS m:=by
 have:=ZI m;rw[IntKind.wrap_u8];omega
theorem aCl(m:Int):IntKind.u8.wrap ((cS m:Int)+128)=((cS m+128:Nat):Int):=by
 have:=ZI m;rw[IntKind.wrap_u8];omega
theorem CZ(n:Nat)(hn:n<18446744073709551616):SCall Tryz.prog 252 [.int .u64 n] []
  (fun x σ=>∃r,x=.own r 0 (uB n).length∧σ=[(r,.arr 5 1 ((uB n).map aG))]):=by
 have hL:=TT hn;refine cF 20 [0,2,3,5] Tryz.func252 ?_;refine bM ?_;refine jQ ?_;refine oZ ?_;refine bW 3 5 1 (by decide) (k:=.nil) rfl (by decide) (fun q hq=> ?_);refine aJ ?_;refine lp (β:=Nat×List Nat×Nat) (fun b=>⟨[(3,.own b.1 0 b.2.1.length),(0,.int .u64 b.2.2)],[(b.1,.arr 5 1 (b.2.1.map aG))]⟩) (fun b=>b.2.1++uB b.2.2=uB n∧b.2.2<18446744073709551616) (fun b=>b.2.2) (q,[],n) (by(exact aL)) ⟨rfl,hn⟩ ?_;rintro⟨r,us,m⟩ ⟨he,hm⟩;simp only at he hm⊢;have hcl:us.length+(uB m).length=(uB n).length:=by rw[←List.length_append,he]
 have hup:=iG m;refine dM ?_;refine zJ ?_;refine aB rfl (fun h=> ?_) (fun h=> ?_)
 ·have h1:¬m<128:=by simp at h;omega
  have hcl2:us.length+(uB (m / 128)).length+1=(uB n).length:=by rw[zP h1]at hcl;simp at hcl;omega
  rw[zP h1]at he;refine eX ?_;refine z22 ?_;refine z0 ?_;refine lo (rB (E rfl) (E rfl)) rfl ?_;refine eN fun r11 h11=> ?_;intros
  apply ap (es':=(us++ [m%128+128]).map aG) (len':=(us++ [m%128+128]).length);rfl;rfl;exact bA
  ·simp
  ·exact .inr (.inr ⟨_,_,_,_,_,rfl,bA,by simp,rfl⟩)
  ·rw[←mL,aAU];rfl
  ·simp
  ·simp[maxLen];omega
  ·simp;omega
  ·rfl
  refine bH fun r12 h12=> ?_;intros
  refine hZ ?_;refine z20 ?_;refine dE ?_;refine⟨(r12,us++ [m%128+128],m / 128),⟨?_, ?_⟩, ?_, ?_⟩
  ·simpa using he
  ·show m / 128< _;omega
  ·show m / 128<m;omega
  ·rw[aAV hm];exact aL
 ·have h1:m<128:=by simp at h;omega
  rw[uF h1]at he;refine eX ?_;refine z0 ?_;refine eN fun r18 h18=> ?_;intros
  apply ap (es':=(uB n).map aG) (len':=(uB n).length);rfl;rfl;exact bA
  ·simp
  ·exact .inr (.inr ⟨_,_,_,_,_,rfl,bA,by simp,rfl⟩)
  ·rw[←he,←mL];rfl
  ·rw[←he];simp
  ·simp[maxLen];omega
  ·simp;omega
  ·rfl
  refine bH fun r19 h19=> ?_;intros
  refine dE ?_;exact aE aF ⟨r19,by rfl,rfl⟩ aA
theorem aKI(n:Int)(hn:-9223372036854775808≤n∧n≤9223372036854775807):SCall Tryz.prog 297 [.int .i64 n] []
  (fun x σ=>∃r,x=.own r 0 (sB n).length∧σ=[(r,.arr 5 1 ((sB n).map aG))]):=by
 have hL:(sB n).length≤10:=yD 9 n (by omega) (by omega);refine cF 25 [0,2,3,9] Tryz.func297 ?_;refine bM ?_;refine jQ ?_;refine oZ ?_;refine bW 3 5 1 (by decide) (k:=.nil) rfl (by decide) (fun q hq=> ?_);refine aJ ?_;refine lp (β:=Nat×List Nat×Int) (fun b=>⟨[(3,.own b.1 0 b.2.1.length),(0,.int .i64 b.2.2)],[(b.1,.arr 5 1 (b.2.1.map aG))]⟩) (fun b=>b.2.1++sB b.2.2=sB n∧ -9223372036854775808≤b.2.2∧b.2.2≤9223372036854775807) (fun b=>b.2.2.natAbs) (q,[],n) (by(exact aL)) ⟨rfl,hn⟩ ?_;rintro⟨r,us,m⟩ ⟨he,hm,hm2⟩;simp only at he hm hm2⊢;have hcl:us.length+(sB m).length=(sB n).length:=by rw[←List.length_append,he]
 have hup:=PD m;refine dM ?_;refine lo (iB (E rfl) (E rfl)) rfl ?_;refine xK ?_;refine z18 ?_;refine z13 ?_;refine lD ?_;refine aB rfl (fun h=> ?_) (fun h=> ?_)
 ·have h1:¬(-64≤m∧m≤63):=by simp at h;omega
  have hcl2:us.length+(sB (m / 128)).length+1=(sB n).length:=by rw[zR h1]at hcl;simp at hcl;omega
  rw[zR h1]at he;refine eX ?_;refine lo (iX (E rfl) (E rfl)) rfl ?_;refine z0 ?_;refine lo (rB (E rfl) (E rfl)) rfl ?_;refine eN fun r15 h15=> ?_;intros
  apply ap (es':=(us++ [cS m+128]).map aG) (len':=(us++ [cS m+128]).length);rfl;rfl;exact bA
  ·simp
  ·exact .inr (.inr ⟨_,_,_,_,_,rfl,bA,by simp,rfl⟩)
  ·rw[←mL,aCk,aG1,aCl];rfl
  ·simp
  ·simp[maxLen];omega
  ·simp;omega
  ·rfl
  refine bH fun r16 h16=> ?_;intros
  refine hZ ?_;refine z2 ?_;refine dE ?_;refine⟨(r16,us++ [cS m+128],m / 128),⟨?_, ?_⟩, ?_, ?_⟩
  ·simpa[cS]using he
  ·show _ ≤m / 128∧m / 128≤ _;omega
  ·show(m / 128).natAbs<m.natAbs;omega
  ·rw[aG0];exact aL
 ·have h1:-64≤m∧m≤63:=by simp at h;omega
  rw[xQ h1]at he;refine eX ?_;refine lo (iX (E rfl) (E rfl)) rfl ?_;refine z0 ?_;refine eN fun r23 h23=> ?_;intros
  apply ap (es':=(sB n).map aG) (len':=(sB n).length);rfl;rfl;exact bA
  ·simp
  ·exact .inr (.inr ⟨_,_,_,_,_,rfl,bA,by simp,rfl⟩)
  ·rw[←he,←mL,aCk,aG1];rfl
  ·rw[←he];simp
  ·simp[maxLen];omega
  ·simp;omega
  ·rfl
  refine bH fun r24 h24=> ?_;intros
  refine dE ?_;exact aE aF ⟨r24,by rfl,rfl⟩ aA
theorem aCm(n:Nat)(hn:n<18446744073709551616):SCall Tryz.prog 239 [.ro 0 [] .nil,.int .u64 n] []
  (fun x σ=>∃r,x=.own r 0 (uB n).length∧σ=[(r,.arr 5 1 ((uB n).map aG))]):=
 iI (e:=5) (sz:=1) (by decide) fun q _=>nB q [] (by simp) n hn
theorem aCn(n:Int)(hn:-9223372036854775808≤n∧n≤9223372036854775807):SCall Tryz.prog 296 [.ro 0 [] .nil,.int .i64 n] []
  (fun x σ=>∃r,x=.own r 0 (sB n).length∧σ=[(r,.arr 5 1 ((sB n).map aG))]):=
 iI (e:=5) (sz:=1) (by decide) fun q _=>TU q [] (by simp) n hn
theorem zS{l:List Nat}(h:∀x∈l,x<256)(i:Nat):l[i]! <256:=by
 by_cases hi:i<l.length
 ·rw[getElem!_pos l i hi];exact h _ (List.getElem_mem hi)
 ·simp[hi]
theorem MY{l:List Nat}{k c:Nat}(h:c<k)(hk:k≤l.length):(l.take k).drop c=l[c]! ::(l.take k).drop (c+1):=by
 have h1:c<(l.take k).length:=by simp;omega
 rw[List.drop_eq_getElem_cons h1,List.getElem_take,getElem!_pos l c (by omega)]
theorem MZ{n:Nat}(hn:n<18446744073709551616):(BitVec.ofInt IntKind.u64.bits (n:Int)).toNat=n:=by
 rw[BitVec.toNat_ofInt];simp[IntKind.bits];omega
theorem aKJ{x y:Nat}(hx:x<34359738368)(hy:y<256):IntKind.u64.wrap ↑(BitVec.ofInt IntKind.u64.bits (IntKind.u64.wrap ((x:Int)*2^min (Int.toNat 7) IntKind.u64.bits))|||BitVec.ofInt IntKind.u64.bits (((y%128:Nat):Int))).toNat=((y%128+128*x:Nat):Int):=by
 have h0:(2:Int)^min (Int.toNat 7) IntKind.u64.bits=128:=by decide
 have h1:IntKind.u64.wrap ((x:Int)*128)=((x*128:Nat):Int):=by rw[IntKind.wrap_u64];omega
 rw[h0,h1,BitVec.toNat_or,MZ (by omega),MZ (by omega),show x*128=2^7*x by omega,←Nat.two_pow_add_eq_or_of_lt (by omega),IntKind.wrap_u64];omega
theorem aKK{x:Nat}:(x:Int).fdiv (2^min (Int.toNat 32) IntKind.u64.bits)=((x / 4294967296:Nat):Int):=by
 have:(2:Int)^min (Int.toNat 32) IntKind.u64.bits=4294967296:=by decide
 rw[this,Int.fdiv_eq_ediv_of_nonneg _ (by omega)];omega
theorem TW{l:List Nat}{k c:Nat}(hk:k≤5):yC ((l.take k).drop c)<34359738368:=by
 have h1:=ZD ((l.take k).drop c);have h2:((l.take k).drop c).length≤5:=by simp;omega
 exact Nat.lt_of_lt_of_le h1 (Nat.le_trans (Nat.pow_le_pow_right (by decide) h2) (by decide))
theorem aG2(l:List Nat)(hl:l.length≤1000000)(hlt:∀x∈l,x<256):SCall Tryz.prog 166 [.ro 1 (l.map aG) .any,.int .i64 32] []
  (fun x σ=>x=.tup [.int .u64 ((lN l).1:Nat),.int .i64 ((lN l).2.1:Nat),.int .i64 (lN l).2.2]∧σ=[]):=by
 refine cF 53 [0,1,4,5,6,7,8,9,10,18,22,50] Tryz.func166 ?_;refine dX ?_;refine oF ?_;refine scj (β:=Nat) 0 rfl (fun b=>⟨[(0,.ro 1 (l.map aG) .any),(1,.int .i64 32),(7,.int .i64 ((eV l 5).1:Nat)),(9,.int .u64 (yC ((l.take (eV l 5).1).drop b):Nat)),(10,.int .i64 b)],[]⟩) (fun b=>b≤(eV l 5).1∧(eV l 5).2=0) (fun b=>b) ?_ (fun P=> ?_)
 ·rintro n ⟨hn1,hk0⟩;try dsimp only at hn1 hk0⊢
  obtain⟨hk1,hk2,hk3⟩:=wM l 5 hk0;generalize hk:(eV l 5).1=k at*;refine dM ?_;refine PC ?_;refine aB rfl (fun h=> ?_) (fun h=> ?_)
  ·obtain⟨c,rfl⟩:∃c,n=c+1:=⟨n-1,by simp at h;omega⟩
   refine dM ?_;refine tA ?_;refine dE ?_;rw[show((c+1:Nat):Int)-1=(c:Nat) by omega];refine iC ?_;refine z23 ?_;refine lo (aD (E rfl)) rfl ?_;refine nJ ?_;refine z3 ?_;refine XA ?_;refine lo (OJ (E rfl) (E rfl)) rfl ?_;refine dE ?_;rw[Int.toNat_natCast,yE (zS hlt c),aEJ (n:=l[c]! %128) (by omega),aKJ (TW hk2) (zS hlt c)];refine wZ ?_;refine⟨c,⟨by omega,hk0⟩,by omega, ?_⟩;rw[MY (c:=c) (by omega) hk3,yC];exact aL
  ·obtain rfl:n=0:=by simp at h;omega
   rw[List.drop_zero];have hv:yC (l.take k)<34359738368:=TW (c:=0) hk2;generalize hx:yC (l.take k)=x at hv⊢;refine aJ ?_;refine fM [(0,true),(1,true),(2,true),(3,true),(4,false),(5,false),(6,true),(7,true),(8,true),(9,true),(10,true),(11,true),(12,true),(13,true),(14,true),(15,true),(16,true)] ?_;refine BP ?_;refine z25 ?_;refine fI rfl (aD (E rfl)) rfl ?_;refine rW [] rfl Tryz.call239 (aCm x (by omega)) rfl ?_ ?_ ?_ ?_
   ·exact aC
   ·exact aA
   ·exact fV
   rintro _ σ' ⟨r,rfl,rfl⟩ hr
   replace hr:=gL hr;repeat rcases hr with⟨_,hr⟩
   apply bZ;exact bN;refine dpu [r] rfl Tryz.call258 (TV (l.take k) (uB x) (fun y hy=>hlt y (List.mem_of_mem_take hy)) (lM x)) rfl ?_ bB ?_
   ·exact aR
   refine fI rfl (dF (E rfl)) rfl ?_;refine fI rfl (aD (E rfl)) rfl ?_;refine z26 ?_;refine z27 ?_;refine z28 ?_;refine z29 ?_;refine z29 ?_;refine z30 ?_;refine z31 ?_;refine z32 ?_;refine z33 ?_;refine lF ?_;have hc:(if(!decide (uB x=l.take k))=true then true else(x:Int).fdiv (2^min (Int.toNat 32) IntKind.u64.bits) !=0)= !decide (uB x=l.take k∧x<4294967296):=by
    rw[aKK];by_cases h1:uB x=l.take k
    ·by_cases h2:x<4294967296
     ·simp[h1,h2];omega
     ·simp[h1,h2];omega
    ·simp[h1]
   rw[hc];refine aB rfl (fun h=> ?_) (fun h=> ?_)
   ·have h1:¬(uB x=l.take k∧x<4294967296):=by
     rintro⟨h1,h2⟩;simp[h1]at h;omega
    refine dX ?_;refine oF ?_;refine wZ ?_;apply aE;exact aF
    ·unfold lN;rw[if_neg (by rw[hk0];simp),hk,hx,if_neg h1];exact⟨rfl,rfl⟩
    ·exact aA
   ·have h1:uB x=l.take k∧x<4294967296:=by simpa using h
    refine eX ?_;refine oF ?_;refine wZ ?_;apply aE;exact aF
    ·unfold lN;rw[if_neg (by rw[hk0];simp),hk,hx,if_pos h1];exact⟨rfl,rfl⟩
    ·exact aA
 ·refine eX ?_
  (first|refine pu [] Tryz.call257 (tE l hl 32 5 (.inl ⟨rfl,rfl⟩)) rfl cH bB ?_ |refine zE [] rfl rfl Tryz.call257 (fun _=>(tE l hl 32 5 (.inl ⟨rfl,rfl⟩))) rfl cH bB ?_);refine yA ?_;refine mZ ?_;refine lX ?_;refine aB rfl (fun h=> ?_) (fun h=> ?_)
  ·have h1:(eV l 5).2≠0:=by simpa using h
   refine dM ?_;refine oF ?_;refine wZ ?_;apply aE;exact aF
   ·unfold lN;rw[if_pos h1];exact⟨rfl,rfl⟩
   ·exact aA
  ·have h1:(eV l 5).2=0:=by simpa using h
   refine dM ?_;refine aEE ?_;refine P (eV l 5).1 _ ⟨Nat.le_refl _,h1⟩ ?_;rw[show(l.take (eV l 5).1).drop (eV l 5).1=[] by rw[List.drop_eq_nil_iff];simp;omega];exact aL
theorem aEK:∀(l:List Nat),-9223372036854775808≤lZ l∧lZ l≤9223372036854775807
 |[]=>by simp[lZ]
 |[b]=>by rw[lZ];split<;>omega
 |b::c::t=>by rw[lZ,IntKind.wrap_i64];omega
def sv (l:List Nat) (k c:Nat):Int:=if c<k then lZ ((l.take k).drop c)else if 64≤l[k-1]! %128 then-1 else 0
theorem aEL{l:List Nat}{k:Nat}(hk:1≤k):sv l k 0=lZ (l.take k):=by
 unfold sv;rw[if_pos (by omega),List.drop_zero]
theorem aEM{l:List Nat}{k c:Nat}(h:c<k)(hk:k≤l.length):sv l k c=IntKind.i64.wrap (sv l k (c+1)*128+((l[c]! %128:Nat):Int)):=by
 unfold sv;rw[if_pos h,MY h hk];by_cases h1:c+1<k
 ·rw[if_pos h1,MX _ (by simp;omega)]
 ·obtain rfl:k=c+1:=by omega
  rw[if_neg h1,show(l.take (c+1)).drop (c+1)=[] by rw[List.drop_eq_nil_iff];simp;omega,lZ,Nat.add_sub_cancel];generalize l[c]! =y;split<;>rw[IntKind.wrap_i64]<;>omega
theorem NA(y:Int):(BitVec.ofInt IntKind.i64.bits y).toNat=(y%18446744073709551616).toNat:=by
 rw[BitVec.toNat_ofInt];simp[IntKind.bits]
theorem aH6{x:Int}{y:Nat}:IntKind.i64.wrap ↑(BitVec.ofInt IntKind.i64.bits (IntKind.i64.wrap (x*2^min (Int.toNat 7) IntKind.i64.bits))|||BitVec.ofInt IntKind.i64.bits (((y%128:Nat):Int))).toNat=IntKind.i64.wrap (x*128+((y%128:Nat):Int)):=by
 have h0:(2:Int)^min (Int.toNat 7) IntKind.i64.bits=128:=by decide
 obtain⟨z,hz⟩:∃z:Nat,(IntKind.i64.wrap (x*128)%18446744073709551616).toNat=2^7*z:=by
  refine⟨(IntKind.i64.wrap (x*128)%18446744073709551616).toNat / 128, ?_⟩;rw[IntKind.wrap_i64];omega
 have h2:(((y%128:Nat):Int)%18446744073709551616).toNat=y%128:=by omega
 rw[h0,BitVec.toNat_or,NA,NA,hz,h2,←Nat.two_pow_add_eq_or_of_lt (by omega)];rw[IntKind.wrap_i64]at hz;rw[IntKind.wrap_i64,IntKind.wrap_i64];omega
theorem aAW{x:Nat}(h:x<256):IntKind.u8.wrap ↑(BitVec.ofInt IntKind.u8.bits (x:Int)&&&BitVec.ofInt IntKind.u8.bits 64).toNat=if x%128<64 then 0 else 64:=by
 have h1:∀x<256,x&&&64=if x%128<64 then 0 else 64:=by decide
 rw[BitVec.toNat_and,PE (by omega),show(BitVec.ofInt IntKind.u8.bits 64).toNat=64 by decide,h1 x h,IntKind.wrap_u8];split<;>rfl
theorem aAX{n:Nat}(h:n<256):IntKind.i64.wrap (n:Int)=n:=by rw[IntKind.wrap_i64];omega
theorem TX{bits:Nat}(hb:bits=32∨bits=64):(bits:Int)=32∧nK bits=5∨(bits:Int)=64∧nK bits=10:=by
 rcases hb with rfl|rfl
 ·exact .inl ⟨rfl,rfl⟩
 ·exact .inr ⟨rfl,rfl⟩
theorem aMQ{bits:Nat}(hb:bits=32∨bits=64){x:Int}(hv:-9223372036854775808≤x∧x≤9223372036854775807):(x.fdiv (2^min ((bits:Int)-1).toNat IntKind.i64.bits)=0∨x.fdiv (2^min ((bits:Int)-1).toNat IntKind.i64.bits)=-1)↔(bits=32→ -2147483648≤x∧x≤2147483647):=by
 rcases hb with rfl|rfl
 ·rw[show(2:Int)^min (((32:Nat):Int)-1).toNat IntKind.i64.bits=2147483648 by decide,Int.fdiv_eq_ediv_of_nonneg _ (by omega)];omega
 ·rw[show(2:Int)^min (((64:Nat):Int)-1).toNat IntKind.i64.bits=9223372036854775808 by decide,Int.fdiv_eq_ediv_of_nonneg _ (by omega)];omega
theorem aEN{bits:Nat}{l:List Nat}{k:Nat}(hk0:(eV l (nK bits)).2=0)(hk:(eV l (nK bits)).1=k)(h:¬(sB (lZ (l.take k))=l.take k∧(bits=32→ -2147483648≤lZ (l.take k)∧lZ (l.take k)≤2147483647))):xE bits l=(0,0,1):=by
 unfold xE;rw[if_neg (by rw[hk0];simp),hk,if_neg h]
theorem aCo{bits:Nat}{l:List Nat}{k:Nat}(hk0:(eV l (nK bits)).2=0)(hk:(eV l (nK bits)).1=k)(h:sB (lZ (l.take k))=l.take k∧(bits=32→ -2147483648≤lZ (l.take k)∧lZ (l.take k)≤2147483647)):xE bits l=(lZ (l.take k),k,0):=by
 unfold xE;rw[if_neg (by rw[hk0];simp),hk,if_pos h]
theorem aKL(l:List Nat)(hl:l.length≤1000000)(hlt:∀x∈l,x<256)(bits:Nat)(hb:bits=32∨bits=64):SCall Tryz.prog 322 [.ro 1 (l.map aG) .any,.int .i64 bits] []
  (fun x σ=>x=.tup [.int .i64 (xE bits l).1,.int .i64 ((xE bits l).2.1:Nat),.int .i64 (xE bits l).2.2]∧σ=[]):=by
 refine cF 63 [0,1,4,5,6,7,8,9,10,11,19,28,30,60] Tryz.func322 ?_;refine dX ?_;refine oF ?_;obtain⟨m,hm⟩:∃m,m=nK bits:=⟨_,rfl⟩
 have hlen:eV l (nK bits)=eV l m:=by rw[hm]
 refine scj (β:=Nat) 0 rfl (fun b=>⟨[(0,.ro 1 (l.map aG) .any),(1,.int .i64 bits),(7,.int .i64 ((eV l m).1:Nat)),(9,.int .i64 (sv l (eV l m).1 b)),(10,.int .i64 b)],[]⟩) (fun b=>b≤(eV l m).1∧(eV l m).2=0) (fun b=>b) ?_ (fun P=> ?_)
 ·rintro n ⟨hn1,hk0⟩;try dsimp only at hn1 hk0⊢
  obtain⟨hk1,hk2,hk3⟩:=wM l m hk0;generalize hk:(eV l m).1=k at*;refine dM ?_;refine PC ?_;refine aB rfl (fun h=> ?_) (fun h=> ?_)
  ·obtain⟨c,rfl⟩:∃c,n=c+1:=⟨n-1,by simp at h;omega⟩
   refine dM ?_;refine tA ?_;refine dE ?_;rw[show((c+1:Nat):Int)-1=(c:Nat) by omega];refine iC ?_;refine z23 ?_;refine lo (aD (E rfl)) rfl ?_;refine nJ ?_;refine z3 ?_;refine z44 ?_;refine lo (OJ (E rfl) (E rfl)) rfl ?_;refine dE ?_;rw[Int.toNat_natCast,yE (zS hlt c),aAX (n:=l[c]! %128) (by omega),aH6,←aEM (by omega) hk3];refine wZ ?_;refine⟨c,⟨by omega,hk0⟩,by omega, ?_⟩;exact aL
  ·obtain rfl:n=0:=by simp at h;omega
   rw[aEL hk1];have hv:=aEK (l.take k);generalize hx:lZ (l.take k)=x at hv⊢;refine eX ?_;refine tA ?_;refine z2 ?_;refine dE ?_;refine fM [(0,true),(1,true),(2,true),(3,true),(4,false),(5,false),(6,true),(7,true),(8,true),(9,true),(10,true),(11,true),(12,true),(13,true),(14,true)] ?_;refine BP ?_;refine z25 ?_;refine fI rfl (aD (E rfl)) rfl ?_;refine rW [] rfl Tryz.call296 (aCn x hv) rfl ?_ ?_ ?_ ?_
   ·exact aC
   ·exact aA
   ·exact fV
   rintro _ σ' ⟨r,rfl,rfl⟩ hr
   replace hr:=gL hr;repeat rcases hr with⟨_,hr⟩
   apply bZ;exact bN;refine dpu [r] rfl Tryz.call258 (TV (l.take k) (sB x) (fun y hy=>hlt y (List.mem_of_mem_take hy)) (aGZ _ x (Nat.le_refl _))) rfl ?_ bB ?_
   ·exact aR
   refine fI rfl (dF (E rfl)) rfl ?_;refine fI rfl (aD (E rfl)) rfl ?_;refine z26 ?_;refine z45 ?_;refine z28 ?_;refine z29 ?_;refine z31 ?_;refine z32 ?_;refine z33 ?_;refine lF ?_;have ht:=aMQ hb hv;generalize x.fdiv (2^min ((bits:Int)-1).toNat IntKind.i64.bits)=y at ht⊢;refine aB rfl (fun h=> ?_) (fun h=> ?_)
   ·have h1:¬(sB x=l.take k∧(bits=32→ -2147483648≤x∧x≤2147483647)):=by
     rintro⟨h1,h2⟩;rcases ht.2 h2 with rfl|rfl<;>simp[h1]at h
    rw[←hx]at h1;refine dX ?_;refine oF ?_;refine wZ ?_;apply aE;exact aF
    ·rw[aEN (by rw[hlen];exact hk0) (by rw[hlen];exact hk) h1];exact⟨rfl,rfl⟩
    ·exact aA
   ·have h1:sB x=l.take k∧(bits=32→ -2147483648≤x∧x≤2147483647):=by
     by_cases h2:sB x=l.take k
     ·refine⟨h2,ht.1 ?_⟩;by_cases h3:y=0
      ·exact .inl h3
      ·exact .inr (by simpa[h2,h3]using h)
     ·simp[h2]at h
    rw[←hx]at h1;refine eX ?_;refine oF ?_;refine wZ ?_;apply aE;exact aF
    ·rw[aCo (by rw[hlen];exact hk0) (by rw[hlen];exact hk) h1,hx];exact⟨rfl,rfl⟩
    ·exact aA
 ·refine eX ?_
  (first|refine pu [] Tryz.call257 (tE l hl bits m (by rw[hm];exact TX hb)) rfl cH bB ?_ |refine zE [] rfl rfl Tryz.call257 (fun _=>(tE l hl bits m (by rw[hm];exact TX hb))) rfl cH bB ?_);refine yA ?_;refine mZ ?_;refine lX ?_;refine aB rfl (fun h=> ?_) (fun h=> ?_)
  ·have h1:(eV l m).2≠0:=by simpa using h
   refine dM ?_;refine oF ?_;refine wZ ?_;apply aE;exact aF
   ·unfold xE;rw[hlen,if_pos h1];exact⟨rfl,rfl⟩
   ·exact aA
  ·have hk0:(eV l m).2=0:=by simpa using h
   obtain⟨hk1,hk2,hk3⟩:=wM l m hk0;have hsv:sv l (eV l m).1 (eV l m).1=if 64≤l[(eV l m).1-1]! %128 then-1 else 0:=by unfold sv;rw[if_neg (by omega)]
   obtain⟨j,hj⟩:∃j,(eV l m).1=j+1:=⟨(eV l m).1-1,by omega⟩
   rw[hj]at hsv P hk1 hk2 hk3⊢;rw[Nat.add_sub_cancel]at hsv;refine dM ?_;refine lE ?_;refine kK ?_;refine tA ?_;rw[show((j+1:Nat):Int)-1=(j:Nat) by omega];refine mI ?_;refine lo (iX (E rfl) (E rfl)) rfl ?_;refine lX ?_;rw[Int.toNat_natCast,aAW (zS hlt j)];refine aB rfl (fun h=> ?_) (fun h=> ?_)
   ·have h2:64≤l[j]! %128:=by
     by_cases h3:l[j]! %128<64
     ·rw[if_pos h3]at h;simp at h
     ·omega
    rw[if_pos h2]at hsv;refine jQ ?_;refine oZ ?_;refine P (j+1) _ ⟨Nat.le_refl _,hk0⟩ ?_;rw[hsv];exact aL
   ·have h2:¬64≤l[j]! %128:=by
     by_cases h3:l[j]! %128<64
     ·omega
     ·rw[if_neg h3]at h;simp at h
    rw[if_neg h2]at hsv;refine ck ?_;refine an ?_;refine P (j+1) _ ⟨Nat.le_refl _,hk0⟩ ?_;rw[hsv];exact aL
def aP (n:Int):List AV:=[.int .i64 n]
def pF (n a b:Int):Bool:=if decide (a≤n)=true then decide (n≤b)else false
theorem dL(n a b:Int):SCall Tryz.prog 270 [.int .i64 n,.int .i64 a,.int .i64 b] [] (fun x σ=>x=.bool (pF n a b)∧σ=[]):=by
 refine cF 15 [0,1,2,6] Tryz.func270 ?_;refine mW ?_;refine GN ?_;refine z4 ?_;refine z4 ?_;refine z54 ?_;refine z7 ?_;refine dE ?_;exact aE aF ⟨by rfl,rfl⟩ aA
def NB (op:Int):Int×Int:=
 if(pF op 69 79||pF op 103 120)=true then(1,op)else if pF op 80 90=true then(2,IntKind.i64.wrap (IntKind.i64.wrap (op-80)+69))else if pF op 121 138=true then(2,IntKind.i64.wrap (IntKind.i64.wrap (op-121)+103))else(0,0)
theorem PF(op:Int):SCall Tryz.prog 269 [.int .i64 op] [] (fun x σ=>x=.tup [.int .i64 (NB op).1,.int .i64 (NB op).2]∧σ=[]):=by
 refine cF 22 [0,2,3,4,10,16] Tryz.func269 ?_;refine dX ?_;refine mZ ?_
 (first|refine ln rfl rfl rfl rfl ?_ |refine lw rfl rfl (bS (v:=.bool false)) rfl ?_ |refine pu [] Tryz.call270 (dL _ _ _) rfl cH bB ?_ |refine zE [] rfl rfl Tryz.call270 (fun _=>(dL _ _ _)) rfl cH bB ?_ |refine puw [] rfl rfl Tryz.call270 (fun _=>(dL _ _ _)) rfl cH bB ?_);refine dE ?_;apply fE rfl;exact cT
 ·intro _;(refine aJ ?_);refine iC ?_
  (first|refine ln rfl rfl rfl rfl ?_ |refine lw rfl rfl (bS (v:=.bool false)) rfl ?_ |refine pu [] Tryz.call270 (dL _ _ _) rfl cH bB ?_ |refine zE [] rfl rfl Tryz.call270 (fun _=>(dL _ _ _)) rfl cH bB ?_ |refine puw [] rfl rfl Tryz.call270 (fun _=>(dL _ _ _)) rfl cH bB ?_);refine dE ?_;exact aL
 refine aJ ?_;refine aB rfl (fun g1=> ?_) (fun g1=> ?_)
 ·refine dM ?_;refine lE ?_;apply aE;exact aF
  ·(unfold NB;simp only[g1,if_true,if_false,Bool.false_eq_true];exact⟨rfl,rfl⟩)
  ·exact aA
 refine dM ?_
 (first|refine ln rfl rfl rfl rfl ?_ |refine lw rfl rfl (bS (v:=.bool false)) rfl ?_ |refine pu [] Tryz.call270 (dL _ _ _) rfl cH bB ?_ |refine zE [] rfl rfl Tryz.call270 (fun _=>(dL _ _ _)) rfl cH bB ?_ |refine puw [] rfl rfl Tryz.call270 (fun _=>(dL _ _ _)) rfl cH bB ?_);refine dE ?_;refine aB rfl (fun g2=> ?_) (fun g2=> ?_)
 ·refine dM ?_;refine tA ?_;refine FH ?_;refine lE ?_;apply aE;exact aF
  ·(unfold NB;simp only[g1,g2,if_true,if_false,Bool.false_eq_true];exact⟨rfl,rfl⟩)
  ·exact aA
 refine dM ?_
 (first|refine ln rfl rfl rfl rfl ?_ |refine lw rfl rfl (bS (v:=.bool false)) rfl ?_ |refine pu [] Tryz.call270 (dL _ _ _) rfl cH bB ?_ |refine zE [] rfl rfl Tryz.call270 (fun _=>(dL _ _ _)) rfl cH bB ?_ |refine puw [] rfl rfl Tryz.call270 (fun _=>(dL _ _ _)) rfl cH bB ?_);refine dE ?_;refine aB rfl (fun g3=> ?_) (fun g3=> ?_)
 ·refine dM ?_;refine tA ?_;refine FH ?_;refine lE ?_;apply aE;exact aF
  ·(unfold NB;simp only[g1,g2,g3,if_true,if_false,Bool.false_eq_true];exact⟨rfl,rfl⟩)
  ·exact aA
 refine dX ?_;refine lE ?_;apply aE;exact aF
 ·(unfold NB;simp only[g1,g2,g3,if_true,if_false,Bool.false_eq_true];exact⟨rfl,rfl⟩)
 ·exact aA
def kN (op:Int):List Int×Int×Bool:=
 if(op==167)=true then([2],1,true)else if(op==172||op==173)=true then([1],2,true)
 else if((NB op).1==0)=true then([],0,false)else if((NB op).2==69)=true then([(NB op).1],1,true)
 else if pF (NB op).2 70 79=true then([(NB op).1,(NB op).1],1,true)else if pF (NB op).2 103 105=true then([(NB op).1],(NB op).1,true)
 else([(NB op).1,(NB op).1],(NB op).1,true)
def vL (r:List Int×Int×Bool) (x:AV) (σ:dS):Prop:=
 if r.2.2=true then∃q,x=.tup [.own q 0 r.1.length,.int .i64 r.2.1,.bool true]∧σ=[(q,.arr 3 1 (r.1.map aP))]else x=.tup [.ro 0 [] .nil,.int .i64 0,.bool false]∧σ=[]
theorem mA{l:List Int}{r:Int}{q:Nat}{x:AV}{σ:dS}(hx:x=.tup [.own q 0 l.length,.int .i64 r,.bool true])(hs:σ=[(q,.arr 3 1 (l.map aP))]):vL (l,r,true) x σ:=by
 unfold vL;rw[if_pos rfl];exact⟨q,hx,hs⟩
theorem nP{l:List Int}{r:Int}{x:AV}{σ:dS}(hx:x=.tup [.ro 0 [] .nil,.int .i64 0,.bool false])(hs:σ=[]):vL (l,r,false) x σ:=by
 unfold vL;rw[if_neg (by simp)];exact⟨hx,hs⟩
theorem yF(op:Int):SCall Tryz.prog 200 [.int .i64 op] [] (vL (kN op)):=by
 refine cF 44 [0,2,3,4,5,6,7,8,11,20,23,28,34] Tryz.func200 ?_;refine dX ?_;refine oF ?_;refine iC ?_;refine qA ?_;refine aB rfl (fun g1=> ?_) (fun g1=> ?_)
 ·refine dX ?_;refine eN fun r10 h10=> ?_;intros
  refine oF ?_;apply aE;exact aF
  ·(unfold kN;simp only[g1,if_true,if_false,Bool.false_eq_true];first|exact mA rfl rfl|exact nP rfl rfl)
  ·exact aA
 refine cZ ?_;apply fE rfl;exact cT
 ·intro _;(refine aJ ?_);refine eU ?_;exact aL
 refine aJ ?_;refine aB rfl (fun g2=> ?_) (fun g2=> ?_)
 ·refine dX ?_;refine eN fun r14 h14=> ?_;intros
  refine oF ?_;apply aE;exact aF
  ·(unfold kN;simp only[g1,g2,if_true,if_false,Bool.false_eq_true];first|exact mA rfl rfl|exact nP rfl rfl)
  ·exact aA
 refine dM ?_
 (first|refine ln rfl rfl rfl rfl ?_ |refine lw rfl rfl (bS (v:=.bool false)) rfl ?_ |refine pu [] Tryz.call269 (PF _) rfl cH bB ?_ |refine zE [] rfl rfl Tryz.call269 (fun _=>(PF _)) rfl cH bB ?_ |refine puw [] rfl rfl Tryz.call269 (fun _=>(PF _)) rfl cH bB ?_);refine yA ?_;refine mZ ?_;refine TM ?_;refine aB rfl (fun g3=> ?_) (fun g3=> ?_)
 ·refine dX ?_;refine oF ?_;apply aE;exact aF
  ·(unfold kN;simp only[g1,g2,g3,if_true,if_false,Bool.false_eq_true];first|exact mA rfl rfl|exact nP rfl rfl)
  ·exact aA
 refine dM ?_;refine TM ?_;refine aB rfl (fun g4=> ?_) (fun g4=> ?_)
 ·refine dM ?_;refine eN fun r27 h27=> ?_;intros
  refine oF ?_;apply aE;exact aF
  ·(unfold kN;simp only[g1,g2,g3,g4,if_true,if_false,Bool.false_eq_true];first|exact mA rfl rfl|exact nP rfl rfl)
  ·exact aA
 refine dM ?_
 (first|refine ln rfl rfl rfl rfl ?_ |refine lw rfl rfl (bS (v:=.bool false)) rfl ?_ |refine pu [] Tryz.call270 (dL _ _ _) rfl cH bB ?_ |refine zE [] rfl rfl Tryz.call270 (fun _=>(dL _ _ _)) rfl cH bB ?_ |refine puw [] rfl rfl Tryz.call270 (fun _=>(dL _ _ _)) rfl cH bB ?_);refine dE ?_;refine aB rfl (fun g5=> ?_) (fun g5=> ?_)
 ·refine eX ?_;refine eN fun r33 h33=> ?_;intros
  refine oF ?_;apply aE;exact aF
  ·(unfold kN;simp only[g1,g2,g3,g4,g5,if_true,if_false,Bool.false_eq_true];first|exact mA rfl rfl|exact nP rfl rfl)
  ·exact aA
 refine dM ?_
 (first|refine ln rfl rfl rfl rfl ?_ |refine lw rfl rfl (bS (v:=.bool false)) rfl ?_ |refine pu [] Tryz.call270 (dL _ _ _) rfl cH bB ?_ |refine zE [] rfl rfl Tryz.call270 (fun _=>(dL _ _ _)) rfl cH bB ?_ |refine puw [] rfl rfl Tryz.call270 (fun _=>(dL _ _ _)) rfl cH bB ?_);refine dE ?_;refine aB rfl (fun g6=> ?_) (fun g6=> ?_)
 ·refine dM ?_;refine eN fun r38 h38=> ?_;intros
  refine lo (aD (E rfl)) rfl ?_;refine oF ?_;apply aE;exact aF
  ·(unfold kN;simp only[g1,g2,g3,g4,g5,g6,if_true,if_false,Bool.false_eq_true];first|exact mA rfl rfl|exact nP rfl rfl)
  ·exact aA
 refine eX ?_;refine eN fun r42 h42=> ?_;intros
 refine lo (aD (E rfl)) rfl ?_;refine oF ?_;apply aE;exact aF
 ·(unfold kN;simp only[g1,g2,g3,g4,g5,g6,if_true,if_false,Bool.false_eq_true];first|exact mA rfl rfl|exact nP rfl rfl)
 ·exact aA
def pG (op:Int):Int×Int:=
 if(pF op 69 79||pF op 103 120)=true then(op,1)else if pF op 80 90=true then(IntKind.i64.wrap (IntKind.i64.wrap (op-80)+69),2)else if pF op 121 138=true then(IntKind.i64.wrap (IntKind.i64.wrap (op-121)+103),2)
 else if(op==167)=true then(op,2)else if(op==172||op==173)=true then(op,1)else(0,0)
theorem BR(op:Int):SCall Tryz.prog 303 [.int .i64 op] [] (fun x σ=>x=.tup [.int .i64 (pG op).1,.int .i64 (pG op).2]∧σ=[]):=by
 refine cF 48 [0,2,3,4,18,28,38,42] Tryz.func303 ?_;refine dX ?_;refine mZ ?_;refine GN ?_;refine z4 ?_;refine z55 ?_;refine z7 ?_;refine dE ?_;apply fE rfl;exact cT
 ·intro _;(refine aJ ?_);refine iC ?_;refine GN ?_;refine z4 ?_;refine z55 ?_;refine z7 ?_;refine dE ?_;exact aL
 refine aJ ?_;refine aB rfl (fun g1=> ?_) (fun g1=> ?_)
 ·refine dM ?_;refine lE ?_;apply aE;exact aF
  ·(unfold pG pF;simp only[g1,if_true,if_false,Bool.false_eq_true];exact⟨rfl,rfl⟩)
  ·exact aA
 refine dM ?_;refine GN ?_;refine z4 ?_;refine z55 ?_;refine z7 ?_;refine dE ?_;refine aB rfl (fun g2=> ?_) (fun g2=> ?_)
 ·refine dM ?_;refine tA ?_;refine FH ?_;refine lE ?_;apply aE;exact aF
  ·(unfold pG pF;simp only[g1,g2,if_true,if_false,Bool.false_eq_true];exact⟨rfl,rfl⟩)
  ·exact aA
 refine dM ?_;refine GN ?_;refine z4 ?_;refine z55 ?_;refine z7 ?_;refine dE ?_;refine aB rfl (fun g3=> ?_) (fun g3=> ?_)
 ·refine dM ?_;refine tA ?_;refine FH ?_;refine lE ?_;apply aE;exact aF
  ·(unfold pG pF;simp only[g1,g2,g3,if_true,if_false,Bool.false_eq_true];exact⟨rfl,rfl⟩)
  ·exact aA
 refine dM ?_;refine TM ?_;refine aB rfl (fun g4=> ?_) (fun g4=> ?_)
 ·refine dM ?_;refine lE ?_;apply aE;exact aF
  ·(unfold pG pF;simp only[g1,g2,g3,g4,if_true,if_false,Bool.false_eq_true];exact⟨rfl,rfl⟩)
  ·exact aA
 refine dM ?_;refine TM ?_;apply fE rfl;exact cT
 ·intro _;(refine aJ ?_);refine iC ?_;refine TM ?_;exact aL
 refine aJ ?_;refine aB rfl (fun g5=> ?_) (fun g5=> ?_)
 ·refine dM ?_;refine lE ?_;apply aE;exact aF
  ·(unfold pG pF;simp only[g1,g2,g3,g4,g5,if_true,if_false,Bool.false_eq_true];exact⟨rfl,rfl⟩)
  ·exact aA
 refine dX ?_;refine lE ?_;apply aE;exact aF
 ·(unfold pG pF;simp only[g1,g2,g3,g4,g5,if_true,if_false,Bool.false_eq_true];exact⟨rfl,rfl⟩)
 ·exact aA
def oT (op:Int):Int×Int×Int×Bool:=
 if((pG op).1==0)=true then(0,0,0,false)else if((pG op).1==69)=true then(1,(pG op).2,1,true)else if decide ((pG op).1≤79)=true then(2,(pG op).2,1,true)
 else if decide ((pG op).1≤105)=true then(1,(pG op).2,(pG op).2,true)else if decide ((pG op).1≤120)=true then(2,(pG op).2,(pG op).2,true)
 else if((pG op).1==167)=true then(1,(pG op).2,1,true)else(1,(pG op).2,2,true)
theorem wN(op:Int):SCall Tryz.prog 276 [.int .i64 op] [] (fun x σ=>x=.tup [.int .i64 (oT op).1,.int .i64 (oT op).2.1,.int .i64 (oT op).2.2.1,.bool (oT op).2.2.2]∧σ=[]):=by
 refine cF 39 [0,2,3,4,5,6,7,13,16,20,24,29,34] Tryz.func276 ?_;refine dX ?_;refine KP ?_;refine iC ?_
 (first|refine ln rfl rfl rfl rfl ?_ |refine lw rfl rfl (bS (v:=.bool false)) rfl ?_ |refine pu [] Tryz.call303 (BR _) rfl cH bB ?_ |refine zE [] rfl rfl Tryz.call303 (fun _=>(BR _)) rfl cH bB ?_ |refine puw [] rfl rfl Tryz.call303 (fun _=>(BR _)) rfl cH bB ?_);refine yA ?_;refine mZ ?_;refine TM ?_;refine aB rfl (fun g1=> ?_) (fun g1=> ?_)
 ·refine dX ?_;refine KP ?_;apply aE;exact aF
  ·(unfold oT;simp only[g1,if_true,if_false,Bool.false_eq_true];exact⟨rfl,rfl⟩)
  ·exact aA
 refine dM ?_;refine TM ?_;refine aB rfl (fun g2=> ?_) (fun g2=> ?_)
 ·refine dM ?_;refine KP ?_;apply aE;exact aF
  ·(unfold oT;simp only[g1,g2,if_true,if_false,Bool.false_eq_true];exact⟨rfl,rfl⟩)
  ·exact aA
 refine dM ?_;refine lo (lR (E rfl) (E rfl)) rfl ?_;refine dE ?_;refine aB rfl (fun g3=> ?_) (fun g3=> ?_)
 ·refine dM ?_;refine KP ?_;apply aE;exact aF
  ·(unfold oT;simp only[g1,g2,g3,if_true,if_false,Bool.false_eq_true];exact⟨rfl,rfl⟩)
  ·exact aA
 refine dM ?_;refine lo (lR (E rfl) (E rfl)) rfl ?_;refine dE ?_;refine aB rfl (fun g4=> ?_) (fun g4=> ?_)
 ·refine eX ?_;refine KP ?_;apply aE;exact aF
  ·(unfold oT;simp only[g1,g2,g3,g4,if_true,if_false,Bool.false_eq_true];exact⟨rfl,rfl⟩)
  ·exact aA
 refine dM ?_;refine lo (lR (E rfl) (E rfl)) rfl ?_;refine dE ?_;refine aB rfl (fun g5=> ?_) (fun g5=> ?_)
 ·refine eX ?_;refine KP ?_;apply aE;exact aF
  ·(unfold oT;simp only[g1,g2,g3,g4,g5,if_true,if_false,Bool.false_eq_true];exact⟨rfl,rfl⟩)
  ·exact aA
 refine dM ?_;refine TM ?_;refine aB rfl (fun g6=> ?_) (fun g6=> ?_)
 ·refine dM ?_;refine KP ?_;apply aE;exact aF
  ·(unfold oT;simp only[g1,g2,g3,g4,g5,g6,if_true,if_false,Bool.false_eq_true];exact⟨rfl,rfl⟩)
  ·exact aA
 refine dM ?_;refine KP ?_;apply aE;exact aF
 ·(unfold oT;simp only[g1,g2,g3,g4,g5,g6,if_true,if_false,Bool.false_eq_true];exact⟨rfl,rfl⟩)
 ·exact aA
def iU (op:Int) (k:Bool):Int:=
 if(op==0||(op==1||(op==5||(op==11||(op==15||(op==26||op==27))))))=true then 1
 else if(op==2||(op==3||op==4))=true then 2
 else if(op==12||(op==13||(op==16||(op==32||(op==33||(op==34||(op==35||op==36)))))))=true then 3
 else if(op==14)=true then 4 else if(op==17)=true then 5
 else if(op==40||(op==41||(op==44||(op==45||(op==54||(op==55||op==58))))))=true then 6
 else if(op==63||op==64)=true then 7 else if(op==65)=true then 8 else if(op==66)=true then 9
 else if k=true then 1 else 0
theorem aCp(op:Int):SCall Tryz.prog 250 [.int .i64 op] [] (fun x σ=>x=.int .i64 (iU op (oT op).2.2.2)∧σ=[]):=by
 refine cF 56 [0,2,6,7,8,16,20,29,31,33,41,44,46,55] Tryz.func250 ?_;refine iD ?_;refine qA ?_;apply fE rfl;exact cT
 ·intro _;(refine aJ ?_);refine eU ?_;apply eD rfl;exact cT
  ·intro _;(refine aJ ?_);refine eU ?_;apply eD rfl;exact cT
   ·intro _;(refine aJ ?_);refine eU ?_;apply eD rfl;exact cT
    ·intro _;(refine aJ ?_);refine eU ?_;apply eD rfl;exact cT
     ·intro _;(refine aJ ?_);refine eU ?_;apply eD rfl;exact cT
      ·intro _;(refine aJ ?_);refine eU ?_;exact aL
      exact aL
     exact aL
    exact aL
   exact aL
  exact aL
 refine aJ ?_;refine aB rfl (fun g1=> ?_) (fun g1=> ?_)
 ·refine bM ?_;apply aE;exact aF
  ·(unfold iU;simp only[g1,if_true,if_false,Bool.false_eq_true];exact⟨rfl,rfl⟩)
  ·exact aA
 refine cZ ?_;apply fE rfl;exact cT
 ·intro _;(refine aJ ?_);refine eU ?_;apply eD rfl;exact cT
  ·intro _;(refine aJ ?_);refine eU ?_;exact aL
  exact aL
 refine aJ ?_;refine aB rfl (fun g2=> ?_) (fun g2=> ?_)
 ·refine bM ?_;apply aE;exact aF
  ·(unfold iU;simp only[g1,g2,if_true,if_false,Bool.false_eq_true];exact⟨rfl,rfl⟩)
  ·exact aA
 refine cZ ?_;apply fE rfl;exact cT
 ·intro _;(refine aJ ?_);refine eU ?_;apply eD rfl;exact cT
  ·intro _;(refine aJ ?_);refine eU ?_;apply eD rfl;exact cT
   ·intro _;(refine aJ ?_);refine eU ?_;apply eD rfl;exact cT
    ·intro _;(refine aJ ?_);refine eU ?_;apply eD rfl;exact cT
     ·intro _;(refine aJ ?_);refine eU ?_;apply eD rfl;exact cT
      ·intro _;(refine aJ ?_);refine eU ?_;apply eD rfl;exact cT
       ·intro _;(refine aJ ?_);refine eU ?_;exact aL
       exact aL
      exact aL
     exact aL
    exact aL
   exact aL
  exact aL
 refine aJ ?_;refine aB rfl (fun g3=> ?_) (fun g3=> ?_)
 ·refine bM ?_;apply aE;exact aF
  ·(unfold iU;simp only[g1,g2,g3,if_true,if_false,Bool.false_eq_true];exact⟨rfl,rfl⟩)
  ·exact aA
 refine cZ ?_;refine aB rfl (fun g4=> ?_) (fun g4=> ?_)
 ·refine bM ?_;apply aE;exact aF
  ·(unfold iU;simp only[g1,g2,g3,g4,if_true,if_false,Bool.false_eq_true];exact⟨rfl,rfl⟩)
  ·exact aA
 refine cZ ?_;refine aB rfl (fun g5=> ?_) (fun g5=> ?_)
 ·refine bM ?_;apply aE;exact aF
  ·(unfold iU;simp only[g1,g2,g3,g4,g5,if_true,if_false,Bool.false_eq_true];exact⟨rfl,rfl⟩)
  ·exact aA
 refine cZ ?_;apply fE rfl;exact cT
 ·intro _;(refine aJ ?_);refine eU ?_;apply eD rfl;exact cT
  ·intro _;(refine aJ ?_);refine eU ?_;apply eD rfl;exact cT
   ·intro _;(refine aJ ?_);refine eU ?_;apply eD rfl;exact cT
    ·intro _;(refine aJ ?_);refine eU ?_;apply eD rfl;exact cT
     ·intro _;(refine aJ ?_);refine eU ?_;apply eD rfl;exact cT
      ·intro _;(refine aJ ?_);refine eU ?_;exact aL
      exact aL
     exact aL
    exact aL
   exact aL
  exact aL
 refine aJ ?_;refine aB rfl (fun g6=> ?_) (fun g6=> ?_)
 ·refine bM ?_;apply aE;exact aF
  ·(unfold iU;simp only[g1,g2,g3,g4,g5,g6,if_true,if_false,Bool.false_eq_true];exact⟨rfl,rfl⟩)
  ·exact aA
 refine cZ ?_;apply fE rfl;exact cT
 ·intro _;(refine aJ ?_);refine eU ?_;exact aL
 refine aJ ?_;refine aB rfl (fun g7=> ?_) (fun g7=> ?_)
 ·refine bM ?_;apply aE;exact aF
  ·(unfold iU;simp only[g1,g2,g3,g4,g5,g6,g7,if_true,if_false,Bool.false_eq_true];exact⟨rfl,rfl⟩)
  ·exact aA
 refine cZ ?_;refine aB rfl (fun g8=> ?_) (fun g8=> ?_)
 ·refine bM ?_;apply aE;exact aF
  ·(unfold iU;simp only[g1,g2,g3,g4,g5,g6,g7,g8,if_true,if_false,Bool.false_eq_true];exact⟨rfl,rfl⟩)
  ·exact aA
 refine cZ ?_;refine aB rfl (fun g9=> ?_) (fun g9=> ?_)
 ·refine bM ?_;apply aE;exact aF
  ·(unfold iU;simp only[g1,g2,g3,g4,g5,g6,g7,g8,g9,if_true,if_false,Bool.false_eq_true];exact⟨rfl,rfl⟩)
  ·exact aA
 refine dM ?_
 (first|refine ln rfl rfl rfl rfl ?_ |refine lw rfl rfl (bS (v:=.bool false)) rfl ?_ |refine pu [] Tryz.call276 (wN _) rfl cH bB ?_ |refine zE [] rfl rfl Tryz.call276 (fun _=>(wN _)) rfl cH bB ?_ |refine puw [] rfl rfl Tryz.call276 (fun _=>(wN _)) rfl cH bB ?_);refine yA ?_;refine PA ?_;refine KP ?_;refine iC ?_;refine lD ?_;refine aB rfl (fun g10=> ?_) (fun g10=> ?_)
 ·refine bM ?_;apply aE;exact aF
  ·(unfold iU;simp only[g1,g2,g3,g4,g5,g6,g7,g8,g9,g10,if_true,if_false,Bool.false_eq_true];exact⟨rfl,rfl⟩)
  ·exact aA
 refine bM ?_;apply aE;exact aF
 ·(unfold iU;simp only[g1,g2,g3,g4,g5,g6,g7,g8,g9,g10,if_true,if_false,Bool.false_eq_true];exact⟨rfl,rfl⟩)
 ·exact aA
theorem KR(op:Int):SCall Tryz.prog 200 [.int .i64 op] [] (fun x _=>∃a b,x=.tup [a,b,.bool (kN op).2.2]):=
 (yF op).mono fun x σ h=>by
  unfold vL at h;split at h
  ·next e=>obtain⟨q,rfl,-⟩:=h;exact⟨_,_,by rw[e]⟩
  ·next e=>obtain⟨rfl,-⟩:=h;exact⟨_,_,by rw[show(kN op).2.2=false by simpa using e]⟩
theorem XG(op:Int):SCall Tryz.prog 217 [.int .i64 op] [] (fun x σ=>x=.int .i64 (iU op (kN op).2.2)∧σ=[]):=by
 refine cF 54 [0,2,5,6,7,15,19,28,30,32,40,43,45,53] Tryz.func217 ?_;refine iD ?_;refine qA ?_;apply fE rfl;exact cT
 ·intro _;(refine aJ ?_);refine eU ?_;apply eD rfl;exact cT
  ·intro _;(refine aJ ?_);refine eU ?_;apply eD rfl;exact cT
   ·intro _;(refine aJ ?_);refine eU ?_;apply eD rfl;exact cT
    ·intro _;(refine aJ ?_);refine eU ?_;apply eD rfl;exact cT
     ·intro _;(refine aJ ?_);refine eU ?_;apply eD rfl;exact cT
      ·intro _;(refine aJ ?_);refine eU ?_;exact aL
      exact aL
     exact aL
    exact aL
   exact aL
  exact aL
 refine aJ ?_;refine aB rfl (fun g1=> ?_) (fun g1=> ?_)
 ·refine bM ?_;apply aE;exact aF
  ·(unfold iU;simp only[g1,if_true,if_false,Bool.false_eq_true];exact⟨rfl,rfl⟩)
  ·exact aA
 refine cZ ?_;apply fE rfl;exact cT
 ·intro _;(refine aJ ?_);refine eU ?_;apply eD rfl;exact cT
  ·intro _;(refine aJ ?_);refine eU ?_;exact aL
  exact aL
 refine aJ ?_;refine aB rfl (fun g2=> ?_) (fun g2=> ?_)
 ·refine bM ?_;apply aE;exact aF
  ·(unfold iU;simp only[g1,g2,if_true,if_false,Bool.false_eq_true];exact⟨rfl,rfl⟩)
  ·exact aA
 refine cZ ?_;apply fE rfl;exact cT
 ·intro _;(refine aJ ?_);refine eU ?_;apply eD rfl;exact cT
  ·intro _;(refine aJ ?_);refine eU ?_;apply eD rfl;exact cT
   ·intro _;(refine aJ ?_);refine eU ?_;apply eD rfl;exact cT
    ·intro _;(refine aJ ?_);refine eU ?_;apply eD rfl;exact cT
     ·intro _;(refine aJ ?_);refine eU ?_;apply eD rfl;exact cT
      ·intro _;(refine aJ ?_);refine eU ?_;apply eD rfl;exact cT
       ·intro _;(refine aJ ?_);refine eU ?_;exact aL
       exact aL
      exact aL
     exact aL
    exact aL
   exact aL
  exact aL
 refine aJ ?_;refine aB rfl (fun g3=> ?_) (fun g3=> ?_)
 ·refine bM ?_;apply aE;exact aF
  ·(unfold iU;simp only[g1,g2,g3,if_true,if_false,Bool.false_eq_true];exact⟨rfl,rfl⟩)
  ·exact aA
 refine cZ ?_;refine aB rfl (fun g4=> ?_) (fun g4=> ?_)
 ·refine bM ?_;apply aE;exact aF
  ·(unfold iU;simp only[g1,g2,g3,g4,if_true,if_false,Bool.false_eq_true];exact⟨rfl,rfl⟩)
  ·exact aA
 refine cZ ?_;refine aB rfl (fun g5=> ?_) (fun g5=> ?_)
 ·refine bM ?_;apply aE;exact aF
  ·(unfold iU;simp only[g1,g2,g3,g4,g5,if_true,if_false,Bool.false_eq_true];exact⟨rfl,rfl⟩)
  ·exact aA
 refine cZ ?_;apply fE rfl;exact cT
 ·intro _;(refine aJ ?_);refine eU ?_;apply eD rfl;exact cT
  ·intro _;(refine aJ ?_);refine eU ?_;apply eD rfl;exact cT
   ·intro _;(refine aJ ?_);refine eU ?_;apply eD rfl;exact cT
    ·intro _;(refine aJ ?_);refine eU ?_;apply eD rfl;exact cT
     ·intro _;(refine aJ ?_);refine eU ?_;apply eD rfl;exact cT
      ·intro _;(refine aJ ?_);refine eU ?_;exact aL
      exact aL
     exact aL
    exact aL
   exact aL
  exact aL
 refine aJ ?_;refine aB rfl (fun g6=> ?_) (fun g6=> ?_)
 ·refine bM ?_;apply aE;exact aF
  ·(unfold iU;simp only[g1,g2,g3,g4,g5,g6,if_true,if_false,Bool.false_eq_true];exact⟨rfl,rfl⟩)
  ·exact aA
 refine cZ ?_;apply fE rfl;exact cT
 ·intro _;(refine aJ ?_);refine eU ?_;exact aL
 refine aJ ?_;refine aB rfl (fun g7=> ?_) (fun g7=> ?_)
 ·refine bM ?_;apply aE;exact aF
  ·(unfold iU;simp only[g1,g2,g3,g4,g5,g6,g7,if_true,if_false,Bool.false_eq_true];exact⟨rfl,rfl⟩)
  ·exact aA
 refine cZ ?_;refine aB rfl (fun g8=> ?_) (fun g8=> ?_)
 ·refine bM ?_;apply aE;exact aF
  ·(unfold iU;simp only[g1,g2,g3,g4,g5,g6,g7,g8,if_true,if_false,Bool.false_eq_true];exact⟨rfl,rfl⟩)
  ·exact aA
 refine cZ ?_;refine aB rfl (fun g9=> ?_) (fun g9=> ?_)
 ·refine bM ?_;apply aE;exact aF
  ·(unfold iU;simp only[g1,g2,g3,g4,g5,g6,g7,g8,g9,if_true,if_false,Bool.false_eq_true];exact⟨rfl,rfl⟩)
  ·exact aA
 refine dM ?_;refine cw [] Tryz.call200 (KR op) rfl ?_ ?_ ?_
 ·exact aC
 ·exact aA
 rintro _ σ' ⟨a,b,rfl⟩-;refine TP ?_;refine oF ?_;refine iC ?_;refine lD ?_;refine aB rfl (fun g10=> ?_) (fun g10=> ?_)
 ·refine bM ?_;apply aE;exact aF
  ·(unfold iU;simp only[g1,g2,g3,g4,g5,g6,g7,g8,g9,g10,if_true,if_false,Bool.false_eq_true];exact⟨rfl,rfl⟩)
  ·exact aA
 refine bM ?_;apply aE;exact aF
 ·(unfold iU;simp only[g1,g2,g3,g4,g5,g6,g7,g8,g9,g10,if_true,if_false,Bool.false_eq_true];exact⟨rfl,rfl⟩)
 ·exact aA
def TY (op:Int):Bool:=decide (69≤op∧op≤90∨103≤op∧op≤138∨op=167∨op=172∨op=173)
theorem kC(n a b:Int):pF n a b=decide (a≤n∧n≤b):=by
 unfold pF;by_cases h:a≤n<;>simp[h]
theorem aCq(op:Int):((NB op).1==0)= !decide (69≤op∧op≤90∨103≤op∧op≤138):=by
 unfold NB;simp only[kC,Bool.or_eq_true,decide_eq_true_eq];repeat' split
 ·rw[decide_eq_true (by omega)];rfl
 ·rw[decide_eq_true (by omega)];rfl
 ·rw[decide_eq_true (by omega)];rfl
 ·rw[decide_eq_false (by omega)];rfl
theorem aKM(op:Int):(kN op).2.2=TY op:=by
 unfold kN;rw[aCq];unfold TY;by_cases h1:op=167
 ·subst h1;decide
 by_cases h2:op=172∨op=173
 ·rcases h2 with rfl|rfl<;>decide
 by_cases h3:69≤op∧op≤90∨103≤op∧op≤138
 ·rw[decide_eq_true h3,decide_eq_true (by omega)];repeat' split
  all_goals first|rfl|simp_all
 ·rw[decide_eq_false h3,decide_eq_false (by omega),if_neg (by simp;omega),if_neg (by simp;omega)];rfl
theorem aAY(op:Int)(h:-9223372036854775808≤op∧op≤9223372036854775807):((pG op).1==0)= !TY op:=by
 unfold pG TY;simp only[kC,Bool.or_eq_true,decide_eq_true_eq,beq_iff_eq];repeat' split
 all_goals first
  |(rw[decide_eq_true (by omega)];simp only[IntKind.wrap_i64,Bool.not_true,beq_eq_false_iff_ne];omega)
  |(rw[decide_eq_false (by omega)];rfl)
theorem aH7(op:Int)(h:-9223372036854775808≤op∧op≤9223372036854775807):(oT op).2.2.2=TY op:=by
 unfold oT;rw[aAY op h];cases TY op
 ·rfl
 ·repeat' split
  all_goals first|rfl|simp_all
def aW (op:Int):Int:=iU op (TY op)
end Go.Proofs.YtjpdadobblffmaaGreat
namespace Go.Proofs.YtjpdadobblffmaaGreat
open Go.RowKit Go.ChangeShapes Go.WideShapes Go.ChangeAt Go.Deep
theorem SR.growF {M:Mp}{F:Nat→Prop}{N:Nat}{w w':World}{σ:dS}(h:SR M F N w σ)(hold:∀k,k<w.heap.size→w'.heap[k]? =w.heap[k]?)(hsz:w.heap.size≤w'.heap.size){g:Nat}(hg:w.heap.size≤g)(hg':g<w'.heap.size):
  SR M (fun b=>F b∨b=g) N w' σ where
 ent p hp:=ER.mono (fun _ _ h=>h) (fun _ h=>.inl h) (fun b hb=>hold b (h.flt b hb)) (fun g hg=>hold g ((h.ent p hp).lt hg)) (h.ent p hp)
 inj:=h.inj
 nof g' hB hF:=by
  rcases hF with hF|rfl
  ·exact h.nof g' hB hF
  ·have:=h.lt hB;omega
 flt b hb:=by
  rcases hb with hb|rfl
  ·have:=h.flt b hb;omega
  ·exact hg'
 fresh:=h.fresh
theorem DR{P:Program}{n:Nat}{s:ASt}{x y:Operand}{t ty:TypeId}{d:Nat}{K:ASt→Prop}{e:TypeId} [Ty P t (.slice e)] {sz by_:Nat}{zv:Value} [Tz P e sz by_ zv] (h0:0<sz)(hz:zv.cells.size=sz){es ys:List (List AV)}(hb:aev s x=some (.ro sz es .full))(hy:Src s y sz ys)
  (hmax:es.length+ys.length≤maxLen) (hby:(es.length+ys.length)*by_≤140737488355328) (hd:d<n) (hK:K ⟨(d,.ro sz (es++ys) .any)::s.fr,s.σ⟩):
  Hop P n (.call { callee:=.builtin .append,args:=#[x,y],argTypes:=#[t,t] }) ty (some d) s [] K:=by
 intro M F N a w o ho hty hdst hr next Q hnext
 have hbase:=hr.aev hb;obtain⟨i,hi,hz0,hs0,hb0⟩:=Tz.parts P e;obtain⟨A,c,news,he,hreads,hrows,hok,hm⟩:=hy.reads hr h0;obtain⟨B,c0,olds,hx,hreads0,hrows0,hok0,hm0⟩:=Src.reads hr h0 (.inl ⟨_,hb⟩:Src s x sz es);have hc0:c0=es.length:=by
  rw[hx]at hbase;cases hbase with
  |ro hbb hs hc hrr hle hmm hf hn=>exact hf rfl
  |ro0 hmm hA hf hn=>simpa using hf rfl
 subst hc0;by_cases hlen:ys=[]
 ·subst hlen;have hrun:(execOp a.eval o).run P w=.ok (.value (.slice B es.length es.length)) w:=by
   have hfirst:(Builtin.firstCells i.size 0 (.slice A 0 c)).run P w=.ok #[] w:=by cases A<;>simp[Builtin.firstCells,loadCells,loadCellsFrom]
   simp only[execOp,ho,resolve,invoke,builtin,Sem.run_bind,Sem.run_pure,Result.andThen_ok,List.map_toArray,List.map_cons,List.map_nil,hx,he,List.length_nil];have hap:(Builtin.append_ #[t,t] o.type #[.slice B es.length es.length,.slice A 0 c]).run P w=.ok (.slice B es.length es.length) w:=by
    cases B<;>simp[Builtin.append_,run_underlying (Ty.und (P:=P) (t:=t)),sizeOf,typeInfo,hi,Builtin.lenOf,hfirst,storeCells]
   rw[hap];rfl
  unfold Oper.wp;rw[hrun,Oper.upon_value,hdst];rw[List.append_nil]at hK;rw[hx]at hbase;exact hnext M F N _ w ⟨(d,.ro sz es .any)::s.fr,s.σ⟩ (hr.put hd (VLe.any M F w _ hbase)) (Ext.refl _ _ _ _ _) (Only.refl _ _) hK
 ·have hpos:0<ys.length:=by cases ys<;>first|exact absurd rfl hlen|simp
  obtain⟨ad,rfl,hadb,hcell⟩:=hreads.2 hpos;have hap:∃v' w',(Builtin.append_ #[t,t] o.type #[.slice B es.length es.length,.slice (some ad) ys.length c]).run P w=.ok v' w'∧w'.ownsRow w.heap.size e sz v' (es.length+ys.length) (olds++news)∧w.grownBy w' none:=by
   cases B with
   |none=>
    have hn0:es.length=0:=by
     rcases Nat.eq_zero_or_pos es.length with h|h
     ·exact h
     ·obtain⟨ad',h',_⟩:=hreads0.2 h;cases h'
    have ho0:olds=[]:=List.eq_nil_of_length_eq_zero (by have:=hreads0.1;rw[hn0]at this;simpa using this);subst ho0;rw[hn0];obtain⟨v',w',h1,h2,h3,_⟩:=uV (P:=P) w w.heap.size t o.type e i zv sz by_ (Ty.und (P:=P) (t:=t)) hi hz0 hs0 hb0 hz h0 (.slice none 0 0) 0 [] ⟨by simp,.inl ⟨rfl,rfl⟩⟩ w.heap.size (some ad) ys.length c news hreads (hrows.one h0 hok) (by omega) (by rw[hn0]at hby;exact hby) (Nat.le_refl _);exact⟨v',w',h1,h2,h3⟩
   |some b=>
    have hcell0:∀j u,olds[j]? =some u→w.cell? (b.add j)=some u:=by
     intro j u hu;rcases Nat.eq_zero_or_pos es.length with h|h
     ·have ho0:olds=[]:=List.eq_nil_of_length_eq_zero (by have:=hreads0.1;rw[h]at this;simpa using this);rw[ho0]at hu;simp at hu
     ·obtain⟨ad',h',_,hc⟩:=hreads0.2 h;injection h' with h'
      subst h';exact hc j u hu
    exact run_append_arg_grows (P:=P) w t o.type e i zv sz by_ (Ty.und (P:=P) (t:=t)) hi hz0 hs0 hb0 hz h0 b es.length es.length olds hreads0.1 hcell0 ad ys.length c news hreads.1 hcell (by omega) hmax hby
  obtain⟨v',w',hap,hown,hgr⟩:=hap;have hrun:(execOp a.eval o).run P w=.ok (.value v') w':=by
   simp only[execOp,ho,resolve,invoke,builtin,Sem.run_bind,Sem.run_pure,Result.andThen_ok,List.map_toArray,List.map_cons,List.map_nil,hx,he,hap]
  unfold Oper.wp;rw[hrun,Oper.upon_value,hdst];rcases hown.2 with⟨_,hz'⟩|⟨g,cap,cur,rfl,hbg,hg,hn,hm2,hs2,ht2⟩
  ·omega
  ·have hgl:g<w'.heap.size:=(Array.getElem?_eq_some_iff.1 hg).1;have hold:∀k,k<w.heap.size→w'.heap[k]? =w.heap[k]? :=fun k hk=>hgr.block k hk (by simp)
   have hSame:Same F w w':=fun b hb=>hold b (hr.st.flt b hb)
   have hsr:=hr.st.growF hold hgr.size hbg hgl;have hcat:RowsAt M F w sz (es++ys) (olds++news):=hrows0.append hok0 hrows;have hokC:gZ sz (es++ys):=fun x hx=>(List.mem_append.1 hx).elim (hok0 x) (hok x)
   have hat:∀(i':Nat) (e':List AV) (j:Nat) (a':AV),(es++ys)[i']? =some e'→e'[j]? =some a'→∃u,(olds++news)[i'*sz+j]? =some u∧w'.cell? ⟨g,0+i'*sz+j,none⟩=some u:=by
    intro i' e' j a' hi' hj;have hil:=(List.getElem?_eq_some_iff.1 hi').1;have hjs:j<sz:=by rw[←(hokC e' (List.mem_of_getElem? hi')).1];exact(List.getElem?_eq_some_iff.1 hj).1
    have hlt:i'*sz+j<(olds++news).length:=by rw[hown.1,←List.length_append];exact jP hil hjs
    refine⟨_,List.getElem?_eq_getElem hlt, ?_⟩;rw[Nat.zero_add,Cl.cell (ty:=e) (.of hg),←Array.getElem?_toList];have h1:(cur.toList.take ((es.length+ys.length)*sz))[i'*sz+j]? =some (olds++news)[i'*sz+j]:=by rw[ht2];exact List.getElem?_eq_getElem hlt
    rw[List.getElem?_take]at h1;split at h1
    ·exact h1
    ·cases h1
   have hv:VR M (fun b=>F b∨b=g) w' (.ro sz (es++ys) .any) (.slice (some ⟨g,0,none⟩) (es.length+ys.length) cap):=by
    have:=VR.ro (M:=M) (F:=fun b=>F b∨b=g) (w:=w') (es:=es++ys) (k:=.any) (b:=g) (o:=0) (sz:=sz) (cap:=cap) (us:=fun i' j=>((olds++news)[i'*sz+j]?).getD Go.undef) (.inr rfl) hokC
     (fun i' e' j a' hi' hj=>by obtain⟨u,hu,hc⟩:=hat i' e' j a' hi' hj;rw[hc,hu];rfl)
     (fun i' e' j a' hi' hj=>by
      obtain⟨u,hu,_⟩:=hat i' e' j a' hi' hj;rw[hu];exact VR.mono (fun _ _ h=>h) (fun _ h=>.inl h) hSame (hcat.2 i' e' j a' u hi' hj hu))
     (by rw[List.length_append];exact hn) hm2 (fun h=>by cases h) (fun h=>by cases h)
    rwa [List.length_append]at this
   have hext:Ext M F N w s.σ M (fun b=>F b∨b=g) N w' s.σ:=by
    refine⟨fun _ _ h=>h,fun _ h=>.inl h,Nat.le_refl _,⟨hgr.os,hgr.tape,hgr.output,hgr.size,fun k hk _=>hold k hk⟩,fun _ h _=>h,fun b hb=> ?_,fun p hp _=>⟨p,hp,rfl⟩⟩;rcases hb with hb|rfl
    ·exact .inl hb
    ·exact .inr (.inl hbg)
   have hr2:Rel M (fun b=>F b∨b=g) N n s a w':=hr.step hext hsr rfl;exact hnext M _ N _ w' ⟨(d,.ro sz (es++ys) .any)::s.fr,s.σ⟩ (hr2.put hd hv) hext ⟨hgr.os,hgr.tape,hgr.output,hgr.size,fun k hk _=>hold k hk⟩ hK
theorem daf{P:Program}{n:Nat}{ops:Array Oper}{fr:Fr}{σ:dS}{K:ASt→Prop}{ty t:TypeId}{pos:String}{af:Array Edge}{listed:Array Bool}{todo:List (Nat×Bool)}{held:List (Nat×List Nat)}{i d:Nat}{x y:Operand}{e:TypeId}{sz by_:Nat}{zv:Value}{es ys:List (List AV)}
  (hi:ops[i]? =some ⟨some d,.call { callee:=.builtin .append,args:=#[x,y],argTypes:=#[t,t] },ty,pos,af,none⟩) (i1:Ty P t (.slice e)) (i2:Tz P e sz by_ zv) (h0:(decide (0<sz)&&zv.cells.size==sz)=true) (hx:aev ⟨fr,σ⟩ x=some (.ro sz es .full)) (hy:Src ⟨fr,σ⟩ y sz ys)
  (hmax:es.length+ys.length≤maxLen) (hby:(es.length+ys.length)*by_≤140737488355328) (hd:Nat.ble (d+1) n=true) (hK:RD P n ops (listed.setIfInBounds i true) todo held ⟨(d,.ro sz (es++ys) .any)::fr,σ⟩ K):RD P n ops listed ((i,false)::todo) held ⟨fr,σ⟩ K:=by
 simp only[Bool.and_eq_true,decide_eq_true_eq,beq_iff_eq]at h0;exact vE hi (DR h0.1 h0.2 hx hy hmax hby (cW hd) hK)
theorem aG3{M:Mp}{F:Nat→Prop}{w:World}{xs:List AV}{us:List Value}(hl:us.length=xs.length)(h:∀(i:Nat) (v:AV),xs[i]? =some v→∃u,us[i]? =some u∧VR M F w v u):∀(j:Nat) (a:AV) (u:Value),xs[j]? =some a→us[j]? =some u→VR M F w a u:=by
 intro j a u ha hu;obtain⟨u',hu',hv⟩:=h j a ha;rw[hu]at hu';cases hu'
 exact hv
theorem vM{P:Program}{ty:TypeId}{s:ASt}{c:Bool}{fn:Fn}{first captured:Array Operand}{xs cs:List AV}(h1:AEvs s first.toList xs)(h2:AEvs s captured.toList cs):Lop P (.makeFunc fn first captured) ty s c (.fn fn xs cs) []:=
 Lop.pure_ fun M F N n a w hr hc=>by
  obtain⟨l1,k1⟩:=h1.at_ hr;obtain⟨l2,k2⟩:=h2.at_ hr;refine⟨.func fn (first.map a.eval) (captured.map a.eval),.fn ?_ ?_ ?_ ?_,fun w' o ho _=> ?_⟩
  ·rw[←l1];simp
  ·intro j a' u ha hu;refine aG3 l1 k1 j a' u ha ?_;rw[←hu,←Array.getElem?_toList];simp
  ·rw[←l2];simp
  ·intro j a' u ha hu;refine aG3 l2 k2 j a' u ha ?_;rw[←hu,←Array.getElem?_toList];simp
  ·simp only[execOp,ho,Instr.makeFunc,Sem.run_bind,Sem.run_pure,Result.andThen_ok]
theorem NC{M:Mp}{F:Nat→Prop}{w:World}{xs ys:List AV}{us vs:List Value}(hl:us.length=xs.length)(h:∀(j:Nat) (a:AV) (u:Value),xs[j]? =some a→us[j]? =some u→VR M F w a u)
  (k:∀(j:Nat) (a:AV) (u:Value),ys[j]? =some a→vs[j]? =some u→VR M F w a u):∀(j:Nat) (a:AV) (u:Value),(xs++ys)[j]? =some a→(us++vs)[j]? =some u→VR M F w a u:=by
 intro j a u ha hu;by_cases hj:j<xs.length
 ·rw[List.getElem?_append_left hj]at ha;rw[List.getElem?_append_left (by omega)]at hu;exact h j a u ha hu
 ·rw[List.getElem?_append_right (by omega)]at ha;rw[List.getElem?_append_right (by omega)]at hu;exact k (j-xs.length) a u ha (by rw[←hl];exact hu)
def XH (a:Act) (x:Operand) (xs:List Operand):List Value:=match a.eval x with
 | .func _ us vs=>us.toList++xs.map a.eval++vs.toList
 | _=>[]
theorem TZ{P:Program}{n:Nat}{s:ASt}{ty:TypeId}{d:Nat}{x:Operand}{f:FuncId}{us vs:List AV}{xs:List Operand}{ats:Array TypeId}{args:List AV}{σ1:dS}{R:AV→dS→Prop}{K:ASt→Prop}(hx:aev s x=some (.fn (.func f) us vs))(hf:∀args w,(callFunc f args).run P w=.ok (.enter f args) w)
  (h:SCall P f (us++args++vs) σ1 R) (hd:d<n) (hargs:ArgsLe s xs args) (hsub:∀p∈σ1,p∈s.σ)
  (hK:∀x σ',R x σ'→(∀p∈σ',(∃q∈σ1,q.1=p.1)∨Fresh p.1 s.σ)→K ⟨(d,x)::s.fr,σ'++eO (σ1.map (·.1)) s.σ⟩):
  Hop P n (.call { callee:=.value x,args:=xs.toArray,argTypes:=ats }) ty (some d) s (σ1.map (·.1)) K:=by
 refine Hop.of_call hd h hsub (fun a=>XH a x xs) (fun M F N a w o ho hr=> ?_) hK;have hv:=hr.aev hx;have hl:=hargs.len;have ha:=hargs.vr hr;obtain⟨dst,op,ty',pos,after,guard⟩:=o;dsimp only at ho;subst ho;generalize hu:a.eval x=u at hv;cases hv with
 |@fn _ _ _ us' vs' h1 h2 h3 h4=>
  have hfa:XH a x xs=us'.toList++xs.map a.eval++vs'.toList:=by unfold XH;rw[hu]
  refine⟨?_, ?_, ?_⟩
  ·have:execOp a.eval { dst,op:=.call { callee:=.value x,args:=xs.toArray,argTypes:=ats },type:=ty',pos,after,guard } =(do
     let d←Deferred.ofValue (a.eval x) (xs.toArray.map a.eval)
     invoke d.target d.args):=rfl
   rw[this,hu,hfa];simp only[Deferred.ofValue,Sem.run_bind,Sem.run_pure,Result.andThen_ok,invoke,hf];simp
  ·rw[hfa];simp only[List.length_append,List.length_map,Array.length_toList];omega
  ·rw[hfa];refine NC (by simp;omega) (NC (by simpa using h1) (fun j a' u' h5 h6=>h2 j a' u' h5 (by simpa using h6)) (fun j a' u' h5 h6=>ha j a' u' h5 h6)) (fun j a' u' h5 h6=>h4 j a' u' h5 (by simpa using h6))
theorem eE{σ:dS}:eO (σ.map (·.1)) σ=[]:=by
 unfold eO;rw[List.filter_eq_nil_iff];intro p hp;simp;exact⟨_,hp⟩
section
variable {P : Program} {n : Nat} {ops : Array Oper} {rest : List Oper} {fr : Fr} {σ : dS} {K : ASt → Prop} {ty : TypeId} {pos : String} {af : Array Edge} {d : Nat}
theorem qY{x:Operand}{f:FuncId}{us vs:List AV}{xs:List Operand}{ats:Array TypeId}{args:List AV}{R:AV→dS→Prop}(σ1:dS)(hx:aev ⟨fr,σ⟩ x=some (.fn (.func f) us vs))(hf:∀args w,(callFunc f args).run P w=.ok (.enter f args) w)(h:SCall P f (us++args++vs) σ1 R)(hd:Nat.ble (d+1) n=true)
  (hargs:ArgsLe ⟨fr,σ⟩ xs args) (hsub:∀p∈σ1,p∈σ) (hK:∀x σ',R x σ'→(∀p∈σ',(∃q∈σ1,q.1=p.1)∨Fresh p.1 σ)→RS P n ops rest ⟨(d,x)::fr,σ'++eO (σ1.map (·.1)) σ⟩ K):
  RS P n ops (⟨some d,.call { callee:=.value x,args:=xs.toArray,argTypes:=ats },ty,pos,af,none⟩::rest) ⟨fr,σ⟩ K:=gK (TZ hx hf h (cW hd) hargs hsub hK)
end
end Go.Proofs.YtjpdadobblffmaaGreat
namespace Go.Proofs.YtjpdadobblffmaaGreat
open Go.RowKit Go.ChangeShapes Go.WideShapes Go.ChangeAt Go.Deep
attribute [local irreducible] SW RS RD fG eH
theorem XI{k1 k2:Rk}(xs ys:List Int):SCall Tryz.prog 47 [.ro 1 (xs.map aP) k1,.ro 1 (ys.map aP) k2] [] (fun x σ=>x=.bool (decide (xs=ys))∧σ=[]):=by
 refine cF 26 [0,1,4,5,10,14,25] Tryz.func47 ?_;refine hY (i:=0) rfl fun hm=> ?_
 rw[List.length_map]at hm;unfold maxLen at hm;refine uD ?_;refine kU ?_;refine lX ?_;refine aB rfl (fun h=> ?_) (fun h=> ?_)
 ·refine bM ?_;apply aE;exact aF
  ·have hne:xs≠ys:=by rintro rfl;simp at h
   exact⟨by simp[gU,cV,hne],rfl⟩
  ·exact aA
 have hl:xs.length=ys.length:=by simp at h;omega
 refine bM ?_;refine lp (β:=Nat) (fun k=>⟨[(0,.ro 1 (xs.map aP) k1),(1,.ro 1 (ys.map aP) k2),(4,.bool false),(5,.int .i64 k)],[]⟩) (fun k=>k≤xs.length∧xs.take k=ys.take k) (fun k=>xs.length-k) 0 ?_ ⟨Nat.zero_le _,rfl⟩ ?_
 ·exact aL
 rintro k ⟨hk,ht⟩;refine eX ?_;refine GO ?_;refine aB rfl (fun h1=> ?_) (fun h1=> ?_)
 ·have hlt:k<xs.length:=by simp at h1;omega
  obtain⟨x,hx⟩:∃x,xs[k]? =some x:=⟨_,List.getElem?_eq_getElem hlt⟩
  obtain⟨y,hy⟩:∃y,ys[k]? =some y:=⟨_,List.getElem?_eq_getElem (by omega)⟩
  refine aJ ?_;refine fM [(0,true),(1,true),(2,true),(3,true),(4,true),(5,true),(6,true),(7,true),(8,true)] ?_;refine zH ?_;refine WR ?_;refine zH ?_;refine WR ?_;refine z58 ?_;refine lF ?_;refine aB rfl (fun h2=> ?_) (fun h2=> ?_)
  ·refine bM ?_;apply aE;exact aF
   ·have hne:xs≠ys:=by rintro rfl;rw[hx]at hy;simp at hy;subst hy;simp at h2
    exact⟨by simp[gU,cV,hne],rfl⟩
   ·exact aA
  ·refine lY ?_;refine⟨k+1,⟨by omega, ?_⟩,by omega, ?_⟩
   ·rw[List.take_add_one,List.take_add_one,ht,hx,hy];simp at h2;rw[h2]
   ·exact aL
 ·refine bM ?_;apply aE;exact aF
  ·simp at h1;have:xs=ys:=by rwa [List.take_of_length_le (by omega),List.take_of_length_le (by omega)]at ht
   exact⟨by simp[gU,cV,this],rfl⟩
  ·exact aA
theorem gV{k1 k2:Rk}(xs ys:List Int):SCall Tryz.prog 116 [.ro 1 (xs.map aP) k1,.ro 1 (ys.map aP) k2] [] (fun x σ=>x=.bool (decide (xs=ys))∧σ=[]):=by
 refine cF 26 [0,1,4,5,10,12,13,14,24] Tryz.func116 ?_;refine hY (i:=0) rfl fun hm=> ?_
 rw[List.length_map]at hm;unfold maxLen at hm;refine uD ?_;refine kU ?_;refine lX ?_;refine aB rfl (fun h=> ?_) (fun h=> ?_)
 ·refine bM ?_;apply aE;exact aF
  ·have hne:xs≠ys:=by rintro rfl;simp at h
   exact⟨by simp[gU,cV,hne],rfl⟩
  ·exact aA
 have hl:xs.length=ys.length:=by simp at h;omega
 refine dM ?_;refine oH ?_;refine lp (β:=Nat) (fun k=>⟨[(0,.ro 1 (xs.map aP) k1),(1,.ro 1 (ys.map aP) k2),(4,.bool false),(12,.int .i64 xs.length),(13,.int .i64 k)],[]⟩) (fun k=>k≤xs.length∧xs.take k=ys.take k) (fun k=>xs.length-k) 0 ?_ ⟨Nat.zero_le _,rfl⟩ ?_
 ·exact aL
 rintro k ⟨hk,ht⟩;refine jR ?_;refine aB rfl (fun h1=> ?_) (fun h1=> ?_)
 ·have hlt:k<xs.length:=by simp at h1;omega
  obtain⟨x,hx⟩:∃x,xs[k]? =some x:=⟨_,List.getElem?_eq_getElem hlt⟩
  obtain⟨y,hy⟩:∃y,ys[k]? =some y:=⟨_,List.getElem?_eq_getElem (by omega)⟩
  refine fA ?_;refine fM [(0,true),(1,true),(2,true),(3,true),(4,true),(5,true),(6,true),(7,true),(8,true)] ?_;refine zH ?_;refine WR ?_;refine zH ?_;refine WR ?_;refine z58 ?_;refine lF ?_;refine aB rfl (fun h2=> ?_) (fun h2=> ?_)
  ·refine bM ?_;apply aE;exact aF
   ·have hne:xs≠ys:=by rintro rfl;rw[hx]at hy;simp at hy;subst hy;simp at h2
    exact⟨by simp[gU,cV,hne],rfl⟩
   ·exact aA
  ·refine mP ?_;refine⟨k+1,⟨by omega, ?_⟩,by omega, ?_⟩
   ·rw[List.take_add_one,List.take_add_one,ht,hx,hy];simp at h2;rw[h2]
   ·exact aL
 ·refine bM ?_;apply aE;exact aF
  ·simp at h1;have:xs=ys:=by rwa [List.take_of_length_le (by omega),List.take_of_length_le (by omega)]at ht
   exact⟨by simp[gU,cV,this],rfl⟩
  ·exact aA
def aCr (P:Program) (f:FuncId) (caps:List AV) (σ:dS) (p:Int→Bool):Prop:=
 (∀args w,(callFunc f args).run P w=.ok (.enter f args) w)∧∀c,SCall P f ([]++ [.int .i64 c]++caps) σ (fun r σ'=>r=.bool (p c)∧σ'=σ)
theorem KS{k:Rk}{f:FuncId}{caps:List AV}{σ:dS}{p:Int→Bool}(hp:aCr Tryz.prog f caps σ p)(l:List Int):SCall Tryz.prog 205 [.ro 1 (l.map aP) k,.fn (.func f) [] caps] σ (fun x σ'=>∃m:Int,x=.int .i64 m∧decide (0≤m)=l.any p∧σ'=σ):=by
 refine cF 19 [0,1,4,5,7,8,9,16] Tryz.func205 ?_;refine hY (i:=0) rfl fun hm=> ?_
 rw[List.length_map]at hm;unfold maxLen at hm;refine sJ ?_;refine lp (β:=Nat) (fun j=>⟨[(0,.ro 1 (l.map aP) k),(1,.fn (.func f) [] caps),(7,.int .i64 l.length),(8,.int .i64 j)],σ⟩) (fun j=>j≤l.length∧(l.take j).any p=false) (fun j=>l.length-j) 0 ?_ ⟨Nat.zero_le _,rfl⟩ ?_
 ·exact aL
 rintro j ⟨hj,ht⟩;refine jR ?_;refine aB rfl (fun h1=> ?_) (fun h1=> ?_)
 ·have hlt:j<l.length:=by simp at h1;omega
  obtain⟨x,hx⟩:∃x,l[j]? =some x:=⟨_,List.getElem?_eq_getElem hlt⟩
  refine tZ ?_;refine nJ ?_;refine qY σ rfl hp.1 (hp.2 x) rfl ?_ ?_ ?_
  ·exact aC
  ·exact fun _ h=>h
  rintro r σ' ⟨rfl,rfl⟩-;rw[eE,List.append_nil];refine lD ?_;refine aB rfl (fun h2=> ?_) (fun h2=> ?_)
  ·refine fA ?_;apply aE;exact aF
   ·refine⟨j,rfl, ?_,rfl⟩;rw[decide_eq_true (by omega)];exact(List.any_eq_true.2 ⟨x,List.mem_of_getElem? hx,h2⟩).symm
   ·exact aA
  ·refine mP ?_;refine⟨j+1,⟨by omega, ?_⟩,by omega, ?_⟩
   ·rw[List.take_add_one,hx,List.any_append,ht];simp[h2]
   ·exact aL
 ·refine bM ?_;apply aE;exact aF
  ·simp at h1;rw[List.take_of_length_le (by omega)]at ht;exact⟨-1,rfl,by rw[ht];rfl,rfl⟩
  ·exact aA
theorem nQ{k:Rk}{f:FuncId}{caps:List AV}{σ:dS}{p:Int→Bool}(hp:aCr Tryz.prog f caps σ p)(l:List Int):SCall Tryz.prog 89 [.ro 1 (l.map aP) k,.fn (.func f) [] caps] σ (fun x σ'=>x=.bool (l.any p)∧σ'=σ):=by
 refine cF 9 [0,1,4] Tryz.func89 ?_;refine mW ?_;refine cw σ Tryz.call205 (KS (k:=k) hp l) rfl ?_ ?_ ?_
 ·exact aC
 ·exact fun _ h=>h
 rintro x σ' ⟨m,rfl,hm,rfl⟩-;rw[eE,List.append_nil];refine DP ?_;exact aE aF ⟨by simp only[gU];rw[←hm],rfl⟩ aA
end Go.Proofs.YtjpdadobblffmaaGreat
