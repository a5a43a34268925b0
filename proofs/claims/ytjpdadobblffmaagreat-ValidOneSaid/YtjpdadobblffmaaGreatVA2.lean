import Derived.Test.YtjpdadobblffmaaGreatVA1
import Derived.Laws.BytesString
import Derived.ScopeJumps
import Derived.Test.YtjpdadobblffmaaGreatProg
import Derived.ArgAppend
set_option linter.unusedSimpArgs false
set_option linter.unusedVariables false
set_option maxRecDepth 100000
set_option maxHeartbeats 4000000
namespace Go.Proofs.YtjpdadobblffmaaGreat
open Go.RowKit Go.ChangeShapes Go.WideShapes Go.ChangeAt Go.Deep
inductive Put:List AV→Nat→List AV→List AV→Prop
 |done {l:List AV} :Put l 0 [] l
 |put {a v:AV} {l vs l':List AV} (h:Put l 0 vs l'):Put (a::l) 0 (v::vs) (v::l')
 |skip {a:AV} {k:Nat} {l vs l':List AV} (h:Put l k vs l'):Put (a::l) (k+1) vs (a::l')
theorem Put.eq {cs:List AV}{k:Nat}{vs out:List AV}(h:Put cs k vs out):k+vs.length≤cs.length∧out=cs.take k++vs++cs.drop (k+vs.length):=by
 induction h with
 |done=>simp
 |put _ ih=>
  obtain⟨h1,h2⟩:=ih;refine⟨by simp at h1⊢;omega, ?_⟩;simp at h2⊢;exact h2
 |@skip a k l vs l' _ ih=>
  obtain⟨h1,h2⟩:=ih;refine⟨by simp at h1⊢;omega, ?_⟩;rw[show k+1+vs.length=(k+vs.length)+1 by omega];simp at h2⊢;exact h2
inductive Fill (pl:List (Nat×Nat)):List AV→List (Nat×AV)→List AV→Prop
 |nil {cs:List AV} :Fill pl cs [] cs
 |cons {cs cs' out:List AV} {i off sz:Nat} {v:AV} {r:List (Nat×AV)} (hp:pl[i]? =some (off,sz)) (hl:v.cells.length=sz) (hc:v.cells.all AV.cell=true) (h:Put cs off v.cells cs') (hr:Fill pl cs' r out):Fill pl cs ((i,v)::r) out
theorem Fill.eq {pl:List (Nat×Nat)}{cs out:List AV}{r:List (Nat×AV)}(h:Fill pl cs r out):JN pl cs r=some out:=by
 induction h with
 |nil=>rfl
 |@cons cs cs' out i off sz v r hp hl hc h _ ih=>
  obtain⟨h1,h2⟩:=h.eq;unfold JN;rw[hp];simp only;rw[if_pos (by simp[hl,hc];rw[hl]at h1;exact h1),←hl,←h2,ih]
inductive SPut:dU→Nat→Nat→List AV→dU→Prop
 |here {r off:Nat} {bt:TypeId} {cs vs cs':List AV} {σ:dU} (h:Put cs off vs cs') (hn:Fresh r σ):SPut ((r,.box bt cs)::σ) r off vs ((r,.box bt cs')::σ)
 |next {r q off:Nat} {y:Ent} {vs:List AV} {σ σ':dU} (hne:r≠q) (h:SPut σ r off vs σ'):SPut ((q,y)::σ) r off vs ((q,y)::σ')
inductive SSet:dU→Nat→Ent→Nat→Ent→dU→Prop
 |here {r r':Nat} {x x':Ent} {σ:dU} (hn:Fresh r σ):SSet ((r,x)::σ) r x r' x' ((r',x')::σ)
 |next {r q r':Nat} {x x' y:Ent} {σ σ':dU} (hne:r≠q) (h:SSet σ r x r' x' σ'):SSet ((q,y)::σ) r x r' x' ((q,y)::σ')
theorem SSet.get {σ σ':dU}{r r':Nat}{x x':Ent}(h:SSet σ r x r' x' σ'):gJ σ r=some x:=by
 induction h with
 |here _=>exact jW
 |next hne _ ih=>exact jX hne ih
theorem Fresh.cons {r q:Nat}{y:Ent}{σ:dU}(h:q≠r)(k:Fresh r σ):Fresh r ((q,y)::σ):=by rw[aP];exact⟨h,k⟩
theorem SSet.sub {σ σ':dU}{r r':Nat}{x x':Ent}(h:SSet σ r x r' x' σ'):∀p∈σ',p∈(r',x')::eO [r] σ:=by
 induction h with
 |@here r r' x x' σ hn=>
  intro p hp;rcases List.mem_cons.1 hp with rfl|hp
  ·simp
  ·refine List.mem_cons_of_mem _ ?_;simp only[eO,List.mem_filter];exact⟨List.mem_cons_of_mem _ hp,by simpa using hn p hp⟩
 |@next r q r' x x' y σ σ' hne _ ih=>
  intro p hp;rcases List.mem_cons.1 hp with rfl|hp
  ·refine List.mem_cons_of_mem _ ?_;simp only[eO,List.mem_filter];exact⟨by simp,by simpa using fun e=>hne e.symm⟩
  ·rcases List.mem_cons.1 (ih p hp)with rfl|h
   ·simp
   ·refine List.mem_cons_of_mem _ ?_;simp only[eO,List.mem_filter]at h⊢;exact⟨List.mem_cons_of_mem _ h.1,h.2⟩
inductive SDel:dU→Nat→Ent→dU→Prop
 |here {r:Nat} {x:Ent} {σ:dU} (hn:Fresh r σ):SDel ((r,x)::σ) r x σ
 |next {r q:Nat} {x y:Ent} {σ σ':dU} (hne:r≠q) (h:SDel σ r x σ'):SDel ((q,y)::σ) r x ((q,y)::σ')
theorem SDel.get {σ σ':dU}{r:Nat}{x:Ent}(h:SDel σ r x σ'):gJ σ r=some x:=by
 induction h with
 |here _=>exact jW
 |next hne _ ih=>exact jX hne ih
theorem SDel.sub {σ σ':dU}{r:Nat}{x:Ent}(h:SDel σ r x σ'):∀p∈σ',p∈σ∧p.1≠r:=by
 induction h with
 |here hn=>intro p hp;exact⟨List.mem_cons_of_mem _ hp,hn p hp⟩
 |next hne _ ih=>
  intro p hp;rcases List.mem_cons.1 hp with rfl|hp
  ·exact⟨List.mem_cons_self,fun e=>hne e.symm⟩
  ·exact⟨List.mem_cons_of_mem _ (ih p hp).1,(ih p hp).2⟩
theorem aHp{fr:Fr}{σ σ':dU}{i q off len sz:Nat}{et:TypeId}{es es':List (List AV)}(hx:dY fr i=some (.own q off len))(hd:SDel σ q (.arr et sz es) σ')(hle:off+len≤es.length)(he:(es.drop off).take len=es'):SGo ⟨fr,σ⟩ ⟨(i,.ro sz es' .any)::fr,σ'⟩:=by
 refine qL [q] (fun j x' hj=> ?_) (fun p hp=> ?_)
 ·simp only[dY]at hj;split at hj
  ·next e=>
   subst e;obtain rfl:=Option.some.inj hj;exact⟨_,hx,he▸Bor.own List.mem_cons_self hd.get hle⟩
  ·exact⟨x',hj,.refl _⟩
 ·obtain⟨h1,h2⟩:=hd.sub p hp;exact⟨by simpa using h2,p.2,h1,.refl _⟩
theorem SPut.set {σ σ':dU}{r off:Nat}{vs:List AV}(h:SPut σ r off vs σ'):∃bt cs cs',Put cs off vs cs'∧SSet σ r (.box bt cs) r (.box bt cs') σ':=by
 induction h with
 |here h hn=>exact⟨_,_,_,h,.here hn⟩
 |next hne _ ih=>obtain⟨bt,cs,cs',h1,h2⟩:=ih;exact⟨bt,cs,cs',h1,.next hne h2⟩
section
variable {P : Program} {n : Nat} {ops : Array Oper} {rest : List Oper} {fr : Fr} {σ σ' : dU} {K : ASt → Prop} {op : Op} {ty t t' : TypeId} {pos : String} {af : Array Edge} {x y : Operand} {c : Bool} {d : Nat}
theorem E{s:ASt}{v:AV}(h:aev s x=some v):Ev s c x v:=.here h
theorem W{s:ASt}{v:AV}{c':Bool}(h:aev s x=some (.when c' v))(hc:c=true→c'=true):Ev s c x v:=.when h hc
theorem aQ{α:Type} [Inhabited α] {l:List α}{j:Nat}(h:j<l.length):l[j]? =some l[j]! :=by simp[h]
theorem bV{P:Program}{op:Op}{ty:TypeId}{s:ASt}{v:AV}:Lop P op ty s false v []:=⟨fun r hr=>by simp at hr,fun _ _ _ _ _ _ _ hc=>by cases hc⟩
theorem StLe.of_mem {σ:dU}:∀ {l:dU},(∀p∈l,p∈σ)→StLe σ l
 |[],_=>.nil
 |(r,y)::l,h=>.cons (h (r,y) (by simp)) rfl (StLe.of_mem fun p hp=>h p (by simp[hp]))
theorem StLe.refl (σ:dU):StLe σ σ:=.of_mem fun _ h=>h
theorem dL{a b:Nat}(h:Nat.ble (a+1) b=true):a<b:=Nat.le_of_ble_eq_true h
theorem lo{v:AV}{rs:List Nat}(h:Lop P op ty ⟨fr,σ⟩ true v rs)(hd:Nat.ble (d+1) n=true)(hK:RS P n ops rest ⟨(d,v)::fr,σ⟩ K):RS P n ops (⟨some d,op,ty,pos,af,none⟩::rest) ⟨fr,σ⟩ K:=aA9 h (dL hd) hK
theorem lg{j dj:Nat}{want b:Bool}{v:AV}{rs:List Nat}(hj:(ops[j]?).bind (·.dst)=some dj)(hb:dY fr dj=some (.bool b))(h:Lop P op ty ⟨fr,σ⟩ (b==want) v rs)(hd:Nat.ble (d+1) n=true)
  (hK:RS P n ops rest ⟨(d,.when (b==want) v)::fr,σ⟩ K):RS P n ops (⟨some d,op,ty,pos,af,some (j,want)⟩::rest) ⟨fr,σ⟩ K:=PY hj hb h (dL hd) hK
theorem lw{j dj:Nat}{want b c0:Bool}{v:AV}{rs:List Nat}(hj:(ops[j]?).bind (·.dst)=some dj)(hb:dY fr dj=some (.when c0 (.bool b)))(h:Lop P op ty ⟨fr,σ⟩ (c0&&(b==want)) v rs)(hd:Nat.ble (d+1) n=true)
  (hK:RS P n ops rest ⟨(d,.when (c0&&(b==want)) v)::fr,σ⟩ K):RS P n ops (⟨some d,op,ty,pos,af,some (j,want)⟩::rest) ⟨fr,σ⟩ K:=IC hj hb h (dL hd) hK
theorem ln{j dj:Nat}{want b:Bool}(hj:(ops[j]?).bind (·.dst)=some dj)(hb:dY fr dj=some (.bool b))(hne:(b==want)=false)(hd:Nat.ble (d+1) n=true)
  (hK:RS P n ops rest ⟨(d,.when false (.bool false))::fr,σ⟩ K):RS P n ops (⟨some d,op,ty,pos,af,some (j,want)⟩::rest) ⟨fr,σ⟩ K:=by
 refine PY (v:=.bool false) (rs:=[]) hj hb ?_ (dL hd) ?_
 ·rw[hne];exact bV
 ·rw[hne];exact hK
theorem le{ks:List Nat}{fr':Fr}(h:KeepIs fr ks fr')(hK:K ⟨fr',σ⟩):RS P n ops [] ⟨fr,σ⟩ (zW ks K):=aHl h rfl hK
theorem LM{s:ASt}{fs:Array Field} [Ty P t (.struct fs)] {sz by_:Nat}{z:Value} [Tz P t sz by_ z] {pl:List (Nat×Nat)} [Tf P t pl] {parts:Array (Nat×Operand)}{vs:List (Nat×AV)}{out zs:List AV}(hp:PEvs s c parts.toList vs)(hz:z.cells.toList.map vQ=zs)(hf:Fill pl zs vs out):
  Lop P (.build t parts) ty s c (.agg out) []:=ZG rfl hp (by rw[hz];exact hf.eq)
theorem aBl{ts:List Nat}{q off len sz:Nat}{et:TypeId}{es es':List (List AV)}(ht:q∈ts)(hg:gJ σ q=some (.arr et sz es))(hle:off+len≤es.length)(he:(es.drop off).take len=es'):Bor σ ts (.own q off len) (.ro sz es' .any):=he▸Bor.own ht hg hle
theorem jN{s:ASt}{x y z:Operand}{v:AV}(h:Ev s c x (.bool true))(h1:Ev s c y v):Lop P (.pick x y z) ty s c v []:=
 Lop.pure_ fun M F N n a w hr hc=>⟨_,h1.vr hr hc,fun w' o ho _=>by
  have e:=h.bool hr hc;simp[execOp,ho,e,asBool]⟩
theorem jO{s:ASt}{x y z:Operand}{v:AV}(h:Ev s c x (.bool false))(h1:Ev s c z v):Lop P (.pick x y z) ty s c v []:=
 Lop.pure_ fun M F N n a w hr hc=>⟨_,h1.vr hr hc,fun w' o ho _=>by
  have e:=h.bool hr hc;simp[execOp,ho,e,asBool]⟩
theorem aBm:∀x∈([]:List AV),NoF x:=fun x hx=>by simp at hx
theorem ZJ{a:AV}{l:List AV}(h:NoF a)(k:∀x∈l,NoF x):∀x∈a::l,NoF x:=fun x hx=>by
 rcases List.mem_cons.1 hx with rfl|hx
 ·exact h
 ·exact k x hx
inductive BorL (σ:dU) (ts:List Nat):List AV→List AV→Prop
 |nil:BorL σ ts [] []
 |cons {x y:AV} {xs ys:List AV} (h:Bor σ ts x y) (r:BorL σ ts xs ys):BorL σ ts (x::xs) (y::ys)
theorem BorL.at_ {ts:List Nat}{cs cs':List AV}(h:BorL σ ts cs cs'):cs'.length=cs.length∧∀(j:Nat) (a':AV),cs'[j]? =some a'→Bor σ ts (cs.getD j .undef) a':=by
 induction h with
 |nil=>exact⟨rfl,fun j a h=>by simp at h⟩
 |cons h _ ih=>
  refine⟨by simp[ih.1],fun j a' hj=> ?_⟩;cases j with
  |zero=>simp at hj;subst hj;simpa using h
  |succ j=>simpa using ih.2 j a' (by simpa using hj)
theorem aBn{ts:List Nat}{cs cs':List AV}(h:BorL σ ts cs cs'):Bor σ ts (.agg cs) (.agg cs'):=
 .agg (fun j=>cs.getD j .undef) h.at_.1 (fun j a hj=>by simp[hj]) h.at_.2
theorem bx{v:AV}{cs:List AV}(h:aev ⟨fr,σ⟩ x=some v)(hc:v.cells.all AV.cell=true)(hv:v.cells=cs)(hd:Nat.ble (d+1) n=true)(hK:∀r,Fresh r σ→RS P n ops rest ⟨(d,.ptr r 0)::fr,(r,.box t cs)::σ⟩ K):RS P n ops (⟨some d,.box t x,ty,pos,af,none⟩::rest) ⟨fr,σ⟩ K:=by
 subst hv;exact hY (WZ h hc (dL hd) hK)
theorem al{sz by_:Nat}{z:Value} [Tz P t sz by_ z] {cs:List AV}(hd:Nat.ble (d+1) n=true)(hz:z.cells.toList.map cX=cs)(hK:∀r,Fresh r σ→RS P n ops rest ⟨(d,.ptr r 0)::fr,(r,.box t cs)::σ⟩ K):RS P n ops (⟨some d,.alloc t,ty,pos,af,none⟩::rest) ⟨fr,σ⟩ K:=by
 subst hz;exact hY (CC (dL hd) hK)
theorem CF{s:ASt}{σ2:dU}(h:∀p∈σ2,p∈s.σ)(hK:RS P n ops rest ⟨s.fr,σ2⟩ K):RS P n ops rest s K:=jT (s':=⟨s.fr,σ2⟩) (SGo.of_le (fun _ x h=>⟨x,h,VLe.refl x⟩) h) hK
theorem FL{listed:Array Bool}{todo:List (Nat×Bool)}{held:List (Nat×List Nat)}{s:ASt}{σ2:dU}(h:∀p∈σ2,p∈s.σ)(hK:RD P n ops listed todo held ⟨s.fr,σ2⟩ K):RD P n ops listed todo held s K:=by
 intro hsel hc M F N a w hr;exact mG (PostN.ext ((Ext.refl M F N w s.σ).sub h)) (fun _ _ h=>h) _ _ _ _ (hK hsel hc M F N a w ⟨hr.size,hr.defers,hr.fr,hr.st.sub h⟩)
theorem HW{sz by_:Nat}{z:Value} [Tz P t sz by_ z] {r off:Nat}{v:AV}(h:aev ⟨fr,σ⟩ x=some (.ptr r off))(hv:aev ⟨fr,σ⟩ y=some v)(hc:v.cells.all AV.cell=true)(hl:v.cells.length=sz)(hs:SPut σ r off v.cells σ')
  (hK:RS P n ops rest ⟨fr,σ'⟩ K):RS P n ops (⟨none,.store t x y,ty,pos,af,none⟩::rest) ⟨fr,σ⟩ K:=by
 obtain⟨bt,cs,cs',h1,h2⟩:=hs.set;obtain⟨k1,k2⟩:=h1.eq;refine hY (rT h h2.get hv hc hl (by omega) ?_);refine CF (fun p hp=> ?_) hK;rw[hl]at k2;rw[←k2];exact h2.sub p hp
theorem sto{sz1 by_:Nat}{z:Value} [Tz P t sz1 by_ z] {r i off:Nat}{et:TypeId}{sz:Nat}{es es':List (List AV)}{e e':List AV}{v:AV}(h:aev ⟨fr,σ⟩ x=some (.ow r i off))(hv:aev ⟨fr,σ⟩ y=some v)(hc:v.cells.all AV.cell=true)(hl:v.cells.length=sz1)
  (hs:SSet σ r (.arr et sz es) r (.arr et sz es') σ') (he:es[i]? =some e) (hp:Put e off v.cells e') (he':es'=es.set i e') (hK:RS P n ops rest ⟨fr,σ'⟩ K):RS P n ops (⟨none,.store t x y,ty,pos,af,none⟩::rest) ⟨fr,σ⟩ K:=by
 obtain⟨k1,k2⟩:=hp.eq;refine hY (vZ h hs.get he (by omega) hv hc hl ?_);refine CF (fun p hp=> ?_) hK;rw[hl]at k2;rw[←k2,←he'];exact hs.sub p hp
theorem bs{e:TypeId} [Ty P t (.slice e)] {sz by_:Nat}{zv:Value} [Tz P e sz by_ zv] {len:Nat}{parts:Array (Nat×Operand)}{vs:List AV}{es:List (List AV)}(hv:AEvs ⟨fr,σ⟩ (parts.toList.map (·.2)) vs)(hp:parts.toList=sJ 0 (parts.toList.map (·.2)))(hlen:(len==vs.length)=true)(h0:(decide (0<sz)&&decide (len*sz≤16777216))=true)
  (hc:(vs.all fun v=>v.cells.length==sz&&v.cells.all AV.cell)=true) (he:vs.map AV.cells=es) (hd:Nat.ble (d+1) n=true) (hK:∀r,Fresh r σ→RS P n ops rest ⟨(d,.own r 0 len)::fr,(r,.arr e sz es)::σ⟩ K):RS P n ops (⟨some d,.buildSlice t len parts,ty,pos,af,none⟩::rest) ⟨fr,σ⟩ K:=by
 subst he;exact hY (pA hp hv hlen h0 hc (dL hd) hK)
theorem mk{e:TypeId} [Ty P t (.slice e)] {sz by_:Nat}{zv:Value} [Tz P e sz by_ zv] {k k':IntKind}{m:Int}{l:Nat}{z:List AV}(hl:aev ⟨fr,σ⟩ x=some (.int k m))(hc:aev ⟨fr,σ⟩ y=some (.int k' m))(hm:m=(l:Int))(h0:(decide (0<sz)&&(zv.cells.size==sz)&&(zv.cells.toList.map cX).all AV.cell)=true)
  (hby:by_*l≤281474976710656) (hml:l≤maxLen) (hz:zv.cells.toList.map cX=z) (hd:Nat.ble (d+1) n=true) (hK:∀r,Fresh r σ→RS P n ops rest ⟨(d,.own r 0 l)::fr,(r,.arr e sz (List.replicate l z))::σ⟩ K):RS P n ops (⟨some d,.makeSlice t x y,ty,pos,af,none⟩::rest) ⟨fr,σ⟩ K:=by
 subst hz;exact hY (aBi hl hc hm h0 hby hml (dL hd) hK)
theorem ap{e:TypeId} [Ty P t (.slice e)] {sz by_:Nat}{zv:Value} [Tz P e sz by_ zv] {r len len':Nat}{es ys es':List (List AV)}(hz:zv.cells.size=sz)(hb:aev ⟨fr,σ⟩ x=some (.own r 0 len))(hg:gJ σ r=some (.arr e sz es))(hlen:len=es.length)(hy:Src ⟨fr,σ⟩ y sz ys)
  (he:es++ys=es') (hl':len'=len+ys.length) (hmax:len'≤maxLen) (hby:len'*by_≤140737488355328) (hd:Nat.ble (d+1) n=true)
  (hK:∀r',Fresh r' (eO [r] σ)→∃σ',SSet σ r (.arr e sz es) r' (.arr e sz es') σ'∧RS P n ops rest ⟨(d,.own r' 0 len')::fr,σ'⟩ K):RS P n ops (⟨some d,.call { callee:=.builtin .append,args:=#[x,y],argTypes:=#[t,t] },ty,pos,af,none⟩::rest) ⟨fr,σ⟩ K:=by
 subst he hl';refine hY (qK hz hb hg (by omega) hy hmax hby (dL hd) fun r' hf=> ?_);obtain⟨σ',hs,hK⟩:=hK r' hf;rw[hlen,List.take_length];refine CF (fun p hp=>hs.sub p hp) ?_;rw[←hlen];exact hK
theorem cp{e tS:TypeId} [Ty P t (.slice e)] {by_:Nat}{zv:Value} [Tz P e 1 by_ zv] {r off len m:Nat}{et:TypeId}{es ys es':List (List AV)}(hb:aev ⟨fr,σ⟩ x=some (.own r off len))(hs:SSet σ r (.arr et 1 es) r (.arr et 1 es') σ')(hle:off+len≤es.length)(hy:Src ⟨fr,σ⟩ y 1 ys)(hm:m=min ys.length len)
  (he:es'=es.take off++ys.take m++es.drop (off+m)) (hd:Nat.ble (d+1) n=true) (hK:RS P n ops rest ⟨(d,.int .i64 m)::fr,σ'⟩ K):RS P n ops (⟨some d,.call { callee:=.builtin .copy,args:=#[x,y],argTypes:=#[t,tS] },ty,pos,af,none⟩::rest) ⟨fr,σ⟩ K:=by
 subst he;exact hY (QD hb hs.get hle hy hm (dL hd) (CF (s:=⟨_,_⟩) (fun p hp=>hs.sub p hp) hK))
theorem pu{f:FuncId}{xs:List Operand}{ats:Array TypeId}{args:List AV}{v:AV}(ts:List Nat)(hf:∀args w,(callFunc f args).run P w=.ok (.enter f args) w)(h:SCall P f args [] (fun x σ'=>x=v∧σ'=[]))(hd:Nat.ble (d+1) n=true)
  (hargs:ArgsIf ⟨fr,σ⟩ true ts xs args) (hno:NoF v) (hK:RS P n ops rest ⟨(d,v)::fr,σ⟩ K):RS P n ops (⟨some d,.call { callee:=.value (.func f),args:=xs.toArray,argTypes:=ats },ty,pos,af,none⟩::rest) ⟨fr,σ⟩ K:=aDW ts hf h (dL hd) hargs hno hK
theorem AB{f:FuncId}{j dj:Nat}{want b:Bool}{xs:List Operand}{ats:Array TypeId}{args:List AV}{v:AV}(ts:List Nat)(hj:(ops[j]?).bind (·.dst)=some dj)(hb:dY fr dj=some (.bool b))(hf:∀args w,(callFunc f args).run P w=.ok (.enter f args) w)
  (h:(b==want)=true→SCall P f args [] (fun x σ'=>x=v∧σ'=[])) (hd:Nat.ble (d+1) n=true) (hargs:ArgsIf ⟨fr,σ⟩ (b==want) ts xs args) (hno:NoF v) (hK:RS P n ops rest ⟨(d,.when (b==want) v)::fr,σ⟩ K):
  RS P n ops (⟨some d,.call { callee:=.value (.func f),args:=xs.toArray,argTypes:=ats },ty,pos,af,some (j,want)⟩::rest) ⟨fr,σ⟩ K:=IF ts hj hb hf h (dL hd) hargs hno hK
theorem ne{e:TypeId} [Ty P t (.slice e)] {sz:Nat}{es:List (List AV)}{k:Rk}(h:aev ⟨fr,σ⟩ x=some (.ro sz es k))(hy:y=.const (.slice none 0 0))(hd:Nat.ble (d+1) n=true)(hK:∀b,(b=true→es=[])→(k=.nil→b=true)→RS P n ops rest ⟨(d,.bool b)::fr,σ⟩ K):
  RS P n ops (⟨some d,.binOp .eql t x y t',ty,pos,af,none⟩::rest) ⟨fr,σ⟩ K:=ZH h hy (dL hd) hK
theorem cl{f:FuncId}{xs:List Operand}{ats:Array TypeId}{args:List AV}{R:AV→dU→Prop}(ts:List Nat)(hf:∀args w,(callFunc f args).run P w=.ok (.enter f args) w)(h:SCall P f args [] R)(hd:Nat.ble (d+1) n=true)
  (hargs:ArgsBor ⟨fr,σ⟩ ts xs args) (hno:∀x σ',R x σ'→NoF x∧∀p∈σ',ENoF p.2) (hK:∀x σ',R x σ'→(∀p∈σ',Fresh p.1 σ)→RS P n ops rest ⟨(d,x)::fr,σ'++σ⟩ K):
  RS P n ops (⟨some d,.call { callee:=.value (.func f),args:=xs.toArray,argTypes:=ats },ty,pos,af,none⟩::rest) ⟨fr,σ⟩ K:=hY (rU ts hf h (dL hd) hargs hno hK)
theorem cw{f:FuncId}{xs:List Operand}{ats:Array TypeId}{args:List AV}{R:AV→dU→Prop}(σ1:dU)(hf:∀args w,(callFunc f args).run P w=.ok (.enter f args) w)(h:SCall P f args σ1 R)(hd:Nat.ble (d+1) n=true)
  (hargs:ArgsLe ⟨fr,σ⟩ xs args) (hsub:∀p∈σ1,p∈σ) (hK:∀x σ',R x σ'→(∀p∈σ',(∃q∈σ1,q.1=p.1)∨Fresh p.1 σ)→RS P n ops rest ⟨(d,x)::fr,σ'++eO (σ1.map (·.1)) σ⟩ K):
  RS P n ops (⟨some d,.call { callee:=.value (.func f),args:=xs.toArray,argTypes:=ats },ty,pos,af,none⟩::rest) ⟨fr,σ⟩ K:=hY (sH hf h (dL hd) hargs hsub hK)
theorem fz{i q off len sz:Nat}{et:TypeId}{es es':List (List AV)}(hx:dY fr i=some (.own q off len))(hd:SDel σ q (.arr et sz es) σ')(hle:off+len≤es.length)(he:(es.drop off).take len=es')(hK:RS P n ops rest ⟨(i,.ro sz es' .any)::fr,σ'⟩ K):RS P n ops rest ⟨fr,σ⟩ K:=
 jT (aHp hx hd hle he) hK
theorem gy{dst:Option Nat}{s:ASt}{j dj:Nat}{want:Bool}(hj:(ops[j]?).bind (·.dst)=some dj)(hb:dY s.fr dj=some (.bool want))(h:RS P n (ops) (⟨dst,op,ty,pos,af,none⟩::rest) s K):RS P n ops (⟨dst,op,ty,pos,af,some (j,want)⟩::rest) s K:=by
 intro M F N a w hr;have hw:=sG (o:=⟨dst,op,ty,pos,af,some (j,want)⟩) hr rfl hj hb;have h1:=h M F N a w hr;unfold wpList at h1⊢;rw[hw,if_pos (by cases want<;>rfl)];rw[if_pos (by rfl)]at h1;exact h1
variable {listed : Array Bool} {todo : List (Nat × Bool)} {held : List (Nat × List Nat)} {i : Nat}
theorem fY{v:AV}{rs:List Nat}(hi:ops[i]? =some ⟨some d,op,ty,pos,af,none⟩)(h:Lop P op ty ⟨fr,σ⟩ true v rs)(hd:Nat.ble (d+1) n=true)(hK:RD P n ops (listed.setIfInBounds i true) todo ((i,rs)::held) ⟨(d,v)::fr,σ⟩ K):
  RD P n ops listed ((i,true)::todo) held ⟨fr,σ⟩ K:=aBg hi h (dL hd) hK
theorem eQ{j dj:Nat}{want b:Bool}{v:AV}{rs:List Nat}(hi:ops[i]? =some ⟨some d,op,ty,pos,af,some (j,want)⟩)(hj:(ops[j]?).bind (·.dst)=some dj)(hb:dY fr dj=some (.bool b))(h:Lop P op ty ⟨fr,σ⟩ (b==want) v rs)(hd:Nat.ble (d+1) n=true)
  (hK:RD P n ops (listed.setIfInBounds i true) todo ((i,rs)::held) ⟨(d,.when (b==want) v)::fr,σ⟩ K):RD P n ops listed ((i,true)::todo) held ⟨fr,σ⟩ K:=QA hi hj hb h (dL hd) hK
theorem eL{j dj:Nat}{want b c0:Bool}{v:AV}{rs:List Nat}(hi:ops[i]? =some ⟨some d,op,ty,pos,af,some (j,want)⟩)(hj:(ops[j]?).bind (·.dst)=some dj)(hb:dY fr dj=some (.when c0 (.bool b)))(h:Lop P op ty ⟨fr,σ⟩ (c0&&(b==want)) v rs)(hd:Nat.ble (d+1) n=true)
  (hK:RD P n ops (listed.setIfInBounds i true) todo ((i,rs)::held) ⟨(d,.when (c0&&(b==want)) v)::fr,σ⟩ K):RD P n ops listed ((i,true)::todo) held ⟨fr,σ⟩ K:=ID hi hj hb h (dL hd) hK
theorem kK{j dj:Nat}{want b:Bool}(hi:ops[i]? =some ⟨some d,op,ty,pos,af,some (j,want)⟩)(hj:(ops[j]?).bind (·.dst)=some dj)(hb:dY fr dj=some (.bool b))(hne:(b==want)=false)(hd:Nat.ble (d+1) n=true)
  (hK:RD P n ops (listed.setIfInBounds i true) todo ((i,[])::held) ⟨(d,.when false (.bool false))::fr,σ⟩ K):RD P n ops listed ((i,true)::todo) held ⟨fr,σ⟩ K:=by
 refine QA (v:=.bool false) (rs:=[]) hi hj hb ?_ (dL hd) ?_
 ·rw[hne];exact bV
 ·rw[hne];exact hK
theorem de{ks:List Nat}{fr':Fr}(h:KeepIs fr ks fr')(hK:K ⟨fr',σ⟩):RD P n ops listed [] held ⟨fr,σ⟩ (zW ks K):=aHm h rfl hK
theorem dbx{v:AV}{cs:List AV}(hi:ops[i]? =some ⟨some d,.box t x,ty,pos,af,none⟩)(h:aev ⟨fr,σ⟩ x=some v)(hc:v.cells.all AV.cell=true)(hv:v.cells=cs)(hd:Nat.ble (d+1) n=true)(hK:∀r,Fresh r σ→RD P n ops (listed.setIfInBounds i true) todo held ⟨(d,.ptr r 0)::fr,(r,.box t cs)::σ⟩ K):
  RD P n ops listed ((i,false)::todo) held ⟨fr,σ⟩ K:=by
 subst hv;exact yQ hi (WZ h hc (dL hd) hK)
theorem dal{sz by_:Nat}{z:Value}{cs:List AV}(hi:ops[i]? =some ⟨some d,.alloc t,ty,pos,af,none⟩)(i1:Tz P t sz by_ z)(hd:Nat.ble (d+1) n=true)(hz:z.cells.toList.map cX=cs)(hK:∀r,Fresh r σ→RD P n ops (listed.setIfInBounds i true) todo held ⟨(d,.ptr r 0)::fr,(r,.box t cs)::σ⟩ K):
  RD P n ops listed ((i,false)::todo) held ⟨fr,σ⟩ K:=by
 subst hz;exact yQ hi (CC (dL hd) hK)
theorem aLy{sz by_:Nat}{z:Value}{r off:Nat}{v:AV}(hi:ops[i]? =some ⟨none,.store t x y,ty,pos,af,none⟩)(i1:Tz P t sz by_ z)(h:aev ⟨fr,σ⟩ x=some (.ptr r off))(hv:aev ⟨fr,σ⟩ y=some v)(hc:v.cells.all AV.cell=true)(hl:v.cells.length=sz)(hs:SPut σ r off v.cells σ')
  (hb:HB ops i (σ.map (·.1)) [r] held) (hK:RD P n ops (listed.setIfInBounds i true) todo held ⟨fr,σ'⟩ K):RD P n ops listed ((i,false)::todo) held ⟨fr,σ⟩ K:=by
 obtain⟨bt,cs,cs',h1,h2⟩:=hs.set;obtain⟨k1,k2⟩:=h1.eq;refine AA hi (rT h h2.get hv hc hl (by omega) ?_) (fun q hq=> ?_) hb
 ·refine FL (fun p hp=> ?_) hK;rw[hl]at k2;rw[←k2];exact h2.sub p hp
 ·obtain rfl:=List.mem_singleton.1 hq;exact List.mem_map.2 ⟨_,cE h2.get,rfl⟩
theorem aJy{sz1 by_:Nat}{z:Value}{r j off:Nat}{et:TypeId}{sz:Nat}{es es':List (List AV)}{e e':List AV}{v:AV}(hi:ops[i]? =some ⟨none,.store t x y,ty,pos,af,none⟩)(i1:Tz P t sz1 by_ z)(h:aev ⟨fr,σ⟩ x=some (.ow r j off))(hv:aev ⟨fr,σ⟩ y=some v)(hc:v.cells.all AV.cell=true)(hl:v.cells.length=sz1)
  (hs:SSet σ r (.arr et sz es) r (.arr et sz es') σ') (he:es[j]? =some e) (hp:Put e off v.cells e') (he':es'=es.set j e') (hb:HB ops i (σ.map (·.1)) [r] held) (hK:RD P n ops (listed.setIfInBounds i true) todo held ⟨fr,σ'⟩ K):RD P n ops listed ((i,false)::todo) held ⟨fr,σ⟩ K:=by
 obtain⟨k1,k2⟩:=hp.eq;refine AA hi (vZ h hs.get he (by omega) hv hc hl ?_) (fun q hq=> ?_) hb
 ·refine FL (fun p hp=> ?_) hK;rw[hl]at k2;rw[←k2,←he'];exact hs.sub p hp
 ·obtain rfl:=List.mem_singleton.1 hq;exact List.mem_map.2 ⟨_,cE hs.get,rfl⟩
theorem dbs{e:TypeId}{sz by_:Nat}{zv:Value}{len:Nat}{parts:Array (Nat×Operand)}{vs:List AV}{es:List (List AV)}(hi:ops[i]? =some ⟨some d,.buildSlice t len parts,ty,pos,af,none⟩)(i1:Ty P t (.slice e))(i2:Tz P e sz by_ zv)(hv:AEvs ⟨fr,σ⟩ (parts.toList.map (·.2)) vs)(hp:parts.toList=sJ 0 (parts.toList.map (·.2)))(hlen:(len==vs.length)=true)(h0:(decide (0<sz)&&decide (len*sz≤16777216))=true)
  (hc:(vs.all fun v=>v.cells.length==sz&&v.cells.all AV.cell)=true) (he:vs.map AV.cells=es) (hd:Nat.ble (d+1) n=true) (hK:∀r,Fresh r σ→RD P n ops (listed.setIfInBounds i true) todo held ⟨(d,.own r 0 len)::fr,(r,.arr e sz es)::σ⟩ K):RD P n ops listed ((i,false)::todo) held ⟨fr,σ⟩ K:=by
 subst he;exact yQ hi (pA hp hv hlen h0 hc (dL hd) hK)
theorem dap{e:TypeId}{sz by_:Nat}{zv:Value}{r len len':Nat}{es ys es':List (List AV)}(hi:ops[i]? =some ⟨some d,.call { callee:=.builtin .append,args:=#[x,y],argTypes:=#[t,t] },ty,pos,af,none⟩)(i1:Ty P t (.slice e))(i2:Tz P e sz by_ zv)(hz:zv.cells.size=sz)(hx:aev ⟨fr,σ⟩ x=some (.own r 0 len))(hg:gJ σ r=some (.arr e sz es))(hlen:len=es.length)(hy:Src ⟨fr,σ⟩ y sz ys)
  (he:es++ys=es') (hl':len'=len+ys.length) (hmax:len'≤maxLen) (hby:len'*by_≤140737488355328) (hd:Nat.ble (d+1) n=true) (hb:HB ops i (σ.map (·.1)) [r] held)
  (hK:∀r',Fresh r' (eO [r] σ)→∃σ',SSet σ r (.arr e sz es) r' (.arr e sz es') σ'∧RD P n ops (listed.setIfInBounds i true) todo held ⟨(d,.own r' 0 len')::fr,σ'⟩ K):RD P n ops listed ((i,false)::todo) held ⟨fr,σ⟩ K:=by
 subst he hl';refine AA hi (qK hz hx hg (by omega) hy hmax hby (dL hd) fun r' hf=> ?_) (fun q hq=> ?_) hb
 ·obtain⟨σ',hs,hK⟩:=hK r' hf;rw[hlen,List.take_length];refine FL (fun p hp=>hs.sub p hp) ?_;rw[←hlen];exact hK
 ·obtain rfl:=List.mem_singleton.1 hq;exact List.mem_map.2 ⟨_,cE hg,rfl⟩
theorem dpu{f:FuncId}{xs:List Operand}{ats:Array TypeId}{args:List AV}{v:AV}(ts:List Nat)(hi:ops[i]? =some ⟨some d,.call { callee:=.value (.func f),args:=xs.toArray,argTypes:=ats },ty,pos,af,none⟩)(hf:∀args w,(callFunc f args).run P w=.ok (.enter f args) w)(h:SCall P f args [] (fun x σ'=>x=v∧σ'=[]))(hd:Nat.ble (d+1) n=true)
  (hargs:ArgsIf ⟨fr,σ⟩ true ts xs args) (hno:NoF v) (hK:RD P n ops (listed.setIfInBounds i true) todo held ⟨(d,v)::fr,σ⟩ K):RD P n ops listed ((i,false)::todo) held ⟨fr,σ⟩ K:=yQ hi (aBk ts hf h (dL hd) hargs hno hK)
theorem dcl{f:FuncId}{xs:List Operand}{ats:Array TypeId}{args:List AV}{R:AV→dU→Prop}(ts:List Nat)(hi:ops[i]? =some ⟨some d,.call { callee:=.value (.func f),args:=xs.toArray,argTypes:=ats },ty,pos,af,none⟩)(hf:∀args w,(callFunc f args).run P w=.ok (.enter f args) w)(h:SCall P f args [] R)(hd:Nat.ble (d+1) n=true)
  (hargs:ArgsBor ⟨fr,σ⟩ ts xs args) (hno:∀x σ',R x σ'→NoF x∧∀p∈σ',ENoF p.2) (hK:∀x σ',R x σ'→(∀p∈σ',Fresh p.1 σ)→RD P n ops (listed.setIfInBounds i true) todo held ⟨(d,x)::fr,σ'++σ⟩ K):
  RD P n ops listed ((i,false)::todo) held ⟨fr,σ⟩ K:=yQ hi (rU ts hf h (dL hd) hargs hno hK)
theorem sD{f:FuncId}{xs:List Operand}{ats:Array TypeId}{args:List AV}{R:AV→dU→Prop}(σ1:dU)(hi:ops[i]? =some ⟨some d,.call { callee:=.value (.func f),args:=xs.toArray,argTypes:=ats },ty,pos,af,none⟩)(hf:∀args w,(callFunc f args).run P w=.ok (.enter f args) w)(h:SCall P f args σ1 R)(hd:Nat.ble (d+1) n=true)
  (hargs:ArgsLe ⟨fr,σ⟩ xs args) (hsub:∀p∈σ1,p∈σ) (hb:HB ops i (σ.map (·.1)) (σ1.map (·.1)) held) (hK:∀x σ',R x σ'→(∀p∈σ',(∃q∈σ1,q.1=p.1)∨Fresh p.1 σ)→RD P n ops (listed.setIfInBounds i true) todo held ⟨(d,x)::fr,σ'++eO (σ1.map (·.1)) σ⟩ K):
  RD P n ops listed ((i,false)::todo) held ⟨fr,σ⟩ K:=AA hi (sH hf h (dL hd) hargs hsub hK) (fun r hr=>by obtain⟨p,hp,rfl⟩:=List.mem_map.1 hr;exact List.mem_map.2 ⟨p,hsub p hp,rfl⟩) hb
theorem dcp{e tS:TypeId}{by_:Nat}{zv:Value}{r off len m:Nat}{et:TypeId}{es ys es':List (List AV)}(hi:ops[i]? =some ⟨some d,.call { callee:=.builtin .copy,args:=#[x,y],argTypes:=#[t,tS] },ty,pos,af,none⟩)(i1:Ty P t (.slice e))(i2:Tz P e 1 by_ zv)(hx:aev ⟨fr,σ⟩ x=some (.own r off len))(hs:SSet σ r (.arr et 1 es) r (.arr et 1 es') σ')(hle:off+len≤es.length)(hy:Src ⟨fr,σ⟩ y 1 ys)(hm:m=min ys.length len)
  (he:es'=es.take off++ys.take m++es.drop (off+m)) (hd:Nat.ble (d+1) n=true) (hb:HB ops i (σ.map (·.1)) [r] held) (hK:RD P n ops (listed.setIfInBounds i true) todo held ⟨(d,.int .i64 m)::fr,σ'⟩ K):RD P n ops listed ((i,false)::todo) held ⟨fr,σ⟩ K:=by
 subst he;refine AA hi (QD hx hs.get hle hy hm (dL hd) (FL (s:=⟨_,_⟩) (fun p hp=>hs.sub p hp) hK)) (fun q hq=> ?_) hb;obtain rfl:=List.mem_singleton.1 hq;exact List.mem_map.2 ⟨_,cE hs.get,rfl⟩
end
theorem SR.retold {M:Mp}{F:Nat→Prop}{N:Nat}{w:World}{σ σ':dU}(h:SR M F N w σ)(hs:∀p∈σ',(∃x,(p.1,x)∈σ)∧ER M F w p.1 p.2):SR M F N w σ':=by
 refine⟨fun p hp=>(hs p hp).2,fun p hp q hq g h1 h2=> ?_, ?_,h.flt,h.fresh⟩
 ·obtain⟨x,hx⟩:=(hs p hp).1;obtain⟨y,hy⟩:=(hs q hq).1;exact h.inj (p.1,x) hx (q.1,y) hy g h1 h2
 ·rintro g ⟨p,hp,hg⟩;obtain⟨x,hx⟩:=(hs p hp).1;exact h.nof g ⟨_,hx,hg⟩
theorem Ext.retold {M:Mp}{F:Nat→Prop}{N:Nat}{w:World}{σ σ':dU}(hs:∀p∈σ',∃x,(p.1,x)∈σ):Ext M F N w σ M F N w σ':=by
 refine⟨fun _ _ h=>h,fun _ h=>h,Nat.le_refl _,Only.refl _ _, ?_,fun _ h=>.inl h, ?_⟩
 ·rintro g ⟨p,hp,hg⟩ _;obtain⟨x,hx⟩:=hs p hp;exact⟨_,hx,hg⟩
 ·intro p hp _;obtain⟨x,hx⟩:=hs p hp;exact⟨_,hx,rfl⟩
theorem cO{P:Program}{n:Nat}{ks:List Nat}{s:ASt}{c:Code}{Q:Exit→ASt→Prop}(r off:Nat)(e:TypeId)(sz:Nat)(h0:0<sz){bt:TypeId}{cs:List AV}{z:Nat}{k:Rk}(hg:gJ s.σ r=some (.box bt cs))(hx:cs[off]? =some (.ro z [] k))(hk:k≠ .any)
  (h:∀q,Fresh q s.σ→∃σ',SSet s.σ r (.box bt cs) r (.box bt (cs.set off (.own q 0 0))) σ'∧SW P n ks c ⟨s.fr,(q,.arr e sz [])::σ'⟩ Q):SW P n ks c s Q:=by
 intro M F N a w hr;have hE:ER (gK M N .virt) F w N (.arr e sz []):=⟨h0,fun x hx=>by simp at hx,.inl ⟨cY _,rfl⟩⟩
 obtain⟨r1,e1,n1⟩:=hr.new_ (w':=w) .virt (.arr e sz []) (fun _ _=>rfl) ⟨rfl,rfl,rfl⟩ (Nat.le_refl _) (fun g hg=>by simp[cG,cY]at hg) hE;obtain⟨σ',hs,hK⟩:=h N n1;have hmem:∀p∈(N,Ent.arr e sz [])::σ',∃x,(p.1,x)∈(N,Ent.arr e sz [])::s.σ:=by
  intro p hp;rcases List.mem_cons.1 hp with rfl|hp
  ·exact⟨_,List.mem_cons_self⟩
  ·rcases List.mem_cons.1 (hs.sub p hp)with rfl|hp
   ·exact⟨_,List.mem_cons_of_mem _ (cE hg)⟩
   ·exact⟨_,List.mem_cons_of_mem _ (gB hp).1⟩
 have hr2:Rel (gK M N .virt) F (N+1) n ⟨s.fr,(N,.arr e sz [])::σ'⟩ a w:=by
  refine⟨r1.size,r1.defers,r1.fr,r1.st.retold fun p hp=>⟨hmem p hp, ?_⟩⟩;rcases List.mem_cons.1 hp with rfl|hp
  ·exact hE
  ·rcases List.mem_cons.1 (hs.sub p hp)with rfl|hp
   ·obtain⟨g,vs,h1,h2,h3,h4⟩:=r1.st.ent _ (List.mem_cons_of_mem _ (cE hg));refine⟨g,vs,by simpa using h1,h2,by simpa using h3,fun j b u hj hu=> ?_⟩;by_cases hjo:off=j
    ·subst hjo;have hlt:off<cs.length:=(List.getElem?_eq_some_iff.1 hx).1;rw[List.getElem?_set_self hlt]at hj;obtain rfl:=Option.some.inj hj;have hv:=h4 off _ u hx hu;cases hv with
     |@ro _ _ b o _ cap us hb hs hc hrr hle hm hf hn=>
      cases k with
      |nil=>exact absurd rfl hn
      |full=>have:=hf rfl;simp at this;subst this;exact .own0
      |any=>exact absurd rfl hk
     |ro0 hm hA hf hn=>
      cases k with
      |nil=>obtain rfl:=hn rfl;obtain rfl:=hA rfl;exact .own0
      |full=>obtain rfl:=hf rfl;exact .own0
      |any=>exact absurd rfl hk
    ·rw[List.getElem?_set_ne hjo]at hj;exact h4 j b u hj hu
   ·exact r1.st.ent p (List.mem_cons_of_mem _ (gB hp).1)
 refine wp_mono (hK _ F _ a w hr2) ?_;rintro e' a' w' ⟨M',F',N',s2,h1,h2,h3⟩;exact⟨M',F',N',s2,h1,(e1.trans (Ext.retold hmem)).trans h2,h3⟩
section
variable {P : Program} {n : Nat} {ks : List Nat} {s : ASt} {Q : Exit → ASt → Prop}
theorem cs{x y:Code}(h:SW P n ks x s (fH (fun s'=>SW P n ks y s' Q) Q)):SW P n ks (.seq x y) s Q:=aBb h
theorem cb{id:Nat}{c:Code}(h:SW P n ks c s (eH id Q)):SW P n ks (.block id c) s Q:=aBc h
theorem ck(h:Q .normal s):SW P n ks .skip s Q:=LD h
theorem cr(h:Q .ret s):SW P n ks .ret s Q:=aHi h
theorem cx{id:Nat}(h:Q (.exit id) s):SW P n ks (.exit id) s Q:=aDQ h
theorem lp{β:Type}{c:Code}(st:β→ASt)(ok:β→Prop)(ms:β→Nat)(b0:β)(h0:SGo s (st b0))(hok:ok b0)(round:∀b,ok b→SW P n ks c (st b) (fH (fun s2=>∃b',ok b'∧ms b'<ms b∧SGo s2 (st b')) Q)):SW P n ks (.loop c) s Q:=
 aDS (fun m s=>∃b,ok b∧ms b=m∧st b=s) (ms b0) ⟨_,h0,b0,hok,rfl,rfl⟩ (by
  rintro m s' ⟨b,hb,rfl,rfl⟩;refine zX (round b hb) fun e s2 h=> ?_
  cases e<;>first|exact h|(obtain⟨b',h1,h2,h3⟩:=h;exact⟨_,_,h3,h2,b',h1,rfl,rfl⟩))
theorem ct{c:Operand}{x y:Code}(hc:aev s c=some (.bool true))(h:SW P n ks x s Q):SW P n ks (.cond c x y) s Q:=LJ hc h
theorem cf{c:Operand}{x y:Code}(hc:aev s c=some (.bool false))(h:SW P n ks y s Q):SW P n ks (.cond c x y) s Q:=IE hc h
end
theorem an{K:ASt→Prop}{Q:Exit→ASt→Prop}{s:ASt}(h:K s):fH K Q .normal s:=h
theorem ae{K:ASt→Prop}{Q:Exit→ASt→Prop}{s:ASt}{i:Nat}(h:Q (.exit i) s):fH K Q (.exit i) s:=h
theorem ar{K:ASt→Prop}{Q:Exit→ASt→Prop}{s:ASt}(h:Q .ret s):fH K Q .ret s:=h
theorem bn{i:Nat}{Q:Exit→ASt→Prop}{s:ASt}(h:Q .normal s):eH i Q .normal s:=h
theorem bh{i:Nat}{Q:Exit→ASt→Prop}{s:ASt}(h:Q .normal s):eH i Q (.exit i) s:=UL h
theorem be{i j:Nat}{Q:Exit→ASt→Prop}{s:ASt}(hne:(j==i)=false)(h:Q (.exit j) s):eH i Q (.exit j) s:=aBh hne h
theorem br{i:Nat}{Q:Exit→ASt→Prop}{s:ASt}(h:Q .ret s):eH i Q .ret s:=h
theorem QG{P:Program}{n:Nat}{ops:Array Oper}{rest:List Oper}{s:ASt}{K:ASt→Prop}(r off:Nat)(e:TypeId)(sz:Nat)(h0:0<sz){bt:TypeId}{cs:List AV}{z:Nat}{k:Rk}(hg:gJ s.σ r=some (.box bt cs))(hx:cs[off]? =some (.ro z [] k))(hk:k≠ .any)
  (h:∀q,Fresh q s.σ→∃σ',SSet s.σ r (.box bt cs) r (.box bt (cs.set off (.own q 0 0))) σ'∧RS P n ops rest ⟨s.fr,(q,.arr e sz [])::σ'⟩ K):RS P n ops rest s K:=by
 intro M F N a w hr;have hE:ER (gK M N .virt) F w N (.arr e sz []):=⟨h0,fun x hx=>by simp at hx,.inl ⟨cY _,rfl⟩⟩
 obtain⟨r1,e1,n1⟩:=hr.new_ (w':=w) .virt (.arr e sz []) (fun _ _=>rfl) ⟨rfl,rfl,rfl⟩ (Nat.le_refl _) (fun g hg=>by simp[cG,cY]at hg) hE;obtain⟨σ',hs,hK⟩:=h N n1;have hmem:∀p∈(N,Ent.arr e sz [])::σ',∃x,(p.1,x)∈(N,Ent.arr e sz [])::s.σ:=by
  intro p hp;rcases List.mem_cons.1 hp with rfl|hp
  ·exact⟨_,List.mem_cons_self⟩
  ·rcases List.mem_cons.1 (hs.sub p hp)with rfl|hp
   ·exact⟨_,List.mem_cons_of_mem _ (cE hg)⟩
   ·exact⟨_,List.mem_cons_of_mem _ (gB hp).1⟩
 have hr2:Rel (gK M N .virt) F (N+1) n ⟨s.fr,(N,.arr e sz [])::σ'⟩ a w:=by
  refine⟨r1.size,r1.defers,r1.fr,r1.st.retold fun p hp=>⟨hmem p hp, ?_⟩⟩;rcases List.mem_cons.1 hp with rfl|hp
  ·exact hE
  ·rcases List.mem_cons.1 (hs.sub p hp)with rfl|hp
   ·obtain⟨g,vs,h1,h2,h3,h4⟩:=r1.st.ent _ (List.mem_cons_of_mem _ (cE hg));refine⟨g,vs,by simpa using h1,h2,by simpa using h3,fun j b u hj hu=> ?_⟩;by_cases hjo:off=j
    ·subst hjo;have hlt:off<cs.length:=(List.getElem?_eq_some_iff.1 hx).1;rw[List.getElem?_set_self hlt]at hj;obtain rfl:=Option.some.inj hj;have hv:=h4 off _ u hx hu;cases hv with
     |@ro _ _ b o _ cap us hb hs hc hrr hle hm hf hn=>
      cases k with
      |nil=>exact absurd rfl hn
      |full=>have:=hf rfl;simp at this;subst this;exact .own0
      |any=>exact absurd rfl hk
     |ro0 hm hA hf hn=>
      cases k with
      |nil=>obtain rfl:=hn rfl;obtain rfl:=hA rfl;exact .own0
      |full=>obtain rfl:=hf rfl;exact .own0
      |any=>exact absurd rfl hk
    ·rw[List.getElem?_set_ne hjo]at hj;exact h4 j b u hj hu
   ·exact r1.st.ent p (List.mem_cons_of_mem _ (gB hp).1)
 exact kR (PostN.ext (e1.trans (Ext.retold hmem))) (hK _ F _ a w hr2)
theorem tJ{e:Nat}{σ1 σ:dU}(h:(∃q∈σ1,q.1=e)∨Fresh e σ):Fresh e (eO (σ1.map (·.1)) σ):=by
 intro p hp;obtain⟨h1,h2⟩:=gB hp;rcases h with⟨q,hq,rfl⟩|h
 ·exact fun e=>h2 (e▸List.mem_map.2 ⟨q,hq,rfl⟩)
 ·exact h p h1
def aH (n:Nat):List AV:=[.int .u8 n]
def dE (bs:List Nat):ByteArray:=⟨(bs.map UInt8.ofNat).toArray⟩
theorem DF(bs:List Nat):(dE bs).toList=bs.map UInt8.ofNat:=by
 rw[Go.ByteArray.toList_eq];simp[dE]
theorem UN(ns:List Nat):∀acc:ByteArray,(ns.map Int.ofNat).foldl (fun r n=>r.push (UInt8.ofNat n.toNat)) acc=⟨acc.data++(ns.map UInt8.ofNat).toArray⟩:=by
 induction ns with
 |nil=>intro acc;simp
 |cons n ns ih=>
  intro acc;rw[List.map_cons,List.foldl_cons,ih];simp[ByteArray.push]
theorem aDX(ns:List Nat):(ns.map Int.ofNat).foldl (fun r n=>r.push (UInt8.ofNat n.toNat)) ByteArray.empty=dE ns:=by
 rw[UN];simp[dE,ByteArray.empty,ByteArray.emptyWithCapacity];rfl
theorem aHq{a b:Nat}(ha:a<256)(hb:b<256)(h:UInt8.ofNat a=UInt8.ofNat b):a=b:=by
 have:=congrArg UInt8.toNat h;simp at this;omega
theorem qM:∀ {l m:List Nat},(∀x∈l,x<256)→(∀x∈m,x<256)→((dE l).toList==(dE m).toList)=decide (l=m):=by
 intro l m hl hm;rw[DF,DF];by_cases h:l=m
 ·subst h;simp
 ·rw[decide_eq_false h,beq_eq_false_iff_ne];intro e;apply h;clear h
  induction l generalizing m with
  |nil=>cases m<;>first|rfl|simp at e
  |cons a l ih=>
   cases m with
   |nil=>simp at e
   |cons b m=>
    simp only[List.map_cons,List.cons.injEq]at e;rw[aHq (hl a (by simp)) (hm b (by simp)) e.1,ih (fun x hx=>hl x (by simp[hx])) (fun x hx=>hm x (by simp[hx])) e.2]
section
variable {P : Program} {ty : TypeId} {s : ASt} {c : Bool} {t t' e : TypeId} {x y : Operand}
theorem oH{w:World} [Ty P t (.slice e)] [Ty P e (.int .u8)] [Ty P t' .string] {ρ:Operand→Value}{o:Oper}(ho:o.op=.convert t t' x){A:Option Addr}{cap:Nat}{bs:List Nat}(hx:ρ x=.slice A bs.length cap)(hn:A=none→bs=[])
  (hc:∀p,A=some p→∀(j:Nat) (n:Nat),bs[j]? =some n→w.cell? (p.add j)=some (.int .u8 n)):(execOp ρ o).run P w=.ok (.value (.string (dE bs))) w:=by
 have h1:(Conv.bytesToString (.slice A bs.length cap)).run P w=.ok (.string (dE bs)) w:=by
  cases A with
  |none=>
   obtain rfl:=hn rfl;simp[Conv.bytesToString,dE,ByteArray.empty,ByteArray.emptyWithCapacity];rfl
  |some p=>
   have hl:=run_loadCells_list (P:=P) (w:=w) p ((bs.map Int.ofNat).map (Value.int .u8)) (fun j v hj=>by
    rw[List.getElem?_map,List.getElem?_map,Option.map_map]at hj;obtain⟨n,hn,rfl⟩:=Option.map_eq_some_iff.1 hj;exact hc p rfl j n hn)
   rw[List.length_map,List.length_map]at hl;rw[run_bytesToString w p bs.length cap (bs.map Int.ofNat) hl,aDX]
 simp only[execOp,ho,hx,Sem.run_bind,run_convert_bytes_string w t t' e A bs.length cap (Ty.und (P:=P) (t:=t)) (Ty.und (P:=P) (t:=e)) (Ty.und (P:=P) (t:=t')),h1,Result.andThen_ok,Sem.run_pure]
theorem tK [Ty P t (.slice e)] [Ty P e (.int .u8)] [Ty P t' .string] {bs:List Nat}{k:Rk}(h:Ev s c x (.ro 1 (bs.map aH) k)):Lop P (.convert t t' x) ty s c (.str (dE bs)) []:=by
 refine⟨fun r hr=>by simp at hr,fun M F N n a w hr hc=>⟨_,.str _,fun w' o ho _ hsame=> ?_⟩⟩;have e1:=h.vr hr hc;generalize hu:a.eval x=u at e1;generalize hes:bs.map aH=es at e1;cases e1 with
 |@ro _ _ b o' _ cap us hb hs hcc hrr hle hm hf hn=>
  subst hes;refine oH (e:=e) ho (by rw[hu,List.length_map]) (fun h=>by cases h) (fun p hp j n hj=> ?_);cases hp
  have h1:=hcc j (aH n) 0 (.int .u8 n) (by rw[List.getElem?_map,hj];rfl) rfl;have h2:=hrr j (aH n) 0 (.int .u8 n) (by rw[List.getElem?_map,hj];rfl) rfl;rw[Addr.add_lit,World.cell?_of_block (w:=w) (w':=w') (hsame b (.inl hb))];rw[Nat.mul_one,Nat.add_zero]at h1;rw[h1];generalize us j 0=q at h2;cases h2
  rfl
 |@ro0 _ _ A cap hm hA hf hn=>
  have:bs=[]:=by simpa using hes
  subst this;exact oH (e:=e) ho (A:=A) (cap:=cap) hu (fun _=>rfl) (fun p _ j n hj=>by simp at hj)
theorem IG [Ty P t (.slice e)] [Ty P e (.int .u8)] [Ty P t' .string] {bs bs':List Nat}{r off len:Nat}{et:TypeId}(h:Ev s c x (.own r off len))(hg:gJ s.σ r=some (.arr et 1 (bs.map aH)))(hle:off+len≤bs.length)(hbs:(bs.drop off).take len=bs'):Lop P (.convert t t' x) ty s c (.str (dE bs')) [r]:=by
 subst hbs;refine⟨fun q hq=>⟨_,cE hg,(List.mem_singleton.1 hq).symm⟩,fun M F N n a w hr hc=>⟨_,.str _,fun w' o ho _ hsame=> ?_⟩⟩;have e1:=h.vr hr hc;have hl:((bs.drop off).take len).length=len:=by simp;omega
 generalize hu:a.eval x=u at e1;obtain⟨h0,hrows,h3⟩:=hr.st.ent _ (cE hg);cases e1 with
 |own hM hle' hm=>
  rcases h3 with⟨hv',_⟩|⟨g,cc,vs,hM',hcl,hsz,hlc,hmax,hvr⟩
  ·rw[hM]at hv';cases hv'
  ·have hg':=hM'.symm.trans hM;simp only[Option.some.injEq,Blk'.row.injEq]at hg';obtain⟨q1,q2,q3⟩:=hg';subst q1;subst q2;subst q3;refine oH (e:=e) ho (by rw[hu,hl]) (fun h=>by cases h) (fun p hp j n hj=> ?_);cases hp
   rw[Addr.add_lit,World.cell?_of_block (w:=w) (w':=w') (hsame g (.inr ⟨r,by simp,by simp[cG,hM]⟩)),hcl.cell];have hj2:bs[off+j]? =some n:=by
    rw[List.getElem?_take]at hj;split at hj
    ·rwa [List.getElem?_drop]at hj
    ·cases hj
   have hjl:=(List.getElem?_eq_some_iff.1 hj2).1;rw[List.length_map]at hlc;have hlt:off*1+j<vs.size:=by omega
   have h1:=hvr (off+j) (aH n) 0 (.int .u8 n) vs[off*1+j] (by rw[List.getElem?_map,hj2];rfl) rfl (by rw[show(off+j)*1+0=off*1+j by omega];exact Array.getElem?_eq_getElem hlt);rw[Array.getElem?_eq_getElem hlt];generalize vs[off*1+j]=q at h1;cases h1
   rfl
 |own0=>
  refine oH (e:=e) ho (by rw[hu,hl]) (fun _=>by simp) (fun p _ j n hj=>by simp at hj)
end
theorem eZ{P:Program}{n:Nat}{ops:Array Oper}{fr:Fr}{σ:dU}{K:ASt→Prop}{op:Op}{ty:TypeId}{pos:String}{af:Array Edge}{listed:Array Bool}{todo:List (Nat×Bool)}{held:List (Nat×List Nat)}{i d j dj:Nat}{want:Bool}{v:AV}{rs:List Nat}(hi:ops[i]? =some ⟨some d,op,ty,pos,af,some (j,want)⟩)(hj:(ops[j]?).bind (·.dst)=some dj)(hb:dY fr dj=some (.bool want))(h:Lop P op ty ⟨fr,σ⟩ true v rs)(hd:Nat.ble (d+1) n=true)
  (hK:RD P n ops (listed.setIfInBounds i true) todo ((i,rs)::held) ⟨(d,v)::fr,σ⟩ K):RD P n ops listed ((i,true)::todo) held ⟨fr,σ⟩ K:=LH hi hj hb h (dL hd) hK
inductive FDel (t:Nat):Fr→Fr→Prop
 |nil:FDel t [] []
 |hit {x:AV} {l l':Fr} (h:FDel t l l'):FDel t ((t,x)::l) l'
 |miss {i:Nat} {x:AV} {l l':Fr} (hne:(i==t)=false) (h:FDel t l l'):FDel t ((i,x)::l) ((i,x)::l')
theorem FDel.get {t:Nat}{l l':Fr}(h:FDel t l l'):∀i x,dY l' i=some x→i≠t∧dY l i=some x:=by
 induction h with
 |nil=>intro i x h;simp[dY]at h
 |hit _ ih=>
  intro i x h;obtain⟨h1,h2⟩:=ih i x h;exact⟨h1,by simp only[dY];rw[if_neg h1];exact h2⟩
 |@miss j y l l' hne _ ih=>
  intro i x h;simp only[dY]at h⊢;split at h
  ·next e=>subst e;exact⟨by simpa using hne,by rw[if_pos rfl];exact h⟩
  ·next e=>obtain⟨h1,h2⟩:=ih i x h;exact⟨h1,by rw[if_neg e];exact h2⟩
theorem fD{P:Program}{n:Nat}{ks:List Nat}{fr fr0:Fr}{σ:dU}{t:Nat}{b c:Bool}{y rest:Code}{Q Q':Exit→ASt→Prop}(hx:dY fr t=some (.bool b))(hd:FDel t fr fr0)(h2:b=false→SW P n ks y ⟨fr,σ⟩ (fH (fun s2=>SGo s2 ⟨(t,.bool c)::fr0,σ⟩) Q'))(h:SW P n ks rest ⟨(t,.bool (b||c))::fr0,σ⟩ Q):
  SW P n ks (.cond (.tmp t) .skip y) ⟨fr,σ⟩ (fH (fun s'=>SW P n ks rest s' Q) Q'):=by
 have key:∀(fr':Fr) (x:Bool),dY fr' t=some (.bool x)→x=(b||c)→(∀i z,dY fr0 i=some z→dY fr' i=some z)→SGo ⟨fr',σ⟩ ⟨(t,.bool (b||c))::fr0,σ⟩:=fun fr' x hxx he ho=>SGo.of_le (fun j z hj=>by
  simp only[dY]at hj⊢;split at hj
  ·next e=>subst e;obtain rfl:=Option.some.inj hj;exact⟨_,hxx,by rw[he];exact VLe.refl _⟩
  ·next e=>exact⟨z,ho j z hj,VLe.refl _⟩) (fun _ h=>h)
 refine aB (b:=b) hx (fun hb=> ?_) (fun hb=> ?_)
 ·exact LD (dZ (key fr b hx (by rw[hb];rfl) (fun i z hz=>(hd.get i z hz).2)) h)
 ·refine zX (h2 hb) fun e s2 hs=> ?_
  cases e<;>first|exact hs|skip
  refine dZ (SGo.trans hs (key _ c (by simp[dY]) (by rw[hb];rfl) (fun i z hz=>by
   have:=(hd.get i z hz).1;simp only[dY];rw[if_neg this];exact hz))) h
theorem eD{P:Program}{n:Nat}{ks:List Nat}{fr fr0:Fr}{σ:dU}{t:Nat}{b c:Bool}{y:Code}{s0:ASt}{Q':Exit→ASt→Prop}(hx:dY fr t=some (.bool b))(hd:FDel t fr fr0)(h2:b=false→SW P n ks y ⟨fr,σ⟩ (fH (fun s2=>SGo s2 ⟨(t,.bool c)::fr0,σ⟩) Q'))(h:SGo ⟨(t,.bool (b||c))::fr0,σ⟩ s0):
  SW P n ks (.cond (.tmp t) .skip y) ⟨fr,σ⟩ (fH (fun s2=>SGo s2 s0) Q'):=by
 refine aB (b:=b) hx (fun hb=> ?_) (fun hb=> ?_)
 ·refine LD (SGo.trans (s':=⟨(t,.bool (b||c))::fr0,σ⟩) (SGo.of_le (fun j z hj=> ?_) (fun _ h=>h)) h);simp only[dY]at hj;split at hj
  ·next e=>subst e;obtain rfl:=Option.some.inj hj;exact⟨_,hx,by rw[hb];exact VLe.refl _⟩
  ·next e=>exact⟨z,(hd.get j z hj).2,VLe.refl _⟩
 ·refine zX (h2 hb) fun e s2 hs=> ?_
  cases e<;>first|exact hs|skip
  refine SGo.trans hs (SGo.trans (s':=⟨(t,.bool (b||c))::fr0,σ⟩) (SGo.of_le (fun j z hj=> ?_) (fun _ h=>h)) h);simp only[dY]at hj⊢;split at hj
  ·next e=>subst e;obtain rfl:=Option.some.inj hj;exact⟨_,by rw[if_pos rfl],by rw[hb];exact VLe.refl _⟩
  ·next e=>exact⟨z,by rw[if_neg e];exact hj,VLe.refl _⟩
theorem UO{P:Program}{n:Nat}{ks:List Nat}{s:ASt}{Q Q':Exit→ASt→Prop}{β:Type}{x y:Code}(st:β→ASt)(ok:β→Prop)(hx:SW P n ks x s (fH (fun s2=>∃b,ok b∧SGo s2 (st b)) Q'))(hy:∀b,ok b→SW P n ks y (st b) Q):SW P n ks x s (fH (fun s'=>SW P n ks y s' Q) Q'):=
 zX hx fun e s2 h=>by cases e<;>first|exact h|(obtain⟨b,h1,h2⟩:=h;exact dZ h2 (hy b h1))
theorem QH{p:Nat→Prop}:∀(n m:Nat),m≤n→p m→∃k,p k∧∀j,p j→k≤j
 |0,m,hm,h=>⟨0,by rwa [show m=0 by omega]at h,fun j _=>Nat.zero_le _⟩
 |n+1,m,hm,h=>by
  by_cases hc:∃j,j≤n∧p j
  ·obtain⟨j,h1,h2⟩:=hc;exact QH n j h1 h2
  ·refine⟨m,h,fun j hj=> ?_⟩;by_cases hjm:m≤j
   ·exact hjm
   ·exact absurd ⟨j,by omega,hj⟩ hc
theorem FM{P:Program}{a:Act}{w:World}{Q:Exit→Act→World→Prop}{c rest:Code}(l:Nat)(J:Nat→Act→World→Prop)(hf:findLabel c l=some rest)
  (first:c.wp P (Exit.jump l (fun a w=>∃m,J m a w) Q) a w)
  (pass:∀m a w,J m a w→rest.wp P (Exit.jump l (fun a' w'=>∃m',m'<m∧J m' a' w') Q) a w):(Code.scope c).wp P Q a w:=by
 have hm:∀a w,∃k,∀m,J m a w→J k a w∧k≤m:=by
  intro a w;by_cases h:∃m,J m a w
  ·obtain⟨m,h⟩:=h;obtain⟨k,h1,h2⟩:=QH (p:=fun m=>J m a w) m m (Nat.le_refl _) h;exact⟨k,fun j hj=>⟨h1,h2 j hj⟩⟩
  ·exact⟨0,fun m hj=>absurd ⟨m,hj⟩ h⟩
 refine wp_scope_jumps l (fun a w=>∃m,J m a w) (fun a w=>(hm a w).choose) hf first ?_
 rintro a w ⟨m,h⟩;obtain⟨h1,-⟩:=(hm a w).choose_spec m h;refine wp_mono (pass _ a w h1) ?_;intro e a' w' hq;cases e<;>first|exact hq|skip
 obtain⟨h2,m',h3,h4⟩:=hq;exact⟨h2,⟨m',h4⟩,Nat.lt_of_le_of_lt ((hm a' w').choose_spec m' h4).2 h3⟩
def QI (l:Nat) (J:ASt→Prop) (Q:Exit→ASt→Prop):Exit→ASt→Prop
 | .goto l',s=>l'=l∧J s
 |e,s=>Q e s
section
variable {P : Program} {n : Nat} {ks : List Nat} {s : ASt} {Q : Exit → ASt → Prop}
theorem scj{β:Type}{c body:Code}(l:Nat)(hf:findLabel c l=some (.seq .skip body))(st:β→ASt)(ok:β→Prop)(ms:β→Nat)
  (pass:∀b,ok b→SW P n ks body (st b) (QI l (fun s2=>∃b',ok b'∧ms b'<ms b∧SGo s2 (st b')) Q))
  (first:(∀b s',ok b→SGo s' (st b)→SW P n ks (.seq (.label l) body) s' (QI l (fun s2=>∃b',ok b'∧SGo s2 (st b')) Q))→SW P n ks c s (QI l (fun s2=>∃b',ok b'∧SGo s2 (st b')) Q)):SW P n ks (.scope c) s Q:=by
 have hfirst:=first fun b s' hb hgo=>dZ hgo (aBb (aBa (zX (pass b hb) fun e s2 h=>by
  cases e<;>first|exact h|skip
  obtain⟨h1,b',h2,-,h3⟩:=h;exact⟨h1,b',h2,h3⟩)))
 intro M F N a w hr;refine FM l (fun m a' w'=>∃M' F' N' b,ok b∧ms b=m∧Rel M' F' N' n (st b) a' w'∧Ext M F N w s.σ M' F' N' w' (st b).σ) hf ?_ ?_
 ·refine wp_mono (hfirst M F N a w hr) ?_;rintro e a' w' ⟨M',F',N',s',h1,h2,h3⟩;cases e<;>first|exact⟨M',F',N',s',h1,h2,h3⟩|skip
  obtain⟨h3,b,h4,h5⟩:=h3;obtain⟨M2,F2,N2,r2,e2⟩:=h5 M' F' N' n a' w' h1;exact⟨h3,_,M2,F2,N2,b,h4,rfl,r2,h2.trans e2⟩
 ·rintro m a' w' ⟨M1,F1,N1,b,hb,rfl,r1,e1⟩;refine wp_seq (wp_skip ?_);refine wp_mono (pass b hb M1 F1 N1 a' w' r1) ?_;rintro e a2 w2 ⟨M',F',N',s',h1,h2,h3⟩;cases e<;>first|exact⟨M',F',N',s',h1,e1.trans h2,h3⟩|skip
  obtain⟨h3,b',h4,h6,h5⟩:=h3;obtain⟨M2,F2,N2,r2,e2⟩:=h5 M' F' N' n a2 w2 h1;exact⟨h3,_,h6,M2,F2,N2,b',h4,rfl,r2,e1.trans (h2.trans e2)⟩
theorem cg{l:Nat}(h:Q (.goto l) s):SW P n ks (.goto l) s Q:=aDR h
end
theorem ag{K:ASt→Prop}{Q:Exit→ASt→Prop}{s:ASt}{i:Nat}(h:Q (.goto i) s):fH K Q (.goto i) s:=h
theorem bg{i j:Nat}{Q:Exit→ASt→Prop}{s:ASt}(h:Q (.goto j) s):eH i Q (.goto j) s:=h
theorem jg{J:ASt→Prop}{Q:Exit→ASt→Prop}{s:ASt}{l:Nat}(h:J s):QI l J Q (.goto l) s:=⟨rfl,h⟩
theorem jr{J:ASt→Prop}{Q:Exit→ASt→Prop}{s:ASt}{l:Nat}(h:Q .ret s):QI l J Q .ret s:=h
theorem iJ{P:Program}{f:FuncId}{e:TypeId}{sz z:Nat}{args:List AV}{σ:dU}{R:AV→dU→Prop}(h0:0<sz)(h:∀q,Fresh q σ→SCall P f (.own q 0 0::args) ((q,.arr e sz [])::σ) R):SCall P f (.ro z [] .nil::args) σ R:=by
 intro M F N w vs hl hv hs;have hr:Rel M F N 0 ⟨[],σ⟩ ⟨#[],[]⟩ w:=⟨rfl,rfl,fun i x hi=>by simp[dY]at hi,hs⟩
 have hE:ER (gK M N .virt) F w N (.arr e sz []):=⟨h0,fun x hx=>by simp at hx,.inl ⟨cY _,rfl⟩⟩
 obtain⟨r1,e1,n1⟩:=hr.new_ (w':=w) .virt (.arr e sz []) (fun _ _=>rfl) ⟨rfl,rfl,rfl⟩ (Nat.le_refl _) (fun g hg=>by simp[cG,cY]at hg) hE;refine(h N n1 (gK M N .virt) F (N+1) w vs (by simpa using hl) ?_ r1.st).mono ?_
 ·intro i x v hx hvv;cases i with
  |zero=>
   obtain rfl:AV.own N 0 0=x:=by simpa using hx
   have hv0:=hv 0 _ v rfl hvv;cases hv0 with
   |@ro _ _ b o _ cap us hb hs hc hrr hle hm hf hn=>exact absurd rfl hn
   |ro0 hm hA hf hn=>
    obtain rfl:=hn rfl;obtain rfl:=hA rfl;exact .own0
  |succ i=>exact VR.mono e1.mm e1.ff (fun _ _=>rfl) (hv (i+1) x v (by simpa using hx) hvv)
 ·rintro e' w' ⟨v,x,M',F',N',σ',k1,k2,k3,k4,k5⟩;exact⟨v,x,M',F',N',σ',k1,e1.trans k2,k3,k4,k5⟩
section
variable {P : Program} {ty : TypeId} {s : ASt} {c : Bool} {t : TypeId} {x y : Operand}
theorem ZK{e k:Nat}{d:TypeDesc} [Ty P t (.array k e)] [Ty P e d] (hd:uV d=false){by_:Nat}{z:Value} [Tz P e 1 by_ z] {ki:IntKind}{m:Int}{cs:List AV}{v:AV}(h:Ev s c x (.agg cs))(hi:Ev s c y (.int ki m))(hb:c=true→0≤m∧m<k)(hv:c=true→cs[m.toNat]? =some v):Lop P (.index t x y) ty s c v []:=
 Lop.pure_ fun M F N n a w hr hc=>by
  have e1:=h.vr hr hc;have hv:=hv hc;have hb:=hb hc;obtain⟨j,hi',hz,hs,_⟩:=Tz.parts P e;generalize hu:a.eval x=u at e1;cases e1 with
  |@agg _ vs hl hh=>
   have hlt:m.toNat<vs.size:=by rw[hl];exact(List.getElem?_eq_some_iff.1 hv).1
   refine⟨vs[m.toNat],hh _ v _ hv (Array.getElem?_eq_getElem hlt),fun w' o ho _=> ?_⟩;have:=zZ (P:=P) (t:=e) hd (w:=w') (Array.getElem?_eq_getElem hlt);simp[execOp,ho,hu,hi.int hr hc,Instr.index,asIntOf,run_underlying (Ty.und (P:=P) (t:=t)),hb,sizeOf,typeInfo,hi',hs,this]
theorem aBo{e:Nat} [Ty P t (.array 3 e)] {by_ by':Nat}{z z':Value} [Tz P t 3 by_ z] [Tz P e 1 by' z'] {k:IntKind}{m0 m1 m2:Int}(h3:∃a0 a1 a2,z=.agg #[a0,a1,a2]):Lop P (.build t #[(0,.const (.int k m0)),(1,.const (.int k m1)),(2,.const (.int k m2))]) ty s c (.agg [.int k m0,.int k m1,.int k m2]) []:=by
 obtain⟨a0,a1,a2,h3⟩:=h3;refine Lop.pure_ fun M F N n a w hr hc=>⟨.agg #[.int k m0,.int k m1,.int k m2],.agg rfl (fun j b u hj hu=> ?_),fun w' o ho _=> ?_⟩
 ·rcases j with _ | _ | _ |j
  ·simp at hj hu;subst hj hu;exact .int _ _
  ·simp at hj hu;subst hj hu;exact .int _ _
  ·simp at hj hu;subst hj hu;exact .int _ _
  ·simp at hj
 ·obtain⟨i,hi,hz0,hs0,_⟩:=Tz.parts P t;obtain⟨i',hi',hz0',hs0',_⟩:=Tz.parts P e;simp[execOp,ho,Instr.build,zeroValue,typeInfo,hi,hz0,run_underlying (Ty.und (P:=P) (t:=t)),sizeOf,hi',hs0',Instr.fill,h3,Act.eval,Value.cells]
end
end Go.Proofs.YtjpdadobblffmaaGreat
namespace Go.Proofs.YtjpdadobblffmaaGreat
@[reducible] def ty2:=Ty.mk Tryz.underlying2
attribute [instance] ty2
instance tz2:Tz Tryz.prog 2 1 8 (.int .i64 0):=⟨by kernel_rfl⟩
@[reducible] def ty3:=Ty.mk Tryz.underlying3
attribute [instance] ty3
instance tz3:Tz Tryz.prog 3 1 8 (.int .i64 0):=⟨by kernel_rfl⟩
@[reducible] def ty4:=Ty.mk Tryz.underlying4
attribute [instance] ty4
instance tz4:Tz Tryz.prog 4 1 1 (.bool false):=⟨by kernel_rfl⟩
@[reducible] def ty5:=Ty.mk Tryz.underlying5
attribute [instance] ty5
instance tz5:Tz Tryz.prog 5 1 1 (.int .u8 0):=⟨by kernel_rfl⟩
@[reducible] def ty9:=Ty.mk Tryz.underlying9
attribute [instance] ty9
instance tz9:Tz Tryz.prog 9 1 16 (.string .empty):=⟨by kernel_rfl⟩
@[reducible] def aLz:=Ty.mk Tryz.underlying22
attribute [instance] aLz
instance tz22:Tz Tryz.prog 22 1 24 (.slice none 0 0):=⟨by kernel_rfl⟩
@[reducible] def aLA:=Ty.mk Tryz.underlying23
attribute [instance] aLA
instance tz23:Tz Tryz.prog 23 1 24 (.slice none 0 0):=⟨by kernel_rfl⟩
@[reducible] def aLB:=Ty.mk Tryz.underlying24
attribute [instance] aLB
instance tz24:Tz Tryz.prog 24 1 24 (.slice none 0 0):=⟨by kernel_rfl⟩
@[reducible] def aLC:=Ty.mk Tryz.underlying26
attribute [instance] aLC
instance tz26:Tz Tryz.prog 26 3 24 (.agg #[.bool false,.int .i64 0,.int .i64 0]):=⟨by kernel_rfl⟩
instance tf26:Tf Tryz.prog 26 [(0,1),(1,1),(2,1)]:=⟨by kernel_rfl⟩
@[reducible] def aLD:=Ty.mk Tryz.underlying27
attribute [instance] aLD
instance tz27:Tz Tryz.prog 27 1 24 (.slice none 0 0):=⟨by kernel_rfl⟩
@[reducible] def aLE:=Ty.mk Tryz.underlying28
attribute [instance] aLE
instance tz28:Tz Tryz.prog 28 1 24 (.slice none 0 0):=⟨by kernel_rfl⟩
@[reducible] def aLF:=Ty.mk Tryz.underlying29
attribute [instance] aLF
instance tz29:Tz Tryz.prog 29 1 24 (.slice none 0 0):=⟨by kernel_rfl⟩
@[reducible] def aLG:=Ty.mk Tryz.underlying30
attribute [instance] aLG
instance tz30:Tz Tryz.prog 30 1 24 (.slice none 0 0):=⟨by kernel_rfl⟩
@[reducible] def aLH:=Ty.mk Tryz.underlying31
attribute [instance] aLH
instance tz31:Tz Tryz.prog 31 1 24 (.slice none 0 0):=⟨by kernel_rfl⟩
@[reducible] def aLI:=Ty.mk Tryz.underlying33
attribute [instance] aLI
instance tz33:Tz Tryz.prog 33 14 240 (.agg #[.slice none 0 0,.slice none 0 0,.slice none 0 0,.bool false,.int .i64 0,.int .i64 0,.bool false,.int .i64 0,.int .i64 0,.slice none 0 0,.slice none 0 0,.slice none 0 0,.slice none 0 0,.slice none 0 0]):=⟨by kernel_rfl⟩
instance tf33:Tf Tryz.prog 33 [(0,1),(1,1),(2,1),(3,3),(6,3),(9,1),(10,1),(11,1),(12,1),(13,1)]:=⟨by kernel_rfl⟩
@[reducible] def aLJ:=Ty.mk Tryz.underlying36
attribute [instance] aLJ
instance tz36:Tz Tryz.prog 36 1 24 (.slice none 0 0):=⟨by kernel_rfl⟩
@[reducible] def aLK:=Ty.mk Tryz.underlying39
attribute [instance] aLK
instance tz39:Tz Tryz.prog 39 1 8 (.int .i64 0):=⟨by kernel_rfl⟩
@[reducible] def aLL:=Ty.mk Tryz.underlying42
attribute [instance] aLL
instance tz42:Tz Tryz.prog 42 1 24 (.slice none 0 0):=⟨by kernel_rfl⟩
@[reducible] def aLM:=Ty.mk Tryz.underlying44
attribute [instance] aLM
instance tz44:Tz Tryz.prog 44 2 48 (.agg #[.slice none 0 0,.slice none 0 0]):=⟨by kernel_rfl⟩
instance tf44:Tf Tryz.prog 44 [(0,1),(1,1)]:=⟨by kernel_rfl⟩
@[reducible] def aLN:=Ty.mk Tryz.underlying46
attribute [instance] aLN
instance tz46:Tz Tryz.prog 46 4 48 (.agg #[.int .i64 0,.int .i64 0,.int .i64 0,.slice none 0 0]):=⟨by kernel_rfl⟩
instance tf46:Tf Tryz.prog 46 [(0,1),(1,1),(2,1),(3,1)]:=⟨by kernel_rfl⟩
@[reducible] def aLO:=Ty.mk Tryz.underlying48
attribute [instance] aLO
instance tz48:Tz Tryz.prog 48 2 32 (.agg #[.int .i64 0,.slice none 0 0]):=⟨by kernel_rfl⟩
instance tf48:Tf Tryz.prog 48 [(0,1),(1,1)]:=⟨by kernel_rfl⟩
@[reducible] def aLP:=Ty.mk Tryz.underlying50
attribute [instance] aLP
instance tz50:Tz Tryz.prog 50 2 48 (.agg #[.slice none 0 0,.slice none 0 0]):=⟨by kernel_rfl⟩
instance tf50:Tf Tryz.prog 50 [(0,1),(1,1)]:=⟨by kernel_rfl⟩
@[reducible] def aLQ:=Ty.mk Tryz.underlying64
attribute [instance] aLQ
instance tz64:Tz Tryz.prog 64 3 40 (.agg #[.string .empty,.string .empty,.int .i64 0]):=⟨by kernel_rfl⟩
instance tf64:Tf Tryz.prog 64 [(0,1),(1,1),(2,1)]:=⟨by kernel_rfl⟩
@[reducible] def aLR:=Ty.mk Tryz.underlying66
attribute [instance] aLR
instance tz66:Tz Tryz.prog 66 2 24 (.agg #[.string .empty,.int .i64 0]):=⟨by kernel_rfl⟩
instance tf66:Tf Tryz.prog 66 [(0,1),(1,1)]:=⟨by kernel_rfl⟩
@[reducible] def aLS:=Ty.mk Tryz.underlying67
attribute [instance] aLS
@[reducible] def aLT:=Ty.mk Tryz.underlying69
attribute [instance] aLT
instance tz69:Tz Tryz.prog 69 2 32 (.agg #[.int .i64 0,.slice none 0 0]):=⟨by kernel_rfl⟩
instance tf69:Tf Tryz.prog 69 [(0,1),(1,1)]:=⟨by kernel_rfl⟩
@[reducible] def aLU:=Ty.mk Tryz.underlying71
attribute [instance] aLU
instance tz71:Tz Tryz.prog 71 2 16 (.agg #[.int .i64 0,.int .i64 0]):=⟨by kernel_rfl⟩
instance tf71:Tf Tryz.prog 71 [(0,1),(1,1)]:=⟨by kernel_rfl⟩
@[reducible] def aLV:=Ty.mk Tryz.underlying73
attribute [instance] aLV
instance tz73:Tz Tryz.prog 73 3 24 (.agg #[.bool false,.int .i64 0,.int .i64 0]):=⟨by kernel_rfl⟩
instance tf73:Tf Tryz.prog 73 [(0,1),(1,2)]:=⟨by kernel_rfl⟩
@[reducible] def aLW:=Ty.mk Tryz.underlying83
attribute [instance] aLW
instance tz83:Tz Tryz.prog 83 1 8 (.nilFunc):=⟨by kernel_rfl⟩
@[reducible] def aLX:=Ty.mk Tryz.underlying87
attribute [instance] aLX
@[reducible] def aJC:=Ty.mk Tryz.underlying114
attribute [instance] aJC
@[reducible] def aJD:=Ty.mk Tryz.underlying117
attribute [instance] aJD
instance tz117:Tz Tryz.prog 117 2 32 (.agg #[.slice none 0 0,.bool false]):=⟨by kernel_rfl⟩
instance tf117:Tf Tryz.prog 117 [(0,1),(1,1)]:=⟨by kernel_rfl⟩
@[reducible] def aJE:=Ty.mk Tryz.underlying126
attribute [instance] aJE
instance tz126:Tz Tryz.prog 126 1 24 (.slice none 0 0):=⟨by kernel_rfl⟩
@[reducible] def aJF:=Ty.mk Tryz.underlying128
attribute [instance] aJF
instance tz128:Tz Tryz.prog 128 18 320 (.agg #[.slice none 0 0,.slice none 0 0,.slice none 0 0,.bool false,.int .i64 0,.int .i64 0,.bool false,.int .i64 0,.int .i64 0,.slice none 0 0,.slice none 0 0,.slice none 0 0,.slice none 0 0,.slice none 0 0,.slice none 0 0,.slice none 0 0,.slice none 0 0,.bool false]):=⟨by kernel_rfl⟩
instance tf128:Tf Tryz.prog 128 [(0,14),(14,1),(15,1),(16,1),(17,1)]:=⟨by kernel_rfl⟩
@[reducible] def aJG:=Ty.mk Tryz.underlying130
attribute [instance] aJG
@[reducible] def aJH:=Ty.mk Tryz.underlying134
attribute [instance] aJH
@[reducible] def aJI:=Ty.mk Tryz.underlying137
attribute [instance] aJI
instance tz137:Tz Tryz.prog 137 4 32 (.agg #[.int .i64 0,.int .i64 0,.int .i64 0,.bool false]):=⟨by kernel_rfl⟩
instance tf137:Tf Tryz.prog 137 [(0,1),(1,1),(2,1),(3,1)]:=⟨by kernel_rfl⟩
@[reducible] def aJJ:=Ty.mk Tryz.underlying140
attribute [instance] aJJ
instance tz140:Tz Tryz.prog 140 1 24 (.slice none 0 0):=⟨by kernel_rfl⟩
@[reducible] def aJK:=Ty.mk Tryz.underlying142
attribute [instance] aJK
instance tz142:Tz Tryz.prog 142 20 352 (.agg #[.slice none 0 0,.slice none 0 0,.slice none 0 0,.bool false,.int .i64 0,.int .i64 0,.bool false,.int .i64 0,.int .i64 0,.slice none 0 0,.slice none 0 0,.slice none 0 0,.slice none 0 0,.slice none 0 0,.slice none 0 0,.slice none 0 0,.slice none 0 0,.int .i64 0,.slice none 0 0,.bool false]):=⟨by kernel_rfl⟩
instance tf142:Tf Tryz.prog 142 [(0,14),(14,1),(15,1),(16,1),(17,1),(18,1),(19,1)]:=⟨by kernel_rfl⟩
@[reducible] def aJL:=Ty.mk Tryz.underlying146
attribute [instance] aJL
@[reducible] def aJM:=Ty.mk Tryz.underlying148
attribute [instance] aJM
@[reducible] def aJN:=Ty.mk Tryz.underlying152
attribute [instance] aJN
@[reducible] def aJO:=Ty.mk Tryz.underlying162
attribute [instance] aJO
instance tz162:Tz Tryz.prog 162 3 24 (.agg #[.int .i64 0,.int .i64 0,.int .i64 0]):=⟨by kernel_rfl⟩
instance tf162:Tf Tryz.prog 162 [(0,1),(1,1),(2,1)]:=⟨by kernel_rfl⟩
@[reducible] def aJP:=Ty.mk Tryz.underlying167
attribute [instance] aJP
@[reducible] def aJQ:=Ty.mk Tryz.underlying182
attribute [instance] aJQ
@[reducible] def aJR:=Ty.mk Tryz.underlying204
attribute [instance] aJR
@[reducible] def aJS:=Ty.mk Tryz.underlying218
attribute [instance] aJS
@[reducible] def aJT:=Ty.mk Tryz.underlying261
attribute [instance] aJT
instance tz261:Tz Tryz.prog 261 2 32 (.agg #[.slice none 0 0,.bool false]):=⟨by kernel_rfl⟩
instance tf261:Tf Tryz.prog 261 [(0,1),(1,1)]:=⟨by kernel_rfl⟩
@[reducible] def aJU:=Ty.mk Tryz.underlying277
attribute [instance] aJU
@[reducible] def aJV:=Ty.mk Tryz.underlying280
attribute [instance] aJV
@[reducible] def aJW:=Ty.mk Tryz.underlying284
attribute [instance] aJW
@[reducible] def aJX:=Ty.mk Tryz.underlying298
attribute [instance] aJX
instance tz298:Tz Tryz.prog 298 3 24 (.agg #[.int .i64 0,.int .i64 0,.int .i64 0]):=⟨by kernel_rfl⟩
instance tf298:Tf Tryz.prog 298 [(0,1),(1,1),(2,1)]:=⟨by kernel_rfl⟩
@[reducible] def aJY:=Ty.mk Tryz.underlying325
attribute [instance] aJY
@[reducible] def aJZ:=Ty.mk Tryz.underlying328
attribute [instance] aJZ
instance tz328:Tz Tryz.prog 328 3 3 (.agg #[.int .u8 0,.int .u8 0,.int .u8 0]):=⟨by kernel_rfl⟩
@[reducible] def aJ0:=Ty.mk Tryz.underlying346
attribute [instance] aJ0
instance tz346:Tz Tryz.prog 346 3 40 (.agg #[.slice none 0 0,.int .i64 0,.int .i64 0]):=⟨by kernel_rfl⟩
instance tf346:Tf Tryz.prog 346 [(0,1),(1,1),(2,1)]:=⟨by kernel_rfl⟩
theorem aGv:Tryz.prog.follows .mixedOrders=true:=by kernel_rfl
end Go.Proofs.YtjpdadobblffmaaGreat
namespace Go.Proofs.YtjpdadobblffmaaGreat
open Go.RowKit Go.ChangeShapes Go.WideShapes Go.ChangeAt Go.Deep
structure Hold (Q:Prop):Prop where
 h:Q
theorem bA{P:Prop}(h:P:=by(first|assumption|(apply Nq.en;assumption)|omega|(simp only[Nq]at*;omega))):P:=h
theorem aO{P:Prop}(h:P:=by(repeat(first|exact jW|(apply jX;(first|assumption|(apply Nq.en;assumption)|omega|(simp only[Nq]at*;omega)))))):P:=h
theorem aE{P:Prop}(h:P:=by(repeat(first|exact ResL.nil|(apply ResL.tmp;rfl)|(apply ResL.cell;rfl;infer_instance;rfl;(repeat(first|exact jW|(apply jX;(first|assumption|(apply Nq.en;assumption)|omega|(simp only[Nq]at*;omega)))));rfl)|(apply ResL.cells;rfl;infer_instance;infer_instance;rfl;(repeat(first|exact jW|(apply jX;(first|assumption|(apply Nq.en;assumption)|omega|(simp only[Nq]at*;omega)))));exact Nat.le_of_ble_eq_true rfl)))):P:=h
theorem aA{P:Prop}(h:P:=by(first|exact aHn|exact(fun _ h=>h)|(apply StLe.mem;(repeat(first|exact StLe.nil|(apply StLe.cons;(repeat(first|exact List.mem_cons_self|apply List.mem_cons_of_mem));first|rfl|focus (congr 1;done)|focus (simp;done)|(simp;rfl))))))):P:=h
theorem aC{P:Prop}(h:P:=by(repeat(first|exact ArgsLe.nil|(apply ArgsLe.cons;rfl;first|exact VLe.refl _ |exact VLe.when rfl|exact VLe.any|exact VLe.empty|exact VLe.of_eq (by simp))))):P:=h
theorem aGw{P:Prop}(h:P:=by(
     first
      |exact Bor.refl _
      |exact Bor.le VLe.any
      |exact Bor.le VLe.empty
      |(apply aBl;(repeat(
        first
         |exact List.mem_cons_self
         |apply List.mem_cons_of_mem));(repeat(
        first
         |exact jW
         |(apply jX;(
          first
           |assumption
           |(apply Nq.en;assumption)
           |omega
           |(simp only[Nq]at*;omega)))));(
       first
        |focus (simp;done)
        |omega
        |focus (simp;omega));(
       first
        |rfl
        |focus (simp;done)
        |focus (exact List.take_of_length_le (by
         first
          |(simp;done)
          |(simp;omega)))))
      |focus (apply bbox;(repeat(
        first
         |exact List.mem_cons_self
         |apply List.mem_cons_of_mem));(repeat(
        first
         |exact jW
         |(apply jX;(
          first
           |assumption
           |(apply Nq.en;assumption)
           |omega
           |(simp only[Nq]at*;omega)))));rfl;rfl;(repeat(
        first
         |exact BorL.nil
         |(apply BorL.cons;(
          first
           |exact Bor.refl _
           |exact Bor.le VLe.any
           |exact Bor.le VLe.empty
           |(apply aBl;(repeat(
             first
              |exact List.mem_cons_self
              |apply List.mem_cons_of_mem));(repeat(
             first
              |exact jW
              |(apply jX;(
               first
                |assumption
                |(apply Nq.en;assumption)
                |omega
                |(simp only[Nq]at*;omega)))));(
            first
             |focus (simp;done)
             |omega);(
            first
             |rfl
             |focus (simp;done)
             |focus (exact List.take_of_length_le (by
              first
               |(simp;done)
               |(simp;omega)))))
           |focus (apply Bor.le;apply VLe.of_eq;simp;done)))));done)
      |focus (apply aBn;(repeat(
        first
         |exact BorL.nil
         |(apply BorL.cons;(
          first
           |exact Bor.refl _
           |exact Bor.le VLe.any
           |exact Bor.le VLe.empty
           |(apply aBl;(repeat(
             first
              |exact List.mem_cons_self
              |apply List.mem_cons_of_mem));(repeat(
             first
              |exact jW
              |(apply jX;(
               first
                |assumption
                |(apply Nq.en;assumption)
                |omega
                |(simp only[Nq]at*;omega)))));(
            first
             |focus (simp;done)
             |omega);(
            first
             |rfl
             |focus (simp;done)
             |focus (exact List.take_of_length_le (by
              first
               |(simp;done)
               |(simp;omega)))))
           |focus (apply Bor.le;apply VLe.of_eq;simp;done)))));done)
      |focus (apply Bor.le;apply VLe.of_eq;simp;done))):P:=h
theorem aU{P:Prop}(h:P:=by(repeat(first|exact ArgsIf.nil|(apply ArgsIf.cons;(first|exact W rfl id|exact W rfl (fun _=>rfl)|exact E rfl);exact aGw)))):P:=h
theorem bW{P:Prop}(h:P:=by(repeat(first|exact ArgsBor.nil|(apply ArgsBor.cons;rfl;exact aGw)))):P:=h
theorem cK{P:Prop}(h:P:=by(repeat(first|exact ArgsIf.nil|refine ArgsIf.cons (by first|exact Ev.when rfl (by first|exact id|simp)|exact Ev.here rfl) (by first|exact Bor.refl _ |exact Bor.le VLe.any|exact Bor.le VLe.empty|exact Bor.own (by simp) (by repeat(first|exact jW|refine jX (by(first|assumption|(apply Nq.en;assumption)|omega|(simp only[Nq]at*;omega))) ?_)) (by simp)|exact Bor.le (VLe.of_eq (by simp))) ?_))):P:=h
theorem bC{P:Prop}(h:P:=by(repeat(first|exact NoF.int|exact NoF.bool|exact NoF.nilp|exact NoF.nil|exact NoF.own|exact NoF.ptr|exact NoF.str|exact aBm|apply NoF.tup|apply NoF.agg|apply ZJ))):P:=h
theorem fS{P:Prop}(h:P:=by(repeat(first|exact HB.nil|apply HB.none|(apply HB.ok;focus (simp only[List.mem_cons,List.not_mem_nil,or_false,List.map_cons,List.map_nil,forall_eq_or_imp,forall_eq,true_or,or_true,true_and,and_true,not_false_eq_true,not_or];(repeat' (first|apply And.intro|(first|assumption|(apply Nq.en;assumption)|omega|(simp only[Nq]at*;omega))));done))|(apply HB.waits;kernel_rfl)))):P:=h
theorem atT{P:Prop}(h:P:=by(first|rfl|exact aG (by assumption)|assumption)):P:=h
theorem JO{P:Prop}(h:P:=by(repeat(first|exact Put.done|apply Put.put|apply Put.skip))):P:=h
theorem jU{P:Prop}(h:P:=by(repeat(first|(apply SPut.here;(repeat(first|exact Put.done|apply Put.put|apply Put.skip));(repeat(first|exact Fresh.nil|(apply Fresh.cons;(first|assumption|(apply Nq.en;assumption)|omega|(simp only[Nq]at*;omega))))))|(apply SPut.next;(first|assumption|(apply Nq.en;assumption)|omega|(simp only[Nq]at*;omega)))))):P:=h
theorem cJ{P:Prop}(h:P:=by(repeat(first|(apply SSet.here;(repeat(first|exact Fresh.nil|(apply Fresh.cons;(first|assumption|(apply Nq.en;assumption)|omega|(simp only[Nq]at*;omega))))))|(apply SSet.next;(first|assumption|(apply Nq.en;assumption)|omega|(simp only[Nq]at*;omega)))))):P:=h
theorem bH{P:Prop}(h:P:=by(repeat(first|(apply SDel.here;(repeat(first|exact Fresh.nil|(apply Fresh.cons;(first|assumption|(apply Nq.en;assumption)|omega|(simp only[Nq]at*;omega))))))|(apply SDel.next;(first|assumption|(apply Nq.en;assumption)|omega|(simp only[Nq]at*;omega)))))):P:=h
theorem uW{P:Prop}(h:P:=by(repeat(first|exact Fresh.nil|(apply Fresh.cons;(first|assumption|(apply Nq.en;assumption)|omega|(simp only[Nq]at*;omega)))))):P:=h
theorem qN{P:Prop}(h:P:=by(repeat(first|exact AEvs.nil|(apply AEvs.cons;rfl)))):P:=h
theorem wA{P:Prop}(h:P:=by(first|(simp only[Value.cells,AV.cells,List.map_cons,List.map_nil,cX,vQ];rfl)|rfl)):P:=h
theorem bN{P:Prop}(h:P:=by(first|(simp(disch:=(first|(simp only[List.mem_cons,List.not_mem_nil,true_or,or_true,or_false];done)|(focus (simp only[List.mem_cons,List.not_mem_nil,or_false,not_or];(repeat' (first|apply And.intro|(first|assumption|(apply Nq.en;assumption)|omega|(simp only[Nq]at*;omega))));done))|omega)) only[↓aHk,↓aJx,AV.cells,zY,lY,nU,qI,nV,List.nil_append,List.cons_append,List.append_nil,List.map_nil,List.map_cons,List.take_succ_cons,List.take_zero,List.drop_succ_cons,List.drop_zero,ZI,LL,Nat.zero_add,Nat.add_zero,vQ,cX];rfl)|rfl)):P:=h
theorem HX{P:Program}{n:Nat}{ops:Array Oper}{rest:List Oper}{K:ASt→Prop}{fr:Fr}{σ σ2 s1:dU}{d:Nat}{ty:TypeId}{pos: _}{af: _}{f:FuncId}{xs:List Operand}{ats:Array TypeId}{args:List AV}{v:AV}(σ1:dU)(hf:∀args w,(callFunc f args).run P w=.ok (.enter f args) w)(h:SCall P f args σ1 (fun y σ=>y=v∧σ=s1))(hK:RS P n ops rest ⟨(d,v)::fr,σ2⟩ K)(hd:Nat.ble (d+1) n=true:=by exact rfl)
  (hargs:ArgsLe ⟨fr,σ⟩ xs args:=by exact aC) (hsub:∀p∈σ1,p∈σ:=by exact aA) (he:s1++eO (σ1.map (·.1)) σ=σ2:=by exact bN):RS P n ops (⟨some d,.call { callee:=.value (.func f),args:=xs.toArray,argTypes:=ats },ty,pos,af,none⟩::rest) ⟨fr,σ⟩ K:=
 cw σ1 hf h hd hargs hsub fun _ _ hr _=>by obtain⟨rfl,rfl⟩:=hr;exact he▸hK
theorem aJ{P:Prop}(h:P:=by(refine aHo ?_ ?_ <;>(repeat(first|exact FrLe.nil|(apply FrLe.cons;rfl;first|exact VLe.refl _ |exact VLe.any|exact VLe.empty|exact VLe.of_eq (by simp)|exact VLe.of_eq (by congr 1;omega))|exact StLe.nil|exact StLe.refl _ |(apply StLe.cons;(repeat(first|exact List.mem_cons_self|apply List.mem_cons_of_mem));first|rfl|focus (congr 1;done)|focus (simp;done)|(simp;rfl)))))):P:=h
theorem aGx{P:Prop}(h:P:=by(repeat(first|(apply KeepIs.take;rfl)|(apply KeepIs.skip;rfl)|exact KeepIs.nil))):P:=h
theorem cT{P:Prop}(h:P:=by(repeat(first|exact FDel.nil|apply FDel.hit|apply FDel.miss rfl))):P:=h
section
variable {P Q:Prop}
theorem aI(k:Q)(h:Hold Q→P:=by intro k;(repeat(first|refine cs ?_ |refine cb ?_ |refine ck ?_ |refine cx ?_ |refine cr ?_ |refine an ?_ |refine ae ?_ |refine ar ?_ |refine bn ?_ |refine bh ?_ |refine be rfl ?_ |refine br ?_ |refine ct rfl ?_ |refine cf rfl ?_));exact k.h):P:=h ⟨k⟩
theorem xQ(k:Q)(h:Hold Q→P:=by intro k;(repeat(first|refine cs ?_ |refine cb ?_ |refine ck ?_ |refine cx ?_ |refine cr ?_ |refine an ?_ |refine ae ?_ |refine ar ?_ |refine bn ?_ |refine bh ?_ |refine be rfl ?_ |refine br ?_ |refine ct rfl ?_ |refine cf rfl ?_ |refine cg ?_ |refine ag ?_ |refine bg ?_ |refine jg ?_ |refine jn ?_ |refine jr ?_ |refine je ?_));exact k.h):P:=h ⟨k⟩
theorem jH(k:Q)(h:Hold Q→P:=by intro k;(first|refine sw_seq_region ?_ |refine ZE ?_);exact k.h):P:=h ⟨k⟩
theorem kU(k:Q)(h:Hold Q→P:=by intro k;(apply le;exact aGx);exact k.h):P:=h ⟨k⟩
theorem yR(k:Q)(h:Hold Q→P:=by intro k;(apply de;exact aGx);exact k.h):P:=h ⟨k⟩
end
structure Tag (o:List (Nat×Bool)):Prop where
 h:True
theorem IH{o:List (Nat×Bool)}(_:Tag o){P:Program}{n:Nat}{ks:List Nat}{s:ASt}{Q:Exit→ASt→Prop}{id:Nat}{ops:Array Oper}(hm:P.follows .mixedOrders=true)(hsel:Region.noSelect ops=true)
  (hchk:(FH ops (Array.replicate ops.size false) o&&o.length==ops.size)=true) (h:RD P n ops (Array.replicate ops.size false) o [] s (zW ks (Q .normal))):SW P n ks (.region id ops true) s Q:=DT o hm hsel hchk h
theorem fK{P Q:Prop}(o:List (Nat×Bool))(k:Q)(h:Hold Q→Tag o→P:=by intro k t;(first|refine sw_seq_tag t aGv (by kernel_rfl) (by kernel_rfl) ?_ |refine IH t aGv (by kernel_rfl) (by kernel_rfl) ?_);exact k.h):P:=h ⟨k⟩ ⟨trivial⟩
theorem bI{S R T G:Nat→Prop}(k:∀r,R r→T r)(h:Hold (∀r,R r→T r)→∀r,S r→G r:=by intro k r h;refine k.h r ?_;(first|(simp only[aP,aX,and_true]at h;exact h)|exact trivial)):∀r,S r→G r:=h ⟨k⟩
theorem aBp{A B G:Prop}(h:B→A→G):A∧B→G:=fun⟨a,b⟩=>h b a
theorem kE{S C G:Nat→Prop}(k:∀r,C r)(h:Hold (∀r,C r)→∀r,S r→G r:=by intro k r h;first|(simp only[aP,aX,and_true]at h;revert h;(repeat refine aBp ?_);exact k.h r)|exact k.h r True.intro):∀r,S r→G r:=h ⟨k⟩
theorem aM3{S R T G:Nat→Prop}(k:∀r,R r→T r)(h:Hold (∀r,R r→T r)→∀r,S r→G r:=by intro k r h;simp(disch:=(first|(simp only[List.mem_cons,List.not_mem_nil,true_or,or_true,or_false];done)|(focus (simp only[List.mem_cons,List.not_mem_nil,or_false,not_or];(repeat' (first|apply And.intro|(first|assumption|(apply Nq.en;assumption)|omega|(simp only[Nq]at*;omega))));done))|omega)) only[aP,aX,and_true,lY,nU,qI,nV]at h;have h2:=h;(repeat(rcases h2 with⟨_,h2⟩));apply Exists.intro;apply And.intro;exact cJ;exact k.h r h):∀r,S r→G r:=h ⟨k⟩
theorem bL{S C G:Nat→Prop}(k:∀r,C r)(h:Hold (∀r,C r)→∀r,S r→G r:=by intro k r h;simp(disch:=(first|(simp only[List.mem_cons,List.not_mem_nil,true_or,or_true,or_false];done)|(focus (simp only[List.mem_cons,List.not_mem_nil,or_false,not_or];(repeat' (first|apply And.intro|(first|assumption|(apply Nq.en;assumption)|omega|(simp only[Nq]at*;omega))));done))|omega)) only[aP,aX,and_true,lY,nU,qI,nV]at h;have h2:=h;(repeat(rcases h2 with⟨_,h2⟩));apply Exists.intro;apply And.intro;exact cJ;revert h;(repeat refine aBp ?_);exact k.h r):∀r,S r→G r:=h ⟨k⟩
theorem gU{H R:Prop}(a:H)(h:H→R:=by intro h;replace h:=(h _ List.mem_cons_self).resolve_left (by simp only[List.mem_cons,List.not_mem_nil,or_false,exists_eq_or_imp,exists_eq_left,not_or,false_and,exists_false,not_false_eq_true];(repeat' (first|apply And.intro|exact bA));done);simp only[aP,aX,and_true]at h;exact h):R:=h a
theorem cN{H R:Prop}(a:H)(h:H→R:=by intro h;simp only[List.mem_cons,List.mem_singleton,List.not_mem_nil,or_false,forall_eq_or_imp,forall_eq,aP,aX,and_true,and_assoc]at h;exact h):R:=h a
theorem bB{H R:Prop}(a:H)(h:H→R:=by intro h;have h:=tJ (h _ List.mem_cons_self);simp(disch:=(first|(simp only[List.mem_cons,List.not_mem_nil,true_or,or_true,or_false];done)|(focus (simp only[List.mem_cons,List.not_mem_nil,or_false,not_or];(repeat' (first|apply And.intro|(first|assumption|(apply Nq.en;assumption)|omega|(simp only[Nq]at*;omega))));done))|omega)) only[List.map_cons,List.map_nil,lY,nU,qI,nV,aP,aX,and_true]at h;exact h):R:=h a
section
variable {P Q:Prop}
theorem z0(k:Q)(h:Hold Q→P:=by intro k;(first|refine lo (mH (E rfl) (UM (by omega) (by omega))) rfl ?_ |refine lo (zU (E rfl)) rfl ?_);exact k.h):P:=h ⟨k⟩
theorem z1(k:Q)(h:Hold Q→P:=by intro k;(apply bs;exact qN;rfl;rfl;rfl;rfl;exact wA;rfl);exact k.h):P:=h ⟨k⟩
theorem z2(k:Q)(h:Hold Q→P:=by intro k;(refine lo (WY (E rfl) (E rfl) (fun _=>by first|decide|omega)) rfl ?_);exact k.h):P:=h ⟨k⟩
theorem z3(k:Q)(h:Hold Q→P:=by intro k;(refine lo (UJ (E rfl) (E rfl)) rfl ?_);exact k.h):P:=h ⟨k⟩
theorem z4(k:Q)(h:Hold Q→P:=by intro k;(refine lg rfl rfl (aF (E rfl)) rfl ?_);exact k.h):P:=h ⟨k⟩
theorem z5(k:Q)(h:Hold Q→P:=by intro k;(refine lg rfl rfl (gM (W rfl id) (E rfl)) rfl ?_);exact k.h):P:=h ⟨k⟩
theorem z6(k:Q)(h:Hold Q→P:=by intro k;(refine lg rfl rfl (cI (W rfl id) (E rfl)) rfl ?_);exact k.h):P:=h ⟨k⟩
theorem z7(k:Q)(h:Hold Q→P:=by intro k;(refine lo (hX (E rfl) (W rfl (by simp)) (E rfl)) rfl ?_);exact k.h):P:=h ⟨k⟩
theorem z8(k:Q)(h:Hold Q→P:=by intro k;(refine lg rfl rfl (aF (W rfl id)) rfl ?_);exact k.h):P:=h ⟨k⟩
theorem z9(k:Q)(h:Hold Q→P:=by intro k;(refine lw rfl rfl (aF (E rfl)) rfl ?_);exact k.h):P:=h ⟨k⟩
theorem z10(k:Q)(h:Hold Q→P:=by intro k;(refine lw rfl rfl (gM (W rfl (by first|exact id|simp)) (E rfl)) rfl ?_);exact k.h):P:=h ⟨k⟩
theorem z11(k:Q)(h:Hold Q→P:=by intro k;(refine lw rfl rfl (gA (W rfl (by first|exact id|simp)) (E rfl)) rfl ?_);exact k.h):P:=h ⟨k⟩
theorem z12(k:Q)(h:Hold Q→P:=by intro k;(refine lg rfl rfl (hX (W rfl id) (W rfl (by simp)) (E rfl)) rfl ?_);exact k.h):P:=h ⟨k⟩
theorem z13(k:Q)(h:Hold Q→P:=by intro k;(first|refine lo (jO (E rfl) (W rfl (by simp))) rfl ?_ |refine lo (hX (E rfl) (E rfl) (W rfl (by simp))) rfl ?_);exact k.h):P:=h ⟨k⟩
theorem pH(k:Q)(h:Hold Q→P:=by intro k;(first|refine lo (fV (E rfl)) rfl ?_ |refine lo (kQ (E rfl)) rfl ?_ |refine lo (gS (E rfl)) rfl ?_);exact k.h):P:=h ⟨k⟩
theorem II(k:Q)(h:Hold Q→P:=by intro k;(first|refine lo (bG (E rfl) (E rfl) (fun hc=>by(simp only[List.length_map];omega))) rfl ?_ |refine lo (aV (E rfl) aO (E rfl) (fun hc=>by omega)) rfl ?_);exact k.h):P:=h ⟨k⟩
theorem z16(k:Q)(h:Hold Q→P:=by intro k;(first|refine lo (aN (E rfl) rfl (fun hc=>by first|rfl|exact aG (by assumption)|assumption|exact aG (aQ (by omega))) (fun _=>rfl)) rfl ?_ |refine lo (bQ (E rfl) rfl aO (fun hc=>by first|rfl|exact aG (by assumption)|assumption|exact aG (aQ (by omega))) (fun _=>rfl)) rfl ?_);exact k.h):P:=h ⟨k⟩
theorem PR(k:Q)(h:Hold Q→P:=by intro k;(first|refine lo (CD (E rfl) (E rfl) (by omega) (by omega)) rfl ?_ |refine lo (rM (E rfl) (E rfl)) rfl ?_);exact k.h):P:=h ⟨k⟩
theorem z18(k:Q)(h:Hold Q→P:=by intro k;(refine lg rfl rfl (jM (W rfl id) (E rfl)) rfl ?_);exact k.h):P:=h ⟨k⟩
theorem sK(k:Q)(h:Hold Q→P:=by intro k;(first|refine lo (sI (E rfl) (E rfl) (by omega) (by omega)) rfl ?_ |refine lo (EK (E rfl) (E rfl)) rfl ?_);exact k.h):P:=h ⟨k⟩
theorem z20(k:Q)(h:Hold Q→P:=by intro k;(refine lo (aDN (E rfl) (E rfl) (fun _=>by first|decide|omega)) rfl ?_);exact k.h):P:=h ⟨k⟩
theorem z22(k:Q)(h:Hold Q→P:=by intro k;(refine lo (aDO (E rfl) (E rfl) (fun _=>by first|decide|omega)) rfl ?_);exact k.h):P:=h ⟨k⟩
theorem z23(k:Q)(h:Hold Q→P:=by intro k;(refine lo (aDP (E rfl) (E rfl) (fun _=>by first|decide|omega)) rfl ?_);exact k.h):P:=h ⟨k⟩
theorem UP(k:Q)(h:Hold Q→P:=by intro k;(first|refine lo (mH (E rfl) (DE (by omega) (by omega))) rfl ?_ |refine lo (zU (E rfl)) rfl ?_);exact k.h):P:=h ⟨k⟩
theorem UD(k:Q)(h:Hold Q→P:=by intro k;(first|refine fY rfl (fQ (E rfl) OB.none (OB.some (E rfl) (fun _=>by first|rfl|exact(Int.toNat_of_nonneg (by omega)).symm)) (fun _=>by first|(simp only[List.length_map];omega)|omega)) rfl ?_ |refine fY rfl (fR (E rfl) aO OB.none (OB.some (E rfl) (fun _=>by first|rfl|exact(Int.toNat_of_nonneg (by omega)).symm)) (fun _=>by first|(simp only[List.length_map];omega)|omega)) rfl ?_);exact k.h):P:=h ⟨k⟩
theorem z26(k:Q)(h:Hold Q→P:=by intro k;(refine eQ rfl rfl rfl (aF (E rfl)) rfl ?_);exact k.h):P:=h ⟨k⟩
theorem z27(k:Q)(h:Hold Q→P:=by intro k;(refine eQ rfl rfl rfl (iL (W rfl id) (E rfl)) rfl ?_);exact k.h):P:=h ⟨k⟩
theorem z28(k:Q)(h:Hold Q→P:=by intro k;(refine eQ rfl rfl rfl (aF (W rfl id)) rfl ?_);exact k.h):P:=h ⟨k⟩
theorem z29(k:Q)(h:Hold Q→P:=by intro k;(refine eL rfl rfl rfl (aF (E rfl)) rfl ?_);exact k.h):P:=h ⟨k⟩
theorem z30(k:Q)(h:Hold Q→P:=by intro k;(refine eL rfl rfl rfl (WY (W rfl (by first|exact id|simp)) (W rfl (by first|exact id|simp)) (fun _=>by first|decide|omega)) rfl ?_);exact k.h):P:=h ⟨k⟩
theorem z31(k:Q)(h:Hold Q→P:=by intro k;(refine eL rfl rfl rfl (gA (W rfl (by first|exact id|simp)) (E rfl)) rfl ?_);exact k.h):P:=h ⟨k⟩
theorem z32(k:Q)(h:Hold Q→P:=by intro k;(first|refine eQ rfl rfl rfl (jN (W rfl id) (W rfl (by simp))) rfl ?_ |refine eQ rfl rfl rfl (hX (W rfl id) (W rfl (by simp)) (E rfl)) rfl ?_);exact k.h):P:=h ⟨k⟩
theorem z33(k:Q)(h:Hold Q→P:=by intro k;(refine fY rfl (hX (E rfl) (E rfl) (W rfl (by simp))) rfl ?_);exact k.h):P:=h ⟨k⟩
theorem z34(k:Q)(h:Hold Q→P:=by intro k;(refine lg rfl rfl (gN (W rfl id) (E rfl)) rfl ?_);exact k.h):P:=h ⟨k⟩
theorem z44(k:Q)(h:Hold Q→P:=by intro k;(first|refine lo (mH (E rfl) (kT (by omega) (by omega))) rfl ?_ |refine lo (zU (E rfl)) rfl ?_);exact k.h):P:=h ⟨k⟩
theorem z45(k:Q)(h:Hold Q→P:=by intro k;(refine eQ rfl rfl rfl (gA (W rfl id) (E rfl)) rfl ?_);exact k.h):P:=h ⟨k⟩
theorem z46(k:Q)(h:Hold Q→P:=by intro k;(refine fY rfl (iL (E rfl) (E rfl)) rfl ?_);exact k.h):P:=h ⟨k⟩
theorem z54(k:Q)(h:Hold Q→P:=by intro k;(refine lg rfl rfl (mV (W rfl id) (W rfl id)) rfl ?_);exact k.h):P:=h ⟨k⟩
theorem z55(k:Q)(h:Hold Q→P:=by intro k;(refine lg rfl rfl (mV (W rfl id) (E rfl)) rfl ?_);exact k.h):P:=h ⟨k⟩
theorem HY(k:Q)(h:Hold Q→P:=by intro k;(first|refine fY rfl (bG (E rfl) (E rfl) (fun hc=>by(simp only[List.length_map];omega))) rfl ?_ |refine fY rfl (aV (E rfl) aO (E rfl) (fun hc=>by omega)) rfl ?_);exact k.h):P:=h ⟨k⟩
theorem JP(k:Q)(h:Hold Q→P:=by intro k;(first|refine fY rfl (aN (E rfl) rfl (fun hc=>by first|rfl|exact aG (by assumption)|assumption|exact aG (aQ (by omega))) (fun _=>rfl)) rfl ?_ |refine fY rfl (bQ (E rfl) rfl aO (fun hc=>by first|rfl|exact aG (by assumption)|assumption|exact aG (aQ (by omega))) (fun _=>rfl)) rfl ?_);exact k.h):P:=h ⟨k⟩
theorem z58(k:Q)(h:Hold Q→P:=by intro k;(refine fY rfl (gA (E rfl) (E rfl)) rfl ?_);exact k.h):P:=h ⟨k⟩
theorem oI(k:Q)(h:Hold Q→P:=by intro k;(refine lo (bE (E rfl) rfl (by decide)) rfl ?_);exact k.h):P:=h ⟨k⟩
theorem rN(k:Q)(h:Hold Q→P:=by intro k;(first|refine lo (aL (E rfl) rfl aO (fun _=>rfl)) rfl ?_ |refine lo (aL (E rfl) rfl aO (fun _=>by assumption)) rfl ?_);exact k.h):P:=h ⟨k⟩
theorem z61(k:Q)(h:Hold Q→P:=by intro k;(refine lg rfl rfl (bE (E rfl) rfl (by decide)) rfl ?_);exact k.h):P:=h ⟨k⟩
theorem z62(k:Q)(h:Hold Q→P:=by intro k;(first|refine lg rfl rfl (aL (W rfl id) rfl aO (fun _=>rfl)) rfl ?_ |refine lg rfl rfl (aL (W rfl id) rfl aO (fun _=>by assumption)) rfl ?_);exact k.h):P:=h ⟨k⟩
theorem z63(k:Q)(h:Hold Q→P:=by intro k;(refine lg rfl rfl (fV (W rfl id)) rfl ?_);exact k.h):P:=h ⟨k⟩
theorem z64(k:Q)(h:Hold Q→P:=by intro k;(refine lg rfl rfl (gA (W rfl id) (E rfl)) rfl ?_);exact k.h):P:=h ⟨k⟩
theorem z65(k:Q)(h:Hold Q→P:=by intro k;(refine lw rfl rfl (bE (E rfl) rfl (by decide)) rfl ?_);exact k.h):P:=h ⟨k⟩
theorem z66(k:Q)(h:Hold Q→P:=by intro k;(first|refine lw rfl rfl (aL (W rfl (by first|exact id|simp)) rfl aO (fun _=>rfl)) rfl ?_ |refine lw rfl rfl (aL (W rfl (by first|exact id|simp)) rfl aO (fun _=>by assumption)) rfl ?_);exact k.h):P:=h ⟨k⟩
theorem z67(k:Q)(h:Hold Q→P:=by intro k;(refine lg rfl rfl (eJ (by exact W rfl id)) rfl ?_);exact k.h):P:=h ⟨k⟩
theorem uX(k:Q)(h:Hold Q→P:=by intro k;(first|refine lo (jN (E rfl) (by first|exact W rfl (by simp)|exact E rfl)) rfl ?_ |refine lo (jO (E rfl) (E rfl)) rfl ?_ |refine lo (hX (E rfl) (by first|exact W rfl (by simp)|exact E rfl) (E rfl)) rfl ?_);exact k.h):P:=h ⟨k⟩
theorem z69(k:Q)(h:Hold Q→P:=by intro k;(refine lg rfl rfl (iL (W rfl id) (E rfl)) rfl ?_);exact k.h):P:=h ⟨k⟩
theorem z70(k:Q)(h:Hold Q→P:=by intro k;(refine lg rfl rfl (cI (W rfl id) (W rfl id)) rfl ?_);exact k.h):P:=h ⟨k⟩
theorem z71(k:Q)(h:Hold Q→P:=by intro k;(refine lg rfl rfl (bG (W rfl id) (W rfl id) (fun hc=>by(try simp at hc)<;>(simp only[List.length_map];omega))) rfl ?_);exact k.h):P:=h ⟨k⟩
theorem z72(k:Q)(h:Hold Q→P:=by intro k;(refine lg rfl rfl (aN (W rfl id) rfl (fun hc=>by first|rfl|exact aG (by assumption)|assumption|exact aG (aQ (by(try simp at hc)<;>omega))) (fun _=>rfl)) rfl ?_);exact k.h):P:=h ⟨k⟩
theorem zP(k:Q)(h:Hold Q→P:=by intro k;(refine fY rfl (bE (E rfl) rfl (by decide)) rfl ?_);exact k.h):P:=h ⟨k⟩
theorem z74(k:Q)(h:Hold Q→P:=by intro k;(first|refine fY rfl (aL (E rfl) rfl aO (fun _=>rfl)) rfl ?_ |refine fY rfl (aL (E rfl) rfl aO (fun _=>by assumption)) rfl ?_);exact k.h):P:=h ⟨k⟩
theorem z75(k:Q)(h:Hold Q→P:=by intro k;(refine fY rfl (mH (E rfl) (DE (by omega) (by omega))) rfl ?_);exact k.h):P:=h ⟨k⟩
theorem z76(k:Q)(h:Hold Q→P:=by intro k;(first|refine lo (bF (E rfl) (.inl ⟨_,_,rfl⟩)) rfl ?_ |refine lo (bF (E rfl) (.inr (.inl ⟨_,_,_,rfl⟩))) rfl ?_ |refine lo (bF (E rfl) (.inr (.inr ⟨_,_,_,_,rfl⟩))) rfl ?_);exact k.h):P:=h ⟨k⟩
theorem z77(k:Q)(h:Hold Q→P:=by intro k;(first|refine fY rfl (bF (E rfl) (.inl ⟨_,_,rfl⟩)) rfl ?_ |refine fY rfl (bF (E rfl) (.inr (.inl ⟨_,_,_,rfl⟩))) rfl ?_ |refine fY rfl (bF (E rfl) (.inr (.inr ⟨_,_,_,_,rfl⟩))) rfl ?_);exact k.h):P:=h ⟨k⟩
theorem UQ(k:Q)(h:Hold Q→P:=by intro k;(first|refine fY rfl (fV (E rfl)) rfl ?_ |refine fY rfl (gS (E rfl)) rfl ?_);exact k.h):P:=h ⟨k⟩
theorem z79(k:Q)(h:Hold Q→P:=by intro k;(refine fY rfl (cI (E rfl) (E rfl)) rfl ?_);exact k.h):P:=h ⟨k⟩
theorem z80(k:Q)(h:Hold Q→P:=by intro k;(refine lg rfl rfl (mH (W rfl id) (kT (by omega) (by omega))) rfl ?_);exact k.h):P:=h ⟨k⟩
theorem z81(k:Q)(h:Hold Q→P:=by intro k;(refine lg rfl rfl (jM (W rfl id) (W rfl id)) rfl ?_);exact k.h):P:=h ⟨k⟩
theorem z82(k:Q)(h:Hold Q→P:=by intro k;(refine fY rfl (sI (E rfl) (E rfl) (by omega) (by omega)) rfl ?_);exact k.h):P:=h ⟨k⟩
theorem z83(k:Q)(h:Hold Q→P:=by intro k;(refine fY rfl (mH (E rfl) (kT (by omega) (by omega))) rfl ?_);exact k.h):P:=h ⟨k⟩
theorem z84(k:Q)(h:Hold Q→P:=by intro k;(first|refine fY rfl (fQ (E rfl) (OB.some (E rfl) (fun _=>by first|rfl|exact(Int.toNat_of_nonneg (by omega)).symm)) OB.none (fun _=>by first|(simp only[List.length_map];omega)|omega)) rfl ?_ |refine fY rfl (fR (E rfl) aO (OB.some (E rfl) (fun _=>by first|rfl|exact(Int.toNat_of_nonneg (by omega)).symm)) OB.none (fun _=>by first|(simp only[List.length_map];omega)|omega)) rfl ?_);exact k.h):P:=h ⟨k⟩
theorem z85(k:Q)(h:Hold Q→P:=by intro k;(refine fY rfl (gT (E rfl) rfl) rfl ?_);exact k.h):P:=h ⟨k⟩
theorem z91(k:Q)(h:Hold Q→P:=by intro k;(first|refine lg rfl rfl (bF (W rfl id) (.inl ⟨_,_,rfl⟩)) rfl ?_ |refine lg rfl rfl (bF (W rfl id) (.inr (.inl ⟨_,_,_,rfl⟩))) rfl ?_ |refine lg rfl rfl (bF (W rfl id) (.inr (.inr ⟨_,_,_,_,rfl⟩))) rfl ?_);exact k.h):P:=h ⟨k⟩
theorem z92(k:Q)(h:Hold Q→P:=by intro k;(refine lg rfl rfl (bE (W rfl id) rfl (by decide)) rfl ?_);exact k.h):P:=h ⟨k⟩
theorem jY(k:Q)(h:Hold Q→P:=by intro k;(refine lo (LM (by repeat(first|exact PEvs.nil|(apply PEvs.cons;exact E rfl))) (by(exact wA)) (by repeat(first|exact Fill.nil|(apply Fill.cons;rfl;rfl;rfl;(exact JO))))) rfl ?_);exact k.h):P:=h ⟨k⟩
theorem IJ(k:Q)(h:Hold Q→P:=by intro k;(refine fY rfl (LM (by repeat(first|exact PEvs.nil|(apply PEvs.cons;exact E rfl))) (by(exact wA)) (by repeat(first|exact Fill.nil|(apply Fill.cons;rfl;rfl;rfl;(exact JO))))) rfl ?_);exact k.h):P:=h ⟨k⟩
theorem HZ(k:Q)(h:Hold Q→P:=by intro k;(apply aLy;rfl;infer_instance;rfl;rfl;rfl;rfl;exact jU;(exact fS));exact k.h):P:=h ⟨k⟩
theorem UE(k:Q)(h:Hold Q→P:=by intro k;(refine fY rfl (gW (E rfl) rfl aO (fun _=>Nat.le_of_ble_eq_true rfl)) rfl ?_);exact k.h):P:=h ⟨k⟩
theorem z97(k:Q)(h:Hold Q→P:=by intro k;(apply dbs;rfl;infer_instance;infer_instance;exact qN;rfl;rfl;rfl;rfl;exact wA;rfl);exact k.h):P:=h ⟨k⟩
theorem mP(k:Q)(h:Hold Q→P:=by intro k;(refine lo (gW (E rfl) rfl aO (fun _=>Nat.le_of_ble_eq_true rfl)) rfl ?_);exact k.h):P:=h ⟨k⟩
theorem aD1(k:Q)(h:Hold Q→P:=by intro k;(first|refine lo (fQ (E rfl) OB.none (OB.some (E rfl) (fun _=>by first|rfl|exact(Int.toNat_of_nonneg (by omega)).symm)) (fun _=>by first|(simp only[List.length_map];omega)|omega)) rfl ?_ |refine lo (fR (E rfl) aO OB.none (OB.some (E rfl) (fun _=>by first|rfl|exact(Int.toNat_of_nonneg (by omega)).symm)) (fun _=>by first|(simp only[List.length_map];omega)|omega)) rfl ?_);exact k.h):P:=h ⟨k⟩
theorem nW(k:Q)(h:Hold Q→P:=by intro k;(first|refine ln rfl rfl rfl rfl ?_ |(refine gy rfl rfl ?_;refine lo (aF (E rfl)) rfl ?_)|refine lg rfl rfl (aF (E rfl)) rfl ?_);exact k.h):P:=h ⟨k⟩
theorem UR(k:Q)(h:Hold Q→P:=by intro k;(first|(refine gy rfl rfl ?_;refine lo (iL (by first|exact W rfl id|exact E rfl) (by first|exact W rfl id|exact E rfl)) rfl ?_)|refine lg rfl rfl (iL (by first|exact W rfl id|exact E rfl) (by first|exact W rfl id|exact E rfl)) rfl ?_);exact k.h):P:=h ⟨k⟩
theorem aHu(k:Q)(h:Hold Q→P:=by intro k;(first|refine lo (uC (E rfl) rfl (fun hc=>by first|rfl|exact aG (by assumption)|assumption) (fun _=>Nat.le_of_ble_eq_true rfl)) rfl ?_ |refine lo (uD (E rfl) rfl aO (fun hc=>by first|rfl|exact aG (by assumption)|assumption) (fun _=>Nat.le_of_ble_eq_true rfl)) rfl ?_);exact k.h):P:=h ⟨k⟩
theorem sL(k:Q)(h:Hold Q→P:=by intro k;(first|(refine gy rfl rfl ?_;refine lo (cI (by first|exact W rfl id|exact E rfl) (E rfl)) rfl ?_)|refine lg rfl rfl (cI (by first|exact W rfl id|exact E rfl) (E rfl)) rfl ?_);exact k.h):P:=h ⟨k⟩
theorem nX(k:Q)(h:Hold Q→P:=by intro k;(first|refine lo (jN (E rfl) (E rfl)) rfl ?_ |refine lo (jO (E rfl) (by first|exact W rfl (by simp)|exact E rfl)) rfl ?_ |refine lo (hX (E rfl) (E rfl) (by first|exact W rfl (by simp)|exact E rfl)) rfl ?_);exact k.h):P:=h ⟨k⟩
theorem ZL(k:Q)(h:Hold Q→P:=by intro k;(first|refine ln rfl rfl rfl rfl ?_ |(refine gy rfl rfl ?_;(refine lo (bE (E rfl) rfl (by decide)) rfl ?_))|refine lg rfl rfl (bE (E rfl) rfl (by decide)) rfl ?_);exact k.h):P:=h ⟨k⟩
theorem aHv(k:Q)(h:Hold Q→P:=by intro k;(first|refine ln rfl rfl rfl rfl ?_ |(refine gy rfl rfl ?_;(first|refine lo (aL (by first|exact W rfl id|exact E rfl) rfl aO (fun _=>rfl)) rfl ?_ |refine lo (aL (by first|exact W rfl id|exact E rfl) rfl aO (fun _=>by assumption)) rfl ?_))|refine lg rfl rfl (aL (by first|exact W rfl id|exact E rfl) rfl aO (fun _=>rfl)) rfl ?_ |refine lg rfl rfl (aL (by first|exact W rfl id|exact E rfl) rfl aO (fun _=>by assumption)) rfl ?_);exact k.h):P:=h ⟨k⟩
theorem aD2(k:Q)(h:Hold Q→P:=by intro k;(refine lg rfl rfl (gA (by first|exact W rfl id|exact E rfl) (E rfl)) rfl ?_);exact k.h):P:=h ⟨k⟩
theorem yS(k:Q)(h:Hold Q→P:=by intro k;(first|refine lo (bM (E rfl) rfl (by decide)) rfl ?_ |refine lo (fJ (E rfl) rfl (by decide)) rfl ?_);exact k.h):P:=h ⟨k⟩
theorem yT(k:Q)(h:Hold Q→P:=by intro k;(apply sto;rfl;rfl;rfl;rfl;exact cJ;exact atT;exact JO;rfl);exact k.h):P:=h ⟨k⟩
theorem aHw(k:Q)(h:Hold Q→P:=by intro k;(first|refine ln rfl rfl rfl rfl ?_ |refine lg rfl rfl (sI (by first|exact W rfl id|exact E rfl) (E rfl) (by omega) (by omega)) rfl ?_ |refine lg rfl rfl (lop_sub64c (by first|exact W rfl id|exact E rfl) (E rfl) (fun hc=>by simp at hc<;>first|omega|(have hov:=hov hc;omega))) rfl ?_);exact k.h):P:=h ⟨k⟩
theorem DU(k:Q)(h:Hold Q→P:=by intro k;(first|refine ln rfl rfl rfl rfl ?_ |refine lg rfl rfl (bG (by exact W rfl id) (by exact W rfl id) (fun hc=>by(try simp at hc)<;>(simp only[List.length_map];omega))) rfl ?_ |refine lg rfl rfl (aV (by exact W rfl id) aO (by exact W rfl id) (fun hc=>by(try simp at hc)<;>omega)) rfl ?_);exact k.h):P:=h ⟨k⟩
theorem DV(k:Q)(h:Hold Q→P:=by intro k;(first|refine ln rfl rfl rfl rfl ?_ |refine lg rfl rfl (aN (by exact W rfl id) rfl (fun hc=>by first|rfl|exact aG (by assumption)|assumption) (fun _=>rfl)) rfl ?_ |refine lg rfl rfl (bQ (by exact W rfl id) rfl aO (fun hc=>by first|rfl|exact aG (by assumption)|assumption) (fun _=>rfl)) rfl ?_);exact k.h):P:=h ⟨k⟩
theorem QJ(k:Q)(h:Hold Q→P:=by intro k;(first|refine lg rfl rfl (bM (by exact W rfl id) rfl (by decide)) rfl ?_ |refine lg rfl rfl (fJ (by exact W rfl id) rfl (by decide)) rfl ?_);exact k.h):P:=h ⟨k⟩
theorem US(k:Q)(h:Hold Q→P:=by intro k;(refine lg rfl rfl (gN (by first|exact W rfl id|exact E rfl) (E rfl)) rfl ?_);exact k.h):P:=h ⟨k⟩
theorem rK(k:Q)(h:Hold Q→P:=by intro k;(first|refine ln rfl rfl rfl rfl ?_ |(refine gy rfl rfl ?_;(first|refine lo (fV (by first|exact W rfl id|exact E rfl)) rfl ?_ |refine lo (gS (by first|exact W rfl id|exact E rfl)) rfl ?_))|refine lg rfl rfl (fV (by first|exact W rfl id|exact E rfl)) rfl ?_ |refine lg rfl rfl (gS (by first|exact W rfl id|exact E rfl)) rfl ?_);exact k.h):P:=h ⟨k⟩
theorem LN(k:Q)(h:Hold Q→P:=by intro k;(first|(refine gy rfl rfl ?_;refine lo (jM (by first|exact W rfl id|exact E rfl) (E rfl)) rfl ?_)|refine lg rfl rfl (jM (by first|exact W rfl id|exact E rfl) (E rfl)) rfl ?_);exact k.h):P:=h ⟨k⟩
theorem xR(k:Q)(h:Hold Q→P:=by intro k;(first|refine fY rfl (uC (E rfl) rfl (fun hc=>by first|rfl|exact aG (by assumption)|assumption) (fun _=>Nat.le_of_ble_eq_true rfl)) rfl ?_ |refine fY rfl (uD (E rfl) rfl aO (fun hc=>by first|rfl|exact aG (by assumption)|assumption) (fun _=>Nat.le_of_ble_eq_true rfl)) rfl ?_);exact k.h):P:=h ⟨k⟩
theorem aHx(k:Q)(h:Hold Q→P:=by intro k;(refine lo (fQ (E rfl) (OB.some (E rfl) (fun _=>by first|rfl|exact(Int.toNat_of_nonneg (by omega)).symm)) OB.none (fun _=>by first|(simp only[List.length_map];omega)|omega)) rfl ?_);exact k.h):P:=h ⟨k⟩
theorem aHy(k:Q)(h:Hold Q→P:=by intro k;(first|refine ln rfl rfl rfl rfl ?_ |refine lg rfl rfl (cI (by exact W rfl id) (by exact W rfl id)) rfl ?_);exact k.h):P:=h ⟨k⟩
theorem aJ5(k:Q)(h:Hold Q→P:=by intro k;(first|refine ln rfl rfl rfl rfl ?_ |(refine gy rfl rfl ?_;refine lo (wF .nil (.cons rfl .nil)) rfl ?_));exact k.h):P:=h ⟨k⟩
theorem uY(k:Q)(h:Hold Q→P:=by intro k;(first|refine ln rfl rfl rfl rfl ?_ |(refine gy rfl rfl ?_;refine lo (eJ (by first|exact W rfl id|exact E rfl)) rfl ?_)|refine lg rfl rfl (eJ (by first|exact W rfl id|exact E rfl)) rfl ?_);exact k.h):P:=h ⟨k⟩
theorem LO(k:Q)(h:Hold Q→P:=by intro k;(first|refine ln rfl rfl rfl rfl ?_ |(refine gy rfl rfl ?_;refine lo (mV (by first|exact W rfl id|exact E rfl) (E rfl)) rfl ?_)|refine lg rfl rfl (mV (by first|exact W rfl id|exact E rfl) (E rfl)) rfl ?_);exact k.h):P:=h ⟨k⟩
theorem aBr(k:Q)(h:Hold Q→P:=by intro k;(refine lg rfl rfl (mV (by exact W rfl id) (by exact W rfl id)) rfl ?_);exact k.h):P:=h ⟨k⟩
theorem aBs(k:Q)(h:Hold Q→P:=by intro k;(refine lg rfl rfl (aF (by exact W rfl id)) rfl ?_);exact k.h):P:=h ⟨k⟩
theorem aBt(k:Q)(h:Hold Q→P:=by intro k;(refine lw rfl rfl (bE (E rfl) rfl (by decide)) rfl ?_);exact k.h):P:=h ⟨k⟩
end
theorem aBu{P Q:Prop}(k:Q)(h:Hold Q→P:=by intro k;(
     first
      |refine ln rfl rfl rfl rfl ?_
      |(refine gy rfl rfl ?_;(
       first
        |refine lo (aL (by
         first
          |exact W rfl id
          |exact E rfl) rfl aO (fun _=>rfl)) rfl ?_
        |refine lo (aL (by
         first
          |exact W rfl id
          |exact E rfl) rfl aO (fun _=>by assumption)) rfl ?_
        |refine lo (aN (by
         first
          |exact W rfl id
          |exact E rfl) rfl (fun hc=>by
         first
          |rfl
          |exact aG (by assumption)
          |assumption
          |exact aG (aQ (by omega))) (fun _=>rfl)) rfl ?_))
      |refine lg rfl rfl (aL (by
       first
        |exact W rfl (by
        first
         |exact id
         |simp)
        |exact E rfl) rfl aO (fun _=>rfl)) rfl ?_
      |refine lg rfl rfl (aL (by
       first
        |exact W rfl (by
        first
         |exact id
         |simp)
        |exact E rfl) rfl aO (fun _=>by assumption)) rfl ?_
      |refine lg rfl rfl (aN (by
       first
        |exact W rfl (by
        first
         |exact id
         |simp)
        |exact E rfl) rfl (fun hc=>by
       first
        |rfl
        |exact aG (by assumption)
        |assumption
        |exact aG (aQ (by(try simp at hc)<;>omega))) (fun _=>rfl)) rfl ?_
      |refine lw rfl rfl (aL (by
       first
        |exact W rfl (by
        first
         |exact id
         |simp)
        |exact E rfl) rfl aO (fun _=>rfl)) rfl ?_
      |refine lw rfl rfl (aL (by
       first
        |exact W rfl (by
        first
         |exact id
         |simp)
        |exact E rfl) rfl aO (fun _=>by assumption)) rfl ?_
      |refine lw rfl rfl (aN (by
       first
        |exact W rfl (by
        first
         |exact id
         |simp)
        |exact E rfl) rfl (fun hc=>by
       first
        |rfl
        |exact aG (by assumption)
        |assumption
        |exact aG (aQ (by(try simp at hc)<;>omega))) (fun _=>rfl)) rfl ?_
      |refine lw rfl rfl (bV (v:=.bool false)) rfl ?_);exact k.h):P:=h ⟨k⟩
section
variable {P Q:Prop}
theorem aJ6(k:Q)(h:Hold Q→P:=by intro k;(refine lw rfl rfl (gN (by first|exact W rfl (by first|exact id|simp)|exact E rfl) (E rfl)) rfl ?_);exact k.h):P:=h ⟨k⟩
theorem aD3(k:Q)(h:Hold Q→P:=by intro k;(refine lg rfl rfl (hX (by first|exact W rfl id|exact E rfl) (by first|exact W rfl (by simp)|exact E rfl) (E rfl)) rfl ?_);exact k.h):P:=h ⟨k⟩
theorem aL4(k:Q)(h:Hold Q→P:=by intro k;(refine lw rfl rfl (mV (by first|exact W rfl (by first|exact id|simp)|exact E rfl) (E rfl)) rfl ?_);exact k.h):P:=h ⟨k⟩
theorem aD4(k:Q)(h:Hold Q→P:=by intro k;(first|refine ln rfl rfl rfl rfl ?_ |(refine gy rfl rfl ?_;(refine lo (gW (E rfl) rfl aO (fun _=>Nat.le_of_ble_eq_true rfl)) rfl ?_))|refine lg rfl rfl (gW (E rfl) rfl aO (fun _=>Nat.le_of_ble_eq_true rfl)) rfl ?_);exact k.h):P:=h ⟨k⟩
theorem IK(k:Q)(h:Hold Q→P:=by intro k;(first|(refine gy rfl rfl ?_;(refine lo (gW (by first|exact W rfl id|exact E rfl) rfl aO (fun _=>Nat.le_of_ble_eq_true rfl)) rfl ?_))|refine lg rfl rfl (gW (by first|exact W rfl id|exact E rfl) rfl aO (fun _=>Nat.le_of_ble_eq_true rfl)) rfl ?_);exact k.h):P:=h ⟨k⟩
theorem aJ7(k:Q)(h:Hold Q→P:=by intro k;(first|refine lg rfl rfl (bF (by exact W rfl id) (.inl ⟨_,_,rfl⟩)) rfl ?_ |refine lg rfl rfl (bF (by exact W rfl id) (.inr (.inl ⟨_,_,_,rfl⟩))) rfl ?_ |refine lg rfl rfl (bF (by exact W rfl id) (.inr (.inr ⟨_,_,_,_,rfl⟩))) rfl ?_);exact k.h):P:=h ⟨k⟩
theorem aJ8(k:Q)(h:Hold Q→P:=by intro k;(refine lg rfl rfl (bE (by exact W rfl id) rfl (by decide)) rfl ?_);exact k.h):P:=h ⟨k⟩
theorem aL5(k:Q)(h:Hold Q→P:=by intro k;(refine lg rfl rfl (jM (by exact W rfl id) (by exact W rfl id)) rfl ?_);exact k.h):P:=h ⟨k⟩
theorem aJ9(k:Q)(h:Hold Q→P:=by intro k;(refine fY rfl (CD (E rfl) (E rfl) (by omega) (by omega)) rfl ?_);exact k.h):P:=h ⟨k⟩
theorem aD5(k:Q)(h:Hold Q→P:=by intro k;(first|refine lo (tK (E rfl)) rfl ?_ |refine lo (MJ (E rfl)) rfl ?_);exact k.h):P:=h ⟨k⟩
theorem aL6(k:Q)(h:Hold Q→P:=by intro k;(refine lw rfl rfl (cI (by first|exact W rfl (by first|exact id|simp)|exact E rfl) (E rfl)) rfl ?_);exact k.h):P:=h ⟨k⟩
theorem aL7(k:Q)(h:Hold Q→P:=by intro k;(refine lg rfl rfl (hX (by first|exact W rfl id|exact E rfl) (E rfl) (by first|exact W rfl (by simp)|exact E rfl)) rfl ?_);exact k.h):P:=h ⟨k⟩
theorem aHz(k:Q)(h:Hold Q→P:=by intro k;(refine lo (aDV (E rfl) rfl rfl (fun _=>rfl)) rfl ?_);exact k.h):P:=h ⟨k⟩
theorem QK(k:Q)(h:Hold Q→P:=by intro k;(refine lo (wF (.cons rfl .nil) .nil) rfl ?_);exact k.h):P:=h ⟨k⟩
theorem aL8(k:Q)(h:Hold Q→P:=by intro k;(refine lo (wF .nil (.cons rfl (.cons rfl .nil))) rfl ?_);exact k.h):P:=h ⟨k⟩
theorem aL9(k:Q)(h:Hold Q→P:=by intro k;(refine fY rfl (wF (.cons rfl .nil) .nil) rfl ?_);exact k.h):P:=h ⟨k⟩
theorem ZM(k:Q)(h:Hold Q→P:=by intro k;(refine lo (wF .nil (.cons rfl .nil)) rfl ?_);exact k.h):P:=h ⟨k⟩
theorem aHA(k:Q)(h:Hold Q→P:=by intro k;(first|refine ln rfl rfl rfl rfl ?_ |(refine gy rfl rfl ?_;refine lo (fW (by first|exact W rfl id|exact E rfl)) rfl ?_)|refine lg rfl rfl (fW (by first|exact W rfl id|exact E rfl)) rfl ?_);exact k.h):P:=h ⟨k⟩
theorem aKa(k:Q)(h:Hold Q→P:=by intro k;(first|refine ln rfl rfl rfl rfl ?_ |(refine gy rfl rfl ?_;refine lo (yL (by exact E rfl) OB.none (OB.some (by exact E rfl) (fun _=>by first|rfl|exact(Int.toNat_of_nonneg (by omega)).symm)) (fun hc=>by(try simp at hc);omega)) rfl ?_));exact k.h):P:=h ⟨k⟩
theorem aKb(k:Q)(h:Hold Q→P:=by intro k;(first|refine ln rfl rfl rfl rfl ?_ |(refine gy rfl rfl ?_;refine lo (vU (by exact E rfl) (by exact E rfl)) rfl ?_));exact k.h):P:=h ⟨k⟩
theorem AC(k:Q)(h:Hold Q→P:=by intro k;(first|refine kK rfl rfl rfl rfl rfl ?_ |(refine eZ rfl rfl rfl (aF (E rfl)) rfl ?_)|refine eQ rfl rfl rfl (aF (E rfl)) rfl ?_);exact k.h):P:=h ⟨k⟩
theorem QL(k:Q)(h:Hold Q→P:=by intro k;(first|refine kK rfl rfl rfl rfl rfl ?_ |(refine eZ rfl rfl rfl (bG (by first|exact W rfl id|exact E rfl) (by first|exact W rfl id|exact E rfl) (fun hc=>by(simp only[List.length_map];omega))) rfl ?_)|refine eQ rfl rfl rfl (bG (by first|exact W rfl id|exact E rfl) (by first|exact W rfl id|exact E rfl) (fun hc=>by(try simp at hc)<;>(simp only[List.length_map];omega))) rfl ?_);exact k.h):P:=h ⟨k⟩
theorem UT(k:Q)(h:Hold Q→P:=by intro k;(first|refine kK rfl rfl rfl rfl rfl ?_ |(refine eZ rfl rfl rfl (aN (by first|exact W rfl id|exact E rfl) rfl (fun hc=>by first|rfl|exact aG (by assumption)|assumption|exact aG (aQ (by omega))) (fun _=>rfl)) rfl ?_)|refine eQ rfl rfl rfl (aN (by first|exact W rfl id|exact E rfl) rfl (fun hc=>by first|rfl|exact aG (by assumption)|assumption|exact aG (aQ (by(try simp at hc)<;>omega))) (fun _=>rfl)) rfl ?_);exact k.h):P:=h ⟨k⟩
theorem aD6(k:Q)(h:Hold Q→P:=by intro k;(first|refine kK rfl rfl rfl rfl rfl ?_ |(refine eZ rfl rfl rfl (cI (by first|exact W rfl id|exact E rfl) (by first|exact W rfl id|exact E rfl)) rfl ?_)|refine eQ rfl rfl rfl (cI (by first|exact W rfl id|exact E rfl) (by first|exact W rfl id|exact E rfl)) rfl ?_);exact k.h):P:=h ⟨k⟩
theorem ZN(k:Q)(h:Hold Q→P:=by intro k;(first|refine fY rfl (jN (E rfl) (by first|exact W rfl (by simp)|exact E rfl)) rfl ?_ |refine fY rfl (jO (E rfl) (E rfl)) rfl ?_ |refine fY rfl (hX (E rfl) (by first|exact W rfl (by simp)|exact E rfl) (E rfl)) rfl ?_);exact k.h):P:=h ⟨k⟩
theorem aHB(k:Q)(h:Hold Q→P:=by intro k;(first|refine fY rfl (bM (E rfl) rfl (by decide)) rfl ?_ |refine fY rfl (fJ (E rfl) rfl (by decide)) rfl ?_);exact k.h):P:=h ⟨k⟩
theorem FN(k:Q)(h:Hold Q→P:=by intro k;(refine lg rfl rfl (iL (by first|exact W rfl id|exact E rfl) (E rfl)) rfl ?_);exact k.h):P:=h ⟨k⟩
theorem aMa(k:Q)(h:Hold Q→P:=by intro k;(refine lw rfl rfl (iL (by first|exact W rfl (by first|exact id|simp)|exact E rfl) (E rfl)) rfl ?_);exact k.h):P:=h ⟨k⟩
theorem aMb(k:Q)(h:Hold Q→P:=by intro k;(refine lo (yM (E rfl) (E rfl) (fun _=>by omega) (fun _=>by assumption) (fun _=>by assumption)) rfl ?_);exact k.h):P:=h ⟨k⟩
theorem aMc(k:Q)(h:Hold Q→P:=by intro k;(refine lg rfl rfl (yM (by exact W rfl id) (by exact W rfl id) (fun _=>by omega) (fun _=>by assumption) (fun _=>by assumption)) rfl ?_);exact k.h):P:=h ⟨k⟩
theorem aMd(k:Q)(h:Hold Q→P:=by intro k;(first|refine lg rfl rfl (CD (by exact W rfl id) (by exact W rfl id) (by omega) (by omega)) rfl ?_ |refine lg rfl rfl (lop_add64c (by exact W rfl id) (by exact W rfl id) (fun hc=>by simp at hc<;>first|omega|(have hov:=hov hc;omega))) rfl ?_);exact k.h):P:=h ⟨k⟩
theorem aMe(k:Q)(h:Hold Q→P:=by intro k;(refine lg rfl rfl (gA (by exact W rfl id) (by exact W rfl id)) rfl ?_);exact k.h):P:=h ⟨k⟩
theorem UU(k:Q)(h:Hold Q→P:=by intro k;(first|refine kK rfl rfl rfl rfl rfl ?_ |(refine eZ rfl rfl rfl (bE (E rfl) rfl (by decide)) rfl ?_)|refine eQ rfl rfl rfl (bE (E rfl) rfl (by decide)) rfl ?_);exact k.h):P:=h ⟨k⟩
theorem rV(k:Q)(h:Hold Q→P:=by intro k;(first|refine kK rfl rfl rfl rfl rfl ?_ |(first|refine eZ rfl rfl rfl (aL (by first|exact W rfl id|exact E rfl) rfl aO (fun _=>rfl)) rfl ?_ |refine eZ rfl rfl rfl (aL (by first|exact W rfl id|exact E rfl) rfl aO (fun _=>by assumption)) rfl ?_)|refine eQ rfl rfl rfl (aL (by first|exact W rfl id|exact E rfl) rfl aO (fun _=>rfl)) rfl ?_ |refine eQ rfl rfl rfl (aL (by first|exact W rfl id|exact E rfl) rfl aO (fun _=>by assumption)) rfl ?_);exact k.h):P:=h ⟨k⟩
theorem aKc(k:Q)(h:Hold Q→P:=by intro k;(first|refine kK rfl rfl rfl rfl rfl ?_ |(refine eZ rfl rfl rfl (bM (by first|exact W rfl id|exact E rfl) rfl (by decide)) rfl ?_)|refine eQ rfl rfl rfl (bM (by first|exact W rfl id|exact E rfl) rfl (by decide)) rfl ?_);exact k.h):P:=h ⟨k⟩
theorem aMf(k:Q)(h:Hold Q→P:=by intro k;(refine eQ rfl rfl rfl (eJ (by exact W rfl id)) rfl ?_);exact k.h):P:=h ⟨k⟩
theorem IL(k:Q)(h:Hold Q→P:=by intro k;(first|refine fY rfl (jN (E rfl) (E rfl)) rfl ?_ |refine fY rfl (jO (E rfl) (by first|exact W rfl (by simp)|exact E rfl)) rfl ?_ |refine fY rfl (hX (E rfl) (E rfl) (by first|exact W rfl (by simp)|exact E rfl)) rfl ?_);exact k.h):P:=h ⟨k⟩
theorem aHC(k:Q)(h:Hold Q→P:=by intro k;((refine gy rfl rfl ?_;refine lo (LM (by repeat(first|exact PEvs.nil|(apply PEvs.cons;exact E rfl))) (by(exact wA)) (by repeat(first|exact Fill.nil|(apply Fill.cons;rfl;rfl;rfl;(exact JO))))) rfl ?_));exact k.h):P:=h ⟨k⟩
theorem aMg(k:Q)(h:Hold Q→P:=by intro k;((refine gy rfl rfl ?_;apply bs;exact qN;rfl;rfl;rfl;rfl;exact wA;rfl));exact k.h):P:=h ⟨k⟩
theorem sq0(k:Q)(h:Hold Q→P:=by intro k;refine lo (bU (E rfl)) rfl ?_;refine kU ?_;exact k.h):P:=h ⟨k⟩
theorem eU(k:Q)(h:Hold Q→P:=by intro k;refine jH ?_;refine lo (aF (E rfl)) rfl ?_;exact k.h):P:=h ⟨k⟩
theorem cZ(k:Q)(h:Hold Q→P:=by intro k;refine sq0 ?_;refine aI ?_;exact k.h):P:=h ⟨k⟩
theorem dG(k:Q)(h:Hold Q→P:=by intro k;refine aI ?_;refine jH ?_;exact k.h):P:=h ⟨k⟩
theorem jI(k:Q)(h:Hold Q→P:=by intro k;refine kU ?_;refine aI ?_;exact k.h):P:=h ⟨k⟩
theorem kL(k:Q)(h:Hold Q→P:=by intro k;refine eU ?_;refine lo (aF (E rfl)) rfl ?_;exact k.h):P:=h ⟨k⟩
theorem QM(k:Q)(h:Hold Q→P:=by intro k;refine lo (cI (E rfl) (E rfl)) rfl ?_;refine cZ ?_;exact k.h):P:=h ⟨k⟩
theorem sq7(k:Q)(h:Hold Q→P:=by intro k;(first|refine kK rfl rfl rfl rfl rfl ?_ |(first|refine eZ rfl rfl rfl (bF (by first|exact W rfl id|exact E rfl) (.inl ⟨_,_,rfl⟩)) rfl ?_ |refine eZ rfl rfl rfl (bF (by first|exact W rfl id|exact E rfl) (.inr (.inl ⟨_,_,_,rfl⟩))) rfl ?_ |refine eZ rfl rfl rfl (bF (by first|exact W rfl id|exact E rfl) (.inr (.inr ⟨_,_,_,_,rfl⟩))) rfl ?_)|refine eQ rfl rfl rfl (bF (by first|exact W rfl id|exact E rfl) (.inl ⟨_,_,rfl⟩)) rfl ?_ |refine eQ rfl rfl rfl (bF (by first|exact W rfl id|exact E rfl) (.inr (.inl ⟨_,_,_,rfl⟩))) rfl ?_ |refine eQ rfl rfl rfl (bF (by first|exact W rfl id|exact E rfl) (.inr (.inr ⟨_,_,_,_,rfl⟩))) rfl ?_);(first|refine kK rfl rfl rfl rfl rfl ?_ |(first|refine eZ rfl rfl rfl (bE (by first|exact W rfl id|exact E rfl) rfl (by decide)) rfl ?_ |refine eZ rfl rfl rfl (bM (by first|exact W rfl id|exact E rfl) rfl (by decide)) rfl ?_)|refine eQ rfl rfl rfl (bE (by first|exact W rfl id|exact E rfl) rfl (by decide)) rfl ?_ |refine eQ rfl rfl rfl (bM (by first|exact W rfl id|exact E rfl) rfl (by decide)) rfl ?_);exact k.h):P:=h ⟨k⟩
theorem dO(k:Q)(h:Hold Q→P:=by intro k;refine aI ?_;refine eU ?_;exact k.h):P:=h ⟨k⟩
theorem oO(k:Q)(h:Hold Q→P:=by intro k;refine oI ?_;refine rN ?_;exact k.h):P:=h ⟨k⟩
theorem UV(k:Q)(h:Hold Q→P:=by intro k;(first|refine kK rfl rfl rfl rfl rfl ?_ |(first|refine eZ rfl rfl rfl (fV (by first|exact W rfl id|exact E rfl)) rfl ?_ |refine eZ rfl rfl rfl (kQ (by first|exact W rfl id|exact E rfl)) rfl ?_ |refine eZ rfl rfl rfl (gS (by first|exact W rfl id|exact E rfl)) rfl ?_)|refine eQ rfl rfl rfl (fV (by first|exact W rfl id|exact E rfl)) rfl ?_ |refine eQ rfl rfl rfl (kQ (by first|exact W rfl id|exact E rfl)) rfl ?_ |refine eQ rfl rfl rfl (gS (by first|exact W rfl id|exact E rfl)) rfl ?_);(first|refine kK rfl rfl rfl rfl rfl ?_ |(refine eZ rfl rfl rfl (gN (by first|exact W rfl id|exact E rfl) (by first|exact W rfl id|exact E rfl)) rfl ?_)|refine eQ rfl rfl rfl (gN (by first|exact W rfl id|exact E rfl) (by first|exact W rfl id|exact E rfl)) rfl ?_);exact k.h):P:=h ⟨k⟩
theorem QN(k:Q)(h:Hold Q→P:=by intro k;(try unfold fM);(try unfold kD);(try unfold jG);(try unfold nJ);(try dsimp only[List.cons_append,List.nil_append]);apply aZ;exact bN;exact k.h):P:=h ⟨k⟩
theorem jJ(k:Q)(h:Hold Q→P:=by intro k;apply HW;rfl;rfl;rfl;rfl;exact jU;refine jI ?_;exact k.h):P:=h ⟨k⟩
theorem bP(k:Q)(h:Hold Q→P:=by intro k;refine dG ?_;refine cZ ?_;exact k.h):P:=h ⟨k⟩
theorem jK(k:Q)(h:Hold Q→P:=by intro k;refine lo (bU (E rfl)) rfl ?_;refine cZ ?_;exact k.h):P:=h ⟨k⟩
theorem oP(k:Q)(h:Hold Q→P:=by intro k;refine lo (iL (E rfl) (E rfl)) rfl ?_;refine jI ?_;exact k.h):P:=h ⟨k⟩
theorem lM(k:Q)(h:Hold Q→P:=by intro k;refine lo (aF (E rfl)) rfl ?_;refine nW ?_;exact k.h):P:=h ⟨k⟩
theorem QO(k:Q)(h:Hold Q→P:=by intro k;refine lo (aF (E rfl)) rfl ?_;refine jI ?_;exact k.h):P:=h ⟨k⟩
theorem FO(k:Q)(h:Hold Q→P:=by intro k;refine fY rfl (aF (E rfl)) rfl ?_;refine z77 ?_;exact k.h):P:=h ⟨k⟩
theorem UW(k:Q)(h:Hold Q→P:=by intro k;refine fY rfl (bU (E rfl)) rfl ?_;refine yR ?_;exact k.h):P:=h ⟨k⟩
theorem LP(k:Q)(h:Hold Q→P:=by intro k;refine lo (gT (E rfl) rfl) rfl ?_;refine lo (gT (E rfl) rfl) rfl ?_;exact k.h):P:=h ⟨k⟩
theorem fZ(k:Q)(h:Hold Q→P:=by intro k;refine zP ?_;refine z74 ?_;exact k.h):P:=h ⟨k⟩
theorem pB(k:Q)(h:Hold Q→P:=by intro k;unfold dQ mU;(try dsimp only);apply aZ;exact bN;exact k.h):P:=h ⟨k⟩
theorem xS(k:Q)(h:Hold Q→P:=by intro k;refine lo (aF (E rfl)) rfl ?_;refine ZL ?_;exact k.h):P:=h ⟨k⟩
theorem aD7(k:Q)(h:Hold Q→P:=by intro k;(first|refine kK rfl rfl rfl rfl rfl ?_ |(first|refine eZ rfl rfl rfl (jN (by first|exact W rfl id|exact E rfl) (E rfl)) rfl ?_ |refine eZ rfl rfl rfl (jO (by first|exact W rfl id|exact E rfl) (by first|exact W rfl (by simp)|exact E rfl)) rfl ?_ |refine eZ rfl rfl rfl (hX (by first|exact W rfl id|exact E rfl) (E rfl) (by first|exact W rfl (by simp)|exact E rfl)) rfl ?_)|refine eQ rfl rfl rfl (jN (by first|exact W rfl id|exact E rfl) (E rfl)) rfl ?_ |refine eQ rfl rfl rfl (jO (by first|exact W rfl id|exact E rfl) (by first|exact W rfl (by simp)|exact E rfl)) rfl ?_ |refine eQ rfl rfl rfl (hX (by first|exact W rfl id|exact E rfl) (E rfl) (by first|exact W rfl (by simp)|exact E rfl)) rfl ?_);refine ZN ?_;exact k.h):P:=h ⟨k⟩
theorem aHD(k:Q)(h:Hold Q→P:=by intro k;(first|refine kK rfl rfl rfl rfl rfl ?_ |(first|refine eZ rfl rfl rfl (fV (by first|exact W rfl id|exact E rfl)) rfl ?_ |refine eZ rfl rfl rfl (kQ (by first|exact W rfl id|exact E rfl)) rfl ?_ |refine eZ rfl rfl rfl (gS (by first|exact W rfl id|exact E rfl)) rfl ?_)|refine eQ rfl rfl rfl (fV (by first|exact W rfl id|exact E rfl)) rfl ?_ |refine eQ rfl rfl rfl (kQ (by first|exact W rfl id|exact E rfl)) rfl ?_ |refine eQ rfl rfl rfl (gS (by first|exact W rfl id|exact E rfl)) rfl ?_);(first|refine kK rfl rfl rfl rfl rfl ?_ |(refine eZ rfl rfl rfl (cI (by first|exact W rfl id|exact E rfl) (E rfl)) rfl ?_)|refine eQ rfl rfl rfl (cI (by first|exact W rfl id|exact E rfl) (E rfl)) rfl ?_);exact k.h):P:=h ⟨k⟩
theorem dF(k:Q)(h:Hold Q→P:=by intro k;refine aI ?_;refine kL ?_;exact k.h):P:=h ⟨k⟩
theorem eR(k:Q)(h:Hold Q→P:=by intro k;apply aZ;exact bN;refine cZ ?_;exact k.h):P:=h ⟨k⟩
theorem aHE(k:Q)(h:Hold Q→P:=by intro k;refine fY rfl (aF (E rfl)) rfl ?_;refine HY ?_;exact k.h):P:=h ⟨k⟩
theorem aHF(k:Q)(h:Hold Q→P:=by intro k;refine lo (aF (E rfl)) rfl ?_;refine II ?_;exact k.h):P:=h ⟨k⟩
theorem dC(k:Q)(h:Hold Q→P:=by intro k;refine dG ?_;refine QM ?_;exact k.h):P:=h ⟨k⟩
theorem AD(k:Q)(h:Hold Q→P:=by intro k;refine pH ?_;refine lo (aF (E rfl)) rfl ?_;exact k.h):P:=h ⟨k⟩
theorem fN(k:Q)(h:Hold Q→P:=by intro k;apply aZ;exact bN;refine jI ?_;exact k.h):P:=h ⟨k⟩
theorem ZO(k:Q)(h:Hold Q→P:=by intro k;refine rK ?_;(first|refine ln rfl rfl rfl rfl ?_ |(refine gy rfl rfl ?_;refine lo (gN (by first|exact W rfl id|exact E rfl) (by first|exact W rfl id|exact E rfl)) rfl ?_)|refine lg rfl rfl (gN (by first|exact W rfl id|exact E rfl) (by first|exact W rfl id|exact E rfl)) rfl ?_);exact k.h):P:=h ⟨k⟩
theorem oQ(k:Q)(h:Hold Q→P:=by intro k;refine lo (bU (E rfl)) rfl ?_;refine jK ?_;exact k.h):P:=h ⟨k⟩
theorem rL(k:Q)(h:Hold Q→P:=by intro k;refine lo (cI (E rfl) (E rfl)) rfl ?_;refine jI ?_;exact k.h):P:=h ⟨k⟩
theorem eV(k:Q)(h:Hold Q→P:=by intro k;refine jH ?_;refine QM ?_;exact k.h):P:=h ⟨k⟩
theorem yU(k:Q)(h:Hold Q→P:=by intro k;apply aZ;exact bN;refine lo (aF (E rfl)) rfl ?_;exact k.h):P:=h ⟨k⟩
theorem sM(k:Q)(h:Hold Q→P:=by intro k;refine lo (gA (E rfl) (E rfl)) rfl ?_;refine jI ?_;exact k.h):P:=h ⟨k⟩
theorem pV(k:Q)(h:Hold Q→P:=by intro k;refine FO ?_;refine fZ ?_;exact k.h):P:=h ⟨k⟩
theorem jC(k:Q)(h:Hold Q→P:=by intro k;refine cZ ?_;refine jH ?_;exact k.h):P:=h ⟨k⟩
theorem nY(k:Q)(h:Hold Q→P:=by intro k;apply HW;rfl;rfl;rfl;rfl;exact jU;refine kU ?_;exact k.h):P:=h ⟨k⟩
theorem fF(k:Q)(h:Hold Q→P:=by intro k;refine dO ?_;refine cZ ?_;exact k.h):P:=h ⟨k⟩
theorem gX(k:Q)(h:Hold Q→P:=by intro k;refine bP ?_;refine eU ?_;exact k.h):P:=h ⟨k⟩
theorem AE(k:Q)(h:Hold Q→P:=by intro k;refine PR ?_;refine cZ ?_;exact k.h):P:=h ⟨k⟩
theorem AF(k:Q)(h:Hold Q→P:=by intro k;refine z76 ?_;refine oI ?_;exact k.h):P:=h ⟨k⟩
theorem fE(k:Q)(h:Hold Q→P:=by intro k;refine dG ?_;refine oO ?_;exact k.h):P:=h ⟨k⟩
theorem aHG(k:Q)(h:Hold Q→P:=by intro k;refine fY rfl (bU (E rfl)) rfl ?_;refine UW ?_;exact k.h):P:=h ⟨k⟩
theorem aHH(k:Q)(h:Hold Q→P:=by intro k;refine AD ?_;refine lo (mV (E rfl) (E rfl)) rfl ?_;exact k.h):P:=h ⟨k⟩
theorem UX(k:Q)(h:Hold Q→P:=by intro k;refine PR ?_;refine QO ?_;exact k.h):P:=h ⟨k⟩
theorem nZ(k:Q)(h:Hold Q→P:=by intro k;refine lo (eJ (E rfl)) rfl ?_;refine jI ?_;exact k.h):P:=h ⟨k⟩
theorem kM(k:Q)(h:Hold Q→P:=by intro k;refine uX ?_;refine cZ ?_;exact k.h):P:=h ⟨k⟩
theorem nL(k:Q)(h:Hold Q→P:=by intro k;refine oO ?_;refine pH ?_;exact k.h):P:=h ⟨k⟩
theorem lI(k:Q)(h:Hold Q→P:=by intro k;refine dO ?_;refine AE ?_;exact k.h):P:=h ⟨k⟩
theorem nM(k:Q)(h:Hold Q→P:=by intro k;refine xS ?_;refine aHv ?_;exact k.h):P:=h ⟨k⟩
theorem sN(k:Q)(h:Hold Q→P:=by intro k;refine lo (jM (E rfl) (E rfl)) rfl ?_;refine jI ?_;exact k.h):P:=h ⟨k⟩
theorem CG(k:Q)(h:Hold Q→P:=by intro k;refine fY rfl (aF (E rfl)) rfl ?_;refine fY rfl (aF (E rfl)) rfl ?_;exact k.h):P:=h ⟨k⟩
theorem kO(k:Q)(h:Hold Q→P:=by intro k;refine jH ?_;refine cZ ?_;exact k.h):P:=h ⟨k⟩
theorem aMi(k:Q)(h:Hold Q→P:=by intro k;refine lo (bU (E rfl)) rfl ?_;refine sq0 ?_;exact k.h):P:=h ⟨k⟩
theorem aKd(k:Q)(h:Hold Q→P:=by intro k;(first|refine kK rfl rfl rfl rfl rfl ?_ |(first|refine eZ rfl rfl rfl (jN (by first|exact W rfl id|exact E rfl) (by first|exact W rfl (by simp)|exact E rfl)) rfl ?_ |refine eZ rfl rfl rfl (jO (by first|exact W rfl id|exact E rfl) (E rfl)) rfl ?_ |refine eZ rfl rfl rfl (hX (by first|exact W rfl id|exact E rfl) (by first|exact W rfl (by simp)|exact E rfl) (E rfl)) rfl ?_)|refine eQ rfl rfl rfl (jN (by first|exact W rfl id|exact E rfl) (by first|exact W rfl (by simp)|exact E rfl)) rfl ?_ |refine eQ rfl rfl rfl (jO (by first|exact W rfl id|exact E rfl) (E rfl)) rfl ?_ |refine eQ rfl rfl rfl (hX (by first|exact W rfl id|exact E rfl) (by first|exact W rfl (by simp)|exact E rfl) (E rfl)) rfl ?_);refine IL ?_;exact k.h):P:=h ⟨k⟩
theorem qO(k:Q)(h:Hold Q→P:=by intro k;refine AF ?_;refine jJ ?_;exact k.h):P:=h ⟨k⟩
theorem iF(k:Q)(h:Hold Q→P:=by intro k;refine cZ ?_;refine eU ?_;exact k.h):P:=h ⟨k⟩
theorem uZ(k:Q)(h:Hold Q→P:=by intro k;refine dF ?_;refine lo (aF (E rfl)) rfl ?_;exact k.h):P:=h ⟨k⟩
theorem ZP(k:Q)(h:Hold Q→P:=by intro k;refine fZ ?_;refine aHE ?_;exact k.h):P:=h ⟨k⟩
theorem nN(k:Q)(h:Hold Q→P:=by intro k;refine z76 ?_;refine oO ?_;exact k.h):P:=h ⟨k⟩
theorem xT(k:Q)(h:Hold Q→P:=by intro k;refine lo (iL (E rfl) (E rfl)) rfl ?_;refine lM ?_;exact k.h):P:=h ⟨k⟩
theorem FP(k:Q)(h:Hold Q→P:=by intro k;refine lo (gN (E rfl) (E rfl)) rfl ?_;refine lo (aF (E rfl)) rfl ?_;exact k.h):P:=h ⟨k⟩
theorem vA(k:Q)(h:Hold Q→P:=by intro k;refine lo (aF (E rfl)) rfl ?_;refine LP ?_;exact k.h):P:=h ⟨k⟩
theorem iX(k:Q)(h:Hold Q→P:=by intro k;refine jC ?_;refine oO ?_;exact k.h):P:=h ⟨k⟩
theorem kF(k:Q)(h:Hold Q→P:=by intro k;refine yR ?_;refine aI ?_;exact k.h):P:=h ⟨k⟩
theorem jL(k:Q)(h:Hold Q→P:=by intro k;refine dG ?_;refine oP ?_;exact k.h):P:=h ⟨k⟩
theorem aD8(k:Q)(h:Hold Q→P:=by intro k;refine aHB ?_;refine JP ?_;exact k.h):P:=h ⟨k⟩
theorem lN(k:Q)(h:Hold Q→P:=by intro k;refine ZP ?_;refine aD8 ?_;exact k.h):P:=h ⟨k⟩
theorem lZ(k:Q)(h:Hold Q→P:=by intro k;refine dG ?_;refine UX ?_;exact k.h):P:=h ⟨k⟩
theorem AG(k:Q)(h:Hold Q→P:=by intro k;refine lo (gN (E rfl) (E rfl)) rfl ?_;refine cZ ?_;exact k.h):P:=h ⟨k⟩
theorem CH(k:Q)(h:Hold Q→P:=by intro k;refine fY rfl (aF (E rfl)) rfl ?_;refine AC ?_;exact k.h):P:=h ⟨k⟩
theorem qP(k:Q)(h:Hold Q→P:=by intro k;refine pH ?_;refine QO ?_;exact k.h):P:=h ⟨k⟩
theorem CI(k:Q)(h:Hold Q→P:=by intro k;refine fY rfl (aF (E rfl)) rfl ?_;refine aHE ?_;exact k.h):P:=h ⟨k⟩
theorem mQ(k:Q)(h:Hold Q→P:=by intro k;refine QN ?_;refine jI ?_;exact k.h):P:=h ⟨k⟩
theorem LQ(k:Q)(h:Hold Q→P:=by intro k;refine dO ?_;refine nL ?_;exact k.h):P:=h ⟨k⟩
theorem mR(k:Q)(h:Hold Q→P:=by intro k;refine pB ?_;refine jI ?_;exact k.h):P:=h ⟨k⟩
theorem lO(k:Q)(h:Hold Q→P:=by intro k;refine eU ?_;refine oO ?_;exact k.h):P:=h ⟨k⟩
theorem aKe(k:Q)(h:Hold Q→P:=by intro k;refine lo (jM (E rfl) (E rfl)) rfl ?_;refine lM ?_;exact k.h):P:=h ⟨k⟩
theorem DW(k:Q)(h:Hold Q→P:=by intro k;refine fY rfl (aF (E rfl)) rfl ?_;refine fZ ?_;exact k.h):P:=h ⟨k⟩
theorem IM(k:Q)(h:Hold Q→P:=by intro k;apply aZ;exact bN;refine lo (eJ (E rfl)) rfl ?_;exact k.h):P:=h ⟨k⟩
theorem yV(k:Q)(h:Hold Q→P:=by intro k;refine UW ?_;refine aI ?_;exact k.h):P:=h ⟨k⟩
theorem FQ(k:Q)(h:Hold Q→P:=by intro k;refine lo (gN (E rfl) (E rfl)) rfl ?_;refine jI ?_;exact k.h):P:=h ⟨k⟩
theorem mY(k:Q)(h:Hold Q→P:=by intro k;refine bP ?_;refine kL ?_;exact k.h):P:=h ⟨k⟩
theorem vB(k:Q)(h:Hold Q→P:=by intro k;refine uX ?_;refine jI ?_;exact k.h):P:=h ⟨k⟩
theorem aKf(k:Q)(h:Hold Q→P:=by intro k;(first|refine kK rfl rfl rfl rfl rfl ?_ |(refine eZ rfl rfl rfl (cI (by first|exact W rfl id|exact E rfl) (E rfl)) rfl ?_)|refine eQ rfl rfl rfl (cI (by first|exact W rfl id|exact E rfl) (E rfl)) rfl ?_);(first|refine kK rfl rfl rfl rfl rfl ?_ |(refine eZ rfl rfl rfl (aF (by first|exact W rfl id|exact E rfl)) rfl ?_)|refine eQ rfl rfl rfl (aF (by first|exact W rfl id|exact E rfl)) rfl ?_);exact k.h):P:=h ⟨k⟩
theorem ZQ(k:Q)(h:Hold Q→P:=by intro k;refine uY ?_;refine kM ?_;exact k.h):P:=h ⟨k⟩
theorem DX(k:Q)(h:Hold Q→P:=by intro k;refine mP ?_;refine lo (aF (E rfl)) rfl ?_;exact k.h):P:=h ⟨k⟩
theorem aMj(k:Q)(h:Hold Q→P:=by intro k;refine lo (aF (E rfl)) rfl ?_;refine z61 ?_;exact k.h):P:=h ⟨k⟩
theorem DY(k:Q)(h:Hold Q→P:=by intro k;refine lo (aF (E rfl)) rfl ?_;refine pH ?_;exact k.h):P:=h ⟨k⟩
theorem pC(k:Q)(h:Hold Q→P:=by intro k;refine LQ ?_;refine oP ?_;exact k.h):P:=h ⟨k⟩
theorem qQ(k:Q)(h:Hold Q→P:=by intro k;refine II ?_;refine aHu ?_;exact k.h):P:=h ⟨k⟩
theorem FR(k:Q)(h:Hold Q→P:=by intro k;refine aJ8 ?_;refine aHv ?_;exact k.h):P:=h ⟨k⟩
theorem qR(k:Q)(h:Hold Q→P:=by intro k;refine ZL ?_;refine aHv ?_;exact k.h):P:=h ⟨k⟩
theorem aMk(k:Q)(h:Hold Q→P:=by intro k;refine pV ?_;refine HZ ?_;exact k.h):P:=h ⟨k⟩
theorem IN(k:Q)(h:Hold Q→P:=by intro k;refine aMk ?_;refine aHG ?_;exact k.h):P:=h ⟨k⟩
theorem yC(k:Q)(h:Hold Q→P:=by intro k;refine lo (bU (E rfl)) rfl ?_;refine oQ ?_;exact k.h):P:=h ⟨k⟩
theorem aBv(k:Q)(h:Hold Q→P:=by intro k;refine aJ5 ?_;refine ln rfl rfl rfl rfl ?_;exact k.h):P:=h ⟨k⟩
theorem AH(k:Q)(h:Hold Q→P:=by intro k;refine fY rfl (aF (E rfl)) rfl ?_;refine pV ?_;exact k.h):P:=h ⟨k⟩
theorem XC(k:Q)(h:Hold Q→P:=by intro k;refine aMi ?_;refine an ?_;exact k.h):P:=h ⟨k⟩
theorem yD(k:Q)(h:Hold Q→P:=by intro k;refine kL ?_;refine lo (aF (E rfl)) rfl ?_;exact k.h):P:=h ⟨k⟩
theorem nP(k:Q)(h:Hold Q→P:=by intro k;refine dO ?_;refine qO ?_;exact k.h):P:=h ⟨k⟩
theorem uE(k:Q)(h:Hold Q→P:=by intro k;apply bZ;exact bN;refine yV ?_;exact k.h):P:=h ⟨k⟩
theorem mI(k:Q)(h:Hold Q→P:=by intro k;refine eU ?_;refine aHH ?_;exact k.h):P:=h ⟨k⟩
theorem mJ(k:Q)(h:Hold Q→P:=by intro k;refine II ?_;refine z16 ?_;exact k.h):P:=h ⟨k⟩
theorem lP(k:Q)(h:Hold Q→P:=by intro k;refine nX ?_;refine jI ?_;exact k.h):P:=h ⟨k⟩
theorem DG(k:Q)(h:Hold Q→P:=by intro k;apply HW;rfl;rfl;rfl;rfl;exact jU;refine cZ ?_;exact k.h):P:=h ⟨k⟩
theorem mZ(k:Q)(h:Hold Q→P:=by intro k;refine aHF ?_;refine aHu ?_;exact k.h):P:=h ⟨k⟩
theorem yE(k:Q)(h:Hold Q→P:=by intro k;refine lo (aF (E rfl)) rfl ?_;refine z4 ?_;exact k.h):P:=h ⟨k⟩
theorem pI(k:Q)(h:Hold Q→P:=by intro k;refine sq0 ?_;refine an ?_;exact k.h):P:=h ⟨k⟩
theorem nA(k:Q)(h:Hold Q→P:=by intro k;refine aHF ?_;refine z16 ?_;exact k.h):P:=h ⟨k⟩
theorem JQ(k:Q)(h:Hold Q→P:=by intro k;refine aHF ?_;refine yS ?_;exact k.h):P:=h ⟨k⟩
theorem DH(k:Q)(h:Hold Q→P:=by intro k;refine lo (cI (E rfl) (E rfl)) rfl ?_;refine nM ?_;exact k.h):P:=h ⟨k⟩
theorem pK(k:Q)(h:Hold Q→P:=by intro k;refine UW ?_;refine lI ?_;exact k.h):P:=h ⟨k⟩
theorem mK(k:Q)(h:Hold Q→P:=by intro k;refine jK ?_;refine eU ?_;exact k.h):P:=h ⟨k⟩
theorem DI(k:Q)(h:Hold Q→P:=by intro k;refine pV ?_;refine UQ ?_;exact k.h):P:=h ⟨k⟩
theorem nB(k:Q)(h:Hold Q→P:=by intro k;refine jJ ?_;refine eU ?_;exact k.h):P:=h ⟨k⟩
theorem AI(k:Q)(h:Hold Q→P:=by intro k;refine lo (aF (E rfl)) rfl ?_;refine aD4 ?_;exact k.h):P:=h ⟨k⟩
theorem FS(k:Q)(h:Hold Q→P:=by intro k;apply HW;rfl;rfl;rfl;rfl;exact jU;refine pI ?_;exact k.h):P:=h ⟨k⟩
theorem nC(k:Q)(h:Hold Q→P:=by intro k;refine zP ?_;refine HZ ?_;exact k.h):P:=h ⟨k⟩
theorem nD(k:Q)(h:Hold Q→P:=by intro k;refine dO ?_;refine oO ?_;exact k.h):P:=h ⟨k⟩
theorem nQ(k:Q)(h:Hold Q→P:=by intro k;refine bP ?_;refine kO ?_;exact k.h):P:=h ⟨k⟩
theorem pL(k:Q)(h:Hold Q→P:=by intro k;refine nM ?_;refine nW ?_;exact k.h):P:=h ⟨k⟩
theorem yF(k:Q)(h:Hold Q→P:=by intro k;apply aZ;exact bN;refine ZQ ?_;exact k.h):P:=h ⟨k⟩
theorem FU(k:Q)(h:Hold Q→P:=by intro k;refine lo (bU (E rfl)) rfl ?_;refine XC ?_;exact k.h):P:=h ⟨k⟩
theorem FV(k:Q)(h:Hold Q→P:=by intro k;refine fY rfl (aF (E rfl)) rfl ?_;refine UU ?_;exact k.h):P:=h ⟨k⟩
theorem QP(k:Q)(h:Hold Q→P:=by intro k;refine jH ?_;refine UX ?_;exact k.h):P:=h ⟨k⟩
theorem nE(k:Q)(h:Hold Q→P:=by intro k;refine jH ?_;refine oO ?_;exact k.h):P:=h ⟨k⟩
theorem oR(k:Q)(h:Hold Q→P:=by intro k;refine dF ?_;refine pH ?_;exact k.h):P:=h ⟨k⟩
theorem nR(k:Q)(h:Hold Q→P:=by intro k;refine cZ ?_;refine kL ?_;exact k.h):P:=h ⟨k⟩
theorem aGz(k:Q)(h:Hold Q→P:=by intro k;refine aJ5 ?_;refine gy rfl rfl ?_;exact k.h):P:=h ⟨k⟩
theorem aGA(k:Q)(h:Hold Q→P:=by intro k;refine UT ?_;(first|refine kK rfl rfl rfl rfl rfl ?_ |(refine eZ rfl rfl rfl (iL (by first|exact W rfl id|exact E rfl) (E rfl)) rfl ?_)|refine eQ rfl rfl rfl (iL (by first|exact W rfl id|exact E rfl) (E rfl)) rfl ?_);exact k.h):P:=h ⟨k⟩
theorem AJ(k:Q)(h:Hold Q→P:=by intro k;apply aZ;exact bN;refine kU ?_;exact k.h):P:=h ⟨k⟩
theorem aGB(k:Q)(h:Hold Q→P:=by intro k;refine aHD ?_;(first|refine kK rfl rfl rfl rfl rfl ?_ |(refine eZ rfl rfl rfl (aF (by first|exact W rfl id|exact E rfl)) rfl ?_)|refine eQ rfl rfl rfl (aF (by first|exact W rfl id|exact E rfl)) rfl ?_);exact k.h):P:=h ⟨k⟩
theorem yG(k:Q)(h:Hold Q→P:=by intro k;refine yU ?_;refine LP ?_;exact k.h):P:=h ⟨k⟩
theorem JR(k:Q)(h:Hold Q→P:=by intro k;refine lo (gN (E rfl) (E rfl)) rfl ?_;refine lM ?_;exact k.h):P:=h ⟨k⟩
theorem pM(k:Q)(h:Hold Q→P:=by intro k;refine dG ?_;refine mP ?_;exact k.h):P:=h ⟨k⟩
theorem sO(k:Q)(h:Hold Q→P:=by intro k;refine JQ ?_;refine z16 ?_;exact k.h):P:=h ⟨k⟩
theorem uF(k:Q)(h:Hold Q→P:=by intro k;refine eR ?_;refine QP ?_;exact k.h):P:=h ⟨k⟩
theorem qS(k:Q)(h:Hold Q→P:=by intro k;refine kU ?_;refine dC ?_;exact k.h):P:=h ⟨k⟩
theorem qT(k:Q)(h:Hold Q→P:=by intro k;refine uX ?_;refine lM ?_;exact k.h):P:=h ⟨k⟩
theorem XD(k:Q)(h:Hold Q→P:=by intro k;refine aJ7 ?_;refine FR ?_;exact k.h):P:=h ⟨k⟩
theorem JS(k:Q)(h:Hold Q→P:=by intro k;refine lo (bU (E rfl)) rfl ?_;refine jJ ?_;exact k.h):P:=h ⟨k⟩
theorem QQ(k:Q)(h:Hold Q→P:=by intro k;refine UQ ?_;refine fY rfl (gN (E rfl) (E rfl)) rfl ?_;exact k.h):P:=h ⟨k⟩
theorem wB(k:Q)(h:Hold Q→P:=by intro k;refine dG ?_;refine XC ?_;exact k.h):P:=h ⟨k⟩
theorem sP(k:Q)(h:Hold Q→P:=by intro k;refine DI ?_;refine z82 ?_;exact k.h):P:=h ⟨k⟩
theorem QR(k:Q)(h:Hold Q→P:=by intro k;unfold dQ mU;(try dsimp only);apply bZ;exact bN;exact k.h):P:=h ⟨k⟩
theorem uG(k:Q)(h:Hold Q→P:=by intro k;refine nN ?_;refine sM ?_;exact k.h):P:=h ⟨k⟩
theorem uH(k:Q)(h:Hold Q→P:=by intro k;refine jH ?_;refine jK ?_;exact k.h):P:=h ⟨k⟩
theorem sQ(k:Q)(h:Hold Q→P:=by intro k;refine gX ?_;refine qP ?_;exact k.h):P:=h ⟨k⟩
theorem aBw(k:Q)(h:Hold Q→P:=by intro k;refine uY ?_;refine vB ?_;exact k.h):P:=h ⟨k⟩
theorem aKg(k:Q)(h:Hold Q→P:=by intro k;refine IJ ?_;refine IN ?_;exact k.h):P:=h ⟨k⟩
theorem wC(k:Q)(h:Hold Q→P:=by intro k;refine aKg ?_;refine an ?_;exact k.h):P:=h ⟨k⟩
theorem uI(k:Q)(h:Hold Q→P:=by intro k;refine fF ?_;refine kL ?_;exact k.h):P:=h ⟨k⟩
theorem JT(k:Q)(h:Hold Q→P:=by intro k;refine nN ?_;refine lo (aF (E rfl)) rfl ?_;exact k.h):P:=h ⟨k⟩
theorem uJ(k:Q)(h:Hold Q→P:=by intro k;refine dO ?_;refine AF ?_;exact k.h):P:=h ⟨k⟩
theorem sR(k:Q)(h:Hold Q→P:=by intro k;refine bP ?_;refine jH ?_;exact k.h):P:=h ⟨k⟩
theorem QS(k:Q)(h:Hold Q→P:=by intro k;refine yG ?_;refine lo (gT (E rfl) rfl) rfl ?_;exact k.h):P:=h ⟨k⟩
theorem uK(k:Q)(h:Hold Q→P:=by intro k;refine aMj ?_;refine z62 ?_;exact k.h):P:=h ⟨k⟩
theorem aKh(k:Q)(h:Hold Q→P:=by intro k;refine XD ?_;refine aBw ?_;exact k.h):P:=h ⟨k⟩
theorem uL(k:Q)(h:Hold Q→P:=by intro k;refine gX ?_;refine AD ?_;exact k.h):P:=h ⟨k⟩
theorem uM(k:Q)(h:Hold Q→P:=by intro k;refine pH ?_;refine rL ?_;exact k.h):P:=h ⟨k⟩
theorem yH(k:Q)(h:Hold Q→P:=by intro k;refine lM ?_;refine aGz ?_;exact k.h):P:=h ⟨k⟩
theorem aKi(k:Q)(h:Hold Q→P:=by intro k;refine lM ?_;refine aBv ?_;exact k.h):P:=h ⟨k⟩
theorem yI(k:Q)(h:Hold Q→P:=by intro k;refine aKi ?_;refine ZQ ?_;exact k.h):P:=h ⟨k⟩
theorem wD(k:Q)(h:Hold Q→P:=by intro k;refine aKe ?_;refine aKh ?_;exact k.h):P:=h ⟨k⟩
end
theorem eS{P:Prop}{C:Nat→Prop}(k:∀r,C r)(h:Hold (∀r,C r)→P:=by intro k;refine z1 ?_;exact kE k.h):P:=h ⟨k⟩
theorem iG{P:Prop}{C:Nat→Prop}(k:∀r,C r)(h:Hold (∀r,C r)→P:=by intro k;apply bx;rfl;rfl;exact wA;rfl;exact kE k.h):P:=h ⟨k⟩
theorem jZ{P:Prop}{C:Nat→Prop}(k:∀r,C r)(h:Hold (∀r,C r)→P:=by intro k;apply al;rfl;exact wA;exact kE k.h):P:=h ⟨k⟩
theorem CA{P:Prop}{C:Nat→Prop}(k:∀r,C r)(h:Hold (∀r,C r)→P:=by intro k;refine z97 ?_;exact kE k.h):P:=h ⟨k⟩
theorem fz4{P:Prop}{C:Nat→Prop}(k:∀r,C r)(h:Hold (∀r,C r)→P:=by intro k;refine aMg ?_;exact kE k.h):P:=h ⟨k⟩
theorem fz5{P:Prop}{C:Nat→Prop}(k:∀r,C r)(h:Hold (∀r,C r)→P:=by intro k;apply dbx;rfl;rfl;rfl;exact wA;rfl;exact kE k.h):P:=h ⟨k⟩
def uB (n:Nat):List Nat:=if h:n<128 then [n]else(n%128+128)::uB (n / 128)
termination_by n
decreasing_by omega
theorem uN{n:Nat}(h:n<128):uB n=[n]:=by rw[uB,dif_pos h]
theorem AK{n:Nat}(h:¬n<128):uB n=(n%128+128)::uB (n / 128):=by rw[uB,dif_neg h]
theorem lQ(n:Nat):∀x∈uB n,x<256:=by
 induction n using Nat.strongRecOn with
 | _ n ih=>
  by_cases h:n<128
  ·rw[uN h];simp;omega
  ·rw[AK h];intro x hx;rcases List.mem_cons.1 hx with rfl|hx
   ·omega
   ·exact ih (n / 128) (by omega) x hx
theorem iI(n:Nat):1≤(uB n).length:=by
 by_cases h:n<128
 ·rw[uN h];simp
 ·rw[AK h];simp
theorem bR:∀(k n:Nat),n<128^(k+1)→(uB n).length≤k+1
 |0,n,h=>by rw[uN (by simpa using h)];simp
 |k+1,n,h=>by
  by_cases hn:n<128
  ·rw[uN hn];simp
  ·rw[AK hn,List.length_cons];have:=bR k (n / 128) (by rw[Nat.pow_succ]at h;exact Nat.div_lt_of_lt_mul (by omega));omega
def yW:List Nat→Nat
 |[]=>0
 |b::t=>b%128+128*yW t
theorem aD9(n:Nat):yW (uB n)=n:=by
 induction n using Nat.strongRecOn with
 | _ n ih=>
  by_cases h:n<128
  ·rw[uN h];simp[yW];omega
  ·rw[AK h,yW,ih (n / 128) (by omega)];omega
theorem XE:∀(l:List Nat),yW l<128^l.length
 |[]=>by simp[yW]
 |b::t=>by
  have:=XE t;rw[yW,List.length_cons,Nat.pow_succ];omega
def eW:List Nat→Nat→Nat×Int
 | _,0=>(0,1)
 |[],_ +1=>(0,2)
 |b::t,m+1=>if b<128 then(1,0)else(if(eW t m).2=0 then((eW t m).1+1,0)else eW t m)
theorem xE:∀(bs:List Nat) (m:Nat),(eW bs m).2=0→1≤(eW bs m).1∧(eW bs m).1≤m∧(eW bs m).1≤bs.length
 |bs,0,h=>by cases bs<;>simp[eW]at h
 |[],_ +1,h=>by simp[eW]at h
 |b::t,m+1,h=>by
  have ih:=xE t m;rw[eW]at h⊢;by_cases hb:b<128
  ·rw[if_pos hb];simp
  ·rw[if_neg hb]at h⊢;by_cases h2:(eW t m).2=0
   ·rw[if_pos h2];have:=ih h2;simp;omega
   ·rw[if_neg h2]at h;exact absurd h h2
theorem XF(rest:List Nat):∀(m n:Nat),(uB n).length≤m→eW (uB n++rest) m=((uB n).length,0)
 |0,n,h=>by have:=iI n;omega
 |m+1,n,h=>by
  by_cases hn:n<128
  ·rw[uN hn];simp[eW,hn]
  ·rw[AK hn]at h⊢;rw[List.cons_append,eW,if_neg (by omega),XF rest m (n / 128) (by simpa using h)];simp
def lR (bs:List Nat):Nat×Nat×Int:=
 if(eW bs 5).2≠0 then(0,0,(eW bs 5).2)
 else if uB (yW (bs.take (eW bs 5).1))=bs.take (eW bs 5).1∧yW (bs.take (eW bs 5).1)<4294967296 then(yW (bs.take (eW bs 5).1),(eW bs 5).1,0)else(0,0,1)
theorem XG{n:Nat}(hn:n<4294967296)(rest:List Nat):lR (uB n++rest)=(n,(uB n).length,0):=by
 have hl:=bR 4 n (by omega);unfold lR;rw[XF rest 5 n hl];simp only[ne_eq,not_true_eq_false,if_false];rw[List.take_left,aD9,if_pos ⟨rfl,hn⟩]
theorem AL(bs:List Nat):(lR bs).1<4294967296∧(lR bs).2.1≤bs.length∧(lR bs).2.1≤5:=by
 unfold lR;split
 ·simp
 ·next h=>
  have:=xE bs 5 (by simpa using h);split
  ·next h2=>exact⟨h2.2,this.2.2,this.2.1⟩
  ·simp
def sB (n:Int):List Nat:=if h:-64≤n∧n≤63 then [(n%128).toNat]else((n%128).toNat+128)::sB (n / 128)
termination_by n.natAbs
decreasing_by omega
theorem yJ{n:Int}(h:-64≤n∧n≤63):sB n=[(n%128).toNat]:=by rw[sB,dif_pos h]
theorem AM{n:Int}(h:¬(-64≤n∧n≤63)):sB n=((n%128).toNat+128)::sB (n / 128):=by rw[sB,dif_neg h]
theorem LS(n:Int):1≤(sB n).length:=by
 by_cases h:-64≤n∧n≤63
 ·rw[yJ h];simp
 ·rw[AM h];simp
theorem aGC(m:Nat):∀(n:Int),n.natAbs≤m→∀x∈sB n,x<256:=by
 induction m with
 |zero=>intro n hn;rw[yJ (by omega)];simp;omega
 |succ m ih=>
  intro n hn;by_cases h:-64≤n∧n≤63
  ·rw[yJ h];simp;omega
  ·rw[AM h];intro x hx;rcases List.mem_cons.1 hx with rfl|hx
   ·omega
   ·exact ih (n / 128) (by omega) x hx
theorem yX:∀(k:Nat) (n:Int),-(64*128^k:Nat)≤n→n<(64*128^k:Nat)→(sB n).length≤k+1
 |0,n,h,h'=>by rw[yJ (by simp at h h';omega)];simp
 |k+1,n,h,h'=>by
  by_cases hn:-64≤n∧n≤63
  ·rw[yJ hn];simp
  ·rw[AM hn,List.length_cons];have e:(64*128^(k+1):Nat)=128*(64*128^k):=by rw[Nat.pow_succ];omega
   rw[e]at h h';have:=yX k (n / 128) (by omega) (by omega);omega
theorem XH(rest:List Nat):∀(m:Nat) (n:Int),(sB n).length≤m→eW (sB n++rest) m=((sB n).length,0)
 |0,n,h=>by have:=LS n;omega
 |m+1,n,h=>by
  by_cases hn:-64≤n∧n≤63
  ·rw[yJ hn];rw[List.cons_append,eW,if_pos (by omega)];rfl
  ·rw[AM hn]at h⊢;rw[List.cons_append,eW,if_neg (by omega),XH rest m (n / 128) (by simpa using h)];simp
def mA:List Nat→Int
 |[]=>0
 |[b]=>if 64≤b%128 then((b%128:Nat):Int)-128 else((b%128:Nat):Int)
 |b::c::t=>IntKind.i64.wrap (mA (c::t)*128+((b%128:Nat):Int))
theorem JU(b:Nat){t:List Nat}(h:1≤t.length):mA (b::t)=IntKind.i64.wrap (mA t*128+((b%128:Nat):Int)):=by
 cases t with
 |nil=>simp at h
 |cons c t=>rfl
theorem aEa(m:Nat):∀(n:Int),n.natAbs≤m→ -9223372036854775808≤n→n≤9223372036854775807→mA (sB n)=n:=by
 induction m with
 |zero=>intro n hn _ _;rw[yJ (by omega)];simp[mA];omega
 |succ m ih=>
  intro n hn h1 h2;by_cases h:-64≤n∧n≤63
  ·rw[yJ h,mA];split<;>omega
  ·rw[AM h,JU _ (LS _),ih (n / 128) (by omega) (by omega) (by omega)];rw[IntKind.wrap_i64];omega
def nS (bits:Nat):Nat:=(bits+6) / 7
def xU (bits:Nat) (bs:List Nat):Int×Nat×Int:=
 if(eW bs (nS bits)).2≠0 then(0,0,(eW bs (nS bits)).2)
 else if sB (mA (bs.take (eW bs (nS bits)).1))=bs.take (eW bs (nS bits)).1∧(bits=32→ -2147483648≤mA (bs.take (eW bs (nS bits)).1)∧mA (bs.take (eW bs (nS bits)).1)≤2147483647)then(mA (bs.take (eW bs (nS bits)).1),(eW bs (nS bits)).1,0)else(0,0,1)
theorem aEb{bits:Nat}(hb:bits=32∨bits=64){n:Int}(h1:-9223372036854775808≤n)(h2:n≤9223372036854775807)(h3:bits=32→ -2147483648≤n∧n≤2147483647)(rest:List Nat):xU bits (sB n++rest)=(n,(sB n).length,0):=by
 have hl:(sB n).length≤nS bits:=by
  rcases hb with rfl|rfl
  ·have:=h3 rfl;exact yX 4 n (by omega) (by omega)
  ·exact yX 9 n (by omega) (by omega)
 unfold xU;rw[XH rest _ n hl];simp only[ne_eq,not_true_eq_false,if_false];rw[List.take_left,aEa n.natAbs n (Nat.le_refl _) h1 h2,if_pos ⟨rfl,h3⟩]
theorem XI(bits:Nat)(bs:List Nat):(xU bits bs).2.1≤bs.length:=by
 unfold xU;split
 ·simp
 ·next h=>
  have:=xE bs (nS bits) (by simpa using h);split
  ·exact this.2.2
  ·simp
end Go.Proofs.YtjpdadobblffmaaGreat
namespace Go.Proofs.YtjpdadobblffmaaGreat
open Go.RowKit Go.ChangeShapes Go.WideShapes Go.ChangeAt Go.Deep
attribute [local irreducible] SW RS RD fH eH
theorem mL{l:List Nat}{x:Nat}:l.map aH++ [[.int .u8 x]]=(l++ [x]).map aH:=by simp[aH]
theorem LT{x:Nat}(h:x<256):(BitVec.ofInt IntKind.u8.bits (x:Int)).toNat=x:=by
 rw[BitVec.toNat_ofInt];simp[IntKind.bits];omega
theorem QT{x:Nat}(h:x<256):IntKind.u8.wrap ↑(BitVec.ofInt IntKind.u8.bits (x:Int)|||BitVec.ofInt IntKind.u8.bits 128).toNat=((x%128+128:Nat):Int):=by
 have h1:∀x<256,x|||128=x%128+128:=by decide
 rw[BitVec.toNat_or,LT h,show(BitVec.ofInt IntKind.u8.bits 128).toNat=128 by decide,h1 x h,IntKind.wrap_u8];omega
theorem aMl{m:Nat}:(m:Int).fdiv (2^min (Int.toNat 7) IntKind.u64.bits)=((m / 128:Nat):Int):=by
 have:(2:Int)^min (Int.toNat 7) IntKind.u64.bits=128:=by decide
 rw[this,Int.fdiv_eq_ediv_of_nonneg _ (by omega)];omega
theorem aBx(m:Nat):IntKind.u8.wrap (m:Int)=((m%256:Nat):Int):=by rw[IntKind.wrap_u8];omega
theorem aEc(m:Nat):IntKind.u8.wrap ↑(BitVec.ofInt IntKind.u8.bits (IntKind.u8.wrap (m:Int))|||BitVec.ofInt IntKind.u8.bits 128).toNat=((m%128+128:Nat):Int):=by
 rw[aBx m,QT (by omega)];omega
theorem QU{n:Nat}(h:n<18446744073709551616):(uB n).length≤10:=bR 9 n (by omega)
theorem nF(q:Nat)(vs:List Nat)(hb:vs.length≤100000000)(n:Nat)(hn:n<18446744073709551616):SCall Tryz.prog 239 [.own q 0 vs.length,.int .u64 n] [(q,.arr 5 1 (vs.map aH))]
  (fun x σ=>∃r,x=.own r 0 (vs++uB n).length∧σ=[(r,.arr 5 1 ((vs++uB n).map aH))]):=by
 have hL:=QU hn;refine cC 20 [0,1,4,6] Tryz.func239 ?_;refine bP ?_;refine scj (β:=Nat×List Nat×Nat) 0 rfl (fun b=>⟨[(0,.own b.1 0 b.2.1.length),(1,.int .u64 b.2.2)],[(b.1,.arr 5 1 (b.2.1.map aH))]⟩) (fun b=>b.2.1++uB b.2.2=vs++uB n∧b.2.2<18446744073709551616) (fun b=>b.2.2) ?_ (fun P=> ?_)
 ·rintro⟨r,us,m⟩ ⟨he,hm⟩;simp only at he hm⊢;have hcl:us.length+(uB m).length=vs.length+(uB n).length:=by rw[←List.length_append,he,List.length_append]
  have hup:=iI m;refine dO ?_;refine oP ?_;refine aB rfl (fun h=> ?_) (fun h=> ?_)
  ·have h1:m<128:=by simp at h;omega
   rw[uN h1]at he;refine dF ?_;refine z0 ?_;refine eS fun r10 h10=> ?_;intros
   apply ap (es':=(vs++uB n).map aH) (len':=(vs++uB n).length);rfl;rfl;exact aO
   ·simp
   ·exact .inr (.inr ⟨_,_,_,_,_,rfl,aO,by simp,rfl⟩)
   ·rw[←he,←mL];rfl
   ·rw[←he];simp
   ·simp[maxLen];omega
   ·simp;omega
   ·rfl
   refine bL fun r11 h11=> ?_;intros
   refine cZ ?_;refine xQ ?_;exact aD aE ⟨r11,by rfl,rfl⟩ aA
  ·have h1:¬m<128:=by simp at h;omega
   have hcl2:us.length+(uB (m / 128)).length+1=vs.length+(uB n).length:=by rw[AK h1]at hcl;simp at hcl;omega
   rw[AK h1]at he;refine dF ?_;refine z0 ?_;refine lo (LC (E rfl) (E rfl)) rfl ?_;refine eS fun r16 h16=> ?_;intros
   apply ap (es':=(us++ [m%128+128]).map aH) (len':=(us++ [m%128+128]).length);rfl;rfl;exact aO
   ·simp
   ·exact .inr (.inr ⟨_,_,_,_,_,rfl,aO,by simp,rfl⟩)
   ·rw[←mL,aEc];rfl
   ·simp
   ·simp[maxLen];omega
   ·simp;omega
   ·rfl
   refine bL fun r17 h17=> ?_;intros
   refine iF ?_;refine z2 ?_;refine cZ ?_;refine xQ ?_;rw[aMl];refine⟨(r17,us++ [m%128+128],m / 128),⟨?_, ?_⟩, ?_, ?_⟩
   ·simpa using he
   ·show m / 128< _;omega
   ·show m / 128<m;omega
   ·exact aJ
 ·refine P (q,vs,n) _ ⟨rfl,hn⟩ ?_;exact aJ
theorem aBy(n:Int):IntKind.u8.wrap n=((n%256).toNat:Int):=by rw[IntKind.wrap_u8];omega
theorem yY{x:Nat}(h:x<256):IntKind.u8.wrap ↑(BitVec.ofInt IntKind.u8.bits (x:Int)&&&~~~BitVec.ofInt IntKind.u8.bits 128).toNat=((x%128:Nat):Int):=by
 have h1:∀x<256,x&&&127=x%128:=by decide
 rw[BitVec.toNat_and,LT h,show(~~~BitVec.ofInt IntKind.u8.bits 128).toNat=127 by decide,h1 x h,IntKind.wrap_u8];omega
theorem aBz{x:Nat}(h:x<128):IntKind.u8.wrap ↑(BitVec.ofInt IntKind.u8.bits (x:Int)&&&BitVec.ofInt IntKind.u8.bits 64).toNat=if x<64 then 0 else 64:=by
 have h1:∀x<128,x&&&64=if x<64 then 0 else 64:=by decide
 rw[BitVec.toNat_and,LT (by omega),show(BitVec.ofInt IntKind.u8.bits 64).toNat=64 by decide,h1 x h,IntKind.wrap_u8];split<;>rfl
def cS (n:Int):Nat:=(n%128).toNat
theorem XJ(n:Int):cS n<128:=by unfold cS;omega
theorem ZR(n:Int):IntKind.u8.wrap ↑(BitVec.ofInt IntKind.u8.bits (IntKind.u8.wrap n)&&&~~~BitVec.ofInt IntKind.u8.bits 128).toNat=(cS n:Int):=by
 rw[aBy n,yY (by omega)];unfold cS;omega
theorem aBA(n:Int):IntKind.u8.wrap ↑(BitVec.ofInt IntKind.u8.bits (cS n:Int)|||BitVec.ofInt IntKind.u8.bits 128).toNat=((cS n+128:Nat):Int):=by
 have:=XJ n;rw[QT (by omega)];omega
theorem aGD{m:Int}:m.fdiv (2^min (Int.toNat 7) IntKind.i64.bits)=m / 128:=by
 have:(2:Int)^min (Int.toNat 7) IntKind.i64.bits=128:=by decide
 rw[this,Int.fdiv_eq_ediv_of_nonneg _ (by omega)]
theorem QV(q:Nat)(vs:List Nat)(hb:vs.length≤100000000)(n:Int)(hn:-9223372036854775808≤n∧n≤9223372036854775807):SCall Tryz.prog 296 [.own q 0 vs.length,.int .i64 n] [(q,.arr 5 1 (vs.map aH))]
  (fun x σ=>∃r,x=.own r 0 (vs++sB n).length∧σ=[(r,.arr 5 1 ((vs++sB n).map aH))]):=by
 have hL:(sB n).length≤10:=yX 9 n (by omega) (by omega);refine cC 36 [0,1,4,5,26] Tryz.func296 ?_;refine bP ?_;refine scj (β:=Nat×List Nat×Int) 0 rfl (fun b=>⟨[(0,.own b.1 0 b.2.1.length),(1,.int .i64 b.2.2)],[(b.1,.arr 5 1 (b.2.1.map aH))]⟩) (fun b=>b.2.1++sB b.2.2=vs++sB n∧ -9223372036854775808≤b.2.2∧b.2.2≤9223372036854775807) (fun b=>b.2.2.natAbs) ?_ (fun P=> ?_)
 ·rintro⟨r,us,m⟩ ⟨he,hm,hm2⟩;simp only at he hm hm2⊢;have hcl:us.length+(sB m).length=vs.length+(sB n).length:=by rw[←List.length_append,he,List.length_append]
  have hup:=LS m;have hc7:=XJ m;refine dO ?_;refine z0 ?_;refine z3 ?_;refine cZ ?_;rw[ZR];refine eU ?_;refine z2 ?_;refine cZ ?_;rw[aGD];refine eU ?_;refine lo (cI (E rfl) (E rfl)) rfl ?_;refine yE ?_;refine z5 ?_;refine z6 ?_;refine z7 ?_;refine yE ?_;refine z6 ?_;refine z8 ?_;refine z9 ?_;refine z10 ?_;refine z11 ?_;refine z12 ?_;refine z13 ?_;refine jI ?_;rw[aBz hc7];have hb64:(-64≤m∧m≤63)↔(m / 128=0∧cS m<64∨m / 128=-1∧¬cS m<64):=by unfold cS;omega
  refine aB rfl (fun h=> ?_) (fun h=> ?_)
  ·have h1:-64≤m∧m≤63:=by
    rw[hb64];by_cases h6:cS m<64<;>simp[h6]at h⊢<;>omega
   rw[yJ h1]at he;refine dF ?_;refine eS fun r29 h29=> ?_;intros
   apply ap (es':=(vs++sB n).map aH) (len':=(vs++sB n).length);rfl;rfl;exact aO
   ·simp
   ·exact .inr (.inr ⟨_,_,_,_,_,rfl,aO,by simp,rfl⟩)
   ·rw[←he,←mL];rfl
   ·rw[←he];simp
   ·simp[maxLen];omega
   ·simp;omega
   ·rfl
   refine bL fun r30 h30=> ?_;intros
   refine cZ ?_;refine xQ ?_;exact aD aE ⟨r30,by rfl,rfl⟩ aA
  ·have h1:¬(-64≤m∧m≤63):=by
    rw[hb64];by_cases h6:cS m<64<;>simp[h6]at h⊢<;>omega
   have hcl2:us.length+(sB (m / 128)).length+1=vs.length+(sB n).length:=by rw[AM h1]at hcl;simp at hcl;omega
   rw[AM h1]at he;refine dF ?_;refine lo (LC (E rfl) (E rfl)) rfl ?_;refine eS fun r34 h34=> ?_;intros
   apply ap (es':=(us++ [cS m+128]).map aH) (len':=(us++ [cS m+128]).length);rfl;rfl;exact aO
   ·simp
   ·exact .inr (.inr ⟨_,_,_,_,_,rfl,aO,by simp,rfl⟩)
   ·rw[←mL,aBA];rfl
   ·simp
   ·simp[maxLen];omega
   ·simp;omega
   ·rfl
   refine bL fun r35 h35=> ?_;intros
   refine cZ ?_;refine xQ ?_;refine⟨(r35,us++ [cS m+128],m / 128),⟨?_, ?_⟩, ?_, ?_⟩
   ·simpa[cS]using he
   ·show _ ≤m / 128∧m / 128≤ _;omega
   ·show(m / 128).natAbs<m.natAbs;omega
   ·exact aJ
 ·refine P (q,vs,n) _ ⟨rfl,hn⟩ ?_;exact aJ
def IO (n:Nat) (r:Nat×Int):Nat×Int:=if r.2=0 then(r.1+n,0)else r
theorem ZS(r:Nat×Int):IO 0 r=r:=by obtain⟨x,y⟩:=r;unfold IO;split<;>simp_all
theorem aBB(n k:Nat)(r:Nat×Int):IO n (IO k r)=IO (n+k) r:=by
 unfold IO;by_cases h:r.2=0<;>simp[h];omega
theorem ZT{l:List Nat}{m n:Nat}(h1:n<m)(h2:n<l.length):eW (l.drop n) (m-n)=if l[n]! <128 then(1,0)else IO 1 (eW (l.drop (n+1)) (m-(n+1))):=by
 rw[List.drop_eq_getElem_cons h2,show m-n=(m-(n+1))+1 by omega,eW,getElem!_pos l n h2];rfl
theorem ZU{l:List Nat}:eW l 0=(0,1):=by cases l<;>rfl
theorem aBC{m:Nat}(h:0<m):eW [] m=(0,2):=by
 cases m with
 |zero=>omega
 |succ m=>rfl
theorem tL(l:List Nat)(hl:l.length≤1000000)(bits:Int)(m:Nat)(hm:bits=32∧m=5∨bits=64∧m=10):SCall Tryz.prog 257 [.ro 1 (l.map aH) .any,.int .i64 bits] []
  (fun x σ=>x=.tup [.int .i64 ((eW l m).1:Nat),.int .i64 (eW l m).2]∧σ=[]):=by
 have hq:IntKind.i64.wrap ((bits+7-1).tdiv 7)=m:=by rcases hm with⟨rfl,rfl⟩|⟨rfl,rfl⟩<;>decide
 refine cC 37 [0,1,4,5,6,7,13,18,22,27] Tryz.func257 ?_;refine dG ?_;refine jK ?_;refine scj (β:=Nat) 0 rfl (fun b=>⟨[(0,.ro 1 (l.map aH) .any),(6,.int .i64 b),(7,.int .i64 m)],[]⟩) (fun b=>b≤m∧b≤l.length∧eW l m=IO b (eW (l.drop b) (m-b))) (fun b=>m-b) ?_ (fun P=> ?_)
 ·rintro n ⟨hn1,hn2,he⟩;try dsimp only at hn1 hn2 he⊢
  refine dF ?_;refine QM ?_;refine aB rfl (fun h=> ?_) (fun h=> ?_)
  ·obtain rfl:n=m:=by simp at h;omega
   rw[Nat.sub_self,ZU]at he;refine dG ?_;refine jK ?_;refine xQ ?_;apply aD;exact aE
   ·rw[he];exact⟨rfl,rfl⟩
   ·exact aA
  have h1:n<m:=by simp at h;omega
  refine oR ?_;refine QM ?_;refine aB rfl (fun h=> ?_) (fun h=> ?_)
  ·obtain rfl:n=l.length:=by simp at h;omega
   rw[List.drop_length,aBC (by omega)]at he;refine dG ?_;refine jK ?_;refine xQ ?_;apply aD;exact aE
   ·rw[he];exact⟨rfl,rfl⟩
   ·exact aA
  have h2:n<l.length:=by simp at h;omega
  rw[ZT h1 h2]at he;refine dF ?_;refine mJ ?_;refine AG ?_;refine aB rfl (fun h=> ?_) (fun h=> ?_)
  ·have h3:¬l[n]! <128:=by rw[Int.toNat_natCast]at h;first|(have:=of_decide_eq_true h;omega)|(have:=of_decide_eq_false h;omega)
   rw[if_neg h3,aBB]at he;refine lI ?_;refine xQ ?_;refine⟨n+1,⟨by omega,by omega,he⟩,by omega, ?_⟩;exact aJ
  ·have h3:l[n]! <128:=by rw[Int.toNat_natCast]at h;first|(have:=of_decide_eq_true h;omega)|(have:=of_decide_eq_false h;omega)
   rw[if_pos h3]at he;refine dO ?_;refine PR ?_;refine jK ?_;refine xQ ?_;apply aD;exact aE
   ·rw[he,show IO n (1,0)=(n+1,0) by simp[IO,Nat.add_comm]];exact⟨rfl,rfl⟩
   ·exact aA
 ·refine dO ?_;refine lo (iL (E rfl) (E rfl)) rfl ?_;refine yE ?_;refine z18 ?_;refine z13 ?_;refine jI ?_;refine aB rfl (fun h=> ?_) (fun h=> ?_)
  ·exfalso;simp at h;omega
  refine dO ?_;refine PR ?_;refine sK ?_;refine z20 ?_;refine XC ?_;rw[hq];refine P 0 _ ⟨by omega,by omega,by simp[ZS]⟩ ?_;exact aJ
theorem QW(a c:List Nat)(ha:∀x∈a,x<256)(hc:∀x∈c,x<256):SCall Tryz.prog 258 [.ro 1 (a.map aH) .any,.ro 1 (c.map aH) .any] []
  (fun x σ=>x=.bool (decide (c=a))∧σ=[]):=by
 refine cC 10 [0,1,4] Tryz.func258 ?_;refine gX ?_;refine lo (tK (e:=5) (bs:=a) (E rfl)) rfl ?_;refine lo (aF (E rfl)) rfl ?_;refine lo (tK (e:=5) (bs:=c) (E rfl)) rfl ?_;refine lo (vU (E rfl) (E rfl)) rfl ?_;refine cZ ?_;apply aD;exact aE
 ·refine⟨?_,rfl⟩;rw[qM ha hc];show AV.bool _=_
  congr 1
  rw[decide_eq_decide];exact eq_comm
 ·exact aA
theorem aEd{n:Nat}(hn:n<18446744073709551616):IntKind.u64.wrap (n:Int)=n:=by rw[IntKind.wrap_u64];omega
theorem ZV(m:Nat):IntKind.u8.wrap (IntKind.u8.wrap ((m:Int).tmod 128)+128)=((m%128+128:Nat):Int):=by
 rw[Int.tmod_eq_emod_of_nonneg (by omega),IntKind.wrap_u8,IntKind.wrap_u8];omega
theorem ZW{m:Nat}(hm:m<18446744073709551616):IntKind.u64.wrap ((m:Int).tdiv 128)=((m / 128:Nat):Int):=by
 rw[Int.tdiv_eq_ediv_of_nonneg (by omega),IntKind.wrap_u64];omega
theorem aBD(m:Int):IntKind.i64.wrap ↑(BitVec.ofInt IntKind.i64.bits m&&&BitVec.ofInt IntKind.i64.bits 127).toNat=(cS m:Int):=by
 have h1:(BitVec.ofInt IntKind.i64.bits m).toNat=(m%18446744073709551616).toNat:=by
  rw[BitVec.toNat_ofInt];simp[IntKind.bits]
 rw[BitVec.toNat_and,h1,show(BitVec.ofInt IntKind.i64.bits 127).toNat=2^7-1 by decide,Nat.and_two_pow_sub_one_eq_mod,IntKind.wrap_i64];unfold cS;omega
theorem aGE(m:Int):IntKind.u8.wrap (cS m:Int)=cS m:=by
 have:=XJ m;rw[IntKind.wrap_u8];omega
theorem aBE(m:Int):IntKind.u8.wrap ((cS m:Int)+128)=((cS m+128:Nat):Int):=by
 have:=XJ m;rw[IntKind.wrap_u8];omega
theorem DJ(n:Nat)(hn:n<18446744073709551616):SCall Tryz.prog 252 [.int .u64 n] []
  (fun x σ=>∃r,x=.own r 0 (uB n).length∧σ=[(r,.arr 5 1 ((uB n).map aH))]):=by
 have hL:=QU hn;refine cC 20 [0,2,3,5] Tryz.func252 ?_;refine sR ?_;refine pI ?_;refine bX 3 5 1 (by decide) (k:=.nil) rfl (by decide) (fun q hq=> ?_);refine aI ?_;refine lp (β:=Nat×List Nat×Nat) (fun b=>⟨[(3,.own b.1 0 b.2.1.length),(0,.int .u64 b.2.2)],[(b.1,.arr 5 1 (b.2.1.map aH))]⟩) (fun b=>b.2.1++uB b.2.2=uB n∧b.2.2<18446744073709551616) (fun b=>b.2.2) (q,[],n) (by(exact aJ)) ⟨rfl,hn⟩ ?_;rintro⟨r,us,m⟩ ⟨he,hm⟩;simp only at he hm⊢;have hcl:us.length+(uB m).length=(uB n).length:=by rw[←List.length_append,he]
 have hup:=iI m;refine dO ?_;refine FQ ?_;refine aB rfl (fun h=> ?_) (fun h=> ?_)
 ·have h1:¬m<128:=by simp at h;omega
  have hcl2:us.length+(uB (m / 128)).length+1=(uB n).length:=by rw[AK h1]at hcl;simp at hcl;omega
  rw[AK h1]at he;refine dF ?_;refine z22 ?_;refine z0 ?_;refine lo (rM (E rfl) (E rfl)) rfl ?_;refine eS fun r11 h11=> ?_;intros
  apply ap (es':=(us++ [m%128+128]).map aH) (len':=(us++ [m%128+128]).length);rfl;rfl;exact aO
  ·simp
  ·exact .inr (.inr ⟨_,_,_,_,_,rfl,aO,by simp,rfl⟩)
  ·rw[←mL,ZV];rfl
  ·simp
  ·simp[maxLen];omega
  ·simp;omega
  ·rfl
  refine bL fun r12 h12=> ?_;intros
  refine iF ?_;refine z20 ?_;refine cZ ?_;refine⟨(r12,us++ [m%128+128],m / 128),⟨?_, ?_⟩, ?_, ?_⟩
  ·simpa using he
  ·show m / 128< _;omega
  ·show m / 128<m;omega
  ·rw[ZW hm];exact aJ
 ·have h1:m<128:=by simp at h;omega
  rw[uN h1]at he;refine dF ?_;refine z0 ?_;refine eS fun r18 h18=> ?_;intros
  apply ap (es':=(uB n).map aH) (len':=(uB n).length);rfl;rfl;exact aO
  ·simp
  ·exact .inr (.inr ⟨_,_,_,_,_,rfl,aO,by simp,rfl⟩)
  ·rw[←he,←mL];rfl
  ·rw[←he];simp
  ·simp[maxLen];omega
  ·simp;omega
  ·rfl
  refine bL fun r19 h19=> ?_;intros
  refine cZ ?_;exact aD aE ⟨r19,by rfl,rfl⟩ aA
theorem aKj(n:Int)(hn:-9223372036854775808≤n∧n≤9223372036854775807):SCall Tryz.prog 297 [.int .i64 n] []
  (fun x σ=>∃r,x=.own r 0 (sB n).length∧σ=[(r,.arr 5 1 ((sB n).map aH))]):=by
 have hL:(sB n).length≤10:=yX 9 n (by omega) (by omega);refine cC 25 [0,2,3,9] Tryz.func297 ?_;refine sR ?_;refine pI ?_;refine bX 3 5 1 (by decide) (k:=.nil) rfl (by decide) (fun q hq=> ?_);refine aI ?_;refine lp (β:=Nat×List Nat×Int) (fun b=>⟨[(3,.own b.1 0 b.2.1.length),(0,.int .i64 b.2.2)],[(b.1,.arr 5 1 (b.2.1.map aH))]⟩) (fun b=>b.2.1++sB b.2.2=sB n∧ -9223372036854775808≤b.2.2∧b.2.2≤9223372036854775807) (fun b=>b.2.2.natAbs) (q,[],n) (by(exact aJ)) ⟨rfl,hn⟩ ?_;rintro⟨r,us,m⟩ ⟨he,hm,hm2⟩;simp only at he hm hm2⊢;have hcl:us.length+(sB m).length=(sB n).length:=by rw[←List.length_append,he]
 have hup:=LS m;refine dO ?_;refine lo (iL (E rfl) (E rfl)) rfl ?_;refine yE ?_;refine z18 ?_;refine z13 ?_;refine jI ?_;refine aB rfl (fun h=> ?_) (fun h=> ?_)
 ·have h1:¬(-64≤m∧m≤63):=by simp at h;omega
  have hcl2:us.length+(sB (m / 128)).length+1=(sB n).length:=by rw[AM h1]at hcl;simp at hcl;omega
  rw[AM h1]at he;refine dF ?_;refine lo (gM (E rfl) (E rfl)) rfl ?_;refine z0 ?_;refine lo (rM (E rfl) (E rfl)) rfl ?_;refine eS fun r15 h15=> ?_;intros
  apply ap (es':=(us++ [cS m+128]).map aH) (len':=(us++ [cS m+128]).length);rfl;rfl;exact aO
  ·simp
  ·exact .inr (.inr ⟨_,_,_,_,_,rfl,aO,by simp,rfl⟩)
  ·rw[←mL,aBD,aGE,aBE];rfl
  ·simp
  ·simp[maxLen];omega
  ·simp;omega
  ·rfl
  refine bL fun r16 h16=> ?_;intros
  refine iF ?_;refine z2 ?_;refine cZ ?_;refine⟨(r16,us++ [cS m+128],m / 128),⟨?_, ?_⟩, ?_, ?_⟩
  ·simpa[cS]using he
  ·show _ ≤m / 128∧m / 128≤ _;omega
  ·show(m / 128).natAbs<m.natAbs;omega
  ·rw[aGD];exact aJ
 ·have h1:-64≤m∧m≤63:=by simp at h;omega
  rw[yJ h1]at he;refine dF ?_;refine lo (gM (E rfl) (E rfl)) rfl ?_;refine z0 ?_;refine eS fun r23 h23=> ?_;intros
  apply ap (es':=(sB n).map aH) (len':=(sB n).length);rfl;rfl;exact aO
  ·simp
  ·exact .inr (.inr ⟨_,_,_,_,_,rfl,aO,by simp,rfl⟩)
  ·rw[←he,←mL,aBD,aGE];rfl
  ·rw[←he];simp
  ·simp[maxLen];omega
  ·simp;omega
  ·rfl
  refine bL fun r24 h24=> ?_;intros
  refine cZ ?_;exact aD aE ⟨r24,by rfl,rfl⟩ aA
theorem aBF(n:Nat)(hn:n<18446744073709551616):SCall Tryz.prog 239 [.ro 0 [] .nil,.int .u64 n] []
  (fun x σ=>∃r,x=.own r 0 (uB n).length∧σ=[(r,.arr 5 1 ((uB n).map aH))]):=
 iJ (e:=5) (sz:=1) (by decide) fun q _=>nF q [] (by simp) n hn
theorem aBG(n:Int)(hn:-9223372036854775808≤n∧n≤9223372036854775807):SCall Tryz.prog 296 [.ro 0 [] .nil,.int .i64 n] []
  (fun x σ=>∃r,x=.own r 0 (sB n).length∧σ=[(r,.arr 5 1 ((sB n).map aH))]):=
 iJ (e:=5) (sz:=1) (by decide) fun q _=>QV q [] (by simp) n hn
theorem AN{l:List Nat}(h:∀x∈l,x<256)(i:Nat):l[i]! <256:=by
 by_cases hi:i<l.length
 ·rw[getElem!_pos l i hi];exact h _ (List.getElem_mem hi)
 ·simp[hi]
theorem JV{l:List Nat}{k c:Nat}(h:c<k)(hk:k≤l.length):(l.take k).drop c=l[c]! ::(l.take k).drop (c+1):=by
 have h1:c<(l.take k).length:=by simp;omega
 rw[List.drop_eq_getElem_cons h1,List.getElem_take,getElem!_pos l c (by omega)]
theorem JW{n:Nat}(hn:n<18446744073709551616):(BitVec.ofInt IntKind.u64.bits (n:Int)).toNat=n:=by
 rw[BitVec.toNat_ofInt];simp[IntKind.bits];omega
theorem aKk{x y:Nat}(hx:x<34359738368)(hy:y<256):IntKind.u64.wrap ↑(BitVec.ofInt IntKind.u64.bits (IntKind.u64.wrap ((x:Int)*2^min (Int.toNat 7) IntKind.u64.bits))|||BitVec.ofInt IntKind.u64.bits (((y%128:Nat):Int))).toNat=((y%128+128*x:Nat):Int):=by
 have h0:(2:Int)^min (Int.toNat 7) IntKind.u64.bits=128:=by decide
 have h1:IntKind.u64.wrap ((x:Int)*128)=((x*128:Nat):Int):=by rw[IntKind.wrap_u64];omega
 rw[h0,h1,BitVec.toNat_or,JW (by omega),JW (by omega),show x*128=2^7*x by omega,←Nat.two_pow_add_eq_or_of_lt (by omega),IntKind.wrap_u64];omega
theorem aKl{x:Nat}:(x:Int).fdiv (2^min (Int.toNat 32) IntKind.u64.bits)=((x / 4294967296:Nat):Int):=by
 have:(2:Int)^min (Int.toNat 32) IntKind.u64.bits=4294967296:=by decide
 rw[this,Int.fdiv_eq_ediv_of_nonneg _ (by omega)];omega
theorem QX{l:List Nat}{k c:Nat}(hk:k≤5):yW ((l.take k).drop c)<34359738368:=by
 have h1:=XE ((l.take k).drop c);have h2:((l.take k).drop c).length≤5:=by simp;omega
 exact Nat.lt_of_lt_of_le h1 (Nat.le_trans (Nat.pow_le_pow_right (by decide) h2) (by decide))
theorem aGF(l:List Nat)(hl:l.length≤1000000)(hlt:∀x∈l,x<256):SCall Tryz.prog 166 [.ro 1 (l.map aH) .any,.int .i64 32] []
  (fun x σ=>x=.tup [.int .u64 ((lR l).1:Nat),.int .i64 ((lR l).2.1:Nat),.int .i64 (lR l).2.2]∧σ=[]):=by
 refine cC 53 [0,1,4,5,6,7,8,9,10,18,22,50] Tryz.func166 ?_;refine dG ?_;refine oQ ?_;refine scj (β:=Nat) 0 rfl (fun b=>⟨[(0,.ro 1 (l.map aH) .any),(1,.int .i64 32),(7,.int .i64 ((eW l 5).1:Nat)),(9,.int .u64 (yW ((l.take (eW l 5).1).drop b):Nat)),(10,.int .i64 b)],[]⟩) (fun b=>b≤(eW l 5).1∧(eW l 5).2=0) (fun b=>b) ?_ (fun P=> ?_)
 ·rintro n ⟨hn1,hk0⟩;try dsimp only at hn1 hk0⊢
  obtain⟨hk1,hk2,hk3⟩:=xE l 5 hk0;generalize hk:(eW l 5).1=k at*;refine dO ?_;refine sN ?_;refine aB rfl (fun h=> ?_) (fun h=> ?_)
  ·obtain⟨c,rfl⟩:∃c,n=c+1:=⟨n-1,by simp at h;omega⟩
   refine dO ?_;refine sK ?_;refine cZ ?_;rw[show((c+1:Nat):Int)-1=(c:Nat) by omega];refine eU ?_;refine z23 ?_;refine lo (aF (E rfl)) rfl ?_;refine nA ?_;refine z3 ?_;refine UP ?_;refine lo (LC (E rfl) (E rfl)) rfl ?_;refine cZ ?_;rw[Int.toNat_natCast,yY (AN hlt c),aEd (n:=l[c]! %128) (by omega),aKk (QX hk2) (AN hlt c)];refine xQ ?_;refine⟨c,⟨by omega,hk0⟩,by omega, ?_⟩;rw[JV (c:=c) (by omega) hk3,yW];exact aJ
  ·obtain rfl:n=0:=by simp at h;omega
   rw[List.drop_zero];have hv:yW (l.take k)<34359738368:=QX (c:=0) hk2;generalize hx:yW (l.take k)=x at hv⊢;refine aI ?_;refine fK [(0,true),(1,true),(2,true),(3,true),(4,false),(5,false),(6,true),(7,true),(8,true),(9,true),(10,true),(11,true),(12,true),(13,true),(14,true),(15,true),(16,true)] ?_;refine CG ?_;refine UD ?_;refine fY rfl (aF (E rfl)) rfl ?_;refine sD [] rfl Tryz.call239 (aBF x (by omega)) rfl ?_ ?_ ?_ ?_
   ·exact aC
   ·exact aA
   ·exact fS
   rintro _ σ' ⟨r,rfl,rfl⟩ hr
   replace hr:=gU hr;repeat rcases hr with⟨_,hr⟩
   apply bZ;exact bN;refine dpu [r] rfl Tryz.call258 (QW (l.take k) (uB x) (fun y hy=>hlt y (List.mem_of_mem_take hy)) (lQ x)) rfl ?_ bC ?_
   ·exact aU
   refine fY rfl (eJ (E rfl)) rfl ?_;refine fY rfl (aF (E rfl)) rfl ?_;refine z26 ?_;refine z27 ?_;refine z28 ?_;refine z29 ?_;refine z29 ?_;refine z30 ?_;refine z31 ?_;refine z32 ?_;refine z33 ?_;refine kF ?_;have hc:(if(!decide (uB x=l.take k))=true then true else(x:Int).fdiv (2^min (Int.toNat 32) IntKind.u64.bits) !=0)= !decide (uB x=l.take k∧x<4294967296):=by
    rw[aKl];by_cases h1:uB x=l.take k
    ·by_cases h2:x<4294967296
     ·simp[h1,h2];omega
     ·simp[h1,h2];omega
    ·simp[h1]
   rw[hc];refine aB rfl (fun h=> ?_) (fun h=> ?_)
   ·have h1:¬(uB x=l.take k∧x<4294967296):=by
     rintro⟨h1,h2⟩;simp[h1]at h;omega
    refine dG ?_;refine oQ ?_;refine xQ ?_;apply aD;exact aE
    ·unfold lR;rw[if_neg (by rw[hk0];simp),hk,hx,if_neg h1];exact⟨rfl,rfl⟩
    ·exact aA
   ·have h1:uB x=l.take k∧x<4294967296:=by simpa using h
    refine dF ?_;refine oQ ?_;refine xQ ?_;apply aD;exact aE
    ·unfold lR;rw[if_neg (by rw[hk0];simp),hk,hx,if_pos h1];exact⟨rfl,rfl⟩
    ·exact aA
 ·refine dF ?_
  (first|refine pu [] Tryz.call257 (tL l hl 32 5 (.inl ⟨rfl,rfl⟩)) rfl cK bC ?_ |refine AB [] rfl rfl Tryz.call257 (fun _=>(tL l hl 32 5 (.inl ⟨rfl,rfl⟩))) rfl cK bC ?_);refine vA ?_;refine mK ?_;refine sM ?_;refine aB rfl (fun h=> ?_) (fun h=> ?_)
  ·have h1:(eW l 5).2≠0:=by simpa using h
   refine dO ?_;refine oQ ?_;refine xQ ?_;apply aD;exact aE
   ·unfold lR;rw[if_pos h1];exact⟨rfl,rfl⟩
   ·exact aA
  ·have h1:(eW l 5).2=0:=by simpa using h
   refine dO ?_;refine XC ?_;refine P (eW l 5).1 _ ⟨Nat.le_refl _,h1⟩ ?_;rw[show(l.take (eW l 5).1).drop (eW l 5).1=[] by rw[List.drop_eq_nil_iff];simp;omega];exact aJ
theorem aEe:∀(l:List Nat),-9223372036854775808≤mA l∧mA l≤9223372036854775807
 |[]=>by simp[mA]
 |[b]=>by rw[mA];split<;>omega
 |b::c::t=>by rw[mA,IntKind.wrap_i64];omega
def sv (l:List Nat) (k c:Nat):Int:=if c<k then mA ((l.take k).drop c)else if 64≤l[k-1]! %128 then-1 else 0
theorem aEf{l:List Nat}{k:Nat}(hk:1≤k):sv l k 0=mA (l.take k):=by
 unfold sv;rw[if_pos (by omega),List.drop_zero]
theorem aEg{l:List Nat}{k c:Nat}(h:c<k)(hk:k≤l.length):sv l k c=IntKind.i64.wrap (sv l k (c+1)*128+((l[c]! %128:Nat):Int)):=by
 unfold sv;rw[if_pos h,JV h hk];by_cases h1:c+1<k
 ·rw[if_pos h1,JU _ (by simp;omega)]
 ·obtain rfl:k=c+1:=by omega
  rw[if_neg h1,show(l.take (c+1)).drop (c+1)=[] by rw[List.drop_eq_nil_iff];simp;omega,mA,Nat.add_sub_cancel];generalize l[c]! =y;split<;>rw[IntKind.wrap_i64]<;>omega
theorem JX(y:Int):(BitVec.ofInt IntKind.i64.bits y).toNat=(y%18446744073709551616).toNat:=by
 rw[BitVec.toNat_ofInt];simp[IntKind.bits]
theorem aHI{x:Int}{y:Nat}:IntKind.i64.wrap ↑(BitVec.ofInt IntKind.i64.bits (IntKind.i64.wrap (x*2^min (Int.toNat 7) IntKind.i64.bits))|||BitVec.ofInt IntKind.i64.bits (((y%128:Nat):Int))).toNat=IntKind.i64.wrap (x*128+((y%128:Nat):Int)):=by
 have h0:(2:Int)^min (Int.toNat 7) IntKind.i64.bits=128:=by decide
 obtain⟨z,hz⟩:∃z:Nat,(IntKind.i64.wrap (x*128)%18446744073709551616).toNat=2^7*z:=by
  refine⟨(IntKind.i64.wrap (x*128)%18446744073709551616).toNat / 128, ?_⟩;rw[IntKind.wrap_i64];omega
 have h2:(((y%128:Nat):Int)%18446744073709551616).toNat=y%128:=by omega
 rw[h0,BitVec.toNat_or,JX,JX,hz,h2,←Nat.two_pow_add_eq_or_of_lt (by omega)];rw[IntKind.wrap_i64]at hz;rw[IntKind.wrap_i64,IntKind.wrap_i64];omega
theorem ZX{x:Nat}(h:x<256):IntKind.u8.wrap ↑(BitVec.ofInt IntKind.u8.bits (x:Int)&&&BitVec.ofInt IntKind.u8.bits 64).toNat=if x%128<64 then 0 else 64:=by
 have h1:∀x<256,x&&&64=if x%128<64 then 0 else 64:=by decide
 rw[BitVec.toNat_and,LT (by omega),show(BitVec.ofInt IntKind.u8.bits 64).toNat=64 by decide,h1 x h,IntKind.wrap_u8];split<;>rfl
theorem ZY{n:Nat}(h:n<256):IntKind.i64.wrap (n:Int)=n:=by rw[IntKind.wrap_i64];omega
theorem QY{bits:Nat}(hb:bits=32∨bits=64):(bits:Int)=32∧nS bits=5∨(bits:Int)=64∧nS bits=10:=by
 rcases hb with rfl|rfl
 ·exact .inl ⟨rfl,rfl⟩
 ·exact .inr ⟨rfl,rfl⟩
theorem aMm{bits:Nat}(hb:bits=32∨bits=64){x:Int}(hv:-9223372036854775808≤x∧x≤9223372036854775807):(x.fdiv (2^min ((bits:Int)-1).toNat IntKind.i64.bits)=0∨x.fdiv (2^min ((bits:Int)-1).toNat IntKind.i64.bits)=-1)↔(bits=32→ -2147483648≤x∧x≤2147483647):=by
 rcases hb with rfl|rfl
 ·rw[show(2:Int)^min (((32:Nat):Int)-1).toNat IntKind.i64.bits=2147483648 by decide,Int.fdiv_eq_ediv_of_nonneg _ (by omega)];omega
 ·rw[show(2:Int)^min (((64:Nat):Int)-1).toNat IntKind.i64.bits=9223372036854775808 by decide,Int.fdiv_eq_ediv_of_nonneg _ (by omega)];omega
theorem aEh{bits:Nat}{l:List Nat}{k:Nat}(hk0:(eW l (nS bits)).2=0)(hk:(eW l (nS bits)).1=k)(h:¬(sB (mA (l.take k))=l.take k∧(bits=32→ -2147483648≤mA (l.take k)∧mA (l.take k)≤2147483647))):xU bits l=(0,0,1):=by
 unfold xU;rw[if_neg (by rw[hk0];simp),hk,if_neg h]
theorem aBH{bits:Nat}{l:List Nat}{k:Nat}(hk0:(eW l (nS bits)).2=0)(hk:(eW l (nS bits)).1=k)(h:sB (mA (l.take k))=l.take k∧(bits=32→ -2147483648≤mA (l.take k)∧mA (l.take k)≤2147483647)):xU bits l=(mA (l.take k),k,0):=by
 unfold xU;rw[if_neg (by rw[hk0];simp),hk,if_pos h]
theorem aKm(l:List Nat)(hl:l.length≤1000000)(hlt:∀x∈l,x<256)(bits:Nat)(hb:bits=32∨bits=64):SCall Tryz.prog 322 [.ro 1 (l.map aH) .any,.int .i64 bits] []
  (fun x σ=>x=.tup [.int .i64 (xU bits l).1,.int .i64 ((xU bits l).2.1:Nat),.int .i64 (xU bits l).2.2]∧σ=[]):=by
 refine cC 63 [0,1,4,5,6,7,8,9,10,11,19,28,30,60] Tryz.func322 ?_;refine dG ?_;refine oQ ?_;obtain⟨m,hm⟩:∃m,m=nS bits:=⟨_,rfl⟩
 have hlen:eW l (nS bits)=eW l m:=by rw[hm]
 refine scj (β:=Nat) 0 rfl (fun b=>⟨[(0,.ro 1 (l.map aH) .any),(1,.int .i64 bits),(7,.int .i64 ((eW l m).1:Nat)),(9,.int .i64 (sv l (eW l m).1 b)),(10,.int .i64 b)],[]⟩) (fun b=>b≤(eW l m).1∧(eW l m).2=0) (fun b=>b) ?_ (fun P=> ?_)
 ·rintro n ⟨hn1,hk0⟩;try dsimp only at hn1 hk0⊢
  obtain⟨hk1,hk2,hk3⟩:=xE l m hk0;generalize hk:(eW l m).1=k at*;refine dO ?_;refine sN ?_;refine aB rfl (fun h=> ?_) (fun h=> ?_)
  ·obtain⟨c,rfl⟩:∃c,n=c+1:=⟨n-1,by simp at h;omega⟩
   refine dO ?_;refine sK ?_;refine cZ ?_;rw[show((c+1:Nat):Int)-1=(c:Nat) by omega];refine eU ?_;refine z23 ?_;refine lo (aF (E rfl)) rfl ?_;refine nA ?_;refine z3 ?_;refine z44 ?_;refine lo (LC (E rfl) (E rfl)) rfl ?_;refine cZ ?_;rw[Int.toNat_natCast,yY (AN hlt c),ZY (n:=l[c]! %128) (by omega),aHI,←aEg (by omega) hk3];refine xQ ?_;refine⟨c,⟨by omega,hk0⟩,by omega, ?_⟩;exact aJ
  ·obtain rfl:n=0:=by simp at h;omega
   rw[aEf hk1];have hv:=aEe (l.take k);generalize hx:mA (l.take k)=x at hv⊢;refine dF ?_;refine sK ?_;refine z2 ?_;refine cZ ?_;refine fK [(0,true),(1,true),(2,true),(3,true),(4,false),(5,false),(6,true),(7,true),(8,true),(9,true),(10,true),(11,true),(12,true),(13,true),(14,true)] ?_;refine CG ?_;refine UD ?_;refine fY rfl (aF (E rfl)) rfl ?_;refine sD [] rfl Tryz.call296 (aBG x hv) rfl ?_ ?_ ?_ ?_
   ·exact aC
   ·exact aA
   ·exact fS
   rintro _ σ' ⟨r,rfl,rfl⟩ hr
   replace hr:=gU hr;repeat rcases hr with⟨_,hr⟩
   apply bZ;exact bN;refine dpu [r] rfl Tryz.call258 (QW (l.take k) (sB x) (fun y hy=>hlt y (List.mem_of_mem_take hy)) (aGC _ x (Nat.le_refl _))) rfl ?_ bC ?_
   ·exact aU
   refine fY rfl (eJ (E rfl)) rfl ?_;refine fY rfl (aF (E rfl)) rfl ?_;refine z26 ?_;refine z45 ?_;refine z28 ?_;refine z29 ?_;refine z31 ?_;refine z32 ?_;refine z33 ?_;refine kF ?_;have ht:=aMm hb hv;generalize x.fdiv (2^min ((bits:Int)-1).toNat IntKind.i64.bits)=y at ht⊢;refine aB rfl (fun h=> ?_) (fun h=> ?_)
   ·have h1:¬(sB x=l.take k∧(bits=32→ -2147483648≤x∧x≤2147483647)):=by
     rintro⟨h1,h2⟩;rcases ht.2 h2 with rfl|rfl<;>simp[h1]at h
    rw[←hx]at h1;refine dG ?_;refine oQ ?_;refine xQ ?_;apply aD;exact aE
    ·rw[aEh (by rw[hlen];exact hk0) (by rw[hlen];exact hk) h1];exact⟨rfl,rfl⟩
    ·exact aA
   ·have h1:sB x=l.take k∧(bits=32→ -2147483648≤x∧x≤2147483647):=by
     by_cases h2:sB x=l.take k
     ·refine⟨h2,ht.1 ?_⟩;by_cases h3:y=0
      ·exact .inl h3
      ·exact .inr (by simpa[h2,h3]using h)
     ·simp[h2]at h
    rw[←hx]at h1;refine dF ?_;refine oQ ?_;refine xQ ?_;apply aD;exact aE
    ·rw[aBH (by rw[hlen];exact hk0) (by rw[hlen];exact hk) h1,hx];exact⟨rfl,rfl⟩
    ·exact aA
 ·refine dF ?_
  (first|refine pu [] Tryz.call257 (tL l hl bits m (by rw[hm];exact QY hb)) rfl cK bC ?_ |refine AB [] rfl rfl Tryz.call257 (fun _=>(tL l hl bits m (by rw[hm];exact QY hb))) rfl cK bC ?_);refine vA ?_;refine mK ?_;refine sM ?_;refine aB rfl (fun h=> ?_) (fun h=> ?_)
  ·have h1:(eW l m).2≠0:=by simpa using h
   refine dO ?_;refine oQ ?_;refine xQ ?_;apply aD;exact aE
   ·unfold xU;rw[hlen,if_pos h1];exact⟨rfl,rfl⟩
   ·exact aA
  ·have hk0:(eW l m).2=0:=by simpa using h
   obtain⟨hk1,hk2,hk3⟩:=xE l m hk0;have hsv:sv l (eW l m).1 (eW l m).1=if 64≤l[(eW l m).1-1]! %128 then-1 else 0:=by unfold sv;rw[if_neg (by omega)]
   obtain⟨j,hj⟩:∃j,(eW l m).1=j+1:=⟨(eW l m).1-1,by omega⟩
   rw[hj]at hsv P hk1 hk2 hk3⊢;rw[Nat.add_sub_cancel]at hsv;refine dO ?_;refine jK ?_;refine kL ?_;refine sK ?_;rw[show((j+1:Nat):Int)-1=(j:Nat) by omega];refine mJ ?_;refine lo (gM (E rfl) (E rfl)) rfl ?_;refine sM ?_;rw[Int.toNat_natCast,ZX (AN hlt j)];refine aB rfl (fun h=> ?_) (fun h=> ?_)
   ·have h2:64≤l[j]! %128:=by
     by_cases h3:l[j]! %128<64
     ·rw[if_pos h3]at h;simp at h
     ·omega
    rw[if_pos h2]at hsv;refine jH ?_;refine pI ?_;refine P (j+1) _ ⟨Nat.le_refl _,hk0⟩ ?_;rw[hsv];exact aJ
   ·have h2:¬64≤l[j]! %128:=by
     by_cases h3:l[j]! %128<64
     ·omega
     ·rw[if_neg h3]at h;simp at h
    rw[if_neg h2]at hsv;refine ck ?_;refine an ?_;refine P (j+1) _ ⟨Nat.le_refl _,hk0⟩ ?_;rw[hsv];exact aJ
def aR (n:Int):List AV:=[.int .i64 n]
def pW (n a b:Int):Bool:=if decide (a≤n)=true then decide (n≤b)else false
theorem dM(n a b:Int):SCall Tryz.prog 270 [.int .i64 n,.int .i64 a,.int .i64 b] [] (fun x σ=>x=.bool (pW n a b)∧σ=[]):=by
 refine cC 15 [0,1,2,6] Tryz.func270 ?_;refine mY ?_;refine FP ?_;refine z4 ?_;refine z4 ?_;refine z54 ?_;refine z7 ?_;refine cZ ?_;exact aD aE ⟨by rfl,rfl⟩ aA
def JY (op:Int):Int×Int:=
 if(pW op 69 79||pW op 103 120)=true then(1,op)else if pW op 80 90=true then(2,IntKind.i64.wrap (IntKind.i64.wrap (op-80)+69))else if pW op 121 138=true then(2,IntKind.i64.wrap (IntKind.i64.wrap (op-121)+103))else(0,0)
theorem LU(op:Int):SCall Tryz.prog 269 [.int .i64 op] [] (fun x σ=>x=.tup [.int .i64 (JY op).1,.int .i64 (JY op).2]∧σ=[]):=by
 refine cC 22 [0,2,3,4,10,16] Tryz.func269 ?_;refine dG ?_;refine mK ?_
 (first|refine ln rfl rfl rfl rfl ?_ |refine lw rfl rfl (bV (v:=.bool false)) rfl ?_ |refine pu [] Tryz.call270 (dM _ _ _) rfl cK bC ?_ |refine AB [] rfl rfl Tryz.call270 (fun _=>(dM _ _ _)) rfl cK bC ?_ |refine puw [] rfl rfl Tryz.call270 (fun _=>(dM _ _ _)) rfl cK bC ?_);refine cZ ?_;apply fD rfl;exact cT
 ·intro _;(refine aI ?_);refine eU ?_
  (first|refine ln rfl rfl rfl rfl ?_ |refine lw rfl rfl (bV (v:=.bool false)) rfl ?_ |refine pu [] Tryz.call270 (dM _ _ _) rfl cK bC ?_ |refine AB [] rfl rfl Tryz.call270 (fun _=>(dM _ _ _)) rfl cK bC ?_ |refine puw [] rfl rfl Tryz.call270 (fun _=>(dM _ _ _)) rfl cK bC ?_);refine cZ ?_;exact aJ
 refine aI ?_;refine aB rfl (fun g1=> ?_) (fun g1=> ?_)
 ·refine dO ?_;refine jK ?_;apply aD;exact aE
  ·(unfold JY;simp only[g1,if_true,if_false,Bool.false_eq_true];exact⟨rfl,rfl⟩)
  ·exact aA
 refine dO ?_
 (first|refine ln rfl rfl rfl rfl ?_ |refine lw rfl rfl (bV (v:=.bool false)) rfl ?_ |refine pu [] Tryz.call270 (dM _ _ _) rfl cK bC ?_ |refine AB [] rfl rfl Tryz.call270 (fun _=>(dM _ _ _)) rfl cK bC ?_ |refine puw [] rfl rfl Tryz.call270 (fun _=>(dM _ _ _)) rfl cK bC ?_);refine cZ ?_;refine aB rfl (fun g2=> ?_) (fun g2=> ?_)
 ·refine dO ?_;refine sK ?_;refine PR ?_;refine jK ?_;apply aD;exact aE
  ·(unfold JY;simp only[g1,g2,if_true,if_false,Bool.false_eq_true];exact⟨rfl,rfl⟩)
  ·exact aA
 refine dO ?_
 (first|refine ln rfl rfl rfl rfl ?_ |refine lw rfl rfl (bV (v:=.bool false)) rfl ?_ |refine pu [] Tryz.call270 (dM _ _ _) rfl cK bC ?_ |refine AB [] rfl rfl Tryz.call270 (fun _=>(dM _ _ _)) rfl cK bC ?_ |refine puw [] rfl rfl Tryz.call270 (fun _=>(dM _ _ _)) rfl cK bC ?_);refine cZ ?_;refine aB rfl (fun g3=> ?_) (fun g3=> ?_)
 ·refine dO ?_;refine sK ?_;refine PR ?_;refine jK ?_;apply aD;exact aE
  ·(unfold JY;simp only[g1,g2,g3,if_true,if_false,Bool.false_eq_true];exact⟨rfl,rfl⟩)
  ·exact aA
 refine dG ?_;refine jK ?_;apply aD;exact aE
 ·(unfold JY;simp only[g1,g2,g3,if_true,if_false,Bool.false_eq_true];exact⟨rfl,rfl⟩)
 ·exact aA
def kN (op:Int):List Int×Int×Bool:=
 if(op==167)=true then([2],1,true)else if(op==172||op==173)=true then([1],2,true)
 else if((JY op).1==0)=true then([],0,false)else if((JY op).2==69)=true then([(JY op).1],1,true)
 else if pW (JY op).2 70 79=true then([(JY op).1,(JY op).1],1,true)else if pW (JY op).2 103 105=true then([(JY op).1],(JY op).1,true)
 else([(JY op).1,(JY op).1],(JY op).1,true)
def wE (r:List Int×Int×Bool) (x:AV) (σ:dU):Prop:=
 if r.2.2=true then∃q,x=.tup [.own q 0 r.1.length,.int .i64 r.2.1,.bool true]∧σ=[(q,.arr 3 1 (r.1.map aR))]else x=.tup [.ro 0 [] .nil,.int .i64 0,.bool false]∧σ=[]
theorem mB{l:List Int}{r:Int}{q:Nat}{x:AV}{σ:dU}(hx:x=.tup [.own q 0 l.length,.int .i64 r,.bool true])(hs:σ=[(q,.arr 3 1 (l.map aR))]):wE (l,r,true) x σ:=by
 unfold wE;rw[if_pos rfl];exact⟨q,hx,hs⟩
theorem oA{l:List Int}{r:Int}{x:AV}{σ:dU}(hx:x=.tup [.ro 0 [] .nil,.int .i64 0,.bool false])(hs:σ=[]):wE (l,r,false) x σ:=by
 unfold wE;rw[if_neg (by simp)];exact⟨hx,hs⟩
theorem yZ(op:Int):SCall Tryz.prog 200 [.int .i64 op] [] (wE (kN op)):=by
 refine cC 44 [0,2,3,4,5,6,7,8,11,20,23,28,34] Tryz.func200 ?_;refine dG ?_;refine oQ ?_;refine eU ?_;refine qS ?_;refine aB rfl (fun g1=> ?_) (fun g1=> ?_)
 ·refine dG ?_;refine eS fun r10 h10=> ?_;intros
  refine oQ ?_;apply aD;exact aE
  ·(unfold kN;simp only[g1,if_true,if_false,Bool.false_eq_true];first|exact mB rfl rfl|exact oA rfl rfl)
  ·exact aA
 refine dC ?_;apply fD rfl;exact cT
 ·intro _;(refine aI ?_);refine eV ?_;exact aJ
 refine aI ?_;refine aB rfl (fun g2=> ?_) (fun g2=> ?_)
 ·refine dG ?_;refine eS fun r14 h14=> ?_;intros
  refine oQ ?_;apply aD;exact aE
  ·(unfold kN;simp only[g1,g2,if_true,if_false,Bool.false_eq_true];first|exact mB rfl rfl|exact oA rfl rfl)
  ·exact aA
 refine dO ?_
 (first|refine ln rfl rfl rfl rfl ?_ |refine lw rfl rfl (bV (v:=.bool false)) rfl ?_ |refine pu [] Tryz.call269 (LU _) rfl cK bC ?_ |refine AB [] rfl rfl Tryz.call269 (fun _=>(LU _)) rfl cK bC ?_ |refine puw [] rfl rfl Tryz.call269 (fun _=>(LU _)) rfl cK bC ?_);refine vA ?_;refine mK ?_;refine QM ?_;refine aB rfl (fun g3=> ?_) (fun g3=> ?_)
 ·refine dG ?_;refine oQ ?_;apply aD;exact aE
  ·(unfold kN;simp only[g1,g2,g3,if_true,if_false,Bool.false_eq_true];first|exact mB rfl rfl|exact oA rfl rfl)
  ·exact aA
 refine dO ?_;refine QM ?_;refine aB rfl (fun g4=> ?_) (fun g4=> ?_)
 ·refine dO ?_;refine eS fun r27 h27=> ?_;intros
  refine oQ ?_;apply aD;exact aE
  ·(unfold kN;simp only[g1,g2,g3,g4,if_true,if_false,Bool.false_eq_true];first|exact mB rfl rfl|exact oA rfl rfl)
  ·exact aA
 refine dO ?_
 (first|refine ln rfl rfl rfl rfl ?_ |refine lw rfl rfl (bV (v:=.bool false)) rfl ?_ |refine pu [] Tryz.call270 (dM _ _ _) rfl cK bC ?_ |refine AB [] rfl rfl Tryz.call270 (fun _=>(dM _ _ _)) rfl cK bC ?_ |refine puw [] rfl rfl Tryz.call270 (fun _=>(dM _ _ _)) rfl cK bC ?_);refine cZ ?_;refine aB rfl (fun g5=> ?_) (fun g5=> ?_)
 ·refine dF ?_;refine eS fun r33 h33=> ?_;intros
  refine oQ ?_;apply aD;exact aE
  ·(unfold kN;simp only[g1,g2,g3,g4,g5,if_true,if_false,Bool.false_eq_true];first|exact mB rfl rfl|exact oA rfl rfl)
  ·exact aA
 refine dO ?_
 (first|refine ln rfl rfl rfl rfl ?_ |refine lw rfl rfl (bV (v:=.bool false)) rfl ?_ |refine pu [] Tryz.call270 (dM _ _ _) rfl cK bC ?_ |refine AB [] rfl rfl Tryz.call270 (fun _=>(dM _ _ _)) rfl cK bC ?_ |refine puw [] rfl rfl Tryz.call270 (fun _=>(dM _ _ _)) rfl cK bC ?_);refine cZ ?_;refine aB rfl (fun g6=> ?_) (fun g6=> ?_)
 ·refine dO ?_;refine eS fun r38 h38=> ?_;intros
  refine lo (aF (E rfl)) rfl ?_;refine oQ ?_;apply aD;exact aE
  ·(unfold kN;simp only[g1,g2,g3,g4,g5,g6,if_true,if_false,Bool.false_eq_true];first|exact mB rfl rfl|exact oA rfl rfl)
  ·exact aA
 refine dF ?_;refine eS fun r42 h42=> ?_;intros
 refine lo (aF (E rfl)) rfl ?_;refine oQ ?_;apply aD;exact aE
 ·(unfold kN;simp only[g1,g2,g3,g4,g5,g6,if_true,if_false,Bool.false_eq_true];first|exact mB rfl rfl|exact oA rfl rfl)
 ·exact aA
def pX (op:Int):Int×Int:=
 if(pW op 69 79||pW op 103 120)=true then(op,1)else if pW op 80 90=true then(IntKind.i64.wrap (IntKind.i64.wrap (op-80)+69),2)else if pW op 121 138=true then(IntKind.i64.wrap (IntKind.i64.wrap (op-121)+103),2)
 else if(op==167)=true then(op,2)else if(op==172||op==173)=true then(op,1)else(0,0)
theorem CJ(op:Int):SCall Tryz.prog 303 [.int .i64 op] [] (fun x σ=>x=.tup [.int .i64 (pX op).1,.int .i64 (pX op).2]∧σ=[]):=by
 refine cC 48 [0,2,3,4,18,28,38,42] Tryz.func303 ?_;refine dG ?_;refine mK ?_;refine FP ?_;refine z4 ?_;refine z55 ?_;refine z7 ?_;refine cZ ?_;apply fD rfl;exact cT
 ·intro _;(refine aI ?_);refine eU ?_;refine FP ?_;refine z4 ?_;refine z55 ?_;refine z7 ?_;refine cZ ?_;exact aJ
 refine aI ?_;refine aB rfl (fun g1=> ?_) (fun g1=> ?_)
 ·refine dO ?_;refine jK ?_;apply aD;exact aE
  ·(unfold pX pW;simp only[g1,if_true,if_false,Bool.false_eq_true];exact⟨rfl,rfl⟩)
  ·exact aA
 refine dO ?_;refine FP ?_;refine z4 ?_;refine z55 ?_;refine z7 ?_;refine cZ ?_;refine aB rfl (fun g2=> ?_) (fun g2=> ?_)
 ·refine dO ?_;refine sK ?_;refine PR ?_;refine jK ?_;apply aD;exact aE
  ·(unfold pX pW;simp only[g1,g2,if_true,if_false,Bool.false_eq_true];exact⟨rfl,rfl⟩)
  ·exact aA
 refine dO ?_;refine FP ?_;refine z4 ?_;refine z55 ?_;refine z7 ?_;refine cZ ?_;refine aB rfl (fun g3=> ?_) (fun g3=> ?_)
 ·refine dO ?_;refine sK ?_;refine PR ?_;refine jK ?_;apply aD;exact aE
  ·(unfold pX pW;simp only[g1,g2,g3,if_true,if_false,Bool.false_eq_true];exact⟨rfl,rfl⟩)
  ·exact aA
 refine dO ?_;refine QM ?_;refine aB rfl (fun g4=> ?_) (fun g4=> ?_)
 ·refine dO ?_;refine jK ?_;apply aD;exact aE
  ·(unfold pX pW;simp only[g1,g2,g3,g4,if_true,if_false,Bool.false_eq_true];exact⟨rfl,rfl⟩)
  ·exact aA
 refine dO ?_;refine QM ?_;apply fD rfl;exact cT
 ·intro _;(refine aI ?_);refine eU ?_;refine QM ?_;exact aJ
 refine aI ?_;refine aB rfl (fun g5=> ?_) (fun g5=> ?_)
 ·refine dO ?_;refine jK ?_;apply aD;exact aE
  ·(unfold pX pW;simp only[g1,g2,g3,g4,g5,if_true,if_false,Bool.false_eq_true];exact⟨rfl,rfl⟩)
  ·exact aA
 refine dG ?_;refine jK ?_;apply aD;exact aE
 ·(unfold pX pW;simp only[g1,g2,g3,g4,g5,if_true,if_false,Bool.false_eq_true];exact⟨rfl,rfl⟩)
 ·exact aA
def oY (op:Int):Int×Int×Int×Bool:=
 if((pX op).1==0)=true then(0,0,0,false)else if((pX op).1==69)=true then(1,(pX op).2,1,true)else if decide ((pX op).1≤79)=true then(2,(pX op).2,1,true)
 else if decide ((pX op).1≤105)=true then(1,(pX op).2,(pX op).2,true)else if decide ((pX op).1≤120)=true then(2,(pX op).2,(pX op).2,true)
 else if((pX op).1==167)=true then(1,(pX op).2,1,true)else(1,(pX op).2,2,true)
theorem xF(op:Int):SCall Tryz.prog 276 [.int .i64 op] [] (fun x σ=>x=.tup [.int .i64 (oY op).1,.int .i64 (oY op).2.1,.int .i64 (oY op).2.2.1,.bool (oY op).2.2.2]∧σ=[]):=by
 refine cC 39 [0,2,3,4,5,6,7,13,16,20,24,29,34] Tryz.func276 ?_;refine dG ?_;refine yC ?_;refine eU ?_
 (first|refine ln rfl rfl rfl rfl ?_ |refine lw rfl rfl (bV (v:=.bool false)) rfl ?_ |refine pu [] Tryz.call303 (CJ _) rfl cK bC ?_ |refine AB [] rfl rfl Tryz.call303 (fun _=>(CJ _)) rfl cK bC ?_ |refine puw [] rfl rfl Tryz.call303 (fun _=>(CJ _)) rfl cK bC ?_);refine vA ?_;refine mK ?_;refine QM ?_;refine aB rfl (fun g1=> ?_) (fun g1=> ?_)
 ·refine dG ?_;refine yC ?_;apply aD;exact aE
  ·(unfold oY;simp only[g1,if_true,if_false,Bool.false_eq_true];exact⟨rfl,rfl⟩)
  ·exact aA
 refine dO ?_;refine QM ?_;refine aB rfl (fun g2=> ?_) (fun g2=> ?_)
 ·refine dO ?_;refine yC ?_;apply aD;exact aE
  ·(unfold oY;simp only[g1,g2,if_true,if_false,Bool.false_eq_true];exact⟨rfl,rfl⟩)
  ·exact aA
 refine dO ?_;refine lo (mV (E rfl) (E rfl)) rfl ?_;refine cZ ?_;refine aB rfl (fun g3=> ?_) (fun g3=> ?_)
 ·refine dO ?_;refine yC ?_;apply aD;exact aE
  ·(unfold oY;simp only[g1,g2,g3,if_true,if_false,Bool.false_eq_true];exact⟨rfl,rfl⟩)
  ·exact aA
 refine dO ?_;refine lo (mV (E rfl) (E rfl)) rfl ?_;refine cZ ?_;refine aB rfl (fun g4=> ?_) (fun g4=> ?_)
 ·refine dF ?_;refine yC ?_;apply aD;exact aE
  ·(unfold oY;simp only[g1,g2,g3,g4,if_true,if_false,Bool.false_eq_true];exact⟨rfl,rfl⟩)
  ·exact aA
 refine dO ?_;refine lo (mV (E rfl) (E rfl)) rfl ?_;refine cZ ?_;refine aB rfl (fun g5=> ?_) (fun g5=> ?_)
 ·refine dF ?_;refine yC ?_;apply aD;exact aE
  ·(unfold oY;simp only[g1,g2,g3,g4,g5,if_true,if_false,Bool.false_eq_true];exact⟨rfl,rfl⟩)
  ·exact aA
 refine dO ?_;refine QM ?_;refine aB rfl (fun g6=> ?_) (fun g6=> ?_)
 ·refine dO ?_;refine yC ?_;apply aD;exact aE
  ·(unfold oY;simp only[g1,g2,g3,g4,g5,g6,if_true,if_false,Bool.false_eq_true];exact⟨rfl,rfl⟩)
  ·exact aA
 refine dO ?_;refine yC ?_;apply aD;exact aE
 ·(unfold oY;simp only[g1,g2,g3,g4,g5,g6,if_true,if_false,Bool.false_eq_true];exact⟨rfl,rfl⟩)
 ·exact aA
def iV (op:Int) (k:Bool):Int:=
 if(op==0||(op==1||(op==5||(op==11||(op==15||(op==26||op==27))))))=true then 1
 else if(op==2||(op==3||op==4))=true then 2
 else if(op==12||(op==13||(op==16||(op==32||(op==33||(op==34||(op==35||op==36)))))))=true then 3
 else if(op==14)=true then 4 else if(op==17)=true then 5
 else if(op==40||(op==41||(op==44||(op==45||(op==54||(op==55||op==58))))))=true then 6
 else if(op==63||op==64)=true then 7 else if(op==65)=true then 8 else if(op==66)=true then 9
 else if k=true then 1 else 0
theorem aBI(op:Int):SCall Tryz.prog 250 [.int .i64 op] [] (fun x σ=>x=.int .i64 (iV op (oY op).2.2.2)∧σ=[]):=by
 refine cC 56 [0,2,6,7,8,16,20,29,31,33,41,44,46,55] Tryz.func250 ?_;refine gX ?_;refine qS ?_;apply fD rfl;exact cT
 ·intro _;(refine aI ?_);refine eV ?_;apply eD rfl;exact cT
  ·intro _;(refine aI ?_);refine eV ?_;apply eD rfl;exact cT
   ·intro _;(refine aI ?_);refine eV ?_;apply eD rfl;exact cT
    ·intro _;(refine aI ?_);refine eV ?_;apply eD rfl;exact cT
     ·intro _;(refine aI ?_);refine eV ?_;apply eD rfl;exact cT
      ·intro _;(refine aI ?_);refine eV ?_;exact aJ
      exact aJ
     exact aJ
    exact aJ
   exact aJ
  exact aJ
 refine aI ?_;refine aB rfl (fun g1=> ?_) (fun g1=> ?_)
 ·refine bP ?_;apply aD;exact aE
  ·(unfold iV;simp only[g1,if_true,if_false,Bool.false_eq_true];exact⟨rfl,rfl⟩)
  ·exact aA
 refine dC ?_;apply fD rfl;exact cT
 ·intro _;(refine aI ?_);refine eV ?_;apply eD rfl;exact cT
  ·intro _;(refine aI ?_);refine eV ?_;exact aJ
  exact aJ
 refine aI ?_;refine aB rfl (fun g2=> ?_) (fun g2=> ?_)
 ·refine bP ?_;apply aD;exact aE
  ·(unfold iV;simp only[g1,g2,if_true,if_false,Bool.false_eq_true];exact⟨rfl,rfl⟩)
  ·exact aA
 refine dC ?_;apply fD rfl;exact cT
 ·intro _;(refine aI ?_);refine eV ?_;apply eD rfl;exact cT
  ·intro _;(refine aI ?_);refine eV ?_;apply eD rfl;exact cT
   ·intro _;(refine aI ?_);refine eV ?_;apply eD rfl;exact cT
    ·intro _;(refine aI ?_);refine eV ?_;apply eD rfl;exact cT
     ·intro _;(refine aI ?_);refine eV ?_;apply eD rfl;exact cT
      ·intro _;(refine aI ?_);refine eV ?_;apply eD rfl;exact cT
       ·intro _;(refine aI ?_);refine eV ?_;exact aJ
       exact aJ
      exact aJ
     exact aJ
    exact aJ
   exact aJ
  exact aJ
 refine aI ?_;refine aB rfl (fun g3=> ?_) (fun g3=> ?_)
 ·refine bP ?_;apply aD;exact aE
  ·(unfold iV;simp only[g1,g2,g3,if_true,if_false,Bool.false_eq_true];exact⟨rfl,rfl⟩)
  ·exact aA
 refine dC ?_;refine aB rfl (fun g4=> ?_) (fun g4=> ?_)
 ·refine bP ?_;apply aD;exact aE
  ·(unfold iV;simp only[g1,g2,g3,g4,if_true,if_false,Bool.false_eq_true];exact⟨rfl,rfl⟩)
  ·exact aA
 refine dC ?_;refine aB rfl (fun g5=> ?_) (fun g5=> ?_)
 ·refine bP ?_;apply aD;exact aE
  ·(unfold iV;simp only[g1,g2,g3,g4,g5,if_true,if_false,Bool.false_eq_true];exact⟨rfl,rfl⟩)
  ·exact aA
 refine dC ?_;apply fD rfl;exact cT
 ·intro _;(refine aI ?_);refine eV ?_;apply eD rfl;exact cT
  ·intro _;(refine aI ?_);refine eV ?_;apply eD rfl;exact cT
   ·intro _;(refine aI ?_);refine eV ?_;apply eD rfl;exact cT
    ·intro _;(refine aI ?_);refine eV ?_;apply eD rfl;exact cT
     ·intro _;(refine aI ?_);refine eV ?_;apply eD rfl;exact cT
      ·intro _;(refine aI ?_);refine eV ?_;exact aJ
      exact aJ
     exact aJ
    exact aJ
   exact aJ
  exact aJ
 refine aI ?_;refine aB rfl (fun g6=> ?_) (fun g6=> ?_)
 ·refine bP ?_;apply aD;exact aE
  ·(unfold iV;simp only[g1,g2,g3,g4,g5,g6,if_true,if_false,Bool.false_eq_true];exact⟨rfl,rfl⟩)
  ·exact aA
 refine dC ?_;apply fD rfl;exact cT
 ·intro _;(refine aI ?_);refine eV ?_;exact aJ
 refine aI ?_;refine aB rfl (fun g7=> ?_) (fun g7=> ?_)
 ·refine bP ?_;apply aD;exact aE
  ·(unfold iV;simp only[g1,g2,g3,g4,g5,g6,g7,if_true,if_false,Bool.false_eq_true];exact⟨rfl,rfl⟩)
  ·exact aA
 refine dC ?_;refine aB rfl (fun g8=> ?_) (fun g8=> ?_)
 ·refine bP ?_;apply aD;exact aE
  ·(unfold iV;simp only[g1,g2,g3,g4,g5,g6,g7,g8,if_true,if_false,Bool.false_eq_true];exact⟨rfl,rfl⟩)
  ·exact aA
 refine dC ?_;refine aB rfl (fun g9=> ?_) (fun g9=> ?_)
 ·refine bP ?_;apply aD;exact aE
  ·(unfold iV;simp only[g1,g2,g3,g4,g5,g6,g7,g8,g9,if_true,if_false,Bool.false_eq_true];exact⟨rfl,rfl⟩)
  ·exact aA
 refine dO ?_
 (first|refine ln rfl rfl rfl rfl ?_ |refine lw rfl rfl (bV (v:=.bool false)) rfl ?_ |refine pu [] Tryz.call276 (xF _) rfl cK bC ?_ |refine AB [] rfl rfl Tryz.call276 (fun _=>(xF _)) rfl cK bC ?_ |refine puw [] rfl rfl Tryz.call276 (fun _=>(xF _)) rfl cK bC ?_);refine vA ?_;refine LP ?_;refine yC ?_;refine eU ?_;refine jI ?_;refine aB rfl (fun g10=> ?_) (fun g10=> ?_)
 ·refine bP ?_;apply aD;exact aE
  ·(unfold iV;simp only[g1,g2,g3,g4,g5,g6,g7,g8,g9,g10,if_true,if_false,Bool.false_eq_true];exact⟨rfl,rfl⟩)
  ·exact aA
 refine bP ?_;apply aD;exact aE
 ·(unfold iV;simp only[g1,g2,g3,g4,g5,g6,g7,g8,g9,g10,if_true,if_false,Bool.false_eq_true];exact⟨rfl,rfl⟩)
 ·exact aA
theorem IP(op:Int):SCall Tryz.prog 200 [.int .i64 op] [] (fun x _=>∃a b,x=.tup [a,b,.bool (kN op).2.2]):=
 (yZ op).mono fun x σ h=>by
  unfold wE at h;split at h
  ·next e=>obtain⟨q,rfl,-⟩:=h;exact⟨_,_,by rw[e]⟩
  ·next e=>obtain⟨rfl,-⟩:=h;exact⟨_,_,by rw[show(kN op).2.2=false by simpa using e]⟩
theorem UY(op:Int):SCall Tryz.prog 217 [.int .i64 op] [] (fun x σ=>x=.int .i64 (iV op (kN op).2.2)∧σ=[]):=by
 refine cC 54 [0,2,5,6,7,15,19,28,30,32,40,43,45,53] Tryz.func217 ?_;refine gX ?_;refine qS ?_;apply fD rfl;exact cT
 ·intro _;(refine aI ?_);refine eV ?_;apply eD rfl;exact cT
  ·intro _;(refine aI ?_);refine eV ?_;apply eD rfl;exact cT
   ·intro _;(refine aI ?_);refine eV ?_;apply eD rfl;exact cT
    ·intro _;(refine aI ?_);refine eV ?_;apply eD rfl;exact cT
     ·intro _;(refine aI ?_);refine eV ?_;apply eD rfl;exact cT
      ·intro _;(refine aI ?_);refine eV ?_;exact aJ
      exact aJ
     exact aJ
    exact aJ
   exact aJ
  exact aJ
 refine aI ?_;refine aB rfl (fun g1=> ?_) (fun g1=> ?_)
 ·refine bP ?_;apply aD;exact aE
  ·(unfold iV;simp only[g1,if_true,if_false,Bool.false_eq_true];exact⟨rfl,rfl⟩)
  ·exact aA
 refine dC ?_;apply fD rfl;exact cT
 ·intro _;(refine aI ?_);refine eV ?_;apply eD rfl;exact cT
  ·intro _;(refine aI ?_);refine eV ?_;exact aJ
  exact aJ
 refine aI ?_;refine aB rfl (fun g2=> ?_) (fun g2=> ?_)
 ·refine bP ?_;apply aD;exact aE
  ·(unfold iV;simp only[g1,g2,if_true,if_false,Bool.false_eq_true];exact⟨rfl,rfl⟩)
  ·exact aA
 refine dC ?_;apply fD rfl;exact cT
 ·intro _;(refine aI ?_);refine eV ?_;apply eD rfl;exact cT
  ·intro _;(refine aI ?_);refine eV ?_;apply eD rfl;exact cT
   ·intro _;(refine aI ?_);refine eV ?_;apply eD rfl;exact cT
    ·intro _;(refine aI ?_);refine eV ?_;apply eD rfl;exact cT
     ·intro _;(refine aI ?_);refine eV ?_;apply eD rfl;exact cT
      ·intro _;(refine aI ?_);refine eV ?_;apply eD rfl;exact cT
       ·intro _;(refine aI ?_);refine eV ?_;exact aJ
       exact aJ
      exact aJ
     exact aJ
    exact aJ
   exact aJ
  exact aJ
 refine aI ?_;refine aB rfl (fun g3=> ?_) (fun g3=> ?_)
 ·refine bP ?_;apply aD;exact aE
  ·(unfold iV;simp only[g1,g2,g3,if_true,if_false,Bool.false_eq_true];exact⟨rfl,rfl⟩)
  ·exact aA
 refine dC ?_;refine aB rfl (fun g4=> ?_) (fun g4=> ?_)
 ·refine bP ?_;apply aD;exact aE
  ·(unfold iV;simp only[g1,g2,g3,g4,if_true,if_false,Bool.false_eq_true];exact⟨rfl,rfl⟩)
  ·exact aA
 refine dC ?_;refine aB rfl (fun g5=> ?_) (fun g5=> ?_)
 ·refine bP ?_;apply aD;exact aE
  ·(unfold iV;simp only[g1,g2,g3,g4,g5,if_true,if_false,Bool.false_eq_true];exact⟨rfl,rfl⟩)
  ·exact aA
 refine dC ?_;apply fD rfl;exact cT
 ·intro _;(refine aI ?_);refine eV ?_;apply eD rfl;exact cT
  ·intro _;(refine aI ?_);refine eV ?_;apply eD rfl;exact cT
   ·intro _;(refine aI ?_);refine eV ?_;apply eD rfl;exact cT
    ·intro _;(refine aI ?_);refine eV ?_;apply eD rfl;exact cT
     ·intro _;(refine aI ?_);refine eV ?_;apply eD rfl;exact cT
      ·intro _;(refine aI ?_);refine eV ?_;exact aJ
      exact aJ
     exact aJ
    exact aJ
   exact aJ
  exact aJ
 refine aI ?_;refine aB rfl (fun g6=> ?_) (fun g6=> ?_)
 ·refine bP ?_;apply aD;exact aE
  ·(unfold iV;simp only[g1,g2,g3,g4,g5,g6,if_true,if_false,Bool.false_eq_true];exact⟨rfl,rfl⟩)
  ·exact aA
 refine dC ?_;apply fD rfl;exact cT
 ·intro _;(refine aI ?_);refine eV ?_;exact aJ
 refine aI ?_;refine aB rfl (fun g7=> ?_) (fun g7=> ?_)
 ·refine bP ?_;apply aD;exact aE
  ·(unfold iV;simp only[g1,g2,g3,g4,g5,g6,g7,if_true,if_false,Bool.false_eq_true];exact⟨rfl,rfl⟩)
  ·exact aA
 refine dC ?_;refine aB rfl (fun g8=> ?_) (fun g8=> ?_)
 ·refine bP ?_;apply aD;exact aE
  ·(unfold iV;simp only[g1,g2,g3,g4,g5,g6,g7,g8,if_true,if_false,Bool.false_eq_true];exact⟨rfl,rfl⟩)
  ·exact aA
 refine dC ?_;refine aB rfl (fun g9=> ?_) (fun g9=> ?_)
 ·refine bP ?_;apply aD;exact aE
  ·(unfold iV;simp only[g1,g2,g3,g4,g5,g6,g7,g8,g9,if_true,if_false,Bool.false_eq_true];exact⟨rfl,rfl⟩)
  ·exact aA
 refine dO ?_;refine cw [] Tryz.call200 (IP op) rfl ?_ ?_ ?_
 ·exact aC
 ·exact aA
 rintro _ σ' ⟨a,b,rfl⟩-;refine QS ?_;refine oQ ?_;refine eU ?_;refine jI ?_;refine aB rfl (fun g10=> ?_) (fun g10=> ?_)
 ·refine bP ?_;apply aD;exact aE
  ·(unfold iV;simp only[g1,g2,g3,g4,g5,g6,g7,g8,g9,g10,if_true,if_false,Bool.false_eq_true];exact⟨rfl,rfl⟩)
  ·exact aA
 refine bP ?_;apply aD;exact aE
 ·(unfold iV;simp only[g1,g2,g3,g4,g5,g6,g7,g8,g9,g10,if_true,if_false,Bool.false_eq_true];exact⟨rfl,rfl⟩)
 ·exact aA
def QZ (op:Int):Bool:=decide (69≤op∧op≤90∨103≤op∧op≤138∨op=167∨op=172∨op=173)
theorem kG(n a b:Int):pW n a b=decide (a≤n∧n≤b):=by
 unfold pW;by_cases h:a≤n<;>simp[h]
theorem aBJ(op:Int):((JY op).1==0)= !decide (69≤op∧op≤90∨103≤op∧op≤138):=by
 unfold JY;simp only[kG,Bool.or_eq_true,decide_eq_true_eq];repeat' split
 ·rw[decide_eq_true (by omega)];rfl
 ·rw[decide_eq_true (by omega)];rfl
 ·rw[decide_eq_true (by omega)];rfl
 ·rw[decide_eq_false (by omega)];rfl
theorem aKn(op:Int):(kN op).2.2=QZ op:=by
 unfold kN;rw[aBJ];unfold QZ;by_cases h1:op=167
 ·subst h1;decide
 by_cases h2:op=172∨op=173
 ·rcases h2 with rfl|rfl<;>decide
 by_cases h3:69≤op∧op≤90∨103≤op∧op≤138
 ·rw[decide_eq_true h3,decide_eq_true (by omega)];repeat' split
  all_goals first|rfl|simp_all
 ·rw[decide_eq_false h3,decide_eq_false (by omega),if_neg (by simp;omega),if_neg (by simp;omega)];rfl
theorem ZZ(op:Int)(h:-9223372036854775808≤op∧op≤9223372036854775807):((pX op).1==0)= !QZ op:=by
 unfold pX QZ;simp only[kG,Bool.or_eq_true,decide_eq_true_eq,beq_iff_eq];repeat' split
 all_goals first
  |(rw[decide_eq_true (by omega)];simp only[IntKind.wrap_i64,Bool.not_true,beq_eq_false_iff_ne];omega)
  |(rw[decide_eq_false (by omega)];rfl)
theorem aHJ(op:Int)(h:-9223372036854775808≤op∧op≤9223372036854775807):(oY op).2.2.2=QZ op:=by
 unfold oY;rw[ZZ op h];cases QZ op
 ·rfl
 ·repeat' split
  all_goals first|rfl|simp_all
def aW (op:Int):Int:=iV op (QZ op)
end Go.Proofs.YtjpdadobblffmaaGreat
namespace Go.Proofs.YtjpdadobblffmaaGreat
open Go.RowKit Go.ChangeShapes Go.WideShapes Go.ChangeAt Go.Deep
theorem SR.growF {M:Mp}{F:Nat→Prop}{N:Nat}{w w':World}{σ:dU}(h:SR M F N w σ)(hold:∀k,k<w.heap.size→w'.heap[k]? =w.heap[k]?)(hsz:w.heap.size≤w'.heap.size){g:Nat}(hg:w.heap.size≤g)(hg':g<w'.heap.size):
  SR M (fun b=>F b∨b=g) N w' σ where
 ent p hp:=ER.mono (fun _ _ h=>h) (fun _ h=>.inl h) (fun b hb=>hold b (h.flt b hb)) (fun g hg=>hold g ((h.ent p hp).lt hg)) (h.ent p hp)
 inj:=h.inj
 nof g' hB hF:=by
  rcases hF with hF|rfl
  ·exact h.nof g' hB hF
  ·have:=h.lt hB;omega
 flt b hb:=by
  rcases hb with hb|rfl
  ·have:=h.flt b hb;omega
  ·exact hg'
 fresh:=h.fresh
theorem aGG{M:Mp}{F:Nat→Prop}{w:World}{xs:List AV}{us:List Value}(hl:us.length=xs.length)(h:∀(i:Nat) (v:AV),xs[i]? =some v→∃u,us[i]? =some u∧VR M F w v u):∀(j:Nat) (a:AV) (u:Value),xs[j]? =some a→us[j]? =some u→VR M F w a u:=by
 intro j a u ha hu;obtain⟨u',hu',hv⟩:=h j a ha;rw[hu]at hu';cases hu'
 exact hv
theorem wF{P:Program}{ty:TypeId}{s:ASt}{c:Bool}{fn:Fn}{first captured:Array Operand}{xs cs:List AV}(h1:AEvs s first.toList xs)(h2:AEvs s captured.toList cs):Lop P (.makeFunc fn first captured) ty s c (.fn fn xs cs) []:=
 Lop.pure_ fun M F N n a w hr hc=>by
  obtain⟨l1,k1⟩:=h1.at_ hr;obtain⟨l2,k2⟩:=h2.at_ hr;refine⟨.func fn (first.map a.eval) (captured.map a.eval),.fn ?_ ?_ ?_ ?_,fun w' o ho _=> ?_⟩
  ·rw[←l1];simp
  ·intro j a' u ha hu;refine aGG l1 k1 j a' u ha ?_;rw[←hu,←Array.getElem?_toList];simp
  ·rw[←l2];simp
  ·intro j a' u ha hu;refine aGG l2 k2 j a' u ha ?_;rw[←hu,←Array.getElem?_toList];simp
  ·simp only[execOp,ho,Instr.makeFunc,Sem.run_bind,Sem.run_pure,Result.andThen_ok]
theorem JZ{M:Mp}{F:Nat→Prop}{w:World}{xs ys:List AV}{us vs:List Value}(hl:us.length=xs.length)(h:∀(j:Nat) (a:AV) (u:Value),xs[j]? =some a→us[j]? =some u→VR M F w a u)
  (k:∀(j:Nat) (a:AV) (u:Value),ys[j]? =some a→vs[j]? =some u→VR M F w a u):∀(j:Nat) (a:AV) (u:Value),(xs++ys)[j]? =some a→(us++vs)[j]? =some u→VR M F w a u:=by
 intro j a u ha hu;by_cases hj:j<xs.length
 ·rw[List.getElem?_append_left hj]at ha;rw[List.getElem?_append_left (by omega)]at hu;exact h j a u ha hu
 ·rw[List.getElem?_append_right (by omega)]at ha;rw[List.getElem?_append_right (by omega)]at hu;exact k (j-xs.length) a u ha (by rw[←hl];exact hu)
def UZ (a:Act) (x:Operand) (xs:List Operand):List Value:=match a.eval x with
 | .func _ us vs=>us.toList++xs.map a.eval++vs.toList
 | _=>[]
theorem RA{P:Program}{n:Nat}{s:ASt}{ty:TypeId}{d:Nat}{x:Operand}{f:FuncId}{us vs:List AV}{xs:List Operand}{ats:Array TypeId}{args:List AV}{σ1:dU}{R:AV→dU→Prop}{K:ASt→Prop}(hx:aev s x=some (.fn (.func f) us vs))(hf:∀args w,(callFunc f args).run P w=.ok (.enter f args) w)
  (h:SCall P f (us++args++vs) σ1 R) (hd:d<n) (hargs:ArgsLe s xs args) (hsub:∀p∈σ1,p∈s.σ)
  (hK:∀x σ',R x σ'→(∀p∈σ',(∃q∈σ1,q.1=p.1)∨Fresh p.1 s.σ)→K ⟨(d,x)::s.fr,σ'++eO (σ1.map (·.1)) s.σ⟩):
  Hop P n (.call { callee:=.value x,args:=xs.toArray,argTypes:=ats }) ty (some d) s (σ1.map (·.1)) K:=by
 refine Hop.of_call hd h hsub (fun a=>UZ a x xs) (fun M F N a w o ho hr=> ?_) hK;have hv:=hr.aev hx;have hl:=hargs.len;have ha:=hargs.vr hr;obtain⟨dst,op,ty',pos,after,guard⟩:=o;dsimp only at ho;subst ho;generalize hu:a.eval x=u at hv;cases hv with
 |@fn _ _ _ us' vs' h1 h2 h3 h4=>
  have hfa:UZ a x xs=us'.toList++xs.map a.eval++vs'.toList:=by unfold UZ;rw[hu]
  refine⟨?_, ?_, ?_⟩
  ·have:execOp a.eval { dst,op:=.call { callee:=.value x,args:=xs.toArray,argTypes:=ats },type:=ty',pos,after,guard } =(do
     let d←Deferred.ofValue (a.eval x) (xs.toArray.map a.eval)
     invoke d.target d.args):=rfl
   rw[this,hu,hfa];simp only[Deferred.ofValue,Sem.run_bind,Sem.run_pure,Result.andThen_ok,invoke,hf];simp
  ·rw[hfa];simp only[List.length_append,List.length_map,Array.length_toList];omega
  ·rw[hfa];refine JZ (by simp;omega) (JZ (by simpa using h1) (fun j a' u' h5 h6=>h2 j a' u' h5 (by simpa using h6)) (fun j a' u' h5 h6=>ha j a' u' h5 h6)) (fun j a' u' h5 h6=>h4 j a' u' h5 (by simpa using h6))
theorem eF{σ:dU}:eO (σ.map (·.1)) σ=[]:=by
 unfold eO;rw[List.filter_eq_nil_iff];intro p hp;simp;exact⟨_,hp⟩
section
variable {P : Program} {n : Nat} {ops : Array Oper} {rest : List Oper} {fr : Fr} {σ : dU} {K : ASt → Prop} {ty : TypeId} {pos : String} {af : Array Edge} {d : Nat}
theorem qE{x:Operand}{f:FuncId}{us vs:List AV}{xs:List Operand}{ats:Array TypeId}{args:List AV}{R:AV→dU→Prop}(σ1:dU)(hx:aev ⟨fr,σ⟩ x=some (.fn (.func f) us vs))(hf:∀args w,(callFunc f args).run P w=.ok (.enter f args) w)(h:SCall P f (us++args++vs) σ1 R)(hd:Nat.ble (d+1) n=true)
  (hargs:ArgsLe ⟨fr,σ⟩ xs args) (hsub:∀p∈σ1,p∈σ) (hK:∀x σ',R x σ'→(∀p∈σ',(∃q∈σ1,q.1=p.1)∨Fresh p.1 σ)→RS P n ops rest ⟨(d,x)::fr,σ'++eO (σ1.map (·.1)) σ⟩ K):
  RS P n ops (⟨some d,.call { callee:=.value x,args:=xs.toArray,argTypes:=ats },ty,pos,af,none⟩::rest) ⟨fr,σ⟩ K:=hY (RA hx hf h (dL hd) hargs hsub hK)
end
end Go.Proofs.YtjpdadobblffmaaGreat
namespace Go.Proofs.YtjpdadobblffmaaGreat
open Go.RowKit Go.ChangeShapes Go.WideShapes Go.ChangeAt Go.Deep
attribute [local irreducible] SW RS RD fH eH
theorem VA{k1 k2:Rk}(xs ys:List Int):SCall Tryz.prog 47 [.ro 1 (xs.map aR) k1,.ro 1 (ys.map aR) k2] [] (fun x σ=>x=.bool (decide (xs=ys))∧σ=[]):=by
 refine cC 26 [0,1,4,5,10,14,25] Tryz.func47 ?_;refine hZ (i:=0) rfl fun hm=> ?_
 rw[List.length_map]at hm;unfold maxLen at hm;refine uL ?_;refine pH ?_;refine sM ?_;refine aB rfl (fun h=> ?_) (fun h=> ?_)
 ·refine bP ?_;apply aD;exact aE
  ·have hne:xs≠ys:=by rintro rfl;simp at h
   exact⟨by simp[gC,cX,hne],rfl⟩
  ·exact aA
 have hl:xs.length=ys.length:=by simp at h;omega
 refine bP ?_;refine lp (β:=Nat) (fun k=>⟨[(0,.ro 1 (xs.map aR) k1),(1,.ro 1 (ys.map aR) k2),(4,.bool false),(5,.int .i64 k)],[]⟩) (fun k=>k≤xs.length∧xs.take k=ys.take k) (fun k=>xs.length-k) 0 ?_ ⟨Nat.zero_le _,rfl⟩ ?_
 ·exact aJ
 rintro k ⟨hk,ht⟩;refine oR ?_;refine oP ?_;refine aB rfl (fun h1=> ?_) (fun h1=> ?_)
 ·have hlt:k<xs.length:=by simp at h1;omega
  obtain⟨x,hx⟩:∃x,xs[k]? =some x:=⟨_,List.getElem?_eq_getElem hlt⟩
  obtain⟨y,hy⟩:∃y,ys[k]? =some y:=⟨_,List.getElem?_eq_getElem (by omega)⟩
  refine aI ?_;refine fK [(0,true),(1,true),(2,true),(3,true),(4,true),(5,true),(6,true),(7,true),(8,true)] ?_;refine CI ?_;refine JP ?_;refine CI ?_;refine JP ?_;refine z58 ?_;refine kF ?_;refine aB rfl (fun h2=> ?_) (fun h2=> ?_)
  ·refine bP ?_;apply aD;exact aE
   ·have hne:xs≠ys:=by rintro rfl;rw[hx]at hy;simp at hy;subst hy;simp at h2
    exact⟨by simp[gC,cX,hne],rfl⟩
   ·exact aA
  ·refine lI ?_;refine⟨k+1,⟨by omega, ?_⟩,by omega, ?_⟩
   ·rw[List.take_add_one,List.take_add_one,ht,hx,hy];simp at h2;rw[h2]
   ·exact aJ
 ·refine bP ?_;apply aD;exact aE
  ·simp at h1;have:xs=ys:=by rwa [List.take_of_length_le (by omega),List.take_of_length_le (by omega)]at ht
   exact⟨by simp[gC,cX,this],rfl⟩
  ·exact aA
theorem gV{k1 k2:Rk}(xs ys:List Int):SCall Tryz.prog 116 [.ro 1 (xs.map aR) k1,.ro 1 (ys.map aR) k2] [] (fun x σ=>x=.bool (decide (xs=ys))∧σ=[]):=by
 refine cC 26 [0,1,4,5,10,12,13,14,24] Tryz.func116 ?_;refine hZ (i:=0) rfl fun hm=> ?_
 rw[List.length_map]at hm;unfold maxLen at hm;refine uL ?_;refine pH ?_;refine sM ?_;refine aB rfl (fun h=> ?_) (fun h=> ?_)
 ·refine bP ?_;apply aD;exact aE
  ·have hne:xs≠ys:=by rintro rfl;simp at h
   exact⟨by simp[gC,cX,hne],rfl⟩
  ·exact aA
 have hl:xs.length=ys.length:=by simp at h;omega
 refine dO ?_;refine qP ?_;refine lp (β:=Nat) (fun k=>⟨[(0,.ro 1 (xs.map aR) k1),(1,.ro 1 (ys.map aR) k2),(4,.bool false),(12,.int .i64 xs.length),(13,.int .i64 k)],[]⟩) (fun k=>k≤xs.length∧xs.take k=ys.take k) (fun k=>xs.length-k) 0 ?_ ⟨Nat.zero_le _,rfl⟩ ?_
 ·exact aJ
 rintro k ⟨hk,ht⟩;refine jL ?_;refine aB rfl (fun h1=> ?_) (fun h1=> ?_)
 ·have hlt:k<xs.length:=by simp at h1;omega
  obtain⟨x,hx⟩:∃x,xs[k]? =some x:=⟨_,List.getElem?_eq_getElem hlt⟩
  obtain⟨y,hy⟩:∃y,ys[k]? =some y:=⟨_,List.getElem?_eq_getElem (by omega)⟩
  refine fF ?_;refine fK [(0,true),(1,true),(2,true),(3,true),(4,true),(5,true),(6,true),(7,true),(8,true)] ?_;refine CI ?_;refine JP ?_;refine CI ?_;refine JP ?_;refine z58 ?_;refine kF ?_;refine aB rfl (fun h2=> ?_) (fun h2=> ?_)
  ·refine bP ?_;apply aD;exact aE
   ·have hne:xs≠ys:=by rintro rfl;rw[hx]at hy;simp at hy;subst hy;simp at h2
    exact⟨by simp[gC,cX,hne],rfl⟩
   ·exact aA
  ·refine lZ ?_;refine⟨k+1,⟨by omega, ?_⟩,by omega, ?_⟩
   ·rw[List.take_add_one,List.take_add_one,ht,hx,hy];simp at h2;rw[h2]
   ·exact aJ
 ·refine bP ?_;apply aD;exact aE
  ·simp at h1;have:xs=ys:=by rwa [List.take_of_length_le (by omega),List.take_of_length_le (by omega)]at ht
   exact⟨by simp[gC,cX,this],rfl⟩
  ·exact aA
def aBK (P:Program) (f:FuncId) (caps:List AV) (σ:dU) (p:Int→Bool):Prop:=
 (∀args w,(callFunc f args).run P w=.ok (.enter f args) w)∧∀c,SCall P f ([]++ [.int .i64 c]++caps) σ (fun r σ'=>r=.bool (p c)∧σ'=σ)
theorem IQ{k:Rk}{f:FuncId}{caps:List AV}{σ:dU}{p:Int→Bool}(hp:aBK Tryz.prog f caps σ p)(l:List Int):SCall Tryz.prog 205 [.ro 1 (l.map aR) k,.fn (.func f) [] caps] σ (fun x σ'=>∃m:Int,x=.int .i64 m∧decide (0≤m)=l.any p∧σ'=σ):=by
 refine cC 19 [0,1,4,5,7,8,9,16] Tryz.func205 ?_;refine hZ (i:=0) rfl fun hm=> ?_
 rw[List.length_map]at hm;unfold maxLen at hm;refine sQ ?_;refine lp (β:=Nat) (fun j=>⟨[(0,.ro 1 (l.map aR) k),(1,.fn (.func f) [] caps),(7,.int .i64 l.length),(8,.int .i64 j)],σ⟩) (fun j=>j≤l.length∧(l.take j).any p=false) (fun j=>l.length-j) 0 ?_ ⟨Nat.zero_le _,rfl⟩ ?_
 ·exact aJ
 rintro j ⟨hj,ht⟩;refine jL ?_;refine aB rfl (fun h1=> ?_) (fun h1=> ?_)
 ·have hlt:j<l.length:=by simp at h1;omega
  obtain⟨x,hx⟩:∃x,l[j]? =some x:=⟨_,List.getElem?_eq_getElem hlt⟩
  refine uI ?_;refine nA ?_;refine qE σ rfl hp.1 (hp.2 x) rfl ?_ ?_ ?_
  ·exact aC
  ·exact fun _ h=>h
  rintro r σ' ⟨rfl,rfl⟩-;rw[eF,List.append_nil];refine jI ?_;refine aB rfl (fun h2=> ?_) (fun h2=> ?_)
  ·refine fF ?_;apply aD;exact aE
   ·refine⟨j,rfl, ?_,rfl⟩;rw[decide_eq_true (by omega)];exact(List.any_eq_true.2 ⟨x,List.mem_of_getElem? hx,h2⟩).symm
   ·exact aA
  ·refine lZ ?_;refine⟨j+1,⟨by omega, ?_⟩,by omega, ?_⟩
   ·rw[List.take_add_one,hx,List.any_append,ht];simp[h2]
   ·exact aJ
 ·refine bP ?_;apply aD;exact aE
  ·simp at h1;rw[List.take_of_length_le (by omega)]at ht;exact⟨-1,rfl,by rw[ht];rfl,rfl⟩
  ·exact aA
theorem oB{k:Rk}{f:FuncId}{caps:List AV}{σ:dU}{p:Int→Bool}(hp:aBK Tryz.prog f caps σ p)(l:List Int):SCall Tryz.prog 89 [.ro 1 (l.map aR) k,.fn (.func f) [] caps] σ (fun x σ'=>x=.bool (l.any p)∧σ'=σ):=by
 refine cC 9 [0,1,4] Tryz.func89 ?_;refine mY ?_;refine cw σ Tryz.call205 (IQ (k:=k) hp l) rfl ?_ ?_ ?_
 ·exact aC
 ·exact fun _ h=>h
 rintro x σ' ⟨m,rfl,hm,rfl⟩-;rw[eF,List.append_nil];refine AG ?_;exact aD aE ⟨by simp only[gC];rw[←hm],rfl⟩ aA
end Go.Proofs.YtjpdadobblffmaaGreat
