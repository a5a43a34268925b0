import Derived.Test.YtjpdadobblffmaaGreatIP1
import Derived.Laws.BytesString
import Derived.ScopeJumps
import Derived.Test.YtjpdadobblffmaaGreatProg
import Derived.ArgAppend
set_option linter.unusedSimpArgs false
set_option linter.unusedVariables false
set_option maxRecDepth 100000
set_option maxHeartbeats 4000000
namespace Go.Proofs.YtjpdadobblffmaaGreat
open Go.RowKit Go.ChangeShapes Go.WideShapes Go.ChangeAt Go.Deep
inductive Put:List AV→Nat→List AV→List AV→Prop
 |done {l:List AV} :Put l 0 [] l
 |put {a v:AV} {l vs l':List AV} (h:Put l 0 vs l'):Put (a::l) 0 (v::vs) (v::l')
 |skip {a:AV} {k:Nat} {l vs l':List AV} (h:Put l k vs l'):Put (a::l) (k+1) vs (a::l')
theorem Put.eq {cs:List AV}{k:Nat}{vs out:List AV}(h:Put cs k vs out):k+vs.length≤cs.length∧out=cs.take k++vs++cs.drop (k+vs.length):=by
 induction h with
 |done=>simp
 |put _ ih=>
  obtain⟨h1,h2⟩:=ih;refine⟨by simp at h1⊢;omega, ?_⟩;simp at h2⊢;exact h2
 |@skip a k l vs l' _ ih=>
  obtain⟨h1,h2⟩:=ih;refine⟨by simp at h1⊢;omega, ?_⟩;rw[show k+1+vs.length=(k+vs.length)+1 by omega];simp at h2⊢;exact h2
inductive Fill (pl:List (Nat×Nat)):List AV→List (Nat×AV)→List AV→Prop
 |nil {cs:List AV} :Fill pl cs [] cs
 |cons {cs cs' out:List AV} {i off sz:Nat} {v:AV} {r:List (Nat×AV)} (hp:pl[i]? =some (off,sz)) (hl:v.cells.length=sz) (hc:v.cells.all AV.cell=true) (h:Put cs off v.cells cs') (hr:Fill pl cs' r out):Fill pl cs ((i,v)::r) out
theorem Fill.eq {pl:List (Nat×Nat)}{cs out:List AV}{r:List (Nat×AV)}(h:Fill pl cs r out):IP pl cs r=some out:=by
 induction h with
 |nil=>rfl
 |@cons cs cs' out i off sz v r hp hl hc h _ ih=>
  obtain⟨h1,h2⟩:=h.eq;unfold IP;rw[hp];simp only;rw[if_pos (by simp[hl,hc];rw[hl]at h1;exact h1),←hl,←h2,ih]
inductive SPut:dC→Nat→Nat→List AV→dC→Prop
 |here {r off:Nat} {bt:TypeId} {cs vs cs':List AV} {σ:dC} (h:Put cs off vs cs') (hn:Fresh r σ):SPut ((r,.box bt cs)::σ) r off vs ((r,.box bt cs')::σ)
 |next {r q off:Nat} {y:Ent} {vs:List AV} {σ σ':dC} (hne:r≠q) (h:SPut σ r off vs σ'):SPut ((q,y)::σ) r off vs ((q,y)::σ')
inductive SSet:dC→Nat→Ent→Nat→Ent→dC→Prop
 |here {r r':Nat} {x x':Ent} {σ:dC} (hn:Fresh r σ):SSet ((r,x)::σ) r x r' x' ((r',x')::σ)
 |next {r q r':Nat} {x x' y:Ent} {σ σ':dC} (hne:r≠q) (h:SSet σ r x r' x' σ'):SSet ((q,y)::σ) r x r' x' ((q,y)::σ')
theorem SSet.get {σ σ':dC}{r r':Nat}{x x':Ent}(h:SSet σ r x r' x' σ'):fZ σ r=some x:=by
 induction h with
 |here _=>exact jO
 |next hne _ ih=>exact jP hne ih
theorem Fresh.cons {r q:Nat}{y:Ent}{σ:dC}(h:q≠r)(k:Fresh r σ):Fresh r ((q,y)::σ):=by rw[aO];exact⟨h,k⟩
theorem SSet.sub {σ σ':dC}{r r':Nat}{x x':Ent}(h:SSet σ r x r' x' σ'):∀p∈σ',p∈(r',x')::dS [r] σ:=by
 induction h with
 |@here r r' x x' σ hn=>
  intro p hp;rcases List.mem_cons.1 hp with rfl|hp
  ·simp
  ·refine List.mem_cons_of_mem _ ?_;simp only[dS,List.mem_filter];exact⟨List.mem_cons_of_mem _ hp,by simpa using hn p hp⟩
 |@next r q r' x x' y σ σ' hne _ ih=>
  intro p hp;rcases List.mem_cons.1 hp with rfl|hp
  ·refine List.mem_cons_of_mem _ ?_;simp only[dS,List.mem_filter];exact⟨by simp,by simpa using fun e=>hne e.symm⟩
  ·rcases List.mem_cons.1 (ih p hp)with rfl|h
   ·simp
   ·refine List.mem_cons_of_mem _ ?_;simp only[dS,List.mem_filter]at h⊢;exact⟨List.mem_cons_of_mem _ h.1,h.2⟩
inductive SDel:dC→Nat→Ent→dC→Prop
 |here {r:Nat} {x:Ent} {σ:dC} (hn:Fresh r σ):SDel ((r,x)::σ) r x σ
 |next {r q:Nat} {x y:Ent} {σ σ':dC} (hne:r≠q) (h:SDel σ r x σ'):SDel ((q,y)::σ) r x ((q,y)::σ')
theorem SDel.get {σ σ':dC}{r:Nat}{x:Ent}(h:SDel σ r x σ'):fZ σ r=some x:=by
 induction h with
 |here _=>exact jO
 |next hne _ ih=>exact jP hne ih
theorem SDel.sub {σ σ':dC}{r:Nat}{x:Ent}(h:SDel σ r x σ'):∀p∈σ',p∈σ∧p.1≠r:=by
 induction h with
 |here hn=>intro p hp;exact⟨List.mem_cons_of_mem _ hp,hn p hp⟩
 |next hne _ ih=>
  intro p hp;rcases List.mem_cons.1 hp with rfl|hp
  ·exact⟨List.mem_cons_self,fun e=>hne e.symm⟩
  ·exact⟨List.mem_cons_of_mem _ (ih p hp).1,(ih p hp).2⟩
theorem aF1{fr:Fr}{σ σ':dC}{i q off len sz:Nat}{et:TypeId}{es es':List (List AV)}(hx:dD fr i=some (.own q off len))(hd:SDel σ q (.arr et sz es) σ')(hle:off+len≤es.length)(he:(es.drop off).take len=es'):SGo ⟨fr,σ⟩ ⟨(i,.ro sz es' .any)::fr,σ'⟩:=by
 refine pU [q] (fun j x' hj=> ?_) (fun p hp=> ?_)
 ·simp only[dD]at hj;split at hj
  ·next e=>
   subst e;obtain rfl:=Option.some.inj hj;exact⟨_,hx,he▸Bor.own List.mem_cons_self hd.get hle⟩
  ·exact⟨x',hj,.refl _⟩
 ·obtain⟨h1,h2⟩:=hd.sub p hp;exact⟨by simpa using h2,p.2,h1,.refl _⟩
theorem SPut.set {σ σ':dC}{r off:Nat}{vs:List AV}(h:SPut σ r off vs σ'):∃bt cs cs',Put cs off vs cs'∧SSet σ r (.box bt cs) r (.box bt cs') σ':=by
 induction h with
 |here h hn=>exact⟨_,_,_,h,.here hn⟩
 |next hne _ ih=>obtain⟨bt,cs,cs',h1,h2⟩:=ih;exact⟨bt,cs,cs',h1,.next hne h2⟩
section
variable {P : Program} {n : Nat} {ops : Array Oper} {rest : List Oper} {fr : Fr} {σ σ' : dC} {K : ASt → Prop} {op : Op} {ty t t' : TypeId} {pos : String} {af : Array Edge} {x y : Operand} {c : Bool} {d : Nat}
theorem E{s:ASt}{v:AV}(h:aev s x=some v):Ev s c x v:=.here h
theorem W{s:ASt}{v:AV}{c':Bool}(h:aev s x=some (.when c' v))(hc:c=true→c'=true):Ev s c x v:=.when h hc
theorem aX{α:Type} [Inhabited α] {l:List α}{j:Nat}(h:j<l.length):l[j]? =some l[j]! :=by simp[h]
theorem bR{P:Program}{op:Op}{ty:TypeId}{s:ASt}{v:AV}:Lop P op ty s false v []:=⟨fun r hr=>by simp at hr,fun _ _ _ _ _ _ _ hc=>by cases hc⟩
theorem xP{P:Program}{ty t t':TypeId}{s:ASt}{c:Bool}{x y:Operand}{m m':Int} [Ty P t (.int .i64)] (h:Ev s c x (.int .i64 m))(h':Ev s c y (.int .i64 m'))(hb:c=true→ -9223372036854775808≤m-m'∧m-m'≤9223372036854775807):Lop P (.binOp .sub t x y t') ty s c (.int .i64 (m-m')) []:=by
 cases c with
 |false=>exact bR
 |true=>exact mC h h' (hb rfl).1 (hb rfl).2
theorem StLe.of_mem {σ:dC}:∀ {l:dC},(∀p∈l,p∈σ)→StLe σ l
 |[],_=>.nil
 |(r,y)::l,h=>.cons (h (r,y) (by simp)) rfl (StLe.of_mem fun p hp=>h p (by simp[hp]))
theorem StLe.refl (σ:dC):StLe σ σ:=.of_mem fun _ h=>h
theorem cI{a b:Nat}(h:Nat.ble (a+1) b=true):a<b:=Nat.le_of_ble_eq_true h
theorem lo{v:AV}{rs:List Nat}(h:Lop P op ty ⟨fr,σ⟩ true v rs)(hd:Nat.ble (d+1) n=true)(hK:RS P n ops rest ⟨(d,v)::fr,σ⟩ K):RS P n ops (⟨some d,op,ty,pos,af,none⟩::rest) ⟨fr,σ⟩ K:=ZV h (cI hd) hK
theorem lg{j dj:Nat}{want b:Bool}{v:AV}{rs:List Nat}(hj:(ops[j]?).bind (·.dst)=some dj)(hb:dD fr dj=some (.bool b))(h:Lop P op ty ⟨fr,σ⟩ (b==want) v rs)(hd:Nat.ble (d+1) n=true)
  (hK:RS P n ops rest ⟨(d,.when (b==want) v)::fr,σ⟩ K):RS P n ops (⟨some d,op,ty,pos,af,some (j,want)⟩::rest) ⟨fr,σ⟩ K:=NC hj hb h (cI hd) hK
theorem lw{j dj:Nat}{want b c0:Bool}{v:AV}{rs:List Nat}(hj:(ops[j]?).bind (·.dst)=some dj)(hb:dD fr dj=some (.when c0 (.bool b)))(h:Lop P op ty ⟨fr,σ⟩ (c0&&(b==want)) v rs)(hd:Nat.ble (d+1) n=true)
  (hK:RS P n ops rest ⟨(d,.when (c0&&(b==want)) v)::fr,σ⟩ K):RS P n ops (⟨some d,op,ty,pos,af,some (j,want)⟩::rest) ⟨fr,σ⟩ K:=GV hj hb h (cI hd) hK
theorem ln{j dj:Nat}{want b:Bool}(hj:(ops[j]?).bind (·.dst)=some dj)(hb:dD fr dj=some (.bool b))(hne:(b==want)=false)(hd:Nat.ble (d+1) n=true)
  (hK:RS P n ops rest ⟨(d,.when false (.bool false))::fr,σ⟩ K):RS P n ops (⟨some d,op,ty,pos,af,some (j,want)⟩::rest) ⟨fr,σ⟩ K:=by
 refine NC (v:=.bool false) (rs:=[]) hj hb ?_ (cI hd) ?_
 ·rw[hne];exact bR
 ·rw[hne];exact hK
theorem le{ks:List Nat}{fr':Fr}(h:KeepIs fr ks fr')(hK:K ⟨fr',σ⟩):RS P n ops [] ⟨fr,σ⟩ (wZ ks K):=aFX h rfl hK
theorem KN{s:ASt}{fs:Array Field} [Ty P t (.struct fs)] {sz by_:Nat}{z:Value} [Tz P t sz by_ z] {pl:List (Nat×Nat)} [Tf P t pl] {parts:Array (Nat×Operand)}{vs:List (Nat×AV)}{out zs:List AV}(hp:PEvs s c parts.toList vs)(hz:z.cells.toList.map uJ=zs)(hf:Fill pl zs vs out):
  Lop P (.build t parts) ty s c (.agg out) []:=WQ rfl hp (by rw[hz];exact hf.eq)
theorem NN{ts:List Nat}{q off len sz:Nat}{et:TypeId}{es es':List (List AV)}(ht:q∈ts)(hg:fZ σ q=some (.arr et sz es))(hle:off+len≤es.length)(he:(es.drop off).take len=es'):Bor σ ts (.own q off len) (.ro sz es' .any):=he▸Bor.own ht hg hle
theorem fH{s:ASt}{x y z:Operand}{v:AV}(h:Ev s c x (.bool true))(h1:Ev s c y v):Lop P (.pick x y z) ty s c v []:=
 Lop.pure_ fun M F N n a w hr hc=>⟨_,h1.vr hr hc,fun w' o ho _=>by
  have e:=h.bool hr hc;simp[execOp,ho,e,asBool]⟩
theorem fI{s:ASt}{x y z:Operand}{v:AV}(h:Ev s c x (.bool false))(h1:Ev s c z v):Lop P (.pick x y z) ty s c v []:=
 Lop.pure_ fun M F N n a w hr hc=>⟨_,h1.vr hr hc,fun w' o ho _=>by
  have e:=h.bool hr hc;simp[execOp,ho,e,asBool]⟩
theorem aAe:∀x∈([]:List AV),NoF x:=fun x hx=>by simp at hx
theorem WT{a:AV}{l:List AV}(h:NoF a)(k:∀x∈l,NoF x):∀x∈a::l,NoF x:=fun x hx=>by
 rcases List.mem_cons.1 hx with rfl|hx
 ·exact h
 ·exact k x hx
inductive BorL (σ:dC) (ts:List Nat):List AV→List AV→Prop
 |nil:BorL σ ts [] []
 |cons {x y:AV} {xs ys:List AV} (h:Bor σ ts x y) (r:BorL σ ts xs ys):BorL σ ts (x::xs) (y::ys)
theorem BorL.at_ {ts:List Nat}{cs cs':List AV}(h:BorL σ ts cs cs'):cs'.length=cs.length∧∀(j:Nat) (a':AV),cs'[j]? =some a'→Bor σ ts (cs.getD j .undef) a':=by
 induction h with
 |nil=>exact⟨rfl,fun j a h=>by simp at h⟩
 |cons h _ ih=>
  refine⟨by simp[ih.1],fun j a' hj=> ?_⟩;cases j with
  |zero=>simp at hj;subst hj;simpa using h
  |succ j=>simpa using ih.2 j a' (by simpa using hj)
theorem aKs{ts:List Nat}{r off sz:Nat}{bt:TypeId}{cs cs':List AV}(ht:r∈ts)(hg:fZ σ r=some (.box bt cs))(hz:cs.length=sz)(hc:cs'.all AV.cell=true)(h:BorL σ ts cs cs'):Bor σ ts (.ptr r off) (.el sz [cs'] 0 off):=by
 subst hz;exact .bx (fun j=>cs.getD j .undef) ht hg h.at_.1 (List.all_eq_true.1 hc) (fun j a hj=>by simp[hj]) h.at_.2
theorem aAf{ts:List Nat}{cs cs':List AV}(h:BorL σ ts cs cs'):Bor σ ts (.agg cs) (.agg cs'):=
 .agg (fun j=>cs.getD j .undef) h.at_.1 (fun j a hj=>by simp[hj]) h.at_.2
theorem bx{v:AV}{cs:List AV}(h:aev ⟨fr,σ⟩ x=some v)(hc:v.cells.all AV.cell=true)(hv:v.cells=cs)(hd:Nat.ble (d+1) n=true)(hK:∀r,Fresh r σ→RS P n ops rest ⟨(d,.ptr r 0)::fr,(r,.box t cs)::σ⟩ K):RS P n ops (⟨some d,.box t x,ty,pos,af,none⟩::rest) ⟨fr,σ⟩ K:=by
 subst hv;exact fW (UA h hc (cI hd) hK)
theorem al{sz by_:Nat}{z:Value} [Tz P t sz by_ z] {cs:List AV}(hd:Nat.ble (d+1) n=true)(hz:z.cells.toList.map cV=cs)(hK:∀r,Fresh r σ→RS P n ops rest ⟨(d,.ptr r 0)::fr,(r,.box t cs)::σ⟩ K):RS P n ops (⟨some d,.alloc t,ty,pos,af,none⟩::rest) ⟨fr,σ⟩ K:=by
 subst hz;exact fW (IM (cI hd) hK)
theorem AI{s:ASt}{σ2:dC}(h:∀p∈σ2,p∈s.σ)(hK:RS P n ops rest ⟨s.fr,σ2⟩ K):RS P n ops rest s K:=iR (s':=⟨s.fr,σ2⟩) (SGo.of_le (fun _ x h=>⟨x,h,VLe.refl x⟩) h) hK
theorem DQ{listed:Array Bool}{todo:List (Nat×Bool)}{held:List (Nat×List Nat)}{s:ASt}{σ2:dC}(h:∀p∈σ2,p∈s.σ)(hK:RD P n ops listed todo held ⟨s.fr,σ2⟩ K):RD P n ops listed todo held s K:=by
 intro hsel hc M F N a w hr;exact iZ (PostN.ext ((Ext.refl M F N w s.σ).sub h)) (fun _ _ h=>h) _ _ _ _ (hK hsel hc M F N a w ⟨hr.size,hr.defers,hr.fr,hr.st.sub h⟩)
theorem MZ{sz by_:Nat}{z:Value} [Tz P t sz by_ z] {r off:Nat}{v:AV}(h:aev ⟨fr,σ⟩ x=some (.ptr r off))(hv:aev ⟨fr,σ⟩ y=some v)(hc:v.cells.all AV.cell=true)(hl:v.cells.length=sz)(hs:SPut σ r off v.cells σ')
  (hK:RS P n ops rest ⟨fr,σ'⟩ K):RS P n ops (⟨none,.store t x y,ty,pos,af,none⟩::rest) ⟨fr,σ⟩ K:=by
 obtain⟨bt,cs,cs',h1,h2⟩:=hs.set;obtain⟨k1,k2⟩:=h1.eq;refine fW (xA h h2.get hv hc hl (by omega) ?_);refine AI (fun p hp=> ?_) hK;rw[hl]at k2;rw[←k2];exact h2.sub p hp
theorem sto{sz1 by_:Nat}{z:Value} [Tz P t sz1 by_ z] {r i off:Nat}{et:TypeId}{sz:Nat}{es es':List (List AV)}{e e':List AV}{v:AV}(h:aev ⟨fr,σ⟩ x=some (.ow r i off))(hv:aev ⟨fr,σ⟩ y=some v)(hc:v.cells.all AV.cell=true)(hl:v.cells.length=sz1)
  (hs:SSet σ r (.arr et sz es) r (.arr et sz es') σ') (he:es[i]? =some e) (hp:Put e off v.cells e') (he':es'=es.set i e') (hK:RS P n ops rest ⟨fr,σ'⟩ K):RS P n ops (⟨none,.store t x y,ty,pos,af,none⟩::rest) ⟨fr,σ⟩ K:=by
 obtain⟨k1,k2⟩:=hp.eq;refine fW (uQ h hs.get he (by omega) hv hc hl ?_);refine AI (fun p hp=> ?_) hK;rw[hl]at k2;rw[←k2,←he'];exact hs.sub p hp
theorem bs{e:TypeId} [Ty P t (.slice e)] {sz by_:Nat}{zv:Value} [Tz P e sz by_ zv] {len:Nat}{parts:Array (Nat×Operand)}{vs:List AV}{es:List (List AV)}(hv:AEvs ⟨fr,σ⟩ (parts.toList.map (·.2)) vs)(hp:parts.toList=rD 0 (parts.toList.map (·.2)))(hlen:(len==vs.length)=true)(h0:(decide (0<sz)&&decide (len*sz≤16777216))=true)
  (hc:(vs.all fun v=>v.cells.length==sz&&v.cells.all AV.cell)=true) (he:vs.map AV.cells=es) (hd:Nat.ble (d+1) n=true) (hK:∀r,Fresh r σ→RS P n ops rest ⟨(d,.own r 0 len)::fr,(r,.arr e sz es)::σ⟩ K):RS P n ops (⟨some d,.buildSlice t len parts,ty,pos,af,none⟩::rest) ⟨fr,σ⟩ K:=by
 subst he;exact fW (oP hp hv hlen h0 hc (cI hd) hK)
theorem mk{e:TypeId} [Ty P t (.slice e)] {sz by_:Nat}{zv:Value} [Tz P e sz by_ zv] {k k':IntKind}{m:Int}{l:Nat}{z:List AV}(hl:aev ⟨fr,σ⟩ x=some (.int k m))(hc:aev ⟨fr,σ⟩ y=some (.int k' m))(hm:m=(l:Int))(h0:(decide (0<sz)&&(zv.cells.size==sz)&&(zv.cells.toList.map cV).all AV.cell)=true)
  (hby:by_*l≤281474976710656) (hml:l≤maxLen) (hz:zv.cells.toList.map cV=z) (hd:Nat.ble (d+1) n=true) (hK:∀r,Fresh r σ→RS P n ops rest ⟨(d,.own r 0 l)::fr,(r,.arr e sz (List.replicate l z))::σ⟩ K):RS P n ops (⟨some d,.makeSlice t x y,ty,pos,af,none⟩::rest) ⟨fr,σ⟩ K:=by
 subst hz;exact fW (NH hl hc hm h0 hby hml (cI hd) hK)
theorem ap{e:TypeId} [Ty P t (.slice e)] {sz by_:Nat}{zv:Value} [Tz P e sz by_ zv] {r len len':Nat}{es ys es':List (List AV)}(hz:zv.cells.size=sz)(hb:aev ⟨fr,σ⟩ x=some (.own r 0 len))(hg:fZ σ r=some (.arr e sz es))(hlen:len=es.length)(hy:Src ⟨fr,σ⟩ y sz ys)
  (he:es++ys=es') (hl':len'=len+ys.length) (hmax:len'≤maxLen) (hby:len'*by_≤140737488355328) (hd:Nat.ble (d+1) n=true)
  (hK:∀r',Fresh r' (dS [r] σ)→∃σ',SSet σ r (.arr e sz es) r' (.arr e sz es') σ'∧RS P n ops rest ⟨(d,.own r' 0 len')::fr,σ'⟩ K):RS P n ops (⟨some d,.call { callee:=.builtin .append,args:=#[x,y],argTypes:=#[t,t] },ty,pos,af,none⟩::rest) ⟨fr,σ⟩ K:=by
 subst he hl';refine fW (pT hz hb hg (by omega) hy hmax hby (cI hd) fun r' hf=> ?_);obtain⟨σ',hs,hK⟩:=hK r' hf;rw[hlen,List.take_length];refine AI (fun p hp=>hs.sub p hp) ?_;rw[←hlen];exact hK
theorem cp{e tS:TypeId} [Ty P t (.slice e)] {by_:Nat}{zv:Value} [Tz P e 1 by_ zv] {r off len m:Nat}{et:TypeId}{es ys es':List (List AV)}(hb:aev ⟨fr,σ⟩ x=some (.own r off len))(hs:SSet σ r (.arr et 1 es) r (.arr et 1 es') σ')(hle:off+len≤es.length)(hy:Src ⟨fr,σ⟩ y 1 ys)(hm:m=min ys.length len)
  (he:es'=es.take off++ys.take m++es.drop (off+m)) (hd:Nat.ble (d+1) n=true) (hK:RS P n ops rest ⟨(d,.int .i64 m)::fr,σ'⟩ K):RS P n ops (⟨some d,.call { callee:=.builtin .copy,args:=#[x,y],argTypes:=#[t,tS] },ty,pos,af,none⟩::rest) ⟨fr,σ⟩ K:=by
 subst he;exact fW (NJ hb hs.get hle hy hm (cI hd) (AI (s:=⟨_,_⟩) (fun p hp=>hs.sub p hp) hK))
theorem pu{f:FuncId}{xs:List Operand}{ats:Array TypeId}{args:List AV}{v:AV}(ts:List Nat)(hf:∀args w,(callFunc f args).run P w=.ok (.enter f args) w)(h:SCall P f args [] (fun x σ'=>x=v∧σ'=[]))(hd:Nat.ble (d+1) n=true)
  (hargs:ArgsIf ⟨fr,σ⟩ true ts xs args) (hno:NoF v) (hK:RS P n ops rest ⟨(d,v)::fr,σ⟩ K):RS P n ops (⟨some d,.call { callee:=.value (.func f),args:=xs.toArray,argTypes:=ats },ty,pos,af,none⟩::rest) ⟨fr,σ⟩ K:=aCO ts hf h (cI hd) hargs hno hK
theorem vX{f:FuncId}{j dj:Nat}{want b:Bool}{xs:List Operand}{ats:Array TypeId}{args:List AV}{v:AV}(ts:List Nat)(hj:(ops[j]?).bind (·.dst)=some dj)(hb:dD fr dj=some (.bool b))(hf:∀args w,(callFunc f args).run P w=.ok (.enter f args) w)
  (h:(b==want)=true→SCall P f args [] (fun x σ'=>x=v∧σ'=[])) (hd:Nat.ble (d+1) n=true) (hargs:ArgsIf ⟨fr,σ⟩ (b==want) ts xs args) (hno:NoF v) (hK:RS P n ops rest ⟨(d,.when (b==want) v)::fr,σ⟩ K):
  RS P n ops (⟨some d,.call { callee:=.value (.func f),args:=xs.toArray,argTypes:=ats },ty,pos,af,some (j,want)⟩::rest) ⟨fr,σ⟩ K:=GZ ts hj hb hf h (cI hd) hargs hno hK
theorem ne{e:TypeId} [Ty P t (.slice e)] {sz:Nat}{es:List (List AV)}{k:Rk}(h:aev ⟨fr,σ⟩ x=some (.ro sz es k))(hy:y=.const (.slice none 0 0))(hd:Nat.ble (d+1) n=true)(hK:∀b,(b=true→es=[])→(k=.nil→b=true)→RS P n ops rest ⟨(d,.bool b)::fr,σ⟩ K):
  RS P n ops (⟨some d,.binOp .eql t x y t',ty,pos,af,none⟩::rest) ⟨fr,σ⟩ K:=WR h hy (cI hd) hK
theorem cl{f:FuncId}{xs:List Operand}{ats:Array TypeId}{args:List AV}{R:AV→dC→Prop}(ts:List Nat)(hf:∀args w,(callFunc f args).run P w=.ok (.enter f args) w)(h:SCall P f args [] R)(hd:Nat.ble (d+1) n=true)
  (hargs:ArgsBor ⟨fr,σ⟩ ts xs args) (hno:∀x σ',R x σ'→NoF x∧∀p∈σ',ENoF p.2) (hK:∀x σ',R x σ'→(∀p∈σ',Fresh p.1 σ)→RS P n ops rest ⟨(d,x)::fr,σ'++σ⟩ K):
  RS P n ops (⟨some d,.call { callee:=.value (.func f),args:=xs.toArray,argTypes:=ats },ty,pos,af,none⟩::rest) ⟨fr,σ⟩ K:=fW (qU ts hf h (cI hd) hargs hno hK)
theorem cw{f:FuncId}{xs:List Operand}{ats:Array TypeId}{args:List AV}{R:AV→dC→Prop}(σ1:dC)(hf:∀args w,(callFunc f args).run P w=.ok (.enter f args) w)(h:SCall P f args σ1 R)(hd:Nat.ble (d+1) n=true)
  (hargs:ArgsLe ⟨fr,σ⟩ xs args) (hsub:∀p∈σ1,p∈σ) (hK:∀x σ',R x σ'→(∀p∈σ',(∃q∈σ1,q.1=p.1)∨Fresh p.1 σ)→RS P n ops rest ⟨(d,x)::fr,σ'++dS (σ1.map (·.1)) σ⟩ K):
  RS P n ops (⟨some d,.call { callee:=.value (.func f),args:=xs.toArray,argTypes:=ats },ty,pos,af,none⟩::rest) ⟨fr,σ⟩ K:=fW (rC hf h (cI hd) hargs hsub hK)
theorem fz{i q off len sz:Nat}{et:TypeId}{es es':List (List AV)}(hx:dD fr i=some (.own q off len))(hd:SDel σ q (.arr et sz es) σ')(hle:off+len≤es.length)(he:(es.drop off).take len=es')(hK:RS P n ops rest ⟨(i,.ro sz es' .any)::fr,σ'⟩ K):RS P n ops rest ⟨fr,σ⟩ K:=
 iR (aF1 hx hd hle he) hK
theorem gy{dst:Option Nat}{s:ASt}{j dj:Nat}{want:Bool}(hj:(ops[j]?).bind (·.dst)=some dj)(hb:dD s.fr dj=some (.bool want))(h:RS P n (ops) (⟨dst,op,ty,pos,af,none⟩::rest) s K):RS P n ops (⟨dst,op,ty,pos,af,some (j,want)⟩::rest) s K:=by
 intro M F N a w hr;have hw:=nN (o:=⟨dst,op,ty,pos,af,some (j,want)⟩) hr rfl hj hb;have h1:=h M F N a w hr;unfold wpList at h1⊢;rw[hw,if_pos (by cases want<;>rfl)];rw[if_pos (by rfl)]at h1;exact h1
variable {listed : Array Bool} {todo : List (Nat × Bool)} {held : List (Nat × List Nat)} {i : Nat}
theorem fP{v:AV}{rs:List Nat}(hi:ops[i]? =some ⟨some d,op,ty,pos,af,none⟩)(h:Lop P op ty ⟨fr,σ⟩ true v rs)(hd:Nat.ble (d+1) n=true)(hK:RD P n ops (listed.setIfInBounds i true) todo ((i,rs)::held) ⟨(d,v)::fr,σ⟩ K):
  RD P n ops listed ((i,true)::todo) held ⟨fr,σ⟩ K:=aAb hi h (cI hd) hK
theorem fQ{j dj:Nat}{want b:Bool}{v:AV}{rs:List Nat}(hi:ops[i]? =some ⟨some d,op,ty,pos,af,some (j,want)⟩)(hj:(ops[j]?).bind (·.dst)=some dj)(hb:dD fr dj=some (.bool b))(h:Lop P op ty ⟨fr,σ⟩ (b==want) v rs)(hd:Nat.ble (d+1) n=true)
  (hK:RD P n ops (listed.setIfInBounds i true) todo ((i,rs)::held) ⟨(d,.when (b==want) v)::fr,σ⟩ K):RD P n ops listed ((i,true)::todo) held ⟨fr,σ⟩ K:=NE hi hj hb h (cI hd) hK
theorem iS{j dj:Nat}{want b c0:Bool}{v:AV}{rs:List Nat}(hi:ops[i]? =some ⟨some d,op,ty,pos,af,some (j,want)⟩)(hj:(ops[j]?).bind (·.dst)=some dj)(hb:dD fr dj=some (.when c0 (.bool b)))(h:Lop P op ty ⟨fr,σ⟩ (c0&&(b==want)) v rs)(hd:Nat.ble (d+1) n=true)
  (hK:RD P n ops (listed.setIfInBounds i true) todo ((i,rs)::held) ⟨(d,.when (c0&&(b==want)) v)::fr,σ⟩ K):RD P n ops listed ((i,true)::todo) held ⟨fr,σ⟩ K:=GW hi hj hb h (cI hd) hK
theorem nO{j dj:Nat}{want b:Bool}(hi:ops[i]? =some ⟨some d,op,ty,pos,af,some (j,want)⟩)(hj:(ops[j]?).bind (·.dst)=some dj)(hb:dD fr dj=some (.bool b))(hne:(b==want)=false)(hd:Nat.ble (d+1) n=true)
  (hK:RD P n ops (listed.setIfInBounds i true) todo ((i,[])::held) ⟨(d,.when false (.bool false))::fr,σ⟩ K):RD P n ops listed ((i,true)::todo) held ⟨fr,σ⟩ K:=by
 refine NE (v:=.bool false) (rs:=[]) hi hj hb ?_ (cI hd) ?_
 ·rw[hne];exact bR
 ·rw[hne];exact hK
theorem de{ks:List Nat}{fr':Fr}(h:KeepIs fr ks fr')(hK:K ⟨fr',σ⟩):RD P n ops listed [] held ⟨fr,σ⟩ (wZ ks K):=aFY h rfl hK
theorem dbx{v:AV}{cs:List AV}(hi:ops[i]? =some ⟨some d,.box t x,ty,pos,af,none⟩)(h:aev ⟨fr,σ⟩ x=some v)(hc:v.cells.all AV.cell=true)(hv:v.cells=cs)(hd:Nat.ble (d+1) n=true)(hK:∀r,Fresh r σ→RD P n ops (listed.setIfInBounds i true) todo held ⟨(d,.ptr r 0)::fr,(r,.box t cs)::σ⟩ K):
  RD P n ops listed ((i,false)::todo) held ⟨fr,σ⟩ K:=by
 subst hv;exact uR hi (UA h hc (cI hd) hK)
theorem dal{sz by_:Nat}{z:Value}{cs:List AV}(hi:ops[i]? =some ⟨some d,.alloc t,ty,pos,af,none⟩)(i1:Tz P t sz by_ z)(hd:Nat.ble (d+1) n=true)(hz:z.cells.toList.map cV=cs)(hK:∀r,Fresh r σ→RD P n ops (listed.setIfInBounds i true) todo held ⟨(d,.ptr r 0)::fr,(r,.box t cs)::σ⟩ K):
  RD P n ops listed ((i,false)::todo) held ⟨fr,σ⟩ K:=by
 subst hz;exact uR hi (IM (cI hd) hK)
theorem aKt{sz by_:Nat}{z:Value}{r off:Nat}{v:AV}(hi:ops[i]? =some ⟨none,.store t x y,ty,pos,af,none⟩)(i1:Tz P t sz by_ z)(h:aev ⟨fr,σ⟩ x=some (.ptr r off))(hv:aev ⟨fr,σ⟩ y=some v)(hc:v.cells.all AV.cell=true)(hl:v.cells.length=sz)(hs:SPut σ r off v.cells σ')
  (hb:HB ops i (σ.map (·.1)) [r] held) (hK:RD P n ops (listed.setIfInBounds i true) todo held ⟨fr,σ'⟩ K):RD P n ops listed ((i,false)::todo) held ⟨fr,σ⟩ K:=by
 obtain⟨bt,cs,cs',h1,h2⟩:=hs.set;obtain⟨k1,k2⟩:=h1.eq;refine yP hi (xA h h2.get hv hc hl (by omega) ?_) (fun q hq=> ?_) hb
 ·refine DQ (fun p hp=> ?_) hK;rw[hl]at k2;rw[←k2];exact h2.sub p hp
 ·obtain rfl:=List.mem_singleton.1 hq;exact List.mem_map.2 ⟨_,bV h2.get,rfl⟩
theorem aCP{sz1 by_:Nat}{z:Value}{r j off:Nat}{et:TypeId}{sz:Nat}{es es':List (List AV)}{e e':List AV}{v:AV}(hi:ops[i]? =some ⟨none,.store t x y,ty,pos,af,none⟩)(i1:Tz P t sz1 by_ z)(h:aev ⟨fr,σ⟩ x=some (.ow r j off))(hv:aev ⟨fr,σ⟩ y=some v)(hc:v.cells.all AV.cell=true)(hl:v.cells.length=sz1)
  (hs:SSet σ r (.arr et sz es) r (.arr et sz es') σ') (he:es[j]? =some e) (hp:Put e off v.cells e') (he':es'=es.set j e') (hb:HB ops i (σ.map (·.1)) [r] held) (hK:RD P n ops (listed.setIfInBounds i true) todo held ⟨fr,σ'⟩ K):RD P n ops listed ((i,false)::todo) held ⟨fr,σ⟩ K:=by
 obtain⟨k1,k2⟩:=hp.eq;refine yP hi (uQ h hs.get he (by omega) hv hc hl ?_) (fun q hq=> ?_) hb
 ·refine DQ (fun p hp=> ?_) hK;rw[hl]at k2;rw[←k2,←he'];exact hs.sub p hp
 ·obtain rfl:=List.mem_singleton.1 hq;exact List.mem_map.2 ⟨_,bV hs.get,rfl⟩
theorem dbs{e:TypeId}{sz by_:Nat}{zv:Value}{len:Nat}{parts:Array (Nat×Operand)}{vs:List AV}{es:List (List AV)}(hi:ops[i]? =some ⟨some d,.buildSlice t len parts,ty,pos,af,none⟩)(i1:Ty P t (.slice e))(i2:Tz P e sz by_ zv)(hv:AEvs ⟨fr,σ⟩ (parts.toList.map (·.2)) vs)(hp:parts.toList=rD 0 (parts.toList.map (·.2)))(hlen:(len==vs.length)=true)(h0:(decide (0<sz)&&decide (len*sz≤16777216))=true)
  (hc:(vs.all fun v=>v.cells.length==sz&&v.cells.all AV.cell)=true) (he:vs.map AV.cells=es) (hd:Nat.ble (d+1) n=true) (hK:∀r,Fresh r σ→RD P n ops (listed.setIfInBounds i true) todo held ⟨(d,.own r 0 len)::fr,(r,.arr e sz es)::σ⟩ K):RD P n ops listed ((i,false)::todo) held ⟨fr,σ⟩ K:=by
 subst he;exact uR hi (oP hp hv hlen h0 hc (cI hd) hK)
theorem dap{e:TypeId}{sz by_:Nat}{zv:Value}{r len len':Nat}{es ys es':List (List AV)}(hi:ops[i]? =some ⟨some d,.call { callee:=.builtin .append,args:=#[x,y],argTypes:=#[t,t] },ty,pos,af,none⟩)(i1:Ty P t (.slice e))(i2:Tz P e sz by_ zv)(hz:zv.cells.size=sz)(hx:aev ⟨fr,σ⟩ x=some (.own r 0 len))(hg:fZ σ r=some (.arr e sz es))(hlen:len=es.length)(hy:Src ⟨fr,σ⟩ y sz ys)
  (he:es++ys=es') (hl':len'=len+ys.length) (hmax:len'≤maxLen) (hby:len'*by_≤140737488355328) (hd:Nat.ble (d+1) n=true) (hb:HB ops i (σ.map (·.1)) [r] held)
  (hK:∀r',Fresh r' (dS [r] σ)→∃σ',SSet σ r (.arr e sz es) r' (.arr e sz es') σ'∧RD P n ops (listed.setIfInBounds i true) todo held ⟨(d,.own r' 0 len')::fr,σ'⟩ K):RD P n ops listed ((i,false)::todo) held ⟨fr,σ⟩ K:=by
 subst he hl';refine yP hi (pT hz hx hg (by omega) hy hmax hby (cI hd) fun r' hf=> ?_) (fun q hq=> ?_) hb
 ·obtain⟨σ',hs,hK⟩:=hK r' hf;rw[hlen,List.take_length];refine DQ (fun p hp=>hs.sub p hp) ?_;rw[←hlen];exact hK
 ·obtain rfl:=List.mem_singleton.1 hq;exact List.mem_map.2 ⟨_,bV hg,rfl⟩
theorem dpu{f:FuncId}{xs:List Operand}{ats:Array TypeId}{args:List AV}{v:AV}(ts:List Nat)(hi:ops[i]? =some ⟨some d,.call { callee:=.value (.func f),args:=xs.toArray,argTypes:=ats },ty,pos,af,none⟩)(hf:∀args w,(callFunc f args).run P w=.ok (.enter f args) w)(h:SCall P f args [] (fun x σ'=>x=v∧σ'=[]))(hd:Nat.ble (d+1) n=true)
  (hargs:ArgsIf ⟨fr,σ⟩ true ts xs args) (hno:NoF v) (hK:RD P n ops (listed.setIfInBounds i true) todo held ⟨(d,v)::fr,σ⟩ K):RD P n ops listed ((i,false)::todo) held ⟨fr,σ⟩ K:=uR hi (NL ts hf h (cI hd) hargs hno hK)
theorem aKu{f:FuncId}{j dj:Nat}{want b:Bool}{xs:List Operand}{ats:Array TypeId}{args:List AV}{v:AV}(ts:List Nat)(hi:ops[i]? =some ⟨some d,.call { callee:=.value (.func f),args:=xs.toArray,argTypes:=ats },ty,pos,af,some (j,want)⟩)(hj:(ops[j]?).bind (·.dst)=some dj)(hb:dD fr dj=some (.bool b))(hf:∀args w,(callFunc f args).run P w=.ok (.enter f args) w)
  (h:(b==want)=true→SCall P f args [] (fun x σ'=>x=v∧σ'=[])) (hd:Nat.ble (d+1) n=true) (hargs:ArgsIf ⟨fr,σ⟩ (b==want) ts xs args) (hno:NoF v) (hK:RD P n ops (listed.setIfInBounds i true) todo held ⟨(d,.when (b==want) v)::fr,σ⟩ K):
  RD P n ops listed ((i,false)::todo) held ⟨fr,σ⟩ K:=HA ts hi hj hb hf h (cI hd) hargs hno hK
theorem dcl{f:FuncId}{xs:List Operand}{ats:Array TypeId}{args:List AV}{R:AV→dC→Prop}(ts:List Nat)(hi:ops[i]? =some ⟨some d,.call { callee:=.value (.func f),args:=xs.toArray,argTypes:=ats },ty,pos,af,none⟩)(hf:∀args w,(callFunc f args).run P w=.ok (.enter f args) w)(h:SCall P f args [] R)(hd:Nat.ble (d+1) n=true)
  (hargs:ArgsBor ⟨fr,σ⟩ ts xs args) (hno:∀x σ',R x σ'→NoF x∧∀p∈σ',ENoF p.2) (hK:∀x σ',R x σ'→(∀p∈σ',Fresh p.1 σ)→RD P n ops (listed.setIfInBounds i true) todo held ⟨(d,x)::fr,σ'++σ⟩ K):
  RD P n ops listed ((i,false)::todo) held ⟨fr,σ⟩ K:=uR hi (qU ts hf h (cI hd) hargs hno hK)
theorem pD{f:FuncId}{xs:List Operand}{ats:Array TypeId}{args:List AV}{R:AV→dC→Prop}(σ1:dC)(hi:ops[i]? =some ⟨some d,.call { callee:=.value (.func f),args:=xs.toArray,argTypes:=ats },ty,pos,af,none⟩)(hf:∀args w,(callFunc f args).run P w=.ok (.enter f args) w)(h:SCall P f args σ1 R)(hd:Nat.ble (d+1) n=true)
  (hargs:ArgsLe ⟨fr,σ⟩ xs args) (hsub:∀p∈σ1,p∈σ) (hb:HB ops i (σ.map (·.1)) (σ1.map (·.1)) held) (hK:∀x σ',R x σ'→(∀p∈σ',(∃q∈σ1,q.1=p.1)∨Fresh p.1 σ)→RD P n ops (listed.setIfInBounds i true) todo held ⟨(d,x)::fr,σ'++dS (σ1.map (·.1)) σ⟩ K):
  RD P n ops listed ((i,false)::todo) held ⟨fr,σ⟩ K:=yP hi (rC hf h (cI hd) hargs hsub hK) (fun r hr=>by obtain⟨p,hp,rfl⟩:=List.mem_map.1 hr;exact List.mem_map.2 ⟨p,hsub p hp,rfl⟩) hb
theorem dcp{e tS:TypeId}{by_:Nat}{zv:Value}{r off len m:Nat}{et:TypeId}{es ys es':List (List AV)}(hi:ops[i]? =some ⟨some d,.call { callee:=.builtin .copy,args:=#[x,y],argTypes:=#[t,tS] },ty,pos,af,none⟩)(i1:Ty P t (.slice e))(i2:Tz P e 1 by_ zv)(hx:aev ⟨fr,σ⟩ x=some (.own r off len))(hs:SSet σ r (.arr et 1 es) r (.arr et 1 es') σ')(hle:off+len≤es.length)(hy:Src ⟨fr,σ⟩ y 1 ys)(hm:m=min ys.length len)
  (he:es'=es.take off++ys.take m++es.drop (off+m)) (hd:Nat.ble (d+1) n=true) (hb:HB ops i (σ.map (·.1)) [r] held) (hK:RD P n ops (listed.setIfInBounds i true) todo held ⟨(d,.int .i64 m)::fr,σ'⟩ K):RD P n ops listed ((i,false)::todo) held ⟨fr,σ⟩ K:=by
 subst he;refine yP hi (NJ hx hs.get hle hy hm (cI hd) (DQ (s:=⟨_,_⟩) (fun p hp=>hs.sub p hp) hK)) (fun q hq=> ?_) hb;obtain rfl:=List.mem_singleton.1 hq;exact List.mem_map.2 ⟨_,bV hs.get,rfl⟩
end
theorem SR.retold {M:Mp}{F:Nat→Prop}{N:Nat}{w:World}{σ σ':dC}(h:SR M F N w σ)(hs:∀p∈σ',(∃x,(p.1,x)∈σ)∧ER M F w p.1 p.2):SR M F N w σ':=by
 refine⟨fun p hp=>(hs p hp).2,fun p hp q hq g h1 h2=> ?_, ?_,h.flt,h.fresh⟩
 ·obtain⟨x,hx⟩:=(hs p hp).1;obtain⟨y,hy⟩:=(hs q hq).1;exact h.inj (p.1,x) hx (q.1,y) hy g h1 h2
 ·rintro g ⟨p,hp,hg⟩;obtain⟨x,hx⟩:=(hs p hp).1;exact h.nof g ⟨_,hx,hg⟩
theorem Ext.retold {M:Mp}{F:Nat→Prop}{N:Nat}{w:World}{σ σ':dC}(hs:∀p∈σ',∃x,(p.1,x)∈σ):Ext M F N w σ M F N w σ':=by
 refine⟨fun _ _ h=>h,fun _ h=>h,Nat.le_refl _,Only.refl _ _, ?_,fun _ h=>.inl h, ?_⟩
 ·rintro g ⟨p,hp,hg⟩ _;obtain⟨x,hx⟩:=hs p hp;exact⟨_,hx,hg⟩
 ·intro p hp _;obtain⟨x,hx⟩:=hs p hp;exact⟨_,hx,rfl⟩
theorem cH{P:Program}{n:Nat}{ks:List Nat}{s:ASt}{c:Code}{Q:Exit→ASt→Prop}(r off:Nat)(e:TypeId)(sz:Nat)(h0:0<sz){bt:TypeId}{cs:List AV}{z:Nat}{k:Rk}(hg:fZ s.σ r=some (.box bt cs))(hx:cs[off]? =some (.ro z [] k))(hk:k≠ .any)
  (h:∀q,Fresh q s.σ→∃σ',SSet s.σ r (.box bt cs) r (.box bt (cs.set off (.own q 0 0))) σ'∧SW P n ks c ⟨s.fr,(q,.arr e sz [])::σ'⟩ Q):SW P n ks c s Q:=by
 intro M F N a w hr;have hE:ER (fN M N .virt) F w N (.arr e sz []):=⟨h0,fun x hx=>by simp at hx,.inl ⟨bW _,rfl⟩⟩
 obtain⟨r1,e1,n1⟩:=hr.new_ (w':=w) .virt (.arr e sz []) (fun _ _=>rfl) ⟨rfl,rfl,rfl⟩ (Nat.le_refl _) (fun g hg=>by simp[bO,bW]at hg) hE;obtain⟨σ',hs,hK⟩:=h N n1;have hmem:∀p∈(N,Ent.arr e sz [])::σ',∃x,(p.1,x)∈(N,Ent.arr e sz [])::s.σ:=by
  intro p hp;rcases List.mem_cons.1 hp with rfl|hp
  ·exact⟨_,List.mem_cons_self⟩
  ·rcases List.mem_cons.1 (hs.sub p hp)with rfl|hp
   ·exact⟨_,List.mem_cons_of_mem _ (bV hg)⟩
   ·exact⟨_,List.mem_cons_of_mem _ (fM hp).1⟩
 have hr2:Rel (fN M N .virt) F (N+1) n ⟨s.fr,(N,.arr e sz [])::σ'⟩ a w:=by
  refine⟨r1.size,r1.defers,r1.fr,r1.st.retold fun p hp=>⟨hmem p hp, ?_⟩⟩;rcases List.mem_cons.1 hp with rfl|hp
  ·exact hE
  ·rcases List.mem_cons.1 (hs.sub p hp)with rfl|hp
   ·obtain⟨g,vs,h1,h2,h3,h4⟩:=r1.st.ent _ (List.mem_cons_of_mem _ (bV hg));refine⟨g,vs,by simpa using h1,h2,by simpa using h3,fun j b u hj hu=> ?_⟩;by_cases hjo:off=j
    ·subst hjo;have hlt:off<cs.length:=(List.getElem?_eq_some_iff.1 hx).1;rw[List.getElem?_set_self hlt]at hj;obtain rfl:=Option.some.inj hj;have hv:=h4 off _ u hx hu;cases hv with
     |@ro _ _ b o _ cap us hb hs hc hrr hle hm hf hn=>
      cases k with
      |nil=>exact absurd rfl hn
      |full=>have:=hf rfl;simp at this;subst this;exact .own0
      |any=>exact absurd rfl hk
     |ro0 hm hA hf hn=>
      cases k with
      |nil=>obtain rfl:=hn rfl;obtain rfl:=hA rfl;exact .own0
      |full=>obtain rfl:=hf rfl;exact .own0
      |any=>exact absurd rfl hk
    ·rw[List.getElem?_set_ne hjo]at hj;exact h4 j b u hj hu
   ·exact r1.st.ent p (List.mem_cons_of_mem _ (fM hp).1)
 refine wp_mono (hK _ F _ a w hr2) ?_;rintro e' a' w' ⟨M',F',N',s2,h1,h2,h3⟩;exact⟨M',F',N',s2,h1,(e1.trans (Ext.retold hmem)).trans h2,h3⟩
section
variable {P : Program} {n : Nat} {ks : List Nat} {s : ASt} {Q : Exit → ASt → Prop}
theorem cs{x y:Code}(h:SW P n ks x s (fF (fun s'=>SW P n ks y s' Q) Q)):SW P n ks (.seq x y) s Q:=KG h
theorem cb{id:Nat}{c:Code}(h:SW P n ks c s (eB id Q)):SW P n ks (.block id c) s Q:=ZX h
theorem ck(h:Q .normal s):SW P n ks .skip s Q:=KF h
theorem cr(h:Q .ret s):SW P n ks .ret s Q:=aFU h
theorem cx{id:Nat}(h:Q (.exit id) s):SW P n ks (.exit id) s Q:=aCH h
theorem lp{β:Type}{c:Code}(st:β→ASt)(ok:β→Prop)(ms:β→Nat)(b0:β)(h0:SGo s (st b0))(hok:ok b0)(round:∀b,ok b→SW P n ks c (st b) (fF (fun s2=>∃b',ok b'∧ms b'<ms b∧SGo s2 (st b')) Q)):SW P n ks (.loop c) s Q:=
 aCJ (fun m s=>∃b,ok b∧ms b=m∧st b=s) (ms b0) ⟨_,h0,b0,hok,rfl,rfl⟩ (by
  rintro m s' ⟨b,hb,rfl,rfl⟩;refine vV (round b hb) fun e s2 h=> ?_
  cases e<;>first|exact h|(obtain⟨b',h1,h2,h3⟩:=h;exact⟨_,_,h3,h2,b',h1,rfl,rfl⟩))
theorem sj{β:Type}{x y:Code}(st:β→ASt)(ok:β→Prop)(hx:SW P n ks x s (fF (fun s2=>∃b,ok b∧SGo s2 (st b)) Q))(hy:∀b,ok b→SW P n ks y (st b) Q):SW P n ks (.seq x y) s Q:=
 KG (vV hx fun e s2 h=>by cases e<;>first|exact h|(obtain⟨b,h1,h2⟩:=h;exact dZ h2 (hy b h1)))
theorem ct{c:Operand}{x y:Code}(hc:aev s c=some (.bool true))(h:SW P n ks x s Q):SW P n ks (.cond c x y) s Q:=KL hc h
theorem cf{c:Operand}{x y:Code}(hc:aev s c=some (.bool false))(h:SW P n ks y s Q):SW P n ks (.cond c x y) s Q:=GY hc h
end
theorem an{K:ASt→Prop}{Q:Exit→ASt→Prop}{s:ASt}(h:K s):fF K Q .normal s:=h
theorem ae{K:ASt→Prop}{Q:Exit→ASt→Prop}{s:ASt}{i:Nat}(h:Q (.exit i) s):fF K Q (.exit i) s:=h
theorem ar{K:ASt→Prop}{Q:Exit→ASt→Prop}{s:ASt}(h:Q .ret s):fF K Q .ret s:=h
theorem bn{i:Nat}{Q:Exit→ASt→Prop}{s:ASt}(h:Q .normal s):eB i Q .normal s:=h
theorem bh{i:Nat}{Q:Exit→ASt→Prop}{s:ASt}(h:Q .normal s):eB i Q (.exit i) s:=RO h
theorem be{i j:Nat}{Q:Exit→ASt→Prop}{s:ASt}(hne:(j==i)=false)(h:Q (.exit j) s):eB i Q (.exit j) s:=aAc hne h
theorem br{i:Nat}{Q:Exit→ASt→Prop}{s:ASt}(h:Q .ret s):eB i Q .ret s:=h
theorem NO{P:Program}{n:Nat}{ops:Array Oper}{rest:List Oper}{s:ASt}{K:ASt→Prop}(r off:Nat)(e:TypeId)(sz:Nat)(h0:0<sz){bt:TypeId}{cs:List AV}{z:Nat}{k:Rk}(hg:fZ s.σ r=some (.box bt cs))(hx:cs[off]? =some (.ro z [] k))(hk:k≠ .any)
  (h:∀q,Fresh q s.σ→∃σ',SSet s.σ r (.box bt cs) r (.box bt (cs.set off (.own q 0 0))) σ'∧RS P n ops rest ⟨s.fr,(q,.arr e sz [])::σ'⟩ K):RS P n ops rest s K:=by
 intro M F N a w hr;have hE:ER (fN M N .virt) F w N (.arr e sz []):=⟨h0,fun x hx=>by simp at hx,.inl ⟨bW _,rfl⟩⟩
 obtain⟨r1,e1,n1⟩:=hr.new_ (w':=w) .virt (.arr e sz []) (fun _ _=>rfl) ⟨rfl,rfl,rfl⟩ (Nat.le_refl _) (fun g hg=>by simp[bO,bW]at hg) hE;obtain⟨σ',hs,hK⟩:=h N n1;have hmem:∀p∈(N,Ent.arr e sz [])::σ',∃x,(p.1,x)∈(N,Ent.arr e sz [])::s.σ:=by
  intro p hp;rcases List.mem_cons.1 hp with rfl|hp
  ·exact⟨_,List.mem_cons_self⟩
  ·rcases List.mem_cons.1 (hs.sub p hp)with rfl|hp
   ·exact⟨_,List.mem_cons_of_mem _ (bV hg)⟩
   ·exact⟨_,List.mem_cons_of_mem _ (fM hp).1⟩
 have hr2:Rel (fN M N .virt) F (N+1) n ⟨s.fr,(N,.arr e sz [])::σ'⟩ a w:=by
  refine⟨r1.size,r1.defers,r1.fr,r1.st.retold fun p hp=>⟨hmem p hp, ?_⟩⟩;rcases List.mem_cons.1 hp with rfl|hp
  ·exact hE
  ·rcases List.mem_cons.1 (hs.sub p hp)with rfl|hp
   ·obtain⟨g,vs,h1,h2,h3,h4⟩:=r1.st.ent _ (List.mem_cons_of_mem _ (bV hg));refine⟨g,vs,by simpa using h1,h2,by simpa using h3,fun j b u hj hu=> ?_⟩;by_cases hjo:off=j
    ·subst hjo;have hlt:off<cs.length:=(List.getElem?_eq_some_iff.1 hx).1;rw[List.getElem?_set_self hlt]at hj;obtain rfl:=Option.some.inj hj;have hv:=h4 off _ u hx hu;cases hv with
     |@ro _ _ b o _ cap us hb hs hc hrr hle hm hf hn=>
      cases k with
      |nil=>exact absurd rfl hn
      |full=>have:=hf rfl;simp at this;subst this;exact .own0
      |any=>exact absurd rfl hk
     |ro0 hm hA hf hn=>
      cases k with
      |nil=>obtain rfl:=hn rfl;obtain rfl:=hA rfl;exact .own0
      |full=>obtain rfl:=hf rfl;exact .own0
      |any=>exact absurd rfl hk
    ·rw[List.getElem?_set_ne hjo]at hj;exact h4 j b u hj hu
   ·exact r1.st.ent p (List.mem_cons_of_mem _ (fM hp).1)
 exact iY (PostN.ext (e1.trans (Ext.retold hmem))) (hK _ F _ a w hr2)
theorem sH{e:Nat}{σ1 σ:dC}(h:(∃q∈σ1,q.1=e)∨Fresh e σ):Fresh e (dS (σ1.map (·.1)) σ):=by
 intro p hp;obtain⟨h1,h2⟩:=fM hp;rcases h with⟨q,hq,rfl⟩|h
 ·exact fun e=>h2 (e▸List.mem_map.2 ⟨q,hq,rfl⟩)
 ·exact h p h1
theorem aF2{P:Program}{n:Nat}{ks:List Nat}{s:ASt}{c:Code}{Q:Exit→ASt→Prop}(r off d:Nat){bt e:TypeId}{cs:List AV}{sz o len:Nat}{es:List (List AV)}(hg:fZ s.σ r=some (.box bt cs))(hx:cs[off]? =some (.own d o len))(hd:fZ s.σ d=some (.arr e sz es))
  (h:∀q,Fresh q s.σ→∃σ1,SSet s.σ r (.box bt cs) r (.box bt (cs.set off (.own q o len))) σ1∧∃σ2,SSet σ1 d (.arr e sz es) q (.arr e sz es) σ2∧SW P n ks c ⟨s.fr,σ2⟩ Q):SW P n ks c s Q:=by
 intro M F N a w hr;have hmd:=bV hd;have hmr:=bV hg;obtain⟨b,hb⟩:∃b,M d=some b:=by
  cases hM:M d with
  |none=>exact absurd hM (hr.st.ent _ hmd).some
  |some b=>exact⟨b,rfl⟩
 have hblk:∀g,bO (fN M N b) N=some g→bO M d=some g:=fun g hg=>by
  simp only[bO,bW]at hg;simp only[bO,hb];exact hg
 have hE0:=hr.st.ent _ hmd;have hmm:∀q b',M q=some b'→fN M N b q=some b':=fun q b' hq=>oD hr.st.fresh b hq
 have hE:ER (fN M N b) F w N (.arr e sz es):=by
  obtain⟨k0,k1,k2⟩:=hE0;refine⟨k0,k1, ?_⟩;rcases k2 with⟨k2,k3⟩|⟨g,cc,vs,k2,k3,k4,k5,k6,k7⟩
  ·simp only at k2;exact .inl ⟨by rw[bW,←k2,hb],k3⟩
  ·simp only at k2;exact .inr ⟨g,cc,vs,by rw[bW,←k2,hb],k3,k4,k5,k6,fun i x j a u hi hj hu=>(k7 i x j a u hi hj hu).mono hmm (fun _ h=>h) (fun _ _=>rfl)⟩
 obtain⟨r1,e1,n1,-⟩:=hr.move_ hmd b (Only.refl _ w) (fun g hg=>.inl (hblk g hg)) hE;have hnN:Fresh N s.σ:=fun p hp=>by have:=hr.st.name hp;omega
 obtain⟨σ1,hs1,σ2,hs2,hK⟩:=h N hnN;have hmem:∀p∈σ2,p=(N,Ent.arr e sz es)∨p=(r,.box bt (cs.set off (.own N o len)))∨(p∈s.σ∧p.1≠d):=by
  intro p hp;rcases List.mem_cons.1 (hs2.sub p hp)with rfl|hp
  ·exact .inl rfl
  ·obtain⟨hp1,hp2⟩:=fM hp;rcases List.mem_cons.1 (hs1.sub p hp1)with rfl|hp3
   ·exact .inr (.inl rfl)
   ·exact .inr (.inr ⟨(fM hp3).1,by simpa using hp2⟩)
 have hrd:r≠d:=by
  rintro rfl;rw[hg]at hd;cases hd
 have hin:∀p∈σ2,∃x,(p.1,x)∈(N,Ent.arr e sz es)::dS [d] s.σ:=by
  intro p hp;rcases hmem p hp with rfl|rfl|⟨hp1,hp2⟩
  ·exact⟨_,List.mem_cons_self⟩
  ·refine⟨.box bt cs,List.mem_cons_of_mem _ ?_⟩;simp only[dS,List.mem_filter];exact⟨hmr,by simpa using hrd⟩
  ·refine⟨p.2,List.mem_cons_of_mem _ ?_⟩;simp only[dS,List.mem_filter];exact⟨hp1,by simpa using hp2⟩
 have hr2:Rel (fN M N b) F (N+1) n ⟨s.fr,σ2⟩ a w:=by
  refine⟨r1.size,r1.defers,r1.fr,r1.st.retold fun p hp=>⟨hin p hp, ?_⟩⟩;rcases hmem p hp with rfl|rfl|⟨hp1,hp2⟩
  ·exact hE
  ·obtain⟨g,vs,h1,h2,h3,h4⟩:=hr.st.ent _ hmr;refine⟨g,vs,by simpa using hmm _ _ h1,h2,by simpa using h3,fun j x u hj hu=> ?_⟩;by_cases hjo:off=j
   ·subst hjo;have hlt:off<cs.length:=(List.getElem?_eq_some_iff.1 hx).1;rw[List.getElem?_set_self hlt]at hj;obtain rfl:=Option.some.inj hj;have hv:=h4 off _ u hx hu;cases hv with
    |own hM hle hm=>exact .own (by rw[bW,←hM,hb]) hle hm
    |own0=>exact .own0
   ·rw[List.getElem?_set_ne hjo]at hj;exact(h4 j x u hj hu).mono hmm (fun _ h=>h) (fun _ _=>rfl)
  ·exact ER.mono hmm (fun _ h=>h) (fun _ _=>rfl) (fun _ _=>rfl) (hr.st.ent p hp1)
 refine wp_mono (hK _ F _ a w hr2) ?_;rintro e' a' w' ⟨M',F',N',s2,h1,h2,h3⟩;exact⟨M',F',N',s2,h1,(e1.trans (Ext.retold hin)).trans h2,h3⟩
theorem BK{P:Program}{n:Nat}{ops:Array Oper}{rest:List Oper}{fr:Fr}{σ:dC}{K:ASt→Prop}{ty:TypeId}{pos:String}{af:Array Edge}{f:FuncId}{d j dj:Nat}{want b c0:Bool}{xs:List Operand}{ats:Array TypeId}{args:List AV}{v:AV}(ts:List Nat)(hj:(ops[j]?).bind (·.dst)=some dj)(hb:dD fr dj=some (.when c0 (.bool b)))(hf:∀args w,(callFunc f args).run P w=.ok (.enter f args) w)
  (h:(c0&&(b==want))=true→SCall P f args [] (fun x σ'=>x=v∧σ'=[])) (hd:Nat.ble (d+1) n=true) (hargs:ArgsIf ⟨fr,σ⟩ (c0&&(b==want)) ts xs args) (hno:NoF v) (hK:RS P n ops rest ⟨(d,.when (c0&&(b==want)) v)::fr,σ⟩ K):
  RS P n ops (⟨some d,.call { callee:=.value (.func f),args:=xs.toArray,argTypes:=ats },ty,pos,af,some (j,want)⟩::rest) ⟨fr,σ⟩ K:=by
 intro M F N a w hr;refine wpList_step fun K' hK'=> ?_
 cases hc:c0 with
 |false=>
  have hy:yielded ops a.tmps j=none:=by
   have h0:=hr.fr dj _ hb;cases h0 with
   |when _ h0=>
    have h0:=h0 hc;unfold yielded;rw[hj];simp only[Option.bind_some];rcases hx:a.tmps[dj]? with _ |u
    ·rfl
    ·rw[Array.getD_eq_getD_getElem?,hx]at h0;simp only[Option.getD_some]at h0;subst h0;rfl
  rw[if_neg (by simp[Region.wanted,hy])];exact hK' _ _ (hK M F N _ w (hr.put (cI hd) (.when (fun h=>by simp[hc]at h) (fun _=>rfl))))
 |true=>
  have hw:=uN (o:=⟨some d,.call { callee:=.value (.func f),args:=xs.toArray,argTypes:=ats },ty,pos,af,some (j,want)⟩) hr rfl hj hb hc;rw[hw];by_cases hbw:(b==want)=true
  ·rw[if_pos hbw];refine rE ts hf h (by simp[hc,hbw]) hargs hno hr rfl fun M' N' w' u hr' he _ hv=> ?_
   exact hK' _ _ (iY (PostN.ext he) (hK M' F N' _ w' (hr'.put (cI hd) (.when (fun _=>hv) (fun h=>by rw[hc,hbw]at h;cases h)))))
  ·simp only[Bool.not_eq_true]at hbw;rw[if_neg (by rw[hbw];simp)];exact hK' _ _ (hK M F N _ w (hr.put (cI hd) (.when (fun h=>by simp[hbw]at h) (fun _=>rfl))))
theorem yQ{P:Program}{n:Nat}{ops:Array Oper}{listed:Array Bool}{todo:List (Nat×Bool)}{held:List (Nat×List Nat)}{s:ASt}{K:ASt→Prop}{op:Op}{ty:TypeId}{pos:String}{af:Array Edge}{i gj dj:Nat}{want:Bool}{dst:Option Nat}{fp:List Nat}(hi:ops[i]? =some ⟨dst,op,ty,pos,af,some (gj,want)⟩)(hj:(ops[gj]?).bind (·.dst)=some dj)(hb:dD s.fr dj=some (.bool want))(h:Hop P n op ty dst s fp fun s'=>RD P n ops (listed.setIfInBounds i true) todo held s' K)
  (hfp:fp=[]∨((∀r∈fp,r∈s.σ.map (·.1))∧∀r∈qT ops held i,r∈s.σ.map (·.1)∧r∉fp)):RD P n ops listed ((i,false)::todo) held s K:=by
 intro hsel hc M F N a w hr;obtain⟨hc1,hc3⟩:=vW hi hc;simp only[Bool.false_eq_true,if_false,beq_iff_eq]at hc1;refine⟨fun h0=>by rw[hc1]at h0;simp at h0,fun j hj'=> ?_⟩;rw[hc1]at hj';obtain rfl:j=i:=by simpa using hj'
 unfold wpOp;simp only[hi];rw[nN (o:=⟨dst,op,ty,pos,af,some (gj,want)⟩) hr rfl hj hb,if_pos (by cases want<;>rfl)];refine .inl (h M F N a w _ rfl rfl rfl hr _ _ fun M' F' N' a' w' s' hr' he ho hk=>⟨fun g hg hlt=> ?_, ?_⟩)
 ·rcases hg with hg|⟨r,hrh,hg⟩
  ·exact he.only.block g hlt (fun hB=>hr.st.nof g hB hg)
  ·rcases hfp with rfl|⟨hf1,hf2⟩
   ·exact ho.block g hlt (by simp)
   ·obtain⟨h1,h2⟩:=hf2 r hrh;obtain⟨p,hp,rfl⟩:=List.mem_map.1 h1;refine ho.block g hlt ?_;rintro⟨q,hq,hqg⟩;obtain⟨p2,hp2,rfl⟩:=List.mem_map.1 (hf1 q hq);exact h2 (by rw[hr.st.inj p hp p2 hp2 g hg hqg];exact hq)
 ·refine iZ (PostN.ext he) ?_ _ _ _ _ (hk hsel hc3 M' F' N' a' w' hr');rintro j g (hg|⟨r,hr,hg⟩)
  ·exact .inl (he.ff g hg)
  ·refine .inr ⟨r,hr, ?_⟩;unfold bO at hg⊢;cases hm:M r with
   |none=>rw[hm]at hg;cases hg
   |some b=>rw[hm]at hg;rw[he.mm _ _ hm];exact hg
theorem aCQ{P:Program}{n:Nat}{ops:Array Oper}{fr:Fr}{σ:dC}{K:ASt→Prop}{ty:TypeId}{pos:String}{af:Array Edge}{listed:Array Bool}{todo:List (Nat×Bool)}{held:List (Nat×List Nat)}{i d gj dj:Nat}{want:Bool}{f:FuncId}{xs:List Operand}{ats:Array TypeId}{args:List AV}{R:AV→dC→Prop}(σ1:dC)(hi:ops[i]? =some ⟨some d,.call { callee:=.value (.func f),args:=xs.toArray,argTypes:=ats },ty,pos,af,some (gj,want)⟩)(hj:(ops[gj]?).bind (·.dst)=some dj)(hb:dD fr dj=some (.bool want))(hf:∀args w,(callFunc f args).run P w=.ok (.enter f args) w)(h:SCall P f args σ1 R)(hd:Nat.ble (d+1) n=true)
  (hargs:ArgsLe ⟨fr,σ⟩ xs args) (hsub:∀p∈σ1,p∈σ) (hb2:HB ops i (σ.map (·.1)) (σ1.map (·.1)) held) (hK:∀x σ',R x σ'→(∀p∈σ',(∃q∈σ1,q.1=p.1)∨Fresh p.1 σ)→RD P n ops (listed.setIfInBounds i true) todo held ⟨(d,x)::fr,σ'++dS (σ1.map (·.1)) σ⟩ K):
  RD P n ops listed ((i,false)::todo) held ⟨fr,σ⟩ K:=yQ hi hj hb (rC hf h (cI hd) hargs hsub hK) (.inr ⟨fun r hr=>by obtain⟨p,hp,rfl⟩:=List.mem_map.1 hr;exact List.mem_map.2 ⟨p,hsub p hp,rfl⟩,hb2.held⟩)
def aG (n:Nat):List AV:=[.int .u8 n]
def dI (bs:List Nat):ByteArray:=⟨(bs.map UInt8.ofNat).toArray⟩
theorem BL(bs:List Nat):(dI bs).toList=bs.map UInt8.ofNat:=by
 rw[Go.ByteArray.toList_eq];simp[dI]
theorem RP(ns:List Nat):∀acc:ByteArray,(ns.map Int.ofNat).foldl (fun r n=>r.push (UInt8.ofNat n.toNat)) acc=⟨acc.data++(ns.map UInt8.ofNat).toArray⟩:=by
 induction ns with
 |nil=>intro acc;simp
 |cons n ns ih=>
  intro acc;rw[List.map_cons,List.foldl_cons,ih];simp[ByteArray.push]
theorem aCR(ns:List Nat):(ns.map Int.ofNat).foldl (fun r n=>r.push (UInt8.ofNat n.toNat)) ByteArray.empty=dI ns:=by
 rw[RP];simp[dI,ByteArray.empty,ByteArray.emptyWithCapacity];rfl
theorem aF3{a b:Nat}(ha:a<256)(hb:b<256)(h:UInt8.ofNat a=UInt8.ofNat b):a=b:=by
 have:=congrArg UInt8.toNat h;simp at this;omega
theorem pV:∀ {l m:List Nat},(∀x∈l,x<256)→(∀x∈m,x<256)→((dI l).toList==(dI m).toList)=decide (l=m):=by
 intro l m hl hm;rw[BL,BL];by_cases h:l=m
 ·subst h;simp
 ·rw[decide_eq_false h,beq_eq_false_iff_ne];intro e;apply h;clear h
  induction l generalizing m with
  |nil=>cases m<;>first|rfl|simp at e
  |cons a l ih=>
   cases m with
   |nil=>simp at e
   |cons b m=>
    simp only[List.map_cons,List.cons.injEq]at e;rw[aF3 (hl a (by simp)) (hm b (by simp)) e.1,ih (fun x hx=>hl x (by simp[hx])) (fun x hx=>hm x (by simp[hx])) e.2]
section
variable {P : Program} {ty : TypeId} {s : ASt} {c : Bool} {t t' e : TypeId} {x y : Operand}
theorem nY{w:World} [Ty P t (.slice e)] [Ty P e (.int .u8)] [Ty P t' .string] {ρ:Operand→Value}{o:Oper}(ho:o.op=.convert t t' x){A:Option Addr}{cap:Nat}{bs:List Nat}(hx:ρ x=.slice A bs.length cap)(hn:A=none→bs=[])
  (hc:∀p,A=some p→∀(j:Nat) (n:Nat),bs[j]? =some n→w.cell? (p.add j)=some (.int .u8 n)):(execOp ρ o).run P w=.ok (.value (.string (dI bs))) w:=by
 have h1:(Conv.bytesToString (.slice A bs.length cap)).run P w=.ok (.string (dI bs)) w:=by
  cases A with
  |none=>
   obtain rfl:=hn rfl;simp[Conv.bytesToString,dI,ByteArray.empty,ByteArray.emptyWithCapacity];rfl
  |some p=>
   have hl:=run_loadCells_list (P:=P) (w:=w) p ((bs.map Int.ofNat).map (Value.int .u8)) (fun j v hj=>by
    rw[List.getElem?_map,List.getElem?_map,Option.map_map]at hj;obtain⟨n,hn,rfl⟩:=Option.map_eq_some_iff.1 hj;exact hc p rfl j n hn)
   rw[List.length_map,List.length_map]at hl;rw[run_bytesToString w p bs.length cap (bs.map Int.ofNat) hl,aCR]
 simp only[execOp,ho,hx,Sem.run_bind,run_convert_bytes_string w t t' e A bs.length cap (Ty.und (P:=P) (t:=t)) (Ty.und (P:=P) (t:=e)) (Ty.und (P:=P) (t:=t')),h1,Result.andThen_ok,Sem.run_pure]
theorem sI [Ty P t (.slice e)] [Ty P e (.int .u8)] [Ty P t' .string] {bs:List Nat}{k:Rk}(h:Ev s c x (.ro 1 (bs.map aG) k)):Lop P (.convert t t' x) ty s c (.str (dI bs)) []:=by
 refine⟨fun r hr=>by simp at hr,fun M F N n a w hr hc=>⟨_,.str _,fun w' o ho _ hsame=> ?_⟩⟩;have e1:=h.vr hr hc;generalize hu:a.eval x=u at e1;generalize hes:bs.map aG=es at e1;cases e1 with
 |@ro _ _ b o' _ cap us hb hs hcc hrr hle hm hf hn=>
  subst hes;refine nY (e:=e) ho (by rw[hu,List.length_map]) (fun h=>by cases h) (fun p hp j n hj=> ?_);cases hp
  have h1:=hcc j (aG n) 0 (.int .u8 n) (by rw[List.getElem?_map,hj];rfl) rfl;have h2:=hrr j (aG n) 0 (.int .u8 n) (by rw[List.getElem?_map,hj];rfl) rfl;rw[Addr.add_lit,World.cell?_of_block (w:=w) (w':=w') (hsame b (.inl hb))];rw[Nat.mul_one,Nat.add_zero]at h1;rw[h1];generalize us j 0=q at h2;cases h2
  rfl
 |@ro0 _ _ A cap hm hA hf hn=>
  have:bs=[]:=by simpa using hes
  subst this;exact nY (e:=e) ho (A:=A) (cap:=cap) hu (fun _=>rfl) (fun p _ j n hj=>by simp at hj)
theorem HC [Ty P t (.slice e)] [Ty P e (.int .u8)] [Ty P t' .string] {bs bs':List Nat}{r off len:Nat}{et:TypeId}(h:Ev s c x (.own r off len))(hg:fZ s.σ r=some (.arr et 1 (bs.map aG)))(hle:off+len≤bs.length)(hbs:(bs.drop off).take len=bs'):Lop P (.convert t t' x) ty s c (.str (dI bs')) [r]:=by
 subst hbs;refine⟨fun q hq=>⟨_,bV hg,(List.mem_singleton.1 hq).symm⟩,fun M F N n a w hr hc=>⟨_,.str _,fun w' o ho _ hsame=> ?_⟩⟩;have e1:=h.vr hr hc;have hl:((bs.drop off).take len).length=len:=by simp;omega
 generalize hu:a.eval x=u at e1;obtain⟨h0,hrows,h3⟩:=hr.st.ent _ (bV hg);cases e1 with
 |own hM hle' hm=>
  rcases h3 with⟨hv',_⟩|⟨g,cc,vs,hM',hcl,hsz,hlc,hmax,hvr⟩
  ·rw[hM]at hv';cases hv'
  ·have hg':=hM'.symm.trans hM;simp only[Option.some.injEq,Blk'.row.injEq]at hg';obtain⟨q1,q2,q3⟩:=hg';subst q1;subst q2;subst q3;refine nY (e:=e) ho (by rw[hu,hl]) (fun h=>by cases h) (fun p hp j n hj=> ?_);cases hp
   rw[Addr.add_lit,World.cell?_of_block (w:=w) (w':=w') (hsame g (.inr ⟨r,by simp,by simp[bO,hM]⟩)),hcl.cell];have hj2:bs[off+j]? =some n:=by
    rw[List.getElem?_take]at hj;split at hj
    ·rwa [List.getElem?_drop]at hj
    ·cases hj
   have hjl:=(List.getElem?_eq_some_iff.1 hj2).1;rw[List.length_map]at hlc;have hlt:off*1+j<vs.size:=by omega
   have h1:=hvr (off+j) (aG n) 0 (.int .u8 n) vs[off*1+j] (by rw[List.getElem?_map,hj2];rfl) rfl (by rw[show(off+j)*1+0=off*1+j by omega];exact Array.getElem?_eq_getElem hlt);rw[Array.getElem?_eq_getElem hlt];generalize vs[off*1+j]=q at h1;cases h1
   rfl
 |own0=>
  refine nY (e:=e) ho (by rw[hu,hl]) (fun _=>by simp) (fun p _ j n hj=>by simp at hj)
end
theorem gD{P:Program}{n:Nat}{ops:Array Oper}{fr:Fr}{σ:dC}{K:ASt→Prop}{op:Op}{ty:TypeId}{pos:String}{af:Array Edge}{listed:Array Bool}{todo:List (Nat×Bool)}{held:List (Nat×List Nat)}{i d j dj:Nat}{want:Bool}{v:AV}{rs:List Nat}(hi:ops[i]? =some ⟨some d,op,ty,pos,af,some (j,want)⟩)(hj:(ops[j]?).bind (·.dst)=some dj)(hb:dD fr dj=some (.bool want))(h:Lop P op ty ⟨fr,σ⟩ true v rs)(hd:Nat.ble (d+1) n=true)
  (hK:RD P n ops (listed.setIfInBounds i true) todo ((i,rs)::held) ⟨(d,v)::fr,σ⟩ K):RD P n ops listed ((i,true)::todo) held ⟨fr,σ⟩ K:=KJ hi hj hb h (cI hd) hK
inductive FDel (t:Nat):Fr→Fr→Prop
 |nil:FDel t [] []
 |hit {x:AV} {l l':Fr} (h:FDel t l l'):FDel t ((t,x)::l) l'
 |miss {i:Nat} {x:AV} {l l':Fr} (hne:(i==t)=false) (h:FDel t l l'):FDel t ((i,x)::l) ((i,x)::l')
theorem FDel.get {t:Nat}{l l':Fr}(h:FDel t l l'):∀i x,dD l' i=some x→i≠t∧dD l i=some x:=by
 induction h with
 |nil=>intro i x h;simp[dD]at h
 |hit _ ih=>
  intro i x h;obtain⟨h1,h2⟩:=ih i x h;exact⟨h1,by simp only[dD];rw[if_neg h1];exact h2⟩
 |@miss j y l l' hne _ ih=>
  intro i x h;simp only[dD]at h⊢;split at h
  ·next e=>subst e;exact⟨by simpa using hne,by rw[if_pos rfl];exact h⟩
  ·next e=>obtain⟨h1,h2⟩:=ih i x h;exact⟨h1,by rw[if_neg e];exact h2⟩
theorem fR{P:Program}{n:Nat}{ks:List Nat}{fr fr0:Fr}{σ:dC}{t:Nat}{b c:Bool}{y rest:Code}{Q Q':Exit→ASt→Prop}(hx:dD fr t=some (.bool b))(hd:FDel t fr fr0)(h2:b=false→SW P n ks y ⟨fr,σ⟩ (fF (fun s2=>SGo s2 ⟨(t,.bool c)::fr0,σ⟩) Q'))(h:SW P n ks rest ⟨(t,.bool (b||c))::fr0,σ⟩ Q):
  SW P n ks (.cond (.tmp t) .skip y) ⟨fr,σ⟩ (fF (fun s'=>SW P n ks rest s' Q) Q'):=by
 have key:∀(fr':Fr) (x:Bool),dD fr' t=some (.bool x)→x=(b||c)→(∀i z,dD fr0 i=some z→dD fr' i=some z)→SGo ⟨fr',σ⟩ ⟨(t,.bool (b||c))::fr0,σ⟩:=fun fr' x hxx he ho=>SGo.of_le (fun j z hj=>by
  simp only[dD]at hj⊢;split at hj
  ·next e=>subst e;obtain rfl:=Option.some.inj hj;exact⟨_,hxx,by rw[he];exact VLe.refl _⟩
  ·next e=>exact⟨z,ho j z hj,VLe.refl _⟩) (fun _ h=>h)
 refine aB (b:=b) hx (fun hb=> ?_) (fun hb=> ?_)
 ·exact KF (dZ (key fr b hx (by rw[hb];rfl) (fun i z hz=>(hd.get i z hz).2)) h)
 ·refine vV (h2 hb) fun e s2 hs=> ?_
  cases e<;>first|exact hs|skip
  refine dZ (SGo.trans hs (key _ c (by simp[dD]) (by rw[hb];rfl) (fun i z hz=>by
   have:=(hd.get i z hz).1;simp only[dD];rw[if_neg this];exact hz))) h
theorem dR{P:Program}{n:Nat}{ks:List Nat}{fr fr0:Fr}{σ:dC}{t:Nat}{b c:Bool}{y:Code}{s0:ASt}{Q':Exit→ASt→Prop}(hx:dD fr t=some (.bool b))(hd:FDel t fr fr0)(h2:b=false→SW P n ks y ⟨fr,σ⟩ (fF (fun s2=>SGo s2 ⟨(t,.bool c)::fr0,σ⟩) Q'))(h:SGo ⟨(t,.bool (b||c))::fr0,σ⟩ s0):
  SW P n ks (.cond (.tmp t) .skip y) ⟨fr,σ⟩ (fF (fun s2=>SGo s2 s0) Q'):=by
 refine aB (b:=b) hx (fun hb=> ?_) (fun hb=> ?_)
 ·refine KF (SGo.trans (s':=⟨(t,.bool (b||c))::fr0,σ⟩) (SGo.of_le (fun j z hj=> ?_) (fun _ h=>h)) h);simp only[dD]at hj;split at hj
  ·next e=>subst e;obtain rfl:=Option.some.inj hj;exact⟨_,hx,by rw[hb];exact VLe.refl _⟩
  ·next e=>exact⟨z,(hd.get j z hj).2,VLe.refl _⟩
 ·refine vV (h2 hb) fun e s2 hs=> ?_
  cases e<;>first|exact hs|skip
  refine SGo.trans hs (SGo.trans (s':=⟨(t,.bool (b||c))::fr0,σ⟩) (SGo.of_le (fun j z hj=> ?_) (fun _ h=>h)) h);simp only[dD]at hj⊢;split at hj
  ·next e=>subst e;obtain rfl:=Option.some.inj hj;exact⟨_,by rw[if_pos rfl],by rw[hb];exact VLe.refl _⟩
  ·next e=>exact⟨z,by rw[if_neg e];exact hj,VLe.refl _⟩
theorem sja{P:Program}{n:Nat}{ks:List Nat}{s:ASt}{Q Q':Exit→ASt→Prop}{β:Type}{x y:Code}(st:β→ASt)(ok:β→Prop)(hx:SW P n ks x s (fF (fun s2=>∃b,ok b∧SGo s2 (st b)) Q'))(hy:∀b,ok b→SW P n ks y (st b) Q):SW P n ks x s (fF (fun s'=>SW P n ks y s' Q) Q'):=
 vV hx fun e s2 h=>by cases e<;>first|exact h|(obtain⟨b,h1,h2⟩:=h;exact dZ h2 (hy b h1))
theorem NP{p:Nat→Prop}:∀(n m:Nat),m≤n→p m→∃k,p k∧∀j,p j→k≤j
 |0,m,hm,h=>⟨0,by rwa [show m=0 by omega]at h,fun j _=>Nat.zero_le _⟩
 |n+1,m,hm,h=>by
  by_cases hc:∃j,j≤n∧p j
  ·obtain⟨j,h1,h2⟩:=hc;exact NP n j h1 h2
  ·refine⟨m,h,fun j hj=> ?_⟩;by_cases hjm:m≤j
   ·exact hjm
   ·exact absurd ⟨j,by omega,hj⟩ hc
theorem DR{P:Program}{a:Act}{w:World}{Q:Exit→Act→World→Prop}{c rest:Code}(l:Nat)(J:Nat→Act→World→Prop)(hf:findLabel c l=some rest)
  (first:c.wp P (Exit.jump l (fun a w=>∃m,J m a w) Q) a w)
  (pass:∀m a w,J m a w→rest.wp P (Exit.jump l (fun a' w'=>∃m',m'<m∧J m' a' w') Q) a w):(Code.scope c).wp P Q a w:=by
 have hm:∀a w,∃k,∀m,J m a w→J k a w∧k≤m:=by
  intro a w;by_cases h:∃m,J m a w
  ·obtain⟨m,h⟩:=h;obtain⟨k,h1,h2⟩:=NP (p:=fun m=>J m a w) m m (Nat.le_refl _) h;exact⟨k,fun j hj=>⟨h1,h2 j hj⟩⟩
  ·exact⟨0,fun m hj=>absurd ⟨m,hj⟩ h⟩
 refine wp_scope_jumps l (fun a w=>∃m,J m a w) (fun a w=>(hm a w).choose) hf first ?_
 rintro a w ⟨m,h⟩;obtain⟨h1,-⟩:=(hm a w).choose_spec m h;refine wp_mono (pass _ a w h1) ?_;intro e a' w' hq;cases e<;>first|exact hq|skip
 obtain⟨h2,m',h3,h4⟩:=hq;exact⟨h2,⟨m',h4⟩,Nat.lt_of_le_of_lt ((hm a' w').choose_spec m' h4).2 h3⟩
def NQ (l:Nat) (J:ASt→Prop) (Q:Exit→ASt→Prop):Exit→ASt→Prop
 | .goto l',s=>l'=l∧J s
 |e,s=>Q e s
section
variable {P : Program} {n : Nat} {ks : List Nat} {s : ASt} {Q : Exit → ASt → Prop}
theorem scj{β:Type}{c body:Code}(l:Nat)(hf:findLabel c l=some (.seq .skip body))(st:β→ASt)(ok:β→Prop)(ms:β→Nat)
  (pass:∀b,ok b→SW P n ks body (st b) (NQ l (fun s2=>∃b',ok b'∧ms b'<ms b∧SGo s2 (st b')) Q))
  (first:(∀b s',ok b→SGo s' (st b)→SW P n ks (.seq (.label l) body) s' (NQ l (fun s2=>∃b',ok b'∧SGo s2 (st b')) Q))→SW P n ks c s (NQ l (fun s2=>∃b',ok b'∧SGo s2 (st b')) Q)):SW P n ks (.scope c) s Q:=by
 have hfirst:=first fun b s' hb hgo=>dZ hgo (KG (ZW (vV (pass b hb) fun e s2 h=>by
  cases e<;>first|exact h|skip
  obtain⟨h1,b',h2,-,h3⟩:=h;exact⟨h1,b',h2,h3⟩)))
 intro M F N a w hr;refine DR l (fun m a' w'=>∃M' F' N' b,ok b∧ms b=m∧Rel M' F' N' n (st b) a' w'∧Ext M F N w s.σ M' F' N' w' (st b).σ) hf ?_ ?_
 ·refine wp_mono (hfirst M F N a w hr) ?_;rintro e a' w' ⟨M',F',N',s',h1,h2,h3⟩;cases e<;>first|exact⟨M',F',N',s',h1,h2,h3⟩|skip
  obtain⟨h3,b,h4,h5⟩:=h3;obtain⟨M2,F2,N2,r2,e2⟩:=h5 M' F' N' n a' w' h1;exact⟨h3,_,M2,F2,N2,b,h4,rfl,r2,h2.trans e2⟩
 ·rintro m a' w' ⟨M1,F1,N1,b,hb,rfl,r1,e1⟩;refine wp_seq (wp_skip ?_);refine wp_mono (pass b hb M1 F1 N1 a' w' r1) ?_;rintro e a2 w2 ⟨M',F',N',s',h1,h2,h3⟩;cases e<;>first|exact⟨M',F',N',s',h1,e1.trans h2,h3⟩|skip
  obtain⟨h3,b',h4,h6,h5⟩:=h3;obtain⟨M2,F2,N2,r2,e2⟩:=h5 M' F' N' n a2 w2 h1;exact⟨h3,_,h6,M2,F2,N2,b',h4,rfl,r2,e1.trans (h2.trans e2)⟩
theorem cg{l:Nat}(h:Q (.goto l) s):SW P n ks (.goto l) s Q:=aCI h
end
theorem ag{K:ASt→Prop}{Q:Exit→ASt→Prop}{s:ASt}{i:Nat}(h:Q (.goto i) s):fF K Q (.goto i) s:=h
theorem bg{i j:Nat}{Q:Exit→ASt→Prop}{s:ASt}(h:Q (.goto j) s):eB i Q (.goto j) s:=h
theorem jg{J:ASt→Prop}{Q:Exit→ASt→Prop}{s:ASt}{l:Nat}(h:J s):NQ l J Q (.goto l) s:=⟨rfl,h⟩
theorem jr{J:ASt→Prop}{Q:Exit→ASt→Prop}{s:ASt}{l:Nat}(h:Q .ret s):NQ l J Q .ret s:=h
theorem hZ{P:Program}{f:FuncId}{e:TypeId}{sz z:Nat}{args:List AV}{σ:dC}{R:AV→dC→Prop}(h0:0<sz)(h:∀q,Fresh q σ→SCall P f (.own q 0 0::args) ((q,.arr e sz [])::σ) R):SCall P f (.ro z [] .nil::args) σ R:=by
 intro M F N w vs hl hv hs;have hr:Rel M F N 0 ⟨[],σ⟩ ⟨#[],[]⟩ w:=⟨rfl,rfl,fun i x hi=>by simp[dD]at hi,hs⟩
 have hE:ER (fN M N .virt) F w N (.arr e sz []):=⟨h0,fun x hx=>by simp at hx,.inl ⟨bW _,rfl⟩⟩
 obtain⟨r1,e1,n1⟩:=hr.new_ (w':=w) .virt (.arr e sz []) (fun _ _=>rfl) ⟨rfl,rfl,rfl⟩ (Nat.le_refl _) (fun g hg=>by simp[bO,bW]at hg) hE;refine(h N n1 (fN M N .virt) F (N+1) w vs (by simpa using hl) ?_ r1.st).mono ?_
 ·intro i x v hx hvv;cases i with
  |zero=>
   obtain rfl:AV.own N 0 0=x:=by simpa using hx
   have hv0:=hv 0 _ v rfl hvv;cases hv0 with
   |@ro _ _ b o _ cap us hb hs hc hrr hle hm hf hn=>exact absurd rfl hn
   |ro0 hm hA hf hn=>
    obtain rfl:=hn rfl;obtain rfl:=hA rfl;exact .own0
  |succ i=>exact VR.mono e1.mm e1.ff (fun _ _=>rfl) (hv (i+1) x v (by simpa using hx) hvv)
 ·rintro e' w' ⟨v,x,M',F',N',σ',k1,k2,k3,k4,k5⟩;exact⟨v,x,M',F',N',σ',k1,e1.trans k2,k3,k4,k5⟩
section
variable {P : Program} {ty : TypeId} {s : ASt} {c : Bool} {t : TypeId} {x y : Operand}
theorem WU{e k:Nat}{d:TypeDesc} [Ty P t (.array k e)] [Ty P e d] (hd:tX d=false){by_:Nat}{z:Value} [Tz P e 1 by_ z] {ki:IntKind}{m:Int}{cs:List AV}{v:AV}(h:Ev s c x (.agg cs))(hi:Ev s c y (.int ki m))(hb:c=true→0≤m∧m<k)(hv:c=true→cs[m.toNat]? =some v):Lop P (.index t x y) ty s c v []:=
 Lop.pure_ fun M F N n a w hr hc=>by
  have e1:=h.vr hr hc;have hv:=hv hc;have hb:=hb hc;obtain⟨j,hi',hz,hs,_⟩:=Tz.parts P e;generalize hu:a.eval x=u at e1;cases e1 with
  |@agg _ vs hl hh=>
   have hlt:m.toNat<vs.size:=by rw[hl];exact(List.getElem?_eq_some_iff.1 hv).1
   refine⟨vs[m.toNat],hh _ v _ hv (Array.getElem?_eq_getElem hlt),fun w' o ho _=> ?_⟩;have:=yO (P:=P) (t:=e) hd (w:=w') (Array.getElem?_eq_getElem hlt);simp[execOp,ho,hu,hi.int hr hc,Instr.index,asIntOf,run_underlying (Ty.und (P:=P) (t:=t)),hb,sizeOf,typeInfo,hi',hs,this]
theorem aAg{e:Nat} [Ty P t (.array 3 e)] {by_ by':Nat}{z z':Value} [Tz P t 3 by_ z] [Tz P e 1 by' z'] {k:IntKind}{m0 m1 m2:Int}(h3:∃a0 a1 a2,z=.agg #[a0,a1,a2]):Lop P (.build t #[(0,.const (.int k m0)),(1,.const (.int k m1)),(2,.const (.int k m2))]) ty s c (.agg [.int k m0,.int k m1,.int k m2]) []:=by
 obtain⟨a0,a1,a2,h3⟩:=h3;refine Lop.pure_ fun M F N n a w hr hc=>⟨.agg #[.int k m0,.int k m1,.int k m2],.agg rfl (fun j b u hj hu=> ?_),fun w' o ho _=> ?_⟩
 ·rcases j with _ | _ | _ |j
  ·simp at hj hu;subst hj hu;exact .int _ _
  ·simp at hj hu;subst hj hu;exact .int _ _
  ·simp at hj hu;subst hj hu;exact .int _ _
  ·simp at hj
 ·obtain⟨i,hi,hz0,hs0,_⟩:=Tz.parts P t;obtain⟨i',hi',hz0',hs0',_⟩:=Tz.parts P e;simp[execOp,ho,Instr.build,zeroValue,typeInfo,hi,hz0,run_underlying (Ty.und (P:=P) (t:=t)),sizeOf,hi',hs0',Instr.fill,h3,Act.eval,Value.cells]
end
end Go.Proofs.YtjpdadobblffmaaGreat
namespace Go.Proofs.YtjpdadobblffmaaGreat
@[reducible] def ty2:=Ty.mk Tryz.underlying2
attribute [instance] ty2
instance tz2:Tz Tryz.prog 2 1 8 (.int .i64 0):=⟨by kernel_rfl⟩
@[reducible] def ty3:=Ty.mk Tryz.underlying3
attribute [instance] ty3
instance tz3:Tz Tryz.prog 3 1 8 (.int .i64 0):=⟨by kernel_rfl⟩
@[reducible] def ty4:=Ty.mk Tryz.underlying4
attribute [instance] ty4
instance tz4:Tz Tryz.prog 4 1 1 (.bool false):=⟨by kernel_rfl⟩
@[reducible] def ty5:=Ty.mk Tryz.underlying5
attribute [instance] ty5
instance tz5:Tz Tryz.prog 5 1 1 (.int .u8 0):=⟨by kernel_rfl⟩
@[reducible] def ty9:=Ty.mk Tryz.underlying9
attribute [instance] ty9
instance tz9:Tz Tryz.prog 9 1 16 (.string .empty):=⟨by kernel_rfl⟩
@[reducible] def aKw:=Ty.mk Tryz.underlying22
attribute [instance] aKw
instance tz22:Tz Tryz.prog 22 1 24 (.slice none 0 0):=⟨by kernel_rfl⟩
@[reducible] def aKx:=Ty.mk Tryz.underlying23
attribute [instance] aKx
instance tz23:Tz Tryz.prog 23 1 24 (.slice none 0 0):=⟨by kernel_rfl⟩
@[reducible] def aKy:=Ty.mk Tryz.underlying24
attribute [instance] aKy
instance tz24:Tz Tryz.prog 24 1 24 (.slice none 0 0):=⟨by kernel_rfl⟩
@[reducible] def aKz:=Ty.mk Tryz.underlying26
attribute [instance] aKz
instance tz26:Tz Tryz.prog 26 3 24 (.agg #[.bool false,.int .i64 0,.int .i64 0]):=⟨by kernel_rfl⟩
instance tf26:Tf Tryz.prog 26 [(0,1),(1,1),(2,1)]:=⟨by kernel_rfl⟩
@[reducible] def aKA:=Ty.mk Tryz.underlying27
attribute [instance] aKA
instance tz27:Tz Tryz.prog 27 1 24 (.slice none 0 0):=⟨by kernel_rfl⟩
@[reducible] def aKB:=Ty.mk Tryz.underlying28
attribute [instance] aKB
instance tz28:Tz Tryz.prog 28 1 24 (.slice none 0 0):=⟨by kernel_rfl⟩
@[reducible] def aKC:=Ty.mk Tryz.underlying29
attribute [instance] aKC
instance tz29:Tz Tryz.prog 29 1 24 (.slice none 0 0):=⟨by kernel_rfl⟩
@[reducible] def aKD:=Ty.mk Tryz.underlying30
attribute [instance] aKD
instance tz30:Tz Tryz.prog 30 1 24 (.slice none 0 0):=⟨by kernel_rfl⟩
@[reducible] def aKE:=Ty.mk Tryz.underlying31
attribute [instance] aKE
instance tz31:Tz Tryz.prog 31 1 24 (.slice none 0 0):=⟨by kernel_rfl⟩
@[reducible] def aKF:=Ty.mk Tryz.underlying33
attribute [instance] aKF
instance tz33:Tz Tryz.prog 33 14 240 (.agg #[.slice none 0 0,.slice none 0 0,.slice none 0 0,.bool false,.int .i64 0,.int .i64 0,.bool false,.int .i64 0,.int .i64 0,.slice none 0 0,.slice none 0 0,.slice none 0 0,.slice none 0 0,.slice none 0 0]):=⟨by kernel_rfl⟩
instance tf33:Tf Tryz.prog 33 [(0,1),(1,1),(2,1),(3,3),(6,3),(9,1),(10,1),(11,1),(12,1),(13,1)]:=⟨by kernel_rfl⟩
@[reducible] def aKG:=Ty.mk Tryz.underlying36
attribute [instance] aKG
instance tz36:Tz Tryz.prog 36 1 24 (.slice none 0 0):=⟨by kernel_rfl⟩
@[reducible] def aKH:=Ty.mk Tryz.underlying39
attribute [instance] aKH
instance tz39:Tz Tryz.prog 39 1 8 (.int .i64 0):=⟨by kernel_rfl⟩
@[reducible] def aKI:=Ty.mk Tryz.underlying42
attribute [instance] aKI
instance tz42:Tz Tryz.prog 42 1 24 (.slice none 0 0):=⟨by kernel_rfl⟩
@[reducible] def aKJ:=Ty.mk Tryz.underlying44
attribute [instance] aKJ
instance tz44:Tz Tryz.prog 44 2 48 (.agg #[.slice none 0 0,.slice none 0 0]):=⟨by kernel_rfl⟩
instance tf44:Tf Tryz.prog 44 [(0,1),(1,1)]:=⟨by kernel_rfl⟩
@[reducible] def aKK:=Ty.mk Tryz.underlying46
attribute [instance] aKK
instance tz46:Tz Tryz.prog 46 4 48 (.agg #[.int .i64 0,.int .i64 0,.int .i64 0,.slice none 0 0]):=⟨by kernel_rfl⟩
instance tf46:Tf Tryz.prog 46 [(0,1),(1,1),(2,1),(3,1)]:=⟨by kernel_rfl⟩
@[reducible] def aKL:=Ty.mk Tryz.underlying48
attribute [instance] aKL
instance tz48:Tz Tryz.prog 48 2 32 (.agg #[.int .i64 0,.slice none 0 0]):=⟨by kernel_rfl⟩
instance tf48:Tf Tryz.prog 48 [(0,1),(1,1)]:=⟨by kernel_rfl⟩
@[reducible] def aKM:=Ty.mk Tryz.underlying50
attribute [instance] aKM
instance tz50:Tz Tryz.prog 50 2 48 (.agg #[.slice none 0 0,.slice none 0 0]):=⟨by kernel_rfl⟩
instance tf50:Tf Tryz.prog 50 [(0,1),(1,1)]:=⟨by kernel_rfl⟩
@[reducible] def aKN:=Ty.mk Tryz.underlying64
attribute [instance] aKN
instance tz64:Tz Tryz.prog 64 3 40 (.agg #[.string .empty,.string .empty,.int .i64 0]):=⟨by kernel_rfl⟩
instance tf64:Tf Tryz.prog 64 [(0,1),(1,1),(2,1)]:=⟨by kernel_rfl⟩
@[reducible] def aKO:=Ty.mk Tryz.underlying66
attribute [instance] aKO
instance tz66:Tz Tryz.prog 66 2 24 (.agg #[.string .empty,.int .i64 0]):=⟨by kernel_rfl⟩
instance tf66:Tf Tryz.prog 66 [(0,1),(1,1)]:=⟨by kernel_rfl⟩
@[reducible] def aKP:=Ty.mk Tryz.underlying69
attribute [instance] aKP
instance tz69:Tz Tryz.prog 69 2 32 (.agg #[.int .i64 0,.slice none 0 0]):=⟨by kernel_rfl⟩
instance tf69:Tf Tryz.prog 69 [(0,1),(1,1)]:=⟨by kernel_rfl⟩
@[reducible] def aKQ:=Ty.mk Tryz.underlying71
attribute [instance] aKQ
instance tz71:Tz Tryz.prog 71 2 16 (.agg #[.int .i64 0,.int .i64 0]):=⟨by kernel_rfl⟩
instance tf71:Tf Tryz.prog 71 [(0,1),(1,1)]:=⟨by kernel_rfl⟩
@[reducible] def aKR:=Ty.mk Tryz.underlying73
attribute [instance] aKR
instance tz73:Tz Tryz.prog 73 3 24 (.agg #[.bool false,.int .i64 0,.int .i64 0]):=⟨by kernel_rfl⟩
instance tf73:Tf Tryz.prog 73 [(0,1),(1,2)]:=⟨by kernel_rfl⟩
@[reducible] def aKS:=Ty.mk Tryz.underlying74
attribute [instance] aKS
@[reducible] def aKT:=Ty.mk Tryz.underlying79
attribute [instance] aKT
instance tz79:Tz Tryz.prog 79 1 8 (.pointer none):=⟨by kernel_rfl⟩
@[reducible] def aKU:=Ty.mk Tryz.underlying81
attribute [instance] aKU
instance tz81:Tz Tryz.prog 81 1 8 (.pointer none):=⟨by kernel_rfl⟩
@[reducible] def aKV:=Ty.mk Tryz.underlying83
attribute [instance] aKV
instance tz83:Tz Tryz.prog 83 1 8 (.nilFunc):=⟨by kernel_rfl⟩
@[reducible] def aKW:=Ty.mk Tryz.underlying87
attribute [instance] aKW
@[reducible] def aIb:=Ty.mk Tryz.underlying114
attribute [instance] aIb
@[reducible] def aIc:=Ty.mk Tryz.underlying117
attribute [instance] aIc
instance tz117:Tz Tryz.prog 117 2 32 (.agg #[.slice none 0 0,.bool false]):=⟨by kernel_rfl⟩
instance tf117:Tf Tryz.prog 117 [(0,1),(1,1)]:=⟨by kernel_rfl⟩
@[reducible] def aId:=Ty.mk Tryz.underlying126
attribute [instance] aId
instance tz126:Tz Tryz.prog 126 1 24 (.slice none 0 0):=⟨by kernel_rfl⟩
@[reducible] def aIe:=Ty.mk Tryz.underlying128
attribute [instance] aIe
instance tz128:Tz Tryz.prog 128 18 320 (.agg #[.slice none 0 0,.slice none 0 0,.slice none 0 0,.bool false,.int .i64 0,.int .i64 0,.bool false,.int .i64 0,.int .i64 0,.slice none 0 0,.slice none 0 0,.slice none 0 0,.slice none 0 0,.slice none 0 0,.slice none 0 0,.slice none 0 0,.slice none 0 0,.bool false]):=⟨by kernel_rfl⟩
instance tf128:Tf Tryz.prog 128 [(0,14),(14,1),(15,1),(16,1),(17,1)]:=⟨by kernel_rfl⟩
@[reducible] def aIf:=Ty.mk Tryz.underlying130
attribute [instance] aIf
@[reducible] def aIg:=Ty.mk Tryz.underlying134
attribute [instance] aIg
@[reducible] def aIh:=Ty.mk Tryz.underlying137
attribute [instance] aIh
instance tz137:Tz Tryz.prog 137 4 32 (.agg #[.int .i64 0,.int .i64 0,.int .i64 0,.bool false]):=⟨by kernel_rfl⟩
instance tf137:Tf Tryz.prog 137 [(0,1),(1,1),(2,1),(3,1)]:=⟨by kernel_rfl⟩
@[reducible] def aIi:=Ty.mk Tryz.underlying140
attribute [instance] aIi
instance tz140:Tz Tryz.prog 140 1 24 (.slice none 0 0):=⟨by kernel_rfl⟩
@[reducible] def aIj:=Ty.mk Tryz.underlying142
attribute [instance] aIj
instance tz142:Tz Tryz.prog 142 20 352 (.agg #[.slice none 0 0,.slice none 0 0,.slice none 0 0,.bool false,.int .i64 0,.int .i64 0,.bool false,.int .i64 0,.int .i64 0,.slice none 0 0,.slice none 0 0,.slice none 0 0,.slice none 0 0,.slice none 0 0,.slice none 0 0,.slice none 0 0,.slice none 0 0,.int .i64 0,.slice none 0 0,.bool false]):=⟨by kernel_rfl⟩
instance tf142:Tf Tryz.prog 142 [(0,14),(14,1),(15,1),(16,1),(17,1),(18,1),(19,1)]:=⟨by kernel_rfl⟩
@[reducible] def aIk:=Ty.mk Tryz.underlying146
attribute [instance] aIk
@[reducible] def aIl:=Ty.mk Tryz.underlying148
attribute [instance] aIl
@[reducible] def aIm:=Ty.mk Tryz.underlying152
attribute [instance] aIm
@[reducible] def aIn:=Ty.mk Tryz.underlying155
attribute [instance] aIn
instance tz155:Tz Tryz.prog 155 1 24 (.slice none 0 0):=⟨by kernel_rfl⟩
@[reducible] def aIo:=Ty.mk Tryz.underlying157
attribute [instance] aIo
instance tz157:Tz Tryz.prog 157 17 280 (.agg #[.slice none 0 0,.slice none 0 0,.slice none 0 0,.bool false,.int .i64 0,.int .i64 0,.bool false,.int .i64 0,.int .i64 0,.slice none 0 0,.slice none 0 0,.slice none 0 0,.slice none 0 0,.slice none 0 0,.pointer none,.pointer none,.slice none 0 0]):=⟨by kernel_rfl⟩
instance tf157:Tf Tryz.prog 157 [(0,14),(14,1),(15,1),(16,1)]:=⟨by kernel_rfl⟩
instance tz160:Tz Tryz.prog 160 1 8 (.map none):=⟨by kernel_rfl⟩
@[reducible] def aIp:=Ty.mk Tryz.underlying162
attribute [instance] aIp
instance tz162:Tz Tryz.prog 162 3 24 (.agg #[.int .i64 0,.int .i64 0,.int .i64 0]):=⟨by kernel_rfl⟩
instance tf162:Tf Tryz.prog 162 [(0,1),(1,1),(2,1)]:=⟨by kernel_rfl⟩
@[reducible] def aIq:=Ty.mk Tryz.underlying163
attribute [instance] aIq
instance tz163:Tz Tryz.prog 163 1 24 (.slice none 0 0):=⟨by kernel_rfl⟩
@[reducible] def aIr:=Ty.mk Tryz.underlying165
attribute [instance] aIr
instance tz165:Tz Tryz.prog 165 2 48 (.agg #[.slice none 0 0,.slice none 0 0]):=⟨by kernel_rfl⟩
instance tf165:Tf Tryz.prog 165 [(0,1),(1,1)]:=⟨by kernel_rfl⟩
@[reducible] def aIs:=Ty.mk Tryz.underlying167
attribute [instance] aIs
@[reducible] def aIt:=Ty.mk Tryz.underlying169
attribute [instance] aIt
instance tz169:Tz Tryz.prog 169 3 56 (.agg #[.slice none 0 0,.int .i64 0,.slice none 0 0]):=⟨by kernel_rfl⟩
instance tf169:Tf Tryz.prog 169 [(0,1),(1,1),(2,1)]:=⟨by kernel_rfl⟩
@[reducible] def aIu:=Ty.mk Tryz.underlying175
attribute [instance] aIu
instance tz175:Tz Tryz.prog 175 29 440 (.agg #[.slice none 0 0,.slice none 0 0,.slice none 0 0,.bool false,.int .i64 0,.int .i64 0,.bool false,.int .i64 0,.int .i64 0,.slice none 0 0,.slice none 0 0,.slice none 0 0,.slice none 0 0,.slice none 0 0,.slice none 0 0,.slice none 0 0,.slice none 0 0,.int .i64 0,.int .i64 0,.int .i64 0,.int .i64 0,.slice none 0 0,.int .i64 0,.int .i64 0,.int .i64 0,.slice none 0 0,.int .i64 0,.int .i64 0,.bool false]):=⟨by kernel_rfl⟩
instance tf175:Tf Tryz.prog 175 [(0,14),(14,1),(15,1),(16,1),(17,1),(18,1),(19,1),(20,1),(21,1),(22,4),(26,1),(27,1),(28,1)]:=⟨by kernel_rfl⟩
@[reducible] def aIv:=Ty.mk Tryz.underlying182
attribute [instance] aIv
@[reducible] def aIw:=Ty.mk Tryz.underlying204
attribute [instance] aIw
@[reducible] def aIx:=Ty.mk Tryz.underlying218
attribute [instance] aIx
@[reducible] def aIy:=Ty.mk Tryz.underlying261
attribute [instance] aIy
instance tz261:Tz Tryz.prog 261 2 32 (.agg #[.slice none 0 0,.bool false]):=⟨by kernel_rfl⟩
instance tf261:Tf Tryz.prog 261 [(0,1),(1,1)]:=⟨by kernel_rfl⟩
@[reducible] def aIz:=Ty.mk Tryz.underlying277
attribute [instance] aIz
@[reducible] def aIA:=Ty.mk Tryz.underlying280
attribute [instance] aIA
@[reducible] def aIB:=Ty.mk Tryz.underlying284
attribute [instance] aIB
@[reducible] def aIC:=Ty.mk Tryz.underlying298
attribute [instance] aIC
instance tz298:Tz Tryz.prog 298 3 24 (.agg #[.int .i64 0,.int .i64 0,.int .i64 0]):=⟨by kernel_rfl⟩
instance tf298:Tf Tryz.prog 298 [(0,1),(1,1),(2,1)]:=⟨by kernel_rfl⟩
@[reducible] def aID:=Ty.mk Tryz.underlying325
attribute [instance] aID
@[reducible] def aIE:=Ty.mk Tryz.underlying328
attribute [instance] aIE
instance tz328:Tz Tryz.prog 328 3 3 (.agg #[.int .u8 0,.int .u8 0,.int .u8 0]):=⟨by kernel_rfl⟩
@[reducible] def aIF:=Ty.mk Tryz.underlying346
attribute [instance] aIF
instance tz346:Tz Tryz.prog 346 3 40 (.agg #[.slice none 0 0,.int .i64 0,.int .i64 0]):=⟨by kernel_rfl⟩
instance tf346:Tf Tryz.prog 346 [(0,1),(1,1),(2,1)]:=⟨by kernel_rfl⟩
theorem mixed:Tryz.prog.follows .mixedOrders=true:=by kernel_rfl
end Go.Proofs.YtjpdadobblffmaaGreat
namespace Go.Proofs.YtjpdadobblffmaaGreat
open Go.RowKit Go.ChangeShapes Go.WideShapes Go.ChangeAt Go.Deep
structure Hold (Q:Prop):Prop where
 h:Q
theorem cA{P:Prop}(h:P:=by(first|assumption|(apply Nq.en;assumption)|omega|(simp only[Nq]at*;omega))):P:=h
theorem bC{P:Prop}(h:P:=by(repeat(first|exact jO|(apply jP;(first|assumption|(apply Nq.en;assumption)|omega|(simp only[Nq]at*;omega)))))):P:=h
theorem aE{P:Prop}(h:P:=by(repeat(first|exact ResL.nil|(apply ResL.tmp;rfl)|(apply ResL.cell;rfl;infer_instance;rfl;(repeat(first|exact jO|(apply jP;(first|assumption|(apply Nq.en;assumption)|omega|(simp only[Nq]at*;omega)))));rfl)|(apply ResL.cells;rfl;infer_instance;infer_instance;rfl;(repeat(first|exact jO|(apply jP;(first|assumption|(apply Nq.en;assumption)|omega|(simp only[Nq]at*;omega)))));exact Nat.le_of_ble_eq_true rfl)))):P:=h
theorem aA{P:Prop}(h:P:=by(first|exact aFZ|exact(fun _ h=>h)|(apply StLe.mem;(repeat(first|exact StLe.nil|(apply StLe.cons;(repeat(first|exact List.mem_cons_self|apply List.mem_cons_of_mem));first|rfl|focus (congr 1;done)|focus (simp;done)|(simp;rfl))))))):P:=h
theorem aC{P:Prop}(h:P:=by(repeat(first|exact ArgsLe.nil|(apply ArgsLe.cons;rfl;first|exact VLe.refl _ |exact VLe.when rfl|exact VLe.any|exact VLe.empty|exact VLe.of_eq (by simp))))):P:=h
theorem aE6{P:Prop}(h:P:=by(
     first
      |exact Bor.refl _
      |exact Bor.le VLe.any
      |exact Bor.le VLe.empty
      |(apply NN;(repeat(
        first
         |exact List.mem_cons_self
         |apply List.mem_cons_of_mem));(repeat(
        first
         |exact jO
         |(apply jP;(
          first
           |assumption
           |(apply Nq.en;assumption)
           |omega
           |(simp only[Nq]at*;omega)))));(
       first
        |focus (simp;done)
        |omega
        |focus (simp;omega));(
       first
        |rfl
        |focus (simp;done)
        |focus (exact List.take_of_length_le (by
         first
          |(simp;done)
          |(simp;omega)))))
      |focus (apply aKs;(repeat(
        first
         |exact List.mem_cons_self
         |apply List.mem_cons_of_mem));(repeat(
        first
         |exact jO
         |(apply jP;(
          first
           |assumption
           |(apply Nq.en;assumption)
           |omega
           |(simp only[Nq]at*;omega)))));rfl;rfl;(repeat(
        first
         |exact BorL.nil
         |(apply BorL.cons;(
          first
           |exact Bor.refl _
           |exact Bor.le VLe.any
           |exact Bor.le VLe.empty
           |(apply NN;(repeat(
             first
              |exact List.mem_cons_self
              |apply List.mem_cons_of_mem));(repeat(
             first
              |exact jO
              |(apply jP;(
               first
                |assumption
                |(apply Nq.en;assumption)
                |omega
                |(simp only[Nq]at*;omega)))));(
            first
             |focus (simp;done)
             |omega);(
            first
             |rfl
             |focus (simp;done)
             |focus (exact List.take_of_length_le (by
              first
               |(simp;done)
               |(simp;omega)))))
           |focus (apply Bor.le;apply VLe.of_eq;simp;done)))));done)
      |focus (apply aAf;(repeat(
        first
         |exact BorL.nil
         |(apply BorL.cons;(
          first
           |exact Bor.refl _
           |exact Bor.le VLe.any
           |exact Bor.le VLe.empty
           |(apply NN;(repeat(
             first
              |exact List.mem_cons_self
              |apply List.mem_cons_of_mem));(repeat(
             first
              |exact jO
              |(apply jP;(
               first
                |assumption
                |(apply Nq.en;assumption)
                |omega
                |(simp only[Nq]at*;omega)))));(
            first
             |focus (simp;done)
             |omega);(
            first
             |rfl
             |focus (simp;done)
             |focus (exact List.take_of_length_le (by
              first
               |(simp;done)
               |(simp;omega)))))
           |focus (apply Bor.le;apply VLe.of_eq;simp;done)))));done)
      |focus (apply Bor.le;apply VLe.of_eq;simp;done))):P:=h
theorem aP{P:Prop}(h:P:=by(repeat(first|exact ArgsIf.nil|(apply ArgsIf.cons;(first|exact W rfl id|exact W rfl (fun _=>rfl)|exact E rfl);exact aE6)))):P:=h
theorem bM{P:Prop}(h:P:=by(repeat(first|exact ArgsBor.nil|(apply ArgsBor.cons;rfl;exact aE6)))):P:=h
theorem bU{P:Prop}(h:P:=by(repeat(first|exact ArgsIf.nil|refine ArgsIf.cons (by first|exact Ev.when rfl (by first|exact id|simp)|exact Ev.here rfl) (by first|exact Bor.refl _ |exact Bor.le VLe.any|exact Bor.le VLe.empty|exact Bor.own (by simp) (by repeat(first|exact jO|refine jP (by(first|assumption|(apply Nq.en;assumption)|omega|(simp only[Nq]at*;omega))) ?_)) (by simp)|exact Bor.le (VLe.of_eq (by simp))) ?_))):P:=h
theorem aS{P:Prop}(h:P:=by(repeat(first|exact NoF.int|exact NoF.bool|exact NoF.nilp|exact NoF.nil|exact NoF.own|exact NoF.ptr|exact NoF.str|exact aAe|apply NoF.tup|apply NoF.agg|apply WT))):P:=h
theorem eM{P:Prop}(h:P:=by(repeat(first|exact HB.nil|apply HB.none|(apply HB.ok;focus (simp only[List.mem_cons,List.not_mem_nil,or_false,List.map_cons,List.map_nil,forall_eq_or_imp,forall_eq,true_or,or_true,true_and,and_true,not_false_eq_true,not_or];(repeat' (first|apply And.intro|(first|assumption|(apply Nq.en;assumption)|omega|(simp only[Nq]at*;omega))));done))|(apply HB.waits;kernel_rfl)))):P:=h
theorem atT{P:Prop}(h:P:=by(first|rfl|exact aH (by assumption)|assumption)):P:=h
theorem BM{P:Prop}(h:P:=by(repeat(first|exact Put.done|apply Put.put|apply Put.skip))):P:=h
theorem mP{P:Prop}(h:P:=by(repeat(first|(apply SPut.here;(repeat(first|exact Put.done|apply Put.put|apply Put.skip));(repeat(first|exact Fresh.nil|(apply Fresh.cons;(first|assumption|(apply Nq.en;assumption)|omega|(simp only[Nq]at*;omega))))))|(apply SPut.next;(first|assumption|(apply Nq.en;assumption)|omega|(simp only[Nq]at*;omega)))))):P:=h
theorem cE{P:Prop}(h:P:=by(repeat(first|(apply SSet.here;(repeat(first|exact Fresh.nil|(apply Fresh.cons;(first|assumption|(apply Nq.en;assumption)|omega|(simp only[Nq]at*;omega))))))|(apply SSet.next;(first|assumption|(apply Nq.en;assumption)|omega|(simp only[Nq]at*;omega)))))):P:=h
theorem bK{P:Prop}(h:P:=by(repeat(first|(apply SDel.here;(repeat(first|exact Fresh.nil|(apply Fresh.cons;(first|assumption|(apply Nq.en;assumption)|omega|(simp only[Nq]at*;omega))))))|(apply SDel.next;(first|assumption|(apply Nq.en;assumption)|omega|(simp only[Nq]at*;omega)))))):P:=h
theorem tY{P:Prop}(h:P:=by(repeat(first|exact Fresh.nil|(apply Fresh.cons;(first|assumption|(apply Nq.en;assumption)|omega|(simp only[Nq]at*;omega)))))):P:=h
theorem rF{P:Prop}(h:P:=by(repeat(first|exact AEvs.nil|(apply AEvs.cons;rfl)))):P:=h
theorem yR{P:Prop}(h:P:=by(first|(simp only[Value.cells,AV.cells,List.map_cons,List.map_nil,cV,uJ];rfl)|rfl)):P:=h
theorem bD{P:Prop}(h:P:=by(first|(simp(disch:=(first|(simp only[List.mem_cons,List.not_mem_nil,true_or,or_true,or_false];done)|(focus (simp only[List.mem_cons,List.not_mem_nil,or_false,not_or];(repeat' (first|apply And.intro|(first|assumption|(apply Nq.en;assumption)|omega|(simp only[Nq]at*;omega))));done))|omega)) only[↓aFW,↓aH6,AV.cells,CA,lT,nK,pS,nL,List.nil_append,List.cons_append,List.append_nil,List.map_nil,List.map_cons,List.take_succ_cons,List.take_zero,List.drop_succ_cons,List.drop_zero,WS,kS,Nat.zero_add,Nat.add_zero,uJ,cV];rfl)|rfl)):P:=h
theorem yJ{P:Program}{n:Nat}{ops:Array Oper}{rest:List Oper}{K:ASt→Prop}{fr:Fr}{σ σ2 s1:dC}{d:Nat}{ty:TypeId}{pos: _}{af: _}{f:FuncId}{xs:List Operand}{ats:Array TypeId}{args:List AV}{v:AV}(σ1:dC)(hf:∀args w,(callFunc f args).run P w=.ok (.enter f args) w)(h:SCall P f args σ1 (fun y σ=>y=v∧σ=s1))(hK:RS P n ops rest ⟨(d,v)::fr,σ2⟩ K)(hd:Nat.ble (d+1) n=true:=by exact rfl)
  (hargs:ArgsLe ⟨fr,σ⟩ xs args:=by exact aC) (hsub:∀p∈σ1,p∈σ:=by exact aA) (he:s1++dS (σ1.map (·.1)) σ=σ2:=by exact bD):RS P n ops (⟨some d,.call { callee:=.value (.func f),args:=xs.toArray,argTypes:=ats },ty,pos,af,none⟩::rest) ⟨fr,σ⟩ K:=
 cw σ1 hf h hd hargs hsub fun _ _ hr _=>by obtain⟨rfl,rfl⟩:=hr;exact he▸hK
theorem aJ{P:Prop}(h:P:=by(refine aF0 ?_ ?_ <;>(repeat(first|exact FrLe.nil|(apply FrLe.cons;rfl;first|exact VLe.refl _ |exact VLe.any|exact VLe.empty|exact VLe.of_eq (by simp)|exact VLe.of_eq (by congr 1;omega))|exact StLe.nil|exact StLe.refl _ |(apply StLe.cons;(repeat(first|exact List.mem_cons_self|apply List.mem_cons_of_mem));first|rfl|focus (congr 1;done)|focus (simp;done)|(simp;rfl)))))):P:=h
theorem aE7{P:Prop}(h:P:=by(repeat(first|(apply KeepIs.take;rfl)|(apply KeepIs.skip;rfl)|exact KeepIs.nil))):P:=h
theorem cO{P:Prop}(h:P:=by(repeat(first|exact FDel.nil|apply FDel.hit|apply FDel.miss rfl))):P:=h
section
variable {P Q:Prop}
theorem aI(k:Q)(h:Hold Q→P:=by intro k;(repeat(first|refine cs ?_ |refine cb ?_ |refine ck ?_ |refine cx ?_ |refine cr ?_ |refine an ?_ |refine ae ?_ |refine ar ?_ |refine bn ?_ |refine bh ?_ |refine be rfl ?_ |refine br ?_ |refine ct rfl ?_ |refine cf rfl ?_));exact k.h):P:=h ⟨k⟩
theorem wO(k:Q)(h:Hold Q→P:=by intro k;(repeat(first|refine cs ?_ |refine cb ?_ |refine ck ?_ |refine cx ?_ |refine cr ?_ |refine an ?_ |refine ae ?_ |refine ar ?_ |refine bn ?_ |refine bh ?_ |refine be rfl ?_ |refine br ?_ |refine ct rfl ?_ |refine cf rfl ?_ |refine cg ?_ |refine ag ?_ |refine bg ?_ |refine jg ?_ |refine jn ?_ |refine jr ?_ |refine je ?_));exact k.h):P:=h ⟨k⟩
theorem mJ(k:Q)(h:Hold Q→P:=by intro k;(first|refine GX ?_ |refine IL ?_);exact k.h):P:=h ⟨k⟩
theorem pO(k:Q)(h:Hold Q→P:=by intro k;(apply le;exact aE7);exact k.h):P:=h ⟨k⟩
theorem CC(k:Q)(h:Hold Q→P:=by intro k;(apply de;exact aE7);exact k.h):P:=h ⟨k⟩
end
structure Tag (o:List (Nat×Bool)):Prop where
 h:True
theorem HD{o:List (Nat×Bool)}(_:Tag o){P:Program}{n:Nat}{ks:List Nat}{s:ASt}{Q:Exit→ASt→Prop}{id:Nat}{ops:Array Oper}(hm:P.follows .mixedOrders=true)(hsel:Region.noSelect ops=true)
  (hchk:(DK ops (Array.replicate ops.size false) o&&o.length==ops.size)=true) (h:RD P n ops (Array.replicate ops.size false) o [] s (wZ ks (Q .normal))):SW P n ks (.region id ops true) s Q:=CB o hm hsel hchk h
theorem fJ{P Q:Prop}(o:List (Nat×Bool))(k:Q)(h:Hold Q→Tag o→P:=by intro k t;(first|refine sw_seq_tag t mixed (by kernel_rfl) (by kernel_rfl) ?_ |refine HD t mixed (by kernel_rfl) (by kernel_rfl) ?_);exact k.h):P:=h ⟨k⟩ ⟨trivial⟩
theorem bN{S R T G:Nat→Prop}(k:∀r,R r→T r)(h:Hold (∀r,R r→T r)→∀r,S r→G r:=by intro k r h;refine k.h r ?_;(first|(simp only[aO,aT,and_true]at h;exact h)|exact trivial)):∀r,S r→G r:=h ⟨k⟩
theorem aCS{A B G:Prop}(h:B→A→G):A∧B→G:=fun⟨a,b⟩=>h b a
theorem iT{S C G:Nat→Prop}(k:∀r,C r)(h:Hold (∀r,C r)→∀r,S r→G r:=by intro k r h;first|(simp only[aO,aT,and_true]at h;revert h;(repeat refine aCS ?_);exact k.h r)|exact k.h r True.intro):∀r,S r→G r:=h ⟨k⟩
theorem aMb{S R T G:Nat→Prop}(k:∀r,R r→T r)(h:Hold (∀r,R r→T r)→∀r,S r→G r:=by intro k r h;simp(disch:=(first|(simp only[List.mem_cons,List.not_mem_nil,true_or,or_true,or_false];done)|(focus (simp only[List.mem_cons,List.not_mem_nil,or_false,not_or];(repeat' (first|apply And.intro|(first|assumption|(apply Nq.en;assumption)|omega|(simp only[Nq]at*;omega))));done))|omega)) only[aO,aT,and_true,lT,nK,pS,nL]at h;have h2:=h;(repeat(rcases h2 with⟨_,h2⟩));apply Exists.intro;apply And.intro;exact cE;exact k.h r h):∀r,S r→G r:=h ⟨k⟩
theorem bE{S C G:Nat→Prop}(k:∀r,C r)(h:Hold (∀r,C r)→∀r,S r→G r:=by intro k r h;simp(disch:=(first|(simp only[List.mem_cons,List.not_mem_nil,true_or,or_true,or_false];done)|(focus (simp only[List.mem_cons,List.not_mem_nil,or_false,not_or];(repeat' (first|apply And.intro|(first|assumption|(apply Nq.en;assumption)|omega|(simp only[Nq]at*;omega))));done))|omega)) only[aO,aT,and_true,lT,nK,pS,nL]at h;have h2:=h;(repeat(rcases h2 with⟨_,h2⟩));apply Exists.intro;apply And.intro;exact cE;revert h;(repeat refine aCS ?_);exact k.h r):∀r,S r→G r:=h ⟨k⟩
theorem fY{H R:Prop}(a:H)(h:H→R:=by intro h;replace h:=(h _ List.mem_cons_self).resolve_left (by simp only[List.mem_cons,List.not_mem_nil,or_false,exists_eq_or_imp,exists_eq_left,not_or,false_and,exists_false,not_false_eq_true];(repeat' (first|apply And.intro|exact cA));done);simp only[aO,aT,and_true]at h;exact h):R:=h a
theorem cB{H R:Prop}(a:H)(h:H→R:=by intro h;simp only[List.mem_cons,List.mem_singleton,List.not_mem_nil,or_false,forall_eq_or_imp,forall_eq,aO,aT,and_true,and_assoc]at h;exact h):R:=h a
theorem aV{H R:Prop}(a:H)(h:H→R:=by intro h;have h:=sH (h _ List.mem_cons_self);simp(disch:=(first|(simp only[List.mem_cons,List.not_mem_nil,true_or,or_true,or_false];done)|(focus (simp only[List.mem_cons,List.not_mem_nil,or_false,not_or];(repeat' (first|apply And.intro|(first|assumption|(apply Nq.en;assumption)|omega|(simp only[Nq]at*;omega))));done))|omega)) only[List.map_cons,List.map_nil,lT,nK,pS,nL,aO,aT,and_true]at h;exact h):R:=h a
theorem aAh{H R:Prop}(a:H)(h:H→R:=by intro h;have h:=sH (h _ (List.mem_cons_of_mem _ (List.mem_cons_of_mem _ List.mem_cons_self)));simp(disch:=(first|(simp only[List.mem_cons,List.not_mem_nil,true_or,or_true,or_false];done)|(focus (simp only[List.mem_cons,List.not_mem_nil,or_false,not_or];(repeat' (first|apply And.intro|(first|assumption|(apply Nq.en;assumption)|omega|(simp only[Nq]at*;omega))));done))|omega)) only[List.map_cons,List.map_nil,lT,nK,pS,nL,aO,aT,and_true]at h;exact h):R:=h a
section
variable {P Q:Prop}
theorem z0(k:Q)(h:Hold Q→P:=by intro k;(first|refine lo (kF (E rfl) (DP (by omega) (by omega))) rfl ?_ |refine lo (uK (E rfl)) rfl ?_);exact k.h):P:=h ⟨k⟩
theorem z1(k:Q)(h:Hold Q→P:=by intro k;(apply bs;exact rF;rfl;rfl;rfl;rfl;exact yR;rfl);exact k.h):P:=h ⟨k⟩
theorem z2(k:Q)(h:Hold Q→P:=by intro k;(refine lo (KE (E rfl) (E rfl) (fun _=>by first|decide|omega)) rfl ?_);exact k.h):P:=h ⟨k⟩
theorem z3(k:Q)(h:Hold Q→P:=by intro k;(refine lo (RM (E rfl) (E rfl)) rfl ?_);exact k.h):P:=h ⟨k⟩
theorem z4(k:Q)(h:Hold Q→P:=by intro k;(first|refine ln rfl rfl rfl rfl ?_ |refine lg rfl rfl (aF (E rfl)) rfl ?_);exact k.h):P:=h ⟨k⟩
theorem z5(k:Q)(h:Hold Q→P:=by intro k;(refine lg rfl rfl (iP (W rfl id) (E rfl)) rfl ?_);exact k.h):P:=h ⟨k⟩
theorem z6(k:Q)(h:Hold Q→P:=by intro k;(first|refine ln rfl rfl rfl rfl ?_ |refine lg rfl rfl (cN (W rfl id) (E rfl)) rfl ?_);exact k.h):P:=h ⟨k⟩
theorem z7(k:Q)(h:Hold Q→P:=by intro k;(first|refine lo (fH (E rfl) (W rfl (by simp))) rfl ?_ |refine lo (fI (E rfl) (E rfl)) rfl ?_ |refine lo (fD (E rfl) (W rfl (by simp)) (E rfl)) rfl ?_);exact k.h):P:=h ⟨k⟩
theorem z8(k:Q)(h:Hold Q→P:=by intro k;(first|refine ln rfl rfl rfl rfl ?_ |refine lg rfl rfl (aF (W rfl id)) rfl ?_);exact k.h):P:=h ⟨k⟩
theorem z9(k:Q)(h:Hold Q→P:=by intro k;(refine lw rfl rfl (aF (E rfl)) rfl ?_);exact k.h):P:=h ⟨k⟩
theorem z10(k:Q)(h:Hold Q→P:=by intro k;(refine lw rfl rfl (iP (W rfl (by first|exact id|simp)) (E rfl)) rfl ?_);exact k.h):P:=h ⟨k⟩
theorem z11(k:Q)(h:Hold Q→P:=by intro k;(refine lw rfl rfl (dV (W rfl (by first|exact id|simp)) (E rfl)) rfl ?_);exact k.h):P:=h ⟨k⟩
theorem z12(k:Q)(h:Hold Q→P:=by intro k;(refine lg rfl rfl (fD (W rfl id) (W rfl (by simp)) (E rfl)) rfl ?_);exact k.h):P:=h ⟨k⟩
theorem RQ(k:Q)(h:Hold Q→P:=by intro k;(first|refine lo (fI (E rfl) (W rfl (by simp))) rfl ?_ |refine lo (fD (E rfl) (E rfl) (W rfl (by simp))) rfl ?_);exact k.h):P:=h ⟨k⟩
theorem qI(k:Q)(h:Hold Q→P:=by intro k;(first|refine lo (eF (E rfl)) rfl ?_ |refine lo (fE (E rfl)) rfl ?_ |refine lo (eG (E rfl)) rfl ?_);exact k.h):P:=h ⟨k⟩
theorem UC(k:Q)(h:Hold Q→P:=by intro k;(first|refine lo (bH (E rfl) (E rfl) (fun hc=>by(simp only[List.length_map];omega))) rfl ?_ |refine lo (aW (E rfl) bC (E rfl) (fun hc=>by omega)) rfl ?_);exact k.h):P:=h ⟨k⟩
theorem z16(k:Q)(h:Hold Q→P:=by intro k;(first|refine lo (aR (E rfl) rfl (fun hc=>by first|rfl|exact aH (by assumption)|assumption|exact aH (aX (by omega))) (fun _=>rfl)) rfl ?_ |refine lo (bJ (E rfl) rfl bC (fun hc=>by first|rfl|exact aH (by assumption)|assumption|exact aH (aX (by omega))) (fun _=>rfl)) rfl ?_);exact k.h):P:=h ⟨k⟩
theorem NR(k:Q)(h:Hold Q→P:=by intro k;(first|refine lo (kR (E rfl) (E rfl) (by omega) (by omega)) rfl ?_ |refine lo (jB (E rfl) (E rfl)) rfl ?_);exact k.h):P:=h ⟨k⟩
theorem z18(k:Q)(h:Hold Q→P:=by intro k;(refine lg rfl rfl (iB (W rfl id) (E rfl)) rfl ?_);exact k.h):P:=h ⟨k⟩
theorem tF(k:Q)(h:Hold Q→P:=by intro k;(first|refine lo (mC (E rfl) (E rfl) (by omega) (by omega)) rfl ?_ |refine lo (sF (E rfl) (E rfl)) rfl ?_);exact k.h):P:=h ⟨k⟩
theorem z20(k:Q)(h:Hold Q→P:=by intro k;(refine lo (aCE (E rfl) (E rfl) (fun _=>by first|decide|omega)) rfl ?_);exact k.h):P:=h ⟨k⟩
theorem z21(k:Q)(h:Hold Q→P:=by intro k;(refine lg rfl rfl (jC (W rfl id) (W rfl id)) rfl ?_);exact k.h):P:=h ⟨k⟩
theorem z22(k:Q)(h:Hold Q→P:=by intro k;(refine lo (aCF (E rfl) (E rfl) (fun _=>by first|decide|omega)) rfl ?_);exact k.h):P:=h ⟨k⟩
theorem z23(k:Q)(h:Hold Q→P:=by intro k;(refine lo (aCG (E rfl) (E rfl) (fun _=>by first|decide|omega)) rfl ?_);exact k.h):P:=h ⟨k⟩
theorem RI(k:Q)(h:Hold Q→P:=by intro k;(first|refine lo (kF (E rfl) (BJ (by omega) (by omega))) rfl ?_ |refine lo (uK (E rfl)) rfl ?_);exact k.h):P:=h ⟨k⟩
theorem ZN(k:Q)(h:Hold Q→P:=by intro k;(first|refine fP rfl (eS (E rfl) OB.none (OB.some (E rfl) (fun _=>by first|rfl|exact(Int.toNat_of_nonneg (by omega)).symm)) (fun _=>by first|(simp only[List.length_map];omega)|omega)) rfl ?_ |refine fP rfl (eH (E rfl) bC OB.none (OB.some (E rfl) (fun _=>by first|rfl|exact(Int.toNat_of_nonneg (by omega)).symm)) (fun _=>by first|(simp only[List.length_map];omega)|omega)) rfl ?_);exact k.h):P:=h ⟨k⟩
theorem z26(k:Q)(h:Hold Q→P:=by intro k;(refine fQ rfl rfl rfl (aF (E rfl)) rfl ?_);exact k.h):P:=h ⟨k⟩
theorem z27(k:Q)(h:Hold Q→P:=by intro k;(refine fQ rfl rfl rfl (jC (W rfl id) (E rfl)) rfl ?_);exact k.h):P:=h ⟨k⟩
theorem z28(k:Q)(h:Hold Q→P:=by intro k;(refine fQ rfl rfl rfl (aF (W rfl id)) rfl ?_);exact k.h):P:=h ⟨k⟩
theorem z29(k:Q)(h:Hold Q→P:=by intro k;(refine iS rfl rfl rfl (aF (E rfl)) rfl ?_);exact k.h):P:=h ⟨k⟩
theorem z30(k:Q)(h:Hold Q→P:=by intro k;(refine iS rfl rfl rfl (KE (W rfl (by first|exact id|simp)) (W rfl (by first|exact id|simp)) (fun _=>by first|decide|omega)) rfl ?_);exact k.h):P:=h ⟨k⟩
theorem z31(k:Q)(h:Hold Q→P:=by intro k;(refine iS rfl rfl rfl (dV (W rfl (by first|exact id|simp)) (E rfl)) rfl ?_);exact k.h):P:=h ⟨k⟩
theorem z32(k:Q)(h:Hold Q→P:=by intro k;(first|refine fQ rfl rfl rfl (fH (W rfl id) (W rfl (by simp))) rfl ?_ |refine fQ rfl rfl rfl (fD (W rfl id) (W rfl (by simp)) (E rfl)) rfl ?_);exact k.h):P:=h ⟨k⟩
theorem z33(k:Q)(h:Hold Q→P:=by intro k;(refine fP rfl (fD (E rfl) (E rfl) (W rfl (by simp))) rfl ?_);exact k.h):P:=h ⟨k⟩
theorem z34(k:Q)(h:Hold Q→P:=by intro k;(first|refine ln rfl rfl rfl rfl ?_ |refine lg rfl rfl (gC (W rfl id) (E rfl)) rfl ?_);exact k.h):P:=h ⟨k⟩
theorem z44(k:Q)(h:Hold Q→P:=by intro k;(first|refine lo (kF (E rfl) (fX (by omega) (by omega))) rfl ?_ |refine lo (uK (E rfl)) rfl ?_);exact k.h):P:=h ⟨k⟩
theorem z45(k:Q)(h:Hold Q→P:=by intro k;(refine fQ rfl rfl rfl (dV (W rfl id) (E rfl)) rfl ?_);exact k.h):P:=h ⟨k⟩
theorem z46(k:Q)(h:Hold Q→P:=by intro k;(refine fP rfl (jC (E rfl) (E rfl)) rfl ?_);exact k.h):P:=h ⟨k⟩
theorem z54(k:Q)(h:Hold Q→P:=by intro k;(first|refine ln rfl rfl rfl rfl ?_ |refine lg rfl rfl (mM (W rfl id) (W rfl id)) rfl ?_);exact k.h):P:=h ⟨k⟩
theorem z55(k:Q)(h:Hold Q→P:=by intro k;(refine lg rfl rfl (mM (W rfl id) (E rfl)) rfl ?_);exact k.h):P:=h ⟨k⟩
theorem z56(k:Q)(h:Hold Q→P:=by intro k;(first|refine fP rfl (bH (E rfl) (E rfl) (fun hc=>by(simp only[List.length_map];omega))) rfl ?_ |refine fP rfl (aW (E rfl) bC (E rfl) (fun hc=>by omega)) rfl ?_);exact k.h):P:=h ⟨k⟩
theorem z57(k:Q)(h:Hold Q→P:=by intro k;(first|refine fP rfl (aR (E rfl) rfl (fun hc=>by first|rfl|exact aH (by assumption)|assumption|exact aH (aX (by omega))) (fun _=>rfl)) rfl ?_ |refine fP rfl (bJ (E rfl) rfl bC (fun hc=>by first|rfl|exact aH (by assumption)|assumption|exact aH (aX (by omega))) (fun _=>rfl)) rfl ?_);exact k.h):P:=h ⟨k⟩
theorem z58(k:Q)(h:Hold Q→P:=by intro k;(refine fP rfl (dV (E rfl) (E rfl)) rfl ?_);exact k.h):P:=h ⟨k⟩
theorem yK(k:Q)(h:Hold Q→P:=by intro k;(first|refine lo (cJ (E rfl) rfl (by decide)) rfl ?_ |refine lo (eJ (E rfl) rfl (by decide)) rfl ?_);exact k.h):P:=h ⟨k⟩
theorem tG(k:Q)(h:Hold Q→P:=by intro k;(first|refine lo (aQ (E rfl) rfl bC (fun _=>rfl)) rfl ?_ |refine lo (aQ (E rfl) rfl bC (fun _=>by assumption)) rfl ?_ |refine lo (aR (E rfl) rfl (fun hc=>by first|rfl|assumption) (fun _=>rfl)) rfl ?_);exact k.h):P:=h ⟨k⟩
theorem z61(k:Q)(h:Hold Q→P:=by intro k;(refine lg rfl rfl (cJ (E rfl) rfl (by decide)) rfl ?_);exact k.h):P:=h ⟨k⟩
theorem z62(k:Q)(h:Hold Q→P:=by intro k;(first|refine ln rfl rfl rfl rfl ?_ |refine lg rfl rfl (aQ (W rfl id) rfl bC (fun _=>rfl)) rfl ?_ |refine lg rfl rfl (aQ (W rfl id) rfl bC (fun _=>by assumption)) rfl ?_ |refine lg rfl rfl (aR (W rfl id) rfl (fun hc=>by first|rfl|assumption) (fun _=>rfl)) rfl ?_);exact k.h):P:=h ⟨k⟩
theorem z63(k:Q)(h:Hold Q→P:=by intro k;(first|refine ln rfl rfl rfl rfl ?_ |refine lg rfl rfl (eF (W rfl id)) rfl ?_ |refine lg rfl rfl (eG (W rfl id)) rfl ?_);exact k.h):P:=h ⟨k⟩
theorem z64(k:Q)(h:Hold Q→P:=by intro k;(refine lg rfl rfl (dV (W rfl id) (E rfl)) rfl ?_);exact k.h):P:=h ⟨k⟩
theorem z65(k:Q)(h:Hold Q→P:=by intro k;(refine lw rfl rfl (cJ (E rfl) rfl (by decide)) rfl ?_);exact k.h):P:=h ⟨k⟩
theorem z66(k:Q)(h:Hold Q→P:=by intro k;(first|refine lw rfl rfl (aQ (W rfl (by first|exact id|simp)) rfl bC (fun _=>rfl)) rfl ?_ |refine lw rfl rfl (aQ (W rfl (by first|exact id|simp)) rfl bC (fun _=>by assumption)) rfl ?_);exact k.h):P:=h ⟨k⟩
theorem z67(k:Q)(h:Hold Q→P:=by intro k;(first|refine ln rfl rfl rfl rfl ?_ |refine lg rfl rfl (eI (by exact W rfl id)) rfl ?_);exact k.h):P:=h ⟨k⟩
theorem uF(k:Q)(h:Hold Q→P:=by intro k;(first|refine lo (fH (E rfl) (by first|exact W rfl (by simp)|exact E rfl)) rfl ?_ |refine lo (fI (E rfl) (E rfl)) rfl ?_ |refine lo (fD (E rfl) (by first|exact W rfl (by simp)|exact E rfl) (E rfl)) rfl ?_);exact k.h):P:=h ⟨k⟩
theorem z69(k:Q)(h:Hold Q→P:=by intro k;(refine lg rfl rfl (jC (W rfl id) (E rfl)) rfl ?_);exact k.h):P:=h ⟨k⟩
theorem z70(k:Q)(h:Hold Q→P:=by intro k;(refine lg rfl rfl (cN (W rfl id) (W rfl id)) rfl ?_);exact k.h):P:=h ⟨k⟩
theorem z71(k:Q)(h:Hold Q→P:=by intro k;(first|refine lg rfl rfl (bH (W rfl id) (W rfl id) (fun hc=>by(try simp at hc)<;>(simp only[List.length_map];omega))) rfl ?_ |refine lg rfl rfl (aW (W rfl id) bC (W rfl id) (fun hc=>by(try simp at hc)<;>omega)) rfl ?_);exact k.h):P:=h ⟨k⟩
theorem z72(k:Q)(h:Hold Q→P:=by intro k;(first|refine lg rfl rfl (aR (W rfl id) rfl (fun hc=>by first|rfl|exact aH (by assumption)|assumption|exact aH (aX (by(try simp at hc)<;>omega))) (fun _=>rfl)) rfl ?_ |refine lg rfl rfl (bJ (W rfl id) rfl bC (fun hc=>by first|rfl|exact aH (by assumption)|assumption|exact aH (aX (by(try simp at hc)<;>omega))) (fun _=>rfl)) rfl ?_);exact k.h):P:=h ⟨k⟩
theorem RJ(k:Q)(h:Hold Q→P:=by intro k;(refine fP rfl (cJ (E rfl) rfl (by decide)) rfl ?_);exact k.h):P:=h ⟨k⟩
theorem z74(k:Q)(h:Hold Q→P:=by intro k;(first|refine fP rfl (aQ (E rfl) rfl bC (fun _=>rfl)) rfl ?_ |refine fP rfl (aQ (E rfl) rfl bC (fun _=>by assumption)) rfl ?_);exact k.h):P:=h ⟨k⟩
theorem z75(k:Q)(h:Hold Q→P:=by intro k;(refine fP rfl (kF (E rfl) (BJ (by omega) (by omega))) rfl ?_);exact k.h):P:=h ⟨k⟩
theorem z76(k:Q)(h:Hold Q→P:=by intro k;(first|refine lo (cW (E rfl) (.inl ⟨_,_,rfl⟩)) rfl ?_ |refine lo (cW (E rfl) (.inr (.inl ⟨_,_,_,rfl⟩))) rfl ?_ |refine lo (cW (E rfl) (.inr (.inr ⟨_,_,_,_,rfl⟩))) rfl ?_);exact k.h):P:=h ⟨k⟩
theorem z77(k:Q)(h:Hold Q→P:=by intro k;(first|refine fP rfl (cW (E rfl) (.inl ⟨_,_,rfl⟩)) rfl ?_ |refine fP rfl (cW (E rfl) (.inr (.inl ⟨_,_,_,rfl⟩))) rfl ?_ |refine fP rfl (cW (E rfl) (.inr (.inr ⟨_,_,_,_,rfl⟩))) rfl ?_);exact k.h):P:=h ⟨k⟩
theorem UD(k:Q)(h:Hold Q→P:=by intro k;(first|refine fP rfl (eF (E rfl)) rfl ?_ |refine fP rfl (eG (E rfl)) rfl ?_);exact k.h):P:=h ⟨k⟩
theorem z79(k:Q)(h:Hold Q→P:=by intro k;(refine fP rfl (cN (E rfl) (E rfl)) rfl ?_);exact k.h):P:=h ⟨k⟩
theorem z80(k:Q)(h:Hold Q→P:=by intro k;(refine lg rfl rfl (kF (W rfl id) (fX (by omega) (by omega))) rfl ?_);exact k.h):P:=h ⟨k⟩
theorem z81(k:Q)(h:Hold Q→P:=by intro k;(refine lg rfl rfl (iB (W rfl id) (W rfl id)) rfl ?_);exact k.h):P:=h ⟨k⟩
theorem z82(k:Q)(h:Hold Q→P:=by intro k;(first|refine fP rfl (mC (E rfl) (E rfl) (by omega) (by omega)) rfl ?_ |refine fP rfl (sF (E rfl) (E rfl)) rfl ?_);exact k.h):P:=h ⟨k⟩
theorem z83(k:Q)(h:Hold Q→P:=by intro k;(refine fP rfl (kF (E rfl) (fX (by omega) (by omega))) rfl ?_);exact k.h):P:=h ⟨k⟩
theorem z84(k:Q)(h:Hold Q→P:=by intro k;(first|refine fP rfl (eS (E rfl) (OB.some (E rfl) (fun _=>by first|rfl|exact(Int.toNat_of_nonneg (by omega)).symm)) OB.none (fun _=>by first|(simp only[List.length_map];omega)|omega)) rfl ?_ |refine fP rfl (eH (E rfl) bC (OB.some (E rfl) (fun _=>by first|rfl|exact(Int.toNat_of_nonneg (by omega)).symm)) OB.none (fun _=>by first|(simp only[List.length_map];omega)|omega)) rfl ?_);exact k.h):P:=h ⟨k⟩
theorem z85(k:Q)(h:Hold Q→P:=by intro k;(refine fP rfl (eN (E rfl) rfl) rfl ?_);exact k.h):P:=h ⟨k⟩
theorem z91(k:Q)(h:Hold Q→P:=by intro k;(first|refine ln rfl rfl rfl rfl ?_ |refine lg rfl rfl (cW (W rfl id) (.inl ⟨_,_,rfl⟩)) rfl ?_ |refine lg rfl rfl (cW (W rfl id) (.inr (.inl ⟨_,_,_,rfl⟩))) rfl ?_ |refine lg rfl rfl (cW (W rfl id) (.inr (.inr ⟨_,_,_,_,rfl⟩))) rfl ?_);exact k.h):P:=h ⟨k⟩
theorem z92(k:Q)(h:Hold Q→P:=by intro k;(first|refine ln rfl rfl rfl rfl ?_ |refine lg rfl rfl (cJ (W rfl id) rfl (by decide)) rfl ?_ |refine lg rfl rfl (eJ (W rfl id) rfl (by decide)) rfl ?_);exact k.h):P:=h ⟨k⟩
theorem lE(k:Q)(h:Hold Q→P:=by intro k;(refine lo (KN (by repeat(first|exact PEvs.nil|(apply PEvs.cons;exact E rfl))) (by(exact yR)) (by repeat(first|exact Fill.nil|(apply Fill.cons;rfl;rfl;rfl;(exact BM))))) rfl ?_);exact k.h):P:=h ⟨k⟩
theorem z94(k:Q)(h:Hold Q→P:=by intro k;(refine fP rfl (KN (by repeat(first|exact PEvs.nil|(apply PEvs.cons;exact E rfl))) (by(exact yR)) (by repeat(first|exact Fill.nil|(apply Fill.cons;rfl;rfl;rfl;(exact BM))))) rfl ?_);exact k.h):P:=h ⟨k⟩
theorem z95(k:Q)(h:Hold Q→P:=by intro k;(apply aKt;rfl;infer_instance;rfl;rfl;rfl;rfl;exact mP;(exact eM));exact k.h):P:=h ⟨k⟩
theorem IQ(k:Q)(h:Hold Q→P:=by intro k;(refine fP rfl (gP (E rfl) rfl bC (fun _=>Nat.le_of_ble_eq_true rfl)) rfl ?_);exact k.h):P:=h ⟨k⟩
theorem z97(k:Q)(h:Hold Q→P:=by intro k;(apply dbs;rfl;infer_instance;infer_instance;exact rF;rfl;rfl;rfl;rfl;exact yR;rfl);exact k.h):P:=h ⟨k⟩
theorem kP(k:Q)(h:Hold Q→P:=by intro k;(refine lo (gP (E rfl) rfl bC (fun _=>Nat.le_of_ble_eq_true rfl)) rfl ?_);exact k.h):P:=h ⟨k⟩
theorem aF9(k:Q)(h:Hold Q→P:=by intro k;(first|refine lo (eS (E rfl) OB.none (OB.some (E rfl) (fun _=>by first|rfl|exact(Int.toNat_of_nonneg (by omega)).symm)) (fun _=>by first|(simp only[List.length_map];omega)|omega)) rfl ?_ |refine lo (eH (E rfl) bC OB.none (OB.some (E rfl) (fun _=>by first|rfl|exact(Int.toNat_of_nonneg (by omega)).symm)) (fun _=>by first|(simp only[List.length_map];omega)|omega)) rfl ?_);exact k.h):P:=h ⟨k⟩
theorem kG(k:Q)(h:Hold Q→P:=by intro k;(first|refine ln rfl rfl rfl rfl ?_ |(refine gy rfl rfl ?_;refine lo (aF (E rfl)) rfl ?_)|refine lg rfl rfl (aF (E rfl)) rfl ?_);exact k.h):P:=h ⟨k⟩
theorem aAi(k:Q)(h:Hold Q→P:=by intro k;(first|refine ln rfl rfl rfl rfl ?_ |(refine gy rfl rfl ?_;refine lo (jC (by first|exact W rfl id|exact E rfl) (by first|exact W rfl id|exact E rfl)) rfl ?_)|refine lg rfl rfl (jC (by first|exact W rfl id|exact E rfl) (by first|exact W rfl id|exact E rfl)) rfl ?_);exact k.h):P:=h ⟨k⟩
theorem aGa(k:Q)(h:Hold Q→P:=by intro k;(first|refine lo (tD (E rfl) rfl (fun hc=>by first|rfl|exact aH (by assumption)|assumption|exact aH (aX (by omega))) (fun _=>Nat.le_of_ble_eq_true rfl)) rfl ?_ |refine lo (tE (E rfl) rfl bC (fun hc=>by first|rfl|exact aH (by assumption)|assumption|exact aH (aX (by omega))) (fun _=>Nat.le_of_ble_eq_true rfl)) rfl ?_);exact k.h):P:=h ⟨k⟩
theorem pW(k:Q)(h:Hold Q→P:=by intro k;(first|(refine gy rfl rfl ?_;refine lo (cN (by first|exact W rfl id|exact E rfl) (E rfl)) rfl ?_)|refine lg rfl rfl (cN (by first|exact W rfl id|exact E rfl) (E rfl)) rfl ?_);exact k.h):P:=h ⟨k⟩
theorem jE(k:Q)(h:Hold Q→P:=by intro k;(first|refine lo (fH (E rfl) (E rfl)) rfl ?_ |refine lo (fI (E rfl) (by first|exact W rfl (by simp)|exact E rfl)) rfl ?_ |refine lo (fD (E rfl) (E rfl) (by first|exact W rfl (by simp)|exact E rfl)) rfl ?_);exact k.h):P:=h ⟨k⟩
theorem RR(k:Q)(h:Hold Q→P:=by intro k;(first|refine ln rfl rfl rfl rfl ?_ |(refine gy rfl rfl ?_;(refine lo (cJ (E rfl) rfl (by decide)) rfl ?_))|refine lg rfl rfl (cJ (E rfl) rfl (by decide)) rfl ?_);exact k.h):P:=h ⟨k⟩
theorem aGb(k:Q)(h:Hold Q→P:=by intro k;(first|refine ln rfl rfl rfl rfl ?_ |(refine gy rfl rfl ?_;(first|refine lo (aQ (by first|exact W rfl id|exact E rfl) rfl bC (fun _=>rfl)) rfl ?_ |refine lo (aQ (by first|exact W rfl id|exact E rfl) rfl bC (fun _=>by assumption)) rfl ?_))|refine lg rfl rfl (aQ (by first|exact W rfl id|exact E rfl) rfl bC (fun _=>rfl)) rfl ?_ |refine lg rfl rfl (aQ (by first|exact W rfl id|exact E rfl) rfl bC (fun _=>by assumption)) rfl ?_);exact k.h):P:=h ⟨k⟩
theorem aAj(k:Q)(h:Hold Q→P:=by intro k;(first|refine ln rfl rfl rfl rfl ?_ |refine lg rfl rfl (dV (by first|exact W rfl id|exact E rfl) (E rfl)) rfl ?_);exact k.h):P:=h ⟨k⟩
theorem KO(k:Q)(h:Hold Q→P:=by intro k;(first|refine lo (eJ (E rfl) rfl (by decide)) rfl ?_ |refine lo (jD (E rfl) rfl (by decide)) rfl ?_);exact k.h):P:=h ⟨k⟩
theorem KP(k:Q)(h:Hold Q→P:=by intro k;(apply sto;rfl;rfl;rfl;rfl;exact cE;exact atT;exact BM;rfl);exact k.h):P:=h ⟨k⟩
theorem aGc(k:Q)(h:Hold Q→P:=by intro k;(first|refine ln rfl rfl rfl rfl ?_ |refine lg rfl rfl (mC (by first|exact W rfl id|exact E rfl) (E rfl) (by omega) (by omega)) rfl ?_);exact k.h):P:=h ⟨k⟩
theorem CD(k:Q)(h:Hold Q→P:=by intro k;(first|refine ln rfl rfl rfl rfl ?_ |refine lg rfl rfl (bH (by exact W rfl id) (by exact W rfl id) (fun hc=>by(try simp at hc)<;>(simp only[List.length_map];omega))) rfl ?_ |refine lg rfl rfl (aW (by exact W rfl id) bC (by exact W rfl id) (fun hc=>by(try simp at hc)<;>omega)) rfl ?_);exact k.h):P:=h ⟨k⟩
theorem CE(k:Q)(h:Hold Q→P:=by intro k;(first|refine ln rfl rfl rfl rfl ?_ |refine lg rfl rfl (aR (by exact W rfl id) rfl (fun hc=>by first|rfl|exact aH (by assumption)|assumption) (fun _=>rfl)) rfl ?_ |refine lg rfl rfl (bJ (by exact W rfl id) rfl bC (fun hc=>by first|rfl|exact aH (by assumption)|assumption) (fun _=>rfl)) rfl ?_);exact k.h):P:=h ⟨k⟩
theorem NS(k:Q)(h:Hold Q→P:=by intro k;(first|refine lg rfl rfl (eJ (by exact W rfl id) rfl (by decide)) rfl ?_ |refine lg rfl rfl (jD (by exact W rfl id) rfl (by decide)) rfl ?_);exact k.h):P:=h ⟨k⟩
theorem NT(k:Q)(h:Hold Q→P:=by intro k;(first|refine ln rfl rfl rfl rfl ?_ |(refine gy rfl rfl ?_;refine lo (gC (by first|exact W rfl id|exact E rfl) (E rfl)) rfl ?_)|refine lg rfl rfl (gC (by first|exact W rfl id|exact E rfl) (E rfl)) rfl ?_);exact k.h):P:=h ⟨k⟩
theorem qV(k:Q)(h:Hold Q→P:=by intro k;(first|refine ln rfl rfl rfl rfl ?_ |(refine gy rfl rfl ?_;(first|refine lo (eF (by first|exact W rfl id|exact E rfl)) rfl ?_ |refine lo (fE (by first|exact W rfl id|exact E rfl)) rfl ?_ |refine lo (eG (by first|exact W rfl id|exact E rfl)) rfl ?_))|refine lg rfl rfl (eF (by first|exact W rfl id|exact E rfl)) rfl ?_ |refine lg rfl rfl (fE (by first|exact W rfl id|exact E rfl)) rfl ?_ |refine lg rfl rfl (eG (by first|exact W rfl id|exact E rfl)) rfl ?_);exact k.h):P:=h ⟨k⟩
theorem AJ(k:Q)(h:Hold Q→P:=by intro k;(first|(refine gy rfl rfl ?_;refine lo (iB (by first|exact W rfl id|exact E rfl) (E rfl)) rfl ?_)|refine lg rfl rfl (iB (by first|exact W rfl id|exact E rfl) (E rfl)) rfl ?_);exact k.h):P:=h ⟨k⟩
theorem aIO(k:Q)(h:Hold Q→P:=by intro k;(first|refine fP rfl (tD (E rfl) rfl (fun hc=>by first|rfl|exact aH (by assumption)|assumption) (fun _=>Nat.le_of_ble_eq_true rfl)) rfl ?_ |refine fP rfl (tE (E rfl) rfl bC (fun hc=>by first|rfl|exact aH (by assumption)|assumption) (fun _=>Nat.le_of_ble_eq_true rfl)) rfl ?_);exact k.h):P:=h ⟨k⟩
theorem aCU(k:Q)(h:Hold Q→P:=by intro k;(first|refine lo (eS (E rfl) (OB.some (E rfl) (fun _=>by first|rfl|exact(Int.toNat_of_nonneg (by omega)).symm)) OB.none (fun _=>by first|(simp only[List.length_map];omega)|omega)) rfl ?_ |refine lo (eH (E rfl) bC (OB.some (E rfl) (fun _=>by first|rfl|exact(Int.toNat_of_nonneg (by omega)).symm)) OB.none (fun _=>by first|(simp only[List.length_map];omega)|omega)) rfl ?_);exact k.h):P:=h ⟨k⟩
theorem aGd(k:Q)(h:Hold Q→P:=by intro k;(first|refine ln rfl rfl rfl rfl ?_ |refine lg rfl rfl (cN (by exact W rfl id) (by exact W rfl id)) rfl ?_);exact k.h):P:=h ⟨k⟩
theorem aIP(k:Q)(h:Hold Q→P:=by intro k;(first|refine ln rfl rfl rfl rfl ?_ |(refine gy rfl rfl ?_;refine lo (uX .nil (.cons rfl .nil)) rfl ?_));exact k.h):P:=h ⟨k⟩
theorem rG(k:Q)(h:Hold Q→P:=by intro k;(first|refine ln rfl rfl rfl rfl ?_ |(refine gy rfl rfl ?_;refine lo (eI (by first|exact W rfl id|exact E rfl)) rfl ?_)|refine lg rfl rfl (eI (by first|exact W rfl id|exact E rfl)) rfl ?_);exact k.h):P:=h ⟨k⟩
theorem KQ(k:Q)(h:Hold Q→P:=by intro k;(first|refine ln rfl rfl rfl rfl ?_ |(refine gy rfl rfl ?_;refine lo (mM (by first|exact W rfl id|exact E rfl) (E rfl)) rfl ?_)|refine lg rfl rfl (mM (by first|exact W rfl id|exact E rfl) (E rfl)) rfl ?_);exact k.h):P:=h ⟨k⟩
theorem aAk(k:Q)(h:Hold Q→P:=by intro k;(refine lg rfl rfl (mM (by exact W rfl id) (by exact W rfl id)) rfl ?_);exact k.h):P:=h ⟨k⟩
theorem NU(k:Q)(h:Hold Q→P:=by intro k;(first|refine ln rfl rfl rfl rfl ?_ |(refine gy rfl rfl ?_;refine lo (aF (by first|exact W rfl id|exact E rfl)) rfl ?_)|refine lg rfl rfl (aF (by first|exact W rfl id|exact E rfl)) rfl ?_);exact k.h):P:=h ⟨k⟩
theorem aAl(k:Q)(h:Hold Q→P:=by intro k;(refine lw rfl rfl (cJ (E rfl) rfl (by decide)) rfl ?_);exact k.h):P:=h ⟨k⟩
end
theorem aAm{P Q:Prop}(k:Q)(h:Hold Q→P:=by intro k;(
     first
      |refine ln rfl rfl rfl rfl ?_
      |(refine gy rfl rfl ?_;(
       first
        |refine lo (aQ (by
         first
          |exact W rfl id
          |exact E rfl) rfl bC (fun _=>rfl)) rfl ?_
        |refine lo (aQ (by
         first
          |exact W rfl id
          |exact E rfl) rfl bC (fun _=>by assumption)) rfl ?_
        |refine lo (aR (by
         first
          |exact W rfl id
          |exact E rfl) rfl (fun hc=>by
         first
          |rfl
          |exact aH (by assumption)
          |assumption
          |exact aH (aX (by omega))) (fun _=>rfl)) rfl ?_))
      |refine lg rfl rfl (aQ (by
       first
        |exact W rfl (by
        first
         |exact id
         |simp)
        |exact E rfl) rfl bC (fun _=>rfl)) rfl ?_
      |refine lg rfl rfl (aQ (by
       first
        |exact W rfl (by
        first
         |exact id
         |simp)
        |exact E rfl) rfl bC (fun _=>by assumption)) rfl ?_
      |refine lg rfl rfl (aR (by
       first
        |exact W rfl (by
        first
         |exact id
         |simp)
        |exact E rfl) rfl (fun hc=>by
       first
        |rfl
        |exact aH (by assumption)
        |assumption
        |exact aH (aX (by(try simp at hc)<;>omega))) (fun _=>rfl)) rfl ?_
      |refine lw rfl rfl (aQ (by
       first
        |exact W rfl (by
        first
         |exact id
         |simp)
        |exact E rfl) rfl bC (fun _=>rfl)) rfl ?_
      |refine lw rfl rfl (aQ (by
       first
        |exact W rfl (by
        first
         |exact id
         |simp)
        |exact E rfl) rfl bC (fun _=>by assumption)) rfl ?_
      |refine lw rfl rfl (aR (by
       first
        |exact W rfl (by
        first
         |exact id
         |simp)
        |exact E rfl) rfl (fun hc=>by
       first
        |rfl
        |exact aH (by assumption)
        |assumption
        |exact aH (aX (by(try simp at hc)<;>omega))) (fun _=>rfl)) rfl ?_
      |refine lw rfl rfl (bR (v:=.bool false)) rfl ?_);exact k.h):P:=h ⟨k⟩
section
variable {P Q:Prop}
theorem aIQ(k:Q)(h:Hold Q→P:=by intro k;(refine lw rfl rfl (gC (by first|exact W rfl (by first|exact id|simp)|exact E rfl) (E rfl)) rfl ?_);exact k.h):P:=h ⟨k⟩
theorem WV(k:Q)(h:Hold Q→P:=by intro k;(first|refine ln rfl rfl rfl rfl ?_ |(refine gy rfl rfl ?_;(first|refine lo (fH (by first|exact W rfl id|exact E rfl) (by first|exact W rfl (by simp)|exact E rfl)) rfl ?_ |refine lo (fD (by first|exact W rfl id|exact E rfl) (by first|exact W rfl (by simp)|exact E rfl) (E rfl)) rfl ?_))|refine lg rfl rfl (fH (by first|exact W rfl id|exact E rfl) (by first|exact W rfl (by simp)|exact E rfl)) rfl ?_ |refine lg rfl rfl (fD (by first|exact W rfl id|exact E rfl) (by first|exact W rfl (by simp)|exact E rfl) (E rfl)) rfl ?_);exact k.h):P:=h ⟨k⟩
theorem aK6(k:Q)(h:Hold Q→P:=by intro k;(refine lw rfl rfl (mM (by first|exact W rfl (by first|exact id|simp)|exact E rfl) (E rfl)) rfl ?_);exact k.h):P:=h ⟨k⟩
theorem aCV(k:Q)(h:Hold Q→P:=by intro k;(first|refine ln rfl rfl rfl rfl ?_ |(refine gy rfl rfl ?_;(refine lo (gP (E rfl) rfl bC (fun _=>Nat.le_of_ble_eq_true rfl)) rfl ?_))|refine lg rfl rfl (gP (E rfl) rfl bC (fun _=>Nat.le_of_ble_eq_true rfl)) rfl ?_);exact k.h):P:=h ⟨k⟩
theorem HE(k:Q)(h:Hold Q→P:=by intro k;(first|(refine gy rfl rfl ?_;(refine lo (gP (by first|exact W rfl id|exact E rfl) rfl bC (fun _=>Nat.le_of_ble_eq_true rfl)) rfl ?_))|refine lg rfl rfl (gP (by first|exact W rfl id|exact E rfl) rfl bC (fun _=>Nat.le_of_ble_eq_true rfl)) rfl ?_);exact k.h):P:=h ⟨k⟩
theorem aGe(k:Q)(h:Hold Q→P:=by intro k;(first|refine ln rfl rfl rfl rfl ?_ |refine lg rfl rfl (cW (by exact W rfl id) (.inl ⟨_,_,rfl⟩)) rfl ?_ |refine lg rfl rfl (cW (by exact W rfl id) (.inr (.inl ⟨_,_,_,rfl⟩))) rfl ?_ |refine lg rfl rfl (cW (by exact W rfl id) (.inr (.inr ⟨_,_,_,_,rfl⟩))) rfl ?_);exact k.h):P:=h ⟨k⟩
theorem aGf(k:Q)(h:Hold Q→P:=by intro k;(first|refine ln rfl rfl rfl rfl ?_ |(refine gy rfl rfl ?_;(refine lo (cJ (by first|exact W rfl id|exact E rfl) rfl (by decide)) rfl ?_))|refine lg rfl rfl (cJ (by first|exact W rfl id|exact E rfl) rfl (by decide)) rfl ?_);exact k.h):P:=h ⟨k⟩
theorem aK7(k:Q)(h:Hold Q→P:=by intro k;(refine lg rfl rfl (iB (by exact W rfl id) (by exact W rfl id)) rfl ?_);exact k.h):P:=h ⟨k⟩
theorem WW(k:Q)(h:Hold Q→P:=by intro k;(first|refine fP rfl (kR (E rfl) (E rfl) (by omega) (by omega)) rfl ?_ |refine fP rfl (jB (E rfl) (E rfl)) rfl ?_);exact k.h):P:=h ⟨k⟩
theorem aCW(k:Q)(h:Hold Q→P:=by intro k;(first|refine lo (sI (E rfl)) rfl ?_ |refine lo (zD (E rfl)) rfl ?_);exact k.h):P:=h ⟨k⟩
theorem aGg(k:Q)(h:Hold Q→P:=by intro k;(first|(refine gy rfl rfl ?_;refine lo (cN (by first|exact W rfl id|exact E rfl) (E rfl)) rfl ?_)|refine lw rfl rfl (cN (by first|exact W rfl (by first|exact id|simp)|exact E rfl) (E rfl)) rfl ?_ |refine lw rfl rfl (bR (v:=.bool false)) rfl ?_);exact k.h):P:=h ⟨k⟩
theorem aIR(k:Q)(h:Hold Q→P:=by intro k;(first|(refine gy rfl rfl ?_;(first|refine lo (fI (by first|exact W rfl id|exact E rfl) (by first|exact W rfl (by simp)|exact E rfl)) rfl ?_ |refine lo (fD (by first|exact W rfl id|exact E rfl) (E rfl) (by first|exact W rfl (by simp)|exact E rfl)) rfl ?_))|refine lg rfl rfl (fI (by first|exact W rfl id|exact E rfl) (by first|exact W rfl (by simp)|exact E rfl)) rfl ?_ |refine lg rfl rfl (fD (by first|exact W rfl id|exact E rfl) (E rfl) (by first|exact W rfl (by simp)|exact E rfl)) rfl ?_);exact k.h):P:=h ⟨k⟩
theorem aGh(k:Q)(h:Hold Q→P:=by intro k;(refine lo (aCM (E rfl) rfl rfl (fun _=>rfl)) rfl ?_);exact k.h):P:=h ⟨k⟩
theorem NV(k:Q)(h:Hold Q→P:=by intro k;(refine lo (uX (.cons rfl .nil) .nil) rfl ?_);exact k.h):P:=h ⟨k⟩
theorem aK8(k:Q)(h:Hold Q→P:=by intro k;(refine lo (uX .nil (.cons rfl (.cons rfl .nil))) rfl ?_);exact k.h):P:=h ⟨k⟩
theorem aK9(k:Q)(h:Hold Q→P:=by intro k;(refine fP rfl (uX (.cons rfl .nil) .nil) rfl ?_);exact k.h):P:=h ⟨k⟩
theorem WX(k:Q)(h:Hold Q→P:=by intro k;(refine lo (uX .nil (.cons rfl .nil)) rfl ?_);exact k.h):P:=h ⟨k⟩
theorem aGi(k:Q)(h:Hold Q→P:=by intro k;(first|refine ln rfl rfl rfl rfl ?_ |(refine gy rfl rfl ?_;refine lo (gM (by first|exact W rfl id|exact E rfl)) rfl ?_)|refine lg rfl rfl (gM (by first|exact W rfl id|exact E rfl)) rfl ?_);exact k.h):P:=h ⟨k⟩
theorem aIS(k:Q)(h:Hold Q→P:=by intro k;(first|refine ln rfl rfl rfl rfl ?_ |(refine gy rfl rfl ?_;refine lo (HU (by exact E rfl) OB.none (OB.some (by exact E rfl) (fun _=>by first|rfl|exact(Int.toNat_of_nonneg (by omega)).symm)) (fun hc=>by(try simp at hc);omega)) rfl ?_));exact k.h):P:=h ⟨k⟩
theorem aIT(k:Q)(h:Hold Q→P:=by intro k;(first|refine ln rfl rfl rfl rfl ?_ |(refine gy rfl rfl ?_;refine lo (rB (by exact E rfl) (by exact E rfl)) rfl ?_));exact k.h):P:=h ⟨k⟩
theorem sJ(k:Q)(h:Hold Q→P:=by intro k;(first|refine nO rfl rfl rfl rfl rfl ?_ |(refine gD rfl rfl rfl (aF (E rfl)) rfl ?_)|refine fQ rfl rfl rfl (aF (E rfl)) rfl ?_);exact k.h):P:=h ⟨k⟩
theorem NW(k:Q)(h:Hold Q→P:=by intro k;(first|refine nO rfl rfl rfl rfl rfl ?_ |(first|refine gD rfl rfl rfl (bH (by first|exact W rfl id|exact E rfl) (by first|exact W rfl id|exact E rfl) (fun hc=>by(simp only[List.length_map];omega))) rfl ?_ |refine gD rfl rfl rfl (aW (by first|exact W rfl id|exact E rfl) bC (by first|exact W rfl id|exact E rfl) (fun hc=>by omega)) rfl ?_)|refine fQ rfl rfl rfl (bH (by first|exact W rfl id|exact E rfl) (by first|exact W rfl id|exact E rfl) (fun hc=>by(try simp at hc)<;>(simp only[List.length_map];omega))) rfl ?_ |refine fQ rfl rfl rfl (aW (by first|exact W rfl id|exact E rfl) bC (by first|exact W rfl id|exact E rfl) (fun hc=>by(try simp at hc)<;>omega)) rfl ?_);exact k.h):P:=h ⟨k⟩
theorem NY(k:Q)(h:Hold Q→P:=by intro k;(first|refine nO rfl rfl rfl rfl rfl ?_ |(first|refine gD rfl rfl rfl (aR (by first|exact W rfl id|exact E rfl) rfl (fun hc=>by first|rfl|exact aH (by assumption)|assumption|exact aH (aX (by omega))) (fun _=>rfl)) rfl ?_ |refine gD rfl rfl rfl (bJ (by first|exact W rfl id|exact E rfl) rfl bC (fun hc=>by first|rfl|exact aH (by assumption)|assumption|exact aH (aX (by omega))) (fun _=>rfl)) rfl ?_)|refine fQ rfl rfl rfl (aR (by first|exact W rfl id|exact E rfl) rfl (fun hc=>by first|rfl|exact aH (by assumption)|assumption|exact aH (aX (by(try simp at hc)<;>omega))) (fun _=>rfl)) rfl ?_ |refine fQ rfl rfl rfl (bJ (by first|exact W rfl id|exact E rfl) rfl bC (fun hc=>by first|rfl|exact aH (by assumption)|assumption|exact aH (aX (by(try simp at hc)<;>omega))) (fun _=>rfl)) rfl ?_);exact k.h):P:=h ⟨k⟩
theorem aIU(k:Q)(h:Hold Q→P:=by intro k;(first|refine nO rfl rfl rfl rfl rfl ?_ |(refine gD rfl rfl rfl (cN (by first|exact W rfl id|exact E rfl) (by first|exact W rfl id|exact E rfl)) rfl ?_)|refine fQ rfl rfl rfl (cN (by first|exact W rfl id|exact E rfl) (by first|exact W rfl id|exact E rfl)) rfl ?_);exact k.h):P:=h ⟨k⟩
theorem aCX(k:Q)(h:Hold Q→P:=by intro k;(first|refine fP rfl (fH (E rfl) (by first|exact W rfl (by simp)|exact E rfl)) rfl ?_ |refine fP rfl (fI (E rfl) (E rfl)) rfl ?_ |refine fP rfl (fD (E rfl) (by first|exact W rfl (by simp)|exact E rfl) (E rfl)) rfl ?_);exact k.h):P:=h ⟨k⟩
theorem aLa(k:Q)(h:Hold Q→P:=by intro k;(first|refine fP rfl (eJ (E rfl) rfl (by decide)) rfl ?_ |refine fP rfl (jD (E rfl) rfl (by decide)) rfl ?_);exact k.h):P:=h ⟨k⟩
theorem NZ(k:Q)(h:Hold Q→P:=by intro k;(refine lg rfl rfl (jC (by first|exact W rfl id|exact E rfl) (E rfl)) rfl ?_);exact k.h):P:=h ⟨k⟩
theorem aLb(k:Q)(h:Hold Q→P:=by intro k;(refine lw rfl rfl (jC (by first|exact W rfl (by first|exact id|simp)|exact E rfl) (E rfl)) rfl ?_);exact k.h):P:=h ⟨k⟩
theorem aLc(k:Q)(h:Hold Q→P:=by intro k;(refine lo (xJ (E rfl) (E rfl) (fun _=>by omega) (fun _=>by assumption) (fun _=>by assumption)) rfl ?_);exact k.h):P:=h ⟨k⟩
theorem aLd(k:Q)(h:Hold Q→P:=by intro k;(refine lg rfl rfl (xJ (by exact W rfl id) (by exact W rfl id) (fun _=>by omega) (fun _=>by assumption) (fun _=>by assumption)) rfl ?_);exact k.h):P:=h ⟨k⟩
theorem aLe(k:Q)(h:Hold Q→P:=by intro k;(first|refine lg rfl rfl (kR (by exact W rfl id) (by exact W rfl id) (by omega) (by omega)) rfl ?_ |refine lg rfl rfl (lop_add64c (by exact W rfl id) (by exact W rfl id) (fun hc=>by simp at hc<;>first|omega|(have hov:=hov hc;omega))) rfl ?_);exact k.h):P:=h ⟨k⟩
theorem aLf(k:Q)(h:Hold Q→P:=by intro k;(refine lg rfl rfl (dV (by exact W rfl id) (by exact W rfl id)) rfl ?_);exact k.h):P:=h ⟨k⟩
theorem HF(k:Q)(h:Hold Q→P:=by intro k;(first|refine nO rfl rfl rfl rfl rfl ?_ |(refine gD rfl rfl rfl (cJ (E rfl) rfl (by decide)) rfl ?_)|refine fQ rfl rfl rfl (cJ (E rfl) rfl (by decide)) rfl ?_);exact k.h):P:=h ⟨k⟩
theorem yS(k:Q)(h:Hold Q→P:=by intro k;(first|refine nO rfl rfl rfl rfl rfl ?_ |(first|refine gD rfl rfl rfl (aQ (by first|exact W rfl id|exact E rfl) rfl bC (fun _=>rfl)) rfl ?_ |refine gD rfl rfl rfl (aQ (by first|exact W rfl id|exact E rfl) rfl bC (fun _=>by assumption)) rfl ?_)|refine fQ rfl rfl rfl (aQ (by first|exact W rfl id|exact E rfl) rfl bC (fun _=>rfl)) rfl ?_ |refine fQ rfl rfl rfl (aQ (by first|exact W rfl id|exact E rfl) rfl bC (fun _=>by assumption)) rfl ?_);exact k.h):P:=h ⟨k⟩
theorem aIV(k:Q)(h:Hold Q→P:=by intro k;(first|refine nO rfl rfl rfl rfl rfl ?_ |(first|refine gD rfl rfl rfl (eJ (by first|exact W rfl id|exact E rfl) rfl (by decide)) rfl ?_ |refine gD rfl rfl rfl (jD (by first|exact W rfl id|exact E rfl) rfl (by decide)) rfl ?_)|refine fQ rfl rfl rfl (eJ (by first|exact W rfl id|exact E rfl) rfl (by decide)) rfl ?_ |refine fQ rfl rfl rfl (jD (by first|exact W rfl id|exact E rfl) rfl (by decide)) rfl ?_);exact k.h):P:=h ⟨k⟩
theorem aIW(k:Q)(h:Hold Q→P:=by intro k;(first|(refine gD rfl rfl rfl (eI (by first|exact W rfl id|exact E rfl)) rfl ?_)|refine fQ rfl rfl rfl (eI (by first|exact W rfl id|exact E rfl)) rfl ?_);exact k.h):P:=h ⟨k⟩
theorem RU(k:Q)(h:Hold Q→P:=by intro k;(first|refine fP rfl (fH (E rfl) (E rfl)) rfl ?_ |refine fP rfl (fI (E rfl) (by first|exact W rfl (by simp)|exact E rfl)) rfl ?_ |refine fP rfl (fD (E rfl) (E rfl) (by first|exact W rfl (by simp)|exact E rfl)) rfl ?_);exact k.h):P:=h ⟨k⟩
theorem aLg(k:Q)(h:Hold Q→P:=by intro k;(refine fP rfl (DG (E rfl) (E rfl)) rfl ?_);exact k.h):P:=h ⟨k⟩
theorem aLh(k:Q)(h:Hold Q→P:=by intro k;(refine fQ rfl rfl rfl (dV (by exact W rfl id) (by exact W rfl id)) rfl ?_);exact k.h):P:=h ⟨k⟩
theorem aGj(k:Q)(h:Hold Q→P:=by intro k;((refine gy rfl rfl ?_;refine lo (KN (by repeat(first|exact PEvs.nil|(apply PEvs.cons;exact E rfl))) (by(exact yR)) (by repeat(first|exact Fill.nil|(apply Fill.cons;rfl;rfl;rfl;(exact BM))))) rfl ?_));exact k.h):P:=h ⟨k⟩
theorem aLi(k:Q)(h:Hold Q→P:=by intro k;((refine gy rfl rfl ?_;apply bs;exact rF;rfl;rfl;rfl;rfl;exact yR;rfl));exact k.h):P:=h ⟨k⟩
theorem aIX(k:Q)(h:Hold Q→P:=by intro k;(refine fP rfl (zD (E rfl)) rfl ?_);exact k.h):P:=h ⟨k⟩
theorem aLj(k:Q)(h:Hold Q→P:=by intro k;((refine gD rfl rfl rfl (ZU (by exact E rfl) (by exact E rfl)) rfl ?_));exact k.h):P:=h ⟨k⟩
theorem sq0(k:Q)(h:Hold Q→P:=by intro k;refine lo (cK (E rfl)) rfl ?_;refine pO ?_;exact k.h):P:=h ⟨k⟩
theorem fV(k:Q)(h:Hold Q→P:=by intro k;refine mJ ?_;refine lo (aF (E rfl)) rfl ?_;exact k.h):P:=h ⟨k⟩
theorem cM(k:Q)(h:Hold Q→P:=by intro k;refine sq0 ?_;refine aI ?_;exact k.h):P:=h ⟨k⟩
theorem cZ(k:Q)(h:Hold Q→P:=by intro k;refine aI ?_;refine mJ ?_;exact k.h):P:=h ⟨k⟩
theorem sq4(k:Q)(h:Hold Q→P:=by intro k;(first|refine nO rfl rfl rfl rfl rfl ?_ |(first|refine gD rfl rfl rfl (cW (by first|exact W rfl id|exact E rfl) (.inl ⟨_,_,rfl⟩)) rfl ?_ |refine gD rfl rfl rfl (cW (by first|exact W rfl id|exact E rfl) (.inr (.inl ⟨_,_,_,rfl⟩))) rfl ?_ |refine gD rfl rfl rfl (cW (by first|exact W rfl id|exact E rfl) (.inr (.inr ⟨_,_,_,_,rfl⟩))) rfl ?_)|refine fQ rfl rfl rfl (cW (by first|exact W rfl id|exact E rfl) (.inl ⟨_,_,rfl⟩)) rfl ?_ |refine fQ rfl rfl rfl (cW (by first|exact W rfl id|exact E rfl) (.inr (.inl ⟨_,_,_,rfl⟩))) rfl ?_ |refine fQ rfl rfl rfl (cW (by first|exact W rfl id|exact E rfl) (.inr (.inr ⟨_,_,_,_,rfl⟩))) rfl ?_);(first|refine nO rfl rfl rfl rfl rfl ?_ |(first|refine gD rfl rfl rfl (cJ (by first|exact W rfl id|exact E rfl) rfl (by decide)) rfl ?_ |refine gD rfl rfl rfl (eJ (by first|exact W rfl id|exact E rfl) rfl (by decide)) rfl ?_)|refine fQ rfl rfl rfl (cJ (by first|exact W rfl id|exact E rfl) rfl (by decide)) rfl ?_ |refine fQ rfl rfl rfl (eJ (by first|exact W rfl id|exact E rfl) rfl (by decide)) rfl ?_);exact k.h):P:=h ⟨k⟩
theorem iI(k:Q)(h:Hold Q→P:=by intro k;refine pO ?_;refine aI ?_;exact k.h):P:=h ⟨k⟩
theorem kQ(k:Q)(h:Hold Q→P:=by intro k;refine fV ?_;refine lo (aF (E rfl)) rfl ?_;exact k.h):P:=h ⟨k⟩
theorem OA(k:Q)(h:Hold Q→P:=by intro k;refine lo (cN (E rfl) (E rfl)) rfl ?_;refine cM ?_;exact k.h):P:=h ⟨k⟩
theorem UE(k:Q)(h:Hold Q→P:=by intro k;refine yS ?_;(first|refine nO rfl rfl rfl rfl rfl ?_ |(first|refine gD rfl rfl rfl (eF (by first|exact W rfl id|exact E rfl)) rfl ?_ |refine gD rfl rfl rfl (fE (by first|exact W rfl id|exact E rfl)) rfl ?_ |refine gD rfl rfl rfl (eG (by first|exact W rfl id|exact E rfl)) rfl ?_)|refine fQ rfl rfl rfl (eF (by first|exact W rfl id|exact E rfl)) rfl ?_ |refine fQ rfl rfl rfl (fE (by first|exact W rfl id|exact E rfl)) rfl ?_ |refine fQ rfl rfl rfl (eG (by first|exact W rfl id|exact E rfl)) rfl ?_);exact k.h):P:=h ⟨k⟩
theorem cX(k:Q)(h:Hold Q→P:=by intro k;refine aI ?_;refine fV ?_;exact k.h):P:=h ⟨k⟩
theorem fO(k:Q)(h:Hold Q→P:=by intro k;refine yK ?_;refine tG ?_;exact k.h):P:=h ⟨k⟩
theorem jF(k:Q)(h:Hold Q→P:=by intro k;refine lo (cK (E rfl)) rfl ?_;refine cM ?_;exact k.h):P:=h ⟨k⟩
theorem bF(k:Q)(h:Hold Q→P:=by intro k;refine cZ ?_;refine cM ?_;exact k.h):P:=h ⟨k⟩
theorem gT(k:Q)(h:Hold Q→P:=by intro k;apply MZ;rfl;rfl;rfl;rfl;exact mP;refine iI ?_;exact k.h):P:=h ⟨k⟩
theorem nP(k:Q)(h:Hold Q→P:=by intro k;refine lo (jC (E rfl) (E rfl)) rfl ?_;refine iI ?_;exact k.h):P:=h ⟨k⟩
theorem aCZ(k:Q)(h:Hold Q→P:=by intro k;refine lo (aF (E rfl)) rfl ?_;refine iI ?_;exact k.h):P:=h ⟨k⟩
theorem jU(k:Q)(h:Hold Q→P:=by intro k;refine lo (aF (E rfl)) rfl ?_;refine kG ?_;exact k.h):P:=h ⟨k⟩
theorem OC(k:Q)(h:Hold Q→P:=by intro k;refine fP rfl (aF (E rfl)) rfl ?_;refine z77 ?_;exact k.h):P:=h ⟨k⟩
theorem KR(k:Q)(h:Hold Q→P:=by intro k;refine lo (eN (E rfl) rfl) rfl ?_;refine lo (eN (E rfl) rfl) rfl ?_;exact k.h):P:=h ⟨k⟩
theorem WY(k:Q)(h:Hold Q→P:=by intro k;refine fP rfl (cK (E rfl)) rfl ?_;refine CC ?_;exact k.h):P:=h ⟨k⟩
theorem KS(k:Q)(h:Hold Q→P:=by intro k;refine fV ?_;(first|refine lo (cP (E rfl) (E rfl) (.inl ⟨rfl,rfl⟩)) rfl ?_ |refine lo (cP (E rfl) (E rfl) (.inr (.inl ⟨⟨_,_,rfl⟩,rfl⟩))) rfl ?_ |refine lo (cP (E rfl) (E rfl) (.inr (.inr (.inl ⟨⟨_,_,_,rfl⟩,rfl⟩)))) rfl ?_ |refine lo (cP (E rfl) (E rfl) (.inr (.inr (.inr ⟨⟨_,_,_,_,rfl⟩,rfl⟩)))) rfl ?_);exact k.h):P:=h ⟨k⟩
theorem iC(k:Q)(h:Hold Q→P:=by intro k;refine RJ ?_;refine z74 ?_;exact k.h):P:=h ⟨k⟩
theorem oE(k:Q)(h:Hold Q→P:=by intro k;unfold dH mL;(try dsimp only);apply aU;exact bD;exact k.h):P:=h ⟨k⟩
theorem wP(k:Q)(h:Hold Q→P:=by intro k;refine lo (aF (E rfl)) rfl ?_;refine RR ?_;exact k.h):P:=h ⟨k⟩
theorem aC0(k:Q)(h:Hold Q→P:=by intro k;(first|refine nO rfl rfl rfl rfl rfl ?_ |(first|refine gD rfl rfl rfl (fH (by first|exact W rfl id|exact E rfl) (E rfl)) rfl ?_ |refine gD rfl rfl rfl (fI (by first|exact W rfl id|exact E rfl) (by first|exact W rfl (by simp)|exact E rfl)) rfl ?_ |refine gD rfl rfl rfl (fD (by first|exact W rfl id|exact E rfl) (E rfl) (by first|exact W rfl (by simp)|exact E rfl)) rfl ?_)|refine fQ rfl rfl rfl (fH (by first|exact W rfl id|exact E rfl) (E rfl)) rfl ?_ |refine fQ rfl rfl rfl (fI (by first|exact W rfl id|exact E rfl) (by first|exact W rfl (by simp)|exact E rfl)) rfl ?_ |refine fQ rfl rfl rfl (fD (by first|exact W rfl id|exact E rfl) (E rfl) (by first|exact W rfl (by simp)|exact E rfl)) rfl ?_);refine aCX ?_;exact k.h):P:=h ⟨k⟩
theorem aGk(k:Q)(h:Hold Q→P:=by intro k;(first|refine nO rfl rfl rfl rfl rfl ?_ |(first|refine gD rfl rfl rfl (eF (by first|exact W rfl id|exact E rfl)) rfl ?_ |refine gD rfl rfl rfl (fE (by first|exact W rfl id|exact E rfl)) rfl ?_ |refine gD rfl rfl rfl (eG (by first|exact W rfl id|exact E rfl)) rfl ?_)|refine fQ rfl rfl rfl (eF (by first|exact W rfl id|exact E rfl)) rfl ?_ |refine fQ rfl rfl rfl (fE (by first|exact W rfl id|exact E rfl)) rfl ?_ |refine fQ rfl rfl rfl (eG (by first|exact W rfl id|exact E rfl)) rfl ?_);(first|refine nO rfl rfl rfl rfl rfl ?_ |(refine gD rfl rfl rfl (cN (by first|exact W rfl id|exact E rfl) (E rfl)) rfl ?_)|refine fQ rfl rfl rfl (cN (by first|exact W rfl id|exact E rfl) (E rfl)) rfl ?_);exact k.h):P:=h ⟨k⟩
theorem eY(k:Q)(h:Hold Q→P:=by intro k;apply aU;exact bD;refine cM ?_;exact k.h):P:=h ⟨k⟩
theorem lF(k:Q)(h:Hold Q→P:=by intro k;refine fP rfl (aF (E rfl)) rfl ?_;refine fP rfl (aF (E rfl)) rfl ?_;exact k.h):P:=h ⟨k⟩
theorem dG(k:Q)(h:Hold Q→P:=by intro k;refine aI ?_;refine kQ ?_;exact k.h):P:=h ⟨k⟩
theorem aGl(k:Q)(h:Hold Q→P:=by intro k;refine lo (aF (E rfl)) rfl ?_;refine UC ?_;exact k.h):P:=h ⟨k⟩
theorem RV(k:Q)(h:Hold Q→P:=by intro k;(first|refine nO rfl rfl rfl rfl rfl ?_ |(refine gD rfl rfl rfl (gC (by first|exact W rfl id|exact E rfl) (by first|exact W rfl id|exact E rfl)) rfl ?_)|refine fQ rfl rfl rfl (gC (by first|exact W rfl id|exact E rfl) (by first|exact W rfl id|exact E rfl)) rfl ?_);refine RU ?_;exact k.h):P:=h ⟨k⟩
theorem xQ(k:Q)(h:Hold Q→P:=by intro k;apply aU;exact bD;refine lo (aF (E rfl)) rfl ?_;exact k.h):P:=h ⟨k⟩
theorem oQ(k:Q)(h:Hold Q→P:=by intro k;refine qI ?_;refine lo (aF (E rfl)) rfl ?_;exact k.h):P:=h ⟨k⟩
theorem dE(k:Q)(h:Hold Q→P:=by intro k;refine cZ ?_;refine OA ?_;exact k.h):P:=h ⟨k⟩
theorem qH(k:Q)(h:Hold Q→P:=by intro k;refine lo (dV (E rfl) (E rfl)) rfl ?_;refine iI ?_;exact k.h):P:=h ⟨k⟩
theorem oF(k:Q)(h:Hold Q→P:=by intro k;refine lo (cK (E rfl)) rfl ?_;refine jF ?_;exact k.h):P:=h ⟨k⟩
theorem lU(k:Q)(h:Hold Q→P:=by intro k;apply MZ;rfl;rfl;rfl;rfl;exact mP;refine pO ?_;exact k.h):P:=h ⟨k⟩
theorem mQ(k:Q)(h:Hold Q→P:=by intro k;refine OC ?_;refine iC ?_;exact k.h):P:=h ⟨k⟩
theorem eP(k:Q)(h:Hold Q→P:=by intro k;refine mJ ?_;refine OA ?_;exact k.h):P:=h ⟨k⟩
theorem iX(k:Q)(h:Hold Q→P:=by intro k;refine cM ?_;refine mJ ?_;exact k.h):P:=h ⟨k⟩
theorem jG(k:Q)(h:Hold Q→P:=by intro k;apply aU;exact bD;refine iI ?_;exact k.h):P:=h ⟨k⟩
theorem eW(k:Q)(h:Hold Q→P:=by intro k;refine cX ?_;refine cM ?_;exact k.h):P:=h ⟨k⟩
theorem HG(k:Q)(h:Hold Q→P:=by intro k;refine iC ?_;refine fP rfl (aF (E rfl)) rfl ?_;exact k.h):P:=h ⟨k⟩
theorem eX(k:Q)(h:Hold Q→P:=by intro k;refine bF ?_;refine fV ?_;exact k.h):P:=h ⟨k⟩
theorem xR(k:Q)(h:Hold Q→P:=by intro k;refine lo (cN (E rfl) (E rfl)) rfl ?_;refine iI ?_;exact k.h):P:=h ⟨k⟩
theorem aIY(k:Q)(h:Hold Q→P:=by intro k;apply bQ;exact bD;(first|refine nO rfl rfl rfl rfl rfl ?_ |(first|refine gD rfl rfl rfl (cP (by first|exact W rfl id|exact E rfl) (E rfl) (.inl ⟨rfl,rfl⟩)) rfl ?_ |refine gD rfl rfl rfl (cP (by first|exact W rfl id|exact E rfl) (E rfl) (.inr (.inl ⟨⟨_,_,rfl⟩,rfl⟩))) rfl ?_ |refine gD rfl rfl rfl (cP (by first|exact W rfl id|exact E rfl) (E rfl) (.inr (.inr (.inl ⟨⟨_,_,_,rfl⟩,rfl⟩)))) rfl ?_ |refine gD rfl rfl rfl (cP (by first|exact W rfl id|exact E rfl) (E rfl) (.inr (.inr (.inr ⟨⟨_,_,_,_,rfl⟩,rfl⟩)))) rfl ?_)|refine fQ rfl rfl rfl (cP (by first|exact W rfl id|exact E rfl) (E rfl) (.inl ⟨rfl,rfl⟩)) rfl ?_ |refine fQ rfl rfl rfl (cP (by first|exact W rfl id|exact E rfl) (E rfl) (.inr (.inl ⟨⟨_,_,rfl⟩,rfl⟩))) rfl ?_ |refine fQ rfl rfl rfl (cP (by first|exact W rfl id|exact E rfl) (E rfl) (.inr (.inr (.inl ⟨⟨_,_,_,rfl⟩,rfl⟩)))) rfl ?_ |refine fQ rfl rfl rfl (cP (by first|exact W rfl id|exact E rfl) (E rfl) (.inr (.inr (.inr ⟨⟨_,_,_,_,rfl⟩,rfl⟩)))) rfl ?_);exact k.h):P:=h ⟨k⟩
theorem RW(k:Q)(h:Hold Q→P:=by intro k;refine NR ?_;refine aCZ ?_;exact k.h):P:=h ⟨k⟩
theorem gY(k:Q)(h:Hold Q→P:=by intro k;refine z76 ?_;refine fO ?_;exact k.h):P:=h ⟨k⟩
theorem aIZ(k:Q)(h:Hold Q→P:=by intro k;refine jU ?_;(first|refine ln rfl rfl rfl rfl ?_ |(refine gy rfl rfl ?_;(first|refine lo (cP (by first|exact W rfl id|exact E rfl) (E rfl) (.inl ⟨rfl,rfl⟩)) rfl ?_ |refine lo (cP (by first|exact W rfl id|exact E rfl) (E rfl) (.inr (.inl ⟨⟨_,_,rfl⟩,rfl⟩))) rfl ?_ |refine lo (cP (by first|exact W rfl id|exact E rfl) (E rfl) (.inr (.inr (.inl ⟨⟨_,_,_,rfl⟩,rfl⟩)))) rfl ?_ |refine lo (cP (by first|exact W rfl id|exact E rfl) (E rfl) (.inr (.inr (.inr ⟨⟨_,_,_,_,rfl⟩,rfl⟩)))) rfl ?_))|refine lg rfl rfl (cP (by first|exact W rfl id|exact E rfl) (E rfl) (.inl ⟨rfl,rfl⟩)) rfl ?_ |refine lg rfl rfl (cP (by first|exact W rfl id|exact E rfl) (E rfl) (.inr (.inl ⟨⟨_,_,rfl⟩,rfl⟩))) rfl ?_ |refine lg rfl rfl (cP (by first|exact W rfl id|exact E rfl) (E rfl) (.inr (.inr (.inl ⟨⟨_,_,_,rfl⟩,rfl⟩)))) rfl ?_ |refine lg rfl rfl (cP (by first|exact W rfl id|exact E rfl) (E rfl) (.inr (.inr (.inr ⟨⟨_,_,_,_,rfl⟩,rfl⟩)))) rfl ?_);exact k.h):P:=h ⟨k⟩
theorem fT(k:Q)(h:Hold Q→P:=by intro k;refine cZ ?_;refine fO ?_;exact k.h):P:=h ⟨k⟩
theorem aGm(k:Q)(h:Hold Q→P:=by intro k;refine fP rfl (cK (E rfl)) rfl ?_;refine WY ?_;exact k.h):P:=h ⟨k⟩
theorem DS(k:Q)(h:Hold Q→P:=by intro k;refine NR ?_;refine cM ?_;exact k.h):P:=h ⟨k⟩
theorem tZ(k:Q)(h:Hold Q→P:=by intro k;refine z76 ?_;refine yK ?_;exact k.h):P:=h ⟨k⟩
theorem aGn(k:Q)(h:Hold Q→P:=by intro k;refine oQ ?_;refine lo (mM (E rfl) (E rfl)) rfl ?_;exact k.h):P:=h ⟨k⟩
theorem nQ(k:Q)(h:Hold Q→P:=by intro k;refine lo (eI (E rfl)) rfl ?_;refine iI ?_;exact k.h):P:=h ⟨k⟩
theorem jM(k:Q)(h:Hold Q→P:=by intro k;refine uF ?_;refine cM ?_;exact k.h):P:=h ⟨k⟩
theorem aGo(k:Q)(h:Hold Q→P:=by intro k;refine sq4 ?_;(first|refine nO rfl rfl rfl rfl rfl ?_ |(first|refine gD rfl rfl rfl (cJ (by first|exact W rfl id|exact E rfl) rfl (by decide)) rfl ?_ |refine gD rfl rfl rfl (eJ (by first|exact W rfl id|exact E rfl) rfl (by decide)) rfl ?_)|refine fQ rfl rfl rfl (cJ (by first|exact W rfl id|exact E rfl) rfl (by decide)) rfl ?_ |refine fQ rfl rfl rfl (eJ (by first|exact W rfl id|exact E rfl) rfl (by decide)) rfl ?_);exact k.h):P:=h ⟨k⟩
theorem mR(k:Q)(h:Hold Q→P:=by intro k;refine wP ?_;refine aGb ?_;exact k.h):P:=h ⟨k⟩
theorem lJ(k:Q)(h:Hold Q→P:=by intro k;refine cX ?_;refine DS ?_;exact k.h):P:=h ⟨k⟩
theorem xS(k:Q)(h:Hold Q→P:=by intro k;refine lo (aF (E rfl)) rfl ?_;refine z4 ?_;exact k.h):P:=h ⟨k⟩
theorem yT(k:Q)(h:Hold Q→P:=by intro k;refine fO ?_;refine qI ?_;exact k.h):P:=h ⟨k⟩
theorem gA(k:Q)(h:Hold Q→P:=by intro k;refine cZ ?_;refine nP ?_;exact k.h):P:=h ⟨k⟩
theorem jV(k:Q)(h:Hold Q→P:=by intro k;refine mJ ?_;refine cM ?_;exact k.h):P:=h ⟨k⟩
theorem aLk(k:Q)(h:Hold Q→P:=by intro k;refine lo (cK (E rfl)) rfl ?_;refine sq0 ?_;exact k.h):P:=h ⟨k⟩
theorem aLl(k:Q)(h:Hold Q→P:=by intro k;refine lo (aF (E rfl)) rfl ?_;refine z61 ?_;exact k.h):P:=h ⟨k⟩
theorem jH(k:Q)(h:Hold Q→P:=by intro k;refine cZ ?_;refine RW ?_;exact k.h):P:=h ⟨k⟩
theorem gZ(k:Q)(h:Hold Q→P:=by intro k;refine cM ?_;refine fV ?_;exact k.h):P:=h ⟨k⟩
theorem uS(k:Q)(h:Hold Q→P:=by intro k;refine fP rfl (aF (E rfl)) rfl ?_;refine sJ ?_;exact k.h):P:=h ⟨k⟩
theorem iJ(k:Q)(h:Hold Q→P:=by intro k;refine iX ?_;refine fO ?_;exact k.h):P:=h ⟨k⟩
theorem sK(k:Q)(h:Hold Q→P:=by intro k;refine lo (aF (E rfl)) rfl ?_;refine KR ?_;exact k.h):P:=h ⟨k⟩
theorem jI(k:Q)(h:Hold Q→P:=by intro k;refine CC ?_;refine aI ?_;exact k.h):P:=h ⟨k⟩
theorem xT(k:Q)(h:Hold Q→P:=by intro k;refine qI ?_;refine lo (iB (E rfl) (E rfl)) rfl ?_;exact k.h):P:=h ⟨k⟩
theorem nR(k:Q)(h:Hold Q→P:=by intro k;refine qI ?_;refine aCZ ?_;exact k.h):P:=h ⟨k⟩
theorem aGp(k:Q)(h:Hold Q→P:=by intro k;(first|refine nO rfl rfl rfl rfl rfl ?_ |(refine gD rfl rfl rfl (iB (by first|exact W rfl id|exact E rfl) (by first|exact W rfl id|exact E rfl)) rfl ?_)|refine fQ rfl rfl rfl (iB (by first|exact W rfl id|exact E rfl) (by first|exact W rfl id|exact E rfl)) rfl ?_);refine RU ?_;exact k.h):P:=h ⟨k⟩
theorem aGq(k:Q)(h:Hold Q→P:=by intro k;refine qV ?_;(first|refine ln rfl rfl rfl rfl ?_ |(refine gy rfl rfl ?_;refine lo (gC (by first|exact W rfl id|exact E rfl) (by first|exact W rfl id|exact E rfl)) rfl ?_)|refine lg rfl rfl (gC (by first|exact W rfl id|exact E rfl) (by first|exact W rfl id|exact E rfl)) rfl ?_);exact k.h):P:=h ⟨k⟩
theorem oR(k:Q)(h:Hold Q→P:=by intro k;refine iI ?_;refine fV ?_;exact k.h):P:=h ⟨k⟩
theorem lK(k:Q)(h:Hold Q→P:=by intro k;refine tZ ?_;refine gT ?_;exact k.h):P:=h ⟨k⟩
theorem yU(k:Q)(h:Hold Q→P:=by intro k;refine lo (gC (E rfl) (E rfl)) rfl ?_;refine cM ?_;exact k.h):P:=h ⟨k⟩
theorem HI(k:Q)(h:Hold Q→P:=by intro k;refine lo (aF (E rfl)) rfl ?_;refine lo (aF (E rfl)) rfl ?_;exact k.h):P:=h ⟨k⟩
theorem aAn(k:Q)(h:Hold Q→P:=by intro k;(try unfold yL);(try unfold MH);(try unfold JV);(try unfold RK);(try dsimp only[List.cons_append,List.nil_append]);refine jG ?_;exact k.h):P:=h ⟨k⟩
theorem yV(k:Q)(h:Hold Q→P:=by intro k;refine UC ?_;refine aGa ?_;exact k.h):P:=h ⟨k⟩
theorem lL(k:Q)(h:Hold Q→P:=by intro k;refine bF ?_;refine kQ ?_;exact k.h):P:=h ⟨k⟩
theorem DT(k:Q)(h:Hold Q→P:=by intro k;refine lo (iB (E rfl) (E rfl)) rfl ?_;refine jU ?_;exact k.h):P:=h ⟨k⟩
theorem CF(k:Q)(h:Hold Q→P:=by intro k;refine fP rfl (aF (E rfl)) rfl ?_;refine mQ ?_;exact k.h):P:=h ⟨k⟩
theorem CG(k:Q)(h:Hold Q→P:=by intro k;refine fP rfl (aF (E rfl)) rfl ?_;refine iC ?_;exact k.h):P:=h ⟨k⟩
theorem wQ(k:Q)(h:Hold Q→P:=by intro k;refine WY ?_;refine aI ?_;exact k.h):P:=h ⟨k⟩
theorem aGr(k:Q)(h:Hold Q→P:=by intro k;(first|refine nO rfl rfl rfl rfl rfl ?_ |(refine gD rfl rfl rfl (jC (by first|exact W rfl id|exact E rfl) (E rfl)) rfl ?_)|refine fQ rfl rfl rfl (jC (by first|exact W rfl id|exact E rfl) (E rfl)) rfl ?_);refine RU ?_;exact k.h):P:=h ⟨k⟩
theorem aI0(k:Q)(h:Hold Q→P:=by intro k;refine yT ?_;refine nP ?_;exact k.h):P:=h ⟨k⟩
theorem HJ(k:Q)(h:Hold Q→P:=by intro k;apply aU;exact bD;refine lo (eI (E rfl)) rfl ?_;exact k.h):P:=h ⟨k⟩
theorem nS(k:Q)(h:Hold Q→P:=by intro k;refine jF ?_;refine fV ?_;exact k.h):P:=h ⟨k⟩
theorem aGs(k:Q)(h:Hold Q→P:=by intro k;refine z56 ?_;refine aLa ?_;exact k.h):P:=h ⟨k⟩
theorem WZ(k:Q)(h:Hold Q→P:=by intro k;refine rG ?_;refine jM ?_;exact k.h):P:=h ⟨k⟩
theorem AK(k:Q)(h:Hold Q→P:=by intro k;refine aGf ?_;refine aGb ?_;exact k.h):P:=h ⟨k⟩
theorem nT(k:Q)(h:Hold Q→P:=by intro k;refine cX ?_;refine aI0 ?_;exact k.h):P:=h ⟨k⟩
theorem CH(k:Q)(h:Hold Q→P:=by intro k;refine lo (aF (E rfl)) rfl ?_;refine qI ?_;exact k.h):P:=h ⟨k⟩
theorem aI1(k:Q)(h:Hold Q→P:=by intro k;refine fP rfl (aF (E rfl)) rfl ?_;(first|refine fP rfl (cP (E rfl) (E rfl) (.inl ⟨rfl,rfl⟩)) rfl ?_ |refine fP rfl (cP (E rfl) (E rfl) (.inr (.inl ⟨⟨_,_,rfl⟩,rfl⟩))) rfl ?_ |refine fP rfl (cP (E rfl) (E rfl) (.inr (.inr (.inl ⟨⟨_,_,_,rfl⟩,rfl⟩)))) rfl ?_ |refine fP rfl (cP (E rfl) (E rfl) (.inr (.inr (.inr ⟨⟨_,_,_,_,rfl⟩,rfl⟩)))) rfl ?_);exact k.h):P:=h ⟨k⟩
theorem aAo(k:Q)(h:Hold Q→P:=by intro k;refine aGs ?_;refine z57 ?_;exact k.h):P:=h ⟨k⟩
theorem DU(k:Q)(h:Hold Q→P:=by intro k;refine gY ?_;refine lo (aF (E rfl)) rfl ?_;exact k.h):P:=h ⟨k⟩
theorem aLm(k:Q)(h:Hold Q→P:=by intro k;refine mQ ?_;refine z95 ?_;exact k.h):P:=h ⟨k⟩
theorem HK(k:Q)(h:Hold Q→P:=by intro k;refine aLm ?_;refine aGm ?_;exact k.h):P:=h ⟨k⟩
theorem xB(k:Q)(h:Hold Q→P:=by intro k;refine lo (cK (E rfl)) rfl ?_;refine oF ?_;exact k.h):P:=h ⟨k⟩
theorem aFa(k:Q)(h:Hold Q→P:=by intro k;refine eX ?_;(first|refine lo (cQ (E rfl) (E rfl) (.inl ⟨rfl,rfl⟩)) rfl ?_ |refine lo (cQ (E rfl) (E rfl) (.inr (.inl ⟨⟨_,_,rfl⟩,rfl⟩))) rfl ?_ |refine lo (cQ (E rfl) (E rfl) (.inr (.inr (.inl ⟨⟨_,_,_,rfl⟩,rfl⟩)))) rfl ?_ |refine lo (cQ (E rfl) (E rfl) (.inr (.inr (.inr ⟨⟨_,_,_,_,rfl⟩,rfl⟩)))) rfl ?_);exact k.h):P:=h ⟨k⟩
theorem aFb(k:Q)(h:Hold Q→P:=by intro k;refine cX ?_;(first|refine lo (cQ (E rfl) (E rfl) (.inl ⟨rfl,rfl⟩)) rfl ?_ |refine lo (cQ (E rfl) (E rfl) (.inr (.inl ⟨⟨_,_,rfl⟩,rfl⟩))) rfl ?_ |refine lo (cQ (E rfl) (E rfl) (.inr (.inr (.inl ⟨⟨_,_,_,rfl⟩,rfl⟩)))) rfl ?_ |refine lo (cQ (E rfl) (E rfl) (.inr (.inr (.inr ⟨⟨_,_,_,_,rfl⟩,rfl⟩)))) rfl ?_);exact k.h):P:=h ⟨k⟩
theorem aAp(k:Q)(h:Hold Q→P:=by intro k;refine aIP ?_;refine ln rfl rfl rfl rfl ?_;exact k.h):P:=h ⟨k⟩
theorem nE(k:Q)(h:Hold Q→P:=by intro k;refine xQ ?_;refine KR ?_;exact k.h):P:=h ⟨k⟩
theorem lM(k:Q)(h:Hold Q→P:=by intro k;refine UC ?_;refine z16 ?_;exact k.h):P:=h ⟨k⟩
theorem lA(k:Q)(h:Hold Q→P:=by intro k;refine fV ?_;refine fO ?_;exact k.h):P:=h ⟨k⟩
theorem tH(k:Q)(h:Hold Q→P:=by intro k;refine uF ?_;refine iI ?_;exact k.h):P:=h ⟨k⟩
theorem lN(k:Q)(h:Hold Q→P:=by intro k;refine aLl ?_;refine z62 ?_;exact k.h):P:=h ⟨k⟩
theorem kH(k:Q)(h:Hold Q→P:=by intro k;refine uF ?_;refine jU ?_;exact k.h):P:=h ⟨k⟩
theorem UF(k:Q)(h:Hold Q→P:=by intro k;refine aLk ?_;refine an ?_;exact k.h):P:=h ⟨k⟩
theorem uT(k:Q)(h:Hold Q→P:=by intro k;refine sq0 ?_;refine an ?_;exact k.h):P:=h ⟨k⟩
theorem mS(k:Q)(h:Hold Q→P:=by intro k;refine HG ?_;refine aAo ?_;exact k.h):P:=h ⟨k⟩
theorem tI(k:Q)(h:Hold Q→P:=by intro k;apply bQ;exact bD;refine wQ ?_;exact k.h):P:=h ⟨k⟩
theorem mD(k:Q)(h:Hold Q→P:=by intro k;refine fV ?_;refine aGn ?_;exact k.h):P:=h ⟨k⟩
theorem BN(k:Q)(h:Hold Q→P:=by intro k;refine lo (cN (E rfl) (E rfl)) rfl ?_;refine mR ?_;exact k.h):P:=h ⟨k⟩
theorem oX(k:Q)(h:Hold Q→P:=by intro k;refine WY ?_;refine lJ ?_;exact k.h):P:=h ⟨k⟩
theorem lO(k:Q)(h:Hold Q→P:=by intro k;refine cM ?_;refine kQ ?_;exact k.h):P:=h ⟨k⟩
theorem BO(k:Q)(h:Hold Q→P:=by intro k;refine lo (gC (E rfl) (E rfl)) rfl ?_;refine iI ?_;exact k.h):P:=h ⟨k⟩
theorem mT(k:Q)(h:Hold Q→P:=by intro k;refine gT ?_;refine fV ?_;exact k.h):P:=h ⟨k⟩
theorem yW(k:Q)(h:Hold Q→P:=by intro k;refine lo (aF (E rfl)) rfl ?_;refine aCV ?_;exact k.h):P:=h ⟨k⟩
theorem IR(k:Q)(h:Hold Q→P:=by intro k;refine aGl ?_;refine KO ?_;exact k.h):P:=h ⟨k⟩
theorem oG(k:Q)(h:Hold Q→P:=by intro k;refine aGl ?_;refine aGa ?_;exact k.h):P:=h ⟨k⟩
theorem nF(k:Q)(h:Hold Q→P:=by intro k;refine dG ?_;refine qI ?_;exact k.h):P:=h ⟨k⟩
theorem DV(k:Q)(h:Hold Q→P:=by intro k;refine fT ?_;refine lo (gC (E rfl) (E rfl)) rfl ?_;exact k.h):P:=h ⟨k⟩
theorem oY(k:Q)(h:Hold Q→P:=by intro k;refine mR ?_;refine kG ?_;exact k.h):P:=h ⟨k⟩
theorem xC(k:Q)(h:Hold Q→P:=by intro k;apply aU;exact bD;refine WZ ?_;exact k.h):P:=h ⟨k⟩
theorem oZ(k:Q)(h:Hold Q→P:=by intro k;refine mJ ?_;refine jF ?_;exact k.h):P:=h ⟨k⟩
theorem DW(k:Q)(h:Hold Q→P:=by intro k;refine lo (cK (E rfl)) rfl ?_;refine UF ?_;exact k.h):P:=h ⟨k⟩
theorem oH(k:Q)(h:Hold Q→P:=by intro k;refine RR ?_;refine aGb ?_;exact k.h):P:=h ⟨k⟩
theorem OD(k:Q)(h:Hold Q→P:=by intro k;refine mJ ?_;refine RW ?_;exact k.h):P:=h ⟨k⟩
theorem IS(k:Q)(h:Hold Q→P:=by intro k;refine mQ ?_;refine UD ?_;exact k.h):P:=h ⟨k⟩
theorem DX(k:Q)(h:Hold Q→P:=by intro k;refine fP rfl (aF (E rfl)) rfl ?_;refine HF ?_;exact k.h):P:=h ⟨k⟩
theorem pA(k:Q)(h:Hold Q→P:=by intro k;refine aGl ?_;refine z16 ?_;exact k.h):P:=h ⟨k⟩
theorem nG(k:Q)(h:Hold Q→P:=by intro k;refine z56 ?_;refine z57 ?_;exact k.h):P:=h ⟨k⟩
theorem oI(k:Q)(h:Hold Q→P:=by intro k;refine cX ?_;refine fO ?_;exact k.h):P:=h ⟨k⟩
theorem oJ(k:Q)(h:Hold Q→P:=by intro k;refine jE ?_;refine iI ?_;exact k.h):P:=h ⟨k⟩
theorem xD(k:Q)(h:Hold Q→P:=by intro k;apply aU;exact bD;refine pO ?_;exact k.h):P:=h ⟨k⟩
theorem pB(k:Q)(h:Hold Q→P:=by intro k;refine cZ ?_;refine yV ?_;exact k.h):P:=h ⟨k⟩
theorem oK(k:Q)(h:Hold Q→P:=by intro k;refine bF ?_;refine jV ?_;exact k.h):P:=h ⟨k⟩
theorem nH(k:Q)(h:Hold Q→P:=by intro k;refine cZ ?_;refine kP ?_;exact k.h):P:=h ⟨k⟩
theorem aFc(k:Q)(h:Hold Q→P:=by intro k;refine aIP ?_;refine gy rfl rfl ?_;exact k.h):P:=h ⟨k⟩
theorem pX(k:Q)(h:Hold Q→P:=by intro k;refine oE ?_;refine oR ?_;exact k.h):P:=h ⟨k⟩
theorem aFd(k:Q)(h:Hold Q→P:=by intro k;(first|refine ln rfl rfl rfl rfl ?_ |refine lg rfl rfl (fH (W rfl id) (E rfl)) rfl ?_ |refine lg rfl rfl (fI (W rfl id) (W rfl (by simp))) rfl ?_ |refine lg rfl rfl (fD (W rfl id) (E rfl) (W rfl (by simp))) rfl ?_);refine z7 ?_;exact k.h):P:=h ⟨k⟩
theorem UG(k:Q)(h:Hold Q→P:=by intro k;refine RJ ?_;refine z95 ?_;exact k.h):P:=h ⟨k⟩
theorem pY(k:Q)(h:Hold Q→P:=by intro k;refine z56 ?_;refine aIO ?_;exact k.h):P:=h ⟨k⟩
theorem DY(k:Q)(h:Hold Q→P:=by intro k;refine dG ?_;refine lo (aF (E rfl)) rfl ?_;exact k.h):P:=h ⟨k⟩
theorem pZ(k:Q)(h:Hold Q→P:=by intro k;refine oE ?_;refine iI ?_;exact k.h):P:=h ⟨k⟩
theorem aFe(k:Q)(h:Hold Q→P:=by intro k;refine DT ?_;(first|refine ln rfl rfl rfl rfl ?_ |(refine gy rfl rfl ?_;refine lo (iP (by first|exact W rfl id|exact E rfl) (E rfl)) rfl ?_)|refine lg rfl rfl (iP (by first|exact W rfl id|exact E rfl) (E rfl)) rfl ?_);exact k.h):P:=h ⟨k⟩
theorem qA(k:Q)(h:Hold Q→P:=by intro k;refine yK ?_;refine fO ?_;exact k.h):P:=h ⟨k⟩
theorem aFf(k:Q)(h:Hold Q→P:=by intro k;refine aGk ?_;(first|refine nO rfl rfl rfl rfl rfl ?_ |(refine gD rfl rfl rfl (aF (by first|exact W rfl id|exact E rfl)) rfl ?_)|refine fQ rfl rfl rfl (aF (by first|exact W rfl id|exact E rfl)) rfl ?_);exact k.h):P:=h ⟨k⟩
theorem IT(k:Q)(h:Hold Q→P:=by intro k;refine lo (gC (E rfl) (E rfl)) rfl ?_;refine xS ?_;exact k.h):P:=h ⟨k⟩
theorem rH(k:Q)(h:Hold Q→P:=by intro k;refine cZ ?_;refine uT ?_;exact k.h):P:=h ⟨k⟩
theorem IU(k:Q)(h:Hold Q→P:=by intro k;refine lo (gC (E rfl) (E rfl)) rfl ?_;refine jU ?_;exact k.h):P:=h ⟨k⟩
theorem tJ(k:Q)(h:Hold Q→P:=by intro k;refine eY ?_;refine OD ?_;exact k.h):P:=h ⟨k⟩
theorem qJ(k:Q)(h:Hold Q→P:=by intro k;refine cX ?_;refine tZ ?_;exact k.h):P:=h ⟨k⟩
theorem rI(k:Q)(h:Hold Q→P:=by intro k;refine z77 ?_;refine UG ?_;exact k.h):P:=h ⟨k⟩
theorem UH(k:Q)(h:Hold Q→P:=by intro k;refine aGe ?_;refine AK ?_;exact k.h):P:=h ⟨k⟩
theorem IV(k:Q)(h:Hold Q→P:=by intro k;refine lo (cK (E rfl)) rfl ?_;refine gT ?_;exact k.h):P:=h ⟨k⟩
theorem rJ(k:Q)(h:Hold Q→P:=by intro k;refine IS ?_;refine z82 ?_;exact k.h):P:=h ⟨k⟩
theorem aAq(k:Q)(h:Hold Q→P:=by intro k;refine rG ?_;refine tH ?_;exact k.h):P:=h ⟨k⟩
theorem qK(k:Q)(h:Hold Q→P:=by intro k;refine bF ?_;refine mJ ?_;exact k.h):P:=h ⟨k⟩
theorem tK(k:Q)(h:Hold Q→P:=by intro k;refine IR ?_;refine z16 ?_;exact k.h):P:=h ⟨k⟩
theorem OE(k:Q)(h:Hold Q→P:=by intro k;unfold dH mL;(try dsimp only);apply bQ;exact bD;exact k.h):P:=h ⟨k⟩
theorem qL(k:Q)(h:Hold Q→P:=by intro k;refine jF ?_;refine mJ ?_;exact k.h):P:=h ⟨k⟩
theorem tL(k:Q)(h:Hold Q→P:=by intro k;refine gY ?_;refine qH ?_;exact k.h):P:=h ⟨k⟩
theorem rK(k:Q)(h:Hold Q→P:=by intro k;refine eX ?_;refine nR ?_;exact k.h):P:=h ⟨k⟩
theorem aI2(k:Q)(h:Hold Q→P:=by intro k;refine z94 ?_;refine HK ?_;exact k.h):P:=h ⟨k⟩
theorem uU(k:Q)(h:Hold Q→P:=by intro k;refine aI2 ?_;refine an ?_;exact k.h):P:=h ⟨k⟩
theorem tM(k:Q)(h:Hold Q→P:=by intro k;refine eW ?_;refine kQ ?_;exact k.h):P:=h ⟨k⟩
theorem rL(k:Q)(h:Hold Q→P:=by intro k;refine qI ?_;refine xR ?_;exact k.h):P:=h ⟨k⟩
theorem xE(k:Q)(h:Hold Q→P:=by intro k;refine cZ ?_;refine UF ?_;exact k.h):P:=h ⟨k⟩
theorem OF(k:Q)(h:Hold Q→P:=by intro k;refine nE ?_;refine lo (eN (E rfl) rfl) rfl ?_;exact k.h):P:=h ⟨k⟩
theorem OG(k:Q)(h:Hold Q→P:=by intro k;apply MZ;rfl;rfl;rfl;rfl;exact mP;refine cM ?_;exact k.h):P:=h ⟨k⟩
theorem rM(k:Q)(h:Hold Q→P:=by intro k;refine eY ?_;refine fV ?_;exact k.h):P:=h ⟨k⟩
theorem qM(k:Q)(h:Hold Q→P:=by intro k;refine lE ?_;refine lE ?_;exact k.h):P:=h ⟨k⟩
theorem rN(k:Q)(h:Hold Q→P:=by intro k;refine pO ?_;refine dE ?_;exact k.h):P:=h ⟨k⟩
theorem OH(k:Q)(h:Hold Q→P:=by intro k;refine UD ?_;refine fP rfl (aF (E rfl)) rfl ?_;exact k.h):P:=h ⟨k⟩
theorem uV(k:Q)(h:Hold Q→P:=by intro k;refine UH ?_;refine aAq ?_;exact k.h):P:=h ⟨k⟩
theorem OI(k:Q)(h:Hold Q→P:=by intro k;refine lo (jC (E rfl) (E rfl)) rfl ?_;refine xS ?_;exact k.h):P:=h ⟨k⟩
theorem tN(k:Q)(h:Hold Q→P:=by intro k;refine yT ?_;refine aCZ ?_;exact k.h):P:=h ⟨k⟩
theorem OJ(k:Q)(h:Hold Q→P:=by intro k;refine lo (jC (E rfl) (E rfl)) rfl ?_;refine jU ?_;exact k.h):P:=h ⟨k⟩
theorem xF(k:Q)(h:Hold Q→P:=by intro k;refine jU ?_;refine aFc ?_;exact k.h):P:=h ⟨k⟩
theorem aI3(k:Q)(h:Hold Q→P:=by intro k;refine jU ?_;refine aAp ?_;exact k.h):P:=h ⟨k⟩
theorem xG(k:Q)(h:Hold Q→P:=by intro k;refine aI3 ?_;refine WZ ?_;exact k.h):P:=h ⟨k⟩
theorem rO(k:Q)(h:Hold Q→P:=by intro k;refine z7 ?_;refine cM ?_;exact k.h):P:=h ⟨k⟩
end
theorem eC{P:Prop}{C:Nat→Prop}(k:∀r,C r)(h:Hold (∀r,C r)→P:=by intro k;refine z1 ?_;exact iT k.h):P:=h ⟨k⟩
theorem gQ{P:Prop}{C:Nat→Prop}(k:∀r,C r)(h:Hold (∀r,C r)→P:=by intro k;apply bx;rfl;rfl;exact yR;rfl;exact iT k.h):P:=h ⟨k⟩
theorem iO{P:Prop}{C:Nat→Prop}(k:∀r,C r)(h:Hold (∀r,C r)→P:=by intro k;apply al;rfl;exact yR;exact iT k.h):P:=h ⟨k⟩
theorem HL{P:Prop}{C:Nat→Prop}(k:∀r,C r)(h:Hold (∀r,C r)→P:=by intro k;refine z97 ?_;exact iT k.h):P:=h ⟨k⟩
theorem fz4{P:Prop}{C:Nat→Prop}(k:∀r,C r)(h:Hold (∀r,C r)→P:=by intro k;refine aLi ?_;exact iT k.h):P:=h ⟨k⟩
theorem fz5{P:Prop}{C:Nat→Prop}(k:∀r,C r)(h:Hold (∀r,C r)→P:=by intro k;apply dbx;rfl;rfl;rfl;exact yR;rfl;exact iT k.h):P:=h ⟨k⟩
def uB (n:Nat):List Nat:=if h:n<128 then [n]else(n%128+128)::uB (n / 128)
termination_by n
decreasing_by omega
theorem tO{n:Nat}(h:n<128):uB n=[n]:=by rw[uB,dif_pos h]
theorem yX{n:Nat}(h:¬n<128):uB n=(n%128+128)::uB (n / 128):=by rw[uB,dif_neg h]
theorem lP(n:Nat):∀x∈uB n,x<256:=by
 induction n using Nat.strongRecOn with
 | _ n ih=>
  by_cases h:n<128
  ·rw[tO h];simp;omega
  ·rw[yX h];intro x hx;rcases List.mem_cons.1 hx with rfl|hx
   ·omega
   ·exact ih (n / 128) (by omega) x hx
theorem hY(n:Nat):1≤(uB n).length:=by
 by_cases h:n<128
 ·rw[tO h];simp
 ·rw[yX h];simp
theorem bG:∀(k n:Nat),n<128^(k+1)→(uB n).length≤k+1
 |0,n,h=>by rw[tO (by simpa using h)];simp
 |k+1,n,h=>by
  by_cases hn:n<128
  ·rw[tO hn];simp
  ·rw[yX hn,List.length_cons];have:=bG k (n / 128) (by rw[Nat.pow_succ]at h;exact Nat.div_lt_of_lt_mul (by omega));omega
def xU:List Nat→Nat
 |[]=>0
 |b::t=>b%128+128*xU t
theorem aC1(n:Nat):xU (uB n)=n:=by
 induction n using Nat.strongRecOn with
 | _ n ih=>
  by_cases h:n<128
  ·rw[tO h];simp[xU];omega
  ·rw[yX h,xU,ih (n / 128) (by omega)];omega
theorem UI:∀(l:List Nat),xU l<128^l.length
 |[]=>by simp[xU]
 |b::t=>by
  have:=UI t;rw[xU,List.length_cons,Nat.pow_succ];omega
def eK:List Nat→Nat→Nat×Int
 | _,0=>(0,1)
 |[],_ +1=>(0,2)
 |b::t,m+1=>if b<128 then(1,0)else(if(eK t m).2=0 then((eK t m).1+1,0)else eK t m)
theorem vY:∀(bs:List Nat) (m:Nat),(eK bs m).2=0→1≤(eK bs m).1∧(eK bs m).1≤m∧(eK bs m).1≤bs.length
 |bs,0,h=>by cases bs<;>simp[eK]at h
 |[],_ +1,h=>by simp[eK]at h
 |b::t,m+1,h=>by
  have ih:=vY t m;rw[eK]at h⊢;by_cases hb:b<128
  ·rw[if_pos hb];simp
  ·rw[if_neg hb]at h⊢;by_cases h2:(eK t m).2=0
   ·rw[if_pos h2];have:=ih h2;simp;omega
   ·rw[if_neg h2]at h;exact absurd h h2
theorem UJ(rest:List Nat):∀(m n:Nat),(uB n).length≤m→eK (uB n++rest) m=((uB n).length,0)
 |0,n,h=>by have:=hY n;omega
 |m+1,n,h=>by
  by_cases hn:n<128
  ·rw[tO hn];simp[eK,hn]
  ·rw[yX hn]at h⊢;rw[List.cons_append,eK,if_neg (by omega),UJ rest m (n / 128) (by simpa using h)];simp
def lQ (bs:List Nat):Nat×Nat×Int:=
 if(eK bs 5).2≠0 then(0,0,(eK bs 5).2)
 else if uB (xU (bs.take (eK bs 5).1))=bs.take (eK bs 5).1∧xU (bs.take (eK bs 5).1)<4294967296 then(xU (bs.take (eK bs 5).1),(eK bs 5).1,0)else(0,0,1)
theorem UK{n:Nat}(hn:n<4294967296)(rest:List Nat):lQ (uB n++rest)=(n,(uB n).length,0):=by
 have hl:=bG 4 n (by omega);unfold lQ;rw[UJ rest 5 n hl];simp only[ne_eq,not_true_eq_false,if_false];rw[List.take_left,aC1,if_pos ⟨rfl,hn⟩]
theorem yY(bs:List Nat):(lQ bs).1<4294967296∧(lQ bs).2.1≤bs.length∧(lQ bs).2.1≤5:=by
 unfold lQ;split
 ·simp
 ·next h=>
  have:=vY bs 5 (by simpa using h);split
  ·next h2=>exact⟨h2.2,this.2.2,this.2.1⟩
  ·simp
def sB (n:Int):List Nat:=if h:-64≤n∧n≤63 then [(n%128).toNat]else((n%128).toNat+128)::sB (n / 128)
termination_by n.natAbs
decreasing_by omega
theorem xH{n:Int}(h:-64≤n∧n≤63):sB n=[(n%128).toNat]:=by rw[sB,dif_pos h]
theorem yZ{n:Int}(h:¬(-64≤n∧n≤63)):sB n=((n%128).toNat+128)::sB (n / 128):=by rw[sB,dif_neg h]
theorem KT(n:Int):1≤(sB n).length:=by
 by_cases h:-64≤n∧n≤63
 ·rw[xH h];simp
 ·rw[yZ h];simp
theorem aFg(m:Nat):∀(n:Int),n.natAbs≤m→∀x∈sB n,x<256:=by
 induction m with
 |zero=>intro n hn;rw[xH (by omega)];simp;omega
 |succ m ih=>
  intro n hn;by_cases h:-64≤n∧n≤63
  ·rw[xH h];simp;omega
  ·rw[yZ h];intro x hx;rcases List.mem_cons.1 hx with rfl|hx
   ·omega
   ·exact ih (n / 128) (by omega) x hx
theorem xV:∀(k:Nat) (n:Int),-(64*128^k:Nat)≤n→n<(64*128^k:Nat)→(sB n).length≤k+1
 |0,n,h,h'=>by rw[xH (by simp at h h';omega)];simp
 |k+1,n,h,h'=>by
  by_cases hn:-64≤n∧n≤63
  ·rw[xH hn];simp
  ·rw[yZ hn,List.length_cons];have e:(64*128^(k+1):Nat)=128*(64*128^k):=by rw[Nat.pow_succ];omega
   rw[e]at h h';have:=xV k (n / 128) (by omega) (by omega);omega
theorem UL(rest:List Nat):∀(m:Nat) (n:Int),(sB n).length≤m→eK (sB n++rest) m=((sB n).length,0)
 |0,n,h=>by have:=KT n;omega
 |m+1,n,h=>by
  by_cases hn:-64≤n∧n≤63
  ·rw[xH hn];rw[List.cons_append,eK,if_pos (by omega)];rfl
  ·rw[yZ hn]at h⊢;rw[List.cons_append,eK,if_neg (by omega),UL rest m (n / 128) (by simpa using h)];simp
def lV:List Nat→Int
 |[]=>0
 |[b]=>if 64≤b%128 then((b%128:Nat):Int)-128 else((b%128:Nat):Int)
 |b::c::t=>IntKind.i64.wrap (lV (c::t)*128+((b%128:Nat):Int))
theorem IW(b:Nat){t:List Nat}(h:1≤t.length):lV (b::t)=IntKind.i64.wrap (lV t*128+((b%128:Nat):Int)):=by
 cases t with
 |nil=>simp at h
 |cons c t=>rfl
theorem aC2(m:Nat):∀(n:Int),n.natAbs≤m→ -9223372036854775808≤n→n≤9223372036854775807→lV (sB n)=n:=by
 induction m with
 |zero=>intro n hn _ _;rw[xH (by omega)];simp[lV];omega
 |succ m ih=>
  intro n hn h1 h2;by_cases h:-64≤n∧n≤63
  ·rw[xH h,lV];split<;>omega
  ·rw[yZ h,IW _ (KT _),ih (n / 128) (by omega) (by omega) (by omega)];rw[IntKind.wrap_i64];omega
def nI (bits:Nat):Nat:=(bits+6) / 7
def wR (bits:Nat) (bs:List Nat):Int×Nat×Int:=
 if(eK bs (nI bits)).2≠0 then(0,0,(eK bs (nI bits)).2)
 else if sB (lV (bs.take (eK bs (nI bits)).1))=bs.take (eK bs (nI bits)).1∧(bits=32→ -2147483648≤lV (bs.take (eK bs (nI bits)).1)∧lV (bs.take (eK bs (nI bits)).1)≤2147483647)then(lV (bs.take (eK bs (nI bits)).1),(eK bs (nI bits)).1,0)else(0,0,1)
theorem aC3{bits:Nat}(hb:bits=32∨bits=64){n:Int}(h1:-9223372036854775808≤n)(h2:n≤9223372036854775807)(h3:bits=32→ -2147483648≤n∧n≤2147483647)(rest:List Nat):wR bits (sB n++rest)=(n,(sB n).length,0):=by
 have hl:(sB n).length≤nI bits:=by
  rcases hb with rfl|rfl
  ·have:=h3 rfl;exact xV 4 n (by omega) (by omega)
  ·exact xV 9 n (by omega) (by omega)
 unfold wR;rw[UL rest _ n hl];simp only[ne_eq,not_true_eq_false,if_false];rw[List.take_left,aC2 n.natAbs n (Nat.le_refl _) h1 h2,if_pos ⟨rfl,h3⟩]
theorem UM(bits:Nat)(bs:List Nat):(wR bits bs).2.1≤bs.length:=by
 unfold wR;split
 ·simp
 ·next h=>
  have:=vY bs (nI bits) (by simpa using h);split
  ·exact this.2.2
  ·simp
end Go.Proofs.YtjpdadobblffmaaGreat
namespace Go.Proofs.YtjpdadobblffmaaGreat
open Go.RowKit Go.ChangeShapes Go.WideShapes Go.ChangeAt Go.Deep
attribute [local irreducible] SW RS RD fF eB
theorem mE{l:List Nat}{x:Nat}:l.map aG++ [[.int .u8 x]]=(l++ [x]).map aG:=by simp[aG]
theorem KU{x:Nat}(h:x<256):(BitVec.ofInt IntKind.u8.bits (x:Int)).toNat=x:=by
 rw[BitVec.toNat_ofInt];simp[IntKind.bits];omega
theorem OK{x:Nat}(h:x<256):IntKind.u8.wrap ↑(BitVec.ofInt IntKind.u8.bits (x:Int)|||BitVec.ofInt IntKind.u8.bits 128).toNat=((x%128+128:Nat):Int):=by
 have h1:∀x<256,x|||128=x%128+128:=by decide
 rw[BitVec.toNat_or,KU h,show(BitVec.ofInt IntKind.u8.bits 128).toNat=128 by decide,h1 x h,IntKind.wrap_u8];omega
theorem aLo{m:Nat}:(m:Int).fdiv (2^min (Int.toNat 7) IntKind.u64.bits)=((m / 128:Nat):Int):=by
 have:(2:Int)^min (Int.toNat 7) IntKind.u64.bits=128:=by decide
 rw[this,Int.fdiv_eq_ediv_of_nonneg _ (by omega)];omega
theorem aAr(m:Nat):IntKind.u8.wrap (m:Int)=((m%256:Nat):Int):=by rw[IntKind.wrap_u8];omega
theorem aC4(m:Nat):IntKind.u8.wrap ↑(BitVec.ofInt IntKind.u8.bits (IntKind.u8.wrap (m:Int))|||BitVec.ofInt IntKind.u8.bits 128).toNat=((m%128+128:Nat):Int):=by
 rw[aAr m,OK (by omega)];omega
theorem OL{n:Nat}(h:n<18446744073709551616):(uB n).length≤10:=bG 9 n (by omega)
theorem mU(q:Nat)(vs:List Nat)(hb:vs.length≤100000000)(n:Nat)(hn:n<18446744073709551616):SCall Tryz.prog 239 [.own q 0 vs.length,.int .u64 n] [(q,.arr 5 1 (vs.map aG))]
  (fun x σ=>∃r,x=.own r 0 (vs++uB n).length∧σ=[(r,.arr 5 1 ((vs++uB n).map aG))]):=by
 have hL:=OL hn;refine bS 20 [0,1,4,6] Tryz.func239 ?_;refine bF ?_;refine scj (β:=Nat×List Nat×Nat) 0 rfl (fun b=>⟨[(0,.own b.1 0 b.2.1.length),(1,.int .u64 b.2.2)],[(b.1,.arr 5 1 (b.2.1.map aG))]⟩) (fun b=>b.2.1++uB b.2.2=vs++uB n∧b.2.2<18446744073709551616) (fun b=>b.2.2) ?_ (fun P=> ?_)
 ·rintro⟨r,us,m⟩ ⟨he,hm⟩;simp only at he hm⊢;have hcl:us.length+(uB m).length=vs.length+(uB n).length:=by rw[←List.length_append,he,List.length_append]
  have hup:=hY m;refine cX ?_;refine nP ?_;refine aB rfl (fun h=> ?_) (fun h=> ?_)
  ·have h1:m<128:=by simp at h;omega
   rw[tO h1]at he;refine dG ?_;refine z0 ?_;refine eC fun r10 h10=> ?_;intros
   apply ap (es':=(vs++uB n).map aG) (len':=(vs++uB n).length);rfl;rfl;exact bC
   ·simp
   ·exact .inr (.inr ⟨_,_,_,_,_,rfl,bC,by simp,rfl⟩)
   ·rw[←he,←mE];rfl
   ·rw[←he];simp
   ·simp[maxLen];omega
   ·simp;omega
   ·rfl
   refine bE fun r11 h11=> ?_;intros
   refine cM ?_;refine wO ?_;exact aD aE ⟨r11,by rfl,rfl⟩ aA
  ·have h1:¬m<128:=by simp at h;omega
   have hcl2:us.length+(uB (m / 128)).length+1=vs.length+(uB n).length:=by rw[yX h1]at hcl;simp at hcl;omega
   rw[yX h1]at he;refine dG ?_;refine z0 ?_;refine lo (KD (E rfl) (E rfl)) rfl ?_;refine eC fun r16 h16=> ?_;intros
   apply ap (es':=(us++ [m%128+128]).map aG) (len':=(us++ [m%128+128]).length);rfl;rfl;exact bC
   ·simp
   ·exact .inr (.inr ⟨_,_,_,_,_,rfl,bC,by simp,rfl⟩)
   ·rw[←mE,aC4];rfl
   ·simp
   ·simp[maxLen];omega
   ·simp;omega
   ·rfl
   refine bE fun r17 h17=> ?_;intros
   refine gZ ?_;refine z2 ?_;refine cM ?_;refine wO ?_;rw[aLo];refine⟨(r17,us++ [m%128+128],m / 128),⟨?_, ?_⟩, ?_, ?_⟩
   ·simpa using he
   ·show m / 128< _;omega
   ·show m / 128<m;omega
   ·exact aJ
 ·refine P (q,vs,n) _ ⟨rfl,hn⟩ ?_;exact aJ
theorem aAs(n:Int):IntKind.u8.wrap n=((n%256).toNat:Int):=by rw[IntKind.wrap_u8];omega
theorem xW{x:Nat}(h:x<256):IntKind.u8.wrap ↑(BitVec.ofInt IntKind.u8.bits (x:Int)&&&~~~BitVec.ofInt IntKind.u8.bits 128).toNat=((x%128:Nat):Int):=by
 have h1:∀x<256,x&&&127=x%128:=by decide
 rw[BitVec.toNat_and,KU h,show(~~~BitVec.ofInt IntKind.u8.bits 128).toNat=127 by decide,h1 x h,IntKind.wrap_u8];omega
theorem aAt{x:Nat}(h:x<128):IntKind.u8.wrap ↑(BitVec.ofInt IntKind.u8.bits (x:Int)&&&BitVec.ofInt IntKind.u8.bits 64).toNat=if x<64 then 0 else 64:=by
 have h1:∀x<128,x&&&64=if x<64 then 0 else 64:=by decide
 rw[BitVec.toNat_and,KU (by omega),show(BitVec.ofInt IntKind.u8.bits 64).toNat=64 by decide,h1 x h,IntKind.wrap_u8];split<;>rfl
def cS (n:Int):Nat:=(n%128).toNat
theorem UN(n:Int):cS n<128:=by unfold cS;omega
theorem XA(n:Int):IntKind.u8.wrap ↑(BitVec.ofInt IntKind.u8.bits (IntKind.u8.wrap n)&&&~~~BitVec.ofInt IntKind.u8.bits 128).toNat=(cS n:Int):=by
 rw[aAs n,xW (by omega)];unfold cS;omega
theorem aAu(n:Int):IntKind.u8.wrap ↑(BitVec.ofInt IntKind.u8.bits (cS n:Int)|||BitVec.ofInt IntKind.u8.bits 128).toNat=((cS n+128:Nat):Int):=by
 have:=UN n;rw[OK (by omega)];omega
theorem aFh{m:Int}:m.fdiv (2^min (Int.toNat 7) IntKind.i64.bits)=m / 128:=by
 have:(2:Int)^min (Int.toNat 7) IntKind.i64.bits=128:=by decide
 rw[this,Int.fdiv_eq_ediv_of_nonneg _ (by omega)]
theorem OM(q:Nat)(vs:List Nat)(hb:vs.length≤100000000)(n:Int)(hn:-9223372036854775808≤n∧n≤9223372036854775807):SCall Tryz.prog 296 [.own q 0 vs.length,.int .i64 n] [(q,.arr 5 1 (vs.map aG))]
  (fun x σ=>∃r,x=.own r 0 (vs++sB n).length∧σ=[(r,.arr 5 1 ((vs++sB n).map aG))]):=by
 have hL:(sB n).length≤10:=xV 9 n (by omega) (by omega);refine bS 36 [0,1,4,5,26] Tryz.func296 ?_;refine bF ?_;refine scj (β:=Nat×List Nat×Int) 0 rfl (fun b=>⟨[(0,.own b.1 0 b.2.1.length),(1,.int .i64 b.2.2)],[(b.1,.arr 5 1 (b.2.1.map aG))]⟩) (fun b=>b.2.1++sB b.2.2=vs++sB n∧ -9223372036854775808≤b.2.2∧b.2.2≤9223372036854775807) (fun b=>b.2.2.natAbs) ?_ (fun P=> ?_)
 ·rintro⟨r,us,m⟩ ⟨he,hm,hm2⟩;simp only at he hm hm2⊢;have hcl:us.length+(sB m).length=vs.length+(sB n).length:=by rw[←List.length_append,he,List.length_append]
  have hup:=KT m;have hc7:=UN m;refine cX ?_;refine z0 ?_;refine z3 ?_;refine cM ?_;rw[XA];refine fV ?_;refine z2 ?_;refine cM ?_;rw[aFh];refine fV ?_;refine lo (cN (E rfl) (E rfl)) rfl ?_;refine xS ?_;refine z5 ?_;refine z6 ?_;refine z7 ?_;refine xS ?_;refine z6 ?_;refine z8 ?_;refine z9 ?_;refine z10 ?_;refine z11 ?_;refine z12 ?_;refine RQ ?_;refine iI ?_;rw[aAt hc7];have hb64:(-64≤m∧m≤63)↔(m / 128=0∧cS m<64∨m / 128=-1∧¬cS m<64):=by unfold cS;omega
  refine aB rfl (fun h=> ?_) (fun h=> ?_)
  ·have h1:-64≤m∧m≤63:=by
    rw[hb64];by_cases h6:cS m<64<;>simp[h6]at h⊢<;>omega
   rw[xH h1]at he;refine dG ?_;refine eC fun r29 h29=> ?_;intros
   apply ap (es':=(vs++sB n).map aG) (len':=(vs++sB n).length);rfl;rfl;exact bC
   ·simp
   ·exact .inr (.inr ⟨_,_,_,_,_,rfl,bC,by simp,rfl⟩)
   ·rw[←he,←mE];rfl
   ·rw[←he];simp
   ·simp[maxLen];omega
   ·simp;omega
   ·rfl
   refine bE fun r30 h30=> ?_;intros
   refine cM ?_;refine wO ?_;exact aD aE ⟨r30,by rfl,rfl⟩ aA
  ·have h1:¬(-64≤m∧m≤63):=by
    rw[hb64];by_cases h6:cS m<64<;>simp[h6]at h⊢<;>omega
   have hcl2:us.length+(sB (m / 128)).length+1=vs.length+(sB n).length:=by rw[yZ h1]at hcl;simp at hcl;omega
   rw[yZ h1]at he;refine dG ?_;refine lo (KD (E rfl) (E rfl)) rfl ?_;refine eC fun r34 h34=> ?_;intros
   apply ap (es':=(us++ [cS m+128]).map aG) (len':=(us++ [cS m+128]).length);rfl;rfl;exact bC
   ·simp
   ·exact .inr (.inr ⟨_,_,_,_,_,rfl,bC,by simp,rfl⟩)
   ·rw[←mE,aAu];rfl
   ·simp
   ·simp[maxLen];omega
   ·simp;omega
   ·rfl
   refine bE fun r35 h35=> ?_;intros
   refine cM ?_;refine wO ?_;refine⟨(r35,us++ [cS m+128],m / 128),⟨?_, ?_⟩, ?_, ?_⟩
   ·simpa[cS]using he
   ·show _ ≤m / 128∧m / 128≤ _;omega
   ·show(m / 128).natAbs<m.natAbs;omega
   ·exact aJ
 ·refine P (q,vs,n) _ ⟨rfl,hn⟩ ?_;exact aJ
def HM (n:Nat) (r:Nat×Int):Nat×Int:=if r.2=0 then(r.1+n,0)else r
theorem XB(r:Nat×Int):HM 0 r=r:=by obtain⟨x,y⟩:=r;unfold HM;split<;>simp_all
theorem aAv(n k:Nat)(r:Nat×Int):HM n (HM k r)=HM (n+k) r:=by
 unfold HM;by_cases h:r.2=0<;>simp[h];omega
theorem XC{l:List Nat}{m n:Nat}(h1:n<m)(h2:n<l.length):eK (l.drop n) (m-n)=if l[n]! <128 then(1,0)else HM 1 (eK (l.drop (n+1)) (m-(n+1))):=by
 rw[List.drop_eq_getElem_cons h2,show m-n=(m-(n+1))+1 by omega,eK,getElem!_pos l n h2];rfl
theorem XD{l:List Nat}:eK l 0=(0,1):=by cases l<;>rfl
theorem aAw{m:Nat}(h:0<m):eK [] m=(0,2):=by
 cases m with
 |zero=>omega
 |succ m=>rfl
theorem sL(l:List Nat)(hl:l.length≤1000000)(bits:Int)(m:Nat)(hm:bits=32∧m=5∨bits=64∧m=10):SCall Tryz.prog 257 [.ro 1 (l.map aG) .any,.int .i64 bits] []
  (fun x σ=>x=.tup [.int .i64 ((eK l m).1:Nat),.int .i64 (eK l m).2]∧σ=[]):=by
 have hq:IntKind.i64.wrap ((bits+7-1).tdiv 7)=m:=by rcases hm with⟨rfl,rfl⟩|⟨rfl,rfl⟩<;>decide
 refine bS 37 [0,1,4,5,6,7,13,18,22,27] Tryz.func257 ?_;refine cZ ?_;refine jF ?_;refine scj (β:=Nat) 0 rfl (fun b=>⟨[(0,.ro 1 (l.map aG) .any),(6,.int .i64 b),(7,.int .i64 m)],[]⟩) (fun b=>b≤m∧b≤l.length∧eK l m=HM b (eK (l.drop b) (m-b))) (fun b=>m-b) ?_ (fun P=> ?_)
 ·rintro n ⟨hn1,hn2,he⟩;try dsimp only at hn1 hn2 he⊢
  refine dG ?_;refine OA ?_;refine aB rfl (fun h=> ?_) (fun h=> ?_)
  ·obtain rfl:n=m:=by simp at h;omega
   rw[Nat.sub_self,XD]at he;refine cZ ?_;refine jF ?_;refine wO ?_;apply aD;exact aE
   ·rw[he];exact⟨rfl,rfl⟩
   ·exact aA
  have h1:n<m:=by simp at h;omega
  refine nF ?_;refine OA ?_;refine aB rfl (fun h=> ?_) (fun h=> ?_)
  ·obtain rfl:n=l.length:=by simp at h;omega
   rw[List.drop_length,aAw (by omega)]at he;refine cZ ?_;refine jF ?_;refine wO ?_;apply aD;exact aE
   ·rw[he];exact⟨rfl,rfl⟩
   ·exact aA
  have h2:n<l.length:=by simp at h;omega
  rw[XC h1 h2]at he;refine dG ?_;refine lM ?_;refine yU ?_;refine aB rfl (fun h=> ?_) (fun h=> ?_)
  ·have h3:¬l[n]! <128:=by rw[Int.toNat_natCast]at h;first|(have:=of_decide_eq_true h;omega)|(have:=of_decide_eq_false h;omega)
   rw[if_neg h3,aAv]at he;refine lJ ?_;refine wO ?_;refine⟨n+1,⟨by omega,by omega,he⟩,by omega, ?_⟩;exact aJ
  ·have h3:l[n]! <128:=by rw[Int.toNat_natCast]at h;first|(have:=of_decide_eq_true h;omega)|(have:=of_decide_eq_false h;omega)
   rw[if_pos h3]at he;refine cX ?_;refine NR ?_;refine jF ?_;refine wO ?_;apply aD;exact aE
   ·rw[he,show HM n (1,0)=(n+1,0) by simp[HM,Nat.add_comm]];exact⟨rfl,rfl⟩
   ·exact aA
 ·refine cX ?_;refine OI ?_;refine z18 ?_;refine RQ ?_;refine iI ?_;refine aB rfl (fun h=> ?_) (fun h=> ?_)
  ·exfalso;simp at h;omega
  refine cX ?_;refine NR ?_;refine tF ?_;refine z20 ?_;refine UF ?_;rw[hq];refine P 0 _ ⟨by omega,by omega,by simp[XB]⟩ ?_;exact aJ
theorem ON(a c:List Nat)(ha:∀x∈a,x<256)(hc:∀x∈c,x<256):SCall Tryz.prog 258 [.ro 1 (a.map aG) .any,.ro 1 (c.map aG) .any] []
  (fun x σ=>x=.bool (decide (c=a))∧σ=[]):=by
 refine bS 10 [0,1,4] Tryz.func258 ?_;refine eX ?_;refine lo (sI (e:=5) (bs:=a) (E rfl)) rfl ?_;refine lo (aF (E rfl)) rfl ?_;refine lo (sI (e:=5) (bs:=c) (E rfl)) rfl ?_;refine lo (rB (E rfl) (E rfl)) rfl ?_;refine cM ?_;apply aD;exact aE
 ·refine⟨?_,rfl⟩;rw[pV ha hc];show AV.bool _=_
  congr 1
  rw[decide_eq_decide];exact eq_comm
 ·exact aA
theorem aC5{n:Nat}(hn:n<18446744073709551616):IntKind.u64.wrap (n:Int)=n:=by rw[IntKind.wrap_u64];omega
theorem XE(m:Nat):IntKind.u8.wrap (IntKind.u8.wrap ((m:Int).tmod 128)+128)=((m%128+128:Nat):Int):=by
 rw[Int.tmod_eq_emod_of_nonneg (by omega),IntKind.wrap_u8,IntKind.wrap_u8];omega
theorem XF{m:Nat}(hm:m<18446744073709551616):IntKind.u64.wrap ((m:Int).tdiv 128)=((m / 128:Nat):Int):=by
 rw[Int.tdiv_eq_ediv_of_nonneg (by omega),IntKind.wrap_u64];omega
theorem aAx(m:Int):IntKind.i64.wrap ↑(BitVec.ofInt IntKind.i64.bits m&&&BitVec.ofInt IntKind.i64.bits 127).toNat=(cS m:Int):=by
 have h1:(BitVec.ofInt IntKind.i64.bits m).toNat=(m%18446744073709551616).toNat:=by
  rw[BitVec.toNat_ofInt];simp[IntKind.bits]
 rw[BitVec.toNat_and,h1,show(BitVec.ofInt IntKind.i64.bits 127).toNat=2^7-1 by decide,Nat.and_two_pow_sub_one_eq_mod,IntKind.wrap_i64];unfold cS;omega
theorem aFi(m:Int):IntKind.u8.wrap (cS m:Int)=cS m:=by
 have:=UN m;rw[IntKind.wrap_u8];omega
theorem aAy(m:Int):IntKind.u8.wrap ((cS m:Int)+128)=((cS m+128:Nat):Int):=by
 have:=UN m;rw[IntKind.wrap_u8];omega
theorem BP(n:Nat)(hn:n<18446744073709551616):SCall Tryz.prog 252 [.int .u64 n] []
  (fun x σ=>∃r,x=.own r 0 (uB n).length∧σ=[(r,.arr 5 1 ((uB n).map aG))]):=by
 have hL:=OL hn;refine bS 20 [0,2,3,5] Tryz.func252 ?_;refine qK ?_;refine uT ?_;refine bP 3 5 1 (by decide) (k:=.nil) rfl (by decide) (fun q hq=> ?_);refine aI ?_;refine lp (β:=Nat×List Nat×Nat) (fun b=>⟨[(3,.own b.1 0 b.2.1.length),(0,.int .u64 b.2.2)],[(b.1,.arr 5 1 (b.2.1.map aG))]⟩) (fun b=>b.2.1++uB b.2.2=uB n∧b.2.2<18446744073709551616) (fun b=>b.2.2) (q,[],n) (by(exact aJ)) ⟨rfl,hn⟩ ?_;rintro⟨r,us,m⟩ ⟨he,hm⟩;simp only at he hm⊢;have hcl:us.length+(uB m).length=(uB n).length:=by rw[←List.length_append,he]
 have hup:=hY m;refine cX ?_;refine BO ?_;refine aB rfl (fun h=> ?_) (fun h=> ?_)
 ·have h1:¬m<128:=by simp at h;omega
  have hcl2:us.length+(uB (m / 128)).length+1=(uB n).length:=by rw[yX h1]at hcl;simp at hcl;omega
  rw[yX h1]at he;refine dG ?_;refine z22 ?_;refine z0 ?_;refine lo (jB (E rfl) (E rfl)) rfl ?_;refine eC fun r11 h11=> ?_;intros
  apply ap (es':=(us++ [m%128+128]).map aG) (len':=(us++ [m%128+128]).length);rfl;rfl;exact bC
  ·simp
  ·exact .inr (.inr ⟨_,_,_,_,_,rfl,bC,by simp,rfl⟩)
  ·rw[←mE,XE];rfl
  ·simp
  ·simp[maxLen];omega
  ·simp;omega
  ·rfl
  refine bE fun r12 h12=> ?_;intros
  refine gZ ?_;refine z20 ?_;refine cM ?_;refine⟨(r12,us++ [m%128+128],m / 128),⟨?_, ?_⟩, ?_, ?_⟩
  ·simpa using he
  ·show m / 128< _;omega
  ·show m / 128<m;omega
  ·rw[XF hm];exact aJ
 ·have h1:m<128:=by simp at h;omega
  rw[tO h1]at he;refine dG ?_;refine z0 ?_;refine eC fun r18 h18=> ?_;intros
  apply ap (es':=(uB n).map aG) (len':=(uB n).length);rfl;rfl;exact bC
  ·simp
  ·exact .inr (.inr ⟨_,_,_,_,_,rfl,bC,by simp,rfl⟩)
  ·rw[←he,←mE];rfl
  ·rw[←he];simp
  ·simp[maxLen];omega
  ·simp;omega
  ·rfl
  refine bE fun r19 h19=> ?_;intros
  refine cM ?_;exact aD aE ⟨r19,by rfl,rfl⟩ aA
theorem aI4(n:Int)(hn:-9223372036854775808≤n∧n≤9223372036854775807):SCall Tryz.prog 297 [.int .i64 n] []
  (fun x σ=>∃r,x=.own r 0 (sB n).length∧σ=[(r,.arr 5 1 ((sB n).map aG))]):=by
 have hL:(sB n).length≤10:=xV 9 n (by omega) (by omega);refine bS 25 [0,2,3,9] Tryz.func297 ?_;refine qK ?_;refine uT ?_;refine bP 3 5 1 (by decide) (k:=.nil) rfl (by decide) (fun q hq=> ?_);refine aI ?_;refine lp (β:=Nat×List Nat×Int) (fun b=>⟨[(3,.own b.1 0 b.2.1.length),(0,.int .i64 b.2.2)],[(b.1,.arr 5 1 (b.2.1.map aG))]⟩) (fun b=>b.2.1++sB b.2.2=sB n∧ -9223372036854775808≤b.2.2∧b.2.2≤9223372036854775807) (fun b=>b.2.2.natAbs) (q,[],n) (by(exact aJ)) ⟨rfl,hn⟩ ?_;rintro⟨r,us,m⟩ ⟨he,hm,hm2⟩;simp only at he hm hm2⊢;have hcl:us.length+(sB m).length=(sB n).length:=by rw[←List.length_append,he]
 have hup:=KT m;refine cX ?_;refine OI ?_;refine z18 ?_;refine RQ ?_;refine iI ?_;refine aB rfl (fun h=> ?_) (fun h=> ?_)
 ·have h1:¬(-64≤m∧m≤63):=by simp at h;omega
  have hcl2:us.length+(sB (m / 128)).length+1=(sB n).length:=by rw[yZ h1]at hcl;simp at hcl;omega
  rw[yZ h1]at he;refine dG ?_;refine lo (iP (E rfl) (E rfl)) rfl ?_;refine z0 ?_;refine lo (jB (E rfl) (E rfl)) rfl ?_;refine eC fun r15 h15=> ?_;intros
  apply ap (es':=(us++ [cS m+128]).map aG) (len':=(us++ [cS m+128]).length);rfl;rfl;exact bC
  ·simp
  ·exact .inr (.inr ⟨_,_,_,_,_,rfl,bC,by simp,rfl⟩)
  ·rw[←mE,aAx,aFi,aAy];rfl
  ·simp
  ·simp[maxLen];omega
  ·simp;omega
  ·rfl
  refine bE fun r16 h16=> ?_;intros
  refine gZ ?_;refine z2 ?_;refine cM ?_;refine⟨(r16,us++ [cS m+128],m / 128),⟨?_, ?_⟩, ?_, ?_⟩
  ·simpa[cS]using he
  ·show _ ≤m / 128∧m / 128≤ _;omega
  ·show(m / 128).natAbs<m.natAbs;omega
  ·rw[aFh];exact aJ
 ·have h1:-64≤m∧m≤63:=by simp at h;omega
  rw[xH h1]at he;refine dG ?_;refine lo (iP (E rfl) (E rfl)) rfl ?_;refine z0 ?_;refine eC fun r23 h23=> ?_;intros
  apply ap (es':=(sB n).map aG) (len':=(sB n).length);rfl;rfl;exact bC
  ·simp
  ·exact .inr (.inr ⟨_,_,_,_,_,rfl,bC,by simp,rfl⟩)
  ·rw[←he,←mE,aAx,aFi];rfl
  ·rw[←he];simp
  ·simp[maxLen];omega
  ·simp;omega
  ·rfl
  refine bE fun r24 h24=> ?_;intros
  refine cM ?_;exact aD aE ⟨r24,by rfl,rfl⟩ aA
theorem aAz(n:Nat)(hn:n<18446744073709551616):SCall Tryz.prog 239 [.ro 0 [] .nil,.int .u64 n] []
  (fun x σ=>∃r,x=.own r 0 (uB n).length∧σ=[(r,.arr 5 1 ((uB n).map aG))]):=
 hZ (e:=5) (sz:=1) (by decide) fun q _=>mU q [] (by simp) n hn
theorem aAA(n:Int)(hn:-9223372036854775808≤n∧n≤9223372036854775807):SCall Tryz.prog 296 [.ro 0 [] .nil,.int .i64 n] []
  (fun x σ=>∃r,x=.own r 0 (sB n).length∧σ=[(r,.arr 5 1 ((sB n).map aG))]):=
 hZ (e:=5) (sz:=1) (by decide) fun q _=>OM q [] (by simp) n hn
theorem zA{l:List Nat}(h:∀x∈l,x<256)(i:Nat):l[i]! <256:=by
 by_cases hi:i<l.length
 ·rw[getElem!_pos l i hi];exact h _ (List.getElem_mem hi)
 ·simp[hi]
theorem IX{l:List Nat}{k c:Nat}(h:c<k)(hk:k≤l.length):(l.take k).drop c=l[c]! ::(l.take k).drop (c+1):=by
 have h1:c<(l.take k).length:=by simp;omega
 rw[List.drop_eq_getElem_cons h1,List.getElem_take,getElem!_pos l c (by omega)]
theorem IY{n:Nat}(hn:n<18446744073709551616):(BitVec.ofInt IntKind.u64.bits (n:Int)).toNat=n:=by
 rw[BitVec.toNat_ofInt];simp[IntKind.bits];omega
theorem aI5{x y:Nat}(hx:x<34359738368)(hy:y<256):IntKind.u64.wrap ↑(BitVec.ofInt IntKind.u64.bits (IntKind.u64.wrap ((x:Int)*2^min (Int.toNat 7) IntKind.u64.bits))|||BitVec.ofInt IntKind.u64.bits (((y%128:Nat):Int))).toNat=((y%128+128*x:Nat):Int):=by
 have h0:(2:Int)^min (Int.toNat 7) IntKind.u64.bits=128:=by decide
 have h1:IntKind.u64.wrap ((x:Int)*128)=((x*128:Nat):Int):=by rw[IntKind.wrap_u64];omega
 rw[h0,h1,BitVec.toNat_or,IY (by omega),IY (by omega),show x*128=2^7*x by omega,←Nat.two_pow_add_eq_or_of_lt (by omega),IntKind.wrap_u64];omega
theorem aI6{x:Nat}:(x:Int).fdiv (2^min (Int.toNat 32) IntKind.u64.bits)=((x / 4294967296:Nat):Int):=by
 have:(2:Int)^min (Int.toNat 32) IntKind.u64.bits=4294967296:=by decide
 rw[this,Int.fdiv_eq_ediv_of_nonneg _ (by omega)];omega
theorem OO{l:List Nat}{k c:Nat}(hk:k≤5):xU ((l.take k).drop c)<34359738368:=by
 have h1:=UI ((l.take k).drop c);have h2:((l.take k).drop c).length≤5:=by simp;omega
 exact Nat.lt_of_lt_of_le h1 (Nat.le_trans (Nat.pow_le_pow_right (by decide) h2) (by decide))
theorem aFj(l:List Nat)(hl:l.length≤1000000)(hlt:∀x∈l,x<256):SCall Tryz.prog 166 [.ro 1 (l.map aG) .any,.int .i64 32] []
  (fun x σ=>x=.tup [.int .u64 ((lQ l).1:Nat),.int .i64 ((lQ l).2.1:Nat),.int .i64 (lQ l).2.2]∧σ=[]):=by
 refine bS 53 [0,1,4,5,6,7,8,9,10,18,22,50] Tryz.func166 ?_;refine cZ ?_;refine oF ?_;refine scj (β:=Nat) 0 rfl (fun b=>⟨[(0,.ro 1 (l.map aG) .any),(1,.int .i64 32),(7,.int .i64 ((eK l 5).1:Nat)),(9,.int .u64 (xU ((l.take (eK l 5).1).drop b):Nat)),(10,.int .i64 b)],[]⟩) (fun b=>b≤(eK l 5).1∧(eK l 5).2=0) (fun b=>b) ?_ (fun P=> ?_)
 ·rintro n ⟨hn1,hk0⟩;try dsimp only at hn1 hk0⊢
  obtain⟨hk1,hk2,hk3⟩:=vY l 5 hk0;generalize hk:(eK l 5).1=k at*;refine cX ?_;refine lo (iB (E rfl) (E rfl)) rfl ?_;refine iI ?_;refine aB rfl (fun h=> ?_) (fun h=> ?_)
  ·obtain⟨c,rfl⟩:∃c,n=c+1:=⟨n-1,by simp at h;omega⟩
   refine cX ?_;refine tF ?_;refine cM ?_;rw[show((c+1:Nat):Int)-1=(c:Nat) by omega];refine fV ?_;refine z23 ?_;refine lo (aF (E rfl)) rfl ?_;refine pA ?_;refine z3 ?_;refine RI ?_;refine lo (KD (E rfl) (E rfl)) rfl ?_;refine cM ?_;rw[Int.toNat_natCast,xW (zA hlt c),aC5 (n:=l[c]! %128) (by omega),aI5 (OO hk2) (zA hlt c)];refine wO ?_;refine⟨c,⟨by omega,hk0⟩,by omega, ?_⟩;rw[IX (c:=c) (by omega) hk3,xU];exact aJ
  ·obtain rfl:n=0:=by simp at h;omega
   rw[List.drop_zero];have hv:xU (l.take k)<34359738368:=OO (c:=0) hk2;generalize hx:xU (l.take k)=x at hv⊢;refine aI ?_;refine fJ [(0,true),(1,true),(2,true),(3,true),(4,false),(5,false),(6,true),(7,true),(8,true),(9,true),(10,true),(11,true),(12,true),(13,true),(14,true),(15,true),(16,true)] ?_;refine lF ?_;refine ZN ?_;refine fP rfl (aF (E rfl)) rfl ?_;refine pD [] rfl Tryz.call239 (aAz x (by omega)) rfl ?_ ?_ ?_ ?_
   ·exact aC
   ·exact aA
   ·exact eM
   rintro _ σ' ⟨r,rfl,rfl⟩ hr
   replace hr:=fY hr;repeat rcases hr with⟨_,hr⟩
   apply bQ;exact bD;refine dpu [r] rfl Tryz.call258 (ON (l.take k) (uB x) (fun y hy=>hlt y (List.mem_of_mem_take hy)) (lP x)) rfl ?_ aS ?_
   ·exact aP
   refine fP rfl (eI (E rfl)) rfl ?_;refine fP rfl (aF (E rfl)) rfl ?_;refine z26 ?_;refine z27 ?_;refine z28 ?_;refine z29 ?_;refine z29 ?_;refine z30 ?_;refine z31 ?_;refine z32 ?_;refine z33 ?_;refine jI ?_;have hc:(if(!decide (uB x=l.take k))=true then true else(x:Int).fdiv (2^min (Int.toNat 32) IntKind.u64.bits) !=0)= !decide (uB x=l.take k∧x<4294967296):=by
    rw[aI6];by_cases h1:uB x=l.take k
    ·by_cases h2:x<4294967296
     ·simp[h1,h2];omega
     ·simp[h1,h2];omega
    ·simp[h1]
   rw[hc];refine aB rfl (fun h=> ?_) (fun h=> ?_)
   ·have h1:¬(uB x=l.take k∧x<4294967296):=by
     rintro⟨h1,h2⟩;simp[h1]at h;omega
    refine cZ ?_;refine oF ?_;refine wO ?_;apply aD;exact aE
    ·unfold lQ;rw[if_neg (by rw[hk0];simp),hk,hx,if_neg h1];exact⟨rfl,rfl⟩
    ·exact aA
   ·have h1:uB x=l.take k∧x<4294967296:=by simpa using h
    refine dG ?_;refine oF ?_;refine wO ?_;apply aD;exact aE
    ·unfold lQ;rw[if_neg (by rw[hk0];simp),hk,hx,if_pos h1];exact⟨rfl,rfl⟩
    ·exact aA
 ·refine dG ?_
  (first|refine pu [] Tryz.call257 (sL l hl 32 5 (.inl ⟨rfl,rfl⟩)) rfl bU aS ?_ |refine vX [] rfl rfl Tryz.call257 (fun _=>(sL l hl 32 5 (.inl ⟨rfl,rfl⟩))) rfl bU aS ?_);refine sK ?_;refine nS ?_;refine qH ?_;refine aB rfl (fun h=> ?_) (fun h=> ?_)
  ·have h1:(eK l 5).2≠0:=by simpa using h
   refine cX ?_;refine oF ?_;refine wO ?_;apply aD;exact aE
   ·unfold lQ;rw[if_pos h1];exact⟨rfl,rfl⟩
   ·exact aA
  ·have h1:(eK l 5).2=0:=by simpa using h
   refine cX ?_;refine UF ?_;refine P (eK l 5).1 _ ⟨Nat.le_refl _,h1⟩ ?_;rw[show(l.take (eK l 5).1).drop (eK l 5).1=[] by rw[List.drop_eq_nil_iff];simp;omega];exact aJ
theorem aC6:∀(l:List Nat),-9223372036854775808≤lV l∧lV l≤9223372036854775807
 |[]=>by simp[lV]
 |[b]=>by rw[lV];split<;>omega
 |b::c::t=>by rw[lV,IntKind.wrap_i64];omega
def sv (l:List Nat) (k c:Nat):Int:=if c<k then lV ((l.take k).drop c)else if 64≤l[k-1]! %128 then-1 else 0
theorem aC7{l:List Nat}{k:Nat}(hk:1≤k):sv l k 0=lV (l.take k):=by
 unfold sv;rw[if_pos (by omega),List.drop_zero]
theorem aC8{l:List Nat}{k c:Nat}(h:c<k)(hk:k≤l.length):sv l k c=IntKind.i64.wrap (sv l k (c+1)*128+((l[c]! %128:Nat):Int)):=by
 unfold sv;rw[if_pos h,IX h hk];by_cases h1:c+1<k
 ·rw[if_pos h1,IW _ (by simp;omega)]
 ·obtain rfl:k=c+1:=by omega
  rw[if_neg h1,show(l.take (c+1)).drop (c+1)=[] by rw[List.drop_eq_nil_iff];simp;omega,lV,Nat.add_sub_cancel];generalize l[c]! =y;split<;>rw[IntKind.wrap_i64]<;>omega
theorem IZ(y:Int):(BitVec.ofInt IntKind.i64.bits y).toNat=(y%18446744073709551616).toNat:=by
 rw[BitVec.toNat_ofInt];simp[IntKind.bits]
theorem aGt{x:Int}{y:Nat}:IntKind.i64.wrap ↑(BitVec.ofInt IntKind.i64.bits (IntKind.i64.wrap (x*2^min (Int.toNat 7) IntKind.i64.bits))|||BitVec.ofInt IntKind.i64.bits (((y%128:Nat):Int))).toNat=IntKind.i64.wrap (x*128+((y%128:Nat):Int)):=by
 have h0:(2:Int)^min (Int.toNat 7) IntKind.i64.bits=128:=by decide
 obtain⟨z,hz⟩:∃z:Nat,(IntKind.i64.wrap (x*128)%18446744073709551616).toNat=2^7*z:=by
  refine⟨(IntKind.i64.wrap (x*128)%18446744073709551616).toNat / 128, ?_⟩;rw[IntKind.wrap_i64];omega
 have h2:(((y%128:Nat):Int)%18446744073709551616).toNat=y%128:=by omega
 rw[h0,BitVec.toNat_or,IZ,IZ,hz,h2,←Nat.two_pow_add_eq_or_of_lt (by omega)];rw[IntKind.wrap_i64]at hz;rw[IntKind.wrap_i64,IntKind.wrap_i64];omega
theorem XG{x:Nat}(h:x<256):IntKind.u8.wrap ↑(BitVec.ofInt IntKind.u8.bits (x:Int)&&&BitVec.ofInt IntKind.u8.bits 64).toNat=if x%128<64 then 0 else 64:=by
 have h1:∀x<256,x&&&64=if x%128<64 then 0 else 64:=by decide
 rw[BitVec.toNat_and,KU (by omega),show(BitVec.ofInt IntKind.u8.bits 64).toNat=64 by decide,h1 x h,IntKind.wrap_u8];split<;>rfl
theorem XH{n:Nat}(h:n<256):IntKind.i64.wrap (n:Int)=n:=by rw[IntKind.wrap_i64];omega
theorem OP{bits:Nat}(hb:bits=32∨bits=64):(bits:Int)=32∧nI bits=5∨(bits:Int)=64∧nI bits=10:=by
 rcases hb with rfl|rfl
 ·exact .inl ⟨rfl,rfl⟩
 ·exact .inr ⟨rfl,rfl⟩
theorem aLp{bits:Nat}(hb:bits=32∨bits=64){x:Int}(hv:-9223372036854775808≤x∧x≤9223372036854775807):(x.fdiv (2^min ((bits:Int)-1).toNat IntKind.i64.bits)=0∨x.fdiv (2^min ((bits:Int)-1).toNat IntKind.i64.bits)=-1)↔(bits=32→ -2147483648≤x∧x≤2147483647):=by
 rcases hb with rfl|rfl
 ·rw[show(2:Int)^min (((32:Nat):Int)-1).toNat IntKind.i64.bits=2147483648 by decide,Int.fdiv_eq_ediv_of_nonneg _ (by omega)];omega
 ·rw[show(2:Int)^min (((64:Nat):Int)-1).toNat IntKind.i64.bits=9223372036854775808 by decide,Int.fdiv_eq_ediv_of_nonneg _ (by omega)];omega
theorem aC9{bits:Nat}{l:List Nat}{k:Nat}(hk0:(eK l (nI bits)).2=0)(hk:(eK l (nI bits)).1=k)(h:¬(sB (lV (l.take k))=l.take k∧(bits=32→ -2147483648≤lV (l.take k)∧lV (l.take k)≤2147483647))):wR bits l=(0,0,1):=by
 unfold wR;rw[if_neg (by rw[hk0];simp),hk,if_neg h]
theorem aAB{bits:Nat}{l:List Nat}{k:Nat}(hk0:(eK l (nI bits)).2=0)(hk:(eK l (nI bits)).1=k)(h:sB (lV (l.take k))=l.take k∧(bits=32→ -2147483648≤lV (l.take k)∧lV (l.take k)≤2147483647)):wR bits l=(lV (l.take k),k,0):=by
 unfold wR;rw[if_neg (by rw[hk0];simp),hk,if_pos h]
theorem aI7(l:List Nat)(hl:l.length≤1000000)(hlt:∀x∈l,x<256)(bits:Nat)(hb:bits=32∨bits=64):SCall Tryz.prog 322 [.ro 1 (l.map aG) .any,.int .i64 bits] []
  (fun x σ=>x=.tup [.int .i64 (wR bits l).1,.int .i64 ((wR bits l).2.1:Nat),.int .i64 (wR bits l).2.2]∧σ=[]):=by
 refine bS 63 [0,1,4,5,6,7,8,9,10,11,19,28,30,60] Tryz.func322 ?_;refine cZ ?_;refine oF ?_;obtain⟨m,hm⟩:∃m,m=nI bits:=⟨_,rfl⟩
 have hlen:eK l (nI bits)=eK l m:=by rw[hm]
 refine scj (β:=Nat) 0 rfl (fun b=>⟨[(0,.ro 1 (l.map aG) .any),(1,.int .i64 bits),(7,.int .i64 ((eK l m).1:Nat)),(9,.int .i64 (sv l (eK l m).1 b)),(10,.int .i64 b)],[]⟩) (fun b=>b≤(eK l m).1∧(eK l m).2=0) (fun b=>b) ?_ (fun P=> ?_)
 ·rintro n ⟨hn1,hk0⟩;try dsimp only at hn1 hk0⊢
  obtain⟨hk1,hk2,hk3⟩:=vY l m hk0;generalize hk:(eK l m).1=k at*;refine cX ?_;refine lo (iB (E rfl) (E rfl)) rfl ?_;refine iI ?_;refine aB rfl (fun h=> ?_) (fun h=> ?_)
  ·obtain⟨c,rfl⟩:∃c,n=c+1:=⟨n-1,by simp at h;omega⟩
   refine cX ?_;refine tF ?_;refine cM ?_;rw[show((c+1:Nat):Int)-1=(c:Nat) by omega];refine fV ?_;refine z23 ?_;refine lo (aF (E rfl)) rfl ?_;refine pA ?_;refine z3 ?_;refine z44 ?_;refine lo (KD (E rfl) (E rfl)) rfl ?_;refine cM ?_;rw[Int.toNat_natCast,xW (zA hlt c),XH (n:=l[c]! %128) (by omega),aGt,←aC8 (by omega) hk3];refine wO ?_;refine⟨c,⟨by omega,hk0⟩,by omega, ?_⟩;exact aJ
  ·obtain rfl:n=0:=by simp at h;omega
   rw[aC7 hk1];have hv:=aC6 (l.take k);generalize hx:lV (l.take k)=x at hv⊢;refine dG ?_;refine tF ?_;refine z2 ?_;refine cM ?_;refine fJ [(0,true),(1,true),(2,true),(3,true),(4,false),(5,false),(6,true),(7,true),(8,true),(9,true),(10,true),(11,true),(12,true),(13,true),(14,true)] ?_;refine lF ?_;refine ZN ?_;refine fP rfl (aF (E rfl)) rfl ?_;refine pD [] rfl Tryz.call296 (aAA x hv) rfl ?_ ?_ ?_ ?_
   ·exact aC
   ·exact aA
   ·exact eM
   rintro _ σ' ⟨r,rfl,rfl⟩ hr
   replace hr:=fY hr;repeat rcases hr with⟨_,hr⟩
   apply bQ;exact bD;refine dpu [r] rfl Tryz.call258 (ON (l.take k) (sB x) (fun y hy=>hlt y (List.mem_of_mem_take hy)) (aFg _ x (Nat.le_refl _))) rfl ?_ aS ?_
   ·exact aP
   refine fP rfl (eI (E rfl)) rfl ?_;refine fP rfl (aF (E rfl)) rfl ?_;refine z26 ?_;refine z45 ?_;refine z28 ?_;refine z29 ?_;refine z31 ?_;refine z32 ?_;refine z33 ?_;refine jI ?_;have ht:=aLp hb hv;generalize x.fdiv (2^min ((bits:Int)-1).toNat IntKind.i64.bits)=y at ht⊢;refine aB rfl (fun h=> ?_) (fun h=> ?_)
   ·have h1:¬(sB x=l.take k∧(bits=32→ -2147483648≤x∧x≤2147483647)):=by
     rintro⟨h1,h2⟩;rcases ht.2 h2 with rfl|rfl<;>simp[h1]at h
    rw[←hx]at h1;refine cZ ?_;refine oF ?_;refine wO ?_;apply aD;exact aE
    ·rw[aC9 (by rw[hlen];exact hk0) (by rw[hlen];exact hk) h1];exact⟨rfl,rfl⟩
    ·exact aA
   ·have h1:sB x=l.take k∧(bits=32→ -2147483648≤x∧x≤2147483647):=by
     by_cases h2:sB x=l.take k
     ·refine⟨h2,ht.1 ?_⟩;by_cases h3:y=0
      ·exact .inl h3
      ·exact .inr (by simpa[h2,h3]using h)
     ·simp[h2]at h
    rw[←hx]at h1;refine dG ?_;refine oF ?_;refine wO ?_;apply aD;exact aE
    ·rw[aAB (by rw[hlen];exact hk0) (by rw[hlen];exact hk) h1,hx];exact⟨rfl,rfl⟩
    ·exact aA
 ·refine dG ?_
  (first|refine pu [] Tryz.call257 (sL l hl bits m (by rw[hm];exact OP hb)) rfl bU aS ?_ |refine vX [] rfl rfl Tryz.call257 (fun _=>(sL l hl bits m (by rw[hm];exact OP hb))) rfl bU aS ?_);refine sK ?_;refine nS ?_;refine qH ?_;refine aB rfl (fun h=> ?_) (fun h=> ?_)
  ·have h1:(eK l m).2≠0:=by simpa using h
   refine cX ?_;refine oF ?_;refine wO ?_;apply aD;exact aE
   ·unfold wR;rw[hlen,if_pos h1];exact⟨rfl,rfl⟩
   ·exact aA
  ·have hk0:(eK l m).2=0:=by simpa using h
   obtain⟨hk1,hk2,hk3⟩:=vY l m hk0;have hsv:sv l (eK l m).1 (eK l m).1=if 64≤l[(eK l m).1-1]! %128 then-1 else 0:=by unfold sv;rw[if_neg (by omega)]
   obtain⟨j,hj⟩:∃j,(eK l m).1=j+1:=⟨(eK l m).1-1,by omega⟩
   rw[hj]at hsv P hk1 hk2 hk3⊢;rw[Nat.add_sub_cancel]at hsv;refine cX ?_;refine jF ?_;refine kQ ?_;refine tF ?_;rw[show((j+1:Nat):Int)-1=(j:Nat) by omega];refine lM ?_;refine lo (iP (E rfl) (E rfl)) rfl ?_;refine qH ?_;rw[Int.toNat_natCast,XG (zA hlt j)];refine aB rfl (fun h=> ?_) (fun h=> ?_)
   ·have h2:64≤l[j]! %128:=by
     by_cases h3:l[j]! %128<64
     ·rw[if_pos h3]at h;simp at h
     ·omega
    rw[if_pos h2]at hsv;refine mJ ?_;refine uT ?_;refine P (j+1) _ ⟨Nat.le_refl _,hk0⟩ ?_;rw[hsv];exact aJ
   ·have h2:¬64≤l[j]! %128:=by
     by_cases h3:l[j]! %128<64
     ·omega
     ·rw[if_neg h3]at h;simp at h
    rw[if_neg h2]at hsv;refine ck ?_;refine an ?_;refine P (j+1) _ ⟨Nat.le_refl _,hk0⟩ ?_;rw[hsv];exact aJ
def aK (n:Int):List AV:=[.int .i64 n]
def pE (n a b:Int):Bool:=if decide (a≤n)=true then decide (n≤b)else false
theorem cY(n a b:Int):SCall Tryz.prog 270 [.int .i64 n,.int .i64 a,.int .i64 b] [] (fun x σ=>x=.bool (pE n a b)∧σ=[]):=by
 refine bS 15 [0,1,2,6] Tryz.func270 ?_;refine lL ?_;refine IT ?_;refine z4 ?_;refine z54 ?_;refine rO ?_;exact aD aE ⟨by rfl,rfl⟩ aA
def JA (op:Int):Int×Int:=
 if(pE op 69 79||pE op 103 120)=true then(1,op)else if pE op 80 90=true then(2,IntKind.i64.wrap (IntKind.i64.wrap (op-80)+69))else if pE op 121 138=true then(2,IntKind.i64.wrap (IntKind.i64.wrap (op-121)+103))else(0,0)
theorem KV(op:Int):SCall Tryz.prog 269 [.int .i64 op] [] (fun x σ=>x=.tup [.int .i64 (JA op).1,.int .i64 (JA op).2]∧σ=[]):=by
 refine bS 22 [0,2,3,4,10,16] Tryz.func269 ?_;refine cZ ?_;refine nS ?_
 (first|refine ln rfl rfl rfl rfl ?_ |refine lw rfl rfl (bR (v:=.bool false)) rfl ?_ |refine pu [] Tryz.call270 (cY _ _ _) rfl bU aS ?_ |refine vX [] rfl rfl Tryz.call270 (fun _=>(cY _ _ _)) rfl bU aS ?_ |refine BK [] rfl rfl Tryz.call270 (fun _=>(cY _ _ _)) rfl bU aS ?_);refine cM ?_;apply fR rfl;exact cO
 ·intro _;(refine aI ?_);refine fV ?_
  (first|refine ln rfl rfl rfl rfl ?_ |refine lw rfl rfl (bR (v:=.bool false)) rfl ?_ |refine pu [] Tryz.call270 (cY _ _ _) rfl bU aS ?_ |refine vX [] rfl rfl Tryz.call270 (fun _=>(cY _ _ _)) rfl bU aS ?_ |refine BK [] rfl rfl Tryz.call270 (fun _=>(cY _ _ _)) rfl bU aS ?_);refine cM ?_;exact aJ
 refine aI ?_;refine aB rfl (fun g1=> ?_) (fun g1=> ?_)
 ·refine cX ?_;refine jF ?_;apply aD;exact aE
  ·(unfold JA;simp only[g1,if_true,if_false,Bool.false_eq_true];exact⟨rfl,rfl⟩)
  ·exact aA
 refine cX ?_
 (first|refine ln rfl rfl rfl rfl ?_ |refine lw rfl rfl (bR (v:=.bool false)) rfl ?_ |refine pu [] Tryz.call270 (cY _ _ _) rfl bU aS ?_ |refine vX [] rfl rfl Tryz.call270 (fun _=>(cY _ _ _)) rfl bU aS ?_ |refine BK [] rfl rfl Tryz.call270 (fun _=>(cY _ _ _)) rfl bU aS ?_);refine cM ?_;refine aB rfl (fun g2=> ?_) (fun g2=> ?_)
 ·refine cX ?_;refine tF ?_;refine NR ?_;refine jF ?_;apply aD;exact aE
  ·(unfold JA;simp only[g1,g2,if_true,if_false,Bool.false_eq_true];exact⟨rfl,rfl⟩)
  ·exact aA
 refine cX ?_
 (first|refine ln rfl rfl rfl rfl ?_ |refine lw rfl rfl (bR (v:=.bool false)) rfl ?_ |refine pu [] Tryz.call270 (cY _ _ _) rfl bU aS ?_ |refine vX [] rfl rfl Tryz.call270 (fun _=>(cY _ _ _)) rfl bU aS ?_ |refine BK [] rfl rfl Tryz.call270 (fun _=>(cY _ _ _)) rfl bU aS ?_);refine cM ?_;refine aB rfl (fun g3=> ?_) (fun g3=> ?_)
 ·refine cX ?_;refine tF ?_;refine NR ?_;refine jF ?_;apply aD;exact aE
  ·(unfold JA;simp only[g1,g2,g3,if_true,if_false,Bool.false_eq_true];exact⟨rfl,rfl⟩)
  ·exact aA
 refine cZ ?_;refine jF ?_;apply aD;exact aE
 ·(unfold JA;simp only[g1,g2,g3,if_true,if_false,Bool.false_eq_true];exact⟨rfl,rfl⟩)
 ·exact aA
def kN (op:Int):List Int×Int×Bool:=
 if(op==167)=true then([2],1,true)else if(op==172||op==173)=true then([1],2,true)
 else if((JA op).1==0)=true then([],0,false)else if((JA op).2==69)=true then([(JA op).1],1,true)
 else if pE (JA op).2 70 79=true then([(JA op).1,(JA op).1],1,true)else if pE (JA op).2 103 105=true then([(JA op).1],(JA op).1,true)
 else([(JA op).1,(JA op).1],(JA op).1,true)
def uW (r:List Int×Int×Bool) (x:AV) (σ:dC):Prop:=
 if r.2.2=true then∃q,x=.tup [.own q 0 r.1.length,.int .i64 r.2.1,.bool true]∧σ=[(q,.arr 3 1 (r.1.map aK))]else x=.tup [.ro 0 [] .nil,.int .i64 0,.bool false]∧σ=[]
theorem lW{l:List Int}{r:Int}{q:Nat}{x:AV}{σ:dC}(hx:x=.tup [.own q 0 l.length,.int .i64 r,.bool true])(hs:σ=[(q,.arr 3 1 (l.map aK))]):uW (l,r,true) x σ:=by
 unfold uW;rw[if_pos rfl];exact⟨q,hx,hs⟩
theorem nU{l:List Int}{r:Int}{x:AV}{σ:dC}(hx:x=.tup [.ro 0 [] .nil,.int .i64 0,.bool false])(hs:σ=[]):uW (l,r,false) x σ:=by
 unfold uW;rw[if_neg (by simp)];exact⟨hx,hs⟩
theorem xX(op:Int):SCall Tryz.prog 200 [.int .i64 op] [] (uW (kN op)):=by
 refine bS 44 [0,2,3,4,5,6,7,8,11,20,23,28,34] Tryz.func200 ?_;refine cZ ?_;refine oF ?_;refine fV ?_;refine rN ?_;refine aB rfl (fun g1=> ?_) (fun g1=> ?_)
 ·refine cZ ?_;refine eC fun r10 h10=> ?_;intros
  refine oF ?_;apply aD;exact aE
  ·(unfold kN;simp only[g1,if_true,if_false,Bool.false_eq_true];first|exact lW rfl rfl|exact nU rfl rfl)
  ·exact aA
 refine dE ?_;apply fR rfl;exact cO
 ·intro _;(refine aI ?_);refine eP ?_;exact aJ
 refine aI ?_;refine aB rfl (fun g2=> ?_) (fun g2=> ?_)
 ·refine cZ ?_;refine eC fun r14 h14=> ?_;intros
  refine oF ?_;apply aD;exact aE
  ·(unfold kN;simp only[g1,g2,if_true,if_false,Bool.false_eq_true];first|exact lW rfl rfl|exact nU rfl rfl)
  ·exact aA
 refine cX ?_
 (first|refine ln rfl rfl rfl rfl ?_ |refine lw rfl rfl (bR (v:=.bool false)) rfl ?_ |refine pu [] Tryz.call269 (KV _) rfl bU aS ?_ |refine vX [] rfl rfl Tryz.call269 (fun _=>(KV _)) rfl bU aS ?_ |refine BK [] rfl rfl Tryz.call269 (fun _=>(KV _)) rfl bU aS ?_);refine sK ?_;refine nS ?_;refine OA ?_;refine aB rfl (fun g3=> ?_) (fun g3=> ?_)
 ·refine cZ ?_;refine oF ?_;apply aD;exact aE
  ·(unfold kN;simp only[g1,g2,g3,if_true,if_false,Bool.false_eq_true];first|exact lW rfl rfl|exact nU rfl rfl)
  ·exact aA
 refine cX ?_;refine OA ?_;refine aB rfl (fun g4=> ?_) (fun g4=> ?_)
 ·refine cX ?_;refine eC fun r27 h27=> ?_;intros
  refine oF ?_;apply aD;exact aE
  ·(unfold kN;simp only[g1,g2,g3,g4,if_true,if_false,Bool.false_eq_true];first|exact lW rfl rfl|exact nU rfl rfl)
  ·exact aA
 refine cX ?_
 (first|refine ln rfl rfl rfl rfl ?_ |refine lw rfl rfl (bR (v:=.bool false)) rfl ?_ |refine pu [] Tryz.call270 (cY _ _ _) rfl bU aS ?_ |refine vX [] rfl rfl Tryz.call270 (fun _=>(cY _ _ _)) rfl bU aS ?_ |refine BK [] rfl rfl Tryz.call270 (fun _=>(cY _ _ _)) rfl bU aS ?_);refine cM ?_;refine aB rfl (fun g5=> ?_) (fun g5=> ?_)
 ·refine dG ?_;refine eC fun r33 h33=> ?_;intros
  refine oF ?_;apply aD;exact aE
  ·(unfold kN;simp only[g1,g2,g3,g4,g5,if_true,if_false,Bool.false_eq_true];first|exact lW rfl rfl|exact nU rfl rfl)
  ·exact aA
 refine cX ?_
 (first|refine ln rfl rfl rfl rfl ?_ |refine lw rfl rfl (bR (v:=.bool false)) rfl ?_ |refine pu [] Tryz.call270 (cY _ _ _) rfl bU aS ?_ |refine vX [] rfl rfl Tryz.call270 (fun _=>(cY _ _ _)) rfl bU aS ?_ |refine BK [] rfl rfl Tryz.call270 (fun _=>(cY _ _ _)) rfl bU aS ?_);refine cM ?_;refine aB rfl (fun g6=> ?_) (fun g6=> ?_)
 ·refine cX ?_;refine eC fun r38 h38=> ?_;intros
  refine lo (aF (E rfl)) rfl ?_;refine oF ?_;apply aD;exact aE
  ·(unfold kN;simp only[g1,g2,g3,g4,g5,g6,if_true,if_false,Bool.false_eq_true];first|exact lW rfl rfl|exact nU rfl rfl)
  ·exact aA
 refine dG ?_;refine eC fun r42 h42=> ?_;intros
 refine lo (aF (E rfl)) rfl ?_;refine oF ?_;apply aD;exact aE
 ·(unfold kN;simp only[g1,g2,g3,g4,g5,g6,if_true,if_false,Bool.false_eq_true];first|exact lW rfl rfl|exact nU rfl rfl)
 ·exact aA
def pF (op:Int):Int×Int:=
 if(pE op 69 79||pE op 103 120)=true then(op,1)else if pE op 80 90=true then(IntKind.i64.wrap (IntKind.i64.wrap (op-80)+69),2)else if pE op 121 138=true then(IntKind.i64.wrap (IntKind.i64.wrap (op-121)+103),2)
 else if(op==167)=true then(op,2)else if(op==172||op==173)=true then(op,1)else(0,0)
theorem AL(op:Int):SCall Tryz.prog 303 [.int .i64 op] [] (fun x σ=>x=.tup [.int .i64 (pF op).1,.int .i64 (pF op).2]∧σ=[]):=by
 refine bS 48 [0,2,3,4,18,28,38,42] Tryz.func303 ?_;refine cZ ?_;refine nS ?_;refine IT ?_;refine z55 ?_;refine rO ?_;apply fR rfl;exact cO
 ·intro _;(refine aI ?_);refine fV ?_;refine IT ?_;refine z55 ?_;refine rO ?_;exact aJ
 refine aI ?_;refine aB rfl (fun g1=> ?_) (fun g1=> ?_)
 ·refine cX ?_;refine jF ?_;apply aD;exact aE
  ·(unfold pF pE;simp only[g1,if_true,if_false,Bool.false_eq_true];exact⟨rfl,rfl⟩)
  ·exact aA
 refine cX ?_;refine IT ?_;refine z55 ?_;refine rO ?_;refine aB rfl (fun g2=> ?_) (fun g2=> ?_)
 ·refine cX ?_;refine tF ?_;refine NR ?_;refine jF ?_;apply aD;exact aE
  ·(unfold pF pE;simp only[g1,g2,if_true,if_false,Bool.false_eq_true];exact⟨rfl,rfl⟩)
  ·exact aA
 refine cX ?_;refine IT ?_;refine z55 ?_;refine rO ?_;refine aB rfl (fun g3=> ?_) (fun g3=> ?_)
 ·refine cX ?_;refine tF ?_;refine NR ?_;refine jF ?_;apply aD;exact aE
  ·(unfold pF pE;simp only[g1,g2,g3,if_true,if_false,Bool.false_eq_true];exact⟨rfl,rfl⟩)
  ·exact aA
 refine cX ?_;refine OA ?_;refine aB rfl (fun g4=> ?_) (fun g4=> ?_)
 ·refine cX ?_;refine jF ?_;apply aD;exact aE
  ·(unfold pF pE;simp only[g1,g2,g3,g4,if_true,if_false,Bool.false_eq_true];exact⟨rfl,rfl⟩)
  ·exact aA
 refine cX ?_;refine OA ?_;apply fR rfl;exact cO
 ·intro _;(refine aI ?_);refine fV ?_;refine OA ?_;exact aJ
 refine aI ?_;refine aB rfl (fun g5=> ?_) (fun g5=> ?_)
 ·refine cX ?_;refine jF ?_;apply aD;exact aE
  ·(unfold pF pE;simp only[g1,g2,g3,g4,g5,if_true,if_false,Bool.false_eq_true];exact⟨rfl,rfl⟩)
  ·exact aA
 refine cZ ?_;refine jF ?_;apply aD;exact aE
 ·(unfold pF pE;simp only[g1,g2,g3,g4,g5,if_true,if_false,Bool.false_eq_true];exact⟨rfl,rfl⟩)
 ·exact aA
def KW (op:Int):Int×Int×Int×Bool:=
 if((pF op).1==0)=true then(0,0,0,false)else if((pF op).1==69)=true then(1,(pF op).2,1,true)else if decide ((pF op).1≤79)=true then(2,(pF op).2,1,true)
 else if decide ((pF op).1≤105)=true then(1,(pF op).2,(pF op).2,true)else if decide ((pF op).1≤120)=true then(2,(pF op).2,(pF op).2,true)
 else if((pF op).1==167)=true then(1,(pF op).2,1,true)else(1,(pF op).2,2,true)
theorem vZ(op:Int):SCall Tryz.prog 276 [.int .i64 op] [] (fun x σ=>x=.tup [.int .i64 (KW op).1,.int .i64 (KW op).2.1,.int .i64 (KW op).2.2.1,.bool (KW op).2.2.2]∧σ=[]):=by
 refine bS 39 [0,2,3,4,5,6,7,13,16,20,24,29,34] Tryz.func276 ?_;refine cZ ?_;refine xB ?_;refine fV ?_
 (first|refine ln rfl rfl rfl rfl ?_ |refine lw rfl rfl (bR (v:=.bool false)) rfl ?_ |refine pu [] Tryz.call303 (AL _) rfl bU aS ?_ |refine vX [] rfl rfl Tryz.call303 (fun _=>(AL _)) rfl bU aS ?_ |refine BK [] rfl rfl Tryz.call303 (fun _=>(AL _)) rfl bU aS ?_);refine sK ?_;refine nS ?_;refine OA ?_;refine aB rfl (fun g1=> ?_) (fun g1=> ?_)
 ·refine cZ ?_;refine xB ?_;apply aD;exact aE
  ·(unfold KW;simp only[g1,if_true,if_false,Bool.false_eq_true];exact⟨rfl,rfl⟩)
  ·exact aA
 refine cX ?_;refine OA ?_;refine aB rfl (fun g2=> ?_) (fun g2=> ?_)
 ·refine cX ?_;refine xB ?_;apply aD;exact aE
  ·(unfold KW;simp only[g1,g2,if_true,if_false,Bool.false_eq_true];exact⟨rfl,rfl⟩)
  ·exact aA
 refine cX ?_;refine lo (mM (E rfl) (E rfl)) rfl ?_;refine cM ?_;refine aB rfl (fun g3=> ?_) (fun g3=> ?_)
 ·refine cX ?_;refine xB ?_;apply aD;exact aE
  ·(unfold KW;simp only[g1,g2,g3,if_true,if_false,Bool.false_eq_true];exact⟨rfl,rfl⟩)
  ·exact aA
 refine cX ?_;refine lo (mM (E rfl) (E rfl)) rfl ?_;refine cM ?_;refine aB rfl (fun g4=> ?_) (fun g4=> ?_)
 ·refine dG ?_;refine xB ?_;apply aD;exact aE
  ·(unfold KW;simp only[g1,g2,g3,g4,if_true,if_false,Bool.false_eq_true];exact⟨rfl,rfl⟩)
  ·exact aA
 refine cX ?_;refine lo (mM (E rfl) (E rfl)) rfl ?_;refine cM ?_;refine aB rfl (fun g5=> ?_) (fun g5=> ?_)
 ·refine dG ?_;refine xB ?_;apply aD;exact aE
  ·(unfold KW;simp only[g1,g2,g3,g4,g5,if_true,if_false,Bool.false_eq_true];exact⟨rfl,rfl⟩)
  ·exact aA
 refine cX ?_;refine OA ?_;refine aB rfl (fun g6=> ?_) (fun g6=> ?_)
 ·refine cX ?_;refine xB ?_;apply aD;exact aE
  ·(unfold KW;simp only[g1,g2,g3,g4,g5,g6,if_true,if_false,Bool.false_eq_true];exact⟨rfl,rfl⟩)
  ·exact aA
 refine cX ?_;refine xB ?_;apply aD;exact aE
 ·(unfold KW;simp only[g1,g2,g3,g4,g5,g6,if_true,if_false,Bool.false_eq_true];exact⟨rfl,rfl⟩)
 ·exact aA
def iU (op:Int) (k:Bool):Int:=
 if(op==0||(op==1||(op==5||(op==11||(op==15||(op==26||op==27))))))=true then 1
 else if(op==2||(op==3||op==4))=true then 2
 else if(op==12||(op==13||(op==16||(op==32||(op==33||(op==34||(op==35||op==36)))))))=true then 3
 else if(op==14)=true then 4 else if(op==17)=true then 5
 else if(op==40||(op==41||(op==44||(op==45||(op==54||(op==55||op==58))))))=true then 6
 else if(op==63||op==64)=true then 7 else if(op==65)=true then 8 else if(op==66)=true then 9
 else if k=true then 1 else 0
theorem aAC(op:Int):SCall Tryz.prog 250 [.int .i64 op] [] (fun x σ=>x=.int .i64 (iU op (KW op).2.2.2)∧σ=[]):=by
 refine bS 56 [0,2,6,7,8,16,20,29,31,33,41,44,46,55] Tryz.func250 ?_;refine eX ?_;refine rN ?_;apply fR rfl;exact cO
 ·intro _;(refine aI ?_);refine eP ?_;apply dR rfl;exact cO
  ·intro _;(refine aI ?_);refine eP ?_;apply dR rfl;exact cO
   ·intro _;(refine aI ?_);refine eP ?_;apply dR rfl;exact cO
    ·intro _;(refine aI ?_);refine eP ?_;apply dR rfl;exact cO
     ·intro _;(refine aI ?_);refine eP ?_;apply dR rfl;exact cO
      ·intro _;(refine aI ?_);refine eP ?_;exact aJ
      exact aJ
     exact aJ
    exact aJ
   exact aJ
  exact aJ
 refine aI ?_;refine aB rfl (fun g1=> ?_) (fun g1=> ?_)
 ·refine bF ?_;apply aD;exact aE
  ·(unfold iU;simp only[g1,if_true,if_false,Bool.false_eq_true];exact⟨rfl,rfl⟩)
  ·exact aA
 refine dE ?_;apply fR rfl;exact cO
 ·intro _;(refine aI ?_);refine eP ?_;apply dR rfl;exact cO
  ·intro _;(refine aI ?_);refine eP ?_;exact aJ
  exact aJ
 refine aI ?_;refine aB rfl (fun g2=> ?_) (fun g2=> ?_)
 ·refine bF ?_;apply aD;exact aE
  ·(unfold iU;simp only[g1,g2,if_true,if_false,Bool.false_eq_true];exact⟨rfl,rfl⟩)
  ·exact aA
 refine dE ?_;apply fR rfl;exact cO
 ·intro _;(refine aI ?_);refine eP ?_;apply dR rfl;exact cO
  ·intro _;(refine aI ?_);refine eP ?_;apply dR rfl;exact cO
   ·intro _;(refine aI ?_);refine eP ?_;apply dR rfl;exact cO
    ·intro _;(refine aI ?_);refine eP ?_;apply dR rfl;exact cO
     ·intro _;(refine aI ?_);refine eP ?_;apply dR rfl;exact cO
      ·intro _;(refine aI ?_);refine eP ?_;apply dR rfl;exact cO
       ·intro _;(refine aI ?_);refine eP ?_;exact aJ
       exact aJ
      exact aJ
     exact aJ
    exact aJ
   exact aJ
  exact aJ
 refine aI ?_;refine aB rfl (fun g3=> ?_) (fun g3=> ?_)
 ·refine bF ?_;apply aD;exact aE
  ·(unfold iU;simp only[g1,g2,g3,if_true,if_false,Bool.false_eq_true];exact⟨rfl,rfl⟩)
  ·exact aA
 refine dE ?_;refine aB rfl (fun g4=> ?_) (fun g4=> ?_)
 ·refine bF ?_;apply aD;exact aE
  ·(unfold iU;simp only[g1,g2,g3,g4,if_true,if_false,Bool.false_eq_true];exact⟨rfl,rfl⟩)
  ·exact aA
 refine dE ?_;refine aB rfl (fun g5=> ?_) (fun g5=> ?_)
 ·refine bF ?_;apply aD;exact aE
  ·(unfold iU;simp only[g1,g2,g3,g4,g5,if_true,if_false,Bool.false_eq_true];exact⟨rfl,rfl⟩)
  ·exact aA
 refine dE ?_;apply fR rfl;exact cO
 ·intro _;(refine aI ?_);refine eP ?_;apply dR rfl;exact cO
  ·intro _;(refine aI ?_);refine eP ?_;apply dR rfl;exact cO
   ·intro _;(refine aI ?_);refine eP ?_;apply dR rfl;exact cO
    ·intro _;(refine aI ?_);refine eP ?_;apply dR rfl;exact cO
     ·intro _;(refine aI ?_);refine eP ?_;apply dR rfl;exact cO
      ·intro _;(refine aI ?_);refine eP ?_;exact aJ
      exact aJ
     exact aJ
    exact aJ
   exact aJ
  exact aJ
 refine aI ?_;refine aB rfl (fun g6=> ?_) (fun g6=> ?_)
 ·refine bF ?_;apply aD;exact aE
  ·(unfold iU;simp only[g1,g2,g3,g4,g5,g6,if_true,if_false,Bool.false_eq_true];exact⟨rfl,rfl⟩)
  ·exact aA
 refine dE ?_;apply fR rfl;exact cO
 ·intro _;(refine aI ?_);refine eP ?_;exact aJ
 refine aI ?_;refine aB rfl (fun g7=> ?_) (fun g7=> ?_)
 ·refine bF ?_;apply aD;exact aE
  ·(unfold iU;simp only[g1,g2,g3,g4,g5,g6,g7,if_true,if_false,Bool.false_eq_true];exact⟨rfl,rfl⟩)
  ·exact aA
 refine dE ?_;refine aB rfl (fun g8=> ?_) (fun g8=> ?_)
 ·refine bF ?_;apply aD;exact aE
  ·(unfold iU;simp only[g1,g2,g3,g4,g5,g6,g7,g8,if_true,if_false,Bool.false_eq_true];exact⟨rfl,rfl⟩)
  ·exact aA
 refine dE ?_;refine aB rfl (fun g9=> ?_) (fun g9=> ?_)
 ·refine bF ?_;apply aD;exact aE
  ·(unfold iU;simp only[g1,g2,g3,g4,g5,g6,g7,g8,g9,if_true,if_false,Bool.false_eq_true];exact⟨rfl,rfl⟩)
  ·exact aA
 refine cX ?_
 (first|refine ln rfl rfl rfl rfl ?_ |refine lw rfl rfl (bR (v:=.bool false)) rfl ?_ |refine pu [] Tryz.call276 (vZ _) rfl bU aS ?_ |refine vX [] rfl rfl Tryz.call276 (fun _=>(vZ _)) rfl bU aS ?_ |refine BK [] rfl rfl Tryz.call276 (fun _=>(vZ _)) rfl bU aS ?_);refine sK ?_;refine KR ?_;refine xB ?_;refine fV ?_;refine iI ?_;refine aB rfl (fun g10=> ?_) (fun g10=> ?_)
 ·refine bF ?_;apply aD;exact aE
  ·(unfold iU;simp only[g1,g2,g3,g4,g5,g6,g7,g8,g9,g10,if_true,if_false,Bool.false_eq_true];exact⟨rfl,rfl⟩)
  ·exact aA
 refine bF ?_;apply aD;exact aE
 ·(unfold iU;simp only[g1,g2,g3,g4,g5,g6,g7,g8,g9,g10,if_true,if_false,Bool.false_eq_true];exact⟨rfl,rfl⟩)
 ·exact aA
theorem HN(op:Int):SCall Tryz.prog 200 [.int .i64 op] [] (fun x _=>∃a b,x=.tup [a,b,.bool (kN op).2.2]):=
 (xX op).mono fun x σ h=>by
  unfold uW at h;split at h
  ·next e=>obtain⟨q,rfl,-⟩:=h;exact⟨_,_,by rw[e]⟩
  ·next e=>obtain⟨rfl,-⟩:=h;exact⟨_,_,by rw[show(kN op).2.2=false by simpa using e]⟩
theorem RX(op:Int):SCall Tryz.prog 217 [.int .i64 op] [] (fun x σ=>x=.int .i64 (iU op (kN op).2.2)∧σ=[]):=by
 refine bS 54 [0,2,5,6,7,15,19,28,30,32,40,43,45,53] Tryz.func217 ?_;refine eX ?_;refine rN ?_;apply fR rfl;exact cO
 ·intro _;(refine aI ?_);refine eP ?_;apply dR rfl;exact cO
  ·intro _;(refine aI ?_);refine eP ?_;apply dR rfl;exact cO
   ·intro _;(refine aI ?_);refine eP ?_;apply dR rfl;exact cO
    ·intro _;(refine aI ?_);refine eP ?_;apply dR rfl;exact cO
     ·intro _;(refine aI ?_);refine eP ?_;apply dR rfl;exact cO
      ·intro _;(refine aI ?_);refine eP ?_;exact aJ
      exact aJ
     exact aJ
    exact aJ
   exact aJ
  exact aJ
 refine aI ?_;refine aB rfl (fun g1=> ?_) (fun g1=> ?_)
 ·refine bF ?_;apply aD;exact aE
  ·(unfold iU;simp only[g1,if_true,if_false,Bool.false_eq_true];exact⟨rfl,rfl⟩)
  ·exact aA
 refine dE ?_;apply fR rfl;exact cO
 ·intro _;(refine aI ?_);refine eP ?_;apply dR rfl;exact cO
  ·intro _;(refine aI ?_);refine eP ?_;exact aJ
  exact aJ
 refine aI ?_;refine aB rfl (fun g2=> ?_) (fun g2=> ?_)
 ·refine bF ?_;apply aD;exact aE
  ·(unfold iU;simp only[g1,g2,if_true,if_false,Bool.false_eq_true];exact⟨rfl,rfl⟩)
  ·exact aA
 refine dE ?_;apply fR rfl;exact cO
 ·intro _;(refine aI ?_);refine eP ?_;apply dR rfl;exact cO
  ·intro _;(refine aI ?_);refine eP ?_;apply dR rfl;exact cO
   ·intro _;(refine aI ?_);refine eP ?_;apply dR rfl;exact cO
    ·intro _;(refine aI ?_);refine eP ?_;apply dR rfl;exact cO
     ·intro _;(refine aI ?_);refine eP ?_;apply dR rfl;exact cO
      ·intro _;(refine aI ?_);refine eP ?_;apply dR rfl;exact cO
       ·intro _;(refine aI ?_);refine eP ?_;exact aJ
       exact aJ
      exact aJ
     exact aJ
    exact aJ
   exact aJ
  exact aJ
 refine aI ?_;refine aB rfl (fun g3=> ?_) (fun g3=> ?_)
 ·refine bF ?_;apply aD;exact aE
  ·(unfold iU;simp only[g1,g2,g3,if_true,if_false,Bool.false_eq_true];exact⟨rfl,rfl⟩)
  ·exact aA
 refine dE ?_;refine aB rfl (fun g4=> ?_) (fun g4=> ?_)
 ·refine bF ?_;apply aD;exact aE
  ·(unfold iU;simp only[g1,g2,g3,g4,if_true,if_false,Bool.false_eq_true];exact⟨rfl,rfl⟩)
  ·exact aA
 refine dE ?_;refine aB rfl (fun g5=> ?_) (fun g5=> ?_)
 ·refine bF ?_;apply aD;exact aE
  ·(unfold iU;simp only[g1,g2,g3,g4,g5,if_true,if_false,Bool.false_eq_true];exact⟨rfl,rfl⟩)
  ·exact aA
 refine dE ?_;apply fR rfl;exact cO
 ·intro _;(refine aI ?_);refine eP ?_;apply dR rfl;exact cO
  ·intro _;(refine aI ?_);refine eP ?_;apply dR rfl;exact cO
   ·intro _;(refine aI ?_);refine eP ?_;apply dR rfl;exact cO
    ·intro _;(refine aI ?_);refine eP ?_;apply dR rfl;exact cO
     ·intro _;(refine aI ?_);refine eP ?_;apply dR rfl;exact cO
      ·intro _;(refine aI ?_);refine eP ?_;exact aJ
      exact aJ
     exact aJ
    exact aJ
   exact aJ
  exact aJ
 refine aI ?_;refine aB rfl (fun g6=> ?_) (fun g6=> ?_)
 ·refine bF ?_;apply aD;exact aE
  ·(unfold iU;simp only[g1,g2,g3,g4,g5,g6,if_true,if_false,Bool.false_eq_true];exact⟨rfl,rfl⟩)
  ·exact aA
 refine dE ?_;apply fR rfl;exact cO
 ·intro _;(refine aI ?_);refine eP ?_;exact aJ
 refine aI ?_;refine aB rfl (fun g7=> ?_) (fun g7=> ?_)
 ·refine bF ?_;apply aD;exact aE
  ·(unfold iU;simp only[g1,g2,g3,g4,g5,g6,g7,if_true,if_false,Bool.false_eq_true];exact⟨rfl,rfl⟩)
  ·exact aA
 refine dE ?_;refine aB rfl (fun g8=> ?_) (fun g8=> ?_)
 ·refine bF ?_;apply aD;exact aE
  ·(unfold iU;simp only[g1,g2,g3,g4,g5,g6,g7,g8,if_true,if_false,Bool.false_eq_true];exact⟨rfl,rfl⟩)
  ·exact aA
 refine dE ?_;refine aB rfl (fun g9=> ?_) (fun g9=> ?_)
 ·refine bF ?_;apply aD;exact aE
  ·(unfold iU;simp only[g1,g2,g3,g4,g5,g6,g7,g8,g9,if_true,if_false,Bool.false_eq_true];exact⟨rfl,rfl⟩)
  ·exact aA
 refine cX ?_;refine cw [] Tryz.call200 (HN op) rfl ?_ ?_ ?_
 ·exact aC
 ·exact aA
 rintro _ σ' ⟨a,b,rfl⟩-;refine OF ?_;refine oF ?_;refine fV ?_;refine iI ?_;refine aB rfl (fun g10=> ?_) (fun g10=> ?_)
 ·refine bF ?_;apply aD;exact aE
  ·(unfold iU;simp only[g1,g2,g3,g4,g5,g6,g7,g8,g9,g10,if_true,if_false,Bool.false_eq_true];exact⟨rfl,rfl⟩)
  ·exact aA
 refine bF ?_;apply aD;exact aE
 ·(unfold iU;simp only[g1,g2,g3,g4,g5,g6,g7,g8,g9,g10,if_true,if_false,Bool.false_eq_true];exact⟨rfl,rfl⟩)
 ·exact aA
def kOk (op:Int):Bool:=decide (69≤op∧op≤90∨103≤op∧op≤138∨op=167∨op=172∨op=173)
theorem jW(n a b:Int):pE n a b=decide (a≤n∧n≤b):=by
 unfold pE;by_cases h:a≤n<;>simp[h]
theorem aAD(op:Int):((JA op).1==0)= !decide (69≤op∧op≤90∨103≤op∧op≤138):=by
 unfold JA;simp only[jW,Bool.or_eq_true,decide_eq_true_eq];repeat' split
 ·rw[decide_eq_true (by omega)];rfl
 ·rw[decide_eq_true (by omega)];rfl
 ·rw[decide_eq_true (by omega)];rfl
 ·rw[decide_eq_false (by omega)];rfl
theorem aI8(op:Int):(kN op).2.2=kOk op:=by
 unfold kN;rw[aAD];unfold kOk;by_cases h1:op=167
 ·subst h1;decide
 by_cases h2:op=172∨op=173
 ·rcases h2 with rfl|rfl<;>decide
 by_cases h3:69≤op∧op≤90∨103≤op∧op≤138
 ·rw[decide_eq_true h3,decide_eq_true (by omega)];repeat' split
  all_goals first|rfl|simp_all
 ·rw[decide_eq_false h3,decide_eq_false (by omega),if_neg (by simp;omega),if_neg (by simp;omega)];rfl
theorem XI(op:Int)(h:-9223372036854775808≤op∧op≤9223372036854775807):((pF op).1==0)= !kOk op:=by
 unfold pF kOk;simp only[jW,Bool.or_eq_true,decide_eq_true_eq,beq_iff_eq];repeat' split
 all_goals first
  |(rw[decide_eq_true (by omega)];simp only[IntKind.wrap_i64,Bool.not_true,beq_eq_false_iff_ne];omega)
  |(rw[decide_eq_false (by omega)];rfl)
theorem aGu(op:Int)(h:-9223372036854775808≤op∧op≤9223372036854775807):(KW op).2.2.2=kOk op:=by
 unfold KW;rw[XI op h];cases kOk op
 ·rfl
 ·repeat' split
  all_goals first|rfl|simp_all
def bA (op:Int):Int:=iU op (kOk op)
end Go.Proofs.YtjpdadobblffmaaGreat
namespace Go.Proofs.YtjpdadobblffmaaGreat
open Go.RowKit Go.ChangeShapes Go.WideShapes Go.ChangeAt Go.Deep
theorem SR.growF {M:Mp}{F:Nat→Prop}{N:Nat}{w w':World}{σ:dC}(h:SR M F N w σ)(hold:∀k,k<w.heap.size→w'.heap[k]? =w.heap[k]?)(hsz:w.heap.size≤w'.heap.size){g:Nat}(hg:w.heap.size≤g)(hg':g<w'.heap.size):
  SR M (fun b=>F b∨b=g) N w' σ where
 ent p hp:=ER.mono (fun _ _ h=>h) (fun _ h=>.inl h) (fun b hb=>hold b (h.flt b hb)) (fun g hg=>hold g ((h.ent p hp).lt hg)) (h.ent p hp)
 inj:=h.inj
 nof g' hB hF:=by
  rcases hF with hF|rfl
  ·exact h.nof g' hB hF
  ·have:=h.lt hB;omega
 flt b hb:=by
  rcases hb with hb|rfl
  ·have:=h.flt b hb;omega
  ·exact hg'
 fresh:=h.fresh
theorem aFl{M:Mp}{F:Nat→Prop}{w:World}{xs:List AV}{us:List Value}(hl:us.length=xs.length)(h:∀(i:Nat) (v:AV),xs[i]? =some v→∃u,us[i]? =some u∧VR M F w v u):∀(j:Nat) (a:AV) (u:Value),xs[j]? =some a→us[j]? =some u→VR M F w a u:=by
 intro j a u ha hu;obtain⟨u',hu',hv⟩:=h j a ha;rw[hu]at hu';cases hu'
 exact hv
theorem uX{P:Program}{ty:TypeId}{s:ASt}{c:Bool}{fn:Fn}{first captured:Array Operand}{xs cs:List AV}(h1:AEvs s first.toList xs)(h2:AEvs s captured.toList cs):Lop P (.makeFunc fn first captured) ty s c (.fn fn xs cs) []:=
 Lop.pure_ fun M F N n a w hr hc=>by
  obtain⟨l1,k1⟩:=h1.at_ hr;obtain⟨l2,k2⟩:=h2.at_ hr;refine⟨.func fn (first.map a.eval) (captured.map a.eval),.fn ?_ ?_ ?_ ?_,fun w' o ho _=> ?_⟩
  ·rw[←l1];simp
  ·intro j a' u ha hu;refine aFl l1 k1 j a' u ha ?_;rw[←hu,←Array.getElem?_toList];simp
  ·rw[←l2];simp
  ·intro j a' u ha hu;refine aFl l2 k2 j a' u ha ?_;rw[←hu,←Array.getElem?_toList];simp
  ·simp only[execOp,ho,Instr.makeFunc,Sem.run_bind,Sem.run_pure,Result.andThen_ok]
theorem JB{M:Mp}{F:Nat→Prop}{w:World}{xs ys:List AV}{us vs:List Value}(hl:us.length=xs.length)(h:∀(j:Nat) (a:AV) (u:Value),xs[j]? =some a→us[j]? =some u→VR M F w a u)
  (k:∀(j:Nat) (a:AV) (u:Value),ys[j]? =some a→vs[j]? =some u→VR M F w a u):∀(j:Nat) (a:AV) (u:Value),(xs++ys)[j]? =some a→(us++vs)[j]? =some u→VR M F w a u:=by
 intro j a u ha hu;by_cases hj:j<xs.length
 ·rw[List.getElem?_append_left hj]at ha;rw[List.getElem?_append_left (by omega)]at hu;exact h j a u ha hu
 ·rw[List.getElem?_append_right (by omega)]at ha;rw[List.getElem?_append_right (by omega)]at hu;exact k (j-xs.length) a u ha (by rw[←hl];exact hu)
def RY (a:Act) (x:Operand) (xs:List Operand):List Value:=match a.eval x with
 | .func _ us vs=>us.toList++xs.map a.eval++vs.toList
 | _=>[]
theorem OQ{P:Program}{n:Nat}{s:ASt}{ty:TypeId}{d:Nat}{x:Operand}{f:FuncId}{us vs:List AV}{xs:List Operand}{ats:Array TypeId}{args:List AV}{σ1:dC}{R:AV→dC→Prop}{K:ASt→Prop}(hx:aev s x=some (.fn (.func f) us vs))(hf:∀args w,(callFunc f args).run P w=.ok (.enter f args) w)
  (h:SCall P f (us++args++vs) σ1 R) (hd:d<n) (hargs:ArgsLe s xs args) (hsub:∀p∈σ1,p∈s.σ)
  (hK:∀x σ',R x σ'→(∀p∈σ',(∃q∈σ1,q.1=p.1)∨Fresh p.1 s.σ)→K ⟨(d,x)::s.fr,σ'++dS (σ1.map (·.1)) s.σ⟩):
  Hop P n (.call { callee:=.value x,args:=xs.toArray,argTypes:=ats }) ty (some d) s (σ1.map (·.1)) K:=by
 refine Hop.of_call hd h hsub (fun a=>RY a x xs) (fun M F N a w o ho hr=> ?_) hK;have hv:=hr.aev hx;have hl:=hargs.len;have ha:=hargs.vr hr;obtain⟨dst,op,ty',pos,after,guard⟩:=o;dsimp only at ho;subst ho;generalize hu:a.eval x=u at hv;cases hv with
 |@fn _ _ _ us' vs' h1 h2 h3 h4=>
  have hfa:RY a x xs=us'.toList++xs.map a.eval++vs'.toList:=by unfold RY;rw[hu]
  refine⟨?_, ?_, ?_⟩
  ·have:execOp a.eval { dst,op:=.call { callee:=.value x,args:=xs.toArray,argTypes:=ats },type:=ty',pos,after,guard } =(do
     let d←Deferred.ofValue (a.eval x) (xs.toArray.map a.eval)
     invoke d.target d.args):=rfl
   rw[this,hu,hfa];simp only[Deferred.ofValue,Sem.run_bind,Sem.run_pure,Result.andThen_ok,invoke,hf];simp
  ·rw[hfa];simp only[List.length_append,List.length_map,Array.length_toList];omega
  ·rw[hfa];refine JB (by simp;omega) (JB (by simpa using h1) (fun j a' u' h5 h6=>h2 j a' u' h5 (by simpa using h6)) (fun j a' u' h5 h6=>ha j a' u' h5 h6)) (fun j a' u' h5 h6=>h4 j a' u' h5 (by simpa using h6))
theorem dQ{σ:dC}:dS (σ.map (·.1)) σ=[]:=by
 unfold dS;rw[List.filter_eq_nil_iff];intro p hp;simp;exact⟨_,hp⟩
section
variable {P : Program} {n : Nat} {ops : Array Oper} {rest : List Oper} {fr : Fr} {σ : dC} {K : ASt → Prop} {ty : TypeId} {pos : String} {af : Array Edge} {d : Nat}
theorem pP{x:Operand}{f:FuncId}{us vs:List AV}{xs:List Operand}{ats:Array TypeId}{args:List AV}{R:AV→dC→Prop}(σ1:dC)(hx:aev ⟨fr,σ⟩ x=some (.fn (.func f) us vs))(hf:∀args w,(callFunc f args).run P w=.ok (.enter f args) w)(h:SCall P f (us++args++vs) σ1 R)(hd:Nat.ble (d+1) n=true)
  (hargs:ArgsLe ⟨fr,σ⟩ xs args) (hsub:∀p∈σ1,p∈σ) (hK:∀x σ',R x σ'→(∀p∈σ',(∃q∈σ1,q.1=p.1)∨Fresh p.1 σ)→RS P n ops rest ⟨(d,x)::fr,σ'++dS (σ1.map (·.1)) σ⟩ K):
  RS P n ops (⟨some d,.call { callee:=.value x,args:=xs.toArray,argTypes:=ats },ty,pos,af,none⟩::rest) ⟨fr,σ⟩ K:=fW (OQ hx hf h (cI hd) hargs hsub hK)
end
end Go.Proofs.YtjpdadobblffmaaGreat
