import Derived.Test.YtjpdadobblffmaaGreatJA1
import Derived.Laws.BytesString
import Derived.ScopeJumps
import Derived.Test.YtjpdadobblffmaaGreatProg
import Derived.ArgAppend
set_option linter.unusedSimpArgs false
set_option linter.unusedVariables false
set_option maxRecDepth 100000
set_option maxHeartbeats 4000000
open Array renaming getElem?_eq_getElem->A7
open BitVec renaming ofInt->A9
open Bool renaming false_eq_true->Ag
open Int renaming toNat_natCast->Bc
open List renaming all_eq_true->Bw,append_nil->Be,cons_append->As,drop_zero->Bu,getElem?_append_left->Ba,getElem?_append_right->A6,getElem?_drop->Bb,getElem?_eq_some_iff->Ai,getElem?_map->Bg,length_append->Ao,length_cons->Bj,length_map->Az,map_cons->Bn,mem_cons->Av,mem_cons_of_mem->An,mem_cons_self->Au,mem_map->Bm,mem_of_getElem?->Ah,mem_of_mem_take->Bf,mem_singleton->A1,replicate->Ak,take_add_one->Al,take_length->Aw,take_of_length_le->Aj
open Nat renaming ble->Bp,le_of_ble_eq_true->Bt,le_refl->A3,le_trans->A4,zero_le->Am
open Option renaming getD_some->Bz
open Go.Proofs.Tryz
namespace Go.Proofs.YtjpdadobblffmaaGreat
open Go.RowKit Go.ChangeShapes Go.WideShapes Go.ChangeAt Go.Deep
inductive Put:List AV->Nat->List AV->List AV->Prop
 |done {l:List AV} :Put l 0 [] l
 |put {a v:AV} {l vs l':List AV} (h:Put l 0 vs l'):Put (a::l) 0 (v::vs) (v::l')
 |skip {a:AV} {k:Nat} {l vs l':List AV} (h:Put l k vs l'):Put (a::l) (k+1) vs (a::l')
theorem Put.eq {cs:List AV}{k:Nat}{vs out:List AV}(h:Put cs k vs out):k+vs.length<=cs.length/\out=cs.take k++vs++cs.drop (k+vs.length):=by
 induction h with
 |done=>simp
 |put _ ih=>
  obtain⟨h1,h2⟩:=ih;refine⟨by simp at h1⊢;omega, ?_⟩;simp at h2⊢;exact h2
 |@skip a k l vs l' _ ih=>
  obtain⟨h1,h2⟩:=ih;refine⟨by simp at h1⊢;omega, ?_⟩;rw[show k+1+vs.length=(k+vs.length)+1 by omega];simp at h2⊢;exact h2
inductive Fill (pl:List (Nat×Nat)):List AV->List (Nat×AV)->List AV->Prop
 |nil {cs:List AV} :Fill pl cs [] cs
 |cons {cs cs' out:List AV} {i off sz:Nat} {v:AV} {r:List (Nat×AV)} (hp:pl[i]? =some (off,sz)) (hl:v.cells.length=sz) (hc:v.cells.all AV.cell=true) (h:Put cs off v.cells cs') (hr:Fill pl cs' r out):Fill pl cs ((i,v)::r) out
theorem Fill.eq {pl:List (Nat×Nat)}{cs out:List AV}{r:List (Nat×AV)}(h:Fill pl cs r out):ME pl cs r=some out:=by
 induction h with
 |nil=>rfl
 |@cons cs cs' out i off sz v r hp hl hc h _ ih=>
  obtain⟨h1,h2⟩:=h.eq;unfold ME;rw[hp];simp only;rw[Dc (by simp[hl,hc];rw[hl]at h1;exact h1),<-hl,<-h2,ih]
inductive SPut:dI->Nat->Nat->List AV->dI->Prop
 |here {r off:Nat} {bt:TypeId} {cs vs cs':List AV} {Y:dI} (h:Put cs off vs cs') (hn:Fresh r Y):SPut ((r,.box bt cs)::Y) r off vs ((r,.box bt cs')::Y)
 |next {r q off:Nat} {y:Ent} {vs:List AV} {Y Y':dI} (hne:r≠q) (h:SPut Y r off vs Y'):SPut ((q,y)::Y) r off vs ((q,y)::Y')
inductive SSet:dI->Nat->Ent->Nat->Ent->dI->Prop
 |here {r r':Nat} {x x':Ent} {Y:dI} (hn:Fresh r Y):SSet ((r,x)::Y) r x r' x' ((r',x')::Y)
 |next {r q r':Nat} {x x' y:Ent} {Y Y':dI} (hne:r≠q) (h:SSet Y r x r' x' Y'):SSet ((q,y)::Y) r x r' x' ((q,y)::Y')
theorem SSet.get {Y Y':dI}{r r':Nat}{x x':Ent}(h:SSet Y r x r' x' Y'):gM Y r=some x:=by
 induction h with
 |here _=>exact kM
 |next hne _ ih=>exact kO hne ih
theorem Fresh.cons {r q:Nat}{y:Ent}{Y:dI}(h:q≠r)(k:Fresh r Y):Fresh r ((q,y)::Y):=by rw[aN];exact⟨h,k⟩
theorem SSet.sub {Y Y':dI}{r r':Nat}{x x':Ent}(h:SSet Y r x r' x' Y'):∀p∈Y',p∈(r',x')::eD [r] Y:=by
 induction h with
 |@here r r' x x' Y hn=>
  intro p hp;rcases Av.1 hp with rfl|hp
  ·simp
  ·refine An _ ?_;simp only[eD,List.mem_filter];exact⟨An _ hp,by simpa using hn p hp⟩
 |@next r q r' x x' y Y Y' hne _ ih=>
  intro p hp;rcases Av.1 hp with rfl|hp
  ·refine An _ ?_;simp only[eD,List.mem_filter];exact⟨X,by simpa using fun e=>hne e.symm⟩
  ·rcases Av.1 (ih p hp)with rfl|h
   ·simp
   ·refine An _ ?_;simp only[eD,List.mem_filter]at h⊢;exact⟨An _ h.1,h.2⟩
inductive SDel:dI->Nat->Ent->dI->Prop
 |here {r:Nat} {x:Ent} {Y:dI} (hn:Fresh r Y):SDel ((r,x)::Y) r x Y
 |next {r q:Nat} {x y:Ent} {Y Y':dI} (hne:r≠q) (h:SDel Y r x Y'):SDel ((q,y)::Y) r x ((q,y)::Y')
theorem SDel.get {Y Y':dI}{r:Nat}{x:Ent}(h:SDel Y r x Y'):gM Y r=some x:=by
 induction h with
 |here _=>exact kM
 |next hne _ ih=>exact kO hne ih
theorem SDel.sub {Y Y':dI}{r:Nat}{x:Ent}(h:SDel Y r x Y'):∀p∈Y',p∈Y/\p.1≠r:=by
 induction h with
 |here hn=>intro p hp;exact⟨An _ hp,hn p hp⟩
 |next hne _ ih=>
  intro p hp;rcases Av.1 hp with rfl|hp
  ·exact⟨Au,fun e=>hne e.symm⟩
  ·exact⟨An _ (ih p hp).1,(ih p hp).2⟩
theorem aJF{fr:Fr}{Y Y':dI}{i q off len sz:Nat}{et:TypeId}{es es':List (List AV)}(hx:dR fr i=some (.own q off len))(hd:SDel Y q (.arr et sz es) Y')(hle:off+len<=es.length)(he:(es.drop off).take len=es'):SGo ⟨fr,Y⟩ ⟨(i,.ro sz es' .any)::fr,Y'⟩:=by
 refine uV [q] (fun j x' hj=> ?_) (fun p hp=> ?_)
 ·simp only[dR]at hj;split at hj
  ·next e=>
   subst e;obtain rfl:=Option.some.inj hj;exact⟨_,hx,he▸Bor.own Au hd.get hle⟩
  ·exact⟨x',hj,.refl _⟩
 ·obtain⟨h1,h2⟩:=hd.sub p hp;exact⟨by simpa using h2,p.2,h1,.refl _⟩
theorem SPut.set {Y Y':dI}{r off:Nat}{vs:List AV}(h:SPut Y r off vs Y'):∃bt cs cs',Put cs off vs cs'/\SSet Y r (.box bt cs) r (.box bt cs') Y':=by
 induction h with
 |here h hn=>exact⟨_,_,_,h,.here hn⟩
 |next hne _ ih=>obtain⟨bt,cs,cs',h1,h2⟩:=ih;exact⟨bt,cs,cs',h1,.next hne h2⟩
section
variable {P : Program} {n : Nat} {ops : Array Oper} {rest : List Oper} {fr : Fr} {Y Y' : dI} {K : ASt -> Prop} {op : Op} {ty t t' : TypeId} {pos : String} {af : Array Edge} {x y : Operand} {c : Bool} {d : Nat}
theorem E{s:ASt}{v:AV}(h:aev s x=some v):Ev s c x v:=.here h
theorem W{s:ASt}{v:AV}{c':Bool}(h:aev s x=some (.when c' v))(hc:c=true->c'=true):Ev s c x v:=.when h hc
theorem aa{P:Prop}(h:P:=by first|exact W rfl id|exact E rfl):P:=h
theorem ab{P:Prop}(h:P:=by first|exact W rfl (by first|exact id|simp)|exact E rfl):P:=h
theorem hY{α:Type} [Inhabited α] {l:List α}{j:Nat}(h:j<l.length):l[j]? =some l[j]! :=by simp[h]
theorem ah{c:Bool}{P:Prop}(h:c=true->P:=by intro hc; first|rfl|exact cU (by assumption)|assumption|exact cU (hY (by(try simp at hc)<;>omega))):c=true->P:=h
theorem IC{P:Program}{op:Op}{ty:TypeId}{s:ASt}{v:AV}:Lop P op ty s false v []:=⟨fun r hr=>by simp at hr,fun _ _ _ _ _ _ _ hc=>by cases hc⟩
theorem ID{P:Program}{ty t t':TypeId}{s:ASt}{c:Bool}{x y:Operand}{m m':Int} [Ty P t (.int .i64)] (h:Ev s c x (.int .i64 m))(h':Ev s c y (.int .i64 m'))(hb:c=true-> -9223372036854775808<=m-m'/\m-m'<=9223372036854775807):Lop P (.binOp .sub t x y t') ty s c (.int .i64 (m-m')) []:=by
 cases c with
 |false=>exact IC
 |true=>exact oT h h' (hb rfl).1 (hb rfl).2
theorem StLe.of_mem {Y:dI}:∀ {l:dI},(∀p∈l,p∈Y)->StLe Y l
 |[],_=>.nil
 |(r,y)::l,h=>.cons (h (r,y) X) rfl (StLe.of_mem fun p hp=>h p (by simp[hp]))
theorem StLe.refl (Y:dI):StLe Y Y:=.of_mem fun _ h=>h
theorem cL{a b:Nat}(h:Bp (a+1) b=true):a<b:=Bt h
theorem lo{v:AV}{rs:List Nat}(h:Lop P op ty ⟨fr,Y⟩ true v rs)(hd:Bp (d+1) n=true)(hK:RS P n ops rest ⟨(d,v)::fr,Y⟩ K):RS P n ops (⟨some d,op,ty,pos,af,none⟩::rest) ⟨fr,Y⟩ K:=aCQ h (cL hd) hK
theorem lg{j dj:Nat}{want b:Bool}{v:AV}{rs:List Nat}(hj:(ops[j]?).bind (·.dst)=some dj)(hb:dR fr dj=some (.bool b))(h:Lop P op ty ⟨fr,Y⟩ (b==want) v rs)(hd:Bp (d+1) n=true)
  (hK:RS P n ops rest ⟨(d,.when (b==want) v)::fr,Y⟩ K):RS P n ops (⟨some d,op,ty,pos,af,some (j,want)⟩::rest) ⟨fr,Y⟩ K:=RW hj hb h (cL hd) hK
theorem lw{j dj:Nat}{want b c0:Bool}{v:AV}{rs:List Nat}(hj:(ops[j]?).bind (·.dst)=some dj)(hb:dR fr dj=some (.when c0 (.bool b)))(h:Lop P op ty ⟨fr,Y⟩ (c0&&(b==want)) v rs)(hd:Bp (d+1) n=true)
  (hK:RS P n ops rest ⟨(d,.when (c0&&(b==want)) v)::fr,Y⟩ K):RS P n ops (⟨some d,op,ty,pos,af,some (j,want)⟩::rest) ⟨fr,Y⟩ K:=KX hj hb h (cL hd) hK
theorem ln{j dj:Nat}{want b:Bool}(hj:(ops[j]?).bind (·.dst)=some dj)(hb:dR fr dj=some (.bool b))(hne:(b==want)=false)(hd:Bp (d+1) n=true)
  (hK:RS P n ops rest ⟨(d,.when false (.bool false))::fr,Y⟩ K):RS P n ops (⟨some d,op,ty,pos,af,some (j,want)⟩::rest) ⟨fr,Y⟩ K:=by
 refine RW (v:=.bool false) (rs:=[]) hj hb ?_ (cL hd) ?_
 ·rw[hne];exact IC
 ·rw[hne];exact hK
theorem le{ks:List Nat}{fr':Fr}(h:KeepIs fr ks fr')(hK:K ⟨fr',Y⟩):RS P n ops [] ⟨fr,Y⟩ (zY ks K):=aJB h rfl hK
theorem OS{s:ASt}{fs:Array Field} [Ty P t (.struct fs)] {sz by_:Nat}{z:Value} [Tz P t sz by_ z] {pl:List (Nat×Nat)} [Tf P t pl] {parts:Array (Nat×Operand)}{vs:List (Nat×AV)}{out zs:List AV}(hp:PEvs s c parts.toList vs)(hz:z.cells.toList.map xC=zs)(hf:Fill pl zs vs out):
  Lop P (.build t parts) ty s c (.agg out) []:=aBo rfl hp (by rw[hz];exact hf.eq)
theorem XN{ts:List Nat}{q off len sz:Nat}{et:TypeId}{es es':List (List AV)}(ht:q∈ts)(hg:gM Y q=some (.arr et sz es))(hle:off+len<=es.length)(he:(es.drop off).take len=es'):Bor Y ts (.own q off len) (.ro sz es' .any):=he▸Bor.own ht hg hle
theorem mW{s:ASt}{x y z:Operand}{v:AV}(h:Ev s c x (.bool true))(h1:Ev s c y v):Lop P (.pick x y z) ty s c v []:=
 Lop.pure_ fun M F N n a w hr hc=>⟨_,h1.vr hr hc,fun w' o ho _=>by
  have e:=h.bool hr hc;simp[execOp,ho,e,asBool]⟩
theorem iZ{s:ASt}{x y z:Operand}{v:AV}(h:Ev s c x (.bool false))(h1:Ev s c z v):Lop P (.pick x y z) ty s c v []:=
 Lop.pure_ fun M F N n a w hr hc=>⟨_,h1.vr hr hc,fun w' o ho _=>by
  have e:=h.bool hr hc;simp[execOp,ho,e,asBool]⟩
theorem aC0:∀x∈([]:List AV),NoF x:=fun x hx=>by simp at hx
theorem aBr{a:AV}{l:List AV}(h:NoF a)(k:∀x∈l,NoF x):∀x∈a::l,NoF x:=fun x hx=>by
 rcases Av.1 hx with rfl|hx
 ·exact h
 ·exact k x hx
inductive BorL (Y:dI) (ts:List Nat):List AV->List AV->Prop
 |nil:BorL Y ts [] []
 |cons {x y:AV} {xs ys:List AV} (h:Bor Y ts x y) (r:BorL Y ts xs ys):BorL Y ts (x::xs) (y::ys)
theorem Df{w:dI}{ts:List Nat}{a b c d:AV}{cs cs':List AV}(h:BorL w ts cs cs'):BorL w ts (a::b::c::d::cs) (a::b::c::d::cs'):=.cons (.refl _) (.cons (.refl _) (.cons (.refl _) (.cons (.refl _) h)))
theorem BorL.at_ {ts:List Nat}{cs cs':List AV}(h:BorL Y ts cs cs'):cs'.length=cs.length/\∀(j:Nat) (a':AV),cs'[j]? =some a'->Bor Y ts (cs.getD j .undef) a':=by
 induction h with
 |nil=>exact⟨rfl,fun j a h=>by simp at h⟩
 |cons h _ ih=>
  refine⟨by simp[ih.1],fun j a' hj=> ?_⟩;cases j with
  |zero=>simp at hj;subst hj;simpa using h
  |succ j=>simpa using ih.2 j a' (by simpa using hj)
theorem aN7{ts:List Nat}{r off sz:Nat}{bt:TypeId}{cs cs':List AV}(ht:r∈ts)(hg:gM Y r=some (.box bt cs))(hz:cs.length=sz)(hc:cs'.all AV.cell=true)(h:BorL Y ts cs cs'):Bor Y ts (.ptr r off) (.el sz [cs'] 0 off):=by
 subst hz;exact .bx (fun j=>cs.getD j .undef) ht hg h.at_.1 (Bw.1 hc) (fun j a hj=>by simp[hj]) h.at_.2
theorem aC1{ts:List Nat}{cs cs':List AV}(h:BorL Y ts cs cs'):Bor Y ts (.agg cs) (.agg cs'):=
 .agg (fun j=>cs.getD j .undef) h.at_.1 (fun j a hj=>by simp[hj]) h.at_.2
theorem bx{v:AV}{cs:List AV}(h:aev ⟨fr,Y⟩ x=some v)(hc:v.cells.all AV.cell=true)(hv:v.cells=cs)(hd:Bp (d+1) n=true)(hK:∀r,Fresh r Y->RS P n ops rest ⟨(d,.ptr r 0)::fr,(r,.box t cs)::Y⟩ K):RS P n ops (⟨some d,.box t x,ty,pos,af,none⟩::rest) ⟨fr,Y⟩ K:=by
 subst hv;exact gA (aAm h hc (cL hd) hK)
theorem al{sz by_:Nat}{z:Value} [Tz P t sz by_ z] {cs:List AV}(hd:Bp (d+1) n=true)(hz:z.cells.toList.map cM=cs)(hK:∀r,Fresh r Y->RS P n ops rest ⟨(d,.ptr r 0)::fr,(r,.box t cs)::Y⟩ K):RS P n ops (⟨some d,.alloc t,ty,pos,af,none⟩::rest) ⟨fr,Y⟩ K:=by
 subst hz;exact gA (EE (cL hd) hK)
theorem AT{s:ASt}{Y2:dI}(h:∀p∈Y2,p∈s.Y)(hK:RS P n ops rest ⟨s.fr,Y2⟩ K):RS P n ops rest s K:=mC (s':=⟨s.fr,Y2⟩) (SGo.of_le (fun _ x h=>⟨x,h,VLe.refl x⟩) h) hK
theorem IE{listed:Array Bool}{todo:List (Nat×Bool)}{held:List (Nat×List Nat)}{s:ASt}{Y2:dI}(h:∀p∈Y2,p∈s.Y)(hK:RD P n ops listed todo held ⟨s.fr,Y2⟩ K):RD P n ops listed todo held s K:=by
 intro hsel hc M F N a w hr;exact jV (PostN.ext ((Ext.refl M F N w s.Y).sub h)) (fun _ _ h=>h) _ _ _ _ (hK hsel hc M F N a w ⟨hr.size,hr.defers,hr.fr,hr.st.sub h⟩)
theorem OT{sz by_:Nat}{z:Value} [Tz P t sz by_ z] {r off:Nat}{v:AV}(h:aev ⟨fr,Y⟩ x=some (.ptr r off))(hv:aev ⟨fr,Y⟩ y=some v)(hc:v.cells.all AV.cell=true)(hl:v.cells.length=sz)(hs:SPut Y r off v.cells Y')
  (hK:RS P n ops rest ⟨fr,Y'⟩ K):RS P n ops (⟨none,.store t x y,ty,pos,af,none⟩::rest) ⟨fr,Y⟩ K:=by
 obtain⟨bt,cs,cs',h1,h2⟩:=hs.set;obtain⟨k1,k2⟩:=h1.eq;refine gA (zZ h h2.get hv hc hl U ?_);refine AT (fun p hp=> ?_) hK;rw[hl]at k2;rw[<-k2];exact h2.sub p hp
theorem sto{sz1 by_:Nat}{z:Value} [Tz P t sz1 by_ z] {r i off:Nat}{et:TypeId}{sz:Nat}{es es':List (List AV)}{e e':List AV}{v:AV}(h:aev ⟨fr,Y⟩ x=some (.ow r i off))(hv:aev ⟨fr,Y⟩ y=some v)(hc:v.cells.all AV.cell=true)(hl:v.cells.length=sz1)
  (hs:SSet Y r (.arr et sz es) r (.arr et sz es') Y') (he:es[i]? =some e) (hp:Put e off v.cells e') (he':es'=es.set i e') (hK:RS P n ops rest ⟨fr,Y'⟩ K):RS P n ops (⟨none,.store t x y,ty,pos,af,none⟩::rest) ⟨fr,Y⟩ K:=by
 obtain⟨k1,k2⟩:=hp.eq;refine gA (xJ h hs.get he U hv hc hl ?_);refine AT (fun p hp=> ?_) hK;rw[hl]at k2;rw[<-k2,<-he'];exact hs.sub p hp
theorem bs{e:TypeId} [Ty P t (.slice e)] {sz by_:Nat}{zv:Value} [Tz P e sz by_ zv] {len:Nat}{parts:Array (Nat×Operand)}{vs:List AV}{es:List (List AV)}(hv:AEvs ⟨fr,Y⟩ (parts.toList.map (·.2)) vs)(hp:parts.toList=tK 0 (parts.toList.map (·.2)))(hlen:(len==vs.length)=true)(h0:(decide (0<sz)&&decide (len*sz<=16777216))=true)
  (hc:(vs.all fun v=>v.cells.length==sz&&v.cells.all AV.cell)=true) (he:vs.map AV.cells=es) (hd:Bp (d+1) n=true) (hK:∀r,Fresh r Y->RS P n ops rest ⟨(d,.own r 0 len)::fr,(r,.arr e sz es)::Y⟩ K):RS P n ops (⟨some d,.buildSlice t len parts,ty,pos,af,none⟩::rest) ⟨fr,Y⟩ K:=by
 subst he;exact gA (pZ hp hv hlen h0 hc (cL hd) hK)
theorem mk{e:TypeId} [Ty P t (.slice e)] {sz by_:Nat}{zv:Value} [Tz P e sz by_ zv] {k k':IntKind}{m:Int}{l:Nat}{z:List AV}(hl:aev ⟨fr,Y⟩ x=some (.int k m))(hc:aev ⟨fr,Y⟩ y=some (.int k' m))(hm:m=(l:Int))(h0:(decide (0<sz)&&(zv.cells.size==sz)&&(zv.cells.toList.map cM).all AV.cell)=true)
  (hby:by_*l<=281474976710656) (hml:l<=maxLen) (hz:zv.cells.toList.map cM=z) (hd:Bp (d+1) n=true) (hK:∀r,Fresh r Y->RS P n ops rest ⟨(d,.own r 0 l)::fr,(r,.arr e sz (Ak l z))::Y⟩ K):RS P n ops (⟨some d,.makeSlice t x y,ty,pos,af,none⟩::rest) ⟨fr,Y⟩ K:=by
 subst hz;exact gA (aCY hl hc hm h0 hby hml (cL hd) hK)
theorem ap{e:TypeId} [Ty P t (.slice e)] {sz by_:Nat}{zv:Value} [Tz P e sz by_ zv] {r len len':Nat}{es ys es':List (List AV)}(hz:zv.cells.size=sz)(hb:aev ⟨fr,Y⟩ x=some (.own r 0 len))(hg:gM Y r=some (.arr e sz es))(hlen:len=es.length)(hy:Src ⟨fr,Y⟩ y sz ys)
  (he:es++ys=es') (hl':len'=len+ys.length) (hmax:len'<=maxLen) (hby:len'*by_<=140737488355328) (hd:Bp (d+1) n=true)
  (hK:∀r',Fresh r' (eD [r] Y)->∃Y',SSet Y r (.arr e sz es) r' (.arr e sz es') Y'/\RS P n ops rest ⟨(d,.own r' 0 len')::fr,Y'⟩ K):RS P n ops (⟨some d,.call { callee:=.builtin .append,args:=#[x,y],argTypes:=#[t,t] },ty,pos,af,none⟩::rest) ⟨fr,Y⟩ K:=by
 subst he hl';refine gA (rI hz hb hg U hy hmax hby (cL hd) fun r' hf=> ?_);obtain⟨Y',hs,hK⟩:=hK r' hf;rw[hlen,Aw];refine AT (fun p hp=>hs.sub p hp) ?_;rw[<-hlen];exact hK
theorem cp{e tS:TypeId} [Ty P t (.slice e)] {by_:Nat}{zv:Value} [Tz P e 1 by_ zv] {r off len m:Nat}{et:TypeId}{es ys es':List (List AV)}(hb:aev ⟨fr,Y⟩ x=some (.own r off len))(hs:SSet Y r (.arr et 1 es) r (.arr et 1 es') Y')(hle:off+len<=es.length)(hy:Src ⟨fr,Y⟩ y 1 ys)(hm:m=min ys.length len)
  (he:es'=es.take off++ys.take m++es.drop (off+m)) (hd:Bp (d+1) n=true) (hK:RS P n ops rest ⟨(d,.int .i64 m)::fr,Y'⟩ K):RS P n ops (⟨some d,.call { callee:=.builtin .copy,args:=#[x,y],argTypes:=#[t,tS] },ty,pos,af,none⟩::rest) ⟨fr,Y⟩ K:=by
 subst he;exact gA (SB hb hs.get hle hy hm (cL hd) (AT (s:=⟨_,_⟩) (fun p hp=>hs.sub p hp) hK))
theorem pu{f:FuncId}{xs:List Operand}{ats:Array TypeId}{args:List AV}{v:AV}(ts:List Nat)(hf:∀args w,(callFunc f args).run P w=.ok (.enter f args) w)(h:SCall P f args [] (fun x Y'=>x=v/\Y'=[]))(hd:Bp (d+1) n=true)
  (hargs:ArgsIf ⟨fr,Y⟩ true ts xs args) (hno:NoF v) (hK:RS P n ops rest ⟨(d,v)::fr,Y⟩ K):RS P n ops (⟨some d,.call { callee:=.value (.func f),args:=xs.toArray,argTypes:=ats },ty,pos,af,none⟩::rest) ⟨fr,Y⟩ K:=aFX ts hf h (cL hd) hargs hno hK
theorem pug{f:FuncId}{j dj:Nat}{want b:Bool}{xs:List Operand}{ats:Array TypeId}{args:List AV}{v:AV}(ts:List Nat)(hj:(ops[j]?).bind (·.dst)=some dj)(hb:dR fr dj=some (.bool b))(hf:∀args w,(callFunc f args).run P w=.ok (.enter f args) w)
  (h:(b==want)=true->SCall P f args [] (fun x Y'=>x=v/\Y'=[])) (hd:Bp (d+1) n=true) (hargs:ArgsIf ⟨fr,Y⟩ (b==want) ts xs args) (hno:NoF v) (hK:RS P n ops rest ⟨(d,.when (b==want) v)::fr,Y⟩ K):
  RS P n ops (⟨some d,.call { callee:=.value (.func f),args:=xs.toArray,argTypes:=ats },ty,pos,af,some (j,want)⟩::rest) ⟨fr,Y⟩ K:=LB ts hj hb hf h (cL hd) hargs hno hK
theorem ne{e:TypeId} [Ty P t (.slice e)] {sz:Nat}{es:List (List AV)}{k:Rk}(h:aev ⟨fr,Y⟩ x=some (.ro sz es k))(hy:y=.const (.slice none 0 0))(hd:Bp (d+1) n=true)(hK:∀b,(b=true->es=[])->(k=.nil->b=true)->RS P n ops rest ⟨(d,.bool b)::fr,Y⟩ K):
  RS P n ops (⟨some d,.binOp .eql t x y t',ty,pos,af,none⟩::rest) ⟨fr,Y⟩ K:=aBp h hy (cL hd) hK
theorem cl{f:FuncId}{xs:List Operand}{ats:Array TypeId}{args:List AV}{R:AV->dI->Prop}(ts:List Nat)(hf:∀args w,(callFunc f args).run P w=.ok (.enter f args) w)(h:SCall P f args [] R)(hd:Bp (d+1) n=true)
  (hargs:ArgsBor ⟨fr,Y⟩ ts xs args) (hno:∀x Y',R x Y'->NoF x/\∀p∈Y',ENoF p.2) (hK:∀x Y',R x Y'->(∀p∈Y',Fresh p.1 Y)->RS P n ops rest ⟨(d,x)::fr,Y'++Y⟩ K):
  RS P n ops (⟨some d,.call { callee:=.value (.func f),args:=xs.toArray,argTypes:=ats },ty,pos,af,none⟩::rest) ⟨fr,Y⟩ K:=gA (tA ts hf h (cL hd) hargs hno hK)
theorem cw{f:FuncId}{xs:List Operand}{ats:Array TypeId}{args:List AV}{R:AV->dI->Prop}(Y1:dI)(hf:∀args w,(callFunc f args).run P w=.ok (.enter f args) w)(h:SCall P f args Y1 R)(hd:Bp (d+1) n=true)
  (hargs:ArgsLe ⟨fr,Y⟩ xs args) (hsub:∀p∈Y1,p∈Y) (hK:∀x Y',R x Y'->(∀p∈Y',(∃q∈Y1,q.1=p.1)\/Fresh p.1 Y)->RS P n ops rest ⟨(d,x)::fr,Y'++eD (Y1.map (·.1)) Y⟩ K):
  RS P n ops (⟨some d,.call { callee:=.value (.func f),args:=xs.toArray,argTypes:=ats },ty,pos,af,none⟩::rest) ⟨fr,Y⟩ K:=gA (rH hf h (cL hd) hargs hsub hK)
theorem fz{i q off len sz:Nat}{et:TypeId}{es es':List (List AV)}(hx:dR fr i=some (.own q off len))(hd:SDel Y q (.arr et sz es) Y')(hle:off+len<=es.length)(he:(es.drop off).take len=es')(hK:RS P n ops rest ⟨(i,.ro sz es' .any)::fr,Y'⟩ K):RS P n ops rest ⟨fr,Y⟩ K:=
 mC (aJF hx hd hle he) hK
theorem gy{dst:Option Nat}{s:ASt}{j dj:Nat}{want:Bool}(hj:(ops[j]?).bind (·.dst)=some dj)(hb:dR s.fr dj=some (.bool want))(h:RS P n (ops) (⟨dst,op,ty,pos,af,none⟩::rest) s K):RS P n ops (⟨dst,op,ty,pos,af,some (j,want)⟩::rest) s K:=by
 intro M F N a w hr;have hw:=oR (o:=⟨dst,op,ty,pos,af,some (j,want)⟩) hr rfl hj hb;have h1:=h M F N a w hr;unfold wpList at h1⊢;rw[hw,Dc (by cases want<;>rfl)];rw[Dc (by rfl)]at h1;exact h1
variable {listed : Array Bool} {todo : List (Nat × Bool)} {held : List (Nat × List Nat)} {i : Nat}
theorem eS{v:AV}{rs:List Nat}(hi:ops[i]? =some ⟨some d,op,ty,pos,af,none⟩)(h:Lop P op ty ⟨fr,Y⟩ true v rs)(hd:Bp (d+1) n=true)(hK:RD P n ops (listed.setIfInBounds i true) todo ((i,rs)::held) ⟨(d,v)::fr,Y⟩ K):
  RD P n ops listed ((i,true)::todo) held ⟨fr,Y⟩ K:=aCW hi h (cL hd) hK
theorem gI{j dj:Nat}{want b:Bool}{v:AV}{rs:List Nat}(hi:ops[i]? =some ⟨some d,op,ty,pos,af,some (j,want)⟩)(hj:(ops[j]?).bind (·.dst)=some dj)(hb:dR fr dj=some (.bool b))(h:Lop P op ty ⟨fr,Y⟩ (b==want) v rs)(hd:Bp (d+1) n=true)
  (hK:RD P n ops (listed.setIfInBounds i true) todo ((i,rs)::held) ⟨(d,.when (b==want) v)::fr,Y⟩ K):RD P n ops listed ((i,true)::todo) held ⟨fr,Y⟩ K:=RY hi hj hb h (cL hd) hK
theorem EB{j dj:Nat}{want b c0:Bool}{v:AV}{rs:List Nat}(hi:ops[i]? =some ⟨some d,op,ty,pos,af,some (j,want)⟩)(hj:(ops[j]?).bind (·.dst)=some dj)(hb:dR fr dj=some (.when c0 (.bool b)))(h:Lop P op ty ⟨fr,Y⟩ (c0&&(b==want)) v rs)(hd:Bp (d+1) n=true)
  (hK:RD P n ops (listed.setIfInBounds i true) todo ((i,rs)::held) ⟨(d,.when (c0&&(b==want)) v)::fr,Y⟩ K):RD P n ops listed ((i,true)::todo) held ⟨fr,Y⟩ K:=KY hi hj hb h (cL hd) hK
theorem XD{j dj:Nat}{want b:Bool}(hi:ops[i]? =some ⟨some d,op,ty,pos,af,some (j,want)⟩)(hj:(ops[j]?).bind (·.dst)=some dj)(hb:dR fr dj=some (.bool b))(hne:(b==want)=false)(hd:Bp (d+1) n=true)
  (hK:RD P n ops (listed.setIfInBounds i true) todo ((i,[])::held) ⟨(d,.when false (.bool false))::fr,Y⟩ K):RD P n ops listed ((i,true)::todo) held ⟨fr,Y⟩ K:=by
 refine RY (v:=.bool false) (rs:=[]) hi hj hb ?_ (cL hd) ?_
 ·rw[hne];exact IC
 ·rw[hne];exact hK
theorem de{ks:List Nat}{fr':Fr}(h:KeepIs fr ks fr')(hK:K ⟨fr',Y⟩):RD P n ops listed [] held ⟨fr,Y⟩ (zY ks K):=aJC h rfl hK
theorem dbx{v:AV}{cs:List AV}(hi:ops[i]? =some ⟨some d,.box t x,ty,pos,af,none⟩)(h:aev ⟨fr,Y⟩ x=some v)(hc:v.cells.all AV.cell=true)(hv:v.cells=cs)(hd:Bp (d+1) n=true)(hK:∀r,Fresh r Y->RD P n ops (listed.setIfInBounds i true) todo held ⟨(d,.ptr r 0)::fr,(r,.box t cs)::Y⟩ K):
  RD P n ops listed ((i,false)::todo) held ⟨fr,Y⟩ K:=by
 subst hv;exact AS hi (aAm h hc (cL hd) hK)
theorem dal{sz by_:Nat}{z:Value}{cs:List AV}(hi:ops[i]? =some ⟨some d,.alloc t,ty,pos,af,none⟩)(i1:Tz P t sz by_ z)(hd:Bp (d+1) n=true)(hz:z.cells.toList.map cM=cs)(hK:∀r,Fresh r Y->RD P n ops (listed.setIfInBounds i true) todo held ⟨(d,.ptr r 0)::fr,(r,.box t cs)::Y⟩ K):
  RD P n ops listed ((i,false)::todo) held ⟨fr,Y⟩ K:=by
 subst hz;exact AS hi (EE (cL hd) hK)
theorem aN8{sz by_:Nat}{z:Value}{r off:Nat}{v:AV}(hi:ops[i]? =some ⟨none,.store t x y,ty,pos,af,none⟩)(i1:Tz P t sz by_ z)(h:aev ⟨fr,Y⟩ x=some (.ptr r off))(hv:aev ⟨fr,Y⟩ y=some v)(hc:v.cells.all AV.cell=true)(hl:v.cells.length=sz)(hs:SPut Y r off v.cells Y')
  (hb:HB ops i (Y.map (·.1)) [r] held) (hK:RD P n ops (listed.setIfInBounds i true) todo held ⟨fr,Y'⟩ K):RD P n ops listed ((i,false)::todo) held ⟨fr,Y⟩ K:=by
 obtain⟨bt,cs,cs',h1,h2⟩:=hs.set;obtain⟨k1,k2⟩:=h1.eq;refine BY hi (zZ h h2.get hv hc hl U ?_) (fun q hq=> ?_) hb
 ·refine IE (fun p hp=> ?_) hK;rw[hl]at k2;rw[<-k2];exact h2.sub p hp
 ·obtain rfl:=A1.1 hq;exact Bm.2 ⟨_,bV h2.get,rfl⟩
theorem aJG{sz1 by_:Nat}{z:Value}{r j off:Nat}{et:TypeId}{sz:Nat}{es es':List (List AV)}{e e':List AV}{v:AV}(hi:ops[i]? =some ⟨none,.store t x y,ty,pos,af,none⟩)(i1:Tz P t sz1 by_ z)(h:aev ⟨fr,Y⟩ x=some (.ow r j off))(hv:aev ⟨fr,Y⟩ y=some v)(hc:v.cells.all AV.cell=true)(hl:v.cells.length=sz1)
  (hs:SSet Y r (.arr et sz es) r (.arr et sz es') Y') (he:es[j]? =some e) (hp:Put e off v.cells e') (he':es'=es.set j e') (hb:HB ops i (Y.map (·.1)) [r] held) (hK:RD P n ops (listed.setIfInBounds i true) todo held ⟨fr,Y'⟩ K):RD P n ops listed ((i,false)::todo) held ⟨fr,Y⟩ K:=by
 obtain⟨k1,k2⟩:=hp.eq;refine BY hi (xJ h hs.get he U hv hc hl ?_) (fun q hq=> ?_) hb
 ·refine IE (fun p hp=> ?_) hK;rw[hl]at k2;rw[<-k2,<-he'];exact hs.sub p hp
 ·obtain rfl:=A1.1 hq;exact Bm.2 ⟨_,bV hs.get,rfl⟩
theorem dbs{e:TypeId}{sz by_:Nat}{zv:Value}{len:Nat}{parts:Array (Nat×Operand)}{vs:List AV}{es:List (List AV)}(hi:ops[i]? =some ⟨some d,.buildSlice t len parts,ty,pos,af,none⟩)(i1:Ty P t (.slice e))(i2:Tz P e sz by_ zv)(hv:AEvs ⟨fr,Y⟩ (parts.toList.map (·.2)) vs)(hp:parts.toList=tK 0 (parts.toList.map (·.2)))(hlen:(len==vs.length)=true)(h0:(decide (0<sz)&&decide (len*sz<=16777216))=true)
  (hc:(vs.all fun v=>v.cells.length==sz&&v.cells.all AV.cell)=true) (he:vs.map AV.cells=es) (hd:Bp (d+1) n=true) (hK:∀r,Fresh r Y->RD P n ops (listed.setIfInBounds i true) todo held ⟨(d,.own r 0 len)::fr,(r,.arr e sz es)::Y⟩ K):RD P n ops listed ((i,false)::todo) held ⟨fr,Y⟩ K:=by
 subst he;exact AS hi (pZ hp hv hlen h0 hc (cL hd) hK)
theorem dap{e:TypeId}{sz by_:Nat}{zv:Value}{r len len':Nat}{es ys es':List (List AV)}(hi:ops[i]? =some ⟨some d,.call { callee:=.builtin .append,args:=#[x,y],argTypes:=#[t,t] },ty,pos,af,none⟩)(i1:Ty P t (.slice e))(i2:Tz P e sz by_ zv)(hz:zv.cells.size=sz)(hx:aev ⟨fr,Y⟩ x=some (.own r 0 len))(hg:gM Y r=some (.arr e sz es))(hlen:len=es.length)(hy:Src ⟨fr,Y⟩ y sz ys)
  (he:es++ys=es') (hl':len'=len+ys.length) (hmax:len'<=maxLen) (hby:len'*by_<=140737488355328) (hd:Bp (d+1) n=true) (hb:HB ops i (Y.map (·.1)) [r] held)
  (hK:∀r',Fresh r' (eD [r] Y)->∃Y',SSet Y r (.arr e sz es) r' (.arr e sz es') Y'/\RD P n ops (listed.setIfInBounds i true) todo held ⟨(d,.own r' 0 len')::fr,Y'⟩ K):RD P n ops listed ((i,false)::todo) held ⟨fr,Y⟩ K:=by
 subst he hl';refine BY hi (rI hz hx hg U hy hmax hby (cL hd) fun r' hf=> ?_) (fun q hq=> ?_) hb
 ·obtain⟨Y',hs,hK⟩:=hK r' hf;rw[hlen,Aw];refine IE (fun p hp=>hs.sub p hp) ?_;rw[<-hlen];exact hK
 ·obtain rfl:=A1.1 hq;exact Bm.2 ⟨_,bV hg,rfl⟩
theorem dpu{f:FuncId}{xs:List Operand}{ats:Array TypeId}{args:List AV}{v:AV}(ts:List Nat)(hi:ops[i]? =some ⟨some d,.call { callee:=.value (.func f),args:=xs.toArray,argTypes:=ats },ty,pos,af,none⟩)(hf:∀args w,(callFunc f args).run P w=.ok (.enter f args) w)(h:SCall P f args [] (fun x Y'=>x=v/\Y'=[]))(hd:Bp (d+1) n=true)
  (hargs:ArgsIf ⟨fr,Y⟩ true ts xs args) (hno:NoF v) (hK:RD P n ops (listed.setIfInBounds i true) todo held ⟨(d,v)::fr,Y⟩ K):RD P n ops listed ((i,false)::todo) held ⟨fr,Y⟩ K:=AS hi (SD ts hf h (cL hd) hargs hno hK)
theorem aN9{f:FuncId}{j dj:Nat}{want b:Bool}{xs:List Operand}{ats:Array TypeId}{args:List AV}{v:AV}(ts:List Nat)(hi:ops[i]? =some ⟨some d,.call { callee:=.value (.func f),args:=xs.toArray,argTypes:=ats },ty,pos,af,some (j,want)⟩)(hj:(ops[j]?).bind (·.dst)=some dj)(hb:dR fr dj=some (.bool b))(hf:∀args w,(callFunc f args).run P w=.ok (.enter f args) w)
  (h:(b==want)=true->SCall P f args [] (fun x Y'=>x=v/\Y'=[])) (hd:Bp (d+1) n=true) (hargs:ArgsIf ⟨fr,Y⟩ (b==want) ts xs args) (hno:NoF v) (hK:RD P n ops (listed.setIfInBounds i true) todo held ⟨(d,.when (b==want) v)::fr,Y⟩ K):
  RD P n ops listed ((i,false)::todo) held ⟨fr,Y⟩ K:=LC ts hi hj hb hf h (cL hd) hargs hno hK
theorem dcl{f:FuncId}{xs:List Operand}{ats:Array TypeId}{args:List AV}{R:AV->dI->Prop}(ts:List Nat)(hi:ops[i]? =some ⟨some d,.call { callee:=.value (.func f),args:=xs.toArray,argTypes:=ats },ty,pos,af,none⟩)(hf:∀args w,(callFunc f args).run P w=.ok (.enter f args) w)(h:SCall P f args [] R)(hd:Bp (d+1) n=true)
  (hargs:ArgsBor ⟨fr,Y⟩ ts xs args) (hno:∀x Y',R x Y'->NoF x/\∀p∈Y',ENoF p.2) (hK:∀x Y',R x Y'->(∀p∈Y',Fresh p.1 Y)->RD P n ops (listed.setIfInBounds i true) todo held ⟨(d,x)::fr,Y'++Y⟩ K):
  RD P n ops listed ((i,false)::todo) held ⟨fr,Y⟩ K:=AS hi (tA ts hf h (cL hd) hargs hno hK)
theorem pB{f:FuncId}{xs:List Operand}{ats:Array TypeId}{args:List AV}{R:AV->dI->Prop}(Y1:dI)(hi:ops[i]? =some ⟨some d,.call { callee:=.value (.func f),args:=xs.toArray,argTypes:=ats },ty,pos,af,none⟩)(hf:∀args w,(callFunc f args).run P w=.ok (.enter f args) w)(h:SCall P f args Y1 R)(hd:Bp (d+1) n=true)
  (hargs:ArgsLe ⟨fr,Y⟩ xs args) (hsub:∀p∈Y1,p∈Y) (hb:HB ops i (Y.map (·.1)) (Y1.map (·.1)) held) (hK:∀x Y',R x Y'->(∀p∈Y',(∃q∈Y1,q.1=p.1)\/Fresh p.1 Y)->RD P n ops (listed.setIfInBounds i true) todo held ⟨(d,x)::fr,Y'++eD (Y1.map (·.1)) Y⟩ K):
  RD P n ops listed ((i,false)::todo) held ⟨fr,Y⟩ K:=BY hi (rH hf h (cL hd) hargs hsub hK) (fun r hr=>by obtain⟨p,hp,rfl⟩:=Bm.1 hr;exact Bm.2 ⟨p,hsub p hp,rfl⟩) hb
theorem dcp{e tS:TypeId}{by_:Nat}{zv:Value}{r off len m:Nat}{et:TypeId}{es ys es':List (List AV)}(hi:ops[i]? =some ⟨some d,.call { callee:=.builtin .copy,args:=#[x,y],argTypes:=#[t,tS] },ty,pos,af,none⟩)(i1:Ty P t (.slice e))(i2:Tz P e 1 by_ zv)(hx:aev ⟨fr,Y⟩ x=some (.own r off len))(hs:SSet Y r (.arr et 1 es) r (.arr et 1 es') Y')(hle:off+len<=es.length)(hy:Src ⟨fr,Y⟩ y 1 ys)(hm:m=min ys.length len)
  (he:es'=es.take off++ys.take m++es.drop (off+m)) (hd:Bp (d+1) n=true) (hb:HB ops i (Y.map (·.1)) [r] held) (hK:RD P n ops (listed.setIfInBounds i true) todo held ⟨(d,.int .i64 m)::fr,Y'⟩ K):RD P n ops listed ((i,false)::todo) held ⟨fr,Y⟩ K:=by
 subst he;refine BY hi (SB hx hs.get hle hy hm (cL hd) (IE (s:=⟨_,_⟩) (fun p hp=>hs.sub p hp) hK)) (fun q hq=> ?_) hb;obtain rfl:=A1.1 hq;exact Bm.2 ⟨_,bV hs.get,rfl⟩
end
theorem SR.retold {M:Mp}{F:Nat->Prop}{N:Nat}{w:World}{Y Y':dI}(h:SR M F N w Y)(hs:∀p∈Y',(∃x,(p.1,x)∈Y)/\ER M F w p.1 p.2):SR M F N w Y':=by
 refine⟨fun p hp=>(hs p hp).2,fun p hp q hq g h1 h2=> ?_, ?_,h.flt,h.fresh⟩
 ·obtain⟨x,hx⟩:=(hs p hp).1;obtain⟨y,hy⟩:=(hs q hq).1;exact h.inj (p.1,x) hx (q.1,y) hy g h1 h2
 ·rintro g ⟨p,hp,hg⟩;obtain⟨x,hx⟩:=(hs p hp).1;exact h.nof g ⟨_,hx,hg⟩
theorem Ext.retold {M:Mp}{F:Nat->Prop}{N:Nat}{w:World}{Y Y':dI}(hs:∀p∈Y',∃x,(p.1,x)∈Y):Ext M F N w Y M F N w Y':=by
 refine⟨fun _ _ h=>h,fun _ h=>h,A3 _,Only.refl _ _, ?_,fun _ h=>.inl h, ?_⟩
 ·rintro g ⟨p,hp,hg⟩ _;obtain⟨x,hx⟩:=hs p hp;exact⟨_,hx,hg⟩
 ·intro p hp _;obtain⟨x,hx⟩:=hs p hp;exact⟨_,hx,rfl⟩
theorem bN{P:Program}{n:Nat}{ks:List Nat}{s:ASt}{c:Code}{Q:Exit->ASt->Prop}(r off:Nat)(e:TypeId)(sz:Nat)(h0:0<sz){bt:TypeId}{cs:List AV}{z:Nat}{k:Rk}(hg:gM s.Y r=some (.box bt cs))(hx:cs[off]? =some (.ro z [] k))(hk:k≠ .any)
  (h:∀q,Fresh q s.Y->∃Y',SSet s.Y r (.box bt cs) r (.box bt (cs.set off (.own q 0 0))) Y'/\SW P n ks c ⟨s.fr,(q,.arr e sz [])::Y'⟩ Q):SW P n ks c s Q:=by
 intro M F N a w hr;have hE:ER (fX M N .virt) F w N (.arr e sz []):=⟨h0,fun x hx=>by simp at hx,.inl ⟨bX _,rfl⟩⟩
 obtain⟨r1,e1,n1⟩:=hr.new_ (w':=w) .virt (.arr e sz []) (fun _ _=>rfl) ⟨rfl,rfl,rfl⟩ (A3 _) (fun g hg=>by simp[bP,bX]at hg) hE;obtain⟨Y',hs,hK⟩:=h N n1;have hmem:∀p∈(N,Ent.arr e sz [])::Y',∃x,(p.1,x)∈(N,Ent.arr e sz [])::s.Y:=by
  intro p hp;rcases Av.1 hp with rfl|hp
  ·exact⟨_,Au⟩
  ·rcases Av.1 (hs.sub p hp)with rfl|hp
   ·exact⟨_,An _ (bV hg)⟩
   ·exact⟨_,An _ (fV hp).1⟩
 have hr2:Rel (fX M N .virt) F (N+1) n ⟨s.fr,(N,.arr e sz [])::Y'⟩ a w:=by
  refine⟨r1.size,r1.defers,r1.fr,r1.st.retold fun p hp=>⟨hmem p hp, ?_⟩⟩;rcases Av.1 hp with rfl|hp
  ·exact hE
  ·rcases Av.1 (hs.sub p hp)with rfl|hp
   ·obtain⟨g,vs,h1,h2,h3,h4⟩:=r1.st.ent _ (An _ (bV hg));refine⟨g,vs,by simpa using h1,h2,by simpa using h3,fun j b u hj hu=> ?_⟩;by_cases hjo:off=j
    ·subst hjo;have hlt:off<cs.length:=(Ai.1 hx).1;rw[List.getElem?_set_self hlt]at hj;obtain rfl:=Option.some.inj hj;have hv:=h4 off _ u hx hu;cases hv with
     |@ro _ _ b o _ cap us hb hs hc hrr hle hm hf hn=>
      cases k with
      |nil=>exact absurd rfl hn
      |full=>have:=hf rfl;simp at this;subst this;exact .own0
      |any=>exact absurd rfl hk
     |ro0 hm hA hf hn=>
      cases k with
      |nil=>obtain rfl:=hn rfl;obtain rfl:=hA rfl;exact .own0
      |full=>obtain rfl:=hf rfl;exact .own0
      |any=>exact absurd rfl hk
    ·rw[List.getElem?_set_ne hjo]at hj;exact h4 j b u hj hu
   ·exact r1.st.ent p (An _ (fV hp).1)
 refine wp_mono (hK _ F _ a w hr2) ?_;rintro e' a' w' ⟨M',F',N',s2,h1,h2,h3⟩;exact⟨M',F',N',s2,h1,(e1.trans (Ext.retold hmem)).trans h2,h3⟩
section
variable {P : Program} {n : Nat} {ks : List Nat} {s : ASt} {Q : Exit -> ASt -> Prop}
theorem cs{x y:Code}(h:SW P n ks x s (fE (fun s'=>SW P n ks y s' Q) Q)):SW P n ks (.seq x y) s Q:=OL h
theorem cb{id:Nat}{c:Code}(h:SW P n ks c s (eA id Q)):SW P n ks (.block id c) s Q:=aCS h
theorem ck(h:Q .normal s):SW P n ks .skip s Q:=OK h
theorem cr(h:Q .ret s):SW P n ks .ret s Q:=aJy h
theorem cx{id:Nat}(h:Q (.exit id) s):SW P n ks (.exit id) s Q:=aFQ h
theorem lp{β:Type}{c:Code}(st:β->ASt)(ok:β->Prop)(ms:β->Nat)(b0:β)(h0:SGo s (st b0))(hok:ok b0)(round:∀b,ok b->SW P n ks c (st b) (fE (fun s2=>∃b',ok b'/\ms b'<ms b/\SGo s2 (st b')) Q)):SW P n ks (.loop c) s Q:=
 aFS (fun m s=>∃b,ok b/\ms b=m/\st b=s) (ms b0) ⟨_,h0,b0,hok,rfl,rfl⟩ (by
  rintro m s' ⟨b,hb,rfl,rfl⟩;refine yY (round b hb) fun e s2 h=> ?_
  cases e<;>first|exact h|(obtain⟨b',h1,h2,h3⟩:=h;exact⟨_,_,h3,h2,b',h1,rfl,rfl⟩))
theorem sj{β:Type}{x y:Code}(st:β->ASt)(ok:β->Prop)(hx:SW P n ks x s (fE (fun s2=>∃b,ok b/\SGo s2 (st b)) Q))(hy:∀b,ok b->SW P n ks y (st b) Q):SW P n ks (.seq x y) s Q:=
 OL (yY hx fun e s2 h=>by cases e<;>first|exact h|(obtain⟨b,h1,h2⟩:=h;exact dO h2 (hy b h1)))
theorem ct{c:Operand}{x y:Code}(hc:aev s c=some (.bool true))(h:SW P n ks x s Q):SW P n ks (.cond c x y) s Q:=OQ hc h
theorem cf{c:Operand}{x y:Code}(hc:aev s c=some (.bool false))(h:SW P n ks y s Q):SW P n ks (.cond c x y) s Q:=LA hc h
end
theorem an{K:ASt->Prop}{Q:Exit->ASt->Prop}{s:ASt}(h:K s):fE K Q .normal s:=h
theorem ae{K:ASt->Prop}{Q:Exit->ASt->Prop}{s:ASt}{i:Nat}(h:Q (.exit i) s):fE K Q (.exit i) s:=h
theorem ar{K:ASt->Prop}{Q:Exit->ASt->Prop}{s:ASt}(h:Q .ret s):fE K Q .ret s:=h
theorem bn{i:Nat}{Q:Exit->ASt->Prop}{s:ASt}(h:Q .normal s):eA i Q .normal s:=h
theorem bh{i:Nat}{Q:Exit->ASt->Prop}{s:ASt}(h:Q .normal s):eA i Q (.exit i) s:=XM h
theorem be{i j:Nat}{Q:Exit->ASt->Prop}{s:ASt}(hne:(j==i)=false)(h:Q (.exit j) s):eA i Q (.exit j) s:=aCX hne h
theorem br{i:Nat}{Q:Exit->ASt->Prop}{s:ASt}(h:Q .ret s):eA i Q .ret s:=h
theorem FH{P:Program}{n:Nat}{ops:Array Oper}{rest:List Oper}{s:ASt}{K:ASt->Prop}(r off:Nat)(e:TypeId)(sz:Nat)(h0:0<sz){bt:TypeId}{cs:List AV}{z:Nat}{k:Rk}(hg:gM s.Y r=some (.box bt cs))(hx:cs[off]? =some (.ro z [] k))(hk:k≠ .any)
  (h:∀q,Fresh q s.Y->∃Y',SSet s.Y r (.box bt cs) r (.box bt (cs.set off (.own q 0 0))) Y'/\RS P n ops rest ⟨s.fr,(q,.arr e sz [])::Y'⟩ K):RS P n ops rest s K:=by
 intro M F N a w hr;have hE:ER (fX M N .virt) F w N (.arr e sz []):=⟨h0,fun x hx=>by simp at hx,.inl ⟨bX _,rfl⟩⟩
 obtain⟨r1,e1,n1⟩:=hr.new_ (w':=w) .virt (.arr e sz []) (fun _ _=>rfl) ⟨rfl,rfl,rfl⟩ (A3 _) (fun g hg=>by simp[bP,bX]at hg) hE;obtain⟨Y',hs,hK⟩:=h N n1;have hmem:∀p∈(N,Ent.arr e sz [])::Y',∃x,(p.1,x)∈(N,Ent.arr e sz [])::s.Y:=by
  intro p hp;rcases Av.1 hp with rfl|hp
  ·exact⟨_,Au⟩
  ·rcases Av.1 (hs.sub p hp)with rfl|hp
   ·exact⟨_,An _ (bV hg)⟩
   ·exact⟨_,An _ (fV hp).1⟩
 have hr2:Rel (fX M N .virt) F (N+1) n ⟨s.fr,(N,.arr e sz [])::Y'⟩ a w:=by
  refine⟨r1.size,r1.defers,r1.fr,r1.st.retold fun p hp=>⟨hmem p hp, ?_⟩⟩;rcases Av.1 hp with rfl|hp
  ·exact hE
  ·rcases Av.1 (hs.sub p hp)with rfl|hp
   ·obtain⟨g,vs,h1,h2,h3,h4⟩:=r1.st.ent _ (An _ (bV hg));refine⟨g,vs,by simpa using h1,h2,by simpa using h3,fun j b u hj hu=> ?_⟩;by_cases hjo:off=j
    ·subst hjo;have hlt:off<cs.length:=(Ai.1 hx).1;rw[List.getElem?_set_self hlt]at hj;obtain rfl:=Option.some.inj hj;have hv:=h4 off _ u hx hu;cases hv with
     |@ro _ _ b o _ cap us hb hs hc hrr hle hm hf hn=>
      cases k with
      |nil=>exact absurd rfl hn
      |full=>have:=hf rfl;simp at this;subst this;exact .own0
      |any=>exact absurd rfl hk
     |ro0 hm hA hf hn=>
      cases k with
      |nil=>obtain rfl:=hn rfl;obtain rfl:=hA rfl;exact .own0
      |full=>obtain rfl:=hf rfl;exact .own0
      |any=>exact absurd rfl hk
    ·rw[List.getElem?_set_ne hjo]at hj;exact h4 j b u hj hu
   ·exact r1.st.ent p (An _ (fV hp).1)
 exact jU (PostN.ext (e1.trans (Ext.retold hmem))) (hK _ F _ a w hr2)
theorem rJ{e:Nat}{Y1 Y:dI}(h:(∃q∈Y1,q.1=e)\/Fresh e Y):Fresh e (eD (Y1.map (·.1)) Y):=by
 intro p hp;obtain⟨h1,h2⟩:=fV hp;rcases h with⟨q,hq,rfl⟩|h
 ·exact fun e=>h2 (e▸Bm.2 ⟨q,hq,rfl⟩)
 ·exact h p h1
theorem aJH{P:Program}{n:Nat}{ks:List Nat}{s:ASt}{c:Code}{Q:Exit->ASt->Prop}(r off d:Nat){bt e:TypeId}{cs:List AV}{sz o len:Nat}{es:List (List AV)}(hg:gM s.Y r=some (.box bt cs))(hx:cs[off]? =some (.own d o len))(hd:gM s.Y d=some (.arr e sz es))
  (h:∀q,Fresh q s.Y->∃Y1,SSet s.Y r (.box bt cs) r (.box bt (cs.set off (.own q o len))) Y1/\∃Y2,SSet Y1 d (.arr e sz es) q (.arr e sz es) Y2/\SW P n ks c ⟨s.fr,Y2⟩ Q):SW P n ks c s Q:=by
 intro M F N a w hr;have hmd:=bV hd;have hmr:=bV hg;obtain⟨b,hb⟩:∃b,M d=some b:=by
  cases hM:M d with
  |none=>exact absurd hM (hr.st.ent _ hmd).some
  |some b=>exact⟨b,rfl⟩
 have hblk:∀g,bP (fX M N b) N=some g->bP M d=some g:=fun g hg=>by
  simp only[bP,bX]at hg;simp only[bP,hb];exact hg
 have hE0:=hr.st.ent _ hmd;have hmm:∀q b',M q=some b'->fX M N b q=some b':=fun q b' hq=>pL hr.st.fresh b hq
 have hE:ER (fX M N b) F w N (.arr e sz es):=by
  obtain⟨k0,k1,k2⟩:=hE0;refine⟨k0,k1, ?_⟩;rcases k2 with⟨k2,k3⟩|⟨g,cc,vs,k2,k3,k4,k5,k6,k7⟩
  ·simp only at k2;exact .inl ⟨by rw[bX,<-k2,hb],k3⟩
  ·simp only at k2;exact .inr ⟨g,cc,vs,by rw[bX,<-k2,hb],k3,k4,k5,k6,fun i x j a u hi hj hu=>(k7 i x j a u hi hj hu).mono hmm (fun _ h=>h) (fun _ _=>rfl)⟩
 obtain⟨r1,e1,n1,-⟩:=hr.move_ hmd b (Only.refl _ w) (fun g hg=>.inl (hblk g hg)) hE;have hnN:Fresh N s.Y:=fun p hp=>by have:=hr.st.name hp;omega
 obtain⟨Y1,hs1,Y2,hs2,hK⟩:=h N hnN;have hmem:∀p∈Y2,p=(N,Ent.arr e sz es)\/p=(r,.box bt (cs.set off (.own N o len)))\/(p∈s.Y/\p.1≠d):=by
  intro p hp;rcases Av.1 (hs2.sub p hp)with rfl|hp
  ·exact .inl rfl
  ·obtain⟨hp1,hp2⟩:=fV hp;rcases Av.1 (hs1.sub p hp1)with rfl|hp3
   ·exact .inr (.inl rfl)
   ·exact .inr (.inr ⟨(fV hp3).1,by simpa using hp2⟩)
 have hrd:r≠d:=by
  rintro rfl;rw[hg]at hd;cases hd
 have hin:∀p∈Y2,∃x,(p.1,x)∈(N,Ent.arr e sz es)::eD [d] s.Y:=by
  intro p hp;rcases hmem p hp with rfl|rfl|⟨hp1,hp2⟩
  ·exact⟨_,Au⟩
  ·refine⟨.box bt cs,An _ ?_⟩;simp only[eD,List.mem_filter];exact⟨hmr,by simpa using hrd⟩
  ·refine⟨p.2,An _ ?_⟩;simp only[eD,List.mem_filter];exact⟨hp1,by simpa using hp2⟩
 have hr2:Rel (fX M N b) F (N+1) n ⟨s.fr,Y2⟩ a w:=by
  refine⟨r1.size,r1.defers,r1.fr,r1.st.retold fun p hp=>⟨hin p hp, ?_⟩⟩;rcases hmem p hp with rfl|rfl|⟨hp1,hp2⟩
  ·exact hE
  ·obtain⟨g,vs,h1,h2,h3,h4⟩:=hr.st.ent _ hmr;refine⟨g,vs,by simpa using hmm _ _ h1,h2,by simpa using h3,fun j x u hj hu=> ?_⟩;by_cases hjo:off=j
   ·subst hjo;have hlt:off<cs.length:=(Ai.1 hx).1;rw[List.getElem?_set_self hlt]at hj;obtain rfl:=Option.some.inj hj;have hv:=h4 off _ u hx hu;cases hv with
    |own hM hle hm=>exact .own (by rw[bX,<-hM,hb]) hle hm
    |own0=>exact .own0
   ·rw[List.getElem?_set_ne hjo]at hj;exact(h4 j x u hj hu).mono hmm (fun _ h=>h) (fun _ _=>rfl)
  ·exact ER.mono hmm (fun _ h=>h) (fun _ _=>rfl) (fun _ _=>rfl) (hr.st.ent p hp1)
 refine wp_mono (hK _ F _ a w hr2) ?_;rintro e' a' w' ⟨M',F',N',s2,h1,h2,h3⟩;exact⟨M',F',N',s2,h1,(e1.trans (Ext.retold hin)).trans h2,h3⟩
theorem puw{P:Program}{n:Nat}{ops:Array Oper}{rest:List Oper}{fr:Fr}{Y:dI}{K:ASt->Prop}{ty:TypeId}{pos:String}{af:Array Edge}{f:FuncId}{d j dj:Nat}{want b c0:Bool}{xs:List Operand}{ats:Array TypeId}{args:List AV}{v:AV}(ts:List Nat)(hj:(ops[j]?).bind (·.dst)=some dj)(hb:dR fr dj=some (.when c0 (.bool b)))(hf:∀args w,(callFunc f args).run P w=.ok (.enter f args) w)
  (h:(c0&&(b==want))=true->SCall P f args [] (fun x Y'=>x=v/\Y'=[])) (hd:Bp (d+1) n=true) (hargs:ArgsIf ⟨fr,Y⟩ (c0&&(b==want)) ts xs args) (hno:NoF v) (hK:RS P n ops rest ⟨(d,.when (c0&&(b==want)) v)::fr,Y⟩ K):
  RS P n ops (⟨some d,.call { callee:=.value (.func f),args:=xs.toArray,argTypes:=ats },ty,pos,af,some (j,want)⟩::rest) ⟨fr,Y⟩ K:=by
 intro M F N a w hr;refine wpList_step fun K' hK'=> ?_
 cases hc:c0 with
 |false=>
  have hy:yielded ops a.tmps j=none:=by
   have h0:=hr.fr dj _ hb;cases h0 with
   |when _ h0=>
    have h0:=h0 hc;unfold yielded;rw[hj];simp only[Option.bind_some];rcases hx:a.tmps[dj]? with _ |u
    ·rfl
    ·rw[Array.getD_eq_getD_getElem?,hx]at h0;simp only[Bz]at h0;subst h0;rfl
  rw[Db (by simp[Region.wanted,hy])];exact hK' _ _ (hK M F N _ w (hr.put (cL hd) (.when (fun h=>by simp[hc]at h) (fun _=>rfl))))
 |true=>
  have hw:=xG (o:=⟨some d,.call { callee:=.value (.func f),args:=xs.toArray,argTypes:=ats },ty,pos,af,some (j,want)⟩) hr rfl hj hb hc;rw[hw];by_cases hbw:(b==want)=true
  ·rw[Dc hbw];refine tL ts hf h (by simp[hc,hbw]) hargs hno hr rfl fun M' N' w' u hr' he _ hv=> ?_
   exact hK' _ _ (jU (PostN.ext he) (hK M' F N' _ w' (hr'.put (cL hd) (.when (fun _=>hv) (fun h=>by rw[hc,hbw]at h;cases h)))))
  ·simp only[Bool.not_eq_true]at hbw;rw[Db (by rw[hbw];simp)];exact hK' _ _ (hK M F N _ w (hr.put (cL hd) (.when (fun h=>by simp[hbw]at h) (fun _=>rfl))))
theorem BZ{P:Program}{n:Nat}{ops:Array Oper}{listed:Array Bool}{todo:List (Nat×Bool)}{held:List (Nat×List Nat)}{s:ASt}{K:ASt->Prop}{op:Op}{ty:TypeId}{pos:String}{af:Array Edge}{i gj dj:Nat}{want:Bool}{dst:Option Nat}{fp:List Nat}(hi:ops[i]? =some ⟨dst,op,ty,pos,af,some (gj,want)⟩)(hj:(ops[gj]?).bind (·.dst)=some dj)(hb:dR s.fr dj=some (.bool want))(h:Hop P n op ty dst s fp fun s'=>RD P n ops (listed.setIfInBounds i true) todo held s' K)
  (hfp:fp=[]\/((∀r∈fp,r∈s.Y.map (·.1))/\∀r∈sZ ops held i,r∈s.Y.map (·.1)/\r∉fp)):RD P n ops listed ((i,false)::todo) held s K:=by
 intro hsel hc M F N a w hr;obtain⟨hc1,hc3⟩:=yZ hi hc;simp only[Ag,De,beq_iff_eq]at hc1;refine⟨fun h0=>by rw[hc1]at h0;simp at h0,fun j hj'=> ?_⟩;rw[hc1]at hj';obtain rfl:j=i:=by simpa using hj'
 unfold wpOp;simp only[hi];rw[oR (o:=⟨dst,op,ty,pos,af,some (gj,want)⟩) hr rfl hj hb,Dc (by cases want<;>rfl)];refine .inl (h M F N a w _ rfl rfl rfl hr _ _ fun M' F' N' a' w' s' hr' he ho hk=>⟨fun g hg hlt=> ?_, ?_⟩)
 ·rcases hg with hg|⟨r,hrh,hg⟩
  ·exact he.only.block g hlt (fun hB=>hr.st.nof g hB hg)
  ·rcases hfp with rfl|⟨hf1,hf2⟩
   ·exact ho.block g hlt X
   ·obtain⟨h1,h2⟩:=hf2 r hrh;obtain⟨p,hp,rfl⟩:=Bm.1 h1;refine ho.block g hlt ?_;rintro⟨q,hq,hqg⟩;obtain⟨p2,hp2,rfl⟩:=Bm.1 (hf1 q hq);exact h2 (by rw[hr.st.inj p hp p2 hp2 g hg hqg];exact hq)
 ·refine jV (PostN.ext he) ?_ _ _ _ _ (hk hsel hc3 M' F' N' a' w' hr');rintro j g (hg|⟨r,hr,hg⟩)
  ·exact .inl (he.ff g hg)
  ·refine .inr ⟨r,hr, ?_⟩;unfold bP at hg⊢;cases hm:M r with
   |none=>rw[hm]at hg;cases hg
   |some b=>rw[hm]at hg;rw[he.mm _ _ hm];exact hg
theorem GE{P:Program}{n:Nat}{ops:Array Oper}{fr:Fr}{Y:dI}{K:ASt->Prop}{ty:TypeId}{pos:String}{af:Array Edge}{listed:Array Bool}{todo:List (Nat×Bool)}{held:List (Nat×List Nat)}{i d gj dj:Nat}{want:Bool}{f:FuncId}{xs:List Operand}{ats:Array TypeId}{args:List AV}{R:AV->dI->Prop}(Y1:dI)(hi:ops[i]? =some ⟨some d,.call { callee:=.value (.func f),args:=xs.toArray,argTypes:=ats },ty,pos,af,some (gj,want)⟩)(hj:(ops[gj]?).bind (·.dst)=some dj)(hb:dR fr dj=some (.bool want))(hf:∀args w,(callFunc f args).run P w=.ok (.enter f args) w)(h:SCall P f args Y1 R)(hd:Bp (d+1) n=true)
  (hargs:ArgsLe ⟨fr,Y⟩ xs args) (hsub:∀p∈Y1,p∈Y) (hb2:HB ops i (Y.map (·.1)) (Y1.map (·.1)) held) (hK:∀x Y',R x Y'->(∀p∈Y',(∃q∈Y1,q.1=p.1)\/Fresh p.1 Y)->RD P n ops (listed.setIfInBounds i true) todo held ⟨(d,x)::fr,Y'++eD (Y1.map (·.1)) Y⟩ K):
  RD P n ops listed ((i,false)::todo) held ⟨fr,Y⟩ K:=BZ hi hj hb (rH hf h (cL hd) hargs hsub hK) (.inr ⟨fun r hr=>by obtain⟨p,hp,rfl⟩:=Bm.1 hr;exact Bm.2 ⟨p,hsub p hp,rfl⟩,hb2.held⟩)
def aG (n:Nat):List AV:=[.int .u8 n]
def cB (bs:List Nat):ByteArray:=⟨(bs.map UInt8.ofNat).toArray⟩
theorem FI(bs:List Nat):(cB bs).toList=bs.map UInt8.ofNat:=by
 rw[Go.ByteArray.toList_eq];simp[cB]
theorem XO(ns:List Nat):∀acc:ByteArray,(ns.map Int.ofNat).foldl (fun r n=>r.push (UInt8.ofNat n.toNat)) acc=⟨acc.data++(ns.map UInt8.ofNat).toArray⟩:=by
 induction ns with
 |nil=>intro acc;simp
 |cons n ns ih=>
  intro acc;rw[Bn,List.foldl_cons,ih];simp[ByteArray.push]
theorem aFY(ns:List Nat):(ns.map Int.ofNat).foldl (fun r n=>r.push (UInt8.ofNat n.toNat)) ByteArray.empty=cB ns:=by
 rw[XO];simp[cB,ByteArray.empty,ByteArray.emptyWithCapacity];rfl
theorem aJI{a b:Nat}(ha:a<256)(hb:b<256)(h:UInt8.ofNat a=UInt8.ofNat b):a=b:=by
 have:=congrArg UInt8.toNat h;simp at this;omega
theorem jL:∀ {l m:List Nat},(∀x∈l,x<256)->(∀x∈m,x<256)->((cB l).toList==(cB m).toList)=decide (l=m):=by
 intro l m hl hm;rw[FI,FI];by_cases h:l=m
 ·subst h;simp
 ·rw[decide_eq_false h,beq_eq_false_iff_ne];intro e;apply h;clear h
  induction l generalizing m with
  |nil=>cases m<;>first|rfl|simp at e
  |cons a l ih=>
   cases m with
   |nil=>simp at e
   |cons b m=>
    simp only[Bn,List.cons.injEq]at e;rw[aJI (hl a X) (hm b X) e.1,ih (fun x hx=>hl x (by simp[hx])) (fun x hx=>hm x (by simp[hx])) e.2]
section
variable {P : Program} {ty : TypeId} {s : ASt} {c : Bool} {t t' e : TypeId} {x y : Operand}
theorem pC{w:World} [Ty P t (.slice e)] [Ty P e (.int .u8)] [Ty P t' .string] {ρ:Operand->Value}{o:Oper}(ho:o.op=.convert t t' x){A:Option Addr}{cap:Nat}{bs:List Nat}(hx:ρ x=.slice A bs.length cap)(hn:A=none->bs=[])
  (hc:∀p,A=some p->∀(j:Nat) (n:Nat),bs[j]? =some n->w.cell? (p.add j)=some (.int .u8 n)):(execOp ρ o).run P w=.ok (.value (.string (cB bs))) w:=by
 have h1:(Conv.bytesToString (.slice A bs.length cap)).run P w=.ok (.string (cB bs)) w:=by
  cases A with
  |none=>
   obtain rfl:=hn rfl;simp[Conv.bytesToString,cB,ByteArray.empty,ByteArray.emptyWithCapacity];rfl
  |some p=>
   have hl:=run_loadCells_list (P:=P) (w:=w) p ((bs.map Int.ofNat).map (Value.int .u8)) (fun j v hj=>by
    rw[Bg,Bg,Option.map_map]at hj;obtain⟨n,hn,rfl⟩:=Option.map_eq_some_iff.1 hj;exact hc p rfl j n hn)
   rw[Az,Az]at hl;rw[run_bytesToString w p bs.length cap (bs.map Int.ofNat) hl,aFY]
 simp only[execOp,ho,hx,Sem.run_bind,run_convert_bytes_string w t t' e A bs.length cap (Ty.und (P:=P) (t:=t)) (Ty.und (P:=P) (t:=e)) (Ty.und (P:=P) (t:=t')),h1,Result.andThen_ok,Sem.run_pure]
theorem qN [Ty P t (.slice e)] [Ty P e (.int .u8)] [Ty P t' .string] {bs:List Nat}{k:Rk}(h:Ev s c x (.ro 1 (bs.map aG) k)):Lop P (.convert t t' x) ty s c (.str (cB bs)) []:=by
 refine⟨fun r hr=>by simp at hr,fun M F N n a w hr hc=>⟨_,.str _,fun w' o ho _ hsame=> ?_⟩⟩;have e1:=h.vr hr hc;generalize hu:a.eval x=u at e1;generalize hes:bs.map aG=es at e1;cases e1 with
 |@ro _ _ b o' _ cap us hb hs hcc hrr hle hm hf hn=>
  subst hes;refine pC (e:=e) ho (by rw[hu,Az]) (fun h=>by cases h) (fun p hp j n hj=> ?_);cases hp
  have h1:=hcc j (aG n) 0 (.int .u8 n) (by rw[Bg,hj];rfl) rfl;have h2:=hrr j (aG n) 0 (.int .u8 n) (by rw[Bg,hj];rfl) rfl;rw[Addr.add_lit,World.cell?_of_block (w:=w) (w':=w') (hsame b (.inl hb))];rw[Nat.mul_one,Nat.add_zero]at h1;rw[h1];generalize us j 0=q at h2;cases h2
  rfl
 |@ro0 _ _ A cap hm hA hf hn=>
  have:bs=[]:=by simpa using hes
  subst this;exact pC (e:=e) ho (A:=A) (cap:=cap) hu (fun _=>rfl) (fun p _ j n hj=>by simp at hj)
theorem LD [Ty P t (.slice e)] [Ty P e (.int .u8)] [Ty P t' .string] {bs bs':List Nat}{r off len:Nat}{et:TypeId}(h:Ev s c x (.own r off len))(hg:gM s.Y r=some (.arr et 1 (bs.map aG)))(hle:off+len<=bs.length)(hbs:(bs.drop off).take len=bs'):Lop P (.convert t t' x) ty s c (.str (cB bs')) [r]:=by
 subst hbs;refine⟨fun q hq=>⟨_,bV hg,(A1.1 hq).symm⟩,fun M F N n a w hr hc=>⟨_,.str _,fun w' o ho _ hsame=> ?_⟩⟩;have e1:=h.vr hr hc;have hl:((bs.drop off).take len).length=len:=by simp;omega
 generalize hu:a.eval x=u at e1;obtain⟨h0,hrows,h3⟩:=hr.st.ent _ (bV hg);cases e1 with
 |own hM hle' hm=>
  rcases h3 with⟨hv',_⟩|⟨g,cc,vs,hM',hcl,hsz,hlc,hmax,hvr⟩
  ·rw[hM]at hv';cases hv'
  ·have hg':=hM'.symm.trans hM;simp only[Option.some.injEq,Blk'.row.injEq]at hg';obtain⟨q1,q2,q3⟩:=hg';subst q1;subst q2;subst q3;refine pC (e:=e) ho (by rw[hu,hl]) (fun h=>by cases h) (fun p hp j n hj=> ?_);cases hp
   rw[Addr.add_lit,World.cell?_of_block (w:=w) (w':=w') (hsame g (.inr ⟨r,X,by simp[bP,hM]⟩)),hcl.cell];have hj2:bs[off+j]? =some n:=by
    rw[List.getElem?_take]at hj;split at hj
    ·rwa [Bb]at hj
    ·cases hj
   have hjl:=(Ai.1 hj2).1;rw[Az]at hlc;have hlt:off*1+j<vs.size:=by omega
   have h1:=hvr (off+j) (aG n) 0 (.int .u8 n) vs[off*1+j] (by rw[Bg,hj2];rfl) rfl (by rw[show(off+j)*1+0=off*1+j by omega];exact A7 hlt);rw[A7 hlt];generalize vs[off*1+j]=q at h1;cases h1
   rfl
 |own0=>
  refine pC (e:=e) ho (by rw[hu,hl]) (fun _=>by simp) (fun p _ j n hj=>by simp at hj)
end
theorem kP{P:Program}{n:Nat}{ops:Array Oper}{fr:Fr}{Y:dI}{K:ASt->Prop}{op:Op}{ty:TypeId}{pos:String}{af:Array Edge}{listed:Array Bool}{todo:List (Nat×Bool)}{held:List (Nat×List Nat)}{i d j dj:Nat}{want:Bool}{v:AV}{rs:List Nat}(hi:ops[i]? =some ⟨some d,op,ty,pos,af,some (j,want)⟩)(hj:(ops[j]?).bind (·.dst)=some dj)(hb:dR fr dj=some (.bool want))(h:Lop P op ty ⟨fr,Y⟩ true v rs)(hd:Bp (d+1) n=true)
  (hK:RD P n ops (listed.setIfInBounds i true) todo ((i,rs)::held) ⟨(d,v)::fr,Y⟩ K):RD P n ops listed ((i,true)::todo) held ⟨fr,Y⟩ K:=OO hi hj hb h (cL hd) hK
inductive FDel (t:Nat):Fr->Fr->Prop
 |nil:FDel t [] []
 |hit {x:AV} {l l':Fr} (h:FDel t l l'):FDel t ((t,x)::l) l'
 |miss {i:Nat} {x:AV} {l l':Fr} (hne:(i==t)=false) (h:FDel t l l'):FDel t ((i,x)::l) ((i,x)::l')
theorem FDel.get {t:Nat}{l l':Fr}(h:FDel t l l'):∀i x,dR l' i=some x->i≠t/\dR l i=some x:=by
 induction h with
 |nil=>intro i x h;simp[dR]at h
 |hit _ ih=>
  intro i x h;obtain⟨h1,h2⟩:=ih i x h;exact⟨h1,by simp only[dR];rw[Db h1];exact h2⟩
 |@miss j y l l' hne _ ih=>
  intro i x h;simp only[dR]at h⊢;split at h
  ·next e=>subst e;exact⟨by simpa using hne,by rw[Dc rfl];exact h⟩
  ·next e=>obtain⟨h1,h2⟩:=ih i x h;exact⟨h1,by rw[Db e];exact h2⟩
theorem fJ{P:Program}{n:Nat}{ks:List Nat}{fr fr0:Fr}{Y:dI}{t:Nat}{b c:Bool}{y rest:Code}{Q Q':Exit->ASt->Prop}(hx:dR fr t=some (.bool b))(hd:FDel t fr fr0)(h2:b=false->SW P n ks y ⟨fr,Y⟩ (fE (fun s2=>SGo s2 ⟨(t,.bool c)::fr0,Y⟩) Q'))(h:SW P n ks rest ⟨(t,.bool (b||c))::fr0,Y⟩ Q):
  SW P n ks (.cond (.tmp t) .skip y) ⟨fr,Y⟩ (fE (fun s'=>SW P n ks rest s' Q) Q'):=by
 have key:∀(fr':Fr) (x:Bool),dR fr' t=some (.bool x)->x=(b||c)->(∀i z,dR fr0 i=some z->dR fr' i=some z)->SGo ⟨fr',Y⟩ ⟨(t,.bool (b||c))::fr0,Y⟩:=fun fr' x hxx he ho=>SGo.of_le (fun j z hj=>by
  simp only[dR]at hj⊢;split at hj
  ·next e=>subst e;obtain rfl:=Option.some.inj hj;exact⟨_,hxx,by rw[he];exact VLe.refl _⟩
  ·next e=>exact⟨z,ho j z hj,VLe.refl _⟩) (fun _ h=>h)
 refine aB (b:=b) hx (fun hb=> ?_) (fun hb=> ?_)
 ·exact OK (dO (key fr b hx (by rw[hb];rfl) (fun i z hz=>(hd.get i z hz).2)) h)
 ·refine yY (h2 hb) fun e s2 hs=> ?_
  cases e<;>first|exact hs|skip
  refine dO (SGo.trans hs (key _ c (by simp[dR]) (by rw[hb];rfl) (fun i z hz=>by
   have:=(hd.get i z hz).1;simp only[dR];rw[Db this];exact hz))) h
theorem eB{P:Program}{n:Nat}{ks:List Nat}{fr fr0:Fr}{Y:dI}{t:Nat}{b c:Bool}{y:Code}{s0:ASt}{Q':Exit->ASt->Prop}(hx:dR fr t=some (.bool b))(hd:FDel t fr fr0)(h2:b=false->SW P n ks y ⟨fr,Y⟩ (fE (fun s2=>SGo s2 ⟨(t,.bool c)::fr0,Y⟩) Q'))(h:SGo ⟨(t,.bool (b||c))::fr0,Y⟩ s0):
  SW P n ks (.cond (.tmp t) .skip y) ⟨fr,Y⟩ (fE (fun s2=>SGo s2 s0) Q'):=by
 refine aB (b:=b) hx (fun hb=> ?_) (fun hb=> ?_)
 ·refine OK (SGo.trans (s':=⟨(t,.bool (b||c))::fr0,Y⟩) (SGo.of_le (fun j z hj=> ?_) (fun _ h=>h)) h);simp only[dR]at hj;split at hj
  ·next e=>subst e;obtain rfl:=Option.some.inj hj;exact⟨_,hx,by rw[hb];exact VLe.refl _⟩
  ·next e=>exact⟨z,(hd.get j z hj).2,VLe.refl _⟩
 ·refine yY (h2 hb) fun e s2 hs=> ?_
  cases e<;>first|exact hs|skip
  refine SGo.trans hs (SGo.trans (s':=⟨(t,.bool (b||c))::fr0,Y⟩) (SGo.of_le (fun j z hj=> ?_) (fun _ h=>h)) h);simp only[dR]at hj⊢;split at hj
  ·next e=>subst e;obtain rfl:=Option.some.inj hj;exact⟨_,by rw[Dc rfl],by rw[hb];exact VLe.refl _⟩
  ·next e=>exact⟨z,by rw[Db e];exact hj,VLe.refl _⟩
theorem sja{P:Program}{n:Nat}{ks:List Nat}{s:ASt}{Q Q':Exit->ASt->Prop}{β:Type}{x y:Code}(st:β->ASt)(ok:β->Prop)(hx:SW P n ks x s (fE (fun s2=>∃b,ok b/\SGo s2 (st b)) Q'))(hy:∀b,ok b->SW P n ks y (st b) Q):SW P n ks x s (fE (fun s'=>SW P n ks y s' Q) Q'):=
 yY hx fun e s2 h=>by cases e<;>first|exact h|(obtain⟨b,h1,h2⟩:=h;exact dO h2 (hy b h1))
theorem SF{p:Nat->Prop}:∀(n m:Nat),m<=n->p m->∃k,p k/\∀j,p j->k<=j
 |0,m,hm,h=>⟨0,by rwa [show m=0 by omega]at h,fun j _=>Am _⟩
 |n+1,m,hm,h=>by
  by_cases hc:∃j,j<=n/\p j
  ·obtain⟨j,h1,h2⟩:=hc;exact SF n j h1 h2
  ·refine⟨m,h,fun j hj=> ?_⟩;by_cases hjm:m<=j
   ·exact hjm
   ·exact absurd ⟨j,U,hj⟩ hc
theorem IF{P:Program}{a:Act}{w:World}{Q:Exit->Act->World->Prop}{c rest:Code}(l:Nat)(J:Nat->Act->World->Prop)(hf:findLabel c l=some rest)
  (first:c.wp P (Exit.jump l (fun a w=>∃m,J m a w) Q) a w)
  (pass:∀m a w,J m a w->rest.wp P (Exit.jump l (fun a' w'=>∃m',m'<m/\J m' a' w') Q) a w):(Code.scope c).wp P Q a w:=by
 have hm:∀a w,∃k,∀m,J m a w->J k a w/\k<=m:=by
  intro a w;by_cases h:∃m,J m a w
  ·obtain⟨m,h⟩:=h;obtain⟨k,h1,h2⟩:=SF (p:=fun m=>J m a w) m m (A3 _) h;exact⟨k,fun j hj=>⟨h1,h2 j hj⟩⟩
  ·exact⟨0,fun m hj=>absurd ⟨m,hj⟩ h⟩
 refine wp_scope_jumps l (fun a w=>∃m,J m a w) (fun a w=>(hm a w).choose) hf first ?_
 rintro a w ⟨m,h⟩;obtain⟨h1,-⟩:=(hm a w).choose_spec m h;refine wp_mono (pass _ a w h1) ?_;intro e a' w' hq;cases e<;>first|exact hq|skip
 obtain⟨h2,m',h3,h4⟩:=hq;exact⟨h2,⟨m',h4⟩,Nat.lt_of_le_of_lt ((hm a' w').choose_spec m' h4).2 h3⟩
def SG (l:Nat) (J:ASt->Prop) (Q:Exit->ASt->Prop):Exit->ASt->Prop
 | .goto l',s=>l'=l/\J s
 |e,s=>Q e s
section
variable {P : Program} {n : Nat} {ks : List Nat} {s : ASt} {Q : Exit -> ASt -> Prop}
theorem scj{β:Type}{c body:Code}(l:Nat)(hf:findLabel c l=some (.seq .skip body))(st:β->ASt)(ok:β->Prop)(ms:β->Nat)
  (pass:∀b,ok b->SW P n ks body (st b) (SG l (fun s2=>∃b',ok b'/\ms b'<ms b/\SGo s2 (st b')) Q))
  (first:(∀b s',ok b->SGo s' (st b)->SW P n ks (.seq (.label l) body) s' (SG l (fun s2=>∃b',ok b'/\SGo s2 (st b')) Q))->SW P n ks c s (SG l (fun s2=>∃b',ok b'/\SGo s2 (st b')) Q)):SW P n ks (.scope c) s Q:=by
 have hfirst:=first fun b s' hb hgo=>dO hgo (OL (aCR (yY (pass b hb) fun e s2 h=>by
  cases e<;>first|exact h|skip
  obtain⟨h1,b',h2,-,h3⟩:=h;exact⟨h1,b',h2,h3⟩)))
 intro M F N a w hr;refine IF l (fun m a' w'=>∃M' F' N' b,ok b/\ms b=m/\Rel M' F' N' n (st b) a' w'/\Ext M F N w s.Y M' F' N' w' (st b).Y) hf ?_ ?_
 ·refine wp_mono (hfirst M F N a w hr) ?_;rintro e a' w' ⟨M',F',N',s',h1,h2,h3⟩;cases e<;>first|exact⟨M',F',N',s',h1,h2,h3⟩|skip
  obtain⟨h3,b,h4,h5⟩:=h3;obtain⟨M2,F2,N2,r2,e2⟩:=h5 M' F' N' n a' w' h1;exact⟨h3,_,M2,F2,N2,b,h4,rfl,r2,h2.trans e2⟩
 ·rintro m a' w' ⟨M1,F1,N1,b,hb,rfl,r1,e1⟩;refine wp_seq (wp_skip ?_);refine wp_mono (pass b hb M1 F1 N1 a' w' r1) ?_;rintro e a2 w2 ⟨M',F',N',s',h1,h2,h3⟩;cases e<;>first|exact⟨M',F',N',s',h1,e1.trans h2,h3⟩|skip
  obtain⟨h3,b',h4,h6,h5⟩:=h3;obtain⟨M2,F2,N2,r2,e2⟩:=h5 M' F' N' n a2 w2 h1;exact⟨h3,_,h6,M2,F2,N2,b',h4,rfl,r2,e1.trans (h2.trans e2)⟩
theorem cg{l:Nat}(h:Q (.goto l) s):SW P n ks (.goto l) s Q:=aFR h
end
theorem ag{K:ASt->Prop}{Q:Exit->ASt->Prop}{s:ASt}{i:Nat}(h:Q (.goto i) s):fE K Q (.goto i) s:=h
theorem bg{i j:Nat}{Q:Exit->ASt->Prop}{s:ASt}(h:Q (.goto j) s):eA i Q (.goto j) s:=h
theorem jg{J:ASt->Prop}{Q:Exit->ASt->Prop}{s:ASt}{l:Nat}(h:J s):SG l J Q (.goto l) s:=⟨rfl,h⟩
theorem jr{J:ASt->Prop}{Q:Exit->ASt->Prop}{s:ASt}{l:Nat}(h:Q .ret s):SG l J Q .ret s:=h
theorem iR{P:Program}{f:FuncId}{e:TypeId}{sz z:Nat}{args:List AV}{Y:dI}{R:AV->dI->Prop}(h0:0<sz)(h:∀q,Fresh q Y->SCall P f (.own q 0 0::args) ((q,.arr e sz [])::Y) R):SCall P f (.ro z [] .nil::args) Y R:=by
 intro M F N w vs hl hv hs;have hr:Rel M F N 0 ⟨[],Y⟩ ⟨#[],[]⟩ w:=⟨rfl,rfl,fun i x hi=>by simp[dR]at hi,hs⟩
 have hE:ER (fX M N .virt) F w N (.arr e sz []):=⟨h0,fun x hx=>by simp at hx,.inl ⟨bX _,rfl⟩⟩
 obtain⟨r1,e1,n1⟩:=hr.new_ (w':=w) .virt (.arr e sz []) (fun _ _=>rfl) ⟨rfl,rfl,rfl⟩ (A3 _) (fun g hg=>by simp[bP,bX]at hg) hE;refine(h N n1 (fX M N .virt) F (N+1) w vs (by simpa using hl) ?_ r1.st).mono ?_
 ·intro i x v hx hvv;cases i with
  |zero=>
   obtain rfl:AV.own N 0 0=x:=by simpa using hx
   have hv0:=hv 0 _ v rfl hvv;cases hv0 with
   |@ro _ _ b o _ cap us hb hs hc hrr hle hm hf hn=>exact absurd rfl hn
   |ro0 hm hA hf hn=>
    obtain rfl:=hn rfl;obtain rfl:=hA rfl;exact .own0
  |succ i=>exact VR.mono e1.mm e1.ff (fun _ _=>rfl) (hv (i+1) x v (by simpa using hx) hvv)
 ·rintro e' w' ⟨v,x,M',F',N',Y',k1,k2,k3,k4,k5⟩;exact⟨v,x,M',F',N',Y',k1,e1.trans k2,k3,k4,k5⟩
section
variable {P : Program} {ty : TypeId} {s : ASt} {c : Bool} {t : TypeId} {x y : Operand}
theorem aBs{e k:Nat}{d:TypeDesc} [Ty P t (.array k e)] [Ty P e d] (hd:wO d=false){by_:Nat}{z:Value} [Tz P e 1 by_ z] {ki:IntKind}{m:Int}{cs:List AV}{v:AV}(h:Ev s c x (.agg cs))(hi:Ev s c y (.int ki m))(hb:c=true->0<=m/\m<k)(hv:c=true->cs[m.toNat]? =some v):Lop P (.index t x y) ty s c v []:=
 Lop.pure_ fun M F N n a w hr hc=>by
  have e1:=h.vr hr hc;have hv:=hv hc;have hb:=hb hc;obtain⟨j,hi',hz,hs,_⟩:=Tz.parts P e;generalize hu:a.eval x=u at e1;cases e1 with
  |@agg _ vs hl hh=>
   have hlt:m.toNat<vs.size:=by rw[hl];exact(Ai.1 hv).1
   refine⟨vs[m.toNat],hh _ v _ hv (A7 hlt),fun w' o ho _=> ?_⟩;have:=BX (P:=P) (t:=e) hd (w:=w') (A7 hlt);simp[execOp,ho,hu,hi.int hr hc,Instr.index,asIntOf,run_underlying (Ty.und (P:=P) (t:=t)),hb,sizeOf,typeInfo,hi',hs,this]
theorem aC2{e:Nat} [Ty P t (.array 3 e)] {by_ by':Nat}{z z':Value} [Tz P t 3 by_ z] [Tz P e 1 by' z'] {k:IntKind}{m0 m1 m2:Int}(h3:∃a0 a1 a2,z=.agg #[a0,a1,a2]):Lop P (.build t #[(0,.const (.int k m0)),(1,.const (.int k m1)),(2,.const (.int k m2))]) ty s c (.agg [.int k m0,.int k m1,.int k m2]) []:=by
 obtain⟨a0,a1,a2,h3⟩:=h3;refine Lop.pure_ fun M F N n a w hr hc=>⟨.agg #[.int k m0,.int k m1,.int k m2],.agg rfl (fun j b u hj hu=> ?_),fun w' o ho _=> ?_⟩
 ·rcases j with _ | _ | _ |j
  ·simp at hj hu;subst hj hu;exact .int _ _
  ·simp at hj hu;subst hj hu;exact .int _ _
  ·simp at hj hu;subst hj hu;exact .int _ _
  ·simp at hj
 ·obtain⟨i,hi,hz0,hs0,_⟩:=Tz.parts P t;obtain⟨i',hi',hz0',hs0',_⟩:=Tz.parts P e;simp[execOp,ho,Instr.build,zeroValue,typeInfo,hi,hz0,run_underlying (Ty.und (P:=P) (t:=t)),sizeOf,hi',hs0',Instr.fill,h3,Act.eval,Value.cells]
end
end Go.Proofs.YtjpdadobblffmaaGreat
namespace Go.Proofs.YtjpdadobblffmaaGreat
@[reducible] def ty2:=Ty.mk Tryz.underlying2
attribute [instance] ty2
instance tz2:Tz prog 2 1 8 (.int .i64 0):=⟨by kernel_rfl⟩
@[reducible] def ty3:=Ty.mk Tryz.underlying3
attribute [instance] ty3
instance tz3:Tz prog 3 1 8 (.int .i64 0):=⟨by kernel_rfl⟩
@[reducible] def ty4:=Ty.mk Tryz.underlying4
attribute [instance] ty4
instance tz4:Tz prog 4 1 1 (.bool false):=⟨by kernel_rfl⟩
@[reducible] def ty5:=Ty.mk Tryz.underlying5
attribute [instance] ty5
instance tz5:Tz prog 5 1 1 (.int .u8 0):=⟨by kernel_rfl⟩
@[reducible] def ty9:=Ty.mk Tryz.underlying9
attribute [instance] ty9
instance tz9:Tz prog 9 1 16 (.string .empty):=⟨by kernel_rfl⟩
@[reducible] def aOa:=Ty.mk Tryz.underlying22
attribute [instance] aOa
instance tz22:Tz prog 22 1 24 (.slice none 0 0):=⟨by kernel_rfl⟩
@[reducible] def aOb:=Ty.mk Tryz.underlying23
attribute [instance] aOb
instance tz23:Tz prog 23 1 24 (.slice none 0 0):=⟨by kernel_rfl⟩
@[reducible] def aOc:=Ty.mk Tryz.underlying24
attribute [instance] aOc
instance tz24:Tz prog 24 1 24 (.slice none 0 0):=⟨by kernel_rfl⟩
@[reducible] def aOd:=Ty.mk Tryz.underlying26
attribute [instance] aOd
instance tz26:Tz prog 26 3 24 (.agg #[.bool false,.int .i64 0,.int .i64 0]):=⟨by kernel_rfl⟩
instance tf26:Tf prog 26 [(0,1),(1,1),(2,1)]:=⟨by kernel_rfl⟩
@[reducible] def aOe:=Ty.mk Tryz.underlying27
attribute [instance] aOe
instance tz27:Tz prog 27 1 24 (.slice none 0 0):=⟨by kernel_rfl⟩
@[reducible] def aOf:=Ty.mk Tryz.underlying28
attribute [instance] aOf
instance tz28:Tz prog 28 1 24 (.slice none 0 0):=⟨by kernel_rfl⟩
@[reducible] def aOg:=Ty.mk Tryz.underlying29
attribute [instance] aOg
instance tz29:Tz prog 29 1 24 (.slice none 0 0):=⟨by kernel_rfl⟩
@[reducible] def aOh:=Ty.mk Tryz.underlying30
attribute [instance] aOh
instance tz30:Tz prog 30 1 24 (.slice none 0 0):=⟨by kernel_rfl⟩
@[reducible] def aOi:=Ty.mk Tryz.underlying31
attribute [instance] aOi
instance tz31:Tz prog 31 1 24 (.slice none 0 0):=⟨by kernel_rfl⟩
@[reducible] def aOj:=Ty.mk Tryz.underlying33
attribute [instance] aOj
instance tz33:Tz prog 33 14 240 (.agg #[.slice none 0 0,.slice none 0 0,.slice none 0 0,.bool false,.int .i64 0,.int .i64 0,.bool false,.int .i64 0,.int .i64 0,.slice none 0 0,.slice none 0 0,.slice none 0 0,.slice none 0 0,.slice none 0 0]):=⟨by kernel_rfl⟩
instance tf33:Tf prog 33 [(0,1),(1,1),(2,1),(3,3),(6,3),(9,1),(10,1),(11,1),(12,1),(13,1)]:=⟨by kernel_rfl⟩
@[reducible] def aOk:=Ty.mk Tryz.underlying36
attribute [instance] aOk
instance tz36:Tz prog 36 1 24 (.slice none 0 0):=⟨by kernel_rfl⟩
@[reducible] def aOl:=Ty.mk Tryz.underlying39
attribute [instance] aOl
instance tz39:Tz prog 39 1 8 (.int .i64 0):=⟨by kernel_rfl⟩
@[reducible] def aOm:=Ty.mk Tryz.underlying42
attribute [instance] aOm
instance tz42:Tz prog 42 1 24 (.slice none 0 0):=⟨by kernel_rfl⟩
@[reducible] def aOn:=Ty.mk Tryz.underlying44
attribute [instance] aOn
instance tz44:Tz prog 44 2 48 (.agg #[.slice none 0 0,.slice none 0 0]):=⟨by kernel_rfl⟩
instance tf44:Tf prog 44 [(0,1),(1,1)]:=⟨by kernel_rfl⟩
@[reducible] def aOo:=Ty.mk Tryz.underlying46
attribute [instance] aOo
instance tz46:Tz prog 46 4 48 (.agg #[.int .i64 0,.int .i64 0,.int .i64 0,.slice none 0 0]):=⟨by kernel_rfl⟩
instance tf46:Tf prog 46 [(0,1),(1,1),(2,1),(3,1)]:=⟨by kernel_rfl⟩
@[reducible] def aOp:=Ty.mk Tryz.underlying48
attribute [instance] aOp
instance tz48:Tz prog 48 2 32 (.agg #[.int .i64 0,.slice none 0 0]):=⟨by kernel_rfl⟩
instance tf48:Tf prog 48 [(0,1),(1,1)]:=⟨by kernel_rfl⟩
@[reducible] def aOq:=Ty.mk Tryz.underlying50
attribute [instance] aOq
instance tz50:Tz prog 50 2 48 (.agg #[.slice none 0 0,.slice none 0 0]):=⟨by kernel_rfl⟩
instance tf50:Tf prog 50 [(0,1),(1,1)]:=⟨by kernel_rfl⟩
@[reducible] def aOr:=Ty.mk Tryz.underlying64
attribute [instance] aOr
instance tz64:Tz prog 64 3 40 (.agg #[.string .empty,.string .empty,.int .i64 0]):=⟨by kernel_rfl⟩
instance tf64:Tf prog 64 [(0,1),(1,1),(2,1)]:=⟨by kernel_rfl⟩
@[reducible] def aOs:=Ty.mk Tryz.underlying66
attribute [instance] aOs
instance tz66:Tz prog 66 2 24 (.agg #[.string .empty,.int .i64 0]):=⟨by kernel_rfl⟩
instance tf66:Tf prog 66 [(0,1),(1,1)]:=⟨by kernel_rfl⟩
@[reducible] def aOt:=Ty.mk Tryz.underlying69
attribute [instance] aOt
instance tz69:Tz prog 69 2 32 (.agg #[.int .i64 0,.slice none 0 0]):=⟨by kernel_rfl⟩
instance tf69:Tf prog 69 [(0,1),(1,1)]:=⟨by kernel_rfl⟩
@[reducible] def aOu:=Ty.mk Tryz.underlying71
attribute [instance] aOu
instance tz71:Tz prog 71 2 16 (.agg #[.int .i64 0,.int .i64 0]):=⟨by kernel_rfl⟩
instance tf71:Tf prog 71 [(0,1),(1,1)]:=⟨by kernel_rfl⟩
@[reducible] def aOv:=Ty.mk Tryz.underlying73
attribute [instance] aOv
instance tz73:Tz prog 73 3 24 (.agg #[.bool false,.int .i64 0,.int .i64 0]):=⟨by kernel_rfl⟩
instance tf73:Tf prog 73 [(0,1),(1,2)]:=⟨by kernel_rfl⟩
@[reducible] def aOw:=Ty.mk Tryz.underlying74
attribute [instance] aOw
@[reducible] def aOx:=Ty.mk Tryz.underlying79
attribute [instance] aOx
instance tz79:Tz prog 79 1 8 (.pointer none):=⟨by kernel_rfl⟩
@[reducible] def aOy:=Ty.mk Tryz.underlying81
attribute [instance] aOy
instance tz81:Tz prog 81 1 8 (.pointer none):=⟨by kernel_rfl⟩
@[reducible] def aOz:=Ty.mk Tryz.underlying83
attribute [instance] aOz
instance tz83:Tz prog 83 1 8 (.nilFunc):=⟨by kernel_rfl⟩
@[reducible] def aOA:=Ty.mk Tryz.underlying87
attribute [instance] aOA
@[reducible] def aL1:=Ty.mk Tryz.underlying114
attribute [instance] aL1
@[reducible] def aL2:=Ty.mk Tryz.underlying117
attribute [instance] aL2
instance tz117:Tz prog 117 2 32 (.agg #[.slice none 0 0,.bool false]):=⟨by kernel_rfl⟩
instance tf117:Tf prog 117 [(0,1),(1,1)]:=⟨by kernel_rfl⟩
@[reducible] def aL3:=Ty.mk Tryz.underlying126
attribute [instance] aL3
instance tz126:Tz prog 126 1 24 (.slice none 0 0):=⟨by kernel_rfl⟩
@[reducible] def aL4:=Ty.mk Tryz.underlying128
attribute [instance] aL4
instance tz128:Tz prog 128 18 320 (.agg #[.slice none 0 0,.slice none 0 0,.slice none 0 0,.bool false,.int .i64 0,.int .i64 0,.bool false,.int .i64 0,.int .i64 0,.slice none 0 0,.slice none 0 0,.slice none 0 0,.slice none 0 0,.slice none 0 0,.slice none 0 0,.slice none 0 0,.slice none 0 0,.bool false]):=⟨by kernel_rfl⟩
instance tf128:Tf prog 128 [(0,14),(14,1),(15,1),(16,1),(17,1)]:=⟨by kernel_rfl⟩
@[reducible] def aL5:=Ty.mk Tryz.underlying130
attribute [instance] aL5
@[reducible] def aL6:=Ty.mk Tryz.underlying134
attribute [instance] aL6
@[reducible] def aL7:=Ty.mk Tryz.underlying137
attribute [instance] aL7
instance tz137:Tz prog 137 4 32 (.agg #[.int .i64 0,.int .i64 0,.int .i64 0,.bool false]):=⟨by kernel_rfl⟩
instance tf137:Tf prog 137 [(0,1),(1,1),(2,1),(3,1)]:=⟨by kernel_rfl⟩
@[reducible] def aL8:=Ty.mk Tryz.underlying140
attribute [instance] aL8
instance tz140:Tz prog 140 1 24 (.slice none 0 0):=⟨by kernel_rfl⟩
@[reducible] def aL9:=Ty.mk Tryz.underlying142
attribute [instance] aL9
instance tz142:Tz prog 142 20 352 (.agg #[.slice none 0 0,.slice none 0 0,.slice none 0 0,.bool false,.int .i64 0,.int .i64 0,.bool false,.int .i64 0,.int .i64 0,.slice none 0 0,.slice none 0 0,.slice none 0 0,.slice none 0 0,.slice none 0 0,.slice none 0 0,.slice none 0 0,.slice none 0 0,.int .i64 0,.slice none 0 0,.bool false]):=⟨by kernel_rfl⟩
instance tf142:Tf prog 142 [(0,14),(14,1),(15,1),(16,1),(17,1),(18,1),(19,1)]:=⟨by kernel_rfl⟩
@[reducible] def aMa:=Ty.mk Tryz.underlying146
attribute [instance] aMa
@[reducible] def aMb:=Ty.mk Tryz.underlying148
attribute [instance] aMb
@[reducible] def aMc:=Ty.mk Tryz.underlying152
attribute [instance] aMc
@[reducible] def aMd:=Ty.mk Tryz.underlying155
attribute [instance] aMd
instance tz155:Tz prog 155 1 24 (.slice none 0 0):=⟨by kernel_rfl⟩
@[reducible] def aMe:=Ty.mk Tryz.underlying157
attribute [instance] aMe
instance tz157:Tz prog 157 17 280 (.agg #[.slice none 0 0,.slice none 0 0,.slice none 0 0,.bool false,.int .i64 0,.int .i64 0,.bool false,.int .i64 0,.int .i64 0,.slice none 0 0,.slice none 0 0,.slice none 0 0,.slice none 0 0,.slice none 0 0,.pointer none,.pointer none,.slice none 0 0]):=⟨by kernel_rfl⟩
instance tf157:Tf prog 157 [(0,14),(14,1),(15,1),(16,1)]:=⟨by kernel_rfl⟩
@[reducible] def aMf:=Ty.mk Tryz.underlying160
attribute [instance] aMf
instance tz160:Tz prog 160 1 8 (.map none):=⟨by kernel_rfl⟩
@[reducible] def aMg:=Ty.mk Tryz.underlying162
attribute [instance] aMg
instance tz162:Tz prog 162 3 24 (.agg #[.int .i64 0,.int .i64 0,.int .i64 0]):=⟨by kernel_rfl⟩
instance tf162:Tf prog 162 [(0,1),(1,1),(2,1)]:=⟨by kernel_rfl⟩
@[reducible] def aMh:=Ty.mk Tryz.underlying163
attribute [instance] aMh
instance tz163:Tz prog 163 1 24 (.slice none 0 0):=⟨by kernel_rfl⟩
@[reducible] def aMi:=Ty.mk Tryz.underlying165
attribute [instance] aMi
instance tz165:Tz prog 165 2 48 (.agg #[.slice none 0 0,.slice none 0 0]):=⟨by kernel_rfl⟩
instance tf165:Tf prog 165 [(0,1),(1,1)]:=⟨by kernel_rfl⟩
@[reducible] def aMj:=Ty.mk Tryz.underlying167
attribute [instance] aMj
@[reducible] def aMk:=Ty.mk Tryz.underlying169
attribute [instance] aMk
instance tz169:Tz prog 169 3 56 (.agg #[.slice none 0 0,.int .i64 0,.slice none 0 0]):=⟨by kernel_rfl⟩
instance tf169:Tf prog 169 [(0,1),(1,1),(2,1)]:=⟨by kernel_rfl⟩
@[reducible] def aMl:=Ty.mk Tryz.underlying175
attribute [instance] aMl
instance tz175:Tz prog 175 29 440 (.agg #[.slice none 0 0,.slice none 0 0,.slice none 0 0,.bool false,.int .i64 0,.int .i64 0,.bool false,.int .i64 0,.int .i64 0,.slice none 0 0,.slice none 0 0,.slice none 0 0,.slice none 0 0,.slice none 0 0,.slice none 0 0,.slice none 0 0,.slice none 0 0,.int .i64 0,.int .i64 0,.int .i64 0,.int .i64 0,.slice none 0 0,.int .i64 0,.int .i64 0,.int .i64 0,.slice none 0 0,.int .i64 0,.int .i64 0,.bool false]):=⟨by kernel_rfl⟩
instance tf175:Tf prog 175 [(0,14),(14,1),(15,1),(16,1),(17,1),(18,1),(19,1),(20,1),(21,1),(22,4),(26,1),(27,1),(28,1)]:=⟨by kernel_rfl⟩
@[reducible] def aMm:=Ty.mk Tryz.underlying182
attribute [instance] aMm
@[reducible] def aMn:=Ty.mk Tryz.underlying204
attribute [instance] aMn
@[reducible] def aMo:=Ty.mk Tryz.underlying218
attribute [instance] aMo
@[reducible] def aMp:=Ty.mk Tryz.underlying261
attribute [instance] aMp
instance tz261:Tz prog 261 2 32 (.agg #[.slice none 0 0,.bool false]):=⟨by kernel_rfl⟩
instance tf261:Tf prog 261 [(0,1),(1,1)]:=⟨by kernel_rfl⟩
@[reducible] def aMq:=Ty.mk Tryz.underlying277
attribute [instance] aMq
@[reducible] def aMr:=Ty.mk Tryz.underlying280
attribute [instance] aMr
@[reducible] def aMs:=Ty.mk Tryz.underlying284
attribute [instance] aMs
@[reducible] def aMt:=Ty.mk Tryz.underlying298
attribute [instance] aMt
instance tz298:Tz prog 298 3 24 (.agg #[.int .i64 0,.int .i64 0,.int .i64 0]):=⟨by kernel_rfl⟩
instance tf298:Tf prog 298 [(0,1),(1,1),(2,1)]:=⟨by kernel_rfl⟩
@[reducible] def aMu:=Ty.mk Tryz.underlying325
attribute [instance] aMu
@[reducible] def aMv:=Ty.mk Tryz.underlying328
attribute [instance] aMv
instance tz328:Tz prog 328 3 3 (.agg #[.int .u8 0,.int .u8 0,.int .u8 0]):=⟨by kernel_rfl⟩
@[reducible] def aMw:=Ty.mk Tryz.underlying346
attribute [instance] aMw
instance tz346:Tz prog 346 3 40 (.agg #[.slice none 0 0,.int .i64 0,.int .i64 0]):=⟨by kernel_rfl⟩
instance tf346:Tf prog 346 [(0,1),(1,1),(2,1)]:=⟨by kernel_rfl⟩
theorem mixed:prog.follows .mixedOrders=true:=by kernel_rfl
end Go.Proofs.YtjpdadobblffmaaGreat
namespace Go.Proofs.YtjpdadobblffmaaGreat
open Go.RowKit Go.ChangeShapes Go.WideShapes Go.ChangeAt Go.Deep
structure C9 (Q:Prop):Prop where
 h:Q
theorem B4{P Q:Prop}(k:Q)(h:C9 Q->P:=by intro k;refine lo (aF (E rfl)) rfl ?_;exact k.h):P:=h ⟨k⟩
theorem B5{P Q:Prop}(k:Q)(h:C9 Q->P:=by intro k;refine eS rfl (aF (E rfl)) rfl ?_;exact k.h):P:=h ⟨k⟩
theorem B6{P Q:Prop}(k:Q)(h:C9 Q->P:=by intro k;refine lo (bA (E rfl) rfl) rfl ?_;exact k.h):P:=h ⟨k⟩
theorem B7{P Q:Prop}(k:Q)(h:C9 Q->P:=by intro k;refine lo (aT (E rfl)) rfl ?_;exact k.h):P:=h ⟨k⟩
theorem B9{P Q:Prop}(k:Q)(h:C9 Q->P:=by intro k;refine lo (dM (E rfl) (E rfl)) rfl ?_;exact k.h):P:=h ⟨k⟩
theorem Ca{P Q:Prop}(k:Q)(h:C9 Q->P:=by intro k;refine gI rfl rfl rfl (aP (W rfl id) rfl V) rfl ?_;exact k.h):P:=h ⟨k⟩
theorem Cb{P Q:Prop}(k:Q)(h:C9 Q->P:=by intro k;refine gI rfl rfl rfl (bI (W rfl id) (.inl ⟨_,_,rfl⟩)) rfl ?_;exact k.h):P:=h ⟨k⟩
theorem Cc{P Q:Prop}(k:Q)(h:C9 Q->P:=by intro k;refine gI rfl rfl rfl (cK (W rfl id)) rfl ?_;exact k.h):P:=h ⟨k⟩
theorem Cd{P Q:Prop}(k:Q)(h:C9 Q->P:=by intro k;refine lo (dS (E rfl)) rfl ?_;exact k.h):P:=h ⟨k⟩
theorem Ce{P Q:Prop}(k:Q)(h:C9 Q->P:=by intro k;refine lo (dY (E rfl) (E rfl) (.inr (.inl ⟨⟨_,_,rfl⟩,rfl⟩))) rfl ?_;exact k.h):P:=h ⟨k⟩
theorem Cg{P Q:Prop}(k:Q)(h:C9 Q->P:=by intro k;refine gI rfl rfl rfl (dH (W rfl id) (W rfl id)) rfl ?_;exact k.h):P:=h ⟨k⟩
theorem Ch{P Q:Prop}(k:Q)(h:C9 Q->P:=by intro k;refine lo (eJ (E rfl) (E rfl)) rfl ?_;exact k.h):P:=h ⟨k⟩
theorem Ci{P Q:Prop}(k:Q)(h:C9 Q->P:=by intro k;refine lo (lP (E rfl) (E rfl)) rfl ?_;exact k.h):P:=h ⟨k⟩
theorem Cm{P Q:Prop}(k:Q)(h:C9 Q->P:=by intro k;refine gy rfl rfl ?_;exact k.h):P:=h ⟨k⟩
theorem Cp{P Q:Prop}(k:Q)(h:C9 Q->P:=by intro k;refine lg rfl rfl (dH (W rfl id) (W rfl id)) rfl ?_;exact k.h):P:=h ⟨k⟩
theorem Cq{P Q:Prop}(k:Q)(h:C9 Q->P:=by intro k;refine lo (lQ (E rfl) (E rfl)) rfl ?_;exact k.h):P:=h ⟨k⟩
theorem Cr{P Q:Prop}(k:Q)(h:C9 Q->P:=by intro k;refine gI rfl rfl rfl (aF (E rfl)) rfl ?_;exact k.h):P:=h ⟨k⟩
theorem Cs{P Q:Prop}(k:Q)(h:C9 Q->P:=by intro k;refine eS rfl (dY (E rfl) (E rfl) (.inr (.inl ⟨⟨_,_,rfl⟩,rfl⟩))) rfl ?_;exact k.h):P:=h ⟨k⟩
theorem Cu{P Q:Prop}(k:Q)(h:C9 Q->P:=by intro k;refine ln rfl rfl rfl rfl ?_;exact k.h):P:=h ⟨k⟩
theorem Cv{P Q:Prop}(k:Q)(h:C9 Q->P:=by intro k;refine eS rfl (dS (E rfl)) rfl ?_;exact k.h):P:=h ⟨k⟩
theorem Cw{P Q:Prop}(k:Q)(h:C9 Q->P:=by intro k;refine lo (gJ (E rfl)) rfl ?_;exact k.h):P:=h ⟨k⟩
theorem Cx{P Q:Prop}(k:Q)(h:C9 Q->P:=by intro k;refine lo (iJ (E rfl) (E rfl)) rfl ?_;exact k.h):P:=h ⟨k⟩
theorem Cz{P Q:Prop}(k:Q)(h:C9 Q->P:=by intro k;refine gI rfl rfl rfl (oS (W rfl id) (W rfl id) U U) rfl ?_;exact k.h):P:=h ⟨k⟩
theorem C0{P Q:Prop}(k:Q)(h:C9 Q->P:=by intro k;refine XD rfl rfl rfl rfl rfl ?_;exact k.h):P:=h ⟨k⟩
theorem C1{P Q:Prop}(k:Q)(h:C9 Q->P:=by intro k;refine lo (pA (E rfl) (E rfl)) rfl ?_;exact k.h):P:=h ⟨k⟩
theorem C2{P Q:Prop}(k:Q)(h:C9 Q->P:=by intro k;refine lo (dH (E rfl) (E rfl)) rfl ?_;exact k.h):P:=h ⟨k⟩
theorem C3{P Q:Prop}(k:Q)(h:C9 Q->P:=by intro k;refine gI rfl rfl rfl (iJ (W rfl id) (W rfl id)) rfl ?_;exact k.h):P:=h ⟨k⟩
theorem C4{P Q:Prop}(k:Q)(h:C9 Q->P:=by intro k;refine EB rfl rfl rfl (aF (E rfl)) rfl ?_;exact k.h):P:=h ⟨k⟩
theorem C7{P Q:Prop}(k:Q)(h:C9 Q->P:=by intro k;refine lo (rE (E rfl) (E rfl)) rfl ?_;exact k.h):P:=h ⟨k⟩
theorem C8{A B:Prop}(a:A)(h:C9 A->B:=by intro k;simpa using k.h):B:=h ⟨a⟩
theorem aX{P:Prop}(h:P:=by(first|assumption|(apply Nq.en;assumption)|omega|(simp only[Nq]at*;omega))):P:=h
theorem Ae(a b:Nat)(h:Nq a b:=by exact aX):Nq a b:=h
theorem bR{P:Prop}(h:P:=by(repeat(first|exact kM|(apply kO;(first|assumption|(apply Nq.en;assumption)|omega|(simp only[Nq]at*;omega)))))):P:=h
theorem aE{P:Prop}(h:P:=by(repeat(first|exact ResL.nil|(apply ResL.tmp;rfl)|(apply ResL.cell;rfl;infer_instance;rfl;(repeat(first|exact kM|(apply kO;(first|assumption|(apply Nq.en;assumption)|omega|(simp only[Nq]at*;omega)))));rfl)|(apply ResL.cells;rfl;infer_instance;infer_instance;rfl;(repeat(first|exact kM|(apply kO;(first|assumption|(apply Nq.en;assumption)|omega|(simp only[Nq]at*;omega)))));exact Nat.le_of_ble_eq_true rfl)))):P:=h
theorem aA{P:Prop}(h:P:=by(first|exact aJD|exact(fun _ h=>h)|(apply StLe.mem;(repeat(first|exact StLe.nil|(apply StLe.cons;(repeat(first|exact List.mem_cons_self|apply List.mem_cons_of_mem));first|rfl|focus (congr 1;done)|focus (simp;done)|(simp;rfl))))))):P:=h
theorem aC{P:Prop}(h:P:=by(repeat(first|exact ArgsLe.nil|(apply ArgsLe.cons;rfl;first|exact VLe.refl _ |exact VLe.when rfl|exact VLe.any|exact VLe.empty|exact VLe.of_eq X)))):P:=h
theorem aIJ{P:Prop}(h:P:=by(
     first
      |exact Bor.refl _
      |exact Bor.le VLe.any
      |exact Bor.le VLe.empty
      |(apply XN;(repeat(
        first|exact List.mem_cons_self|apply List.mem_cons_of_mem));(repeat(
        first
         |exact kM
         |(apply kO;(
          first|assumption|(apply Nq.en;assumption)|omega|(simp only[Nq]at*;omega)))));(
       first|focus (simp;done)|omega|focus (simp;omega));(
       first|rfl|focus (simp;done)|focus (exact List.take_of_length_le (by first|(simp;done)|(simp;omega)))))
      |focus (apply aN7;(repeat(
        first|exact List.mem_cons_self|apply List.mem_cons_of_mem));(repeat(
        first
         |exact kM
         |(apply kO;(
          first|assumption|(apply Nq.en;assumption)|omega|(simp only[Nq]at*;omega)))));rfl;rfl;(repeat(
        first
         |exact BorL.nil
         |(apply BorL.cons;(
          first
           |exact Bor.refl _
           |exact Bor.le VLe.any
           |exact Bor.le VLe.empty
           |(apply XN;(repeat(
             first|exact List.mem_cons_self|apply List.mem_cons_of_mem));(repeat(
             first
              |exact kM
              |(apply kO;(
               first|assumption|(apply Nq.en;assumption)|omega|(simp only[Nq]at*;omega)))));(
            first|focus (simp;done)|omega);(
            first|rfl|focus (simp;done)|focus (exact List.take_of_length_le (by first|(simp;done)|(simp;omega)))))
           |focus (apply Bor.le;apply VLe.of_eq;simp;done)))));done)
      |focus (apply aC1;(repeat(
        first
         |exact BorL.nil
         |(apply BorL.cons;(
          first
           |exact Bor.refl _
           |exact Bor.le VLe.any
           |exact Bor.le VLe.empty
           |(apply XN;(repeat(
             first|exact List.mem_cons_self|apply List.mem_cons_of_mem));(repeat(
             first
              |exact kM
              |(apply kO;(
               first|assumption|(apply Nq.en;assumption)|omega|(simp only[Nq]at*;omega)))));(
            first|focus (simp;done)|omega);(
            first|rfl|focus (simp;done)|focus (exact List.take_of_length_le (by first|(simp;done)|(simp;omega)))))
           |focus (apply Bor.le;apply VLe.of_eq;simp;done)))));done)
      |focus (apply Bor.le;apply VLe.of_eq;simp;done))):P:=h
theorem aO{P:Prop}(h:P:=by(repeat(first|exact ArgsIf.nil|(apply ArgsIf.cons;(first|exact W rfl id|exact W rfl (fun _=>rfl)|exact E rfl);exact aIJ)))):P:=h
theorem bL{P:Prop}(h:P:=by(repeat(first|exact ArgsBor.nil|(apply ArgsBor.cons;rfl;exact aIJ)))):P:=h
theorem fY{P:Prop}(h:P:=by(repeat(first|exact ArgsIf.nil|refine ArgsIf.cons (by first|exact Ev.when rfl (by first|exact id|simp)|exact Ev.here rfl) (by first|exact Bor.refl _ |exact Bor.le VLe.any|exact Bor.le VLe.empty|exact Bor.own X (by repeat(first|exact kM|refine kO (by(first|assumption|(apply Nq.en;assumption)|omega|(simp only[Nq]at*;omega))) ?_)) X|exact Bor.le (VLe.of_eq X)) ?_))):P:=h
theorem bH{P:Prop}(h:P:=by(repeat(first|exact NoF.int|exact NoF.bool|exact NoF.nilp|exact NoF.nil|exact NoF.own|exact NoF.ptr|exact NoF.str|exact aC0|apply NoF.tup|apply NoF.agg|apply aBr))):P:=h
theorem eC{P:Prop}(h:P:=by(repeat(first|exact HB.nil|apply HB.none|(apply HB.ok;focus (simp only[List.mem_cons,List.not_mem_nil,or_false,List.map_cons,List.map_nil,forall_eq_or_imp,forall_eq,true_or,or_true,true_and,and_true,not_false_eq_true,not_or];(repeat' (first|apply And.intro|(first|assumption|(apply Nq.en;assumption)|omega|(simp only[Nq]at*;omega))));done))|(apply HB.waits;kernel_rfl)))):P:=h
theorem atT{P:Prop}(h:P:=by(first|rfl|exact cU (by assumption)|assumption)):P:=h
theorem IG{P:Prop}(h:P:=by(repeat(first|exact Put.done|apply Put.put|apply Put.skip))):P:=h
theorem nI{P:Prop}(h:P:=by(repeat(first|(apply SPut.here;(repeat(first|exact Put.done|apply Put.put|apply Put.skip));(repeat(first|exact Fresh.nil|(apply Fresh.cons;(first|assumption|(apply Nq.en;assumption)|omega|(simp only[Nq]at*;omega))))))|(apply SPut.next;(first|assumption|(apply Nq.en;assumption)|omega|(simp only[Nq]at*;omega)))))):P:=h
theorem bK{P:Prop}(h:P:=by(repeat(first|(apply SSet.here;(repeat(first|exact Fresh.nil|(apply Fresh.cons;(first|assumption|(apply Nq.en;assumption)|omega|(simp only[Nq]at*;omega))))))|(apply SSet.next;(first|assumption|(apply Nq.en;assumption)|omega|(simp only[Nq]at*;omega)))))):P:=h
theorem aY{P:Prop}(h:P:=by(repeat(first|(apply SDel.here;(repeat(first|exact Fresh.nil|(apply Fresh.cons;(first|assumption|(apply Nq.en;assumption)|omega|(simp only[Nq]at*;omega))))))|(apply SDel.next;(first|assumption|(apply Nq.en;assumption)|omega|(simp only[Nq]at*;omega)))))):P:=h
theorem wP{P:Prop}(h:P:=by(repeat(first|exact Fresh.nil|(apply Fresh.cons;(first|assumption|(apply Nq.en;assumption)|omega|(simp only[Nq]at*;omega)))))):P:=h
theorem tM{P:Prop}(h:P:=by(repeat(first|exact AEvs.nil|(apply AEvs.cons;rfl)))):P:=h
theorem rK{P:Prop}(h:P:=by(first|(simp only[Value.cells,AV.cells,List.map_cons,List.map_nil,cM,xC];rfl)|rfl)):P:=h
theorem aU{P:Prop}(h:P:=by(first|(simp(disch:=(first|(simp only[List.mem_cons,List.not_mem_nil,true_or,or_true,or_false];done)|(focus (simp only[List.mem_cons,List.not_mem_nil,or_false,not_or];(repeat' (first|apply And.intro|(first|assumption|(apply Nq.en;assumption)|omega|(simp only[Nq]at*;omega))));done))|omega)) only[↓aJA,↓aLY,AV.cells,ED,lF,nG,pK,nH,List.nil_append,List.cons_append,List.append_nil,List.map_nil,List.map_cons,List.take_succ_cons,List.take_zero,List.drop_succ_cons,List.drop_zero,aBq,jX,Nat.zero_add,Nat.add_zero,xC,cM];rfl)|rfl)):P:=h
theorem uW{P:Program}{n:Nat}{ops:Array Oper}{rest:List Oper}{K:ASt->Prop}{fr:Fr}{Y Y2 s1:dI}{d:Nat}{ty:TypeId}{pos: _}{af: _}{f:FuncId}{xs:List Operand}{ats:Array TypeId}{args:List AV}{v:AV}(Y1:dI)(hf:∀args w,(callFunc f args).run P w=.ok (.enter f args) w)(h:SCall P f args Y1 (fun y Y=>y=v/\Y=s1))(hK:RS P n ops rest ⟨(d,v)::fr,Y2⟩ K)(hd:Nat.ble (d+1) n=true:=by exact rfl)
  (hargs:ArgsLe ⟨fr,Y⟩ xs args:=by exact aC) (hsub:∀p∈Y1,p∈Y:=by exact aA) (he:s1++eD (Y1.map (·.1)) Y=Y2:=by exact aU):RS P n ops (⟨some d,.call { callee:=.value (.func f),args:=xs.toArray,argTypes:=ats },ty,pos,af,none⟩::rest) ⟨fr,Y⟩ K:=
 cw Y1 hf h hd hargs hsub fun _ _ hr _=>by obtain⟨rfl,rfl⟩:=hr;exact he▸hK
theorem aH{P:Prop}(h:P:=by(refine aJE ?_ ?_ <;>(repeat(first|exact FrLe.nil|(apply FrLe.cons;rfl;first|exact VLe.refl _ |exact VLe.any|exact VLe.empty|exact VLe.of_eq X|exact VLe.of_eq (by congr 1;omega))|exact StLe.nil|exact StLe.refl _ |(apply StLe.cons;(repeat(first|exact List.mem_cons_self|apply List.mem_cons_of_mem));first|rfl|focus (congr 1;done)|focus (simp;done)|(simp;rfl)))))):P:=h
theorem aIK{P:Prop}(h:P:=by(repeat(first|(apply KeepIs.take;rfl)|(apply KeepIs.skip;rfl)|exact KeepIs.nil))):P:=h
theorem cP{P:Prop}(h:P:=by(repeat(first|exact FDel.nil|apply FDel.hit|apply FDel.miss rfl))):P:=h
section
variable {P Q:Prop}
theorem aI(k:Q)(h:C9 Q->P:=by intro k;(repeat(first|refine cs ?_ |refine cb ?_ |refine ck ?_ |refine cx ?_ |refine cr ?_ |refine an ?_ |refine ae ?_ |refine ar ?_ |refine bn ?_ |refine bh ?_ |refine be rfl ?_ |refine br ?_ |refine ct rfl ?_ |refine cf rfl ?_));exact k.h):P:=h ⟨k⟩
theorem zO(k:Q)(h:C9 Q->P:=by intro k;(repeat(first|refine cs ?_ |refine cb ?_ |refine ck ?_ |refine cx ?_ |refine cr ?_ |refine an ?_ |refine ae ?_ |refine ar ?_ |refine bn ?_ |refine bh ?_ |refine be rfl ?_ |refine br ?_ |refine ct rfl ?_ |refine cf rfl ?_ |refine cg ?_ |refine ag ?_ |refine bg ?_ |refine jg ?_ |refine jn ?_ |refine jr ?_ |refine je ?_));exact k.h):P:=h ⟨k⟩
theorem jD(k:Q)(h:C9 Q->P:=by intro k;(first|refine KZ ?_ |refine MB ?_);exact k.h):P:=h ⟨k⟩
theorem kX(k:Q)(h:C9 Q->P:=by intro k;(apply le;exact aIK);exact k.h):P:=h ⟨k⟩
theorem KT(k:Q)(h:C9 Q->P:=by intro k;(apply de;exact aIK);exact k.h):P:=h ⟨k⟩
end
structure Tag (o:List (Nat×Bool)):Prop where
 h:True
theorem LF{o:List (Nat×Bool)}(_:Tag o){P:Program}{n:Nat}{ks:List Nat}{s:ASt}{Q:Exit->ASt->Prop}{id:Nat}{ops:Array Oper}(hm:P.follows .mixedOrders=true)(hsel:Region.noSelect ops=true)
  (hchk:(HX ops (Array.replicate ops.size false) o&&o.length==ops.size)=true) (h:RD P n ops (Array.replicate ops.size false) o [] s (zY ks (Q .normal))):SW P n ks (.region id ops true) s Q:=GD o hm hsel hchk h
theorem eK{P Q:Prop}(o:List (Nat×Bool))(k:Q)(h:C9 Q->Tag o->P:=by intro k t;(first|refine sw_seq_tag t mixed (by kernel_rfl) (by kernel_rfl) ?_ |refine LF t mixed (by kernel_rfl) (by kernel_rfl) ?_);exact k.h):P:=h ⟨k⟩ ⟨trivial⟩
theorem B8{P Q:Prop}(k:Q)(h:C9 Q->P:=by intro k;refine eK (Ac [0,1,2,3,4] (Ad 5 (Ac [6,7] []))) ?_;exact k.h):P:=h ⟨k⟩
theorem Cf{P Q:Prop}(k:Q)(h:C9 Q->P:=by intro k;refine eK (Ac [0,1,2,3,4,5,6,7,8,9,10,11,12,13] (Ad 14 [])) ?_;exact k.h):P:=h ⟨k⟩
theorem Cj{P Q:Prop}(k:Q)(h:C9 Q->P:=by intro k;refine eK (Ac [0,1,2,3,4,5,6,7,8] []) ?_;exact k.h):P:=h ⟨k⟩
theorem Cn{P Q:Prop}(k:Q)(h:C9 Q->P:=by intro k;refine eK (Ac [0,1,2,3,4,5,6,7,8,9,10,11,12,13,14,15,16,17,18,19] (Ad 20 [])) ?_;exact k.h):P:=h ⟨k⟩
theorem Cy{P Q:Prop}(k:Q)(h:C9 Q->P:=by intro k;refine eK (Ac [0,1,2,3,4,5,6,7,8,9,10,11,12,13,14,15,16] []) ?_;exact k.h):P:=h ⟨k⟩
theorem C5{P Q:Prop}(k:Q)(h:C9 Q->P:=by intro k;refine eK (Ac [0,1,2,3,4,5,6,7,8,9,10,11,12] []) ?_;exact k.h):P:=h ⟨k⟩
theorem C6{P Q:Prop}(k:Q)(h:C9 Q->P:=by intro k;refine eK (Ac [0,1,2,3,4,5,6,7,8] (Ad 9 [])) ?_;exact k.h):P:=h ⟨k⟩
theorem bD{S R T G:Nat->Prop}(k:∀r,R r->T r)(h:C9 (∀r,R r->T r)->∀r,S r->G r:=by intro k r h;refine k.h r ?_;(first|(simp only[aN,aQ,and_true]at h;exact h)|exact trivial)):∀r,S r->G r:=h ⟨k⟩
theorem aC3{A B G:Prop}(h:B->A->G):A/\B->G:=fun⟨a,b⟩=>h b a
theorem gD{S C G:Nat->Prop}(k:∀r,C r)(h:C9 (∀r,C r)->∀r,S r->G r:=by intro k r h;first|(simp only[aN,aQ,and_true]at h;revert h;(repeat refine aC3 ?_);exact k.h r)|exact k.h r True.intro):∀r,S r->G r:=h ⟨k⟩
theorem aPH{S R T G:Nat->Prop}(k:∀r,R r->T r)(h:C9 (∀r,R r->T r)->∀r,S r->G r:=by intro k r h;simp(disch:=(first|(simp only[List.mem_cons,List.not_mem_nil,true_or,or_true,or_false];done)|(focus (simp only[List.mem_cons,List.not_mem_nil,or_false,not_or];(repeat' (first|apply And.intro|(first|assumption|(apply Nq.en;assumption)|omega|(simp only[Nq]at*;omega))));done))|omega)) only[aN,aQ,and_true,lF,nG,pK,nH]at h;have h2:=h;(repeat(rcases h2 with⟨_,h2⟩));apply Exists.intro;apply And.intro;exact bK;exact k.h r h):∀r,S r->G r:=h ⟨k⟩
theorem bG{S C G:Nat->Prop}(k:∀r,C r)(h:C9 (∀r,C r)->∀r,S r->G r:=by intro k r h;simp(disch:=(first|(simp only[List.mem_cons,List.not_mem_nil,true_or,or_true,or_false];done)|(focus (simp only[List.mem_cons,List.not_mem_nil,or_false,not_or];(repeat' (first|apply And.intro|(first|assumption|(apply Nq.en;assumption)|omega|(simp only[Nq]at*;omega))));done))|omega)) only[aN,aQ,and_true,lF,nG,pK,nH]at h;have h2:=h;(repeat(rcases h2 with⟨_,h2⟩));apply Exists.intro;apply And.intro;exact bK;revert h;(repeat refine aC3 ?_);exact k.h r):∀r,S r->G r:=h ⟨k⟩
theorem gE{H R:Prop}(a:H)(h:H->R:=by intro h;replace h:=(h _ List.mem_cons_self).resolve_left (by simp only[List.mem_cons,List.not_mem_nil,or_false,exists_eq_or_imp,exists_eq_left,not_or,false_and,exists_false,not_false_eq_true];(repeat' (first|apply And.intro|exact aX));done);simp only[aN,aQ,and_true]at h;exact h):R:=h a
theorem bU{H R:Prop}(a:H)(h:H->R:=by intro h;simp only[List.mem_cons,List.mem_singleton,List.not_mem_nil,or_false,forall_eq_or_imp,forall_eq,aN,aQ,and_true,and_assoc]at h;exact h):R:=h a
theorem aV{H R:Prop}(a:H)(h:H->R:=by intro h;have h:=rJ (h _ List.mem_cons_self);simp(disch:=(first|(simp only[List.mem_cons,List.not_mem_nil,true_or,or_true,or_false];done)|(focus (simp only[List.mem_cons,List.not_mem_nil,or_false,not_or];(repeat' (first|apply And.intro|(first|assumption|(apply Nq.en;assumption)|omega|(simp only[Nq]at*;omega))));done))|omega)) only[List.map_cons,List.map_nil,lF,nG,pK,nH,aN,aQ,and_true]at h;exact h):R:=h a
theorem aC4{H R:Prop}(a:H)(h:H->R:=by intro h;have h:=rJ (h _ (List.mem_cons_of_mem _ (List.mem_cons_of_mem _ List.mem_cons_self)));simp(disch:=(first|(simp only[List.mem_cons,List.not_mem_nil,true_or,or_true,or_false];done)|(focus (simp only[List.mem_cons,List.not_mem_nil,or_false,not_or];(repeat' (first|apply And.intro|(first|assumption|(apply Nq.en;assumption)|omega|(simp only[Nq]at*;omega))));done))|omega)) only[List.map_cons,List.map_nil,lF,nG,pK,nH,aN,aQ,and_true]at h;exact h):R:=h a
section
variable {P Q:Prop}
theorem z0(k:Q)(h:C9 Q->P:=by intro k;(first|refine lo (lH (E rfl) (IB U U)) rfl ?_ |refine lo (xD (E rfl)) rfl ?_);exact k.h):P:=h ⟨k⟩
theorem z1(k:Q)(h:C9 Q->P:=by intro k;(apply bs;exact tM;rfl;rfl;rfl;rfl;exact rK;rfl);exact k.h):P:=h ⟨k⟩
theorem z2(k:Q)(h:C9 Q->P:=by intro k;(refine lo (OJ (E rfl) (E rfl) (fun _=>by first|decide|omega)) rfl ?_);exact k.h):P:=h ⟨k⟩
theorem z3(k:Q)(h:C9 Q->P:=by intro k;(refine lo (XK (E rfl) (E rfl)) rfl ?_);exact k.h):P:=h ⟨k⟩
theorem z4(k:Q)(h:C9 Q->P:=by intro k;(first|refine ln rfl rfl rfl rfl ?_ |refine lg rfl rfl (aF (E rfl)) rfl ?_);exact k.h):P:=h ⟨k⟩
theorem z5(k:Q)(h:C9 Q->P:=by intro k;(refine lg rfl rfl (lQ (W rfl id) (E rfl)) rfl ?_);exact k.h):P:=h ⟨k⟩
theorem z6(k:Q)(h:C9 Q->P:=by intro k;(first|refine ln rfl rfl rfl rfl ?_ |refine lg rfl rfl (eJ (W rfl id) (E rfl)) rfl ?_);exact k.h):P:=h ⟨k⟩
theorem z7(k:Q)(h:C9 Q->P:=by intro k;(first|refine lo (mW (E rfl) (W rfl X)) rfl ?_ |refine lo (iZ (E rfl) (E rfl)) rfl ?_ |refine lo (fL (E rfl) (W rfl X) (E rfl)) rfl ?_);exact k.h):P:=h ⟨k⟩
theorem z8(k:Q)(h:C9 Q->P:=by intro k;(first|refine ln rfl rfl rfl rfl ?_ |refine lg rfl rfl (aF (W rfl id)) rfl ?_);exact k.h):P:=h ⟨k⟩
theorem z9(k:Q)(h:C9 Q->P:=by intro k;(refine lw rfl rfl (aF (E rfl)) rfl ?_);exact k.h):P:=h ⟨k⟩
theorem z10(k:Q)(h:C9 Q->P:=by intro k;(refine lw rfl rfl (lQ (W rfl (by first|exact id|simp)) (E rfl)) rfl ?_);exact k.h):P:=h ⟨k⟩
theorem z11(k:Q)(h:C9 Q->P:=by intro k;(refine lw rfl rfl (dM (W rfl (by first|exact id|simp)) (E rfl)) rfl ?_);exact k.h):P:=h ⟨k⟩
theorem z12(k:Q)(h:C9 Q->P:=by intro k;(refine lg rfl rfl (fL (W rfl id) (W rfl X) (E rfl)) rfl ?_);exact k.h):P:=h ⟨k⟩
theorem XP(k:Q)(h:C9 Q->P:=by intro k;(first|refine lo (iZ (E rfl) (W rfl X)) rfl ?_ |refine lo (fL (E rfl) (E rfl) (W rfl X)) rfl ?_);exact k.h):P:=h ⟨k⟩
theorem vP(k:Q)(h:C9 Q->P:=by intro k;(first|refine lo (cK (E rfl)) rfl ?_ |refine lo (uT (E rfl)) rfl ?_ |refine lo (jT (E rfl)) rfl ?_);exact k.h):P:=h ⟨k⟩
theorem z15(k:Q)(h:C9 Q->P:=by intro k;(first|refine lo (eG (E rfl) (E rfl) (fun hc=>by(simp only[List.length_map];omega))) rfl ?_ |refine lo (jK (E rfl) bR (E rfl) (fun hc=>by omega)) rfl ?_);exact k.h):P:=h ⟨k⟩
theorem z16(k:Q)(h:C9 Q->P:=by intro k;(first|refine lo (dJ (E rfl) rfl (fun hc=>by first|rfl|exact cU (by assumption)|assumption|exact cU (hY U)) (fun _=>rfl)) rfl ?_ |refine lo (jS (E rfl) rfl bR (fun hc=>by first|rfl|exact cU (by assumption)|assumption|exact cU (hY U)) (fun _=>rfl)) rfl ?_);exact k.h):P:=h ⟨k⟩
theorem SH(k:Q)(h:C9 Q->P:=by intro k;(first|refine lo (oS (E rfl) (E rfl) U U) rfl ?_ |refine lo (pA (E rfl) (E rfl)) rfl ?_);exact k.h):P:=h ⟨k⟩
theorem z18(k:Q)(h:C9 Q->P:=by intro k;(refine lg rfl rfl (iJ (W rfl id) (E rfl)) rfl ?_);exact k.h):P:=h ⟨k⟩
theorem tN(k:Q)(h:C9 Q->P:=by intro k;(first|refine lo (oT (E rfl) (E rfl) U U) rfl ?_ |refine lo (GX (E rfl) (E rfl)) rfl ?_);exact k.h):P:=h ⟨k⟩
theorem z20(k:Q)(h:C9 Q->P:=by intro k;(refine lo (aFN (E rfl) (E rfl) (fun _=>by first|decide|omega)) rfl ?_);exact k.h):P:=h ⟨k⟩
theorem z21(k:Q)(h:C9 Q->P:=by intro k;(refine lg rfl rfl (iI (W rfl id) (W rfl id)) rfl ?_);exact k.h):P:=h ⟨k⟩
theorem z22(k:Q)(h:C9 Q->P:=by intro k;(refine lo (aFO (E rfl) (E rfl) (fun _=>by first|decide|omega)) rfl ?_);exact k.h):P:=h ⟨k⟩
theorem z23(k:Q)(h:C9 Q->P:=by intro k;(refine lo (aFP (E rfl) (E rfl) (fun _=>by first|decide|omega)) rfl ?_);exact k.h):P:=h ⟨k⟩
theorem XE(k:Q)(h:C9 Q->P:=by intro k;(first|refine lo (lH (E rfl) (FG U U)) rfl ?_ |refine lo (xD (E rfl)) rfl ?_);exact k.h):P:=h ⟨k⟩
theorem z25(k:Q)(h:C9 Q->P:=by intro k;(first|refine eS rfl (lR (E rfl) OB.none (OB.some (E rfl) (fun _=>by first|rfl|exact(Int.toNat_of_nonneg U).symm)) (fun _=>by first|(simp only[List.length_map];omega)|omega)) rfl ?_ |refine eS rfl (mN (E rfl) bR OB.none (OB.some (E rfl) (fun _=>by first|rfl|exact(Int.toNat_of_nonneg U).symm)) (fun _=>by first|(simp only[List.length_map];omega)|omega)) rfl ?_);exact k.h):P:=h ⟨k⟩
theorem z26(k:Q)(h:C9 Q->P:=by intro k;(refine gI rfl rfl rfl (aF (E rfl)) rfl ?_);exact k.h):P:=h ⟨k⟩
theorem z27(k:Q)(h:C9 Q->P:=by intro k;(refine gI rfl rfl rfl (iI (W rfl id) (E rfl)) rfl ?_);exact k.h):P:=h ⟨k⟩
theorem z28(k:Q)(h:C9 Q->P:=by intro k;(refine gI rfl rfl rfl (aF (W rfl id)) rfl ?_);exact k.h):P:=h ⟨k⟩
theorem z29(k:Q)(h:C9 Q->P:=by intro k;(refine EB rfl rfl rfl (aF (E rfl)) rfl ?_);exact k.h):P:=h ⟨k⟩
theorem z30(k:Q)(h:C9 Q->P:=by intro k;(refine EB rfl rfl rfl (OJ (W rfl (by first|exact id|simp)) (W rfl (by first|exact id|simp)) (fun _=>by first|decide|omega)) rfl ?_);exact k.h):P:=h ⟨k⟩
theorem z31(k:Q)(h:C9 Q->P:=by intro k;(refine EB rfl rfl rfl (dM (W rfl (by first|exact id|simp)) (E rfl)) rfl ?_);exact k.h):P:=h ⟨k⟩
theorem z32(k:Q)(h:C9 Q->P:=by intro k;(first|refine gI rfl rfl rfl (mW (W rfl id) (W rfl X)) rfl ?_ |refine gI rfl rfl rfl (fL (W rfl id) (W rfl X) (E rfl)) rfl ?_);exact k.h):P:=h ⟨k⟩
theorem z33(k:Q)(h:C9 Q->P:=by intro k;(refine eS rfl (fL (E rfl) (E rfl) (W rfl X)) rfl ?_);exact k.h):P:=h ⟨k⟩
theorem z34(k:Q)(h:C9 Q->P:=by intro k;(first|refine ln rfl rfl rfl rfl ?_ |refine lg rfl rfl (dH (W rfl id) (E rfl)) rfl ?_);exact k.h):P:=h ⟨k⟩
theorem z44(k:Q)(h:C9 Q->P:=by intro k;(first|refine lo (lH (E rfl) (fD U U)) rfl ?_ |refine lo (xD (E rfl)) rfl ?_);exact k.h):P:=h ⟨k⟩
theorem z45(k:Q)(h:C9 Q->P:=by intro k;(refine gI rfl rfl rfl (dM (W rfl id) (E rfl)) rfl ?_);exact k.h):P:=h ⟨k⟩
theorem z46(k:Q)(h:C9 Q->P:=by intro k;(refine eS rfl (iI (E rfl) (E rfl)) rfl ?_);exact k.h):P:=h ⟨k⟩
theorem z54(k:Q)(h:C9 Q->P:=by intro k;(first|refine ln rfl rfl rfl rfl ?_ |refine lg rfl rfl (nU (W rfl id) (W rfl id)) rfl ?_);exact k.h):P:=h ⟨k⟩
theorem z55(k:Q)(h:C9 Q->P:=by intro k;(refine lg rfl rfl (nU (W rfl id) (E rfl)) rfl ?_);exact k.h):P:=h ⟨k⟩
theorem z56(k:Q)(h:C9 Q->P:=by intro k;(first|refine eS rfl (eG (E rfl) (E rfl) (fun hc=>by(simp only[List.length_map];omega))) rfl ?_ |refine eS rfl (jK (E rfl) bR (E rfl) (fun hc=>by omega)) rfl ?_);exact k.h):P:=h ⟨k⟩
theorem MF(k:Q)(h:C9 Q->P:=by intro k;(first|refine eS rfl (dJ (E rfl) rfl (fun hc=>by first|rfl|exact cU (by assumption)|assumption|exact cU (hY U)) (fun _=>rfl)) rfl ?_ |refine eS rfl (jS (E rfl) rfl bR (fun hc=>by first|rfl|exact cU (by assumption)|assumption|exact cU (hY U)) (fun _=>rfl)) rfl ?_);exact k.h):P:=h ⟨k⟩
theorem z58(k:Q)(h:C9 Q->P:=by intro k;(refine eS rfl (dM (E rfl) (E rfl)) rfl ?_);exact k.h):P:=h ⟨k⟩
theorem EF(k:Q)(h:C9 Q->P:=by intro k;(first|refine lo (aP (E rfl) rfl V) rfl ?_ |refine lo (hX (E rfl) rfl V) rfl ?_);exact k.h):P:=h ⟨k⟩
theorem wQ(k:Q)(h:C9 Q->P:=by intro k;(first|refine lo (bE (E rfl) rfl bR (fun _=>rfl)) rfl ?_ |refine lo (bE (E rfl) rfl bR (fun _=>by assumption)) rfl ?_ |refine lo (dJ (E rfl) rfl (fun hc=>by first|rfl|assumption) (fun _=>rfl)) rfl ?_);exact k.h):P:=h ⟨k⟩
theorem z61(k:Q)(h:C9 Q->P:=by intro k;(refine lg rfl rfl (aP (E rfl) rfl V) rfl ?_);exact k.h):P:=h ⟨k⟩
theorem z62(k:Q)(h:C9 Q->P:=by intro k;(first|refine ln rfl rfl rfl rfl ?_ |refine lg rfl rfl (bE (W rfl id) rfl bR (fun _=>rfl)) rfl ?_ |refine lg rfl rfl (bE (W rfl id) rfl bR (fun _=>by assumption)) rfl ?_ |refine lg rfl rfl (dJ (W rfl id) rfl (fun hc=>by first|rfl|assumption) (fun _=>rfl)) rfl ?_);exact k.h):P:=h ⟨k⟩
theorem z63(k:Q)(h:C9 Q->P:=by intro k;(first|refine ln rfl rfl rfl rfl ?_ |refine lg rfl rfl (cK (W rfl id)) rfl ?_ |refine lg rfl rfl (jT (W rfl id)) rfl ?_);exact k.h):P:=h ⟨k⟩
theorem z64(k:Q)(h:C9 Q->P:=by intro k;(refine lg rfl rfl (dM (W rfl id) (E rfl)) rfl ?_);exact k.h):P:=h ⟨k⟩
theorem z65(k:Q)(h:C9 Q->P:=by intro k;(refine lw rfl rfl (aP (E rfl) rfl V) rfl ?_);exact k.h):P:=h ⟨k⟩
theorem z66(k:Q)(h:C9 Q->P:=by intro k;(first|refine lw rfl rfl (bE (W rfl (by first|exact id|simp)) rfl bR (fun _=>rfl)) rfl ?_ |refine lw rfl rfl (bE (W rfl (by first|exact id|simp)) rfl bR (fun _=>by assumption)) rfl ?_);exact k.h):P:=h ⟨k⟩
theorem z67(k:Q)(h:C9 Q->P:=by intro k;(first|refine ln rfl rfl rfl rfl ?_ |refine lg rfl rfl (dS (W rfl id)) rfl ?_);exact k.h):P:=h ⟨k⟩
theorem sF(k:Q)(h:C9 Q->P:=by intro k;(first|refine lo (mW (E rfl) (by first|exact W rfl X|exact E rfl)) rfl ?_ |refine lo (iZ (E rfl) (E rfl)) rfl ?_ |refine lo (fL (E rfl) (by first|exact W rfl X|exact E rfl) (E rfl)) rfl ?_);exact k.h):P:=h ⟨k⟩
theorem z69(k:Q)(h:C9 Q->P:=by intro k;(refine lg rfl rfl (iI (W rfl id) (E rfl)) rfl ?_);exact k.h):P:=h ⟨k⟩
theorem z70(k:Q)(h:C9 Q->P:=by intro k;(refine lg rfl rfl (eJ (W rfl id) (W rfl id)) rfl ?_);exact k.h):P:=h ⟨k⟩
theorem z71(k:Q)(h:C9 Q->P:=by intro k;(first|refine lg rfl rfl (eG (W rfl id) (W rfl id) (fun hc=>by(try simp at hc)<;>(simp only[List.length_map];omega))) rfl ?_ |refine lg rfl rfl (jK (W rfl id) bR (W rfl id) (fun hc=>by(try simp at hc)<;>omega)) rfl ?_);exact k.h):P:=h ⟨k⟩
theorem z72(k:Q)(h:C9 Q->P:=by intro k;(first|refine lg rfl rfl (dJ (W rfl id) rfl ah (fun _=>rfl)) rfl ?_ |refine lg rfl rfl (jS (W rfl id) rfl bR ah (fun _=>rfl)) rfl ?_);exact k.h):P:=h ⟨k⟩
theorem IH(k:Q)(h:C9 Q->P:=by intro k;(refine eS rfl (aP (E rfl) rfl V) rfl ?_);exact k.h):P:=h ⟨k⟩
theorem z74(k:Q)(h:C9 Q->P:=by intro k;(first|refine eS rfl (bE (E rfl) rfl bR (fun _=>rfl)) rfl ?_ |refine eS rfl (bE (E rfl) rfl bR (fun _=>by assumption)) rfl ?_);exact k.h):P:=h ⟨k⟩
theorem z75(k:Q)(h:C9 Q->P:=by intro k;(refine eS rfl (lH (E rfl) (FG U U)) rfl ?_);exact k.h):P:=h ⟨k⟩
theorem z76(k:Q)(h:C9 Q->P:=by intro k;(first|refine lo (bI (E rfl) (.inl ⟨_,_,rfl⟩)) rfl ?_ |refine lo (bI (E rfl) (.inr (.inl ⟨_,_,_,rfl⟩))) rfl ?_ |refine lo (bI (E rfl) (.inr (.inr ⟨_,_,_,_,rfl⟩))) rfl ?_);exact k.h):P:=h ⟨k⟩
theorem XF(k:Q)(h:C9 Q->P:=by intro k;(first|refine eS rfl (bI (E rfl) (.inl ⟨_,_,rfl⟩)) rfl ?_ |refine eS rfl (bI (E rfl) (.inr (.inl ⟨_,_,_,rfl⟩))) rfl ?_ |refine eS rfl (bI (E rfl) (.inr (.inr ⟨_,_,_,_,rfl⟩))) rfl ?_);exact k.h):P:=h ⟨k⟩
theorem SI(k:Q)(h:C9 Q->P:=by intro k;(first|refine eS rfl (cK (E rfl)) rfl ?_ |refine eS rfl (jT (E rfl)) rfl ?_);exact k.h):P:=h ⟨k⟩
theorem z79(k:Q)(h:C9 Q->P:=by intro k;(refine eS rfl (eJ (E rfl) (E rfl)) rfl ?_);exact k.h):P:=h ⟨k⟩
theorem z80(k:Q)(h:C9 Q->P:=by intro k;(refine lg rfl rfl (lH (W rfl id) (fD U U)) rfl ?_);exact k.h):P:=h ⟨k⟩
theorem z81(k:Q)(h:C9 Q->P:=by intro k;(refine lg rfl rfl (iJ (W rfl id) (W rfl id)) rfl ?_);exact k.h):P:=h ⟨k⟩
theorem z82(k:Q)(h:C9 Q->P:=by intro k;(first|refine eS rfl (oT (E rfl) (E rfl) U U) rfl ?_ |refine eS rfl (GX (E rfl) (E rfl)) rfl ?_);exact k.h):P:=h ⟨k⟩
theorem z83(k:Q)(h:C9 Q->P:=by intro k;(refine eS rfl (lH (E rfl) (fD U U)) rfl ?_);exact k.h):P:=h ⟨k⟩
theorem z84(k:Q)(h:C9 Q->P:=by intro k;(first|refine eS rfl (lR (E rfl) (OB.some (E rfl) (fun _=>by first|rfl|exact(Int.toNat_of_nonneg U).symm)) OB.none (fun _=>by first|(simp only[List.length_map];omega)|omega)) rfl ?_ |refine eS rfl (mN (E rfl) bR (OB.some (E rfl) (fun _=>by first|rfl|exact(Int.toNat_of_nonneg U).symm)) OB.none (fun _=>by first|(simp only[List.length_map];omega)|omega)) rfl ?_);exact k.h):P:=h ⟨k⟩
theorem z85(k:Q)(h:C9 Q->P:=by intro k;(refine eS rfl (bA (E rfl) rfl) rfl ?_);exact k.h):P:=h ⟨k⟩
theorem z91(k:Q)(h:C9 Q->P:=by intro k;(first|refine ln rfl rfl rfl rfl ?_ |refine lg rfl rfl (bI (W rfl id) (.inl ⟨_,_,rfl⟩)) rfl ?_ |refine lg rfl rfl (bI (W rfl id) (.inr (.inl ⟨_,_,_,rfl⟩))) rfl ?_ |refine lg rfl rfl (bI (W rfl id) (.inr (.inr ⟨_,_,_,_,rfl⟩))) rfl ?_);exact k.h):P:=h ⟨k⟩
theorem z92(k:Q)(h:C9 Q->P:=by intro k;(first|refine ln rfl rfl rfl rfl ?_ |refine lg rfl rfl (aP (W rfl id) rfl V) rfl ?_ |refine lg rfl rfl (hX (W rfl id) rfl V) rfl ?_);exact k.h):P:=h ⟨k⟩
theorem mM(k:Q)(h:C9 Q->P:=by intro k;(refine lo (OS (by repeat(first|exact PEvs.nil|(apply PEvs.cons;exact E rfl))) (by(exact rK)) (by repeat(first|exact Fill.nil|(apply Fill.cons;rfl;rfl;rfl;exact IG)))) rfl ?_);exact k.h):P:=h ⟨k⟩
theorem SJ(k:Q)(h:C9 Q->P:=by intro k;(refine eS rfl (OS (by repeat(first|exact PEvs.nil|(apply PEvs.cons;exact E rfl))) (by(exact rK)) (by repeat(first|exact Fill.nil|(apply Fill.cons;rfl;rfl;rfl;exact IG)))) rfl ?_);exact k.h):P:=h ⟨k⟩
theorem XQ(k:Q)(h:C9 Q->P:=by intro k;(apply aN8;rfl;infer_instance;rfl;rfl;rfl;rfl;exact nI;exact eC);exact k.h):P:=h ⟨k⟩
theorem II(k:Q)(h:C9 Q->P:=by intro k;(refine eS rfl (gC (E rfl) rfl bR (fun _=>Nat.le_of_ble_eq_true rfl)) rfl ?_);exact k.h):P:=h ⟨k⟩
theorem z97(k:Q)(h:C9 Q->P:=by intro k;(apply dbs;rfl;infer_instance;infer_instance;exact tM;rfl;rfl;rfl;rfl;exact rK;rfl);exact k.h):P:=h ⟨k⟩
theorem jY(k:Q)(h:C9 Q->P:=by intro k;(refine lo (gC (E rfl) rfl bR (fun _=>Nat.le_of_ble_eq_true rfl)) rfl ?_);exact k.h):P:=h ⟨k⟩
theorem aF0(k:Q)(h:C9 Q->P:=by intro k;(first|refine lo (lR (E rfl) OB.none (OB.some (E rfl) (fun _=>by first|rfl|exact(Int.toNat_of_nonneg U).symm)) (fun _=>by first|(simp only[List.length_map];omega)|omega)) rfl ?_ |refine lo (mN (E rfl) bR OB.none (OB.some (E rfl) (fun _=>by first|rfl|exact(Int.toNat_of_nonneg U).symm)) (fun _=>by first|(simp only[List.length_map];omega)|omega)) rfl ?_);exact k.h):P:=h ⟨k⟩
theorem jZ(k:Q)(h:C9 Q->P:=by intro k;(first|refine ln rfl rfl rfl rfl ?_ |(refine gy rfl rfl ?_;refine lo (aF (E rfl)) rfl ?_)|refine lg rfl rfl (aF (E rfl)) rfl ?_);exact k.h):P:=h ⟨k⟩
theorem GF(k:Q)(h:C9 Q->P:=by intro k;(first|refine ln rfl rfl rfl rfl ?_ |(refine gy rfl rfl ?_;refine lo (iI aa aa) rfl ?_)|refine lg rfl rfl (iI aa aa) rfl ?_);exact k.h):P:=h ⟨k⟩
theorem aJN(k:Q)(h:C9 Q->P:=by intro k;(first|refine lo (vN (E rfl) rfl (fun hc=>by first|rfl|exact cU (by assumption)|assumption|exact cU (hY U)) (fun _=>Nat.le_of_ble_eq_true rfl)) rfl ?_ |refine lo (vO (E rfl) rfl bR (fun hc=>by first|rfl|exact cU (by assumption)|assumption|exact cU (hY U)) (fun _=>Nat.le_of_ble_eq_true rfl)) rfl ?_);exact k.h):P:=h ⟨k⟩
theorem tB(k:Q)(h:C9 Q->P:=by intro k;(first|(refine gy rfl rfl ?_;refine lo (eJ aa (E rfl)) rfl ?_)|refine lg rfl rfl (eJ aa (E rfl)) rfl ?_);exact k.h):P:=h ⟨k⟩
theorem jG(k:Q)(h:C9 Q->P:=by intro k;(first|refine lo (mW (E rfl) (E rfl)) rfl ?_ |refine lo (iZ (E rfl) (by first|exact W rfl X|exact E rfl)) rfl ?_ |refine lo (fL (E rfl) (E rfl) (by first|exact W rfl X|exact E rfl)) rfl ?_);exact k.h):P:=h ⟨k⟩
theorem AU(k:Q)(h:C9 Q->P:=by intro k;(first|refine ln rfl rfl rfl rfl ?_ |(refine gy rfl rfl ?_;(refine lo (aP (E rfl) rfl V) rfl ?_))|refine lg rfl rfl (aP (E rfl) rfl V) rfl ?_);exact k.h):P:=h ⟨k⟩
theorem aF1(k:Q)(h:C9 Q->P:=by intro k;(first|refine ln rfl rfl rfl rfl ?_ |(refine gy rfl rfl ?_;(first|refine lo (bE aa rfl bR (fun _=>rfl)) rfl ?_ |refine lo (bE aa rfl bR (fun _=>by assumption)) rfl ?_))|refine lg rfl rfl (bE aa rfl bR (fun _=>rfl)) rfl ?_ |refine lg rfl rfl (bE aa rfl bR (fun _=>by assumption)) rfl ?_);exact k.h):P:=h ⟨k⟩
theorem SK(k:Q)(h:C9 Q->P:=by intro k;(first|refine ln rfl rfl rfl rfl ?_ |(refine gy rfl rfl ?_;refine lo (dM aa (E rfl)) rfl ?_)|refine lg rfl rfl (dM aa (E rfl)) rfl ?_);exact k.h):P:=h ⟨k⟩
theorem SM(k:Q)(h:C9 Q->P:=by intro k;(first|refine lo (hX (E rfl) rfl V) rfl ?_ |refine lo (jW (E rfl) rfl V) rfl ?_);exact k.h):P:=h ⟨k⟩
theorem SN(k:Q)(h:C9 Q->P:=by intro k;(apply sto;rfl;rfl;rfl;rfl;exact bK;exact atT;exact IG;rfl);exact k.h):P:=h ⟨k⟩
theorem aJO(k:Q)(h:C9 Q->P:=by intro k;(first|refine ln rfl rfl rfl rfl ?_ |refine lg rfl rfl (oT aa (E rfl) U U) rfl ?_);exact k.h):P:=h ⟨k⟩
theorem GG(k:Q)(h:C9 Q->P:=by intro k;(first|refine ln rfl rfl rfl rfl ?_ |refine lg rfl rfl (eG (W rfl id) (W rfl id) (fun hc=>by(try simp at hc)<;>(simp only[List.length_map];omega))) rfl ?_ |refine lg rfl rfl (jK (W rfl id) bR (W rfl id) (fun hc=>by(try simp at hc)<;>omega)) rfl ?_);exact k.h):P:=h ⟨k⟩
theorem GH(k:Q)(h:C9 Q->P:=by intro k;(first|refine ln rfl rfl rfl rfl ?_ |refine lg rfl rfl (dJ (W rfl id) rfl (fun hc=>by first|rfl|exact cU (by assumption)|assumption) (fun _=>rfl)) rfl ?_ |refine lg rfl rfl (jS (W rfl id) rfl bR (fun hc=>by first|rfl|exact cU (by assumption)|assumption) (fun _=>rfl)) rfl ?_);exact k.h):P:=h ⟨k⟩
theorem SO(k:Q)(h:C9 Q->P:=by intro k;(first|refine lg rfl rfl (hX (W rfl id) rfl V) rfl ?_ |refine lg rfl rfl (jW (W rfl id) rfl V) rfl ?_);exact k.h):P:=h ⟨k⟩
theorem SP(k:Q)(h:C9 Q->P:=by intro k;(first|refine ln rfl rfl rfl rfl ?_ |(refine gy rfl rfl ?_;refine lo (dH aa (E rfl)) rfl ?_)|refine lg rfl rfl (dH aa (E rfl)) rfl ?_);exact k.h):P:=h ⟨k⟩
theorem CA(k:Q)(h:C9 Q->P:=by intro k;(first|refine ln rfl rfl rfl rfl ?_ |(refine gy rfl rfl ?_;(first|refine lo (cK aa) rfl ?_ |refine lo (uT aa) rfl ?_ |refine lo (jT aa) rfl ?_))|refine lg rfl rfl (cK aa) rfl ?_ |refine lg rfl rfl (uT aa) rfl ?_ |refine lg rfl rfl (jT aa) rfl ?_);exact k.h):P:=h ⟨k⟩
theorem OU(k:Q)(h:C9 Q->P:=by intro k;(first|(refine gy rfl rfl ?_;refine lo (iJ aa (E rfl)) rfl ?_)|refine lg rfl rfl (iJ aa (E rfl)) rfl ?_);exact k.h):P:=h ⟨k⟩
theorem wT(k:Q)(h:C9 Q->P:=by intro k;(first|refine eS rfl (vN (E rfl) rfl (fun hc=>by first|rfl|exact cU (by assumption)|assumption) (fun _=>Nat.le_of_ble_eq_true rfl)) rfl ?_ |refine eS rfl (vO (E rfl) rfl bR (fun hc=>by first|rfl|exact cU (by assumption)|assumption) (fun _=>Nat.le_of_ble_eq_true rfl)) rfl ?_);exact k.h):P:=h ⟨k⟩
theorem aF2(k:Q)(h:C9 Q->P:=by intro k;(first|refine lo (lR (E rfl) (OB.some (E rfl) (fun _=>by first|rfl|exact(Int.toNat_of_nonneg U).symm)) OB.none (fun _=>by first|(simp only[List.length_map];omega)|omega)) rfl ?_ |refine lo (mN (E rfl) bR (OB.some (E rfl) (fun _=>by first|rfl|exact(Int.toNat_of_nonneg U).symm)) OB.none (fun _=>by first|(simp only[List.length_map];omega)|omega)) rfl ?_);exact k.h):P:=h ⟨k⟩
theorem aC5(k:Q)(h:C9 Q->P:=by intro k;(first|refine ln rfl rfl rfl rfl ?_ |refine lg rfl rfl (eJ (W rfl id) (W rfl id)) rfl ?_);exact k.h):P:=h ⟨k⟩
theorem aMB(k:Q)(h:C9 Q->P:=by intro k;(first|refine ln rfl rfl rfl rfl ?_ |(refine gy rfl rfl ?_;refine lo (xW .nil (.cons rfl .nil)) rfl ?_));exact k.h):P:=h ⟨k⟩
theorem AW(k:Q)(h:C9 Q->P:=by intro k;(first|refine ln rfl rfl rfl rfl ?_ |(refine gy rfl rfl ?_;refine lo (dS aa) rfl ?_)|refine lg rfl rfl (dS aa) rfl ?_);exact k.h):P:=h ⟨k⟩
theorem OV(k:Q)(h:C9 Q->P:=by intro k;(first|refine ln rfl rfl rfl rfl ?_ |(refine gy rfl rfl ?_;refine lo (nU aa (E rfl)) rfl ?_)|refine lg rfl rfl (nU aa (E rfl)) rfl ?_);exact k.h):P:=h ⟨k⟩
theorem aC6(k:Q)(h:C9 Q->P:=by intro k;(refine lg rfl rfl (nU (W rfl id) (W rfl id)) rfl ?_);exact k.h):P:=h ⟨k⟩
theorem aBu(k:Q)(h:C9 Q->P:=by intro k;(first|(refine gy rfl rfl ?_;refine lo (aF aa) rfl ?_)|refine lg rfl rfl (aF aa) rfl ?_);exact k.h):P:=h ⟨k⟩
theorem aC7(k:Q)(h:C9 Q->P:=by intro k;(refine lw rfl rfl (aP (E rfl) rfl V) rfl ?_);exact k.h):P:=h ⟨k⟩
end
theorem aC8{P Q:Prop}(k:Q)(h:C9 Q->P:=by intro k;(
     first
      |refine ln rfl rfl rfl rfl ?_
      |(refine gy rfl rfl ?_;(
       first|refine lo (bE aa rfl bR (fun _=>rfl)) rfl ?_|refine lo (bE aa rfl bR (fun _=>by assumption)) rfl ?_|refine lo (dJ aa rfl (fun hc=>by first|rfl|exact cU (by assumption)|assumption|exact cU (hY U)) (fun _=>rfl)) rfl ?_))
      |refine lg rfl rfl (bE ab rfl bR (fun _=>rfl)) rfl ?_
      |refine lg rfl rfl (bE ab rfl bR (fun _=>by assumption)) rfl ?_
      |refine lg rfl rfl (dJ ab rfl ah (fun _=>rfl)) rfl ?_
      |refine lw rfl rfl (bE ab rfl bR (fun _=>rfl)) rfl ?_
      |refine lw rfl rfl (bE ab rfl bR (fun _=>by assumption)) rfl ?_
      |refine lw rfl rfl (dJ ab rfl ah (fun _=>rfl)) rfl ?_
      |refine lw rfl rfl (IC (v:=.bool false)) rfl ?_);exact k.h):P:=h ⟨k⟩
section
variable {P Q:Prop}
theorem aMC(k:Q)(h:C9 Q->P:=by intro k;(refine lw rfl rfl (dH ab (E rfl)) rfl ?_);exact k.h):P:=h ⟨k⟩
theorem aF3(k:Q)(h:C9 Q->P:=by intro k;(refine lg rfl rfl (fL aa (by first|exact W rfl X|exact E rfl) (E rfl)) rfl ?_);exact k.h):P:=h ⟨k⟩
theorem aOH(k:Q)(h:C9 Q->P:=by intro k;(refine lw rfl rfl (nU ab (E rfl)) rfl ?_);exact k.h):P:=h ⟨k⟩
theorem aF4(k:Q)(h:C9 Q->P:=by intro k;(first|refine ln rfl rfl rfl rfl ?_ |(refine gy rfl rfl ?_;(refine lo (gC (E rfl) rfl bR (fun _=>Nat.le_of_ble_eq_true rfl)) rfl ?_))|refine lg rfl rfl (gC (E rfl) rfl bR (fun _=>Nat.le_of_ble_eq_true rfl)) rfl ?_);exact k.h):P:=h ⟨k⟩
theorem CB(k:Q)(h:C9 Q->P:=by intro k;(first|(refine gy rfl rfl ?_;(refine lo (gC aa rfl bR (fun _=>Nat.le_of_ble_eq_true rfl)) rfl ?_))|refine lg rfl rfl (gC aa rfl bR (fun _=>Nat.le_of_ble_eq_true rfl)) rfl ?_);exact k.h):P:=h ⟨k⟩
theorem aJP(k:Q)(h:C9 Q->P:=by intro k;(first|refine ln rfl rfl rfl rfl ?_ |refine lg rfl rfl (bI (W rfl id) (.inl ⟨_,_,rfl⟩)) rfl ?_ |refine lg rfl rfl (bI (W rfl id) (.inr (.inl ⟨_,_,_,rfl⟩))) rfl ?_ |refine lg rfl rfl (bI (W rfl id) (.inr (.inr ⟨_,_,_,_,rfl⟩))) rfl ?_);exact k.h):P:=h ⟨k⟩
theorem aJQ(k:Q)(h:C9 Q->P:=by intro k;(first|refine ln rfl rfl rfl rfl ?_ |refine lg rfl rfl (aP (W rfl id) rfl V) rfl ?_);exact k.h):P:=h ⟨k⟩
theorem aOI(k:Q)(h:C9 Q->P:=by intro k;(refine lg rfl rfl (iJ (W rfl id) (W rfl id)) rfl ?_);exact k.h):P:=h ⟨k⟩
theorem aC9(k:Q)(h:C9 Q->P:=by intro k;(first|refine eS rfl (oS (E rfl) (E rfl) U U) rfl ?_ |refine eS rfl (pA (E rfl) (E rfl)) rfl ?_);exact k.h):P:=h ⟨k⟩
theorem aF5(k:Q)(h:C9 Q->P:=by intro k;(first|refine lo (qN (E rfl)) rfl ?_ |refine lo (CO (E rfl)) rfl ?_);exact k.h):P:=h ⟨k⟩
theorem aOJ(k:Q)(h:C9 Q->P:=by intro k;(refine lw rfl rfl (eJ ab (E rfl)) rfl ?_);exact k.h):P:=h ⟨k⟩
theorem aMD(k:Q)(h:C9 Q->P:=by intro k;(first|(refine gy rfl rfl ?_;(first|refine lo (iZ aa (by first|exact W rfl X|exact E rfl)) rfl ?_ |refine lo (fL aa (E rfl) (by first|exact W rfl X|exact E rfl)) rfl ?_))|refine lg rfl rfl (iZ aa (by first|exact W rfl X|exact E rfl)) rfl ?_ |refine lg rfl rfl (fL aa (E rfl) (by first|exact W rfl X|exact E rfl)) rfl ?_);exact k.h):P:=h ⟨k⟩
theorem aJR(k:Q)(h:C9 Q->P:=by intro k;(refine lo (aFV (E rfl) rfl rfl (fun _=>rfl)) rfl ?_);exact k.h):P:=h ⟨k⟩
theorem SQ(k:Q)(h:C9 Q->P:=by intro k;(refine lo (xW (.cons rfl .nil) .nil) rfl ?_);exact k.h):P:=h ⟨k⟩
theorem aOK(k:Q)(h:C9 Q->P:=by intro k;(refine lo (xW .nil (.cons rfl (.cons rfl .nil))) rfl ?_);exact k.h):P:=h ⟨k⟩
theorem aOL(k:Q)(h:C9 Q->P:=by intro k;(refine eS rfl (xW (.cons rfl .nil) .nil) rfl ?_);exact k.h):P:=h ⟨k⟩
theorem aBv(k:Q)(h:C9 Q->P:=by intro k;(refine lo (xW .nil (.cons rfl .nil)) rfl ?_);exact k.h):P:=h ⟨k⟩
theorem aJS(k:Q)(h:C9 Q->P:=by intro k;(first|refine ln rfl rfl rfl rfl ?_ |(refine gy rfl rfl ?_;refine lo (gJ aa) rfl ?_)|refine lg rfl rfl (gJ aa) rfl ?_);exact k.h):P:=h ⟨k⟩
theorem aME(k:Q)(h:C9 Q->P:=by intro k;(first|refine ln rfl rfl rfl rfl ?_ |(refine gy rfl rfl ?_;refine lo (AK (E rfl) OB.none (OB.some (E rfl) (fun _=>by first|rfl|exact(Int.toNat_of_nonneg U).symm)) (fun hc=>by(try simp at hc);omega)) rfl ?_));exact k.h):P:=h ⟨k⟩
theorem aMF(k:Q)(h:C9 Q->P:=by intro k;(first|refine ln rfl rfl rfl rfl ?_ |(refine gy rfl rfl ?_;refine lo (rE (E rfl) (E rfl)) rfl ?_));exact k.h):P:=h ⟨k⟩
theorem lC(k:Q)(h:C9 Q->P:=by intro k;(first|refine XD rfl rfl rfl rfl rfl ?_ |(refine kP rfl rfl rfl (aF (E rfl)) rfl ?_)|refine gI rfl rfl rfl (aF (E rfl)) rfl ?_);exact k.h):P:=h ⟨k⟩
theorem XR(k:Q)(h:C9 Q->P:=by intro k;(first|refine XD rfl rfl rfl rfl rfl ?_ |(first|refine kP rfl rfl rfl (eG aa aa (fun hc=>by(simp only[List.length_map];omega))) rfl ?_ |refine kP rfl rfl rfl (jK aa bR aa (fun hc=>by omega)) rfl ?_)|refine gI rfl rfl rfl (eG aa aa (fun hc=>by(try simp at hc)<;>(simp only[List.length_map];omega))) rfl ?_ |refine gI rfl rfl rfl (jK aa bR aa (fun hc=>by(try simp at hc)<;>omega)) rfl ?_);exact k.h):P:=h ⟨k⟩
theorem XS(k:Q)(h:C9 Q->P:=by intro k;(first|refine XD rfl rfl rfl rfl rfl ?_ |(first|refine kP rfl rfl rfl (dJ aa rfl (fun hc=>by first|rfl|exact cU (by assumption)|assumption|exact cU (hY U)) (fun _=>rfl)) rfl ?_ |refine kP rfl rfl rfl (jS aa rfl bR (fun hc=>by first|rfl|exact cU (by assumption)|assumption|exact cU (hY U)) (fun _=>rfl)) rfl ?_)|refine gI rfl rfl rfl (dJ aa rfl ah (fun _=>rfl)) rfl ?_ |refine gI rfl rfl rfl (jS aa rfl bR ah (fun _=>rfl)) rfl ?_);exact k.h):P:=h ⟨k⟩
theorem aF6(k:Q)(h:C9 Q->P:=by intro k;(first|refine XD rfl rfl rfl rfl rfl ?_ |(refine kP rfl rfl rfl (eJ aa aa) rfl ?_)|refine gI rfl rfl rfl (eJ aa aa) rfl ?_);exact k.h):P:=h ⟨k⟩
theorem OW(k:Q)(h:C9 Q->P:=by intro k;(first|refine eS rfl (mW (E rfl) (by first|exact W rfl X|exact E rfl)) rfl ?_ |refine eS rfl (iZ (E rfl) (E rfl)) rfl ?_ |refine eS rfl (fL (E rfl) (by first|exact W rfl X|exact E rfl) (E rfl)) rfl ?_);exact k.h):P:=h ⟨k⟩
theorem aDa(k:Q)(h:C9 Q->P:=by intro k;(first|refine eS rfl (hX (E rfl) rfl V) rfl ?_ |refine eS rfl (jW (E rfl) rfl V) rfl ?_);exact k.h):P:=h ⟨k⟩
theorem IJ(k:Q)(h:C9 Q->P:=by intro k;(refine lg rfl rfl (iI aa (E rfl)) rfl ?_);exact k.h):P:=h ⟨k⟩
theorem aOM(k:Q)(h:C9 Q->P:=by intro k;(refine lw rfl rfl (iI ab (E rfl)) rfl ?_);exact k.h):P:=h ⟨k⟩
theorem aON(k:Q)(h:C9 Q->P:=by intro k;(refine lo (AL (E rfl) (E rfl) (fun _=>by omega) (fun _=>by assumption) (fun _=>by assumption)) rfl ?_);exact k.h):P:=h ⟨k⟩
theorem aOO(k:Q)(h:C9 Q->P:=by intro k;(refine lg rfl rfl (AL (W rfl id) (W rfl id) (fun _=>by omega) (fun _=>by assumption) (fun _=>by assumption)) rfl ?_);exact k.h):P:=h ⟨k⟩
theorem aOP(k:Q)(h:C9 Q->P:=by intro k;(first|refine lg rfl rfl (oS (W rfl id) (W rfl id) U U) rfl ?_ |refine lg rfl rfl (lop_add64c (W rfl id) (W rfl id) (fun hc=>by simp at hc<;>first|omega|(have hov:=hov hc;omega))) rfl ?_);exact k.h):P:=h ⟨k⟩
theorem GI(k:Q)(h:C9 Q->P:=by intro k;(refine lg rfl rfl (dM (W rfl id) (W rfl id)) rfl ?_);exact k.h):P:=h ⟨k⟩
theorem rL(k:Q)(h:C9 Q->P:=by intro k;(first|refine XD rfl rfl rfl rfl rfl ?_ |(refine kP rfl rfl rfl (aP (E rfl) rfl V) rfl ?_)|refine gI rfl rfl rfl (aP (E rfl) rfl V) rfl ?_);exact k.h):P:=h ⟨k⟩
theorem jM(k:Q)(h:C9 Q->P:=by intro k;(first|refine XD rfl rfl rfl rfl rfl ?_ |(first|refine kP rfl rfl rfl (bE aa rfl bR (fun _=>rfl)) rfl ?_ |refine kP rfl rfl rfl (bE aa rfl bR (fun _=>by assumption)) rfl ?_)|refine gI rfl rfl rfl (bE aa rfl bR (fun _=>rfl)) rfl ?_ |refine gI rfl rfl rfl (bE aa rfl bR (fun _=>by assumption)) rfl ?_);exact k.h):P:=h ⟨k⟩
theorem aOQ(k:Q)(h:C9 Q->P:=by intro k;(first|refine XD rfl rfl rfl rfl rfl ?_ |(first|refine kP rfl rfl rfl (hX aa rfl V) rfl ?_ |refine kP rfl rfl rfl (jW aa rfl V) rfl ?_)|refine gI rfl rfl rfl (hX aa rfl V) rfl ?_ |refine gI rfl rfl rfl (jW aa rfl V) rfl ?_);exact k.h):P:=h ⟨k⟩
theorem IK(k:Q)(h:C9 Q->P:=by intro k;(first|(refine kP rfl rfl rfl (dS aa) rfl ?_)|refine gI rfl rfl rfl (dS aa) rfl ?_);exact k.h):P:=h ⟨k⟩
theorem nQ(k:Q)(h:C9 Q->P:=by intro k;(first|refine eS rfl (mW (E rfl) (E rfl)) rfl ?_ |refine eS rfl (iZ (E rfl) (by first|exact W rfl X|exact E rfl)) rfl ?_ |refine eS rfl (fL (E rfl) (E rfl) (by first|exact W rfl X|exact E rfl)) rfl ?_);exact k.h):P:=h ⟨k⟩
theorem aMG(k:Q)(h:C9 Q->P:=by intro k;(refine gI rfl rfl rfl (qN (W rfl id)) rfl ?_);exact k.h):P:=h ⟨k⟩
theorem aOR(k:Q)(h:C9 Q->P:=by intro k;(refine gI rfl rfl rfl (rF (W rfl id) (W rfl id)) rfl ?_);exact k.h):P:=h ⟨k⟩
theorem aMH(k:Q)(h:C9 Q->P:=by intro k;(refine lg rfl rfl (rF (W rfl id) (W rfl id)) rfl ?_);exact k.h):P:=h ⟨k⟩
theorem aMI(k:Q)(h:C9 Q->P:=by intro k;(refine eS rfl (rF (E rfl) (E rfl)) rfl ?_);exact k.h):P:=h ⟨k⟩
theorem aJT(k:Q)(h:C9 Q->P:=by intro k;(refine gI rfl rfl rfl (dM (W rfl id) (W rfl id)) rfl ?_);exact k.h):P:=h ⟨k⟩
theorem aJU(k:Q)(h:C9 Q->P:=by intro k;((refine gy rfl rfl ?_;refine lo (OS (by repeat(first|exact PEvs.nil|(apply PEvs.cons;exact E rfl))) (by(exact rK)) (by repeat(first|exact Fill.nil|(apply Fill.cons;rfl;rfl;rfl;exact IG)))) rfl ?_));exact k.h):P:=h ⟨k⟩
theorem aOS(k:Q)(h:C9 Q->P:=by intro k;((refine gy rfl rfl ?_;apply bs;exact tM;rfl;rfl;rfl;rfl;exact rK;rfl));exact k.h):P:=h ⟨k⟩
theorem aMJ(k:Q)(h:C9 Q->P:=by intro k;(refine eS rfl (rD (E rfl) (E rfl)) rfl ?_);exact k.h):P:=h ⟨k⟩
theorem aMK(k:Q)(h:C9 Q->P:=by intro k;((refine kP rfl rfl rfl (gC (E rfl) rfl bR (fun _=>Nat.le_of_ble_eq_true rfl)) rfl ?_));exact k.h):P:=h ⟨k⟩
theorem aF7(k:Q)(h:C9 Q->P:=by intro k;((refine kP rfl rfl rfl (rD (E rfl) (E rfl)) rfl ?_));exact k.h):P:=h ⟨k⟩
theorem aML(k:Q)(h:C9 Q->P:=by intro k;(refine eS rfl (CO (E rfl)) rfl ?_);exact k.h):P:=h ⟨k⟩
theorem aMM(k:Q)(h:C9 Q->P:=by intro k;((refine kP rfl rfl rfl (RV (E rfl) (E rfl)) rfl ?_));exact k.h):P:=h ⟨k⟩
theorem sq0(k:Q)(h:C9 Q->P:=by intro k;refine lo (aT (E rfl)) rfl ?_;refine kX ?_;exact k.h):P:=h ⟨k⟩
theorem fO(k:Q)(h:C9 Q->P:=by intro k;refine jD ?_;refine lo (aF (E rfl)) rfl ?_;exact k.h):P:=h ⟨k⟩
theorem cN(k:Q)(h:C9 Q->P:=by intro k;refine sq0 ?_;refine aI ?_;exact k.h):P:=h ⟨k⟩
theorem dB(k:Q)(h:C9 Q->P:=by intro k;refine aI ?_;refine jD ?_;exact k.h):P:=h ⟨k⟩
theorem iM(k:Q)(h:C9 Q->P:=by intro k;refine kX ?_;refine aI ?_;exact k.h):P:=h ⟨k⟩
theorem kV(k:Q)(h:C9 Q->P:=by intro k;refine fO ?_;refine lo (aF (E rfl)) rfl ?_;exact k.h):P:=h ⟨k⟩
theorem SS(k:Q)(h:C9 Q->P:=by intro k;refine lo (eJ (E rfl) (E rfl)) rfl ?_;refine cN ?_;exact k.h):P:=h ⟨k⟩
theorem dG(k:Q)(h:C9 Q->P:=by intro k;refine aI ?_;refine fO ?_;exact k.h):P:=h ⟨k⟩
theorem pD(k:Q)(h:C9 Q->P:=by intro k;refine EF ?_;refine wQ ?_;exact k.h):P:=h ⟨k⟩
theorem cV(k:Q)(h:C9 Q->P:=by intro k;refine dB ?_;refine cN ?_;exact k.h):P:=h ⟨k⟩
theorem fR(k:Q)(h:C9 Q->P:=by intro k;apply OT;rfl;rfl;rfl;rfl;exact nI;refine iM ?_;exact k.h):P:=h ⟨k⟩
theorem fS(k:Q)(h:C9 Q->P:=by intro k;refine lo (aT (E rfl)) rfl ?_;refine cN ?_;exact k.h):P:=h ⟨k⟩
theorem sG(k:Q)(h:C9 Q->P:=by intro k;refine lo (iI (E rfl) (E rfl)) rfl ?_;refine iM ?_;exact k.h):P:=h ⟨k⟩
theorem ST(k:Q)(h:C9 Q->P:=by intro k;(try unfold fW);(try unfold kT);(try unfold jR);(try unfold oH);(try dsimp only[List.cons_append,List.nil_append]);apply aR;exact aU;exact k.h):P:=h ⟨k⟩
theorem aF8(k:Q)(h:C9 Q->P:=by intro k;refine lo (aF (E rfl)) rfl ?_;refine iM ?_;exact k.h):P:=h ⟨k⟩
theorem aJV(k:Q)(h:C9 Q->P:=by intro k;refine eS rfl (aF (E rfl)) rfl ?_;refine XF ?_;exact k.h):P:=h ⟨k⟩
theorem kH(k:Q)(h:C9 Q->P:=by intro k;refine lo (aF (E rfl)) rfl ?_;refine jZ ?_;exact k.h):P:=h ⟨k⟩
theorem eQ(k:Q)(h:C9 Q->P:=by intro k;refine IH ?_;refine z74 ?_;exact k.h):P:=h ⟨k⟩
theorem XT(k:Q)(h:C9 Q->P:=by intro k;refine eS rfl (aT (E rfl)) rfl ?_;refine KT ?_;exact k.h):P:=h ⟨k⟩
theorem OX(k:Q)(h:C9 Q->P:=by intro k;refine lo (bA (E rfl) rfl) rfl ?_;refine lo (bA (E rfl) rfl) rfl ?_;exact k.h):P:=h ⟨k⟩
theorem GJ(k:Q)(h:C9 Q->P:=by intro k;refine lo (aF (E rfl)) rfl ?_;refine AU ?_;exact k.h):P:=h ⟨k⟩
theorem aDb(k:Q)(h:C9 Q->P:=by intro k;refine eS rfl (aF (E rfl)) rfl ?_;refine z56 ?_;exact k.h):P:=h ⟨k⟩
theorem cJ(k:Q)(h:C9 Q->P:=by intro k;refine aI ?_;refine kV ?_;exact k.h):P:=h ⟨k⟩
theorem fN(k:Q)(h:C9 Q->P:=by intro k;apply aR;exact aU;refine iM ?_;exact k.h):P:=h ⟨k⟩
theorem fF(k:Q)(h:C9 Q->P:=by intro k;apply aR;exact aU;refine cN ?_;exact k.h):P:=h ⟨k⟩
theorem aJW(k:Q)(h:C9 Q->P:=by intro k;refine lo (aF (E rfl)) rfl ?_;refine z15 ?_;exact k.h):P:=h ⟨k⟩
theorem zP(k:Q)(h:C9 Q->P:=by intro k;refine vP ?_;refine lo (aF (E rfl)) rfl ?_;exact k.h):P:=h ⟨k⟩
theorem cZ(k:Q)(h:C9 Q->P:=by intro k;refine dB ?_;refine SS ?_;exact k.h):P:=h ⟨k⟩
theorem wU(k:Q)(h:C9 Q->P:=by intro k;refine lo (dM (E rfl) (E rfl)) rfl ?_;refine iM ?_;exact k.h):P:=h ⟨k⟩
theorem AX(k:Q)(h:C9 Q->P:=by intro k;apply aR;exact aU;refine lo (aF (E rfl)) rfl ?_;exact k.h):P:=h ⟨k⟩
theorem lS(k:Q)(h:C9 Q->P:=by intro k;refine aJV ?_;refine eQ ?_;exact k.h):P:=h ⟨k⟩
theorem xK(k:Q)(h:C9 Q->P:=by intro k;refine SH ?_;refine cN ?_;exact k.h):P:=h ⟨k⟩
theorem mG(k:Q)(h:C9 Q->P:=by intro k;apply OT;rfl;rfl;rfl;rfl;exact nI;refine kX ?_;exact k.h):P:=h ⟨k⟩
theorem qA(k:Q)(h:C9 Q->P:=by intro k;refine pD ?_;refine vP ?_;exact k.h):P:=h ⟨k⟩
theorem pM(k:Q)(h:C9 Q->P:=by intro k;refine lo (aT (E rfl)) rfl ?_;refine fS ?_;exact k.h):P:=h ⟨k⟩
theorem sH(k:Q)(h:C9 Q->P:=by intro k;refine lo (eJ (E rfl) (E rfl)) rfl ?_;refine iM ?_;exact k.h):P:=h ⟨k⟩
theorem eU(k:Q)(h:C9 Q->P:=by intro k;refine jD ?_;refine SS ?_;exact k.h):P:=h ⟨k⟩
theorem qB(k:Q)(h:C9 Q->P:=by intro k;refine z76 ?_;refine EF ?_;exact k.h):P:=h ⟨k⟩
theorem iT(k:Q)(h:C9 Q->P:=by intro k;refine cN ?_;refine jD ?_;exact k.h):P:=h ⟨k⟩
theorem iN(k:Q)(h:C9 Q->P:=by intro k;refine dG ?_;refine xK ?_;exact k.h):P:=h ⟨k⟩
theorem fK(k:Q)(h:C9 Q->P:=by intro k;refine cV ?_;refine fO ?_;exact k.h):P:=h ⟨k⟩
theorem fC(k:Q)(h:C9 Q->P:=by intro k;refine dG ?_;refine cN ?_;exact k.h):P:=h ⟨k⟩
theorem eY(k:Q)(h:C9 Q->P:=by intro k;refine dB ?_;refine pD ?_;exact k.h):P:=h ⟨k⟩
theorem wV(k:Q)(h:C9 Q->P:=by intro k;refine eS rfl (aF (E rfl)) rfl ?_;refine eS rfl (aF (E rfl)) rfl ?_;exact k.h):P:=h ⟨k⟩
theorem XU(k:Q)(h:C9 Q->P:=by intro k;refine SH ?_;refine aF8 ?_;exact k.h):P:=h ⟨k⟩
theorem zQ(k:Q)(h:C9 Q->P:=by intro k;refine GJ ?_;refine aF1 ?_;exact k.h):P:=h ⟨k⟩
theorem mX(k:Q)(h:C9 Q->P:=by intro k;refine lo (dS (E rfl)) rfl ?_;refine iM ?_;exact k.h):P:=h ⟨k⟩
theorem qC(k:Q)(h:C9 Q->P:=by intro k;refine eS rfl (aF (E rfl)) rfl ?_;refine lC ?_;exact k.h):P:=h ⟨k⟩
theorem nR(k:Q)(h:C9 Q->P:=by intro k;unfold dL mT;(try dsimp only);refine fN ?_;exact k.h):P:=h ⟨k⟩
theorem aJX(k:Q)(h:C9 Q->P:=by intro k;refine eS rfl (aT (E rfl)) rfl ?_;refine XT ?_;exact k.h):P:=h ⟨k⟩
theorem CC(k:Q)(h:C9 Q->P:=by intro k;refine eQ ?_;refine aDb ?_;exact k.h):P:=h ⟨k⟩
theorem aJY(k:Q)(h:C9 Q->P:=by intro k;refine zP ?_;refine lo (nU (E rfl) (E rfl)) rfl ?_;exact k.h):P:=h ⟨k⟩
theorem kA(k:Q)(h:C9 Q->P:=by intro k;refine sF ?_;refine cN ?_;exact k.h):P:=h ⟨k⟩
theorem tO(k:Q)(h:C9 Q->P:=by intro k;unfold dL mT;(try dsimp only);apply aR;exact aU;exact k.h):P:=h ⟨k⟩
theorem AY(k:Q)(h:C9 Q->P:=by intro k;refine z76 ?_;refine pD ?_;exact k.h):P:=h ⟨k⟩
theorem oI(k:Q)(h:C9 Q->P:=by intro k;refine KT ?_;refine aI ?_;exact k.h):P:=h ⟨k⟩
theorem aOT(k:Q)(h:C9 Q->P:=by intro k;refine lo (aF (E rfl)) rfl ?_;refine z61 ?_;exact k.h):P:=h ⟨k⟩
theorem AZ(k:Q)(h:C9 Q->P:=by intro k;refine lo (aF (E rfl)) rfl ?_;refine z4 ?_;exact k.h):P:=h ⟨k⟩
theorem kI(k:Q)(h:C9 Q->P:=by intro k;refine jD ?_;refine cN ?_;exact k.h):P:=h ⟨k⟩
theorem tP(k:Q)(h:C9 Q->P:=by intro k;refine lo (iJ (E rfl) (E rfl)) rfl ?_;refine iM ?_;exact k.h):P:=h ⟨k⟩
theorem oJ(k:Q)(h:C9 Q->P:=by intro k;refine qB ?_;refine fR ?_;exact k.h):P:=h ⟨k⟩
theorem SU(k:Q)(h:C9 Q->P:=by intro k;refine aDa ?_;refine MF ?_;exact k.h):P:=h ⟨k⟩
theorem gN(k:Q)(h:C9 Q->P:=by intro k;refine dB ?_;refine sG ?_;exact k.h):P:=h ⟨k⟩
theorem aOU(k:Q)(h:C9 Q->P:=by intro k;refine lo (aT (E rfl)) rfl ?_;refine sq0 ?_;exact k.h):P:=h ⟨k⟩
theorem gX(k:Q)(h:C9 Q->P:=by intro k;refine cN ?_;refine fO ?_;exact k.h):P:=h ⟨k⟩
theorem jH(k:Q)(h:C9 Q->P:=by intro k;refine dB ?_;refine XU ?_;exact k.h):P:=h ⟨k⟩
theorem tC(k:Q)(h:C9 Q->P:=by intro k;refine lo (aF (E rfl)) rfl ?_;refine OX ?_;exact k.h):P:=h ⟨k⟩
theorem wW(k:Q)(h:C9 Q->P:=by intro k;refine eS rfl (aF (E rfl)) rfl ?_;refine aDb ?_;exact k.h):P:=h ⟨k⟩
theorem BA(k:Q)(h:C9 Q->P:=by intro k;refine CC ?_;refine SU ?_;exact k.h):P:=h ⟨k⟩
theorem uX(k:Q)(h:C9 Q->P:=by intro k;refine cJ ?_;refine lo (aF (E rfl)) rfl ?_;exact k.h):P:=h ⟨k⟩
theorem OY(k:Q)(h:C9 Q->P:=by intro k;refine dG ?_;refine qA ?_;exact k.h):P:=h ⟨k⟩
theorem xL(k:Q)(h:C9 Q->P:=by intro k;refine lo (iI (E rfl) (E rfl)) rfl ?_;refine kH ?_;exact k.h):P:=h ⟨k⟩
theorem SV(k:Q)(h:C9 Q->P:=by intro k;refine AU ?_;refine aF1 ?_;exact k.h):P:=h ⟨k⟩
theorem iO(k:Q)(h:C9 Q->P:=by intro k;refine iT ?_;refine pD ?_;exact k.h):P:=h ⟨k⟩
theorem kJ(k:Q)(h:C9 Q->P:=by intro k;refine OY ?_;refine sG ?_;exact k.h):P:=h ⟨k⟩
theorem BB(k:Q)(h:C9 Q->P:=by intro k;refine eS rfl (aF (E rfl)) rfl ?_;refine rL ?_;exact k.h):P:=h ⟨k⟩
theorem GK(k:Q)(h:C9 Q->P:=by intro k;refine aJQ ?_;refine aF1 ?_;exact k.h):P:=h ⟨k⟩
theorem qD(k:Q)(h:C9 Q->P:=by intro k;refine vP ?_;refine aF8 ?_;exact k.h):P:=h ⟨k⟩
theorem CD(k:Q)(h:C9 Q->P:=by intro k;refine lo (dH (E rfl) (E rfl)) rfl ?_;refine cN ?_;exact k.h):P:=h ⟨k⟩
theorem CE(k:Q)(h:C9 Q->P:=by intro k;refine z15 ?_;refine aJN ?_;exact k.h):P:=h ⟨k⟩
theorem LG(k:Q)(h:C9 Q->P:=by intro k;refine lo (aF (E rfl)) rfl ?_;refine lo (aF (E rfl)) rfl ?_;exact k.h):P:=h ⟨k⟩
theorem tQ(k:Q)(h:C9 Q->P:=by intro k;refine XT ?_;refine aI ?_;exact k.h):P:=h ⟨k⟩
theorem lT(k:Q)(h:C9 Q->P:=by intro k;refine fO ?_;refine pD ?_;exact k.h):P:=h ⟨k⟩
theorem aJZ(k:Q)(h:C9 Q->P:=by intro k;refine lo (iJ (E rfl) (E rfl)) rfl ?_;refine kH ?_;exact k.h):P:=h ⟨k⟩
theorem EG(k:Q)(h:C9 Q->P:=by intro k;refine eS rfl (aF (E rfl)) rfl ?_;refine lS ?_;exact k.h):P:=h ⟨k⟩
theorem qO(k:Q)(h:C9 Q->P:=by intro k;refine sF ?_;refine iM ?_;exact k.h):P:=h ⟨k⟩
theorem nS(k:Q)(h:C9 Q->P:=by intro k;refine ST ?_;refine iM ?_;exact k.h):P:=h ⟨k⟩
theorem uY(k:Q)(h:C9 Q->P:=by intro k;refine jG ?_;refine iM ?_;exact k.h):P:=h ⟨k⟩
theorem GL(k:Q)(h:C9 Q->P:=by intro k;refine eS rfl (aF (E rfl)) rfl ?_;refine eQ ?_;exact k.h):P:=h ⟨k⟩
theorem OZ(k:Q)(h:C9 Q->P:=by intro k;refine XD rfl rfl rfl rfl rfl ?_;refine XD rfl rfl rfl rfl rfl ?_;exact k.h):P:=h ⟨k⟩
theorem mO(k:Q)(h:C9 Q->P:=by intro k;refine cV ?_;refine kV ?_;exact k.h):P:=h ⟨k⟩
theorem LH(k:Q)(h:C9 Q->P:=by intro k;apply aR;exact aU;refine lo (dS (E rfl)) rfl ?_;exact k.h):P:=h ⟨k⟩
theorem IL(k:Q)(h:C9 Q->P:=by intro k;refine lo (dH (E rfl) (E rfl)) rfl ?_;refine iM ?_;exact k.h):P:=h ⟨k⟩
theorem PA(k:Q)(h:C9 Q->P:=by intro k;refine sq0 ?_;refine an ?_;exact k.h):P:=h ⟨k⟩
theorem EH(k:Q)(h:C9 Q->P:=by intro k;refine XQ ?_;refine KT ?_;exact k.h):P:=h ⟨k⟩
theorem aBw(k:Q)(h:C9 Q->P:=by intro k;refine AW ?_;refine kA ?_;exact k.h):P:=h ⟨k⟩
theorem pN(k:Q)(h:C9 Q->P:=by intro k;refine fS ?_;refine fO ?_;exact k.h):P:=h ⟨k⟩
theorem qP(k:Q)(h:C9 Q->P:=by intro k;refine aOT ?_;refine z62 ?_;exact k.h):P:=h ⟨k⟩
theorem sI(k:Q)(h:C9 Q->P:=by intro k;refine aJW ?_;refine aJN ?_;exact k.h):P:=h ⟨k⟩
theorem PB(k:Q)(h:C9 Q->P:=by intro k;apply OT;rfl;rfl;rfl;rfl;exact nI;refine PA ?_;exact k.h):P:=h ⟨k⟩
theorem xM(k:Q)(h:C9 Q->P:=by intro k;refine AY ?_;refine lo (aF (E rfl)) rfl ?_;exact k.h):P:=h ⟨k⟩
theorem xN(k:Q)(h:C9 Q->P:=by intro k;refine kV ?_;refine lo (aF (E rfl)) rfl ?_;exact k.h):P:=h ⟨k⟩
theorem rM(k:Q)(h:C9 Q->P:=by intro k;refine fO ?_;refine AY ?_;exact k.h):P:=h ⟨k⟩
theorem xO(k:Q)(h:C9 Q->P:=by intro k;refine lo (aF (E rfl)) rfl ?_;refine vP ?_;exact k.h):P:=h ⟨k⟩
theorem AA(k:Q)(h:C9 Q->P:=by intro k;refine lo (aT (E rfl)) rfl ?_;refine pM ?_;exact k.h):P:=h ⟨k⟩
theorem aMN(k:Q)(h:C9 Q->P:=by intro k;refine lS ?_;refine XQ ?_;exact k.h):P:=h ⟨k⟩
theorem aIN(k:Q)(h:C9 Q->P:=by intro k;refine aMN ?_;refine aJX ?_;exact k.h):P:=h ⟨k⟩
theorem aIO(k:Q)(h:C9 Q->P:=by intro k;refine dG ?_;(first|refine lo (rG (E rfl) (E rfl) (.inl ⟨rfl,rfl⟩)) rfl ?_ |refine lo (rG (E rfl) (E rfl) (.inr (.inl ⟨⟨_,_,rfl⟩,rfl⟩))) rfl ?_ |refine lo (rG (E rfl) (E rfl) (.inr (.inr (.inl ⟨⟨_,_,_,rfl⟩,rfl⟩)))) rfl ?_ |refine lo (rG (E rfl) (E rfl) (.inr (.inr (.inr ⟨⟨_,_,_,_,rfl⟩,rfl⟩)))) rfl ?_);exact k.h):P:=h ⟨k⟩
theorem mD(k:Q)(h:C9 Q->P:=by intro k;refine z15 ?_;refine z16 ?_;exact k.h):P:=h ⟨k⟩
theorem aDc(k:Q)(h:C9 Q->P:=by intro k;refine aMB ?_;refine ln rfl rfl rfl rfl ?_;exact k.h):P:=h ⟨k⟩
theorem MG(k:Q)(h:C9 Q->P:=by intro k;refine aJW ?_;refine SM ?_;exact k.h):P:=h ⟨k⟩
theorem aAq(k:Q)(h:C9 Q->P:=by intro k;refine aOU ?_;refine an ?_;exact k.h):P:=h ⟨k⟩
theorem oL(k:Q)(h:C9 Q->P:=by intro k;refine dG ?_;refine oJ ?_;exact k.h):P:=h ⟨k⟩
theorem vQ(k:Q)(h:C9 Q->P:=by intro k;apply bC;exact aU;refine tQ ?_;exact k.h):P:=h ⟨k⟩
theorem nJ(k:Q)(h:C9 Q->P:=by intro k;refine fO ?_;refine aJY ?_;exact k.h):P:=h ⟨k⟩
theorem MH(k:Q)(h:C9 Q->P:=by intro k;refine jM ?_;refine lC ?_;exact k.h):P:=h ⟨k⟩
theorem FJ(k:Q)(h:C9 Q->P:=by intro k;apply OT;rfl;rfl;rfl;rfl;exact nI;refine cN ?_;exact k.h):P:=h ⟨k⟩
theorem AB(k:Q)(h:C9 Q->P:=by intro k;refine cJ ?_;refine vP ?_;exact k.h):P:=h ⟨k⟩
theorem nX(k:Q)(h:C9 Q->P:=by intro k;refine aJW ?_;refine z16 ?_;exact k.h):P:=h ⟨k⟩
theorem nY(k:Q)(h:C9 Q->P:=by intro k;refine dB ?_;refine CE ?_;exact k.h):P:=h ⟨k⟩
theorem FK(k:Q)(h:C9 Q->P:=by intro k;refine lo (eJ (E rfl) (E rfl)) rfl ?_;refine zQ ?_;exact k.h):P:=h ⟨k⟩
theorem qH(k:Q)(h:C9 Q->P:=by intro k;refine XT ?_;refine iN ?_;exact k.h):P:=h ⟨k⟩
theorem oM(k:Q)(h:C9 Q->P:=by intro k;refine jD ?_;refine fS ?_;exact k.h):P:=h ⟨k⟩
theorem mE(k:Q)(h:C9 Q->P:=by intro k;refine dB ?_;refine jY ?_;exact k.h):P:=h ⟨k⟩
theorem FL(k:Q)(h:C9 Q->P:=by intro k;refine lS ?_;refine SI ?_;exact k.h):P:=h ⟨k⟩
theorem CF(k:Q)(h:C9 Q->P:=by intro k;refine lo (aF (E rfl)) rfl ?_;refine aF4 ?_;exact k.h):P:=h ⟨k⟩
theorem mP(k:Q)(h:C9 Q->P:=by intro k;refine jD ?_;refine pD ?_;exact k.h):P:=h ⟨k⟩
theorem sJ(k:Q)(h:C9 Q->P:=by intro k;refine AX ?_;refine OX ?_;exact k.h):P:=h ⟨k⟩
theorem nZ(k:Q)(h:C9 Q->P:=by intro k;refine SV ?_;refine CA ?_;exact k.h):P:=h ⟨k⟩
theorem oA(k:Q)(h:C9 Q->P:=by intro k;refine dG ?_;refine pD ?_;exact k.h):P:=h ⟨k⟩
theorem IM(k:Q)(h:C9 Q->P:=by intro k;refine eY ?_;refine lo (dH (E rfl) (E rfl)) rfl ?_;exact k.h):P:=h ⟨k⟩
theorem qI(k:Q)(h:C9 Q->P:=by intro k;refine zQ ?_;refine jZ ?_;exact k.h):P:=h ⟨k⟩
theorem AC(k:Q)(h:C9 Q->P:=by intro k;apply aR;exact aU;refine aBw ?_;exact k.h):P:=h ⟨k⟩
theorem oB(k:Q)(h:C9 Q->P:=by intro k;refine cV ?_;refine kI ?_;exact k.h):P:=h ⟨k⟩
theorem IN(k:Q)(h:C9 Q->P:=by intro k;refine lo (aT (E rfl)) rfl ?_;refine aAq ?_;exact k.h):P:=h ⟨k⟩
theorem SX(k:Q)(h:C9 Q->P:=by intro k;refine jD ?_;refine XU ?_;exact k.h):P:=h ⟨k⟩
theorem pO(k:Q)(h:C9 Q->P:=by intro k;refine aJV ?_;refine IH ?_;exact k.h):P:=h ⟨k⟩
theorem qJ(k:Q)(h:C9 Q->P:=by intro k;refine zQ ?_;refine SV ?_;exact k.h):P:=h ⟨k⟩
theorem AD(k:Q)(h:C9 Q->P:=by intro k;apply aR;exact aU;refine kX ?_;exact k.h):P:=h ⟨k⟩
theorem rN(k:Q)(h:C9 Q->P:=by intro k;refine MG ?_;refine z16 ?_;exact k.h):P:=h ⟨k⟩
theorem oN(k:Q)(h:C9 Q->P:=by intro k;refine EF ?_;refine pD ?_;exact k.h):P:=h ⟨k⟩
theorem SY(k:Q)(h:C9 Q->P:=by intro k;refine MH ?_;refine XR ?_;exact k.h):P:=h ⟨k⟩
theorem IO(k:Q)(h:C9 Q->P:=by intro k;refine lo (aT (E rfl)) rfl ?_;refine fR ?_;exact k.h):P:=h ⟨k⟩
theorem pP(k:Q)(h:C9 Q->P:=by intro k;refine cN ?_;refine kV ?_;exact k.h):P:=h ⟨k⟩
theorem aIP(k:Q)(h:C9 Q->P:=by intro k;refine aMB ?_;refine gy rfl rfl ?_;exact k.h):P:=h ⟨k⟩
theorem sK(k:Q)(h:C9 Q->P:=by intro k;refine BA ?_;refine BA ?_;exact k.h):P:=h ⟨k⟩
theorem SZ(k:Q)(h:C9 Q->P:=by intro k;refine aOQ ?_;refine XS ?_;exact k.h):P:=h ⟨k⟩
theorem sL(k:Q)(h:C9 Q->P:=by intro k;refine nQ ?_;refine oI ?_;exact k.h):P:=h ⟨k⟩
theorem rO(k:Q)(h:C9 Q->P:=by intro k;refine dG ?_;refine qB ?_;exact k.h):P:=h ⟨k⟩
theorem IP(k:Q)(h:C9 Q->P:=by intro k;refine jY ?_;refine lo (aF (E rfl)) rfl ?_;exact k.h):P:=h ⟨k⟩
theorem aAr(k:Q)(h:C9 Q->P:=by intro k;refine IH ?_;refine EH ?_;exact k.h):P:=h ⟨k⟩
theorem qK(k:Q)(h:C9 Q->P:=by intro k;refine sF ?_;refine kH ?_;exact k.h):P:=h ⟨k⟩
theorem MI(k:Q)(h:C9 Q->P:=by intro k;refine eQ ?_;refine eS rfl (aF (E rfl)) rfl ?_;exact k.h):P:=h ⟨k⟩
theorem MJ(k:Q)(h:C9 Q->P:=by intro k;refine lo (iI (E rfl) (E rfl)) rfl ?_;refine AZ ?_;exact k.h):P:=h ⟨k⟩
theorem MK(k:Q)(h:C9 Q->P:=by intro k;refine lo (dH (E rfl) (E rfl)) rfl ?_;refine AZ ?_;exact k.h):P:=h ⟨k⟩
theorem ML(k:Q)(h:C9 Q->P:=by intro k;refine lo (dH (E rfl) (E rfl)) rfl ?_;refine kH ?_;exact k.h):P:=h ⟨k⟩
theorem vR(k:Q)(h:C9 Q->P:=by intro k;refine fF ?_;refine SX ?_;exact k.h):P:=h ⟨k⟩
theorem sM(k:Q)(h:C9 Q->P:=by intro k;refine qA ?_;refine aF8 ?_;exact k.h):P:=h ⟨k⟩
theorem rP(k:Q)(h:C9 Q->P:=by intro k;refine kX ?_;refine cZ ?_;exact k.h):P:=h ⟨k⟩
theorem tR(k:Q)(h:C9 Q->P:=by intro k;refine dB ?_;refine PA ?_;exact k.h):P:=h ⟨k⟩
theorem aAs(k:Q)(h:C9 Q->P:=by intro k;refine aJP ?_;refine GK ?_;exact k.h):P:=h ⟨k⟩
theorem sN(k:Q)(h:C9 Q->P:=by intro k;refine dB ?_;refine mM ?_;exact k.h):P:=h ⟨k⟩
theorem TA(k:Q)(h:C9 Q->P:=by intro k;refine SI ?_;refine eS rfl (dH (E rfl) (E rfl)) rfl ?_;exact k.h):P:=h ⟨k⟩
theorem xP(k:Q)(h:C9 Q->P:=by intro k;refine dB ?_;refine aAq ?_;exact k.h):P:=h ⟨k⟩
theorem tT(k:Q)(h:C9 Q->P:=by intro k;refine FL ?_;refine z82 ?_;exact k.h):P:=h ⟨k⟩
theorem aMO(k:Q)(h:C9 Q->P:=by intro k;refine SJ ?_;refine aIN ?_;exact k.h):P:=h ⟨k⟩
theorem TB(k:Q)(h:C9 Q->P:=by intro k;unfold dL mT;(try dsimp only);apply bC;exact aU;exact k.h):P:=h ⟨k⟩
theorem sO(k:Q)(h:C9 Q->P:=by intro k;refine fF ?_;refine fO ?_;exact k.h):P:=h ⟨k⟩
theorem aIQ(k:Q)(h:C9 Q->P:=by intro k;refine fK ?_;refine zP ?_;exact k.h):P:=h ⟨k⟩
theorem tU(k:Q)(h:C9 Q->P:=by intro k;refine fK ?_;refine qD ?_;exact k.h):P:=h ⟨k⟩
theorem xQ(k:Q)(h:C9 Q->P:=by intro k;refine aAr ?_;refine iN ?_;exact k.h):P:=h ⟨k⟩
theorem aDd(k:Q)(h:C9 Q->P:=by intro k;refine AW ?_;refine qO ?_;exact k.h):P:=h ⟨k⟩
theorem xR(k:Q)(h:C9 Q->P:=by intro k;refine aMO ?_;refine an ?_;exact k.h):P:=h ⟨k⟩
theorem vS(k:Q)(h:C9 Q->P:=by intro k;refine fC ?_;refine kV ?_;exact k.h):P:=h ⟨k⟩
theorem vT(k:Q)(h:C9 Q->P:=by intro k;refine AB ?_;refine sG ?_;exact k.h):P:=h ⟨k⟩
theorem sP(k:Q)(h:C9 Q->P:=by intro k;refine cV ?_;refine jD ?_;exact k.h):P:=h ⟨k⟩
theorem sQ(k:Q)(h:C9 Q->P:=by intro k;refine iM ?_;refine fO ?_;exact k.h):P:=h ⟨k⟩
theorem tV(k:Q)(h:C9 Q->P:=by intro k;refine z76 ?_;refine qA ?_;exact k.h):P:=h ⟨k⟩
theorem TC(k:Q)(h:C9 Q->P:=by intro k;refine sJ ?_;refine lo (bA (E rfl) rfl) rfl ?_;exact k.h):P:=h ⟨k⟩
theorem AE(k:Q)(h:C9 Q->P:=by intro k;refine SY ?_;refine SZ ?_;exact k.h):P:=h ⟨k⟩
theorem vU(k:Q)(h:C9 Q->P:=by intro k;refine z56 ?_;refine wT ?_;exact k.h):P:=h ⟨k⟩
theorem aMP(k:Q)(h:C9 Q->P:=by intro k;refine aAs ?_;refine aDd ?_;exact k.h):P:=h ⟨k⟩
theorem vV(k:Q)(h:C9 Q->P:=by intro k;refine fR ?_;refine fO ?_;exact k.h):P:=h ⟨k⟩
theorem vW(k:Q)(h:C9 Q->P:=by intro k;refine XQ ?_;refine oI ?_;exact k.h):P:=h ⟨k⟩
theorem xS(k:Q)(h:C9 Q->P:=by intro k;refine AW ?_;refine uY ?_;exact k.h):P:=h ⟨k⟩
theorem aMQ(k:Q)(h:C9 Q->P:=by intro k;refine aIQ ?_;refine vP ?_;exact k.h):P:=h ⟨k⟩
theorem vX(k:Q)(h:C9 Q->P:=by intro k;refine aMQ ?_;refine wU ?_;exact k.h):P:=h ⟨k⟩
theorem vY(k:Q)(h:C9 Q->P:=by intro k;refine zQ ?_;refine CA ?_;exact k.h):P:=h ⟨k⟩
theorem xT(k:Q)(h:C9 Q->P:=by intro k;refine GJ ?_;refine GK ?_;exact k.h):P:=h ⟨k⟩
theorem vZ(k:Q)(h:C9 Q->P:=by intro k;refine dG ?_;refine AY ?_;exact k.h):P:=h ⟨k⟩
theorem AF(k:Q)(h:C9 Q->P:=by intro k;refine rM ?_;refine wU ?_;exact k.h):P:=h ⟨k⟩
theorem wA(k:Q)(h:C9 Q->P:=by intro k;refine vP ?_;refine sH ?_;exact k.h):P:=h ⟨k⟩
theorem AG(k:Q)(h:C9 Q->P:=by intro k;refine kH ?_;refine aIP ?_;exact k.h):P:=h ⟨k⟩
theorem aMR(k:Q)(h:C9 Q->P:=by intro k;refine kH ?_;refine aDc ?_;exact k.h):P:=h ⟨k⟩
theorem AH(k:Q)(h:C9 Q->P:=by intro k;refine aMR ?_;refine aBw ?_;exact k.h):P:=h ⟨k⟩
theorem tW(k:Q)(h:C9 Q->P:=by intro k;refine z7 ?_;refine cN ?_;exact k.h):P:=h ⟨k⟩
theorem CG(k:Q)(h:C9 Q->P:=by intro k;refine aIN ?_;refine aI ?_;exact k.h):P:=h ⟨k⟩
theorem xU(k:Q)(h:C9 Q->P:=by intro k;refine aJZ ?_;refine aMP ?_;exact k.h):P:=h ⟨k⟩
end
theorem eN{P:Prop}{C:Nat->Prop}(k:∀r,C r)(h:C9 (∀r,C r)->P:=by intro k;refine z1 ?_;exact gD k.h):P:=h ⟨k⟩
theorem fZ{P:Prop}{C:Nat->Prop}(k:∀r,C r)(h:C9 (∀r,C r)->P:=by intro k;apply bx;rfl;rfl;exact rK;rfl;exact gD k.h):P:=h ⟨k⟩
theorem iD{P:Prop}{C:Nat->Prop}(k:∀r,C r)(h:C9 (∀r,C r)->P:=by intro k;apply al;rfl;exact rK;exact gD k.h):P:=h ⟨k⟩
theorem CH{P:Prop}{C:Nat->Prop}(k:∀r,C r)(h:C9 (∀r,C r)->P:=by intro k;refine z97 ?_;exact gD k.h):P:=h ⟨k⟩
theorem fz4{P:Prop}{C:Nat->Prop}(k:∀r,C r)(h:C9 (∀r,C r)->P:=by intro k;refine aOS ?_;exact gD k.h):P:=h ⟨k⟩
theorem fz5{P:Prop}{C:Nat->Prop}(k:∀r,C r)(h:C9 (∀r,C r)->P:=by intro k;apply dbx;rfl;rfl;rfl;exact rK;rfl;exact gD k.h):P:=h ⟨k⟩
def uB (n:Nat):List Nat:=if h:n<128 then [n]else(n%128+128)::uB (n / 128)
termination_by n
decreasing_by omega
theorem wC{n:Nat}(h:n<128):uB n=[n]:=by rw[uB,dif_pos h]
theorem CI{n:Nat}(h:¬n<128):uB n=(n%128+128)::uB (n / 128):=by rw[uB,dif_neg h]
theorem mQ(n:Nat):∀x∈uB n,x<256:=by
 induction n using Nat.strongRecOn with
 | _ n ih=>
  by_cases h:n<128
  ·rw[wC h];simp;omega
  ·rw[CI h];intro x hx;rcases Av.1 hx with rfl|hx
   ·omega
   ·exact ih (n / 128) U x hx
theorem iP(n:Nat):1<=(uB n).length:=by
 by_cases h:n<128
 ·rw[wC h];simp
 ·rw[CI h];simp
theorem bJ:∀(k n:Nat),n<128^(k+1)->(uB n).length<=k+1
 |0,n,h=>by rw[wC (C8 h)];simp
 |k+1,n,h=>by
  by_cases hn:n<128
  ·rw[wC hn];simp
  ·rw[CI hn,Bj];have:=bJ k (n / 128) (by rw[Nat.pow_succ]at h;exact Nat.div_lt_of_lt_mul U);omega
def BC:List Nat->Nat
 |[]=>0
 |b::t=>b%128+128*BC t
theorem aF9(n:Nat):BC (uB n)=n:=by
 induction n using Nat.strongRecOn with
 | _ n ih=>
  by_cases h:n<128
  ·rw[wC h];simp[BC];omega
  ·rw[CI h,BC,ih (n / 128) U];omega
theorem aAt:∀(l:List Nat),BC l<128^l.length
 |[]=>by simp[BC]
 |b::t=>by
  have:=aAt t;rw[BC,Bj,Nat.pow_succ];omega
def eV:List Nat->Nat->Nat×Int
 | _,0=>(0,1)
 |[],_ +1=>(0,2)
 |b::t,m+1=>if b<128 then(1,0)else(if(eV t m).2=0 then((eV t m).1+1,0)else eV t m)
theorem zA:∀(bs:List Nat) (m:Nat),(eV bs m).2=0->1<=(eV bs m).1/\(eV bs m).1<=m/\(eV bs m).1<=bs.length
 |bs,0,h=>by cases bs<;>simp[eV]at h
 |[],_ +1,h=>by simp[eV]at h
 |b::t,m+1,h=>by
  have ih:=zA t m;rw[eV]at h⊢;by_cases hb:b<128
  ·rw[Dc hb];simp
  ·rw[Db hb]at h⊢;by_cases h2:(eV t m).2=0
   ·rw[Dc h2];have:=ih h2;simp;omega
   ·rw[Db h2]at h;exact absurd h h2
theorem aAu(rest:List Nat):∀(m n:Nat),(uB n).length<=m->eV (uB n++rest) m=((uB n).length,0)
 |0,n,h=>by have:=iP n;omega
 |m+1,n,h=>by
  by_cases hn:n<128
  ·rw[wC hn];simp[eV,hn]
  ·rw[CI hn]at h⊢;rw[As,eV,Db U,aAu rest m (n / 128) (C8 h)];simp
def mR (bs:List Nat):Nat×Nat×Int:=
 if(eV bs 5).2≠0 then(0,0,(eV bs 5).2)
 else if uB (BC (bs.take (eV bs 5).1))=bs.take (eV bs 5).1/\BC (bs.take (eV bs 5).1)<4294967296 then(BC (bs.take (eV bs 5).1),(eV bs 5).1,0)else(0,0,1)
theorem aAv{n:Nat}(hn:n<4294967296)(rest:List Nat):mR (uB n++rest)=(n,(uB n).length,0):=by
 have hl:=bJ 4 n U;unfold mR;rw[aAu rest 5 n hl];simp only[ne_eq,not_true_eq_false,De];rw[List.take_left,aF9,Dc ⟨rfl,hn⟩]
theorem CJ(bs:List Nat):(mR bs).1<4294967296/\(mR bs).2.1<=bs.length/\(mR bs).2.1<=5:=by
 unfold mR;split
 ·simp
 ·next h=>
  have:=zA bs 5 (C8 h);split
  ·next h2=>exact⟨h2.2,this.2.2,this.2.1⟩
  ·simp
def sB (n:Int):List Nat:=if h:-64<=n/\n<=63 then [(n%128).toNat]else((n%128).toNat+128)::sB (n / 128)
termination_by n.natAbs
decreasing_by omega
theorem AI{n:Int}(h:-64<=n/\n<=63):sB n=[(n%128).toNat]:=by rw[sB,dif_pos h]
theorem CK{n:Int}(h:¬(-64<=n/\n<=63)):sB n=((n%128).toNat+128)::sB (n / 128):=by rw[sB,dif_neg h]
theorem PC(n:Int):1<=(sB n).length:=by
 by_cases h:-64<=n/\n<=63
 ·rw[AI h];simp
 ·rw[CK h];simp
theorem aIR(m:Nat):∀(n:Int),n.natAbs<=m->∀x∈sB n,x<256:=by
 induction m with
 |zero=>intro n hn;rw[AI U];simp;omega
 |succ m ih=>
  intro n hn;by_cases h:-64<=n/\n<=63
  ·rw[AI h];simp;omega
  ·rw[CK h];intro x hx;rcases Av.1 hx with rfl|hx
   ·omega
   ·exact ih (n / 128) U x hx
theorem BD:∀(k:Nat) (n:Int),-(64*128^k:Nat)<=n->n<(64*128^k:Nat)->(sB n).length<=k+1
 |0,n,h,h'=>by rw[AI (by simp at h h';omega)];simp
 |k+1,n,h,h'=>by
  by_cases hn:-64<=n/\n<=63
  ·rw[AI hn];simp
  ·rw[CK hn,Bj];have e:(64*128^(k+1):Nat)=128*(64*128^k):=by rw[Nat.pow_succ];omega
   rw[e]at h h';have:=BD k (n / 128) U U;omega
theorem aAw(rest:List Nat):∀(m:Nat) (n:Int),(sB n).length<=m->eV (sB n++rest) m=((sB n).length,0)
 |0,n,h=>by have:=PC n;omega
 |m+1,n,h=>by
  by_cases hn:-64<=n/\n<=63
  ·rw[AI hn];rw[As,eV,Dc U];rfl
  ·rw[CK hn]at h⊢;rw[As,eV,Db U,aAw rest m (n / 128) (C8 h)];simp
def mY:List Nat->Int
 |[]=>0
 |[b]=>if 64<=b%128 then((b%128:Nat):Int)-128 else((b%128:Nat):Int)
 |b::c::t=>IntKind.i64.wrap (mY (c::t)*128+((b%128:Nat):Int))
theorem MM(b:Nat){t:List Nat}(h:1<=t.length):mY (b::t)=IntKind.i64.wrap (mY t*128+((b%128:Nat):Int)):=by
 cases t with
 |nil=>simp at h
 |cons c t=>rfl
theorem aGa(m:Nat):∀(n:Int),n.natAbs<=m-> -9223372036854775808<=n->n<=9223372036854775807->mY (sB n)=n:=by
 induction m with
 |zero=>intro n hn _ _;rw[AI U];simp[mY];omega
 |succ m ih=>
  intro n hn h1 h2;by_cases h:-64<=n/\n<=63
  ·rw[AI h,mY];split<;>omega
  ·rw[CK h,MM _ (PC _),ih (n / 128) U U U];rw[IntKind.wrap_i64];omega
def oO (bits:Nat):Nat:=(bits+6) / 7
def zR (bits:Nat) (bs:List Nat):Int×Nat×Int:=
 if(eV bs (oO bits)).2≠0 then(0,0,(eV bs (oO bits)).2)
 else if sB (mY (bs.take (eV bs (oO bits)).1))=bs.take (eV bs (oO bits)).1/\(bits=32-> -2147483648<=mY (bs.take (eV bs (oO bits)).1)/\mY (bs.take (eV bs (oO bits)).1)<=2147483647)then(mY (bs.take (eV bs (oO bits)).1),(eV bs (oO bits)).1,0)else(0,0,1)
theorem aGb{bits:Nat}(hb:bits=32\/bits=64){n:Int}(h1:-9223372036854775808<=n)(h2:n<=9223372036854775807)(h3:bits=32-> -2147483648<=n/\n<=2147483647)(rest:List Nat):zR bits (sB n++rest)=(n,(sB n).length,0):=by
 have hl:(sB n).length<=oO bits:=by
  rcases hb with rfl|rfl
  ·have:=h3 rfl;exact BD 4 n U U
  ·exact BD 9 n U U
 unfold zR;rw[aAw rest _ n hl];simp only[ne_eq,not_true_eq_false,De];rw[List.take_left,aGa n.natAbs n (A3 _) h1 h2,Dc ⟨rfl,h3⟩]
theorem aAx(bits:Nat)(bs:List Nat):(zR bits bs).2.1<=bs.length:=by
 unfold zR;split
 ·simp
 ·next h=>
  have:=zA bs (oO bits) (C8 h);split
  ·exact this.2.2
  ·simp
attribute [local irreducible] SW RS RD fE eA
theorem nK{l:List Nat}{x:Nat}:l.map aG++ [[.int .u8 x]]=(l++ [x]).map aG:=by simp[aG]
theorem PD{x:Nat}(h:x<256):(A9 IntKind.u8.bits (x:Int)).toNat=x:=by
 rw[BitVec.toNat_ofInt];simp[IntKind.bits];omega
theorem TD{x:Nat}(h:x<256):IntKind.u8.wrap ↑(A9 IntKind.u8.bits (x:Int)|||A9 IntKind.u8.bits 128).toNat=((x%128+128:Nat):Int):=by
 have h1:∀x<256,x|||128=x%128+128:=by decide
 rw[BitVec.toNat_or,PD h,show(A9 IntKind.u8.bits 128).toNat=128 by decide,h1 x h,IntKind.wrap_u8];omega
theorem aOW{m:Nat}:(m:Int).fdiv (2^min (Int.toNat 7) IntKind.u64.bits)=((m / 128:Nat):Int):=by
 have:(2:Int)^min (Int.toNat 7) IntKind.u64.bits=128:=by decide
 rw[this,Int.fdiv_eq_ediv_of_nonneg _ U];omega
theorem aDe(m:Nat):IntKind.u8.wrap (m:Int)=((m%256:Nat):Int):=by rw[IntKind.wrap_u8];omega
theorem aGc(m:Nat):IntKind.u8.wrap ↑(A9 IntKind.u8.bits (IntKind.u8.wrap (m:Int))|||A9 IntKind.u8.bits 128).toNat=((m%128+128:Nat):Int):=by
 rw[aDe m,TD U];omega
theorem TE{n:Nat}(h:n<18446744073709551616):(uB n).length<=10:=bJ 9 n U
theorem oC(q:Nat)(vs:List Nat)(hb:vs.length<=100000000)(n:Nat)(hn:n<18446744073709551616):SCall prog 239 [.own q 0 vs.length,.int .u64 n] [(q,.arr 5 1 (vs.map aG))]
  (fun x Y=>∃r,x=.own r 0 (vs++uB n).length/\Y=[(r,.arr 5 1 ((vs++uB n).map aG))]):=by
 have hL:=TE hn;refine bO 20 [0,1,4,6] func239 ?_;refine cV ?_;refine scj (β:=Nat×List Nat×Nat) 0 rfl (fun b=>⟨[(0,.own b.1 0 b.2.1.length),(1,.int .u64 b.2.2)],[(b.1,.arr 5 1 (b.2.1.map aG))]⟩) (fun b=>b.2.1++uB b.2.2=vs++uB n/\b.2.2<18446744073709551616) (fun b=>b.2.2) ?_ (fun P=> ?_)
 ·rintro⟨r,us,m⟩ ⟨he,hm⟩;simp only at he hm⊢;have hcl:us.length+(uB m).length=vs.length+(uB n).length:=by rw[<-Ao,he,Ao]
  have hup:=iP m;refine dG ?_;refine sG ?_;refine aB rfl (fun h=> ?_) (fun h=> ?_)
  ·have h1:m<128:=by simp at h;omega
   rw[wC h1]at he;refine cJ ?_;refine z0 ?_;refine eN fun r10 h10=> ?_;intros;apply ap (es':=(vs++uB n).map aG) (len':=(vs++uB n).length);rfl;rfl;exact bR
   ·simp
   ·exact .inr (.inr ⟨_,_,_,_,_,rfl,bR,X,rfl⟩)
   ·rw[<-he,<-nK];rfl
   ·rw[<-he];simp
   ·simp[maxLen];omega
   ·simp;omega
   ·rfl
   refine bG fun r11 h11=> ?_;intros;refine cN ?_;refine zO ?_;exact aD aE ⟨r11,by rfl,rfl⟩ aA
  ·have h1:¬m<128:=by simp at h;omega
   have hcl2:us.length+(uB (m / 128)).length+1=vs.length+(uB n).length:=by rw[CI h1]at hcl;simp at hcl;omega
   rw[CI h1]at he;refine cJ ?_;refine z0 ?_;refine lo (OI (E rfl) (E rfl)) rfl ?_;refine eN fun r16 h16=> ?_;intros;apply ap (es':=(us++ [m%128+128]).map aG) (len':=(us++ [m%128+128]).length);rfl;rfl;exact bR
   ·simp
   ·exact .inr (.inr ⟨_,_,_,_,_,rfl,bR,X,rfl⟩)
   ·rw[<-nK,aGc];rfl
   ·simp
   ·simp[maxLen];omega
   ·simp;omega
   ·rfl
   refine bG fun r17 h17=> ?_;intros;refine gX ?_;refine z2 ?_;refine cN ?_;refine zO ?_;rw[aOW];refine⟨(r17,us++ [m%128+128],m / 128),⟨?_, ?_⟩, ?_, ?_⟩
   ·simpa using he
   ·show m / 128< _;omega
   ·show m / 128<m;omega
   ·exact aH
 ·refine P (q,vs,n) _ ⟨rfl,hn⟩ ?_;exact aH
theorem aDf(n:Int):IntKind.u8.wrap n=((n%256).toNat:Int):=by rw[IntKind.wrap_u8];omega
theorem BE{x:Nat}(h:x<256):IntKind.u8.wrap ↑(A9 IntKind.u8.bits (x:Int)&&&~~~A9 IntKind.u8.bits 128).toNat=((x%128:Nat):Int):=by
 have h1:∀x<256,x&&&127=x%128:=by decide
 rw[BitVec.toNat_and,PD h,show(~~~A9 IntKind.u8.bits 128).toNat=127 by decide,h1 x h,IntKind.wrap_u8];omega
theorem aDg{x:Nat}(h:x<128):IntKind.u8.wrap ↑(A9 IntKind.u8.bits (x:Int)&&&A9 IntKind.u8.bits 64).toNat=if x<64 then 0 else 64:=by
 have h1:∀x<128,x&&&64=if x<64 then 0 else 64:=by decide
 rw[BitVec.toNat_and,PD U,show(A9 IntKind.u8.bits 64).toNat=64 by decide,h1 x h,IntKind.wrap_u8];split<;>rfl
def cS (n:Int):Nat:=(n%128).toNat
theorem aAy(n:Int):cS n<128:=by unfold cS;omega
theorem aBx(n:Int):IntKind.u8.wrap ↑(A9 IntKind.u8.bits (IntKind.u8.wrap n)&&&~~~A9 IntKind.u8.bits 128).toNat=(cS n:Int):=by
 rw[aDf n,BE U];unfold cS;omega
theorem aDh(n:Int):IntKind.u8.wrap ↑(A9 IntKind.u8.bits (cS n:Int)|||A9 IntKind.u8.bits 128).toNat=((cS n+128:Nat):Int):=by
 have:=aAy n;rw[TD U];omega
theorem aIS{m:Int}:m.fdiv (2^min (Int.toNat 7) IntKind.i64.bits)=m / 128:=by
 have:(2:Int)^min (Int.toNat 7) IntKind.i64.bits=128:=by decide
 rw[this,Int.fdiv_eq_ediv_of_nonneg _ U]
theorem TF(q:Nat)(vs:List Nat)(hb:vs.length<=100000000)(n:Int)(hn:-9223372036854775808<=n/\n<=9223372036854775807):SCall prog 296 [.own q 0 vs.length,.int .i64 n] [(q,.arr 5 1 (vs.map aG))]
  (fun x Y=>∃r,x=.own r 0 (vs++sB n).length/\Y=[(r,.arr 5 1 ((vs++sB n).map aG))]):=by
 have hL:(sB n).length<=10:=BD 9 n U U;refine bO 36 [0,1,4,5,26] func296 ?_;refine cV ?_;refine scj (β:=Nat×List Nat×Int) 0 rfl (fun b=>⟨[(0,.own b.1 0 b.2.1.length),(1,.int .i64 b.2.2)],[(b.1,.arr 5 1 (b.2.1.map aG))]⟩) (fun b=>b.2.1++sB b.2.2=vs++sB n/\ -9223372036854775808<=b.2.2/\b.2.2<=9223372036854775807) (fun b=>b.2.2.natAbs) ?_ (fun P=> ?_)
 ·rintro⟨r,us,m⟩ ⟨he,hm,hm2⟩;simp only at he hm hm2⊢;have hcl:us.length+(sB m).length=vs.length+(sB n).length:=by rw[<-Ao,he,Ao]
  have hup:=PC m;have hc7:=aAy m;refine dG ?_;refine z0 ?_;refine z3 ?_;refine cN ?_;rw[aBx];refine fO ?_;refine z2 ?_;refine cN ?_;rw[aIS];refine fO ?_;refine Ch ?_;refine AZ ?_;refine z5 ?_;refine z6 ?_;refine z7 ?_;refine AZ ?_;refine z6 ?_;refine z8 ?_;refine z9 ?_;refine z10 ?_;refine z11 ?_;refine z12 ?_;refine XP ?_;refine iM ?_;rw[aDg hc7];have hb64:(-64<=m/\m<=63)↔(m / 128=0/\cS m<64\/m / 128=-1/\¬cS m<64):=by unfold cS;omega
  refine aB rfl (fun h=> ?_) (fun h=> ?_)
  ·have h1:-64<=m/\m<=63:=by
    rw[hb64];by_cases h6:cS m<64<;>simp[h6]at h⊢<;>omega
   rw[AI h1]at he;refine cJ ?_;refine eN fun r29 h29=> ?_;intros;apply ap (es':=(vs++sB n).map aG) (len':=(vs++sB n).length);rfl;rfl;exact bR
   ·simp
   ·exact .inr (.inr ⟨_,_,_,_,_,rfl,bR,X,rfl⟩)
   ·rw[<-he,<-nK];rfl
   ·rw[<-he];simp
   ·simp[maxLen];omega
   ·simp;omega
   ·rfl
   refine bG fun r30 h30=> ?_;intros;refine cN ?_;refine zO ?_;exact aD aE ⟨r30,by rfl,rfl⟩ aA
  ·have h1:¬(-64<=m/\m<=63):=by
    rw[hb64];by_cases h6:cS m<64<;>simp[h6]at h⊢<;>omega
   have hcl2:us.length+(sB (m / 128)).length+1=vs.length+(sB n).length:=by rw[CK h1]at hcl;simp at hcl;omega
   rw[CK h1]at he;refine cJ ?_;refine lo (OI (E rfl) (E rfl)) rfl ?_;refine eN fun r34 h34=> ?_;intros;apply ap (es':=(us++ [cS m+128]).map aG) (len':=(us++ [cS m+128]).length);rfl;rfl;exact bR
   ·simp
   ·exact .inr (.inr ⟨_,_,_,_,_,rfl,bR,X,rfl⟩)
   ·rw[<-nK,aDh];rfl
   ·simp
   ·simp[maxLen];omega
   ·simp;omega
   ·rfl
   refine bG fun r35 h35=> ?_;intros;refine cN ?_;refine zO ?_;refine⟨(r35,us++ [cS m+128],m / 128),⟨?_, ?_⟩, ?_, ?_⟩
   ·simpa[cS]using he
   ·show _ <=m / 128/\m / 128<= _;omega
   ·show(m / 128).natAbs<m.natAbs;omega
   ·exact aH
 ·refine P (q,vs,n) _ ⟨rfl,hn⟩ ?_;exact aH
def LI (n:Nat) (r:Nat×Int):Nat×Int:=if r.2=0 then(r.1+n,0)else r
theorem aBy(r:Nat×Int):LI 0 r=r:=by obtain⟨x,y⟩:=r;unfold LI;split<;>simp_all
theorem aDi(n k:Nat)(r:Nat×Int):LI n (LI k r)=LI (n+k) r:=by
 unfold LI;by_cases h:r.2=0<;>simp[h];omega
theorem aBz{l:List Nat}{m n:Nat}(h1:n<m)(h2:n<l.length):eV (l.drop n) (m-n)=if l[n]! <128 then(1,0)else LI 1 (eV (l.drop (n+1)) (m-(n+1))):=by
 rw[List.drop_eq_getElem_cons h2,show m-n=(m-(n+1))+1 by omega,eV,getElem!_pos l n h2];rfl
theorem aBA{l:List Nat}:eV l 0=(0,1):=by cases l<;>rfl
theorem aDj{m:Nat}(h:0<m):eV [] m=(0,2):=by
 cases m with
 |zero=>omega
 |succ m=>rfl
theorem IQ(l:List Nat)(hl:l.length<=1000000)(bits:Int)(m:Nat)(hm:bits=32/\m=5\/bits=64/\m=10):SCall prog 257 [.ro 1 (l.map aG) .any,.int .i64 bits] []
  (fun x Y=>x=.tup [.int .i64 ((eV l m).1:Nat),.int .i64 (eV l m).2]/\Y=[]):=by
 have hq:IntKind.i64.wrap ((bits+7-1).tdiv 7)=m:=by rcases hm with⟨rfl,rfl⟩|⟨rfl,rfl⟩<;>decide
 refine bO 37 [0,1,4,5,6,7,13,18,22,27] func257 ?_;refine dB ?_;refine fS ?_;refine scj (β:=Nat) 0 rfl (fun b=>⟨[(0,.ro 1 (l.map aG) .any),(6,.int .i64 b),(7,.int .i64 m)],[]⟩) (fun b=>b<=m/\b<=l.length/\eV l m=LI b (eV (l.drop b) (m-b))) (fun b=>m-b) ?_ (fun P=> ?_)
 ·rintro n ⟨hn1,hn2,he⟩;try dsimp only at hn1 hn2 he⊢
  refine cJ ?_;refine SS ?_;refine aB rfl (fun h=> ?_) (fun h=> ?_)
  ·obtain rfl:n=m:=by simp at h;omega
   rw[Nat.sub_self,aBA]at he;refine dB ?_;refine fS ?_;refine zO ?_;apply aD;exact aE
   ·rw[he];exact⟨rfl,rfl⟩
   ·exact aA
  have h1:n<m:=by simp at h;omega
  refine AB ?_;refine SS ?_;refine aB rfl (fun h=> ?_) (fun h=> ?_)
  ·obtain rfl:n=l.length:=by simp at h;omega
   rw[List.drop_length,aDj U]at he;refine dB ?_;refine fS ?_;refine zO ?_;apply aD;exact aE
   ·rw[he];exact⟨rfl,rfl⟩
   ·exact aA
  have h2:n<l.length:=by simp at h;omega
  rw[aBz h1 h2]at he;refine cJ ?_;refine mD ?_;refine CD ?_;refine aB rfl (fun h=> ?_) (fun h=> ?_)
  ·have h3:¬l[n]! <128:=by rw[Bc]at h;(have:=of_decide_eq_true h;omega)
   rw[Db h3,aDi]at he;refine iN ?_;refine zO ?_;refine⟨n+1,⟨U,U,he⟩,U, ?_⟩;exact aH
  ·have h3:l[n]! <128:=by rw[Bc]at h;(have:=of_decide_eq_false h;omega)
   rw[Dc h3]at he;refine dG ?_;refine SH ?_;refine fS ?_;refine zO ?_;apply aD;exact aE
   ·rw[he,show LI n (1,0)=(n+1,0) by simp[LI,Nat.add_comm]];exact⟨rfl,rfl⟩
   ·exact aA
 ·refine dG ?_;refine MJ ?_;refine z18 ?_;refine XP ?_;refine iM ?_;refine aB rfl (fun h=> ?_) (fun h=> ?_)
  ·exfalso;simp at h;omega
  refine dG ?_;refine SH ?_;refine tN ?_;refine z20 ?_;refine aAq ?_;rw[hq];refine P 0 _ ⟨U,U,by simp[aBy]⟩ ?_;exact aH
theorem TG(a c:List Nat)(ha:∀x∈a,x<256)(hc:∀x∈c,x<256):SCall prog 258 [.ro 1 (a.map aG) .any,.ro 1 (c.map aG) .any] []
  (fun x Y=>x=.bool (decide (c=a))/\Y=[]):=by
 refine bO 10 [0,1,4] func258 ?_;refine fK ?_;refine lo (qN (e:=5) (bs:=a) (E rfl)) rfl ?_;refine B4 ?_;refine lo (qN (e:=5) (bs:=c) (E rfl)) rfl ?_;refine C7 ?_;refine cN ?_;apply aD;exact aE
 ·refine⟨?_,rfl⟩;rw[jL ha hc];show AV.bool _=_
  congr 1
  rw[decide_eq_decide];exact eq_comm
 ·exact aA
theorem aGd{n:Nat}(hn:n<18446744073709551616):IntKind.u64.wrap (n:Int)=n:=by rw[IntKind.wrap_u64];omega
theorem aBB(m:Nat):IntKind.u8.wrap (IntKind.u8.wrap ((m:Int).tmod 128)+128)=((m%128+128:Nat):Int):=by
 rw[Int.tmod_eq_emod_of_nonneg U,IntKind.wrap_u8,IntKind.wrap_u8];omega
theorem aBC{m:Nat}(hm:m<18446744073709551616):IntKind.u64.wrap ((m:Int).tdiv 128)=((m / 128:Nat):Int):=by
 rw[Int.tdiv_eq_ediv_of_nonneg U,IntKind.wrap_u64];omega
theorem aDk(m:Int):IntKind.i64.wrap ↑(A9 IntKind.i64.bits m&&&A9 IntKind.i64.bits 127).toNat=(cS m:Int):=by
 have h1:(A9 IntKind.i64.bits m).toNat=(m%18446744073709551616).toNat:=by
  rw[BitVec.toNat_ofInt];simp[IntKind.bits]
 rw[BitVec.toNat_and,h1,show(A9 IntKind.i64.bits 127).toNat=2^7-1 by decide,Nat.and_two_pow_sub_one_eq_mod,IntKind.wrap_i64];unfold cS;omega
theorem aIT(m:Int):IntKind.u8.wrap (cS m:Int)=cS m:=by
 have:=aAy m;rw[IntKind.wrap_u8];omega
theorem aDl(m:Int):IntKind.u8.wrap ((cS m:Int)+128)=((cS m+128:Nat):Int):=by
 have:=aAy m;rw[IntKind.wrap_u8];omega
theorem FM(n:Nat)(hn:n<18446744073709551616):SCall prog 252 [.int .u64 n] []
  (fun x Y=>∃r,x=.own r 0 (uB n).length/\Y=[(r,.arr 5 1 ((uB n).map aG))]):=by
 have hL:=TE hn;refine bO 20 [0,2,3,5] func252 ?_;refine sP ?_;refine PA ?_;refine bQ 3 5 1 V (k:=.nil) rfl V (fun q hq=> ?_);refine aI ?_;refine lp (β:=Nat×List Nat×Nat) (fun b=>⟨[(3,.own b.1 0 b.2.1.length),(0,.int .u64 b.2.2)],[(b.1,.arr 5 1 (b.2.1.map aG))]⟩) (fun b=>b.2.1++uB b.2.2=uB n/\b.2.2<18446744073709551616) (fun b=>b.2.2) (q,[],n) (by(exact aH)) ⟨rfl,hn⟩ ?_;rintro⟨r,us,m⟩ ⟨he,hm⟩;simp only at he hm⊢;have hcl:us.length+(uB m).length=(uB n).length:=by rw[<-Ao,he]
 have hup:=iP m;refine dG ?_;refine IL ?_;refine aB rfl (fun h=> ?_) (fun h=> ?_)
 ·have h1:¬m<128:=by simp at h;omega
  have hcl2:us.length+(uB (m / 128)).length+1=(uB n).length:=by rw[CI h1]at hcl;simp at hcl;omega
  rw[CI h1]at he;refine cJ ?_;refine z22 ?_;refine z0 ?_;refine C1 ?_;refine eN fun r11 h11=> ?_;intros;apply ap (es':=(us++ [m%128+128]).map aG) (len':=(us++ [m%128+128]).length);rfl;rfl;exact bR
  ·simp
  ·exact .inr (.inr ⟨_,_,_,_,_,rfl,bR,X,rfl⟩)
  ·rw[<-nK,aBB];rfl
  ·simp
  ·simp[maxLen];omega
  ·simp;omega
  ·rfl
  refine bG fun r12 h12=> ?_;intros;refine gX ?_;refine z20 ?_;refine cN ?_;refine⟨(r12,us++ [m%128+128],m / 128),⟨?_, ?_⟩, ?_, ?_⟩
  ·simpa using he
  ·show m / 128< _;omega
  ·show m / 128<m;omega
  ·rw[aBC hm];exact aH
 ·have h1:m<128:=by simp at h;omega
  rw[wC h1]at he;refine cJ ?_;refine z0 ?_;refine eN fun r18 h18=> ?_;intros;apply ap (es':=(uB n).map aG) (len':=(uB n).length);rfl;rfl;exact bR
  ·simp
  ·exact .inr (.inr ⟨_,_,_,_,_,rfl,bR,X,rfl⟩)
  ·rw[<-he,<-nK];rfl
  ·rw[<-he];simp
  ·simp[maxLen];omega
  ·simp;omega
  ·rfl
  refine bG fun r19 h19=> ?_;intros;refine cN ?_;exact aD aE ⟨r19,by rfl,rfl⟩ aA
theorem aMS(n:Int)(hn:-9223372036854775808<=n/\n<=9223372036854775807):SCall prog 297 [.int .i64 n] []
  (fun x Y=>∃r,x=.own r 0 (sB n).length/\Y=[(r,.arr 5 1 ((sB n).map aG))]):=by
 have hL:(sB n).length<=10:=BD 9 n U U;refine bO 25 [0,2,3,9] func297 ?_;refine sP ?_;refine PA ?_;refine bQ 3 5 1 V (k:=.nil) rfl V (fun q hq=> ?_);refine aI ?_;refine lp (β:=Nat×List Nat×Int) (fun b=>⟨[(3,.own b.1 0 b.2.1.length),(0,.int .i64 b.2.2)],[(b.1,.arr 5 1 (b.2.1.map aG))]⟩) (fun b=>b.2.1++sB b.2.2=sB n/\ -9223372036854775808<=b.2.2/\b.2.2<=9223372036854775807) (fun b=>b.2.2.natAbs) (q,[],n) (by(exact aH)) ⟨rfl,hn⟩ ?_;rintro⟨r,us,m⟩ ⟨he,hm,hm2⟩;simp only at he hm hm2⊢;have hcl:us.length+(sB m).length=(sB n).length:=by rw[<-Ao,he]
 have hup:=PC m;refine dG ?_;refine MJ ?_;refine z18 ?_;refine XP ?_;refine iM ?_;refine aB rfl (fun h=> ?_) (fun h=> ?_)
 ·have h1:¬(-64<=m/\m<=63):=by simp at h;omega
  have hcl2:us.length+(sB (m / 128)).length+1=(sB n).length:=by rw[CK h1]at hcl;simp at hcl;omega
  rw[CK h1]at he;refine cJ ?_;refine Cq ?_;refine z0 ?_;refine C1 ?_;refine eN fun r15 h15=> ?_;intros;apply ap (es':=(us++ [cS m+128]).map aG) (len':=(us++ [cS m+128]).length);rfl;rfl;exact bR
  ·simp
  ·exact .inr (.inr ⟨_,_,_,_,_,rfl,bR,X,rfl⟩)
  ·rw[<-nK,aDk,aIT,aDl];rfl
  ·simp
  ·simp[maxLen];omega
  ·simp;omega
  ·rfl
  refine bG fun r16 h16=> ?_;intros;refine gX ?_;refine z2 ?_;refine cN ?_;refine⟨(r16,us++ [cS m+128],m / 128),⟨?_, ?_⟩, ?_, ?_⟩
  ·simpa[cS]using he
  ·show _ <=m / 128/\m / 128<= _;omega
  ·show(m / 128).natAbs<m.natAbs;omega
  ·rw[aIS];exact aH
 ·have h1:-64<=m/\m<=63:=by simp at h;omega
  rw[AI h1]at he;refine cJ ?_;refine Cq ?_;refine z0 ?_;refine eN fun r23 h23=> ?_;intros;apply ap (es':=(sB n).map aG) (len':=(sB n).length);rfl;rfl;exact bR
  ·simp
  ·exact .inr (.inr ⟨_,_,_,_,_,rfl,bR,X,rfl⟩)
  ·rw[<-he,<-nK,aDk,aIT];rfl
  ·rw[<-he];simp
  ·simp[maxLen];omega
  ·simp;omega
  ·rfl
  refine bG fun r24 h24=> ?_;intros;refine cN ?_;exact aD aE ⟨r24,by rfl,rfl⟩ aA
theorem aDm(n:Nat)(hn:n<18446744073709551616):SCall prog 239 [.ro 0 [] .nil,.int .u64 n] []
  (fun x Y=>∃r,x=.own r 0 (uB n).length/\Y=[(r,.arr 5 1 ((uB n).map aG))]):=
 iR (e:=5) (sz:=1) V fun q _=>oC q [] X n hn
theorem aDn(n:Int)(hn:-9223372036854775808<=n/\n<=9223372036854775807):SCall prog 296 [.ro 0 [] .nil,.int .i64 n] []
  (fun x Y=>∃r,x=.own r 0 (sB n).length/\Y=[(r,.arr 5 1 ((sB n).map aG))]):=
 iR (e:=5) (sz:=1) V fun q _=>TF q [] X n hn
theorem CL{l:List Nat}(h:∀x∈l,x<256)(i:Nat):l[i]! <256:=by
 by_cases hi:i<l.length
 ·rw[getElem!_pos l i hi];exact h _ (List.getElem_mem hi)
 ·simp[hi]
theorem MN{l:List Nat}{k c:Nat}(h:c<k)(hk:k<=l.length):(l.take k).drop c=l[c]! ::(l.take k).drop (c+1):=by
 have h1:c<(l.take k).length:=by simp;omega
 rw[List.drop_eq_getElem_cons h1,List.getElem_take,getElem!_pos l c U]
theorem MO{n:Nat}(hn:n<18446744073709551616):(A9 IntKind.u64.bits (n:Int)).toNat=n:=by
 rw[BitVec.toNat_ofInt];simp[IntKind.bits];omega
theorem aMT{x y:Nat}(hx:x<34359738368)(hy:y<256):IntKind.u64.wrap ↑(A9 IntKind.u64.bits (IntKind.u64.wrap ((x:Int)*2^min (Int.toNat 7) IntKind.u64.bits))|||A9 IntKind.u64.bits (((y%128:Nat):Int))).toNat=((y%128+128*x:Nat):Int):=by
 have h0:(2:Int)^min (Int.toNat 7) IntKind.u64.bits=128:=by decide
 have h1:IntKind.u64.wrap ((x:Int)*128)=((x*128:Nat):Int):=by rw[IntKind.wrap_u64];omega
 rw[h0,h1,BitVec.toNat_or,MO U,MO U,show x*128=2^7*x by omega,<-Nat.two_pow_add_eq_or_of_lt U,IntKind.wrap_u64];omega
theorem aMU{x:Nat}:(x:Int).fdiv (2^min (Int.toNat 32) IntKind.u64.bits)=((x / 4294967296:Nat):Int):=by
 have:(2:Int)^min (Int.toNat 32) IntKind.u64.bits=4294967296:=by decide
 rw[this,Int.fdiv_eq_ediv_of_nonneg _ U];omega
theorem TH{l:List Nat}{k c:Nat}(hk:k<=5):BC ((l.take k).drop c)<34359738368:=by
 have h1:=aAt ((l.take k).drop c);have h2:((l.take k).drop c).length<=5:=by simp;omega
 exact Nat.lt_of_lt_of_le h1 (A4 (Nat.pow_le_pow_right V h2) V)
theorem aIU(l:List Nat)(hl:l.length<=1000000)(hlt:∀x∈l,x<256):SCall prog 166 [.ro 1 (l.map aG) .any,.int .i64 32] []
  (fun x Y=>x=.tup [.int .u64 ((mR l).1:Nat),.int .i64 ((mR l).2.1:Nat),.int .i64 (mR l).2.2]/\Y=[]):=by
 refine bO 53 [0,1,4,5,6,7,8,9,10,18,22,50] func166 ?_;refine dB ?_;refine pM ?_;refine scj (β:=Nat) 0 rfl (fun b=>⟨[(0,.ro 1 (l.map aG) .any),(1,.int .i64 32),(7,.int .i64 ((eV l 5).1:Nat)),(9,.int .u64 (BC ((l.take (eV l 5).1).drop b):Nat)),(10,.int .i64 b)],[]⟩) (fun b=>b<=(eV l 5).1/\(eV l 5).2=0) (fun b=>b) ?_ (fun P=> ?_)
 ·rintro n ⟨hn1,hk0⟩;try dsimp only at hn1 hk0⊢
  obtain⟨hk1,hk2,hk3⟩:=zA l 5 hk0;generalize hk:(eV l 5).1=k at*;refine dG ?_;refine tP ?_;refine aB rfl (fun h=> ?_) (fun h=> ?_)
  ·obtain⟨c,rfl⟩:∃c,n=c+1:=⟨n-1,by simp at h;omega⟩
   refine dG ?_;refine tN ?_;refine cN ?_;rw[show((c+1:Nat):Int)-1=(c:Nat) by omega];refine fO ?_;refine z23 ?_;refine B4 ?_;refine nX ?_;refine z3 ?_;refine XE ?_;refine lo (OI (E rfl) (E rfl)) rfl ?_;refine cN ?_;rw[Bc,BE (CL hlt c),aGd (n:=l[c]! %128) U,aMT (TH hk2) (CL hlt c)];refine zO ?_;refine⟨c,⟨U,hk0⟩,U, ?_⟩;rw[MN (c:=c) U hk3,BC];exact aH
  ·obtain rfl:n=0:=by simp at h;omega
   rw[Bu];have hv:BC (l.take k)<34359738368:=TH (c:=0) hk2;generalize hx:BC (l.take k)=x at hv⊢;refine aI ?_;refine eK (Ac [0,1,2,3] (Ad 4 (Ad 5 (Ac [6,7,8,9,10,11,12,13,14,15,16] [])))) ?_;refine wV ?_;refine z25 ?_;refine B5 ?_;refine pB [] rfl call239 (aDm x U) rfl ?_ ?_ ?_ ?_
   ·exact aC
   ·exact aA
   ·exact eC
   rintro _ Y' ⟨r,rfl,rfl⟩ hr
   replace hr:=gE hr;repeat rcases hr with⟨_,hr⟩
   apply bC;exact aU;refine dpu [r] rfl call258 (TG (l.take k) (uB x) (fun y hy=>hlt y (Bf hy)) (mQ x)) rfl ?_ bH ?_
   ·exact aO
   refine Cv ?_;refine B5 ?_;refine z26 ?_;refine z27 ?_;refine z28 ?_;refine z29 ?_;refine z29 ?_;refine z30 ?_;refine z31 ?_;refine z32 ?_;refine z33 ?_;refine oI ?_;have hc:(if(!decide (uB x=l.take k))=true then true else(x:Int).fdiv (2^min (Int.toNat 32) IntKind.u64.bits) !=0)= !decide (uB x=l.take k/\x<4294967296):=by
    rw[aMU];by_cases h1:uB x=l.take k
    ·by_cases h2:x<4294967296
     ·simp[h1,h2];omega
     ·simp[h1,h2];omega
    ·simp[h1]
   rw[hc];refine aB rfl (fun h=> ?_) (fun h=> ?_)
   ·have h1:¬(uB x=l.take k/\x<4294967296):=by
     rintro⟨h1,h2⟩;simp[h1]at h;omega
    refine dB ?_;refine pM ?_;refine zO ?_;apply aD;exact aE
    ·unfold mR;rw[Db (by rw[hk0];simp),hk,hx,Db h1];exact⟨rfl,rfl⟩
    ·exact aA
   ·have h1:uB x=l.take k/\x<4294967296:=C8 h
    refine cJ ?_;refine pM ?_;refine zO ?_;apply aD;exact aE
    ·unfold mR;rw[Db (by rw[hk0];simp),hk,hx,Dc h1];exact⟨rfl,rfl⟩
    ·exact aA
 ·refine cJ ?_;(refine pu [] call257 (IQ l hl 32 5 (.inl ⟨rfl,rfl⟩)) rfl fY bH ?_);refine tC ?_;refine pN ?_;refine wU ?_;refine aB rfl (fun h=> ?_) (fun h=> ?_)
  ·have h1:(eV l 5).2≠0:=C8 h
   refine dG ?_;refine pM ?_;refine zO ?_;apply aD;exact aE
   ·unfold mR;rw[Dc h1];exact⟨rfl,rfl⟩
   ·exact aA
  ·have h1:(eV l 5).2=0:=C8 h
   refine dG ?_;refine aAq ?_;refine P (eV l 5).1 _ ⟨A3 _,h1⟩ ?_;rw[show(l.take (eV l 5).1).drop (eV l 5).1=[] by rw[List.drop_eq_nil_iff];simp;omega];exact aH
theorem aGe:∀(l:List Nat),-9223372036854775808<=mY l/\mY l<=9223372036854775807
 |[]=>by simp[mY]
 |[b]=>by rw[mY];split<;>omega
 |b::c::t=>by rw[mY,IntKind.wrap_i64];omega
def sv (l:List Nat) (k c:Nat):Int:=if c<k then mY ((l.take k).drop c)else if 64<=l[k-1]! %128 then-1 else 0
theorem aGf{l:List Nat}{k:Nat}(hk:1<=k):sv l k 0=mY (l.take k):=by
 unfold sv;rw[Dc U,Bu]
theorem aGg{l:List Nat}{k c:Nat}(h:c<k)(hk:k<=l.length):sv l k c=IntKind.i64.wrap (sv l k (c+1)*128+((l[c]! %128:Nat):Int)):=by
 unfold sv;rw[Dc h,MN h hk];by_cases h1:c+1<k
 ·rw[Dc h1,MM _ Af]
 ·obtain rfl:k=c+1:=by omega
  rw[Db h1,show(l.take (c+1)).drop (c+1)=[] by rw[List.drop_eq_nil_iff];simp;omega,mY,Nat.add_sub_cancel];generalize l[c]! =y;split<;>rw[IntKind.wrap_i64]<;>omega
theorem MP(y:Int):(A9 IntKind.i64.bits y).toNat=(y%18446744073709551616).toNat:=by
 rw[BitVec.toNat_ofInt];simp[IntKind.bits]
theorem aJ0{x:Int}{y:Nat}:IntKind.i64.wrap ↑(A9 IntKind.i64.bits (IntKind.i64.wrap (x*2^min (Int.toNat 7) IntKind.i64.bits))|||A9 IntKind.i64.bits (((y%128:Nat):Int))).toNat=IntKind.i64.wrap (x*128+((y%128:Nat):Int)):=by
 have h0:(2:Int)^min (Int.toNat 7) IntKind.i64.bits=128:=by decide
 obtain⟨z,hz⟩:∃z:Nat,(IntKind.i64.wrap (x*128)%18446744073709551616).toNat=2^7*z:=by
  refine⟨(IntKind.i64.wrap (x*128)%18446744073709551616).toNat / 128, ?_⟩;rw[IntKind.wrap_i64];omega
 have h2:(((y%128:Nat):Int)%18446744073709551616).toNat=y%128:=by omega
 rw[h0,BitVec.toNat_or,MP,MP,hz,h2,<-Nat.two_pow_add_eq_or_of_lt U];rw[IntKind.wrap_i64]at hz;rw[IntKind.wrap_i64,IntKind.wrap_i64];omega
theorem aBD{x:Nat}(h:x<256):IntKind.u8.wrap ↑(A9 IntKind.u8.bits (x:Int)&&&A9 IntKind.u8.bits 64).toNat=if x%128<64 then 0 else 64:=by
 have h1:∀x<256,x&&&64=if x%128<64 then 0 else 64:=by decide
 rw[BitVec.toNat_and,PD U,show(A9 IntKind.u8.bits 64).toNat=64 by decide,h1 x h,IntKind.wrap_u8];split<;>rfl
theorem aBE{n:Nat}(h:n<256):IntKind.i64.wrap (n:Int)=n:=by rw[IntKind.wrap_i64];omega
theorem aDo{bits:Nat}(hb:bits=32\/bits=64):(bits:Int)=32/\oO bits=5\/(bits:Int)=64/\oO bits=10:=by
 rcases hb with rfl|rfl
 ·exact .inl ⟨rfl,rfl⟩
 ·exact .inr ⟨rfl,rfl⟩
theorem aOX{bits:Nat}(hb:bits=32\/bits=64){x:Int}(hv:-9223372036854775808<=x/\x<=9223372036854775807):(x.fdiv (2^min ((bits:Int)-1).toNat IntKind.i64.bits)=0\/x.fdiv (2^min ((bits:Int)-1).toNat IntKind.i64.bits)=-1)↔(bits=32-> -2147483648<=x/\x<=2147483647):=by
 rcases hb with rfl|rfl
 ·rw[show(2:Int)^min (((32:Nat):Int)-1).toNat IntKind.i64.bits=2147483648 by decide,Int.fdiv_eq_ediv_of_nonneg _ U];omega
 ·rw[show(2:Int)^min (((64:Nat):Int)-1).toNat IntKind.i64.bits=9223372036854775808 by decide,Int.fdiv_eq_ediv_of_nonneg _ U];omega
theorem aGh{bits:Nat}{l:List Nat}{k:Nat}(hk0:(eV l (oO bits)).2=0)(hk:(eV l (oO bits)).1=k)(h:¬(sB (mY (l.take k))=l.take k/\(bits=32-> -2147483648<=mY (l.take k)/\mY (l.take k)<=2147483647))):zR bits l=(0,0,1):=by
 unfold zR;rw[Db (by rw[hk0];simp),hk,Db h]
theorem aDp{bits:Nat}{l:List Nat}{k:Nat}(hk0:(eV l (oO bits)).2=0)(hk:(eV l (oO bits)).1=k)(h:sB (mY (l.take k))=l.take k/\(bits=32-> -2147483648<=mY (l.take k)/\mY (l.take k)<=2147483647)):zR bits l=(mY (l.take k),k,0):=by
 unfold zR;rw[Db (by rw[hk0];simp),hk,Dc h]
theorem aMV(l:List Nat)(hl:l.length<=1000000)(hlt:∀x∈l,x<256)(bits:Nat)(hb:bits=32\/bits=64):SCall prog 322 [.ro 1 (l.map aG) .any,.int .i64 bits] []
  (fun x Y=>x=.tup [.int .i64 (zR bits l).1,.int .i64 ((zR bits l).2.1:Nat),.int .i64 (zR bits l).2.2]/\Y=[]):=by
 refine bO 63 [0,1,4,5,6,7,8,9,10,11,19,28,30,60] func322 ?_;refine dB ?_;refine pM ?_;obtain⟨m,hm⟩:∃m,m=oO bits:=⟨_,rfl⟩
 have hlen:eV l (oO bits)=eV l m:=by rw[hm]
 refine scj (β:=Nat) 0 rfl (fun b=>⟨[(0,.ro 1 (l.map aG) .any),(1,.int .i64 bits),(7,.int .i64 ((eV l m).1:Nat)),(9,.int .i64 (sv l (eV l m).1 b)),(10,.int .i64 b)],[]⟩) (fun b=>b<=(eV l m).1/\(eV l m).2=0) (fun b=>b) ?_ (fun P=> ?_)
 ·rintro n ⟨hn1,hk0⟩;try dsimp only at hn1 hk0⊢
  obtain⟨hk1,hk2,hk3⟩:=zA l m hk0;generalize hk:(eV l m).1=k at*;refine dG ?_;refine tP ?_;refine aB rfl (fun h=> ?_) (fun h=> ?_)
  ·obtain⟨c,rfl⟩:∃c,n=c+1:=⟨n-1,by simp at h;omega⟩
   refine dG ?_;refine tN ?_;refine cN ?_;rw[show((c+1:Nat):Int)-1=(c:Nat) by omega];refine fO ?_;refine z23 ?_;refine B4 ?_;refine nX ?_;refine z3 ?_;refine z44 ?_;refine lo (OI (E rfl) (E rfl)) rfl ?_;refine cN ?_;rw[Bc,BE (CL hlt c),aBE (n:=l[c]! %128) U,aJ0,<-aGg U hk3];refine zO ?_;refine⟨c,⟨U,hk0⟩,U, ?_⟩;exact aH
  ·obtain rfl:n=0:=by simp at h;omega
   rw[aGf hk1];have hv:=aGe (l.take k);generalize hx:mY (l.take k)=x at hv⊢;refine cJ ?_;refine tN ?_;refine z2 ?_;refine cN ?_;refine eK (Ac [0,1,2,3] (Ad 4 (Ad 5 (Ac [6,7,8,9,10,11,12,13,14] [])))) ?_;refine wV ?_;refine z25 ?_;refine B5 ?_;refine pB [] rfl call296 (aDn x hv) rfl ?_ ?_ ?_ ?_
   ·exact aC
   ·exact aA
   ·exact eC
   rintro _ Y' ⟨r,rfl,rfl⟩ hr
   replace hr:=gE hr;repeat rcases hr with⟨_,hr⟩
   apply bC;exact aU;refine dpu [r] rfl call258 (TG (l.take k) (sB x) (fun y hy=>hlt y (Bf hy)) (aIR _ x (A3 _))) rfl ?_ bH ?_
   ·exact aO
   refine Cv ?_;refine B5 ?_;refine z26 ?_;refine z45 ?_;refine z28 ?_;refine z29 ?_;refine z31 ?_;refine z32 ?_;refine z33 ?_;refine oI ?_;have ht:=aOX hb hv;generalize x.fdiv (2^min ((bits:Int)-1).toNat IntKind.i64.bits)=y at ht⊢;refine aB rfl (fun h=> ?_) (fun h=> ?_)
   ·have h1:¬(sB x=l.take k/\(bits=32-> -2147483648<=x/\x<=2147483647)):=by
     rintro⟨h1,h2⟩;rcases ht.2 h2 with rfl|rfl<;>simp[h1]at h
    rw[<-hx]at h1;refine dB ?_;refine pM ?_;refine zO ?_;apply aD;exact aE
    ·rw[aGh (by rw[hlen];exact hk0) (by rw[hlen];exact hk) h1];exact⟨rfl,rfl⟩
    ·exact aA
   ·have h1:sB x=l.take k/\(bits=32-> -2147483648<=x/\x<=2147483647):=by
     by_cases h2:sB x=l.take k
     ·refine⟨h2,ht.1 ?_⟩;by_cases h3:y=0
      ·exact .inl h3
      ·exact .inr (by simpa[h2,h3]using h)
     ·simp[h2]at h
    rw[<-hx]at h1;refine cJ ?_;refine pM ?_;refine zO ?_;apply aD;exact aE
    ·rw[aDp (by rw[hlen];exact hk0) (by rw[hlen];exact hk) h1,hx];exact⟨rfl,rfl⟩
    ·exact aA
 ·refine cJ ?_
  ((refine pu [] call257 (IQ l hl bits m (by rw[hm];exact aDo hb)) rfl fY bH ?_))
  refine tC ?_;refine pN ?_;refine wU ?_;refine aB rfl (fun h=> ?_) (fun h=> ?_)
  ·have h1:(eV l m).2≠0:=C8 h
   refine dG ?_;refine pM ?_;refine zO ?_;apply aD;exact aE
   ·unfold zR;rw[hlen,Dc h1];exact⟨rfl,rfl⟩
   ·exact aA
  ·have hk0:(eV l m).2=0:=C8 h
   obtain⟨hk1,hk2,hk3⟩:=zA l m hk0;have hsv:sv l (eV l m).1 (eV l m).1=if 64<=l[(eV l m).1-1]! %128 then-1 else 0:=by unfold sv;rw[Db U]
   obtain⟨j,hj⟩:∃j,(eV l m).1=j+1:=⟨(eV l m).1-1,U⟩
   rw[hj]at hsv P hk1 hk2 hk3⊢;rw[Nat.add_sub_cancel]at hsv;refine dG ?_;refine fS ?_;refine kV ?_;refine tN ?_;rw[show((j+1:Nat):Int)-1=(j:Nat) by omega];refine mD ?_;refine Cq ?_;refine wU ?_;rw[Bc,aBD (CL hlt j)];refine aB rfl (fun h=> ?_) (fun h=> ?_)
   ·have h2:64<=l[j]! %128:=by
     by_cases h3:l[j]! %128<64
     ·rw[Dc h3]at h;simp at h
     ·omega
    rw[Dc h2]at hsv;refine jD ?_;refine PA ?_;refine P (j+1) _ ⟨A3 _,hk0⟩ ?_;rw[hsv];exact aH
   ·have h2:¬64<=l[j]! %128:=by
     by_cases h3:l[j]! %128<64
     ·omega
     ·rw[Db h3]at h;simp at h
    rw[Db h2]at hsv;refine ck ?_;refine an ?_;refine P (j+1) _ ⟨A3 _,hk0⟩ ?_;rw[hsv];exact aH
def aK (n:Int):List AV:=[.int .i64 n]
def qQ (n a b:Int):Bool:=if decide (a<=n)=true then decide (n<=b)else false
theorem lU(n a b:Int):SCall prog 270 [.int .i64 n,.int .i64 a,.int .i64 b] [] (fun x Y=>x=.bool (qQ n a b)/\Y=[]):=by
 refine bO 15 [0,1,2,6] func270 ?_;refine mO ?_;refine MK ?_;refine z4 ?_;refine z54 ?_;refine tW ?_;exact aD aE ⟨by rfl,rfl⟩ aA
def MQ (op:Int):Int×Int:=
 if(qQ op 69 79||qQ op 103 120)=true then(1,op)else if qQ op 80 90=true then(2,IntKind.i64.wrap (IntKind.i64.wrap (op-80)+69))else if qQ op 121 138=true then(2,IntKind.i64.wrap (IntKind.i64.wrap (op-121)+103))else(0,0)
theorem aGi(op:Int):SCall prog 269 [.int .i64 op] [] (fun x Y=>x=.tup [.int .i64 (MQ op).1,.int .i64 (MQ op).2]/\Y=[]):=by
 refine bO 22 [0,2,3,4,10,16] func269 ?_;refine dB ?_;refine pN ?_;(refine pu [] call270 (lU _ _ _) rfl fY bH ?_);refine cN ?_;apply fJ rfl;exact cP
 ·intro _;(refine aI ?_);refine fO ?_;(refine pu [] call270 (lU _ _ _) rfl fY bH ?_);refine cN ?_;exact aH
 refine aI ?_;refine aB rfl ?_ ?_<;>intro g1
 ·refine dG ?_;refine fS ?_;apply aD;exact aE
  ·(unfold MQ;simp only[g1,Dd,De,Ag];exact⟨rfl,rfl⟩)
  ·exact aA
 refine dG ?_;(refine pu [] call270 (lU _ _ _) rfl fY bH ?_);refine cN ?_;refine aB rfl ?_ ?_<;>intro g2
 ·refine dG ?_;refine tN ?_;refine SH ?_;refine fS ?_;apply aD;exact aE
  ·(unfold MQ;simp only[g1,g2,Dd,De,Ag];exact⟨rfl,rfl⟩)
  ·exact aA
 refine dG ?_;(refine pu [] call270 (lU _ _ _) rfl fY bH ?_);refine cN ?_;refine aB rfl ?_ ?_<;>intro g3
 ·refine dG ?_;refine tN ?_;refine SH ?_;refine fS ?_;apply aD;exact aE
  ·(unfold MQ;simp only[g1,g2,g3,Dd,De,Ag];exact⟨rfl,rfl⟩)
  ·exact aA
 refine dB ?_;refine fS ?_;apply aD;exact aE
 ·(unfold MQ;simp only[g1,g2,g3,Dd,De,Ag];exact⟨rfl,rfl⟩)
 ·exact aA
def kN (op:Int):List Int×Int×Bool:=
 if(op==167)=true then([2],1,true)else if(op==172||op==173)=true then([1],2,true)
 else if((MQ op).1==0)=true then([],0,false)else if((MQ op).2==69)=true then([(MQ op).1],1,true)
 else if qQ (MQ op).2 70 79=true then([(MQ op).1,(MQ op).1],1,true)else if qQ (MQ op).2 103 105=true then([(MQ op).1],(MQ op).1,true)
 else([(MQ op).1,(MQ op).1],(MQ op).1,true)
def xV (r:List Int×Int×Bool) (x:AV) (Y:dI):Prop:=
 if r.2.2=true then∃q,x=.tup [.own q 0 r.1.length,.int .i64 r.2.1,.bool true]/\Y=[(q,.arr 3 1 (r.1.map aK))]else x=.tup [.ro 0 [] .nil,.int .i64 0,.bool false]/\Y=[]
theorem oU{l:List Int}{r:Int}{q:Nat}{x:AV}{Y:dI}(hx:x=.tup [.own q 0 l.length,.int .i64 r,.bool true])(hs:Y=[(q,.arr 3 1 (l.map aK))]):xV (l,r,true) x Y:=by
 unfold xV;rw[Dc rfl];exact⟨q,hx,hs⟩
theorem aBF{l:List Int}{r:Int}{x:AV}{Y:dI}(hx:x=.tup [.ro 0 [] .nil,.int .i64 0,.bool false])(hs:Y=[]):xV (l,r,false) x Y:=by
 unfold xV;rw[Db X];exact⟨hx,hs⟩
theorem BF(op:Int):SCall prog 200 [.int .i64 op] [] (xV (kN op)):=by
 refine bO 44 [0,2,3,4,5,6,7,8,11,20,23,28,34] func200 ?_;refine dB ?_;refine pM ?_;refine fO ?_;refine rP ?_;refine aB rfl ?_ ?_<;>intro g1
 ·refine dB ?_;refine eN fun r10 h10=> ?_;intros;refine pM ?_;apply aD;exact aE
  ·(unfold kN;simp only[g1,Dd,De,Ag];exact oU rfl rfl)
  ·exact aA
 refine cZ ?_;apply fJ rfl;exact cP
 ·intro _;(refine aI ?_);refine eU ?_;exact aH
 refine aI ?_;refine aB rfl ?_ ?_<;>intro g2
 ·refine dB ?_;refine eN fun r14 h14=> ?_;intros;refine pM ?_;apply aD;exact aE
  ·(unfold kN;simp only[g1,g2,Dd,De,Ag];exact oU rfl rfl)
  ·exact aA
 refine dG ?_;(refine pu [] call269 (aGi _) rfl fY bH ?_);refine tC ?_;refine pN ?_;refine SS ?_;refine aB rfl ?_ ?_<;>intro g3
 ·refine dB ?_;refine pM ?_;apply aD;exact aE
  ·(unfold kN;simp only[g1,g2,g3,Dd,De,Ag];exact aBF rfl rfl)
  ·exact aA
 refine dG ?_;refine SS ?_;refine aB rfl ?_ ?_<;>intro g4
 ·refine dG ?_;refine eN fun r27 h27=> ?_;intros;refine pM ?_;apply aD;exact aE
  ·(unfold kN;simp only[g1,g2,g3,g4,Dd,De,Ag];exact oU rfl rfl)
  ·exact aA
 refine dG ?_;(refine pu [] call270 (lU _ _ _) rfl fY bH ?_);refine cN ?_;refine aB rfl ?_ ?_<;>intro g5
 ·refine cJ ?_;refine eN fun r33 h33=> ?_;intros;refine pM ?_;apply aD;exact aE
  ·(unfold kN;simp only[g1,g2,g3,g4,g5,Dd,De,Ag];exact oU rfl rfl)
  ·exact aA
 refine dG ?_;(refine pu [] call270 (lU _ _ _) rfl fY bH ?_);refine cN ?_;refine aB rfl ?_ ?_<;>intro g6
 ·refine dG ?_;refine eN fun r38 h38=> ?_;intros;refine B4 ?_;refine pM ?_;apply aD;exact aE
  ·(unfold kN;simp only[g1,g2,g3,g4,g5,g6,Dd,De,Ag];exact oU rfl rfl)
  ·exact aA
 refine cJ ?_;refine eN fun r42 h42=> ?_;intros;refine B4 ?_;refine pM ?_;apply aD;exact aE
 ·(unfold kN;simp only[g1,g2,g3,g4,g5,g6,Dd,De,Ag];exact oU rfl rfl)
 ·exact aA
def qR (op:Int):Int×Int:=
 if(qQ op 69 79||qQ op 103 120)=true then(op,1)else if qQ op 80 90=true then(IntKind.i64.wrap (IntKind.i64.wrap (op-80)+69),2)else if qQ op 121 138=true then(IntKind.i64.wrap (IntKind.i64.wrap (op-121)+103),2)
 else if(op==167)=true then(op,2)else if(op==172||op==173)=true then(op,1)else(0,0)
theorem aBG(op:Int):SCall prog 303 [.int .i64 op] [] (fun x Y=>x=.tup [.int .i64 (qR op).1,.int .i64 (qR op).2]/\Y=[]):=by
 refine bO 48 [0,2,3,4,18,28,38,42] func303 ?_;refine dB ?_;refine pN ?_;refine MK ?_;refine z55 ?_;refine tW ?_;apply fJ rfl;exact cP
 ·intro _;(refine aI ?_);refine fO ?_;refine MK ?_;refine z55 ?_;refine tW ?_;exact aH
 refine aI ?_;refine aB rfl ?_ ?_<;>intro g1
 ·refine dG ?_;refine fS ?_;apply aD;exact aE
  ·(unfold qR qQ;simp only[g1,Dd,De,Ag];exact⟨rfl,rfl⟩)
  ·exact aA
 refine dG ?_;refine MK ?_;refine z55 ?_;refine tW ?_;refine aB rfl ?_ ?_<;>intro g2
 ·refine dG ?_;refine tN ?_;refine SH ?_;refine fS ?_;apply aD;exact aE
  ·(unfold qR qQ;simp only[g1,g2,Dd,De,Ag];exact⟨rfl,rfl⟩)
  ·exact aA
 refine dG ?_;refine MK ?_;refine z55 ?_;refine tW ?_;refine aB rfl ?_ ?_<;>intro g3
 ·refine dG ?_;refine tN ?_;refine SH ?_;refine fS ?_;apply aD;exact aE
  ·(unfold qR qQ;simp only[g1,g2,g3,Dd,De,Ag];exact⟨rfl,rfl⟩)
  ·exact aA
 refine dG ?_;refine SS ?_;refine aB rfl ?_ ?_<;>intro g4
 ·refine dG ?_;refine fS ?_;apply aD;exact aE
  ·(unfold qR qQ;simp only[g1,g2,g3,g4,Dd,De,Ag];exact⟨rfl,rfl⟩)
  ·exact aA
 refine dG ?_;refine SS ?_;apply fJ rfl;exact cP
 ·intro _;(refine aI ?_);refine fO ?_;refine SS ?_;exact aH
 refine aI ?_;refine aB rfl ?_ ?_<;>intro g5
 ·refine dG ?_;refine fS ?_;apply aD;exact aE
  ·(unfold qR qQ;simp only[g1,g2,g3,g4,g5,Dd,De,Ag];exact⟨rfl,rfl⟩)
  ·exact aA
 refine dB ?_;refine fS ?_;apply aD;exact aE
 ·(unfold qR qQ;simp only[g1,g2,g3,g4,g5,Dd,De,Ag];exact⟨rfl,rfl⟩)
 ·exact aA
def pX (op:Int):Int×Int×Int×Bool:=
 if((qR op).1==0)=true then(0,0,0,false)else if((qR op).1==69)=true then(1,(qR op).2,1,true)else if decide ((qR op).1<=79)=true then(2,(qR op).2,1,true)
 else if decide ((qR op).1<=105)=true then(1,(qR op).2,(qR op).2,true)else if decide ((qR op).1<=120)=true then(2,(qR op).2,(qR op).2,true)
 else if((qR op).1==167)=true then(1,(qR op).2,1,true)else(1,(qR op).2,2,true)
theorem MR(op:Int):SCall prog 276 [.int .i64 op] [] (fun x Y=>x=.tup [.int .i64 (pX op).1,.int .i64 (pX op).2.1,.int .i64 (pX op).2.2.1,.bool (pX op).2.2.2]/\Y=[]):=by
 refine bO 39 [0,2,3,4,5,6,7,13,16,20,24,29,34] func276 ?_;refine dB ?_;refine AA ?_;refine fO ?_;(refine pu [] call303 (aBG _) rfl fY bH ?_);refine tC ?_;refine pN ?_;refine SS ?_;refine aB rfl ?_ ?_<;>intro g1
 ·refine dB ?_;refine AA ?_;apply aD;exact aE
  ·(unfold pX;simp only[g1,Dd,De,Ag];exact⟨rfl,rfl⟩)
  ·exact aA
 refine dG ?_;refine SS ?_;refine aB rfl ?_ ?_<;>intro g2
 ·refine dG ?_;refine AA ?_;apply aD;exact aE
  ·(unfold pX;simp only[g1,g2,Dd,De,Ag];exact⟨rfl,rfl⟩)
  ·exact aA
 refine dG ?_;refine lo (nU (E rfl) (E rfl)) rfl ?_;refine cN ?_;refine aB rfl ?_ ?_<;>intro g3
 ·refine dG ?_;refine AA ?_;apply aD;exact aE
  ·(unfold pX;simp only[g1,g2,g3,Dd,De,Ag];exact⟨rfl,rfl⟩)
  ·exact aA
 refine dG ?_;refine lo (nU (E rfl) (E rfl)) rfl ?_;refine cN ?_;refine aB rfl ?_ ?_<;>intro g4
 ·refine cJ ?_;refine AA ?_;apply aD;exact aE
  ·(unfold pX;simp only[g1,g2,g3,g4,Dd,De,Ag];exact⟨rfl,rfl⟩)
  ·exact aA
 refine dG ?_;refine lo (nU (E rfl) (E rfl)) rfl ?_;refine cN ?_;refine aB rfl ?_ ?_<;>intro g5
 ·refine cJ ?_;refine AA ?_;apply aD;exact aE
  ·(unfold pX;simp only[g1,g2,g3,g4,g5,Dd,De,Ag];exact⟨rfl,rfl⟩)
  ·exact aA
 refine dG ?_;refine SS ?_;refine aB rfl ?_ ?_<;>intro g6
 ·refine dG ?_;refine AA ?_;apply aD;exact aE
  ·(unfold pX;simp only[g1,g2,g3,g4,g5,g6,Dd,De,Ag];exact⟨rfl,rfl⟩)
  ·exact aA
 refine dG ?_;refine AA ?_;apply aD;exact aE
 ·(unfold pX;simp only[g1,g2,g3,g4,g5,g6,Dd,De,Ag];exact⟨rfl,rfl⟩)
 ·exact aA
def jE (op:Int) (k:Bool):Int:=
 if(op==0||(op==1||(op==5||(op==11||(op==15||(op==26||op==27))))))=true then 1
 else if(op==2||(op==3||op==4))=true then 2
 else if(op==12||(op==13||(op==16||(op==32||(op==33||(op==34||(op==35||op==36)))))))=true then 3
 else if(op==14)=true then 4 else if(op==17)=true then 5
 else if(op==40||(op==41||(op==44||(op==45||(op==54||(op==55||op==58))))))=true then 6
 else if(op==63||op==64)=true then 7 else if(op==65)=true then 8 else if(op==66)=true then 9
 else if k=true then 1 else 0
theorem aDq(op:Int):SCall prog 250 [.int .i64 op] [] (fun x Y=>x=.int .i64 (jE op (pX op).2.2.2)/\Y=[]):=by
 refine bO 56 [0,2,6,7,8,16,20,29,31,33,41,44,46,55] func250 ?_;refine fK ?_;refine rP ?_;apply fJ rfl;exact cP
 ·intro _;(refine aI ?_);refine eU ?_;apply eB rfl;exact cP
  ·intro _;(refine aI ?_);refine eU ?_;apply eB rfl;exact cP
   ·intro _;(refine aI ?_);refine eU ?_;apply eB rfl;exact cP
    ·intro _;(refine aI ?_);refine eU ?_;apply eB rfl;exact cP
     ·intro _;(refine aI ?_);refine eU ?_;apply eB rfl;exact cP
      ·intro _;(refine aI ?_);refine eU ?_;exact aH
      exact aH
     exact aH
    exact aH
   exact aH
  exact aH
 refine aI ?_;refine aB rfl ?_ ?_<;>intro g1
 ·refine cV ?_;apply aD;exact aE
  ·(unfold jE;simp only[g1,Dd,De,Ag];exact⟨rfl,rfl⟩)
  ·exact aA
 refine cZ ?_;apply fJ rfl;exact cP
 ·intro _;(refine aI ?_);refine eU ?_;apply eB rfl;exact cP
  ·intro _;(refine aI ?_);refine eU ?_;exact aH
  exact aH
 refine aI ?_;refine aB rfl ?_ ?_<;>intro g2
 ·refine cV ?_;apply aD;exact aE
  ·(unfold jE;simp only[g1,g2,Dd,De,Ag];exact⟨rfl,rfl⟩)
  ·exact aA
 refine cZ ?_;apply fJ rfl;exact cP
 ·intro _;(refine aI ?_);refine eU ?_;apply eB rfl;exact cP
  ·intro _;(refine aI ?_);refine eU ?_;apply eB rfl;exact cP
   ·intro _;(refine aI ?_);refine eU ?_;apply eB rfl;exact cP
    ·intro _;(refine aI ?_);refine eU ?_;apply eB rfl;exact cP
     ·intro _;(refine aI ?_);refine eU ?_;apply eB rfl;exact cP
      ·intro _;(refine aI ?_);refine eU ?_;apply eB rfl;exact cP
       ·intro _;(refine aI ?_);refine eU ?_;exact aH
       exact aH
      exact aH
     exact aH
    exact aH
   exact aH
  exact aH
 refine aI ?_;refine aB rfl ?_ ?_<;>intro g3
 ·refine cV ?_;apply aD;exact aE
  ·(unfold jE;simp only[g1,g2,g3,Dd,De,Ag];exact⟨rfl,rfl⟩)
  ·exact aA
 refine cZ ?_;refine aB rfl ?_ ?_<;>intro g4
 ·refine cV ?_;apply aD;exact aE
  ·(unfold jE;simp only[g1,g2,g3,g4,Dd,De,Ag];exact⟨rfl,rfl⟩)
  ·exact aA
 refine cZ ?_;refine aB rfl ?_ ?_<;>intro g5
 ·refine cV ?_;apply aD;exact aE
  ·(unfold jE;simp only[g1,g2,g3,g4,g5,Dd,De,Ag];exact⟨rfl,rfl⟩)
  ·exact aA
 refine cZ ?_;apply fJ rfl;exact cP
 ·intro _;(refine aI ?_);refine eU ?_;apply eB rfl;exact cP
  ·intro _;(refine aI ?_);refine eU ?_;apply eB rfl;exact cP
   ·intro _;(refine aI ?_);refine eU ?_;apply eB rfl;exact cP
    ·intro _;(refine aI ?_);refine eU ?_;apply eB rfl;exact cP
     ·intro _;(refine aI ?_);refine eU ?_;apply eB rfl;exact cP
      ·intro _;(refine aI ?_);refine eU ?_;exact aH
      exact aH
     exact aH
    exact aH
   exact aH
  exact aH
 refine aI ?_;refine aB rfl ?_ ?_<;>intro g6
 ·refine cV ?_;apply aD;exact aE
  ·(unfold jE;simp only[g1,g2,g3,g4,g5,g6,Dd,De,Ag];exact⟨rfl,rfl⟩)
  ·exact aA
 refine cZ ?_;apply fJ rfl;exact cP
 ·intro _;(refine aI ?_);refine eU ?_;exact aH
 refine aI ?_;refine aB rfl ?_ ?_<;>intro g7
 ·refine cV ?_;apply aD;exact aE
  ·(unfold jE;simp only[g1,g2,g3,g4,g5,g6,g7,Dd,De,Ag];exact⟨rfl,rfl⟩)
  ·exact aA
 refine cZ ?_;refine aB rfl ?_ ?_<;>intro g8
 ·refine cV ?_;apply aD;exact aE
  ·(unfold jE;simp only[g1,g2,g3,g4,g5,g6,g7,g8,Dd,De,Ag];exact⟨rfl,rfl⟩)
  ·exact aA
 refine cZ ?_;refine aB rfl ?_ ?_<;>intro g9
 ·refine cV ?_;apply aD;exact aE
  ·(unfold jE;simp only[g1,g2,g3,g4,g5,g6,g7,g8,g9,Dd,De,Ag];exact⟨rfl,rfl⟩)
  ·exact aA
 refine dG ?_;(refine pu [] call276 (MR _) rfl fY bH ?_);refine tC ?_;refine OX ?_;refine AA ?_;refine fO ?_;refine iM ?_;refine aB rfl ?_ ?_<;>intro g10
 ·refine cV ?_;apply aD;exact aE
  ·(unfold jE;simp only[g1,g2,g3,g4,g5,g6,g7,g8,g9,g10,Dd,De,Ag];exact⟨rfl,rfl⟩)
  ·exact aA
 refine cV ?_;apply aD;exact aE
 ·(unfold jE;simp only[g1,g2,g3,g4,g5,g6,g7,g8,g9,g10,Dd,De,Ag];exact⟨rfl,rfl⟩)
 ·exact aA
theorem LJ(op:Int):SCall prog 200 [.int .i64 op] [] (fun x _=>∃a b,x=.tup [a,b,.bool (kN op).2.2]):=
 (BF op).mono fun x Y h=>by
  unfold xV at h;split at h
  ·next e=>obtain⟨q,rfl,-⟩:=h;exact⟨_,_,by rw[e]⟩
  ·next e=>obtain⟨rfl,-⟩:=h;exact⟨_,_,by rw[show(kN op).2.2=false by simpa using e]⟩
theorem XV(op:Int):SCall prog 217 [.int .i64 op] [] (fun x Y=>x=.int .i64 (jE op (kN op).2.2)/\Y=[]):=by
 refine bO 54 [0,2,5,6,7,15,19,28,30,32,40,43,45,53] func217 ?_;refine fK ?_;refine rP ?_;apply fJ rfl;exact cP
 ·intro _;(refine aI ?_);refine eU ?_;apply eB rfl;exact cP
  ·intro _;(refine aI ?_);refine eU ?_;apply eB rfl;exact cP
   ·intro _;(refine aI ?_);refine eU ?_;apply eB rfl;exact cP
    ·intro _;(refine aI ?_);refine eU ?_;apply eB rfl;exact cP
     ·intro _;(refine aI ?_);refine eU ?_;apply eB rfl;exact cP
      ·intro _;(refine aI ?_);refine eU ?_;exact aH
      exact aH
     exact aH
    exact aH
   exact aH
  exact aH
 refine aI ?_;refine aB rfl ?_ ?_<;>intro g1
 ·refine cV ?_;apply aD;exact aE
  ·(unfold jE;simp only[g1,Dd,De,Ag];exact⟨rfl,rfl⟩)
  ·exact aA
 refine cZ ?_;apply fJ rfl;exact cP
 ·intro _;(refine aI ?_);refine eU ?_;apply eB rfl;exact cP
  ·intro _;(refine aI ?_);refine eU ?_;exact aH
  exact aH
 refine aI ?_;refine aB rfl ?_ ?_<;>intro g2
 ·refine cV ?_;apply aD;exact aE
  ·(unfold jE;simp only[g1,g2,Dd,De,Ag];exact⟨rfl,rfl⟩)
  ·exact aA
 refine cZ ?_;apply fJ rfl;exact cP
 ·intro _;(refine aI ?_);refine eU ?_;apply eB rfl;exact cP
  ·intro _;(refine aI ?_);refine eU ?_;apply eB rfl;exact cP
   ·intro _;(refine aI ?_);refine eU ?_;apply eB rfl;exact cP
    ·intro _;(refine aI ?_);refine eU ?_;apply eB rfl;exact cP
     ·intro _;(refine aI ?_);refine eU ?_;apply eB rfl;exact cP
      ·intro _;(refine aI ?_);refine eU ?_;apply eB rfl;exact cP
       ·intro _;(refine aI ?_);refine eU ?_;exact aH
       exact aH
      exact aH
     exact aH
    exact aH
   exact aH
  exact aH
 refine aI ?_;refine aB rfl ?_ ?_<;>intro g3
 ·refine cV ?_;apply aD;exact aE
  ·(unfold jE;simp only[g1,g2,g3,Dd,De,Ag];exact⟨rfl,rfl⟩)
  ·exact aA
 refine cZ ?_;refine aB rfl ?_ ?_<;>intro g4
 ·refine cV ?_;apply aD;exact aE
  ·(unfold jE;simp only[g1,g2,g3,g4,Dd,De,Ag];exact⟨rfl,rfl⟩)
  ·exact aA
 refine cZ ?_;refine aB rfl ?_ ?_<;>intro g5
 ·refine cV ?_;apply aD;exact aE
  ·(unfold jE;simp only[g1,g2,g3,g4,g5,Dd,De,Ag];exact⟨rfl,rfl⟩)
  ·exact aA
 refine cZ ?_;apply fJ rfl;exact cP
 ·intro _;(refine aI ?_);refine eU ?_;apply eB rfl;exact cP
  ·intro _;(refine aI ?_);refine eU ?_;apply eB rfl;exact cP
   ·intro _;(refine aI ?_);refine eU ?_;apply eB rfl;exact cP
    ·intro _;(refine aI ?_);refine eU ?_;apply eB rfl;exact cP
     ·intro _;(refine aI ?_);refine eU ?_;apply eB rfl;exact cP
      ·intro _;(refine aI ?_);refine eU ?_;exact aH
      exact aH
     exact aH
    exact aH
   exact aH
  exact aH
 refine aI ?_;refine aB rfl ?_ ?_<;>intro g6
 ·refine cV ?_;apply aD;exact aE
  ·(unfold jE;simp only[g1,g2,g3,g4,g5,g6,Dd,De,Ag];exact⟨rfl,rfl⟩)
  ·exact aA
 refine cZ ?_;apply fJ rfl;exact cP
 ·intro _;(refine aI ?_);refine eU ?_;exact aH
 refine aI ?_;refine aB rfl ?_ ?_<;>intro g7
 ·refine cV ?_;apply aD;exact aE
  ·(unfold jE;simp only[g1,g2,g3,g4,g5,g6,g7,Dd,De,Ag];exact⟨rfl,rfl⟩)
  ·exact aA
 refine cZ ?_;refine aB rfl ?_ ?_<;>intro g8
 ·refine cV ?_;apply aD;exact aE
  ·(unfold jE;simp only[g1,g2,g3,g4,g5,g6,g7,g8,Dd,De,Ag];exact⟨rfl,rfl⟩)
  ·exact aA
 refine cZ ?_;refine aB rfl ?_ ?_<;>intro g9
 ·refine cV ?_;apply aD;exact aE
  ·(unfold jE;simp only[g1,g2,g3,g4,g5,g6,g7,g8,g9,Dd,De,Ag];exact⟨rfl,rfl⟩)
  ·exact aA
 refine dG ?_;refine cw [] call200 (LJ op) rfl ?_ ?_ ?_
 ·exact aC
 ·exact aA
 rintro _ Y' ⟨a,b,rfl⟩-;refine TC ?_;refine pM ?_;refine fO ?_;refine iM ?_;refine aB rfl ?_ ?_<;>intro g10
 ·refine cV ?_;apply aD;exact aE
  ·(unfold jE;simp only[g1,g2,g3,g4,g5,g6,g7,g8,g9,g10,Dd,De,Ag];exact⟨rfl,rfl⟩)
  ·exact aA
 refine cV ?_;apply aD;exact aE
 ·(unfold jE;simp only[g1,g2,g3,g4,g5,g6,g7,g8,g9,g10,Dd,De,Ag];exact⟨rfl,rfl⟩)
 ·exact aA
def TI (op:Int):Bool:=decide (69<=op/\op<=90\/103<=op/\op<=138\/op=167\/op=172\/op=173)
theorem kW(n a b:Int):qQ n a b=decide (a<=n/\n<=b):=by
 unfold qQ;by_cases h:a<=n<;>simp[h]
theorem aDr(op:Int):((MQ op).1==0)= !decide (69<=op/\op<=90\/103<=op/\op<=138):=by
 unfold MQ;simp only[kW,Bool.or_eq_true,decide_eq_true_eq];repeat' split
 ·rw[decide_eq_true U];rfl
 ·rw[decide_eq_true U];rfl
 ·rw[decide_eq_true U];rfl
 ·rw[decide_eq_false U];rfl
theorem aMW(op:Int):(kN op).2.2=TI op:=by
 unfold kN;rw[aDr];unfold TI;by_cases h1:op=167
 ·subst h1;decide
 by_cases h2:op=172\/op=173
 ·rcases h2 with rfl|rfl<;>decide
 by_cases h3:69<=op/\op<=90\/103<=op/\op<=138
 ·rw[decide_eq_true h3,decide_eq_true U];repeat' split
  all_goals first|rfl|simp_all
 ·rw[decide_eq_false h3,decide_eq_false U,Db Af,Db Af];rfl
theorem aBH(op:Int)(h:-9223372036854775808<=op/\op<=9223372036854775807):((qR op).1==0)= !TI op:=by
 unfold qR TI;simp only[kW,Bool.or_eq_true,decide_eq_true_eq,beq_iff_eq];repeat' split
 all_goals first|(rw[decide_eq_true U];simp only[IntKind.wrap_i64,Bool.not_true,beq_eq_false_iff_ne];omega)|(rw[decide_eq_false U];rfl)
theorem aJ1(op:Int)(h:-9223372036854775808<=op/\op<=9223372036854775807):(pX op).2.2.2=TI op:=by
 unfold pX;rw[aBH op h];cases TI op
 ·rfl
 ·repeat' split
  all_goals first|rfl|simp_all
def aW (op:Int):Int:=jE op (TI op)
end Go.Proofs.YtjpdadobblffmaaGreat
namespace Go.Proofs.YtjpdadobblffmaaGreat
open Go.RowKit Go.ChangeShapes Go.WideShapes Go.ChangeAt Go.Deep
theorem SR.growF {M:Mp}{F:Nat->Prop}{N:Nat}{w w':World}{Y:dI}(h:SR M F N w Y)(hold:∀k,k<w.heap.size->w'.heap[k]? =w.heap[k]?)(hsz:w.heap.size<=w'.heap.size){g:Nat}(hg:w.heap.size<=g)(hg':g<w'.heap.size):
  SR M (fun b=>F b\/b=g) N w' Y where
 ent p hp:=ER.mono (fun _ _ h=>h) (fun _ h=>.inl h) (fun b hb=>hold b (h.flt b hb)) (fun g hg=>hold g ((h.ent p hp).lt hg)) (h.ent p hp)
 inj:=h.inj
 nof g' hB hF:=by
  rcases hF with hF|rfl
  ·exact h.nof g' hB hF
  ·have:=h.lt hB;omega
 flt b hb:=by
  rcases hb with hb|rfl
  ·have:=h.flt b hb;omega
  ·exact hg'
 fresh:=h.fresh
theorem aIV{M:Mp}{F:Nat->Prop}{w:World}{xs:List AV}{us:List Value}(hl:us.length=xs.length)(h:∀(i:Nat) (v:AV),xs[i]? =some v->∃u,us[i]? =some u/\VR M F w v u):∀(j:Nat) (a:AV) (u:Value),xs[j]? =some a->us[j]? =some u->VR M F w a u:=by
 intro j a u ha hu;obtain⟨u',hu',hv⟩:=h j a ha;rw[hu]at hu';cases hu'
 exact hv
theorem xW{P:Program}{ty:TypeId}{s:ASt}{c:Bool}{fn:Fn}{first captured:Array Operand}{xs cs:List AV}(h1:AEvs s first.toList xs)(h2:AEvs s captured.toList cs):Lop P (.makeFunc fn first captured) ty s c (.fn fn xs cs) []:=
 Lop.pure_ fun M F N n a w hr hc=>by
  obtain⟨l1,k1⟩:=h1.at_ hr;obtain⟨l2,k2⟩:=h2.at_ hr;refine⟨.func fn (first.map a.eval) (captured.map a.eval),.fn ?_ ?_ ?_ ?_,fun w' o ho _=> ?_⟩
  ·rw[<-l1];simp
  ·intro j a' u ha hu;refine aIV l1 k1 j a' u ha ?_;rw[<-hu,<-Array.getElem?_toList];simp
  ·rw[<-l2];simp
  ·intro j a' u ha hu;refine aIV l2 k2 j a' u ha ?_;rw[<-hu,<-Array.getElem?_toList];simp
  ·simp only[execOp,ho,Instr.makeFunc,Sem.run_bind,Sem.run_pure,Result.andThen_ok]
theorem MT{M:Mp}{F:Nat->Prop}{w:World}{xs ys:List AV}{us vs:List Value}(hl:us.length=xs.length)(h:∀(j:Nat) (a:AV) (u:Value),xs[j]? =some a->us[j]? =some u->VR M F w a u)
  (k:∀(j:Nat) (a:AV) (u:Value),ys[j]? =some a->vs[j]? =some u->VR M F w a u):∀(j:Nat) (a:AV) (u:Value),(xs++ys)[j]? =some a->(us++vs)[j]? =some u->VR M F w a u:=by
 intro j a u ha hu;by_cases hj:j<xs.length
 ·rw[Ba hj]at ha;rw[Ba U]at hu;exact h j a u ha hu
 ·rw[A6 U]at ha;rw[A6 U]at hu;exact k (j-xs.length) a u ha (by rw[<-hl];exact hu)
def XW (a:Act) (x:Operand) (xs:List Operand):List Value:=match a.eval x with
 | .func _ us vs=>us.toList++xs.map a.eval++vs.toList
 | _=>[]
theorem TJ{P:Program}{n:Nat}{s:ASt}{ty:TypeId}{d:Nat}{x:Operand}{f:FuncId}{us vs:List AV}{xs:List Operand}{ats:Array TypeId}{args:List AV}{Y1:dI}{R:AV->dI->Prop}{K:ASt->Prop}(hx:aev s x=some (.fn (.func f) us vs))(hf:∀args w,(callFunc f args).run P w=.ok (.enter f args) w)
  (h:SCall P f (us++args++vs) Y1 R) (hd:d<n) (hargs:ArgsLe s xs args) (hsub:∀p∈Y1,p∈s.Y)
  (hK:∀x Y',R x Y'->(∀p∈Y',(∃q∈Y1,q.1=p.1)\/Fresh p.1 s.Y)->K ⟨(d,x)::s.fr,Y'++eD (Y1.map (·.1)) s.Y⟩):
  Hop P n (.call { callee:=.value x,args:=xs.toArray,argTypes:=ats }) ty (some d) s (Y1.map (·.1)) K:=by
 refine Hop.of_call hd h hsub (fun a=>XW a x xs) (fun M F N a w o ho hr=> ?_) hK;have hv:=hr.aev hx;have hl:=hargs.len;have ha:=hargs.vr hr;obtain⟨dst,op,ty',pos,after,guard⟩:=o;dsimp only at ho;subst ho;generalize hu:a.eval x=u at hv;cases hv with
 |@fn _ _ _ us' vs' h1 h2 h3 h4=>
  have hfa:XW a x xs=us'.toList++xs.map a.eval++vs'.toList:=by unfold XW;rw[hu]
  refine⟨?_, ?_, ?_⟩
  ·have:execOp a.eval { dst,op:=.call { callee:=.value x,args:=xs.toArray,argTypes:=ats },type:=ty',pos,after,guard } =(do
     let d<-Deferred.ofValue (a.eval x) (xs.toArray.map a.eval)
     invoke d.target d.args):=rfl
   rw[this,hu,hfa];simp only[Deferred.ofValue,Sem.run_bind,Sem.run_pure,Result.andThen_ok,invoke,hf];simp
  ·rw[hfa];simp only[Ao,Az,Array.length_toList];omega
  ·rw[hfa];refine MT Af (MT (C8 h1) (fun j a' u' h5 h6=>h2 j a' u' h5 (C8 h6)) (fun j a' u' h5 h6=>ha j a' u' h5 h6)) (fun j a' u' h5 h6=>h4 j a' u' h5 (C8 h6))
theorem eF{Y:dI}:eD (Y.map (·.1)) Y=[]:=by
 unfold eD;rw[List.filter_eq_nil_iff];intro p hp;simp;exact⟨_,hp⟩
section
variable {P : Program} {n : Nat} {ops : Array Oper} {rest : List Oper} {fr : Fr} {Y : dI} {K : ASt -> Prop} {ty : TypeId} {pos : String} {af : Array Edge} {d : Nat}
theorem qY{x:Operand}{f:FuncId}{us vs:List AV}{xs:List Operand}{ats:Array TypeId}{args:List AV}{R:AV->dI->Prop}(Y1:dI)(hx:aev ⟨fr,Y⟩ x=some (.fn (.func f) us vs))(hf:∀args w,(callFunc f args).run P w=.ok (.enter f args) w)(h:SCall P f (us++args++vs) Y1 R)(hd:Bp (d+1) n=true)
  (hargs:ArgsLe ⟨fr,Y⟩ xs args) (hsub:∀p∈Y1,p∈Y) (hK:∀x Y',R x Y'->(∀p∈Y',(∃q∈Y1,q.1=p.1)\/Fresh p.1 Y)->RS P n ops rest ⟨(d,x)::fr,Y'++eD (Y1.map (·.1)) Y⟩ K):
  RS P n ops (⟨some d,.call { callee:=.value x,args:=xs.toArray,argTypes:=ats },ty,pos,af,none⟩::rest) ⟨fr,Y⟩ K:=gA (TJ hx hf h (cL hd) hargs hsub hK)
end
attribute [local irreducible] SW RS RD fE eA
theorem fT{k1 k2:Rk}(xs ys:List Int):SCall prog 47 [.ro 1 (xs.map aK) k1,.ro 1 (ys.map aK) k2] [] (fun x Y=>x=.bool (decide (xs=ys))/\Y=[]):=by
 refine bO 26 [0,1,4,5,10,14,25] func47 ?_;refine iG (i:=0) rfl fun hm=> ?_
 rw[Az]at hm;unfold maxLen at hm;refine vX ?_;refine aB rfl (fun h=> ?_) (fun h=> ?_)
 ·refine cV ?_;apply aD;exact aE
  ·have hne:xs≠ys:=by rintro rfl;simp at h
   exact⟨by simp[fM,cM,hne],rfl⟩
  ·exact aA
 have hl:xs.length=ys.length:=by simp at h;omega
 refine cV ?_;refine lp (β:=Nat) (fun k=>⟨[(0,.ro 1 (xs.map aK) k1),(1,.ro 1 (ys.map aK) k2),(4,.bool false),(5,.int .i64 k)],[]⟩) (fun k=>k<=xs.length/\xs.take k=ys.take k) (fun k=>xs.length-k) 0 ?_ ⟨Am _,rfl⟩ ?_
 ·exact aH
 rintro k ⟨hk,ht⟩;refine vT ?_;refine aB rfl (fun h1=> ?_) (fun h1=> ?_)
 ·have hlt:k<xs.length:=by simp at h1;omega
  obtain⟨x,hx⟩:=Aa xs k hlt
  obtain⟨y,hy⟩:=Aa ys k U
  refine aI ?_;refine Cj ?_;refine wW ?_;refine MF ?_;refine wW ?_;refine MF ?_;refine z58 ?_;refine oI ?_;refine aB rfl (fun h2=> ?_) (fun h2=> ?_)
  ·refine cV ?_;apply aD;exact aE
   ·have hne:xs≠ys:=by rintro rfl;rw[hx]at hy;simp at hy;subst hy;simp at h2
    exact⟨by simp[fM,cM,hne],rfl⟩
   ·exact aA
  ·refine iN ?_;refine⟨k+1,⟨U, ?_⟩,U, ?_⟩
   ·rw[Al,Al,ht,hx,hy];simp at h2;rw[h2]
   ·exact aH
 ·refine cV ?_;apply aD;exact aE
  ·simp at h1;have:xs=ys:=by rwa [Aj U,Aj U]at ht
   exact⟨by simp[fM,cM,this],rfl⟩
  ·exact aA
theorem kQ{k1 k2:Rk}(xs ys:List Int):SCall prog 116 [.ro 1 (xs.map aK) k1,.ro 1 (ys.map aK) k2] [] (fun x Y=>x=.bool (decide (xs=ys))/\Y=[]):=by
 refine bO 26 [0,1,4,5,10,12,13,14,24] func116 ?_;refine iG (i:=0) rfl fun hm=> ?_
 rw[Az]at hm;unfold maxLen at hm;refine vX ?_;refine aB rfl (fun h=> ?_) (fun h=> ?_)
 ·refine cV ?_;apply aD;exact aE
  ·have hne:xs≠ys:=by rintro rfl;simp at h
   exact⟨by simp[fM,cM,hne],rfl⟩
  ·exact aA
 have hl:xs.length=ys.length:=by simp at h;omega
 refine dG ?_;refine qD ?_;refine lp (β:=Nat) (fun k=>⟨[(0,.ro 1 (xs.map aK) k1),(1,.ro 1 (ys.map aK) k2),(4,.bool false),(12,.int .i64 xs.length),(13,.int .i64 k)],[]⟩) (fun k=>k<=xs.length/\xs.take k=ys.take k) (fun k=>xs.length-k) 0 ?_ ⟨Am _,rfl⟩ ?_
 ·exact aH
 rintro k ⟨hk,ht⟩;refine gN ?_;refine aB rfl (fun h1=> ?_) (fun h1=> ?_)
 ·have hlt:k<xs.length:=by simp at h1;omega
  obtain⟨x,hx⟩:=Aa xs k hlt
  obtain⟨y,hy⟩:=Aa ys k U
  refine fC ?_;refine Cj ?_;refine wW ?_;refine MF ?_;refine wW ?_;refine MF ?_;refine z58 ?_;refine oI ?_;refine aB rfl (fun h2=> ?_) (fun h2=> ?_)
  ·refine cV ?_;apply aD;exact aE
   ·have hne:xs≠ys:=by rintro rfl;rw[hx]at hy;simp at hy;subst hy;simp at h2
    exact⟨by simp[fM,cM,hne],rfl⟩
   ·exact aA
  ·refine jH ?_;refine⟨k+1,⟨U, ?_⟩,U, ?_⟩
   ·rw[Al,Al,ht,hx,hy];simp at h2;rw[h2]
   ·exact aH
 ·refine cV ?_;apply aD;exact aE
  ·simp at h1;have:xs=ys:=by rwa [Aj U,Aj U]at ht
   exact⟨by simp[fM,cM,this],rfl⟩
  ·exact aA
def aDs (P:Program) (f:FuncId) (caps:List AV) (Y:dI) (p:Int->Bool):Prop:=
 (∀args w,(callFunc f args).run P w=.ok (.enter f args) w)/\∀c,SCall P f ([]++ [.int .i64 c]++caps) Y (fun r Y'=>r=.bool (p c)/\Y'=Y)
theorem LK{k:Rk}{f:FuncId}{caps:List AV}{Y:dI}{p:Int->Bool}(hp:aDs prog f caps Y p)(l:List Int):SCall prog 205 [.ro 1 (l.map aK) k,.fn (.func f) [] caps] Y (fun x Y'=>∃m:Int,x=.int .i64 m/\decide (0<=m)=l.any p/\Y'=Y):=by
 refine bO 19 [0,1,4,5,7,8,9,16] func205 ?_;refine iG (i:=0) rfl fun hm=> ?_
 rw[Az]at hm;unfold maxLen at hm;refine tU ?_;refine lp (β:=Nat) (fun j=>⟨[(0,.ro 1 (l.map aK) k),(1,.fn (.func f) [] caps),(7,.int .i64 l.length),(8,.int .i64 j)],Y⟩) (fun j=>j<=l.length/\(l.take j).any p=false) (fun j=>l.length-j) 0 ?_ ⟨Am _,rfl⟩ ?_
 ·exact aH
 rintro j ⟨hj,ht⟩;refine gN ?_;refine aB rfl (fun h1=> ?_) (fun h1=> ?_)
 ·have hlt:j<l.length:=by simp at h1;omega
  obtain⟨x,hx⟩:=Aa l j hlt
  refine vS ?_;refine nX ?_;refine qY Y rfl hp.1 (hp.2 x) rfl ?_ ?_ ?_
  ·exact aC
  ·exact fun _ h=>h
  rintro r Y' ⟨rfl,rfl⟩-;rw[eF,Be];refine iM ?_;refine aB rfl (fun h2=> ?_) (fun h2=> ?_)
  ·refine fC ?_;apply aD;exact aE
   ·refine⟨j,rfl, ?_,rfl⟩;rw[decide_eq_true U];exact(List.any_eq_true.2 ⟨x,Ah hx,h2⟩).symm
   ·exact aA
  ·refine jH ?_;refine⟨j+1,⟨U, ?_⟩,U, ?_⟩
   ·rw[Al,hx,List.any_append,ht];simp[h2]
   ·exact aH
 ·refine cV ?_;apply aD;exact aE
  ·simp at h1;rw[Aj U]at ht;exact⟨-1,rfl,by rw[ht];rfl,rfl⟩
  ·exact aA
theorem EI{k:Rk}{f:FuncId}{caps:List AV}{Y:dI}{p:Int->Bool}(hp:aDs prog f caps Y p)(l:List Int):SCall prog 89 [.ro 1 (l.map aK) k,.fn (.func f) [] caps] Y (fun x Y'=>x=.bool (l.any p)/\Y'=Y):=by
 refine bO 9 [0,1,4] func89 ?_;refine mO ?_;refine cw Y call205 (LK (k:=k) hp l) rfl ?_ ?_ ?_
 ·exact aC
 ·exact fun _ h=>h
 rintro x Y' ⟨m,rfl,hm,rfl⟩-;rw[eF,Be];refine CD ?_;exact aD aE ⟨by simp only[fM];rw[<-hm],rfl⟩ aA
end Go.Proofs.YtjpdadobblffmaaGreat
