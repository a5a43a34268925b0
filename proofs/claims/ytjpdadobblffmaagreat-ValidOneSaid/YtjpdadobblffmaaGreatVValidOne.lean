/-
  Of a module that may run, with one thing turned: as the document says.
-/
import Derived.Test.YtjpdadobblffmaaGreatVValidT
import Derived.Test.YtjpdadobblffmaaGreatVA7
namespace Go.Proofs.YtjpdadobblffmaaGreat
open Go.RowKit Go.ChangeShapes Go.WideShapes Go.ChangeAt Go.Deep
set_option linter.unusedSimpArgs false
set_option linter.unusedVariables false
attribute [local irreducible] SW RS RD fH eH
section
variable {r a b c d e f g : Nat}
theorem Nd.to (h:Nd [a,b,c,d,e,f,g]):Nq a b∧Nq a c∧Nq a d∧Nq a e∧Nq a f∧Nq a g∧Nq b c∧Nq b d∧Nq b e∧Nq b f∧Nq b g∧Nq c d∧Nq c e∧Nq c f∧Nq c g∧Nq d e∧Nq d f∧Nq d g∧Nq e f∧Nq e g∧Nq f g:=by
 obtain⟨h1,h2,h3,h4,h5,h6,-⟩:=h;refine⟨h1 _ ?_,h1 _ ?_,h1 _ ?_,h1 _ ?_,h1 _ ?_,h1 _ ?_,h2 _ ?_,h2 _ ?_,h2 _ ?_,h2 _ ?_,h2 _ ?_,h3 _ ?_,h3 _ ?_,h3 _ ?_,h3 _ ?_,h4 _ ?_,h4 _ ?_,h4 _ ?_,h5 _ ?_,h5 _ ?_,h6 _ ?_⟩<;>simp
theorem xY(h1:Nq r a)(h2:Nq r b)(h3:Nq r c)(h4:Nq r d)(h5:Nq r e)(h6:Nq r f)(h7:Nq r g):r∉ [a,b,c,d,e,f,g]:=by
 simp only[List.mem_cons,List.not_mem_nil,or_false,not_or];exact⟨h1,h2,h3,h4,h5,h6,h7⟩
theorem pO:a∈ [a,b,c,d,e,f,g]:=by simp
theorem pP:b∈ [a,b,c,d,e,f,g]:=by simp
theorem uU:c∈ [a,b,c,d,e,f,g]:=by simp
theorem pQ:d∈ [a,b,c,d,e,f,g]:=by simp
theorem pR:e∈ [a,b,c,d,e,f,g]:=by simp
theorem pS:f∈ [a,b,c,d,e,f,g]:=by simp
theorem pT:g∈ [a,b,c,d,e,f,g]:=by simp
end
theorem pU{β:Type}{ok:β→Prop}{st:β→ASt}{s s':ASt}(h:SGo s s')(k:∃b,ok b∧SGo s' (st b)):∃b,ok b∧SGo s (st b):=by
 obtain⟨b,h1,h2⟩:=k;exact⟨b,h1,h.trans h2⟩
theorem ZD:VLe (.agg [.int .i64 0,.ro 0 [] .nil]) (.agg (dX ⟨0,[]⟩)):=by
 refine VLe.agg rfl fun j a a' ha ha'=> ?_
 match j with
 |0=>cases ha;cases ha';exact VLe.refl _
 |1=>cases ha;cases ha';exact VLe.empty
 | _ +2=>cases ha
theorem aGu{x:Int}:VLe (.agg [.int .i64 x,.ro 0 [] .nil]) (.agg (eB ⟨x,[]⟩)):=by
 refine VLe.agg rfl fun j a a' ha ha'=> ?_
 match j with
 |0=>cases ha;cases ha';exact VLe.refl _
 |1=>cases ha;cases ha';exact VLe.empty
 | _ +2=>cases ha
theorem aHg{P:Program}{n:Nat}{fr:Fr}{σ σ':dU}{K:ASt→Prop}{ty t:TypeId}{x y:Operand}{sz by_:Nat}{z:Value}{r off:Nat}{v:AV}(i1:Tz P t sz by_ z)(h:aev ⟨fr,σ⟩ x=some (.ptr r off))(hv:aev ⟨fr,σ⟩ y=some v)(hc:v.cells.all AV.cell=true)(hl:v.cells.length=sz)(hs:SPut σ r off v.cells σ')(hK:K ⟨fr,σ'⟩):Hop P n (.store t x y) ty none ⟨fr,σ⟩ [r] K:=by
 obtain⟨bt,cs,cs',h1,h2⟩:=hs.set;obtain⟨k1,k2⟩:=h1.eq;have:=rT (P:=P) (n:=n) (t:=t) (ty:=ty) (s:=⟨fr,σ⟩) (K:=fun s=>s=⟨fr,zY σ r (.box bt (cs.take off++v.cells++cs.drop (off+sz)))⟩) h h2.get hv hc hl (by omega) rfl;intro M F N a w o ho ht hdst hr next Q hnext
 refine this M F N a w o ho ht hdst hr next Q fun M' F' N' a' w' s' hr' he ho' hs'=> ?_
 subst hs';have hsub:∀p∈σ',p∈zY σ r (.box bt (cs.take off++v.cells++cs.drop (off+sz))):=fun p hp=>by
  rw[hl]at k2;rw[←k2];exact h2.sub p hp
 exact hnext M' F' N' a' w' ⟨fr,σ'⟩ ⟨hr'.size,hr'.defers,hr'.fr,hr'.st.sub hsub⟩ (he.sub hsub) ho' hK
def aDG (s:List Nat):Bool:=decide (s.length≤100000)&&s.all fun c=>decide (c<256)
theorem aDH{s:List Nat}(h:aDG s=true):kW s:=by
 unfold aDG at h;simp only[Bool.and_eq_true,decide_eq_true_eq,List.all_eq_true]at h;exact h
def woB (m:Md):Bool:=(m.im.all fun x=>aDG x.mod&&aDG x.nm)&&(m.ex.all fun x=>aDG x.nm)&&(m.co.all fun c=>decide (c.bd.length≤100000)&&c.bd.all aDp)&&(m.gl.all fun g=>decide (-9223372036854775808≤g.n)&&decide (g.n≤9223372036854775807))&&(m.da.all fun d=>d.bs.all fun c=>decide (c<256))&&decide (m.im.length≤4294967296)
theorem xZ{m:Md}(h:woB m=true):m.WO:=by
 unfold woB at h;simp only[Bool.and_eq_true,decide_eq_true_eq,List.all_eq_true]at h;obtain⟨⟨⟨⟨⟨h1,h2⟩,h3⟩,h4⟩,h5⟩,h6⟩:=h;exact⟨⟨fun x hx=>⟨aDH (h1 x hx).1,aDH (h1 x hx).2⟩,fun x hx=>aDH (h2 x hx),fun c hc=>(h3 c hc).1,h6,h5⟩,⟨fun c hc i hi=>aLj ((h3 c hc).2 i hi),h4⟩⟩
def zB (m:Md):Bool:=decide (m.im.length≤1000000)&&decide (m.fn.length≤1000000)&&decide (m.gl.length≤1000000)&&decide (m.ex.length≤1000000)&&(decide (m.el.length≤1000000)&&m.el.all fun x=>decide (x.fs.length≤1000000))&&(decide (m.co.length≤1000000)&&m.co.all fun x=>decide (x.ls.length≤1000000))&&(decide (m.da.length≤1000000)&&m.da.all fun x=>decide (x.bs.length≤1000000))
theorem UH{m:Md}{ps:List Int}{r:Int}(ht:m.ty=(SV (IX ps) (IY r) []).ty)(h:zB m=true):m.Z:=by
 unfold zB at h;simp only[Bool.and_eq_true,decide_eq_true_eq,List.all_eq_true]at h;obtain⟨⟨⟨⟨⟨⟨h1,h2⟩,h3⟩,h4⟩,h5⟩,h6⟩,h7⟩:=h;have p1:=aJd ps;have p2:=aJe r;refine⟨?_,h1,h2,h3,h4,h5,h6,h7⟩;rw[ht];refine⟨by simp[SV],fun x hx=> ?_⟩;simp only[SV,List.mem_cons,List.not_mem_nil,or_false]at hx;rcases hx with rfl|rfl|rfl|rfl<;>(constructor<;>simp<;>omega)
def EI (ps:List Int):Md:=SV (IX ps) (IY 0) [⟨[],[]⟩,aLb]
theorem yA{p q:Prop}(h:p)(k:q):p∧q:=⟨h,k⟩
def vI (ps:List Int) (x:Int):Md:= { EI ps with im:=[⟨[119],[102],x⟩,⟨[119],[103],1⟩] }
def vF (ps:List Int) (x:Int):Md:= { EI ps with fn:=[0,x] }
def vT (ps:List Int) (x:Int):Md:= { EI ps with tb:=⟨true,4,x⟩ }
def vM (ps:List Int) (x:Int):Md:= { EI ps with me:=⟨true,1,x⟩ }
def bd4:List Ins:=[⟨63,0,0,[]⟩,⟨26,0,0,[]⟩]
def vN (ps:List Int):Md:= { EI ps with me:=⟨false,0,0⟩,co:=[⟨[],bd4⟩,aLb] }
def vE (ps:List Int) (x:Int):Md:= { EI ps with ex:=[⟨[109,97,105,110],x⟩] }
def vX (ps:List Int) (s:List Nat):Md:= { EI ps with ex:=[⟨[109,97,105,110],2⟩,⟨s,0⟩] }
def vL (ps:List Int) (x:Int):Md:= { EI ps with el:=[⟨0,[0,x,3]⟩] }
def vK (ps:List Int) (l:List El):Md:= { EI ps with tb:=IT,el:=l }
def vD (ps:List Int) (x:Int):Md:= { EI ps with da:=[⟨x,[]⟩] }
def bdC (x:Int):List Ins:=[⟨32,b3 x,0,[]⟩]
def vC (ps:List Int) (x:Int):Md:= { EI ps with co:=[⟨[],[]⟩,⟨[],bdC x⟩] }
def vG (ps:List Int) (x:Int):Md:= { EI ps with gl:=[⟨true,b3 x,0⟩,⟨false,2,5⟩] }
theorem aLp(ps:List Int)(x:Int):(vC ps x).WO:=by
 have h:=aFJ x;refine xZ ?_;unfold vC bdC;rcases h with h|h|h|h<;>(rw[h];rfl)
set_option maxHeartbeats 4000000 in
set_option maxRecDepth 100000 in
theorem JF(ps:List Int)(r w x:Int):SCall Tryz.prog 10 [.ro 1 (ps.map aR) .any,.int .i64 r,.int .i64 w,.int .i64 x] [] (fun y σ=>y=.bool true∧σ=[]):=by
 have m1:=aLi x (k:=1100) (by decide);have m2:=aLi w (k:=12) (by decide);obtain⟨⟨m3,m4⟩,m5,m6⟩:=m1;obtain⟨⟨m7,m8⟩,m9,m10⟩:=m2;refine cC 144 [0,2,3,8,9,10,11,12,13,16,27,35,42,48,53,58,73,80,93,102,112,118] Tryz.func10 ?_;(refine aI ?_);refine jH ?_;refine lo (bU (E rfl)) rfl ?_;refine kU ?_;(refine aI ?_);refine jH ?_;refine lS Tryz.call27 HO rfl aU bC ?_;refine lo (bU (E rfl)) rfl ?_;refine kU ?_;(refine aI ?_);refine jH ?_;refine lo (aF (E rfl)) rfl ?_;refine lo (eJ (E rfl)) rfl ?_;refine kU ?_;(refine aI ?_);refine jH ?_;refine lo (aF (E rfl)) rfl ?_;refine cw [] Tryz.call25 (aA1 ps 0) rfl aC aA ?_;rintro _ σ' ⟨q1,q2,q3,q4,q5,q6,q7,hnd,rfl,rfl⟩ h18
 replace hnd:=hnd.to
 (repeat(rcases hnd with⟨_,hnd⟩));unfold aLo aDE;(apply aZ;(exact bN));refine jZ fun r10 h10=> ?_;intros
 apply HW;rfl;rfl;rfl;rfl;exact jU;refine kU ?_;(refine aI ?_);refine jH ?_;refine lo (aF (E rfl)) rfl ?_;refine z22 ?_;refine PR ?_;refine z22 ?_;refine sK ?_;refine lo (bU (E rfl)) rfl ?_;refine kU ?_;(refine aI ?_);generalize(x.tmod 1100+1100).tmod 1100-50=X;refine jH ?_;refine lo (aF (E rfl)) rfl ?_;refine z22 ?_;refine PR ?_;refine z22 ?_;refine kU ?_;refine an ?_;refine UO (β:=Md) (fun b=>⟨[(10,.ptr r10 0)],[(r10,.box 33 (aS b))]⟩) (fun b=>b.WO∧b.Z) ?_ ?_
 ·(refine aI ?_);refine jH ?_;refine lo (cI (E rfl) (E rfl)) rfl ?_;refine lo (bU (E rfl)) rfl ?_;refine kU ?_;(refine aI ?_);refine aB rfl (fun g8=> ?_) (fun g8=> ?_)
  ·(refine aI ?_);refine jH ?_;refine oI ?_;refine rN ?_;refine lo (aF (E rfl)) rfl ?_;refine II ?_;refine yS ?_;refine yT ?_;refine kU ?_;(refine aI ?_);refine pU (jA (r:=r10) (cs':=aS (vI ps X)) [q7,q5,q6,q4,q3,q2,q1] aO (xY (by(exact bA)) (by(exact bA)) (by(exact bA)) (by(exact bA)) (by(exact bA)) (by(exact bA)) (by(exact bA))) (by exact .cons (.refl _) (.cons (bO pT aO rfl) (.cons (bO pS aO rfl) (.cons (.refl _) (.cons (.refl _) (.cons (.refl _) (.cons (.refl _) (.cons (.refl _) (.cons (.refl _) (.cons (bO pR aO rfl) (.cons (bO pQ aO rfl) (.cons (jV pP uU rfl aO aO rfl) (.cons (bO pO aO rfl) (.cons (.refl _) .nil)))))))))))))) _ (fun _ _ h=>h)) ?_;have hM:=yA (xZ (m:=vI ps X) rfl) (UH (m:=vI ps X) (ps:=ps) (r:=0) rfl rfl);exact⟨_,hM,aJ⟩
  (refine aI ?_);refine jH ?_;refine lo (cI (E rfl) (E rfl)) rfl ?_;refine lo (bU (E rfl)) rfl ?_;refine kU ?_;(refine aI ?_);refine aB rfl (fun g10=> ?_) (fun g10=> ?_)
  ·(refine aI ?_);refine jH ?_;refine oI ?_;refine rN ?_;refine lo (aF (E rfl)) rfl ?_;refine II ?_;refine yT ?_;refine kU ?_;(refine aI ?_);refine pU (jA (r:=r10) (cs':=aS (vF ps X)) [q7,q5,q6,q4,q3,q2,q1] aO (xY (by(exact bA)) (by(exact bA)) (by(exact bA)) (by(exact bA)) (by(exact bA)) (by(exact bA)) (by(exact bA))) (by exact .cons (.refl _) (.cons (bO pT aO rfl) (.cons (bO pS aO rfl) (.cons (.refl _) (.cons (.refl _) (.cons (.refl _) (.cons (.refl _) (.cons (.refl _) (.cons (.refl _) (.cons (bO pR aO rfl) (.cons (bO pQ aO rfl) (.cons (jV pP uU rfl aO aO rfl) (.cons (bO pO aO rfl) (.cons (.refl _) .nil)))))))))))))) _ (fun _ _ h=>h)) ?_;have hM:=yA (xZ (m:=vF ps X) rfl) (UH (m:=vF ps X) (ps:=ps) (r:=0) rfl rfl);exact⟨_,hM,aJ⟩
  (refine aI ?_);refine jH ?_;refine lo (cI (E rfl) (E rfl)) rfl ?_;refine lo (bU (E rfl)) rfl ?_;refine kU ?_;(refine aI ?_);refine aB rfl (fun g12=> ?_) (fun g12=> ?_)
  ·(refine aI ?_);refine jH ?_;refine lo (aF (E rfl)) rfl ?_;refine oI ?_;refine oI ?_;apply HW;rfl;rfl;rfl;rfl;exact jU;refine kU ?_;(refine aI ?_);refine pU (jA (r:=r10) (cs':=aS (vT ps X)) [q7,q5,q6,q4,q3,q2,q1] aO (xY (by(exact bA)) (by(exact bA)) (by(exact bA)) (by(exact bA)) (by(exact bA)) (by(exact bA)) (by(exact bA))) (by exact .cons (.refl _) (.cons (bO pT aO rfl) (.cons (bO pS aO rfl) (.cons (.refl _) (.cons (.refl _) (.cons (.refl _) (.cons (.refl _) (.cons (.refl _) (.cons (.refl _) (.cons (bO pR aO rfl) (.cons (bO pQ aO rfl) (.cons (jV pP uU rfl aO aO rfl) (.cons (bO pO aO rfl) (.cons (.refl _) .nil)))))))))))))) _ (fun _ _ h=>h)) ?_;have hM:=yA (xZ (m:=vT ps X) rfl) (UH (m:=vT ps X) (ps:=ps) (r:=0) rfl rfl);exact⟨_,hM,aJ⟩
  (refine aI ?_);refine jH ?_;refine lo (cI (E rfl) (E rfl)) rfl ?_;refine lo (bU (E rfl)) rfl ?_;refine kU ?_;(refine aI ?_);refine aB rfl (fun g14=> ?_) (fun g14=> ?_)
  ·(refine aI ?_);refine jH ?_;refine lo (aF (E rfl)) rfl ?_;refine oI ?_;refine oI ?_;apply HW;rfl;rfl;rfl;rfl;exact jU;refine kU ?_;(refine aI ?_);refine pU (jA (r:=r10) (cs':=aS (vM ps X)) [q7,q5,q6,q4,q3,q2,q1] aO (xY (by(exact bA)) (by(exact bA)) (by(exact bA)) (by(exact bA)) (by(exact bA)) (by(exact bA)) (by(exact bA))) (by exact .cons (.refl _) (.cons (bO pT aO rfl) (.cons (bO pS aO rfl) (.cons (.refl _) (.cons (.refl _) (.cons (.refl _) (.cons (.refl _) (.cons (.refl _) (.cons (.refl _) (.cons (bO pR aO rfl) (.cons (bO pQ aO rfl) (.cons (jV pP uU rfl aO aO rfl) (.cons (bO pO aO rfl) (.cons (.refl _) .nil)))))))))))))) _ (fun _ _ h=>h)) ?_;have hM:=yA (xZ (m:=vM ps X) rfl) (UH (m:=vM ps X) (ps:=ps) (r:=0) rfl rfl);exact⟨_,hM,aJ⟩
  (refine aI ?_);refine jH ?_;refine lo (cI (E rfl) (E rfl)) rfl ?_;refine lo (bU (E rfl)) rfl ?_;refine kU ?_;(refine aI ?_);refine aB rfl (fun g16=> ?_) (fun g16=> ?_)
  ·(refine aI ?_);refine jH ?_;refine oI ?_;refine oI ?_;apply HW;rfl;rfl;rfl;rfl;exact jU;refine oI ?_;refine oI ?_;apply HW;rfl;rfl;rfl;rfl;exact jU;refine oI ?_;refine oI ?_;apply HW;rfl;rfl;rfl;rfl;exact jU;refine kU ?_;(refine aI ?_);refine jH ?_;refine oI ?_;refine rN ?_;refine jY ?_;refine jY ?_;refine eS fun r70 h70=> ?_;intros
   refine iR (j:=70) rfl bH (aM aO (by simp)) ?_;refine jT (eK (j:=70) rfl (zJ (l:=bd4) (by simp[bd4]))) ?_;refine II ?_;refine yS ?_;refine yT ?_;refine kU ?_;(refine aI ?_);refine pU (jA (r:=r10) (cs':=aS (vN ps)) [q7,q5,q6,q4,q3,q2,q1] aO (xY (by(exact bA)) (by(exact bA)) (by(exact bA)) (by(exact bA)) (by(exact bA)) (by(exact bA)) (by(exact bA))) (by exact .cons (.refl _) (.cons (bO pT aO rfl) (.cons (bO pS aO rfl) (.cons (.refl _) (.cons (.refl _) (.cons (.refl _) (.cons (.refl _) (.cons (.refl _) (.cons (.refl _) (.cons (bO pR aO rfl) (.cons (bO pQ aO rfl) (.cons (jV pP uU rfl aO aO rfl) (.cons (bO pO aO rfl) (.cons (.refl _) .nil)))))))))))))) _ (fun _ _ h=>h)) ?_;have hM:=yA (xZ (m:=vN ps) rfl) (UH (m:=vN ps) (ps:=ps) (r:=0) rfl rfl);exact⟨_,hM,aJ⟩
  (refine aI ?_);refine jH ?_;refine lo (cI (E rfl) (E rfl)) rfl ?_;refine lo (bU (E rfl)) rfl ?_;refine kU ?_;(refine aI ?_);refine aB rfl (fun g19=> ?_) (fun g19=> ?_)
  ·(refine aI ?_);refine jH ?_;refine oI ?_;refine rN ?_;refine lo (aF (E rfl)) rfl ?_;refine II ?_;refine yS ?_;refine yT ?_;refine kU ?_;(refine aI ?_);refine pU (jA (r:=r10) (cs':=aS (vE ps X)) [q7,q5,q6,q4,q3,q2,q1] aO (xY (by(exact bA)) (by(exact bA)) (by(exact bA)) (by(exact bA)) (by(exact bA)) (by(exact bA)) (by(exact bA))) (by exact .cons (.refl _) (.cons (bO pT aO rfl) (.cons (bO pS aO rfl) (.cons (.refl _) (.cons (.refl _) (.cons (.refl _) (.cons (.refl _) (.cons (.refl _) (.cons (.refl _) (.cons (bO pR aO rfl) (.cons (bO pQ aO rfl) (.cons (jV pP uU rfl aO aO rfl) (.cons (bO pO aO rfl) (.cons (.refl _) .nil)))))))))))))) _ (fun _ _ h=>h)) ?_;have hM:=yA (xZ (m:=vE ps X) rfl) (UH (m:=vE ps X) (ps:=ps) (r:=0) rfl rfl);exact⟨_,hM,aJ⟩
  (refine aI ?_);refine jH ?_;refine lo (cI (E rfl) (E rfl)) rfl ?_;refine lo (bU (E rfl)) rfl ?_;refine kU ?_;(refine aI ?_);refine aB rfl (fun g21=> ?_) (fun g21=> ?_)
  ·(refine aI ?_);rcases WB X with hb|hb
   ·unfold b1 at hb;refine fK [(0,true),(1,true),(3,true),(4,true),(2,false),(5,true),(6,true),(7,true),(8,false),(9,false),(10,true),(11,false)] ?_;refine zP ?_;refine z74 ?_;refine fY rfl (aF (E rfl)) rfl ?_;refine fY rfl (gM (E rfl) (E rfl)) rfl ?_;refine CA fun r84 h84=> ?_;intros
    rw[hb];refine HY ?_;refine JP ?_;refine IJ ?_;refine CA fun r90 h90=> ?_;intros
    refine eX rfl ((([⟨[109,97,105,110],2⟩,⟨[109,97,105,110],0⟩]:List Ex)).map dH) (([⟨[109,97,105,110],2⟩,⟨[109,97,105,110],0⟩]:List Ex)).length ?_;refine bL fun r91 h91=> ?_;intros
    refine zP ?_;refine HZ ?_;refine yR ?_;(refine aI ?_);refine pU (jA (r:=r10) (cs':=aS (vX ps [109,97,105,110])) [q7,q5,q6,r91,q3,q2,q1] aO (xY (by(exact bA)) (by(exact bA)) (by(exact bA)) (by(exact bA)) (by(exact bA)) (by(exact bA)) (by(exact bA))) (by exact .cons (.refl _) (.cons (bO pT aO rfl) (.cons (bO pS aO rfl) (.cons (.refl _) (.cons (.refl _) (.cons (.refl _) (.cons (.refl _) (.cons (.refl _) (.cons (.refl _) (.cons (bO pR aO rfl) (.cons (bO pQ aO rfl) (.cons (jV pP uU rfl aO aO rfl) (.cons (bO pO aO rfl) (.cons (.refl _) .nil)))))))))))))) _ (fun _ _ h=>h)) ?_;have hM:=yA (xZ (m:=vX ps [109,97,105,110]) rfl) (UH (m:=vX ps [109,97,105,110]) (ps:=ps) (r:=0) rfl rfl);exact⟨_,hM,aJ⟩
   ·unfold b1 at hb;refine fK [(0,true),(1,true),(3,true),(4,true),(2,false),(5,true),(6,true),(7,true),(8,false),(9,false),(10,true),(11,false)] ?_;refine zP ?_;refine z74 ?_;refine fY rfl (aF (E rfl)) rfl ?_;refine fY rfl (gM (E rfl) (E rfl)) rfl ?_;refine z97 ?_;refine bI fun r84 h84=> ?_;(repeat(rcases h84 with⟨_,h84⟩))
    rw[hb];refine HY ?_;refine JP ?_;refine IJ ?_;refine z97 ?_;refine bI fun r90 h90=> ?_;(repeat(rcases h90 with⟨_,h90⟩))
    refine eX rfl ((([⟨[109,97,105,110],2⟩,⟨[111,116,104,101,114],0⟩]:List Ex)).map dH) (([⟨[109,97,105,110],2⟩,⟨[111,116,104,101,114],0⟩]:List Ex)).length ?_;refine bL fun r91 h91=> ?_;intros
    refine zP ?_;refine HZ ?_;refine yR ?_;(refine aI ?_);refine pU (jA (r:=r10) (cs':=aS (vX ps [111,116,104,101,114])) [q7,q5,q6,r91,q3,q2,q1] aO (xY (by(exact bA)) (by(exact bA)) (by(exact bA)) (by(exact bA)) (by(exact bA)) (by(exact bA)) (by(exact bA))) (by exact .cons (.refl _) (.cons (bO pT aO rfl) (.cons (bO pS aO rfl) (.cons (.refl _) (.cons (.refl _) (.cons (.refl _) (.cons (.refl _) (.cons (.refl _) (.cons (.refl _) (.cons (bO pR aO rfl) (.cons (bO pQ aO rfl) (.cons (jV pP uU rfl aO aO rfl) (.cons (bO pO aO rfl) (.cons (.refl _) .nil)))))))))))))) _ (fun _ _ h=>h)) ?_;have hM:=yA (xZ (m:=vX ps [111,116,104,101,114]) rfl) (UH (m:=vX ps [111,116,104,101,114]) (ps:=ps) (r:=0) rfl rfl);exact⟨_,hM,aJ⟩
  (refine aI ?_);refine jH ?_;refine lo (cI (E rfl) (E rfl)) rfl ?_;refine lo (bU (E rfl)) rfl ?_;refine kU ?_;(refine aI ?_);refine aB rfl (fun g23=> ?_) (fun g23=> ?_)
  ·(refine aI ?_);refine jH ?_;refine oI ?_;refine rN ?_;refine II ?_;refine yS ?_;refine z16 ?_;refine lo (aF (E rfl)) rfl ?_;refine II ?_;refine yT ?_;refine kU ?_;(refine aI ?_);refine pU (jA (r:=r10) (cs':=aS (vL ps X)) [q7,q5,q6,q4,q3,q2,q1] aO (xY (by(exact bA)) (by(exact bA)) (by(exact bA)) (by(exact bA)) (by(exact bA)) (by(exact bA)) (by(exact bA))) (by exact .cons (.refl _) (.cons (bO pT aO rfl) (.cons (bO pS aO rfl) (.cons (.refl _) (.cons (.refl _) (.cons (.refl _) (.cons (.refl _) (.cons (.refl _) (.cons (.refl _) (.cons (bO pR aO rfl) (.cons (bO pQ aO rfl) (.cons (jV pP uU rfl aO aO rfl) (.cons (bO pO aO rfl) (.cons (.refl _) .nil)))))))))))))) _ (fun _ _ h=>h)) ?_;have hM:=yA (xZ (m:=vL ps X) rfl) (UH (m:=vL ps X) (ps:=ps) (r:=0) rfl rfl);exact⟨_,hM,aJ⟩
  (refine aI ?_);refine jH ?_;refine lo (cI (E rfl) (E rfl)) rfl ?_;refine lo (bU (E rfl)) rfl ?_;refine kU ?_;(refine aI ?_);refine aB rfl (fun g25=> ?_) (fun g25=> ?_)
  ·(refine aI ?_);rcases WB X with hb|hb
   ·unfold b1 at hb;refine fK [(0,true),(1,true),(3,true),(4,true),(6,true),(10,false),(10,false),(10,false),(10,false),(10,false)] ?_;refine IJ ?_;refine IJ ?_;refine fY rfl (aF (E rfl)) rfl ?_;refine fY rfl (gM (E rfl) (E rfl)) rfl ?_;refine aCN (eK (j:=105) rfl ZD) ?_;refine zP ?_;refine iC 2 7 [(5,true),(7,false),(8,true),(9,false)] [(2,false),(5,true),(8,true),(9,false)] (f1:=[]) (f2:=[r10]) (by kernel_rfl) rfl rfl ?_ ?_ (.inl rfl) (.inr ⟨by simp,fS⟩)
    ·apply uP;infer_instance;infer_instance;exact qN;rfl;rfl;rfl;rfl;exact wA;rfl;refine kE fun r106 h106=> ?_;intros
     rw[hb];refine UD ?_;refine HZ ?_;refine zP ?_;refine HZ ?_;refine yR ?_;(refine aI ?_);refine pU (jA (r:=r10) (cs':=aS (vK ps [])) [q7,r106,q6,q4,q3,q2,q1] aO (xY (by(exact bA)) (by(exact bA)) (by(exact bA)) (by(exact bA)) (by(exact bA)) (by(exact bA)) (by(exact bA))) (by exact .cons (.refl _) (.cons (bO pT aO rfl) (.cons (bO pS aO rfl) (.cons (.refl _) (.cons (.refl _) (.cons (.refl _) (.cons (.refl _) (.cons (.refl _) (.cons (.refl _) (.cons (bO pR aO rfl) (.cons (bO pQ aO rfl) (.cons (Bor.own pP aO (by simp)) (.cons (bO pO aO rfl) (.cons (.refl _) .nil)))))))))))))) _ (fun _ _ h=>h)) ?_;have hM:=yA (xZ (m:=vK ps []) rfl) (UH (m:=vK ps []) (ps:=ps) (r:=0) rfl rfl);exact⟨_,hM,aJ⟩
    ·apply aHg;infer_instance;rfl;rfl;rfl;rfl;exact jU;refine z97 ?_;refine bI fun r106 h106=> ?_;(repeat(rcases h106 with⟨_,h106⟩))
     rw[hb];refine UD ?_;refine zP ?_;refine HZ ?_;refine yR ?_;(refine aI ?_);refine pU (jA (r:=r10) (cs':=aS (vK ps [])) [q7,r106,q6,q4,q3,q2,q1] aO (xY (by(exact bA)) (by(exact bA)) (by(exact bA)) (by(exact bA)) (by(exact bA)) (by(exact bA)) (by(exact bA))) (by exact .cons (.refl _) (.cons (bO pT aO rfl) (.cons (bO pS aO rfl) (.cons (.refl _) (.cons (.refl _) (.cons (.refl _) (.cons (.refl _) (.cons (.refl _) (.cons (.refl _) (.cons (bO pR aO rfl) (.cons (bO pQ aO rfl) (.cons (Bor.own pP aO (by simp)) (.cons (bO pO aO rfl) (.cons (.refl _) .nil)))))))))))))) _ (fun _ _ h=>h)) ?_;have hM:=yA (xZ (m:=vK ps []) rfl) (UH (m:=vK ps []) (ps:=ps) (r:=0) rfl rfl);exact⟨_,hM,aJ⟩
   ·unfold b1 at hb;refine fK [(0,true),(1,true),(3,true),(4,true),(6,true),(10,false),(10,false),(10,false),(10,false),(10,false)] ?_;refine IJ ?_;refine IJ ?_;refine fY rfl (aF (E rfl)) rfl ?_;refine fY rfl (gM (E rfl) (E rfl)) rfl ?_;refine aCN (eK (j:=105) rfl ZD) ?_;refine zP ?_;refine iC 2 7 [(5,true),(7,false),(8,true),(9,false)] [(2,false),(5,true),(8,true),(9,false)] (f1:=[]) (f2:=[r10]) (by kernel_rfl) rfl rfl ?_ ?_ (.inl rfl) (.inr ⟨by simp,fS⟩)
    ·apply uP;infer_instance;infer_instance;exact qN;rfl;rfl;rfl;rfl;exact wA;rfl;refine bI fun r106 h106=> ?_;(repeat(rcases h106 with⟨_,h106⟩))
     rw[hb];refine UD ?_;refine HZ ?_;refine zP ?_;refine HZ ?_;refine yR ?_;(refine aI ?_);refine pU (jA (r:=r10) (cs':=aS (vK ps [⟨0,[]⟩])) [q7,r106,q6,q4,q3,q2,q1] aO (xY (by(exact bA)) (by(exact bA)) (by(exact bA)) (by(exact bA)) (by(exact bA)) (by(exact bA)) (by(exact bA))) (by exact .cons (.refl _) (.cons (bO pT aO rfl) (.cons (bO pS aO rfl) (.cons (.refl _) (.cons (.refl _) (.cons (.refl _) (.cons (.refl _) (.cons (.refl _) (.cons (.refl _) (.cons (bO pR aO rfl) (.cons (bO pQ aO rfl) (.cons (bO pP aO rfl) (.cons (bO pO aO rfl) (.cons (.refl _) .nil)))))))))))))) _ (fun _ _ h=>h)) ?_;have hM:=yA (xZ (m:=vK ps [⟨0,[]⟩]) rfl) (UH (m:=vK ps [⟨0,[]⟩]) (ps:=ps) (r:=0) rfl rfl);exact⟨_,hM,aJ⟩
    ·apply aHg;infer_instance;rfl;rfl;rfl;rfl;exact jU;refine z97 ?_;refine bI fun r106 h106=> ?_;(repeat(rcases h106 with⟨_,h106⟩))
     rw[hb];refine UD ?_;refine zP ?_;refine HZ ?_;refine yR ?_;(refine aI ?_);refine pU (jA (r:=r10) (cs':=aS (vK ps [⟨0,[]⟩])) [q7,r106,q6,q4,q3,q2,q1] aO (xY (by(exact bA)) (by(exact bA)) (by(exact bA)) (by(exact bA)) (by(exact bA)) (by(exact bA)) (by(exact bA))) (by exact .cons (.refl _) (.cons (bO pT aO rfl) (.cons (bO pS aO rfl) (.cons (.refl _) (.cons (.refl _) (.cons (.refl _) (.cons (.refl _) (.cons (.refl _) (.cons (.refl _) (.cons (bO pR aO rfl) (.cons (bO pQ aO rfl) (.cons (bO pP aO rfl) (.cons (bO pO aO rfl) (.cons (.refl _) .nil)))))))))))))) _ (fun _ _ h=>h)) ?_;have hM:=yA (xZ (m:=vK ps [⟨0,[]⟩]) rfl) (UH (m:=vK ps [⟨0,[]⟩]) (ps:=ps) (r:=0) rfl rfl);exact⟨_,hM,aJ⟩
  (refine aI ?_);refine jH ?_;refine lo (cI (E rfl) (E rfl)) rfl ?_;refine lo (bU (E rfl)) rfl ?_;refine kU ?_;(refine aI ?_);refine aB rfl (fun g27=> ?_) (fun g27=> ?_)
  ·(refine aI ?_);refine jH ?_;refine lo (aF (E rfl)) rfl ?_;refine jY ?_;refine jT (eK (j:=115) rfl aGu) ?_;refine eS fun r116 h116=> ?_;intros
   refine oI ?_;refine iR (j:=116) rfl bH (aM aO (by simp)) ?_;apply HW;rfl;rfl;rfl;rfl;exact jU;refine kU ?_;(refine aI ?_);refine pU (jA (r:=r10) (cs':=aS (vD ps X)) [q7,q5,q6,q4,q3,q2,q1] aO (xY (by(exact bA)) (by(exact bA)) (by(exact bA)) (by(exact bA)) (by(exact bA)) (by(exact bA)) (by(exact bA))) (by exact .cons (.refl _) (.cons (bO pT aO rfl) (.cons (bO pS aO rfl) (.cons (.refl _) (.cons (.refl _) (.cons (.refl _) (.cons (.refl _) (.cons (.refl _) (.cons (.refl _) (.cons (bO pR aO rfl) (.cons (bO pQ aO rfl) (.cons (jV pP uU rfl aO aO rfl) (.cons (bO pO aO rfl) (.cons (.refl _) .nil)))))))))))))) _ (fun _ _ h=>h)) ?_;have hM:=yA (xZ (m:=vD ps X) rfl) (UH (m:=vD ps X) (ps:=ps) (r:=0) rfl rfl);exact⟨_,hM,aJ⟩
  (refine aI ?_);refine jH ?_;refine lo (cI (E rfl) (E rfl)) rfl ?_;refine lo (bU (E rfl)) rfl ?_;refine kU ?_;(refine aI ?_);refine aB rfl (fun g29=> ?_) (fun g29=> ?_)
  ·(refine aI ?_);refine jH ?_;refine oI ?_;refine rN ?_;refine lo (aF (E rfl)) rfl ?_;refine lo (gM (E rfl) (E rfl)) rfl ?_;refine jY ?_;refine eS fun r125 h125=> ?_;intros
   refine iR (j:=125) rfl bH (aM aO (by simp)) ?_;refine jT (eK (j:=125) rfl (zJ (l:=bdC X) (by simp[bdC]))) ?_;refine II ?_;refine yS ?_;refine yT ?_;refine kU ?_;(refine aI ?_);refine pU (jA (r:=r10) (cs':=aS (vC ps X)) [q7,q5,q6,q4,q3,q2,q1] aO (xY (by(exact bA)) (by(exact bA)) (by(exact bA)) (by(exact bA)) (by(exact bA)) (by(exact bA)) (by(exact bA))) (by exact .cons (.refl _) (.cons (bO pT aO rfl) (.cons (bO pS aO rfl) (.cons (.refl _) (.cons (.refl _) (.cons (.refl _) (.cons (.refl _) (.cons (.refl _) (.cons (.refl _) (.cons (bO pR aO rfl) (.cons (bO pQ aO rfl) (.cons (jV pP uU rfl aO aO rfl) (.cons (bO pO aO rfl) (.cons (.refl _) .nil)))))))))))))) _ (fun _ _ h=>h)) ?_;have hM:=yA (aLp ps X) (UH (m:=vC ps X) (ps:=ps) (r:=0) rfl rfl);exact⟨_,hM,aJ⟩
  (refine aI ?_);refine jH ?_;refine oI ?_;refine rN ?_;refine lo (aF (E rfl)) rfl ?_;refine lo (gM (E rfl) (E rfl)) rfl ?_;refine II ?_;refine yS ?_;refine yS ?_;refine yT ?_;refine kU ?_;(refine aI ?_);refine pU (jA (r:=r10) (cs':=aS (vG ps X)) [q7,q5,q6,q4,q3,q2,q1] aO (xY (by(exact bA)) (by(exact bA)) (by(exact bA)) (by(exact bA)) (by(exact bA)) (by(exact bA)) (by(exact bA))) (by exact .cons (.refl _) (.cons (bO pT aO rfl) (.cons (bO pS aO rfl) (.cons (.refl _) (.cons (.refl _) (.cons (.refl _) (.cons (.refl _) (.cons (.refl _) (.cons (.refl _) (.cons (bO pR aO rfl) (.cons (bO pQ aO rfl) (.cons (jV pP uU rfl aO aO rfl) (.cons (bO pO aO rfl) (.cons (.refl _) .nil)))))))))))))) _ (fun _ _ h=>h)) ?_;have hM:=yA (xZ (m:=vG ps X) rfl) (UH (m:=vG ps X) (ps:=ps) (r:=0) rfl rfl);exact⟨_,hM,aJ⟩
 rintro A ⟨wa,za⟩;(refine aI ?_);refine jH ?_;refine mP ?_;refine lS Tryz.call28 (nK A wa za) rfl aU bC ?_;refine lo (aF (E rfl)) rfl ?_;refine lo (gT (E rfl) rfl) rfl ?_;refine lo (gT (E rfl) rfl) rfl ?_;refine lo (bU (E rfl)) rfl ?_;refine lo (bU (E rfl)) rfl ?_;refine kU ?_;(refine aI ?_);refine jH ?_;refine mP ?_;refine lS Tryz.call29 (HN A wa za) rfl aU bC ?_;refine lo (bU (E rfl)) rfl ?_;refine kU ?_;(refine aI ?_);refine jH ?_;refine lo (aF (E rfl)) rfl ?_;refine lo (aF (E rfl)) rfl ?_;refine lo (cI (E rfl) (E rfl)) rfl ?_;rw[show(gY A==gY A)=true by simp];refine lo (aF (E rfl)) rfl ?_;refine nW ?_;refine nW ?_;refine sL ?_;first|refine ln rfl rfl rfl rfl ?_ |(refine gy rfl rfl ?_;refine lo (zV (by first|exact W rfl id|exact E rfl) (by first|exact W rfl id|exact E rfl)) rfl ?_)|refine lg rfl rfl (zV (by first|exact W rfl id|exact E rfl) (by first|exact W rfl id|exact E rfl)) rfl ?_
 refine uX ?_;refine lo (bU (E rfl)) rfl ?_;refine kU ?_;(refine aI ?_);(apply aD;(exact aE))
 ·exact⟨by simp[gC],rfl⟩
 ·exact aA
theorem JG(ps:List Int)(r w x:Int):SCall Tryz.prog 10 [.ro 1 (ps.map aR) .any,.int .i64 r,.int .i64 w,.int .i64 x] [] (fun y _=>y=.bool true):=(JF ps r w x).mono fun _ _ h=>h.1
end Go.Proofs.YtjpdadobblffmaaGreat
