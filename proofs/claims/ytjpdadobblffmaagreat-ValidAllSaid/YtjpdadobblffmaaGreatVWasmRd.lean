/-
  How modules are read.
-/
import Derived.Test.YtjpdadobblffmaaGreatVA6
import Derived.Test.YtjpdadobblffmaaGreatVA7
namespace Go.Proofs.YtjpdadobblffmaaGreat
open Go.RowKit Go.ChangeShapes Go.WideShapes Go.ChangeAt Go.Deep
set_option linter.unusedSimpArgs false
set_option linter.unusedVariables false
theorem lB{P:Program}{t:TypeId}{α β:Type}{sz:Nat}{en:α→List AV}{ok:α→Prop}(h:RdA P t α sz en ok)(f:α→β)(en2:β→List AV)(ok2:β→Prop)(hsh:∀b,(en2 b).length=sz∧∀x∈en2 b,x.cell=true)(he:∀a,ok a→en2 (f a)=en a)(hk:∀a,ok a→ok2 (f a)):RdA P t β sz en2 ok2:=
 ⟨h.cells,hsh,fun H enc W fuel cs x hx=>by
  obtain⟨a,h1,h2,h3⟩:=h.read H enc W fuel cs x hx;exact⟨f a,hk a h1,h2,by rw[he a h1];exact h3⟩⟩
def zO (s:List Nat):Prop:=s.length≤maxLen∧∀c∈s,c<256
theorem aGa(b:ByteArray):dE (b.data.toList.map UInt8.toNat)=b:=by
 cases b with
 |mk d=>
  unfold dE
  congr 1
  rw[List.map_map,show UInt8.ofNat ∘ UInt8.toNat=id from funext fun u=>UInt8.ofNat_toNat,List.map_id]
theorem NU:RdA Tryz.prog 9 (List Nat) 1 (fun s=>[.str (dE s)]) zO:=
 lB (aEs (t:=9) rfl) (fun b:ByteArray=>b.data.toList.map UInt8.toNat) _ _ (fun b=>⟨rfl,by simp[AV.cell]⟩) (fun b _=>by rw[aGa]) (fun b hb=>⟨by rw[List.length_map,Array.length_toList];exact hb,fun c hc=>by
  obtain⟨u,-,rfl⟩:=List.mem_map.1 hc;exact u.toNat_lt⟩)
theorem aGb:RdA Tryz.prog 36 (List Nat) 1 (fun l=>[.ro 1 (l.map aH) .any]) zO:=
 lB aEv (fun l:List Int=>l.map Int.toNat) _ _ (fun b=>⟨rfl,by simp[AV.cell]⟩) (fun l hl=>by rw[KC fun a ha=>aGL (hl.2 a ha)]) (fun l hl=>⟨by simpa using hl.1,fun c hc=>by
  obtain⟨a,ha,rfl⟩:=List.mem_map.1 hc;have:=aGL (hl.2 a ha);omega⟩)
theorem aHf:RdA Tryz.prog 4 Bool 1 (fun b=>[.bool b]) (fun _=>True):=aBV (t:=4) rfl
abbrev oX (l:List Int):Prop:=l.length≤maxLen∧∀a∈l,oZ a
abbrev aDA (l:List Ins):Prop:=l.length≤maxLen∧∀x∈l,x.Wf
theorem aA0:RdA Tryz.prog 71 (Int×Int) 2 (fun p:Int×Int=>(fun n:Int=>[.int .i64 n]) p.1++(fun n:Int=>[.int .i64 n]) p.2) (fun p:Int×Int=>oZ p.1∧oZ p.2):=by
 refine iA ?_;refine eT (f:=⟨_,_,_,_,_,_,_⟩) (sz':=1) (en:=(fun n:Int=>[.int .i64 n])) (ok:=oZ) (en':=(fun n:Int=>[.int .i64 n])) (ok':=oZ) DL rfl ?_;exact nH MH rfl
theorem aGc:RdA Tryz.prog 71 (Int×Int) 2 (fun p:Int×Int=>[.int .i64 p.1,.int .i64 p.2]) (fun p:Int×Int=>oZ p.1∧oZ p.2):=aA0
def FT.R (x:FT):Prop:=oX x.pr∧oX x.rs
def Im.R (x:Im):Prop:=zO x.mod∧zO x.nm∧oZ x.ty
def Gl.R (x:Gl):Prop:=oZ x.kd∧oZ x.n
def Ex.R (x:Ex):Prop:=zO x.nm∧oZ x.fn
def El.R (x:El):Prop:=oZ x.off∧oX x.fs
def Co.R (x:Co):Prop:=oX x.ls∧aDA x.bd
def Da.R (x:Da):Prop:=oZ x.off∧zO x.bs
def Li.R (x:Li):Prop:=oZ x.mn∧oZ x.mx
theorem aGd:RdA Tryz.prog 50 ((List Int)×(List Int)) 2 (fun p:(List Int)×(List Int)=>(fun l:List Int=>[.ro 1 (l.map aR) .any]) p.1++(fun l:List Int=>[.ro 1 (l.map aR) .any]) p.2) (fun p:(List Int)×(List Int)=>oX p.1∧oX p.2):=by
 refine iA ?_;refine eT (f:=⟨_,_,_,_,_,_,_⟩) (sz':=1) (en:=(fun l:List Int=>[.ro 1 (l.map aR) .any])) (ok:=oX) (en':=(fun l:List Int=>[.ro 1 (l.map aR) .any])) (ok':=oX) qU rfl ?_;exact nH qU rfl
theorem aJh:RdA Tryz.prog 50 FT 2 cP FT.R:=by
 refine lB aGd (fun p:(List Int)×(List Int)=>⟨p.1,p.2⟩) _ _ (fun b=>⟨rfl,by simp[cP,AV.cell]⟩) (fun a _=>rfl) (fun p hp=> ?_);exact⟨hp.1,hp.2⟩
theorem aGe:RdA Tryz.prog 64 ((List Nat)×(List Nat)×Int) 3 (fun p:(List Nat)×(List Nat)×Int=>(fun s:List Nat=>[.str (dE s)]) p.1++(fun p:(List Nat)×Int=>(fun s:List Nat=>[.str (dE s)]) p.1++(fun n:Int=>[.int .i64 n]) p.2) p.2) (fun p:(List Nat)×(List Nat)×Int=>zO p.1∧(fun p:(List Nat)×Int=>zO p.1∧oZ p.2) p.2):=by
 refine iA ?_;refine eT (f:=⟨_,_,_,_,_,_,_⟩) (sz':=2) (en:=(fun s:List Nat=>[.str (dE s)])) (ok:=zO) (en':=(fun p:(List Nat)×Int=>(fun s:List Nat=>[.str (dE s)]) p.1++(fun n:Int=>[.int .i64 n]) p.2)) (ok':=(fun p:(List Nat)×Int=>zO p.1∧oZ p.2)) NU rfl ?_;refine eT (f:=⟨_,_,_,_,_,_,_⟩) (sz':=1) (en:=(fun s:List Nat=>[.str (dE s)])) (ok:=zO) (en':=(fun n:Int=>[.int .i64 n])) (ok':=oZ) NU rfl ?_;exact nH DL rfl
theorem aJi:RdA Tryz.prog 64 Im 3 eE Im.R:=by
 refine lB aGe (fun p:(List Nat)×(List Nat)×Int=>⟨p.1,p.2.1,p.2.2⟩) _ _ (fun b=>⟨rfl,by simp[eE,AV.cell]⟩) (fun a _=>rfl) (fun p hp=> ?_);exact⟨hp.1,hp.2.1,hp.2.2⟩
theorem aGf:RdA Tryz.prog 73 (Bool×(Int×Int)) 3 (fun p:Bool×(Int×Int)=>(fun b:Bool=>[.bool b]) p.1++(fun p:Int×Int=>[.int .i64 p.1,.int .i64 p.2]) p.2) (fun p:Bool×(Int×Int)=>(fun _=>True) p.1∧(fun p:Int×Int=>oZ p.1∧oZ p.2) p.2):=by
 refine iA ?_;refine eT (f:=⟨_,_,_,_,_,_,_⟩) (sz':=2) (en:=(fun b:Bool=>[.bool b])) (ok:=(fun _=>True)) (en':=(fun p:Int×Int=>[.int .i64 p.1,.int .i64 p.2])) (ok':=(fun p:Int×Int=>oZ p.1∧oZ p.2)) aHf rfl ?_;exact nH aGc rfl
theorem aJj:RdA Tryz.prog 73 Gl 3 eA Gl.R:=by
 refine lB aGf (fun p:Bool×(Int×Int)=>⟨p.1,(p.2).1,(p.2).2⟩) _ _ (fun b=>⟨rfl,by simp[eA,AV.cell]⟩) (fun a _=>rfl) (fun p hp=> ?_);exact⟨hp.2.1,hp.2.2⟩
theorem aGg:RdA Tryz.prog 66 ((List Nat)×Int) 2 (fun p:(List Nat)×Int=>(fun s:List Nat=>[.str (dE s)]) p.1++(fun n:Int=>[.int .i64 n]) p.2) (fun p:(List Nat)×Int=>zO p.1∧oZ p.2):=by
 refine iA ?_;refine eT (f:=⟨_,_,_,_,_,_,_⟩) (sz':=1) (en:=(fun s:List Nat=>[.str (dE s)])) (ok:=zO) (en':=(fun n:Int=>[.int .i64 n])) (ok':=oZ) NU rfl ?_;exact nH DL rfl
theorem aJk:RdA Tryz.prog 66 Ex 2 dH Ex.R:=by
 refine lB aGg (fun p:(List Nat)×Int=>⟨p.1,p.2⟩) _ _ (fun b=>⟨rfl,by simp[dH,AV.cell]⟩) (fun a _=>rfl) (fun p hp=> ?_);exact⟨hp.1,hp.2⟩
theorem aGh:RdA Tryz.prog 69 (Int×(List Int)) 2 (fun p:Int×(List Int)=>(fun n:Int=>[.int .i64 n]) p.1++(fun l:List Int=>[.ro 1 (l.map aR) .any]) p.2) (fun p:Int×(List Int)=>oZ p.1∧oX p.2):=by
 refine iA ?_;refine eT (f:=⟨_,_,_,_,_,_,_⟩) (sz':=1) (en:=(fun n:Int=>[.int .i64 n])) (ok:=oZ) (en':=(fun l:List Int=>[.ro 1 (l.map aR) .any])) (ok':=oX) DL rfl ?_;exact nH qU rfl
theorem aJl:RdA Tryz.prog 69 El 2 dX El.R:=by
 refine lB aGh (fun p:Int×(List Int)=>⟨p.1,p.2⟩) _ _ (fun b=>⟨rfl,by simp[dX,AV.cell]⟩) (fun a _=>rfl) (fun p hp=> ?_);exact⟨hp.1,hp.2⟩
theorem aGi:RdA Tryz.prog 44 ((List Int)×(List Ins)) 2 (fun p:(List Int)×(List Ins)=>(fun l:List Int=>[.ro 1 (l.map aR) .any]) p.1++(fun l:List Ins=>[.ro 4 (l.map (iv .any)) .any]) p.2) (fun p:(List Int)×(List Ins)=>oX p.1∧aDA p.2):=by
 refine iA ?_;refine eT (f:=⟨_,_,_,_,_,_,_⟩) (sz':=1) (en:=(fun l:List Int=>[.ro 1 (l.map aR) .any])) (ok:=oX) (en':=(fun l:List Ins=>[.ro 4 (l.map (iv .any)) .any])) (ok':=aDA) qU rfl ?_;exact nH aBY rfl
theorem aJm:RdA Tryz.prog 44 Co 2 dP Co.R:=by
 refine lB aGi (fun p:(List Int)×(List Ins)=>⟨p.1,p.2⟩) _ _ (fun b=>⟨rfl,by simp[dP,AV.cell]⟩) (fun a _=>rfl) (fun p hp=> ?_);exact⟨hp.1,hp.2⟩
theorem aGj:RdA Tryz.prog 48 (Int×(List Nat)) 2 (fun p:Int×(List Nat)=>(fun n:Int=>[.int .i64 n]) p.1++(fun l:List Nat=>[.ro 1 (l.map aH) .any]) p.2) (fun p:Int×(List Nat)=>oZ p.1∧zO p.2):=by
 refine iA ?_;refine eT (f:=⟨_,_,_,_,_,_,_⟩) (sz':=1) (en:=(fun n:Int=>[.int .i64 n])) (ok:=oZ) (en':=(fun l:List Nat=>[.ro 1 (l.map aH) .any])) (ok':=zO) DL rfl ?_;exact nH aGb rfl
theorem aJn:RdA Tryz.prog 48 Da 2 eB Da.R:=by
 refine lB aGj (fun p:Int×(List Nat)=>⟨p.1,p.2⟩) _ _ (fun b=>⟨rfl,by simp[eB,AV.cell]⟩) (fun a _=>rfl) (fun p hp=> ?_);exact⟨hp.1,hp.2⟩
theorem aGk:RdA Tryz.prog 26 (Bool×Int×Int) 3 (fun p:Bool×Int×Int=>(fun b:Bool=>[.bool b]) p.1++(fun p:Int×Int=>(fun n:Int=>[.int .i64 n]) p.1++(fun n:Int=>[.int .i64 n]) p.2) p.2) (fun p:Bool×Int×Int=>(fun _=>True) p.1∧(fun p:Int×Int=>oZ p.1∧oZ p.2) p.2):=by
 refine iA ?_;refine eT (f:=⟨_,_,_,_,_,_,_⟩) (sz':=2) (en:=(fun b:Bool=>[.bool b])) (ok:=(fun _=>True)) (en':=(fun p:Int×Int=>(fun n:Int=>[.int .i64 n]) p.1++(fun n:Int=>[.int .i64 n]) p.2)) (ok':=(fun p:Int×Int=>oZ p.1∧oZ p.2)) aHf rfl ?_;refine eT (f:=⟨_,_,_,_,_,_,_⟩) (sz':=1) (en:=(fun n:Int=>[.int .i64 n])) (ok:=oZ) (en':=(fun n:Int=>[.int .i64 n])) (ok':=oZ) DL rfl ?_;exact nH DL rfl
theorem aDB:RdA Tryz.prog 26 Li 3 fA Li.R:=by
 refine lB aGk (fun p:Bool×Int×Int=>⟨p.1,p.2.1,p.2.2⟩) _ _ (fun b=>⟨rfl,by simp[fA,AV.cell]⟩) (fun a _=>rfl) (fun p hp=> ?_);exact⟨hp.2.1,hp.2.2⟩
abbrev aGl (l:List FT):Prop:=l.length≤maxLen∧∀x∈l,x.R
theorem aGm:RdA Tryz.prog 22 (List FT) 1 (fun l=>[.ro 2 (l.map cP) .any]) aGl:=kA rfl (by decide) aJh
abbrev aDC (l:List Im):Prop:=l.length≤maxLen∧∀x∈l,x.R
theorem aGn:RdA Tryz.prog 23 (List Im) 1 (fun l=>[.ro 3 (l.map eE) .any]) aDC:=kA rfl (by decide) aJi
abbrev NV (l:List Gl):Prop:=l.length≤maxLen∧∀x∈l,x.R
theorem aGo:RdA Tryz.prog 27 (List Gl) 1 (fun l=>[.ro 3 (l.map eA) .any]) NV:=kA rfl (by decide) aJj
abbrev JA (l:List Ex):Prop:=l.length≤maxLen∧∀x∈l,x.R
theorem aGp:RdA Tryz.prog 28 (List Ex) 1 (fun l=>[.ro 2 (l.map dH) .any]) JA:=kA rfl (by decide) aJk
abbrev HP (l:List El):Prop:=l.length≤maxLen∧∀x∈l,x.R
theorem aGq:RdA Tryz.prog 29 (List El) 1 (fun l=>[.ro 2 (l.map dX) .any]) HP:=kA rfl (by decide) aJl
abbrev EF (l:List Co):Prop:=l.length≤maxLen∧∀x∈l,x.R
theorem aGr:RdA Tryz.prog 30 (List Co) 1 (fun l=>[.ro 2 (l.map dP) .any]) EF:=kA rfl (by decide) aJm
abbrev EG (l:List Da):Prop:=l.length≤maxLen∧∀x∈l,x.R
theorem aGs:RdA Tryz.prog 31 (List Da) 1 (fun l=>[.ro 2 (l.map eB) .any]) EG:=kA rfl (by decide) aJn
def Md.R (m:Md):Prop:=aGl m.ty∧aDC m.im∧oX m.fn∧m.tb.R∧m.me.R∧NV m.gl∧JA m.ex∧HP m.el∧EF m.co∧EG m.da
theorem aGt:RdA Tryz.prog 33 ((List FT)×(List Im)×(List Int)×Li×Li×(List Gl)×(List Ex)×(List El)×(List Co)×(List Da)) 14 (fun p:(List FT)×(List Im)×(List Int)×Li×Li×(List Gl)×(List Ex)×(List El)×(List Co)×(List Da)=>(fun l:List FT=>[.ro 2 (l.map cP) .any]) p.1++(fun p:(List Im)×(List Int)×Li×Li×(List Gl)×(List Ex)×(List El)×(List Co)×(List Da)=>(fun l:List Im=>[.ro 3 (l.map eE) .any]) p.1++(fun p:(List Int)×Li×Li×(List Gl)×(List Ex)×(List El)×(List Co)×(List Da)=>(fun l:List Int=>[.ro 1 (l.map aR) .any]) p.1++(fun p:Li×Li×(List Gl)×(List Ex)×(List El)×(List Co)×(List Da)=>fA p.1++(fun p:Li×(List Gl)×(List Ex)×(List El)×(List Co)×(List Da)=>fA p.1++(fun p:(List Gl)×(List Ex)×(List El)×(List Co)×(List Da)=>(fun l:List Gl=>[.ro 3 (l.map eA) .any]) p.1++(fun p:(List Ex)×(List El)×(List Co)×(List Da)=>(fun l:List Ex=>[.ro 2 (l.map dH) .any]) p.1++(fun p:(List El)×(List Co)×(List Da)=>(fun l:List El=>[.ro 2 (l.map dX) .any]) p.1++(fun p:(List Co)×(List Da)=>(fun l:List Co=>[.ro 2 (l.map dP) .any]) p.1++(fun l:List Da=>[.ro 2 (l.map eB) .any]) p.2) p.2) p.2) p.2) p.2) p.2) p.2) p.2) p.2) (fun p:(List FT)×(List Im)×(List Int)×Li×Li×(List Gl)×(List Ex)×(List El)×(List Co)×(List Da)=>aGl p.1∧(fun p:(List Im)×(List Int)×Li×Li×(List Gl)×(List Ex)×(List El)×(List Co)×(List Da)=>aDC p.1∧(fun p:(List Int)×Li×Li×(List Gl)×(List Ex)×(List El)×(List Co)×(List Da)=>oX p.1∧(fun p:Li×Li×(List Gl)×(List Ex)×(List El)×(List Co)×(List Da)=>Li.R p.1∧(fun p:Li×(List Gl)×(List Ex)×(List El)×(List Co)×(List Da)=>Li.R p.1∧(fun p:(List Gl)×(List Ex)×(List El)×(List Co)×(List Da)=>NV p.1∧(fun p:(List Ex)×(List El)×(List Co)×(List Da)=>JA p.1∧(fun p:(List El)×(List Co)×(List Da)=>HP p.1∧(fun p:(List Co)×(List Da)=>EF p.1∧EG p.2) p.2) p.2) p.2) p.2) p.2) p.2) p.2) p.2):=by
 refine iA ?_;refine eT (f:=⟨_,_,_,_,_,_,_⟩) (sz':=13) (en:=(fun l:List FT=>[.ro 2 (l.map cP) .any])) (ok:=aGl) (en':=(fun p:(List Im)×(List Int)×Li×Li×(List Gl)×(List Ex)×(List El)×(List Co)×(List Da)=>(fun l:List Im=>[.ro 3 (l.map eE) .any]) p.1++(fun p:(List Int)×Li×Li×(List Gl)×(List Ex)×(List El)×(List Co)×(List Da)=>(fun l:List Int=>[.ro 1 (l.map aR) .any]) p.1++(fun p:Li×Li×(List Gl)×(List Ex)×(List El)×(List Co)×(List Da)=>fA p.1++(fun p:Li×(List Gl)×(List Ex)×(List El)×(List Co)×(List Da)=>fA p.1++(fun p:(List Gl)×(List Ex)×(List El)×(List Co)×(List Da)=>(fun l:List Gl=>[.ro 3 (l.map eA) .any]) p.1++(fun p:(List Ex)×(List El)×(List Co)×(List Da)=>(fun l:List Ex=>[.ro 2 (l.map dH) .any]) p.1++(fun p:(List El)×(List Co)×(List Da)=>(fun l:List El=>[.ro 2 (l.map dX) .any]) p.1++(fun p:(List Co)×(List Da)=>(fun l:List Co=>[.ro 2 (l.map dP) .any]) p.1++(fun l:List Da=>[.ro 2 (l.map eB) .any]) p.2) p.2) p.2) p.2) p.2) p.2) p.2) p.2)) (ok':=(fun p:(List Im)×(List Int)×Li×Li×(List Gl)×(List Ex)×(List El)×(List Co)×(List Da)=>aDC p.1∧(fun p:(List Int)×Li×Li×(List Gl)×(List Ex)×(List El)×(List Co)×(List Da)=>oX p.1∧(fun p:Li×Li×(List Gl)×(List Ex)×(List El)×(List Co)×(List Da)=>Li.R p.1∧(fun p:Li×(List Gl)×(List Ex)×(List El)×(List Co)×(List Da)=>Li.R p.1∧(fun p:(List Gl)×(List Ex)×(List El)×(List Co)×(List Da)=>NV p.1∧(fun p:(List Ex)×(List El)×(List Co)×(List Da)=>JA p.1∧(fun p:(List El)×(List Co)×(List Da)=>HP p.1∧(fun p:(List Co)×(List Da)=>EF p.1∧EG p.2) p.2) p.2) p.2) p.2) p.2) p.2) p.2)) aGm rfl ?_
 refine eT (f:=⟨_,_,_,_,_,_,_⟩) (sz':=12) (en:=(fun l:List Im=>[.ro 3 (l.map eE) .any])) (ok:=aDC) (en':=(fun p:(List Int)×Li×Li×(List Gl)×(List Ex)×(List El)×(List Co)×(List Da)=>(fun l:List Int=>[.ro 1 (l.map aR) .any]) p.1++(fun p:Li×Li×(List Gl)×(List Ex)×(List El)×(List Co)×(List Da)=>fA p.1++(fun p:Li×(List Gl)×(List Ex)×(List El)×(List Co)×(List Da)=>fA p.1++(fun p:(List Gl)×(List Ex)×(List El)×(List Co)×(List Da)=>(fun l:List Gl=>[.ro 3 (l.map eA) .any]) p.1++(fun p:(List Ex)×(List El)×(List Co)×(List Da)=>(fun l:List Ex=>[.ro 2 (l.map dH) .any]) p.1++(fun p:(List El)×(List Co)×(List Da)=>(fun l:List El=>[.ro 2 (l.map dX) .any]) p.1++(fun p:(List Co)×(List Da)=>(fun l:List Co=>[.ro 2 (l.map dP) .any]) p.1++(fun l:List Da=>[.ro 2 (l.map eB) .any]) p.2) p.2) p.2) p.2) p.2) p.2) p.2)) (ok':=(fun p:(List Int)×Li×Li×(List Gl)×(List Ex)×(List El)×(List Co)×(List Da)=>oX p.1∧(fun p:Li×Li×(List Gl)×(List Ex)×(List El)×(List Co)×(List Da)=>Li.R p.1∧(fun p:Li×(List Gl)×(List Ex)×(List El)×(List Co)×(List Da)=>Li.R p.1∧(fun p:(List Gl)×(List Ex)×(List El)×(List Co)×(List Da)=>NV p.1∧(fun p:(List Ex)×(List El)×(List Co)×(List Da)=>JA p.1∧(fun p:(List El)×(List Co)×(List Da)=>HP p.1∧(fun p:(List Co)×(List Da)=>EF p.1∧EG p.2) p.2) p.2) p.2) p.2) p.2) p.2)) aGn rfl ?_
 refine eT (f:=⟨_,_,_,_,_,_,_⟩) (sz':=11) (en:=(fun l:List Int=>[.ro 1 (l.map aR) .any])) (ok:=oX) (en':=(fun p:Li×Li×(List Gl)×(List Ex)×(List El)×(List Co)×(List Da)=>fA p.1++(fun p:Li×(List Gl)×(List Ex)×(List El)×(List Co)×(List Da)=>fA p.1++(fun p:(List Gl)×(List Ex)×(List El)×(List Co)×(List Da)=>(fun l:List Gl=>[.ro 3 (l.map eA) .any]) p.1++(fun p:(List Ex)×(List El)×(List Co)×(List Da)=>(fun l:List Ex=>[.ro 2 (l.map dH) .any]) p.1++(fun p:(List El)×(List Co)×(List Da)=>(fun l:List El=>[.ro 2 (l.map dX) .any]) p.1++(fun p:(List Co)×(List Da)=>(fun l:List Co=>[.ro 2 (l.map dP) .any]) p.1++(fun l:List Da=>[.ro 2 (l.map eB) .any]) p.2) p.2) p.2) p.2) p.2) p.2)) (ok':=(fun p:Li×Li×(List Gl)×(List Ex)×(List El)×(List Co)×(List Da)=>Li.R p.1∧(fun p:Li×(List Gl)×(List Ex)×(List El)×(List Co)×(List Da)=>Li.R p.1∧(fun p:(List Gl)×(List Ex)×(List El)×(List Co)×(List Da)=>NV p.1∧(fun p:(List Ex)×(List El)×(List Co)×(List Da)=>JA p.1∧(fun p:(List El)×(List Co)×(List Da)=>HP p.1∧(fun p:(List Co)×(List Da)=>EF p.1∧EG p.2) p.2) p.2) p.2) p.2) p.2)) qU rfl ?_;refine eT (f:=⟨_,_,_,_,_,_,_⟩) (sz':=8) (en:=fA) (ok:=Li.R) (en':=(fun p:Li×(List Gl)×(List Ex)×(List El)×(List Co)×(List Da)=>fA p.1++(fun p:(List Gl)×(List Ex)×(List El)×(List Co)×(List Da)=>(fun l:List Gl=>[.ro 3 (l.map eA) .any]) p.1++(fun p:(List Ex)×(List El)×(List Co)×(List Da)=>(fun l:List Ex=>[.ro 2 (l.map dH) .any]) p.1++(fun p:(List El)×(List Co)×(List Da)=>(fun l:List El=>[.ro 2 (l.map dX) .any]) p.1++(fun p:(List Co)×(List Da)=>(fun l:List Co=>[.ro 2 (l.map dP) .any]) p.1++(fun l:List Da=>[.ro 2 (l.map eB) .any]) p.2) p.2) p.2) p.2) p.2)) (ok':=(fun p:Li×(List Gl)×(List Ex)×(List El)×(List Co)×(List Da)=>Li.R p.1∧(fun p:(List Gl)×(List Ex)×(List El)×(List Co)×(List Da)=>NV p.1∧(fun p:(List Ex)×(List El)×(List Co)×(List Da)=>JA p.1∧(fun p:(List El)×(List Co)×(List Da)=>HP p.1∧(fun p:(List Co)×(List Da)=>EF p.1∧EG p.2) p.2) p.2) p.2) p.2)) aDB rfl ?_
 refine eT (f:=⟨_,_,_,_,_,_,_⟩) (sz':=5) (en:=fA) (ok:=Li.R) (en':=(fun p:(List Gl)×(List Ex)×(List El)×(List Co)×(List Da)=>(fun l:List Gl=>[.ro 3 (l.map eA) .any]) p.1++(fun p:(List Ex)×(List El)×(List Co)×(List Da)=>(fun l:List Ex=>[.ro 2 (l.map dH) .any]) p.1++(fun p:(List El)×(List Co)×(List Da)=>(fun l:List El=>[.ro 2 (l.map dX) .any]) p.1++(fun p:(List Co)×(List Da)=>(fun l:List Co=>[.ro 2 (l.map dP) .any]) p.1++(fun l:List Da=>[.ro 2 (l.map eB) .any]) p.2) p.2) p.2) p.2)) (ok':=(fun p:(List Gl)×(List Ex)×(List El)×(List Co)×(List Da)=>NV p.1∧(fun p:(List Ex)×(List El)×(List Co)×(List Da)=>JA p.1∧(fun p:(List El)×(List Co)×(List Da)=>HP p.1∧(fun p:(List Co)×(List Da)=>EF p.1∧EG p.2) p.2) p.2) p.2)) aDB rfl ?_;refine eT (f:=⟨_,_,_,_,_,_,_⟩) (sz':=4) (en:=(fun l:List Gl=>[.ro 3 (l.map eA) .any])) (ok:=NV) (en':=(fun p:(List Ex)×(List El)×(List Co)×(List Da)=>(fun l:List Ex=>[.ro 2 (l.map dH) .any]) p.1++(fun p:(List El)×(List Co)×(List Da)=>(fun l:List El=>[.ro 2 (l.map dX) .any]) p.1++(fun p:(List Co)×(List Da)=>(fun l:List Co=>[.ro 2 (l.map dP) .any]) p.1++(fun l:List Da=>[.ro 2 (l.map eB) .any]) p.2) p.2) p.2)) (ok':=(fun p:(List Ex)×(List El)×(List Co)×(List Da)=>JA p.1∧(fun p:(List El)×(List Co)×(List Da)=>HP p.1∧(fun p:(List Co)×(List Da)=>EF p.1∧EG p.2) p.2) p.2)) aGo rfl ?_
 refine eT (f:=⟨_,_,_,_,_,_,_⟩) (sz':=3) (en:=(fun l:List Ex=>[.ro 2 (l.map dH) .any])) (ok:=JA) (en':=(fun p:(List El)×(List Co)×(List Da)=>(fun l:List El=>[.ro 2 (l.map dX) .any]) p.1++(fun p:(List Co)×(List Da)=>(fun l:List Co=>[.ro 2 (l.map dP) .any]) p.1++(fun l:List Da=>[.ro 2 (l.map eB) .any]) p.2) p.2)) (ok':=(fun p:(List El)×(List Co)×(List Da)=>HP p.1∧(fun p:(List Co)×(List Da)=>EF p.1∧EG p.2) p.2)) aGp rfl ?_;refine eT (f:=⟨_,_,_,_,_,_,_⟩) (sz':=2) (en:=(fun l:List El=>[.ro 2 (l.map dX) .any])) (ok:=HP) (en':=(fun p:(List Co)×(List Da)=>(fun l:List Co=>[.ro 2 (l.map dP) .any]) p.1++(fun l:List Da=>[.ro 2 (l.map eB) .any]) p.2)) (ok':=(fun p:(List Co)×(List Da)=>EF p.1∧EG p.2)) aGq rfl ?_;refine eT (f:=⟨_,_,_,_,_,_,_⟩) (sz':=1) (en:=(fun l:List Co=>[.ro 2 (l.map dP) .any])) (ok:=EF) (en':=(fun l:List Da=>[.ro 2 (l.map eB) .any])) (ok':=EG) aGr rfl ?_;exact nH aGs rfl
theorem aJo:RdA Tryz.prog 33 Md 14 aS Md.R:=by
 refine lB aGt (fun p:(List FT)×(List Im)×(List Int)×Li×Li×(List Gl)×(List Ex)×(List El)×(List Co)×(List Da)=>⟨p.1,p.2.1,p.2.2.1,p.2.2.2.1,p.2.2.2.2.1,p.2.2.2.2.2.1,p.2.2.2.2.2.2.1,p.2.2.2.2.2.2.2.1,p.2.2.2.2.2.2.2.2.1,p.2.2.2.2.2.2.2.2.2⟩) _ _ (fun b=>⟨rfl,by simp[aS,AV.cell]⟩) (fun a _=>rfl) (fun p hp=> ?_);exact⟨hp.1,hp.2.1,hp.2.2.1,hp.2.2.2.1,hp.2.2.2.2.1,hp.2.2.2.2.2.1,hp.2.2.2.2.2.2.1,hp.2.2.2.2.2.2.2.1,hp.2.2.2.2.2.2.2.2.1,hp.2.2.2.2.2.2.2.2.2⟩
theorem Md.R.a {m:Md}(h:m.R):m.A:=by
 obtain⟨h1,h2,h3,-,-,h4,h5,h6,h7,h8⟩:=h;exact⟨⟨h1.1,fun x hx=>⟨(h1.2 x hx).1.1,(h1.2 x hx).2.1⟩⟩,⟨h2.1,fun x hx=>⟨(h2.2 x hx).1.1,(h2.2 x hx).2.1.1⟩⟩,h3.1,h4.1,⟨h5.1,fun x hx=>(h5.2 x hx).1.1⟩,⟨h6.1,fun x hx=>(h6.2 x hx).2.1⟩,
  ⟨h7.1,fun x hx=>⟨(h7.2 x hx).1.1,(h7.2 x hx).2.1,fun i hi=>((h7.2 x hx).2.2 i hi).2.2.2.1⟩⟩,⟨h8.1,fun x hx=>(h8.2 x hx).2.1⟩⟩
theorem oN{α:Type}{f:α→α}{l:List α}{n:Nat}{x:α}(h:x∈eY f l n):∃y∈l,x=f y:=by
 obtain⟨y,hy,rfl⟩:=List.mem_map.1 h;exact⟨y,List.mem_of_mem_take hy,rfl⟩
theorem aDD{α:Type}(f:α→α)(l:List α)(n:Nat):(eY f l n).length≤n:=by unfold eY;simp;omega
theorem aJp{m:Md}(h:m.R):(aFD m).WO:=by
 obtain⟨h1,h2,h3,-,-,h4,h5,h6,h7,h8⟩:=h;refine⟨⟨fun x hx=> ?_,fun x hx=> ?_,fun x hx=> ?_, ?_,fun x hx=> ?_⟩,fun x hx=> ?_,fun x hx=> ?_⟩
 ·obtain⟨y,hy,rfl⟩:=oN hx;have:=h2.2 y hy;exact⟨⟨by simp[tU];omega,fun c hc=>this.1.2 c (List.mem_of_mem_take hc)⟩,by simp[tU];omega,fun c hc=>this.2.1.2 c (List.mem_of_mem_take hc)⟩
 ·obtain⟨y,hy,rfl⟩:=oN hx;have:=h5.2 y hy;exact⟨by simp[BG];omega,fun c hc=>this.1.2 c (List.mem_of_mem_take hc)⟩
 ·obtain⟨y,hy,rfl⟩:=oN hx;simp[CX,pN];omega
 ·have:=aDD tU m.im 18;show(eY tU m.im 18).length≤ _;omega
 ·obtain⟨y,hy,rfl⟩:=oN hx;exact fun c hc=>(h8.2 y hy).2.2 c (List.mem_of_mem_take hc)
 ·obtain⟨y,hy,rfl⟩:=oN hx;intro i hi;obtain⟨z,hz,rfl⟩:=List.mem_map.1 hi;obtain⟨p1,p2,p3,p4,p5⟩:=(h7.2 y hy).2.2 z (List.mem_of_mem_take hz);exact⟨p1.1,p1.2,p2.1,p2.2,by simp[VE];omega⟩
 ·obtain⟨y,hy,he⟩:=oN hx;rw[he];exact FY (h4.2 y hy).2
theorem aLn{m:Md}:(aFD m).Z:=by
 have hl:∀ {α:Type} (f:α→α) (l:List α),(eY f l 18).length≤1000000:=fun f l=>Nat.le_trans (aDD f l 18) (by decide)
 refine⟨⟨hl _ _,fun x hx=> ?_⟩,hl _ _,by show(m.fn.take 18).length≤ _;simp;omega,hl _ _,hl _ _,⟨hl _ _,fun x hx=> ?_⟩,⟨hl _ _,fun x hx=> ?_⟩,⟨hl _ _,fun x hx=> ?_⟩⟩
 ·obtain⟨y,hy,rfl⟩:=oN hx;simp[wX];omega
 ·obtain⟨y,hy,rfl⟩:=oN hx;simp[CW];omega
 ·obtain⟨y,hy,rfl⟩:=oN hx;simp[CX];omega
 ·obtain⟨y,hy,rfl⟩:=oN hx;simp[GU];omega
end Go.Proofs.YtjpdadobblffmaaGreat
