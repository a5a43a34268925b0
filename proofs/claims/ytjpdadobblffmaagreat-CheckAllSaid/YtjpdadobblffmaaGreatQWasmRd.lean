/-
  How modules are read.
-/
import Derived.Test.YtjpdadobblffmaaGreatCC6
import Derived.Test.YtjpdadobblffmaaGreatCC7
namespace Go.Proofs.YtjpdadobblffmaaGreat
open Go.RowKit Go.ChangeShapes Go.WideShapes Go.ChangeAt Go.Deep
set_option linter.unusedSimpArgs false
set_option linter.unusedVariables false
theorem kT{P:Program}{t:TypeId}{α β:Type}{sz:Nat}{en:α→List AV}{ok:α→Prop}(h:RdA P t α sz en ok)(f:α→β)(en2:β→List AV)(ok2:β→Prop)(hsh:∀b,(en2 b).length=sz∧∀x∈en2 b,x.cell=true)(he:∀a,ok a→en2 (f a)=en a)(hk:∀a,ok a→ok2 (f a)):RdA P t β sz en2 ok2:=
 ⟨h.cells,hsh,fun H enc W fuel cs x hx=>by
  obtain⟨a,h1,h2,h3⟩:=h.read H enc W fuel cs x hx;exact⟨f a,hk a h1,h2,by rw[he a h1];exact h3⟩⟩
def yR (s:List Nat):Prop:=s.length≤maxLen∧∀c∈s,c<256
theorem aGw(b:ByteArray):dC (b.data.toList.map UInt8.toNat)=b:=by
 cases b with
 |mk d=>
  unfold dC
  congr 1
  rw[List.map_map,show UInt8.ofNat ∘ UInt8.toNat=id from funext fun u=>UInt8.ofNat_toNat,List.map_id]
theorem RA:RdA Tryz.prog 9 (List Nat) 1 (fun s=>[.str (dC s)]) yR:=
 kT (aEX (t:=9) rfl) (fun b:ByteArray=>b.data.toList.map UInt8.toNat) _ _ (fun b=>⟨rfl,by simp[AV.cell]⟩) (fun b _=>by rw[aGw]) (fun b hb=>⟨by rw[List.length_map,Array.length_toList];exact hb,fun c hc=>by
  obtain⟨u,-,rfl⟩:=List.mem_map.1 hc;exact u.toNat_lt⟩)
theorem aGx:RdA Tryz.prog 36 (List Nat) 1 (fun l=>[.ro 1 (l.map aG) .any]) yR:=
 kT aEY (fun l:List Int=>l.map Int.toNat) _ _ (fun b=>⟨rfl,by simp[AV.cell]⟩) (fun l hl=>by rw[NG fun a ha=>aG8 (hl.2 a ha)]) (fun l hl=>⟨by simpa using hl.1,fun c hc=>by
  obtain⟨a,ha,rfl⟩:=List.mem_map.1 hc;have:=aG8 (hl.2 a ha);omega⟩)
theorem aHD:RdA Tryz.prog 4 Bool 1 (fun b=>[.bool b]) (fun _=>True):=aCD (t:=4) rfl
abbrev oR (l:List Int):Prop:=l.length≤maxLen∧∀a∈l,nY a
abbrev aD2 (l:List Ins):Prop:=l.length≤maxLen∧∀x∈l,x.Wf
theorem aBH:RdA Tryz.prog 71 (Int×Int) 2 (fun p:Int×Int=>(fun n:Int=>[.int .i64 n]) p.1++(fun n:Int=>[.int .i64 n]) p.2) (fun p:Int×Int=>nY p.1∧nY p.2):=by
 refine iA ?_;refine eR (f:=⟨_,_,_,_,_,_,_⟩) (sz':=1) (en:=(fun n:Int=>[.int .i64 n])) (ok:=nY) (en':=(fun n:Int=>[.int .i64 n])) (ok':=nY) DB rfl ?_;exact nD PU rfl
theorem aGy:RdA Tryz.prog 71 (Int×Int) 2 (fun p:Int×Int=>[.int .i64 p.1,.int .i64 p.2]) (fun p:Int×Int=>nY p.1∧nY p.2):=aBH
def FT.R (x:FT):Prop:=oR x.pr∧oR x.rs
def Im.R (x:Im):Prop:=yR x.mod∧yR x.nm∧nY x.ty
def Gl.R (x:Gl):Prop:=nY x.kd∧nY x.n
def Ex.R (x:Ex):Prop:=yR x.nm∧nY x.fn
def El.R (x:El):Prop:=nY x.off∧oR x.fs
def Co.R (x:Co):Prop:=oR x.ls∧aD2 x.bd
def Da.R (x:Da):Prop:=nY x.off∧yR x.bs
def Li.R (x:Li):Prop:=nY x.mn∧nY x.mx
theorem aGz:RdA Tryz.prog 50 ((List Int)×(List Int)) 2 (fun p:(List Int)×(List Int)=>(fun l:List Int=>[.ro 1 (l.map aP) .any]) p.1++(fun l:List Int=>[.ro 1 (l.map aP) .any]) p.2) (fun p:(List Int)×(List Int)=>oR p.1∧oR p.2):=by
 refine iA ?_;refine eR (f:=⟨_,_,_,_,_,_,_⟩) (sz':=1) (en:=(fun l:List Int=>[.ro 1 (l.map aP) .any])) (ok:=oR) (en':=(fun l:List Int=>[.ro 1 (l.map aP) .any])) (ok':=oR) qC rfl ?_;exact nD qC rfl
theorem aJF:RdA Tryz.prog 50 FT 2 dD FT.R:=by
 refine kT aGz (fun p:(List Int)×(List Int)=>⟨p.1,p.2⟩) _ _ (fun b=>⟨rfl,by simp[dD,AV.cell]⟩) (fun a _=>rfl) (fun p hp=> ?_);exact⟨hp.1,hp.2⟩
theorem aGA:RdA Tryz.prog 64 ((List Nat)×(List Nat)×Int) 3 (fun p:(List Nat)×(List Nat)×Int=>(fun s:List Nat=>[.str (dC s)]) p.1++(fun p:(List Nat)×Int=>(fun s:List Nat=>[.str (dC s)]) p.1++(fun n:Int=>[.int .i64 n]) p.2) p.2) (fun p:(List Nat)×(List Nat)×Int=>yR p.1∧(fun p:(List Nat)×Int=>yR p.1∧nY p.2) p.2):=by
 refine iA ?_;refine eR (f:=⟨_,_,_,_,_,_,_⟩) (sz':=2) (en:=(fun s:List Nat=>[.str (dC s)])) (ok:=yR) (en':=(fun p:(List Nat)×Int=>(fun s:List Nat=>[.str (dC s)]) p.1++(fun n:Int=>[.int .i64 n]) p.2)) (ok':=(fun p:(List Nat)×Int=>yR p.1∧nY p.2)) RA rfl ?_;refine eR (f:=⟨_,_,_,_,_,_,_⟩) (sz':=1) (en:=(fun s:List Nat=>[.str (dC s)])) (ok:=yR) (en':=(fun n:Int=>[.int .i64 n])) (ok':=nY) RA rfl ?_;exact nD DB rfl
theorem aJG:RdA Tryz.prog 64 Im 3 eM Im.R:=by
 refine kT aGA (fun p:(List Nat)×(List Nat)×Int=>⟨p.1,p.2.1,p.2.2⟩) _ _ (fun b=>⟨rfl,by simp[eM,AV.cell]⟩) (fun a _=>rfl) (fun p hp=> ?_);exact⟨hp.1,hp.2.1,hp.2.2⟩
theorem aGB:RdA Tryz.prog 73 (Bool×(Int×Int)) 3 (fun p:Bool×(Int×Int)=>(fun b:Bool=>[.bool b]) p.1++(fun p:Int×Int=>[.int .i64 p.1,.int .i64 p.2]) p.2) (fun p:Bool×(Int×Int)=>(fun _=>True) p.1∧(fun p:Int×Int=>nY p.1∧nY p.2) p.2):=by
 refine iA ?_;refine eR (f:=⟨_,_,_,_,_,_,_⟩) (sz':=2) (en:=(fun b:Bool=>[.bool b])) (ok:=(fun _=>True)) (en':=(fun p:Int×Int=>[.int .i64 p.1,.int .i64 p.2])) (ok':=(fun p:Int×Int=>nY p.1∧nY p.2)) aHD rfl ?_;exact nD aGy rfl
theorem aJH:RdA Tryz.prog 73 Gl 3 dZ Gl.R:=by
 refine kT aGB (fun p:Bool×(Int×Int)=>⟨p.1,(p.2).1,(p.2).2⟩) _ _ (fun b=>⟨rfl,by simp[dZ,AV.cell]⟩) (fun a _=>rfl) (fun p hp=> ?_);exact⟨hp.2.1,hp.2.2⟩
theorem aGC:RdA Tryz.prog 66 ((List Nat)×Int) 2 (fun p:(List Nat)×Int=>(fun s:List Nat=>[.str (dC s)]) p.1++(fun n:Int=>[.int .i64 n]) p.2) (fun p:(List Nat)×Int=>yR p.1∧nY p.2):=by
 refine iA ?_;refine eR (f:=⟨_,_,_,_,_,_,_⟩) (sz':=1) (en:=(fun s:List Nat=>[.str (dC s)])) (ok:=yR) (en':=(fun n:Int=>[.int .i64 n])) (ok':=nY) RA rfl ?_;exact nD DB rfl
theorem aJI:RdA Tryz.prog 66 Ex 2 eA Ex.R:=by
 refine kT aGC (fun p:(List Nat)×Int=>⟨p.1,p.2⟩) _ _ (fun b=>⟨rfl,by simp[eA,AV.cell]⟩) (fun a _=>rfl) (fun p hp=> ?_);exact⟨hp.1,hp.2⟩
theorem aGD:RdA Tryz.prog 69 (Int×(List Int)) 2 (fun p:Int×(List Int)=>(fun n:Int=>[.int .i64 n]) p.1++(fun l:List Int=>[.ro 1 (l.map aP) .any]) p.2) (fun p:Int×(List Int)=>nY p.1∧oR p.2):=by
 refine iA ?_;refine eR (f:=⟨_,_,_,_,_,_,_⟩) (sz':=1) (en:=(fun n:Int=>[.int .i64 n])) (ok:=nY) (en':=(fun l:List Int=>[.ro 1 (l.map aP) .any])) (ok':=oR) DB rfl ?_;exact nD qC rfl
theorem aJJ:RdA Tryz.prog 69 El 2 dY El.R:=by
 refine kT aGD (fun p:Int×(List Int)=>⟨p.1,p.2⟩) _ _ (fun b=>⟨rfl,by simp[dY,AV.cell]⟩) (fun a _=>rfl) (fun p hp=> ?_);exact⟨hp.1,hp.2⟩
theorem aGE:RdA Tryz.prog 44 ((List Int)×(List Ins)) 2 (fun p:(List Int)×(List Ins)=>(fun l:List Int=>[.ro 1 (l.map aP) .any]) p.1++(fun l:List Ins=>[.ro 4 (l.map (iv .any)) .any]) p.2) (fun p:(List Int)×(List Ins)=>oR p.1∧aD2 p.2):=by
 refine iA ?_;refine eR (f:=⟨_,_,_,_,_,_,_⟩) (sz':=1) (en:=(fun l:List Int=>[.ro 1 (l.map aP) .any])) (ok:=oR) (en':=(fun l:List Ins=>[.ro 4 (l.map (iv .any)) .any])) (ok':=aD2) qC rfl ?_;exact nD UD rfl
theorem aJK:RdA Tryz.prog 44 Co 2 dA Co.R:=by
 refine kT aGE (fun p:(List Int)×(List Ins)=>⟨p.1,p.2⟩) _ _ (fun b=>⟨rfl,by simp[dA,AV.cell]⟩) (fun a _=>rfl) (fun p hp=> ?_);exact⟨hp.1,hp.2⟩
theorem aGF:RdA Tryz.prog 48 (Int×(List Nat)) 2 (fun p:Int×(List Nat)=>(fun n:Int=>[.int .i64 n]) p.1++(fun l:List Nat=>[.ro 1 (l.map aG) .any]) p.2) (fun p:Int×(List Nat)=>nY p.1∧yR p.2):=by
 refine iA ?_;refine eR (f:=⟨_,_,_,_,_,_,_⟩) (sz':=1) (en:=(fun n:Int=>[.int .i64 n])) (ok:=nY) (en':=(fun l:List Nat=>[.ro 1 (l.map aG) .any])) (ok':=yR) DB rfl ?_;exact nD aGx rfl
theorem aJL:RdA Tryz.prog 48 Da 2 eB Da.R:=by
 refine kT aGF (fun p:Int×(List Nat)=>⟨p.1,p.2⟩) _ _ (fun b=>⟨rfl,by simp[eB,AV.cell]⟩) (fun a _=>rfl) (fun p hp=> ?_);exact⟨hp.1,hp.2⟩
theorem aGG:RdA Tryz.prog 26 (Bool×Int×Int) 3 (fun p:Bool×Int×Int=>(fun b:Bool=>[.bool b]) p.1++(fun p:Int×Int=>(fun n:Int=>[.int .i64 n]) p.1++(fun n:Int=>[.int .i64 n]) p.2) p.2) (fun p:Bool×Int×Int=>(fun _=>True) p.1∧(fun p:Int×Int=>nY p.1∧nY p.2) p.2):=by
 refine iA ?_;refine eR (f:=⟨_,_,_,_,_,_,_⟩) (sz':=2) (en:=(fun b:Bool=>[.bool b])) (ok:=(fun _=>True)) (en':=(fun p:Int×Int=>(fun n:Int=>[.int .i64 n]) p.1++(fun n:Int=>[.int .i64 n]) p.2)) (ok':=(fun p:Int×Int=>nY p.1∧nY p.2)) aHD rfl ?_;refine eR (f:=⟨_,_,_,_,_,_,_⟩) (sz':=1) (en:=(fun n:Int=>[.int .i64 n])) (ok:=nY) (en':=(fun n:Int=>[.int .i64 n])) (ok':=nY) DB rfl ?_;exact nD DB rfl
theorem aD3:RdA Tryz.prog 26 Li 3 fC Li.R:=by
 refine kT aGG (fun p:Bool×Int×Int=>⟨p.1,p.2.1,p.2.2⟩) _ _ (fun b=>⟨rfl,by simp[fC,AV.cell]⟩) (fun a _=>rfl) (fun p hp=> ?_);exact⟨hp.2.1,hp.2.2⟩
abbrev aGH (l:List FT):Prop:=l.length≤maxLen∧∀x∈l,x.R
theorem aGI:RdA Tryz.prog 22 (List FT) 1 (fun l=>[.ro 2 (l.map dD) .any]) aGH:=jV rfl (by decide) aJF
abbrev aD4 (l:List Im):Prop:=l.length≤maxLen∧∀x∈l,x.R
theorem aGJ:RdA Tryz.prog 23 (List Im) 1 (fun l=>[.ro 3 (l.map eM) .any]) aD4:=jV rfl (by decide) aJG
abbrev RB (l:List Gl):Prop:=l.length≤maxLen∧∀x∈l,x.R
theorem aGK:RdA Tryz.prog 27 (List Gl) 1 (fun l=>[.ro 3 (l.map dZ) .any]) RB:=jV rfl (by decide) aJH
abbrev LA (l:List Ex):Prop:=l.length≤maxLen∧∀x∈l,x.R
theorem aGL:RdA Tryz.prog 28 (List Ex) 1 (fun l=>[.ro 2 (l.map eA) .any]) LA:=jV rfl (by decide) aJI
abbrev IM (l:List El):Prop:=l.length≤maxLen∧∀x∈l,x.R
theorem aGM:RdA Tryz.prog 29 (List El) 1 (fun l=>[.ro 2 (l.map dY) .any]) IM:=jV rfl (by decide) aJJ
abbrev DX (l:List Co):Prop:=l.length≤maxLen∧∀x∈l,x.R
theorem aGN:RdA Tryz.prog 30 (List Co) 1 (fun l=>[.ro 2 (l.map dA) .any]) DX:=jV rfl (by decide) aJK
abbrev DY (l:List Da):Prop:=l.length≤maxLen∧∀x∈l,x.R
theorem aGO:RdA Tryz.prog 31 (List Da) 1 (fun l=>[.ro 2 (l.map eB) .any]) DY:=jV rfl (by decide) aJL
def Md.R (m:Md):Prop:=aGH m.ty∧aD4 m.im∧oR m.fn∧m.tb.R∧m.me.R∧RB m.gl∧LA m.ex∧IM m.el∧DX m.co∧DY m.da
theorem aGP:RdA Tryz.prog 33 ((List FT)×(List Im)×(List Int)×Li×Li×(List Gl)×(List Ex)×(List El)×(List Co)×(List Da)) 14 (fun p:(List FT)×(List Im)×(List Int)×Li×Li×(List Gl)×(List Ex)×(List El)×(List Co)×(List Da)=>(fun l:List FT=>[.ro 2 (l.map dD) .any]) p.1++(fun p:(List Im)×(List Int)×Li×Li×(List Gl)×(List Ex)×(List El)×(List Co)×(List Da)=>(fun l:List Im=>[.ro 3 (l.map eM) .any]) p.1++(fun p:(List Int)×Li×Li×(List Gl)×(List Ex)×(List El)×(List Co)×(List Da)=>(fun l:List Int=>[.ro 1 (l.map aP) .any]) p.1++(fun p:Li×Li×(List Gl)×(List Ex)×(List El)×(List Co)×(List Da)=>fC p.1++(fun p:Li×(List Gl)×(List Ex)×(List El)×(List Co)×(List Da)=>fC p.1++(fun p:(List Gl)×(List Ex)×(List El)×(List Co)×(List Da)=>(fun l:List Gl=>[.ro 3 (l.map dZ) .any]) p.1++(fun p:(List Ex)×(List El)×(List Co)×(List Da)=>(fun l:List Ex=>[.ro 2 (l.map eA) .any]) p.1++(fun p:(List El)×(List Co)×(List Da)=>(fun l:List El=>[.ro 2 (l.map dY) .any]) p.1++(fun p:(List Co)×(List Da)=>(fun l:List Co=>[.ro 2 (l.map dA) .any]) p.1++(fun l:List Da=>[.ro 2 (l.map eB) .any]) p.2) p.2) p.2) p.2) p.2) p.2) p.2) p.2) p.2) (fun p:(List FT)×(List Im)×(List Int)×Li×Li×(List Gl)×(List Ex)×(List El)×(List Co)×(List Da)=>aGH p.1∧(fun p:(List Im)×(List Int)×Li×Li×(List Gl)×(List Ex)×(List El)×(List Co)×(List Da)=>aD4 p.1∧(fun p:(List Int)×Li×Li×(List Gl)×(List Ex)×(List El)×(List Co)×(List Da)=>oR p.1∧(fun p:Li×Li×(List Gl)×(List Ex)×(List El)×(List Co)×(List Da)=>Li.R p.1∧(fun p:Li×(List Gl)×(List Ex)×(List El)×(List Co)×(List Da)=>Li.R p.1∧(fun p:(List Gl)×(List Ex)×(List El)×(List Co)×(List Da)=>RB p.1∧(fun p:(List Ex)×(List El)×(List Co)×(List Da)=>LA p.1∧(fun p:(List El)×(List Co)×(List Da)=>IM p.1∧(fun p:(List Co)×(List Da)=>DX p.1∧DY p.2) p.2) p.2) p.2) p.2) p.2) p.2) p.2) p.2):=by
 refine iA ?_;refine eR (f:=⟨_,_,_,_,_,_,_⟩) (sz':=13) (en:=(fun l:List FT=>[.ro 2 (l.map dD) .any])) (ok:=aGH) (en':=(fun p:(List Im)×(List Int)×Li×Li×(List Gl)×(List Ex)×(List El)×(List Co)×(List Da)=>(fun l:List Im=>[.ro 3 (l.map eM) .any]) p.1++(fun p:(List Int)×Li×Li×(List Gl)×(List Ex)×(List El)×(List Co)×(List Da)=>(fun l:List Int=>[.ro 1 (l.map aP) .any]) p.1++(fun p:Li×Li×(List Gl)×(List Ex)×(List El)×(List Co)×(List Da)=>fC p.1++(fun p:Li×(List Gl)×(List Ex)×(List El)×(List Co)×(List Da)=>fC p.1++(fun p:(List Gl)×(List Ex)×(List El)×(List Co)×(List Da)=>(fun l:List Gl=>[.ro 3 (l.map dZ) .any]) p.1++(fun p:(List Ex)×(List El)×(List Co)×(List Da)=>(fun l:List Ex=>[.ro 2 (l.map eA) .any]) p.1++(fun p:(List El)×(List Co)×(List Da)=>(fun l:List El=>[.ro 2 (l.map dY) .any]) p.1++(fun p:(List Co)×(List Da)=>(fun l:List Co=>[.ro 2 (l.map dA) .any]) p.1++(fun l:List Da=>[.ro 2 (l.map eB) .any]) p.2) p.2) p.2) p.2) p.2) p.2) p.2) p.2)) (ok':=(fun p:(List Im)×(List Int)×Li×Li×(List Gl)×(List Ex)×(List El)×(List Co)×(List Da)=>aD4 p.1∧(fun p:(List Int)×Li×Li×(List Gl)×(List Ex)×(List El)×(List Co)×(List Da)=>oR p.1∧(fun p:Li×Li×(List Gl)×(List Ex)×(List El)×(List Co)×(List Da)=>Li.R p.1∧(fun p:Li×(List Gl)×(List Ex)×(List El)×(List Co)×(List Da)=>Li.R p.1∧(fun p:(List Gl)×(List Ex)×(List El)×(List Co)×(List Da)=>RB p.1∧(fun p:(List Ex)×(List El)×(List Co)×(List Da)=>LA p.1∧(fun p:(List El)×(List Co)×(List Da)=>IM p.1∧(fun p:(List Co)×(List Da)=>DX p.1∧DY p.2) p.2) p.2) p.2) p.2) p.2) p.2) p.2)) aGI rfl ?_
 refine eR (f:=⟨_,_,_,_,_,_,_⟩) (sz':=12) (en:=(fun l:List Im=>[.ro 3 (l.map eM) .any])) (ok:=aD4) (en':=(fun p:(List Int)×Li×Li×(List Gl)×(List Ex)×(List El)×(List Co)×(List Da)=>(fun l:List Int=>[.ro 1 (l.map aP) .any]) p.1++(fun p:Li×Li×(List Gl)×(List Ex)×(List El)×(List Co)×(List Da)=>fC p.1++(fun p:Li×(List Gl)×(List Ex)×(List El)×(List Co)×(List Da)=>fC p.1++(fun p:(List Gl)×(List Ex)×(List El)×(List Co)×(List Da)=>(fun l:List Gl=>[.ro 3 (l.map dZ) .any]) p.1++(fun p:(List Ex)×(List El)×(List Co)×(List Da)=>(fun l:List Ex=>[.ro 2 (l.map eA) .any]) p.1++(fun p:(List El)×(List Co)×(List Da)=>(fun l:List El=>[.ro 2 (l.map dY) .any]) p.1++(fun p:(List Co)×(List Da)=>(fun l:List Co=>[.ro 2 (l.map dA) .any]) p.1++(fun l:List Da=>[.ro 2 (l.map eB) .any]) p.2) p.2) p.2) p.2) p.2) p.2) p.2)) (ok':=(fun p:(List Int)×Li×Li×(List Gl)×(List Ex)×(List El)×(List Co)×(List Da)=>oR p.1∧(fun p:Li×Li×(List Gl)×(List Ex)×(List El)×(List Co)×(List Da)=>Li.R p.1∧(fun p:Li×(List Gl)×(List Ex)×(List El)×(List Co)×(List Da)=>Li.R p.1∧(fun p:(List Gl)×(List Ex)×(List El)×(List Co)×(List Da)=>RB p.1∧(fun p:(List Ex)×(List El)×(List Co)×(List Da)=>LA p.1∧(fun p:(List El)×(List Co)×(List Da)=>IM p.1∧(fun p:(List Co)×(List Da)=>DX p.1∧DY p.2) p.2) p.2) p.2) p.2) p.2) p.2)) aGJ rfl ?_
 refine eR (f:=⟨_,_,_,_,_,_,_⟩) (sz':=11) (en:=(fun l:List Int=>[.ro 1 (l.map aP) .any])) (ok:=oR) (en':=(fun p:Li×Li×(List Gl)×(List Ex)×(List El)×(List Co)×(List Da)=>fC p.1++(fun p:Li×(List Gl)×(List Ex)×(List El)×(List Co)×(List Da)=>fC p.1++(fun p:(List Gl)×(List Ex)×(List El)×(List Co)×(List Da)=>(fun l:List Gl=>[.ro 3 (l.map dZ) .any]) p.1++(fun p:(List Ex)×(List El)×(List Co)×(List Da)=>(fun l:List Ex=>[.ro 2 (l.map eA) .any]) p.1++(fun p:(List El)×(List Co)×(List Da)=>(fun l:List El=>[.ro 2 (l.map dY) .any]) p.1++(fun p:(List Co)×(List Da)=>(fun l:List Co=>[.ro 2 (l.map dA) .any]) p.1++(fun l:List Da=>[.ro 2 (l.map eB) .any]) p.2) p.2) p.2) p.2) p.2) p.2)) (ok':=(fun p:Li×Li×(List Gl)×(List Ex)×(List El)×(List Co)×(List Da)=>Li.R p.1∧(fun p:Li×(List Gl)×(List Ex)×(List El)×(List Co)×(List Da)=>Li.R p.1∧(fun p:(List Gl)×(List Ex)×(List El)×(List Co)×(List Da)=>RB p.1∧(fun p:(List Ex)×(List El)×(List Co)×(List Da)=>LA p.1∧(fun p:(List El)×(List Co)×(List Da)=>IM p.1∧(fun p:(List Co)×(List Da)=>DX p.1∧DY p.2) p.2) p.2) p.2) p.2) p.2)) qC rfl ?_;refine eR (f:=⟨_,_,_,_,_,_,_⟩) (sz':=8) (en:=fC) (ok:=Li.R) (en':=(fun p:Li×(List Gl)×(List Ex)×(List El)×(List Co)×(List Da)=>fC p.1++(fun p:(List Gl)×(List Ex)×(List El)×(List Co)×(List Da)=>(fun l:List Gl=>[.ro 3 (l.map dZ) .any]) p.1++(fun p:(List Ex)×(List El)×(List Co)×(List Da)=>(fun l:List Ex=>[.ro 2 (l.map eA) .any]) p.1++(fun p:(List El)×(List Co)×(List Da)=>(fun l:List El=>[.ro 2 (l.map dY) .any]) p.1++(fun p:(List Co)×(List Da)=>(fun l:List Co=>[.ro 2 (l.map dA) .any]) p.1++(fun l:List Da=>[.ro 2 (l.map eB) .any]) p.2) p.2) p.2) p.2) p.2)) (ok':=(fun p:Li×(List Gl)×(List Ex)×(List El)×(List Co)×(List Da)=>Li.R p.1∧(fun p:(List Gl)×(List Ex)×(List El)×(List Co)×(List Da)=>RB p.1∧(fun p:(List Ex)×(List El)×(List Co)×(List Da)=>LA p.1∧(fun p:(List El)×(List Co)×(List Da)=>IM p.1∧(fun p:(List Co)×(List Da)=>DX p.1∧DY p.2) p.2) p.2) p.2) p.2)) aD3 rfl ?_
 refine eR (f:=⟨_,_,_,_,_,_,_⟩) (sz':=5) (en:=fC) (ok:=Li.R) (en':=(fun p:(List Gl)×(List Ex)×(List El)×(List Co)×(List Da)=>(fun l:List Gl=>[.ro 3 (l.map dZ) .any]) p.1++(fun p:(List Ex)×(List El)×(List Co)×(List Da)=>(fun l:List Ex=>[.ro 2 (l.map eA) .any]) p.1++(fun p:(List El)×(List Co)×(List Da)=>(fun l:List El=>[.ro 2 (l.map dY) .any]) p.1++(fun p:(List Co)×(List Da)=>(fun l:List Co=>[.ro 2 (l.map dA) .any]) p.1++(fun l:List Da=>[.ro 2 (l.map eB) .any]) p.2) p.2) p.2) p.2)) (ok':=(fun p:(List Gl)×(List Ex)×(List El)×(List Co)×(List Da)=>RB p.1∧(fun p:(List Ex)×(List El)×(List Co)×(List Da)=>LA p.1∧(fun p:(List El)×(List Co)×(List Da)=>IM p.1∧(fun p:(List Co)×(List Da)=>DX p.1∧DY p.2) p.2) p.2) p.2)) aD3 rfl ?_;refine eR (f:=⟨_,_,_,_,_,_,_⟩) (sz':=4) (en:=(fun l:List Gl=>[.ro 3 (l.map dZ) .any])) (ok:=RB) (en':=(fun p:(List Ex)×(List El)×(List Co)×(List Da)=>(fun l:List Ex=>[.ro 2 (l.map eA) .any]) p.1++(fun p:(List El)×(List Co)×(List Da)=>(fun l:List El=>[.ro 2 (l.map dY) .any]) p.1++(fun p:(List Co)×(List Da)=>(fun l:List Co=>[.ro 2 (l.map dA) .any]) p.1++(fun l:List Da=>[.ro 2 (l.map eB) .any]) p.2) p.2) p.2)) (ok':=(fun p:(List Ex)×(List El)×(List Co)×(List Da)=>LA p.1∧(fun p:(List El)×(List Co)×(List Da)=>IM p.1∧(fun p:(List Co)×(List Da)=>DX p.1∧DY p.2) p.2) p.2)) aGK rfl ?_
 refine eR (f:=⟨_,_,_,_,_,_,_⟩) (sz':=3) (en:=(fun l:List Ex=>[.ro 2 (l.map eA) .any])) (ok:=LA) (en':=(fun p:(List El)×(List Co)×(List Da)=>(fun l:List El=>[.ro 2 (l.map dY) .any]) p.1++(fun p:(List Co)×(List Da)=>(fun l:List Co=>[.ro 2 (l.map dA) .any]) p.1++(fun l:List Da=>[.ro 2 (l.map eB) .any]) p.2) p.2)) (ok':=(fun p:(List El)×(List Co)×(List Da)=>IM p.1∧(fun p:(List Co)×(List Da)=>DX p.1∧DY p.2) p.2)) aGL rfl ?_;refine eR (f:=⟨_,_,_,_,_,_,_⟩) (sz':=2) (en:=(fun l:List El=>[.ro 2 (l.map dY) .any])) (ok:=IM) (en':=(fun p:(List Co)×(List Da)=>(fun l:List Co=>[.ro 2 (l.map dA) .any]) p.1++(fun l:List Da=>[.ro 2 (l.map eB) .any]) p.2)) (ok':=(fun p:(List Co)×(List Da)=>DX p.1∧DY p.2)) aGM rfl ?_;refine eR (f:=⟨_,_,_,_,_,_,_⟩) (sz':=1) (en:=(fun l:List Co=>[.ro 2 (l.map dA) .any])) (ok:=DX) (en':=(fun l:List Da=>[.ro 2 (l.map eB) .any])) (ok':=DY) aGN rfl ?_;exact nD aGO rfl
theorem aJM:RdA Tryz.prog 33 Md 14 bR Md.R:=by
 refine kT aGP (fun p:(List FT)×(List Im)×(List Int)×Li×Li×(List Gl)×(List Ex)×(List El)×(List Co)×(List Da)=>⟨p.1,p.2.1,p.2.2.1,p.2.2.2.1,p.2.2.2.2.1,p.2.2.2.2.2.1,p.2.2.2.2.2.2.1,p.2.2.2.2.2.2.2.1,p.2.2.2.2.2.2.2.2.1,p.2.2.2.2.2.2.2.2.2⟩) _ _ (fun b=>⟨rfl,by simp[bR,AV.cell]⟩) (fun a _=>rfl) (fun p hp=> ?_);exact⟨hp.1,hp.2.1,hp.2.2.1,hp.2.2.2.1,hp.2.2.2.2.1,hp.2.2.2.2.2.1,hp.2.2.2.2.2.2.1,hp.2.2.2.2.2.2.2.1,hp.2.2.2.2.2.2.2.2.1,hp.2.2.2.2.2.2.2.2.2⟩
theorem Md.R.a {m:Md}(h:m.R):m.A:=by
 obtain⟨h1,h2,h3,-,-,h4,h5,h6,h7,h8⟩:=h;exact⟨⟨h1.1,fun x hx=>⟨(h1.2 x hx).1.1,(h1.2 x hx).2.1⟩⟩,⟨h2.1,fun x hx=>⟨(h2.2 x hx).1.1,(h2.2 x hx).2.1.1⟩⟩,h3.1,h4.1,⟨h5.1,fun x hx=>(h5.2 x hx).1.1⟩,⟨h6.1,fun x hx=>(h6.2 x hx).2.1⟩,
  ⟨h7.1,fun x hx=>⟨(h7.2 x hx).1.1,(h7.2 x hx).2.1,fun i hi=>((h7.2 x hx).2.2 i hi).2.2.2.1⟩⟩,⟨h8.1,fun x hx=>(h8.2 x hx).2.1⟩⟩
theorem oD{α:Type}{f:α→α}{l:List α}{n:Nat}{x:α}(h:x∈eW f l n):∃y∈l,x=f y:=by
 obtain⟨y,hy,rfl⟩:=List.mem_map.1 h;exact⟨y,List.mem_of_mem_take hy,rfl⟩
theorem aD5{α:Type}(f:α→α)(l:List α)(n:Nat):(eW f l n).length≤n:=by unfold eW;simp;omega
theorem aJN{m:Md}(h:m.R):(aBj m).WO:=by
 obtain⟨h1,h2,h3,-,-,h4,h5,h6,h7,h8⟩:=h;refine⟨⟨fun x hx=> ?_,fun x hx=> ?_,fun x hx=> ?_, ?_,fun x hx=> ?_⟩,fun x hx=> ?_,fun x hx=> ?_⟩
 ·obtain⟨y,hy,rfl⟩:=oD hx;have:=h2.2 y hy;exact⟨⟨by simp[tN];omega,fun c hc=>this.1.2 c (List.mem_of_mem_take hc)⟩,by simp[tN];omega,fun c hc=>this.2.1.2 c (List.mem_of_mem_take hc)⟩
 ·obtain⟨y,hy,rfl⟩:=oD hx;have:=h5.2 y hy;exact⟨by simp[AJ];omega,fun c hc=>this.1.2 c (List.mem_of_mem_take hc)⟩
 ·obtain⟨y,hy,rfl⟩:=oD hx;simp[CG,kE];omega
 ·have:=aD5 tN m.im 18;show(eW tN m.im 18).length≤ _;omega
 ·obtain⟨y,hy,rfl⟩:=oD hx;exact fun c hc=>(h8.2 y hy).2.2 c (List.mem_of_mem_take hc)
 ·obtain⟨y,hy,rfl⟩:=oD hx;intro i hi;obtain⟨z,hz,rfl⟩:=List.mem_map.1 hi;obtain⟨p1,p2,p3,p4,p5⟩:=(h7.2 y hy).2.2 z (List.mem_of_mem_take hz);exact⟨p1.1,p1.2,p2.1,p2.2,by simp[PO];omega⟩
 ·obtain⟨y,hy,he⟩:=oD hx;rw[he];exact BU (h4.2 y hy).2
theorem aLJ{m:Md}:(aBj m).Z:=by
 have hl:∀ {α:Type} (f:α→α) (l:List α),(eW f l 18).length≤1000000:=fun f l=>Nat.le_trans (aD5 f l 18) (by decide)
 refine⟨⟨hl _ _,fun x hx=> ?_⟩,hl _ _,by show(m.fn.take 18).length≤ _;simp;omega,hl _ _,hl _ _,⟨hl _ _,fun x hx=> ?_⟩,⟨hl _ _,fun x hx=> ?_⟩,⟨hl _ _,fun x hx=> ?_⟩⟩
 ·obtain⟨y,hy,rfl⟩:=oD hx;simp[wE];omega
 ·obtain⟨y,hy,rfl⟩:=oD hx;simp[CF];omega
 ·obtain⟨y,hy,rfl⟩:=oD hx;simp[CG];omega
 ·obtain⟨y,hy,rfl⟩:=oD hx;simp[HS];omega
end Go.Proofs.YtjpdadobblffmaaGreat
