import Derived.Test.YtjpdadobblffmaaGreatIA3
import Derived.Test.YtjpdadobblffmaaGreatIA2
set_option linter.unusedSimpArgs false
set_option linter.unusedVariables false
set_option maxRecDepth 100000
set_option maxHeartbeats 4000000
namespace Go.Proofs.YtjpdadobblffmaaGreat
open Go.RowKit Go.ChangeShapes Go.WideShapes Go.ChangeAt Go.Deep
attribute [local irreducible] SW RS RD eM dR
theorem nN{α:Type}{pt:α→List Nat}{l:List α}{c:Nat}(h:∀x∈l,(pt x).length≤c)(hl:l.length≤1000):(aZ l pt).length≤2+l.length*c:=by
 have hu:=bS 1 l.length (by omega);have h1:∀(l:List α),(∀x∈l,(pt x).length≤c)→(l.flatMap pt).length≤l.length*c:=by
  intro l
  induction l with
  |nil=>simp
  |cons x l ih=>
   intro h;have:=ih fun y hy=>h y (List.mem_cons_of_mem _ hy)
   have hx:=h x List.mem_cons_self;rw[List.flatMap_cons,List.length_append,List.length_cons,Nat.add_mul];omega
 have:=h1 l h;unfold aZ;rw[List.length_append];omega
theorem tP(k:Int):(kB k).length=1:=by unfold kB;split<;>rfl
theorem GD{n:Int}(h:jD n=true):(gC n).length≤2:=by
 have:0≤n∧n≤1000:=by
  unfold jD at h;by_cases h0:0≤n
  ·rw[if_pos (by simpa using h0)]at h;exact⟨h0,by simpa using h⟩
  ·rw[if_neg (by simpa using h0)]at h;cases h
 exact bS 1 _ (by omega)
theorem ED:gD Tryz.prog 5 132 (fun k:Int=>.int .i64 k) kB (fun _=>True) 1 20000000:=
 ⟨Tryz.call132,fun q vs x _ _ hvs=>⟨Nat.le_of_eq (tP x),pO q vs (by omega) x⟩⟩
theorem mH(q:Nat)(vs:List Nat)(hvs:vs.length≤50000000)(n:Int)(h0:0≤n)(h1:n<9223372036854775808):SCall Tryz.prog 135 [.own q 0 vs.length,.int .i64 n] [(q,.arr 5 1 (vs.map aH))]
  (fun y σ=>∃r,y=.own r 0 (vs++gC n).length∧σ=[(r,.arr 5 1 ((vs++gC n).map aH))]):=by
 obtain⟨m,rfl⟩:=Int.eq_ofNat_of_zero_le h0;exact dC q vs hvs m (by omega)
theorem pY{n:Int}(h:jD n=true):0≤n∧n≤1000:=by
 unfold jD at h;by_cases h0:0≤n
 ·rw[if_pos (by simpa using h0)]at h;exact⟨h0,by simpa using h⟩
 ·rw[if_neg (by simpa using h0)]at h;cases h
theorem zV:gD Tryz.prog 5 135 (fun n:Int=>.int .i64 n) gC (fun n=>jD n=true) 2 20000000:=
 ⟨Tryz.call135,fun q vs n h _ hvs=>⟨GD h,mH q vs (by omega) n (pY h).1 (by have:=(pY h).2;omega)⟩⟩
theorem aHL(q:Nat)(vs:List Nat)(hvs:vs.length≤10000000)(pr rs:List Int)(h1:pr.length≤32)(h2:rs.length≤1):SCall Tryz.prog 130 [.own q 0 vs.length,.agg (dF ⟨pr,rs⟩)] [(q,.arr 5 1 (vs.map aH))]
  (fun y σ=>∃r,y=.own r 0 (vs++QM ⟨pr,rs⟩).length∧σ=[(r,.arr 5 1 ((vs++QM ⟨pr,rs⟩).map aH))]):=by
 have l1:=nN (pt:=kB) (l:=pr) (c:=1) (fun x _=>Nat.le_of_eq (tP x)) (by omega);refine bO 14 [0,1,3,4] Tryz.func130 ?_;unfold dF;refine cV ?_;refine gM fun r3 h3=> ?_;intros
 refine cI ?_;refine hU [(0,true),(3,true),(4,true),(6,true),(7,true),(1,false),(2,false),(5,false),(8,false),(9,true)] ?_;refine KJ ?_;refine kX ?_;refine ZM fun r6 h6=> ?_;intros
 refine vS rfl ((vs++ [96]).map aH) (vs++ [96]).length ?_;refine dG fun r7 h7=> ?_;intros
 refine nR [(r7,.arr 5 1 ((vs++ [96]).map aH))] rfl Tryz.call131 (yI ED (by decide) r7 (vs++ [96]) pr (fun _ _=>trivial) (by omega) (by simp;omega)) rfl aB aA eU ?_;rintro _ σ' ⟨r10,rfl,rfl⟩ h10;have k10:=aO h10;repeat rcases k10 with⟨_,k10⟩
 apply dY;exact bX;refine nR [(r10,.arr 5 1 ((vs++ [96]++aZ pr kB).map aH))] rfl Tryz.call131 (yI ED (by decide) r10 (vs++ [96]++aZ pr kB) rs (fun _ _=>trivial) (by omega) (by simp;omega)) rfl aB aA eU ?_;rintro _ σ' ⟨r13,rfl,rfl⟩ h13;have k13:=aO h13;repeat rcases k13 with⟨_,k13⟩
 refine xL ?_;rw[show vs++ [96]++aZ pr kB++aZ rs kB=vs++QM ⟨pr,rs⟩ by unfold QM;simp];exact aE aF ⟨r13,by rfl,rfl⟩ aA
theorem QR:gD Tryz.prog 5 130 (fun x=>.agg (dF x)) QM (fun t=>(cD t.pr 32 NO&&cD t.rs 1 NO)=true) 100 10000000:=
 ⟨Tryz.call130,fun q vs x h _ hvs=>by
  obtain⟨pr,rs⟩:=x;have h1:pr.length≤32:=by simp[cD]at h;omega
  have h2:rs.length≤1:=by simp[cD]at h;omega
  have l1:=nN (pt:=kB) (l:=pr) (c:=1) (fun x _=>Nat.le_of_eq (tP x)) (by omega);have l2:=nN (pt:=kB) (l:=rs) (c:=1) (fun x _=>Nat.le_of_eq (tP x)) (by omega);exact⟨by unfold QM;simp;omega,aHL q vs hvs pr rs h1 h2⟩⟩
theorem iU{s:List Nat}(h:vW s=true):s.length≤16∧(∀c∈s,c<256)∧(eL s).length≤18:=by
 unfold vW at h;split at h
 ·simp only[Bool.and_eq_true,decide_eq_true_eq,List.all_eq_true]at h;refine⟨h.1,fun c hc=>by have:=(h.2 c hc).2;omega, ?_⟩;have:=bS 1 s.length (by omega);unfold eL;rw[List.length_append];omega
 ·cases h
theorem aHM(q:Nat)(vs:List Nat)(hp:0<vs.length)(hvs:vs.length≤10000000)(md nm:List Nat)(ty:Int)(m1:vW md=true)(m2:vW nm=true)(m3:jD ty=true):SCall Tryz.prog 134 [.own q 0 vs.length,.agg (eE ⟨md,nm,ty⟩)] [(q,.arr 5 1 (vs.map aH))]
  (fun y σ=>∃r,y=.own r 0 (vs++LF ⟨md,nm,ty⟩).length∧σ=[(r,.arr 5 1 ((vs++LF ⟨md,nm,ty⟩).map aH))]):=by
 obtain⟨a1,a2,a3⟩:=iU m1;obtain⟨b1,b2,b3⟩:=iU m2;refine bO 17 [0,1,3,4] Tryz.func134 ?_;unfold eE;refine cV ?_;refine gM fun r3 h3=> ?_;intros
 refine cI ?_;refine hU [(0,true),(1,true),(2,true),(4,true),(5,true),(9,true),(10,true),(13,false),(13,false),(13,false),(13,false),(13,false),(13,false)] ?_;refine KJ ?_;refine kX ?_;refine kX ?_;refine zT 3 7 [(13,false),(13,false),(13,false),(13,false),(13,false)] [(3,false),(6,false),(8,false),(11,false),(12,true)] (f1:=[q]) (f2:=[]) (by kernel_rfl) rfl rfl ?_ ?_ (.inr ⟨by simp,eU⟩) (.inl rfl)
 ·refine qS (σ1:=[(q,.arr 5 1 (vs.map aH))]) Tryz.call136 (lD q vs hp (by omega) md (by omega) a2) (cL rfl) aB aA ?_;rintro _ σ' ⟨r8,rfl,rfl⟩ h8;have k8:=aO h8;repeat rcases k8 with⟨_,k8⟩
  apply dY;exact bX;refine zT 6 7 [(7,false),(8,false),(11,false),(12,true)] [(6,false),(8,false),(11,false),(12,true)] (f1:=[r8]) (f2:=[]) (by kernel_rfl) rfl rfl ?_ ?_ (.inr ⟨by simp,eU⟩) (.inl rfl)
  ·refine qS (σ1:=[(r8,.arr 5 1 ((vs++eL md).map aH))]) Tryz.call136 (lD r8 (vs++eL md) (by simp;omega) (by simp;omega) nm (by omega) b2) (cL rfl) aB aA ?_;rintro _ σ' ⟨r11,rfl,rfl⟩ h11;have k11:=aO h11;repeat rcases k11 with⟨_,k11⟩
   apply dY;exact bX;refine ZM fun r12 h12=> ?_;intros
   refine vS rfl ((vs++eL md++eL nm++ [0]).map aH) (vs++eL md++eL nm++ [0]).length ?_;refine dG fun r13 h13=> ?_;intros
   refine nR [(r13,.arr 5 1 ((vs++eL md++eL nm++ [0]).map aH))] rfl Tryz.call135 (mH r13 (vs++eL md++eL nm++ [0]) (by simp;omega) ty (pY m3).1 (by have:=(pY m3).2;omega)) rfl aB aA eU ?_;rintro _ σ' ⟨r16,rfl,rfl⟩ h16;have k16:=aO h16;repeat rcases k16 with⟨_,k16⟩
   refine xL ?_;rw[show vs++eL md++eL nm++ [0]++gC ty=vs++LF ⟨md,nm,ty⟩ by unfold LF;simp];exact aE aF ⟨r16,by rfl,rfl⟩ aA
  ·apply WP;infer_instance;infer_instance;exact DK;rfl;rfl;rfl;rfl;exact FJ;rfl;refine cT fun r12 h12=> ?_;repeat rcases h12 with⟨_,h12⟩
   refine nR [(r8,.arr 5 1 ((vs++eL md).map aH))] rfl Tryz.call136 (lD r8 (vs++eL md) (by simp;omega) (by simp;omega) nm (by omega) b2) rfl aB aA eU ?_;rintro _ σ' ⟨r11,rfl,rfl⟩ h11;have k11:=aO h11;repeat rcases k11 with⟨_,k11⟩
   apply dY;exact bX;refine vS rfl ((vs++eL md++eL nm++ [0]).map aH) (vs++eL md++eL nm++ [0]).length ?_;refine dG fun r13 h13=> ?_;intros
   refine nR [(r13,.arr 5 1 ((vs++eL md++eL nm++ [0]).map aH))] rfl Tryz.call135 (mH r13 (vs++eL md++eL nm++ [0]) (by simp;omega) ty (pY m3).1 (by have:=(pY m3).2;omega)) rfl aB aA eU ?_;rintro _ σ' ⟨r16,rfl,rfl⟩ h16;have k16:=aO h16;repeat rcases k16 with⟨_,k16⟩
   refine xL ?_;rw[show vs++eL md++eL nm++ [0]++gC ty=vs++LF ⟨md,nm,ty⟩ by unfold LF;simp];exact aE aF ⟨r16,by rfl,rfl⟩ aA
 ·apply WP;infer_instance;infer_instance;exact DK;rfl;rfl;rfl;rfl;exact FJ;rfl;refine cT fun r12 h12=> ?_;repeat rcases h12 with⟨_,h12⟩
  refine nR [(q,.arr 5 1 (vs.map aH))] rfl Tryz.call136 (lD q vs hp (by omega) md (by omega) a2) rfl aB aA eU ?_;rintro _ σ' ⟨r8,rfl,rfl⟩ h8;have k8:=aO h8;repeat rcases k8 with⟨_,k8⟩
  apply dY;exact bX;refine nR [(r8,.arr 5 1 ((vs++eL md).map aH))] rfl Tryz.call136 (lD r8 (vs++eL md) (by simp;omega) (by simp;omega) nm (by omega) b2) rfl aB aA eU ?_;rintro _ σ' ⟨r11,rfl,rfl⟩ h11;have k11:=aO h11;repeat rcases k11 with⟨_,k11⟩
  apply dY;exact bX;refine vS rfl ((vs++eL md++eL nm++ [0]).map aH) (vs++eL md++eL nm++ [0]).length ?_;refine dG fun r13 h13=> ?_;intros
  refine nR [(r13,.arr 5 1 ((vs++eL md++eL nm++ [0]).map aH))] rfl Tryz.call135 (mH r13 (vs++eL md++eL nm++ [0]) (by simp;omega) ty (pY m3).1 (by have:=(pY m3).2;omega)) rfl aB aA eU ?_;rintro _ σ' ⟨r16,rfl,rfl⟩ h16;have k16:=aO h16;repeat rcases k16 with⟨_,k16⟩
  refine xL ?_;rw[show vs++eL md++eL nm++ [0]++gC ty=vs++LF ⟨md,nm,ty⟩ by unfold LF;simp];exact aE aF ⟨r16,by rfl,rfl⟩ aA
theorem aHN(q:Nat)(vs:List Nat)(hp:0<vs.length)(hvs:vs.length≤10000000)(nm:List Nat)(fn:Int)(m2:vW nm=true)(m3:jD fn=true):SCall Tryz.prog 146 [.own q 0 vs.length,.agg (dJ ⟨nm,fn⟩)] [(q,.arr 5 1 (vs.map aH))]
  (fun y σ=>∃r,y=.own r 0 (vs++NM ⟨nm,fn⟩).length∧σ=[(r,.arr 5 1 ((vs++NM ⟨nm,fn⟩).map aH))]):=by
 obtain⟨b1,b2,b3⟩:=iU m2;refine bO 14 [0,1,3,4] Tryz.func146 ?_;unfold dJ;refine cV ?_;refine gM fun r3 h3=> ?_;intros
 refine cI ?_;refine hU [(0,true),(1,true),(2,true),(6,true),(7,true),(10,false),(10,false),(10,false),(10,false),(10,false)] ?_;refine KJ ?_;refine kX ?_;refine zT 3 4 [(4,false),(5,false),(8,false),(9,true)] [(3,false),(5,false),(8,false),(9,true)] (f1:=[q]) (f2:=[]) (by kernel_rfl) rfl rfl ?_ ?_ (.inr ⟨by simp,eU⟩) (.inl rfl)
 ·refine qS (σ1:=[(q,.arr 5 1 (vs.map aH))]) Tryz.call136 (lD q vs hp (by omega) nm (by omega) b2) (cL rfl) aB aA ?_;rintro _ σ' ⟨r8,rfl,rfl⟩ h8;have k8:=aO h8;repeat rcases k8 with⟨_,k8⟩
  apply dY;exact bX;refine ZM fun r9 h9=> ?_;intros
  refine vS rfl ((vs++eL nm++ [0]).map aH) (vs++eL nm++ [0]).length ?_;refine dG fun r10 h10=> ?_;intros
  refine nR [(r10,.arr 5 1 ((vs++eL nm++ [0]).map aH))] rfl Tryz.call135 (mH r10 (vs++eL nm++ [0]) (by simp;omega) fn (pY m3).1 (by have:=(pY m3).2;omega)) rfl aB aA eU ?_;rintro _ σ' ⟨r13,rfl,rfl⟩ h13;have k13:=aO h13;repeat rcases k13 with⟨_,k13⟩
  refine xL ?_;rw[show vs++eL nm++ [0]++gC fn=vs++NM ⟨nm,fn⟩ by unfold NM;simp];exact aE aF ⟨r13,by rfl,rfl⟩ aA
 ·apply WP;infer_instance;infer_instance;exact DK;rfl;rfl;rfl;rfl;exact FJ;rfl;refine cT fun r9 h9=> ?_;repeat rcases h9 with⟨_,h9⟩
  refine nR [(q,.arr 5 1 (vs.map aH))] rfl Tryz.call136 (lD q vs hp (by omega) nm (by omega) b2) rfl aB aA eU ?_;rintro _ σ' ⟨r8,rfl,rfl⟩ h8;have k8:=aO h8;repeat rcases k8 with⟨_,k8⟩
  apply dY;exact bX;refine vS rfl ((vs++eL nm++ [0]).map aH) (vs++eL nm++ [0]).length ?_;refine dG fun r10 h10=> ?_;intros
  refine nR [(r10,.arr 5 1 ((vs++eL nm++ [0]).map aH))] rfl Tryz.call135 (mH r10 (vs++eL nm++ [0]) (by simp;omega) fn (pY m3).1 (by have:=(pY m3).2;omega)) rfl aB aA eU ?_;rintro _ σ' ⟨r13,rfl,rfl⟩ h13;have k13:=aO h13;repeat rcases k13 with⟨_,k13⟩
  refine xL ?_;rw[show vs++eL nm++ [0]++gC fn=vs++NM ⟨nm,fn⟩ by unfold NM;simp];exact aE aF ⟨r13,by rfl,rfl⟩ aA
theorem rO(q:Nat)(vs:List Nat)(hvs:vs.length≤10000000)(l:Li)(h0:0≤l.mn)(h1:l.mn≤100000)(h2:l.mx≤100000):SCall Tryz.prog 141 [.own q 0 vs.length,.agg (gG l)] [(q,.arr 5 1 (vs.map aH))]
  (fun y σ=>∃r,y=.own r 0 (vs++gO l).length∧σ=[(r,.arr 5 1 ((vs++gO l).map aH))]):=by
 obtain⟨has,mn,mx⟩:=l;dsimp only at h0 h1 h2;have hu:=bS 2 mn.toNat (by omega);refine bO 23 [0,1,3,4,7] Tryz.func141 ?_;unfold gG;refine cV ?_;refine gM fun r3 h3=> ?_;intros
 refine gT ?_;refine tB ?_;refine aC rfl (fun g1=> ?_) (fun g1=> ?_)
 ·refine aJ ?_;refine hU [(0,true),(3,true),(4,true),(1,false),(2,false),(5,false),(6,true)] ?_;refine KJ ?_;refine ZM fun r9 h9=> ?_;intros
  refine vS rfl ((vs++ [0]).map aH) (vs++ [0]).length ?_;refine dG fun r10 h10=> ?_;intros
  refine nR [(r10,.arr 5 1 ((vs++ [0]).map aH))] rfl Tryz.call135 (mH r10 (vs++ [0]) (by simp;omega) mn h0 (by omega)) rfl aB aA eU ?_;rintro _ σ' ⟨r13,rfl,rfl⟩ h13;have k13:=aO h13;repeat rcases k13 with⟨_,k13⟩
  refine xL ?_;rw[show vs++ [0]++gC mn=vs++gO ⟨has,mn,mx⟩ by unfold gO;rw[if_pos g1];simp];exact aE aF ⟨r13,by rfl,rfl⟩ aA
 refine aJ ?_;refine hU [(0,true),(3,true),(4,true),(6,true),(7,true),(1,false),(2,false),(5,false),(8,false),(9,true)] ?_;refine KJ ?_;refine kX ?_;refine ZM fun r15 h15=> ?_;intros
 refine vS rfl ((vs++ [1]).map aH) (vs++ [1]).length ?_;refine dG fun r16 h16=> ?_;intros
 refine nR [(r16,.arr 5 1 ((vs++ [1]).map aH))] rfl Tryz.call135 (mH r16 (vs++ [1]) (by simp;omega) mn h0 (by omega)) rfl aB aA eU ?_;rintro _ σ' ⟨r19,rfl,rfl⟩ h19;have k19:=aO h19;repeat rcases k19 with⟨_,k19⟩
 apply dY;exact bX;refine nR [(r19,.arr 5 1 ((vs++ [1]++gC mn).map aH))] rfl Tryz.call135 (mH r19 (vs++ [1]++gC mn) (by simp[gC];omega) mx (by simp at g1;omega) (by omega)) rfl aB aA eU ?_;rintro _ σ' ⟨r22,rfl,rfl⟩ h22;have k22:=aO h22;repeat rcases k22 with⟨_,k22⟩
 refine xL ?_;rw[show vs++ [1]++gC mn++gC mx=vs++gO ⟨has,mn,mx⟩ by unfold gO;rw[if_neg (by simp[g1])];simp];exact aE aF ⟨r22,by rfl,rfl⟩ aA
theorem aHO(q:Nat)(vs:List Nat)(hvs:vs.length≤9000000)(l:Li)(h0:0≤l.mn)(h1:l.mn≤100000)(h2:l.mx≤100000):SCall Tryz.prog 140 [.own q 0 vs.length,.agg (gG l)] [(q,.arr 5 1 (vs.map aH))]
  (fun y σ=>∃r,y=.own r 0 (vs++112::gO l).length∧σ=[(r,.arr 5 1 ((vs++112::gO l).map aH))]):=by
 refine bO 10 [0,1,3,4] Tryz.func140 ?_;refine cV ?_;refine gM fun r3 h3=> ?_;intros
 refine cI ?_;refine hU [(0,true),(3,true),(1,false),(2,false),(4,false),(5,true)] ?_;refine fO rfl (aD (E rfl)) rfl ?_;refine JN ?_;refine ZM fun r6 h6=> ?_;intros
 refine vS rfl ((vs++ [112]).map aH) (vs++ [112]).length ?_;refine dG fun r7 h7=> ?_;intros
 refine nR [(r7,.arr 5 1 ((vs++ [112]).map aH))] rfl Tryz.call141 (rO r7 (vs++ [112]) (by simp;omega) l h0 h1 h2) rfl aB aA eU ?_;rintro _ σ' ⟨r9,rfl,rfl⟩ h9;have k9:=aO h9;repeat rcases k9 with⟨_,k9⟩
 refine xL ?_;rw[show vs++ [112]++gO l=vs++112::gO l by simp];exact aE aF ⟨r9,by rfl,rfl⟩ aA
theorem zW(q:Nat)(vs:List Nat)(hvs:vs.length≤10000000)(n:Int)(h:iT n=true):SCall Tryz.prog 149 [.own q 0 vs.length,.int .i64 n] [(q,.arr 5 1 (vs.map aH))]
  (fun y σ=>∃r,y=.own r 0 (vs++nV n).length∧σ=[(r,.arr 5 1 ((vs++nV n).map aH))]):=by
 have hr:-2147483648≤n∧n≤2147483647:=by unfold iT at h;simpa using h
 refine bO 11 [0,1,4] Tryz.func149 ?_;refine kM ?_;refine eP fun r6 h6=> ?_;intros
 refine mP ((vs++ [0]).map aH) (vs++ [0]).length ?_;refine dG fun r7 h7=> ?_;intros
 refine lo (aD (E rfl)) rfl ?_;refine iA ?_;refine cw [(r7,.arr 5 1 ((vs++ [0]).map aH))] Tryz.call144 (nX r7 (vs++ [0]) (by simp;omega) 1 n (by unfold nW;simp;omega) (by omega)) rfl aB aA ?_;rintro _ σ' ⟨r10,rfl,rfl⟩ h10;have k10:=aO h10;repeat rcases k10 with⟨_,k10⟩
 refine dS ?_;rw[show vs++ [0]++vV 1 n=vs++nV n by unfold nV;simp];exact aE aF ⟨r10,by rfl,rfl⟩ aA
theorem aHP(q:Nat)(vs:List Nat)(hvs:vs.length≤9000000)(o:Int)(fs:List Int)(h:iT o=true)(h1:fs.length≤50)(h2:∀n∈fs,jD n=true)(hc:(nV o).length≤300):SCall Tryz.prog 148 [.own q 0 vs.length,.agg (dV ⟨o,fs⟩)] [(q,.arr 5 1 (vs.map aH))]
  (fun y σ=>∃r,y=.own r 0 (vs++LG ⟨o,fs⟩).length∧σ=[(r,.arr 5 1 ((vs++LG ⟨o,fs⟩).map aH))]):=by
 refine bO 12 [0,1,3,4] Tryz.func148 ?_;unfold dV;refine cV ?_;refine gM fun r3 h3=> ?_;intros
 refine cI ?_;refine hU [(0,true),(1,true),(2,true),(4,true),(5,true),(3,false),(6,false),(7,true)] ?_;refine KJ ?_;refine kX ?_;refine nR [(q,.arr 5 1 (vs.map aH))] rfl Tryz.call149 (zW q vs (by omega) o h) rfl aB aA eU ?_;rintro _ σ' ⟨r8,rfl,rfl⟩ h8;have k8:=aO h8;repeat rcases k8 with⟨_,k8⟩
 apply dY;exact bX;refine nR [(r8,.arr 5 1 ((vs++nV o).map aH))] rfl Tryz.call131 (yI zV (by decide) r8 (vs++nV o) fs h2 (by omega) (by simp;omega)) rfl aB aA eU ?_;rintro _ σ' ⟨r11,rfl,rfl⟩ h11;have k11:=aO h11;repeat rcases k11 with⟨_,k11⟩
 refine xL ?_;rw[show vs++nV o++aZ fs gC=vs++LG ⟨o,fs⟩ by unfold LG;simp];exact aE aF ⟨r11,by rfl,rfl⟩ aA
theorem aHQ(q:Nat)(vs:List Nat)(hvs:vs.length≤9000000)(o:Int)(bs:List Nat)(h:iT o=true)(h1:bs.length≤1000)(hc:(nV o).length≤300):SCall Tryz.prog 153 [.own q 0 vs.length,.agg (dW ⟨o,bs⟩)] [(q,.arr 5 1 (vs.map aH))]
  (fun y σ=>∃r,y=.own r 0 (vs++NN ⟨o,bs⟩).length∧σ=[(r,.arr 5 1 ((vs++NN ⟨o,bs⟩).map aH))]):=by
 have hu:=bS 1 bs.length (by omega);refine bO 16 [0,1,3,4] Tryz.func153 ?_;unfold dW;refine cV ?_;refine gM fun r3 h3=> ?_;intros
 refine cI ?_;refine hU [(0,true),(1,true),(2,true),(4,true),(5,true),(6,true),(8,true),(9,true),(3,false),(7,false),(10,false),(11,true)] ?_;refine KJ ?_;refine kX ?_;refine JM ?_;refine kX ?_;refine nR [(q,.arr 5 1 (vs.map aH))] rfl Tryz.call149 (zW q vs (by omega) o h) rfl aB aA eU ?_;rintro _ σ' ⟨r8,rfl,rfl⟩ h8;have k8:=aO h8;repeat rcases k8 with⟨_,k8⟩
 apply dY;exact bX;refine nR [(r8,.arr 5 1 ((vs++nV o).map aH))] rfl Tryz.call135 (dC r8 (vs++nV o) (by simp;omega) bs.length (by omega)) rfl aB aA eU ?_;rintro _ σ' ⟨r12,rfl,rfl⟩ h12;have k12:=aO h12;repeat rcases k12 with⟨_,k12⟩
 apply dY;exact bX;refine vS rfl ((vs++nV o++uB bs.length++bs).map aH) (vs++nV o++uB bs.length++bs).length ?_;refine dG fun r15 h15=> ?_;intros
 refine BO ?_;rw[show vs++nV o++uB bs.length++bs=vs++NN ⟨o,bs⟩ by unfold NN;simp];exact aE aF ⟨r15,by rfl,rfl⟩ aA
theorem LL(l:Li):SCall Tryz.prog 139 [.agg (gG l)] [] (fun y σ=>∃q,y=.own q 0 (jT l).length∧σ=[(q,.arr 26 3 ((jT l).map gG))]):=by
 obtain⟨has,mn,mx⟩:=l;refine bO 8 [0,1,2,5] Tryz.func139 ?_;unfold gG;refine cV ?_;refine gM fun r1 h1=> ?_;intros
 refine gT ?_;refine vQ ?_;refine aC rfl (fun g1=> ?_) (fun g1=> ?_)
 ·obtain rfl:has=false:=by simpa using g1
  refine cV ?_;refine lZ ?_;refine cY 2 26 3 (by decide) rfl (by decide) (cT fun q2 hq2=> ?_);repeat rcases hq2 with⟨_,hq2⟩
  refine aJ ?_;exact aE aF ⟨q2,by rfl,rfl⟩ aA
 obtain rfl:has=true:=by simpa using g1
 refine oM ?_;refine eP fun r7 h7=> ?_;intros
 refine cI ?_;exact aE aF ⟨r7,by rfl,rfl⟩ aA
theorem QS{k n:Int}(hv:nW k n=true)(hn:-9223372036854775808≤n∧n≤9223372036854775807):(vV k n).length≤201:=by
 obtain⟨ho,hm,-⟩:=GB hv hn;have:=zM ho hm;unfold vV;rw[List.length_append,List.length_singleton];omega
theorem yJ{n:Int}(h:iT n=true):(nV n).length≤202:=by
 have hr:-2147483648≤n∧n≤2147483647:=by unfold iT at h;simpa using h
 have:=QS (k:=1) (n:=n) (by unfold nW;simp;omega) (by omega);unfold nV;simp;omega
theorem QT:gD Tryz.prog 5 134 (fun x=>.agg (eE x)) LF (fun x=>(vW x.mod&&vW x.nm&&jD x.ty)=true) 50 10000000:=
 ⟨Tryz.call134,fun q vs x h hp hvs=>by
  obtain⟨a,b,n⟩:=x;simp only[Bool.and_eq_true]at h;obtain⟨⟨h1,h2⟩,h3⟩:=h;have l1:=(iU h1).2.2;have l2:=(iU h2).2.2;have l3:=GD h3;exact⟨by unfold LF;simp;omega,aHM q vs hp hvs a b n h1 h2 h3⟩⟩
theorem QU:gD Tryz.prog 5 146 (fun x=>.agg (dJ x)) NM (fun x=>(vW x.nm&&jD x.fn)=true) 50 10000000:=
 ⟨Tryz.call146,fun q vs x h hp hvs=>by
  obtain⟨b,n⟩:=x;simp only[Bool.and_eq_true]at h;have l2:=(iU h.1).2.2;have l3:=GD h.2;exact⟨by unfold NM;simp;omega,aHN q vs hp hvs b n h.1 h.2⟩⟩
def OP (l:Li):Prop:=0≤l.mn∧l.mn≤100000∧l.mx≤100000
theorem QV{l:Li}(h:OP l):(gO l).length≤7:=by
 have h1:=bS 2 l.mn.toNat (by have:=h.2.1;omega);have h2:=bS 2 l.mx.toNat (by have:=h.2.2;omega);unfold gO gC;split
 ·simp;omega
 ·simp;omega
theorem QW:gD Tryz.prog 5 141 (fun x=>.agg (gG x)) gO OP 10 9000000:=
 ⟨Tryz.call141,fun q vs x h _ hvs=>⟨by have:=QV h;omega,rO q vs (by omega) x h.1 h.2.1 h.2.2⟩⟩
theorem QX:gD Tryz.prog 5 140 (fun x=>.agg (gG x)) (fun l=>112::gO l) OP 10 9000000:=
 ⟨Tryz.call140,fun q vs x h _ hvs=>⟨by have:=QV h;simp;omega,aHO q vs (by omega) x h.1 h.2.1 h.2.2⟩⟩
theorem QY:gD Tryz.prog 5 148 (fun x=>.agg (dV x)) LG (fun x=>(iT x.off&&cD x.fs 50 jD)=true) 400 9000000:=
 ⟨Tryz.call148,fun q vs x h _ hvs=>by
  obtain⟨o,fs⟩:=x;simp only[Bool.and_eq_true]at h;have h1:fs.length≤50∧∀n∈fs,jD n=true:=by have:=h.2;unfold cD at this;simp at this;exact⟨by omega,this.2⟩
  have l1:=yJ h.1;have l2:=nN (pt:=gC) (l:=fs) (c:=2) (fun x hx=>GD (h1.2 x hx)) (by omega);exact⟨by unfold LG;simp;omega,aHP q vs hvs o fs h.1 h1.1 h1.2 (by omega)⟩⟩
theorem aAV:gD Tryz.prog 5 153 (fun x=>.agg (dW x)) NN (fun x=>(iT x.off&&decide (x.bs.length≤1000))=true) 2000 9000000:=
 ⟨Tryz.call153,fun q vs x h _ hvs=>by
  obtain⟨o,bs⟩:=x;simp only[Bool.and_eq_true,decide_eq_true_eq]at h;have l1:=yJ h.1;have l2:=bS 1 bs.length (by omega);exact⟨by unfold NN;simp;omega,aHQ q vs hvs o bs h.1 h.2 (by omega)⟩⟩
theorem WS{l:List Nat}{a b:Nat}:((l++ [a]).map aH).set (((l++ [a]).length:Int)-1).toNat [.int .u8 (b:Int)]=(l++ [b]).map aH:=by
 rw[show(((l++ [a]).length:Int)-1).toNat=l.length by simp,List.map_append,List.map_append,List.set_append,if_neg (by simp)];simp[aH]
theorem aAW{l:List Nat}{a:Nat}:(l++ [a])[(((l++ [a]).length:Nat)-1:Int).toNat]? =some a:=by
 rw[show(((l++ [a]).length:Nat)-1:Int).toNat=l.length by simp];simp
theorem aHR(q:Nat)(vs:List Nat)(hvs:vs.length≤9000000)(mu:Bool)(k n:Int)(hv:nW k n=true)(hn:-9223372036854775808≤n∧n≤9223372036854775807):SCall Tryz.prog 143 [.own q 0 vs.length,.agg (eF ⟨mu,k,n⟩)] [(q,.arr 5 1 (vs.map aH))]
  (fun y σ=>∃r,y=.own r 0 (vs++OO ⟨mu,k,n⟩).length∧σ=[(r,.arr 5 1 ((vs++OO ⟨mu,k,n⟩).map aH))]):=by
 have hkl:=tP k;refine bO 23 [0,1,3,4,13] Tryz.func143 ?_;unfold eF;refine cV ?_;refine gM fun r3 h3=> ?_;intros
 refine mV ?_;refine sG ?_;refine dL ?_;refine cw [(q,.arr 5 1 (vs.map aH))] Tryz.call132 (pO q vs (by omega) k) rfl aB aA ?_;rintro _ σ' ⟨r9,rfl,rfl⟩ h9;have k9:=aO h9;repeat rcases k9 with⟨_,k9⟩
 apply bE;exact bX;refine eP fun r10 h10=> ?_;intros
 refine mP ((vs++kB k++ [0]).map aH) (vs++kB k++ [0]).length ?_;refine dG fun r11 h11=> ?_;intros
 refine cI ?_;have hl:(vs++kB k++ [0]).length=vs.length+2:=by simp[hkl]
 refine nL ?_;refine gQ ?_;refine aC rfl (fun g2=> ?_) (fun g2=> ?_)
 ·obtain⟨z,hz⟩:∃z:Nat,z=1:=⟨_,rfl⟩
  have hat:=aAW (l:=vs++kB k) (a:=0);refine dB ?_;refine oG ?_;refine zD ?_;refine ZK ?_;refine SF ?_;refine gQ ?_;have hle:(vs++kB k++ [0]).length=(vs++kB k++ [1]).length:=by simp
  have hz1:vs++kB k++ [1]=vs++kB k++ [z]:=by rw[hz]
  have hset:=WS (l:=vs++kB k) (a:=0) (b:=1);rw[show(cH (.int .u8 1))=AV.int .u8 ((1:Nat):Int)from rfl,hset,hle,hz1];refine hX ?_;refine sG ?_;refine jN ?_;refine cw [(r11,.arr 5 1 ((vs++kB k++ [z]).map aH))] Tryz.call144 (nX r11 (vs++kB k++ [z]) (by simp;omega) k n hv hn) rfl aB aA ?_;rintro _ σ' ⟨r22,rfl,rfl⟩ h22;have k22:=aO h22;repeat rcases k22 with⟨_,k22⟩
  refine dS ?_;rw[show vs++kB k++ [z]++vV k n=vs++OO ⟨mu,k,n⟩ by unfold OO;rw[hz,g2];simp];exact aE aF ⟨r22,by rfl,rfl⟩ aA
 obtain⟨z,hz⟩:∃z:Nat,z=0:=⟨_,rfl⟩
 rw[show vs++kB k++ [0]=vs++kB k++ [z] by rw[hz]];refine bH ?_;refine sG ?_;refine jN ?_;refine cw [(r11,.arr 5 1 ((vs++kB k++ [z]).map aH))] Tryz.call144 (nX r11 (vs++kB k++ [z]) (by simp;omega) k n hv hn) rfl aB aA ?_;rintro _ σ' ⟨r22,rfl,rfl⟩ h22;have k22:=aO h22;repeat rcases k22 with⟨_,k22⟩
 refine dS ?_;rw[show vs++kB k++ [z]++vV k n=vs++OO ⟨mu,k,n⟩ by unfold OO;rw[hz,g2];simp];exact aE aF ⟨r22,by rfl,rfl⟩ aA
theorem QZ:gD Tryz.prog 5 143 (fun x=>.agg (eF x)) OO (fun g=>nW g.kd g.n=true∧ -9223372036854775808≤g.n∧g.n≤9223372036854775807) 300 9000000:=
 ⟨Tryz.call143,fun q vs x h _ hvs=>by
  obtain⟨mu,k,n⟩:=x;have l1:=QS h.1 h.2;have l2:=tP k;exact⟨by unfold OO;simp;dsimp only at l1;omega,aHR q vs hvs mu k n h.1 h.2⟩⟩
end Go.Proofs.YtjpdadobblffmaaGreat
namespace Go.Proofs.YtjpdadobblffmaaGreat
open Go.RowKit Go.ChangeShapes Go.WideShapes Go.ChangeAt Go.Deep
abbrev St:=List Nat×Bool
def qK (s:St) (n:Int) (ok:Bool):St:=let bad:=s.2|| !ok||decide ((s.1.length:Int)<n);(if bad then s.1 else s.1.drop n.toNat,bad)
def eY (s:St):Nat×St:=let s':=qK s (jH s.1).2.1 ((jH s.1).2.2==0);(if s'.2 then 0 else(jH s.1).1,s')
def iV (s:St):Nat×St:=if s.2||s.1.isEmpty then(0,(s.1,true))else(s.1[0]!,(s.1.drop 1,false))
def uQ (s:St):List Nat×St:=let r:=eY s;let s':=qK r.2 r.1 true;(if s'.2 then []else r.2.1.take r.1,s')
def hY {α:Type} (get:St→α×St):Nat→St→List α×St
 |0,s=>([],s)
 |n+1,s=>if s.2 then([],s)else let r:=get s;let t:=hY get n r.2;(r.1::t.1,t.2)
def eQ {α:Type} (get:St→α×St) (s:St):List α×St:=let r:=eY s;hY get r.1 r.2
def rP (s:St):Int×St:=let r:=iV s;if(r.1==127)=true then(1,r.2)else if(r.1==126)=true then(2,r.2)else(0,(r.2.1,true))
def JO (s:St):(Int×Int)×St:=
 let g:=eB s.1
 let s1:=qK s g.2.1 ((g.2.2==0)&&(g.1.op==65||g.1.op==66))
 let s2:=(iV s1).2
 (if(g.1.op==66)=true then(2,g.1.a)else(1,g.1.a),s2)
def JP (s:St):Int×St:=let r:=JO (iV s).2;(r.1.2,r.2)
def RA (s:St):Li×St:=
 let b:=iV s
 let r:=eY b.2
 if(b.1 !=0)=true then let t:=eY r.2;(⟨true,r.1,t.1⟩,t.2)else(⟨true,r.1,-1⟩,r.2)
def OQ:Nat→St→List Int→List Int×St
 |0,s,l=>(l,s)
 |n+1,s,l=>if s.2 then(l,s)else
  let m:=eY s
  let k:=rP m.2
  if 32<m.1 then([],(k.2.1,true))else OQ n k.2 (l++List.replicate m.1 k.1)
def tQ (s:St):List Int×St:=let r:=eY s;OQ r.1 r.2 []
def GE (s:St):Co×St:=
 let r:=tQ (eY s).2
 if r.2.2 then(⟨r.1,[]⟩,r.2)else
  let g:=jC r.2.1
  (⟨r.1,g.1⟩,qK r.2 g.2.1 (g.2.2==0))
def TE (s:St):FT×St:=let p:=eQ rP (iV s).2;let r:=eQ rP p.2;(⟨p.1,r.1⟩,r.2)
def TF (s:St):Int×St:=let r:=eY s;(r.1,r.2)
def UE (s:St):Im×St:=let a:=uQ s;let b:=uQ a.2;let t:=eY (iV b.2).2;(⟨a.1,b.1,t.1⟩,t.2)
def UF (s:St):Gl×St:=let k:=rP s;let m:=iV k.2;let c:=JO m.2;(⟨m.1 !=0,c.1.1,c.1.2⟩,c.2)
def UG (s:St):Ex×St:=let a:=uQ s;let t:=eY (iV a.2).2;(⟨a.1,t.1⟩,t.2)
def WT (before:Bool) (s:St):Li×St:=RA (if before then(iV s).2 else s)
def LM (before:Bool) (s:St):Li×St:=let r:=eQ (WT before) s;(r.1.headD BV,r.2)
def WU (s:St):El×St:=let o:=JP s;let l:=eQ TF o.2;(⟨o.1,l.1⟩,l.2)
def WV (s:St):Da×St:=let o:=JP s;let l:=uQ o.2;(⟨o.1,l.1⟩,l.2)
def qI (no:Nat) (m:Md) (s:St):Md×St:=
 if no=1 then({ m with ty:=(eQ TE s).1 },(eQ TE s).2)
 else if no=2 then({ m with im:=(eQ UE s).1 },(eQ UE s).2)
 else if no=3 then({ m with fn:=(eQ TF s).1 },(eQ TF s).2)
 else if no=4 then({ m with tb:=(LM true s).1 },(LM true s).2)
 else if no=5 then({ m with me:=(LM false s).1 },(LM false s).2)
 else if no=6 then({ m with gl:=(eQ UF s).1 },(eQ UF s).2)
 else if no=7 then({ m with ex:=(eQ UG s).1 },(eQ UG s).2)
 else if no=9 then({ m with el:=(eQ WU s).1 },(eQ WU s).2)
 else if no=10 then({ m with co:=(eQ GE s).1 },(eQ GE s).2)
 else if no=11 then({ m with da:=(eQ WV s).1 },(eQ WV s).2)
 else(m,(s.1,true))
def WW:Nat→Md→St→Md×St
 |0,m,s=>(m,s)
 |f+1,m,s=>if s.1.isEmpty||s.2 then(m,s)else
  let b:=iV s
  let t:=qI b.1 m (eY b.2).2
  WW f t.1 t.2
def sK (b:List Nat):Md×St:=WW (b.length+1) md0 (qK (b, !decide (b.take 8=headB)) 8 true)
def sL (b:List Nat):Md×Int:=
 if 8000<b.length then(md0,4)
 else if(sK b).2.2=true then(md0,1)
 else if lC (sK b).1=true∧eN (sK b).1=b then((sK b).1,0)else(md0,1)
def UH {α:Type} (get:St→α×St) (pt:α→List Nat) (ok:α→Prop):Prop:=∀x,ok x→∀r,get (pt x++r,false)=(x,(r,false))
theorem LN{p r:List Nat}{n:Int}(hn:n=(p.length:Int)):qK (p++r,false) n true=(r,false):=by
 subst hn;unfold qK;have:decide ((((p++r,false):St).1.length:Int)<(p.length:Int))=false:=by simp;omega
 simp only[this];simp
theorem wU{v:Nat}(hv:v<4294967296)(r:List Nat):eY (uB v++r,false)=(v,(r,false)):=by
 unfold eY;dsimp only;rw[QB hv];dsimp only;rw[show((0:Int)==0)=true from rfl,LN rfl];rfl
theorem oQ(c:Nat)(r:List Nat):iV (c::r,false)=(c,(r,false)):=by
 unfold iV;simp
theorem aCf{s:List Nat}(hs:s.length<4294967296)(r:List Nat):uQ (uB s.length++s++r,false)=(s,(r,false)):=by
 unfold uQ;rw[List.append_assoc,wU hs];dsimp only;rw[LN rfl];simp
theorem aCg{α:Type}{get:St→α×St}{pt:α→List Nat}{ok:α→Prop}(h:UH get pt ok):∀ {l:List α},(∀x∈l,ok x)→∀r,hY get l.length (l.flatMap pt++r,false)=(l,(r,false))
 |[],_,r=>rfl
 |x::l,hl,r=>by
  rw[List.length_cons,hY,if_neg (by simp),List.flatMap_cons,List.append_assoc,h x (hl x List.mem_cons_self)];dsimp only;rw[aCg h (fun y hy=>hl y (List.mem_cons_of_mem _ hy))]
theorem pZ{α:Type}{get:St→α×St}{pt:α→List Nat}{ok:α→Prop}(h:UH get pt ok){l:List α}(hl:∀x∈l,ok x)(hn:l.length<4294967296)(r:List Nat):eQ get (aZ l pt++r,false)=(l,(r,false)):=by
 unfold eQ aZ;rw[List.append_assoc,wU hn];exact aCg h hl r
theorem RB:UH rP kB (fun k=>NO k=true):=by
 intro k hk r;have:k=1∨k=2:=by
  unfold NO at hk;by_cases h:k=1
  ·exact .inl h
  ·rw[if_neg (by simpa using h)]at hk;exact .inr (by simpa using hk)
 rcases this with rfl|rfl
 ·show rP (127::r,false)=_;unfold rP;rw[oQ];rfl
 ·show rP (126::r,false)=_;unfold rP;rw[oQ];rfl
theorem aCh:UH TF gC (fun n=>jD n=true):=by
 intro n hn r;have h0:0≤n∧n≤1000:=by
  unfold jD at hn;by_cases h:0≤n
  ·rw[if_pos (by simpa using h)]at hn;exact⟨h,by simpa using hn⟩
  ·rw[if_neg (by simpa using h)]at hn;cases hn
 unfold TF gC;rw[wU (by omega)];simp;omega
theorem vY{n:Int}(h0:0≤n)(h1:n<4294967296)(r:List Nat):eY (gC n++r,false)=(n.toNat,(r,false)):=wU (by omega) r
theorem aCi{k n:Int}(h:nW k n=true)(hn:-9223372036854775808≤n∧n≤9223372036854775807)(r:List Nat):JO (vV k n++r,false)=((k,n),(r,false)):=by
 obtain⟨ho,hm,hk⟩:=GB h hn;have key:∀op:Int,(⟨op,n,0,[]⟩:Ins).Ok→cW ⟨op,n,0,[]⟩=true→(op=65∨op=66)→JO (gN ⟨op,n,0,[]⟩++ [11]++r,false)=(if(op==66)=true then(2,n)else(1,n),(r,false)):=by
  intro op ho hm hop;unfold JO;dsimp only;rw[List.append_assoc,FV ho hm];dsimp only;rw[show(((0:Int)==0)&&((op==65)||(op==66)))=true by rcases hop with rfl|rfl<;>rfl,LN rfl];show(_,(iV (11::r,false)).2)=_;rw[oQ]
 unfold vV;rcases hk with rfl|rfl
 ·exact key 65 ho hm (.inl rfl)
 ·exact key 66 ho hm (.inr rfl)
theorem aCj{n:Int}(h:iT n=true)(r:List Nat):JP (nV n++r,false)=(n,(r,false)):=by
 unfold iT at h;simp only[Bool.and_eq_true,decide_eq_true_eq]at h;unfold JP nV;rw[List.cons_append,oQ];dsimp only;rw[aCi (by unfold nW;simp;omega) (by omega)]
theorem aCk{l:Li}{a c:Int}(h:nJ l a c=true)(hh:l.has=true)(ha:a≤100000)(hc:c≤100000)(r:List Nat):RA (gO l++r,false)=(l,(r,false)):=by
 obtain⟨has,mn,mx⟩:=l;dsimp only at hh;subst hh;unfold nJ at h;simp only[if_true,Bool.and_eq_true,decide_eq_true_eq]at h;obtain⟨⟨⟨h1,h2⟩,h3⟩,h4⟩:=h;by_cases hx:mx<0
 ·rw[show gO ⟨true,mn,mx⟩=0::gC mn by unfold gO;rw[if_pos (by simpa using hx)]];unfold RA;rw[List.cons_append,oQ];dsimp only;rw[vY h1 (by omega)];simp;omega
 ·rw[show gO ⟨true,mn,mx⟩=1::(gC mn++gC mx) by unfold gO;rw[if_neg (by simpa using hx)]];unfold RA;rw[List.cons_append,oQ];dsimp only;rw[List.append_assoc,vY h1 (by omega)];dsimp only;rw[if_pos (by decide),vY (by omega) (by omega)];simp;omega
theorem vZ(l:List Int)(k:Int):dA (l++ [k])=match(dA l).getLast? with
 |some (x::xs)=>if x==k then(dA l).dropLast++ [(x::xs)++ [k]]else dA l++ [[k]]
 | _=>dA l++ [[k]]:=by
 unfold dA;rw[List.foldl_append];rfl
theorem GF:∀(n:Nat) (l:List Int),l.length=n→(dA l).flatten=l∧∀r∈dA l,∃k m,r=List.replicate (m+1) k∧k∈l∧m+1≤l.length
 |0,l,h=>by
  obtain rfl:l=[]:=List.length_eq_zero_iff.1 h;exact⟨rfl,by simp[dA]⟩
 |n+1,l,h=>by
  obtain⟨t,k,rfl⟩:∃t k,l=t++ [k]:=by
   have:l≠ []:=by intro e;subst e;simp at h
   exact⟨l.dropLast,l.getLast this,(List.dropLast_concat_getLast this).symm⟩
  obtain⟨h1,h2⟩:=GF n t (by simpa using h);rw[vZ];have hnew:(dA t++ [[k]]).flatten=t++ [k]∧∀r∈dA t++ [[k]],∃k' m,r=List.replicate (m+1) k'∧k'∈t++ [k]∧m+1≤(t++ [k]).length:=by
   refine⟨by rw[List.flatten_append,h1];rfl,fun r hr=> ?_⟩;rcases List.mem_append.1 hr with hr|hr
   ·obtain⟨k',m,e1,e2,e3⟩:=h2 r hr;exact⟨k',m,e1,List.mem_append_left _ e2,by simp;omega⟩
   ·exact⟨k,0,by simpa using hr,by simp,by simp⟩
  split
  ·next x xs hl=>
   split
   ·next hx=>
    obtain rfl:x=k:=by simpa using hx
    have hne:dA t≠ []:=by intro e;rw[e]at hl;cases hl
    have hd:dA t=(dA t).dropLast++ [x::xs]:=by
     have:=List.dropLast_concat_getLast hne;rw[List.getLast?_eq_some_getLast hne]at hl;rw[Option.some.inj hl]at this;exact this.symm
    obtain⟨k',m,e1,e2,e3⟩:=h2 (x::xs) (by rw[hd];simp);obtain rfl:x=k':=by rw[List.replicate_succ]at e1;exact(List.cons.inj e1).1
    refine⟨?_,fun r hr=> ?_⟩
    ·rw[List.flatten_append]
     conv=>rhs;rw[←h1,hd]
     simp
    ·rcases List.mem_append.1 hr with hr|hr
     ·obtain⟨k',m,e1,e2,e3⟩:=h2 r (List.dropLast_sublist _ |>.subset hr);exact⟨k',m,e1,List.mem_append_left _ e2,by simp;omega⟩
     ·refine⟨x,m+1, ?_,by simp,by simp;omega⟩;rw[show r=x::xs++ [x] by simpa using hr,e1];exact List.replicate_succ'.symm
   ·exact hnew
  ·exact hnew
theorem aCl{l:List Int}(hk:∀k∈l,NO k=true):∀ {rs:List (List Int)},(∀r∈rs,∃k m,r=List.replicate (m+1) k∧k∈l∧m+1≤32)→∀(acc:List Int) (t:List Nat),OQ rs.length (rs.flatMap jS++t,false) acc=(acc++rs.flatten,(t,false))
 |[],_,acc,t=>by simp[OQ]
 |r::rs,h,acc,t=>by
  obtain⟨k,m,rfl,hkl,hm⟩:=h r List.mem_cons_self;rw[List.length_cons,OQ,if_neg (by simp),List.flatMap_cons,List.append_assoc];have h1:jS (List.replicate (m+1) k)=gC ((m+1:Nat):Int)++kB k:=by unfold jS;rw[List.length_replicate,List.replicate_succ];rfl
  rw[h1,List.append_assoc,vY (by omega) (by omega)];dsimp only;rw[RB k (hk k hkl)];dsimp only;rw[Int.toNat_natCast,if_neg (by omega),aCl hk (fun r hr=>h r (List.mem_cons_of_mem _ hr))];simp
theorem aFO{l:List Int}(hk:∀k∈l,NO k=true)(hl:l.length≤32)(t:List Nat):tQ (aZ (dA l) jS++t,false)=(l,(t,false)):=by
 obtain⟨h1,h2⟩:=GF _ l rfl;have hr:∀(rs:List (List Int)),(∀r∈rs,∃k m,r=List.replicate (m+1) k∧k∈l∧m+1≤l.length)→rs.length≤rs.flatten.length:=by
  intro rs
  induction rs with
  |nil=>simp
  |cons r rs ih=>
   intro h;obtain⟨k,m,rfl,-,-⟩:=h r List.mem_cons_self;have:=ih fun r hr=>h r (List.mem_cons_of_mem _ hr)
   simp at this⊢;omega
 have hn:=hr _ h2;rw[h1]at hn;unfold tQ aZ;rw[List.append_assoc,wU (by omega)];dsimp only;rw[aCl hk (fun r hr=>by obtain⟨k,m,a,b,c⟩:=h2 r hr;exact⟨k,m,a,b,by omega⟩),h1];rfl
theorem bQ{α:Type}{l:List α}{most:Int}{p:α→Bool}(h:cD l most p=true):(l.length:Int)≤most∧∀x∈l,p x=true:=by
 unfold cD at h;simpa using h
def OkC (c:Co):Prop:=tN c=true∧(∀x∈c.bd,x.Ok)∧(aZ (dA c.ls) jS++jB c.bd).length<4294967296
theorem aFP:UH GE oN OkC:=by
 rintro⟨ls,bd⟩ ⟨h,hO,hlen⟩ t;unfold tN at h;simp only[Bool.and_eq_true]at h;obtain⟨⟨h1,h2⟩,h3⟩:=h;obtain⟨k1,k2⟩:=bQ h2;obtain⟨k3,k4⟩:=bQ h3;have hm:∀x∈bd,x.Ok∧cW x=true:=fun x hx=>⟨hO x hx,k4 x hx⟩
 unfold GE oN;dsimp only;rw[List.append_assoc,wU hlen];dsimp only;rw[List.append_assoc,aFO k2 (by omega)];dsimp only;rw[if_neg (by simp),SZ hm h1];dsimp only;rw[show((0:Int)==0)=true from rfl,LN rfl]
theorem aFQ:UH TE QM (fun t=>(cD t.pr 32 NO&&cD t.rs 1 NO)=true):=by
 rintro⟨pr,rs⟩ h t;simp only[Bool.and_eq_true]at h;obtain⟨k1,k2⟩:=bQ h.1;obtain⟨k3,k4⟩:=bQ h.2;unfold TE QM;rw[List.cons_append,oQ];dsimp only;rw[List.append_assoc,pZ RB k2 (by omega)];dsimp only;rw[pZ RB k4 (by omega)]
theorem aDH{s:List Nat}(h:vW s=true):s.length≤16:=by
 unfold vW at h;split at h
 ·simp only[Bool.and_eq_true,decide_eq_true_eq]at h;exact h.1
 ·cases h
theorem GG{n:Int}(h:jD n=true):0≤n∧n≤1000:=by
 unfold jD at h;by_cases h0:0≤n
 ·rw[if_pos (by simpa using h0)]at h;exact⟨h0,by simpa using h⟩
 ·rw[if_neg (by simpa using h0)]at h;cases h
theorem WX{s:List Nat}(h:vW s=true)(t:List Nat):uQ (eL s++t,false)=(s,(t,false)):=aCf (by have:=aDH h;omega) t
theorem aFR:UH UE LF (fun x=>(vW x.mod&&vW x.nm&&jD x.ty)=true):=by
 rintro⟨a,b,n⟩ h t;simp only[Bool.and_eq_true]at h;obtain⟨⟨h1,h2⟩,h3⟩:=h;have h3:=GG h3;unfold UE LF;dsimp only;rw[List.append_assoc,List.append_assoc,List.append_assoc,WX h1];dsimp only;rw[WX h2];dsimp only;rw[List.cons_append,oQ];dsimp only[List.nil_append];rw[vY h3.1 (by omega)];simp;omega
theorem aFS:UH UG NM (fun x=>(vW x.nm&&jD x.fn)=true):=by
 rintro⟨a,n⟩ h t;simp only[Bool.and_eq_true]at h;have h3:=GG h.2;unfold UG NM;dsimp only;rw[List.append_assoc,List.append_assoc,WX h.1];dsimp only;rw[List.cons_append,oQ];dsimp only[List.nil_append];rw[vY h3.1 (by omega)];simp;omega
theorem TG{k n:Int}(h:nW k n=true):NO k=true:=by
 unfold nW at h;simp only[Bool.or_eq_true,Bool.and_eq_true,beq_iff_eq,decide_eq_true_eq]at h;rcases h with⟨⟨rfl,-⟩,-⟩|rfl<;>rfl
theorem aFT:UH UF OO (fun g=>nW g.kd g.n=true∧ -9223372036854775808≤g.n∧g.n≤9223372036854775807):=by
 rintro⟨mu,k,n⟩ ⟨h,hn⟩ t;dsimp only at h hn;unfold UF OO;dsimp only;rw[List.append_assoc,List.append_assoc,RB k (TG h)];dsimp only;rw[List.cons_append,oQ];dsimp only[List.nil_append];rw[aCi h hn];cases mu<;>rfl
theorem aFU:UH WU LG (fun x=>(iT x.off&&cD x.fs 50 jD)=true):=by
 rintro⟨o,fs⟩ h t;simp only[Bool.and_eq_true]at h;obtain⟨k1,k2⟩:=bQ h.2;unfold WU LG;dsimp only;rw[List.append_assoc,aCj h.1];dsimp only;rw[pZ aCh k2 (by omega)]
theorem aFV:UH WV NN (fun x=>(iT x.off&&decide (x.bs.length≤1000))=true):=by
 rintro⟨o,bs⟩ h t;simp only[Bool.and_eq_true,decide_eq_true_eq]at h;unfold WV NN;dsimp only;rw[List.append_assoc,List.append_assoc,aCj h.1];dsimp only;rw[←List.append_assoc,aCf (by omega)]
def NI {α:Type} (get:St→α×St):Prop:=∀s,(get s).2.1.length≤s.1.length
theorem LO(s:St)(n:Int)(ok:Bool):(qK s n ok).1.length≤s.1.length:=by
 unfold qK;dsimp only;split
 ·exact Nat.le_refl _
 ·simp
theorem nF:NI eY:=fun s=>by unfold eY;exact LO _ _ _
theorem qA:NI iV:=fun s=>by
 unfold iV;split
 ·exact Nat.le_refl _
 ·simp
theorem aCm(s:St)(h:s.1≠ [])(hb:s.2=false):(iV s).2.1.length<s.1.length:=by
 obtain⟨l,b⟩:=s;dsimp only at h hb;subst hb;cases l with
 |nil=>exact absurd rfl h
 |cons c l=>rw[oQ];simp
theorem RC:NI uQ:=fun s=>by unfold uQ;exact Nat.le_trans (LO _ _ _) (nF s)
theorem aCn{α:Type}{get:St→α×St}(h:NI get):∀n s,(hY get n s).2.1.length≤s.1.length
 |0,s=>Nat.le_refl _
 |n+1,s=>by
  rw[hY];split
  ·exact Nat.le_refl _
  ·exact Nat.le_trans (aCn h n _) (h s)
theorem qB{α:Type}{get:St→α×St}(h:NI get):NI (eQ get):=fun s=>Nat.le_trans (aCn h _ _) (nF s)
theorem LP:NI rP:=fun s=>by
 unfold rP;dsimp only;split
 ·exact qA s
 ·split
  ·exact qA s
  ·exact qA s
theorem aCo:NI JO:=fun s=>by unfold JO;exact Nat.le_trans (qA _) (LO _ _ _)
theorem aCp:NI JP:=fun s=>by unfold JP;exact Nat.le_trans (aCo _) (qA s)
theorem aCq:NI RA:=fun s=>by
 unfold RA;dsimp only;split
 ·exact Nat.le_trans (nF _) (Nat.le_trans (nF _) (qA s))
 ·exact Nat.le_trans (nF _) (qA s)
theorem aCr:∀n s l,(OQ n s l).2.1.length≤s.1.length
 |0,s,l=>Nat.le_refl _
 |n+1,s,l=>by
  rw[OQ];split
  ·exact Nat.le_refl _
  ·dsimp only;split
   ·exact Nat.le_trans (LP _) (nF s)
   ·exact Nat.le_trans (aCr n _ _) (Nat.le_trans (LP _) (nF s))
theorem aCs:NI tQ:=fun s=>by unfold tQ;exact Nat.le_trans (aCr _ _ _) (nF s)
theorem aFW:NI GE:=fun s=>by
 unfold GE;dsimp only;split
 ·exact Nat.le_trans (aCs _) (nF s)
 ·exact Nat.le_trans (LO _ _ _) (Nat.le_trans (aCs _) (nF s))
theorem aFX:NI TE:=fun s=>by unfold TE;exact Nat.le_trans (qB LP _) (Nat.le_trans (qB LP _) (qA s))
theorem aCt:NI TF:=fun s=>nF s
theorem aFY:NI UE:=fun s=>by unfold UE;exact Nat.le_trans (nF _) (Nat.le_trans (qA _) (Nat.le_trans (RC _) (RC s)))
theorem aFZ:NI UF:=fun s=>by unfold UF;exact Nat.le_trans (aCo _) (Nat.le_trans (qA _) (LP s))
theorem aF0:NI UG:=fun s=>by unfold UG;exact Nat.le_trans (nF _) (Nat.le_trans (qA _) (RC s))
theorem aF1(b:Bool):NI (WT b):=fun s=>by
 unfold WT;split
 ·exact Nat.le_trans (aCq _) (qA s)
 ·exact aCq s
theorem aCu(b:Bool):NI (LM b):=fun s=>qB (aF1 b) s
theorem aF2:NI WU:=fun s=>by unfold WU;exact Nat.le_trans (qB aCt _) (aCp s)
theorem aF3:NI WV:=fun s=>by unfold WV;exact Nat.le_trans (RC _) (aCp s)
theorem aCv(no:Nat)(m:Md)(s:St):(qI no m s).2.1.length≤s.1.length:=by
 unfold qI;repeat' split
 ·exact qB aFX s
 ·exact qB aFY s
 ·exact qB aCt s
 ·exact aCu true s
 ·exact aCu false s
 ·exact qB aFZ s
 ·exact qB aF0 s
 ·exact qB aF2 s
 ·exact qB aFW s
 ·exact qB aF3 s
 ·exact Nat.le_refl _
theorem uR:∀(f f':Nat) (m:Md) (s:St),s.1.length<f→s.1.length<f'→WW f m s=WW f' m s
 |0,_,_,s,h,_=>absurd h (Nat.not_lt_zero _)
 | _ +1,0,_,s,_,h=>absurd h (Nat.not_lt_zero _)
 |f+1,f'+1,m,s,h,h'=>by
  rw[WW,WW];split
  ·rfl
  ·next hc=>
   simp only[Bool.or_eq_true,not_or,Bool.not_eq_true]at hc;have h1:=aCm s (by intro e;rw[e]at hc;simp at hc) hc.2;have h2:=nF (iV s).2;have h3:=aCv (iV s).1 m (eY (iV s).2).2;exact uR f f' _ _ (by omega) (by omega)
def DN (m:Md) (s:St):Md×St:=WW (s.1.length+1) m s
theorem aDI(m:Md):DN m ([],false)=(m,([],false)):=rfl
theorem nY{α:Type}{no:Nat}{l:List α}{pt:α→List Nat}{m m':Md}{r:List Nat}(h0:l=[]→m'=m)(hv:(aZ l pt).length<4294967296)
  (hs:qI no m (aZ l pt++r,false)=(m',(r,false))):DN m (bP no l pt++r,false)=DN m' (r,false):=by
 unfold bP;by_cases hl:l=[]
 ·subst hl;rw[h0 rfl];rfl
 ·rw[if_neg (by simpa using hl)];unfold DN;rw[WW,if_neg (by simp)];dsimp only;rw[List.cons_append,oQ];dsimp only;rw[List.append_assoc,wU hv];dsimp only;rw[hs];dsimp only;exact uR _ _ _ _ (by simp;omega) (by simp)
theorem LQ{α:Type}{pt:α→List Nat}:∀ {l:List α} {x:α},x∈l→(pt x).length≤(l.flatMap pt).length
 |y::l,x,h=>by
  rw[List.flatMap_cons,List.length_append];rcases List.mem_cons.1 h with rfl|h
  ·omega
  ·have:=LQ (pt:=pt) h;omega
theorem WY{α:Type}{no:Nat}{l:List α}{pt:α→List Nat}:(l≠ []→(aZ l pt).length≤(bP no l pt).length):=by
 intro h;unfold bP;rw[if_neg (by simpa using h)];simp;omega
def Md.Ok (m:Md):Prop:=(∀c∈m.co,∀x∈c.bd,x.Ok)∧∀g∈m.gl,-9223372036854775808≤g.n∧g.n≤9223372036854775807
theorem aAX{α:Type}{l:List α}{pt:α→List Nat}(h:l=[]):(aZ l pt).length<4294967296:=by subst h;unfold aZ;rw[List.length_nil,rE (by omega)];simp
theorem nZ{α:Type}{no:Nat}{l:List α}{pt:α→List Nat}(h:(bP no l pt).length≤8000):(aZ l pt).length<4294967296:=by
 by_cases hl:l=[]
 ·exact aAX hl
 ·have:=WY (no:=no) (pt:=pt) hl;omega
theorem OR{l:Li}{a c:Int}(h:nJ l a c=true)(hh:l.has=false):l=BV:=by
 obtain⟨has,mn,mx⟩:=l;dsimp only at hh;subst hh;unfold nJ at h;simp at h;obtain⟨rfl,rfl⟩:=h;rfl
theorem aCw{l:Li}{a c:Int}{pt:Li→List Nat}(before:Bool)(hpt:pt=fun l=>if before then 112::gO l else gO l)(h:nJ l a c=true)(ha:a≤100000)(hc:c≤100000)(r:List Nat):LM before (aZ (jT l) pt++r,false)=(l,(r,false)):=by
 subst hpt;unfold LM jT;cases hh:l.has with
 |false=>
  rw[if_neg (by decide),show aZ ([]:List Li) (fun l=>if before=true then 112::gO l else gO l)=uB 0 by unfold aZ;simp];unfold eQ;rw[wU (by decide),OR h hh];rfl
 |true=>
  have hb:UH (WT before) (fun l=>if before then 112::gO l else gO l) (fun l=>nJ l a c=true∧l.has=true):=by
   rintro x ⟨h1,h2⟩ t;unfold WT;cases before
   ·exact aCk h1 h2 ha hc t
   ·show RA (iV (112::(gO x++t),false)).2=_;rw[oQ];exact aCk h1 h2 ha hc t
  rw[if_pos rfl,pZ hb (by simp;exact⟨h,hh⟩) (by simp)];rfl
theorem WZ{m:Md}(h:lC m=true)(hO:m.Ok):sK (eN m)=(m,([],false)):=by
 obtain⟨ty,im,fn,tb,me,gl,ex,el,co,da⟩:=m;unfold lC at h;simp only[Bool.and_eq_true,decide_eq_true_eq]at h;obtain⟨⟨⟨⟨⟨-,hco⟩,hls⟩,htb⟩,hme⟩,hw⟩:=h;unfold lB at hls;simp only[Bool.and_eq_true]at hls;obtain⟨⟨⟨⟨⟨⟨hty,him⟩,hfn⟩,hgl⟩,hex⟩,hel⟩,hda⟩:=hls;obtain⟨hO1,hO2⟩:=hO;dsimp only at*;unfold eN at hw;dsimp only at hw;simp only[List.length_append]at hw;unfold sK;have hbd:qK (eN ⟨ty,im,fn,tb,me,gl,ex,el,co,da⟩, !decide ((eN ⟨ty,im,fn,tb,me,gl,ex,el,co,da⟩).take 8=headB)) 8 true=(bP 1 ty QM++(bP 2 im LF++(bP 3 fn gC++(bP 4 (jT tb) (fun l=>112::gO l)++(bP 5 (jT me) gO++(bP 6 gl OO++(bP 7 ex NM++(bP 9 el LG++(bP 10 co oN++(bP 11 da NN++ []))))))))),false):=by
  have hsp:eN ⟨ty,im,fn,tb,me,gl,ex,el,co,da⟩=headB++(bP 1 ty QM++(bP 2 im LF++(bP 3 fn gC++(bP 4 (jT tb) (fun l=>112::gO l)++(bP 5 (jT me) gO++(bP 6 gl OO++(bP 7 ex NM++(bP 9 el LG++(bP 10 co oN++(bP 11 da NN++ [])))))))))):=by
   unfold eN;simp only[List.append_assoc,List.append_nil]
  rw[hsp,show(headB++ _).take 8=headB from List.take_left' rfl,decide_eq_true rfl];exact LN rfl
 rw[hbd];have hfuel:∀(s:St) (m:Md),s.1.length≤(eN ⟨ty,im,fn,tb,me,gl,ex,el,co,da⟩).length→WW ((eN ⟨ty,im,fn,tb,me,gl,ex,el,co,da⟩).length+1) m s=DN m s:=fun s m hs=>uR _ _ _ _ (by omega) (by omega)
 rw[hfuel _ _ (by unfold eN;simp only[List.length_append,List.length_nil];omega)];have hoc:∀c∈co,OkC c:=fun c hc=>⟨(bQ hco).2 c hc,hO1 c hc,by
  have h1:=LQ (pt:=oN) hc;have h2:(aZ co oN).length≤(bP 10 co oN).length:=WY (by intro e;rw[e]at hc;cases hc);unfold aZ at h2;have h3:(aZ (dA c.ls) jS++jB c.bd).length≤(oN c).length:=by unfold oN;simp
  rw[List.length_append]at h2;omega⟩
 rw[nY (m':=⟨ty,[],[],BV,BV,[],[],[],[],[]⟩) (fun e=>by rw[e];rfl) (nZ (no:=1) (by omega)) (by unfold qI;rw[if_pos rfl,pZ aFQ (bQ hty).2 (by have:=(bQ hty).1;omega)];rfl)];rw[nY (m':=⟨ty,im,[],BV,BV,[],[],[],[],[]⟩) (fun e=>by rw[e]) (nZ (no:=2) (by omega)) (by unfold qI;rw[if_neg (by decide),if_pos rfl,pZ aFR (bQ him).2 (by have:=(bQ him).1;omega)])];rw[nY (m':=⟨ty,im,fn,BV,BV,[],[],[],[],[]⟩) (fun e=>by rw[e]) (nZ (no:=3) (by omega)) (by unfold qI;rw[if_neg (by decide),if_neg (by decide),if_pos rfl,pZ aCh (bQ hfn).2 (by have:=(bQ hfn).1;omega)])];have e4:jT tb=[]→tb=BV:=fun e=>OR htb (by unfold jT at e;cases hh:tb.has;rfl;rw[hh]at e;cases e)
 have e5:jT me=[]→me=BV:=fun e=>OR hme (by unfold jT at e;cases hh:me.has;rfl;rw[hh]at e;cases e)
 rw[nY (m':=⟨ty,im,fn,tb,BV,[],[],[],[],[]⟩) (fun e=>by rw[e4 e]) (nZ (no:=4) (by omega)) (by unfold qI;rw[if_neg (by decide),if_neg (by decide),if_neg (by decide),if_pos rfl,aCw (pt:=fun l=>112::gO l) true rfl htb (by decide) (by decide)])];rw[nY (m':=⟨ty,im,fn,tb,me,[],[],[],[],[]⟩) (fun e=>by rw[e5 e]) (nZ (no:=5) (by omega)) (by unfold qI;rw[if_neg (by decide),if_neg (by decide),if_neg (by decide),if_neg (by decide),if_pos rfl,aCw (pt:=gO) false rfl hme (by decide) (by decide)])];rw[nY (m':=⟨ty,im,fn,tb,me,gl,[],[],[],[]⟩) (fun e=>by rw[e]) (nZ (no:=6) (by omega)) (by unfold qI;rw[if_neg (by decide),if_neg (by decide),if_neg (by decide),if_neg (by decide),if_neg (by decide),if_pos rfl,pZ aFT (fun g hg=>⟨(bQ hgl).2 g hg,hO2 g hg⟩) (by have:=(bQ hgl).1;omega)])];rw[nY (m':=⟨ty,im,fn,tb,me,gl,ex,[],[],[]⟩) (fun e=>by rw[e]) (nZ (no:=7) (by omega)) (by unfold qI;rw[if_neg (by decide),if_neg (by decide),if_neg (by decide),if_neg (by decide),if_neg (by decide),if_neg (by decide),if_pos rfl,pZ aFS (bQ hex).2 (by have:=(bQ hex).1;omega)])];rw[nY (m':=⟨ty,im,fn,tb,me,gl,ex,el,[],[]⟩) (fun e=>by rw[e]) (nZ (no:=9) (by omega)) (by unfold qI;rw[if_neg (by decide),if_neg (by decide),if_neg (by decide),if_neg (by decide),if_neg (by decide),if_neg (by decide),if_neg (by decide),if_pos rfl,pZ aFU (bQ hel).2 (by have:=(bQ hel).1;omega)])]
 rw[nY (m':=⟨ty,im,fn,tb,me,gl,ex,el,co,[]⟩) (fun e=>by rw[e]) (nZ (no:=10) (by omega)) (by unfold qI;rw[if_neg (by decide),if_neg (by decide),if_neg (by decide),if_neg (by decide),if_neg (by decide),if_neg (by decide),if_neg (by decide),if_neg (by decide),if_pos rfl,pZ aFP hoc (by have:=(bQ hco).1;omega)])];rw[nY (m':=⟨ty,im,fn,tb,me,gl,ex,el,co,da⟩) (fun e=>by rw[e]) (nZ (no:=11) (by omega)) (by unfold qI;rw[if_neg (by decide),if_neg (by decide),if_neg (by decide),if_neg (by decide),if_neg (by decide),if_neg (by decide),if_neg (by decide),if_neg (by decide),if_neg (by decide),if_pos rfl,pZ aFV (bQ hda).2 (by have:=(bQ hda).1;omega)])];exact aDI _
theorem LR{m:Md}(h:lC m=true)(hO:m.Ok):sL (eN m)=(m,0):=by
 have h1:=WZ h hO;have h2:(eN m).length≤8000:=by
  unfold lC at h;simp only[Bool.and_eq_true,decide_eq_true_eq]at h;exact h.2
 unfold sL;rw[if_neg (by omega),h1,if_neg (by simp),if_pos ⟨h,rfl⟩]
end Go.Proofs.YtjpdadobblffmaaGreat
namespace Go.Proofs.YtjpdadobblffmaaGreat
open Go.RowKit Go.ChangeShapes Go.WideShapes Go.ChangeAt Go.Deep
attribute [local irreducible] SW RS RD eM dR
theorem TH{l:List Int}{j:Nat}{x:Int}{init:List (List Int)}{m:Nat}(h:dA (l.take j)=init++ [List.replicate (m+1) x])(hx:l[j]? =some x):dA (l.take (j+1))=init++ [List.replicate (m+1) x++ [x]]:=by
 rw[List.take_add_one,hx];show dA (l.take j++ [x])=_;rw[vZ,h,List.getLast?_append];simp[List.replicate_succ]
theorem XA{l:List Int}{j:Nat}{x k:Int}{init:List (List Int)}{m:Nat}(h:dA (l.take j)=init++ [List.replicate (m+1) k])(hx:l[j]? =some x)(hk:k≠x):dA (l.take (j+1))=init++ [List.replicate (m+1) k]++ [[x]]:=by
 rw[List.take_add_one,hx];show dA (l.take j++ [x])=_;rw[vZ,h,List.getLast?_append];simp[List.replicate_succ,hk]
theorem XB{l:List Int}{x:Int}(hx:l[0]? =some x):dA (l.take 1)=[[x]]:=by
 rw[List.take_add_one,hx];rfl
theorem LS{r:List Int}(h:r.length≤1000):(jS r).length≤3:=by
 have:=bS 1 r.length (by omega);unfold jS gC;rw[List.length_append,tP,Int.toNat_natCast];omega
theorem aF4(q:Nat)(vs:List Nat)(hvs:vs.length≤10000000)(r:List Int)(h1:0<r.length)(h2:r.length≤1000):SCall Tryz.prog 247 [.own q 0 vs.length,.ro 1 (r.map aL) .any] [(q,.arr 5 1 (vs.map aH))]
  (fun y σ=>∃p,y=.own p 0 (vs++jS r).length∧σ=[(p,.arr 5 1 ((vs++jS r).map aH))]):=by
 have hu:=bS 1 r.length (by omega);obtain⟨k,hk⟩:∃k,r[(0:Int).toNat]? =some k:=⟨_,List.getElem?_eq_getElem (by simpa using h1)⟩
 refine bO 13 [0,1,4] Tryz.func247 ?_;refine bV ?_;refine hU [(0,true),(1,true),(2,true),(4,true),(5,true),(6,true),(3,false),(7,false),(8,true)] ?_;refine sH ?_;refine KN ?_;refine NV ?_;refine UW ?_;refine nR [(q,.arr 5 1 (vs.map aH))] rfl Tryz.call135 (dC q vs (by omega) r.length (by omega)) rfl aB aA eU ?_;rintro _ σ' ⟨r8,rfl,rfl⟩ h8;have k8:=aO h8;repeat rcases k8 with⟨_,k8⟩
 apply dY;exact bX;refine nR [(r8,.arr 5 1 ((vs++uB r.length).map aH))] rfl Tryz.call132 (pO r8 (vs++uB r.length) (by simp;omega) k) rfl aB aA eU ?_;rintro _ σ' ⟨r12,rfl,rfl⟩ h12;have k12:=aO h12;repeat rcases k12 with⟨_,k12⟩
 refine xL ?_;rw[show vs++uB r.length++kB k=vs++jS r by unfold jS gC;rw[Int.toNat_natCast,List.append_assoc,show r.headD 0=k by cases r with|nil=>simp at h1|cons a t=>simpa using hk]];exact aE aF ⟨r12,by rfl,rfl⟩ aA
theorem LT:gD Tryz.prog 5 247 (fun r:List Int=>.ro 1 (r.map aL) .any) jS (fun r=>0<r.length∧r.length≤1000) 3 9000000:=
 ⟨Tryz.call247,fun q vs x h _ hvs=>⟨LS h.2,aF4 q vs (by omega) x h.1 h.2⟩⟩
def tR (R q q0 r3:Nat) (vs:List Nat) (ls:List Int) (bd:List Ins) (init:List (List Int)) (last:List Int) (j:Nat):ASt:=
 ⟨[(0,.own q0 0 vs.length),(3,.ptr r3 0),(5,.own R 0 (init.length+1)),(10,.ro 1 (ls.map aL) .any),(11,.int .i64 ls.length),(12,.int .i64 j)],
  [(R,.arr 24 1 (init.map rN++ [[.own q 0 last.length]])),(q,.arr 3 1 (last.map aL)),(r3,.box 44 [.ro 1 (ls.map aL) .any,.ro 4 (bd.map (iv .any)) .any]),(q0,.arr 5 1 (vs.map aH))]⟩
def GH (R q0 r3:Nat) (vs:List Nat) (ls:List Int) (bd:List Ins):ASt:=
 ⟨[(0,.own q0 0 vs.length),(3,.ptr r3 0),(5,.own R 0 0),(10,.ro 1 (ls.map aL) .any),(11,.int .i64 ls.length),(12,.int .i64 (0:Nat))],
  [(R,.arr 24 1 []),(r3,.box 44 [.ro 1 (ls.map aL) .any,.ro 4 (bd.map (iv .any)) .any]),(q0,.arr 5 1 (vs.map aH))]⟩
structure RS_ where
 R:Nat
 q:Nat
 init:List (List Int)
 k:Int
 m:Nat
 j:Nat
def rSt (q0 r3:Nat) (vs:List Nat) (ls:List Int) (bd:List Ins):Sum Nat RS_→ASt
 | .inl R=>GH R q0 r3 vs ls bd
 | .inr s=>tR s.R s.q q0 r3 vs ls bd s.init (List.replicate (s.m+1) s.k) (s.j+1)
def rOk (q0 r3:Nat) (ls:List Int):Sum Nat RS_→Prop
 | .inl R=>Nq R r3∧Nq R q0
 | .inr s=>((Nq s.R s.q∧Nq s.R r3∧Nq s.R q0)∧Nq s.q r3∧Nq s.q q0)∧(s.init.length≤s.j∧s.m≤s.j)∧ls[s.j]? =some s.k∧dA (ls.take (s.j+1))=s.init++ [List.replicate (s.m+1) s.k]
def rMs (ls:List Int):Sum Nat RS_→Nat
 | .inl _=>ls.length
 | .inr s=>ls.length-(s.j+1)
theorem rQ{l:List (List AV)}{x:List AV}{n:Nat}(h:n=l.length):(l++ [x])[(((n+1:Nat):Int)-1).toNat]? =some x:=by
 subst h;rw[show(((l.length+1:Nat):Int)-1).toNat=l.length by omega];simp
theorem EE{l:List (List AV)}{x y:List AV}{n:Nat}(h:n=l.length):(l++ [x]).set (((n+1:Nat):Int)-1).toNat y=l++ [y]:=by
 subst h;rw[show(((l.length+1:Nat):Int)-1).toNat=l.length by omega,List.set_append,if_neg (by omega)];simp
theorem LU{σ:cR}{q:Nat}{et:TypeId}{init:List (List Int)}{last:List Int}(hg:fB σ q=some (.arr et 1 (last.map aL))):∀(i:Nat) (x x':List AV),(init.map rN++ [[AV.own q 0 last.length]])[i]? =some x→((init++ [last]).map rN)[i]? =some x'→BorL σ [q] x x':=by
 intro i x x' h1 h2;rw[List.map_append]at h2;rcases Nat.lt_or_ge i (init.map rN).length with hlt|hge
 ·rw[List.getElem?_append_left hlt]at h1 h2;obtain rfl:=Option.some.inj (h1.symm.trans h2);obtain⟨r,-,rfl⟩:=List.mem_map.1 (List.mem_of_getElem? h1);exact .cons (.refl _) .nil
 ·rw[List.getElem?_append_right hge]at h1 h2;cases hi:i-(init.map rN).length with
  |zero=>
   rw[hi]at h1 h2;cases h1;cases h2
   exact .cons (aK hg (by simp)) .nil
  |succ n=>rw[hi]at h1;cases h1
theorem EF(rs:List (List Int)):fZ 1 (rs.map rN):=by
 intro x hx;obtain⟨r,-,rfl⟩:=List.mem_map.1 hx;exact⟨rfl,by simp[rN,AV.cell]⟩
theorem LV(l:List Int)(hl:l.length≤32):(∀r∈dA l,0<r.length∧r.length≤1000)∧(dA l).length≤32∧(aZ (dA l) jS).length≤98:=by
 obtain⟨h1,h2⟩:=GF _ l rfl;have hr:∀(rs:List (List Int)),(∀r∈rs,∃k m,r=List.replicate (m+1) k∧k∈l∧m+1≤l.length)→rs.length≤rs.flatten.length:=by
  intro rs
  induction rs with
  |nil=>simp
  |cons r rs ih=>
   intro h;obtain⟨k,m,rfl,-,-⟩:=h r List.mem_cons_self;have:=ih fun r hr=>h r (List.mem_cons_of_mem _ hr)
   simp at this⊢;omega
 have hn:=hr _ h2;rw[h1]at hn;have h3:∀r∈dA l,0<r.length∧r.length≤1000:=fun r hr=>by
  obtain⟨k,m,rfl,-,hm⟩:=h2 r hr;simp;omega
 have:=nN (pt:=jS) (l:=dA l) (c:=3) (fun r hr=>LS (h3 r hr).2) (by omega);exact⟨h3,by omega,by omega⟩
theorem aHS(q0:Nat)(vs:List Nat)(hvs:vs.length≤9000000)(ls:List Int)(bd:List Ins)(hl:ls.length≤32)(hb:bd.length≤300)(hm:∀x∈bd,x.Ok∧cW x=true):SCall Tryz.prog 151 [.own q0 0 vs.length,.agg (cZ ⟨ls,bd⟩)] [(q0,.arr 5 1 (vs.map aH))]
  (fun y σ=>∃p,y=.own p 0 (vs++oN ⟨ls,bd⟩).length∧σ=[(p,.arr 5 1 ((vs++oN ⟨ls,bd⟩).map aH))]):=by
 obtain⟨hv1,hv2,hv3⟩:=LV ls hl;have hpl:=LD hm;have hub:=bS 4 (aZ (dA ls) jS++jB bd).length (by simp;omega);refine bO 61 [0,1,3,4,5,6,7,8,10,11,12,13,28] Tryz.func151 ?_;unfold cZ;dsimp only;refine cV ?_;refine gM fun r3 h3=> ?_;intros
 refine lL ?_;refine cI ?_;refine cY 5 24 1 (by decide) rfl (by decide) (cT fun R0 hR0=> ?_);repeat rcases hR0 with⟨_,hR0⟩
 refine nL ?_;refine lT ?_;refine lp (β:=Sum Nat RS_) (rSt q0 r3 vs ls bd) (rOk q0 r3 ls) (rMs ls) (.inl R0) (by unfold rSt GH;(exact aN)) (by unfold rOk;exact⟨by(exact dP),by(exact dP)⟩) ?_;intro st hst;refine aJ ?_;rcases st with R|⟨R,q,init,k,m,j⟩
 ·obtain⟨hR1,hR2⟩:=hst;unfold rSt GH;refine iD ?_;refine tB ?_;refine aC rfl (fun g3=> ?_) (fun g3=> ?_)
  ·obtain⟨x,hx⟩:∃x,ls[0]? =some x:=⟨_,List.getElem?_eq_getElem (by simp at g3;omega)⟩
   have h0:0<ls.length:=(List.getElem?_eq_some_iff.1 hx).1;have hx':ls[(((0:Nat)):Int).toNat]? =some x:=hx;refine bH ?_;refine qG ?_;refine nI ?_;refine lo (fQ (E rfl) (E rfl)) rfl ?_;rw[show decide ((0:Int)<((0:Nat):Int))=false from rfl];refine kS ?_;refine eJ ?_;refine aCY ?_;refine aAd ?_;refine aAe ?_;refine eJ ?_;refine aAg ?_;refine KK ?_;refine jX ?_;refine eP fun r45 h45=> ?_;intros
   refine eP fun r46 h46=> ?_;intros
   refine mP [[AV.own r45 0 1]] 1 ?_;refine dG fun r47 h47=> ?_;intros
   refine lL ?_;refine NZ ?_;refine⟨.inr ⟨r47,r45,[],x,0,0⟩,⟨⟨⟨by show Nq r47 r45;(exact dP),by show Nq r47 r3;(exact dP),by show Nq r47 q0;(exact dP)⟩,by show Nq r45 r3;(exact dP),by show Nq r45 q0;(exact dP)⟩,⟨Nat.zero_le _,Nat.le_refl _⟩,hx,XB hx⟩,by show ls.length-(0+1)<ls.length;have:=(List.getElem?_eq_some_iff.1 hx).1;omega, ?_⟩;dsimp only;unfold tR;exact aN
  have hls:ls=[]:=by cases ls with|nil=>rfl|cons a t=>simp at g3
  refine aAB (j:=5) (v':=.ro 1 ((dA ls).map rN) .any) rfl bD (by rw[hls];exact aK bF rfl) ?_;refine bH ?_;refine cw [] Tryz.call246 (LK LT (by decide) (dA ls) hv1 (by omega) (by omega)) rfl aB aA ?_;rintro _ σ' ⟨r50,rfl,rfl⟩ h50
  replace h50:=fU h50;repeat rcases h50 with⟨_,h50⟩
  refine dS ?_;refine nB ?_;refine cw [(r50,.arr 5 1 ((aZ (dA ls) jS).map aH))] Tryz.call248 (LE r50 (aZ (dA ls) jS) (by omega) bd (by omega) hm) rfl aB aA ?_;rintro _ σ' ⟨r54,rfl,rfl⟩ h54;have k54:=aO h54;repeat rcases k54 with⟨_,k54⟩
  refine dS ?_;have hPl:(aZ (dA ls) jS++jB bd).length≤61000:=by simp;omega
  have hcd:oN ⟨ls,bd⟩=uB (aZ (dA ls) jS++jB bd).length++(aZ (dA ls) jS++jB bd):=rfl;rw[hcd];generalize aZ (dA ls) jS++jB bd=P at hPl hub⊢;refine jX ?_;refine oG ?_;refine cw [(q0,.arr 5 1 (vs.map aH))] Tryz.call135 (dC q0 vs (by omega) P.length (by omega)) rfl aB aA ?_;rintro _ σ' ⟨r58,rfl,rfl⟩ h58;have k58:=aO h58;repeat rcases k58 with⟨_,k58⟩
  refine uC ?_;refine mP ((vs++uB P.length++P).map aH) (vs++uB P.length++P).length ?_;refine dG fun r60 h60=> ?_;intros
  refine cI ?_;rw[List.append_assoc];exact aE aF ⟨r60,by rfl,rfl⟩ aA
 ·obtain⟨⟨⟨hq1,hq2,hq3⟩,hq4,hq5⟩,⟨hij,hmj⟩,hkj,hru⟩:=hst;dsimp only at hq1 hq2 hq3 hq4 hq5 hkj hru hij hmj;have hrl:(List.replicate (m+1) k).length=m+1:=List.length_replicate;unfold rSt tR;dsimp only;refine iD ?_;refine tB ?_;refine aC rfl (fun g3=> ?_) (fun g3=> ?_)
  ·have hlt:j+1<ls.length:=by simp at g3;omega
   obtain⟨x,hx⟩:∃x,ls[j+1]? =some x:=⟨_,List.getElem?_eq_getElem hlt⟩
   have hkj':ls[(((j+1:Nat):Int)-1).toNat]? =some k:=by rw[show(((j+1:Nat):Int)-1).toNat=j by omega];exact hkj
   refine bH ?_;refine qG ?_;refine nI ?_;refine lo (fQ (E rfl) (E rfl)) rfl ?_;refine kS ?_;refine eJ ?_;refine aCY ?_;refine aAd ?_;refine aAe ?_;refine eJ ?_;refine aAg ?_;refine KK ?_;refine aC rfl (fun g5=> ?_) (fun g5=> ?_)
   ·obtain rfl:k=x:=by simpa using g5
    have hel:=rQ (l:=init.map rN) (x:=[AV.own q 0 (List.replicate (m+1) k).length]) (n:=init.length) (by simp);have hsn:=TH hru hx;refine dB ?_;refine oG ?_;refine zD ?_;refine lo (aD (E rfl)) rfl ?_;refine oH ?_;refine zD ?_;refine qG ?_;refine lo (aD (E rfl)) rfl ?_;refine eP fun r40 h40=> ?_;intros
    refine mP ((List.replicate (m+1) k++ [k]).map aL) (List.replicate (m+1) k++ [k]).length ?_;refine dG fun r41 h41=> ?_;intros
    refine ZK ?_;refine SF ?_;refine gQ ?_;have hse:=fun y=>EE (l:=init.map rN) (x:=[AV.own q 0 (List.replicate (m+1) k).length]) (y:=y) (n:=init.length) (by simp)
    rw[hse];refine VD ?_;first|(refine⟨.inr ⟨R,r41,init,k,m+1,j+1⟩,⟨⟨⟨by show Nq R r41;(exact dP),hq2,hq3⟩,by show Nq r41 r3;(exact dP),by show Nq r41 q0;(exact dP)⟩,⟨by show init.length≤j+1;omega,by show m+1≤j+1;omega⟩,hx,by rw[List.replicate_succ'];exact hsn⟩,by show ls.length-(j+1+1)<ls.length-(j+1);omega, ?_⟩;dsimp only;(try unfold tR);(try dsimp only);rw[List.replicate_succ' (n:=m+1)];(exact aN))|(refine⟨.inr ⟨r47,r45,init++ [List.replicate (m+1) k],x,0,j+1⟩,⟨⟨⟨by show Nq r47 r45;(exact dP),by show Nq r47 r3;(exact dP),by show Nq r47 q0;(exact dP)⟩,by show Nq r45 r3;(exact dP),by show Nq r45 q0;(exact dP)⟩,⟨by show(init++ [List.replicate (m+1) k]).length≤j+1;simp;omega,Nat.zero_le _⟩,hx,hsn⟩,by show ls.length-(j+1+1)<ls.length-(j+1);omega, ?_⟩;dsimp only;(try unfold tR);(try dsimp only);rw[show(init++ [List.replicate (m+1) k]).length=init.length+1 by simp];(exact aN))
   have hkx:k≠x:=by intro e;subst e;simp at g5
   have hsn:=XA hru hx hkx;refine dM (QP (r:=R) (q:=q) (es':=(init++ [List.replicate (m+1) k]).map rN) bW bD (by simp) (EF _) (LU bF)) ?_;refine dB ?_;refine z1 ?_;refine cT fun r45 h45=> ?_;repeat rcases h45 with⟨_,h45⟩
   refine z1 ?_;refine cT fun r46 h46=> ?_;repeat rcases h46 with⟨_,h46⟩
   refine mP ((init++ [List.replicate (m+1) k]).map rN++ [[AV.own r45 0 1]]) (init.length+1+1) ?_ (hby:=by omega);refine dG fun r47 h47=> ?_;intros
   refine lL ?_;refine NZ ?_;first|(refine⟨.inr ⟨R,r41,init,k,m+1,j+1⟩,⟨⟨⟨by show Nq R r41;(exact dP),hq2,hq3⟩,by show Nq r41 r3;(exact dP),by show Nq r41 q0;(exact dP)⟩,⟨by show init.length≤j+1;omega,by show m+1≤j+1;omega⟩,hx,by rw[List.replicate_succ'];exact hsn⟩,by show ls.length-(j+1+1)<ls.length-(j+1);omega, ?_⟩;dsimp only;(try unfold tR);(try dsimp only);rw[List.replicate_succ' (n:=m+1)];(exact aN))|(refine⟨.inr ⟨r47,r45,init++ [List.replicate (m+1) k],x,0,j+1⟩,⟨⟨⟨by show Nq r47 r45;(exact dP),by show Nq r47 r3;(exact dP),by show Nq r47 q0;(exact dP)⟩,by show Nq r45 r3;(exact dP),by show Nq r45 q0;(exact dP)⟩,⟨by show(init++ [List.replicate (m+1) k]).length≤j+1;simp;omega,Nat.zero_le _⟩,hx,hsn⟩,by show ls.length-(j+1+1)<ls.length-(j+1);omega, ?_⟩;dsimp only;(try unfold tR);(try dsimp only);rw[show(init++ [List.replicate (m+1) k]).length=init.length+1 by simp];(exact aN))
  have hjl:j+1=ls.length:=by have:=(List.getElem?_eq_some_iff.1 hkj).1;simp at g3;omega
  rw[hjl,List.take_length]at hru;refine dM (QP (r:=R) (q:=q) (es':=(dA ls).map rN) bW bD (by rw[hru];simp) (EF _) (by rw[hru];exact LU bF)) ?_;refine aAB (j:=5) (v':=.ro 1 ((dA ls).map rN) .any) rfl bD (aK bF (by rw[hru];simp)) ?_;refine bH ?_;refine cw [] Tryz.call246 (LK LT (by decide) (dA ls) hv1 (by omega) (by omega)) rfl aB aA ?_;rintro _ σ' ⟨r50,rfl,rfl⟩ h50
  replace h50:=fU h50;repeat rcases h50 with⟨_,h50⟩
  refine dS ?_;refine nB ?_;refine cw [(r50,.arr 5 1 ((aZ (dA ls) jS).map aH))] Tryz.call248 (LE r50 (aZ (dA ls) jS) (by omega) bd (by omega) hm) rfl aB aA ?_;rintro _ σ' ⟨r54,rfl,rfl⟩ h54;have k54:=aO h54;repeat rcases k54 with⟨_,k54⟩
  refine dS ?_;have hPl:(aZ (dA ls) jS++jB bd).length≤61000:=by simp;omega
  have hcd:oN ⟨ls,bd⟩=uB (aZ (dA ls) jS++jB bd).length++(aZ (dA ls) jS++jB bd):=rfl;rw[hcd];generalize aZ (dA ls) jS++jB bd=P at hPl hub⊢;refine jX ?_;refine oG ?_;refine cw [(q0,.arr 5 1 (vs.map aH))] Tryz.call135 (dC q0 vs (by omega) P.length (by omega)) rfl aB aA ?_;rintro _ σ' ⟨r58,rfl,rfl⟩ h58;have k58:=aO h58;repeat rcases k58 with⟨_,k58⟩
  refine uC ?_;refine mP ((vs++uB P.length++P).map aH) (vs++uB P.length++P).length ?_;refine dG fun r60 h60=> ?_;intros
  refine cI ?_;rw[List.append_assoc];exact aE aF ⟨r60,by rfl,rfl⟩ aA
theorem RE:gD Tryz.prog 5 151 (fun x=>.agg (cZ x)) oN (fun c=>tN c=true∧∀x∈c.bd,x.Ok) 61000 9000000:=
 ⟨Tryz.call151,fun q vs x h _ hvs=>by
  obtain⟨ls,bd⟩:=x;obtain⟨h,hO⟩:=h;unfold tN at h;simp only[Bool.and_eq_true]at h;obtain⟨⟨h1,h2⟩,h3⟩:=h;obtain⟨k1,k2⟩:=bQ h2;obtain⟨k3,k4⟩:=bQ h3;have hm:∀x∈bd,x.Ok∧cW x=true:=fun x hx=>⟨hO x hx,k4 x hx⟩
  obtain⟨hv1,hv2,hv3⟩:=LV ls (by omega);have hpl:=LD hm;have hb:bd.length≤300:=by omega
  have hub:=bS 4 (aZ (dA ls) jS++jB bd).length (by simp;omega);exact⟨by unfold oN;simp at hub⊢;omega,aHS q vs hvs ls bd (by omega) hb hm⟩⟩
theorem mI{P:Program}{t8:TypeId}{f:FuncId}{α:Type}{ar:α→AV}{pt:α→List Nat}{ok:α→Prop}{c B:Nat}(hf:gD P t8 f ar pt ok c B)(hB:1≤B){l:List α}(hl:∀x∈l,ok x)(hn:l.length≤16)(hc:c≤100000)(no:Nat):(bP no l pt).length≤10+16*c:=by
 have h1:=nN (pt:=pt) (l:=l) (c:=c) (fun x hx=>(hf.2 0 [0] x (hl x hx) (by simp) hB).1) (by omega);have h2:l.length*c≤16*c:=Nat.mul_le_mul_right c hn;have h3:=bS 4 (aZ l pt).length (by omega);unfold bP;split
 ·simp
 ·simp;omega
def oA (m:Md):Bool:=(m.co.length==m.fn.length&&cD m.co 16 tN)&&lB m&&nJ m.tb 16 1000&&nJ m.me 16 65536
theorem sD(m:Md):lC m=(oA m&&decide ((eN m).length≤8000)):=rfl
theorem GI{l:Li}{a c:Int}(h:nJ l a c=true)(ha:a≤100000)(hc:c≤100000):(∀x∈jT l,OP x)∧(jT l).length≤1:=by
 obtain⟨has,mn,mx⟩:=l;cases has with
 |false=>exact⟨by simp[jT],by simp[jT]⟩
 |true=>
  unfold nJ at h;simp only[if_true,Bool.and_eq_true,decide_eq_true_eq]at h;refine⟨fun x hx=> ?_,by simp[jT]⟩;obtain rfl:x=⟨true,mn,mx⟩:=by simpa[jT]using hx
  unfold OP;dsimp only;omega
theorem uS(m:Md)(h:oA m=true)(hO:m.Ok):SCall Tryz.prog 56 [.agg (cQ m)] [] (fun y σ=>∃r,y=.own r 0 (eN m).length∧σ=[(r,.arr 5 1 ((eN m).map aH))]):=by
 obtain⟨ty,im,fn,tb,me,gl,ex,el,co,da⟩:=m;unfold oA at h;simp only[Bool.and_eq_true]at h;obtain⟨⟨⟨⟨-,hco⟩,hls⟩,htb⟩,hme⟩:=h;unfold lB at hls;simp only[Bool.and_eq_true]at hls;obtain⟨⟨⟨⟨⟨⟨hty,him⟩,hfn⟩,hgl⟩,hex⟩,hel⟩,hda⟩:=hls;obtain⟨hO1,hO2⟩:=hO;dsimp only at*;obtain⟨a1,a2⟩:=bQ hty;obtain⟨b1,b2⟩:=bQ him;obtain⟨c1,c2⟩:=bQ hfn;obtain⟨d1,d2⟩:=bQ hgl;obtain⟨e1,e2⟩:=bQ hex;obtain⟨f1,f2⟩:=bQ hel;obtain⟨g1,g2⟩:=bQ hda;obtain⟨i1,i2⟩:=bQ hco;obtain⟨t2,t1⟩:=GI htb (by decide) (by decide);obtain⟨u2,u1⟩:=GI hme (by decide) (by decide);have d2':∀g∈gl,nW g.kd g.n=true∧ -9223372036854775808≤g.n∧g.n≤9223372036854775807:=fun g hg=>⟨d2 g hg,hO2 g hg⟩
 have i2':∀c∈co,tN c=true∧∀x∈c.bd,x.Ok:=fun c hc=>⟨i2 c hc,hO1 c hc⟩
 have L1:=mI QR (by decide) a2 (by omega) (by decide) 1;have L2:=mI QT (by decide) b2 (by omega) (by decide) 2;have L3:=mI zV (by decide) c2 (by omega) (by decide) 3;have L4:=mI QX (by decide) t2 (by omega) (by decide) 4;have L5:=mI QW (by decide) u2 (by omega) (by decide) 5;have L6:=mI QZ (by decide) d2' (by omega) (by decide) 6;have L7:=mI QU (by decide) e2 (by omega) (by decide) 7;have L9:=mI QY (by decide) f2 (by omega) (by decide) 9;have L10:=mI RE (by decide) i2' (by omega) (by decide) 10;have hW:eN ⟨ty,im,fn,tb,me,gl,ex,el,co,da⟩=headB++bP 1 ty QM++bP 2 im LF++bP 3 fn gC++bP 4 (jT tb) (fun l=>112::gO l)++bP 5 (jT me) gO++bP 6 gl OO++bP 7 ex NM++bP 9 el LG++bP 10 co oN++bP 11 da NN:=rfl;rw[hW];have hH:headB.length=8:=rfl;refine bO 48 [0,1,2,3] Tryz.func56 ?_;unfold cQ;dsimp only;refine cV ?_;refine gM fun r1 h1=> ?_;intros
 refine lL ?_;refine eP fun r4 h4=> ?_;intros
 refine cvm (len:=8) bW (by decide) ?_;refine cI ?_;rw[show([[.int .u8 0],[.int .u8 97],[.int .u8 115],[.int .u8 109],[.int .u8 1],[.int .u8 0],[.int .u8 0],[.int .u8 0]]:List (List AV))=headB.map aH from rfl,show AV.own r4 0 8=AV.own r4 0 headB.length from rfl];refine nB ?_;refine cw [(r4,.arr 5 1 (headB.map aH))] Tryz.call129 (aDA QR (by decide) r4 headB 1 (by decide) ty a2 (by omega) (by omega) (by omega)) rfl aB aA ?_;rintro _ σ' ⟨r9,rfl,rfl⟩ h9;have k9:=aO h9;repeat rcases k9 with⟨_,k9⟩
 refine dS ?_;generalize bP 1 ty QM=S1 at L1⊢;refine nB ?_;refine cw [(r9,.arr 5 1 ((headB++S1).map aH))] Tryz.call133 (aDB QT (by decide) r9 (headB++S1) 2 (by decide) im b2 (by omega) (by simp;omega) (by omega)) rfl aB aA ?_;rintro _ σ' ⟨r13,rfl,rfl⟩ h13;have k13:=aO h13;repeat rcases k13 with⟨_,k13⟩
 refine dS ?_;generalize bP 2 im LF=S2 at L2⊢;refine nB ?_;refine cw [(r13,.arr 5 1 ((headB++S1++S2).map aH))] Tryz.call137 (aAU zV (by decide) r13 (headB++S1++S2) 3 (by decide) fn c2 (by omega) (by simp;omega) (by omega)) rfl aB aA ?_;rintro _ σ' ⟨r17,rfl,rfl⟩ h17;have k17:=aO h17;repeat rcases k17 with⟨_,k17⟩
 refine dS ?_;generalize bP 3 fn gC=S3 at L3⊢;refine hX ?_;refine sG ?_;refine jN ?_;refine cw [] Tryz.call139 (LL tb) rfl aB aA ?_;rintro _ σ' ⟨q21,rfl,rfl⟩ h21
 replace h21:=fU h21;repeat rcases h21 with⟨_,h21⟩
 apply bE;exact bX;refine gX (j:=21) rfl bD (aK bF (by simp)) ?_;refine cw [(r17,.arr 5 1 ((headB++S1++S2++S3).map aH))] Tryz.call138 (WR QX (by decide) r17 (headB++S1++S2++S3) 4 (by decide) (jT tb) t2 (by omega) (by simp;omega) (by omega)) rfl aB aA ?_;rintro _ σ' ⟨r22,rfl,rfl⟩ h22;have k22:=aO h22;repeat rcases k22 with⟨_,k22⟩
 refine dS ?_;generalize bP 4 (jT tb) (fun l=>112::gO l)=S4 at L4⊢;refine hX ?_;refine sG ?_;refine jN ?_;refine cw [] Tryz.call139 (LL me) rfl aB aA ?_;rintro _ σ' ⟨q26,rfl,rfl⟩ h26
 replace h26:=fU h26;repeat rcases h26 with⟨_,h26⟩
 apply bE;exact bX;refine gX (j:=26) rfl bD (aK bF (by simp)) ?_;refine cw [(r22,.arr 5 1 ((headB++S1++S2++S3++S4).map aH))] Tryz.call138 (WR QW (by decide) r22 (headB++S1++S2++S3++S4) 5 (by decide) (jT me) u2 (by omega) (by simp;omega) (by omega)) rfl aB aA ?_;rintro _ σ' ⟨r27,rfl,rfl⟩ h27;have k27:=aO h27;repeat rcases k27 with⟨_,k27⟩
 refine dS ?_;generalize bP 5 (jT me) gO=S5 at L5⊢;refine nB ?_;refine cw [(r27,.arr 5 1 ((headB++S1++S2++S3++S4++S5).map aH))] Tryz.call142 (aDC QZ (by decide) r27 (headB++S1++S2++S3++S4++S5) 6 (by decide) gl d2' (by omega) (by simp;omega) (by omega)) rfl aB aA ?_;rintro _ σ' ⟨r31,rfl,rfl⟩ h31;have k31:=aO h31;repeat rcases k31 with⟨_,k31⟩
 refine dS ?_;generalize bP 6 gl OO=S6 at L6⊢;refine nB ?_;refine cw [(r31,.arr 5 1 ((headB++S1++S2++S3++S4++S5++S6).map aH))] Tryz.call145 (aDD QU (by decide) r31 (headB++S1++S2++S3++S4++S5++S6) 7 (by decide) ex e2 (by omega) (by simp;omega) (by omega)) rfl aB aA ?_;rintro _ σ' ⟨r35,rfl,rfl⟩ h35;have k35:=aO h35;repeat rcases k35 with⟨_,k35⟩
 refine dS ?_;generalize bP 7 ex NM=S7 at L7⊢;refine nB ?_;refine cw [(r35,.arr 5 1 ((headB++S1++S2++S3++S4++S5++S6++S7).map aH))] Tryz.call147 (aDE QY (by decide) r35 (headB++S1++S2++S3++S4++S5++S6++S7) 9 (by decide) el f2 (by omega) (by simp;omega) (by omega)) rfl aB aA ?_;rintro _ σ' ⟨r39,rfl,rfl⟩ h39;have k39:=aO h39;repeat rcases k39 with⟨_,k39⟩
 refine dS ?_;generalize bP 9 el LG=S9 at L9⊢;refine nB ?_;refine cw [(r39,.arr 5 1 ((headB++S1++S2++S3++S4++S5++S6++S7++S9).map aH))] Tryz.call150 (aDF RE (by decide) r39 (headB++S1++S2++S3++S4++S5++S6++S7++S9) 10 (by decide) co i2' (by omega) (by simp;omega) (by omega)) rfl aB aA ?_;rintro _ σ' ⟨r43,rfl,rfl⟩ h43;have k43:=aO h43;repeat rcases k43 with⟨_,k43⟩
 refine dS ?_;generalize bP 10 co oN=S10 at L10⊢;refine nB ?_;refine cw [(r43,.arr 5 1 ((headB++S1++S2++S3++S4++S5++S6++S7++S9++S10).map aH))] Tryz.call152 (aDG aAV (by decide) r43 (headB++S1++S2++S3++S4++S5++S6++S7++S9++S10) 11 (by decide) da g2 (by omega) (by simp;omega) (by omega)) rfl aB aA ?_;rintro _ σ' ⟨r47,rfl,rfl⟩ h47;have k47:=aO h47;repeat rcases k47 with⟨_,k47⟩
 refine dS ?_;exact aE aF ⟨r47,by rfl,rfl⟩ aA
def kD (m:Md) (lv:AV) (p q:Nat) (vs:List Int) (cs:List Ct) (b:Bool):List AV:=[.ro 2 (m.ty.map dF) .any,.ro 3 (m.im.map eE) .any,.ro 1 (m.fn.map aL) .any,.bool m.tb.has,.int .i64 m.tb.mn,.int .i64 m.tb.mx,.bool m.me.has,.int .i64 m.me.mn,.int .i64 m.me.mx,
 .ro 3 (m.gl.map eF) .any,.ro 2 (m.ex.map dJ) .any,.ro 2 (m.el.map dV) .any,.ro 2 (m.co.map cZ) .any,.ro 2 (m.da.map dW) .any,lv,.own p 0 vs.length,.own q 0 cs.length,.bool b]
def cG (r p q:Nat) (m:Md) (lv:AV) (s:PS):cR:=[(r,.box 128 (kD m lv p q s.vs s.cs s.bad)),(p,.arr 3 1 (s.vs.map aL)),(q,.arr 137 4 (s.cs.map jY))]
theorem aDJ{e:Nat}{σ1 σ:cR}{C G:Prop}(h:(∃q∈σ1,q.1=e)∨Fresh e σ)(k:C)(g:Hold C→Fresh e (dE (σ1.map (·.1)) σ)→G:=by intro k q;unfold cG at q;simp(disch:=(first|(simp only[List.mem_cons,List.not_mem_nil,true_or,or_true,or_false];done)|(focus (simp only[List.mem_cons,List.not_mem_nil,or_false,not_or];(repeat' (first|apply And.intro|(exact dP)));done))|omega)) only[List.map_cons,List.map_nil,kV,mJ,oC,mK,aM,aT,and_true]at q;revert q;(repeat refine aCT ?_);exact k.h):G:=g ⟨k⟩ (tA h)
structure PS.Gd (s:PS):Prop extends s.Ok where
 bv:s.vs.length≤1000000
 bc:s.cs.length≤1000000
theorem PS.Gd.need {s:PS}(h:s.Gd)(b:Bool):(dX s b).Gd:=⟨h.toOk.need b,h.bv,h.bc⟩
theorem PS.Gd.pop {s:PS}(h:s.Gd)(w:Int):(cF s w).2.Gd:=⟨h.toOk.pop w,Nat.le_trans (pN s w) h.bv,by rw[tO];exact h.bc⟩
theorem PS.Gd.pops {s:PS}(h:s.Gd)(ks:List Int):(dZ s ks).Gd:=⟨h.toOk.pops ks,Nat.le_trans (lO s ks) h.bv,by rw[mF];exact h.bc⟩
def Nm (r p q:Nat):Prop:=Nq p r∧Nq q r∧Nq q p
theorem bL{P:Prop}(h:P:=by(try unfold cG kD);(try dsimp only);exact aA):P:=h
theorem XC{P:Prop}(h:P:=by(try unfold cG kD);(try dsimp only);exact eU):P:=h
section
variable {r p q : Nat} {m : Md} {lv : AV}
theorem iG(hN:Nm r p q)(s:PS)(ok:Bool):SCall Tryz.prog 189 [.ptr r 0,.bool ok] (cG r p q m lv s) (fun _ σ=>σ=cG r p q m lv (dX s ok)):=by
 obtain⟨vs,zs,b⟩:=s;obtain⟨n1,n2,n3⟩:=hN;refine bO 15 [0,1] Tryz.func189 ?_;unfold cG kD;dsimp only;refine dB ?_;refine iJ ?_;refine gA ?_;refine uA ?_;refine gK ?_;refine qZ ?_;refine cK ?_;apply aE;exact aF
 ·rfl
 ·exact aA
theorem jL(hN:Nm r p q)(s:PS)(hs:s.vs.length≤1000000)(ks:List Int)(hk:ks.length≤1000):SCall Tryz.prog 190 [.ptr r 0,.ro 1 (ks.map aL) .any] (cG r p q m lv s) (fun _ σ=>∃e,Nm r e q∧σ=cG r e q m lv (gH s ks)):=by
 obtain⟨vs,zs,b⟩:=s;obtain⟨n1,n2,n3⟩:=hN;dsimp only at hs;refine bO 13 [0,1] Tryz.func190 ?_;unfold cG kD;dsimp only;refine dB ?_;refine wP ?_;refine mP ((vs++ks).map aL) (vs++ks).length ?_;refine dG fun r10 h10=> ?_;intros
 refine qZ ?_;refine cK ?_;exact aE aF ⟨r10,by exact⟨by(exact dP),by(exact dP),by(exact dP)⟩,rfl⟩ aA
theorem pP(k:Int):SCall Tryz.prog 191 [.int .i64 k] [] (fun y σ=>y=.ro 1 ((iF k).map aL) .any∧σ=[]):=by
 refine bO 7 [0,2,4] Tryz.func191 ?_;refine kM ?_;refine pF ?_;refine aC rfl (fun g1=> ?_) (fun g1=> ?_)
 ·rw[show iF k=[]from if_pos g1];refine cV ?_;refine lZ ?_;refine dM (eS (j:=2) (y:=.ro 1 (([]:List Int).map aL) .any) rfl VLe.empty) ?_;refine aJ ?_;exact aE aF ⟨by rfl,rfl⟩ aA
 rw[show iF k=[k]from if_neg (by simp[g1])];refine bH ?_;refine eP fun r6 h6=> ?_;intros
 refine lZ ?_;refine aAB (j:=2) rfl bD (aK bF (by simp)) ?_;refine aJ ?_;exact aE aF ⟨by rfl,rfl⟩ aA
theorem rR(i:List Ct)(t:Ct):(i++ [t]).length=i.length+1:=by simp
theorem zX(i:List Ct)(t:Ct):(i++ [t]).map jY=i.map jY++ [jY t]:=by simp
theorem XD(i:List Int)(t:Int):(i++ [t]).length=i.length+1:=by simp
theorem aDK(i:List Int)(t:Int):(i++ [t]).map aL=i.map aL++ [aL t]:=by simp
theorem LW{n:Nat}:(((n+1:Nat):Int)-1).toNat-0=n:=by omega
theorem lV(hN:Nm r p q)(s:PS)(h:s.Gd)(w:Int):SCall Tryz.prog 188 [.ptr r 0,.int .i64 w] (cG r p q m lv s) (fun y σ=>y=.int .i64 (cF s w).1∧σ=cG r p q m lv (cF s w).2):=by
 obtain⟨i,hi⟩:=h.cut;have h0:=h.toOk0;have hbv:=h.bv;have hbc:=h.bc;obtain⟨vs,zs,b⟩:=s;dsimp only at hi hbv hbc;generalize PS.top ⟨vs,zs,b⟩=t at hi;subst hi;rw[rR]at hbc;obtain⟨-,hh,-⟩:=h0.split;obtain⟨n1,n2,n3⟩:=hN;have hel:=rQ (l:=i.map jY) (x:=jY t) (n:=i.length) (by simp);refine bO 71 [0,1,4,5,6,26,59] Tryz.func188 ?_;unfold cG kD;dsimp only;rw[rR,zX];refine bV ?_;refine hU [(0,true),(1,true),(2,true),(3,true),(4,true),(5,true),(6,true),(7,true),(8,true),(9,true),(10,true),(11,true),(12,false),(13,false)] ?_;refine kK ?_;refine kK ?_;refine JM ?_;refine ZL ?_;refine NV ?_;refine BM ?_;apply dal;rfl;infer_instance;rfl;exact FJ;refine jM fun r5 h5=> ?_;intros
 refine NL ?_;refine qH ?_;refine hU [(0,true),(1,true),(2,true),(3,true),(4,true),(5,true),(6,true),(7,true)] ?_;refine kK ?_;refine JM ?_;refine kX ?_;refine z79 ?_;refine qH ?_;refine aC rfl (fun g2=> ?_) (fun g2=> ?_)
 ·have hP:cF ⟨vs,i++ [t],b⟩ w=(w,dX ⟨vs,i++ [t],b⟩ t.dd):=by unfold cF;rw[zO,if_pos g2]
  rw[hP];refine bH ?_;refine dL ?_;refine cw (cG r p q m lv ⟨vs,i++ [t],b⟩) Tryz.call189 (iG ⟨n1,n2,n3⟩ _ t.dd) rfl aB bL ?_;rintro _ σ' rfl h30;refine mY ?_;refine cI ?_;exact aE aF ⟨by rfl,rfl⟩ aA
 have hl:vs.length≠t.ht:=by intro e;rw[e]at g2;simp at g2
 obtain⟨ws,g,rfl⟩:∃ws g,vs=ws++ [g]:=by
  rcases List.eq_nil_or_concat vs with e|⟨ws,g,e⟩
  ·subst e;simp at hh hl;omega
  ·exact⟨ws,g,by rw[e,List.concat_eq_append]⟩
 have hel2:=rQ (l:=ws.map aL) (x:=aL g) (n:=ws.length) (by simp);rw[XD]at hbv;rw[XD,aDK];refine aJ ?_;refine hU [(0,true),(1,true),(2,true),(3,true),(4,true),(5,true),(6,true),(7,true),(8,true),(9,true),(10,true),(11,true),(12,true)] ?_;refine kK ?_;refine kK ?_;refine JM ?_;refine ZL ?_;refine NV ?_;refine UW ?_;refine BO ?_;refine hU [(0,true),(1,true),(2,true),(3,true),(4,true),(5,true),(6,true),(7,true),(8,true),(9,true),(10,true),(11,true),(12,true),(13,true),(14,false)] ?_;refine DO ?_;refine kK ?_;refine JM ?_;refine ZL ?_;refine z25 ?_;refine z77 ?_;refine KD ?_;refine NL ?_;refine qH ?_;rw[LW];refine dM (yD (o:=p) ws.length bW) ?_;rw[show List.take ws.length (ws.map aL++ [aL g])=ws.map aL by rw[List.take_left' (by simp)]];refine hX ?_;refine pF ?_;refine aC rfl (fun g7=> ?_) (fun g7=> ?_)
 ·have hP:cF ⟨ws++ [g],i++ [t],b⟩ w=(w,⟨ws,i++ [t],b⟩):=by unfold cF;rw[zO,if_neg (by simpa using g2)];simp at g7;simp[g7]
  rw[hP];refine eK ?_;exact aE aF ⟨by rfl,rfl⟩ aA
 have hP:cF ⟨ws++ [g],i++ [t],b⟩ w=(g,dX ⟨ws,i++ [t],b⟩ (if(w==0)=true then true else(g==w))):=by unfold cF;rw[zO,if_neg (by simpa using g2)];simp at g7;simp[g7]
 rw[hP];refine dB ?_;refine lo (bY (E rfl) (E rfl)) rfl ?_;refine gA ?_;refine eJ ?_;refine aAg ?_;refine gK ?_;refine cw (cG r p q m lv ⟨ws,i++ [t],b⟩) Tryz.call189 (iG ⟨n1,n2,n3⟩ _ (if(w==0)=true then true else(g==w))) rfl aB bL ?_;rintro _ σ' rfl h69;refine mY ?_;refine cI ?_;exact aE aF ⟨by rfl,rfl⟩ aA
theorem iW(hN:Nm r p q)(s:PS)(h:s.Gd)(ks:List Int)(hkl:ks.length≤100000):SCall Tryz.prog 192 [.ptr r 0,.ro 1 (ks.map aL) .any] (cG r p q m lv s) (fun _ σ=>σ=cG r p q m lv (dZ s ks)):=by
 obtain⟨n1,n2,n3⟩:=hN;refine bO 18 [0,1,4,9] Tryz.func192 ?_;unfold cG kD
 (try dsimp only);refine bH ?_;refine oG ?_;refine zD ?_;refine cI ?_;refine lp (β:=Nat×PS) (fun b=>⟨[(0,.ptr r 0),(1,.ro 1 (ks.map aL) .any),(4,.int .i64 ((b.1:Int)-1))],cG r p q m lv b.2⟩) (fun b=>b.1≤ks.length∧b.2.Gd∧dZ b.2 (ks.take b.1)=dZ s ks) (fun b=>b.1) (ks.length,s) (by unfold cG kD;(try dsimp only);(exact aN)) ⟨Nat.le_refl _,h,by rw[List.take_length]⟩ ?_;rintro⟨j,S⟩ ⟨hj,hS,hP⟩;dsimp only at hj hS hP⊢;unfold cG kD
 (try dsimp only);refine bH ?_;refine KO ?_;refine aC rfl (fun g1=> ?_) (fun g1=> ?_)
 ·obtain⟨j,rfl⟩:∃j',j=j'+1:=⟨j-1,by simp at g1;omega⟩
  obtain⟨k,hk⟩:∃k,ks[j]? =some k:=⟨_,List.getElem?_eq_getElem (by omega)⟩
  have hk':ks[(((j+1:Nat):Int)-1).toNat]? =some k:=by rw[show(((j+1:Nat):Int)-1).toNat=j by omega];exact hk
  refine dB ?_;refine tC ?_;refine KC ?_;refine cw (cG r p q m lv S) Tryz.call188 (lV ⟨n1,n2,n3⟩ S hS k) rfl aB bL ?_;rintro _ σ' ⟨rfl,rfl⟩ h17;refine mY ?_;refine zD ?_;refine cI ?_;refine⟨(j,(cF S k).2),⟨by show j≤ _;omega,hS.pop k,by rw[←hP,List.take_add_one,hk];show _=dZ S (ks.take j++ [k]);rw[TA]⟩,by show j<j+1;omega, ?_⟩;dsimp only;rw[show(((j+1:Nat):Int)-1-1)=(j:Int)-1 by omega];exact aN
 obtain rfl:j=0:=by simp at g1;omega
 rw[show dZ s ks=S by rw[←hP];rfl];refine aJ ?_;refine cK ?_;apply aE;exact aF
 ·rfl
 ·exact aA
end
end Go.Proofs.YtjpdadobblffmaaGreat
namespace Go.Proofs.YtjpdadobblffmaaGreat
open Go.RowKit Go.ChangeShapes Go.WideShapes Go.ChangeAt Go.Deep
def bK (P:Program) (f:FuncId) (caps:List AV) (σ:cR) {α:Type} (ar:α→AV) (p:α→Bool) (ok:α→Prop):Prop:=
 (∀args w,(callFunc f args).run P w=.ok (.enter f args) w)∧∀x,ok x→SCall P f ([]++ [ar x]++caps) σ (fun r σ'=>r=.bool (p x)∧σ'=σ)
theorem aDL{f:FuncId}{caps:List AV}{σ:cR}{p:FT→Bool}{ok:FT→Prop}(hp:bK Tryz.prog f caps σ (fun x=>.agg (dF x)) p ok)(l:List FT)(hok:∀x∈l,ok x):SCall Tryz.prog 309 [.ro 2 (l.map dF) .any,.fn (.func f) [] caps] σ (fun x σ'=>∃m:Int,x=.int .i64 m∧decide (0≤m)=l.any p∧σ'=σ):=by
 refine bO 19 [0,1,4,5,7,8,9,16] Tryz.func309 ?_;refine fN (i:=0) rfl fun hm=> ?_
 rw[List.length_map]at hm;unfold maxLen at hm;refine oL ?_;refine lp (β:=Nat) (fun j=>⟨[(0,.ro 2 (l.map dF) .any),(1,.fn (.func f) [] caps),(7,.int .i64 l.length),(8,.int .i64 j)],σ⟩) (fun j=>j≤l.length∧(l.take j).any p=false) (fun j=>l.length-j) 0 ?_ ⟨Nat.zero_le _,rfl⟩ ?_
 ·exact aN
 rintro j ⟨hj,ht⟩;refine eV ?_;refine aC rfl (fun h1=> ?_) (fun h1=> ?_)
 ·have hlt:j<l.length:=by simp at h1;omega
  obtain⟨x,hx⟩:∃x,l[j]? =some x:=⟨_,List.getElem?_eq_getElem hlt⟩
  refine pV ?_;refine xH ?_;refine mO σ rfl hp.1 (hp.2 x (hok x (List.mem_of_getElem? hx))) rfl ?_ ?_ ?_
  ·exact aB
  ·exact fun _ h=>h
  rintro r σ' ⟨rfl,rfl⟩-;rw[cX,List.append_nil];refine gQ ?_;refine aC rfl (fun h2=> ?_) (fun h2=> ?_)
  ·refine eK ?_;apply aE;exact aF
   ·refine⟨j,rfl, ?_,rfl⟩;rw[decide_eq_true (by omega)];exact(List.any_eq_true.2 ⟨x,List.mem_of_getElem? hx,h2⟩).symm
   ·exact aA
  ·refine gS ?_;refine⟨j+1,⟨by omega, ?_⟩,by omega, ?_⟩
   ·rw[List.take_add_one,hx,List.any_append,ht];simp[h2]
   ·exact aN
 ·refine bV ?_;apply aE;exact aF
  ·simp at h1;rw[List.take_of_length_le (by omega)]at ht;exact⟨-1,rfl,by rw[ht];rfl,rfl⟩
  ·exact aA
theorem aDM{f:FuncId}{caps:List AV}{σ:cR}{p:FT→Bool}{ok:FT→Prop}(hp:bK Tryz.prog f caps σ (fun x=>.agg (dF x)) p ok)(l:List FT)(hok:∀x∈l,ok x):SCall Tryz.prog 285 [.ro 2 (l.map dF) .any,.fn (.func f) [] caps] σ (fun x σ'=>x=.bool (l.any p)∧σ'=σ):=by
 refine bO 9 [0,1,4] Tryz.func285 ?_;refine jF ?_;refine cw σ Tryz.call309 (aDL hp l hok) rfl ?_ ?_ ?_
 ·exact aB
 ·exact fun _ h=>h
 rintro x σ' ⟨m,rfl,hm,rfl⟩-;rw[cX,List.append_nil];refine uD ?_;exact aE aF ⟨by simp only[dU];rw[←hm],rfl⟩ aA
theorem aF5{f:FuncId}{p:FT→Bool}{ok:FT→Prop}(hp:bK Tryz.prog f [] [] (fun x=>.agg (dF x)) p ok)(r:Nat):bK Tryz.prog 286 [.ptr r 0] [(r,.box 277 [.fn (.func f) [] []])] (fun x=>.agg (dF x)) (fun x=> !p x) ok:=by
  refine⟨Tryz.call286,fun x hx=> ?_⟩;refine bO 8 [0,1,2,3] Tryz.func286 ?_;refine cV ?_;refine gM fun r2 h2=> ?_;intros
  refine lL ?_;refine qE ?_;refine jN ?_;refine mO [] rfl hp.1 (hp.2 x hx) rfl aB aA ?_;rintro _ σ' ⟨rfl,rfl⟩ h6;refine sI ?_;refine cI ?_;exact aE aF ⟨by rfl,rfl⟩ aA
theorem aDN{f:FuncId}{p:FT→Bool}{ok:FT→Prop}(hp:bK Tryz.prog f [] [] (fun x=>.agg (dF x)) p ok)(l:List FT)(hok:∀x∈l,ok x)(most:Int):SCall Tryz.prog 221 [.ro 2 (l.map dF) .any,.int .i64 most,.fn (.func f) [] []] [] (fun x σ'=>x=.bool (cD l most p)∧σ'=[]):=by
 refine bO 17 [0,1,2,5,6] Tryz.func221 ?_;refine cV ?_;refine gM fun r5 h5=> ?_;intros
 refine cI ?_;by_cases hl:(l.length:Int)≤most
 ·have hE:cD l most p= !(l.any fun x=> !p x):=by unfold cD;rw[decide_eq_true hl,List.any_eq_not_all_not];simp
  have hd:decide ((l.length:Int)≤most)=true:=by simpa using hl
  refine oJ ?_;rw[hd];refine sR ?_;refine cw [(r5,.box 277 [.fn (.func f) [] []])] Tryz.call285 (aDM (aF5 hp r5) l hok) rfl aB aA ?_;rintro _ σ' ⟨rfl,rfl⟩ h14;refine BP ?_;exact aE aF ⟨by rw[hE];rfl,rfl⟩ aA
 ·have hE:cD l most p=false:=by unfold cD;rw[decide_eq_false hl];rfl
  have hd:decide ((l.length:Int)≤most)=false:=by simpa using hl
  refine oJ ?_;rw[hd];refine gA ?_;refine xK ?_;refine tD ?_;exact aE aF ⟨by rw[hE];rfl,rfl⟩ aA
theorem aAY{f:FuncId}{caps:List AV}{σ:cR}{p:Int→Bool}{ok:Int→Prop}(hp:bK Tryz.prog f caps σ (fun n=>.int .i64 n) p ok)(l:List Int)(hok:∀x∈l,ok x):SCall Tryz.prog 205 [.ro 1 (l.map aL) .any,.fn (.func f) [] caps] σ (fun x σ'=>∃m:Int,x=.int .i64 m∧decide (0≤m)=l.any p∧σ'=σ):=by
 refine bO 19 [0,1,4,5,7,8,9,16] Tryz.func205 ?_;refine fN (i:=0) rfl fun hm=> ?_
 rw[List.length_map]at hm;unfold maxLen at hm;refine oL ?_;refine lp (β:=Nat) (fun j=>⟨[(0,.ro 1 (l.map aL) .any),(1,.fn (.func f) [] caps),(7,.int .i64 l.length),(8,.int .i64 j)],σ⟩) (fun j=>j≤l.length∧(l.take j).any p=false) (fun j=>l.length-j) 0 ?_ ⟨Nat.zero_le _,rfl⟩ ?_
 ·exact aN
 rintro j ⟨hj,ht⟩;refine eV ?_;refine aC rfl (fun h1=> ?_) (fun h1=> ?_)
 ·have hlt:j<l.length:=by simp at h1;omega
  obtain⟨x,hx⟩:∃x,l[j]? =some x:=⟨_,List.getElem?_eq_getElem hlt⟩
  refine pV ?_;refine KC ?_;refine mO σ rfl hp.1 (hp.2 x (hok x (List.mem_of_getElem? hx))) rfl ?_ ?_ ?_
  ·exact aB
  ·exact fun _ h=>h
  rintro r σ' ⟨rfl,rfl⟩-;rw[cX,List.append_nil];refine gQ ?_;refine aC rfl (fun h2=> ?_) (fun h2=> ?_)
  ·refine eK ?_;apply aE;exact aF
   ·refine⟨j,rfl, ?_,rfl⟩;rw[decide_eq_true (by omega)];exact(List.any_eq_true.2 ⟨x,List.mem_of_getElem? hx,h2⟩).symm
   ·exact aA
  ·refine gS ?_;refine⟨j+1,⟨by omega, ?_⟩,by omega, ?_⟩
   ·rw[List.take_add_one,hx,List.any_append,ht];simp[h2]
   ·exact aN
 ·refine bV ?_;apply aE;exact aF
  ·simp at h1;rw[List.take_of_length_le (by omega)]at ht;exact⟨-1,rfl,by rw[ht];rfl,rfl⟩
  ·exact aA
theorem GJ{f:FuncId}{caps:List AV}{σ:cR}{p:Int→Bool}{ok:Int→Prop}(hp:bK Tryz.prog f caps σ (fun n=>.int .i64 n) p ok)(l:List Int)(hok:∀x∈l,ok x):SCall Tryz.prog 89 [.ro 1 (l.map aL) .any,.fn (.func f) [] caps] σ (fun x σ'=>x=.bool (l.any p)∧σ'=σ):=by
 refine bO 9 [0,1,4] Tryz.func89 ?_;refine jF ?_;refine cw σ Tryz.call205 (aAY hp l hok) rfl ?_ ?_ ?_
 ·exact aB
 ·exact fun _ h=>h
 rintro x σ' ⟨m,rfl,hm,rfl⟩-;rw[cX,List.append_nil];refine uD ?_;exact aE aF ⟨by simp only[dU];rw[←hm],rfl⟩ aA
theorem aDO{f:FuncId}{p:Int→Bool}{ok:Int→Prop}(hp:bK Tryz.prog f [] [] (fun n=>.int .i64 n) p ok)(r:Nat):bK Tryz.prog 214 [.ptr r 0] [(r,.box 83 [.fn (.func f) [] []])] (fun n=>.int .i64 n) (fun x=> !p x) ok:=by
  refine⟨Tryz.call214,fun x hx=> ?_⟩;refine bO 8 [0,1,3] Tryz.func214 ?_;refine nS ?_;refine qE ?_;refine lo (aD (E rfl)) rfl ?_;refine mO [] rfl hp.1 (hp.2 x hx) rfl aB aA ?_;rintro _ σ' ⟨rfl,rfl⟩ h6;refine sI ?_;refine cI ?_;exact aE aF ⟨by rfl,rfl⟩ aA
theorem uT{f:FuncId}{p:Int→Bool}{ok:Int→Prop}(hp:bK Tryz.prog f [] [] (fun n=>.int .i64 n) p ok)(l:List Int)(hok:∀x∈l,ok x)(most:Int):SCall Tryz.prog 108 [.ro 1 (l.map aL) .any,.int .i64 most,.fn (.func f) [] []] [] (fun x σ'=>x=.bool (cD l most p)∧σ'=[]):=by
 refine bO 17 [0,1,2,5,6] Tryz.func108 ?_;refine cV ?_;refine gM fun r5 h5=> ?_;intros
 refine cI ?_;by_cases hl:(l.length:Int)≤most
 ·have hE:cD l most p= !(l.any fun x=> !p x):=by unfold cD;rw[decide_eq_true hl,List.any_eq_not_all_not];simp
  have hd:decide ((l.length:Int)≤most)=true:=by simpa using hl
  refine oJ ?_;rw[hd];refine sR ?_;refine cw [(r5,.box 83 [.fn (.func f) [] []])] Tryz.call89 (GJ (aDO hp r5) l hok) rfl aB aA ?_;rintro _ σ' ⟨rfl,rfl⟩ h14;refine BP ?_;exact aE aF ⟨by rw[hE];rfl,rfl⟩ aA
 ·have hE:cD l most p=false:=by unfold cD;rw[decide_eq_false hl];rfl
  have hd:decide ((l.length:Int)≤most)=false:=by simpa using hl
  refine oJ ?_;rw[hd];refine gA ?_;refine xK ?_;refine tD ?_;exact aE aF ⟨by rw[hE];rfl,rfl⟩ aA
theorem aDP{f:FuncId}{caps:List AV}{σ:cR}{p:Nat→Bool}{ok:Nat→Prop}(hp:bK Tryz.prog f caps σ (fun(n:Nat)=>.int .u8 n) p ok)(l:List Nat)(hok:∀x∈l,ok x):SCall Tryz.prog 320 [.ro 1 (l.map aH) .any,.fn (.func f) [] caps] σ (fun x σ'=>∃m:Int,x=.int .i64 m∧decide (0≤m)=l.any p∧σ'=σ):=by
 refine bO 19 [0,1,4,5,7,8,9,16] Tryz.func320 ?_;refine fN (i:=0) rfl fun hm=> ?_
 rw[List.length_map]at hm;unfold maxLen at hm;refine oL ?_;refine lp (β:=Nat) (fun j=>⟨[(0,.ro 1 (l.map aH) .any),(1,.fn (.func f) [] caps),(7,.int .i64 l.length),(8,.int .i64 j)],σ⟩) (fun j=>j≤l.length∧(l.take j).any p=false) (fun j=>l.length-j) 0 ?_ ⟨Nat.zero_le _,rfl⟩ ?_
 ·exact aN
 rintro j ⟨hj,ht⟩;refine eV ?_;refine aC rfl (fun h1=> ?_) (fun h1=> ?_)
 ·have hlt:j<l.length:=by simp at h1;omega
  obtain⟨x,hx⟩:∃x,l[j]? =some x:=⟨_,List.getElem?_eq_getElem hlt⟩
  refine pV ?_;refine KC ?_;refine mO σ rfl hp.1 (hp.2 x (hok x (List.mem_of_getElem? hx))) rfl ?_ ?_ ?_
  ·exact aB
  ·exact fun _ h=>h
  rintro r σ' ⟨rfl,rfl⟩-;rw[cX,List.append_nil];refine gQ ?_;refine aC rfl (fun h2=> ?_) (fun h2=> ?_)
  ·refine eK ?_;apply aE;exact aF
   ·refine⟨j,rfl, ?_,rfl⟩;rw[decide_eq_true (by omega)];exact(List.any_eq_true.2 ⟨x,List.mem_of_getElem? hx,h2⟩).symm
   ·exact aA
  ·refine gS ?_;refine⟨j+1,⟨by omega, ?_⟩,by omega, ?_⟩
   ·rw[List.take_add_one,hx,List.any_append,ht];simp[h2]
   ·exact aN
 ·refine bV ?_;apply aE;exact aF
  ·simp at h1;rw[List.take_of_length_le (by omega)]at ht;exact⟨-1,rfl,by rw[ht];rfl,rfl⟩
  ·exact aA
theorem aDQ{f:FuncId}{caps:List AV}{σ:cR}{p:Nat→Bool}{ok:Nat→Prop}(hp:bK Tryz.prog f caps σ (fun(n:Nat)=>.int .u8 n) p ok)(l:List Nat)(hok:∀x∈l,ok x):SCall Tryz.prog 310 [.ro 1 (l.map aH) .any,.fn (.func f) [] caps] σ (fun x σ'=>x=.bool (l.any p)∧σ'=σ):=by
 refine bO 9 [0,1,4] Tryz.func310 ?_;refine jF ?_;refine cw σ Tryz.call320 (aDP hp l hok) rfl ?_ ?_ ?_
 ·exact aB
 ·exact fun _ h=>h
 rintro x σ' ⟨m,rfl,hm,rfl⟩-;rw[cX,List.append_nil];refine uD ?_;exact aE aF ⟨by simp only[dU];rw[←hm],rfl⟩ aA
theorem aF6{f:FuncId}{p:Nat→Bool}{ok:Nat→Prop}(hp:bK Tryz.prog f [] [] (fun(n:Nat)=>.int .u8 n) p ok)(r:Nat):bK Tryz.prog 311 [.ptr r 0] [(r,.box 325 [.fn (.func f) [] []])] (fun(n:Nat)=>.int .u8 n) (fun x=> !p x) ok:=by
  refine⟨Tryz.call311,fun x hx=> ?_⟩;refine bO 8 [0,1,3] Tryz.func311 ?_;refine nS ?_;refine qE ?_;refine lo (aD (E rfl)) rfl ?_;refine mO [] rfl hp.1 (hp.2 x hx) rfl aB aA ?_;rintro _ σ' ⟨rfl,rfl⟩ h6;refine sI ?_;refine cI ?_;exact aE aF ⟨by rfl,rfl⟩ aA
theorem aDR{f:FuncId}{p:Nat→Bool}{ok:Nat→Prop}(hp:bK Tryz.prog f [] [] (fun(n:Nat)=>.int .u8 n) p ok)(l:List Nat)(hok:∀x∈l,ok x)(most:Int):SCall Tryz.prog 288 [.ro 1 (l.map aH) .any,.int .i64 most,.fn (.func f) [] []] [] (fun x σ'=>x=.bool (cD l most p)∧σ'=[]):=by
 refine bO 17 [0,1,2,5,6] Tryz.func288 ?_;refine cV ?_;refine gM fun r5 h5=> ?_;intros
 refine cI ?_;by_cases hl:(l.length:Int)≤most
 ·have hE:cD l most p= !(l.any fun x=> !p x):=by unfold cD;rw[decide_eq_true hl,List.any_eq_not_all_not];simp
  have hd:decide ((l.length:Int)≤most)=true:=by simpa using hl
  refine oJ ?_;rw[hd];refine sR ?_;refine cw [(r5,.box 325 [.fn (.func f) [] []])] Tryz.call310 (aDQ (aF6 hp r5) l hok) rfl aB aA ?_;rintro _ σ' ⟨rfl,rfl⟩ h14;refine BP ?_;exact aE aF ⟨by rw[hE];rfl,rfl⟩ aA
 ·have hE:cD l most p=false:=by unfold cD;rw[decide_eq_false hl];rfl
  have hd:decide ((l.length:Int)≤most)=false:=by simpa using hl
  refine oJ ?_;rw[hd];refine gA ?_;refine xK ?_;refine tD ?_;exact aE aF ⟨by rw[hE];rfl,rfl⟩ aA
theorem aDS{f:FuncId}{caps:List AV}{σ:cR}{p:Im→Bool}{ok:Im→Prop}(hp:bK Tryz.prog f caps σ (fun x=>.agg (eE x)) p ok)(l:List Im)(hok:∀x∈l,ok x):SCall Tryz.prog 204 [.ro 3 (l.map eE) .any,.fn (.func f) [] caps] σ (fun x σ'=>∃m:Int,x=.int .i64 m∧decide (0≤m)=l.any p∧σ'=σ):=by
 refine bO 19 [0,1,4,5,7,8,9,16] Tryz.func204 ?_;refine fN (i:=0) rfl fun hm=> ?_
 rw[List.length_map]at hm;unfold maxLen at hm;refine oL ?_;refine lp (β:=Nat) (fun j=>⟨[(0,.ro 3 (l.map eE) .any),(1,.fn (.func f) [] caps),(7,.int .i64 l.length),(8,.int .i64 j)],σ⟩) (fun j=>j≤l.length∧(l.take j).any p=false) (fun j=>l.length-j) 0 ?_ ⟨Nat.zero_le _,rfl⟩ ?_
 ·exact aN
 rintro j ⟨hj,ht⟩;refine eV ?_;refine aC rfl (fun h1=> ?_) (fun h1=> ?_)
 ·have hlt:j<l.length:=by simp at h1;omega
  obtain⟨x,hx⟩:∃x,l[j]? =some x:=⟨_,List.getElem?_eq_getElem hlt⟩
  refine pV ?_;refine xH ?_;refine mO σ rfl hp.1 (hp.2 x (hok x (List.mem_of_getElem? hx))) rfl ?_ ?_ ?_
  ·exact aB
  ·exact fun _ h=>h
  rintro r σ' ⟨rfl,rfl⟩-;rw[cX,List.append_nil];refine gQ ?_;refine aC rfl (fun h2=> ?_) (fun h2=> ?_)
  ·refine eK ?_;apply aE;exact aF
   ·refine⟨j,rfl, ?_,rfl⟩;rw[decide_eq_true (by omega)];exact(List.any_eq_true.2 ⟨x,List.mem_of_getElem? hx,h2⟩).symm
   ·exact aA
  ·refine gS ?_;refine⟨j+1,⟨by omega, ?_⟩,by omega, ?_⟩
   ·rw[List.take_add_one,hx,List.any_append,ht];simp[h2]
   ·exact aN
 ·refine bV ?_;apply aE;exact aF
  ·simp at h1;rw[List.take_of_length_le (by omega)]at ht;exact⟨-1,rfl,by rw[ht];rfl,rfl⟩
  ·exact aA
theorem XE{f:FuncId}{caps:List AV}{σ:cR}{p:Im→Bool}{ok:Im→Prop}(hp:bK Tryz.prog f caps σ (fun x=>.agg (eE x)) p ok)(l:List Im)(hok:∀x∈l,ok x):SCall Tryz.prog 87 [.ro 3 (l.map eE) .any,.fn (.func f) [] caps] σ (fun x σ'=>x=.bool (l.any p)∧σ'=σ):=by
 refine bO 9 [0,1,4] Tryz.func87 ?_;refine jF ?_;refine cw σ Tryz.call204 (aDS hp l hok) rfl ?_ ?_ ?_
 ·exact aB
 ·exact fun _ h=>h
 rintro x σ' ⟨m,rfl,hm,rfl⟩-;rw[cX,List.append_nil];refine uD ?_;exact aE aF ⟨by simp only[dU];rw[←hm],rfl⟩ aA
theorem aF7{f:FuncId}{p:Im→Bool}{ok:Im→Prop}(hp:bK Tryz.prog f [] [] (fun x=>.agg (eE x)) p ok)(r:Nat):bK Tryz.prog 287 [.ptr r 0] [(r,.box 148 [.fn (.func f) [] []])] (fun x=>.agg (eE x)) (fun x=> !p x) ok:=by
  refine⟨Tryz.call287,fun x hx=> ?_⟩;refine bO 8 [0,1,2,3] Tryz.func287 ?_;refine cV ?_;refine gM fun r2 h2=> ?_;intros
  refine lL ?_;refine qE ?_;refine jN ?_;refine mO [] rfl hp.1 (hp.2 x hx) rfl aB aA ?_;rintro _ σ' ⟨rfl,rfl⟩ h6;refine sI ?_;refine cI ?_;exact aE aF ⟨by rfl,rfl⟩ aA
theorem aDT{f:FuncId}{p:Im→Bool}{ok:Im→Prop}(hp:bK Tryz.prog f [] [] (fun x=>.agg (eE x)) p ok)(l:List Im)(hok:∀x∈l,ok x)(most:Int):SCall Tryz.prog 223 [.ro 3 (l.map eE) .any,.int .i64 most,.fn (.func f) [] []] [] (fun x σ'=>x=.bool (cD l most p)∧σ'=[]):=by
 refine bO 17 [0,1,2,5,6] Tryz.func223 ?_;refine cV ?_;refine gM fun r5 h5=> ?_;intros
 refine cI ?_;by_cases hl:(l.length:Int)≤most
 ·have hE:cD l most p= !(l.any fun x=> !p x):=by unfold cD;rw[decide_eq_true hl,List.any_eq_not_all_not];simp
  have hd:decide ((l.length:Int)≤most)=true:=by simpa using hl
  refine oJ ?_;rw[hd];refine sR ?_;refine cw [(r5,.box 148 [.fn (.func f) [] []])] Tryz.call87 (XE (aF7 hp r5) l hok) rfl aB aA ?_;rintro _ σ' ⟨rfl,rfl⟩ h14;refine BP ?_;exact aE aF ⟨by rw[hE];rfl,rfl⟩ aA
 ·have hE:cD l most p=false:=by unfold cD;rw[decide_eq_false hl];rfl
  have hd:decide ((l.length:Int)≤most)=false:=by simpa using hl
  refine oJ ?_;rw[hd];refine gA ?_;refine xK ?_;refine tD ?_;exact aE aF ⟨by rw[hE];rfl,rfl⟩ aA
theorem aDU{f:FuncId}{caps:List AV}{σ:cR}{p:Gl→Bool}{ok:Gl→Prop}(hp:bK Tryz.prog f caps σ (fun x=>.agg (eF x)) p ok)(l:List Gl)(hok:∀x∈l,ok x):SCall Tryz.prog 312 [.ro 3 (l.map eF) .any,.fn (.func f) [] caps] σ (fun x σ'=>∃m:Int,x=.int .i64 m∧decide (0≤m)=l.any p∧σ'=σ):=by
 refine bO 19 [0,1,4,5,7,8,9,16] Tryz.func312 ?_;refine fN (i:=0) rfl fun hm=> ?_
 rw[List.length_map]at hm;unfold maxLen at hm;refine oL ?_;refine lp (β:=Nat) (fun j=>⟨[(0,.ro 3 (l.map eF) .any),(1,.fn (.func f) [] caps),(7,.int .i64 l.length),(8,.int .i64 j)],σ⟩) (fun j=>j≤l.length∧(l.take j).any p=false) (fun j=>l.length-j) 0 ?_ ⟨Nat.zero_le _,rfl⟩ ?_
 ·exact aN
 rintro j ⟨hj,ht⟩;refine eV ?_;refine aC rfl (fun h1=> ?_) (fun h1=> ?_)
 ·have hlt:j<l.length:=by simp at h1;omega
  obtain⟨x,hx⟩:∃x,l[j]? =some x:=⟨_,List.getElem?_eq_getElem hlt⟩
  refine pV ?_;refine xH ?_;refine mO σ rfl hp.1 (hp.2 x (hok x (List.mem_of_getElem? hx))) rfl ?_ ?_ ?_
  ·exact aB
  ·exact fun _ h=>h
  rintro r σ' ⟨rfl,rfl⟩-;rw[cX,List.append_nil];refine gQ ?_;refine aC rfl (fun h2=> ?_) (fun h2=> ?_)
  ·refine eK ?_;apply aE;exact aF
   ·refine⟨j,rfl, ?_,rfl⟩;rw[decide_eq_true (by omega)];exact(List.any_eq_true.2 ⟨x,List.mem_of_getElem? hx,h2⟩).symm
   ·exact aA
  ·refine gS ?_;refine⟨j+1,⟨by omega, ?_⟩,by omega, ?_⟩
   ·rw[List.take_add_one,hx,List.any_append,ht];simp[h2]
   ·exact aN
 ·refine bV ?_;apply aE;exact aF
  ·simp at h1;rw[List.take_of_length_le (by omega)]at ht;exact⟨-1,rfl,by rw[ht];rfl,rfl⟩
  ·exact aA
theorem aDV{f:FuncId}{caps:List AV}{σ:cR}{p:Gl→Bool}{ok:Gl→Prop}(hp:bK Tryz.prog f caps σ (fun x=>.agg (eF x)) p ok)(l:List Gl)(hok:∀x∈l,ok x):SCall Tryz.prog 290 [.ro 3 (l.map eF) .any,.fn (.func f) [] caps] σ (fun x σ'=>x=.bool (l.any p)∧σ'=σ):=by
 refine bO 9 [0,1,4] Tryz.func290 ?_;refine jF ?_;refine cw σ Tryz.call312 (aDU hp l hok) rfl ?_ ?_ ?_
 ·exact aB
 ·exact fun _ h=>h
 rintro x σ' ⟨m,rfl,hm,rfl⟩-;rw[cX,List.append_nil];refine uD ?_;exact aE aF ⟨by simp only[dU];rw[←hm],rfl⟩ aA
theorem aF8{f:FuncId}{p:Gl→Bool}{ok:Gl→Prop}(hp:bK Tryz.prog f [] [] (fun x=>.agg (eF x)) p ok)(r:Nat):bK Tryz.prog 291 [.ptr r 0] [(r,.box 280 [.fn (.func f) [] []])] (fun x=>.agg (eF x)) (fun x=> !p x) ok:=by
  refine⟨Tryz.call291,fun x hx=> ?_⟩;refine bO 8 [0,1,2,3] Tryz.func291 ?_;refine cV ?_;refine gM fun r2 h2=> ?_;intros
  refine lL ?_;refine qE ?_;refine jN ?_;refine mO [] rfl hp.1 (hp.2 x hx) rfl aB aA ?_;rintro _ σ' ⟨rfl,rfl⟩ h6;refine sI ?_;refine cI ?_;exact aE aF ⟨by rfl,rfl⟩ aA
theorem aDW{f:FuncId}{p:Gl→Bool}{ok:Gl→Prop}(hp:bK Tryz.prog f [] [] (fun x=>.agg (eF x)) p ok)(l:List Gl)(hok:∀x∈l,ok x)(most:Int):SCall Tryz.prog 227 [.ro 3 (l.map eF) .any,.int .i64 most,.fn (.func f) [] []] [] (fun x σ'=>x=.bool (cD l most p)∧σ'=[]):=by
 refine bO 17 [0,1,2,5,6] Tryz.func227 ?_;refine cV ?_;refine gM fun r5 h5=> ?_;intros
 refine cI ?_;by_cases hl:(l.length:Int)≤most
 ·have hE:cD l most p= !(l.any fun x=> !p x):=by unfold cD;rw[decide_eq_true hl,List.any_eq_not_all_not];simp
  have hd:decide ((l.length:Int)≤most)=true:=by simpa using hl
  refine oJ ?_;rw[hd];refine sR ?_;refine cw [(r5,.box 280 [.fn (.func f) [] []])] Tryz.call290 (aDV (aF8 hp r5) l hok) rfl aB aA ?_;rintro _ σ' ⟨rfl,rfl⟩ h14;refine BP ?_;exact aE aF ⟨by rw[hE];rfl,rfl⟩ aA
 ·have hE:cD l most p=false:=by unfold cD;rw[decide_eq_false hl];rfl
  have hd:decide ((l.length:Int)≤most)=false:=by simpa using hl
  refine oJ ?_;rw[hd];refine gA ?_;refine xK ?_;refine tD ?_;exact aE aF ⟨by rw[hE];rfl,rfl⟩ aA
theorem aDX{f:FuncId}{caps:List AV}{σ:cR}{p:Ex→Bool}{ok:Ex→Prop}(hp:bK Tryz.prog f caps σ (fun x=>.agg (dJ x)) p ok)(l:List Ex)(hok:∀x∈l,ok x):SCall Tryz.prog 203 [.ro 2 (l.map dJ) .any,.fn (.func f) [] caps] σ (fun x σ'=>∃m:Int,x=.int .i64 m∧decide (0≤m)=l.any p∧σ'=σ):=by
 refine bO 19 [0,1,4,5,7,8,9,16] Tryz.func203 ?_;refine fN (i:=0) rfl fun hm=> ?_
 rw[List.length_map]at hm;unfold maxLen at hm;refine oL ?_;refine lp (β:=Nat) (fun j=>⟨[(0,.ro 2 (l.map dJ) .any),(1,.fn (.func f) [] caps),(7,.int .i64 l.length),(8,.int .i64 j)],σ⟩) (fun j=>j≤l.length∧(l.take j).any p=false) (fun j=>l.length-j) 0 ?_ ⟨Nat.zero_le _,rfl⟩ ?_
 ·exact aN
 rintro j ⟨hj,ht⟩;refine eV ?_;refine aC rfl (fun h1=> ?_) (fun h1=> ?_)
 ·have hlt:j<l.length:=by simp at h1;omega
  obtain⟨x,hx⟩:∃x,l[j]? =some x:=⟨_,List.getElem?_eq_getElem hlt⟩
  refine pV ?_;refine xH ?_;refine mO σ rfl hp.1 (hp.2 x (hok x (List.mem_of_getElem? hx))) rfl ?_ ?_ ?_
  ·exact aB
  ·exact fun _ h=>h
  rintro r σ' ⟨rfl,rfl⟩-;rw[cX,List.append_nil];refine gQ ?_;refine aC rfl (fun h2=> ?_) (fun h2=> ?_)
  ·refine eK ?_;apply aE;exact aF
   ·refine⟨j,rfl, ?_,rfl⟩;rw[decide_eq_true (by omega)];exact(List.any_eq_true.2 ⟨x,List.mem_of_getElem? hx,h2⟩).symm
   ·exact aA
  ·refine gS ?_;refine⟨j+1,⟨by omega, ?_⟩,by omega, ?_⟩
   ·rw[List.take_add_one,hx,List.any_append,ht];simp[h2]
   ·exact aN
 ·refine bV ?_;apply aE;exact aF
  ·simp at h1;rw[List.take_of_length_le (by omega)]at ht;exact⟨-1,rfl,by rw[ht];rfl,rfl⟩
  ·exact aA
theorem XF{f:FuncId}{caps:List AV}{σ:cR}{p:Ex→Bool}{ok:Ex→Prop}(hp:bK Tryz.prog f caps σ (fun x=>.agg (dJ x)) p ok)(l:List Ex)(hok:∀x∈l,ok x):SCall Tryz.prog 85 [.ro 2 (l.map dJ) .any,.fn (.func f) [] caps] σ (fun x σ'=>x=.bool (l.any p)∧σ'=σ):=by
 refine bO 9 [0,1,4] Tryz.func85 ?_;refine jF ?_;refine cw σ Tryz.call203 (aDX hp l hok) rfl ?_ ?_ ?_
 ·exact aB
 ·exact fun _ h=>h
 rintro x σ' ⟨m,rfl,hm,rfl⟩-;rw[cX,List.append_nil];refine uD ?_;exact aE aF ⟨by simp only[dU];rw[←hm],rfl⟩ aA
theorem aF9{f:FuncId}{p:Ex→Bool}{ok:Ex→Prop}(hp:bK Tryz.prog f [] [] (fun x=>.agg (dJ x)) p ok)(r:Nat):bK Tryz.prog 292 [.ptr r 0] [(r,.box 146 [.fn (.func f) [] []])] (fun x=>.agg (dJ x)) (fun x=> !p x) ok:=by
  refine⟨Tryz.call292,fun x hx=> ?_⟩;refine bO 8 [0,1,2,3] Tryz.func292 ?_;refine cV ?_;refine gM fun r2 h2=> ?_;intros
  refine lL ?_;refine qE ?_;refine jN ?_;refine mO [] rfl hp.1 (hp.2 x hx) rfl aB aA ?_;rintro _ σ' ⟨rfl,rfl⟩ h6;refine sI ?_;refine cI ?_;exact aE aF ⟨by rfl,rfl⟩ aA
theorem aDY{f:FuncId}{p:Ex→Bool}{ok:Ex→Prop}(hp:bK Tryz.prog f [] [] (fun x=>.agg (dJ x)) p ok)(l:List Ex)(hok:∀x∈l,ok x)(most:Int):SCall Tryz.prog 230 [.ro 2 (l.map dJ) .any,.int .i64 most,.fn (.func f) [] []] [] (fun x σ'=>x=.bool (cD l most p)∧σ'=[]):=by
 refine bO 17 [0,1,2,5,6] Tryz.func230 ?_;refine cV ?_;refine gM fun r5 h5=> ?_;intros
 refine cI ?_;by_cases hl:(l.length:Int)≤most
 ·have hE:cD l most p= !(l.any fun x=> !p x):=by unfold cD;rw[decide_eq_true hl,List.any_eq_not_all_not];simp
  have hd:decide ((l.length:Int)≤most)=true:=by simpa using hl
  refine oJ ?_;rw[hd];refine sR ?_;refine cw [(r5,.box 146 [.fn (.func f) [] []])] Tryz.call85 (XF (aF9 hp r5) l hok) rfl aB aA ?_;rintro _ σ' ⟨rfl,rfl⟩ h14;refine BP ?_;exact aE aF ⟨by rw[hE];rfl,rfl⟩ aA
 ·have hE:cD l most p=false:=by unfold cD;rw[decide_eq_false hl];rfl
  have hd:decide ((l.length:Int)≤most)=false:=by simpa using hl
  refine oJ ?_;rw[hd];refine gA ?_;refine xK ?_;refine tD ?_;exact aE aF ⟨by rw[hE];rfl,rfl⟩ aA
theorem aDZ{f:FuncId}{caps:List AV}{σ:cR}{p:El→Bool}{ok:El→Prop}(hp:bK Tryz.prog f caps σ (fun x=>.agg (dV x)) p ok)(l:List El)(hok:∀x∈l,ok x):SCall Tryz.prog 206 [.ro 2 (l.map dV) .any,.fn (.func f) [] caps] σ (fun x σ'=>∃m:Int,x=.int .i64 m∧decide (0≤m)=l.any p∧σ'=σ):=by
 refine bO 19 [0,1,4,5,7,8,9,16] Tryz.func206 ?_;refine fN (i:=0) rfl fun hm=> ?_
 rw[List.length_map]at hm;unfold maxLen at hm;refine oL ?_;refine lp (β:=Nat) (fun j=>⟨[(0,.ro 2 (l.map dV) .any),(1,.fn (.func f) [] caps),(7,.int .i64 l.length),(8,.int .i64 j)],σ⟩) (fun j=>j≤l.length∧(l.take j).any p=false) (fun j=>l.length-j) 0 ?_ ⟨Nat.zero_le _,rfl⟩ ?_
 ·exact aN
 rintro j ⟨hj,ht⟩;refine eV ?_;refine aC rfl (fun h1=> ?_) (fun h1=> ?_)
 ·have hlt:j<l.length:=by simp at h1;omega
  obtain⟨x,hx⟩:∃x,l[j]? =some x:=⟨_,List.getElem?_eq_getElem hlt⟩
  refine pV ?_;refine xH ?_;refine mO σ rfl hp.1 (hp.2 x (hok x (List.mem_of_getElem? hx))) rfl ?_ ?_ ?_
  ·exact aB
  ·exact fun _ h=>h
  rintro r σ' ⟨rfl,rfl⟩-;rw[cX,List.append_nil];refine gQ ?_;refine aC rfl (fun h2=> ?_) (fun h2=> ?_)
  ·refine eK ?_;apply aE;exact aF
   ·refine⟨j,rfl, ?_,rfl⟩;rw[decide_eq_true (by omega)];exact(List.any_eq_true.2 ⟨x,List.mem_of_getElem? hx,h2⟩).symm
   ·exact aA
  ·refine gS ?_;refine⟨j+1,⟨by omega, ?_⟩,by omega, ?_⟩
   ·rw[List.take_add_one,hx,List.any_append,ht];simp[h2]
   ·exact aN
 ·refine bV ?_;apply aE;exact aF
  ·simp at h1;rw[List.take_of_length_le (by omega)]at ht;exact⟨-1,rfl,by rw[ht];rfl,rfl⟩
  ·exact aA
theorem XG{f:FuncId}{caps:List AV}{σ:cR}{p:El→Bool}{ok:El→Prop}(hp:bK Tryz.prog f caps σ (fun x=>.agg (dV x)) p ok)(l:List El)(hok:∀x∈l,ok x):SCall Tryz.prog 91 [.ro 2 (l.map dV) .any,.fn (.func f) [] caps] σ (fun x σ'=>x=.bool (l.any p)∧σ'=σ):=by
 refine bO 9 [0,1,4] Tryz.func91 ?_;refine jF ?_;refine cw σ Tryz.call206 (aDZ hp l hok) rfl ?_ ?_ ?_
 ·exact aB
 ·exact fun _ h=>h
 rintro x σ' ⟨m,rfl,hm,rfl⟩-;rw[cX,List.append_nil];refine uD ?_;exact aE aF ⟨by simp only[dU];rw[←hm],rfl⟩ aA
theorem aGa{f:FuncId}{p:El→Bool}{ok:El→Prop}(hp:bK Tryz.prog f [] [] (fun x=>.agg (dV x)) p ok)(r:Nat):bK Tryz.prog 293 [.ptr r 0] [(r,.box 152 [.fn (.func f) [] []])] (fun x=>.agg (dV x)) (fun x=> !p x) ok:=by
  refine⟨Tryz.call293,fun x hx=> ?_⟩;refine bO 8 [0,1,2,3] Tryz.func293 ?_;refine cV ?_;refine gM fun r2 h2=> ?_;intros
  refine lL ?_;refine qE ?_;refine jN ?_;refine mO [] rfl hp.1 (hp.2 x hx) rfl aB aA ?_;rintro _ σ' ⟨rfl,rfl⟩ h6;refine sI ?_;refine cI ?_;exact aE aF ⟨by rfl,rfl⟩ aA
theorem aD0{f:FuncId}{p:El→Bool}{ok:El→Prop}(hp:bK Tryz.prog f [] [] (fun x=>.agg (dV x)) p ok)(l:List El)(hok:∀x∈l,ok x)(most:Int):SCall Tryz.prog 232 [.ro 2 (l.map dV) .any,.int .i64 most,.fn (.func f) [] []] [] (fun x σ'=>x=.bool (cD l most p)∧σ'=[]):=by
 refine bO 17 [0,1,2,5,6] Tryz.func232 ?_;refine cV ?_;refine gM fun r5 h5=> ?_;intros
 refine cI ?_;by_cases hl:(l.length:Int)≤most
 ·have hE:cD l most p= !(l.any fun x=> !p x):=by unfold cD;rw[decide_eq_true hl,List.any_eq_not_all_not];simp
  have hd:decide ((l.length:Int)≤most)=true:=by simpa using hl
  refine oJ ?_;rw[hd];refine sR ?_;refine cw [(r5,.box 152 [.fn (.func f) [] []])] Tryz.call91 (XG (aGa hp r5) l hok) rfl aB aA ?_;rintro _ σ' ⟨rfl,rfl⟩ h14;refine BP ?_;exact aE aF ⟨by rw[hE];rfl,rfl⟩ aA
 ·have hE:cD l most p=false:=by unfold cD;rw[decide_eq_false hl];rfl
  have hd:decide ((l.length:Int)≤most)=false:=by simpa using hl
  refine oJ ?_;rw[hd];refine gA ?_;refine xK ?_;refine tD ?_;exact aE aF ⟨by rw[hE];rfl,rfl⟩ aA
theorem aD1{f:FuncId}{caps:List AV}{σ:cR}{p:Co→Bool}{ok:Co→Prop}(hp:bK Tryz.prog f caps σ (fun x=>.agg (cZ x)) p ok)(l:List Co)(hok:∀x∈l,ok x):SCall Tryz.prog 283 [.ro 2 (l.map cZ) .any,.fn (.func f) [] caps] σ (fun x σ'=>∃m:Int,x=.int .i64 m∧decide (0≤m)=l.any p∧σ'=σ):=by
 refine bO 19 [0,1,4,5,7,8,9,16] Tryz.func283 ?_;refine fN (i:=0) rfl fun hm=> ?_
 rw[List.length_map]at hm;unfold maxLen at hm;refine oL ?_;refine lp (β:=Nat) (fun j=>⟨[(0,.ro 2 (l.map cZ) .any),(1,.fn (.func f) [] caps),(7,.int .i64 l.length),(8,.int .i64 j)],σ⟩) (fun j=>j≤l.length∧(l.take j).any p=false) (fun j=>l.length-j) 0 ?_ ⟨Nat.zero_le _,rfl⟩ ?_
 ·exact aN
 rintro j ⟨hj,ht⟩;refine eV ?_;refine aC rfl (fun h1=> ?_) (fun h1=> ?_)
 ·have hlt:j<l.length:=by simp at h1;omega
  obtain⟨x,hx⟩:∃x,l[j]? =some x:=⟨_,List.getElem?_eq_getElem hlt⟩
  refine pV ?_;refine xH ?_;refine mO σ rfl hp.1 (hp.2 x (hok x (List.mem_of_getElem? hx))) rfl ?_ ?_ ?_
  ·exact aB
  ·exact fun _ h=>h
  rintro r σ' ⟨rfl,rfl⟩-;rw[cX,List.append_nil];refine gQ ?_;refine aC rfl (fun h2=> ?_) (fun h2=> ?_)
  ·refine eK ?_;apply aE;exact aF
   ·refine⟨j,rfl, ?_,rfl⟩;rw[decide_eq_true (by omega)];exact(List.any_eq_true.2 ⟨x,List.mem_of_getElem? hx,h2⟩).symm
   ·exact aA
  ·refine gS ?_;refine⟨j+1,⟨by omega, ?_⟩,by omega, ?_⟩
   ·rw[List.take_add_one,hx,List.any_append,ht];simp[h2]
   ·exact aN
 ·refine bV ?_;apply aE;exact aF
  ·simp at h1;rw[List.take_of_length_le (by omega)]at ht;exact⟨-1,rfl,by rw[ht];rfl,rfl⟩
  ·exact aA
theorem aD2{f:FuncId}{caps:List AV}{σ:cR}{p:Co→Bool}{ok:Co→Prop}(hp:bK Tryz.prog f caps σ (fun x=>.agg (cZ x)) p ok)(l:List Co)(hok:∀x∈l,ok x):SCall Tryz.prog 212 [.ro 2 (l.map cZ) .any,.fn (.func f) [] caps] σ (fun x σ'=>x=.bool (l.any p)∧σ'=σ):=by
 refine bO 9 [0,1,4] Tryz.func212 ?_;refine jF ?_;refine cw σ Tryz.call283 (aD1 hp l hok) rfl ?_ ?_ ?_
 ·exact aB
 ·exact fun _ h=>h
 rintro x σ' ⟨m,rfl,hm,rfl⟩-;rw[cX,List.append_nil];refine uD ?_;exact aE aF ⟨by simp only[dU];rw[←hm],rfl⟩ aA
theorem aGb{f:FuncId}{p:Co→Bool}{ok:Co→Prop}(hp:bK Tryz.prog f [] [] (fun x=>.agg (cZ x)) p ok)(r:Nat):bK Tryz.prog 213 [.ptr r 0] [(r,.box 182 [.fn (.func f) [] []])] (fun x=>.agg (cZ x)) (fun x=> !p x) ok:=by
  refine⟨Tryz.call213,fun x hx=> ?_⟩;refine bO 8 [0,1,2,3] Tryz.func213 ?_;refine cV ?_;refine gM fun r2 h2=> ?_;intros
  refine lL ?_;refine qE ?_;refine jN ?_;refine mO [] rfl hp.1 (hp.2 x hx) rfl aB aA ?_;rintro _ σ' ⟨rfl,rfl⟩ h6;refine sI ?_;refine cI ?_;exact aE aF ⟨by rfl,rfl⟩ aA
theorem aD3{f:FuncId}{p:Co→Bool}{ok:Co→Prop}(hp:bK Tryz.prog f [] [] (fun x=>.agg (cZ x)) p ok)(l:List Co)(hok:∀x∈l,ok x)(most:Int):SCall Tryz.prog 106 [.ro 2 (l.map cZ) .any,.int .i64 most,.fn (.func f) [] []] [] (fun x σ'=>x=.bool (cD l most p)∧σ'=[]):=by
 refine bO 17 [0,1,2,5,6] Tryz.func106 ?_;refine cV ?_;refine gM fun r5 h5=> ?_;intros
 refine cI ?_;by_cases hl:(l.length:Int)≤most
 ·have hE:cD l most p= !(l.any fun x=> !p x):=by unfold cD;rw[decide_eq_true hl,List.any_eq_not_all_not];simp
  have hd:decide ((l.length:Int)≤most)=true:=by simpa using hl
  refine oJ ?_;rw[hd];refine sR ?_;refine cw [(r5,.box 182 [.fn (.func f) [] []])] Tryz.call212 (aD2 (aGb hp r5) l hok) rfl aB aA ?_;rintro _ σ' ⟨rfl,rfl⟩ h14;refine BP ?_;exact aE aF ⟨by rw[hE];rfl,rfl⟩ aA
 ·have hE:cD l most p=false:=by unfold cD;rw[decide_eq_false hl];rfl
  have hd:decide ((l.length:Int)≤most)=false:=by simpa using hl
  refine oJ ?_;rw[hd];refine gA ?_;refine xK ?_;refine tD ?_;exact aE aF ⟨by rw[hE];rfl,rfl⟩ aA
theorem aD4{f:FuncId}{caps:List AV}{σ:cR}{p:Da→Bool}{ok:Da→Prop}(hp:bK Tryz.prog f caps σ (fun x=>.agg (dW x)) p ok)(l:List Da)(hok:∀x∈l,ok x):SCall Tryz.prog 313 [.ro 2 (l.map dW) .any,.fn (.func f) [] caps] σ (fun x σ'=>∃m:Int,x=.int .i64 m∧decide (0≤m)=l.any p∧σ'=σ):=by
 refine bO 19 [0,1,4,5,7,8,9,16] Tryz.func313 ?_;refine fN (i:=0) rfl fun hm=> ?_
 rw[List.length_map]at hm;unfold maxLen at hm;refine oL ?_;refine lp (β:=Nat) (fun j=>⟨[(0,.ro 2 (l.map dW) .any),(1,.fn (.func f) [] caps),(7,.int .i64 l.length),(8,.int .i64 j)],σ⟩) (fun j=>j≤l.length∧(l.take j).any p=false) (fun j=>l.length-j) 0 ?_ ⟨Nat.zero_le _,rfl⟩ ?_
 ·exact aN
 rintro j ⟨hj,ht⟩;refine eV ?_;refine aC rfl (fun h1=> ?_) (fun h1=> ?_)
 ·have hlt:j<l.length:=by simp at h1;omega
  obtain⟨x,hx⟩:∃x,l[j]? =some x:=⟨_,List.getElem?_eq_getElem hlt⟩
  refine pV ?_;refine xH ?_;refine mO σ rfl hp.1 (hp.2 x (hok x (List.mem_of_getElem? hx))) rfl ?_ ?_ ?_
  ·exact aB
  ·exact fun _ h=>h
  rintro r σ' ⟨rfl,rfl⟩-;rw[cX,List.append_nil];refine gQ ?_;refine aC rfl (fun h2=> ?_) (fun h2=> ?_)
  ·refine eK ?_;apply aE;exact aF
   ·refine⟨j,rfl, ?_,rfl⟩;rw[decide_eq_true (by omega)];exact(List.any_eq_true.2 ⟨x,List.mem_of_getElem? hx,h2⟩).symm
   ·exact aA
  ·refine gS ?_;refine⟨j+1,⟨by omega, ?_⟩,by omega, ?_⟩
   ·rw[List.take_add_one,hx,List.any_append,ht];simp[h2]
   ·exact aN
 ·refine bV ?_;apply aE;exact aF
  ·simp at h1;rw[List.take_of_length_le (by omega)]at ht;exact⟨-1,rfl,by rw[ht];rfl,rfl⟩
  ·exact aA
theorem aD5{f:FuncId}{caps:List AV}{σ:cR}{p:Da→Bool}{ok:Da→Prop}(hp:bK Tryz.prog f caps σ (fun x=>.agg (dW x)) p ok)(l:List Da)(hok:∀x∈l,ok x):SCall Tryz.prog 294 [.ro 2 (l.map dW) .any,.fn (.func f) [] caps] σ (fun x σ'=>x=.bool (l.any p)∧σ'=σ):=by
 refine bO 9 [0,1,4] Tryz.func294 ?_;refine jF ?_;refine cw σ Tryz.call313 (aD4 hp l hok) rfl ?_ ?_ ?_
 ·exact aB
 ·exact fun _ h=>h
 rintro x σ' ⟨m,rfl,hm,rfl⟩-;rw[cX,List.append_nil];refine uD ?_;exact aE aF ⟨by simp only[dU];rw[←hm],rfl⟩ aA
theorem aGc{f:FuncId}{p:Da→Bool}{ok:Da→Prop}(hp:bK Tryz.prog f [] [] (fun x=>.agg (dW x)) p ok)(r:Nat):bK Tryz.prog 295 [.ptr r 0] [(r,.box 284 [.fn (.func f) [] []])] (fun x=>.agg (dW x)) (fun x=> !p x) ok:=by
  refine⟨Tryz.call295,fun x hx=> ?_⟩;refine bO 8 [0,1,2,3] Tryz.func295 ?_;refine cV ?_;refine gM fun r2 h2=> ?_;intros
  refine lL ?_;refine qE ?_;refine jN ?_;refine mO [] rfl hp.1 (hp.2 x hx) rfl aB aA ?_;rintro _ σ' ⟨rfl,rfl⟩ h6;refine sI ?_;refine cI ?_;exact aE aF ⟨by rfl,rfl⟩ aA
theorem aD6{f:FuncId}{p:Da→Bool}{ok:Da→Prop}(hp:bK Tryz.prog f [] [] (fun x=>.agg (dW x)) p ok)(l:List Da)(hok:∀x∈l,ok x)(most:Int):SCall Tryz.prog 235 [.ro 2 (l.map dW) .any,.int .i64 most,.fn (.func f) [] []] [] (fun x σ'=>x=.bool (cD l most p)∧σ'=[]):=by
 refine bO 17 [0,1,2,5,6] Tryz.func235 ?_;refine cV ?_;refine gM fun r5 h5=> ?_;intros
 refine cI ?_;by_cases hl:(l.length:Int)≤most
 ·have hE:cD l most p= !(l.any fun x=> !p x):=by unfold cD;rw[decide_eq_true hl,List.any_eq_not_all_not];simp
  have hd:decide ((l.length:Int)≤most)=true:=by simpa using hl
  refine oJ ?_;rw[hd];refine sR ?_;refine cw [(r5,.box 284 [.fn (.func f) [] []])] Tryz.call294 (aD5 (aGc hp r5) l hok) rfl aB aA ?_;rintro _ σ' ⟨rfl,rfl⟩ h14;refine BP ?_;exact aE aF ⟨by rw[hE];rfl,rfl⟩ aA
 ·have hE:cD l most p=false:=by unfold cD;rw[decide_eq_false hl];rfl
  have hd:decide ((l.length:Int)≤most)=false:=by simpa using hl
  refine oJ ?_;rw[hd];refine gA ?_;refine xK ?_;refine tD ?_;exact aE aF ⟨by rw[hE];rfl,rfl⟩ aA
theorem aAZ{f:FuncId}{caps:List AV}{σ:cR}{p:Ins→Bool}{ok:Ins→Prop}(hp:bK Tryz.prog f caps σ (fun x=>.agg (iv .any x)) p ok)(l:List Ins)(hok:∀x∈l,ok x):SCall Tryz.prog 284 [.ro 4 (l.map (iv .any)) .any,.fn (.func f) [] caps] σ (fun x σ'=>∃m:Int,x=.int .i64 m∧decide (0≤m)=l.any p∧σ'=σ):=by
 refine bO 19 [0,1,4,5,7,8,9,16] Tryz.func284 ?_;refine fN (i:=0) rfl fun hm=> ?_
 rw[List.length_map]at hm;unfold maxLen at hm;refine oL ?_;refine lp (β:=Nat) (fun j=>⟨[(0,.ro 4 (l.map (iv .any)) .any),(1,.fn (.func f) [] caps),(7,.int .i64 l.length),(8,.int .i64 j)],σ⟩) (fun j=>j≤l.length∧(l.take j).any p=false) (fun j=>l.length-j) 0 ?_ ⟨Nat.zero_le _,rfl⟩ ?_
 ·exact aN
 rintro j ⟨hj,ht⟩;refine eV ?_;refine aC rfl (fun h1=> ?_) (fun h1=> ?_)
 ·have hlt:j<l.length:=by simp at h1;omega
  obtain⟨x,hx⟩:∃x,l[j]? =some x:=⟨_,List.getElem?_eq_getElem hlt⟩
  refine pV ?_;refine xH ?_;refine mO σ rfl hp.1 (hp.2 x (hok x (List.mem_of_getElem? hx))) rfl ?_ ?_ ?_
  ·exact aB
  ·exact fun _ h=>h
  rintro r σ' ⟨rfl,rfl⟩-;rw[cX,List.append_nil];refine gQ ?_;refine aC rfl (fun h2=> ?_) (fun h2=> ?_)
  ·refine eK ?_;apply aE;exact aF
   ·refine⟨j,rfl, ?_,rfl⟩;rw[decide_eq_true (by omega)];exact(List.any_eq_true.2 ⟨x,List.mem_of_getElem? hx,h2⟩).symm
   ·exact aA
  ·refine gS ?_;refine⟨j+1,⟨by omega, ?_⟩,by omega, ?_⟩
   ·rw[List.take_add_one,hx,List.any_append,ht];simp[h2]
   ·exact aN
 ·refine bV ?_;apply aE;exact aF
  ·simp at h1;rw[List.take_of_length_le (by omega)]at ht;exact⟨-1,rfl,by rw[ht];rfl,rfl⟩
  ·exact aA
theorem aA0{f:FuncId}{caps:List AV}{σ:cR}{p:Ins→Bool}{ok:Ins→Prop}(hp:bK Tryz.prog f caps σ (fun x=>.agg (iv .any x)) p ok)(l:List Ins)(hok:∀x∈l,ok x):SCall Tryz.prog 215 [.ro 4 (l.map (iv .any)) .any,.fn (.func f) [] caps] σ (fun x σ'=>x=.bool (l.any p)∧σ'=σ):=by
 refine bO 9 [0,1,4] Tryz.func215 ?_;refine jF ?_;refine cw σ Tryz.call284 (aAZ hp l hok) rfl ?_ ?_ ?_
 ·exact aB
 ·exact fun _ h=>h
 rintro x σ' ⟨m,rfl,hm,rfl⟩-;rw[cX,List.append_nil];refine uD ?_;exact aE aF ⟨by simp only[dU];rw[←hm],rfl⟩ aA
theorem aD7{f:FuncId}{p:Ins→Bool}{ok:Ins→Prop}(hp:bK Tryz.prog f [] [] (fun x=>.agg (iv .any x)) p ok)(r:Nat):bK Tryz.prog 216 [.ptr r 0] [(r,.box 134 [.fn (.func f) [] []])] (fun x=>.agg (iv .any x)) (fun x=> !p x) ok:=by
  refine⟨Tryz.call216,fun x hx=> ?_⟩;refine bO 8 [0,1,2,3] Tryz.func216 ?_;refine cV ?_;refine gM fun r2 h2=> ?_;intros
  refine lL ?_;refine qE ?_;refine jN ?_;refine mO [] rfl hp.1 (hp.2 x hx) rfl aB aA ?_;rintro _ σ' ⟨rfl,rfl⟩ h6;refine sI ?_;refine cI ?_;exact aE aF ⟨by rfl,rfl⟩ aA
theorem aA1{f:FuncId}{p:Ins→Bool}{ok:Ins→Prop}(hp:bK Tryz.prog f [] [] (fun x=>.agg (iv .any x)) p ok)(l:List Ins)(hok:∀x∈l,ok x)(most:Int):SCall Tryz.prog 110 [.ro 4 (l.map (iv .any)) .any,.int .i64 most,.fn (.func f) [] []] [] (fun x σ'=>x=.bool (cD l most p)∧σ'=[]):=by
 refine bO 17 [0,1,2,5,6] Tryz.func110 ?_;refine cV ?_;refine gM fun r5 h5=> ?_;intros
 refine cI ?_;by_cases hl:(l.length:Int)≤most
 ·have hE:cD l most p= !(l.any fun x=> !p x):=by unfold cD;rw[decide_eq_true hl,List.any_eq_not_all_not];simp
  have hd:decide ((l.length:Int)≤most)=true:=by simpa using hl
  refine oJ ?_;rw[hd];refine sR ?_;refine cw [(r5,.box 134 [.fn (.func f) [] []])] Tryz.call215 (aA0 (aD7 hp r5) l hok) rfl aB aA ?_;rintro _ σ' ⟨rfl,rfl⟩ h14;refine BP ?_;exact aE aF ⟨by rw[hE];rfl,rfl⟩ aA
 ·have hE:cD l most p=false:=by unfold cD;rw[decide_eq_false hl];rfl
  have hd:decide ((l.length:Int)≤most)=false:=by simpa using hl
  refine oJ ?_;rw[hd];refine gA ?_;refine xK ?_;refine tD ?_;exact aE aF ⟨by rw[hE];rfl,rfl⟩ aA
end Go.Proofs.YtjpdadobblffmaaGreat
namespace Go.Proofs.YtjpdadobblffmaaGreat
open Go.RowKit Go.ChangeShapes Go.WideShapes Go.ChangeAt Go.Deep
attribute [local irreducible] SW RS RD eM dR
theorem GK:bK Tryz.prog 109 [] [] (fun n=>.int .i64 n) NO (fun _=>True):=by
 refine⟨Tryz.call109,fun k _=> ?_⟩;refine bO 9 [0,2] Tryz.func109 ?_;refine kM ?_;refine lo (bY (E rfl) (E rfl)) rfl ?_;refine gA ?_;refine lJ ?_;refine gK ?_;refine cI ?_;exact aE aF ⟨by rfl,rfl⟩ aA
theorem tT(n:Int):SCall Tryz.prog 226 [.int .i64 n] [] (fun r σ'=>r=.bool (jD n)∧σ'=[]):=by
 refine bO 9 [0,2] Tryz.func226 ?_;refine kM ?_;refine lo (eW (E rfl) (E rfl)) rfl ?_;refine gA ?_;refine NW ?_;refine iS ?_;exact aE aF ⟨by rfl,rfl⟩ aA
theorem LX:bK Tryz.prog 226 [] [] (fun n=>.int .i64 n) jD (fun _=>True):=⟨Tryz.call226,fun n _=>tT n⟩
theorem LY(n:Int):SCall Tryz.prog 234 [.int .i64 n] [] (fun r σ'=>r=.bool (iT n)∧σ'=[]):=by
 refine bO 9 [0,2] Tryz.func234 ?_;refine kM ?_;refine lo (eW (E rfl) (E rfl)) rfl ?_;refine gA ?_;refine NW ?_;refine iS ?_;exact aE aF ⟨by unfold iT;cases h:decide (-2147483648≤n)<;>simp_all [dU],rfl⟩ aA
def chN (c:Nat):Bool:=decide (32≤c)&&decide (c≤126)
theorem aA2:bK Tryz.prog 289 [] [] (fun(n:Nat)=>.int .u8 n) chN (fun _=>True):=by
 refine⟨Tryz.call289,fun k _=> ?_⟩;refine bO 9 [0,2] Tryz.func289 ?_;refine kM ?_;refine lo (eW (E rfl) (E rfl)) rfl ?_;refine gA ?_;refine NW ?_;refine iS ?_;exact aE aF ⟨by unfold chN;rw[show decide (32≤k)=decide ((32:Int)≤(k:Int))from decide_eq_decide.2 (by omega),show decide (k≤126)=decide ((k:Int)≤(126:Int))from decide_eq_decide.2 (by omega)];cases h:decide ((32:Int)≤(k:Int))<;>simp_all [dU],rfl⟩ aA
theorem nO(l:Li)(a c:Int):SCall Tryz.prog 113 [.agg (gG l),.int .i64 a,.int .i64 c] [] (fun r σ'=>r=.bool (nJ l a c)∧σ'=[]):=by
 obtain⟨has,mn,mx⟩:=l;refine bO 38 [0,1,2,3,6,9] Tryz.func113 ?_;unfold gG;refine cV ?_;refine gM fun r3 h3=> ?_;intros
 refine gT ?_;refine vQ ?_;refine aC rfl (fun g1=> ?_) (fun g1=> ?_)
 ·have hE:nJ ⟨has,mn,mx⟩ a c=if(mn==0)=true then(mx==0)else false:=by obtain rfl:has=false:=(by simpa using g1);unfold nJ;cases h:mn==0<;>simp_all
  refine kC ?_;refine DM ?_;refine lJ ?_;refine iS ?_;exact aE aF ⟨by rw[hE];rfl,rfl⟩ aA
 have hE:nJ ⟨has,mn,mx⟩ a c=if(if(if decide (0≤mn)=true then decide (mn≤a)else false)=true then decide (-1≤mx)else false)=true then decide (mx≤c)else false:=by obtain rfl:has=true:=(by simpa using g1);unfold nJ;rw[if_pos rfl];cases h:decide (0≤mn)<;>cases h2:decide (mn≤a)<;>cases h3:decide (-1≤mx)<;>rfl
 refine kC ?_;refine lo (eW (E rfl) (E rfl)) rfl ?_;refine kS ?_;refine eJ ?_;refine aCZ ?_;refine mT ?_;refine kS ?_;refine UZ ?_;refine mT ?_;refine kS ?_;refine eJ ?_;refine aCZ ?_;refine iS ?_;exact aE aF ⟨by rw[hE];rfl,rfl⟩ aA
theorem aCx(s:List Nat):vW s=if(!decide (s=[]))=true then cD s 16 chN else false:=by
 unfold vW cD chN;rcases s with _ |⟨x,s⟩
 ·rfl
 ·rw[if_pos (by simp),if_pos (by simp),show decide ((x::s).length≤16)=decide (((x::s).length:Int)≤16)from decide_eq_decide.2 (by omega)]
theorem wA(s:List Nat)(hs:s.length≤100000)(hlt:∀c∈s,c<256):SCall Tryz.prog 225 [.str (cU s)] [] (fun r σ'=>r=.bool (vW s)∧σ'=[]):=by
 have hz:((cU s).toList==(⟨#[]⟩:ByteArray).toList)=decide (s=[]):=mS (m:=[]) hlt (by simp);refine bO 10 [0,2] Tryz.func225 ?_;refine bV ?_;by_cases hs:s=[]
 ·have hd:(!decide (s=[]))=false:=by rw[decide_eq_true hs];rfl
  refine hX ?_;refine lo (JQ (E rfl) (E rfl)) rfl ?_;rw[hz,hd];refine gA ?_;refine ln rfl rfl rfl rfl ?_;refine ln rfl rfl rfl rfl ?_;refine iS ?_;exact aE aF ⟨by rw[aCx,hd];rfl,rfl⟩ aA
 ·have hd:(!decide (s=[]))=true:=by rw[decide_eq_false hs];rfl
  refine hX ?_;refine lo (JQ (E rfl) (E rfl)) rfl ?_;rw[hz,hd];refine gA ?_;refine gy rfl rfl ?_;refine cvb hlt ?_ (by simp[maxLen];omega);refine gy rfl rfl ?_;refine jK Tryz.call288 (aDR aA2 s (fun _ _=>True.intro) 16) rfl aQ aW ?_;refine iS ?_;exact aE aF ⟨by rw[aCx,hd];rfl,rfl⟩ aA
def iZ (s:List Nat):Prop:=s.length≤100000∧∀c∈s,c<256
structure Md.W (m:Md):Prop where
 im:∀x∈m.im,iZ x.mod∧iZ x.nm
 ex:∀x∈m.ex,iZ x.nm
 co:∀x∈m.co,x.bd.length≤100000
 il:m.im.length≤4294967296
 da:∀x∈m.da,∀c∈x.bs,c<256
theorem iX(a b:Bool):(if a=true then b else false)=(a&&b):=by cases a<;>rfl
theorem XH(k n:Int):SCall Tryz.prog 229 [.agg [.int .i64 k,.int .i64 n]] [] (fun r σ'=>r=.bool (nW k n)∧σ'=[]):=by
 refine bO 21 [0,1,2] Tryz.func229 ?_;refine cV ?_;refine gM fun r1 h1=> ?_;intros
 refine gT ?_;refine DM ?_;refine lJ ?_;refine VA ?_;refine aC0 ?_;refine aC1 ?_;refine aHu ?_;refine aFo ?_;refine VA ?_;refine aC0 ?_;refine aC1 ?_;refine aHv ?_;refine aFo ?_;refine gK ?_;refine cI ?_;exact aE aF ⟨by unfold nW;cases h:(k==2)<;>cases h1:(k==1)<;>cases h2:decide (-2147483648≤n)<;>cases h3:decide (n≤2147483647)<;>rfl,rfl⟩ aA
theorem aGd:bK Tryz.prog 222 [] [] (fun x=>.agg (dF x)) (fun t=>cD t.pr 32 NO&&cD t.rs 1 NO) (fun _=>True):=by
 refine⟨Tryz.call222,fun t _=> ?_⟩;obtain⟨pr,rs⟩:=t;refine bO 11 [0,1,2] Tryz.func222 ?_;unfold dF;refine cV ?_;refine gM fun r1 h1=> ?_;intros
 refine gT ?_;refine jK Tryz.call108 (uT GK pr (fun _ _=>True.intro) 32) rfl aQ aW ?_;refine kS ?_;refine mE rfl rfl Tryz.call108 (fun _=>(uT GK rs (fun _ _=>True.intro) 1)) rfl aQ aW ?_;refine iS ?_;exact aE aF ⟨by simp only[dU];rw[iX],rfl⟩ aA
theorem aGe:bK Tryz.prog 224 [] [] (fun x=>.agg (eE x)) (fun x=>vW x.mod&&vW x.nm&&jD x.ty) (fun x=>iZ x.mod∧iZ x.nm):=by
 refine⟨Tryz.call224,fun t ht=> ?_⟩;obtain⟨md,nm,ty⟩:=t;obtain⟨⟨h1,h2⟩,h3,h4⟩:=ht;refine bO 16 [0,1,2] Tryz.func224 ?_;unfold eE;refine cV ?_;apply bx;rfl;rfl;exact FJ;rfl;refine cT fun r1 h1=> ?_;repeat rcases h1 with⟨_,h1⟩
 refine gT ?_;refine jK Tryz.call225 (wA md h1 h2) rfl aQ aW ?_;refine kS ?_;refine mE rfl rfl Tryz.call225 (fun _=>(wA nm h3 h4)) rfl aQ aW ?_;refine mT ?_;refine kS ?_;refine mE rfl rfl Tryz.call226 (fun _=>(tT ty)) rfl aQ aW ?_;refine iS ?_;exact aE aF ⟨by dsimp only;cases vW md<;>cases vW nm<;>rfl,rfl⟩ aA
theorem aGf:bK Tryz.prog 228 [] [] (fun x=>.agg (eF x)) (fun g=>nW g.kd g.n) (fun _=>True):=by
 refine⟨Tryz.call228,fun t _=> ?_⟩;obtain⟨mu,k,n⟩:=t;refine bO 6 [0,1,2] Tryz.func228 ?_;unfold eF;refine cV ?_;refine gM fun r1 h1=> ?_;intros
 refine lL ?_;refine sG ?_;refine jN ?_;refine jK Tryz.call229 (XH k n) rfl aQ aW ?_;refine cI ?_;exact aE aF ⟨by rfl,rfl⟩ aA
theorem aGg:bK Tryz.prog 231 [] [] (fun x=>.agg (dJ x)) (fun x=>vW x.nm&&jD x.fn) (fun x=>iZ x.nm):=by
 refine⟨Tryz.call231,fun t ht=> ?_⟩;obtain⟨nm,fn⟩:=t;obtain⟨h3,h4⟩:=ht;refine bO 11 [0,1,2] Tryz.func231 ?_;unfold dJ;refine cV ?_;refine gM fun r1 h1=> ?_;intros
 refine gT ?_;refine jK Tryz.call225 (wA nm h3 h4) rfl aQ aW ?_;refine kS ?_;refine mE rfl rfl Tryz.call226 (fun _=>(tT fn)) rfl aQ aW ?_;refine iS ?_;exact aE aF ⟨by simp only[dU];rw[iX],rfl⟩ aA
theorem aGh:bK Tryz.prog 233 [] [] (fun x=>.agg (dV x)) (fun x=>iT x.off&&cD x.fs 50 jD) (fun _=>True):=by
 refine⟨Tryz.call233,fun t _=> ?_⟩;obtain⟨o,fs⟩:=t;refine bO 11 [0,1,2] Tryz.func233 ?_;unfold dV;refine cV ?_;refine gM fun r1 h1=> ?_;intros
 refine gT ?_;refine jK Tryz.call234 (LY o) rfl aQ aW ?_;refine kS ?_;refine mE rfl rfl Tryz.call108 (fun _=>(uT LX fs (fun _ _=>True.intro) 50)) rfl aQ aW ?_;refine iS ?_;exact aE aF ⟨by simp only[dU];rw[iX],rfl⟩ aA
theorem aGi:bK Tryz.prog 236 [] [] (fun x=>.agg (dW x)) (fun x=>iT x.off&&decide (x.bs.length≤1000)) (fun _=>True):=by
 refine⟨Tryz.call236,fun t _=> ?_⟩;obtain⟨o,bs⟩:=t;refine bO 12 [0,1,2] Tryz.func236 ?_;unfold dW;refine cV ?_;refine gM fun r1 h1=> ?_;intros
 refine gT ?_;refine jK Tryz.call234 (LY o) rfl aQ aW ?_;refine kS ?_;refine vO ?_;refine NW ?_;refine iS ?_;exact aE aF ⟨by dsimp only;rw[show decide (bs.length≤1000)=decide ((bs.length:Int)≤1000)from decide_eq_decide.2 (by omega)];cases h:iT o<;>simp[dU],rfl⟩ aA
theorem aD8:bK Tryz.prog 111 [] [] (fun x=>.agg (iv .any x)) cW (fun _=>True):=⟨Tryz.call111,fun x _=>ST .any x⟩
theorem aGj:bK Tryz.prog 107 [] [] (fun x=>.agg (cZ x)) tN (fun x=>x.bd.length≤100000):=by
 refine⟨Tryz.call107,fun t hb=> ?_⟩;obtain⟨ls,bd⟩:=t;dsimp only at hb;refine bO 22 [0,1,2,4] Tryz.func107 ?_;unfold cZ;refine cV ?_;refine gM fun r1 h1=> ?_;intros
 refine gT ?_;refine SV Tryz.call75 (jR bd hb) rfl kJ SU ?_;rintro _ σ' ⟨q4,rfl,rfl⟩ h8
 replace h8:=jE h8;repeat rcases h8 with⟨_,h8⟩
 refine qY ?_;refine rZ ?_;refine jX ?_;refine mZ ?_;refine mE rfl rfl Tryz.call108 (fun _=>(uT GK ls (fun _ _=>True.intro) 32)) rfl aQ aW ?_;refine mT ?_;refine kS ?_;refine mE rfl rfl Tryz.call110 (fun _=>(aA1 aD8 bd (fun _ _=>True.intro) 300)) rfl aQ aW ?_;refine iS ?_;exact aE aF ⟨by unfold tN;dsimp only;cases wT (dQ bd)<;>cases cD ls 32 NO<;>rfl,rfl⟩ aA
theorem OS(m:Md)(hw:m.W):SCall Tryz.prog 112 [.agg (cQ m)] [] (fun r σ'=>r=.bool (lB m)∧σ'=[]):=by
 obtain⟨h1,h2,h3,h4,hd5⟩:=hw;obtain⟨ty,im,fn,tb,me,gl,ex,el,co,da⟩:=m;dsimp only at h1 h2 h3 h4;have hE:∀(a b c d e f g:Bool),(if(if(if(if(if(if a=true then b else false)=true then c else false)=true then d else false)=true then e else false)=true then f else false)=true then g else false)=(a&&b&&c&&d&&e&&f&&g):=by
  intro a b c d e f g;cases a<;>cases b<;>cases c<;>cases d<;>cases e<;>cases f<;>rfl
 refine bO 54 [0,1,2,3,4,5,6,7,8,9] Tryz.func112 ?_;unfold cQ;refine cV ?_;apply bx;rfl;rfl;exact FJ;rfl;refine cT fun r1 h1=> ?_;repeat rcases h1 with⟨_,h1⟩
 refine gT ?_;refine jK Tryz.call221 (aDN aGd ty (fun _ _=>True.intro) 16) rfl aQ aW ?_;refine gT ?_;refine jK Tryz.call223 (aDT aGe im h1 16) rfl aQ aW ?_;refine gT ?_;refine dL ?_;refine oG ?_;refine zD ?_;refine jK Tryz.call108 (uT LX fn (fun _ _=>True.intro) _) rfl aQ aW ?_;refine gT ?_;refine jK Tryz.call227 (aDW aGf gl (fun _ _=>True.intro) 16) rfl aQ aW ?_;refine gT ?_;refine jK Tryz.call230 (aDY aGg ex h2 16) rfl aQ aW ?_;refine gT ?_;refine jK Tryz.call232 (aD0 aGh el (fun _ _=>True.intro) 16) rfl aQ aW ?_;refine gT ?_;refine jK Tryz.call235 (aD6 aGi da (fun _ _=>True.intro) 16) rfl aQ aW ?_;refine nT ?_;refine eJ ?_;refine mW ?_;refine mW ?_;refine mW ?_;refine mW ?_;refine mW ?_;refine iS ?_;exact aE aF ⟨by simp only[dU];rw[hE];rfl,rfl⟩ aA
structure Md.WO (m:Md):Prop where
 w:m.W
 ok:m.Ok
theorem uU(m:Md)(h:m.WO):SCall Tryz.prog 51 [.agg (cQ m)] [] (fun r σ'=>r=.bool (lC m)∧σ'=[]):=by
 have hM:=sD m;have hA:oA m=((if((m.co.length:Int)==(m.fn.length:Int))=true then cD m.co 16 tN else false)&&lB m&&nJ m.tb 16 1000&&nJ m.me 16 65536):=by
  unfold oA;rw[iX,show((m.co.length:Int)==(m.fn.length:Int))=(m.co.length==m.fn.length) by rw[Bool.eq_iff_iff];simp only[beq_iff_eq];omega]
 have hL:decide ((eN m).length≤8000)=decide (((eN m).length:Int)≤8000):=decide_eq_decide.2 (by omega);rw[hL]at hM;refine bO 37 [0,1,2,3] Tryz.func51 ?_;refine cV ?_;refine gM fun r1 h1=> ?_;intros
 refine cI ?_;have hwr:=fun h'=>uS m h' h.ok
 obtain⟨⟨h1,h2,h3,h4,hd5⟩,h5⟩:=h;obtain⟨ty,im,fn,tb,me,gl,ex,el,co,da⟩:=m;have hli:=OS ⟨ty,im,fn,tb,me,gl,ex,el,co,da⟩ ⟨h1,h2,h3,h4,hd5⟩;dsimp only at h1 h2 h3 h4 hA hM;refine nL ?_;refine oG ?_;refine dL ?_;refine oG ?_;refine DM ?_;refine mE rfl rfl Tryz.call106 (fun _=>(aD3 aGj co h3 16)) rfl aQ aW ?_;refine iS ?_;by_cases hc:oA ⟨ty,im,fn,tb,me,gl,ex,el,co,da⟩=true
 ·have hc2:=hc;rw[hA]at hc2;simp only[Bool.and_eq_true]at hc2;obtain⟨⟨⟨e1,e2⟩,e3⟩,e4⟩:=hc2;rw[e2]at hli;have hl1:=nO tb 16 1000;have hl2:=nO me 16 65536;rw[e3]at hl1;rw[e4]at hl2;have hE:lC ⟨ty,im,fn,tb,me,gl,ex,el,co,da⟩=decide (((eN ⟨ty,im,fn,tb,me,gl,ex,el,co,da⟩).length:Int)≤8000):=by rw[hM,hc];rfl
  rw[e1];refine jX ?_;refine aAh ?_;refine gy rfl rfl ?_;refine jK Tryz.call112 hli rfl aQ aW ?_;refine mT ?_;refine FL ?_;refine KE ?_;refine gy rfl rfl ?_;refine jK Tryz.call113 hl1 rfl aQ aW ?_;refine mT ?_;refine FL ?_;refine KE ?_;refine gy rfl rfl ?_;refine jK Tryz.call113 hl2 rfl aQ aW ?_;refine mT ?_;refine wQ ?_;refine gy rfl rfl ?_;refine SV Tryz.call56 (hwr hc) rfl kJ SU ?_;rintro _ σ' ⟨q33,rfl,rfl⟩ h33
  replace h33:=jE h33;repeat rcases h33 with⟨_,h33⟩
  apply bE;exact bX;refine vO ?_;refine NW ?_;refine iS ?_;exact aE aF ⟨by rw[hE];rfl,rfl⟩ aA
 ·rw[Bool.not_eq_true]at hc;have hE:lC ⟨ty,im,fn,tb,me,gl,ex,el,co,da⟩=false:=by rw[hM,hc];rfl
  rw[hc]at hA;simp only[←iX]at hA;refine jX ?_;refine aAh ?_;refine mE rfl rfl Tryz.call112 (fun _=>hli) rfl aQ aW ?_;refine mT ?_;refine FL ?_;refine KE ?_;refine mE rfl rfl Tryz.call113 (fun _=>(nO tb 16 1000)) rfl aQ aW ?_;refine mT ?_;refine FL ?_;refine KE ?_;refine mE rfl rfl Tryz.call113 (fun _=>(nO me 16 65536)) rfl aQ aW ?_;refine mT ?_;rw[←hA];refine wQ ?_;refine ln rfl rfl rfl rfl ?_;refine vO ?_;refine NW ?_;refine iS ?_;exact aE aF ⟨by rw[hE];rfl,rfl⟩ aA
def kP (m:Md):List Nat:=if lC m=true then eN m else []
theorem uV{m:Md}(h:lC m=true):oA m=true∧(eN m).length≤8000:=by
 rw[sD]at h;simpa using h
theorem nP(m:Md)(h:m.WO):SCall Tryz.prog 18 [.agg (cQ m)] [] (fun y σ=>∃r,y=.own r 0 (kP m).length∧σ=[(r,.arr 5 1 ((kP m).map aH))]):=by
 have hm:=uU m h;have hw:=fun h'=>uS m h' h.ok
 refine bO 8 [0,1,2,5] Tryz.func18 ?_;refine cV ?_;refine gM fun r1 h1=> ?_;intros
 refine cI ?_;obtain⟨ty,im,fn,tb,me,gl,ex,el,co,da⟩:=m;refine iD ?_;refine jN ?_;refine jK Tryz.call51 hm rfl aQ aW ?_;refine vQ ?_;refine aC rfl (fun g1=> ?_) (fun g1=> ?_)
 ·refine cV ?_;refine lZ ?_;have hE:kP ⟨ty,im,fn,tb,me,gl,ex,el,co,da⟩=[]:=by unfold kP;rw[if_neg];intro e;rw[e]at g1;cases g1
  refine cY 2 5 1 (by decide) rfl (by decide) (cT fun q2 hq2=> ?_);repeat rcases hq2 with⟨_,hq2⟩
  refine aJ ?_;exact aE aF ⟨q2,by rw[hE];rfl,by rw[hE]⟩ aA
 have hy:lC ⟨ty,im,fn,tb,me,gl,ex,el,co,da⟩=true:=by simpa using g1
 have hE:kP ⟨ty,im,fn,tb,me,gl,ex,el,co,da⟩=eN ⟨ty,im,fn,tb,me,gl,ex,el,co,da⟩:=by unfold kP;rw[if_pos hy]
 refine oM ?_;refine SV Tryz.call56 (hw (uV hy).1) rfl kJ SU ?_;rintro _ σ' ⟨r7,rfl,rfl⟩ h7
 replace h7:=jE h7;repeat rcases h7 with⟨_,h7⟩
 refine dS ?_;exact aE aF ⟨r7,by rw[hE];rfl,by rw[hE]⟩ aA
theorem aD9(n:Nat)(hn:n<4294967296):IntKind.u64.wrap ↑(BitVec.ofInt IntKind.u64.bits (n:Int)&&&BitVec.ofInt IntKind.u64.bits 4294967295).toNat=n:=by
 have h1:(BitVec.ofInt IntKind.u64.bits (n:Int)).toNat=n:=by
  rw[BitVec.toNat_ofInt];simp[IntKind.bits];omega
 have h2:(BitVec.ofInt IntKind.u64.bits 4294967295).toNat=2^32-1:=by decide
 rw[BitVec.toNat_and,h1,h2,Nat.and_two_pow_sub_one_eq_mod,Nat.mod_eq_of_lt (by omega),IntKind.wrap_u64];omega
theorem aGk(n:Nat)(hn:n<4294967296):((n:Int)).fdiv (2^min (Int.toNat 32) IntKind.u64.bits)=0:=by
 have:(2:Int)^min (Int.toNat 32) IntKind.u64.bits=4294967296:=by decide
 rw[this,Int.fdiv_eq_ediv_of_nonneg _ (by omega)];omega
theorem XI(n:Nat)(hn:n<18446744073709551616):IntKind.u64.wrap (n:Int)=n:=by rw[IntKind.wrap_u64];omega
theorem EG(n:Nat)(hn:n<4294967296):SCall Tryz.prog 306 [.int .u64 1,.int .u64 n] [] (fun x σ=>x=.tup [.int .u64 0,.int .u64 n]∧σ=[]):=by
 refine bO 51 [0,1,4,5,6,7,8,9,10,11,12,13] Tryz.func306 ?_;refine cV ?_;refine nI ?_;refine lo (kF (E rfl) (E rfl)) rfl ?_;refine mV ?_;refine z2 ?_;refine mV ?_;refine lo (kF (E rfl) (E rfl)) rfl ?_;refine mV ?_;refine z2 ?_;refine nT ?_;refine lo (mC (E rfl) (E rfl)) rfl ?_;refine nT ?_;refine lo (mC (E rfl) (E rfl)) rfl ?_;refine lo (aD (E rfl)) rfl ?_;refine z2 ?_;refine lo (kE (E rfl) (E rfl)) rfl ?_;refine mV ?_;refine lo (kF (E rfl) (E rfl)) rfl ?_;refine mV ?_;refine z2 ?_;refine nT ?_;refine lo (aD (E rfl)) rfl ?_;refine lo (mC (E rfl) (E rfl)) rfl ?_;refine lo (kE (E rfl) (E rfl)) rfl ?_;refine nT ?_;refine lo (mC (E rfl) (E rfl)) rfl ?_;refine lo (aD (E rfl)) rfl ?_;refine lo (kE (E rfl) (E rfl)) rfl ?_;refine lo (aD (E rfl)) rfl ?_;refine z2 ?_;refine lo (kE (E rfl) (E rfl)) rfl ?_;refine nT ?_;refine lo (mC (E rfl) (E rfl)) rfl ?_;refine cI ?_;have e0:=aD9 n hn;have e1:IntKind.u64.wrap ↑(BitVec.ofInt IntKind.u64.bits 1&&&BitVec.ofInt IntKind.u64.bits 4294967295).toNat=1:=aD9 1 (by decide);have e2:=aGk n hn;have e3:Int.fdiv 1 (2^min (Int.toNat 32) IntKind.u64.bits)=0:=aGk 1 (by decide);have e4:=XI n (by omega);have e5:IntKind.u64.wrap 0=0:=by decide
 have e6:Int.fdiv 0 (2^min (Int.toNat 32) IntKind.u64.bits)=0:=by decide
 have e7:IntKind.u64.wrap ↑(BitVec.ofInt IntKind.u64.bits 0&&&BitVec.ofInt IntKind.u64.bits 4294967295).toNat=0:=aD9 0 (by decide);apply aE;exact aF;refine⟨?_,rfl⟩;simp only[dU,e0,e1,e2,e3,e4,e5,e6,e7,Int.zero_mul,Int.mul_zero,Int.one_mul,Int.add_zero,Int.zero_add];exact aA
theorem yK(n:Nat)(hn:n<4294967296):SCall Tryz.prog 278 [.int .u64 1,.int .u64 n] [] (fun x σ=>x=.tup [.int .u64 0,.int .u64 n]∧σ=[]):=by
 refine bO 30 [0,1,4,5,6,7,8,9] Tryz.func278 ?_;refine mA ?_;refine jX ?_
 (first|refine pu [] Tryz.call306 (EG n hn) rfl bM aW ?_ |refine sZ [] rfl rfl Tryz.call306 (fun _=>(EG n hn)) rfl bM aW ?_);refine qX ?_;refine rZ ?_;refine jX ?_;refine rZ ?_;apply aE;exact aF;exact⟨rfl,rfl⟩;exact aA
theorem LZ{α:Type}(a z:α)(n k:Nat)(hk:k≤n):List.replicate (k+min k (n-k)) a++List.replicate (n-(k+min k (n-k))) z=
  List.take (0+k) (List.replicate k a++List.replicate (n-k) z)++List.take (min k (n-k)) (List.take (k-0) (List.drop (0+0) (List.replicate k a++List.replicate (n-k) z)))++List.drop (0+k+min k (n-k)) (List.replicate k a++List.replicate (n-k) z):=by
 generalize hm:min k (n-k)=m;have h1:m≤k:=by omega
 have h2:k+m≤n:=by omega
 have t1:List.take k (List.replicate k a++List.replicate (n-k) z)=List.replicate k a:=by rw[List.take_append_of_le_length (by simp)];simp
 have t2:List.drop (k+m) (List.replicate k a++List.replicate (n-k) z)=List.replicate (n-(k+m)) z:=by
  rw[List.drop_append,List.drop_of_length_le (by simp),List.nil_append,List.length_replicate,List.drop_replicate]
  congr 1
  omega
 rw[Nat.zero_add,Nat.sub_zero,Nat.add_zero,List.drop_zero,t1,t2,List.take_replicate,Nat.min_eq_left h1,List.replicate_append_replicate]
theorem lib_repeat_int{v:AV}(hv:v.cell=true)(n:Nat)(hn:n≤100000):SCall Tryz.prog 207 [.ro 1 [[v]] .any,.int .i64 n] [] (fun x σ=>∃r,x=.own r 0 n∧σ=[(r,.arr 3 1 (List.replicate n [v]))]):=by
 refine bO 48 [0,1,4,5,6,7,8,10,26,37] Tryz.func207 ?_;refine kM ?_;refine tB ?_;refine vP ?_;refine SE ?_;refine lo (aD (E rfl)) rfl ?_;refine SE ?_
 (first|refine pu [] Tryz.call278 (yK n (by omega)) rfl bM aW ?_ |refine sZ [] rfl rfl Tryz.call278 (fun _=>(yK n (by omega))) rfl bM aW ?_);refine qX ?_;refine nI ?_;refine lo (fQ (E rfl) (E rfl)) rfl ?_;refine mU ?_;refine z18 ?_;refine JL ?_;refine gQ ?_;refine aC rfl (fun h=> ?_) (fun _=> ?_)
 ·simp at h;omega
 refine bH ?_;refine z44 ?_;apply mk;rfl;rfl;rfl;rfl;omega;(simp[maxLen];omega);exact FJ;rfl;refine jM fun r30 h30=> ?_;intros
 refine nT ?_;apply cp (m:=min 1 n) (es':=List.replicate (min 1 n) [v]++List.replicate (n-min 1 n) [.int .i64 0]);rfl;exact bW;simp;exact .inl ⟨_,rfl⟩;rfl
 ·rcases n with _ |n<;>simp[List.replicate_succ]
 ·rfl
 refine cI ?_;refine lp (β:=Nat×Nat) (fun b=>⟨[(7,.own b.1 0 n),(8,.int .i64 b.2)],[(b.1,.arr 3 1 (List.replicate b.2 [v]++List.replicate (n-b.2) [.int .i64 0]))]⟩) (fun b=>b.2≤n∧(0<n→0<b.2)) (fun b=>n-b.2) (r30,min 1 n) ?_ ⟨by show min 1 n≤n;omega,fun h=>by show 0<min 1 n;omega⟩ ?_
 ·exact aN
 rintro⟨r,k⟩ ⟨hk,hk0⟩;simp only at hk hk0⊢;refine dB ?_;refine oG ?_;refine tB ?_;refine aC rfl (fun h1=> ?_) (fun h1=> ?_)
 ·simp at h1;refine aJ ?_;refine hU [(0,true),(1,true),(2,true),(3,true),(4,true),(5,true),(6,true),(7,false),(8,true),(9,true)] ?_;refine sH ?_;refine fO rfl (aD (E rfl)) rfl ?_;refine z84 ?_;refine sH ?_;refine z25 ?_;apply dcp (m:=min k (n-k)) (es':=List.replicate (k+min k (n-k)) [v]++List.replicate (n-(k+min k (n-k))) [.int .i64 0]);rfl;infer_instance;infer_instance;rfl;exact bW
  ·first|(simp;done)|(simp;omega)
  ·exact .inr (.inr ⟨_,_,_,_,_,rfl,bF,by simp,rfl⟩)
  ·first|(simp;done)|(simp;omega)
  ·exact LZ _ _ _ _ hk
  ·rfl
  ·exact eU
  refine VC ?_;refine BO ?_;refine⟨(r,k+min k (n-k)),⟨by show k+min k (n-k)≤n;omega,fun h=>by show 0<k+min k (n-k);omega⟩,by show n-(k+min k (n-k))<n-k;omega, ?_⟩;exact aN
 ·obtain rfl:k=n:=by simp at h1;omega
  refine eK ?_;exact aE aF ⟨r,by rfl,rfl⟩ aA
theorem zY{es:List (List AV)}(hn:es.length≤1000000):SCall Tryz.prog 267 [.ro 1 es .any] [] (fun x σ=>∃r,x=.own r 0 es.length∧σ=[(r,.arr 5 1 es)]):=by
 refine bO 8 [0,2,4] Tryz.func267 ?_;refine kM ?_;refine ne rfl rfl rfl fun b hb _=> ?_
 refine iI ?_;cases b
 ·refine cV ?_;refine eP fun r5 h5=> ?_;intros
  refine lo (aD (E rfl)) rfl ?_;apply ap;rfl;rfl;exact bF;rfl;exact .inl ⟨_,rfl⟩;exact List.nil_append _;exact(Nat.zero_add _).symm;(simp[maxLen];omega);omega;rfl;refine dG fun r7 h7=> ?_;intros
  refine cI ?_;exact aE aF ⟨_,by rfl,rfl⟩ aA
 ·obtain rfl:=hb rfl;refine cV ?_;refine lZ ?_;refine cY (ks:=[0,2,4]) 2 5 1 (by decide) rfl (by decide) fun r hr=> ?_
  refine aJ ?_;exact aE aF ⟨_,by rfl,rfl⟩ aA
def SOk (s:St):Prop:=s.1.length≤100000∧∀x∈s.1,x<256
theorem SOk.drop {s:St}(h:SOk s)(n:Nat)(b:Bool):SOk (s.1.drop n,b):=⟨by simp;have:=h.1;omega,fun x hx=>h.2 x (List.mem_of_mem_drop hx)⟩
theorem SOk.bad {s:St}(h:SOk s)(b:Bool):SOk (s.1,b):=h
def Kp {α:Type} (get:St→α×St):Prop:=∀s,SOk s→SOk (get s).2
theorem EH{s:St}(h:SOk s)(n:Int)(ok:Bool):SOk (qK s n ok):=by
 unfold qK;dsimp only;split
 ·exact h.bad _
 ·exact h.drop _ _
theorem fX:Kp eY:=fun s h=>EH h _ _
theorem kQ:Kp iV:=fun s h=>by
 unfold iV;split
 ·exact h.bad _
 ·exact h.drop _ _
theorem wV:Kp uQ:=fun s h=>EH (fX s h) _ _
theorem aCy{α:Type}{get:St→α×St}(hg:Kp get):∀n s,SOk s→SOk (hY get n s).2
 |0,s,h=>h
 |n+1,s,h=>by
  rw[hY];split
  ·exact h
  ·exact aCy hg n _ (hg s h)
theorem oR{α:Type}{get:St→α×St}(hg:Kp get):Kp (eQ get):=fun s h=>aCy hg _ _ (fX s h)
theorem sS:Kp rP:=fun s h=>by
 have:=kQ s h;unfold rP;dsimp only;split
 ·exact this
 ·split
  ·exact this
  ·exact this.bad _
theorem aCz:Kp JO:=fun s h=>by unfold JO;exact kQ _ (EH h _ _)
theorem MA:Kp JP:=fun s h=>by unfold JP;exact aCz _ (kQ s h)
theorem aCA:Kp RA:=fun s h=>by
 have h1:=fX _ (kQ s h);unfold RA;dsimp only;split
 ·exact fX _ h1
 ·exact h1
theorem aCB:∀n s l,SOk s→SOk (OQ n s l).2
 |0,s,l,h=>h
 |n+1,s,l,h=>by
  rw[OQ];split
  ·exact h
  ·dsimp only;split
   ·exact(sS _ (fX s h)).bad _
   ·exact aCB n _ _ (sS _ (fX s h))
theorem XJ:Kp tQ:=fun s h=>aCB _ _ _ (fX s h)
theorem XK:Kp GE:=fun s h=>by
 have h1:=XJ _ (fX s h);unfold GE;dsimp only;split
 ·exact h1
 ·exact EH h1 _ _
theorem aCC:Kp TE:=fun s h=>oR sS _ (oR sS _ (kQ s h))
theorem XL:Kp TF:=fun s h=>fX s h
theorem XM:Kp UE:=fun s h=>fX _ (kQ _ (wV _ (wV s h)))
theorem XN:Kp UF:=fun s h=>aCz _ (kQ _ (sS s h))
theorem XO:Kp UG:=fun s h=>fX _ (kQ _ (wV s h))
theorem aCD(b:Bool):Kp (WT b):=fun s h=>by
 unfold WT;cases b
 ·exact aCA _ h
 ·exact aCA _ (kQ s h)
theorem aCE(b:Bool):Kp (LM b):=fun s h=>oR (aCD b) s h
theorem aCF:Kp WU:=fun s h=>oR XL _ (MA s h)
theorem XP:Kp WV:=fun s h=>wV _ (MA s h)
def bZ (s:St):List AV:=[.ro 1 (s.1.map aH) .any,.bool s.2]
theorem uW(r:Nat)(s:St)(hs:SOk s)(n:Nat)(ok:Bool):SCall Tryz.prog 66 [.ptr r 0,.int .i64 n,.bool ok] [(r,.box 117 (bZ s))]
  (fun x σ=>x=.tup []∧σ=[(r,.box 117 (bZ (qK s n ok)))]):=by
 obtain⟨l,bad⟩:=s;obtain⟨hl,hlt⟩:=hs;dsimp only at hl hlt;have hB:(if(if bad=true then true else !ok)=true then true else decide ((l.length:Int)<n))=(bad|| !ok||decide ((l.length:Int)<n)):=by cases bad<;>cases ok<;>rfl
 refine bO 40 [0,1,2,30] Tryz.func66 ?_;unfold bZ;dsimp only;refine dB ?_;refine iJ ?_;refine gA ?_;refine uA ?_;refine gK ?_;refine gA ?_;refine eJ ?_;refine aB4 ?_;refine vO ?_;refine aHw ?_;refine gK ?_;refine z76 ?_;rw[hB];refine sG ?_;refine gL ?_;generalize hb:(bad|| !ok||decide ((l.length:Int)<n))=B;refine hX ?_;refine iJ ?_;refine vQ ?_;refine aC rfl (fun g1=> ?_) (fun g1=> ?_)
 ·obtain rfl:B=false:=by simpa using g1
  have hn:n≤l.length:=by simp at hb;omega
  have hE:qK (l,bad) n ok=(l.drop n,false):=by unfold qK;dsimp only;rw[hb];rfl
  refine dB ?_;refine wP ?_;refine aAf ?_;refine nH ?_;rw[LC];refine gL ?_;refine cK ?_;exact aE aF ⟨by rfl,by rw[hE]⟩ aA
 obtain rfl:B=true:=by simpa using g1
 have hE:qK (l,bad) n ok=(l,true):=by unfold qK;dsimp only;rw[hb];rfl
 refine aJ ?_;refine cK ?_;exact aE aF ⟨by rfl,by rw[hE]⟩ aA
theorem gV(r:Nat)(s:St)(hs:SOk s):SCall Tryz.prog 68 [.ptr r 0] [(r,.box 117 (bZ s))]
  (fun x σ=>x=.int .i64 ((eY s).1:Nat)∧σ=[(r,.box 117 (bZ (eY s).2))]):=by
 have hgb:=uF s.1;have hsk:=fun n ok=>uW r s hs n ok
 obtain⟨l,bad⟩:=s;obtain⟨hl,hlt⟩:=hs;dsimp only at hl hlt hgb;refine bO 26 [0,2,3,4,5,23] Tryz.func68 ?_;unfold bZ;dsimp only;refine kM ?_;refine iJ ?_;refine jK Tryz.call166 (aB8 l (by omega) hlt) rfl aQ aW ?_;refine qX ?_;refine lo (bC (E rfl) rfl) rfl ?_;refine lS ?_;refine DP ?_;refine lo (bY (E rfl) (E rfl)) rfl ?_;refine cw [(r,.box 117 (bZ (l,bad)))] Tryz.call66 (hsk (jH l).2.1 ((jH l).2.2==0)) rfl aB aA ?_;rintro _ σ' ⟨rfl,rfl⟩ h19;refine iB ?_;have hN:eY (l,bad)=(if(qK (l,bad) (jH l).2.1 ((jH l).2.2==0)).2 then 0 else(jH l).1,qK (l,bad) (jH l).2.1 ((jH l).2.2==0)):=rfl;generalize qK (l,bad) (jH l).2.1 ((jH l).2.2==0)=s2 at hN⊢;obtain⟨l2,b2⟩:=s2;unfold bZ;dsimp only at hN⊢;refine hX ?_;refine iJ ?_;refine gQ ?_;refine aC rfl (fun g3=> ?_) (fun g3=> ?_)
 ·have hE:eY (l,bad)=(0,(l2,true)):=by rw[hN,g3];rfl
  rw[g3];refine bV ?_;exact aE aF ⟨by rw[hE];rfl,by rw[hE]⟩ aA
 have hE:eY (l,bad)=((jH l).1,(l2,false)):=by rw[hN,g3];rfl
 rw[g3];refine bH ?_;refine z44 ?_;refine cI ?_;exact aE aF ⟨by rw[hE];rfl,by rw[hE]⟩ aA
theorem lG(r:Nat)(s:St)(hs:SOk s):SCall Tryz.prog 67 [.ptr r 0] [(r,.box 117 (bZ s))]
  (fun x σ=>x=.int .u8 ((iV s).1:Nat)∧σ=[(r,.box 117 (bZ (iV s).2))]):=by
 obtain⟨l,bad⟩:=s;obtain⟨hl,hlt⟩:=hs;dsimp only at hl hlt;refine bO 34 [0,2,3,15] Tryz.func67 ?_;unfold bZ;dsimp only;refine kM ?_;refine iJ ?_;refine VE ?_;refine vO ?_;refine lJ ?_;refine gK ?_;refine gQ ?_;refine aC rfl (fun g1=> ?_) (fun g1=> ?_)
 ·have hE:iV (l,bad)=(0,(l,true)):=by unfold iV;rw[if_pos];cases bad;(cases l with|nil=>rfl|cons x t=>simp at g1;omega);rfl
  refine mX ?_;refine kY ?_;refine bV ?_;exact aE aF ⟨by rw[hE];rfl,by rw[hE]⟩ aA
 obtain⟨c,t,rfl⟩:∃c t,l=c::t:=by cases l with|nil=>(cases bad<;>simp at g1)|cons c t=>exact⟨c,t,rfl⟩
 obtain rfl:bad=false:=by cases bad with|false=>rfl|true=>simp at g1
 have hE:iV (c::t,false)=(c,(t,false)):=rfl;have hpos:0<(c::t).length:=Nat.succ_pos _;have hx:(c::t)[(0:Int).toNat]? =some c:=rfl;refine bH ?_;refine iJ ?_;refine qG ?_;refine nT ?_;refine iJ ?_;refine aAf ?_;refine nH ?_;rw[show List.take (((c::t).map aH).length-1) (List.drop 1 ((c::t).map aH))=t.map aH by rw[List.map_cons,List.drop_one,List.tail_cons];exact List.take_of_length_le (by simp)];refine lM ?_;refine cI ?_;exact aE aF ⟨by rw[hE];rfl,by rw[hE]⟩ aA
theorem XQ(r:Nat)(s:St)(hs:SOk s):SCall Tryz.prog 184 [.ptr r 0] [(r,.box 117 (bZ s))]
  (fun x σ=>∃q,Nq q r∧x=.own q 0 (uQ s).1.length∧σ=[(q,.arr 5 1 ((uQ s).1.map aH)),(r,.box 117 (bZ (uQ s).2))]):=by
 have h1:=gV r s hs;have k1:=fX s hs;have hR:uQ s=(if(qK (eY s).2 (eY s).1 true).2 then []else(eY s).2.1.take (eY s).1,qK (eY s).2 (eY s).1 true):=rfl;generalize eY s=p at h1 k1 hR;obtain⟨n,s1⟩:=p;dsimp only at h1 k1 hR;have h2:=uW r s1 k1 n true;have hk:(qK s1 n true).2=false→n≤s1.1.length:=fun h=>by unfold qK at h;dsimp only at h;simp at h;omega
 generalize qK s1 n true=s2 at h2 hR hk;obtain⟨l1,b1⟩:=s1;obtain⟨l2,b2⟩:=s2;have hl1:l1.length≤100000:=k1.1;dsimp only at hR hk;rw[hR];refine bO 22 [0,2,3,4,17] Tryz.func184 ?_;refine kM ?_;refine cw [(r,.box 117 (bZ s))] Tryz.call68 h1 rfl aB aA ?_;rintro _ σ' ⟨rfl,rfl⟩ h6;refine dS ?_;unfold bZ;dsimp only;refine hX ?_;refine iJ ?_;refine nT ?_;refine cw [(r,.box 117 (bZ (l1,b1)))] Tryz.call66 h2 rfl aB aA ?_;rintro _ σ' ⟨rfl,rfl⟩ h13;refine iB ?_;unfold bZ;dsimp only;refine hX ?_;refine iJ ?_;refine gQ ?_;refine aC rfl (fun g4=> ?_) (fun g4=> ?_)
 ·have hE:(if b2=true then []else l1.take n)=[]:=if_pos g4;rw[hE,g4];refine cV ?_;refine lZ ?_;refine cY 2 5 1 (by decide) rfl (by decide) (cT fun q hq=> ?_);repeat rcases hq with⟨_,hq⟩
  refine aJ ?_;exact aE aF ⟨q,by(exact dP),by rfl,rfl⟩ aA
 have hE:(if b2=true then []else l1.take n)=l1.take n:=if_neg (by rw[g4];simp);have hn:=hk g4;rw[hE,g4];refine dB ?_;refine aFm ?_;rw[show List.take (n-0) (List.drop 0 (l1.map aH))=(l1.take n).map aH by rw[List.drop_zero,Nat.sub_zero,List.map_take]];refine SV Tryz.call267 (zY (es:=(l1.take n).map aH) (by simp;omega)) rfl kJ SU ?_;rintro _ σ' ⟨q,rfl,rfl⟩ h21
 replace h21:=jE h21;repeat rcases h21 with⟨_,h21⟩
 refine dS ?_;rw[List.length_map];exact aE aF ⟨q,by(exact dP),by rfl,rfl⟩ aA
theorem rS(s:St):(eY s).1<4294967296:=by
 have:=(uF s.1).1;unfold eY;dsimp only;split<;>omega
structure Gets (P:Program) (f:FuncId) (us vs:List AV) (σ:St→cR) {α:Type} (ar:α→AV) (get:St→α×St):Prop where
 call:∀args w,(callFunc f args).run P w=.ok (.enter f args) w
 st:Kp get
 run:∀s,SOk s→SCall P f (us++ []++vs) (σ s) (fun y σ'=>y=ar (get s).1∧σ'=σ (get s).2)
theorem uX{f:FuncId}{us vs:List AV}{r:Nat}{get:St→Int×St}(hg:Gets Tryz.prog f us vs (fun s=>[(r,.box 117 (bZ s))]) (fun n=>.int .i64 n) get)(s:St)(hs:SOk s):SCall Tryz.prog 171 [.ptr r 0,.fn (.func f) us vs] [(r,.box 117 (bZ s))]
  (fun x σ=>∃q,Fresh q [(r,.box 117 (bZ s))]∧x=.own q 0 (eQ get s).1.length∧σ=[(q,.arr 3 1 ((eQ get s).1.map aL)),(r,.box 117 (bZ (eQ get s).2))]):=by
 have h1:=gV r s hs;have k1:=fX s hs;have kb:=rS s;have hR:eQ get s=hY get (eY s).1 (eY s).2:=rfl;generalize eY s=p at h1 k1 kb hR;obtain⟨n,s1⟩:=p;dsimp only at h1 k1 kb hR;refine bO 26 [0,1,4,5,6,17] Tryz.func171 ?_;refine nS ?_;refine cI ?_;refine cY 5 3 1 (by decide) rfl (by decide) (cT fun q0 hq0=> ?_);repeat rcases hq0 with⟨_,hq0⟩
 refine hX ?_;refine cw [(r,.box 117 (bZ s))] Tryz.call68 h1 rfl aB aA ?_;rintro _ σ' ⟨rfl,rfl⟩ h8;refine dS ?_;refine lp (β:=Nat×Nat×St×List Int) (fun b=>⟨[(0,.ptr r 0),(1,.fn (.func f) us vs),(5,.own b.1 0 b.2.2.2.length),(6,.int .i64 (b.2.1:Nat))],[(b.1,.arr 3 1 (b.2.2.2.map aL)),(r,.box 117 (bZ b.2.2.1))]⟩) (fun b=>Fresh b.1 [(r,.box 117 (bZ s))]∧SOk b.2.2.1∧b.2.1+b.2.2.2.length≤4294967296∧eQ get s=(b.2.2.2++(hY get b.2.1 b.2.2.1).1,(hY get b.2.1 b.2.2.1).2)) (fun b=>b.2.1) (q0,n,s1,[]) aN ⟨qD,k1,by show n+0≤4294967296;omega,by rw[hR];rfl⟩ ?_;rintro⟨q1,m,⟨l2,b2⟩,acc⟩ ⟨hq1,hs2,hmb,hL⟩;dsimp only at hq1 hs2 hmb hL⊢;have hq2:=hq1;simp only[aM,aT,and_true]at hq2;repeat rcases hq2 with⟨_,hq2⟩
 unfold bZ;dsimp only;refine xJ ?_;refine rB ?_;refine aC rfl (fun g3=> ?_) (fun g3=> ?_)
 ·obtain rfl:b2=false:=by cases b2 with|false=>rfl|true=>simp at g3
  obtain⟨m,rfl⟩:∃k,m=k+1:=⟨m-1,by simp at g3;omega⟩
  have hrun:=hg.run (l2,false) hs2;have hk:=hg.st (l2,false) hs2;have hl:hY get (m+1) (l2,false)=((get (l2,false)).1::(hY get m (get (l2,false)).2).1,(hY get m (get (l2,false)).2).2):=rfl;rw[hl]at hL;generalize get (l2,false)=p at hrun hk hL;obtain⟨x,s3⟩:=p;dsimp only at hrun hk hL;refine dB ?_;refine mO [(r,.box 117 (bZ (l2,false)))] rfl hg.call hrun rfl aB aA ?_;rintro _ σ' ⟨rfl,rfl⟩ h22;apply bE;exact bX;refine eP fun r23 h23=> ?_;intros
  refine mP ((acc++ [x]).map aL) (acc++ [x]).length ?_;refine dG fun r24 h24=> ?_;intros
  refine rD ?_;rw[show((m+1:Nat):Int)-1=(m:Nat) by omega];refine cI ?_;refine⟨(r24,m,s3,acc++ [x]),⟨qD,hk,by show m+(acc++ [x]).length≤4294967296;simp;omega,by rw[hL];simp⟩,Nat.lt_succ_self _, ?_⟩;dsimp only;exact aN
 have hz:hY get m (l2,b2)=([],(l2,b2)):=by cases m with|zero=>rfl|succ m=>(cases b2 with|true=>rfl|false=>(simp at g3<;>omega))
 have hE:eQ get s=(acc,(l2,b2)):=by rw[hL,hz];simp
 refine eK ?_;exact aE aF ⟨q1,hq1,by rw[hE];rfl,by rw[hE]⟩ aA
theorem aA3{f:FuncId}{us vs:List AV}{r:Nat}{get:St→FT×St}(hg:Gets Tryz.prog f us vs (fun s=>[(r,.box 117 (bZ s))]) (fun x=>.agg (dF x)) get)(s:St)(hs:SOk s):SCall Tryz.prog 167 [.ptr r 0,.fn (.func f) us vs] [(r,.box 117 (bZ s))]
  (fun x σ=>∃q,Fresh q [(r,.box 117 (bZ s))]∧x=.own q 0 (eQ get s).1.length∧σ=[(q,.arr 50 2 ((eQ get s).1.map dF)),(r,.box 117 (bZ (eQ get s).2))]):=by
 have h1:=gV r s hs;have k1:=fX s hs;have kb:=rS s;have hR:eQ get s=hY get (eY s).1 (eY s).2:=rfl;generalize eY s=p at h1 k1 kb hR;obtain⟨n,s1⟩:=p;dsimp only at h1 k1 kb hR;refine bO 26 [0,1,4,5,6,17] Tryz.func167 ?_;refine nS ?_;refine cI ?_;refine cY 5 50 2 (by decide) rfl (by decide) (cT fun q0 hq0=> ?_);repeat rcases hq0 with⟨_,hq0⟩
 refine hX ?_;refine cw [(r,.box 117 (bZ s))] Tryz.call68 h1 rfl aB aA ?_;rintro _ σ' ⟨rfl,rfl⟩ h8;refine dS ?_;refine lp (β:=Nat×Nat×St×List FT) (fun b=>⟨[(0,.ptr r 0),(1,.fn (.func f) us vs),(5,.own b.1 0 b.2.2.2.length),(6,.int .i64 (b.2.1:Nat))],[(b.1,.arr 50 2 (b.2.2.2.map dF)),(r,.box 117 (bZ b.2.2.1))]⟩) (fun b=>Fresh b.1 [(r,.box 117 (bZ s))]∧SOk b.2.2.1∧b.2.1+b.2.2.2.length≤4294967296∧eQ get s=(b.2.2.2++(hY get b.2.1 b.2.2.1).1,(hY get b.2.1 b.2.2.1).2)) (fun b=>b.2.1) (q0,n,s1,[]) aN ⟨qD,k1,by show n+0≤4294967296;omega,by rw[hR];rfl⟩ ?_;rintro⟨q1,m,⟨l2,b2⟩,acc⟩ ⟨hq1,hs2,hmb,hL⟩;dsimp only at hq1 hs2 hmb hL⊢;have hq2:=hq1;simp only[aM,aT,and_true]at hq2;repeat rcases hq2 with⟨_,hq2⟩
 unfold bZ;dsimp only;refine xJ ?_;refine rB ?_;refine aC rfl (fun g3=> ?_) (fun g3=> ?_)
 ·obtain rfl:b2=false:=by cases b2 with|false=>rfl|true=>simp at g3
  obtain⟨m,rfl⟩:∃k,m=k+1:=⟨m-1,by simp at g3;omega⟩
  have hrun:=hg.run (l2,false) hs2;have hk:=hg.st (l2,false) hs2;have hl:hY get (m+1) (l2,false)=((get (l2,false)).1::(hY get m (get (l2,false)).2).1,(hY get m (get (l2,false)).2).2):=rfl;rw[hl]at hL;generalize get (l2,false)=p at hrun hk hL;obtain⟨x,s3⟩:=p;dsimp only at hrun hk hL;refine dB ?_;refine mO [(r,.box 117 (bZ (l2,false)))] rfl hg.call hrun rfl aB aA ?_;rintro _ σ' ⟨rfl,rfl⟩ h22;apply bE;exact bX;refine eP fun r23 h23=> ?_;intros
  refine mP ((acc++ [x]).map dF) (acc++ [x]).length ?_;refine dG fun r24 h24=> ?_;intros
  refine rD ?_;rw[show((m+1:Nat):Int)-1=(m:Nat) by omega];refine cI ?_;refine⟨(r24,m,s3,acc++ [x]),⟨qD,hk,by show m+(acc++ [x]).length≤4294967296;simp;omega,by rw[hL];simp⟩,Nat.lt_succ_self _, ?_⟩;dsimp only;exact aN
 have hz:hY get m (l2,b2)=([],(l2,b2)):=by cases m with|zero=>rfl|succ m=>(cases b2 with|true=>rfl|false=>(simp at g3<;>omega))
 have hE:eQ get s=(acc,(l2,b2)):=by rw[hL,hz];simp
 refine eK ?_;exact aE aF ⟨q1,hq1,by rw[hE];rfl,by rw[hE]⟩ aA
theorem aA4{f:FuncId}{us vs:List AV}{r:Nat}{get:St→Im×St}(hg:Gets Tryz.prog f us vs (fun s=>[(r,.box 117 (bZ s))]) (fun x=>.agg (eE x)) get)(s:St)(hs:SOk s):SCall Tryz.prog 169 [.ptr r 0,.fn (.func f) us vs] [(r,.box 117 (bZ s))]
  (fun x σ=>∃q,Fresh q [(r,.box 117 (bZ s))]∧x=.own q 0 (eQ get s).1.length∧σ=[(q,.arr 64 3 ((eQ get s).1.map eE)),(r,.box 117 (bZ (eQ get s).2))]):=by
 have h1:=gV r s hs;have k1:=fX s hs;have kb:=rS s;have hR:eQ get s=hY get (eY s).1 (eY s).2:=rfl;generalize eY s=p at h1 k1 kb hR;obtain⟨n,s1⟩:=p;dsimp only at h1 k1 kb hR;refine bO 26 [0,1,4,5,6,17] Tryz.func169 ?_;refine nS ?_;refine cI ?_;refine cY 5 64 3 (by decide) rfl (by decide) (cT fun q0 hq0=> ?_);repeat rcases hq0 with⟨_,hq0⟩
 refine hX ?_;refine cw [(r,.box 117 (bZ s))] Tryz.call68 h1 rfl aB aA ?_;rintro _ σ' ⟨rfl,rfl⟩ h8;refine dS ?_;refine lp (β:=Nat×Nat×St×List Im) (fun b=>⟨[(0,.ptr r 0),(1,.fn (.func f) us vs),(5,.own b.1 0 b.2.2.2.length),(6,.int .i64 (b.2.1:Nat))],[(b.1,.arr 64 3 (b.2.2.2.map eE)),(r,.box 117 (bZ b.2.2.1))]⟩) (fun b=>Fresh b.1 [(r,.box 117 (bZ s))]∧SOk b.2.2.1∧b.2.1+b.2.2.2.length≤4294967296∧eQ get s=(b.2.2.2++(hY get b.2.1 b.2.2.1).1,(hY get b.2.1 b.2.2.1).2)) (fun b=>b.2.1) (q0,n,s1,[]) aN ⟨qD,k1,by show n+0≤4294967296;omega,by rw[hR];rfl⟩ ?_;rintro⟨q1,m,⟨l2,b2⟩,acc⟩ ⟨hq1,hs2,hmb,hL⟩;dsimp only at hq1 hs2 hmb hL⊢;have hq2:=hq1;simp only[aM,aT,and_true]at hq2;repeat rcases hq2 with⟨_,hq2⟩
 unfold bZ;dsimp only;refine xJ ?_;refine rB ?_;refine aC rfl (fun g3=> ?_) (fun g3=> ?_)
 ·obtain rfl:b2=false:=by cases b2 with|false=>rfl|true=>simp at g3
  obtain⟨m,rfl⟩:∃k,m=k+1:=⟨m-1,by simp at g3;omega⟩
  have hrun:=hg.run (l2,false) hs2;have hk:=hg.st (l2,false) hs2;have hl:hY get (m+1) (l2,false)=((get (l2,false)).1::(hY get m (get (l2,false)).2).1,(hY get m (get (l2,false)).2).2):=rfl;rw[hl]at hL;generalize get (l2,false)=p at hrun hk hL;obtain⟨x,s3⟩:=p;dsimp only at hrun hk hL;refine dB ?_;refine mO [(r,.box 117 (bZ (l2,false)))] rfl hg.call hrun rfl aB aA ?_;rintro _ σ' ⟨rfl,rfl⟩ h22;apply bE;exact bX;refine eP fun r23 h23=> ?_;intros
  refine mP ((acc++ [x]).map eE) (acc++ [x]).length ?_;refine dG fun r24 h24=> ?_;intros
  refine rD ?_;rw[show((m+1:Nat):Int)-1=(m:Nat) by omega];refine cI ?_;refine⟨(r24,m,s3,acc++ [x]),⟨qD,hk,by show m+(acc++ [x]).length≤4294967296;simp;omega,by rw[hL];simp⟩,Nat.lt_succ_self _, ?_⟩;dsimp only;exact aN
 have hz:hY get m (l2,b2)=([],(l2,b2)):=by cases m with|zero=>rfl|succ m=>(cases b2 with|true=>rfl|false=>(simp at g3<;>omega))
 have hE:eQ get s=(acc,(l2,b2)):=by rw[hL,hz];simp
 refine eK ?_;exact aE aF ⟨q1,hq1,by rw[hE];rfl,by rw[hE]⟩ aA
theorem aA5{f:FuncId}{us vs:List AV}{r:Nat}{get:St→Gl×St}(hg:Gets Tryz.prog f us vs (fun s=>[(r,.box 117 (bZ s))]) (fun x=>.agg (eF x)) get)(s:St)(hs:SOk s):SCall Tryz.prog 173 [.ptr r 0,.fn (.func f) us vs] [(r,.box 117 (bZ s))]
  (fun x σ=>∃q,Fresh q [(r,.box 117 (bZ s))]∧x=.own q 0 (eQ get s).1.length∧σ=[(q,.arr 73 3 ((eQ get s).1.map eF)),(r,.box 117 (bZ (eQ get s).2))]):=by
 have h1:=gV r s hs;have k1:=fX s hs;have kb:=rS s;have hR:eQ get s=hY get (eY s).1 (eY s).2:=rfl;generalize eY s=p at h1 k1 kb hR;obtain⟨n,s1⟩:=p;dsimp only at h1 k1 kb hR;refine bO 26 [0,1,4,5,6,17] Tryz.func173 ?_;refine nS ?_;refine cI ?_;refine cY 5 73 3 (by decide) rfl (by decide) (cT fun q0 hq0=> ?_);repeat rcases hq0 with⟨_,hq0⟩
 refine hX ?_;refine cw [(r,.box 117 (bZ s))] Tryz.call68 h1 rfl aB aA ?_;rintro _ σ' ⟨rfl,rfl⟩ h8;refine dS ?_;refine lp (β:=Nat×Nat×St×List Gl) (fun b=>⟨[(0,.ptr r 0),(1,.fn (.func f) us vs),(5,.own b.1 0 b.2.2.2.length),(6,.int .i64 (b.2.1:Nat))],[(b.1,.arr 73 3 (b.2.2.2.map eF)),(r,.box 117 (bZ b.2.2.1))]⟩) (fun b=>Fresh b.1 [(r,.box 117 (bZ s))]∧SOk b.2.2.1∧b.2.1+b.2.2.2.length≤4294967296∧eQ get s=(b.2.2.2++(hY get b.2.1 b.2.2.1).1,(hY get b.2.1 b.2.2.1).2)) (fun b=>b.2.1) (q0,n,s1,[]) aN ⟨qD,k1,by show n+0≤4294967296;omega,by rw[hR];rfl⟩ ?_;rintro⟨q1,m,⟨l2,b2⟩,acc⟩ ⟨hq1,hs2,hmb,hL⟩;dsimp only at hq1 hs2 hmb hL⊢;have hq2:=hq1;simp only[aM,aT,and_true]at hq2;repeat rcases hq2 with⟨_,hq2⟩
 unfold bZ;dsimp only;refine xJ ?_;refine rB ?_;refine aC rfl (fun g3=> ?_) (fun g3=> ?_)
 ·obtain rfl:b2=false:=by cases b2 with|false=>rfl|true=>simp at g3
  obtain⟨m,rfl⟩:∃k,m=k+1:=⟨m-1,by simp at g3;omega⟩
  have hrun:=hg.run (l2,false) hs2;have hk:=hg.st (l2,false) hs2;have hl:hY get (m+1) (l2,false)=((get (l2,false)).1::(hY get m (get (l2,false)).2).1,(hY get m (get (l2,false)).2).2):=rfl;rw[hl]at hL;generalize get (l2,false)=p at hrun hk hL;obtain⟨x,s3⟩:=p;dsimp only at hrun hk hL;refine dB ?_;refine mO [(r,.box 117 (bZ (l2,false)))] rfl hg.call hrun rfl aB aA ?_;rintro _ σ' ⟨rfl,rfl⟩ h22;apply bE;exact bX;refine eP fun r23 h23=> ?_;intros
  refine mP ((acc++ [x]).map eF) (acc++ [x]).length ?_;refine dG fun r24 h24=> ?_;intros
  refine rD ?_;rw[show((m+1:Nat):Int)-1=(m:Nat) by omega];refine cI ?_;refine⟨(r24,m,s3,acc++ [x]),⟨qD,hk,by show m+(acc++ [x]).length≤4294967296;simp;omega,by rw[hL];simp⟩,Nat.lt_succ_self _, ?_⟩;dsimp only;exact aN
 have hz:hY get m (l2,b2)=([],(l2,b2)):=by cases m with|zero=>rfl|succ m=>(cases b2 with|true=>rfl|false=>(simp at g3<;>omega))
 have hE:eQ get s=(acc,(l2,b2)):=by rw[hL,hz];simp
 refine eK ?_;exact aE aF ⟨q1,hq1,by rw[hE];rfl,by rw[hE]⟩ aA
theorem aA6{f:FuncId}{us vs:List AV}{r:Nat}{get:St→Ex×St}(hg:Gets Tryz.prog f us vs (fun s=>[(r,.box 117 (bZ s))]) (fun x=>.agg (dJ x)) get)(s:St)(hs:SOk s):SCall Tryz.prog 175 [.ptr r 0,.fn (.func f) us vs] [(r,.box 117 (bZ s))]
  (fun x σ=>∃q,Fresh q [(r,.box 117 (bZ s))]∧x=.own q 0 (eQ get s).1.length∧σ=[(q,.arr 66 2 ((eQ get s).1.map dJ)),(r,.box 117 (bZ (eQ get s).2))]):=by
 have h1:=gV r s hs;have k1:=fX s hs;have kb:=rS s;have hR:eQ get s=hY get (eY s).1 (eY s).2:=rfl;generalize eY s=p at h1 k1 kb hR;obtain⟨n,s1⟩:=p;dsimp only at h1 k1 kb hR;refine bO 26 [0,1,4,5,6,17] Tryz.func175 ?_;refine nS ?_;refine cI ?_;refine cY 5 66 2 (by decide) rfl (by decide) (cT fun q0 hq0=> ?_);repeat rcases hq0 with⟨_,hq0⟩
 refine hX ?_;refine cw [(r,.box 117 (bZ s))] Tryz.call68 h1 rfl aB aA ?_;rintro _ σ' ⟨rfl,rfl⟩ h8;refine dS ?_;refine lp (β:=Nat×Nat×St×List Ex) (fun b=>⟨[(0,.ptr r 0),(1,.fn (.func f) us vs),(5,.own b.1 0 b.2.2.2.length),(6,.int .i64 (b.2.1:Nat))],[(b.1,.arr 66 2 (b.2.2.2.map dJ)),(r,.box 117 (bZ b.2.2.1))]⟩) (fun b=>Fresh b.1 [(r,.box 117 (bZ s))]∧SOk b.2.2.1∧b.2.1+b.2.2.2.length≤4294967296∧eQ get s=(b.2.2.2++(hY get b.2.1 b.2.2.1).1,(hY get b.2.1 b.2.2.1).2)) (fun b=>b.2.1) (q0,n,s1,[]) aN ⟨qD,k1,by show n+0≤4294967296;omega,by rw[hR];rfl⟩ ?_;rintro⟨q1,m,⟨l2,b2⟩,acc⟩ ⟨hq1,hs2,hmb,hL⟩;dsimp only at hq1 hs2 hmb hL⊢;have hq2:=hq1;simp only[aM,aT,and_true]at hq2;repeat rcases hq2 with⟨_,hq2⟩
 unfold bZ;dsimp only;refine xJ ?_;refine rB ?_;refine aC rfl (fun g3=> ?_) (fun g3=> ?_)
 ·obtain rfl:b2=false:=by cases b2 with|false=>rfl|true=>simp at g3
  obtain⟨m,rfl⟩:∃k,m=k+1:=⟨m-1,by simp at g3;omega⟩
  have hrun:=hg.run (l2,false) hs2;have hk:=hg.st (l2,false) hs2;have hl:hY get (m+1) (l2,false)=((get (l2,false)).1::(hY get m (get (l2,false)).2).1,(hY get m (get (l2,false)).2).2):=rfl;rw[hl]at hL;generalize get (l2,false)=p at hrun hk hL;obtain⟨x,s3⟩:=p;dsimp only at hrun hk hL;refine dB ?_;refine mO [(r,.box 117 (bZ (l2,false)))] rfl hg.call hrun rfl aB aA ?_;rintro _ σ' ⟨rfl,rfl⟩ h22;apply bE;exact bX;refine eP fun r23 h23=> ?_;intros
  refine mP ((acc++ [x]).map dJ) (acc++ [x]).length ?_;refine dG fun r24 h24=> ?_;intros
  refine rD ?_;rw[show((m+1:Nat):Int)-1=(m:Nat) by omega];refine cI ?_;refine⟨(r24,m,s3,acc++ [x]),⟨qD,hk,by show m+(acc++ [x]).length≤4294967296;simp;omega,by rw[hL];simp⟩,Nat.lt_succ_self _, ?_⟩;dsimp only;exact aN
 have hz:hY get m (l2,b2)=([],(l2,b2)):=by cases m with|zero=>rfl|succ m=>(cases b2 with|true=>rfl|false=>(simp at g3<;>omega))
 have hE:eQ get s=(acc,(l2,b2)):=by rw[hL,hz];simp
 refine eK ?_;exact aE aF ⟨q1,hq1,by rw[hE];rfl,by rw[hE]⟩ aA
theorem aA7{f:FuncId}{us vs:List AV}{r:Nat}{get:St→Co×St}(hg:Gets Tryz.prog f us vs (fun s=>[(r,.box 117 (bZ s))]) (fun x=>.agg (cZ x)) get)(s:St)(hs:SOk s):SCall Tryz.prog 180 [.ptr r 0,.fn (.func f) us vs] [(r,.box 117 (bZ s))]
  (fun x σ=>∃q,Fresh q [(r,.box 117 (bZ s))]∧x=.own q 0 (eQ get s).1.length∧σ=[(q,.arr 44 2 ((eQ get s).1.map cZ)),(r,.box 117 (bZ (eQ get s).2))]):=by
 have h1:=gV r s hs;have k1:=fX s hs;have kb:=rS s;have hR:eQ get s=hY get (eY s).1 (eY s).2:=rfl;generalize eY s=p at h1 k1 kb hR;obtain⟨n,s1⟩:=p;dsimp only at h1 k1 kb hR;refine bO 26 [0,1,4,5,6,17] Tryz.func180 ?_;refine nS ?_;refine cI ?_;refine cY 5 44 2 (by decide) rfl (by decide) (cT fun q0 hq0=> ?_);repeat rcases hq0 with⟨_,hq0⟩
 refine hX ?_;refine cw [(r,.box 117 (bZ s))] Tryz.call68 h1 rfl aB aA ?_;rintro _ σ' ⟨rfl,rfl⟩ h8;refine dS ?_;refine lp (β:=Nat×Nat×St×List Co) (fun b=>⟨[(0,.ptr r 0),(1,.fn (.func f) us vs),(5,.own b.1 0 b.2.2.2.length),(6,.int .i64 (b.2.1:Nat))],[(b.1,.arr 44 2 (b.2.2.2.map cZ)),(r,.box 117 (bZ b.2.2.1))]⟩) (fun b=>Fresh b.1 [(r,.box 117 (bZ s))]∧SOk b.2.2.1∧b.2.1+b.2.2.2.length≤4294967296∧eQ get s=(b.2.2.2++(hY get b.2.1 b.2.2.1).1,(hY get b.2.1 b.2.2.1).2)) (fun b=>b.2.1) (q0,n,s1,[]) aN ⟨qD,k1,by show n+0≤4294967296;omega,by rw[hR];rfl⟩ ?_;rintro⟨q1,m,⟨l2,b2⟩,acc⟩ ⟨hq1,hs2,hmb,hL⟩;dsimp only at hq1 hs2 hmb hL⊢;have hq2:=hq1;simp only[aM,aT,and_true]at hq2;repeat rcases hq2 with⟨_,hq2⟩
 unfold bZ;dsimp only;refine xJ ?_;refine rB ?_;refine aC rfl (fun g3=> ?_) (fun g3=> ?_)
 ·obtain rfl:b2=false:=by cases b2 with|false=>rfl|true=>simp at g3
  obtain⟨m,rfl⟩:∃k,m=k+1:=⟨m-1,by simp at g3;omega⟩
  have hrun:=hg.run (l2,false) hs2;have hk:=hg.st (l2,false) hs2;have hl:hY get (m+1) (l2,false)=((get (l2,false)).1::(hY get m (get (l2,false)).2).1,(hY get m (get (l2,false)).2).2):=rfl;rw[hl]at hL;generalize get (l2,false)=p at hrun hk hL;obtain⟨x,s3⟩:=p;dsimp only at hrun hk hL;refine dB ?_;refine mO [(r,.box 117 (bZ (l2,false)))] rfl hg.call hrun rfl aB aA ?_;rintro _ σ' ⟨rfl,rfl⟩ h22;apply bE;exact bX;refine eP fun r23 h23=> ?_;intros
  refine mP ((acc++ [x]).map cZ) (acc++ [x]).length ?_;refine dG fun r24 h24=> ?_;intros
  refine rD ?_;rw[show((m+1:Nat):Int)-1=(m:Nat) by omega];refine cI ?_;refine⟨(r24,m,s3,acc++ [x]),⟨qD,hk,by show m+(acc++ [x]).length≤4294967296;simp;omega,by rw[hL];simp⟩,Nat.lt_succ_self _, ?_⟩;dsimp only;exact aN
 have hz:hY get m (l2,b2)=([],(l2,b2)):=by cases m with|zero=>rfl|succ m=>(cases b2 with|true=>rfl|false=>(simp at g3<;>omega))
 have hE:eQ get s=(acc,(l2,b2)):=by rw[hL,hz];simp
 refine eK ?_;exact aE aF ⟨q1,hq1,by rw[hE];rfl,by rw[hE]⟩ aA
theorem aA8{f:FuncId}{us vs:List AV}{r:Nat}{c:Nat}(hc:Nq r c){get:St→El×St}(hg:Gets Tryz.prog f us vs (fun s=>[(r,.box 117 (bZ s)),(c,.box 114 [.ptr r 0])]) (fun x=>.agg (dV x)) get)(s:St)(hs:SOk s):SCall Tryz.prog 177 [.ptr r 0,.fn (.func f) us vs] [(r,.box 117 (bZ s)),(c,.box 114 [.ptr r 0])]
  (fun x σ=>∃q,Fresh q [(r,.box 117 (bZ s)),(c,.box 114 [.ptr r 0])]∧x=.own q 0 (eQ get s).1.length∧σ=[(q,.arr 69 2 ((eQ get s).1.map dV)),(r,.box 117 (bZ (eQ get s).2)),(c,.box 114 [.ptr r 0])]):=by
 have h1:=gV r s hs;have k1:=fX s hs;have kb:=rS s;have hR:eQ get s=hY get (eY s).1 (eY s).2:=rfl;generalize eY s=p at h1 k1 kb hR;obtain⟨n,s1⟩:=p;dsimp only at h1 k1 kb hR;refine bO 26 [0,1,4,5,6,17] Tryz.func177 ?_;refine nS ?_;refine cI ?_;refine cY 5 69 2 (by decide) rfl (by decide) (cT fun q0 hq0=> ?_);repeat rcases hq0 with⟨_,hq0⟩
 refine hX ?_;refine cw [(r,.box 117 (bZ s))] Tryz.call68 h1 rfl aB aA ?_;rintro _ σ' ⟨rfl,rfl⟩ h8;refine dS ?_;refine lp (β:=Nat×Nat×St×List El) (fun b=>⟨[(0,.ptr r 0),(1,.fn (.func f) us vs),(5,.own b.1 0 b.2.2.2.length),(6,.int .i64 (b.2.1:Nat))],[(b.1,.arr 69 2 (b.2.2.2.map dV)),(r,.box 117 (bZ b.2.2.1)),(c,.box 114 [.ptr r 0])]⟩) (fun b=>Fresh b.1 [(r,.box 117 (bZ s)),(c,.box 114 [.ptr r 0])]∧SOk b.2.2.1∧b.2.1+b.2.2.2.length≤4294967296∧eQ get s=(b.2.2.2++(hY get b.2.1 b.2.2.1).1,(hY get b.2.1 b.2.2.1).2)) (fun b=>b.2.1) (q0,n,s1,[]) aN ⟨qD,k1,by show n+0≤4294967296;omega,by rw[hR];rfl⟩ ?_;rintro⟨q1,m,⟨l2,b2⟩,acc⟩ ⟨hq1,hs2,hmb,hL⟩;dsimp only at hq1 hs2 hmb hL⊢;have hq2:=hq1;simp only[aM,aT,and_true]at hq2;repeat rcases hq2 with⟨_,hq2⟩
 unfold bZ;dsimp only;refine xJ ?_;refine rB ?_;refine aC rfl (fun g3=> ?_) (fun g3=> ?_)
 ·obtain rfl:b2=false:=by cases b2 with|false=>rfl|true=>simp at g3
  obtain⟨m,rfl⟩:∃k,m=k+1:=⟨m-1,by simp at g3;omega⟩
  have hrun:=hg.run (l2,false) hs2;have hk:=hg.st (l2,false) hs2;have hl:hY get (m+1) (l2,false)=((get (l2,false)).1::(hY get m (get (l2,false)).2).1,(hY get m (get (l2,false)).2).2):=rfl;rw[hl]at hL;generalize get (l2,false)=p at hrun hk hL;obtain⟨x,s3⟩:=p;dsimp only at hrun hk hL;refine dB ?_;refine mO [(r,.box 117 (bZ (l2,false))),(c,.box 114 [.ptr r 0])] rfl hg.call hrun rfl aB aA ?_;rintro _ σ' ⟨rfl,rfl⟩ h22;apply bE;exact bX;refine eP fun r23 h23=> ?_;intros
  refine mP ((acc++ [x]).map dV) (acc++ [x]).length ?_;refine dG fun r24 h24=> ?_;intros
  refine rD ?_;rw[show((m+1:Nat):Int)-1=(m:Nat) by omega];refine cI ?_;refine⟨(r24,m,s3,acc++ [x]),⟨qD,hk,by show m+(acc++ [x]).length≤4294967296;simp;omega,by rw[hL];simp⟩,Nat.lt_succ_self _, ?_⟩;dsimp only;exact aN
 have hz:hY get m (l2,b2)=([],(l2,b2)):=by cases m with|zero=>rfl|succ m=>(cases b2 with|true=>rfl|false=>(simp at g3<;>omega))
 have hE:eQ get s=(acc,(l2,b2)):=by rw[hL,hz];simp
 refine eK ?_;exact aE aF ⟨q1,hq1,by rw[hE];rfl,by rw[hE]⟩ aA
theorem aA9{f:FuncId}{us vs:List AV}{r:Nat}{c:Nat}(hc:Nq r c){get:St→Da×St}(hg:Gets Tryz.prog f us vs (fun s=>[(r,.box 117 (bZ s)),(c,.box 114 [.ptr r 0])]) (fun x=>.agg (dW x)) get)(s:St)(hs:SOk s):SCall Tryz.prog 182 [.ptr r 0,.fn (.func f) us vs] [(r,.box 117 (bZ s)),(c,.box 114 [.ptr r 0])]
  (fun x σ=>∃q,Fresh q [(r,.box 117 (bZ s)),(c,.box 114 [.ptr r 0])]∧x=.own q 0 (eQ get s).1.length∧σ=[(q,.arr 48 2 ((eQ get s).1.map dW)),(r,.box 117 (bZ (eQ get s).2)),(c,.box 114 [.ptr r 0])]):=by
 have h1:=gV r s hs;have k1:=fX s hs;have kb:=rS s;have hR:eQ get s=hY get (eY s).1 (eY s).2:=rfl;generalize eY s=p at h1 k1 kb hR;obtain⟨n,s1⟩:=p;dsimp only at h1 k1 kb hR;refine bO 26 [0,1,4,5,6,17] Tryz.func182 ?_;refine nS ?_;refine cI ?_;refine cY 5 48 2 (by decide) rfl (by decide) (cT fun q0 hq0=> ?_);repeat rcases hq0 with⟨_,hq0⟩
 refine hX ?_;refine cw [(r,.box 117 (bZ s))] Tryz.call68 h1 rfl aB aA ?_;rintro _ σ' ⟨rfl,rfl⟩ h8;refine dS ?_;refine lp (β:=Nat×Nat×St×List Da) (fun b=>⟨[(0,.ptr r 0),(1,.fn (.func f) us vs),(5,.own b.1 0 b.2.2.2.length),(6,.int .i64 (b.2.1:Nat))],[(b.1,.arr 48 2 (b.2.2.2.map dW)),(r,.box 117 (bZ b.2.2.1)),(c,.box 114 [.ptr r 0])]⟩) (fun b=>Fresh b.1 [(r,.box 117 (bZ s)),(c,.box 114 [.ptr r 0])]∧SOk b.2.2.1∧b.2.1+b.2.2.2.length≤4294967296∧eQ get s=(b.2.2.2++(hY get b.2.1 b.2.2.1).1,(hY get b.2.1 b.2.2.1).2)) (fun b=>b.2.1) (q0,n,s1,[]) aN ⟨qD,k1,by show n+0≤4294967296;omega,by rw[hR];rfl⟩ ?_;rintro⟨q1,m,⟨l2,b2⟩,acc⟩ ⟨hq1,hs2,hmb,hL⟩;dsimp only at hq1 hs2 hmb hL⊢;have hq2:=hq1;simp only[aM,aT,and_true]at hq2;repeat rcases hq2 with⟨_,hq2⟩
 unfold bZ;dsimp only;refine xJ ?_;refine rB ?_;refine aC rfl (fun g3=> ?_) (fun g3=> ?_)
 ·obtain rfl:b2=false:=by cases b2 with|false=>rfl|true=>simp at g3
  obtain⟨m,rfl⟩:∃k,m=k+1:=⟨m-1,by simp at g3;omega⟩
  have hrun:=hg.run (l2,false) hs2;have hk:=hg.st (l2,false) hs2;have hl:hY get (m+1) (l2,false)=((get (l2,false)).1::(hY get m (get (l2,false)).2).1,(hY get m (get (l2,false)).2).2):=rfl;rw[hl]at hL;generalize get (l2,false)=p at hrun hk hL;obtain⟨x,s3⟩:=p;dsimp only at hrun hk hL;refine dB ?_;refine mO [(r,.box 117 (bZ (l2,false))),(c,.box 114 [.ptr r 0])] rfl hg.call hrun rfl aB aA ?_;rintro _ σ' ⟨rfl,rfl⟩ h22;apply bE;exact bX;refine eP fun r23 h23=> ?_;intros
  refine mP ((acc++ [x]).map dW) (acc++ [x]).length ?_;refine dG fun r24 h24=> ?_;intros
  refine rD ?_;rw[show((m+1:Nat):Int)-1=(m:Nat) by omega];refine cI ?_;refine⟨(r24,m,s3,acc++ [x]),⟨qD,hk,by show m+(acc++ [x]).length≤4294967296;simp;omega,by rw[hL];simp⟩,Nat.lt_succ_self _, ?_⟩;dsimp only;exact aN
 have hz:hY get m (l2,b2)=([],(l2,b2)):=by cases m with|zero=>rfl|succ m=>(cases b2 with|true=>rfl|false=>(simp at g3<;>omega))
 have hE:eQ get s=(acc,(l2,b2)):=by rw[hL,hz];simp
 refine eK ?_;exact aE aF ⟨q1,hq1,by rw[hE];rfl,by rw[hE]⟩ aA
theorem aBa{f:FuncId}{us vs:List AV}{r:Nat}{c d:Nat}{before:Bool}(hc:Nq r c)(hd:Nq r d)(hcd:Nq c d){get:St→Li×St}(hg:Gets Tryz.prog f us vs (fun s=>[(r,.box 117 (bZ s)),(c,.box 4 [.bool before]),(d,.box 114 [.ptr r 0])]) (fun x=>.agg (gG x)) get)(s:St)(hs:SOk s):SCall Tryz.prog 261 [.ptr r 0,.fn (.func f) us vs] [(r,.box 117 (bZ s)),(c,.box 4 [.bool before]),(d,.box 114 [.ptr r 0])]
  (fun x σ=>∃q,Fresh q [(r,.box 117 (bZ s)),(c,.box 4 [.bool before]),(d,.box 114 [.ptr r 0])]∧x=.own q 0 (eQ get s).1.length∧σ=[(q,.arr 26 3 ((eQ get s).1.map gG)),(r,.box 117 (bZ (eQ get s).2)),(c,.box 4 [.bool before]),(d,.box 114 [.ptr r 0])]):=by
 have h1:=gV r s hs;have k1:=fX s hs;have kb:=rS s;have hR:eQ get s=hY get (eY s).1 (eY s).2:=rfl;generalize eY s=p at h1 k1 kb hR;obtain⟨n,s1⟩:=p;dsimp only at h1 k1 kb hR;refine bO 26 [0,1,4,5,6,17] Tryz.func261 ?_;refine nS ?_;refine cI ?_;refine cY 5 26 3 (by decide) rfl (by decide) (cT fun q0 hq0=> ?_);repeat rcases hq0 with⟨_,hq0⟩
 refine hX ?_;refine cw [(r,.box 117 (bZ s))] Tryz.call68 h1 rfl aB aA ?_;rintro _ σ' ⟨rfl,rfl⟩ h8;refine dS ?_;refine lp (β:=Nat×Nat×St×List Li) (fun b=>⟨[(0,.ptr r 0),(1,.fn (.func f) us vs),(5,.own b.1 0 b.2.2.2.length),(6,.int .i64 (b.2.1:Nat))],[(b.1,.arr 26 3 (b.2.2.2.map gG)),(r,.box 117 (bZ b.2.2.1)),(c,.box 4 [.bool before]),(d,.box 114 [.ptr r 0])]⟩) (fun b=>Fresh b.1 [(r,.box 117 (bZ s)),(c,.box 4 [.bool before]),(d,.box 114 [.ptr r 0])]∧SOk b.2.2.1∧b.2.1+b.2.2.2.length≤4294967296∧eQ get s=(b.2.2.2++(hY get b.2.1 b.2.2.1).1,(hY get b.2.1 b.2.2.1).2)) (fun b=>b.2.1) (q0,n,s1,[]) aN ⟨qD,k1,by show n+0≤4294967296;omega,by rw[hR];rfl⟩ ?_;rintro⟨q1,m,⟨l2,b2⟩,acc⟩ ⟨hq1,hs2,hmb,hL⟩;dsimp only at hq1 hs2 hmb hL⊢;have hq2:=hq1;simp only[aM,aT,and_true]at hq2;repeat rcases hq2 with⟨_,hq2⟩
 unfold bZ;dsimp only;refine xJ ?_;refine rB ?_;refine aC rfl (fun g3=> ?_) (fun g3=> ?_)
 ·obtain rfl:b2=false:=by cases b2 with|false=>rfl|true=>simp at g3
  obtain⟨m,rfl⟩:∃k,m=k+1:=⟨m-1,by simp at g3;omega⟩
  have hrun:=hg.run (l2,false) hs2;have hk:=hg.st (l2,false) hs2;have hl:hY get (m+1) (l2,false)=((get (l2,false)).1::(hY get m (get (l2,false)).2).1,(hY get m (get (l2,false)).2).2):=rfl;rw[hl]at hL;generalize get (l2,false)=p at hrun hk hL;obtain⟨x,s3⟩:=p;dsimp only at hrun hk hL;refine dB ?_;refine mO [(r,.box 117 (bZ (l2,false))),(c,.box 4 [.bool before]),(d,.box 114 [.ptr r 0])] rfl hg.call hrun rfl aB aA ?_;rintro _ σ' ⟨rfl,rfl⟩ h22;apply bE;exact bX;refine eP fun r23 h23=> ?_;intros
  refine mP ((acc++ [x]).map gG) (acc++ [x]).length ?_;refine dG fun r24 h24=> ?_;intros
  refine rD ?_;rw[show((m+1:Nat):Int)-1=(m:Nat) by omega];refine cI ?_;refine⟨(r24,m,s3,acc++ [x]),⟨qD,hk,by show m+(acc++ [x]).length≤4294967296;simp;omega,by rw[hL];simp⟩,Nat.lt_succ_self _, ?_⟩;dsimp only;exact aN
 have hz:hY get m (l2,b2)=([],(l2,b2)):=by cases m with|zero=>rfl|succ m=>(cases b2 with|true=>rfl|false=>(simp at g3<;>omega))
 have hE:eQ get s=(acc,(l2,b2)):=by rw[hL,hz];simp
 refine eK ?_;exact aE aF ⟨q1,hq1,by rw[hE];rfl,by rw[hE]⟩ aA
theorem GL(r:Nat)(s:St)(hs:SOk s):SCall Tryz.prog 259 [.ptr r 0] [(r,.box 117 (bZ s))]
  (fun x σ=>x=.int .i64 (rP s).1∧σ=[(r,.box 117 (bZ (rP s).2))]):=by
 have h1:=lG r s hs;have hK:rP s=if((iV s).1==127)=true then(1,(iV s).2)else if((iV s).1==126)=true then(2,(iV s).2)else(0,((iV s).2.1,true)):=rfl
 generalize iV s=p at h1 hK;obtain⟨c,l2,b2⟩:=p;dsimp only at h1 hK;have ht:∀k:Nat,((c:Int)==(k:Int))=(c==k):=fun k=>by rw[Bool.eq_iff_iff];simp only[beq_iff_eq];omega
 refine bO 12 [0,2,4,5,7] Tryz.func259 ?_;refine kM ?_;refine cw [(r,.box 117 (bZ s))] Tryz.call67 h1 rfl aB aA ?_;rintro _ σ' ⟨rfl,rfl⟩ h4;refine iB ?_;unfold bZ;dsimp only;refine kL ?_;refine aC rfl (fun g2=> ?_) (fun g2=> ?_)
 ·have hE:rP s=(1,(l2,b2)):=by rw[hK,if_pos ((ht 127).symm.trans g2)]
  refine bV ?_;exact aE aF ⟨by rw[hE];rfl,by rw[hE]⟩ aA
 refine dH ?_;refine aC rfl (fun g4=> ?_) (fun g4=> ?_)
 ·have hE:rP s=(2,(l2,b2)):=by rw[hK,if_neg (by rw[←ht 127];exact fun h=>by rw[show((c:Int)==((127:Nat):Int))=false from g2]at h;cases h),if_pos ((ht 126).symm.trans g4)]
  refine bV ?_;exact aE aF ⟨by rw[hE];rfl,by rw[hE]⟩ aA
 have hE:rP s=(0,(l2,true)):=by rw[hK,if_neg (by rw[←ht 127];exact fun h=>by rw[show((c:Int)==((127:Nat):Int))=false from g2]at h;cases h),if_neg (by rw[←ht 126];exact fun h=>by rw[show((c:Int)==((126:Nat):Int))=false from g4]at h;cases h)]
 refine mX ?_;refine kY ?_;refine bV ?_;exact aE aF ⟨by rw[hE];rfl,by rw[hE]⟩ aA
theorem GM(r:Nat)(s:St)(hs:SOk s):SCall Tryz.prog 260 [.ptr r 0] [(r,.box 117 (bZ s))]
  (fun x σ=>x=.str (cU (uQ s).1)∧σ=[(r,.box 117 (bZ (uQ s).2))]):=by
 have w1:=XQ r s hs;generalize uQ s=p at w1;obtain⟨l,s2⟩:=p;dsimp only at w1;refine bO 6 [0,2] Tryz.func260 ?_;refine kM ?_;refine cw [(r,.box 117 (bZ s))] Tryz.call184 w1 rfl aB aA ?_;rintro _ σ' ⟨q,hq,rfl,rfl⟩ h4;apply bE;exact bX;refine aAk ?_;refine cI ?_;exact aE aF ⟨by rfl,rfl⟩ aA
theorem wW(r:Nat)(s:St)(hs:SOk s):SCall Tryz.prog 264 [.ptr r 0] [(r,.box 117 (bZ s))]
  (fun x σ=>x=.agg [.int .i64 (JO s).1.1,.int .i64 (JO s).1.2]∧σ=[(r,.box 117 (bZ (JO s).2))]):=by
 have hk:=fun n ok=>uW r s hs n ok
 have hk2:=fun n ok=>lG r _ (EH hs n ok)
 have hC:JO s=(if((eB s.1).1.op==66)=true then(2,(eB s.1).1.a)else(1,(eB s.1).1.a),(iV (qK s (eB s.1).2.1 (((eB s.1).2.2==0)&&((eB s.1).1.op==65||(eB s.1).1.op==66)))).2):=rfl;have hget:=DX s.1 (by have:=hs.1;omega) hs.2;obtain⟨l,bad⟩:=s;dsimp only at hC hget;generalize eB l=p at hC hget;obtain⟨x,n,e⟩:=p;dsimp only at hC hget;have hB:(if(e==0)=true then(if(x.op==65)=true then true else x.op==66)else false)=((e==0)&&(x.op==65||x.op==66)):=by cases(e==0)<;>cases(x.op==65)<;>rfl
 have w1:=hk n ((e==0)&&(x.op==65||x.op==66));have w2:=hk2 n ((e==0)&&(x.op==65||x.op==66));generalize((e==0)&&(x.op==65||x.op==66))=B at hB w1 w2 hC;generalize qK (l,bad) n B=s2 at w1 w2 hC;generalize iV s2=p3 at w2 hC;obtain⟨c,s3⟩:=p3;dsimp only at w2 hC;refine bO 41 [0,2,3,4,5,34] Tryz.func264 ?_;unfold bZ;dsimp only;refine cV ?_;refine gF fun r2 h2=> ?_;intros
 refine pG ?_;refine iJ ?_;refine cw [] Tryz.call298 hget rfl aB aA ?_;rintro _ σ' ⟨q,rfl,rfl⟩ h11
 replace h11:=fU h11;repeat rcases h11 with⟨_,h11⟩
 refine KM ?_;refine gF fun r3 h3=> ?_;intros
 unfold io;apply zB;rfl;rfl;rfl;rfl;exact iC;refine rZ ?_;refine DP ?_;refine DM ?_;refine lJ ?_;refine VA ?_;refine aC0 ?_;refine aC1 ?_;refine aFp ?_;refine aC2 ?_;refine mT ?_;rw[hB];refine cw [(r,.box 117 (bZ (l,bad)))] Tryz.call66 w1 rfl aB aA ?_;rintro _ σ' ⟨rfl,rfl⟩ h29;refine iB ?_;refine hX ?_;refine cw [(r,.box 117 (bZ s2))] Tryz.call67 w2 rfl aB aA ?_;rintro _ σ' ⟨rfl,rfl⟩ h31;refine sQ ?_;refine kC ?_;refine pF ?_;refine aC rfl (fun g4=> ?_) (fun g4=> ?_)
 ·have hE:JO (l,bad)=((2,x.a),s3):=by rw[hC,if_pos g4]
  refine kC ?_;refine iA ?_;refine gL ?_;exact aE aF ⟨by rw[hE];rfl,by rw[hE]⟩ aA
 have hE:JO (l,bad)=((1,x.a),s3):=by rw[hC,if_neg (by rw[g4];simp)]
 refine kC ?_;refine iA ?_;refine gL ?_;exact aE aF ⟨by rw[hE];rfl,by rw[hE]⟩ aA
theorem MB(r:Nat)(s:St)(hs:SOk s):SCall Tryz.prog 179 [.ptr r 0] [(r,.box 117 (bZ s))]
  (fun x σ=>x=.int .i64 (JP s).1∧σ=[(r,.box 117 (bZ (JP s).2))]):=by
 have w1:=lG r s hs;have w2:=wW r _ (kQ s hs);refine bO 8 [0,2] Tryz.func179 ?_;refine kM ?_;refine cw [(r,.box 117 (bZ s))] Tryz.call67 w1 rfl aB aA ?_;rintro _ σ' ⟨rfl,rfl⟩ h4;refine iB ?_;refine hX ?_;refine nK [(r,.box 117 (bZ (iV s).2))] Tryz.call264 w2 ?_;refine aC3 ?_;refine cI ?_;exact aE aF ⟨by rfl,rfl⟩ aA
theorem EI(r:Nat)(s:St)(hs:SOk s):SCall Tryz.prog 263 [.ptr r 0] [(r,.box 117 (bZ s))]
  (fun x σ=>x=.agg (gG (RA s).1)∧σ=[(r,.box 117 (bZ (RA s).2))]):=by
 have w1:=lG r s hs;have w2:=gV r _ (kQ s hs);have w3:=gV r _ (fX _ (kQ s hs));have hL:RA s=if((iV s).1 !=0)=true then(⟨true,(eY (iV s).2).1,(eY (eY (iV s).2).2).1⟩,(eY (eY (iV s).2).2).2)else(⟨true,(eY (iV s).2).1,-1⟩,(eY (iV s).2).2):=rfl
 generalize iV s=p1 at w1 w2 w3 hL;obtain⟨c,s1⟩:=p1;dsimp only at w1 w2 w3 hL;generalize eY s1=p2 at w2 w3 hL;obtain⟨a,s2⟩:=p2;dsimp only at w2 w3 hL;generalize eY s2=p3 at w3 hL;obtain⟨d,s3⟩:=p3;dsimp only at w3 hL;have ht:((c:Int) !=0)=(c !=0):=by rw[Bool.eq_iff_iff];simp only[bne_iff_ne,ne_eq];omega
 refine bO 17 [0,2,3,4,12] Tryz.func263 ?_;refine cV ?_;refine gF fun r2 h2=> ?_;intros
 refine iI ?_;refine cV ?_;refine iA ?_;refine gF fun r3 h3=> ?_;intros
 refine lM ?_;refine nK [(r,.box 117 (bZ s))] Tryz.call67 w1 ?_;refine lo (eA (E rfl) (E rfl)) rfl ?_;refine mV ?_;refine nK [(r,.box 117 (bZ s1))] Tryz.call68 w2 ?_;refine sG ?_;refine lM ?_;refine gQ ?_;refine aC rfl (fun g4=> ?_) (fun g4=> ?_)
 ·have hE:RA s=(⟨true,a,d⟩,s3):=by rw[hL,if_pos (ht.symm.trans g4)]
  refine bH ?_;refine nK [(r,.box 117 (bZ s2))] Tryz.call68 w3 ?_;refine sG ?_;refine kY ?_;refine oM ?_;refine gL ?_;exact aE aF ⟨by rw[hE];rfl,by rw[hE]⟩ aA
 have hE:RA s=(⟨true,a,-1⟩,s2):=by rw[hL,if_neg (by rw[←ht];exact fun h=>by rw[show((c:Int) !=0)=false from g4]at h;cases h)]
 refine oM ?_;refine gL ?_;exact aE aF ⟨by rw[hE];rfl,by rw[hE]⟩ aA
theorem aBb(d:Int)(c:Nat)(hc:c≤100000):SCall Tryz.prog 207 [.ro 1 [[.int .i64 d]] .any,.int .i64 c] [] (fun x σ=>∃r,x=.own r 0 (List.replicate c d).length∧σ=[(r,.arr 3 1 ((List.replicate c d).map aL))]):=by
 refine(lib_repeat_int (v:=.int .i64 d) rfl c hc).mono fun x σ h=> ?_
 rw[List.length_replicate,List.map_replicate];exact h
theorem TI(r:Nat)(s:St)(hs:SOk s):SCall Tryz.prog 265 [.ptr r 0] [(r,.box 117 (bZ s))]
  (fun x σ=>∃q,Nq q r∧x=.own q 0 (tQ s).1.length∧σ=[(q,.arr 3 1 ((tQ s).1.map aL)),(r,.box 117 (bZ (tQ s).2))]):=by
 have w1:=gV r s hs;have k1:=fX s hs;have kb:=rS s;have hR:tQ s=OQ (eY s).1 (eY s).2 []:=rfl;generalize eY s=p at w1 k1 kb hR;obtain⟨n,s1⟩:=p;dsimp only at w1 k1 kb hR;refine bO 36 [0,2,3,4,5,6,17,25] Tryz.func265 ?_;refine nS ?_;refine cI ?_;refine cY 3 3 1 (by decide) rfl (by decide) (cT fun q0 hq0=> ?_);repeat rcases hq0 with⟨_,hq0⟩
 refine hX ?_;refine cw [(r,.box 117 (bZ s))] Tryz.call68 w1 rfl aB aA ?_;rintro _ σ' ⟨rfl,rfl⟩ h8;refine dS ?_;refine lp (β:=Nat×Nat×St×List Int) (fun b=>⟨[(0,.ptr r 0),(2,.ro 0 [] .nil),(3,.own b.1 0 b.2.2.2.length),(4,.int .i64 (b.2.1:Nat))],[(b.1,.arr 3 1 (b.2.2.2.map aL)),(r,.box 117 (bZ b.2.2.1))]⟩) (fun b=>Nq b.1 r∧SOk b.2.2.1∧32*b.2.1+b.2.2.2.length≤137438953472∧tQ s=OQ b.2.1 b.2.2.1 b.2.2.2) (fun b=>b.2.1) (q0,n,s1,[]) aN ⟨by show Nq q0 r;(exact dP),k1,by show 32*n+0≤137438953472;omega,by rw[hR]⟩ ?_;rintro⟨q1,m,⟨l2,b2⟩,acc⟩ ⟨hq1,hs2,hmb,hL⟩;dsimp only at hq1 hs2 hmb hL⊢;unfold bZ;dsimp only;refine xJ ?_;refine rB ?_;refine aC rfl (fun g3=> ?_) (fun g3=> ?_)
 ·obtain rfl:b2=false:=by cases b2 with|false=>rfl|true=>simp at g3
  obtain⟨m,rfl⟩:∃k,m=k+1:=⟨m-1,by simp at g3;omega⟩
  have wn:=gV r (l2,false) hs2;have kn:=fX (l2,false) hs2;have wk:=GL r _ kn;have kk:=sS _ kn;have hl:OQ (m+1) (l2,false) acc=if 32<(eY (l2,false)).1 then([],((rP (eY (l2,false)).2).2.1,true))else OQ m (rP (eY (l2,false)).2).2 (acc++List.replicate (eY (l2,false)).1 (rP (eY (l2,false)).2).1):=by rw[OQ];rfl
  rw[hl]at hL;generalize eY (l2,false)=p2 at wn kn wk kk hL;obtain⟨c,s3⟩:=p2;dsimp only at wn kn wk kk hL;generalize rP s3=p3 at wk kk hL;obtain⟨d,l4,b4⟩:=p3;dsimp only at wk kk hL;refine bH ?_;refine cw [(r,.box 117 (bZ (l2,false)))] Tryz.call68 wn rfl aB aA ?_;rintro _ σ' ⟨rfl,rfl⟩ h21;refine dS ?_;refine hX ?_;refine cw [(r,.box 117 (bZ s3))] Tryz.call259 wk rfl aB aA ?_;rintro _ σ' ⟨rfl,rfl⟩ h23;refine dS ?_;unfold bZ;dsimp only;refine hX ?_;refine KI ?_;refine aC rfl (fun g7=> ?_) (fun g7=> ?_)
  ·have hE:tQ s=([],(l4,true)):=by rw[hL,if_pos (by simp at g7;omega)]
   refine mX ?_;refine kY ?_;refine cV ?_;refine lZ ?_;refine cY 2 3 1 (by decide) rfl (by decide) (cT fun q2 hq2=> ?_);repeat rcases hq2 with⟨_,hq2⟩
   refine aJ ?_;exact aE aF ⟨q2,by(exact dP),by rw[hE];rfl,by rw[hE]⟩ aA
  have hc:c≤32:=by simp at g7;omega
  rw[if_neg (by omega)]at hL;refine dB ?_;refine eP fun r31 h31=> ?_;intros
  refine lo (aD (E rfl)) rfl ?_;refine SV Tryz.call207 (aBb d c (by omega)) rfl kJ SU ?_;rintro _ σ' ⟨r33,rfl,rfl⟩ h33
  replace h33:=jE h33;repeat rcases h33 with⟨_,h33⟩
  apply bE;exact bX;refine mP ((acc++List.replicate c d).map aL) (acc++List.replicate c d).length ?_;refine dG fun r34 h34=> ?_;intros
  refine rD ?_;rw[show((m+1:Nat):Int)-1=(m:Nat) by omega];refine cI ?_;refine⟨(r34,m,(l4,b4),acc++List.replicate c d),⟨by show Nq r34 r;(exact dP),kk,by show 32*m+(acc++List.replicate c d).length≤137438953472;simp;omega,hL⟩,Nat.lt_succ_self _, ?_⟩;dsimp only;exact aN
 have hz:OQ m (l2,b2) acc=(acc,(l2,b2)):=by cases m with|zero=>rfl|succ m=>(cases b2 with|true=>rfl|false=>(simp at g3<;>omega))
 have hE:tQ s=(acc,(l2,b2)):=by rw[hL,hz]
 refine eK ?_;exact aE aF ⟨q1,by(exact dP),by rw[hE];rfl,by rw[hE]⟩ aA
theorem EJ(r:Nat):Gets Tryz.prog 259 [.ptr r 0] [] (fun s=>[(r,.box 117 (bZ s))]) (fun n=>.int .i64 n) rP:=⟨Tryz.call259,sS,fun s hs=>GL r s hs⟩
theorem MC(r:Nat):Gets Tryz.prog 68 [.ptr r 0] [] (fun s=>[(r,.box 117 (bZ s))]) (fun n=>.int .i64 n) TF:=⟨Tryz.call68,XL,fun s hs=>gV r s hs⟩
theorem aBc(r:Nat)(s:St)(hs:SOk s):SCall Tryz.prog 168 [.ptr r 0] [(r,.box 117 (bZ s))]
  (fun x σ=>x=.agg (dF (TE s).1)∧σ=[(r,.box 117 (bZ (TE s).2))]):=by
 have w1:=lG r s hs;have k1:=kQ s hs;have w2:=uX (EJ r) _ k1;have k2:=oR sS _ k1;have w3:=uX (EJ r) _ k2;have hT:TE s=(⟨(eQ rP (iV s).2).1,(eQ rP (eQ rP (iV s).2).2).1⟩,(eQ rP (eQ rP (iV s).2).2).2):=rfl;rw[hT];generalize(iV s).2=s1 at w1 w2 w3;generalize eQ rP s1=p2 at w2 w3;obtain⟨a,s2⟩:=p2;dsimp only at w2 w3;generalize eQ rP s2=p3 at w3;obtain⟨c,s3⟩:=p3;dsimp only at w3;refine bO 14 [0,2] Tryz.func168 ?_;refine cV ?_;refine gF fun r2 h2=> ?_;intros
 refine pG ?_;refine cw [(r,.box 117 (bZ s))] Tryz.call67 w1 rfl aB aA ?_;rintro _ σ' ⟨rfl,rfl⟩ h4;refine iB ?_;refine jX ?_;refine KF ?_;refine cw [(r,.box 117 (bZ s1))] Tryz.call171 w2 rfl aB aA ?_;rintro _ σ' ⟨q8,hq8,rfl,rfl⟩ h8;simp only[aM,aT,and_true]at hq8;have k8:=aO h8;repeat rcases k8 with⟨_,k8⟩
 apply bE;exact bX;refine gX (j:=8) rfl bD (aK bF (by simp)) ?_;refine FM ?_;refine KF ?_;refine cw [(r,.box 117 (bZ s2))] Tryz.call171 w3 rfl aB aA ?_;rintro _ σ' ⟨q12,hq12,rfl,rfl⟩ h12;simp only[aM,aT,and_true]at hq12;have k12:=aO h12;repeat rcases k12 with⟨_,k12⟩
 apply bE;exact bX;refine gX (j:=12) rfl bD (aK bF (by simp)) ?_;refine iA ?_;refine gL ?_;exact aE aF ⟨by rfl,rfl⟩ aA
theorem TJ(r:Nat)(s:St)(hs:SOk s):SCall Tryz.prog 170 [.ptr r 0] [(r,.box 117 (bZ s))]
  (fun x σ=>x=.agg (eE (UE s).1)∧σ=[(r,.box 117 (bZ (UE s).2))]):=by
 have w1:=GM r s hs;have k1:=wV s hs;have w2:=GM r _ k1;have k2:=wV _ k1;have w3:=lG r _ k2;have w4:=gV r _ (kQ _ k2);refine bO 15 [0,2,3] Tryz.func170 ?_;refine cV ?_;refine gF fun r2 h2=> ?_;intros
 refine pG ?_;refine cw [(r,.box 117 (bZ s))] Tryz.call260 w1 rfl aB aA ?_;rintro _ σ' ⟨rfl,rfl⟩ h5;refine uC ?_;refine nK [(r,.box 117 (bZ (uQ s).2))] Tryz.call260 w2 ?_;refine iA ?_;refine gF fun r3 h3=> ?_;intros
 refine lM ?_;refine cw [(r,.box 117 (bZ (uQ (uQ s).2).2))] Tryz.call67 w3 rfl aB aA ?_;rintro _ σ' ⟨rfl,rfl⟩ h10;refine iB ?_;refine hX ?_;refine nK [(r,.box 117 (bZ (iV (uQ (uQ s).2).2).2))] Tryz.call68 w4 ?_;refine sG ?_;refine kY ?_;refine oM ?_;refine gL ?_;exact aE aF ⟨by rfl,rfl⟩ aA
theorem TK(r:Nat)(s:St)(hs:SOk s):SCall Tryz.prog 174 [.ptr r 0] [(r,.box 117 (bZ s))]
  (fun x σ=>x=.agg (eF (UF s).1)∧σ=[(r,.box 117 (bZ (UF s).2))]):=by
 have w1:=GL r s hs;have k1:=sS s hs;have w2:=lG r _ k1;have k2:=kQ _ k1;have w3:=wW r _ k2;have ht:(((iV (rP s).2).1:Int) !=0)=((iV (rP s).2).1 !=0):=by rw[Bool.eq_iff_iff];simp only[bne_iff_ne,ne_eq];omega
 refine bO 11 [0,2] Tryz.func174 ?_;refine cV ?_;refine gF fun r2 h2=> ?_;intros
 refine pG ?_;refine cw [(r,.box 117 (bZ s))] Tryz.call259 w1 rfl aB aA ?_;rintro _ σ' ⟨rfl,rfl⟩ h4;refine iB ?_;refine hX ?_;refine nK [(r,.box 117 (bZ (rP s).2))] Tryz.call67 w2 ?_;refine lo (eA (E rfl) (E rfl)) rfl ?_;rw[ht];refine lo (aD (E rfl)) rfl ?_;refine nK [(r,.box 117 (bZ (iV (rP s).2).2))] Tryz.call264 w3 ?_;refine iA ?_;refine gL ?_;exact aE aF ⟨by rfl,rfl⟩ aA
theorem TL(r:Nat)(s:St)(hs:SOk s):SCall Tryz.prog 176 [.ptr r 0] [(r,.box 117 (bZ s))]
  (fun x σ=>x=.agg (dJ (UG s).1)∧σ=[(r,.box 117 (bZ (UG s).2))]):=by
 have w1:=GM r s hs;have k1:=wV s hs;have w3:=lG r _ k1;have w4:=gV r _ (kQ _ k1);refine bO 13 [0,2,3] Tryz.func176 ?_;refine cV ?_;refine gF fun r2 h2=> ?_;intros
 refine pG ?_;refine nK [(r,.box 117 (bZ s))] Tryz.call260 w1 ?_;refine iA ?_;refine gF fun r3 h3=> ?_;intros
 refine lM ?_;refine cw [(r,.box 117 (bZ (uQ s).2))] Tryz.call67 w3 rfl aB aA ?_;rintro _ σ' ⟨rfl,rfl⟩ h8;refine iB ?_;refine hX ?_;refine nK [(r,.box 117 (bZ (iV (uQ s).2).2))] Tryz.call68 w4 ?_;refine sG ?_;refine kY ?_;refine oM ?_;refine gL ?_;exact aE aF ⟨by rfl,rfl⟩ aA
theorem aEa(ls:List Int):VLe (.agg [.ro 1 (ls.map aL) .any,.ro 0 [] .nil]) (.agg (cZ ⟨ls,[]⟩)):=by
 refine VLe.agg rfl fun j a a' ha ha'=> ?_
 match j with
 |0=>cases ha;cases ha';exact VLe.refl _
 |1=>cases ha;cases ha';exact VLe.empty
 | _ +2=>cases ha
theorem aBd(r:Nat)(s:St)(hs:SOk s):SCall Tryz.prog 181 [.ptr r 0] [(r,.box 117 (bZ s))]
  (fun x σ=>x=.agg (cZ (GE s).1)∧σ=[(r,.box 117 (bZ (GE s).2))]):=by
 have w1:=gV r s hs;have k1:=fX s hs;have w2:=TI r _ k1;have k2:=XJ _ k1;have hC:GE s=if(tQ (eY s).2).2.2=true then(⟨(tQ (eY s).2).1,[]⟩,(tQ (eY s).2).2)else(⟨(tQ (eY s).2).1,(jC (tQ (eY s).2).2.1).1⟩,qK (tQ (eY s).2).2 (jC (tQ (eY s).2).2.1).2.1 ((jC (tQ (eY s).2).2.1).2.2==0)):=rfl
 generalize tQ (eY s).2=p at w2 k2 hC;obtain⟨ls,l2,b2⟩:=p;dsimp only at w2 k2 hC;have w3:=WM l2 (by have:=k2.1;dsimp only at this;omega) k2.2;have w4:=fun n ok=>uW r (l2,b2) k2 n ok
 generalize jC l2=g at w3 hC;obtain⟨l,n,e⟩:=g;dsimp only at w3 hC;have w5:=w4 n (e==0);refine bO 34 [0,2,3,4,5,6,15] Tryz.func181 ?_;refine cV ?_;refine gF fun r2 h2=> ?_;intros
 refine pG ?_;refine cw [(r,.box 117 (bZ s))] Tryz.call68 w1 rfl aB aA ?_;rintro _ σ' ⟨rfl,rfl⟩ h8;refine iB ?_;refine hX ?_;refine cw [(r,.box 117 (bZ (eY s).2))] Tryz.call265 w2 rfl aB aA ?_;rintro _ σ' ⟨q,hq,rfl,rfl⟩ h10;have k10:=aO h10;repeat rcases k10 with⟨_,k10⟩
 apply bE;exact bX;refine gX (j:=10) rfl bD (aK bF (by simp)) ?_;refine iA ?_;refine gF fun r3 h3=> ?_;intros
 refine gL ?_;unfold bZ;dsimp only;refine hX ?_;refine iJ ?_;refine gQ ?_;refine aC rfl (fun g3=> ?_) (fun g3=> ?_)
 ·have hE:GE s=(⟨ls,[]⟩,(l2,true)):=by rw[hC,g3];rfl
  rw[g3];refine oM ?_;refine jW (eS (j:=16) rfl (aEa ls)) ?_;refine gL ?_;exact aE aF ⟨by rw[hE];rfl,by rw[hE]⟩ aA
 have hE:GE s=(⟨ls,l⟩,qK (l2,false) n (e==0)):=by rw[hC,g3];rfl
 rw[g3]at w5⊢;refine bH ?_;refine iJ ?_;refine cw [] Tryz.call266 w3 rfl aB aA ?_;rintro _ σ' ⟨q22,rfl,rfl⟩ h22
 replace h22:=fU h22;repeat rcases h22 with⟨_,h22⟩
 refine KM ?_;refine lS ?_;refine DP ?_;refine lo (bY (E rfl) (E rfl)) rfl ?_;refine cw [(r,.box 117 (bZ (l2,false)))] Tryz.call66 w5 rfl aB aA ?_;rintro _ σ' ⟨rfl,rfl⟩ h30;refine iB ?_;refine hX ?_;refine gX (j:=31) rfl bD (aK bF (by simp)) ?_;refine sG ?_;refine kY ?_;refine oM ?_;refine gL ?_;exact aE aF ⟨by rw[hE];rfl,by rw[hE]⟩ aA
theorem aBe{r c d:Nat}{before:Bool}(hc:Nq r c)(hd:Nq r d)(hcd:Nq c d):Gets Tryz.prog 262 [] [.ptr c 0,.ptr d 0] (fun s=>[(r,.box 117 (bZ s)),(c,.box 4 [.bool before]),(d,.box 114 [.ptr r 0])]) (fun x=>.agg (gG x)) (WT before):=by
 refine⟨Tryz.call262,aCD before,fun s hs=> ?_⟩;have w1:=lG r s hs;have w2:=EI r _ (kQ s hs);have w3:=EI r s hs;refine bO 8 [0,1,2,3] Tryz.func262 ?_;refine cV ?_;refine gF fun r2 h2=> ?_;intros
 refine gQ ?_;rcases before with _ | _
 ·refine iD ?_;refine qE ?_;refine iI ?_;refine cV ?_;refine qE ?_;refine cw [(r,.box 117 (bZ s))] Tryz.call263 w3 rfl aB aA ?_;rintro _ σ' ⟨rfl,rfl⟩ h7;apply bE;exact bX;refine gL ?_;exact aE aF ⟨by rfl,rfl⟩ aA
 ·refine iD ?_;refine qE ?_;refine iI ?_;refine cV ?_;refine qE ?_;refine cw [(r,.box 117 (bZ s))] Tryz.call67 w1 rfl aB aA ?_;rintro _ σ' ⟨rfl,rfl⟩ h5;refine sQ ?_;refine cV ?_;refine qE ?_;refine nK [(r,.box 117 (bZ (iV s).2))] Tryz.call263 w2 ?_;refine gL ?_;exact aE aF ⟨by rfl,rfl⟩ aA
theorem zZ(r:Nat)(s:St)(hs:SOk s)(before:Bool):SCall Tryz.prog 172 [.ptr r 0,.bool before] [(r,.box 117 (bZ s))]
  (fun x σ=>x=.agg (gG (LM before s).1)∧σ=[(r,.box 117 (bZ (LM before s).2))]):=by
 have w1:=fun(c d:Nat) hc hd hcd=>aBa (r:=r) (c:=c) (d:=d) (before:=before) hc hd hcd (aBe hc hd hcd) s hs
 have hL:LM before s=((eQ (WT before) s).1.headD BV,(eQ (WT before) s).2):=rfl;generalize eQ (WT before) s=p at w1 hL;obtain⟨l,s2⟩:=p;dsimp only at w1 hL;refine bO 16 [0,1,2,3,4,5,11] Tryz.func172 ?_;refine cV ?_;refine gM fun r2 h2=> ?_;intros
 refine gM fun r3 h3=> ?_;intros
 refine gF fun r4 h4=> ?_;intros
 refine iI ?_;refine cV ?_;refine qE ?_;refine aHx ?_;refine cw [(r,.box 117 (bZ s)),(r3,.box 4 [.bool before]),(r2,.box 114 [.ptr r 0])] Tryz.call261 (w1 r3 r2 (by(exact dP)) (by(exact dP)) (by(exact dP))) rfl aB aA ?_;rintro _ σ' ⟨q8,hq8,rfl,rfl⟩ h8;simp only[aM,aT,and_true]at hq8;repeat rcases hq8 with⟨_,hq8⟩
 have k8:=aO h8;repeat rcases k8 with⟨_,k8⟩
 refine dS ?_;refine vP ?_;refine pF ?_;refine aC rfl (fun g2=> ?_) (fun g2=> ?_)
 ·obtain rfl:l=[]:=by cases l with|nil=>rfl|cons x t=>(simp at g2<;>omega)
  have hE:LM before s=(BV,s2):=hL;refine cV ?_;refine iA ?_;refine gL ?_;exact aE aF ⟨by rw[hE];rfl,by rw[hE]⟩ aA
 obtain⟨x,t,rfl⟩:∃x t,l=x::t:=by cases l with|nil=>simp at g2|cons x t=>exact⟨x,t,rfl⟩
 have hE:LM before s=(x,s2):=hL;have hx:(x::t)[(0:Int).toNat]? =some x:=rfl;have hpos:0<(x::t).length:=Nat.succ_pos _;refine bH ?_;refine uE ?_;refine gL ?_;exact aE aF ⟨by rw[hE];rfl,by rw[hE]⟩ aA
theorem aBf{r c:Nat}(hc:Nq r c):Gets Tryz.prog 178 [] [.ptr c 0] (fun s=>[(r,.box 117 (bZ s)),(c,.box 114 [.ptr r 0])]) (fun x=>.agg (dV x)) WU:=by
 refine⟨Tryz.call178,aCF,fun s hs=> ?_⟩;have w1:=MB r s hs;have w2:=uX (MC r) _ (MA s hs);have hE:WU s=(⟨(JP s).1,(eQ TF (JP s).2).1⟩,(eQ TF (JP s).2).2):=rfl;rw[hE];generalize JP s=p at w1 w2;obtain⟨o,s2⟩:=p;dsimp only at w1 w2;generalize eQ TF s2=p at w2;obtain⟨l,s3⟩:=p;dsimp only at w2;refine bO 9 [0,1] Tryz.func178 ?_;refine cV ?_;refine gF fun r1 h1=> ?_;intros
 refine gQ ?_;refine hU [(0,true),(2,true),(3,true),(4,true),(1,false),(5,false),(6,true),(7,false)] ?_;refine z74 ?_;refine z74 ?_;refine z74 ?_;refine aHy ?_;refine nR [(r,.box 117 (bZ s))] rfl Tryz.call179 w1 rfl aB aA eU ?_;rintro _ σ' ⟨rfl,rfl⟩ h3;apply dY;exact bX;refine nR [(r,.box 117 (bZ s2))] rfl Tryz.call171 w2 rfl aB aA eU ?_;rintro _ σ' ⟨q7,hq7,rfl,rfl⟩ h7;simp only[aM,aT,and_true]at hq7;have k7:=aO h7;repeat rcases k7 with⟨_,k7⟩
 apply dY;exact bX;refine z94 ?_;refine NL ?_;refine FK ?_;refine an ?_;refine dM (iE (r:=r1) (q:=q7) bW bD (.cons (.refl _) (.cons (aK bF (by simp)) .nil))) ?_;refine aJ ?_;exact aE aF ⟨by rfl,rfl⟩ aA
theorem aBg{r c:Nat}(hc:Nq r c):Gets Tryz.prog 183 [] [.ptr c 0] (fun s=>[(r,.box 117 (bZ s)),(c,.box 114 [.ptr r 0])]) (fun x=>.agg (dW x)) WV:=by
 refine⟨Tryz.call183,XP,fun s hs=> ?_⟩;have w1:=MB r s hs;have w2:=XQ r _ (MA s hs);have hE:WV s=(⟨(JP s).1,(uQ (JP s).2).1⟩,(uQ (JP s).2).2):=rfl;rw[hE];generalize JP s=p at w1 w2;obtain⟨o,s2⟩:=p;dsimp only at w1 w2;generalize uQ s2=p at w2;obtain⟨l,s3⟩:=p;dsimp only at w2;refine bO 7 [0,1] Tryz.func183 ?_;refine cV ?_;refine gF fun r1 h1=> ?_;intros
 refine gQ ?_;refine hU [(0,true),(2,true),(1,false),(3,false),(4,true),(5,false)] ?_;refine z74 ?_;refine z74 ?_;refine nR [(r,.box 117 (bZ s))] rfl Tryz.call179 w1 rfl aB aA eU ?_;rintro _ σ' ⟨rfl,rfl⟩ h3;apply dY;exact bX;refine nR [(r,.box 117 (bZ s2))] rfl Tryz.call184 w2 rfl aB aA eU ?_;rintro _ σ' ⟨q5,hq5,rfl,rfl⟩ h5;have k5:=aO h5;repeat rcases k5 with⟨_,k5⟩
 apply dY;exact bX;refine z94 ?_;refine NL ?_;refine FK ?_;refine an ?_;refine dM (iE (r:=r1) (q:=q5) bW bD (.cons (.refl _) (.cons (aK bF (by simp)) .nil))) ?_;refine aJ ?_;exact aE aF ⟨by rfl,rfl⟩ aA
theorem aBh(r:Nat):Gets Tryz.prog 168 [.ptr r 0] [] (fun s=>[(r,.box 117 (bZ s))]) (fun x=>.agg (dF x)) TE:=⟨Tryz.call168,aCC,fun s hs=>aBc r s hs⟩
theorem aBi(r:Nat):Gets Tryz.prog 170 [.ptr r 0] [] (fun s=>[(r,.box 117 (bZ s))]) (fun x=>.agg (eE x)) UE:=⟨Tryz.call170,XM,fun s hs=>TJ r s hs⟩
theorem aBj(r:Nat):Gets Tryz.prog 174 [.ptr r 0] [] (fun s=>[(r,.box 117 (bZ s))]) (fun x=>.agg (eF x)) UF:=⟨Tryz.call174,XN,fun s hs=>TK r s hs⟩
theorem aBk(r:Nat):Gets Tryz.prog 176 [.ptr r 0] [] (fun s=>[(r,.box 117 (bZ s))]) (fun x=>.agg (dJ x)) UG:=⟨Tryz.call176,XO,fun s hs=>TL r s hs⟩
theorem aBl(r:Nat):Gets Tryz.prog 181 [.ptr r 0] [] (fun s=>[(r,.box 117 (bZ s))]) (fun x=>.agg (cZ x)) GE:=⟨Tryz.call181,XK,fun s hs=>aBd r s hs⟩
theorem OT(r m:Nat)(hrm:Nq r m)(s:St)(hs:SOk s)(M:Md)(no:Nat):SCall Tryz.prog 69 [.ptr r 0,.ptr m 0,.int .i64 no] [(r,.box 117 (bZ s)),(m,.box 33 (cQ M))]
  (fun x σ=>x=.tup []∧σ=[(r,.box 117 (bZ (qI no M s).2)),(m,.box 33 (cQ (qI no M s).1))]):=by
 obtain⟨ty,im,fn,tb,me,gl,ex,el,co,da⟩:=M;refine bO 94 [0,1,2,3,6,10,19,28,37,44,51,60,69,77,86] Tryz.func69 ?_;unfold cQ;dsimp only;refine cV ?_;refine gM fun r3 h3=> ?_;intros
 refine pG ?_;refine iI ?_;refine dH ?_;refine aC rfl (fun g3=> ?_) (fun g3=> ?_)
 ·obtain rfl:no=1:=by simp at g3;omega
  have hE:qI 1 ⟨ty,im,fn,tb,me,gl,ex,el,co,da⟩ s=(⟨(eQ TE s).1,im,fn,tb,me,gl,ex,el,co,da⟩,(eQ TE s).2):=rfl;refine bH ?_;refine qE ?_;refine qE ?_;refine KF ?_;refine cw [(r,.box 117 (bZ s))] Tryz.call167 (aA3 (aBh r) s hs) rfl aB aA ?_;rintro _ σ' ⟨q16,hq16,rfl,rfl⟩ h16;simp only[aM,aT,and_true]at hq16;have k16:=aO h16;repeat rcases k16 with⟨_,k16⟩
  apply bE;exact bX;refine gX (j:=16) rfl bD (aK bF (by simp)) ?_;refine qZ ?_;refine cK ?_;exact aE aF ⟨by rfl,by rw[hE]⟩ aA
 refine dH ?_;refine aC rfl (fun g5=> ?_) (fun g5=> ?_)
 ·obtain rfl:no=2:=by simp at g5;omega
  have hE:qI 2 ⟨ty,im,fn,tb,me,gl,ex,el,co,da⟩ s=(⟨ty,(eQ UE s).1,fn,tb,me,gl,ex,el,co,da⟩,(eQ UE s).2):=rfl;refine bH ?_;refine qE ?_;refine qE ?_;refine KF ?_;refine cw [(r,.box 117 (bZ s))] Tryz.call169 (aA4 (aBi r) s hs) rfl aB aA ?_;rintro _ σ' ⟨q25,hq25,rfl,rfl⟩ h25;simp only[aM,aT,and_true]at hq25;have k25:=aO h25;repeat rcases k25 with⟨_,k25⟩
  apply bE;exact bX;refine gX (j:=25) rfl bD (aK bF (by simp)) ?_;refine qZ ?_;refine cK ?_;exact aE aF ⟨by rfl,by rw[hE]⟩ aA
 refine dH ?_;refine aC rfl (fun g7=> ?_) (fun g7=> ?_)
 ·obtain rfl:no=3:=by simp at g7;omega
  have hE:qI 3 ⟨ty,im,fn,tb,me,gl,ex,el,co,da⟩ s=(⟨ty,im,(eQ TF s).1,tb,me,gl,ex,el,co,da⟩,(eQ TF s).2):=rfl;refine bH ?_;refine qE ?_;refine qE ?_;refine KF ?_;refine cw [(r,.box 117 (bZ s))] Tryz.call171 (uX (MC r) s hs) rfl aB aA ?_;rintro _ σ' ⟨q34,hq34,rfl,rfl⟩ h34;simp only[aM,aT,and_true]at hq34;have k34:=aO h34;repeat rcases k34 with⟨_,k34⟩
  apply bE;exact bX;refine gX (j:=34) rfl bD (aK bF (by simp)) ?_;refine qZ ?_;refine cK ?_;exact aE aF ⟨by rfl,by rw[hE]⟩ aA
 refine dH ?_;refine aC rfl (fun g9=> ?_) (fun g9=> ?_)
 ·obtain rfl:no=4:=by simp at g9;omega
  have hE:qI 4 ⟨ty,im,fn,tb,me,gl,ex,el,co,da⟩ s=(⟨ty,im,fn,(LM true s).1,me,gl,ex,el,co,da⟩,(LM true s).2):=rfl;refine bH ?_;refine qE ?_;refine nK [(r,.box 117 (bZ s))] Tryz.call172 (zZ r s hs true) ?_;refine qZ ?_;refine cK ?_;exact aE aF ⟨by rfl,by rw[hE]⟩ aA
 refine dH ?_;refine aC rfl (fun g11=> ?_) (fun g11=> ?_)
 ·obtain rfl:no=5:=by simp at g11;omega
  have hE:qI 5 ⟨ty,im,fn,tb,me,gl,ex,el,co,da⟩ s=(⟨ty,im,fn,tb,(LM false s).1,gl,ex,el,co,da⟩,(LM false s).2):=rfl;refine bH ?_;refine qE ?_;refine nK [(r,.box 117 (bZ s))] Tryz.call172 (zZ r s hs false) ?_;refine qZ ?_;refine cK ?_;exact aE aF ⟨by rfl,by rw[hE]⟩ aA
 refine dH ?_;refine aC rfl (fun g13=> ?_) (fun g13=> ?_)
 ·obtain rfl:no=6:=by simp at g13;omega
  have hE:qI 6 ⟨ty,im,fn,tb,me,gl,ex,el,co,da⟩ s=(⟨ty,im,fn,tb,me,(eQ UF s).1,ex,el,co,da⟩,(eQ UF s).2):=rfl;refine bH ?_;refine qE ?_;refine qE ?_;refine KF ?_;refine cw [(r,.box 117 (bZ s))] Tryz.call173 (aA5 (aBj r) s hs) rfl aB aA ?_;rintro _ σ' ⟨q57,hq57,rfl,rfl⟩ h57;simp only[aM,aT,and_true]at hq57;have k57:=aO h57;repeat rcases k57 with⟨_,k57⟩
  apply bE;exact bX;refine gX (j:=57) rfl bD (aK bF (by simp)) ?_;refine qZ ?_;refine cK ?_;exact aE aF ⟨by rfl,by rw[hE]⟩ aA
 refine dH ?_;refine aC rfl (fun g15=> ?_) (fun g15=> ?_)
 ·obtain rfl:no=7:=by simp at g15;omega
  have hE:qI 7 ⟨ty,im,fn,tb,me,gl,ex,el,co,da⟩ s=(⟨ty,im,fn,tb,me,gl,(eQ UG s).1,el,co,da⟩,(eQ UG s).2):=rfl;refine bH ?_;refine qE ?_;refine qE ?_;refine KF ?_;refine cw [(r,.box 117 (bZ s))] Tryz.call175 (aA6 (aBk r) s hs) rfl aB aA ?_;rintro _ σ' ⟨q66,hq66,rfl,rfl⟩ h66;simp only[aM,aT,and_true]at hq66;have k66:=aO h66;repeat rcases k66 with⟨_,k66⟩
  apply bE;exact bX;refine gX (j:=66) rfl bD (aK bF (by simp)) ?_;refine qZ ?_;refine cK ?_;exact aE aF ⟨by rfl,by rw[hE]⟩ aA
 refine dH ?_;refine aC rfl (fun g17=> ?_) (fun g17=> ?_)
 ·obtain rfl:no=9:=by simp at g17;omega
  have hE:qI 9 ⟨ty,im,fn,tb,me,gl,ex,el,co,da⟩ s=(⟨ty,im,fn,tb,me,gl,ex,(eQ WU s).1,co,da⟩,(eQ WU s).2):=rfl;refine bH ?_;refine qE ?_;refine SH ?_;refine cw [(r,.box 117 (bZ s)),(r3,.box 114 [.ptr r 0])] Tryz.call177 (aA8 (r:=r) (c:=r3) (by(exact dP)) (aBf (by(exact dP))) s hs) rfl aB aA ?_;rintro _ σ' ⟨q74,hq74,rfl,rfl⟩ h74;simp only[aM,aT,and_true]at hq74;repeat rcases hq74 with⟨_,hq74⟩
  have k74:=aO h74;repeat rcases k74 with⟨_,k74⟩
  apply bE;exact bX;refine gX (j:=74) rfl bD (aK bF (by simp)) ?_;refine qZ ?_;refine cK ?_;exact aE aF ⟨by rfl,by rw[hE]⟩ aA
 refine dH ?_;refine aC rfl (fun g19=> ?_) (fun g19=> ?_)
 ·obtain rfl:no=10:=by simp at g19;omega
  have hE:qI 10 ⟨ty,im,fn,tb,me,gl,ex,el,co,da⟩ s=(⟨ty,im,fn,tb,me,gl,ex,el,(eQ GE s).1,da⟩,(eQ GE s).2):=rfl;refine bH ?_;refine qE ?_;refine qE ?_;refine KF ?_;refine cw [(r,.box 117 (bZ s))] Tryz.call180 (aA7 (aBl r) s hs) rfl aB aA ?_;rintro _ σ' ⟨q83,hq83,rfl,rfl⟩ h83;simp only[aM,aT,and_true]at hq83;have k83:=aO h83;repeat rcases k83 with⟨_,k83⟩
  apply bE;exact bX;refine gX (j:=83) rfl bD (aK bF (by simp)) ?_;refine qZ ?_;refine cK ?_;exact aE aF ⟨by rfl,by rw[hE]⟩ aA
 refine dH ?_;refine aC rfl (fun g21=> ?_) (fun g21=> ?_)
 ·obtain rfl:no=11:=by simp at g21;omega
  have hE:qI 11 ⟨ty,im,fn,tb,me,gl,ex,el,co,da⟩ s=(⟨ty,im,fn,tb,me,gl,ex,el,co,(eQ WV s).1⟩,(eQ WV s).2):=rfl;refine bH ?_;refine qE ?_;refine SH ?_;refine cw [(r,.box 117 (bZ s)),(r3,.box 114 [.ptr r 0])] Tryz.call182 (aA9 (r:=r) (c:=r3) (by(exact dP)) (aBg (by(exact dP))) s hs) rfl aB aA ?_;rintro _ σ' ⟨q91,hq91,rfl,rfl⟩ h91;simp only[aM,aT,and_true]at hq91;repeat rcases hq91 with⟨_,hq91⟩
  have k91:=aO h91;repeat rcases k91 with⟨_,k91⟩
  apply bE;exact bX;refine gX (j:=91) rfl bD (aK bF (by simp)) ?_;refine qZ ?_;refine cK ?_;exact aE aF ⟨by rfl,by rw[hE]⟩ aA
 have e1:no≠1:=by(simp at g3;omega)
 have e2:no≠2:=by(simp at g5;omega)
 have e3:no≠3:=by(simp at g7;omega)
 have e4:no≠4:=by(simp at g9;omega)
 have e5:no≠5:=by(simp at g11;omega)
 have e6:no≠6:=by(simp at g13;omega)
 have e7:no≠7:=by(simp at g15;omega)
 have e9:no≠9:=by(simp at g17;omega)
 have e10:no≠10:=by(simp at g19;omega)
 have e11:no≠11:=by(simp at g21;omega)
 have hE:qI no ⟨ty,im,fn,tb,me,gl,ex,el,co,da⟩ s=(⟨ty,im,fn,tb,me,gl,ex,el,co,da⟩,(s.1,true)):=by unfold qI;rw[if_neg e1];rw[if_neg e2];rw[if_neg e3];rw[if_neg e4];rw[if_neg e5];rw[if_neg e6];rw[if_neg e7];rw[if_neg e9];rw[if_neg e10];rw[if_neg e11]
 refine cV ?_;refine qE ?_;refine qZ ?_;refine cK ?_;exact aE aF ⟨by rfl,by rw[hE]⟩ aA
theorem GN{s:St}(h:SOk s):iZ (uQ s).1:=by
 have h1:=fX s h;unfold uQ;dsimp only;split
 ·exact⟨by simp,by simp⟩
 ·exact⟨by have:=h1.1;simp;omega,fun c hc=>h1.2 c (List.mem_of_mem_take hc)⟩
theorem XR{α:Type}{get:St→α×St}{p:α→Prop}(hk:Kp get)(hp:∀s,SOk s→p (get s).1):∀n s,SOk s→(∀x∈(hY get n s).1,p x)∧(hY get n s).1.length≤n
 |0,s,h=>⟨by simp[hY],by simp[hY]⟩
 |n+1,s,h=>by
  rw[hY];split
  ·exact⟨by simp,by simp⟩
  ·obtain⟨h1,h2⟩:=XR hk hp n _ (hk s h);refine⟨fun x hx=> ?_,by simpa using h2⟩;rcases List.mem_cons.1 hx with rfl|hx
   ·exact hp s h
   ·exact h1 x hx
theorem AA{α:Type}{get:St→α×St}{p:α→Prop}(hk:Kp get)(hp:∀s,SOk s→p (get s).1){s:St}(h:SOk s):(∀x∈(eQ get s).1,p x)∧(eQ get s).1.length≤4294967296:=by
 obtain⟨h1,h2⟩:=XR hk hp (eY s).1 _ (fX s h);exact⟨h1,Nat.le_trans h2 (Nat.le_of_lt (rS s))⟩
theorem aBm:ins0.Ok:=⟨by decide,by decide,by decide,by decide,by decide⟩
theorem XS{l:List Nat}(hlt:∀x∈l,x<256):(eB l).1.Ok:=by
 by_cases h:(eB l).2.2=0
 ·exact(tJ hlt h).1
 ·have hf:∀x n e,(jQ x n e).2.2≠0→(jQ x n e).1=ins0:=fun x n e h=>by
   unfold jQ at h⊢;split
   ·rfl
   ·next hh=>rw[if_neg hh]at h;exact absurd rfl h
  have:(eB l).1=ins0:=by
   unfold eB at h⊢;split
   ·rfl
   ·next h1=>
    rw[if_neg h1]at h;split
    ·rfl
    ·next h2=>
     rw[if_neg h2]at h;unfold pI at h⊢;dsimp only at h⊢;repeat' split
     all_goals (first|rfl|skip)
     all_goals apply hf
     all_goals simp_all
  rw[this];exact aBm
theorem aBn{s:St}(h:SOk s):-9223372036854775808≤(JO s).1.2∧(JO s).1.2≤9223372036854775807:=by
 have h1:=XS h.2;unfold JO;dsimp only;split
 ·exact⟨h1.2.2.1,h1.2.2.2.1⟩
 ·exact⟨h1.2.2.1,h1.2.2.2.1⟩
theorem aBo{s:St}(h:SOk s):(GE s).1.bd.length≤100000∧∀x∈(GE s).1.bd,x.Ok:=by
 have k1:=XJ _ (fX s h);have hC:GE s=if(tQ (eY s).2).2.2=true then(⟨(tQ (eY s).2).1,[]⟩,(tQ (eY s).2).2)else(⟨(tQ (eY s).2).1,(jC (tQ (eY s).2).2.1).1⟩,qK (tQ (eY s).2).2 (jC (tQ (eY s).2).2.1).2.1 ((jC (tQ (eY s).2).2.1).2.2==0)):=rfl
 rw[hC];split
 ·exact⟨by simp,by simp⟩
 ·have k2:=k1.2;generalize(tQ (eY s).2).2.1=l at k2⊢;by_cases he:(jC l).2.2=0
  ·obtain⟨h1,h2,h3⟩:=ON k2 he;refine⟨?_,fun x hx=>(h3 x hx).1⟩;have:=QK h1;simp only[dQ,List.length_map]at this;dsimp only;omega
  ·rw[(WI l he).1];exact⟨by simp,by simp⟩
theorem aGl(no:Nat){m:Md}(h:m.WO){s:St}(hs:SOk s):(qI no m s).1.WO:=by
 obtain⟨⟨h1,h2,h3,h4,h7⟩,h5,h6⟩:=h;unfold qI;split
 ·exact⟨⟨h1,h2,h3,h4,h7⟩,h5,h6⟩
 split
 ·have:=AA (p:=fun x:Im=>iZ x.mod∧iZ x.nm) XM (fun s hs=>⟨GN hs,GN (wV s hs)⟩) hs;exact⟨⟨this.1,h2,h3,this.2,h7⟩,h5,h6⟩
 split
 ·exact⟨⟨h1,h2,h3,h4,h7⟩,h5,h6⟩
 split
 ·exact⟨⟨h1,h2,h3,h4,h7⟩,h5,h6⟩
 split
 ·exact⟨⟨h1,h2,h3,h4,h7⟩,h5,h6⟩
 split
 ·have:=AA (p:=fun g:Gl=> -9223372036854775808≤g.n∧g.n≤9223372036854775807) XN (fun s hs=>aBn (kQ _ (sS s hs))) hs;exact⟨⟨h1,h2,h3,h4,h7⟩,h5,this.1⟩
 split
 ·have:=AA (p:=fun x:Ex=>iZ x.nm) XO (fun s hs=>GN hs) hs;exact⟨⟨h1,this.1,h3,h4,h7⟩,h5,h6⟩
 split
 ·exact⟨⟨h1,h2,h3,h4,h7⟩,h5,h6⟩
 split
 ·have:=AA (p:=fun c:Co=>c.bd.length≤100000∧∀x∈c.bd,x.Ok) XK (fun s hs=>aBo hs) hs;exact⟨⟨h1,h2,fun c hc=>(this.1 c hc).1,h4,h7⟩,fun c hc=>(this.1 c hc).2,h6⟩
 split
 ·have:=AA (p:=fun x:Da=>∀c∈x.bs,c<256) XP (fun s hs=>(GN (MA s hs)).2) hs;exact⟨⟨h1,h2,h3,h4,this.1⟩,h5,h6⟩
 ·exact⟨⟨h1,h2,h3,h4,h7⟩,h5,h6⟩
theorem aGm(no:Nat)(m:Md){s:St}(hs:SOk s):SOk (qI no m s).2:=by
 unfold qI;split
 ·exact oR aCC s hs
 split
 ·exact oR XM s hs
 split
 ·exact oR XL s hs
 split
 ·exact aCE true s hs
 split
 ·exact aCE false s hs
 split
 ·exact oR XN s hs
 split
 ·exact oR XO s hs
 split
 ·exact oR aCF s hs
 split
 ·exact oR XK s hs
 split
 ·exact oR XP s hs
 ·exact hs
theorem wo0:md0.WO:=⟨⟨by simp[md0],by simp[md0],by simp[md0],by simp[md0],by simp[md0]⟩,by simp[md0],by simp[md0]⟩
theorem aBp{m:Md}{s:St}(h:(s.1.isEmpty||s.2)=true):DN m s=(m,s):=by
 unfold DN;rw[WW,if_pos h]
theorem aBq{m:Md}{s:St}(h:s.1≠ [])(hb:s.2=false):DN m s=DN (qI (iV s).1 m (eY (iV s).2).2).1 (qI (iV s).1 m (eY (iV s).2).2).2∧(qI (iV s).1 m (eY (iV s).2).2).2.1.length<s.1.length:=by
 have h1:(qI (iV s).1 m (eY (iV s).2).2).2.1.length<s.1.length:=Nat.lt_of_le_of_lt (aCv _ _ _) (Nat.lt_of_le_of_lt (nF _) (aCm s h hb));refine⟨?_,h1⟩;unfold DN;rw[WW,if_neg (by rw[hb];simp[h])];exact uR _ _ _ _ h1 (Nat.lt_succ_self _)
theorem aEb(b:List Nat):sK b=DN md0 (qK (b, !decide (b.take 8=headB)) 8 true):=by
 unfold sK DN;refine uR _ _ _ _ ?_ (Nat.lt_succ_self _);exact Nat.lt_succ_of_le (LO _ _ _)
theorem AB(bs ps:List Nat)(h1:bs.length≤1000000)(h2:ps.length≤1000000)(l1:∀c∈bs,c<256)(l2:∀c∈ps,c<256):SCall Tryz.prog 165 [.str (cU bs),.str (cU ps)] [] (fun x σ=>x=.bool (decide (bs.take ps.length=ps))∧σ=[]):=by
 have hq:((cU ((bs.drop 0).take (ps.length-0))).toList==(cU ps).toList)=decide (bs.take ps.length=ps):=by
  rw[List.drop_zero,Nat.sub_zero];exact mS (fun c hc=>l1 c (List.mem_of_mem_take hc)) l2
 refine bO 18 [0,1,4] Tryz.func165 ?_;refine bV ?_;by_cases hl:ps.length≤bs.length
 ·have hE:AV.bool (decide (bs.take ps.length=ps))=AV.bool (decide (bs.take ps.length=ps)):=rfl;refine hX ?_;refine lo (iL (E rfl)) rfl ?_;refine lo (aD (E rfl)) rfl ?_;refine lo (iL (E rfl)) rfl ?_;rw[mQ,mQ];refine lo (eW (E rfl) (E rfl)) rfl ?_;rw[decide_eq_true (show(ps.length:Int)≤bs.length by omega)];refine gA ?_;refine eJ ?_;refine aFq ?_;rw[mQ];refine aFr ?_;refine eJ ?_;refine aFs ?_;rw[hq];refine iS ?_;exact aE aF ⟨by rw[hE];rfl,rfl⟩ aA
 ·have hE:decide (bs.take ps.length=ps)=false:=decide_eq_false fun e=>by have:=congrArg List.length e;simp at this;omega
  refine hX ?_;refine lo (iL (E rfl)) rfl ?_;refine lo (aD (E rfl)) rfl ?_;refine lo (iL (E rfl)) rfl ?_;rw[mQ,mQ];refine lo (eW (E rfl) (E rfl)) rfl ?_;rw[decide_eq_false (show¬(ps.length:Int)≤bs.length by omega)];refine gA ?_;refine eJ ?_;refine aFq ?_;refine aFr ?_;refine eJ ?_;refine aFs ?_;refine iS ?_;exact aE aF ⟨by rw[hE];rfl,rfl⟩ aA
theorem CA(bs ps:List Nat)(h1:bs.length≤1000000)(h2:ps.length≤1000000)(l1:∀c∈bs,c<256)(l2:∀c∈ps,c<256):SCall Tryz.prog 65 [.str (cU bs),.str (cU ps)] [] (fun x σ=>x=.bool (decide (bs.take ps.length=ps))∧σ=[]):=by
 refine bO 8 [0,1,4] Tryz.func65 ?_;refine jF ?_;refine jK Tryz.call165 (AB bs ps h1 h2 l1 l2) rfl aQ aW ?_;refine cI ?_;exact aE aF ⟨by rfl,rfl⟩ aA
theorem AC{k k2:Rk}(a c:List Nat)(l1:∀x∈a,x<256)(l2:∀x∈c,x<256):SCall Tryz.prog 70 [.ro 1 (a.map aH) k,.ro 1 (c.map aH) k2] [] (fun x σ=>x=.bool (decide (a=c))∧σ=[]):=by
 refine bO 10 [0,1,4] Tryz.func70 ?_;refine kM ?_;refine aAk ?_;refine lo (aD (E rfl)) rfl ?_;refine aAk ?_;refine lo (qP (E rfl) (E rfl)) rfl ?_;refine cI ?_;exact aE aF ⟨by rw[←mS l1 l2];rfl,rfl⟩ aA
end Go.Proofs.YtjpdadobblffmaaGreat
