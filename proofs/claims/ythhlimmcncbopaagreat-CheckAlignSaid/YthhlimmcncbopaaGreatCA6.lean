import Derived.Test.YthhlimmcncbopaaGreatCA5
set_option linter.unusedSimpArgs false
set_option linter.unusedVariables false
set_option maxRecDepth 100000
set_option maxHeartbeats 4000000
/-
  Both arms of an if give what it says; without an else it gives nothing.
-/
namespace Go.Proofs.YthhlimmcncbopaaGreat
open Go.RowKit Go.ChangeShapes Go.WideShapes Go.ChangeAt Go.Deep
attribute [local irreducible] SW RS RD AThen ABlock
def putI : List Ins := [⟨1, 0, 0, []⟩, ⟨65, 0, 0, []⟩, ⟨66, 0, 0, []⟩]
def pI (A : Int) : Ins := putI.getD A.toNat ⟨1, 0, 0, []⟩
theorem pI_at {A : Int} (hA : A = 0 ∨ A = 1 ∨ A = 2) : putI[A.toNat]? = some (pI A) := by rcases hA with rfl | rfl | rfl <;> rfl
theorem pI_l {A : Int} (hA : A = 0 ∨ A = 1 ∨ A = 2) : (pI A).l = [] ∧ (pI A).a = 0 := by rcases hA with rfl | rfl | rfl <;> exact ⟨rfl, rfl⟩
def ifL (K A B : Int) (o : Bool) : List Ins := [⟨65, 0, 0, []⟩, ⟨4, K, 0, []⟩, pI A] ++ ((if o = true then [⟨5, 0, 0, []⟩, pI B] else []) ++ [⟨11, 0, 0, []⟩])
def ifM (K A B : Int) (o : Bool) : List Ins := [⟨65, 0, 0, []⟩, ⟨4, K, 0, []⟩, pI A] ++ (if o = true then [⟨5, 0, 0, []⟩, pI B] else [])
theorem if_len (K A B : Int) (o : Bool) : (ifL K A B o).length ≤ 6 ∧ (ifM K A B o).length ≤ 5 := by cases o <;> simp [ifL, ifM]
theorem if_mem {K A B : Int} {o : Bool} (hK : K = 0 ∨ K = 1 ∨ K = 2) (hA : A = 0 ∨ A = 1 ∨ A = 2) (hB : B = 0 ∨ B = 1 ∨ B = 2) : ∀ x ∈ ifL K A B o, (0 ≤ x.a ∧ x.a ≤ 2) ∧ x.l = [] := fun x hx => by
  have ha := pI_l hA
  have hb := pI_l hB
  cases o
  · simp only [ifL, Bool.false_eq_true, if_false, List.cons_append, List.nil_append, List.mem_cons, List.not_mem_nil, or_false] at hx
    rcases hx with rfl | rfl | rfl | rfl
    · exact ⟨⟨by decide, by decide⟩, rfl⟩
    · exact ⟨⟨by show 0 ≤ K; omega, by show K ≤ 2; omega⟩, rfl⟩
    · exact ⟨⟨by rw [ha.2]; decide, by rw [ha.2]; decide⟩, ha.1⟩
    · exact ⟨⟨by decide, by decide⟩, rfl⟩
  · simp only [ifL, if_true, List.cons_append, List.nil_append, List.mem_cons, List.not_mem_nil, or_false] at hx
    rcases hx with rfl | rfl | rfl | rfl | rfl | rfl
    · exact ⟨⟨by decide, by decide⟩, rfl⟩
    · exact ⟨⟨by show 0 ≤ K; omega, by show K ≤ 2; omega⟩, rfl⟩
    · exact ⟨⟨by rw [ha.2]; decide, by rw [ha.2]; decide⟩, ha.1⟩
    · exact ⟨⟨by decide, by decide⟩, rfl⟩
    · exact ⟨⟨by rw [hb.2]; decide, by rw [hb.2]; decide⟩, hb.1⟩
    · exact ⟨⟨by decide, by decide⟩, rfl⟩
theorem if_ck {K A B : Int} {o : Bool} (hK : K = 0 ∨ K = 1 ∨ K = 2) (hA : A = 0 ∨ A = 1 ∨ A = 2) (hB : B = 0 ∨ B = 1 ∨ B = 2) : ∀ x ∈ ifL K A B o, x.Ck := fun x hx => by
  obtain ⟨⟨h1, h2⟩, h3⟩ := if_mem hK hA hB x hx
  exact ⟨fun _ => h1, fun _ => by rw [h3]; simp, by rw [h3]; simp, by omega⟩
theorem if_ok {K A B : Int} (o : Bool) (hK : K = 0 ∨ K = 1 ∨ K = 2) (hA : A = 0 ∨ A = 1 ∨ A = 2) (hB : B = 0 ∨ B = 1 ∨ B = 2) :
    (chkP (fullM [] (resL K) [⟨[], ifL K A B o⟩, oneC]) 0 == (if (A == K) = true then (if (if o = true then (B == K) else false) = true then true else (if (!o) = true then (K == 0) else false)) else false)) = true := by
  rcases hK with rfl | rfl | rfl <;> rcases hA with rfl | rfl | rfl <;> rcases hB with rfl | rfl | rfl <;> cases o <;> decide +kernel
theorem mod3i (w : Int) : (-3 < w.tmod 3 ∧ w.tmod 3 < 3) ∧ ((w.tmod 3 + 3).tmod 3 = 0 ∨ (w.tmod 3 + 3).tmod 3 = 1 ∨ (w.tmod 3 + 3).tmod 3 = 2) := by
  have h1 : -3 < w.tmod 3 ∧ w.tmod 3 < 3 := ⟨Int.lt_tmod_of_pos w (by decide), Int.tmod_lt_of_pos w (by decide)⟩
  have h2 := Int.tmod_nonneg (a := w.tmod 3 + 3) 3 (by omega)
  have h3 := Int.tmod_lt_of_pos (w.tmod 3 + 3) (show (0 : Int) < 3 by decide)
  exact ⟨h1, by omega⟩
theorem law_checkIf2 (k a b : Int) (o : Bool) : SCall Tryz.prog 7 [.int .i64 k, .int .i64 a, .int .i64 b, .bool o] [] (fun y σ => y = .bool true ∧ σ = []) := by
  obtain ⟨hk1, hK⟩ := mod3i k
  obtain ⟨ha1, hA⟩ := mod3i a
  obtain ⟨hb1, hB⟩ := mod3i b
  refine scall_of (n := 77) (ks := [0, 1, 2, 3, 8, 9, 10, 11, 12, 15, 40]) Tryz.func7 rfl rfl (Nat.le_of_ble_eq_true rfl) ?_
  refine sq65 ?_
  refine puA Tryz.call14 law_begun8 rfl pargsT nofT ?_
  refine sq99 ?_
  refine sq27 ?_
  refine z22 ?_
  refine z17 ?_
  refine z22 ?_
  refine lo (lop_move (E rfl)) rfl ?_
  refine z22 ?_
  refine z17 ?_
  refine z22 ?_
  refine lo (lop_move (E rfl)) rfl ?_
  refine z22 ?_
  refine z17 ?_
  refine z22 ?_
  refine sq23 ?_
  generalize (k.tmod 3 + 3).tmod 3 = K at hK ⊢
  generalize (a.tmod 3 + 3).tmod 3 = A at hA ⊢
  generalize (b.tmod 3 + 3).tmod 3 = B at hB ⊢
  have hpA := pI_at hA
  have hpB := pI_at hB
  have hpl : putI.length = 3 := rfl
  have hml := (if_len K A B o).2
  have hll := (if_len K A B o).1
  refine rgT ?_
  refine z93 ?_
  refine z93 ?_
  refine z93 ?_
  refine z1 ?_; refine freshT fun r31 h31 => ?_; repeat rcases h31 with ⟨_, h31⟩
  refine fzv (j := 31) (v' := .ro 4 (putI.map encNl) .any) rfl sdelT (bor_own sgT (by rfl)) ?_
  refine sq25 ?_
  refine sq98 ?_
  refine sq98 ?_
  refine sq88 ?_
  refine z1 ?_; refine freshT fun r39 h39 => ?_; repeat rcases h39 with ⟨_, h39⟩
  refine sq37 ?_
  refine sq4 ?_
  refine sw_cond rfl (fun g7 => ?_) (fun g7 => ?_)
  · have ho : o = true := g7
    refine sq7 ?_
    refine sq98 ?_
    refine sq88 ?_
    refine z1 ?_; refine freshT fun r47 h47 => ?_; repeat rcases h47 with ⟨_, h47⟩
    refine apA ((ifM K A B o).map encNl) (ifM K A B o).length ?_ (he := by rw [ho]; rfl) (hl' := by rw [ho]; rfl) (hmax := by simp [maxLen]; omega) (hby := by omega)
    refine apnT fun r48 h48 => ?_; repeat rcases h48 with ⟨_, h48⟩
    refine sq2 ?_
    obtain ⟨R, rfl⟩ : ∃ R, R = r48 := ⟨_, rfl⟩
    refine sq1 ?_
    refine z93 ?_
    refine z1 ?_; refine freshT fun r51 h51 => ?_; repeat rcases h51 with ⟨_, h51⟩
    refine apA ((ifL K A B o).map encNl) (ifL K A B o).length ?_ (he := by rw [ho]; rfl) (hl' := by rw [ho]; rfl) (hmax := by simp [maxLen]; omega) (hby := by omega)
    refine apnT fun r52 h52 => ?_; repeat rcases h52 with ⟨_, h52⟩
    refine sq64 ?_
    refine sq85 ?_
    refine z133 ?_
    first | refine ln rfl rfl rfl rfl ?_ | (refine gy rfl rfl ?_; refine lo (lop_move (E rfl)) rfl ?_) | refine lg rfl rfl (lop_move (E rfl)) rfl ?_ | refine lw rfl rfl (lop_move (E rfl)) rfl ?_ | refine lw rfl rfl (lop_no (v := .bool false)) rfl ?_
    first | refine ln rfl rfl rfl rfl ?_ | (refine gy rfl rfl ?_; refine lo (lop_move (E rfl)) rfl ?_) | refine lg rfl rfl (lop_move (E rfl)) rfl ?_ | refine lw rfl rfl (lop_move (E rfl)) rfl ?_ | refine lw rfl rfl (lop_no (v := .bool false)) rfl ?_
    first | refine ln rfl rfl rfl rfl ?_ | (refine gy rfl rfl ?_; refine lo (lop_eql (by first | exact W rfl id | exact E rfl) (by first | exact W rfl id | exact E rfl)) rfl ?_) | refine lg rfl rfl (lop_eql (by first | exact W rfl (by first | exact id | simp) | exact E rfl) (by first | exact W rfl (by first | exact id | simp) | exact E rfl)) rfl ?_ | refine lw rfl rfl (lop_eql (by first | exact W rfl (by first | exact id | simp) | exact E rfl) (by first | exact W rfl (by first | exact id | simp) | exact E rfl)) rfl ?_ | refine lw rfl rfl (lop_no (v := .bool false)) rfl ?_
    refine z137 ?_
    refine z133 ?_
    first | refine ln rfl rfl rfl rfl ?_ | (refine gy rfl rfl ?_; refine lo (lop_move (E rfl)) rfl ?_) | refine lg rfl rfl (lop_move (E rfl)) rfl ?_ | refine lw rfl rfl (lop_move (E rfl)) rfl ?_ | refine lw rfl rfl (lop_no (v := .bool false)) rfl ?_
    first | refine ln rfl rfl rfl rfl ?_ | (refine gy rfl rfl ?_; refine lo (lop_not (by first | exact W rfl id | exact E rfl)) rfl ?_) | refine lg rfl rfl (lop_not (by first | exact W rfl (by first | exact id | simp) | exact E rfl)) rfl ?_ | refine lw rfl rfl (lop_not (by first | exact W rfl (by first | exact id | simp) | exact E rfl)) rfl ?_ | refine lw rfl rfl (lop_no (v := .bool false)) rfl ?_
    first | refine ln rfl rfl rfl rfl ?_ | (refine gy rfl rfl ?_; refine lo (lop_move (by first | exact W rfl id | exact E rfl)) rfl ?_) | refine lg rfl rfl (lop_move (by first | exact W rfl (by first | exact id | simp) | exact E rfl)) rfl ?_ | refine lw rfl rfl (lop_move (by first | exact W rfl (by first | exact id | simp) | exact E rfl)) rfl ?_ | refine lw rfl rfl (lop_no (v := .bool false)) rfl ?_
    first | refine ln rfl rfl rfl rfl ?_ | (refine gy rfl rfl ?_; refine lo (lop_move (E rfl)) rfl ?_) | refine lg rfl rfl (lop_move (E rfl)) rfl ?_ | refine lw rfl rfl (lop_move (E rfl)) rfl ?_ | refine lw rfl rfl (lop_no (v := .bool false)) rfl ?_
    refine z146 ?_
    first | refine ln rfl rfl rfl rfl ?_ | (refine gy rfl rfl ?_; (first | refine lo (lop_pick_t (by first | exact W rfl id | exact E rfl) (by first | exact W rfl (by simp) | exact E rfl)) rfl ?_ | refine lo (lop_pick_f (by first | exact W rfl id | exact E rfl) (E rfl)) rfl ?_ | refine lo (lop_pick (by first | exact W rfl id | exact E rfl) (by first | exact W rfl (by simp) | exact E rfl) (E rfl)) rfl ?_)) | refine lg rfl rfl (lop_pick_t (by first | exact W rfl (by first | exact id | simp) | exact E rfl) (by first | exact W rfl (by simp) | exact E rfl)) rfl ?_ | refine lg rfl rfl (lop_pick_f (by first | exact W rfl (by first | exact id | simp) | exact E rfl) (E rfl)) rfl ?_ | refine lg rfl rfl (lop_pick (by first | exact W rfl (by first | exact id | simp) | exact E rfl) (by first | exact W rfl (by simp) | exact E rfl) (E rfl)) rfl ?_ | refine lw rfl rfl (lop_pick_t (by first | exact W rfl (by first | exact id | simp) | exact E rfl) (by first | exact W rfl (by simp) | exact E rfl)) rfl ?_ | refine lw rfl rfl (lop_pick_f (by first | exact W rfl (by first | exact id | simp) | exact E rfl) (E rfl)) rfl ?_ | refine lw rfl rfl (lop_pick (by first | exact W rfl (by first | exact id | simp) | exact E rfl) (by first | exact W rfl (by simp) | exact E rfl) (E rfl)) rfl ?_ | refine lw rfl rfl (lop_no (v := .bool false)) rfl ?_
    refine z147 ?_
    refine sq31 ?_
    refine sq5 ?_
    refine fzv (j := 73) rfl sdelT (bor_own sgT (by simp)) ?_
    refine rs_go (sgo_vle (j := 73) rfl (vle_nl (l := ifL K A B o) (fun x hx => (if_mem hK hA hB x hx).2))) ?_
    refine puA Tryz.call21 (law_fits K (ifL K A B o) (by omega) (if_ck hK hA hB)) rfl pargsT nofT ?_
    refine lo (lop_move (E rfl)) rfl ?_
    refine sq55 ?_
    apply aend; exact resT
    · exact ⟨congrArg AV.bool (if_ok o hK hA hB), rfl⟩
    · exact stleT
  have ho : o = false := g7
  obtain ⟨R, rfl⟩ : ∃ R, R = r39 := ⟨_, rfl⟩
  refine sq7 ?_
  refine z93 ?_
  refine z1 ?_; refine freshT fun r51 h51 => ?_; repeat rcases h51 with ⟨_, h51⟩
  refine apA ((ifL K A B o).map encNl) (ifL K A B o).length ?_ (he := by rw [ho]; rfl) (hl' := by rw [ho]; rfl) (hmax := by simp [maxLen]; omega) (hby := by omega)
  refine apnT fun r52 h52 => ?_; repeat rcases h52 with ⟨_, h52⟩
  refine sq64 ?_
  refine sq85 ?_
  refine z133 ?_
  first | refine ln rfl rfl rfl rfl ?_ | (refine gy rfl rfl ?_; refine lo (lop_move (E rfl)) rfl ?_) | refine lg rfl rfl (lop_move (E rfl)) rfl ?_ | refine lw rfl rfl (lop_move (E rfl)) rfl ?_ | refine lw rfl rfl (lop_no (v := .bool false)) rfl ?_
  first | refine ln rfl rfl rfl rfl ?_ | (refine gy rfl rfl ?_; refine lo (lop_move (E rfl)) rfl ?_) | refine lg rfl rfl (lop_move (E rfl)) rfl ?_ | refine lw rfl rfl (lop_move (E rfl)) rfl ?_ | refine lw rfl rfl (lop_no (v := .bool false)) rfl ?_
  first | refine ln rfl rfl rfl rfl ?_ | (refine gy rfl rfl ?_; refine lo (lop_eql (by first | exact W rfl id | exact E rfl) (by first | exact W rfl id | exact E rfl)) rfl ?_) | refine lg rfl rfl (lop_eql (by first | exact W rfl (by first | exact id | simp) | exact E rfl) (by first | exact W rfl (by first | exact id | simp) | exact E rfl)) rfl ?_ | refine lw rfl rfl (lop_eql (by first | exact W rfl (by first | exact id | simp) | exact E rfl) (by first | exact W rfl (by first | exact id | simp) | exact E rfl)) rfl ?_ | refine lw rfl rfl (lop_no (v := .bool false)) rfl ?_
  refine z137 ?_
  refine z133 ?_
  first | refine ln rfl rfl rfl rfl ?_ | (refine gy rfl rfl ?_; refine lo (lop_move (E rfl)) rfl ?_) | refine lg rfl rfl (lop_move (E rfl)) rfl ?_ | refine lw rfl rfl (lop_move (E rfl)) rfl ?_ | refine lw rfl rfl (lop_no (v := .bool false)) rfl ?_
  first | refine ln rfl rfl rfl rfl ?_ | (refine gy rfl rfl ?_; refine lo (lop_not (by first | exact W rfl id | exact E rfl)) rfl ?_) | refine lg rfl rfl (lop_not (by first | exact W rfl (by first | exact id | simp) | exact E rfl)) rfl ?_ | refine lw rfl rfl (lop_not (by first | exact W rfl (by first | exact id | simp) | exact E rfl)) rfl ?_ | refine lw rfl rfl (lop_no (v := .bool false)) rfl ?_
  first | refine ln rfl rfl rfl rfl ?_ | (refine gy rfl rfl ?_; refine lo (lop_move (by first | exact W rfl id | exact E rfl)) rfl ?_) | refine lg rfl rfl (lop_move (by first | exact W rfl (by first | exact id | simp) | exact E rfl)) rfl ?_ | refine lw rfl rfl (lop_move (by first | exact W rfl (by first | exact id | simp) | exact E rfl)) rfl ?_ | refine lw rfl rfl (lop_no (v := .bool false)) rfl ?_
  first | refine ln rfl rfl rfl rfl ?_ | (refine gy rfl rfl ?_; refine lo (lop_move (E rfl)) rfl ?_) | refine lg rfl rfl (lop_move (E rfl)) rfl ?_ | refine lw rfl rfl (lop_move (E rfl)) rfl ?_ | refine lw rfl rfl (lop_no (v := .bool false)) rfl ?_
  refine z146 ?_
  first | refine ln rfl rfl rfl rfl ?_ | (refine gy rfl rfl ?_; (first | refine lo (lop_pick_t (by first | exact W rfl id | exact E rfl) (by first | exact W rfl (by simp) | exact E rfl)) rfl ?_ | refine lo (lop_pick_f (by first | exact W rfl id | exact E rfl) (E rfl)) rfl ?_ | refine lo (lop_pick (by first | exact W rfl id | exact E rfl) (by first | exact W rfl (by simp) | exact E rfl) (E rfl)) rfl ?_)) | refine lg rfl rfl (lop_pick_t (by first | exact W rfl (by first | exact id | simp) | exact E rfl) (by first | exact W rfl (by simp) | exact E rfl)) rfl ?_ | refine lg rfl rfl (lop_pick_f (by first | exact W rfl (by first | exact id | simp) | exact E rfl) (E rfl)) rfl ?_ | refine lg rfl rfl (lop_pick (by first | exact W rfl (by first | exact id | simp) | exact E rfl) (by first | exact W rfl (by simp) | exact E rfl) (E rfl)) rfl ?_ | refine lw rfl rfl (lop_pick_t (by first | exact W rfl (by first | exact id | simp) | exact E rfl) (by first | exact W rfl (by simp) | exact E rfl)) rfl ?_ | refine lw rfl rfl (lop_pick_f (by first | exact W rfl (by first | exact id | simp) | exact E rfl) (E rfl)) rfl ?_ | refine lw rfl rfl (lop_pick (by first | exact W rfl (by first | exact id | simp) | exact E rfl) (by first | exact W rfl (by simp) | exact E rfl) (E rfl)) rfl ?_ | refine lw rfl rfl (lop_no (v := .bool false)) rfl ?_
  refine z147 ?_
  refine sq31 ?_
  refine sq5 ?_
  refine fzv (j := 73) rfl sdelT (bor_own sgT (by simp)) ?_
  refine rs_go (sgo_vle (j := 73) rfl (vle_nl (l := ifL K A B o) (fun x hx => (if_mem hK hA hB x hx).2))) ?_
  refine puA Tryz.call21 (law_fits K (ifL K A B o) (by omega) (if_ck hK hA hB)) rfl pargsT nofT ?_
  refine lo (lop_move (E rfl)) rfl ?_
  refine sq55 ?_
  apply aend; exact resT
  · exact ⟨congrArg AV.bool (if_ok o hK hA hB), rfl⟩
  · exact stleT
theorem law_checkIf3 (k a b : Int) (o : Bool) : SCall Tryz.prog 7 [.int .i64 k, .int .i64 a, .int .i64 b, .bool o] [] (fun y _ => y = .bool true) := (law_checkIf2 k a b o).mono fun _ _ h => h.1
/-
  A load or store is aligned to no more than it moves; there must be a memory.
-/
def meL (o : Bool) : Li := if o = true then ⟨true, 1, 3⟩ else ⟨false, 0, 0⟩
def fullA (o : Bool) (l : List Ins) : Md := { fullM [] (resL 0) [⟨[], l⟩, oneC] with me := meL o }
theorem res_len (r : Int) : (resL r).length ≤ 1 := by unfold resL; exact ite_p (p := fun l : List Int => l.length ≤ 1) (fun _ => by simp) (fun _ => by simp)
theorem fullA_fn (o : Bool) {l : List Ins} (hl : l.length ≤ 100000) (hk : ∀ x ∈ l, x.Ck) : (fullA o l).Fn := by
  have hrl := res_len 0
  refine ⟨⟨?_, by simp [fullA, fullM]⟩, ?_, ?_⟩
  · intro t ht
    simp only [fullA, fullM, List.mem_cons, List.not_mem_nil, or_false] at ht
    rcases ht with rfl | rfl | rfl | rfl <;> (constructor <;> simp; try omega)
  · intro c hc
    simp only [fullA, fullM, List.mem_cons, List.not_mem_nil, or_false] at hc
    rcases hc with rfl | rfl
    · exact ⟨hl, hk⟩
    · exact ⟨by simp [oneC, one32], fun x hx => ck_of (by simp [oneC, one32] at hx; subst hx; decide)⟩
  · intro c hc
    simp only [fullA, fullM, List.mem_cons, List.not_mem_nil, or_false] at hc
    rcases hc with rfl | rfl <;> simp [oneC]
def opsA : List Int := [40, 41, 44, 45, 54, 55, 58]
def mostA : List Int := [2, 3, 0, 0, 2, 3, 0]
def kindA : List Int := [1, 2, 1, 1, 1, 2, 1]
def at7 (l : List Int) (K : Int) : Int := l.getD K.toNat 0
theorem at7_at {l : List Int} {K : Int} (hl : l.length = 7) (h : 0 ≤ K ∧ K < 7) : l[K.toNat]? = some (at7 l K) := by
  unfold at7
  rw [List.getD_eq_getElem?_getD, List.getElem?_eq_getElem (by omega)]; rfl
def alL (K u : Int) : List Ins := [⟨65, 0, 0, []⟩, ⟨at7 opsA K, u, 0, []⟩, ⟨26, 0, 0, []⟩]
def alM (K u : Int) : List Ins := [⟨65, 0, 0, []⟩, ⟨64 + at7 kindA K, 0, 0, []⟩, ⟨at7 opsA K, u, 0, []⟩]
theorem al_ck {K u : Int} (ha : 0 ≤ u ∧ u ≤ 3) : (∀ x ∈ alL K u, x.Ck) ∧ ∀ x ∈ alM K u, x.Ck := by
  have key : ∀ x : Ins, 0 ≤ x.a ∧ x.a ≤ 3 → x.l = [] → x.Ck := fun x h1 h2 => ⟨fun _ => h1.1, fun _ => by rw [h2]; simp, by rw [h2]; simp, by omega⟩
  constructor
  · intro x hx
    simp only [alL, List.mem_cons, List.not_mem_nil, or_false] at hx
    rcases hx with rfl | rfl | rfl
    · exact key _ ⟨by decide, by decide⟩ rfl
    · exact key _ ha rfl
    · exact key _ ⟨by decide, by decide⟩ rfl
  · intro x hx
    simp only [alM, List.mem_cons, List.not_mem_nil, or_false] at hx
    rcases hx with rfl | rfl | rfl
    · exact key _ ⟨by decide, by decide⟩ rfl
    · exact key _ ⟨Int.le_refl 0, by show (0 : Int) ≤ 3; decide⟩ rfl
    · exact key _ ha rfl
section
set_option maxRecDepth 100000
theorem al_ok1 {K u : Int} (o : Bool) (hK : K = 0 ∨ K = 1 ∨ K = 2 ∨ K = 3) (ha : u = 0 ∨ u = 1 ∨ u = 2 ∨ u = 3) :
    (chkP (fullA o (alL K u)) 0 == (if o = true then decide (u ≤ at7 mostA K) else false)) = true := by
  rcases hK with rfl | rfl | rfl | rfl <;> rcases ha with rfl | rfl | rfl | rfl <;> cases o <;> decide +kernel
theorem al_ok2 {K u : Int} (o : Bool) (hK : K = 4 ∨ K = 5 ∨ K = 6) (ha : u = 0 ∨ u = 1 ∨ u = 2 ∨ u = 3) :
    (chkP (fullA o (alM K u)) 0 == (if o = true then decide (u ≤ at7 mostA K) else false)) = true := by
  rcases hK with rfl | rfl | rfl <;> rcases ha with rfl | rfl | rfl | rfl <;> cases o <;> decide +kernel
end
theorem mod7 (w : Int) : (-7 < w.tmod 7 ∧ w.tmod 7 < 7) ∧ (0 ≤ (w.tmod 7 + 7).tmod 7 ∧ (w.tmod 7 + 7).tmod 7 < 7) := by
  have h1 : -7 < w.tmod 7 ∧ w.tmod 7 < 7 := ⟨Int.lt_tmod_of_pos w (by decide), Int.tmod_lt_of_pos w (by decide)⟩
  exact ⟨h1, Int.tmod_nonneg _ (by omega), Int.tmod_lt_of_pos _ (by decide)⟩
theorem kind_two {K : Int} (h : 0 ≤ K ∧ K < 7) : at7 kindA K = 1 ∨ at7 kindA K = 2 := by
  have : K = 0 ∨ K = 1 ∨ K = 2 ∨ K = 3 ∨ K = 4 ∨ K = 5 ∨ K = 6 := by omega
  rcases this with rfl | rfl | rfl | rfl | rfl | rfl | rfl <;> decide
theorem law_checkAlign2 (w u : Int) (o : Bool) : SCall Tryz.prog 9 [.int .i64 w, .int .i64 u, .bool o] [] (fun y σ => y = .bool true ∧ σ = []) := by
  obtain ⟨hk1, hK⟩ := mod7 w
  refine scall_of (n := 76) (ks := [0, 1, 2, 6, 7, 8, 9, 10, 11, 12, 13, 16, 22, 32, 50]) Tryz.func9 rfl rfl (Nat.le_of_ble_eq_true rfl) ?_
  refine sq65 ?_
  refine puA Tryz.call14 law_begun8 rfl pargsT nofT ?_
  refine sq99 ?_
  refine sq27 ?_
  refine sq87 ?_
  refine z125 ?_
  refine z113 ?_
  refine sq4 ?_
  refine sw_cond rfl (fun g4 => ?_) (fun g4 => ?_)
  · refine sq8 ?_
    apply aend; exact resT
    · exact ⟨rfl, rfl⟩
    · exact stleT
  have ha : 0 ≤ u ∧ u ≤ 3 := by
    have : ∀ p q : Bool, (if p = true then true else q) = false → p = false ∧ q = false := by intro p q; cases p <;> cases q <;> simp
    obtain ⟨h1, h2⟩ := this _ _ g4
    simp only [decide_eq_false_iff_not] at h1 h2
    exact ⟨by omega, by omega⟩
  refine sq3 ?_
  refine z1 ?_; refine freshT fun r23 h23 => ?_; repeat rcases h23 with ⟨_, h23⟩
  refine fzv (j := 23) (v' := .ro 1 (opsA.map encI) .any) rfl sdelT (bor_own sgT (by rfl)) ?_
  refine sq25 ?_
  refine z1 ?_; refine freshT fun r24 h24 => ?_; repeat rcases h24 with ⟨_, h24⟩
  refine fzv (j := 24) (v' := .ro 1 (mostA.map encI) .any) rfl sdelT (bor_own sgT (by rfl)) ?_
  refine sq25 ?_
  refine z1 ?_; refine freshT fun r25 h25 => ?_; repeat rcases h25 with ⟨_, h25⟩
  refine fzv (j := 25) (v' := .ro 1 (kindA.map encI) .any) rfl sdelT (bor_own sgT (by rfl)) ?_
  refine sq37 ?_
  refine z22 ?_
  refine z17 ?_
  refine z22 ?_
  refine sq2 ?_
  generalize (w.tmod 7 + 7).tmod 7 = K at hK ⊢
  have p1 := at7_at (l := opsA) rfl hK
  have p2 := at7_at (l := mostA) rfl hK
  have p3 := at7_at (l := kindA) rfl hK
  have l1 : opsA.length = 7 := rfl
  have l2 : mostA.length = 7 := rfl
  have l3 : kindA.length = 7 := rfl
  have hkd := kind_two hK
  have ha4 : u = 0 ∨ u = 1 ∨ u = 2 ∨ u = 3 := by omega
  refine rgT ?_
  refine cw [] Tryz.call19 (law_full [] 0) rfl argsleT stleT ?_
  rintro _ σ' ⟨q, rfl, rfl⟩ h30
  replace h30 := cnewT h30; repeat rcases h30 with ⟨_, h30⟩
  unfold encF
  apply rs_sto; exact nflT
  apply al; rfl; (exact zcT); refine freshT fun r12 h12 => ?_; repeat rcases h12 with ⟨_, h12⟩
  apply stp; rfl; rfl; rfl; rfl; (exact sputT)
  refine sq27 ?_
  refine sq48 ?_
  refine sja (β := Unit) (fun _ => ⟨[(1, .int .i64 u), (2, .bool o), (8, .ro 1 (opsA.map encI) .any), (9, .ro 1 (mostA.map encI) .any), (10, .ro 1 (kindA.map encI) .any), (11, .int .i64 K), (12, .ptr r12 0)], [(r12, .box 33 [.ro 2 ((fullM [] (resL 0) []).ty.map encFT) .any, .ro 3 ((fullM [] [] []).im.map encIm) .any, .ro 1 ([0, 3].map encI) .any, .bool true, .int .i64 4, .int .i64 (-1), .bool (meL o).has, .int .i64 (meL o).mn, .int .i64 (meL o).mx, .ro 3 ((fullM [] [] []).gl.map encGl) .any, .ro 2 ((fullM [] [] []).ex.map encEx) .any, .ro 2 ((fullM [] [] []).el.map encEl) .any, .own q 0 2, .ro 2 ([].map encDa) .any]), (q, .arr 41 2 [[.ro 0 [] .nil, .ro 0 [] .nil], encCo ⟨[], one32⟩])]⟩) (fun _ => True) ?_ ?_
  · refine sw_cond rfl (fun g11 => ?_) (fun g11 => ?_)
    · obtain rfl : o = false := by simpa using g11
      refine sq3 ?_
      refine z93 ?_
      refine z59 ?_
      apply stp; rfl; rfl; rfl; rfl; (exact sputT)
      refine sq4 ?_
      exact ⟨(), trivial, sgoT⟩
    obtain rfl : o = true := by simpa using g11
    refine ctlT ?_
    exact ⟨(), trivial, sgoT⟩
  rintro ⟨⟩ -
  refine sq18 ?_
  refine sq76 ?_
  refine lo (lop_move (E rfl)) rfl ?_
  refine z93 ?_
  apply al; rfl; (exact zcT); refine freshT fun r13 h13 => ?_; repeat rcases h13 with ⟨_, h13⟩
  apply stp; rfl; rfl; rfl; rfl; (exact sputT)
  refine leT ?_
  refine sq63 ?_
  refine z93 ?_
  refine z99 ?_
  refine z93 ?_
  refine z1 ?_; refine freshT fun r46 h46 => ?_; repeat rcases h46 with ⟨_, h46⟩
  refine z15 ?_
  refine z117 ?_
  refine fzv (j := 46) rfl sdelT (bor_own sgT (by simp)) ?_
  refine rs_go (sgo_vle (j := 46) rfl (vle_nl (l := alL K u) (by simp [alL]))) ?_
  refine z118 ?_
  refine sq27 ?_
  refine sq102 ?_
  refine sw_cond rfl (fun g15 => ?_) (fun g15 => ?_)
  · have h4 : 4 ≤ K := by simpa using g15
    have hw := check_func _ (fullA_fn o (l := alM K u) (by simp [alM]) (al_ck ha).2) 0
    have hok := al_ok2 o (show K = 4 ∨ K = 5 ∨ K = 6 by omega) ha4
    refine ctlT ?_
    refine rgD [(0, true), (1, true), (2, true), (3, true), (4, true), (5, true), (6, true), (7, true), (8, true), (9, true), (10, false), (11, true), (12, true), (13, false)] ?_
    refine sq22 ?_
    refine z94 ?_
    refine sq81 ?_
    refine z57 ?_
    refine z144 ?_
    refine z94 ?_
    refine z96 ?_
    refine z97 ?_; refine freshT fun r61 h61 => ?_; repeat rcases h61 with ⟨_, h61⟩
    refine z56 ?_
    refine z161 ?_
    refine dfzv (j := 61) rfl sdelT (bor_own sgT (by simp)) ?_
    refine rd_go (sgo_vle (j := 61) rfl (vle_nl (l := alM K u) (by simp [alM]))) ?_
    apply dsto; rfl; infer_instance; rfl; rfl; rfl; rfl; (exact ssetT); (exact atT); (exact putT_); rfl; (exact hbtT)
    refine sq68 ?_
    refine sw_go (sgo_fzb (r := r12) (q := q) ssetT sdelT (.cons (.refl _) (.cons (.refl _) (.cons (.refl _) (.cons (.refl _) (.cons (.refl _) (.cons (.refl _) (.cons (.refl _) (.cons (.refl _) (.cons (.refl _) (.cons (.refl _) (.cons (.refl _) (.cons (.refl _) (.cons (bor_own sgT (by simp)) (.cons (.refl _) .nil))))))))))))))) ?_
    refine sw_go (sgo_leb (r := r12) (cs' := encMd (fullA o (alM K u))) ssetT (.cons (.refl _) (.cons (.refl _) (.cons (.refl _) (.cons (.refl _) (.cons (.refl _) (.cons (.refl _) (.cons (.refl _) (.cons (.refl _) (.cons (.refl _) (.cons (.refl _) (.cons (.refl _) (.cons (.refl _) (.cons (.le (vle_row VLe.empty rfl rfl (fun x hx => by obtain rfl := List.mem_singleton.1 hx; exact ⟨rfl, by simp [encCo, AV.cell]⟩))) (.cons (.refl _) .nil))))))))))))))) ?_
    refine rgT ?_
    refine z99 ?_
    refine puA Tryz.call17 hw rfl pargsT nofT ?_
    refine lo (lop_move (E rfl)) rfl ?_
    refine sq10 ?_
    refine z109 ?_
    refine z109 ?_
    refine z120 ?_
    refine z121 ?_
    refine z132 ?_
    refine z68 ?_
    refine sq55 ?_
    apply aend; exact resT
    · exact ⟨congrArg AV.bool hok, rfl⟩
    · exact stleT
  have h4 : ¬ 4 ≤ K := by simpa using g15
  have hw := check_func _ (fullA_fn o (l := alL K u) (by simp [alL]) (al_ck ha).1) 0
  have hok := al_ok1 o (show K = 0 ∨ K = 1 ∨ K = 2 ∨ K = 3 by omega) ha4
  refine sw_go (sgo_fzb (r := r12) (q := q) ssetT sdelT (.cons (.refl _) (.cons (.refl _) (.cons (.refl _) (.cons (.refl _) (.cons (.refl _) (.cons (.refl _) (.cons (.refl _) (.cons (.refl _) (.cons (.refl _) (.cons (.refl _) (.cons (.refl _) (.cons (.refl _) (.cons (bor_own sgT (by simp)) (.cons (.refl _) .nil))))))))))))))) ?_
  refine sw_go (sgo_leb (r := r12) (cs' := encMd (fullA o (alL K u))) ssetT (.cons (.refl _) (.cons (.refl _) (.cons (.refl _) (.cons (.refl _) (.cons (.refl _) (.cons (.refl _) (.cons (.refl _) (.cons (.refl _) (.cons (.refl _) (.cons (.refl _) (.cons (.refl _) (.cons (.refl _) (.cons (.le (vle_row VLe.empty rfl rfl (fun x hx => by obtain rfl := List.mem_singleton.1 hx; exact ⟨rfl, by simp [encCo, AV.cell]⟩))) (.cons (.refl _) .nil))))))))))))))) ?_
  refine sq3 ?_
  refine z99 ?_
  refine puA Tryz.call17 hw rfl pargsT nofT ?_
  refine lo (lop_move (E rfl)) rfl ?_
  refine sq10 ?_
  refine z109 ?_
  refine z109 ?_
  refine z120 ?_
  refine z121 ?_
  refine z132 ?_
  refine z68 ?_
  refine sq55 ?_
  apply aend; exact resT
  · exact ⟨congrArg AV.bool hok, rfl⟩
  · exact stleT
theorem law_checkAlign3 (w u : Int) (o : Bool) : SCall Tryz.prog 9 [.int .i64 w, .int .i64 u, .bool o] [] (fun y _ => y = .bool true) := (law_checkAlign2 w u o).mono fun _ _ h => h.1
end Go.Proofs.YthhlimmcncbopaaGreat
