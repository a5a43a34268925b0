/-
  The symbolic layer: function values and calls of them. No program is named here.
-/
import Derived.Test.YtkjfflabapeidaaSymN
namespace Go.Proofs.Ytkjfflabapeidaa
open Go.RowKit Go.ChangeShapes Go.WideShapes Go.ChangeAt Go.Deep
set_option linter.unusedSimpArgs false
set_option linter.unusedVariables false

theorem vr_at {M : Mp} {F : Nat → Prop} {w : World} {xs : List AV} {us : List Value} (hl : us.length = xs.length) (h : ∀ (i : Nat) (v : AV), xs[i]? = some v → ∃ u, us[i]? = some u ∧ VR M F w v u) : ∀ (j : Nat) (a : AV) (u : Value), xs[j]? = some a → us[j]? = some u → VR M F w a u := by
  intro j a u ha hu
  obtain ⟨u', hu', hv⟩ := h j a ha
  rw [hu] at hu'
  cases hu'
  exact hv
/-- a function value: its code, what it holds -/
theorem lop_func {P : Program} {ty : TypeId} {s : ASt} {c : Bool} {fn : Fn} {first captured : Array Operand} {xs cs : List AV} (h1 : AEvs s first.toList xs) (h2 : AEvs s captured.toList cs) : Lop P (.makeFunc fn first captured) ty s c (.fn fn xs cs) [] :=
  Lop.pure_ fun M F N n a w hr hc => by
    obtain ⟨l1, k1⟩ := h1.at_ hr
    obtain ⟨l2, k2⟩ := h2.at_ hr
    refine ⟨.func fn (first.map a.eval) (captured.map a.eval), .fn ?_ ?_ ?_ ?_, fun w' o ho _ => ?_⟩
    · rw [← l1]; simp
    · intro j a' u ha hu
      refine vr_at l1 k1 j a' u ha ?_
      rw [← hu, ← Array.getElem?_toList]; simp
    · rw [← l2]; simp
    · intro j a' u ha hu
      refine vr_at l2 k2 j a' u ha ?_
      rw [← hu, ← Array.getElem?_toList]; simp
    · simp only [execOp, ho, Instr.makeFunc, Sem.run_bind, Sem.run_pure, Result.andThen_ok]
theorem append_vr {M : Mp} {F : Nat → Prop} {w : World} {xs ys : List AV} {us vs : List Value} (hl : us.length = xs.length) (h : ∀ (j : Nat) (a : AV) (u : Value), xs[j]? = some a → us[j]? = some u → VR M F w a u)
    (k : ∀ (j : Nat) (a : AV) (u : Value), ys[j]? = some a → vs[j]? = some u → VR M F w a u) : ∀ (j : Nat) (a : AV) (u : Value), (xs ++ ys)[j]? = some a → (us ++ vs)[j]? = some u → VR M F w a u := by
  intro j a u ha hu
  by_cases hj : j < xs.length
  · rw [List.getElem?_append_left hj] at ha
    rw [List.getElem?_append_left (by omega)] at hu
    exact h j a u ha hu
  · rw [List.getElem?_append_right (by omega)] at ha
    rw [List.getElem?_append_right (by omega)] at hu
    exact k (j - xs.length) a u ha (by rw [← hl]; exact hu)
def fnArgs (a : Act) (x : Operand) (xs : List Operand) : List Value := match a.eval x with
  | .func _ us vs => us.toList ++ xs.map a.eval ++ vs.toList
  | _ => []
/-- a call of a function value -/
theorem hop_call_fn {P : Program} {n : Nat} {s : ASt} {ty : TypeId} {d : Nat} {x : Operand} {f : FuncId} {us vs : List AV} {xs : List Operand} {ats : Array TypeId} {args : List AV} {σ1 : Sto} {R : AV → Sto → Prop} {K : ASt → Prop} (hx : aev s x = some (.fn (.func f) us vs)) (hf : ∀ args w, (callFunc f args).run P w = .ok (.enter f args) w)
    (h : SCall P f (us ++ args ++ vs) σ1 R) (hd : d < n) (hargs : ArgsLe s xs args) (hsub : ∀ p ∈ σ1, p ∈ s.σ)
    (hK : ∀ x σ', R x σ' → (∀ p ∈ σ', (∃ q ∈ σ1, q.1 = p.1) ∨ Fresh p.1 s.σ) → K ⟨(d, x) :: s.fr, σ' ++ sdrop (σ1.map (·.1)) s.σ⟩) :
    Hop P n (.call { callee := .value x, args := xs.toArray, argTypes := ats }) ty (some d) s (σ1.map (·.1)) K := by
  refine Hop.of_call hd h hsub (fun a => fnArgs a x xs) (fun M F N a w o ho hr => ?_) hK
  have hv := hr.aev hx
  have hl := hargs.len
  have ha := hargs.vr hr
  obtain ⟨dst, op, ty', pos, after, guard⟩ := o
  dsimp only at ho
  subst ho
  generalize hu : a.eval x = u at hv
  cases hv with
  | @fn _ _ _ us' vs' h1 h2 h3 h4 =>
    have hfa : fnArgs a x xs = us'.toList ++ xs.map a.eval ++ vs'.toList := by unfold fnArgs; rw [hu]
    refine ⟨?_, ?_, ?_⟩
    · have : execOp a.eval { dst, op := .call { callee := .value x, args := xs.toArray, argTypes := ats }, type := ty', pos, after, guard } = (do
          let d ← Deferred.ofValue (a.eval x) (xs.toArray.map a.eval)
          invoke d.target d.args) := rfl
      rw [this, hu, hfa]
      simp only [Deferred.ofValue, Sem.run_bind, Sem.run_pure, Result.andThen_ok, invoke, hf]
      simp
    · rw [hfa]
      simp only [List.length_append, List.length_map, Array.length_toList]
      omega
    · rw [hfa]
      refine append_vr (by simp; omega) (append_vr (by simpa using h1) (fun j a' u' h5 h6 => h2 j a' u' h5 (by simpa using h6)) (fun j a' u' h5 h6 => ha j a' u' h5 h6)) (fun j a' u' h5 h6 => h4 j a' u' h5 (by simpa using h6))
theorem sdrop_all {σ : Sto} : sdrop (σ.map (·.1)) σ = [] := by
  unfold sdrop
  rw [List.filter_eq_nil_iff]
  intro p hp
  simp
  exact ⟨_, hp⟩
section
variable {P : Program} {n : Nat} {ops : Array Oper} {rest : List Oper} {fr : Fr} {σ : Sto} {K : ASt → Prop} {ty : TypeId} {pos : String} {af : Array Edge} {d : Nat}
/-- a call of a function value that is given the entries σ1 -/
theorem cf_ {x : Operand} {f : FuncId} {us vs : List AV} {xs : List Operand} {ats : Array TypeId} {args : List AV} {R : AV → Sto → Prop} (σ1 : Sto) (hx : aev ⟨fr, σ⟩ x = some (.fn (.func f) us vs)) (hf : ∀ args w, (callFunc f args).run P w = .ok (.enter f args) w) (h : SCall P f (us ++ args ++ vs) σ1 R) (hd : Nat.ble (d + 1) n = true)
    (hargs : ArgsLe ⟨fr, σ⟩ xs args) (hsub : ∀ p ∈ σ1, p ∈ σ) (hK : ∀ x σ', R x σ' → (∀ p ∈ σ', (∃ q ∈ σ1, q.1 = p.1) ∨ Fresh p.1 σ) → RS P n ops rest ⟨(d, x) :: fr, σ' ++ sdrop (σ1.map (·.1)) σ⟩ K) :
    RS P n ops (⟨some d, .call { callee := .value x, args := xs.toArray, argTypes := ats }, ty, pos, af, none⟩ :: rest) ⟨fr, σ⟩ K := rs_heavy (hop_call_fn hx hf h (lt_ble hd) hargs hsub hK)
end
end Go.Proofs.Ytkjfflabapeidaa
