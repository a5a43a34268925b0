/-
  The symbolic layer: calls and appends in their short forms. No program is named here.
-/
import Derived.Test.YtkjfflabapeidaaSymU
namespace Go.Proofs.Ytkjfflabapeidaa
open Go.RowKit Go.ChangeShapes Go.WideShapes Go.ChangeAt Go.Deep
set_option linter.unusedSimpArgs false
set_option linter.unusedVariables false

/-- an encoding that lends nothing -/
class NoE {α : Type} (enc : α → List AV) : Prop where
  no : ∀ a, ∀ x ∈ enc a, NoF x
theorem enof_map {α : Type} {enc : α → List AV} [h : NoE enc] {e : TypeId} {sz : Nat} {l : List α} : ENoF (.arr e sz (l.map enc)) := by
  intro y hy x hx
  obtain ⟨a, -, rfl⟩ := List.mem_map.1 hy
  exact h.no a x hx
theorem enof_nil {e : TypeId} {sz : Nat} : ENoF (.arr e sz []) := by intro y hy; simp at hy
theorem enof_box {bt : TypeId} {cs : List AV} (h : ∀ x ∈ cs, NoF x) : ENoF (.box bt cs) := h
instance : NoE encU := ⟨fun a x hx => by simp [encU] at hx; subst hx; exact NoF.int⟩
theorem noT {P : Prop} (h : P := by
    intro x σ' h
    repeat (refine Exists.elim h ?_; clear h; intro _ h)
    first | (obtain ⟨rfl, rfl⟩ := h) | (obtain ⟨_, rfl, rfl⟩ := h) | (obtain ⟨_, _, rfl, rfl⟩ := h)
    refine ⟨nofT, ?_⟩
    intro p hp
    simp only [List.mem_cons, List.not_mem_nil, or_false] at hp
    repeat' (first | (rcases hp with rfl | hp) | (cases hp; done))
    all_goals first | exact enof_map | exact enof_nil | exact enof_box nofT) : P := h

section
variable {P : Program} {n : Nat} {ops : Array Oper} {rest : List Oper} {fr : Fr} {σ : Sto} {K : ASt → Prop} {op : Op} {ty t t' : TypeId} {pos : String} {af : Array Edge} {x y : Operand} {d : Nat} {f : FuncId} {xs : List Operand} {ats : Array TypeId} {args : List AV}
theorem puA {v : AV} (hf : ∀ args w, (callFunc f args).run P w = .ok (.enter f args) w) (h : SCall P f args [] (fun x σ' => x = v ∧ σ' = [])) (hd : Nat.ble (d + 1) n = true)
    (hargs : ArgsIf ⟨fr, σ⟩ true (σ.map (·.1)) xs args) (hno : NoF v) (hK : RS P n ops rest ⟨(d, v) :: fr, σ⟩ K) : RS P n ops (⟨some d, .call { callee := .value (.func f), args := xs.toArray, argTypes := ats }, ty, pos, af, none⟩ :: rest) ⟨fr, σ⟩ K := pu _ hf h hd hargs hno hK
theorem pugA {j dj : Nat} {want b : Bool} {v : AV} (hj : (ops[j]?).bind (·.dst) = some dj) (hb : fget fr dj = some (.bool b)) (hf : ∀ args w, (callFunc f args).run P w = .ok (.enter f args) w)
    (h : (b == want) = true → SCall P f args [] (fun x σ' => x = v ∧ σ' = [])) (hd : Nat.ble (d + 1) n = true) (hargs : ArgsIf ⟨fr, σ⟩ (b == want) (σ.map (·.1)) xs args) (hno : NoF v) (hK : RS P n ops rest ⟨(d, .when (b == want) v) :: fr, σ⟩ K) :
    RS P n ops (⟨some d, .call { callee := .value (.func f), args := xs.toArray, argTypes := ats }, ty, pos, af, some (j, want)⟩ :: rest) ⟨fr, σ⟩ K := pug _ hj hb hf h hd hargs hno hK
theorem puwA {j dj : Nat} {want b c0 : Bool} {v : AV} (hj : (ops[j]?).bind (·.dst) = some dj) (hb : fget fr dj = some (.when c0 (.bool b))) (hf : ∀ args w, (callFunc f args).run P w = .ok (.enter f args) w)
    (h : (c0 && (b == want)) = true → SCall P f args [] (fun x σ' => x = v ∧ σ' = [])) (hd : Nat.ble (d + 1) n = true) (hargs : ArgsIf ⟨fr, σ⟩ (c0 && (b == want)) (σ.map (·.1)) xs args) (hno : NoF v) (hK : RS P n ops rest ⟨(d, .when (c0 && (b == want)) v) :: fr, σ⟩ K) :
    RS P n ops (⟨some d, .call { callee := .value (.func f), args := xs.toArray, argTypes := ats }, ty, pos, af, some (j, want)⟩ :: rest) ⟨fr, σ⟩ K := puw _ hj hb hf h hd hargs hno hK
theorem clA {R : AV → Sto → Prop} (hf : ∀ args w, (callFunc f args).run P w = .ok (.enter f args) w) (h : SCall P f args [] R) (hd : Nat.ble (d + 1) n = true)
    (hargs : ArgsBor ⟨fr, σ⟩ (σ.map (·.1)) xs args) (hno : ∀ x σ', R x σ' → NoF x ∧ ∀ p ∈ σ', ENoF p.2) (hK : ∀ x σ', R x σ' → (∀ p ∈ σ', Fresh p.1 σ) → RS P n ops rest ⟨(d, x) :: fr, σ' ++ σ⟩ K) :
    RS P n ops (⟨some d, .call { callee := .value (.func f), args := xs.toArray, argTypes := ats }, ty, pos, af, none⟩ :: rest) ⟨fr, σ⟩ K := cl _ hf h hd hargs hno hK
/-- append onto an own row, all of it -/
theorem srcT {P : Prop} (h : P := by (first | exact .inl ⟨_, rfl⟩ | exact .inr (.inr ⟨_, _, _, _, _, rfl, sgT, by simp, rfl⟩) | exact .inr (.inl ⟨_, _, rfl, rfl⟩))) : P := h
theorem newT {P : Prop} (h : P := by (first | rfl | (simp; done) | (simp only [List.map_append, List.drop_zero]; rfl) |  (simp only [List.drop_zero, List.map_append, List.map_cons, List.map_nil]; congr 1; exact List.take_of_length_le (by simp)) | (simp only [List.drop_zero, List.map_append]; congr 1; exact List.take_of_length_le (by first | (simp; done) | omega)))) : P := h
theorem lenT {P : Prop} (h : P := by (first | rfl | omega | (simp; done) | (simp; omega) | (simp [maxLen]; omega))) : P := h
theorem apA {e : TypeId} [Ty P t (.slice e)] {sz by_ : Nat} {zv : Value} [Tz P e sz by_ zv] {r len : Nat} {es ys : List (List AV)} (es' : List (List AV)) (len' : Nat)
    (hK : ∀ r', Fresh r' (sdrop [r] σ) → ∃ σ', SSet σ r (.arr e sz es) r' (.arr e sz es') σ' ∧ RS P n ops rest ⟨(d, .own r' 0 len') :: fr, σ'⟩ K)
    (hz : zv.cells.size = sz := by rfl) (hb : aev ⟨fr, σ⟩ x = some (.own r 0 len) := by rfl) (hg : sget σ r = some (.arr e sz es) := by exact sgT) (hlen : len = es.length := by exact lenT) (hy : Src ⟨fr, σ⟩ y sz ys := by exact srcT)
    (he : es ++ ys = es' := by exact newT) (hl' : len' = len + ys.length := by exact lenT) (hmax : len' ≤ maxLen := by (simp [maxLen]; try omega)) (hby : len' * by_ ≤ 140737488355328 := by (simp; try omega)) (hd : Nat.ble (d + 1) n = true := by rfl) :
    RS P n ops (⟨some d, .call { callee := .builtin .append, args := #[x, y], argTypes := #[t, t] }, ty, pos, af, none⟩ :: rest) ⟨fr, σ⟩ K := ap hz hb hg hlen hy he hl' hmax hby hd hK

/-- a row that a slot's value tells of is written by nobody from here on: the slot reads as x' -/
theorem sgo_fzv {j q : Nat} {v v' : AV} {e : Ent} {σ' : Sto} (hx : fget fr j = some v) (hd : SDel σ q e σ') (hb : Bor σ [q] v v') : SGo ⟨fr, σ⟩ ⟨(j, v') :: fr, σ'⟩ := by
  refine sgo_freeze [q] (fun i x' hi => ?_) (fun p hp => ?_)
  · simp only [fget] at hi
    split at hi
    · next h => subst h; obtain rfl := Option.some.inj hi; exact ⟨_, hx, hb⟩
    · exact ⟨x', hi, .refl _⟩
  · obtain ⟨h1, h2⟩ := hd.sub p hp
    exact ⟨by simpa using h2, p.2, h1, .refl _⟩
theorem fzv {j q : Nat} {v v' : AV} {e : Ent} {σ' : Sto} (hx : fget fr j = some v) (hd : SDel σ q e σ') (hb : Bor σ [q] v v') (hK : RS P n ops rest ⟨(j, v') :: fr, σ'⟩ K) : RS P n ops rest ⟨fr, σ⟩ K := rs_go (sgo_fzv hx hd hb) hK
theorem fzvs {ks : List Nat} {c : Code} {Q : Exit → ASt → Prop} {j q : Nat} {v v' : AV} {e : Ent} {σ' : Sto} (hx : fget fr j = some v) (hd : SDel σ q e σ') (hb : Bor σ [q] v v') (hK : SW P n ks c ⟨(j, v') :: fr, σ'⟩ Q) : SW P n ks c ⟨fr, σ⟩ Q := sw_go (sgo_fzv hx hd hb) hK
/-- an own row, all of it, as a list that is read -/
theorem bor_own {q len sz : Nat} {et : TypeId} {es : List (List AV)} (hg : sget σ q = some (.arr et sz es)) (hl : len = es.length) : Bor σ [q] (.own q 0 len) (.ro sz es .any) :=
  bown List.mem_cons_self hg (by omega) (by subst hl; simp)

/-! ### the same in a drawn region -/
variable {listed : Array Bool} {todo : List (Nat × Bool)} {held : List (Nat × List Nat)} {i : Nat}
theorem dpuA {v : AV} (hi : ops[i]? = some ⟨some d, .call { callee := .value (.func f), args := xs.toArray, argTypes := ats }, ty, pos, af, none⟩) (hf : ∀ args w, (callFunc f args).run P w = .ok (.enter f args) w) (h : SCall P f args [] (fun x σ' => x = v ∧ σ' = [])) (hd : Nat.ble (d + 1) n = true)
    (hargs : ArgsIf ⟨fr, σ⟩ true (σ.map (·.1)) xs args) (hno : NoF v) (hK : RD P n ops (listed.setIfInBounds i true) todo held ⟨(d, v) :: fr, σ⟩ K) : RD P n ops listed ((i, false) :: todo) held ⟨fr, σ⟩ K := dpu _ hi hf h hd hargs hno hK
theorem dpugA {j dj : Nat} {want b : Bool} {v : AV} (hi : ops[i]? = some ⟨some d, .call { callee := .value (.func f), args := xs.toArray, argTypes := ats }, ty, pos, af, some (j, want)⟩) (hj : (ops[j]?).bind (·.dst) = some dj) (hb : fget fr dj = some (.bool b)) (hf : ∀ args w, (callFunc f args).run P w = .ok (.enter f args) w)
    (h : (b == want) = true → SCall P f args [] (fun x σ' => x = v ∧ σ' = [])) (hd : Nat.ble (d + 1) n = true) (hargs : ArgsIf ⟨fr, σ⟩ (b == want) (σ.map (·.1)) xs args) (hno : NoF v) (hK : RD P n ops (listed.setIfInBounds i true) todo held ⟨(d, .when (b == want) v) :: fr, σ⟩ K) :
    RD P n ops listed ((i, false) :: todo) held ⟨fr, σ⟩ K := dpug _ hi hj hb hf h hd hargs hno hK
theorem dpuyA {j dj : Nat} {want : Bool} {v : AV} (hi : ops[i]? = some ⟨some d, .call { callee := .value (.func f), args := xs.toArray, argTypes := ats }, ty, pos, af, some (j, want)⟩) (hj : (ops[j]?).bind (·.dst) = some dj) (hb : fget fr dj = some (.bool want)) (hf : ∀ args w, (callFunc f args).run P w = .ok (.enter f args) w) (h : SCall P f args [] (fun x σ' => x = v ∧ σ' = [])) (hd : Nat.ble (d + 1) n = true)
    (hargs : ArgsIf ⟨fr, σ⟩ true (σ.map (·.1)) xs args) (hno : NoF v) (hK : RD P n ops (listed.setIfInBounds i true) todo held ⟨(d, v) :: fr, σ⟩ K) : RD P n ops listed ((i, false) :: todo) held ⟨fr, σ⟩ K := rd_heavy_yes (s := ⟨fr, σ⟩) hi hj hb (hop_pure _ hf h (lt_ble hd) hargs hno hK) (.inl rfl)
/-- a loud operation that is left out -/
theorem dhn {j dj : Nat} {want b : Bool} (hi : ops[i]? = some ⟨some d, op, ty, pos, af, some (j, want)⟩) (hj : (ops[j]?).bind (·.dst) = some dj) (hb : fget fr dj = some (.bool b)) (hne : (b == want) = false) (hd : Nat.ble (d + 1) n = true)
    (hK : RD P n ops (listed.setIfInBounds i true) todo held ⟨(d, .when false (.bool false)) :: fr, σ⟩ K) : RD P n ops listed ((i, false) :: todo) held ⟨fr, σ⟩ K := rd_heavy_no (s := ⟨fr, σ⟩) hi hj hb hne hd hK
theorem dclA {R : AV → Sto → Prop} (hi : ops[i]? = some ⟨some d, .call { callee := .value (.func f), args := xs.toArray, argTypes := ats }, ty, pos, af, none⟩) (hf : ∀ args w, (callFunc f args).run P w = .ok (.enter f args) w) (h : SCall P f args [] R) (hd : Nat.ble (d + 1) n = true)
    (hargs : ArgsBor ⟨fr, σ⟩ (σ.map (·.1)) xs args) (hno : ∀ x σ', R x σ' → NoF x ∧ ∀ p ∈ σ', ENoF p.2) (hK : ∀ x σ', R x σ' → (∀ p ∈ σ', Fresh p.1 σ) → RD P n ops (listed.setIfInBounds i true) todo held ⟨(d, x) :: fr, σ' ++ σ⟩ K) :
    RD P n ops listed ((i, false) :: todo) held ⟨fr, σ⟩ K := dcl _ hi hf h hd hargs hno hK
theorem dclyA {j dj : Nat} {want : Bool} {R : AV → Sto → Prop} (hi : ops[i]? = some ⟨some d, .call { callee := .value (.func f), args := xs.toArray, argTypes := ats }, ty, pos, af, some (j, want)⟩) (hj : (ops[j]?).bind (·.dst) = some dj) (hb : fget fr dj = some (.bool want)) (hf : ∀ args w, (callFunc f args).run P w = .ok (.enter f args) w) (h : SCall P f args [] R) (hd : Nat.ble (d + 1) n = true)
    (hargs : ArgsBor ⟨fr, σ⟩ (σ.map (·.1)) xs args) (hno : ∀ x σ', R x σ' → NoF x ∧ ∀ p ∈ σ', ENoF p.2) (hK : ∀ x σ', R x σ' → (∀ p ∈ σ', Fresh p.1 σ) → RD P n ops (listed.setIfInBounds i true) todo held ⟨(d, x) :: fr, σ' ++ σ⟩ K) :
    RD P n ops listed ((i, false) :: todo) held ⟨fr, σ⟩ K := rd_heavy_yes (s := ⟨fr, σ⟩) hi hj hb (hop_call_lent _ hf h (lt_ble hd) hargs hno hK) (.inl rfl)
theorem dapA {e : TypeId} {sz by_ : Nat} {zv : Value} {r len : Nat} {es ys : List (List AV)} (hi : ops[i]? = some ⟨some d, .call { callee := .builtin .append, args := #[x, y], argTypes := #[t, t] }, ty, pos, af, none⟩) (es' : List (List AV)) (len' : Nat)
    (hK : ∀ r', Fresh r' (sdrop [r] σ) → ∃ σ', SSet σ r (.arr e sz es) r' (.arr e sz es') σ' ∧ RD P n ops (listed.setIfInBounds i true) todo held ⟨(d, .own r' 0 len') :: fr, σ'⟩ K)
    (i1 : Ty P t (.slice e) := by infer_instance) (i2 : Tz P e sz by_ zv := by infer_instance) (hz : zv.cells.size = sz := by rfl) (hx : aev ⟨fr, σ⟩ x = some (.own r 0 len) := by rfl) (hg : sget σ r = some (.arr e sz es) := by exact sgT) (hlen : len = es.length := by exact lenT) (hy : Src ⟨fr, σ⟩ y sz ys := by exact srcT)
    (he : es ++ ys = es' := by exact newT) (hl' : len' = len + ys.length := by exact lenT) (hmax : len' ≤ maxLen := by (simp [maxLen]; try omega)) (hby : len' * by_ ≤ 140737488355328 := by (simp; try omega)) (hd : Nat.ble (d + 1) n = true := by rfl) (hb : HB ops i (σ.map (·.1)) [r] held := by exact hbtT) :
    RD P n ops listed ((i, false) :: todo) held ⟨fr, σ⟩ K := dap hi i1 i2 hz hx hg hlen hy he hl' hmax hby hd hb hK
end
end Go.Proofs.Ytkjfflabapeidaa
