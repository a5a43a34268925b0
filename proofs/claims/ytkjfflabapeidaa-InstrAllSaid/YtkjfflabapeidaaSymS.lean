/-
  Labels and jumps back to them.
-/
import Derived.Test.YtkjfflabapeidaaSymR
import Derived.ScopeJumps
namespace Go.Proofs.Ytkjfflabapeidaa
open Go.RowKit Go.ChangeShapes Go.WideShapes Go.ChangeAt Go.Deep
set_option linter.unusedSimpArgs false
set_option linter.unusedVariables false

theorem least_of {p : Nat → Prop} : ∀ (n m : Nat), m ≤ n → p m → ∃ k, p k ∧ ∀ j, p j → k ≤ j
  | 0, m, hm, h => ⟨0, by rwa [show m = 0 by omega] at h, fun j _ => Nat.zero_le _⟩
  | n + 1, m, hm, h => by
    by_cases hc : ∃ j, j ≤ n ∧ p j
    · obtain ⟨j, h1, h2⟩ := hc; exact least_of n j h1 h2
    · refine ⟨m, h, fun j hj => ?_⟩
      by_cases hjm : m ≤ j
      · exact hjm
      · exact absurd ⟨j, by omega, hj⟩ hc
theorem wp_scope_ghost {P : Program} {a : Act} {w : World} {Q : Exit → Act → World → Prop} {c rest : Code} (l : Nat) (J : Nat → Act → World → Prop) (hf : findLabel c l = some rest)
    (first : c.wp P (Exit.jump l (fun a w => ∃ m, J m a w) Q) a w)
    (pass : ∀ m a w, J m a w → rest.wp P (Exit.jump l (fun a' w' => ∃ m', m' < m ∧ J m' a' w') Q) a w) : (Code.scope c).wp P Q a w := by
  have hm : ∀ a w, ∃ k, ∀ m, J m a w → J k a w ∧ k ≤ m := by
    intro a w
    by_cases h : ∃ m, J m a w
    · obtain ⟨m, h⟩ := h
      obtain ⟨k, h1, h2⟩ := least_of (p := fun m => J m a w) m m (Nat.le_refl _) h
      exact ⟨k, fun j hj => ⟨h1, h2 j hj⟩⟩
    · exact ⟨0, fun m hj => absurd ⟨m, hj⟩ h⟩
  refine wp_scope_jumps l (fun a w => ∃ m, J m a w) (fun a w => (hm a w).choose) hf first ?_
  rintro a w ⟨m, h⟩
  obtain ⟨h1, -⟩ := (hm a w).choose_spec m h
  refine wp_mono (pass _ a w h1) ?_
  intro e a' w' hq
  cases e <;> first | exact hq | skip
  obtain ⟨h2, m', h3, h4⟩ := hq
  exact ⟨h2, ⟨m', h4⟩, Nat.lt_of_le_of_lt ((hm a' w').choose_spec m' h4).2 h3⟩
/-- by a goto to l: J; else as Q -/
def AJump (l : Nat) (J : ASt → Prop) (Q : Exit → ASt → Prop) : Exit → ASt → Prop
  | .goto l', s => l' = l ∧ J s
  | e, s => Q e s
section
variable {P : Program} {n : Nat} {ks : List Nat} {s : ASt} {Q : Exit → ASt → Prop}
theorem scj {β : Type} {c body : Code} (l : Nat) (hf : findLabel c l = some (.seq .skip body)) (st : β → ASt) (ok : β → Prop) (ms : β → Nat)
    (pass : ∀ b, ok b → SW P n ks body (st b) (AJump l (fun s2 => ∃ b', ok b' ∧ ms b' < ms b ∧ SGo s2 (st b')) Q))
    (first : (∀ b s', ok b → SGo s' (st b) → SW P n ks (.seq (.label l) body) s' (AJump l (fun s2 => ∃ b', ok b' ∧ SGo s2 (st b')) Q)) → SW P n ks c s (AJump l (fun s2 => ∃ b', ok b' ∧ SGo s2 (st b')) Q)) : SW P n ks (.scope c) s Q := by
  have hfirst := first fun b s' hb hgo => sw_go hgo (sw_seq (sw_label (sw_mono (pass b hb) fun e s2 h => by
    cases e <;> first | exact h | skip
    obtain ⟨h1, b', h2, -, h3⟩ := h
    exact ⟨h1, b', h2, h3⟩)))
  intro M F N a w hr
  refine wp_scope_ghost l (fun m a' w' => ∃ M' F' N' b, ok b ∧ ms b = m ∧ Rel M' F' N' n (st b) a' w' ∧ Ext M F N w s.σ M' F' N' w' (st b).σ) hf ?_ ?_
  · refine wp_mono (hfirst M F N a w hr) ?_
    rintro e a' w' ⟨M', F', N', s', h1, h2, h3⟩
    cases e <;> first | exact ⟨M', F', N', s', h1, h2, h3⟩ | skip
    obtain ⟨h3, b, h4, h5⟩ := h3
    obtain ⟨M2, F2, N2, r2, e2⟩ := h5 M' F' N' n a' w' h1
    exact ⟨h3, _, M2, F2, N2, b, h4, rfl, r2, h2.trans e2⟩
  · rintro m a' w' ⟨M1, F1, N1, b, hb, rfl, r1, e1⟩
    refine wp_seq (wp_skip ?_)
    refine wp_mono (pass b hb M1 F1 N1 a' w' r1) ?_
    rintro e a2 w2 ⟨M', F', N', s', h1, h2, h3⟩
    cases e <;> first | exact ⟨M', F', N', s', h1, e1.trans h2, h3⟩ | skip
    obtain ⟨h3, b', h4, h6, h5⟩ := h3
    obtain ⟨M2, F2, N2, r2, e2⟩ := h5 M' F' N' n a2 w2 h1
    exact ⟨h3, _, h6, M2, F2, N2, b', h4, rfl, r2, e1.trans (h2.trans e2)⟩
theorem cg {l : Nat} (h : Q (.goto l) s) : SW P n ks (.goto l) s Q := sw_goto h
end
theorem ag {K : ASt → Prop} {Q : Exit → ASt → Prop} {s : ASt} {i : Nat} (h : Q (.goto i) s) : AThen K Q (.goto i) s := h
theorem bg {i j : Nat} {Q : Exit → ASt → Prop} {s : ASt} (h : Q (.goto j) s) : ABlock i Q (.goto j) s := h
theorem jg {J : ASt → Prop} {Q : Exit → ASt → Prop} {s : ASt} {l : Nat} (h : J s) : AJump l J Q (.goto l) s := ⟨rfl, h⟩
theorem jn {J : ASt → Prop} {Q : Exit → ASt → Prop} {s : ASt} {l : Nat} (h : Q .normal s) : AJump l J Q .normal s := h
theorem jr {J : ASt → Prop} {Q : Exit → ASt → Prop} {s : ASt} {l : Nat} (h : Q .ret s) : AJump l J Q .ret s := h
theorem je {J : ASt → Prop} {Q : Exit → ASt → Prop} {s : ASt} {l i : Nat} (h : Q (.exit i) s) : AJump l J Q (.exit i) s := h
/-- a call whose first argument is nil, told as if that were an own row that holds nothing -/
theorem scall_nil {P : Program} {f : FuncId} {e : TypeId} {sz z : Nat} {args : List AV} {σ : Sto} {R : AV → Sto → Prop} (h0 : 0 < sz) (h : ∀ q, Fresh q σ → SCall P f (.own q 0 0 :: args) ((q, .arr e sz []) :: σ) R) : SCall P f (.ro z [] .nil :: args) σ R := by
  intro M F N w vs hl hv hs
  have hr : Rel M F N 0 ⟨[], σ⟩ ⟨#[], []⟩ w := ⟨rfl, rfl, fun i x hi => by simp [fget] at hi, hs⟩
  have hE : ER (addM M N .virt) F w N (.arr e sz []) := ⟨h0, fun x hx => by simp at hx, .inl ⟨addM_new _, rfl⟩⟩
  obtain ⟨r1, e1, n1⟩ := hr.new_ (w' := w) .virt (.arr e sz []) (fun _ _ => rfl) ⟨rfl, rfl, rfl⟩ (Nat.le_refl _) (fun g hg => by simp [blkOf, addM_new] at hg) hE
  refine (h N n1 (addM M N .virt) F (N + 1) w vs (by simpa using hl) ?_ r1.st).mono ?_
  · intro i x v hx hvv
    cases i with
    | zero =>
      obtain rfl : AV.own N 0 0 = x := by simpa using hx
      have hv0 := hv 0 _ v rfl hvv
      cases hv0 with
      | @ro _ _ b o _ cap us hb hs hc hrr hle hm hf hn => exact absurd rfl hn
      | ro0 hm hA hf hn =>
        obtain rfl := hn rfl
        obtain rfl := hA rfl
        exact .own0
    | succ i => exact VR.mono e1.mm e1.ff (fun _ _ => rfl) (hv (i + 1) x v (by simpa using hx) hvv)
  · rintro e' w' ⟨v, x, M', F', N', σ', k1, k2, k3, k4, k5⟩
    exact ⟨v, x, M', F', N', σ', k1, e1.trans k2, k3, k4, k5⟩
section
variable {P : Program} {ty : TypeId} {s : ASt} {c : Bool} {t : TypeId} {x y : Operand}
/-- an element of an array's value, of one cell -/
theorem lop_index {e k : Nat} {d : TypeDesc} [Ty P t (.array k e)] [Ty P e d] (hd : aggD d = false) {by_ : Nat} {z : Value} [Tz P e 1 by_ z] {ki : IntKind} {m : Int} {cs : List AV} {v : AV} (h : Ev s c x (.agg cs)) (hi : Ev s c y (.int ki m)) (hb : c = true → 0 ≤ m ∧ m < k) (hv : c = true → cs[m.toNat]? = some v) : Lop P (.index t x y) ty s c v [] :=
  Lop.pure_ fun M F N n a w hr hc => by
    have e1 := h.vr hr hc
    have hv := hv hc
    have hb := hb hc
    obtain ⟨j, hi', hz, hs, _⟩ := Tz.parts P e
    generalize hu : a.eval x = u at e1
    cases e1 with
    | @agg _ vs hl hh =>
      have hlt : m.toNat < vs.size := by rw [hl]; exact (List.getElem?_eq_some_iff.1 hv).1
      refine ⟨vs[m.toNat], hh _ v _ hv (Array.getElem?_eq_getElem hlt), fun w' o ho _ => ?_⟩
      have := run_part_one (P := P) (t := e) hd (w := w') (Array.getElem?_eq_getElem hlt)
      simp [execOp, ho, hu, hi.int hr hc, Instr.index, asIntOf, run_underlying (Ty.und (P := P) (t := t)), hb, sizeOf, typeInfo, hi', hs, this]
/-- an array's value of three numbers -/
theorem lop_arr3 {e : Nat} [Ty P t (.array 3 e)] {by_ by' : Nat} {z z' : Value} [Tz P t 3 by_ z] [Tz P e 1 by' z'] {k : IntKind} {m0 m1 m2 : Int} (h3 : ∃ a0 a1 a2, z = .agg #[a0, a1, a2]) : Lop P (.build t #[(0, .const (.int k m0)), (1, .const (.int k m1)), (2, .const (.int k m2))]) ty s c (.agg [.int k m0, .int k m1, .int k m2]) [] := by
  obtain ⟨a0, a1, a2, h3⟩ := h3
  refine Lop.pure_ fun M F N n a w hr hc => ⟨.agg #[.int k m0, .int k m1, .int k m2], .agg rfl (fun j b u hj hu => ?_), fun w' o ho _ => ?_⟩
  · rcases j with _ | _ | _ | j
    · simp at hj hu; subst hj hu; exact .int _ _
    · simp at hj hu; subst hj hu; exact .int _ _
    · simp at hj hu; subst hj hu; exact .int _ _
    · simp at hj
  · obtain ⟨i, hi, hz0, hs0, _⟩ := Tz.parts P t
    obtain ⟨i', hi', hz0', hs0', _⟩ := Tz.parts P e
    simp [execOp, ho, Instr.build, zeroValue, typeInfo, hi, hz0, run_underlying (Ty.und (P := P) (t := t)), sizeOf, hi', hs0', Instr.fill, h3, Act.eval, Value.cells]
end
end Go.Proofs.Ytkjfflabapeidaa
