/-
  The symbolic layer's operations that look into memory: addresses, loads, lengths, parts of slices, structs by value. No program is named here.
-/
import Derived.Test.YtkjfflabapeidaaSymB
import Derived.Laws.BytesString
namespace Go.Proofs.Ytkjfflabapeidaa
open Go.RowKit Go.ChangeShapes Go.WideShapes Go.ChangeAt Go.Deep
set_option linter.unusedSimpArgs false
set_option linter.unusedVariables false

def aggD : TypeDesc → Bool
  | .struct _ | .array _ _ => true
  | _ => false

def sget : Sto → Nat → Option Ent
  | [], _ => none
  | (j, x) :: l, i => if i = j then some x else sget l i
theorem sget_mem : ∀ {σ : Sto} {r : Nat} {x : Ent}, sget σ r = some x → (r, x) ∈ σ
  | [], _, _, h => by simp [sget] at h
  | (j, y) :: l, i, x, h => by
    simp only [sget] at h
    split at h
    · next e => subst e; obtain rfl := Option.some.inj h; simp
    · exact List.mem_cons_of_mem _ (sget_mem h)

theorem sget_here {r : Nat} {x : Ent} {σ : Sto} : sget ((r, x) :: σ) r = some x := by simp [sget]
theorem sget_next {r q : Nat} {x y : Ent} {σ : Sto} (h : r ≠ q) (k : sget σ r = some x) : sget ((q, y) :: σ) r = some x := by simp [sget, h, k]
/-- the store without some names -/
def sdrop (ks : List Nat) (σ : Sto) : Sto := σ.filter fun p => !ks.contains p.1
theorem sdrop_none {σ : Sto} : sdrop [] σ = σ := by simp [sdrop]
theorem sdrop_nil {ks : List Nat} : sdrop ks [] = [] := rfl
theorem sdrop_in {ks : List Nat} {q : Nat} {y : Ent} {σ : Sto} (h : q ∈ ks) : sdrop ks ((q, y) :: σ) = sdrop ks σ := by simp [sdrop, h]
theorem sdrop_out {ks : List Nat} {q : Nat} {y : Ent} {σ : Sto} (h : q ∉ ks) : sdrop ks ((q, y) :: σ) = (q, y) :: sdrop ks σ := by simp [sdrop, h]
theorem mem_sdrop {ks : List Nat} {σ : Sto} {p : Nat × Ent} (h : p ∈ sdrop ks σ) : p ∈ σ ∧ p.1 ∉ ks := by simpa [sdrop] using h
/-- a name that is new to a store -/
def Fresh (r : Nat) (σ : Sto) : Prop := ∀ q ∈ σ, q.1 ≠ r
theorem Fresh.nil {r : Nat} : Fresh r [] := fun q hq => by simp at hq
/-- two names are two; a word of its own, so that omega does not split over it -/
def Nq (a b : Nat) : Prop := a ≠ b
theorem Nq.en {a b : Nat} (h : Nq b a) : a ≠ b := fun e => h e.symm
theorem fresh_cons {r q : Nat} {y : Ent} {σ : Sto} : Fresh r ((q, y) :: σ) = (Nq q r ∧ Fresh r σ) := by
  simp [Fresh, Nq]
theorem fresh_nil {r : Nat} : Fresh r [] = True := by simp [Fresh]

section
variable {P : Program} {w : World}
theorem run_loadAt_one {t : TypeId} {d : TypeDesc} [h : Ty P t d] (hd : aggD d = false) {p : Addr} {u : Value} (hu : w.cell? p = some u) : (Instr.loadAt t (.pointer (some p))).run P w = .ok u w := by
  have hd' : (isAgg t).run P w = .ok false w := by
    simp only [isAgg, Sem.run_bind, run_underlying h.und, Result.andThen_ok]
    cases d <;> simp_all [aggD]
  simp [Instr.loadAt, Instr.sureAddr, loadVar, hd', hu]
theorem run_loadAt_agg {t : TypeId} {d : TypeDesc} [h : Ty P t d] {sz by_ : Nat} {z : Value} [h' : Tz P t sz by_ z] (hd : aggD d = true) {p : Addr} {cs : List Value} (hl : cs.length = sz) (hu : ∀ j v, cs[j]? = some v → w.cell? (p.add j) = some v) :
    (Instr.loadAt t (.pointer (some p))).run P w = .ok (.agg cs.toArray) w := by
  have hd' : (isAgg t).run P w = .ok true w := by
    simp only [isAgg, Sem.run_bind, run_underlying h.und, Result.andThen_ok]
    cases d <;> simp_all [aggD]
  obtain ⟨i, hi, hz, hs, _⟩ := Tz.parts P t
  simp [Instr.loadAt, Instr.sureAddr, loadVar, hd', sizeOf, typeInfo, hi, hs, ← hl, run_loadCells_list (P := P) (w := w) p cs hu]
theorem run_fieldAt {t : TypeId} {fs : Array Field} [h : Ty P t (.struct fs)] {i : Nat} {f : Field} (hf : fs[i]? = some f) {sz by_ : Nat} {z : Value} [h' : Tz P f.type sz by_ z] (h0 : sz ≠ 0) (p : Addr) :
    (Instr.fieldAt t (.pointer (some p)) i).run P w = .ok (.pointer (some (p.add f.offset))) w := by
  obtain ⟨j, hi, hz, hs, _⟩ := Tz.parts P f.type
  simp [Instr.fieldAt, Instr.sureAddr, fieldPlace, run_underlying h.und, hf, sizeOf, typeInfo, hi, hs, h0]
theorem run_indexAt_sl {t e : TypeId} [h : Ty P t (.slice e)] {sz by_ : Nat} {z : Value} [h' : Tz P e sz by_ z] {p : Addr} {len cap : Nat} {k : IntKind} {m : Int} (h1 : 0 ≤ m) (h2 : m < len) :
    (Instr.indexAt t (.slice (some p) len cap) (.int k m)).run P w = .ok (.pointer (some (p.add (m.toNat * sz)))) w := by
  obtain ⟨j, hi, hz, hs, _⟩ := Tz.parts P e
  simp [Instr.indexAt, asIntOf, run_underlying h.und, sizeOf, typeInfo, hi, hs, h1, h2]
theorem run_indexAt_arr {t e : TypeId} {n : Nat} [h : Ty P t (.array n e)] {sz by_ : Nat} {z : Value} [h' : Tz P e sz by_ z] {p : Addr} {k : IntKind} {m : Int} (h1 : 0 ≤ m) (h2 : m < n) :
    (Instr.indexAt t (.pointer (some p)) (.int k m)).run P w = .ok (.pointer (some (p.add (m.toNat * sz)))) w := by
  obtain ⟨j, hi, hz, hs, _⟩ := Tz.parts P e
  simp [Instr.indexAt, Instr.sureAddr, asIntOf, run_underlying h.und, sizeOf, typeInfo, hi, hs, h1, h2]
end

section
variable {P : Program} {ty : TypeId} {s : ASt} {c : Bool} {t t' : TypeId} {x y : Operand}

theorem run_binOp {ρ : Operand → Value} {o : Oper} {w : World} {op : BinOp} {u : Value} (ho : o.op = .binOp op t x y t') (hg : (eqGuard op t x y (ρ x) (ρ y)).run P w = .ok () w) (h : (binOp op t (ρ x) (ρ y)).run P w = .ok u w) : (execOp ρ o).run P w = .ok (.value u) w := by
  simp only [execOp, ho, Sem.run_bind, hg, Result.andThen_ok, h, Sem.run_pure]
theorem pointee_of {e : TypeId} [h : Ty P t (.pointer e)] : P.underlying t = some (.pointer (P.pointee t)) := by
  have := h.und
  simp [Program.pointee, this]
theorem lop_beql [Ty P t .bool] {b b' : Bool} (h : Ev s c x (.bool b)) (h' : Ev s c y (.bool b')) : Lop P (.binOp .eql t x y t') ty s c (.bool (b == b')) [] :=
  Lop.pure_ fun M F N n a w hr hc => ⟨_, .bool _, fun w' o ho _ => run_binOp ho (by rw [h.bool hr hc, eqGuard_at_bool]; rfl) (by rw [h.bool hr hc, h'.bool hr hc]; exact run_eql_bool _ _ _ _ (Ty.und (P := P) (t := t)))⟩
theorem lop_bneq [Ty P t .bool] {b b' : Bool} (h : Ev s c x (.bool b)) (h' : Ev s c y (.bool b')) : Lop P (.binOp .neq t x y t') ty s c (.bool (!(b == b'))) [] :=
  Lop.pure_ fun M F N n a w hr hc => ⟨_, .bool _, fun w' o ho _ => run_binOp ho (by rw [h.bool hr hc, eqGuard_at_bool]; rfl) (by rw [h.bool hr hc, h'.bool hr hc]; exact run_neq_bool _ _ _ _ (Ty.und (P := P) (t := t)))⟩
theorem lop_seql {b b' : ByteArray} (h : Ev s c x (.str b)) (h' : Ev s c y (.str b')) : Lop P (.binOp .eql t x y t') ty s c (.bool (b.toList == b'.toList)) [] :=
  Lop.pure_ fun M F N n a w hr hc => ⟨_, .bool _, fun w' o ho _ => by
    simp [execOp, ho, h.str hr hc, h'.str hr hc, binOp, Op.stringOp, eqGuard]⟩
theorem lop_sneq {b b' : ByteArray} (h : Ev s c x (.str b)) (h' : Ev s c y (.str b')) : Lop P (.binOp .neq t x y t') ty s c (.bool (!(b.toList == b'.toList))) [] :=
  Lop.pure_ fun M F N n a w hr hc => ⟨_, .bool _, fun w' o ho _ => by
    simp [execOp, ho, h.str hr hc, h'.str hr hc, binOp, Op.stringOp, eqGuard]⟩
theorem lop_sadd {b b' : ByteArray} (h : Ev s c x (.str b)) (h' : Ev s c y (.str b')) (hm : c = true → b.size + b'.size ≤ maxLen) : Lop P (.binOp .add t x y t') ty s c (.str (b ++ b')) [] :=
  Lop.pure_ fun M F N n a w hr hc => ⟨_, .str _, fun w' o ho _ => by
    have := hm hc
    unfold maxLen at this
    simp [execOp, ho, h.str hr hc, h'.str hr hc, binOp, Op.stringOp, eqGuard]
    omega⟩
/-- a pointer against nil -/
theorem lop_peql {e : TypeId} [Ty P t (.pointer e)] {v : AV} {b : Bool} (h : Ev s c x v) (h' : Ev s c y .nilp) (hv : v = .nilp ∧ b = true ∨ (∃ r o, v = .ptr r o) ∧ b = false ∨ (∃ r i o, v = .ow r i o) ∧ b = false ∨ (∃ z es i o, v = .el z es i o) ∧ b = false) :
    Lop P (.binOp .eql t x y t') ty s c (.bool b) [] :=
  Lop.pure_ fun M F N n a w hr hc => ⟨_, .bool _, fun w' o ho _ => by
    have e1 := h.vr hr hc
    have e2 := h'.vr hr hc
    generalize hu1 : a.eval x = u1 at e1
    generalize hu2 : a.eval y = u2 at e2
    cases e2
    have key : ∀ p : Option Addr, u1 = .pointer p → (execOp a.eval o).run P w' = .ok (.value (.bool p.isNone)) w' := fun p hp =>
      run_binOp ho (by rw [hu1, hp, eqGuard_at_pointer]; rfl) (by rw [hu1, hp, hu2]; exact run_eql_pointer_nil _ _ _ (pointee_of (P := P) (t := t)))
    rcases hv with ⟨rfl, rfl⟩ | ⟨⟨r, o', rfl⟩, rfl⟩ | ⟨⟨r, i, o', rfl⟩, rfl⟩ | ⟨⟨z, es, i, o', rfl⟩, rfl⟩ <;> cases e1 <;> exact key _ rfl⟩
theorem lop_pneq {e : TypeId} [Ty P t (.pointer e)] {v : AV} {b : Bool} (h : Ev s c x v) (h' : Ev s c y .nilp) (hv : v = .nilp ∧ b = false ∨ (∃ r o, v = .ptr r o) ∧ b = true ∨ (∃ r i o, v = .ow r i o) ∧ b = true ∨ (∃ z es i o, v = .el z es i o) ∧ b = true) :
    Lop P (.binOp .neq t x y t') ty s c (.bool b) [] :=
  Lop.pure_ fun M F N n a w hr hc => ⟨_, .bool _, fun w' o ho _ => by
    have e1 := h.vr hr hc
    have e2 := h'.vr hr hc
    generalize hu1 : a.eval x = u1 at e1
    generalize hu2 : a.eval y = u2 at e2
    cases e2
    have key : ∀ p : Option Addr, u1 = .pointer p → (execOp a.eval o).run P w' = .ok (.value (.bool (!p.isNone))) w' := fun p hp =>
      run_binOp ho (by rw [hu1, hp, eqGuard_at_pointer]; rfl) (by rw [hu1, hp, hu2]; exact run_neq_pointer_nil _ _ _ (pointee_of (P := P) (t := t)))
    rcases hv with ⟨rfl, rfl⟩ | ⟨⟨r, o', rfl⟩, rfl⟩ | ⟨⟨r, i, o', rfl⟩, rfl⟩ | ⟨⟨z, es, i, o', rfl⟩, rfl⟩ <;> cases e1 <;> exact key _ rfl⟩
theorem lop_nilCheck {v : AV} (h : Ev s c x v) (hv : (∃ r o, v = .ptr r o) ∨ (∃ r i o, v = .ow r i o) ∨ ∃ z es i o, v = .el z es i o) : Lop P (.nilCheck x) ty s c v [] :=
  Lop.pure_ fun M F N n a w hr hc => by
    have e1 := h.vr hr hc
    refine ⟨_, e1, fun w' o ho _ => ?_⟩
    generalize hu1 : a.eval x = u1 at e1
    rcases hv with ⟨r, o', rfl⟩ | ⟨r, i, o', rfl⟩ | ⟨z, es, i, o', rfl⟩ <;> cases e1 <;> simp [execOp, ho, hu1]

section
variable {i nfoff : Nat}
theorem lop_field_ptr {fs : Array Field} [Ty P t (.struct fs)] {nm tg pp : String} {ft off : Nat} {em : Bool} {bo : Nat} {sz by_ : Nat} {z : Value} {r o1 : Nat} (h : Ev s c x (.ptr r o1)) (hf : fs[i]? = some ⟨nm, ft, off, em, tg, pp, bo⟩)
    [Tz P ft sz by_ z] (h0 : sz ≠ 0) : Lop P (.fieldAddr t x i) ty s c (.ptr r (o1 + off)) [] :=
  Lop.pure_ fun M F N n a w hr hc => by
    have e1 := h.vr hr hc
    generalize hu : a.eval x = u at e1
    cases e1 with
    | ptr hM =>
      refine ⟨_, .ptr hM, fun w' o ho _ => ?_⟩
      have := run_fieldAt (P := P) (w := w') (t := t) hf (f := ⟨nm, ft, off, em, tg, pp, bo⟩) (h' := (inferInstance : Tz P ft sz by_ z)) h0
      simp [execOp, ho, hu, this, Addr.add_lit]
theorem lop_field_ow {fs : Array Field} [Ty P t (.struct fs)] {nm tg pp : String} {ft off : Nat} {em : Bool} {bo : Nat} {sz by_ : Nat} {z : Value} {r k o1 : Nat} (h : Ev s c x (.ow r k o1)) (hf : fs[i]? = some ⟨nm, ft, off, em, tg, pp, bo⟩)
    [Tz P ft sz by_ z] (h0 : sz ≠ 0) : Lop P (.fieldAddr t x i) ty s c (.ow r k (o1 + off)) [] :=
  Lop.pure_ fun M F N n a w hr hc => by
    have e1 := h.vr hr hc
    generalize hu : a.eval x = u at e1
    cases e1 with
    | @ow _ _ _ g cc sz' hM =>
      refine ⟨_, .ow hM, fun w' o ho _ => ?_⟩
      have := run_fieldAt (P := P) (w := w') (t := t) hf (f := ⟨nm, ft, off, em, tg, pp, bo⟩) (h' := (inferInstance : Tz P ft sz by_ z)) h0
      simp [execOp, ho, hu, this, Addr.add_lit, Nat.add_assoc]
theorem lop_field_el {fs : Array Field} [Ty P t (.struct fs)] {nm tg pp : String} {ft off : Nat} {em : Bool} {bo : Nat} {sz by_ : Nat} {z : Value} {sz' : Nat} {es : List (List AV)} {k o1 : Nat} (h : Ev s c x (.el sz' es k o1)) (hf : fs[i]? = some ⟨nm, ft, off, em, tg, pp, bo⟩)
    [Tz P ft sz by_ z] (h0 : sz ≠ 0) : Lop P (.fieldAddr t x i) ty s c (.el sz' es k (o1 + off)) [] :=
  Lop.pure_ fun M F N n a w hr hc => by
    have e1 := h.vr hr hc
    generalize hu : a.eval x = u at e1
    cases e1 with
    | el hb hs hcl hrr =>
      refine ⟨_, .el hb hs hcl hrr, fun w' o ho _ => ?_⟩
      have := run_fieldAt (P := P) (w := w') (t := t) hf (f := ⟨nm, ft, off, em, tg, pp, bo⟩) (h' := (inferInstance : Tz P ft sz by_ z)) h0
      simp [execOp, ho, hu, this, Addr.add_lit, Nat.add_assoc]
end

theorem lop_index_ro {e : TypeId} [Ty P t (.slice e)] {sz by_ : Nat} {z : Value} [Tz P e sz by_ z] {es : List (List AV)} {k : Rk} {kk : IntKind} {m : Int} (h : Ev s c x (.ro sz es k)) (h' : Ev s c y (.int kk m))
    (hm : c = true → 0 ≤ m ∧ m < es.length) : Lop P (.indexAddr t x y) ty s c (.el sz es m.toNat 0) [] :=
  Lop.pure_ fun M F N n a w hr hc => by
    have e1 := h.vr hr hc
    have e2 := h'.int hr hc
    obtain ⟨h1, h2⟩ := hm hc
    generalize hu : a.eval x = u at e1
    cases e1 with
    | ro hb hs hcl hrr hle hmm hf hn =>
      refine ⟨_, .el hb hs hcl hrr, fun w' o ho _ => ?_⟩
      simp [execOp, ho, hu, e2, run_indexAt_sl (P := P) (t := t) h1 h2, Addr.add_lit]
    | ro0 hm hA hf hn => simp at h2; omega
theorem lop_index_own {e : TypeId} [Ty P t (.slice e)] {sz by_ : Nat} {z : Value} [Tz P e sz by_ z] {r off len : Nat} {et : TypeId} {es : List (List AV)} {kk : IntKind} {m : Int} (h : Ev s c x (.own r off len)) (hg : sget s.σ r = some (.arr et sz es)) (h' : Ev s c y (.int kk m))
    (hm : c = true → 0 ≤ m ∧ m < len) : Lop P (.indexAddr t x y) ty s c (.ow r (off + m.toNat) 0) [] :=
  Lop.pure_ fun M F N n a w hr hc => by
    have e1 := h.vr hr hc
    have e2 := h'.int hr hc
    obtain ⟨h1, h2⟩ := hm hc
    generalize hu : a.eval x = u at e1
    obtain ⟨_, _, h3⟩ := hr.st.ent _ (sget_mem hg)
    cases e1 with
    | own hM hle hmm =>
      rcases h3 with ⟨hv, _⟩ | ⟨g, cc, vs, hM', _⟩
      · rw [hM] at hv; cases hv
      · have hsz := hM.symm.trans hM'
        simp only [Option.some.injEq, Blk'.row.injEq] at hsz
        obtain ⟨rfl, rfl, rfl⟩ := hsz
        refine ⟨_, .ow hM, fun w' o ho _ => ?_⟩
        simp [execOp, ho, hu, e2, run_indexAt_sl (P := P) (t := t) h1 h2, Addr.add_lit, Nat.add_mul]
    | own0 => simp at h2; omega
theorem lop_index_arr {e : TypeId} {k : Nat} [Ty P t (.array k e)] {sz by_ : Nat} {z : Value} [Tz P e sz by_ z] {r off : Nat} {kk : IntKind} {m : Int} (h : Ev s c x (.ptr r off)) (h' : Ev s c y (.int kk m))
    (hm : c = true → 0 ≤ m ∧ m < k) : Lop P (.indexAddr t x y) ty s c (.ptr r (off + m.toNat * sz)) [] :=
  Lop.pure_ fun M F N n a w hr hc => by
    have e1 := h.vr hr hc
    have e2 := h'.int hr hc
    obtain ⟨h1, h2⟩ := hm hc
    generalize hu : a.eval x = u at e1
    cases e1 with
    | ptr hM =>
      refine ⟨_, .ptr hM, fun w' o ho _ => ?_⟩
      simp [execOp, ho, hu, e2, run_indexAt_arr (P := P) (t := t) h1 h2, Addr.add_lit]

/-! loads -/
theorem lop_load_ptr {d : TypeDesc} [Ty P t d] {r off : Nat} {bt : TypeId} {cs : List AV} {v : AV} (h : Ev s c x (.ptr r off)) (hd : aggD d = false) (hg : sget s.σ r = some (.box bt cs)) (hv : c = true → cs[off]? = some v) : Lop P (.load t x) ty s c v [r] := by
  refine ⟨fun q hq => ⟨_, sget_mem hg, (List.mem_singleton.1 hq).symm⟩, ?_⟩
  intro M F N n a w hr hc
  have e1 := h.vr hr hc
  have hv := hv hc
  generalize hu : a.eval x = u at e1
  obtain ⟨g, vs, hM', hcl, hsz, hvr⟩ := hr.st.ent _ (sget_mem hg)
  cases e1 with
  | ptr hM =>
    have hg' := hM'.symm.trans hM
    simp only [Option.some.injEq, Blk'.row.injEq] at hg'
    obtain ⟨q1, q2, q3⟩ := hg'
    subst q1
    have hlt : off < vs.size := by rw [hsz]; exact (List.getElem?_eq_some_iff.1 hv).1
    refine ⟨vs[off], hvr off v _ hv (Array.getElem?_eq_getElem hlt), fun w' o ho _ hw => ?_⟩
    have hc' := (hcl.same (hw _ (.inr ⟨r, by simp, by simp [blkOf, hM]⟩))).cell off
    rw [Array.getElem?_eq_getElem hlt] at hc'
    simp [execOp, ho, hu, run_loadAt_one (P := P) (t := t) hd hc']
theorem lop_load_ptr_agg {d : TypeDesc} [Ty P t d] {sz by_ : Nat} {z : Value} [Tz P t sz by_ z] {r off : Nat} {bt : TypeId} {cs : List AV} (h : Ev s c x (.ptr r off)) (hd : aggD d = true) (hg : sget s.σ r = some (.box bt cs)) (hv : c = true → off + sz ≤ cs.length) :
    Lop P (.load t x) ty s c (.agg ((cs.drop off).take sz)) [r] := by
  refine ⟨fun q hq => ⟨_, sget_mem hg, (List.mem_singleton.1 hq).symm⟩, ?_⟩
  intro M F N n a w hr hc
  have e1 := h.vr hr hc
  have hv := hv hc
  generalize hu : a.eval x = u at e1
  obtain ⟨g, vs, hM', hcl, hsz, hvr⟩ := hr.st.ent _ (sget_mem hg)
  cases e1 with
  | ptr hM =>
    have hg' := hM'.symm.trans hM
    simp only [Option.some.injEq, Blk'.row.injEq] at hg'
    obtain ⟨q1, q2, q3⟩ := hg'
    subst q1
    refine ⟨.agg ((vs.toList.drop off).take sz).toArray, .agg (by simp [hsz]) (fun j a u hj hu => ?_), fun w' o ho _ hw => ?_⟩
    · have hjl : j < sz := by
        have := (List.getElem?_eq_some_iff.1 hj).1; simp at this; omega
      rw [List.getElem?_take_of_lt hjl, List.getElem?_drop] at hj
      simp only [List.getElem?_toArray] at hu
      rw [List.getElem?_take_of_lt hjl, List.getElem?_drop] at hu
      exact hvr _ a u hj (by simpa using hu)
    · have hcl' := hcl.same (hw _ (.inr ⟨r, by simp, by simp [blkOf, hM]⟩))
      have := run_loadAt_agg (P := P) (w := w') (t := t) hd (p := ⟨g, off, none⟩) (cs := (vs.toList.drop off).take sz) (by simp [hsz]; omega) (fun j v hj => by
        have hjl : j < sz := by
          have := (List.getElem?_eq_some_iff.1 hj).1; simp at this; omega
        rw [List.getElem?_take_of_lt hjl, List.getElem?_drop] at hj
        rw [Addr.add_lit, hcl'.cell]
        simpa using hj)
      simp [execOp, ho, hu, this]
theorem lop_load_el {d : TypeDesc} [Ty P t d] {sz' : Nat} {es : List (List AV)} {i off : Nat} {e : List AV} {v : AV} (h : Ev s c x (.el sz' es i off)) (hd : aggD d = false) (he : c = true → es[i]? = some e) (hv : c = true → e[off]? = some v) : Lop P (.load t x) ty s c v [] := by
  refine ⟨fun q hq => by simp at hq, ?_⟩
  intro M F N n a w hr hc
  have e1 := h.vr hr hc
  have he := he hc
  have hv := hv hc
  generalize hu : a.eval x = u at e1
  cases e1 with
  | @el _ _ _ b o2 _ us hb hs hcl hrr =>
    refine ⟨_, hrr i e off v he hv, fun w' o ho _ hw => ?_⟩
    have hc' := (World.cell?_of_block (w := w) (w' := w') (a := ⟨b, o2 + i * sz' + off, none⟩) (hw b (.inl hb))).trans (hcl i e off v he hv)
    simp [execOp, ho, hu, run_loadAt_one (P := P) (t := t) hd hc']
theorem lop_load_el_agg {d : TypeDesc} [Ty P t d] {sz by_ : Nat} {z : Value} [Tz P t sz by_ z] {sz' : Nat} {es : List (List AV)} {i off : Nat} {e : List AV} (h : Ev s c x (.el sz' es i off)) (hd : aggD d = true) (he : c = true → es[i]? = some e) (hv : c = true → off + sz ≤ e.length) :
    Lop P (.load t x) ty s c (.agg ((e.drop off).take sz)) [] := by
  refine ⟨fun q hq => by simp at hq, ?_⟩
  intro M F N n a w hr hc
  have e1 := h.vr hr hc
  have he := he hc
  have hv := hv hc
  generalize hu : a.eval x = u at e1
  cases e1 with
  | @el _ _ _ b o2 _ us hb hs hcl hrr =>
    refine ⟨.agg ((List.range sz).map fun j => us i (off + j)).toArray, .agg (by simp; omega) (fun j a u hj hu => ?_), fun w' o ho _ hw => ?_⟩
    · have hjl : j < sz := by
        have := (List.getElem?_eq_some_iff.1 hj).1; simp at this; omega
      rw [List.getElem?_take_of_lt hjl, List.getElem?_drop] at hj
      have hu' : us i (off + j) = u := by simpa [hjl] using hu
      rw [← hu']
      exact hrr i e _ a he hj
    · have := run_loadAt_agg (P := P) (w := w') (t := t) hd (p := ⟨b, o2 + i * sz' + off, none⟩) (cs := (List.range sz).map fun j => us i (off + j)) (by simp) (fun j v hj => by
        have hjl : j < sz := by
          have := (List.getElem?_eq_some_iff.1 hj).1; simp at this; omega
        have hv' : us i (off + j) = v := by simpa [hjl] using hj
        rw [Addr.add_lit, ← hv', Nat.add_assoc]
        have hj2 : off + j < e.length := by omega
        exact (World.cell?_of_block (w := w) (w' := w') (a := ⟨b, o2 + i * sz' + (off + j), none⟩) (hw b (.inl hb))).trans (hcl i e _ e[off + j] he (List.getElem?_eq_getElem hj2)))
      simp [execOp, ho, hu, this]
theorem lop_load_ow {d : TypeDesc} [Ty P t d] {r i off : Nat} {et : TypeId} {sz' : Nat} {es : List (List AV)} {e : List AV} {v : AV} (h : Ev s c x (.ow r i off)) (hd : aggD d = false) (hg : sget s.σ r = some (.arr et sz' es)) (he : c = true → es[i]? = some e) (hv : c = true → e[off]? = some v) :
    Lop P (.load t x) ty s c v [r] := by
  refine ⟨fun q hq => ⟨_, sget_mem hg, (List.mem_singleton.1 hq).symm⟩, ?_⟩
  intro M F N n a w hr hc
  have e1 := h.vr hr hc
  have he := he hc
  have hv := hv hc
  generalize hu : a.eval x = u at e1
  obtain ⟨h0, hrows, h3⟩ := hr.st.ent _ (sget_mem hg)
  have hel := hrows e (List.mem_of_getElem? he)
  cases e1 with
  | ow hM =>
    rcases h3 with ⟨hv', _⟩ | ⟨g, cc, vs, hM', hcl, hsz, hle, hmax, hvr⟩
    · rw [hM] at hv'; cases hv'
    · have hg' := hM'.symm.trans hM
      simp only [Option.some.injEq, Blk'.row.injEq] at hg'
      obtain ⟨q1, q2, q3⟩ := hg'
      subst q1
      subst q2
      subst q3
      have hi : i < es.length := (List.getElem?_eq_some_iff.1 he).1
      have ho : off < sz' := by rw [← hel.1]; exact (List.getElem?_eq_some_iff.1 hv).1
      have hlt : i * sz' + off < vs.size := by
        rw [hsz]
        calc i * sz' + off < i * sz' + sz' := by omega
          _ = (i + 1) * sz' := by rw [Nat.succ_mul]
          _ ≤ cc * sz' := Nat.mul_le_mul_right _ (by omega)
      refine ⟨vs[i * sz' + off], hvr i e off v _ he hv (Array.getElem?_eq_getElem hlt), fun w' o ho _ hw => ?_⟩
      have hc' := (hcl.same (hw _ (.inr ⟨r, by simp, by simp [blkOf, hM]⟩))).cell (i * sz' + off)
      rw [Array.getElem?_eq_getElem hlt] at hc'
      simp [execOp, ho, hu, run_loadAt_one (P := P) (t := t) hd hc']

/-! lengths -/
theorem lop_len_ro {e : TypeId} {sz : Nat} {es : List (List AV)} {k : Rk} [Ty P t (.slice e)] (h : Ev s c x (.ro sz es k)) : Lop P (.call { callee := .builtin .len, args := #[x], argTypes := #[t] }) ty s c (.int .i64 es.length) [] :=
  Lop.pure_ fun M F N n a w hr hc => by
    have e1 := h.vr hr hc
    generalize hu : a.eval x = u at e1
    cases e1 <;> exact ⟨_, .int _ _, fun w' o ho _ => by simp [execOp, ho, hu, resolve, invoke, builtin, Builtin.len_, run_underlying (Ty.und (P := P) (t := t)), goInt]⟩
theorem lop_len_map {e : TypeId} {sz : Nat} {α : Type} {l : List α} {f : α → List AV} {k : Rk} [Ty P t (.slice e)] (h : Ev s c x (.ro sz (l.map f) k)) : Lop P (.call { callee := .builtin .len, args := #[x], argTypes := #[t] }) ty s c (.int .i64 l.length) [] := by
  have := lop_len_ro (P := P) (ty := ty) (t := t) h
  rwa [List.length_map] at this
theorem lop_len_own {e : TypeId} {r off len : Nat} [Ty P t (.slice e)] (h : Ev s c x (.own r off len)) : Lop P (.call { callee := .builtin .len, args := #[x], argTypes := #[t] }) ty s c (.int .i64 len) [] :=
  Lop.pure_ fun M F N n a w hr hc => by
    have e1 := h.vr hr hc
    generalize hu : a.eval x = u at e1
    cases e1 <;> exact ⟨_, .int _ _, fun w' o ho _ => by simp [execOp, ho, hu, resolve, invoke, builtin, Builtin.len_, run_underlying (Ty.und (P := P) (t := t)), goInt]⟩
theorem lop_len_str {b : ByteArray} [Ty P t .string] (h : Ev s c x (.str b)) : Lop P (.call { callee := .builtin .len, args := #[x], argTypes := #[t] }) ty s c (.int .i64 b.size) [] :=
  Lop.pure_ fun M F N n a w hr hc => ⟨_, .int _ _, fun w' o ho _ => by simp [execOp, ho, h.str hr hc, resolve, invoke, builtin, Builtin.len_, run_underlying (Ty.und (P := P) (t := t)), goInt]⟩
theorem lop_extract {cs : List AV} {i : Nat} {v : AV} (h : Ev s c x (.tup cs)) (hv : cs[i]? = some v) : Lop P (.extract x i) ty s c v [] :=
  Lop.pure_ fun M F N n a w hr hc => by
    have e1 := h.vr hr hc
    generalize hu : a.eval x = u at e1
    cases e1 with
    | @tup _ vs hl hh =>
      have hlt : i < vs.size := by rw [hl]; exact (List.getElem?_eq_some_iff.1 hv).1
      refine ⟨vs[i], hh i v _ hv (Array.getElem?_eq_getElem hlt), fun w' o ho _ => ?_⟩
      simp [execOp, ho, hu, Instr.extract, Array.getElem?_eq_getElem hlt]
theorem lop_string {b : ByteArray} {t1 t2 : TypeId} {d : TypeDesc} [Ty P t1 d] [Ty P t2 .string] (h : Ev s c x (.str b)) : Lop P (.convert t1 t2 x) ty s c (.str b) [] :=
  Lop.pure_ fun M F N n a w hr hc => ⟨_, .str _, fun w' o ho _ => by
    simp [execOp, ho, h.str hr hc, convert, run_underlying (Ty.und (P := P) (t := t1)), run_underlying (Ty.und (P := P) (t := t2))]⟩
end

end Go.Proofs.Ytkjfflabapeidaa
