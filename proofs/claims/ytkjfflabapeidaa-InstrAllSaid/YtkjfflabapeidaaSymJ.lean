/-
  The symbolic layer: structs built and taken apart, parts of slices and strings, min and max, rows lent to a call and rows that nobody writes any more. No program is named here.
-/
import Derived.Test.YtkjfflabapeidaaSymI
import Derived.Laws.Slices
import Derived.Laws.Tables
namespace Go.Proofs.Ytkjfflabapeidaa
open Go.RowKit Go.ChangeShapes Go.WideShapes Go.ChangeAt Go.Deep
set_option linter.unusedSimpArgs false
set_option linter.unusedVariables false

/-! ### structs by value -/
def fillA (pl : List (Nat × Nat)) : List AV → List (Nat × AV) → Option (List AV)
  | cs, [] => some cs
  | cs, (i, v) :: r => match pl[i]? with
    | none => none
    | some (off, sz) => if v.cells.length == sz && decide (off + sz ≤ cs.length) && v.cells.all AV.cell then fillA pl (cs.take off ++ v.cells ++ cs.drop (off + sz)) r else none
inductive PEvs (s : ASt) (c : Bool) : List (Nat × Operand) → List (Nat × AV) → Prop
  | nil : PEvs s c [] []
  | cons {i : Nat} {x : Operand} {xs : List (Nat × Operand)} {v : AV} {vs : List (Nat × AV)} (h : Ev s c x v) (r : PEvs s c xs vs) : PEvs s c ((i, x) :: xs) ((i, v) :: vs)
theorem fillA_ok {M : Mp} {F : Nat → Prop} {N n : Nat} {w : World} {s : ASt} {a : Act} {c : Bool} {pl : List (Nat × Nat)} (hr : Rel M F N n s a w) (hc : c = true) {xs : List (Nat × Operand)} {vs : List (Nat × AV)} (h : PEvs s c xs vs) : ∀ (cs out : List AV) (us : Array Value), us.size = cs.length →
    (∀ (j : Nat) (b : AV) (u : Value), cs[j]? = some b → us[j]? = some u → VR M F w b u) → fillA pl cs vs = some out →
    ∃ r, Instr.fill (pl.toArray[·]?) us (xs.map fun p => (p.1, a.eval p.2)) = some r ∧ r.size = out.length ∧ ∀ (j : Nat) (b : AV) (u : Value), out[j]? = some b → r[j]? = some u → VR M F w b u := by
  induction h with
  | nil =>
    intro cs out us hs hv hf
    obtain rfl := Option.some.inj hf
    exact ⟨us, rfl, hs, hv⟩
  | @cons i x xs v vs hx _ ih =>
    intro cs out us hs hv hf
    unfold fillA at hf
    cases hp : pl[i]? with
    | none => rw [hp] at hf; cases hf
    | some q =>
      obtain ⟨off, sz⟩ := q
      rw [hp] at hf
      simp only at hf
      split at hf
      · next hcond =>
        simp only [Bool.and_eq_true, beq_iff_eq, decide_eq_true_eq] at hcond
        obtain ⟨⟨h1, h2⟩, h3⟩ := hcond
        obtain ⟨q1, q2, _⟩ := (hx.vr hr hc).cells (List.all_eq_true.1 h3)
        obtain ⟨f1, f2⟩ := fold_cells (a.eval x) off us
        have hlen : (cs.take off ++ v.cells ++ cs.drop (off + sz)).length = cs.length := by simp [List.length_take, List.length_drop, h1]; omega
        obtain ⟨r, k1, k2, k3⟩ := ih _ out (Array.foldl (fun cs p => cs.setIfInBounds (off + p.2) p.1) us (a.eval x).cells.zipIdx) (by rw [f1, hs, hlen]) (fun j b u hj hu => by
          rw [f2] at hu
          rw [List.append_assoc] at hj
          rcases Nat.lt_or_ge j off with hlt | hge
          · rw [List.getElem?_append_left (by rw [List.length_take]; omega), List.getElem?_take_of_lt hlt] at hj
            rw [if_neg (by omega)] at hu
            exact hv j b u hj hu
          · rw [List.getElem?_append_right (by rw [List.length_take]; omega), List.length_take, Nat.min_eq_left (by omega)] at hj
            rcases Nat.lt_or_ge (j - off) sz with hlt2 | hge2
            · rw [List.getElem?_append_left (by omega)] at hj
              rw [if_pos ⟨hge, by omega, by omega⟩] at hu
              exact q2 _ b u hj hu
            · rw [List.getElem?_append_right (by omega), List.getElem?_drop, h1, show off + sz + (j - off - sz) = j by omega] at hj
              rw [if_neg (by omega)] at hu
              exact hv j b u hj hu) hf
        refine ⟨r, ?_, k2, k3⟩
        simp only [List.map_cons, Instr.fill, List.getElem?_toArray, hp]
        rw [if_neg (by simp; omega)]
        simpa using k1
      · cases hf
section
variable {P : Program} {ty : TypeId} {s : ASt} {c : Bool} {t t' : TypeId} {x y : Operand}
theorem lop_build {fs : Array Field} [Ty P t (.struct fs)] {sz by_ : Nat} {z : Value} [Tz P t sz by_ z] {pl : List (Nat × Nat)} [Tf P t pl] {parts : Array (Nat × Operand)} {xs : List (Nat × Operand)} {vs : List (Nat × AV)} {out : List AV} (hx : parts.toList = xs) (hp : PEvs s c xs vs) (hf : fillA pl (z.cells.toList.map ofCell) vs = some out) :
    Lop P (.build t parts) ty s c (.agg out) [] :=
  Lop.pure_ fun M F N n a w hr hc => by
    obtain ⟨i, hi, hz, hs, _⟩ := Tz.parts P t
    have hpl := Tf.pls (P := P) (t := t)
    rw [Ty.und (P := P) (t := t)] at hpl
    simp only at hpl
    obtain ⟨r, h1, h2, h3⟩ := fillA_ok hr hc hp (z.cells.toList.map ofCell) out z.cells (by simp) (fun j b u hj hu => by
      rw [List.getElem?_map, Array.getElem?_toList, hu] at hj
      obtain rfl := Option.some.inj hj
      exact ofCell_vr u) hf
    refine ⟨.agg r, .agg h2 h3, fun w' o ho _ => ?_⟩
    have hb : P.built t (parts.map fun (p : Nat × Operand) => (p.1, a.eval p.2)).toList = some r := by
      unfold Program.built
      simp only [hi, Ty.und (P := P) (t := t), hz, hpl]
      rw [Array.toList_map, hx]
      exact h1
    simp only [execOp, ho]
    rw [Sem.run_bind, run_build w' t _ r hb]
    simp
theorem run_part_one {d : TypeDesc} [h : Ty P t d] (hd : aggD d = false) {w : World} {vs : Array Value} {off : Nat} {u : Value} (hu : vs[off]? = some u) : (part t vs off).run P w = .ok u w := by
  have hd' : (isAgg t).run P w = .ok false w := by
    simp only [isAgg, Sem.run_bind, run_underlying h.und, Result.andThen_ok]
    cases d <;> simp_all [aggD]
  simp [part, hd', hu]
theorem lop_fld {fs : Array Field} [Ty P t (.struct fs)] {cs : List AV} {i : Nat} {nm tg pp : String} {ft off : Nat} {em : Bool} {bo : Nat} {d : TypeDesc} {v : AV} (h : Ev s c x (.agg cs)) (hf : fs[i]? = some ⟨nm, ft, off, em, tg, pp, bo⟩) [Ty P ft d] (hd : aggD d = false) (hv : c = true → cs[off]? = some v) :
    Lop P (.field t x i) ty s c v [] :=
  Lop.pure_ fun M F N n a w hr hc => by
    have e1 := h.vr hr hc
    have hv := hv hc
    generalize hu : a.eval x = u at e1
    cases e1 with
    | @agg _ vs hl hh =>
      have hlt : off < vs.size := by rw [hl]; exact (List.getElem?_eq_some_iff.1 hv).1
      refine ⟨vs[off], hh off v _ hv (Array.getElem?_eq_getElem hlt), fun w' o ho _ => ?_⟩
      have := run_part_one (P := P) (t := ft) hd (w := w') (Array.getElem?_eq_getElem hlt)
      simp [execOp, ho, hu, Instr.field, run_underlying (Ty.und (P := P) (t := t)), hf, asAgg, this]
theorem lop_fld_agg {fs : Array Field} [Ty P t (.struct fs)] {cs : List AV} {i : Nat} {nm tg pp : String} {ft off : Nat} {em : Bool} {bo : Nat} {d : TypeDesc} (h : Ev s c x (.agg cs)) (hf : fs[i]? = some ⟨nm, ft, off, em, tg, pp, bo⟩) [Ty P ft d] (hd : aggD d = true) {sz by_ : Nat} {z : Value} [Tz P ft sz by_ z] (hv : c = true → off + sz ≤ cs.length) :
    Lop P (.field t x i) ty s c (.agg ((cs.drop off).take sz)) [] :=
  Lop.pure_ fun M F N n a w hr hc => by
    have e1 := h.vr hr hc
    have hv := hv hc
    obtain ⟨j, hi, hz, hs, _⟩ := Tz.parts P ft
    generalize hu : a.eval x = u at e1
    cases e1 with
    | @agg _ vs hl hh =>
      refine ⟨.agg (vs.extract off (off + sz)), .agg (by simp [hl]; omega) (fun j a u hj hu => ?_), fun w' o ho _ => ?_⟩
      · have hjl : j < sz := by
          have := (List.getElem?_eq_some_iff.1 hj).1; simp at this; omega
        rw [List.getElem?_take_of_lt hjl, List.getElem?_drop] at hj
        rw [Array.getElem?_extract] at hu
        split at hu
        · exact hh _ a u hj hu
        · cases hu
      · have hd' : (isAgg ft).run P w' = .ok true w' := by
          simp only [isAgg, Sem.run_bind, run_underlying (Ty.und (P := P) (t := ft)), Result.andThen_ok]
          cases d <;> simp_all [aggD]
        simp [execOp, ho, hu, Instr.field, run_underlying (Ty.und (P := P) (t := t)), hf, asAgg, part, hd', sizeOf, typeInfo, hi, hs]

/-! ### min, max -/
theorem lop_max {k k' : IntKind} {m m' : Int} {ats : Array TypeId} (h : Ev s c x (.int k m)) (h' : Ev s c y (.int k' m')) : Lop P (.call { callee := .builtin .max, args := #[x, y], argTypes := ats }) ty s c (.int k (if m < m' then m' else m)) [] :=
  Lop.pure_ fun M F N n a w hr hc => ⟨_, .int _ _, fun w' o ho _ => by
    have e1 := h.int hr hc
    have e2 := h'.int hr hc
    simp [execOp, ho, e1, e2, resolve, invoke, builtin, Builtin.max_, Builtin.max2]⟩
theorem lop_min {k k' : IntKind} {m m' : Int} {ats : Array TypeId} (h : Ev s c x (.int k m)) (h' : Ev s c y (.int k' m')) : Lop P (.call { callee := .builtin .min, args := #[x, y], argTypes := ats }) ty s c (.int k (if m' < m then m' else m)) [] :=
  Lop.pure_ fun M F N n a w hr hc => ⟨_, .int _ _, fun w' o ho _ => by
    have e1 := h.int hr hc
    have e2 := h'.int hr hc
    simp [execOp, ho, e1, e2, resolve, invoke, builtin, Builtin.min_, Builtin.min2]⟩

/-! ### parts of slices and strings -/
/-- a bound of a slice expression: left out, or an int -/
inductive OB (s : ASt) (c : Bool) (dflt : Nat) : Option Operand → Nat → Prop
  | none : OB s c dflt Option.none dflt
  | some {x : Operand} {k : IntKind} {m : Int} {b : Nat} (h : Ev s c x (.int k m)) (hm : c = true → m = (b : Int)) : OB s c dflt (Option.some x) b
inductive VB (dflt : Nat) : Option Value → Nat → Prop
  | none : VB dflt Option.none dflt
  | some {k : IntKind} {b : Nat} : VB dflt (Option.some (.int k b)) b
theorem OB.vb {M : Mp} {F : Nat → Prop} {N n : Nat} {w : World} {a : Act} (hr : Rel M F N n s a w) (hc : c = true) {dflt b : Nat} {o : Option Operand} (h : OB s c dflt o b) : VB dflt (o.map a.eval) b := by
  cases h with
  | none => exact .none
  | some h hm =>
    have := h.int hr hc
    rw [hm hc] at this
    rw [Option.map_some, this]
    exact .some
theorem OB.vs {M : Mp} {F : Nat → Prop} {N n : Nat} {w : World} {a : Act} (hr : Rel M F N n s a w) (hc : c = true) {dflt b : Nat} {x : Operand} (h : OB s c dflt (Option.some x) b) (dflt' : Nat) : VB dflt' (Option.some (a.eval x)) b := by
  cases h with
  | some h hm =>
    have := h.int hr hc
    rw [hm hc] at this
    rw [this]
    exact .some
theorem run_sl {e : TypeId} [Ty P t (.slice e)] {sz by_ : Nat} {z : Value} [Tz P e sz by_ z] {w : World} {A : Option Addr} {len cap l h m : Nat} {lo hi mx : Option Value} (hl : VB 0 lo l) (hh : VB len hi h) (hm : VB cap mx m) (hx : mx.isSome = true → hi.isSome = true)
    (h1 : l ≤ h) (h2 : h ≤ m) (h3 : m ≤ cap) : (Instr.sliceAt t (.slice A len cap) lo hi mx).run P w = .ok (.slice (if m = l then A else A.map (·.add (l * sz))) (h - l) (m - l)) w := by
  obtain ⟨j, hi', hz, hs, _⟩ := Tz.parts P e
  have hb : ∀ (k : IntKind) (b y : Nat) (code : BoundsCode), b ≤ y → (Instr.sliceBound (.int k b) y code).run P w = .ok b w := fun k b y code hle => by
    rw [run_sliceBound w k b y code (by omega) (by omega)]
    simp
  have hat : ∀ lo hi mx, (Instr.sliceAt t (.slice A len cap) lo hi mx).run P w = (Instr.slice t (.slice A len cap) lo hi mx).run P w := fun _ _ _ => by
    simp [Instr.sliceAt, run_underlying (Ty.und (P := P) (t := t))]
  have key : (Instr.sliceBounds true len cap lo hi mx).run P w = .ok (l, h, m) w := by
    cases hl <;> cases hh <;> cases hm <;> first | (simp at hx; done) | (simp [Instr.sliceBounds, hb, h1, h2, h3])
  rw [hat]
  simp [Instr.slice, run_underlying (Ty.und (P := P) (t := t)), key, sizeOf, typeInfo, hi', hs]

theorem lop_slice_ro {e : TypeId} [Ty P t (.slice e)] {sz by_ : Nat} {z : Value} [Tz P e sz by_ z] {es : List (List AV)} {k : Rk} {lo hi : Option Operand} {l h : Nat} (hx : Ev s c x (.ro sz es k)) (hl : OB s c 0 lo l) (hh : OB s c es.length hi h) (h1 : c = true → l ≤ h ∧ h ≤ es.length) :
    Lop P (.slice t x lo hi none) ty s c (.ro sz ((es.drop l).take (h - l)) .any) [] :=
  Lop.pure_ fun M F N n a w hr hc => by
    have e1 := hx.vr hr hc
    obtain ⟨h1', h2⟩ := h1 hc
    clear h1
    have h1 := h1'
    have hlb : VB 0 (lo.map a.eval) l := hl.vb hr hc
    have hhb : VB es.length (hi.map a.eval) h := hh.vb hr hc
    generalize hu : a.eval x = u at e1
    have hlen : ((es.drop l).take (h - l)).length = h - l := by rw [List.length_take, List.length_drop]; omega
    cases e1 with
    | @ro _ _ b o _ cap us hb hs hcl hrr hle hmm hf hn =>
      have hrun : ∀ w', (Instr.sliceAt t (.slice (some ⟨b, o, none⟩) es.length cap) (lo.map a.eval) (hi.map a.eval) none).run P w' = .ok (.slice (if cap = l then some ⟨b, o, none⟩ else some ⟨b, o + l * sz, none⟩) (h - l) (cap - l)) w' := fun w' => by
        rw [run_sl (P := P) (t := t) (mx := none) hlb hhb .none (fun h => by cases h) h1 (by omega) (Nat.le_refl _)]
        simp [Addr.add_lit]
      refine ⟨_, ?_, fun w' o' ho _ => by simp [execOp, ho, hu, hrun]; rfl⟩
      by_cases hcl' : cap = l
      · have h0 : h - l = 0 := by omega
        rw [if_pos hcl', h0, List.take_zero]
        exact .ro0 (by omega) (fun h => by cases h) (fun h => by cases h) (fun h => by cases h)
      · rw [if_neg hcl']
        have : VR M F w (.ro sz ((es.drop l).take (h - l)) .any) (.slice (some ⟨b, o + l * sz, none⟩) ((es.drop l).take (h - l)).length (cap - l)) := by
          refine .ro (us := fun i j => us (l + i) j) hb (fun x hx => hs x (List.mem_of_mem_drop (List.mem_of_mem_take hx))) ?_ ?_ (by omega) (by omega) (fun h => by cases h) (fun h => by cases h)
          · intro i e j a hi hj
            have hil := (List.getElem?_eq_some_iff.1 hi).1
            rw [hlen] at hil
            rw [List.getElem?_take_of_lt hil, List.getElem?_drop] at hi
            have := hcl (l + i) e j a hi hj
            rwa [Nat.add_mul, ← Nat.add_assoc] at this
          · intro i e j a hi hj
            have hil := (List.getElem?_eq_some_iff.1 hi).1
            rw [hlen] at hil
            rw [List.getElem?_take_of_lt hil, List.getElem?_drop] at hi
            exact hrr (l + i) e j a hi hj
        rwa [hlen] at this
    | @ro0 _ _ A cap hmm hA hf hn =>
      simp only [List.length_nil] at h2 hhb
      have hrun : ∀ w', (Instr.sliceAt t (.slice A 0 cap) (lo.map a.eval) (hi.map a.eval) none).run P w' = .ok (.slice (if cap = l then A else A.map (·.add (l * sz))) (h - l) (cap - l)) w' := fun w' =>
        run_sl (P := P) (t := t) (mx := none) hlb hhb .none (fun h => by cases h) h1 (by omega) (Nat.le_refl _)
      refine ⟨_, ?_, fun w' o' ho _ => by simp [execOp, ho, hu, hrun]; rfl⟩
      have h0 : h - l = 0 := by omega
      rw [h0, List.take_zero]
      refine .ro0 (by omega) (fun h => ?_) (fun h => by cases h) (fun h => by cases h)
      split at h
      · omega
      · simp only [Option.map_eq_none_iff] at h; have := hA h; omega
/-- with a third bound, at the second: what is appended to it lies elsewhere -/
theorem lop_slice_ro3 {e : TypeId} [Ty P t (.slice e)] {sz by_ : Nat} {z : Value} [Tz P e sz by_ z] {es : List (List AV)} {k : Rk} {lo : Option Operand} {hi mx : Operand} {l h : Nat} (hx : Ev s c x (.ro sz es k)) (hl : OB s c 0 lo l) (hh : OB s c es.length (some hi) h) (hm : OB s c 0 (some mx) h) (h1 : c = true → l ≤ h ∧ h ≤ es.length) :
    Lop P (.slice t x lo (some hi) (some mx)) ty s c (.ro sz ((es.drop l).take (h - l)) .full) [] :=
  Lop.pure_ fun M F N n a w hr hc => by
    have e1 := hx.vr hr hc
    obtain ⟨h1', h2⟩ := h1 hc
    clear h1
    have h1 := h1'
    have hlb : VB 0 (lo.map a.eval) l := hl.vb hr hc
    have hhb : ∀ dflt, VB dflt (some (a.eval hi)) h := fun dflt => hh.vs hr hc dflt
    have hmb : ∀ dflt, VB dflt (some (a.eval mx)) h := fun dflt => hm.vs hr hc dflt
    generalize hu : a.eval x = u at e1
    have hlen : ((es.drop l).take (h - l)).length = h - l := by rw [List.length_take, List.length_drop]; omega
    cases e1 with
    | @ro _ _ b o _ cap us hb hs hcl hrr hle hmm hf hn =>
      have hrun : ∀ w', (Instr.sliceAt t (.slice (some ⟨b, o, none⟩) es.length cap) (lo.map a.eval) (some (a.eval hi)) (some (a.eval mx))).run P w' = .ok (.slice (if h = l then some ⟨b, o, none⟩ else some ⟨b, o + l * sz, none⟩) (h - l) (h - l)) w' := fun w' => by
        rw [run_sl (P := P) (t := t) hlb (hhb _) (hmb _) (fun _ => rfl) h1 (Nat.le_refl _) (by omega)]
        simp [Addr.add_lit]
      refine ⟨_, ?_, fun w' o' ho _ => by simp [execOp, ho, hu, hrun]; rfl⟩
      by_cases hcl' : h = l
      · have h0 : h - l = 0 := by omega
        rw [if_pos hcl', h0, List.take_zero]
        exact .ro0 (by omega) (fun h => by cases h) (fun _ => rfl) (fun h => by cases h)
      · rw [if_neg hcl']
        have : VR M F w (.ro sz ((es.drop l).take (h - l)) .full) (.slice (some ⟨b, o + l * sz, none⟩) ((es.drop l).take (h - l)).length (h - l)) := by
          refine .ro (us := fun i j => us (l + i) j) hb (fun x hx => hs x (List.mem_of_mem_drop (List.mem_of_mem_take hx))) ?_ ?_ (by omega) (by omega) (fun _ => hlen.symm) (fun h => by cases h)
          · intro i e j a hi hj
            have hil := (List.getElem?_eq_some_iff.1 hi).1
            rw [hlen] at hil
            rw [List.getElem?_take_of_lt hil, List.getElem?_drop] at hi
            have := hcl (l + i) e j a hi hj
            rwa [Nat.add_mul, ← Nat.add_assoc] at this
          · intro i e j a hi hj
            have hil := (List.getElem?_eq_some_iff.1 hi).1
            rw [hlen] at hil
            rw [List.getElem?_take_of_lt hil, List.getElem?_drop] at hi
            exact hrr (l + i) e j a hi hj
        rwa [hlen] at this
    | @ro0 _ _ A cap hmm hA hf hn =>
      simp only [List.length_nil] at h2
      have hrun : ∀ w', (Instr.sliceAt t (.slice A 0 cap) (lo.map a.eval) (some (a.eval hi)) (some (a.eval mx))).run P w' = .ok (.slice A 0 0) w' := fun w' => by
        rw [run_sl (P := P) (t := t) hlb (hhb _) (hmb _) (fun _ => rfl) h1 (Nat.le_refl _) (by omega), if_pos (by omega), show h - l = 0 by omega]
      refine ⟨_, ?_, fun w' o' ho _ => by simp [execOp, ho, hu, hrun]; rfl⟩
      have h0 : h - l = 0 := by omega
      rw [h0, List.take_zero]
      exact .ro0 (by simp [maxLen]) (fun _ => rfl) (fun _ => rfl) (fun h => by cases h)
theorem lop_slice_own {e : TypeId} [Ty P t (.slice e)] {sz by_ : Nat} {z : Value} [Tz P e sz by_ z] {r off len : Nat} {et : TypeId} {es : List (List AV)} {lo hi : Option Operand} {l h : Nat} (hx : Ev s c x (.own r off len)) (hg : sget s.σ r = some (.arr et sz es)) (hl : OB s c 0 lo l) (hh : OB s c len hi h) (h1 : c = true → l ≤ h ∧ h ≤ len) :
    Lop P (.slice t x lo hi none) ty s c (.own r (off + l) (h - l)) [] :=
  Lop.pure_ fun M F N n a w hr hc => by
    have e1 := hx.vr hr hc
    obtain ⟨h1', h2⟩ := h1 hc
    clear h1
    have h1 := h1'
    have hlb : VB 0 (lo.map a.eval) l := hl.vb hr hc
    have hhb : VB len (hi.map a.eval) h := hh.vb hr hc
    generalize hu : a.eval x = u at e1
    obtain ⟨_, _, h3⟩ := hr.st.ent _ (sget_mem hg)
    cases e1 with
    | @own _ _ _ g cc _ hM hle hmm =>
      rcases h3 with ⟨hv, _⟩ | ⟨g', cc', vs, hM', _⟩
      · rw [hM] at hv; cases hv
      · have hsz := hM'.symm.trans hM
        simp only [Option.some.injEq, Blk'.row.injEq] at hsz
        obtain ⟨q1, q2, q3⟩ := hsz
        subst q1
        subst q2
        subst q3
        have hrun : ∀ w', (Instr.sliceAt t (.slice (some ⟨g', off * sz, none⟩) len (cc' - off)) (lo.map a.eval) (hi.map a.eval) none).run P w' = .ok (.slice (if cc' - off = l then some ⟨g', off * sz, none⟩ else some ⟨g', (off + l) * sz, none⟩) (h - l) (cc' - off - l)) w' := fun w' => by
          rw [run_sl (P := P) (t := t) (mx := none) hlb hhb .none (fun h => by cases h) h1 (by omega) (Nat.le_refl _)]
          simp [Nat.add_mul, Addr.add_lit]
        refine ⟨_, ?_, fun w' o' ho _ => by simp [execOp, ho, hu, hrun]; rfl⟩
        by_cases hcl' : cc' - off = l
        · rw [if_pos hcl', show h - l = 0 by omega, show cc' - off - l = 0 by omega]
          exact .own0
        · rw [if_neg hcl', Nat.sub_sub]
          exact .own hM (by omega) hmm
    | @own0 _ _ A =>
      have hrun : ∀ w', (Instr.sliceAt t (.slice A 0 0) (lo.map a.eval) (hi.map a.eval) none).run P w' = .ok (.slice A 0 0) w' := fun w' => by
        rw [run_sl (P := P) (t := t) (mx := none) hlb hhb .none (fun h => by cases h) h1 (by omega) (Nat.le_refl _), if_pos (by omega), show h - l = 0 by omega, Nat.zero_sub]
      refine ⟨_, ?_, fun w' o' ho _ => by simp [execOp, ho, hu, hrun]; rfl⟩
      rw [show h - l = 0 by omega]
      exact .own0
end

/-! ### rows lent, rows that nobody writes any more -/
/-- y tells what x tells, with the rows ts told by value -/
inductive Bor (σ : Sto) (ts : List Nat) : AV → AV → Prop
  | refl (x : AV) : Bor σ ts x x
  | le {x y : AV} (h : VLe x y) : Bor σ ts x y
  | own {t off len sz : Nat} {et : TypeId} {es : List (List AV)} (ht : t ∈ ts) (hg : sget σ t = some (.arr et sz es)) (hle : off + len ≤ es.length) : Bor σ ts (.own t off len) (.ro sz ((es.drop off).take len) .any)
  | ownR {t off len sz : Nat} {et : TypeId} {es es' : List (List AV)} (f : Nat → Nat → AV) (ht : t ∈ ts) (hg : sget σ t = some (.arr et sz es)) (hle : off + len ≤ es.length) (hl : es'.length = len) (hs : RowsOk sz es')
      (h1 : ∀ (i : Nat) (e : List AV) (j : Nat) (a : AV), es[i]? = some e → e[j]? = some a → f i j = a) (h2 : ∀ (i : Nat) (e' : List AV) (j : Nat) (a' : AV), es'[i]? = some e' → e'[j]? = some a' → Bor σ ts (f (off + i) j) a') : Bor σ ts (.own t off len) (.ro sz es' .any)
  | agg {cs cs' : List AV} (f : Nat → AV) (hl : cs'.length = cs.length) (h1 : ∀ (j : Nat) (a : AV), cs[j]? = some a → f j = a) (h2 : ∀ (j : Nat) (a' : AV), cs'[j]? = some a' → Bor σ ts (f j) a') : Bor σ ts (.agg cs) (.agg cs')
  | bx {r off : Nat} {bt : TypeId} {cs cs' : List AV} (f : Nat → AV) (ht : r ∈ ts) (hg : sget σ r = some (.box bt cs)) (hl : cs'.length = cs.length) (hc : ∀ a ∈ cs', a.cell = true) (h1 : ∀ (j : Nat) (a : AV), cs[j]? = some a → f j = a) (h2 : ∀ (j : Nat) (a' : AV), cs'[j]? = some a' → Bor σ ts (f j) a') : Bor σ ts (.ptr r off) (.el cs.length [cs'] 0 off)
/-- the blocks that nobody writes, with those of ts -/
def FPlus (M : Mp) (F : Nat → Prop) (σ : Sto) (ts : List Nat) (b : Nat) : Prop := F b ∨ ∃ p ∈ σ, p.1 ∈ ts ∧ blkOf M p.1 = some b
theorem Bor.vr {M : Mp} {F : Nat → Prop} {N : Nat} {w : World} {σ : Sto} {ts : List Nat} (hr : SR M F N w σ) {x y : AV} (h : Bor σ ts x y) : ∀ {v : Value}, VR M F w x v → VR M (FPlus M F σ ts) w y v := by
  have up : ∀ {x : AV} {v : Value}, VR M F w x v → VR M (FPlus M F σ ts) w x v := fun h => h.mono (fun _ _ h => h) (fun _ h => .inl h) (fun _ _ => rfl)
  have row : ∀ {t off len sz : Nat} {et : TypeId} {es es' : List (List AV)}, t ∈ ts → sget σ t = some (.arr et sz es) → off + len ≤ es.length → es'.length = len → RowsOk sz es' →
      (∀ (i : Nat) (e' : List AV) (j : Nat) (a' : AV) (e : List AV) (a : AV) (u : Value), es'[i]? = some e' → e'[j]? = some a' → es[off + i]? = some e → e[j]? = some a → VR M F w a u → VR M (FPlus M F σ ts) w a' u) →
      ∀ {v : Value}, VR M F w (.own t off len) v → VR M (FPlus M F σ ts) w (.ro sz es' .any) v := by
    intro t off len sz et es es' ht hg hle hl hs hst v hv
    obtain ⟨h0, hrows, h3⟩ := hr.ent _ (sget_mem hg)
    cases hv with
    | own0 =>
      obtain rfl := List.eq_nil_of_length_eq_zero hl
      exact .ro0 (by simp [maxLen]) (fun _ => rfl) (fun h => by cases h) (fun h => by cases h)
    | @own _ _ _ g cc _ hM hlc hm =>
      rcases h3 with ⟨hv', _⟩ | ⟨g', c', vs, hM', hcl, hsz, hle', hmax, hvr⟩
      · rw [hM] at hv'; cases hv'
      · have hg' := hM'.symm.trans hM
        simp only [Option.some.injEq, Blk'.row.injEq] at hg'
        obtain ⟨q1, q2, q3⟩ := hg'
        subst q1
        subst q2
        subst q3
        have at_ : ∀ (i : Nat) (e' : List AV) (j : Nat) (a' : AV), es'[i]? = some e' → e'[j]? = some a' → ∃ e a u, es[off + i]? = some e ∧ e[j]? = some a ∧ vs[(off + i) * sz + j]? = some u := by
          intro i e' j a' hi hj
          have hil := (List.getElem?_eq_some_iff.1 hi).1
          have hjs : j < sz := by rw [← (hs e' (List.mem_of_getElem? hi)).1]; exact (List.getElem?_eq_some_iff.1 hj).1
          have hi2 : off + i < es.length := by omega
          have hj2 : j < (es[off + i]).length := by rw [(hrows _ (List.getElem_mem hi2)).1]; exact hjs
          have hu : (off + i) * sz + j < vs.size := by rw [hsz]; exact flat_idx (by omega) hjs
          exact ⟨_, _, _, List.getElem?_eq_getElem hi2, List.getElem?_eq_getElem hj2, Array.getElem?_eq_getElem hu⟩
        have : VR M (FPlus M F σ ts) w (.ro sz es' .any) (.slice (some ⟨g', off * sz, none⟩) es'.length (c' - off)) := by
          refine .ro (us := fun i j => vs[(off + i) * sz + j]!) (.inr ⟨_, sget_mem hg, ht, by simp [blkOf, hM]⟩) hs ?_ ?_ (by omega) (by omega) (fun h => by cases h) (fun h => by cases h)
          · intro i e' j a' hi hj
            obtain ⟨e, a, u, k1, k2, k3⟩ := at_ i e' j a' hi hj
            have := hcl.cell ((off + i) * sz + j)
            rw [k3] at this
            rw [← Nat.add_mul, this]
            show some u = some (vs[(off + i) * sz + j]!)
            rw [Array.getElem!_eq_getD, Array.getD_eq_getD_getElem?, k3, Option.getD_some]
          · intro i e' j a' hi hj
            obtain ⟨e, a, u, k1, k2, k3⟩ := at_ i e' j a' hi hj
            have := hst i e' j a' e a u hi hj k1 k2 (hvr _ e j a u k1 k2 k3)
            rwa [Array.getElem!_eq_getD, Array.getD_eq_getD_getElem?, k3, Option.getD_some]
        rwa [hl] at this
  induction h with
  | refl x => exact up
  | le h => exact fun hv => up (h _ _ _ _ hv)
  | @own t off len sz et es ht hg hle =>
    intro v
    refine row ht hg hle (by rw [List.length_take, List.length_drop]; exact Nat.min_eq_left (by omega)) (fun x hx => (hr.ent _ (sget_mem hg)).2.1 x (List.mem_of_mem_drop (List.mem_of_mem_take hx))) fun i e' j a' e a u hi hj k1 k2 hv => ?_
    have hil : i < len := by have := (List.getElem?_eq_some_iff.1 hi).1; rw [List.length_take] at this; omega
    rw [List.getElem?_take_of_lt hil, List.getElem?_drop, k1] at hi
    obtain rfl := Option.some.inj hi
    rw [k2] at hj
    obtain rfl := Option.some.inj hj
    exact up hv
  | ownR f ht hg hle hl hs h1 h2 ih =>
    intro v
    refine row ht hg hle hl hs fun i e' j a' e a u hi hj k1 k2 hv => ?_
    refine ih i e' j a' hi hj ?_
    rw [h1 _ e j a k1 k2]
    exact hv
  | @agg cs cs' f hl h1 h2 ih =>
    intro v hv
    cases hv with
    | @agg _ vs hl' hh =>
      refine .agg (by rw [hl', hl]) fun j a u hj hu => ih j a hj ?_
      have hlt : j < vs.size := (Array.getElem?_eq_some_iff.1 hu).1
      have hlt' : j < cs.length := by omega
      rw [h1 j cs[j] (List.getElem?_eq_getElem hlt')]
      exact hh j _ u (List.getElem?_eq_getElem hlt') hu
  | @bx r off bt cs cs' f ht hg hl hc h1 h2 ih =>
    intro v hv
    obtain ⟨g, vs, hM, hcl, hsz, hvr⟩ := hr.ent _ (sget_mem hg)
    cases hv with
    | ptr hM2 =>
      simp only at hM
      rw [hM] at hM2
      cases hM2
      have h0 : ∀ (i : Nat) (e : List AV) (j : Nat) (a : AV), [cs'][i]? = some e → e[j]? = some a → i = 0 ∧ cs'[j]? = some a ∧ j < vs.size := by
        intro i e j a hi hj
        have hi0 : i = 0 := by have := (List.getElem?_eq_some_iff.1 hi).1; simpa using this
        subst hi0
        simp at hi
        subst hi
        have := (List.getElem?_eq_some_iff.1 hj).1
        exact ⟨rfl, hj, by omega⟩
      have := VR.el (M := M) (F := FPlus M F σ ts) (w := w) (es := [cs']) (i := 0) (off := off) (b := g) (o := 0) (sz := cs.length) (us := fun _ j => vs[j]!) (.inr ⟨_, sget_mem hg, ht, by simp [blkOf, hM]⟩)
        (fun x hx => by obtain rfl := List.mem_singleton.1 hx; exact ⟨hl, hc⟩)
        (fun i e j a hi hj => by
          obtain ⟨rfl, k1, k2⟩ := h0 i e j a hi hj
          rw [Nat.zero_mul, Nat.zero_add, hcl.cell]
          simp [k2])
        (fun i e j a hi hj => by
          obtain ⟨rfl, k1, k2⟩ := h0 i e j a hi hj
          have hlt : j < cs.length := by omega
          refine ih j a k1 ?_
          rw [h1 j cs[j] (List.getElem?_eq_getElem hlt)]
          exact hvr j _ _ (List.getElem?_eq_getElem hlt) (by simp [k2]))
      simpa using this
theorem FPlus.flt {M : Mp} {F : Nat → Prop} {N : Nat} {w : World} {σ : Sto} {ts : List Nat} (hr : SR M F N w σ) {b : Nat} (h : FPlus M F σ ts b) : b < w.heap.size := by
  rcases h with h | ⟨p, hp, _, h⟩
  · exact hr.flt b h
  · exact (hr.ent p hp).lt h

/-- an entry told with the rows ts by value -/
inductive EBor (σ : Sto) (ts : List Nat) : Ent → Ent → Prop
  | refl (x : Ent) : EBor σ ts x x
  | box {bt : TypeId} {cs cs' : List AV} (h : Bor σ ts (.agg cs) (.agg cs')) : EBor σ ts (.box bt cs) (.box bt cs')
theorem EBor.er {M : Mp} {F : Nat → Prop} {N : Nat} {w : World} {σ : Sto} {ts : List Nat} (hr : SR M F N w σ) {x y : Ent} (h : EBor σ ts x y) {r : Nat} (hx : ER M F w r x) : ER M (FPlus M F σ ts) w r y := by
  cases h with
  | refl => exact hx.mono (fun _ _ h => h) (fun _ h => .inl h) (fun _ _ => rfl) (fun _ _ => rfl)
  | @box bt cs cs' h =>
    obtain ⟨g, vs, h1, h2, h3, h4⟩ := hx
    have hv := h.vr hr (.agg (vs := vs) h3 h4)
    cases hv with
    | agg hl hh => exact ⟨g, vs, by rw [h1, ← hl, h3], h2, hl, hh⟩
theorem sgo_freeze {s s' : ASt} (ts : List Nat) (hf : ∀ i x', fget s'.fr i = some x' → ∃ x, fget s.fr i = some x ∧ Bor s.σ ts x x') (hσ : ∀ p ∈ s'.σ, p.1 ∉ ts ∧ ∃ x, (p.1, x) ∈ s.σ ∧ EBor s.σ ts x p.2) : SGo s s' := by
  intro M F N n a w hr
  refine ⟨M, FPlus M F s.σ ts, N, ⟨hr.size, hr.defers, fun i x' hi => ?_, ?_, ?_, ?_, fun b hb => hb.flt hr.st, hr.st.fresh⟩, fun _ _ h => h, fun _ h => .inl h, Nat.le_refl _, Only.refl _ _, ?_, ?_, ?_⟩
  · obtain ⟨x, hx, hb⟩ := hf i x' hi
    exact hb.vr hr.st (hr.fr i x hx)
  · intro p hp
    obtain ⟨_, x, hx, hb⟩ := hσ p hp
    exact hb.er hr.st (hr.st.ent _ hx)
  · intro p hp q hq g h1 h2
    obtain ⟨_, x, hx, _⟩ := hσ p hp
    obtain ⟨_, y, hy, _⟩ := hσ q hq
    exact hr.st.inj (p.1, x) hx (q.1, y) hy g h1 h2
  · rintro g ⟨p, hp, hg⟩ hF
    obtain ⟨hn, x, hx, _⟩ := hσ p hp
    rcases hF with hF | ⟨q, hq, hqt, hqg⟩
    · exact hr.st.nof g ⟨_, hx, hg⟩ hF
    · exact hn (by have := hr.st.inj _ hx _ hq g hg hqg; simp only at this; rw [this]; exact hqt)
  · rintro g ⟨p, hp, hg⟩ _
    obtain ⟨_, x, hx, _⟩ := hσ p hp
    exact ⟨_, hx, hg⟩
  · rintro b (hb | ⟨q, hq, _, hqg⟩)
    · exact .inl hb
    · exact .inr (.inr ⟨q, hq, hqg⟩)
  · intro p hp _
    obtain ⟨_, x, hx, _⟩ := hσ p hp
    exact ⟨_, hx, rfl⟩
theorem rs_go {P : Program} {n : Nat} {ops : Array Oper} {rest : List Oper} {s s' : ASt} {K : ASt → Prop} (hgo : SGo s s') (h : RS P n ops rest s' K) : RS P n ops rest s K := by
  intro M F N a w hr
  obtain ⟨M1, F1, N1, hr1, he1⟩ := hgo M F N n a w hr
  exact wpList_mono (PostN.ext he1) (h M1 F1 N1 a w hr1)

/-- a value that tells of no row that is only read -/
def NoF (x : AV) : Prop := ∀ (M : Mp) (F F' : Nat → Prop) (w : World) (v : Value), VR M F w x v → VR M F' w x v
theorem NoF.int {k : IntKind} {m : Int} : NoF (.int k m) := fun _ _ _ _ _ h => by cases h; exact .int _ _
theorem NoF.bool {b : Bool} : NoF (.bool b) := fun _ _ _ _ _ h => by cases h; exact .bool _
theorem NoF.str {b : ByteArray} : NoF (.str b) := fun _ _ _ _ _ h => by cases h; exact .str _
theorem NoF.nilp : NoF .nilp := fun _ _ _ _ _ h => by cases h; exact .nilp
theorem NoF.ptr {r o : Nat} : NoF (.ptr r o) := fun _ _ _ _ _ h => by cases h with | ptr h => exact .ptr h
theorem NoF.own {r o l : Nat} : NoF (.own r o l) := fun _ _ _ _ _ h => by
  cases h with
  | own h h1 h2 => exact .own h h1 h2
  | own0 => exact .own0
theorem NoF.undef : NoF .undef := fun _ _ _ _ _ _ => .undef _
theorem NoF.nil {sz : Nat} {k : Rk} : NoF (.ro sz [] k) := fun _ _ _ _ _ h => by
  cases h with
  | @ro _ _ b o _ cap us hb hs hc hr hle hm hf hn => exact .ro0 hm (fun h => by cases h) (fun h => hf h) (fun h => absurd h hn)
  | ro0 hm hA hf hn => exact .ro0 hm hA hf hn
theorem NoF.tup {cs : List AV} (h : ∀ x ∈ cs, NoF x) : NoF (.tup cs) := fun _ _ _ _ _ hv => by
  cases hv with
  | tup hl hh => exact .tup hl fun j a u hj hu => h a (List.mem_of_getElem? hj) _ _ _ _ _ (hh j a u hj hu)
theorem NoF.agg {cs : List AV} (h : ∀ x ∈ cs, NoF x) : NoF (.agg cs) := fun _ _ _ _ _ hv => by
  cases hv with
  | agg hl hh => exact .agg hl fun j a u hj hu => h a (List.mem_of_getElem? hj) _ _ _ _ _ (hh j a u hj hu)
def ENoF : Ent → Prop
  | .box _ cs => ∀ x ∈ cs, NoF x
  | .arr _ _ es => ∀ e ∈ es, ∀ x ∈ e, NoF x
theorem ENoF.er {M : Mp} {F F' : Nat → Prop} {w : World} {r : Nat} {x : Ent} (h : ENoF x) (hx : ER M F w r x) : ER M F' w r x := by
  cases x with
  | box bt cs =>
    obtain ⟨g, vs, h1, h2, h3, h4⟩ := hx
    exact ⟨g, vs, h1, h2, h3, fun j a u hj hu => h a (List.mem_of_getElem? hj) _ _ _ _ _ (h4 j a u hj hu)⟩
  | arr e sz es =>
    obtain ⟨h0, h1, h2⟩ := hx
    refine ⟨h0, h1, ?_⟩
    rcases h2 with h2 | ⟨g, c, vs, h2, h3, h4, h5, h6, h7⟩
    · exact .inl h2
    · exact .inr ⟨g, c, vs, h2, h3, h4, h5, h6, fun i x j a u hi hj hu => h x (List.mem_of_getElem? hi) a (List.mem_of_getElem? hj) _ _ _ _ _ (h7 i x j a u hi hj hu)⟩
/-- operands against what a contract asks, with rows lent -/
inductive ArgsBor (s : ASt) (ts : List Nat) : List Operand → List AV → Prop
  | nil : ArgsBor s ts [] []
  | cons {x : Operand} {xs : List Operand} {v y : AV} {ys : List AV} (h : aev s x = some v) (hb : Bor s.σ ts v y) (hr : ArgsBor s ts xs ys) : ArgsBor s ts (x :: xs) (y :: ys)
theorem ArgsBor.len {s : ASt} {ts : List Nat} {xs : List Operand} {ys : List AV} (h : ArgsBor s ts xs ys) : xs.length = ys.length := by
  induction h with
  | nil => rfl
  | cons _ _ _ ih => simp [ih]
theorem ArgsBor.vr {s : ASt} {ts : List Nat} {M : Mp} {F : Nat → Prop} {N n : Nat} {a : Act} {w : World} (hr : Rel M F N n s a w) {xs : List Operand} {ys : List AV} (h : ArgsBor s ts xs ys) : ∀ (i : Nat) (y : AV) (v : Value), ys[i]? = some y → (xs.map a.eval)[i]? = some v → VR M (FPlus M F s.σ ts) w y v := by
  induction h with
  | nil => intro i y v hi; simp at hi
  | @cons x xs v y ys hx hb _ ih =>
    intro i y' v' hi hv
    cases i with
    | zero =>
      simp only [List.getElem?_cons_zero, Option.some.injEq, List.map_cons] at hi hv
      subst hi; subst hv
      exact hb.vr hr.st (hr.aev hx)
    | succ i => exact ih i y' v' (by simpa using hi) (by simpa using hv)
/-- a call that is lent rows ts, touches no other, and whose result tells of none of them -/
theorem hop_call_lent {P : Program} {n : Nat} {s : ASt} {ty : TypeId} {d : Nat} {f : FuncId} {xs : List Operand} {ats : Array TypeId} {args : List AV} {R : AV → Sto → Prop} {K : ASt → Prop} (ts : List Nat) (hf : ∀ args w, (callFunc f args).run P w = .ok (.enter f args) w) (h : SCall P f args [] R) (hd : d < n)
    (hargs : ArgsBor s ts xs args) (hno : ∀ x σ', R x σ' → NoF x ∧ ∀ p ∈ σ', ENoF p.2)
    (hK : ∀ x σ', R x σ' → (∀ p ∈ σ', Fresh p.1 s.σ) → K ⟨(d, x) :: s.fr, σ' ++ s.σ⟩) :
    Hop P n (.call { callee := .value (.func f), args := xs.toArray, argTypes := ats }) ty (some d) s [] K := by
  intro M F N a w o ho _ hdst hr next Q hnext
  have h1 : (execOp a.eval o).run P w = .ok (.enter f (xs.map a.eval).toArray) w := by
    obtain ⟨dst, op, ty', pos, after, guard⟩ := o
    dsimp only at ho
    subst ho
    rw [execOp_call_go, Array.append_empty, Array.empty_append, List.map_toArray, hf]
  unfold Oper.wp
  rw [h1]
  show Calls P f (xs.map a.eval).toArray w _
  have hs1 : SR M (FPlus M F s.σ ts) N w [] := ⟨fun p hp => (by simp at hp), fun p hp => (by simp at hp), fun g ⟨p, hp, _⟩ => (by simp at hp), fun b hb => hb.flt hr.st, hr.st.fresh⟩
  refine (h M (FPlus M F s.σ ts) N w (xs.map a.eval) (by simp [hargs.len]) (hargs.vr hr) hs1).mono ?_
  rintro e w' ⟨v, x, M', F', N', σ', rfl, he, hv, hs', hR⟩
  obtain ⟨hnx, hnσ⟩ := hno x σ' hR
  have hold : ∀ g, g < w.heap.size → w'.heap[g]? = w.heap[g]? := fun g hg => he.only.block g hg (fun ⟨p, hp, _⟩ => by simp at hp)
  have hSame : Same F w w' := fun g hg => hold g (hr.st.flt g hg)
  have hnew : ∀ g, Bs M' σ' g → w.heap.size ≤ g := fun g hg => by
    rcases Nat.lt_or_ge g w.heap.size with hlt | hge
    · obtain ⟨p, hp, _⟩ := he.old g hg hlt; simp at hp
    · exact hge
  have hMeq : ∀ p ∈ s.σ, blkOf M' p.1 = blkOf M p.1 := by
    intro p hp
    have hne := (hr.st.ent p hp).some
    unfold blkOf
    cases hm : M p.1 with
    | none => exact absurd hm hne
    | some b => rw [he.mm _ _ hm]
  have honly : ∀ S : Nat → Prop, Only S w w' := fun S => ⟨he.only.os, he.only.tape, he.only.output, he.only.size, fun k hk _ => hold k hk⟩
  have hext : Ext M F N w s.σ M' F N' w' (σ' ++ s.σ) := by
    refine ⟨he.mm, fun _ h => h, he.nn, honly _, ?_, fun b hb => .inl hb, ?_⟩
    · rintro g ⟨p, hp, hg⟩ hlt
      rcases List.mem_append.1 hp with hp | hp
      · have := hnew g ⟨p, hp, hg⟩; omega
      · exact ⟨p, hp, by rw [← hMeq p hp]; exact hg⟩
    · intro p hp hlt
      rcases List.mem_append.1 hp with hp | hp
      · obtain ⟨q, hq, _⟩ := he.nam p hp hlt; simp at hq
      · exact ⟨p, hp, rfl⟩
  have hSR : SR M' F N' w' (σ' ++ s.σ) := by
    refine ⟨?_, ?_, ?_, fun b hb => Nat.lt_of_lt_of_le (hr.st.flt b hb) he.only.size, hs'.fresh⟩
    · intro p hp
      rcases List.mem_append.1 hp with hp | hp
      · exact (hnσ p hp).er (hs'.ent p hp)
      · exact ER.mono he.mm (fun _ h => h) hSame (fun g hg => hold g ((hr.st.ent p hp).lt hg)) (hr.st.ent p hp)
    · intro p hp q hq g hpg hqg
      rcases List.mem_append.1 hp with hp | hp <;> rcases List.mem_append.1 hq with hq | hq
      · exact hs'.inj p hp q hq g hpg hqg
      · have h1 := hnew g ⟨p, hp, hpg⟩
        rw [hMeq q hq] at hqg
        have := (hr.st.ent q hq).lt hqg; omega
      · have h1 := hnew g ⟨q, hq, hqg⟩
        rw [hMeq p hp] at hpg
        have := (hr.st.ent p hp).lt hpg; omega
      · rw [hMeq p hp] at hpg
        rw [hMeq q hq] at hqg
        exact hr.st.inj p hp q hq g hpg hqg
    · rintro g ⟨p, hp, hg⟩ hF
      rcases List.mem_append.1 hp with hp | hp
      · have h1 := hnew g ⟨p, hp, hg⟩
        have := hr.st.flt g hF; omega
      · rw [hMeq p hp] at hg
        exact hr.st.nof g ⟨p, hp, hg⟩ hF
  have hrel : Rel M' F N' n ⟨s.fr, σ' ++ s.σ⟩ a w' := ⟨hr.size, hr.defers, fun i y hi => (hr.fr i y hi).mono he.mm (fun _ h => h) hSame, hSR⟩
  rw [hdst]
  refine hnext M' F N' _ w' _ (hrel.put hd (hnx _ _ _ _ _ hv)) hext (honly _) ?_
  refine hK x σ' hR fun p hp q hq heq => ?_
  rcases Nat.lt_or_ge p.1 N with hlt | hge
  · obtain ⟨q', hq', _⟩ := he.nam p hp hlt; simp at hq'
  · have := hr.st.name hq; omega

end Go.Proofs.Ytkjfflabapeidaa
