/-
  The symbolic layer's operations that look and do not write: what each yields. No program is named here.
-/
import Derived.Test.YtkjfflabapeidaaSymA
namespace Go.Proofs.Ytkjfflabapeidaa
open Go.RowKit Go.ChangeShapes Go.WideShapes Go.ChangeAt Go.Deep
set_option linter.unusedSimpArgs false
set_option linter.unusedVariables false

/-- a type's row -/
class Ty (P : Program) (t : TypeId) (d : outParam TypeDesc) : Type where
  und : P.underlying t = some d
class Tz (P : Program) (t : TypeId) (sz bytes : outParam Nat) (z : outParam Value) : Prop where
  inf : (P.info? t).map (fun i => (i.zero, i.size, i.bytes)) = some (some z, sz, bytes)
/-- where a struct's fields lie -/
class Tf (P : Program) (t : TypeId) (pl : outParam (List (Nat × Nat))) : Prop where
  pls : (match P.underlying t with | some (.struct fs) => fs.toList.mapM (fun f => (P.info? f.type).map fun i => (f.offset, i.size)) | _ => none) = some pl
theorem Tz.parts (P : Program) (t : TypeId) {sz bytes : Nat} {z : Value} [h : Tz P t sz bytes z] : ∃ i, P.info? t = some i ∧ i.zero = some z ∧ i.size = sz ∧ i.bytes = bytes := info_parts h.inf

def ofCell : Value → AV
  | .int k n => .int k n
  | .bool b => .bool b
  | .string s => .str s
  | .pointer none => .nilp
  | .slice none 0 0 => .ro 0 [] .nil
  | v => .val v
theorem ofCell_vr {M : Mp} {F : Nat → Prop} {w : World} : ∀ v, VR M F w (ofCell v) v := by
  intro v
  unfold ofCell
  split
  · exact .int _ _
  · exact .bool _
  · exact .str _
  · exact .nilp
  · exact .ro0 (by simp [maxLen]) (fun _ => rfl) (fun _ => rfl) (fun _ => rfl)
  · exact .val _
def ofConst : Value → AV
  | .int k n => .int k n
  | .bool b => .bool b
  | .string s => .str s
  | .pointer none => .nilp
  | .slice none 0 0 => .ro 0 [] .nil
  | .agg vs => .agg (vs.toList.map ofCell)
  | v => .val v
theorem ofConst_vr {M : Mp} {F : Nat → Prop} {w : World} : ∀ v, VR M F w (ofConst v) v := by
  intro v
  unfold ofConst
  split
  · exact .int _ _
  · exact .bool _
  · exact .str _
  · exact .nilp
  · exact .ro0 (by simp [maxLen]) (fun _ => rfl) (fun _ => rfl) (fun _ => rfl)
  · refine .agg (by simp) fun j a u hj hu => ?_
    rw [List.getElem?_map, Array.getElem?_toList, hu] at hj
    obtain rfl := Option.some.inj hj
    exact ofCell_vr u
  · exact .val _

def aev (s : ASt) : Operand → Option AV
  | .tmp t => fget s.fr t
  | .const v => some (ofConst v)
  | .func f => some (.fn (.func f) [] [])
  | .global _ => none

section
variable {M : Mp} {F : Nat → Prop} {N n : Nat} {w : World} {s : ASt} {a : Act}
theorem Rel.aev (h : Rel M F N n s a w) {x : Operand} {v : AV} (hx : aev s x = some v) : VR M F w v (a.eval x) := by
  cases x with
  | tmp t => exact h.fr t v hx
  | const v' =>
    simp only [Go.Proofs.Ytkjfflabapeidaa.aev, Option.some.injEq] at hx
    subst hx
    exact ofConst_vr v'
  | func f =>
    simp only [Go.Proofs.Ytkjfflabapeidaa.aev, Option.some.injEq] at hx
    subst hx
    exact .fn rfl (fun j a u h => by simp at h) rfl (fun j a u h => by simp at h)
  | global g => simp [Go.Proofs.Ytkjfflabapeidaa.aev] at hx

/-- operand x is v, where c holds -/
inductive Ev (s : ASt) (c : Bool) (x : Operand) (v : AV) : Prop
  | here (h : Go.Proofs.Ytkjfflabapeidaa.aev s x = some v) : Ev s c x v
  | when {c' : Bool} (h : Go.Proofs.Ytkjfflabapeidaa.aev s x = some (.when c' v)) (hc : c = true → c' = true) : Ev s c x v
theorem Ev.vr (h : Rel M F N n s a w) {c : Bool} (hc : c = true) {x : Operand} {v : AV} (hx : Ev s c x v) : VR M F w v (a.eval x) := by
  cases hx with
  | here hx => exact h.aev hx
  | when hx hc' =>
    have := h.aev hx
    cases this with
    | when h h0 => exact h (hc' hc)
theorem Ev.int (h : Rel M F N n s a w) {c : Bool} (hc : c = true) {x : Operand} {k : IntKind} {m : Int} (hx : Ev s c x (.int k m)) : a.eval x = .int k m := by
  have := hx.vr h hc
  generalize a.eval x = u at this
  cases this; rfl
theorem Ev.bool (h : Rel M F N n s a w) {c : Bool} (hc : c = true) {x : Operand} {b : Bool} (hx : Ev s c x (.bool b)) : a.eval x = .bool b := by
  have := hx.vr h hc
  generalize a.eval x = u at this
  cases this; rfl
theorem Ev.str (h : Rel M F N n s a w) {c : Bool} (hc : c = true) {x : Operand} {b : ByteArray} (hx : Ev s c x (.str b)) : a.eval x = .string b := by
  have := hx.vr h hc
  generalize a.eval x = u at this
  cases this; rfl
end

/-- A looking operation: what it yields where c holds, and the names of what it reads. -/
def Lop (P : Program) (op : Op) (ty : TypeId) (s : ASt) (c : Bool) (v : AV) (rs : List Nat) : Prop :=
  (∀ r ∈ rs, ∃ p ∈ s.σ, p.1 = r) ∧ ∀ (M : Mp) (F : Nat → Prop) (N n : Nat) (a : Act) (w : World), Rel M F N n s a w → c = true → ∃ u, VR M F w v u ∧
    ∀ (w' : World) (o : Oper), o.op = op → o.type = ty → (∀ g, (F g ∨ ∃ r ∈ rs, blkOf M r = some g) → w'.heap[g]? = w.heap[g]?) → (execOp a.eval o).run P w' = .ok (.value u) w'

section
variable {P : Program} {ty : TypeId} {s : ASt} {c : Bool}

theorem Lop.pure_ {op : Op} {v : AV} (h : ∀ (M : Mp) (F : Nat → Prop) (N n : Nat) (a : Act) (w : World), Rel M F N n s a w → c = true → ∃ u, VR M F w v u ∧
    ∀ (w' : World) (o : Oper), o.op = op → o.type = ty → (execOp a.eval o).run P w' = .ok (.value u) w') : Lop P op ty s c v [] :=
  ⟨fun r hr => by simp at hr, fun M F N n a w hr hc => by
    obtain ⟨u, h1, h2⟩ := h M F N n a w hr hc
    exact ⟨u, h1, fun w' o ho ht _ => h2 w' o ho ht⟩⟩

theorem lop_move {x : Operand} {v : AV} (h : Ev s c x v) : Lop P (.move x) ty s c v [] :=
  Lop.pure_ fun M F N n a w hr hc => ⟨_, h.vr hr hc, fun w' o ho _ => by simp [execOp, ho]⟩
theorem lop_assign {x : Operand} {v : AV} (h : Ev s c x v) : Lop P (.assign x) ty s c v [] :=
  Lop.pure_ fun M F N n a w hr hc => ⟨_, h.vr hr hc, fun w' o ho _ => by simp [execOp, ho]⟩
/-- && and ||: the arm that is picked is known to be a bool where it is wanted -/
theorem lop_pick {x y z : Operand} {b b1 b2 : Bool} (h : Ev s c x (.bool b)) (h1 : Ev s (c && b) y (.bool b1)) (h2 : Ev s (c && !b) z (.bool b2)) : Lop P (.pick x y z) ty s c (.bool (if b then b1 else b2)) [] :=
  Lop.pure_ fun M F N n a w hr hc => by
    refine ⟨_, .bool _, fun w' o ho _ => ?_⟩
    have e := h.bool hr hc
    cases b with
    | true =>
      have e1 := h1.bool hr (by simp [hc])
      simp [execOp, ho, e, e1, asBool]
    | false =>
      have e2 := h2.bool hr (by simp [hc])
      simp [execOp, ho, e, e2, asBool]
theorem lop_not {x : Operand} {t : TypeId} {b : Bool} (h : Ev s c x (.bool b)) : Lop P (.unOp .not t x) ty s c (.bool (!b)) [] :=
  Lop.pure_ fun M F N n a w hr hc => ⟨_, .bool _, fun w' o ho _ => by simp [execOp, ho, h.bool hr hc, Op.unary]⟩
theorem lop_neg {x : Operand} {t : TypeId} {k : IntKind} {m : Int} (h : Ev s c x (.int k m)) : Lop P (.unOp .neg t x) ty s c (.int k (k.wrap (0 - m))) [] :=
  Lop.pure_ fun M F N n a w hr hc => ⟨_, .int _ _, fun w' o ho _ => by simp [execOp, ho, h.int hr hc, Op.unary, Op.intArith]⟩
theorem lop_xor1 {x : Operand} {t : TypeId} {k : IntKind} {m : Int} (h : Ev s c x (.int k m)) : Lop P (.unOp .xor t x) ty s c (.int k (k.wrap (BitVec.ofInt k.bits (if k.signed then -1 else k.max) ^^^ BitVec.ofInt k.bits m).toNat)) [] :=
  Lop.pure_ fun M F N n a w hr hc => ⟨_, .int _ _, fun w' o ho _ => by simp [execOp, ho, h.int hr hc, Op.unary, Op.intBits]⟩

section ints
variable {x y : Operand} {t t' : TypeId} {k k' : IntKind} {m m' : Int}
theorem lop_add (h : Ev s c x (.int k m)) (h' : Ev s c y (.int k m')) : Lop P (.binOp .add t x y t') ty s c (.int k (k.wrap (m + m'))) [] :=
  Lop.pure_ fun M F N n a w hr hc => ⟨_, .int _ _, fun w' o ho _ => by simp [execOp, ho, h.int hr hc, h'.int hr hc, binOp, Op.intArith, eqGuard]⟩
theorem lop_sub (h : Ev s c x (.int k m)) (h' : Ev s c y (.int k m')) : Lop P (.binOp .sub t x y t') ty s c (.int k (k.wrap (m - m'))) [] :=
  Lop.pure_ fun M F N n a w hr hc => ⟨_, .int _ _, fun w' o ho _ => by simp [execOp, ho, h.int hr hc, h'.int hr hc, binOp, Op.intArith, eqGuard]⟩
theorem lop_mul (h : Ev s c x (.int k m)) (h' : Ev s c y (.int k m')) : Lop P (.binOp .mul t x y t') ty s c (.int k (k.wrap (m * m'))) [] :=
  Lop.pure_ fun M F N n a w hr hc => ⟨_, .int _ _, fun w' o ho _ => by simp [execOp, ho, h.int hr hc, h'.int hr hc, binOp, Op.intArith, eqGuard]⟩
theorem lop_quo (h : Ev s c x (.int k m)) (h' : Ev s c y (.int k m')) (h0 : c = true → m' ≠ 0) : Lop P (.binOp .quo t x y t') ty s c (.int k (k.wrap (m.tdiv m'))) [] :=
  Lop.pure_ fun M F N n a w hr hc => ⟨_, .int _ _, fun w' o ho _ => by simp [execOp, ho, h.int hr hc, h'.int hr hc, binOp, Op.intDiv, eqGuard, h0 hc]⟩
theorem lop_rem (h : Ev s c x (.int k m)) (h' : Ev s c y (.int k m')) (h0 : c = true → m' ≠ 0) : Lop P (.binOp .rem t x y t') ty s c (.int k (m.tmod m')) [] :=
  Lop.pure_ fun M F N n a w hr hc => ⟨_, .int _ _, fun w' o ho _ => by simp [execOp, ho, h.int hr hc, h'.int hr hc, binOp, Op.intDiv, eqGuard, h0 hc]⟩
theorem lop_and (h : Ev s c x (.int k m)) (h' : Ev s c y (.int k m')) : Lop P (.binOp .and t x y t') ty s c (.int k (k.wrap (BitVec.ofInt k.bits m &&& BitVec.ofInt k.bits m').toNat)) [] :=
  Lop.pure_ fun M F N n a w hr hc => ⟨_, .int _ _, fun w' o ho _ => by simp [execOp, ho, h.int hr hc, h'.int hr hc, binOp, Op.intBits, eqGuard]⟩
theorem lop_or (h : Ev s c x (.int k m)) (h' : Ev s c y (.int k m')) : Lop P (.binOp .or t x y t') ty s c (.int k (k.wrap (BitVec.ofInt k.bits m ||| BitVec.ofInt k.bits m').toNat)) [] :=
  Lop.pure_ fun M F N n a w hr hc => ⟨_, .int _ _, fun w' o ho _ => by simp [execOp, ho, h.int hr hc, h'.int hr hc, binOp, Op.intBits, eqGuard]⟩
theorem lop_xor (h : Ev s c x (.int k m)) (h' : Ev s c y (.int k m')) : Lop P (.binOp .xor t x y t') ty s c (.int k (k.wrap (BitVec.ofInt k.bits m ^^^ BitVec.ofInt k.bits m').toNat)) [] :=
  Lop.pure_ fun M F N n a w hr hc => ⟨_, .int _ _, fun w' o ho _ => by simp [execOp, ho, h.int hr hc, h'.int hr hc, binOp, Op.intBits, eqGuard]⟩
theorem lop_andNot (h : Ev s c x (.int k m)) (h' : Ev s c y (.int k m')) : Lop P (.binOp .andNot t x y t') ty s c (.int k (k.wrap (BitVec.ofInt k.bits m &&& ~~~BitVec.ofInt k.bits m').toNat)) [] :=
  Lop.pure_ fun M F N n a w hr hc => ⟨_, .int _ _, fun w' o ho _ => by simp [execOp, ho, h.int hr hc, h'.int hr hc, binOp, Op.intBits, eqGuard]⟩
theorem lop_shl (h : Ev s c x (.int k m)) (h' : Ev s c y (.int k' m')) (h0 : c = true → 0 ≤ m') : Lop P (.binOp .shl t x y t') ty s c (.int k (k.wrap (m * 2 ^ min m'.toNat k.bits))) [] :=
  Lop.pure_ fun M F N n a w hr hc => ⟨_, .int _ _, fun w' o ho _ => by
    have := h0 hc
    simp [execOp, ho, h.int hr hc, h'.int hr hc, binOp, Op.shift, eqGuard, show ¬ m' < 0 by omega]⟩
theorem lop_shr (h : Ev s c x (.int k m)) (h' : Ev s c y (.int k' m')) (h0 : c = true → 0 ≤ m') : Lop P (.binOp .shr t x y t') ty s c (.int k (m.fdiv (2 ^ min m'.toNat k.bits))) [] :=
  Lop.pure_ fun M F N n a w hr hc => ⟨_, .int _ _, fun w' o ho _ => by
    have := h0 hc
    simp [execOp, ho, h.int hr hc, h'.int hr hc, binOp, Op.shift, eqGuard, show ¬ m' < 0 by omega]⟩
theorem lop_eql (h : Ev s c x (.int k m)) (h' : Ev s c y (.int k m')) : Lop P (.binOp .eql t x y t') ty s c (.bool (m == m')) [] :=
  Lop.pure_ fun M F N n a w hr hc => ⟨_, .bool _, fun w' o ho _ => by simp [execOp, ho, h.int hr hc, h'.int hr hc, binOp, Op.intCmp, eqGuard]⟩
theorem lop_neq (h : Ev s c x (.int k m)) (h' : Ev s c y (.int k m')) : Lop P (.binOp .neq t x y t') ty s c (.bool (m != m')) [] :=
  Lop.pure_ fun M F N n a w hr hc => ⟨_, .bool _, fun w' o ho _ => by simp [execOp, ho, h.int hr hc, h'.int hr hc, binOp, Op.intCmp, eqGuard]⟩
theorem lop_lss (h : Ev s c x (.int k m)) (h' : Ev s c y (.int k m')) : Lop P (.binOp .lss t x y t') ty s c (.bool (decide (m < m'))) [] :=
  Lop.pure_ fun M F N n a w hr hc => ⟨_, .bool _, fun w' o ho _ => by simp [execOp, ho, h.int hr hc, h'.int hr hc, binOp, Op.intCmp, eqGuard]⟩
theorem lop_leq (h : Ev s c x (.int k m)) (h' : Ev s c y (.int k m')) : Lop P (.binOp .leq t x y t') ty s c (.bool (decide (m ≤ m'))) [] :=
  Lop.pure_ fun M F N n a w hr hc => ⟨_, .bool _, fun w' o ho _ => by simp [execOp, ho, h.int hr hc, h'.int hr hc, binOp, Op.intCmp, eqGuard]⟩
theorem lop_gtr (h : Ev s c x (.int k m)) (h' : Ev s c y (.int k m')) : Lop P (.binOp .gtr t x y t') ty s c (.bool (decide (m' < m))) [] :=
  Lop.pure_ fun M F N n a w hr hc => ⟨_, .bool _, fun w' o ho _ => by simp [execOp, ho, h.int hr hc, h'.int hr hc, binOp, Op.intCmp, eqGuard]⟩
theorem lop_geq (h : Ev s c x (.int k m)) (h' : Ev s c y (.int k m')) : Lop P (.binOp .geq t x y t') ty s c (.bool (decide (m' ≤ m))) [] :=
  Lop.pure_ fun M F N n a w hr hc => ⟨_, .bool _, fun w' o ho _ => by simp [execOp, ho, h.int hr hc, h'.int hr hc, binOp, Op.intCmp, eqGuard]⟩
theorem lop_conv [Ty P t (.int k)] [Ty P t' (.int k')] (h : Ev s c x (.int k m)) : Lop P (.convert t t' x) ty s c (.int k' (k'.wrap m)) [] :=
  Lop.pure_ fun M F N n a w hr hc => ⟨_, .int _ _, fun w' o ho _ => by
    simp [execOp, ho, h.int hr hc, convert, run_underlying (Ty.und (P := P) (t := t)), run_underlying (Ty.und (P := P) (t := t')), Conv.intToInt]⟩
end ints
end

end Go.Proofs.Ytkjfflabapeidaa
