/-
  The symbolic layer: bytes as a string; a slice against nil. No program is named here.
-/
import Derived.Test.YtkjfflabapeidaaSymP
import Derived.Laws.BytesString
namespace Go.Proofs.Ytkjfflabapeidaa
open Go.RowKit Go.ChangeShapes Go.WideShapes Go.ChangeAt Go.Deep
set_option linter.unusedSimpArgs false
set_option linter.unusedVariables false

def encU (n : Nat) : List AV := [.int .u8 n]
def strU (bs : List Nat) : ByteArray := ⟨(bs.map UInt8.ofNat).toArray⟩
theorem strU_toList (bs : List Nat) : (strU bs).toList = bs.map UInt8.ofNat := by
  rw [Go.ByteArray.toList_eq]
  simp [strU]
theorem rows_u (bs : List Nat) : RowsOk 1 (bs.map encU) := by
  intro x hx
  obtain ⟨n, _, rfl⟩ := List.mem_map.1 hx
  exact ⟨rfl, fun a ha => by obtain rfl := List.mem_singleton.1 ha; rfl⟩
theorem foldl_push (ns : List Nat) : ∀ acc : ByteArray, (ns.map Int.ofNat).foldl (fun r n => r.push (UInt8.ofNat n.toNat)) acc = ⟨acc.data ++ (ns.map UInt8.ofNat).toArray⟩ := by
  induction ns with
  | nil => intro acc; simp
  | cons n ns ih =>
    intro acc
    rw [List.map_cons, List.foldl_cons, ih]
    simp [ByteArray.push]
theorem strU_eq (ns : List Nat) : (ns.map Int.ofNat).foldl (fun r n => r.push (UInt8.ofNat n.toNat)) ByteArray.empty = strU ns := by
  rw [foldl_push]
  simp [strU, ByteArray.empty, ByteArray.emptyWithCapacity]
  rfl
theorem u8_inj {a b : Nat} (ha : a < 256) (hb : b < 256) (h : UInt8.ofNat a = UInt8.ofNat b) : a = b := by
  have := congrArg UInt8.toNat h
  simp at this
  omega
theorem strU_inj : ∀ {l m : List Nat}, (∀ x ∈ l, x < 256) → (∀ x ∈ m, x < 256) → ((strU l).toList == (strU m).toList) = decide (l = m) := by
  intro l m hl hm
  rw [strU_toList, strU_toList]
  by_cases h : l = m
  · subst h; simp
  · rw [decide_eq_false h, beq_eq_false_iff_ne]
    intro e
    apply h
    clear h
    induction l generalizing m with
    | nil => cases m <;> first | rfl | simp at e
    | cons a l ih =>
      cases m with
      | nil => simp at e
      | cons b m =>
        simp only [List.map_cons, List.cons.injEq] at e
        rw [u8_inj (hl a (by simp)) (hm b (by simp)) e.1, ih (fun x hx => hl x (by simp [hx])) (fun x hx => hm x (by simp [hx])) e.2]
section
variable {P : Program} {ty : TypeId} {s : ASt} {c : Bool} {t t' e : TypeId} {x y : Operand}
theorem run_bytes_str {w : World} [Ty P t (.slice e)] [Ty P e (.int .u8)] [Ty P t' .string] {ρ : Operand → Value} {o : Oper} (ho : o.op = .convert t t' x) {A : Option Addr} {cap : Nat} {bs : List Nat} (hx : ρ x = .slice A bs.length cap) (hn : A = none → bs = [])
    (hc : ∀ p, A = some p → ∀ (j : Nat) (n : Nat), bs[j]? = some n → w.cell? (p.add j) = some (.int .u8 n)) : (execOp ρ o).run P w = .ok (.value (.string (strU bs))) w := by
  have h1 : (Conv.bytesToString (.slice A bs.length cap)).run P w = .ok (.string (strU bs)) w := by
    cases A with
    | none =>
      obtain rfl := hn rfl
      simp [Conv.bytesToString, strU, ByteArray.empty, ByteArray.emptyWithCapacity]
      rfl
    | some p =>
      have hl := run_loadCells_list (P := P) (w := w) p ((bs.map Int.ofNat).map (Value.int .u8)) (fun j v hj => by
        rw [List.getElem?_map, List.getElem?_map, Option.map_map] at hj
        obtain ⟨n, hn, rfl⟩ := Option.map_eq_some_iff.1 hj
        exact hc p rfl j n hn)
      rw [List.length_map, List.length_map] at hl
      rw [run_bytesToString w p bs.length cap (bs.map Int.ofNat) hl, strU_eq]
  simp only [execOp, ho, hx, Sem.run_bind, run_convert_bytes_string w t t' e A bs.length cap (Ty.und (P := P) (t := t)) (Ty.und (P := P) (t := e)) (Ty.und (P := P) (t := t')), h1, Result.andThen_ok, Sem.run_pure]
theorem lop_bytes_ro [Ty P t (.slice e)] [Ty P e (.int .u8)] [Ty P t' .string] {bs : List Nat} {k : Rk} (h : Ev s c x (.ro 1 (bs.map encU) k)) : Lop P (.convert t t' x) ty s c (.str (strU bs)) [] := by
  refine ⟨fun r hr => by simp at hr, fun M F N n a w hr hc => ⟨_, .str _, fun w' o ho _ hsame => ?_⟩⟩
  have e1 := h.vr hr hc
  generalize hu : a.eval x = u at e1
  generalize hes : bs.map encU = es at e1
  cases e1 with
  | @ro _ _ b o' _ cap us hb hs hcc hrr hle hm hf hn =>
    subst hes
    refine run_bytes_str (e := e) ho (by rw [hu, List.length_map]) (fun h => by cases h) (fun p hp j n hj => ?_)
    cases hp
    have h1 := hcc j (encU n) 0 (.int .u8 n) (by rw [List.getElem?_map, hj]; rfl) rfl
    have h2 := hrr j (encU n) 0 (.int .u8 n) (by rw [List.getElem?_map, hj]; rfl) rfl
    rw [Addr.add_lit, World.cell?_of_block (w := w) (w' := w') (hsame b (.inl hb))]
    rw [Nat.mul_one, Nat.add_zero] at h1
    rw [h1]
    generalize us j 0 = q at h2
    cases h2
    rfl
  | @ro0 _ _ A cap hm hA hf hn =>
    have : bs = [] := by simpa using hes
    subst this
    exact run_bytes_str (e := e) ho (A := A) (cap := cap) hu (fun _ => rfl) (fun p _ j n hj => by simp at hj)
theorem lop_bytes_own [Ty P t (.slice e)] [Ty P e (.int .u8)] [Ty P t' .string] {bs bs' : List Nat} {r off len : Nat} {et : TypeId} (h : Ev s c x (.own r off len)) (hg : sget s.σ r = some (.arr et 1 (bs.map encU))) (hle : off + len ≤ bs.length) (hbs : (bs.drop off).take len = bs') : Lop P (.convert t t' x) ty s c (.str (strU bs')) [r] := by
  subst hbs
  refine ⟨fun q hq => ⟨_, sget_mem hg, (List.mem_singleton.1 hq).symm⟩, fun M F N n a w hr hc => ⟨_, .str _, fun w' o ho _ hsame => ?_⟩⟩
  have e1 := h.vr hr hc
  have hl : ((bs.drop off).take len).length = len := by simp; omega
  generalize hu : a.eval x = u at e1
  obtain ⟨h0, hrows, h3⟩ := hr.st.ent _ (sget_mem hg)
  cases e1 with
  | own hM hle' hm =>
    rcases h3 with ⟨hv', _⟩ | ⟨g, cc, vs, hM', hcl, hsz, hlc, hmax, hvr⟩
    · rw [hM] at hv'; cases hv'
    · have hg' := hM'.symm.trans hM
      simp only [Option.some.injEq, Blk'.row.injEq] at hg'
      obtain ⟨q1, q2, q3⟩ := hg'
      subst q1
      subst q2
      subst q3
      refine run_bytes_str (e := e) ho (by rw [hu, hl]) (fun h => by cases h) (fun p hp j n hj => ?_)
      cases hp
      rw [Addr.add_lit, World.cell?_of_block (w := w) (w' := w') (hsame g (.inr ⟨r, by simp, by simp [blkOf, hM]⟩)), hcl.cell]
      have hj2 : bs[off + j]? = some n := by
        rw [List.getElem?_take] at hj
        split at hj
        · rwa [List.getElem?_drop] at hj
        · cases hj
      have hjl := (List.getElem?_eq_some_iff.1 hj2).1
      rw [List.length_map] at hlc
      have hlt : off * 1 + j < vs.size := by omega
      have h1 := hvr (off + j) (encU n) 0 (.int .u8 n) vs[off * 1 + j] (by rw [List.getElem?_map, hj2]; rfl) rfl (by rw [show (off + j) * 1 + 0 = off * 1 + j by omega]; exact Array.getElem?_eq_getElem hlt)
      rw [Array.getElem?_eq_getElem hlt]
      generalize vs[off * 1 + j] = q at h1
      cases h1
      rfl
  | own0 =>
    refine run_bytes_str (e := e) ho (by rw [hu, hl]) (fun _ => by simp) (fun p _ j n hj => by simp at hj)
/-- nil is nil -/
theorem lop_nil_neq {z : Nat} [Ty P t (.slice e)] (h : Ev s c x (.ro z [] .nil)) (hy : y = .const (.slice none 0 0)) : Lop P (.binOp .neq t x y t') ty s c (.bool false) [] := by
  subst hy
  refine Lop.pure_ fun M F N n a w hr hc => ⟨_, .bool _, fun w' o ho _ => ?_⟩
  have e1 := h.vr hr hc
  generalize hu : a.eval x = u at e1
  have hx : u = .slice none 0 0 := by
    cases e1 with
    | ro _ _ _ _ _ _ _ hn => exact absurd rfl hn
    | ro0 hm hA hf hn => obtain rfl := hn rfl; obtain rfl := hA rfl; rfl
  subst hx
  refine run_binOp ho ?_ ?_
  · rw [hu]; simp [eqGuard]
  · rw [hu, show a.eval (.const (.slice none 0 0)) = .slice none 0 0 from rfl, run_neq_slice_nil_any (P := P) w' t _ none 0 0 0 0 (Ty.und (P := P) (t := t))]; rfl
theorem lop_nil_eql {z : Nat} [Ty P t (.slice e)] (h : Ev s c x (.ro z [] .nil)) (hy : y = .const (.slice none 0 0)) : Lop P (.binOp .eql t x y t') ty s c (.bool true) [] := by
  subst hy
  refine Lop.pure_ fun M F N n a w hr hc => ⟨_, .bool _, fun w' o ho _ => ?_⟩
  have e1 := h.vr hr hc
  generalize hu : a.eval x = u at e1
  have hx : u = .slice none 0 0 := by
    cases e1 with
    | ro _ _ _ _ _ _ _ hn => exact absurd rfl hn
    | ro0 hm hA hf hn => obtain rfl := hn rfl; obtain rfl := hA rfl; rfl
  subst hx
  refine run_binOp ho ?_ ?_
  · rw [hu]; simp [eqGuard]
  · rw [hu, show a.eval (.const (.slice none 0 0)) = .slice none 0 0 from rfl, Lib.run_eql_slice_nil (P := P) w' t _ none 0 0 0 0 (Ty.und (P := P) (t := t))]; rfl
end
end Go.Proofs.Ytkjfflabapeidaa
