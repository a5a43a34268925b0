/-
  The symbolic layer: appends onto nil, bytes as text. No program is named here.
-/
import Derived.Test.YtkjfflabapeidaaSymV
namespace Go.Proofs.Ytkjfflabapeidaa
open Go.RowKit Go.ChangeShapes Go.WideShapes Go.ChangeAt Go.Deep
set_option linter.unusedSimpArgs false
set_option linter.unusedVariables false

theorem oldT {P : Prop} (h : P := by (first | rfl | (simp; done) | (rw [List.drop_zero]; exact List.take_of_length_le (by first | (simp; done) | (simp; omega) | omega)) | (simp only [List.map_take, List.map_drop, List.drop_zero]; done))) : P := h
theorem take_all {α : Type} {l : List α} {n : Nat} (h : l.length ≤ n) : (l.drop 0).take n = l := by rw [List.drop_zero]; exact List.take_of_length_le h
theorem textT {P : Prop} (h : P := by (first | exact take_all (by first | (simp; done) | (simp; omega) | omega) | rfl)) : P := h
section
variable {P : Program} {n : Nat} {ops : Array Oper} {rest : List Oper} {fr : Fr} {σ : Sto} {K : ASt → Prop} {op : Op} {ty t t' : TypeId} {pos : String} {af : Array Edge} {x y : Operand} {d : Nat}
theorem anA {e : TypeId} [Ty P t (.slice e)] {sz by_ : Nat} {zv : Value} [Tz P e sz by_ zv] {z : Nat} {k : Rk} {ys : List (List AV)} (es' : List (List AV)) (len' : Nat)
    (hK : ∀ r, Fresh r σ → RS P n ops rest ⟨(d, .own r 0 len') :: fr, (r, .arr e sz es') :: σ⟩ K)
    (hz : zv.cells.size = sz := by rfl) (h0 : Nat.ble 1 sz = true := by rfl) (hb : aev ⟨fr, σ⟩ x = some (.ro z [] k) := by rfl) (hk : k ≠ .any := by decide) (hy : Src ⟨fr, σ⟩ y sz ys := by exact srcT) (he : ys = es' := by exact oldT) (hl : len' = ys.length := by exact lenT) (hby : len' * by_ ≤ 140737488355328 := by (simp; try omega)) (hd : Nat.ble (d + 1) n = true := by rfl) :
    RS P n ops (⟨some d, .call { callee := .builtin .append, args := #[x, y], argTypes := #[t, t] }, ty, pos, af, none⟩ :: rest) ⟨fr, σ⟩ K := by
  subst he hl
  exact rs_heavy (hop_append_new (Nat.le_of_ble_eq_true h0) hz hb hk hy hby (lt_ble hd) hK)
variable {listed : Array Bool} {todo : List (Nat × Bool)} {held : List (Nat × List Nat)} {i : Nat}
theorem danA {e : TypeId} {sz by_ : Nat} {zv : Value} {z : Nat} {k : Rk} {ys : List (List AV)} (hi : ops[i]? = some ⟨some d, .call { callee := .builtin .append, args := #[x, y], argTypes := #[t, t] }, ty, pos, af, none⟩) (es' : List (List AV)) (len' : Nat)
    (hK : ∀ r, Fresh r σ → RD P n ops (listed.setIfInBounds i true) todo held ⟨(d, .own r 0 len') :: fr, (r, .arr e sz es') :: σ⟩ K)
    (i1 : Ty P t (.slice e) := by infer_instance) (i2 : Tz P e sz by_ zv := by infer_instance) (hz : zv.cells.size = sz := by rfl) (h0 : Nat.ble 1 sz = true := by rfl) (hb : aev ⟨fr, σ⟩ x = some (.ro z [] k) := by rfl) (hk : k ≠ .any := by decide) (hy : Src ⟨fr, σ⟩ y sz ys := by exact srcT) (he : ys = es' := by exact oldT) (hl : len' = ys.length := by exact lenT) (hby : len' * by_ ≤ 140737488355328 := by (simp; try omega)) (hd : Nat.ble (d + 1) n = true := by rfl) :
    RD P n ops listed ((i, false) :: todo) held ⟨fr, σ⟩ K := by
  subst he hl
  exact rd_new hi (hop_append_new (Nat.le_of_ble_eq_true h0) hz hb hk hy hby (lt_ble hd) hK)
end

/-- a row that a box tells of is written by nobody from here on -/
theorem sgo_fzb {fr : Fr} {σ σ1 σ' : Sto} {r q : Nat} {bt : TypeId} {cs cs' : List AV} {e : Ent} (hs : SSet σ r (.box bt cs) r (.box bt cs') σ1) (hd : SDel σ1 q e σ') (hb : BorL σ [q] cs cs') : SGo ⟨fr, σ⟩ ⟨fr, σ'⟩ := by
  refine sgo_freeze [q] (fun i x' hi => ⟨x', hi, .refl _⟩) (fun p hp => ?_)
  obtain ⟨h1, h2⟩ := hd.sub p hp
  refine ⟨by simpa using h2, ?_⟩
  rcases List.mem_cons.1 (hs.sub p h1) with rfl | h
  · exact ⟨_, sget_mem hs.get, .box (bagg hb)⟩
  · exact ⟨p.2, (mem_sdrop h).1, .refl _⟩

/-! ### bytes as text -/
theorem strU_append (a b : List Nat) : strU a ++ strU b = strU (a ++ b) := by
  apply ByteArray.ext
  simp [strU]
theorem strU_size (a : List Nat) : (strU a).size = a.length := by simp [strU, ByteArray.size]
section
variable {P : Program} {ty t t' : TypeId} {s : ASt} {c : Bool} {x y : Operand}
theorem lop_text_own {e : TypeId} [Ty P t (.slice e)] [Ty P e (.int .u8)] [Ty P t' .string] {bs bs' : List Nat} {r off len : Nat} {et : TypeId} (h : Ev s c x (.own r off len)) (hg : sget s.σ r = some (.arr et 1 (bs.map encU)) := by exact sgT) (hle : off + len ≤ bs.length := by exact lenT) (hbs : (bs.drop off).take len = bs' := by exact textT) : Lop P (.convert t t' x) ty s c (.str (strU bs')) [r] := lop_bytes_own h hg hle hbs
theorem lop_tadd {a b : List Nat} (h : Ev s c x (.str (strU a))) (h' : Ev s c y (.str (strU b))) (hm : c = true → a.length + b.length ≤ maxLen := by (intro _; simp [maxLen]; omega)) : Lop P (.binOp .add t x y t') ty s c (.str (strU (a ++ b))) [] := by
  rw [← strU_append]
  exact lop_sadd h h' (by rw [strU_size, strU_size]; exact hm)
end
end Go.Proofs.Ytkjfflabapeidaa
