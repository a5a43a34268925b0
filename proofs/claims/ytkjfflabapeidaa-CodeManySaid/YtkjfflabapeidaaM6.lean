import Derived.Test.YtkjfflabapeidaaM5
import Derived.Test.YtkjfflabapeidaaM3
import Derived.WalkKit
import Derived.ProofKit
import Derived.OpenShut
/-
  Plain words on what instructions are written as: their bytes, how many, no two alike.
-/
namespace Go.Proofs.Ytkjfflabapeidaa
open Go.RowKit Go.ChangeShapes Go.WideShapes Go.ChangeAt Go.Deep
set_option linter.unusedSimpArgs false
set_option linter.unusedVariables false

theorem if_and {p q : Bool} : (if p = true then q else false) = (p && q) := by cases p <;> rfl
theorem if_or {p q : Bool} : (if p = true then true else q) = (p || q) := by cases p <;> rfl
theorem bT {H R : Prop} (a : H) (h : H → R := by intro h; (try simp only [if_and, if_or] at h); simp only [Bool.and_eq_true, Bool.or_eq_true, Bool.and_eq_false_iff, Bool.or_eq_false_iff, decide_eq_true_eq, decide_eq_false_iff_not, Bool.not_eq_true', Bool.not_eq_false', bne_iff_ne, beq_iff_eq, ne_eq, Bool.not_eq_eq_eq_not, Bool.not_true, Bool.not_false, bne_eq_false_iff_eq, beq_eq_false_iff_ne] at h; exact h) : R := h a
instance : NoE encI := ⟨fun a x hx => by simp [encI] at hx; subst hx; exact NoF.int⟩
theorem putT_lt (x : Ins) : ∀ b ∈ putT x, b < 256 := by
  have hf : ∀ l : List Int, ∀ b ∈ (l.flatMap fun n => uB n.toNat), b < 256 := by
    intro l b hb
    obtain ⟨n, -, hn⟩ := List.mem_flatMap.1 hb
    exact uB_lt _ b hn
  intro b hb
  unfold putT at hb
  split at hb
  · rw [List.mem_singleton.1 hb]; unfold kindB; split <;> (try split) <;> decide
  split at hb
  · exact uB_lt _ b hb
  split at hb
  · rcases List.mem_append.1 hb with h | h
    · exact uB_lt _ b h
    · rw [List.mem_singleton.1 h]; decide
  split at hb
  · rcases List.mem_append.1 hb with h | h
    · rcases List.mem_append.1 h with h | h
      · exact uB_lt _ b h
      · exact hf _ b h
    · exact uB_lt _ b h
  split at hb
  · rcases List.mem_append.1 hb with h | h
    · exact uB_lt _ b h
    · exact uB_lt _ b h
  split at hb
  · rw [List.mem_singleton.1 hb]; decide
  split at hb
  · exact sB_lt _ x.a (Nat.le_refl _) b hb
  · simp at hb
theorem putN_lt {x : Ins} (hm : mayN x = true) : ∀ b ∈ putN x, b < 256 := by
  intro b hb
  rcases List.mem_cons.1 hb with rfl | hb
  · have := may_op hm; omega
  · exact putT_lt x b hb
theorem putN_len {x : Ins} (hx : x.Ok) (hm : mayN x = true) : (putN x).length ≤ 200 := by
  unfold putN
  rw [List.length_cons]
  suffices (putT x).length ≤ 199 by omega
  unfold putT
  split
  · simp
  split
  · next h => have := may3 hm h; have := uB_len 1 x.a.toNat (by omega); omega
  split
  · next h => have := may5 hm h; have := uB_len 1 x.a.toNat (by omega); simp; omega
  split
  · next h =>
    obtain ⟨h1, h2, h3⟩ := may4 hm h
    have := uB_len 1 x.a.toNat (by omega)
    have := uB_len 0 x.l.length (by omega)
    have := flat_len h3
    simp only [List.length_append]
    omega
  split
  · next h => have := may6 hm h; have := uB_len 0 x.a.toNat (by omega); have := uB_len 4 x.b.toNat (by omega); simp; omega
  split
  · simp
  split
  · obtain ⟨-, -, h1, h2, -⟩ := hx
    have := sB_len 9 x.a (by omega) (by omega)
    omega
  · simp
theorem putN_inj {x y : Ins} (hx : x.Ok) (hy : y.Ok) (mx : mayN x = true) (my : mayN y = true) (h : putN x = putN y) : x = y := by
  have h1 := get_put hx mx []
  have h2 := get_put hy my []
  rw [h, h2] at h1
  exact (Prod.mk.inj h1).1.symm
theorem eqN_iff {x y : Ins} : eqN x y = true ↔ x = y := by
  cases x; cases y
  simp [eqN]
theorem get_put0 {x : Ins} (hx : x.Ok) (h : mayN x = true) : getP (putN x) = (x, (putN x).length, 0) := by
  have := get_put hx h []
  rwa [List.append_nil] at this
end Go.Proofs.Ytkjfflabapeidaa
/-
  Body: instructions whose lists are cut, not too many.
-/
namespace Go.Proofs.Ytkjfflabapeidaa
open Go.RowKit Go.ChangeShapes Go.WideShapes Go.ChangeAt Go.Deep
set_option linter.unusedSimpArgs false
set_option linter.unusedVariables false
attribute [local irreducible] SW RS RD AThen ABlock

def bodyN (l : List Ins) (n : Nat) : List Ins := (l.take n).map cutN
theorem bodyN_next {l : List Ins} {j : Nat} {x : Ins} (h : l[j]? = some x) : bodyN l (j + 1) = bodyN l j ++ [cutN x] := by
  unfold bodyN; rw [List.take_add_one, h]; simp
theorem bodyN_len {l : List Ins} {j : Nat} (h : j ≤ l.length) : (bodyN l j).length = j := by unfold bodyN; simp; omega
theorem bor_io {q : Nat} {x : Ins} {e : TypeId} {σ : Sto} (h : sget σ q = some (.arr e 1 (x.l.map encI))) : Bor σ [q] (.agg (io q x)) (.agg (iv .any x)) :=
  bagg (.cons (.refl _) (.cons (.refl _) (.cons (.refl _) (.cons (bor_own h (by simp)) .nil))))
set_option maxRecDepth 100000 in
theorem law_body (l : List Ins) (hl : l.length ≤ maxLen) (hw : ∀ x ∈ l, x.l.length ≤ maxLen) (n : Nat) (hn : n ≤ 1000) : SCall Try.prog 28 [.ro 4 (l.map (iv .any)) .any, .int .i64 n] []
    (fun y σ => ∃ q, y = .own q 0 (bodyN l n).length ∧ σ = [(q, .arr 24 4 ((bodyN l n).map (iv .any)))]) := by
  unfold maxLen at hl
  refine scall_of (n := 27) (ks := [0, 1, 4, 5, 6, 15]) Try.func28 rfl rfl (Nat.le_of_ble_eq_true rfl) ?_
  (refine ctlT ?_)
  refine rgT ?_
  refine lo (lop_assign (E rfl)) rfl ?_
  refine leT ?_
  (refine ctlT ?_)
  refine rgT ?_
  refine lo (lop_assign (E rfl)) rfl ?_
  refine leT ?_
  (refine ctlT ?_)
  refine rgT ?_
  refine lo (lop_assign (E rfl)) rfl ?_
  refine leT ?_
  (refine ctlT ?_)
  refine sw_virt 5 24 4 (by decide) rfl (by decide) (freshT fun q0 hq0 => ?_); (repeat (rcases hq0 with ⟨_, hq0⟩))
  refine lp (β := Nat × Nat) (fun b => ⟨[(0, .ro 4 (l.map (iv .any)) .any), (1, .int .i64 n), (5, .own b.1 0 (bodyN l b.2).length), (6, .int .i64 b.2)], [(b.1, .arr 24 4 ((bodyN l b.2).map (iv .any)))]⟩) (fun b => b.2 ≤ n ∧ b.2 ≤ l.length) (fun b => n - b.2) (q0, 0) sgoT ⟨by omega, by omega⟩ ?_
  rintro ⟨q, j⟩ ⟨hj, hjl⟩
  dsimp only at hj hjl ⊢
  (refine ctlT ?_)
  refine rgT ?_
  refine lo (lop_move (E rfl)) rfl ?_
  refine lo (lop_move (E rfl)) rfl ?_
  refine z14 ?_
  refine lo (lop_lss (E rfl) (E rfl)) rfl ?_
  refine lo (lop_move (E rfl)) rfl ?_
  first | refine ln rfl rfl rfl rfl ?_ | (refine gy rfl rfl ?_; refine lo (lop_move (E rfl)) rfl ?_) | refine lg rfl rfl (lop_move (E rfl)) rfl ?_
  first | refine ln rfl rfl rfl rfl ?_ | (refine gy rfl rfl ?_; refine lo (lop_move (E rfl)) rfl ?_) | refine lg rfl rfl (lop_move (E rfl)) rfl ?_
  first | refine ln rfl rfl rfl rfl ?_ | (refine gy rfl rfl ?_; refine lo (lop_lss (by first | exact W rfl id | exact E rfl) (by first | exact W rfl id | exact E rfl)) rfl ?_) | refine lg rfl rfl (lop_lss (by first | exact W rfl id | exact E rfl) (by first | exact W rfl id | exact E rfl)) rfl ?_
  refine z68 ?_
  refine leT ?_
  (refine ctlT ?_)
  refine sw_cond rfl (fun g3 => ?_) (fun g3 => ?_)
  · replace g3 := bT g3
    obtain ⟨x, hx⟩ : ∃ x, l[j]? = some x := ⟨_, List.getElem?_eq_getElem (by omega)⟩
    have hxm := hw x (List.mem_of_getElem? hx)
    have hnx := bodyN_next hx
    have hbl := bodyN_len hjl
    (refine ctlT ?_)
    refine rgT ?_
    refine lo (lop_move (E rfl)) rfl ?_
    refine lo (lop_move (E rfl)) rfl ?_
    refine lo (lop_move (E rfl)) rfl ?_
    refine z15 ?_
    first | refine lo (lop_load_el_agg (E rfl) rfl (fun hc => by first | rfl | exact get_map (by assumption) | assumption | exact get_map (at_bang (by omega))) (fun _ => Nat.le_of_ble_eq_true rfl)) rfl ?_ | refine lo (lop_load_ow_agg (E rfl) rfl sgT (fun hc => by first | rfl | exact get_map (by assumption) | assumption | exact get_map (at_bang (by omega))) (fun _ => Nat.le_of_ble_eq_true rfl)) rfl ?_
    refine cw [] Try.call17 (law_cut x hxm) rfl argsleT stleT ?_
    rintro _ σ' ⟨q2, rfl, rfl⟩ h23
    replace h23 := cnewT h23; (repeat (rcases h23 with ⟨_, h23⟩))
    (apply rs_sto; (exact nflT))
    refine fzv (j := 23) rfl sdelT (bor_io sgT) ?_
    refine z1 ?_; refine freshT fun r24 h24 => ?_; (repeat (rcases h24 with ⟨_, h24⟩))
    refine apA ((bodyN l j ++ [cutN x]).map (iv .any)) (bodyN l j ++ [cutN x]).length ?_
    refine apnT fun r25 h25 => ?_; (repeat (rcases h25 with ⟨_, h25⟩))
    refine lo (lop_assign (E rfl)) rfl ?_
    refine leT ?_
    (refine ctlT ?_)
    refine rgT ?_
    refine lo (lop_move (E rfl)) rfl ?_
    refine z17 ?_
    refine lo (lop_assign (E rfl)) rfl ?_
    refine leT ?_
    (refine ctlT ?_)
    refine ⟨(r25, j + 1), ⟨by show j + 1 ≤ n; omega, by show j + 1 ≤ l.length; omega⟩, by show n - (j + 1) < n - j; omega, ?_⟩
    dsimp only
    rw [hnx]
    (exact sgoT)
  have he : bodyN l j = bodyN l n := by
    have : j = n ∨ j = l.length := by replace g3 := bT g3; omega
    rcases this with rfl | rfl
    · rfl
    · unfold bodyN; rw [List.take_of_length_le (Nat.le_refl _), List.take_of_length_le hj]
  rw [he]
  (refine ctlT ?_)
  refine rgT ?_
  refine lo (lop_move (E rfl)) rfl ?_
  refine lo (lop_assign (E rfl)) rfl ?_
  refine leT ?_
  (refine ctlT ?_)
  (apply aend; (exact resT))
  · exact ⟨q, rfl, rfl⟩
  · (exact stleT)
end Go.Proofs.Ytkjfflabapeidaa
/-
  How a statement's arguments are read: numbers, bytes, instructions.
-/
namespace Go.Proofs.Ytkjfflabapeidaa
open Go.RowKit Go.ChangeShapes Go.WideShapes Go.ChangeAt Go.Deep
set_option linter.unusedSimpArgs false
set_option linter.unusedVariables false

def encU8 (n : Int) : List AV := [.int .u8 n]
theorem encU8_nat : ∀ {l : List Int}, (∀ a ∈ l, 0 ≤ a ∧ a ≤ 255) → l.map encU8 = (l.map Int.toNat).map encU
  | [], _ => rfl
  | a :: l, h => by
    have := h a List.mem_cons_self
    rw [List.map_cons, List.map_cons, List.map_cons, encU8_nat fun b hb => h b (List.mem_cons_of_mem _ hb), encU8, encU, Int.toNat_of_nonneg this.1]
abbrev I64 (a : Int) : Prop := (Lit.int .i64 a).wf = true
abbrev U8 (a : Int) : Prop := (Lit.int .u8 a).wf = true
theorem bd_u8 {n : Int} (h : U8 n) : 0 ≤ n ∧ n ≤ 255 := by
  simp [U8, Lit.wf, IntKind.min, IntKind.max, IntKind.signed, IntKind.bits] at h
  omega
theorem bd_i64 {n : Int} (h : I64 n) : -9223372036854775808 ≤ n ∧ n ≤ 9223372036854775807 := by
  simp [I64, Lit.wf, IntKind.min, IntKind.max, IntKind.signed, IntKind.bits] at h
  omega
theorem rda_i : RdA Try.prog 3 Int 1 (fun n => [.int .i64 n]) I64 := rda_int (t := 3) (k := .i64) rfl
theorem rda_i64 : RdA Try.prog 2 Int 1 (fun n => [.int .i64 n]) I64 := rda_int (t := 2) (k := .i64) rfl
theorem rda_u8s : RdA Try.prog 25 (List Int) 1 (fun l => [.ro 1 (l.map encU8) .any]) (fun l => l.length ≤ maxLen ∧ ∀ a ∈ l, U8 a) := rda_slice rfl (by decide) (rda_int (t := 5) (k := .u8) rfl)
theorem rda_ints : RdA Try.prog 22 (List Int) 1 (fun l => [.ro 1 (l.map encI) .any]) (fun l => l.length ≤ maxLen ∧ ∀ a ∈ l, I64 a) := rda_slice rfl (by decide) (rda_int (t := 3) (k := .i64) rfl)
theorem rda_map {P : Program} {t : TypeId} {α β : Type} {sz : Nat} {en : α → List AV} {ok : α → Prop} (f : α → β) (g : β → α) (hg : ∀ a, g (f a) = a) (h : RdA P t α sz en ok) : RdA P t β sz (fun b => en (g b)) (fun b => ok (g b)) :=
  ⟨h.cells, fun b => h.shape (g b), fun H enc W fuel cs x hx => by
    obtain ⟨a, h1, h2, h3⟩ := h.read H enc W fuel cs x hx
    exact ⟨f a, by rw [hg]; exact h1, h2, by rw [hg]; exact h3⟩⟩
theorem rda_if {P : Program} {t : TypeId} {α : Type} {sz : Nat} {en : α → List AV} {ok ok' : α → Prop} (hk : ∀ a, ok a → ok' a) (h : RdA P t α sz en ok) : RdA P t α sz en ok' :=
  ⟨h.cells, h.shape, fun H enc W fuel cs x hx => by
    obtain ⟨a, h1, h2, h3⟩ := h.read H enc W fuel cs x hx
    exact ⟨a, hk a h1, h2, h3⟩⟩
/-- an instruction that is read: its numbers are numbers -/
def Ins.Wf (x : Ins) : Prop := (-9223372036854775808 ≤ x.op ∧ x.op ≤ 9223372036854775807) ∧ (-9223372036854775808 ≤ x.a ∧ x.a ≤ 9223372036854775807) ∧ (-9223372036854775808 ≤ x.b ∧ x.b ≤ 9223372036854775807) ∧ x.l.length ≤ maxLen ∧ ∀ a ∈ x.l, -9223372036854775808 ≤ a ∧ a ≤ 9223372036854775807
theorem rda_ins : RdA Try.prog 24 Ins 4 (iv .any) Ins.Wf := by
  have h : RdA Try.prog 24 (Int × Int × Int × List Int) 4 (fun p : Int × Int × Int × List Int => [.int .i64 p.1] ++ (fun p : Int × Int × List Int => [.int .i64 p.1] ++ (fun p : Int × List Int => [.int .i64 p.1] ++ [.ro 1 (p.2.map encI) .any]) p.2) p.2) (fun p => I64 p.1 ∧ I64 p.2.1 ∧ I64 p.2.2.1 ∧ (p.2.2.2.length ≤ maxLen ∧ ∀ a ∈ p.2.2.2, I64 a)) := by
    refine rda_struct ?_
    refine rdf_cons (f := ⟨_, _, _, _, _, _, _⟩) (sz' := 3) (en := fun n => [.int .i64 n]) (ok := I64) (en' := fun p : Int × Int × List Int => [.int .i64 p.1] ++ (fun p : Int × List Int => [.int .i64 p.1] ++ [.ro 1 (p.2.map encI) .any]) p.2) (ok' := fun p => I64 p.1 ∧ I64 p.2.1 ∧ (p.2.2.length ≤ maxLen ∧ ∀ a ∈ p.2.2, I64 a)) rda_i rfl ?_
    refine rdf_cons (f := ⟨_, _, _, _, _, _, _⟩) (sz' := 2) (en := fun n => [.int .i64 n]) (ok := I64) (en' := fun p : Int × List Int => [.int .i64 p.1] ++ [.ro 1 (p.2.map encI) .any]) (ok' := fun p => I64 p.1 ∧ (p.2.length ≤ maxLen ∧ ∀ a ∈ p.2, I64 a)) rda_i64 rfl ?_
    refine rdf_cons (f := ⟨_, _, _, _, _, _, _⟩) (sz' := 1) (en := fun n => [.int .i64 n]) (ok := I64) (en' := fun l : List Int => [.ro 1 (l.map encI) .any]) (ok' := fun l : List Int => l.length ≤ maxLen ∧ ∀ a ∈ l, I64 a) rda_i64 rfl ?_
    exact rdf_one rda_ints rfl
  have h2 := rda_map (fun p : Int × Int × Int × List Int => (⟨p.1, p.2.1, p.2.2.1, p.2.2.2⟩ : Ins)) (fun c => (c.op, c.a, c.b, c.l)) (fun _ => rfl) h
  exact rda_if (fun x hx => ⟨bd_i64 hx.1, bd_i64 hx.2.1, bd_i64 hx.2.2.1, hx.2.2.2.1, fun a ha => bd_i64 (hx.2.2.2.2 a ha)⟩) h2
theorem rda_inss : RdA Try.prog 41 (List Ins) 1 (fun l => [.ro 4 (l.map (iv .any)) .any]) (fun l => l.length ≤ maxLen ∧ ∀ x ∈ l, x.Wf) := rda_slice rfl (by decide) rda_ins
/-- bytes as numbers from 0 -/
theorem nats {l : List Int} (h : l.length ≤ maxLen ∧ ∀ a ∈ l, U8 a) : ∃ v : List Nat, v.length = l.length ∧ v.length ≤ maxLen ∧ (∀ x ∈ v, x < 256) ∧ l.map encU8 = v.map encU :=
  ⟨l.map Int.toNat, by simp, by simpa using h.1, fun x hx => by
    obtain ⟨a, ha, rfl⟩ := List.mem_map.1 hx
    have := bd_u8 (h.2 a ha)
    omega, encU8_nat fun a ha => bd_u8 (h.2 a ha)⟩
end Go.Proofs.Ytkjfflabapeidaa
/-
  InstrMany.
-/
namespace Go.Proofs.Ytkjfflabapeidaa
open Go.RowKit Go.ChangeShapes Go.WideShapes Go.ChangeAt Go.Deep
set_option linter.unusedSimpArgs false
set_option linter.unusedVariables false
attribute [local irreducible] SW RS RD AThen ABlock

def mN (L : List Ins) (j : Nat) : List Ins := (L.take j).filter mayN
def pN (L : List Ins) (j : Nat) : List Nat := (mN L j).flatMap putN
theorem mN_yes {L : List Ins} {j : Nat} {x : Ins} (h : L[j]? = some x) (hm : mayN x = true) : mN L (j + 1) = mN L j ++ [x] := by
  unfold mN; rw [List.take_add_one, h, List.filter_append]; simp [hm]
theorem mN_no {L : List Ins} {j : Nat} {x : Ins} (h : L[j]? = some x) (hm : mayN x = false) : mN L (j + 1) = mN L j := by
  unfold mN; rw [List.take_add_one, h, List.filter_append]; simp [hm]
theorem mN_mem {L : List Ins} {j : Nat} {x : Ins} (h : x ∈ mN L j) : x ∈ L ∧ mayN x = true := by
  unfold mN at h
  rw [List.mem_filter] at h
  exact ⟨List.mem_of_mem_take h.1, h.2⟩
theorem flat_put_len : ∀ {M : List Ins}, (∀ x ∈ M, x.Ok ∧ mayN x = true) → (M.flatMap putN).length ≤ 200 * M.length
  | [], _ => by simp
  | x :: M, h => by
    have ih := flat_put_len (M := M) fun y hy => h y (List.mem_cons_of_mem _ hy)
    have h1 := putN_len (h x List.mem_cons_self).1 (h x List.mem_cons_self).2
    simp only [List.flatMap_cons, List.length_append, List.length_cons]
    omega
theorem flat_put_lt {M : List Ins} (h : ∀ x ∈ M, x.Ok ∧ mayN x = true) : ∀ b ∈ M.flatMap putN, b < 256 := by
  intro b hb
  obtain ⟨x, hx, hb⟩ := List.mem_flatMap.1 hb
  exact putN_lt (h x hx).2 b hb
theorem mN_len (L : List Ins) (j : Nat) : (mN L j).length ≤ L.length := by
  unfold mN
  refine Nat.le_trans (List.length_filter_le ..) ?_
  simp; omega
theorem cut_ok {x : Ins} (h : x.Wf) : (cutN x).Ok := ⟨h.1.1, h.1.2, h.2.1.1, h.2.1.2, by simp [cutN]; omega⟩
theorem body_ok {l : List Ins} (h : ∀ x ∈ l, x.Wf) (n : Nat) : ∀ x ∈ bodyN l n, x.Ok := by
  intro x hx
  obtain ⟨y, hy, rfl⟩ := List.mem_map.1 hx
  exact cut_ok (h y (List.mem_of_mem_take hy))
def bN (M : List Ins) (j : Nat) : List Nat := (M.drop j).flatMap putN
theorem bN_next {M : List Ins} {j : Nat} {x : Ins} (h : M[j]? = some x) : bN M j = putN x ++ bN M (j + 1) := by
  unfold bN
  obtain ⟨hj, hx⟩ := List.getElem?_eq_some_iff.1 h
  rw [List.drop_eq_getElem_cons hj, hx]
  simp
set_option maxRecDepth 100000 in
theorem law_instrMany (l : List Ins) (hl : l.length ≤ maxLen) (hw : ∀ x ∈ l, x.Wf) : SCall Try.prog 6 [.ro 4 (l.map (iv .any)) .any] [] (fun x _ => x = .bool true) := by
  refine scall_of (n := 75) (ks := [0, 2, 3, 4, 5, 6, 7, 8, 9, 10, 13, 19, 26, 43, 68]) Try.func6 rfl rfl (Nat.le_of_ble_eq_true rfl) ?_
  (refine ctlT ?_)
  refine rgT ?_
  refine lo (lop_assign (E rfl)) rfl ?_
  refine leT ?_
  (refine ctlT ?_)
  refine rgT ?_
  refine puA Try.call16 law_begun5 rfl pargsT nofT ?_
  refine lo (lop_assign (E rfl)) rfl ?_
  refine leT ?_
  (refine ctlT ?_)
  refine rgT ?_
  refine lo (lop_move (E rfl)) rfl ?_
  refine lo (lop_not (E rfl)) rfl ?_
  refine leT ?_
  (refine ctlT ?_)
  refine rgT ?_
  refine lo (lop_move (E rfl)) rfl ?_
  refine cw [] Try.call28 (law_body l hl (fun x hx => (hw x hx).2.2.2.1) 30 (by decide)) rfl argsleT stleT ?_
  rintro _ σ' ⟨q4, rfl, rfl⟩ h15
  (apply rs_sto; (exact nflT))
  refine fzv (j := 15) rfl sdelT (bor_own sgT (by simp)) ?_
  refine lo (lop_assign (E rfl)) rfl ?_
  refine leT ?_
  (refine ctlT ?_)
  have hL := body_ok hw 30
  have hLl : (bodyN l 30).length ≤ 30 := by unfold bodyN; simp; omega
  generalize bodyN l 30 = L at hL hLl ⊢
  refine rgT ?_
  refine lo (lop_assign (E rfl)) rfl ?_
  refine leT ?_
  (refine ctlT ?_)
  refine rgT ?_
  refine lo (lop_assign (E rfl)) rfl ?_
  refine leT ?_
  (refine ctlT ?_)
  refine rgT ?_
  refine lo (lop_assign (E rfl)) rfl ?_
  refine leT ?_
  (refine ctlT ?_)
  refine sw_virt 4 5 1 (by decide) rfl (by decide) (freshT fun b0 hb0 => ?_); (repeat (rcases hb0 with ⟨_, hb0⟩))
  refine sw_virt 5 24 4 (by decide) rfl (by decide) (freshT fun m0 hm0 => ?_); (repeat (rcases hm0 with ⟨_, hm0⟩))
  refine lp (β := Nat × Nat × Nat) (fun b => ⟨[(0, .ro 4 (L.map (iv .any)) .any), (4, .own b.1 0 (pN L b.2.2).length), (5, .own b.2.1 0 (mN L b.2.2).length), (6, .int .i64 b.2.2)], [(b.1, .arr 5 1 ((pN L b.2.2).map encU)), (b.2.1, .arr 24 4 ((mN L b.2.2).map (iv .any)))]⟩) (fun b => Nq b.1 b.2.1 ∧ b.2.2 ≤ L.length) (fun b => L.length - b.2.2) (b0, m0, 0) sgoT ⟨by show Nq b0 m0; (exact nqT), Nat.zero_le _⟩ ?_
  rintro ⟨b, m, j⟩ ⟨hbm, hj⟩
  dsimp only at hbm hj ⊢
  have hM : ∀ x ∈ mN L j, x.Ok ∧ mayN x = true := fun x hx => ⟨hL x (mN_mem hx).1, (mN_mem hx).2⟩
  have hMl := mN_len L j
  have hpl : (pN L j).length ≤ 200 * (mN L j).length := flat_put_len hM
  (refine ctlT ?_)
  refine rgT ?_
  refine lo (lop_move (E rfl)) rfl ?_
  refine lo (lop_move (E rfl)) rfl ?_
  refine z14 ?_
  refine lo (lop_lss (E rfl) (E rfl)) rfl ?_
  refine leT ?_
  (refine ctlT ?_)
  refine sw_cond rfl (fun g8 => ?_) (fun g8 => ?_)
  · have hlt : j < L.length := by simp at g8; omega
    obtain ⟨x, hx⟩ : ∃ x, L[j]? = some x := ⟨_, List.getElem?_eq_getElem hlt⟩
    have hxo := hL x (List.mem_of_getElem? hx)
    (refine ctlT ?_)
    refine rgT ?_
    refine lo (lop_move (E rfl)) rfl ?_
    refine lo (lop_move (E rfl)) rfl ?_
    refine z15 ?_
    first | refine lo (lop_load_el_agg (E rfl) rfl (fun hc => by first | rfl | exact get_map (by assumption) | assumption | exact get_map (at_bang (by omega))) (fun _ => Nat.le_of_ble_eq_true rfl)) rfl ?_ | refine lo (lop_load_ow_agg (E rfl) rfl sgT (fun hc => by first | rfl | exact get_map (by assumption) | assumption | exact get_map (at_bang (by omega))) (fun _ => Nat.le_of_ble_eq_true rfl)) rfl ?_
    refine puA Try.call19 (ref_mayInstr .any x hxo) rfl pargsT nofT ?_
    refine leT ?_
    (refine ctlT ?_)
    refine sw_cond rfl (fun g10 => ?_) (fun g10 => ?_)
    · have hm1 := mN_yes hx g10
      have hp1 : pN L (j + 1) = pN L j ++ putN x := by unfold pN; rw [hm1]; simp
      (refine ctlT ?_)
      refine rgT ?_
      refine lo (lop_move (E rfl)) rfl ?_
      refine lo (lop_move (E rfl)) rfl ?_
      refine lo (lop_move (E rfl)) rfl ?_
      refine z15 ?_
      first | refine lo (lop_load_el_agg (E rfl) rfl (fun hc => by first | rfl | exact get_map (by assumption) | assumption | exact get_map (at_bang (by omega))) (fun _ => Nat.le_of_ble_eq_true rfl)) rfl ?_ | refine lo (lop_load_ow_agg (E rfl) rfl sgT (fun hc => by first | rfl | exact get_map (by assumption) | assumption | exact get_map (at_bang (by omega))) (fun _ => Nat.le_of_ble_eq_true rfl)) rfl ?_
      refine z1 ?_; refine freshT fun r32 h32 => ?_; (repeat (rcases h32 with ⟨_, h32⟩))
      refine apA ((mN L j ++ [x]).map (iv .any)) (mN L j ++ [x]).length ?_
      refine apnT fun r33 h33 => ?_; (repeat (rcases h33 with ⟨_, h33⟩))
      refine lo (lop_assign (E rfl)) rfl ?_
      refine leT ?_
      (refine ctlT ?_)
      refine rgT ?_
      refine lo (lop_move (E rfl)) rfl ?_
      refine lo (lop_move (E rfl)) rfl ?_
      refine lo (lop_move (E rfl)) rfl ?_
      refine z15 ?_
      first | refine lo (lop_load_el_agg (E rfl) rfl (fun hc => by first | rfl | exact get_map (by assumption) | assumption | exact get_map (at_bang (by omega))) (fun _ => Nat.le_of_ble_eq_true rfl)) rfl ?_ | refine lo (lop_load_ow_agg (E rfl) rfl sgT (fun hc => by first | rfl | exact get_map (by assumption) | assumption | exact get_map (at_bang (by omega))) (fun _ => Nat.le_of_ble_eq_true rfl)) rfl ?_
      refine cw [(b, .arr 5 1 ((pN L j).map encU))] Try.call23 (instr_put b (pN L j) (by omega) .any x hxo g10) rfl argsleT stleT ?_
      rintro _ σ' ⟨r39, rfl, rfl⟩ h39
      have k39 := rest1T h39; (repeat (rcases k39 with ⟨_, k39⟩))
      (apply rs_sto; (exact nflT))
      refine lo (lop_assign (E rfl)) rfl ?_
      refine leT ?_
      (refine ctlT ?_)
      refine rgT ?_
      refine lo (lop_move (E rfl)) rfl ?_
      refine z17 ?_
      refine lo (lop_assign (E rfl)) rfl ?_
      refine leT ?_
      (refine ctlT ?_)
      first | (refine ⟨(r39, r33, j + 1), ⟨by show Nq r39 r33; (exact nqT), hlt⟩, by show L.length - (j + 1) < L.length - j; omega, ?_⟩; dsimp only; rw [hm1, hp1]; (exact sgoT)) | (refine ⟨(b, m, j + 1), ⟨hbm, hlt⟩, by show L.length - (j + 1) < L.length - j; omega, ?_⟩; dsimp only; rw [hm1, hp1]; (exact sgoT))
    have hm1 := mN_no hx g10
    have hp1 : pN L (j + 1) = pN L j := by unfold pN; rw [hm1]
    (refine ctlT ?_)
    refine rgT ?_
    refine lo (lop_move (E rfl)) rfl ?_
    refine z17 ?_
    refine lo (lop_assign (E rfl)) rfl ?_
    refine leT ?_
    (refine ctlT ?_)
    first | (refine ⟨(r39, r33, j + 1), ⟨by show Nq r39 r33; (exact nqT), hlt⟩, by show L.length - (j + 1) < L.length - j; omega, ?_⟩; dsimp only; rw [hm1, hp1]; (exact sgoT)) | (refine ⟨(b, m, j + 1), ⟨hbm, hlt⟩, by show L.length - (j + 1) < L.length - j; omega, ?_⟩; dsimp only; rw [hm1, hp1]; (exact sgoT))
  unfold pN at hpl ⊢
  generalize mN L j = M at hM hMl hpl ⊢
  refine fzvs (j := 4) rfl sdelT (bor_own sgT (by simp)) ?_
  refine fzvs (j := 5) rfl sdelT (bor_own sgT (by simp)) ?_
  (refine ctlT ?_)
  refine rgT ?_
  refine lo (lop_assign (E rfl)) rfl ?_
  refine leT ?_
  (refine ctlT ?_)
  refine lp (β := Nat) (fun j => ⟨[(4, .ro 1 ((bN M j).map encU) .any), (5, .ro 4 (M.map (iv .any)) .any), (7, .int .i64 j)], []⟩) (fun j => j ≤ M.length) (fun j => M.length - j) 0 sgoT (Nat.zero_le _) ?_
  intro i hi
  (refine ctlT ?_)
  refine rgT ?_
  refine lo (lop_move (E rfl)) rfl ?_
  refine lo (lop_move (E rfl)) rfl ?_
  refine z14 ?_
  refine lo (lop_lss (E rfl) (E rfl)) rfl ?_
  refine leT ?_
  (refine ctlT ?_)
  refine sw_cond rfl (fun g14 => ?_) (fun g14 => ?_)
  · have hlt : i < M.length := by simp at g14; omega
    obtain ⟨x, hx⟩ : ∃ x, M[i]? = some x := ⟨_, List.getElem?_eq_getElem hlt⟩
    obtain ⟨hxo, hxm⟩ := hM x (List.mem_of_getElem? hx)
    have hbn := bN_next hx
    have hg : getP (bN M i) = (x, (putN x).length, 0) := by rw [hbn]; exact get_put hxo hxm _
    have hsub : ∀ y ∈ M.drop i, y.Ok ∧ mayN y = true := fun y hy => hM y (List.mem_of_mem_drop hy)
    have hbl : (bN M i).length ≤ 200 * (M.drop i).length := flat_put_len hsub
    have hdl : (M.drop i).length ≤ M.length := by simp
    have hle : (putN x).length ≤ (bN M i).length := by rw [hbn]; simp
    have hdrop : (bN M i).drop (putN x).length = bN M (i + 1) := by rw [hbn]; simp
    (refine ctlT ?_)
    refine rgT ?_
    refine lo (lop_move (E rfl)) rfl ?_
    refine cw [] Try.call25 (instr_get (bN M i) (by omega) (flat_put_lt hsub)) rfl argsleT stleT ?_
    rintro _ σ' ⟨q48, rfl, rfl⟩ h48
    rw [hg]
    dsimp only
    (apply rs_sto; (exact nflT))
    refine lo (lop_move (E rfl)) rfl ?_
    refine lo (lop_extract (E rfl) rfl) rfl ?_
    refine lo (lop_extract (E rfl) rfl) rfl ?_
    refine lo (lop_extract (E rfl) rfl) rfl ?_
    apply al; rfl; (exact zcT); refine freshT fun r8 h8 => ?_; (repeat (rcases h8 with ⟨_, h8⟩))
    apply stp; rfl; rfl; rfl; rfl; (exact sputT)
    refine lo (lop_assign (E rfl)) rfl ?_
    refine lo (lop_assign (E rfl)) rfl ?_
    refine leT ?_
    (refine ctlT ?_)
    refine rgD [(0, true), (1, true), (2, true), (3, true), (4, true), (5, true), (6, true), (7, true), (8, false), (9, true), (10, true), (11, true), (12, true), (13, true), (14, true), (15, true), (16, true)] ?_
    refine dlo rfl (lop_move (E rfl)) rfl ?_
    refine z58 ?_
    refine dlo rfl (lop_move (E rfl)) rfl ?_
    first | refine dln rfl rfl rfl rfl rfl ?_ | (first | refine dly rfl rfl rfl (lop_load_ptr_agg (E rfl) rfl sgT (fun _ => Nat.le_of_ble_eq_true rfl)) rfl ?_ | refine dly rfl rfl rfl (lop_load_el_agg (E rfl) rfl (fun hc => by first | rfl | exact get_map (by assumption) | assumption | exact get_map (at_bang (by omega))) (fun _ => Nat.le_of_ble_eq_true rfl)) rfl ?_) | refine dlg rfl rfl rfl (lop_load_ptr_agg (E rfl) rfl sgT (fun _ => Nat.le_of_ble_eq_true rfl)) rfl ?_ | refine dlg rfl rfl rfl (lop_load_el_agg (E rfl) rfl (fun hc => by first | rfl | exact get_map (by assumption) | assumption | exact get_map (at_bang (by (try simp at hc) <;> omega))) (fun _ => Nat.le_of_ble_eq_true rfl)) rfl ?_
    first | refine dln rfl rfl rfl rfl rfl ?_ | (refine dly rfl rfl rfl (lop_move (E rfl)) rfl ?_) | refine dlg rfl rfl rfl (lop_move (E rfl)) rfl ?_
    first | refine dln rfl rfl rfl rfl rfl ?_ | (refine dly rfl rfl rfl (lop_move (E rfl)) rfl ?_) | refine dlg rfl rfl rfl (lop_move (E rfl)) rfl ?_
    first | refine dln rfl rfl rfl rfl rfl ?_ | (first | refine dly rfl rfl rfl (lop_index_ro (by first | exact W rfl id | exact E rfl) (by first | exact W rfl id | exact E rfl) (fun hc => by (simp only [List.length_map]; omega))) rfl ?_ | refine dly rfl rfl rfl (lop_index_own0 (by first | exact W rfl id | exact E rfl) sgT (by first | exact W rfl id | exact E rfl) (fun hc => by omega)) rfl ?_ | refine dly rfl rfl rfl (lop_index_own (by first | exact W rfl id | exact E rfl) sgT (by first | exact W rfl id | exact E rfl) (fun hc => by omega)) rfl ?_) | refine dlg rfl rfl rfl (lop_index_ro (by first | exact W rfl id | exact E rfl) (by first | exact W rfl id | exact E rfl) (fun hc => by (try simp at hc) <;> (simp only [List.length_map]; omega))) rfl ?_ | refine dlg rfl rfl rfl (lop_index_own0 (by first | exact W rfl id | exact E rfl) sgT (by first | exact W rfl id | exact E rfl) (fun hc => by (try simp at hc) <;> omega)) rfl ?_ | refine dlg rfl rfl rfl (lop_index_own (by first | exact W rfl id | exact E rfl) sgT (by first | exact W rfl id | exact E rfl) (fun hc => by (try simp at hc) <;> omega)) rfl ?_
    first | refine dln rfl rfl rfl rfl rfl ?_ | (first | refine dly rfl rfl rfl (lop_load_el_agg (by first | exact W rfl id | exact E rfl) rfl (fun hc => by first | rfl | exact get_map (by assumption) | assumption | exact get_map (at_bang (by omega))) (fun _ => Nat.le_of_ble_eq_true rfl)) rfl ?_ | refine dly rfl rfl rfl (lop_load_ow_agg (by first | exact W rfl id | exact E rfl) rfl sgT (fun hc => by first | rfl | exact get_map (by assumption) | assumption | exact get_map (at_bang (by omega))) (fun _ => Nat.le_of_ble_eq_true rfl)) rfl ?_) | refine dlg rfl rfl rfl (lop_load_el_agg (by first | exact W rfl id | exact E rfl) rfl (fun hc => by first | rfl | exact get_map (by assumption) | assumption | exact get_map (at_bang (by (try simp at hc) <;> omega))) (fun _ => Nat.le_of_ble_eq_true rfl)) rfl ?_ | refine dlg rfl rfl rfl (lop_load_ow_agg (by first | exact W rfl id | exact E rfl) rfl sgT (fun hc => by first | rfl | exact get_map (by assumption) | assumption | exact get_map (at_bang (by (try simp at hc) <;> omega))) (fun _ => Nat.le_of_ble_eq_true rfl)) rfl ?_
    refine dpuyA rfl rfl rfl Try.call22 (ref_eqInstr .any .any x x) rfl pargsT nofT ?_
    rw [eqN_self]
    first | refine dln rfl rfl rfl rfl rfl ?_ | (refine dly rfl rfl rfl (lop_not (by first | exact W rfl id | exact E rfl)) rfl ?_) | refine dlg rfl rfl rfl (lop_not (by first | exact W rfl id | exact E rfl)) rfl ?_
    first | refine dlo rfl (lop_pick_t (E rfl) (E rfl)) rfl ?_ | refine dlo rfl (lop_pick_f (E rfl) (by first | exact W rfl (by simp) | exact E rfl)) rfl ?_ | refine dlo rfl (lop_pick (E rfl) (E rfl) (by first | exact W rfl (by simp) | exact E rfl)) rfl ?_
    refine dlo rfl (lop_move (E rfl)) rfl ?_
    first | refine dln rfl rfl rfl rfl rfl ?_ | (refine dly rfl rfl rfl (lop_move (E rfl)) rfl ?_) | refine dlg rfl rfl rfl (lop_move (E rfl)) rfl ?_
    first | refine dln rfl rfl rfl rfl rfl ?_ | (refine dly rfl rfl rfl (lop_move (E rfl)) rfl ?_) | refine dlg rfl rfl rfl (lop_move (E rfl)) rfl ?_
    first | refine dln rfl rfl rfl rfl rfl ?_ | (first | refine dly rfl rfl rfl (lop_len_map (by first | exact W rfl id | exact E rfl)) rfl ?_ | refine dly rfl rfl rfl (lop_len_ro (by first | exact W rfl id | exact E rfl)) rfl ?_ | refine dly rfl rfl rfl (lop_len_own (by first | exact W rfl id | exact E rfl)) rfl ?_) | refine dlg rfl rfl rfl (lop_len_map (by first | exact W rfl id | exact E rfl)) rfl ?_ | refine dlg rfl rfl rfl (lop_len_ro (by first | exact W rfl id | exact E rfl)) rfl ?_ | refine dlg rfl rfl rfl (lop_len_own (by first | exact W rfl id | exact E rfl)) rfl ?_
    first | refine dln rfl rfl rfl rfl rfl ?_ | (refine dly rfl rfl rfl (lop_gtr (by first | exact W rfl id | exact E rfl) (by first | exact W rfl id | exact E rfl)) rfl ?_) | refine dlg rfl rfl rfl (lop_gtr (by first | exact W rfl id | exact E rfl) (by first | exact W rfl id | exact E rfl)) rfl ?_
    first | refine dlo rfl (lop_pick_t (E rfl) (E rfl)) rfl ?_ | refine dlo rfl (lop_pick_f (E rfl) (by first | exact W rfl (by simp) | exact E rfl)) rfl ?_ | refine dlo rfl (lop_pick (E rfl) (E rfl) (by first | exact W rfl (by simp) | exact E rfl)) rfl ?_
    refine deT ?_
    (refine ctlT ?_)
    refine sw_cond rfl (fun g17 => ?_) (fun g17 => ?_)
    · (refine ctlT ?_)
      exfalso; simp at g17; omega
    (refine ctlT ?_)
    refine rgT ?_
    refine lo (lop_move (E rfl)) rfl ?_
    refine lo (lop_move (E rfl)) rfl ?_
    first | refine lo (lop_slice_ro (E rfl) (OB.some (E rfl) (fun _ => by first | rfl | exact (Int.toNat_of_nonneg (by omega)).symm)) OB.none (fun _ => by first | (simp only [List.length_map]; omega) | omega)) rfl ?_ | refine lo (lop_slice_own (E rfl) sgT (OB.some (E rfl) (fun _ => by first | rfl | exact (Int.toNat_of_nonneg (by omega)).symm)) OB.none (fun _ => by first | (simp only [List.length_map]; omega) | omega)) rfl ?_
    refine lo (lop_assign (E rfl)) rfl ?_
    refine leT ?_
    (refine ctlT ?_)
    refine rgT ?_
    refine lo (lop_move (E rfl)) rfl ?_
    refine z17 ?_
    refine lo (lop_assign (E rfl)) rfl ?_
    refine leT ?_
    (refine ctlT ?_)
    refine ⟨i + 1, hlt, by show M.length - (i + 1) < M.length - i; omega, ?_⟩
    rw [← hdrop]
    have ht : List.take ((bN M i).length - (putN x).length) (List.drop (putN x).length (List.map encU (bN M i))) = List.drop (putN x).length (List.map encU (bN M i)) := List.take_of_length_le (by simp)
    refine sgo_st ?_ ?_ <;> (repeat (first | exact FrLe.nil | (apply FrLe.cons; rfl; first | exact VLe.refl _ | exact VLe.of_eq (by simp [ht])) | exact StLe.nil))
  have hlt : i = M.length := by simp at g14; omega
  have he : bN M i = [] := by unfold bN; rw [hlt]; simp
  rw [he]
  (refine ctlT ?_)
  refine rgT ?_
  refine lo (lop_move (E rfl)) rfl ?_
  refine z14 ?_
  refine lo (lop_eql (E rfl) (E rfl)) rfl ?_
  refine lo (lop_assign (E rfl)) rfl ?_
  refine leT ?_
  (refine ctlT ?_)
  (apply aend; (exact resT))
  · rfl
  · (exact stleT)
end Go.Proofs.Ytkjfflabapeidaa
/-
  InstrAny.
-/
namespace Go.Proofs.Ytkjfflabapeidaa
open Go.RowKit Go.ChangeShapes Go.WideShapes Go.ChangeAt Go.Deep
set_option linter.unusedSimpArgs false
set_option linter.unusedVariables false
attribute [local irreducible] SW RS RD AThen ABlock

theorem xor_u8 (c y : Int) : ∃ v : Nat, IntKind.u8.wrap (BitVec.ofInt IntKind.u8.bits c ^^^ BitVec.ofInt IntKind.u8.bits y).toNat = (v : Int) ∧ v < 256 := by
  have h := (BitVec.ofInt IntKind.u8.bits c ^^^ BitVec.ofInt IntKind.u8.bits y).isLt
  have h2 : (2 : Nat) ^ IntKind.u8.bits = 256 := by decide
  rw [h2] at h
  exact ⟨_, wrap_u8_of (by omega) (by omega), h⟩
theorem set_lt {C : List Nat} {k v : Nat} (h : ∀ x ∈ C, x < 256) (hv : v < 256) : ∀ x ∈ C.set k v, x < 256 := by
  intro x hx
  rcases List.mem_or_eq_of_mem_set hx with hx | rfl
  · exact h x hx
  · exact hv
set_option maxRecDepth 100000 in
theorem law_instrAny (b : List Nat) (hb : b.length ≤ maxLen) (hbt : ∀ x ∈ b, x < 256) (x0 : Ins) (hx0 : x0.Wf) (at_ : Int) (y : Int) : SCall Try.prog 4 [.ro 1 (b.map encU) .any, .agg (iv .any x0), .int .i64 at_, .int .u8 y] [] (fun x _ => x = .bool true) := by
  refine scall_of (n := 56) (ks := [0, 1, 2, 3, 5, 8, 9, 10, 11, 14, 21, 28]) Try.func4 rfl rfl (Nat.le_of_ble_eq_true rfl) ?_
  have hxo := cut_ok hx0
  unfold iv
  (refine ctlT ?_)
  refine rgT ?_
  apply bx; rfl; rfl; (exact zcT); rfl; refine freshT fun r5 h5 => ?_; (repeat (rcases h5 with ⟨_, h5⟩))
  refine lo (lop_assign (E rfl)) rfl ?_
  refine leT ?_
  (refine ctlT ?_)
  refine rgT ?_
  refine puA Try.call16 law_begun5 rfl pargsT nofT ?_
  refine lo (lop_assign (E rfl)) rfl ?_
  refine leT ?_
  (refine ctlT ?_)
  refine rgT ?_
  refine lo (lop_move (E rfl)) rfl ?_
  refine lo (lop_not (E rfl)) rfl ?_
  refine leT ?_
  (refine ctlT ?_)
  refine rgD [(0, true), (2, true), (1, false), (3, false), (4, true), (5, false)] ?_
  refine dlo rfl (lop_move (E rfl)) rfl ?_
  refine z96 ?_
  refine dcw [] rfl Try.call18 (law_short b hb 30) rfl argsleT stleT hbtT ?_
  rintro _ σ' ⟨rfl, rfl⟩ h16
  (apply rd_sto; (exact nflT))
  refine dcw [] rfl Try.call17 (law_cut x0 hx0.2.2.2.1) rfl argsleT stleT hbtT ?_
  rintro _ σ' ⟨q, rfl, rfl⟩ h18
  replace h18 := cnewT h18; (repeat (rcases h18 with ⟨_, h18⟩))
  (apply rd_sto; (exact nflT))
  generalize cutN x0 = x at hxo ⊢
  refine dlo rfl (lop_assign (E rfl)) rfl ?_
  refine z95 ?_
  refine deT ?_
  (refine ctlT ?_)
  obtain ⟨u, hu⟩ : ∃ u, u = b.take 30 := ⟨_, rfl⟩
  have hul : u.length ≤ 30 := by rw [hu]; simp; omega
  have hut : ∀ x ∈ u, x < 256 := by rw [hu]; exact fun x hx => hbt x (List.mem_of_mem_take hx)
  rw [← hu]
  refine rgT ?_
  refine lo (lop_move (E rfl)) rfl ?_
  refine puA Try.call26 (law_tells u (by omega) hut) rfl pargsT nofT ?_
  refine lo (lop_not (E rfl)) rfl ?_
  refine leT ?_
  (refine ctlT ?_)
  refine rgT ?_
  refine z99 ?_
  refine puA Try.call19 (ref_mayInstr .any x hxo) rfl pargsT nofT ?_
  refine lo (lop_not (E rfl)) rfl ?_
  refine lo (lop_move (E rfl)) rfl ?_
  first | refine ln rfl rfl rfl rfl ?_ | (refine gy rfl rfl ?_; refine lo (lop_move (E rfl)) rfl ?_) | refine lg rfl rfl (lop_move (E rfl)) rfl ?_
  first | refine ln rfl rfl rfl rfl ?_ | (refine gy rfl rfl ?_; refine lo (lop_lss (by first | exact W rfl id | exact E rfl) (E rfl)) rfl ?_) | refine lg rfl rfl (lop_lss (by first | exact W rfl id | exact E rfl) (E rfl)) rfl ?_
  first | refine lo (lop_pick_t (E rfl) (E rfl)) rfl ?_ | refine lo (lop_pick_f (E rfl) (by first | exact W rfl (by simp) | exact E rfl)) rfl ?_ | refine lo (lop_pick (E rfl) (E rfl) (by first | exact W rfl (by simp) | exact E rfl)) rfl ?_
  refine leT ?_
  (refine ctlT ?_)
  refine sw_cond rfl (fun g7 => ?_) (fun g7 => ?_)
  · (refine ctlT ?_)
    refine rgT ?_
    refine lo (lop_assign (E rfl)) rfl ?_
    refine leT ?_
    (refine ctlT ?_)
    (apply aend; (exact resT))
    · rfl
    · (exact stleT)
  obtain ⟨hm, hat⟩ : mayN x = true ∧ 0 ≤ at_ := by replace g7 := bT g7; exact ⟨g7.1, by omega⟩
  obtain ⟨a, rfl⟩ := Int.eq_ofNat_of_zero_le hat
  have hpl := putN_len hxo hm
  have hpt := putN_lt hm
  have hpp : 1 ≤ (putN x).length := by simp [putN]
  (refine ctlT ?_)
  refine rgT ?_
  refine z99 ?_
  refine clA Try.call24 (ref_putInstr .any x hxo hm) rfl bargsT noT ?_
  rintro _ σ' ⟨r30, rfl, rfl⟩ h30
  replace h30 := lnewT h30; (repeat (rcases h30 with ⟨_, h30⟩))
  (apply rs_sto; (exact nflT))
  refine lo (lop_assign (E rfl)) rfl ?_
  refine leT ?_
  (refine ctlT ?_)
  generalize putN x = C at hpl hpt hpp ⊢
  refine rgT ?_
  refine lo (lop_move (E rfl)) rfl ?_
  refine lo (lop_move (E rfl)) rfl ?_
  refine z14 ?_
  refine z22 ?_
  refine lo (lop_assign (E rfl)) rfl ?_
  refine leT ?_
  (refine ctlT ?_)
  obtain ⟨k, hk, hkl⟩ : ∃ k : Nat, (a : Int).tmod (C.length : Nat) = (k : Int) ∧ k < C.length := ⟨a % C.length, by rw [Int.tmod_eq_emod_of_nonneg (by omega)]; simp, Nat.mod_lt _ (by omega)⟩
  rw [hk]
  obtain ⟨c, hc⟩ : ∃ c, C[k]? = some c := ⟨_, List.getElem?_eq_getElem hkl⟩
  refine rgT ?_
  refine lo (lop_move (E rfl)) rfl ?_
  refine lo (lop_move (E rfl)) rfl ?_
  refine z15 ?_
  refine z16 ?_
  refine lo (lop_move (E rfl)) rfl ?_
  refine lo (lop_xor (E rfl) (E rfl)) rfl ?_
  refine z15 ?_
  obtain ⟨v, hv, hvl⟩ := xor_u8 c y
  rw [hv]
  apply sto; rfl; rfl; rfl; rfl; (exact ssetT); (exact atT); (exact putT_); rfl
  refine leT ?_
  (refine ctlT ?_)
  rw [show (C.map encU).set (k : Int).toNat [.int .u8 (v : Int)] = (C.set k v).map encU by rw [Int.toNat_natCast, List.map_set]; rfl, show AV.own r30 0 C.length = .own r30 0 (C.set k v).length by simp]
  have hDt : ∀ x ∈ C.set k v, x < 256 := set_lt hpt hvl
  have hDl : (C.set k v).length ≤ 200 := by simpa using hpl
  have hkD : k < (C.set k v).length := by simpa using hkl
  generalize C.set k v = D at hDt hDl hkD ⊢
  refine rgT ?_
  refine lo (lop_move (E rfl)) rfl ?_
  refine puA Try.call26 (law_tells D (by omega) hDt) rfl pargsT nofT ?_
  refine lo (lop_move (E rfl)) rfl ?_
  first | refine ln rfl rfl rfl rfl ?_ | (refine gy rfl rfl ?_; refine lo (lop_move (E rfl)) rfl ?_) | refine lg rfl rfl (lop_move (E rfl)) rfl ?_
  first | refine ln rfl rfl rfl rfl ?_ | (refine gy rfl rfl ?_; refine lo (lop_move (E rfl)) rfl ?_) | refine lg rfl rfl (lop_move (E rfl)) rfl ?_
  first | refine ln rfl rfl rfl rfl ?_ | (refine gy rfl rfl ?_; (first | refine lo (lop_slice_ro (by first | exact W rfl id | exact E rfl) OB.none (OB.some (by first | exact W rfl id | exact E rfl) (fun _ => by first | rfl | exact (Int.toNat_of_nonneg (by omega)).symm)) (fun _ => by first | (simp only [List.length_map]; omega) | omega)) rfl ?_ | refine lo (lop_slice_own (by first | exact W rfl id | exact E rfl) sgT OB.none (OB.some (by first | exact W rfl id | exact E rfl) (fun _ => by first | rfl | exact (Int.toNat_of_nonneg (by omega)).symm)) (fun _ => by first | (simp only [List.length_map]; omega) | omega)) rfl ?_)) | refine lg rfl rfl (lop_slice_ro (by first | exact W rfl id | exact E rfl) OB.none (OB.some (by first | exact W rfl id | exact E rfl) (fun _ => by first | rfl | exact (Int.toNat_of_nonneg (by omega)).symm)) (fun _ => by first | (simp only [List.length_map]; omega) | omega)) rfl ?_ | refine lg rfl rfl (lop_slice_own (by first | exact W rfl id | exact E rfl) sgT OB.none (OB.some (by first | exact W rfl id | exact E rfl) (fun _ => by first | rfl | exact (Int.toNat_of_nonneg (by omega)).symm)) (fun _ => by first | (simp only [List.length_map]; omega) | omega)) rfl ?_
  refine gy rfl rfl ?_
  refine puA Try.call26 (law_tells (D.take k) (by simp; omega) (fun x hx => hDt x (List.mem_of_mem_take hx))) rfl pargsT nofT ?_
  refine z68 ?_
  refine lo (lop_move (E rfl)) rfl ?_
  first | refine ln rfl rfl rfl rfl ?_ | (refine gy rfl rfl ?_; refine lo (lop_move (E rfl)) rfl ?_) | refine lg rfl rfl (lop_move (E rfl)) rfl ?_
  first | refine ln rfl rfl rfl rfl ?_ | (refine gy rfl rfl ?_; refine lo (lop_move (E rfl)) rfl ?_) | refine lg rfl rfl (lop_move (E rfl)) rfl ?_
  refine gy rfl rfl ?_
  refine apA ((D ++ u).map encU) (D ++ u).length ?_
  refine apnT fun r53 h53 => ?_; (repeat (rcases h53 with ⟨_, h53⟩))
  refine gy rfl rfl ?_
  refine puA Try.call26 (law_tells (D ++ u) (by simp; omega) (fun x hx => by rcases List.mem_append.1 hx with h | h; exact hDt x h; exact hut x h)) rfl pargsT nofT ?_
  refine z68 ?_
  refine lo (lop_assign (E rfl)) rfl ?_
  refine leT ?_
  (refine ctlT ?_)
  (apply aend; (exact resT))
  · rfl
  · (exact stleT)
theorem law_instrAny2 (l : List Int) (x : Ins) (at_ y : Int) (hl : l.length ≤ maxLen ∧ ∀ a ∈ l, U8 a) (hx : x.Wf) : SCall Try.prog 4 [.ro 1 (l.map encU8) .any, .agg (iv .any x), .int .i64 at_, .int .u8 y] [] (fun x _ => x = .bool true) := by
  obtain ⟨v, -, h1, h2, h3⟩ := nats hl
  rw [h3]
  exact law_instrAny v h1 h2 x hx at_ y
end Go.Proofs.Ytkjfflabapeidaa
/-
  InstrAll.
-/
namespace Go.Proofs.Ytkjfflabapeidaa
open Go.RowKit Go.ChangeShapes Go.WideShapes Go.ChangeAt Go.Deep
set_option linter.unusedSimpArgs false
set_option linter.unusedVariables false
attribute [local irreducible] SW RS RD AThen ABlock

theorem lt_app {a b : List Nat} (h : ∀ x ∈ a, x < 256) (k : ∀ x ∈ b, x < 256) : ∀ x ∈ a ++ b, x < 256 := fun x hx => by
  rcases List.mem_append.1 hx with hx | hx
  · exact h x hx
  · exact k x hx
theorem bxor_self (b : Bool) : (!b == b) = false := by cases b <;> rfl
set_option maxRecDepth 100000 in
theorem law_instrAll (x0 y0 : Ins) (hx0 : x0.Wf) (hy0 : y0.Wf) (h0 r0 : List Nat) (hh : h0.length ≤ maxLen) (hht : ∀ x ∈ h0, x < 256) (hr : r0.length ≤ maxLen) (hrt : ∀ x ∈ r0, x < 256) : SCall Try.prog 3 [.agg (iv .any x0), .agg (iv .any y0), .ro 1 (h0.map encU) .any, .ro 1 (r0.map encU) .any] [] (fun x _ => x = .bool true) := by
  refine scall_of (n := 103) (ks := [0, 1, 2, 3, 4, 5, 8, 9, 10, 11, 12, 13, 14, 17, 40, 42, 55, 84]) Try.func3 rfl rfl (Nat.le_of_ble_eq_true rfl) ?_
  have hxo := cut_ok hx0
  have hyo := cut_ok hy0
  unfold iv
  (refine ctlT ?_)
  refine rgT ?_
  apply bx; rfl; rfl; (exact zcT); rfl; refine freshT fun r4 h4 => ?_; (repeat (rcases h4 with ⟨_, h4⟩))
  apply bx; rfl; rfl; (exact zcT); rfl; refine freshT fun r5 h5 => ?_; (repeat (rcases h5 with ⟨_, h5⟩))
  refine lo (lop_assign (E rfl)) rfl ?_
  refine leT ?_
  (refine ctlT ?_)
  refine rgT ?_
  refine puA Try.call16 law_begun5 rfl pargsT nofT ?_
  refine lo (lop_assign (E rfl)) rfl ?_
  refine leT ?_
  (refine ctlT ?_)
  refine rgT ?_
  refine lo (lop_move (E rfl)) rfl ?_
  refine lo (lop_not (E rfl)) rfl ?_
  refine leT ?_
  (refine ctlT ?_)
  refine rgD [(0, true), (2, true), (4, true), (6, true), (1, false), (3, false), (5, false), (7, false), (8, false), (9, false), (10, true), (11, true)] ?_
  refine z96 ?_
  refine z96 ?_
  refine dlo rfl (lop_move (E rfl)) rfl ?_
  refine dlo rfl (lop_move (E rfl)) rfl ?_
  refine dcw [] rfl Try.call17 (law_cut x0 hx0.2.2.2.1) rfl argsleT stleT hbtT ?_
  rintro _ σ' ⟨q, rfl, rfl⟩ h19
  replace h19 := cnewT h19; (repeat (rcases h19 with ⟨_, h19⟩))
  (apply rd_sto; (exact nflT))
  generalize cutN x0 = x at hxo ⊢
  refine dcw [] rfl Try.call17 (law_cut y0 hy0.2.2.2.1) rfl argsleT stleT hbtT ?_
  rintro _ σ' ⟨p, rfl, rfl⟩ h21
  replace h21 := cnewT h21; (repeat (rcases h21 with ⟨_, h21⟩))
  (apply rd_sto; (exact nflT))
  generalize cutN y0 = y at hyo ⊢
  refine dcw [] rfl Try.call18 (law_short h0 hh 8) rfl argsleT stleT hbtT ?_
  rintro _ σ' ⟨rfl, rfl⟩ h23
  (apply rd_sto; (exact nflT))
  refine dcw [] rfl Try.call18 (law_short r0 hr 8) rfl argsleT stleT hbtT ?_
  rintro _ σ' ⟨rfl, rfl⟩ h25
  (apply rd_sto; (exact nflT))
  refine z95 ?_
  refine z95 ?_
  refine dlo rfl (lop_assign (E rfl)) rfl ?_
  refine dlo rfl (lop_assign (E rfl)) rfl ?_
  refine deT ?_
  (refine ctlT ?_)
  obtain ⟨u, hu⟩ : ∃ u, u = h0.take 8 := ⟨_, rfl⟩
  obtain ⟨v, hv⟩ : ∃ u, u = r0.take 8 := ⟨_, rfl⟩
  have hul : u.length ≤ 8 := by rw [hu]; simp; omega
  have hut : ∀ x ∈ u, x < 256 := by rw [hu]; exact fun x hx => hht x (List.mem_of_mem_take hx)
  have hvl : v.length ≤ 8 := by rw [hv]; simp; omega
  have hvt : ∀ x ∈ v, x < 256 := by rw [hv]; exact fun x hx => hrt x (List.mem_of_mem_take hx)
  rw [← hu, ← hv]
  refine sw_go (sgo_fzb (r := r4) (q := q) ssetT sdelT (.cons (.refl _) (.cons (.refl _) (.cons (.refl _) (.cons (bor_own sgT (by simp)) .nil))))) ?_
  refine rgT ?_
  refine z99 ?_
  refine puA Try.call19 (ref_mayInstr .any x hxo) rfl pargsT nofT ?_
  refine lo (lop_assign (E rfl)) rfl ?_
  refine leT ?_
  (refine ctlT ?_)
  refine rgD [(0, true), (2, true), (1, false), (3, true), (4, true), (5, true), (6, true), (8, true), (9, true), (7, false), (10, false), (11, true), (12, true)] ?_
  refine z96 ?_
  refine dlo rfl (lop_move (E rfl)) rfl ?_
  refine dpuA rfl Try.call20 (instr_may .any x) rfl pargsT nofT ?_
  refine dlo rfl (lop_bneq (E rfl) (E rfl)) rfl ?_
  rw [bxor_self]
  refine dlo rfl (lop_move (E rfl)) rfl ?_
  first | refine dln rfl rfl rfl rfl rfl ?_ | (first | refine dly rfl rfl rfl (lop_load_ptr_agg (E rfl) rfl sgT (fun _ => Nat.le_of_ble_eq_true rfl)) rfl ?_ | refine dly rfl rfl rfl (lop_load_el_agg (E rfl) rfl (fun hc => by first | rfl | exact get_map (by assumption) | assumption | exact get_map (at_bang (by omega))) (fun _ => Nat.le_of_ble_eq_true rfl)) rfl ?_) | refine dlg rfl rfl rfl (lop_load_ptr_agg (E rfl) rfl sgT (fun _ => Nat.le_of_ble_eq_true rfl)) rfl ?_ | refine dlg rfl rfl rfl (lop_load_el_agg (E rfl) rfl (fun hc => by first | rfl | exact get_map (by assumption) | assumption | exact get_map (at_bang (by (try simp at hc) <;> omega))) (fun _ => Nat.le_of_ble_eq_true rfl)) rfl ?_
  first | refine dln rfl rfl rfl rfl rfl ?_ | (first | refine dly rfl rfl rfl (lop_load_ptr_agg (E rfl) rfl sgT (fun _ => Nat.le_of_ble_eq_true rfl)) rfl ?_ | refine dly rfl rfl rfl (lop_load_el_agg (E rfl) rfl (fun hc => by first | rfl | exact get_map (by assumption) | assumption | exact get_map (at_bang (by omega))) (fun _ => Nat.le_of_ble_eq_true rfl)) rfl ?_) | refine dlg rfl rfl rfl (lop_load_ptr_agg (E rfl) rfl sgT (fun _ => Nat.le_of_ble_eq_true rfl)) rfl ?_ | refine dlg rfl rfl rfl (lop_load_el_agg (E rfl) rfl (fun hc => by first | rfl | exact get_map (by assumption) | assumption | exact get_map (at_bang (by (try simp at hc) <;> omega))) (fun _ => Nat.le_of_ble_eq_true rfl)) rfl ?_
  first | refine dln rfl rfl rfl rfl rfl ?_ | (first | refine dly rfl rfl rfl (lop_load_ptr_agg (E rfl) rfl sgT (fun _ => Nat.le_of_ble_eq_true rfl)) rfl ?_ | refine dly rfl rfl rfl (lop_load_el_agg (E rfl) rfl (fun hc => by first | rfl | exact get_map (by assumption) | assumption | exact get_map (at_bang (by omega))) (fun _ => Nat.le_of_ble_eq_true rfl)) rfl ?_) | refine dlg rfl rfl rfl (lop_load_ptr_agg (E rfl) rfl sgT (fun _ => Nat.le_of_ble_eq_true rfl)) rfl ?_ | refine dlg rfl rfl rfl (lop_load_el_agg (E rfl) rfl (fun hc => by first | rfl | exact get_map (by assumption) | assumption | exact get_map (at_bang (by (try simp at hc) <;> omega))) (fun _ => Nat.le_of_ble_eq_true rfl)) rfl ?_
  first | refine dln rfl rfl rfl rfl rfl ?_ | (first | refine dly rfl rfl rfl (lop_load_ptr_agg (E rfl) rfl sgT (fun _ => Nat.le_of_ble_eq_true rfl)) rfl ?_ | refine dly rfl rfl rfl (lop_load_el_agg (E rfl) rfl (fun hc => by first | rfl | exact get_map (by assumption) | assumption | exact get_map (at_bang (by omega))) (fun _ => Nat.le_of_ble_eq_true rfl)) rfl ?_) | refine dlg rfl rfl rfl (lop_load_ptr_agg (E rfl) rfl sgT (fun _ => Nat.le_of_ble_eq_true rfl)) rfl ?_ | refine dlg rfl rfl rfl (lop_load_el_agg (E rfl) rfl (fun hc => by first | rfl | exact get_map (by assumption) | assumption | exact get_map (at_bang (by (try simp at hc) <;> omega))) (fun _ => Nat.le_of_ble_eq_true rfl)) rfl ?_
  refine dpuyA rfl rfl rfl Try.call21 (instr_eq .any .any x y) rfl pargsT nofT ?_
  refine dpuyA rfl rfl rfl Try.call22 (ref_eqInstr .any .any x y) rfl pargsT nofT ?_
  first | refine dln rfl rfl rfl rfl rfl ?_ | (refine dly rfl rfl rfl (lop_bneq (by first | exact W rfl id | exact E rfl) (by first | exact W rfl id | exact E rfl)) rfl ?_) | refine dlg rfl rfl rfl (lop_bneq (by first | exact W rfl id | exact E rfl) (by first | exact W rfl id | exact E rfl)) rfl ?_
  first | refine dlo rfl (lop_pick_t (E rfl) (E rfl)) rfl ?_ | refine dlo rfl (lop_pick_f (E rfl) (by first | exact W rfl (by simp) | exact E rfl)) rfl ?_ | refine dlo rfl (lop_pick (E rfl) (E rfl) (by first | exact W rfl (by simp) | exact E rfl)) rfl ?_
  refine deT ?_
  (refine ctlT ?_)
  rw [bxor_self]
  (refine ctlT ?_)
  refine rgT ?_
  refine lo (lop_move (E rfl)) rfl ?_
  refine lo (lop_not (E rfl)) rfl ?_
  refine leT ?_
  (refine ctlT ?_)
  refine sw_cond rfl (fun g8 => ?_) (fun g8 => ?_)
  · (refine ctlT ?_)
    refine rgT ?_
    refine lo (lop_assign (E rfl)) rfl ?_
    refine leT ?_
    (refine ctlT ?_)
    (apply aend; (exact resT))
    · rfl
    · (exact stleT)
  have hm : mayN x = true := by simpa using g8
  have hpl := putN_len hxo hm
  have hpt := putN_lt hm
  have hget := get_put hxo hm v
  have hinj := fun hmy h => putN_inj hyo hxo hmy hm h
  (refine ctlT ?_)
  refine rgD [(0, true), (2, true), (1, false), (3, false), (4, true)] ?_
  refine dlo rfl (lop_move (E rfl)) rfl ?_
  refine z96 ?_
  refine danA rfl ((u).map encU) (u).length ?_
  refine freshT fun r44 h44 => ?_; (repeat (rcases h44 with ⟨_, h44⟩))
  refine dcw [(r44, .arr 5 1 (u.map encU))] rfl Try.call23 (instr_put r44 u (by omega) .any x hxo hm) rfl argsleT stleT hbtT ?_
  rintro _ σ' ⟨r46, rfl, rfl⟩ h46
  have k46 := rest1T h46; (repeat (rcases k46 with ⟨_, k46⟩))
  (apply rd_sto; (exact nflT))
  refine dlo rfl (lop_assign (E rfl)) rfl ?_
  refine deT ?_
  (refine ctlT ?_)
  refine rgD [(0, true), (1, true), (2, true), (3, true), (4, true), (5, false), (6, true), (7, true), (8, true)] ?_
  refine dlo rfl (lop_move (E rfl)) rfl ?_
  first | refine dlo rfl (lop_bytes_ro (E rfl)) rfl ?_ | refine dlo rfl (lop_text_own (E rfl)) rfl ?_
  refine dlo rfl (lop_move (E rfl)) rfl ?_
  first | refine dlo rfl (lop_bytes_ro (E rfl)) rfl ?_ | refine dlo rfl (lop_text_own (E rfl)) rfl ?_
  refine z96 ?_
  refine dclA rfl Try.call24 (ref_putInstr .any x hxo hm) rfl bargsT noT ?_
  rintro _ σ' ⟨r52, rfl, rfl⟩ h52
  replace h52 := lnewT h52; (repeat (rcases h52 with ⟨_, h52⟩))
  (apply rd_sto; (exact nflT))
  generalize hP : putN x = P at hpl hpt hget hinj ⊢
  first | refine dlo rfl (lop_bytes_ro (E rfl)) rfl ?_ | refine dlo rfl (lop_text_own (E rfl)) rfl ?_
  first | refine dlo rfl (lop_tadd (E rfl) (E rfl)) rfl ?_ | refine dlo rfl (lop_sadd (E rfl) (E rfl) (fun _ => by omega)) rfl ?_
  refine dlo rfl (lop_sneq (E rfl) (E rfl)) rfl ?_
  refine deT ?_
  (refine ctlT ?_)
  have hutP := lt_app hut hpt
  rw [strU_inj hutP hutP, decide_eq_true rfl]
  (refine ctlT ?_)
  refine rgT ?_
  refine lo (lop_move (E rfl)) rfl ?_
  refine lo (lop_move (E rfl)) rfl ?_
  refine z14 ?_
  have hlen : (u ++ P).length = u.length + P.length := List.length_append
  first | refine lo (lop_slice_ro (E rfl) (OB.some (E rfl) (fun _ => by first | rfl | exact (Int.toNat_of_nonneg (by omega)).symm)) OB.none (fun _ => by first | (simp only [List.length_map]; omega) | omega)) rfl ?_ | refine lo (lop_slice_own (E rfl) sgT (OB.some (E rfl) (fun _ => by first | rfl | exact (Int.toNat_of_nonneg (by omega)).symm)) OB.none (fun _ => by first | (simp only [List.length_map]; omega) | omega)) rfl ?_
  refine anA (P.map encU) P.length ?_ (he := by rw [List.map_append, List.drop_append_of_le_length (by simp), List.drop_of_length_le (by simp), List.nil_append]; exact List.take_of_length_le (by simp)) (hl := by simp)
  refine freshT fun r61 h61 => ?_; (repeat (rcases h61 with ⟨_, h61⟩))
  refine lo (lop_move (E rfl)) rfl ?_
  refine apA ((P ++ v).map encU) (P ++ v).length ?_
  refine apnT fun r63 h63 => ?_; (repeat (rcases h63 with ⟨_, h63⟩))
  refine clA Try.call25 (instr_get (P ++ v) (by simp; omega) (lt_app hpt hvt)) rfl bargsT noT ?_
  rintro _ σ' ⟨q64, rfl, rfl⟩ h64
  replace h64 := lnewT h64; (repeat (rcases h64 with ⟨_, h64⟩))
  rw [hget]
  dsimp only
  (apply rs_sto; (exact nflT))
  refine lo (lop_move (E rfl)) rfl ?_
  refine lo (lop_extract (E rfl) rfl) rfl ?_
  refine lo (lop_extract (E rfl) rfl) rfl ?_
  refine lo (lop_extract (E rfl) rfl) rfl ?_
  apply al; rfl; (exact zcT); refine freshT fun r12 h12 => ?_; (repeat (rcases h12 with ⟨_, h12⟩))
  apply stp; rfl; rfl; rfl; rfl; (exact sputT)
  refine lo (lop_assign (E rfl)) rfl ?_
  refine lo (lop_assign (E rfl)) rfl ?_
  refine leT ?_
  (refine ctlT ?_)
  refine rgT ?_
  refine lo (lop_move (E rfl)) rfl ?_
  refine lo (lop_neq (E rfl) (E rfl)) rfl ?_
  refine lo (lop_move (E rfl)) rfl ?_
  first | refine ln rfl rfl rfl rfl ?_ | (refine gy rfl rfl ?_; refine lo (lop_move (E rfl)) rfl ?_) | refine lg rfl rfl (lop_move (E rfl)) rfl ?_
  first | refine ln rfl rfl rfl rfl ?_ | (refine gy rfl rfl ?_; refine lo (lop_move (E rfl)) rfl ?_) | refine lg rfl rfl (lop_move (E rfl)) rfl ?_
  first | refine ln rfl rfl rfl rfl ?_ | (refine gy rfl rfl ?_; (first | refine lo (lop_len_map (by first | exact W rfl id | exact E rfl)) rfl ?_ | refine lo (lop_len_ro (by first | exact W rfl id | exact E rfl)) rfl ?_ | refine lo (lop_len_own (by first | exact W rfl id | exact E rfl)) rfl ?_)) | refine lg rfl rfl (lop_len_map (by first | exact W rfl id | exact E rfl)) rfl ?_ | refine lg rfl rfl (lop_len_ro (by first | exact W rfl id | exact E rfl)) rfl ?_ | refine lg rfl rfl (lop_len_own (by first | exact W rfl id | exact E rfl)) rfl ?_
  first | refine ln rfl rfl rfl rfl ?_ | (refine gy rfl rfl ?_; refine lo (lop_move (E rfl)) rfl ?_) | refine lg rfl rfl (lop_move (E rfl)) rfl ?_
  first | refine ln rfl rfl rfl rfl ?_ | (refine gy rfl rfl ?_; (first | refine lo (lop_len_map (by first | exact W rfl id | exact E rfl)) rfl ?_ | refine lo (lop_len_ro (by first | exact W rfl id | exact E rfl)) rfl ?_ | refine lo (lop_len_own (by first | exact W rfl id | exact E rfl)) rfl ?_)) | refine lg rfl rfl (lop_len_map (by first | exact W rfl id | exact E rfl)) rfl ?_ | refine lg rfl rfl (lop_len_ro (by first | exact W rfl id | exact E rfl)) rfl ?_ | refine lg rfl rfl (lop_len_own (by first | exact W rfl id | exact E rfl)) rfl ?_
  first | refine ln rfl rfl rfl rfl ?_ | (refine gy rfl rfl ?_; (first | refine lo (lop_sub64 (by first | exact W rfl id | exact E rfl) (by first | exact W rfl id | exact E rfl) (by omega) (by omega)) rfl ?_ | refine lo (lop_sub (by first | exact W rfl id | exact E rfl) (by first | exact W rfl id | exact E rfl)) rfl ?_)) | refine lg rfl rfl (lop_sub64 (by first | exact W rfl id | exact E rfl) (by first | exact W rfl id | exact E rfl) (by omega) (by omega)) rfl ?_ | refine lg rfl rfl (lop_sub64c (by first | exact W rfl id | exact E rfl) (by first | exact W rfl id | exact E rfl) (fun hc => by simp at hc <;> first | omega | (have hov := hov hc; omega))) rfl ?_ | refine lg rfl rfl (lop_sub (by first | exact W rfl id | exact E rfl) (by first | exact W rfl id | exact E rfl)) rfl ?_
  first | refine ln rfl rfl rfl rfl ?_ | (refine gy rfl rfl ?_; refine lo (lop_neq (by first | exact W rfl id | exact E rfl) (by first | exact W rfl id | exact E rfl)) rfl ?_) | refine lg rfl rfl (lop_neq (by first | exact W rfl id | exact E rfl) (by first | exact W rfl id | exact E rfl)) rfl ?_
  rw [show (((P.length : Nat) : Int) != ((u ++ P).length : Nat) - (u.length : Nat)) = false by rw [hlen]; simp; omega]
  first | refine lo (lop_pick_t (E rfl) (E rfl)) rfl ?_ | refine lo (lop_pick_f (E rfl) (by first | exact W rfl (by simp) | exact E rfl)) rfl ?_ | refine lo (lop_pick (E rfl) (E rfl) (by first | exact W rfl (by simp) | exact E rfl)) rfl ?_
  refine lo (lop_move (E rfl)) rfl ?_
  first | refine ln rfl rfl rfl rfl ?_ | (refine gy rfl rfl ?_; (first | refine lo (lop_load_ptr_agg (E rfl) rfl sgT (fun _ => Nat.le_of_ble_eq_true rfl)) rfl ?_ | refine lo (lop_load_el_agg (E rfl) rfl (fun hc => by first | rfl | exact get_map (by assumption) | assumption | exact get_map (at_bang (by omega))) (fun _ => Nat.le_of_ble_eq_true rfl)) rfl ?_)) | refine lg rfl rfl (lop_load_ptr_agg (E rfl) rfl sgT (fun _ => Nat.le_of_ble_eq_true rfl)) rfl ?_ | refine lg rfl rfl (lop_load_el_agg (E rfl) rfl (fun hc => by first | rfl | exact get_map (by assumption) | assumption | exact get_map (at_bang (by (try simp at hc) <;> omega))) (fun _ => Nat.le_of_ble_eq_true rfl)) rfl ?_
  first | refine ln rfl rfl rfl rfl ?_ | (refine gy rfl rfl ?_; (first | refine lo (lop_load_ptr_agg (E rfl) rfl sgT (fun _ => Nat.le_of_ble_eq_true rfl)) rfl ?_ | refine lo (lop_load_el_agg (E rfl) rfl (fun hc => by first | rfl | exact get_map (by assumption) | assumption | exact get_map (at_bang (by omega))) (fun _ => Nat.le_of_ble_eq_true rfl)) rfl ?_)) | refine lg rfl rfl (lop_load_ptr_agg (E rfl) rfl sgT (fun _ => Nat.le_of_ble_eq_true rfl)) rfl ?_ | refine lg rfl rfl (lop_load_el_agg (E rfl) rfl (fun hc => by first | rfl | exact get_map (by assumption) | assumption | exact get_map (at_bang (by (try simp at hc) <;> omega))) (fun _ => Nat.le_of_ble_eq_true rfl)) rfl ?_
  refine gy rfl rfl ?_
  refine puA Try.call22 (ref_eqInstr .any .any x x) rfl pargsT nofT ?_
  rw [eqN_self]
  first | refine ln rfl rfl rfl rfl ?_ | (refine gy rfl rfl ?_; refine lo (lop_not (by first | exact W rfl id | exact E rfl)) rfl ?_) | refine lg rfl rfl (lop_not (by first | exact W rfl id | exact E rfl)) rfl ?_
  first | refine lo (lop_pick_t (E rfl) (E rfl)) rfl ?_ | refine lo (lop_pick_f (E rfl) (by first | exact W rfl (by simp) | exact E rfl)) rfl ?_ | refine lo (lop_pick (E rfl) (E rfl) (by first | exact W rfl (by simp) | exact E rfl)) rfl ?_
  refine leT ?_
  (refine ctlT ?_)
  by_cases hmy : mayN y = true
  · refine rgD [(0, true), (1, false), (2, true), (3, true), (4, true), (7, true), (8, true), (9, true), (10, true), (11, true), (13, true), (14, true), (5, false), (6, true), (12, true), (15, false), (16, true), (17, true), (18, true)] ?_
    refine z96 ?_
    refine dpuA rfl Try.call19 (ref_mayInstr .any y hyo) rfl pargsT nofT ?_
    rw [hmy]
    refine dlo rfl (lop_not (E rfl)) rfl ?_
    refine dlo rfl (lop_move (E rfl)) rfl ?_
    first | refine dln rfl rfl rfl rfl rfl ?_ | (first | refine dly rfl rfl rfl (lop_load_ptr_agg (E rfl) rfl sgT (fun _ => Nat.le_of_ble_eq_true rfl)) rfl ?_ | refine dly rfl rfl rfl (lop_load_el_agg (E rfl) rfl (fun hc => by first | rfl | exact get_map (by assumption) | assumption | exact get_map (at_bang (by omega))) (fun _ => Nat.le_of_ble_eq_true rfl)) rfl ?_) | refine dlg rfl rfl rfl (lop_load_ptr_agg (E rfl) rfl sgT (fun _ => Nat.le_of_ble_eq_true rfl)) rfl ?_ | refine dlg rfl rfl rfl (lop_load_el_agg (E rfl) rfl (fun hc => by first | rfl | exact get_map (by assumption) | assumption | exact get_map (at_bang (by (try simp at hc) <;> omega))) (fun _ => Nat.le_of_ble_eq_true rfl)) rfl ?_
    first | refine dln rfl rfl rfl rfl rfl ?_ | (refine dly rfl rfl rfl (lop_move (E rfl)) rfl ?_) | refine dlg rfl rfl rfl (lop_move (E rfl)) rfl ?_
    first | refine dln rfl rfl rfl rfl rfl ?_ | (refine dly rfl rfl rfl (lop_move (E rfl)) rfl ?_) | refine dlg rfl rfl rfl (lop_move (E rfl)) rfl ?_
    first | refine dln rfl rfl rfl rfl rfl ?_ | (first | refine dly rfl rfl rfl (lop_len_map (by first | exact W rfl id | exact E rfl)) rfl ?_ | refine dly rfl rfl rfl (lop_len_ro (by first | exact W rfl id | exact E rfl)) rfl ?_ | refine dly rfl rfl rfl (lop_len_own (by first | exact W rfl id | exact E rfl)) rfl ?_) | refine dlg rfl rfl rfl (lop_len_map (by first | exact W rfl id | exact E rfl)) rfl ?_ | refine dlg rfl rfl rfl (lop_len_ro (by first | exact W rfl id | exact E rfl)) rfl ?_ | refine dlg rfl rfl rfl (lop_len_own (by first | exact W rfl id | exact E rfl)) rfl ?_
    first | refine dln rfl rfl rfl rfl rfl ?_ | (first | refine dly rfl rfl rfl (lop_slice_ro (by first | exact W rfl id | exact E rfl) (OB.some (by first | exact W rfl id | exact E rfl) (fun _ => by first | rfl | exact (Int.toNat_of_nonneg (by omega)).symm)) OB.none (fun _ => by first | (simp only [List.length_map]; omega) | omega)) rfl ?_ | refine dly rfl rfl rfl (lop_slice_own (by first | exact W rfl id | exact E rfl) sgT (OB.some (by first | exact W rfl id | exact E rfl) (fun _ => by first | rfl | exact (Int.toNat_of_nonneg (by omega)).symm)) OB.none (fun _ => by first | (simp only [List.length_map]; omega) | omega)) rfl ?_) | refine dlg rfl rfl rfl (lop_slice_ro (by first | exact W rfl id | exact E rfl) (OB.some (by first | exact W rfl id | exact E rfl) (fun _ => by first | rfl | exact (Int.toNat_of_nonneg (by omega)).symm)) OB.none (fun _ => by first | (simp only [List.length_map]; omega) | omega)) rfl ?_ | refine dlg rfl rfl rfl (lop_slice_own (by first | exact W rfl id | exact E rfl) sgT (OB.some (by first | exact W rfl id | exact E rfl) (fun _ => by first | rfl | exact (Int.toNat_of_nonneg (by omega)).symm)) OB.none (fun _ => by first | (simp only [List.length_map]; omega) | omega)) rfl ?_
    first | refine dln rfl rfl rfl rfl rfl ?_ | (first | refine dly rfl rfl rfl (lop_bytes_ro (by first | exact W rfl id | exact E rfl)) rfl ?_ | refine dly rfl rfl rfl (lop_text_own (by first | exact W rfl id | exact E rfl)) rfl ?_) | refine dlg rfl rfl rfl (lop_bytes_ro (by first | exact W rfl id | exact E rfl)) rfl ?_ | refine dlg rfl rfl rfl (lop_text_own (by first | exact W rfl id | exact E rfl)) rfl ?_
    first | refine dln rfl rfl rfl rfl rfl ?_ | (first | refine dly rfl rfl rfl (lop_load_ptr_agg (E rfl) rfl sgT (fun _ => Nat.le_of_ble_eq_true rfl)) rfl ?_ | refine dly rfl rfl rfl (lop_load_el_agg (E rfl) rfl (fun hc => by first | rfl | exact get_map (by assumption) | assumption | exact get_map (at_bang (by omega))) (fun _ => Nat.le_of_ble_eq_true rfl)) rfl ?_) | refine dlg rfl rfl rfl (lop_load_ptr_agg (E rfl) rfl sgT (fun _ => Nat.le_of_ble_eq_true rfl)) rfl ?_ | refine dlg rfl rfl rfl (lop_load_el_agg (E rfl) rfl (fun hc => by first | rfl | exact get_map (by assumption) | assumption | exact get_map (at_bang (by (try simp at hc) <;> omega))) (fun _ => Nat.le_of_ble_eq_true rfl)) rfl ?_
    first | refine dln rfl rfl rfl rfl rfl ?_ | (first | refine dly rfl rfl rfl (lop_load_ptr_agg (E rfl) rfl sgT (fun _ => Nat.le_of_ble_eq_true rfl)) rfl ?_ | refine dly rfl rfl rfl (lop_load_el_agg (E rfl) rfl (fun hc => by first | rfl | exact get_map (by assumption) | assumption | exact get_map (at_bang (by omega))) (fun _ => Nat.le_of_ble_eq_true rfl)) rfl ?_) | refine dlg rfl rfl rfl (lop_load_ptr_agg (E rfl) rfl sgT (fun _ => Nat.le_of_ble_eq_true rfl)) rfl ?_ | refine dlg rfl rfl rfl (lop_load_el_agg (E rfl) rfl (fun hc => by first | rfl | exact get_map (by assumption) | assumption | exact get_map (at_bang (by (try simp at hc) <;> omega))) (fun _ => Nat.le_of_ble_eq_true rfl)) rfl ?_
    refine dclyA rfl rfl rfl Try.call23 (nil_put .any y hyo hmy) rfl bargsT noT ?_
    rintro _ σ' ⟨r90, rfl, rfl⟩ h90
    replace h90 := lnewT h90; (repeat (rcases h90 with ⟨_, h90⟩))
    (apply rd_sto; (exact nflT))
    first | refine dln rfl rfl rfl rfl rfl ?_ | (first | refine dly rfl rfl rfl (lop_bytes_ro (by first | exact W rfl id | exact E rfl)) rfl ?_ | refine dly rfl rfl rfl (lop_text_own (by first | exact W rfl id | exact E rfl)) rfl ?_) | refine dlg rfl rfl rfl (lop_bytes_ro (by first | exact W rfl id | exact E rfl)) rfl ?_ | refine dlg rfl rfl rfl (lop_text_own (by first | exact W rfl id | exact E rfl)) rfl ?_
    first | refine dln rfl rfl rfl rfl rfl ?_ | (refine dly rfl rfl rfl (lop_seql (by first | exact W rfl id | exact E rfl) (by first | exact W rfl id | exact E rfl)) rfl ?_) | refine dlg rfl rfl rfl (lop_seql (by first | exact W rfl id | exact E rfl) (by first | exact W rfl id | exact E rfl)) rfl ?_
    refine dpuyA rfl rfl rfl Try.call22 (ref_eqInstr .any .any x y) rfl pargsT nofT ?_
    first | refine dln rfl rfl rfl rfl rfl ?_ | (refine dly rfl rfl rfl (lop_beql (by first | exact W rfl id | exact E rfl) (by first | exact W rfl id | exact E rfl)) rfl ?_) | refine dlg rfl rfl rfl (lop_beql (by first | exact W rfl id | exact E rfl) (by first | exact W rfl id | exact E rfl)) rfl ?_
    first | refine dlo rfl (lop_pick_t (E rfl) (E rfl)) rfl ?_ | refine dlo rfl (lop_pick_f (E rfl) (by first | exact W rfl (by simp) | exact E rfl)) rfl ?_ | refine dlo rfl (lop_pick (E rfl) (E rfl) (by first | exact W rfl (by simp) | exact E rfl)) rfl ?_
    refine dlo rfl (lop_assign (E rfl)) rfl ?_
    refine deT ?_
    (refine ctlT ?_)
    (apply aend; (exact resT))
    · show AV.bool _ = AV.bool true
      congr 1
      rw [Nat.zero_add, List.drop_append_of_le_length (Nat.le_refl _), List.drop_length, List.nil_append, strU_inj (putN_lt hmy) hpt]
      by_cases h : x = y
      · subst h
        rw [hP, eqN_self]; simp
      · rw [decide_eq_false (fun e => h (hinj hmy e).symm), show eqN x y = false by cases hc : eqN x y; rfl; exact absurd (eqN_iff.1 hc) h]; rfl
    · (exact stleT)
  · refine rgD [(0, true), (1, false), (2, true), (3, true), (4, true), (7, true), (8, true), (9, true), (10, true), (11, true), (13, true), (14, true), (5, false), (6, true), (12, true), (15, false), (16, true), (17, true), (18, true)] ?_
    refine z96 ?_
    refine dpuA rfl Try.call19 (ref_mayInstr .any y hyo) rfl pargsT nofT ?_
    rw [show mayN y = false by simpa using hmy]
    refine dlo rfl (lop_not (E rfl)) rfl ?_
    refine dlo rfl (lop_move (E rfl)) rfl ?_
    first | refine dln rfl rfl rfl rfl rfl ?_ | (first | refine dly rfl rfl rfl (lop_load_ptr_agg (E rfl) rfl sgT (fun _ => Nat.le_of_ble_eq_true rfl)) rfl ?_ | refine dly rfl rfl rfl (lop_load_el_agg (E rfl) rfl (fun hc => by first | rfl | exact get_map (by assumption) | assumption | exact get_map (at_bang (by omega))) (fun _ => Nat.le_of_ble_eq_true rfl)) rfl ?_) | refine dlg rfl rfl rfl (lop_load_ptr_agg (E rfl) rfl sgT (fun _ => Nat.le_of_ble_eq_true rfl)) rfl ?_ | refine dlg rfl rfl rfl (lop_load_el_agg (E rfl) rfl (fun hc => by first | rfl | exact get_map (by assumption) | assumption | exact get_map (at_bang (by (try simp at hc) <;> omega))) (fun _ => Nat.le_of_ble_eq_true rfl)) rfl ?_
    first | refine dln rfl rfl rfl rfl rfl ?_ | (refine dly rfl rfl rfl (lop_move (E rfl)) rfl ?_) | refine dlg rfl rfl rfl (lop_move (E rfl)) rfl ?_
    first | refine dln rfl rfl rfl rfl rfl ?_ | (refine dly rfl rfl rfl (lop_move (E rfl)) rfl ?_) | refine dlg rfl rfl rfl (lop_move (E rfl)) rfl ?_
    first | refine dln rfl rfl rfl rfl rfl ?_ | (first | refine dly rfl rfl rfl (lop_len_map (by first | exact W rfl id | exact E rfl)) rfl ?_ | refine dly rfl rfl rfl (lop_len_ro (by first | exact W rfl id | exact E rfl)) rfl ?_ | refine dly rfl rfl rfl (lop_len_own (by first | exact W rfl id | exact E rfl)) rfl ?_) | refine dlg rfl rfl rfl (lop_len_map (by first | exact W rfl id | exact E rfl)) rfl ?_ | refine dlg rfl rfl rfl (lop_len_ro (by first | exact W rfl id | exact E rfl)) rfl ?_ | refine dlg rfl rfl rfl (lop_len_own (by first | exact W rfl id | exact E rfl)) rfl ?_
    first | refine dln rfl rfl rfl rfl rfl ?_ | (first | refine dly rfl rfl rfl (lop_slice_ro (by first | exact W rfl id | exact E rfl) (OB.some (by first | exact W rfl id | exact E rfl) (fun _ => by first | rfl | exact (Int.toNat_of_nonneg (by omega)).symm)) OB.none (fun _ => by first | (simp only [List.length_map]; omega) | omega)) rfl ?_ | refine dly rfl rfl rfl (lop_slice_own (by first | exact W rfl id | exact E rfl) sgT (OB.some (by first | exact W rfl id | exact E rfl) (fun _ => by first | rfl | exact (Int.toNat_of_nonneg (by omega)).symm)) OB.none (fun _ => by first | (simp only [List.length_map]; omega) | omega)) rfl ?_) | refine dlg rfl rfl rfl (lop_slice_ro (by first | exact W rfl id | exact E rfl) (OB.some (by first | exact W rfl id | exact E rfl) (fun _ => by first | rfl | exact (Int.toNat_of_nonneg (by omega)).symm)) OB.none (fun _ => by first | (simp only [List.length_map]; omega) | omega)) rfl ?_ | refine dlg rfl rfl rfl (lop_slice_own (by first | exact W rfl id | exact E rfl) sgT (OB.some (by first | exact W rfl id | exact E rfl) (fun _ => by first | rfl | exact (Int.toNat_of_nonneg (by omega)).symm)) OB.none (fun _ => by first | (simp only [List.length_map]; omega) | omega)) rfl ?_
    first | refine dln rfl rfl rfl rfl rfl ?_ | (first | refine dly rfl rfl rfl (lop_bytes_ro (by first | exact W rfl id | exact E rfl)) rfl ?_ | refine dly rfl rfl rfl (lop_text_own (by first | exact W rfl id | exact E rfl)) rfl ?_) | refine dlg rfl rfl rfl (lop_bytes_ro (by first | exact W rfl id | exact E rfl)) rfl ?_ | refine dlg rfl rfl rfl (lop_text_own (by first | exact W rfl id | exact E rfl)) rfl ?_
    first | refine dln rfl rfl rfl rfl rfl ?_ | (first | refine dly rfl rfl rfl (lop_load_ptr_agg (E rfl) rfl sgT (fun _ => Nat.le_of_ble_eq_true rfl)) rfl ?_ | refine dly rfl rfl rfl (lop_load_el_agg (E rfl) rfl (fun hc => by first | rfl | exact get_map (by assumption) | assumption | exact get_map (at_bang (by omega))) (fun _ => Nat.le_of_ble_eq_true rfl)) rfl ?_) | refine dlg rfl rfl rfl (lop_load_ptr_agg (E rfl) rfl sgT (fun _ => Nat.le_of_ble_eq_true rfl)) rfl ?_ | refine dlg rfl rfl rfl (lop_load_el_agg (E rfl) rfl (fun hc => by first | rfl | exact get_map (by assumption) | assumption | exact get_map (at_bang (by (try simp at hc) <;> omega))) (fun _ => Nat.le_of_ble_eq_true rfl)) rfl ?_
    first | refine dln rfl rfl rfl rfl rfl ?_ | (first | refine dly rfl rfl rfl (lop_load_ptr_agg (E rfl) rfl sgT (fun _ => Nat.le_of_ble_eq_true rfl)) rfl ?_ | refine dly rfl rfl rfl (lop_load_el_agg (E rfl) rfl (fun hc => by first | rfl | exact get_map (by assumption) | assumption | exact get_map (at_bang (by omega))) (fun _ => Nat.le_of_ble_eq_true rfl)) rfl ?_) | refine dlg rfl rfl rfl (lop_load_ptr_agg (E rfl) rfl sgT (fun _ => Nat.le_of_ble_eq_true rfl)) rfl ?_ | refine dlg rfl rfl rfl (lop_load_el_agg (E rfl) rfl (fun hc => by first | rfl | exact get_map (by assumption) | assumption | exact get_map (at_bang (by (try simp at hc) <;> omega))) (fun _ => Nat.le_of_ble_eq_true rfl)) rfl ?_
    refine dhn rfl rfl rfl rfl rfl ?_
    first | refine dln rfl rfl rfl rfl rfl ?_ | (first | refine dly rfl rfl rfl (lop_bytes_ro (by first | exact W rfl id | exact E rfl)) rfl ?_ | refine dly rfl rfl rfl (lop_text_own (by first | exact W rfl id | exact E rfl)) rfl ?_) | refine dlg rfl rfl rfl (lop_bytes_ro (by first | exact W rfl id | exact E rfl)) rfl ?_ | refine dlg rfl rfl rfl (lop_text_own (by first | exact W rfl id | exact E rfl)) rfl ?_
    first | refine dln rfl rfl rfl rfl rfl ?_ | (refine dly rfl rfl rfl (lop_seql (by first | exact W rfl id | exact E rfl) (by first | exact W rfl id | exact E rfl)) rfl ?_) | refine dlg rfl rfl rfl (lop_seql (by first | exact W rfl id | exact E rfl) (by first | exact W rfl id | exact E rfl)) rfl ?_
    refine dhn rfl rfl rfl rfl rfl ?_
    first | refine dln rfl rfl rfl rfl rfl ?_ | (refine dly rfl rfl rfl (lop_beql (by first | exact W rfl id | exact E rfl) (by first | exact W rfl id | exact E rfl)) rfl ?_) | refine dlg rfl rfl rfl (lop_beql (by first | exact W rfl id | exact E rfl) (by first | exact W rfl id | exact E rfl)) rfl ?_
    first | refine dlo rfl (lop_pick_t (E rfl) (E rfl)) rfl ?_ | refine dlo rfl (lop_pick_f (E rfl) (by first | exact W rfl (by simp) | exact E rfl)) rfl ?_ | refine dlo rfl (lop_pick (E rfl) (E rfl) (by first | exact W rfl (by simp) | exact E rfl)) rfl ?_
    refine dlo rfl (lop_assign (E rfl)) rfl ?_
    refine deT ?_
    (refine ctlT ?_)
    (apply aend; (exact resT))
    · rfl
    · (exact stleT)
theorem law_instrAll2 (x y : Ins) (h r : List Int) (hx : x.Wf) (hy : y.Wf) (hh : h.length ≤ maxLen ∧ ∀ a ∈ h, U8 a) (hr : r.length ≤ maxLen ∧ ∀ a ∈ r, U8 a) : SCall Try.prog 3 [.agg (iv .any x), .agg (iv .any y), .ro 1 (h.map encU8) .any, .ro 1 (r.map encU8) .any] [] (fun x _ => x = .bool true) := by
  obtain ⟨v, -, h1, h2, h3⟩ := nats hh
  obtain ⟨w, -, k1, k2, k3⟩ := nats hr
  rw [h3, k3]
  exact law_instrAll x y hx hy v w h1 h2 k1 k2
end Go.Proofs.Ytkjfflabapeidaa
