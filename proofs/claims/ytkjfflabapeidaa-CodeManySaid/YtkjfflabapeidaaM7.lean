import Derived.Test.YtkjfflabapeidaaM6
import Derived.Test.YtkjfflabapeidaaM3
/-
  Which block ends where: plain words, and the program's Match.
-/
namespace Go.Proofs.Ytkjfflabapeidaa
open Go.RowKit Go.ChangeShapes Go.WideShapes Go.ChangeAt Go.Deep
set_option linter.unusedSimpArgs false
set_option linter.unusedVariables false
attribute [local irreducible] SW RS RD AThen ABlock

def encN (n : Nat) : List AV := [.int .i64 n]
instance : NoE encN := ⟨fun a x hx => by simp [encN] at hx; subst hx; exact NoF.int⟩
structure Bk where
  at_ : Nat
  els : Int
  en : Int
def encK (b : Bk) : List AV := [.int .i64 b.at_, .int .i64 b.els, .int .i64 b.en]
instance : NoE encK := ⟨fun a x hx => by simp [encK] at hx; rcases hx with rfl | rfl | rfl <;> exact NoF.int⟩
def isO (op : Int) : Bool := op == 2 || op == 3 || op == 4
/-- blocks so far, and which are open -/
structure MS where
  all : List Bk
  opn : List Nat
def mtop (ops : List Int) (s : MS) (i : Nat) (op : Int) : Option MS :=
  match s.opn.getLast? with
  | none => none
  | some k => match s.all[k]? with
    | none => none
    | some b => if op = 11 then some ⟨s.all.set k ⟨b.at_, b.els, i⟩, s.opn.dropLast⟩
      else if ops[b.at_]? ≠ some (4 : Int) ∨ 0 ≤ b.els then none else some ⟨s.all.set k ⟨b.at_, i, b.en⟩, s.opn⟩
def mstep (ops : List Int) (s : MS) (i : Nat) (op : Int) : Option MS :=
  if isO op = true then (if s.opn.length = 40 then none else some ⟨s.all ++ [⟨i, -1, -1⟩], s.opn ++ [s.all.length]⟩)
  else if op ≠ 5 ∧ op ≠ 11 then some s else mtop ops s i op
def mrun (ops : List Int) : Nat → Option MS
  | 0 => some ⟨[], []⟩
  | j + 1 => match mrun ops j, ops[j]? with
    | some s, some op => mstep ops s j op
    | _, _ => none
theorem mrun_next {ops : List Int} {j : Nat} {s : MS} {op : Int} (h : mrun ops j = some s) (ho : ops[j]? = some op) : mrun ops (j + 1) = mstep ops s j op := by
  rw [mrun, h, ho]
theorem mrun_none {ops : List Int} {j : Nat} (h : mrun ops j = none) : ∀ d, mrun ops (j + d) = none
  | 0 => h
  | d + 1 => by rw [← Nat.add_assoc, mrun, mrun_none h d]
/-- what holds of what was found so far -/
structure MOk (j : Nat) (s : MS) : Prop where
  opn : ∀ k ∈ s.opn, k < s.all.length
  at_ : ∀ b ∈ s.all, b.at_ < j
  len : s.opn.length ≤ 40
  all : s.all.length ≤ j
theorem mstep_ok {ops : List Int} {j : Nat} {s s' : MS} {op : Int} (h : MOk j s) (hs : mstep ops s j op = some s') : MOk (j + 1) s' := by
  unfold mstep at hs
  split at hs
  · split at hs
    · cases hs
    · next h40 =>
      obtain rfl := Option.some.inj hs
      refine ⟨fun k hk => ?_, fun b hb => ?_, by have := h.len; simp; omega, by have := h.all; simp; omega⟩
      · rcases List.mem_append.1 hk with hk | hk
        · have := h.opn k hk; simp; omega
        · rw [List.mem_singleton.1 hk]; simp
      · rcases List.mem_append.1 hb with hb | hb
        · have := h.at_ b hb; omega
        · rw [List.mem_singleton.1 hb]; exact Nat.lt_succ_self _
  split at hs
  · obtain rfl := Option.some.inj hs
    exact ⟨h.opn, fun b hb => Nat.lt_succ_of_lt (h.at_ b hb), h.len, Nat.le_succ_of_le h.all⟩
  unfold mtop at hs
  split at hs
  · cases hs
  split at hs
  · cases hs
  · next k hk b hb =>
    have hbm := h.at_ b (List.mem_of_getElem? hb)
    split at hs
    · obtain rfl := Option.some.inj hs
      refine ⟨fun x hx => ?_, fun x hx => ?_, by have := h.len; simp; omega, by have := h.all; simp; omega⟩
      · have := h.opn x ((List.dropLast_sublist _).subset hx); simpa using this
      · rcases List.mem_or_eq_of_mem_set hx with hx | rfl
        · exact Nat.lt_succ_of_lt (h.at_ x hx)
        · exact Nat.lt_succ_of_lt hbm
    split at hs
    · cases hs
    · obtain rfl := Option.some.inj hs
      refine ⟨fun x hx => ?_, fun x hx => ?_, h.len, by have := h.all; simp; omega⟩
      · have := h.opn x hx; simpa using this
      · rcases List.mem_or_eq_of_mem_set hx with hx | rfl
        · exact Nat.lt_succ_of_lt (h.at_ x hx)
        · exact Nat.lt_succ_of_lt hbm
theorem mrun_ok {ops : List Int} : ∀ {j : Nat} {s : MS}, mrun ops j = some s → MOk j s
  | 0, s, h => by
    obtain rfl := Option.some.inj h
    exact ⟨by simp, by simp, by simp, by simp⟩
  | j + 1, s, h => by
    rw [mrun] at h
    split at h
    · next s0 op h1 h2 => exact mstep_ok (mrun_ok h1) h
    · cases h
def matchN (ops : List Int) : Option (List Bk) := if 300 < ops.length then none else match mrun ops ops.length with | some ⟨all, []⟩ => some all | _ => none
def blN (ops : List Int) : List Bk := (matchN ops).getD []
def okN (ops : List Int) : Bool := (matchN ops).isSome
theorem match_fail {ops : List Int} {j : Nat} (h : mrun ops j = none) (hj : j ≤ ops.length) : matchN ops = none := by
  unfold matchN
  split
  · rfl
  · have := mrun_none h (ops.length - j)
    rw [Nat.add_sub_cancel' hj] at this
    rw [this]
def opsOf (l : List Ins) : List Int := l.map Ins.op
theorem opsOf_at {l : List Ins} {j : Nat} {x : Ins} (h : l[j]? = some x) : (opsOf l)[j]? = some x.op := by simp [opsOf, h]
theorem mk_fail {ops : List Int} {q : Nat} {t : TypeId} (h : matchN ops = none) : ∃ q2, AV.tup [.own q 0 0, .bool false] = .tup [.own q2 0 (blN ops).length, .bool (okN ops)] ∧ ([(q, .arr t 3 [])] : Sto) = [(q2, .arr t 3 ((blN ops).map encK))] :=
  ⟨q, by simp [blN, okN, h], by simp [blN, h]⟩
set_option maxRecDepth 100000 in
theorem code_opens (op : Int) : SCall Try.prog 57 [.int .i64 op] [] (fun x σ => x = .bool (isO op) ∧ σ = []) := by
  refine scall_of (n := 13) (ks := [0, 2]) Try.func57 rfl rfl (Nat.le_of_ble_eq_true rfl) ?_
  (refine ctlT ?_)
  refine rgT ?_
  refine lo (lop_assign (E rfl)) rfl ?_
  refine leT ?_
  (refine ctlT ?_)
  refine rgT ?_
  refine lo (lop_move (E rfl)) rfl ?_
  refine lo (lop_eql (E rfl) (E rfl)) rfl ?_
  refine lo (lop_move (E rfl)) rfl ?_
  first | refine ln rfl rfl rfl rfl ?_ | (refine gy rfl rfl ?_; refine lo (lop_move (E rfl)) rfl ?_) | refine lg rfl rfl (lop_move (E rfl)) rfl ?_
  first | refine ln rfl rfl rfl rfl ?_ | (refine gy rfl rfl ?_; refine lo (lop_eql (by first | exact W rfl id | exact E rfl) (E rfl)) rfl ?_) | refine lg rfl rfl (lop_eql (by first | exact W rfl id | exact E rfl) (E rfl)) rfl ?_
  first | refine lo (lop_pick_t (E rfl) (E rfl)) rfl ?_ | refine lo (lop_pick_f (E rfl) (by first | exact W rfl (by simp) | exact E rfl)) rfl ?_ | refine lo (lop_pick (E rfl) (E rfl) (by first | exact W rfl (by simp) | exact E rfl)) rfl ?_
  refine lo (lop_move (E rfl)) rfl ?_
  first | refine ln rfl rfl rfl rfl ?_ | (refine gy rfl rfl ?_; refine lo (lop_move (E rfl)) rfl ?_) | refine lg rfl rfl (lop_move (E rfl)) rfl ?_
  first | refine ln rfl rfl rfl rfl ?_ | (refine gy rfl rfl ?_; refine lo (lop_eql (by first | exact W rfl id | exact E rfl) (E rfl)) rfl ?_) | refine lg rfl rfl (lop_eql (by first | exact W rfl id | exact E rfl) (E rfl)) rfl ?_
  first | refine lo (lop_pick_t (E rfl) (E rfl)) rfl ?_ | refine lo (lop_pick_f (E rfl) (by first | exact W rfl (by simp) | exact E rfl)) rfl ?_ | refine lo (lop_pick (E rfl) (E rfl) (by first | exact W rfl (by simp) | exact E rfl)) rfl ?_
  refine lo (lop_assign (E rfl)) rfl ?_
  refine leT ?_
  (refine ctlT ?_)
  (apply aend; (exact resT))
  · exact ⟨by show AV.bool _ = _; congr 1; simp only [if_or, isO], rfl⟩
  · (exact stleT)
end Go.Proofs.Ytkjfflabapeidaa
/-
  The program's Match.
-/
namespace Go.Proofs.Ytkjfflabapeidaa
open Go.RowKit Go.ChangeShapes Go.WideShapes Go.ChangeAt Go.Deep
set_option linter.unusedSimpArgs false
set_option linter.unusedVariables false
attribute [local irreducible] SW RS RD AThen ABlock

theorem step_open {ops : List Int} {s : MS} {j : Nat} {op : Int} (h : isO op = true) (hl : s.opn.length ≠ 40) : mstep ops s j op = some ⟨s.all ++ [⟨j, -1, -1⟩], s.opn ++ [s.all.length]⟩ := by
  unfold mstep; rw [if_pos h, if_neg hl]
theorem step_full {ops : List Int} {s : MS} {j : Nat} {op : Int} (h : isO op = true) (hl : s.opn.length = 40) : mstep ops s j op = none := by
  unfold mstep; rw [if_pos h, if_pos hl]
theorem step_skip {ops : List Int} {s : MS} {j : Nat} {op : Int} (h : isO op = false) (h1 : op ≠ 5) (h2 : op ≠ 11) : mstep ops s j op = some s := by
  unfold mstep; rw [if_neg (by simp [h]), if_pos ⟨h1, h2⟩]
theorem step_top {ops : List Int} {s : MS} {j : Nat} {op : Int} (h : isO op = false) (h1 : op = 5 ∨ op = 11) : mstep ops s j op = mtop ops s j op := by
  unfold mstep; rw [if_neg (by simp [h]), if_neg (by omega)]
theorem top_none {ops : List Int} {all : List Bk} {j : Nat} {op : Int} : mtop ops ⟨all, []⟩ j op = none := rfl
theorem top_end {ops : List Int} {all : List Bk} {pre : List Nat} {k j : Nat} {b : Bk} (hb : all[k]? = some b) : mtop ops ⟨all, pre ++ [k]⟩ j 11 = some ⟨all.set k ⟨b.at_, b.els, j⟩, pre⟩ := by
  unfold mtop; simp [hb]
theorem top_else {ops : List Int} {all : List Bk} {pre : List Nat} {k j : Nat} {b : Bk} (hb : all[k]? = some b) (h4 : ops[b.at_]? = some 4) (he : ¬ 0 ≤ b.els) : mtop ops ⟨all, pre ++ [k]⟩ j 5 = some ⟨all.set k ⟨b.at_, j, b.en⟩, pre ++ [k]⟩ := by
  unfold mtop; simp [hb, h4, he]
theorem top_bad {ops : List Int} {all : List Bk} {pre : List Nat} {k j : Nat} {b : Bk} (hb : all[k]? = some b) (h : ops[b.at_]? ≠ some 4 ∨ 0 ≤ b.els) : mtop ops ⟨all, pre ++ [k]⟩ j 5 = none := by
  unfold mtop; simp [hb]; intro h4
  rcases h with h | h
  · exact absurd h4 h
  · exact h
theorem last_at {pre : List Nat} {k : Nat} : (pre ++ [k])[(((pre ++ [k]).length : Nat) - 1 : Int).toNat]? = some k := by
  rw [show (((pre ++ [k]).length : Nat) - 1 : Int).toNat = pre.length by simp]
  simp
theorem nat_at {α : Type} {l : List α} {k : Nat} {x : α} (h : l[k]? = some x) : l[(k : Int).toNat]? = some x := by rw [Int.toNat_natCast]; exact h
set_option maxRecDepth 100000 in
theorem code_match (l : List Ins) (hl : l.length ≤ 100000) : SCall Try.prog 30 [.ro 4 (l.map (iv .any)) .any] []
    (fun y σ => ∃ q, y = .tup [.own q 0 (blN (opsOf l)).length, .bool (okN (opsOf l))] ∧ σ = [(q, .arr 52 3 ((blN (opsOf l)).map encK))]) := by
  have hol : (opsOf l).length = l.length := by simp [opsOf]
  refine scall_of (n := 113) (ks := [0, 2, 3, 4, 5, 6, 7, 8, 11, 12, 13, 14, 15, 30, 38, 52, 61, 64, 81, 111]) Try.func30 rfl rfl (Nat.le_of_ble_eq_true rfl) ?_
  (refine ctlT ?_)
  refine rgT ?_
  refine lo (lop_assign (E rfl)) rfl ?_
  refine lo (lop_assign (E rfl)) rfl ?_
  refine leT ?_
  (refine ctlT ?_)
  refine rgT ?_
  refine lo (lop_move (E rfl)) rfl ?_
  refine z14 ?_
  refine lo (lop_gtr (E rfl) (E rfl)) rfl ?_
  refine leT ?_
  (refine ctlT ?_)
  refine sw_cond rfl (fun g1 => ?_) (fun g1 => ?_)
  · (refine ctlT ?_)
    refine rgT ?_
    refine lo (lop_assign (E rfl)) rfl ?_
    refine lo (lop_assign (E rfl)) rfl ?_
    refine leT ?_
    refine an ?_
    refine sw_virt 2 52 3 (by decide) rfl (by decide) (freshT fun q2 hq2 => ?_); (repeat (rcases hq2 with ⟨_, hq2⟩))
    have hN : matchN (opsOf l) = none := by unfold matchN; rw [if_pos (by simp at g1; omega)]
    (refine ctlT ?_)
    (apply aend; (exact resT))
    · exact mk_fail hN
    · (exact stleT)
  (refine ctlT ?_)
  refine rgT ?_
  refine lo (lop_assign (E rfl)) rfl ?_
  refine leT ?_
  (refine ctlT ?_)
  refine rgT ?_
  refine lo (lop_assign (E rfl)) rfl ?_
  refine leT ?_
  (refine ctlT ?_)
  refine rgT ?_
  refine lo (lop_move (E rfl)) rfl ?_
  refine z14 ?_
  refine lo (lop_move (E rfl)) rfl ?_
  refine leT ?_
  (refine ctlT ?_)
  refine sw_virt 4 52 3 (by decide) rfl (by decide) (freshT fun a0 ha0 => ?_); (repeat (rcases ha0 with ⟨_, ha0⟩))
  refine sw_virt 5 3 1 (by decide) rfl (by decide) (freshT fun o0 ho0 => ?_); (repeat (rcases ho0 with ⟨_, ho0⟩))
  refine lp (β := Nat × Nat × Nat × MS) (fun b => ⟨[(0, .ro 4 (l.map (iv .any)) .any), (4, .own b.1 0 b.2.2.2.all.length), (5, .own b.2.1 0 b.2.2.2.opn.length), (12, .ro 4 (l.map (iv .any)) .any), (13, .int .i64 l.length), (14, .int .i64 b.2.2.1)], [(b.1, .arr 52 3 (b.2.2.2.all.map encK)), (b.2.1, .arr 3 1 (b.2.2.2.opn.map encN))]⟩) (fun b => Nq b.1 b.2.1 ∧ b.2.2.1 ≤ l.length ∧ mrun (opsOf l) b.2.2.1 = some b.2.2.2) (fun b => l.length - b.2.2.1) (a0, o0, 0, ⟨[], []⟩) sgoT ⟨by show Nq a0 o0; (exact nqT), Nat.zero_le _, rfl⟩ ?_
  rintro ⟨a, o, j, all, opn⟩ ⟨hao, hj, hrun⟩
  dsimp only at hao hj hrun ⊢
  obtain ⟨hk1, hk2, hk3, hk4⟩ := mrun_ok hrun
  dsimp only at hk1 hk2 hk3 hk4
  (refine ctlT ?_)
  refine rgT ?_
  refine lo (lop_lss (E rfl) (E rfl)) rfl ?_
  refine leT ?_
  (refine ctlT ?_)
  refine sw_cond rfl (fun g6 => ?_) (fun g6 => ?_)
  · have hlt : j < l.length := by simp at g6; omega
    obtain ⟨x, hx⟩ : ∃ x, l[j]? = some x := ⟨_, List.getElem?_eq_getElem hlt⟩
    have hnx := mrun_next hrun (opsOf_at hx)
    (refine ctlT ?_)
    refine rgT ?_
    refine lo (lop_move (E rfl)) rfl ?_
    refine z15 ?_
    first | refine lo (lop_load_el_agg (E rfl) rfl (fun hc => by first | rfl | exact get_map (by assumption) | assumption | exact get_map (at_bang (by omega))) (fun _ => Nat.le_of_ble_eq_true rfl)) rfl ?_ | refine lo (lop_load_ow_agg (E rfl) rfl sgT (fun hc => by first | rfl | exact get_map (by assumption) | assumption | exact get_map (at_bang (by omega))) (fun _ => Nat.le_of_ble_eq_true rfl)) rfl ?_
    apply al; rfl; (exact zcT); refine freshT fun r7 h7 => ?_; (repeat (rcases h7 with ⟨_, h7⟩))
    refine lo (lop_assign (E rfl)) rfl ?_
    apply stp; rfl; rfl; rfl; rfl; (exact sputT)
    refine leT ?_
    (refine ctlT ?_)
    refine rgT ?_
    refine lo (lop_move (E rfl)) rfl ?_
    refine z14 ?_
    refine lo (lop_assign (E rfl)) rfl ?_
    refine leT ?_
    (refine ctlT ?_)
    refine rgT ?_
    refine z59 ?_
    refine z60 ?_
    refine puA Try.call57 (code_opens _) rfl pargsT nofT ?_
    refine lo (lop_move (E rfl)) rfl ?_
    first | refine ln rfl rfl rfl rfl ?_ | (refine gy rfl rfl ?_; refine lo (lop_move (E rfl)) rfl ?_) | refine lg rfl rfl (lop_move (E rfl)) rfl ?_
    first | refine ln rfl rfl rfl rfl ?_ | (refine gy rfl rfl ?_; refine lo (lop_eql (by first | exact W rfl id | exact E rfl) (E rfl)) rfl ?_) | refine lg rfl rfl (lop_eql (by first | exact W rfl id | exact E rfl) (E rfl)) rfl ?_
    refine z68 ?_
    refine lo (lop_assign (E rfl)) rfl ?_
    refine leT ?_
    (refine ctlT ?_)
    refine sw_cond rfl (fun g10 => ?_) (fun g10 => ?_)
    · (refine ctlT ?_)
      refine rgT ?_
      refine lo (lop_assign (E rfl)) rfl ?_
      refine lo (lop_assign (E rfl)) rfl ?_
      refine leT ?_
      refine an ?_
      refine sw_virt 2 52 3 (by decide) rfl (by decide) (freshT fun q2 hq2 => ?_); (repeat (rcases hq2 with ⟨_, hq2⟩))
      have hN : matchN (opsOf l) = none := by replace g10 := bT g10; exact match_fail (hnx.trans (step_full (s := ⟨all, opn⟩) g10.1 (by show opn.length = 40; omega))) (by omega)
      (refine ctlT ?_)
      (apply aend; (exact resT))
      · exact mk_fail hN
      · (exact stleT)
    (refine ctlT ?_)
    refine rgT ?_
    refine z59 ?_
    refine z60 ?_
    refine puA Try.call57 (code_opens _) rfl pargsT nofT ?_
    refine lo (lop_assign (E rfl)) rfl ?_
    refine leT ?_
    (refine ctlT ?_)
    refine sw_cond rfl (fun g12 => ?_) (fun g12 => ?_)
    · have hnn := hnx.trans (step_open g12 (by intro he; simp [g12, he] at g10))
      (refine ctlT ?_)
      refine rgT ?_
      refine lo (lop_move (E rfl)) rfl ?_
      refine lo (lop_move (E rfl)) rfl ?_
      refine z14 ?_
      refine z1 ?_; refine freshT fun r45 h45 => ?_; (repeat (rcases h45 with ⟨_, h45⟩))
      refine apA ((opn ++ [all.length]).map encN) (opn ++ [all.length]).length ?_
      refine apnT fun r46 h46 => ?_; (repeat (rcases h46 with ⟨_, h46⟩))
      refine lo (lop_assign (E rfl)) rfl ?_
      refine leT ?_
      (refine ctlT ?_)
      refine rgT ?_
      refine lo (lop_move (E rfl)) rfl ?_
      refine lo (lop_move (E rfl)) rfl ?_
      refine z93 ?_
      refine z1 ?_; refine freshT fun r50 h50 => ?_; (repeat (rcases h50 with ⟨_, h50⟩))
      refine apA ((all ++ [(Bk.mk j (-1) (-1))]).map encK) (all ++ [(Bk.mk j (-1) (-1))]).length ?_
      refine apnT fun r51 h51 => ?_; (repeat (rcases h51 with ⟨_, h51⟩))
      refine lo (lop_assign (E rfl)) rfl ?_
      refine leT ?_
      (refine ctlT ?_)
      obtain ⟨A, O, hAO, rfl, rfl⟩ : ∃ A O, Nq A O ∧ A = r51 ∧ O = r46 := ⟨_, _, by (exact nqT), rfl, rfl⟩
      refine rgT ?_
      refine z17 ?_
      refine lo (lop_move (E rfl)) rfl ?_
      refine leT ?_
      (refine ctlT ?_)
      refine ⟨(A, O, j + 1, _), ⟨hAO, hlt, hnn⟩, by show l.length - (j + 1) < l.length - j; omega, ?_⟩
      dsimp only
      (exact sgoT)
    (refine ctlT ?_)
    refine rgT ?_
    refine z59 ?_
    refine z60 ?_
    refine lo (lop_neq (E rfl) (E rfl)) rfl ?_
    refine lo (lop_move (E rfl)) rfl ?_
    first | refine ln rfl rfl rfl rfl ?_ | (refine gy rfl rfl ?_; (first | refine lo (lop_field_ptr (E rfl) rfl (by decide)) rfl ?_ | refine lo (lop_field_el (E rfl) rfl (by decide)) rfl ?_)) | refine lg rfl rfl (lop_field_ptr (E rfl) rfl (by decide)) rfl ?_ | refine lg rfl rfl (lop_field_el (E rfl) rfl (by decide)) rfl ?_
    first | refine ln rfl rfl rfl rfl ?_ | (refine gy rfl rfl ?_; (first | refine lo (lop_load_ptr (by first | exact W rfl id | exact E rfl) rfl sgT (fun _ => rfl)) rfl ?_ | refine lo (lop_load_ptr (by first | exact W rfl id | exact E rfl) rfl sgT (fun _ => by assumption)) rfl ?_ | refine lo (lop_load_el (by first | exact W rfl id | exact E rfl) rfl (fun hc => by first | rfl | exact get_map (by assumption) | assumption | exact get_map (at_bang (by omega))) (fun _ => rfl)) rfl ?_)) | refine lg rfl rfl (lop_load_ptr (by first | exact W rfl id | exact E rfl) rfl sgT (fun _ => rfl)) rfl ?_ | refine lg rfl rfl (lop_load_ptr (by first | exact W rfl id | exact E rfl) rfl sgT (fun _ => by assumption)) rfl ?_ | refine lg rfl rfl (lop_load_el (by first | exact W rfl id | exact E rfl) rfl (fun hc => by first | rfl | exact get_map (by assumption) | assumption | exact get_map (at_bang (by (try simp at hc) <;> omega))) (fun _ => rfl)) rfl ?_
    first | refine ln rfl rfl rfl rfl ?_ | (refine gy rfl rfl ?_; refine lo (lop_neq (by first | exact W rfl id | exact E rfl) (E rfl)) rfl ?_) | refine lg rfl rfl (lop_neq (by first | exact W rfl id | exact E rfl) (E rfl)) rfl ?_
    refine z68 ?_
    refine lo (lop_assign (E rfl)) rfl ?_
    refine leT ?_
    (refine ctlT ?_)
    refine sw_cond rfl (fun g15 => ?_) (fun g15 => ?_)
    · have hnn := hnx.trans (step_skip g12 (by replace g15 := bT g15; exact g15.1) (by replace g15 := bT g15; exact g15.2))
      obtain ⟨A, O, hAO, rfl, rfl⟩ : ∃ A O, Nq A O ∧ A = a ∧ O = o := ⟨_, _, by (exact nqT), rfl, rfl⟩
      (refine ctlT ?_)
      refine rgT ?_
      refine z17 ?_
      refine lo (lop_move (E rfl)) rfl ?_
      refine leT ?_
      (refine ctlT ?_)
      refine ⟨(A, O, j + 1, _), ⟨hAO, hlt, hnn⟩, by show l.length - (j + 1) < l.length - j; omega, ?_⟩
      dsimp only
      (exact sgoT)
    have h5 : x.op = 5 ∨ x.op = 11 := by replace g15 := bT g15; omega
    have hnx := hnx.trans (step_top g12 h5)
    (refine ctlT ?_)
    refine rgT ?_
    refine lo (lop_move (E rfl)) rfl ?_
    refine lo (lop_eql (E rfl) (E rfl)) rfl ?_
    refine lo (lop_assign (E rfl)) rfl ?_
    refine leT ?_
    (refine ctlT ?_)
    refine sw_cond rfl (fun g16 => ?_) (fun g16 => ?_)
    · (refine ctlT ?_)
      refine rgT ?_
      refine lo (lop_assign (E rfl)) rfl ?_
      refine lo (lop_assign (E rfl)) rfl ?_
      refine leT ?_
      refine an ?_
      refine sw_virt 2 52 3 (by decide) rfl (by decide) (freshT fun q2 hq2 => ?_); (repeat (rcases hq2 with ⟨_, hq2⟩))
      have hN : matchN (opsOf l) = none := by obtain rfl : opn = [] := (by simpa using g16); exact match_fail (hnx.trans top_none) (by omega)
      (refine ctlT ?_)
      (apply aend; (exact resT))
      · exact mk_fail hN
      · (exact stleT)
    have hne : opn ≠ [] := by intro h; simp [h] at g16
    obtain ⟨pre, k, rfl⟩ : ∃ pre k, opn = pre ++ [k] := ⟨opn.dropLast, opn.getLast hne, (List.dropLast_concat_getLast hne).symm⟩
    have hkl := hk1 k (by simp)
    obtain ⟨b, hb⟩ : ∃ b, all[k]? = some b := ⟨_, List.getElem?_eq_getElem hkl⟩
    have hpl : (pre ++ [k]).length = pre.length + 1 := by simp
    have hlast := last_at (pre := pre) (k := k)
    have hbt := nat_at hb
    (refine ctlT ?_)
    refine rgT ?_
    refine z59 ?_
    refine z60 ?_
    refine lo (lop_eql (E rfl) (E rfl)) rfl ?_
    refine lo (lop_assign (E rfl)) rfl ?_
    refine leT ?_
    (refine ctlT ?_)
    refine sw_cond rfl (fun g18 => ?_) (fun g18 => ?_)
    · have h11 : x.op = 11 := by simpa using g18
      have hnn := hnx
      rw [h11, top_end hb] at hnn
      obtain ⟨A, O, hAO, rfl, rfl⟩ : ∃ A O, Nq A O ∧ A = a ∧ O = o := ⟨_, _, by (exact nqT), rfl, rfl⟩
      (refine ctlT ?_)
      refine rgT ?_
      refine lo (lop_move (E rfl)) rfl ?_
      refine lo (lop_move (E rfl)) rfl ?_
      refine lo (lop_move (E rfl)) rfl ?_
      refine z19 ?_
      refine z15 ?_
      refine z16 ?_
      refine lo (lop_move (E rfl)) rfl ?_
      refine z15 ?_
      first | refine lo (lop_field_el (E rfl) rfl (by decide)) rfl ?_ | refine lo (lop_field_ow (E rfl) rfl (by decide)) rfl ?_
      apply sto; rfl; rfl; rfl; rfl; (exact ssetT); (exact atT); (exact putT_); rfl
      refine leT ?_
      (refine ctlT ?_)
      refine rgT ?_
      refine lo (lop_move (E rfl)) rfl ?_
      refine lo (lop_move (E rfl)) rfl ?_
      refine z19 ?_
      refine z100 ?_
      refine lo (lop_assign (E rfl)) rfl ?_
      refine leT ?_
      (refine ctlT ?_)
      rw [show ((((pre ++ [k]).length : Nat) : Int) - 1).toNat - 0 = pre.length by simp]
      refine sw_go (sgo_cut (o := O) pre.length ssetT) ?_
      rw [show (all.map encK).set (k : Int).toNat [.int .i64 (b.at_ : Int), .int .i64 b.els, .int .i64 (j : Int)] = (all.set k ⟨b.at_, b.els, j⟩).map encK by rw [Int.toNat_natCast, List.map_set]; rfl, show List.take pre.length ((pre ++ [k]).map encN) = pre.map encN by simp]
      refine rgT ?_
      refine z17 ?_
      refine lo (lop_move (E rfl)) rfl ?_
      refine leT ?_
      (refine ctlT ?_)
      refine ⟨(A, O, j + 1, _), ⟨hAO, hlt, hnn⟩, by show l.length - (j + 1) < l.length - j; omega, ?_⟩
      dsimp only
      (exact sgoT)
    have h05 : x.op = 5 := by simp at g18; omega
    have hnx := by have := hnx; rw [h05] at this; exact this
    have hba := hk2 b (List.mem_of_getElem? hb)
    obtain ⟨y, hy⟩ : ∃ y, l[b.at_]? = some y := ⟨_, List.getElem?_eq_getElem (by omega)⟩
    have hyt := nat_at hy
    have hoy := opsOf_at hy
    (refine ctlT ?_)
    refine rgT ?_
    refine lo (lop_move (E rfl)) rfl ?_
    refine lo (lop_move (E rfl)) rfl ?_
    refine lo (lop_move (E rfl)) rfl ?_
    refine lo (lop_move (E rfl)) rfl ?_
    refine z19 ?_
    refine z15 ?_
    refine z16 ?_
    refine z15 ?_
    first | refine lo (lop_field_el (E rfl) rfl (by decide)) rfl ?_ | refine lo (lop_field_ow (E rfl) rfl (by decide)) rfl ?_
    refine z16 ?_
    refine z15 ?_
    first | refine lo (lop_field_el (E rfl) rfl (by decide)) rfl ?_ | refine lo (lop_field_ow (E rfl) rfl (by decide)) rfl ?_
    refine z16 ?_
    refine lo (lop_neq (E rfl) (E rfl)) rfl ?_
    refine lo (lop_move (E rfl)) rfl ?_
    first | refine ln rfl rfl rfl rfl ?_ | (refine gy rfl rfl ?_; refine lo (lop_move (E rfl)) rfl ?_) | refine lg rfl rfl (lop_move (E rfl)) rfl ?_
    first | refine ln rfl rfl rfl rfl ?_ | (refine gy rfl rfl ?_; refine lo (lop_move (E rfl)) rfl ?_) | refine lg rfl rfl (lop_move (E rfl)) rfl ?_
    first | refine ln rfl rfl rfl rfl ?_ | (refine gy rfl rfl ?_; refine lo (lop_move (E rfl)) rfl ?_) | refine lg rfl rfl (lop_move (E rfl)) rfl ?_
    first | refine ln rfl rfl rfl rfl ?_ | (refine gy rfl rfl ?_; (first | refine lo (lop_sub64 (by first | exact W rfl id | exact E rfl) (E rfl) (by omega) (by omega)) rfl ?_ | refine lo (lop_sub (by first | exact W rfl id | exact E rfl) (E rfl)) rfl ?_)) | refine lg rfl rfl (lop_sub64 (by first | exact W rfl id | exact E rfl) (E rfl) (by omega) (by omega)) rfl ?_ | refine lg rfl rfl (lop_sub64c (by first | exact W rfl id | exact E rfl) (E rfl) (fun hc => by simp at hc <;> first | omega | (have hov := hov hc; omega))) rfl ?_ | refine lg rfl rfl (lop_sub (by first | exact W rfl id | exact E rfl) (E rfl)) rfl ?_
    first | refine ln rfl rfl rfl rfl ?_ | (refine gy rfl rfl ?_; (first | refine lo (lop_index_ro (by first | exact W rfl id | exact E rfl) (by first | exact W rfl id | exact E rfl) (fun hc => by (simp only [List.length_map]; omega))) rfl ?_ | refine lo (lop_index_own0 (by first | exact W rfl id | exact E rfl) sgT (by first | exact W rfl id | exact E rfl) (fun hc => by omega)) rfl ?_ | refine lo (lop_index_own (by first | exact W rfl id | exact E rfl) sgT (by first | exact W rfl id | exact E rfl) (fun hc => by omega)) rfl ?_)) | refine lg rfl rfl (lop_index_ro (by first | exact W rfl id | exact E rfl) (by first | exact W rfl id | exact E rfl) (fun hc => by (try simp at hc) <;> (simp only [List.length_map]; omega))) rfl ?_ | refine lg rfl rfl (lop_index_own0 (by first | exact W rfl id | exact E rfl) sgT (by first | exact W rfl id | exact E rfl) (fun hc => by (try simp at hc) <;> omega)) rfl ?_ | refine lg rfl rfl (lop_index_own (by first | exact W rfl id | exact E rfl) sgT (by first | exact W rfl id | exact E rfl) (fun hc => by (try simp at hc) <;> omega)) rfl ?_
    first | refine ln rfl rfl rfl rfl ?_ | (refine gy rfl rfl ?_; (first | refine lo (lop_load_el (by first | exact W rfl id | exact E rfl) rfl (fun hc => by first | rfl | exact get_map (by assumption) | assumption | exact get_map (at_bang (by omega))) (fun _ => rfl)) rfl ?_ | refine lo (lop_load_ow (by first | exact W rfl id | exact E rfl) rfl sgT (fun hc => by first | rfl | exact get_map (by assumption) | assumption | exact get_map (at_bang (by omega))) (fun _ => rfl)) rfl ?_)) | refine lg rfl rfl (lop_load_el (by first | exact W rfl id | exact E rfl) rfl (fun hc => by first | rfl | exact get_map (by assumption) | assumption | exact get_map (at_bang (by (try simp at hc) <;> omega))) (fun _ => rfl)) rfl ?_ | refine lg rfl rfl (lop_load_ow (by first | exact W rfl id | exact E rfl) rfl sgT (fun hc => by first | rfl | exact get_map (by assumption) | assumption | exact get_map (at_bang (by (try simp at hc) <;> omega))) (fun _ => rfl)) rfl ?_
    first | refine ln rfl rfl rfl rfl ?_ | (refine gy rfl rfl ?_; (first | refine lo (lop_index_ro (by first | exact W rfl id | exact E rfl) (by first | exact W rfl id | exact E rfl) (fun hc => by (simp only [List.length_map]; omega))) rfl ?_ | refine lo (lop_index_own0 (by first | exact W rfl id | exact E rfl) sgT (by first | exact W rfl id | exact E rfl) (fun hc => by omega)) rfl ?_ | refine lo (lop_index_own (by first | exact W rfl id | exact E rfl) sgT (by first | exact W rfl id | exact E rfl) (fun hc => by omega)) rfl ?_)) | refine lg rfl rfl (lop_index_ro (by first | exact W rfl id | exact E rfl) (by first | exact W rfl id | exact E rfl) (fun hc => by (try simp at hc) <;> (simp only [List.length_map]; omega))) rfl ?_ | refine lg rfl rfl (lop_index_own0 (by first | exact W rfl id | exact E rfl) sgT (by first | exact W rfl id | exact E rfl) (fun hc => by (try simp at hc) <;> omega)) rfl ?_ | refine lg rfl rfl (lop_index_own (by first | exact W rfl id | exact E rfl) sgT (by first | exact W rfl id | exact E rfl) (fun hc => by (try simp at hc) <;> omega)) rfl ?_
    first | refine ln rfl rfl rfl rfl ?_ | (refine gy rfl rfl ?_; (first | refine lo (lop_field_el (by first | exact W rfl id | exact E rfl) rfl (by decide)) rfl ?_ | refine lo (lop_field_ow (by first | exact W rfl id | exact E rfl) rfl (by decide)) rfl ?_)) | refine lg rfl rfl (lop_field_el (by first | exact W rfl id | exact E rfl) rfl (by decide)) rfl ?_ | refine lg rfl rfl (lop_field_ow (by first | exact W rfl id | exact E rfl) rfl (by decide)) rfl ?_
    first | refine ln rfl rfl rfl rfl ?_ | (refine gy rfl rfl ?_; (first | refine lo (lop_load_el (by first | exact W rfl id | exact E rfl) rfl (fun hc => by first | rfl | exact get_map (by assumption) | assumption | exact get_map (at_bang (by omega))) (fun _ => rfl)) rfl ?_ | refine lo (lop_load_ow (by first | exact W rfl id | exact E rfl) rfl sgT (fun hc => by first | rfl | exact get_map (by assumption) | assumption | exact get_map (at_bang (by omega))) (fun _ => rfl)) rfl ?_)) | refine lg rfl rfl (lop_load_el (by first | exact W rfl id | exact E rfl) rfl (fun hc => by first | rfl | exact get_map (by assumption) | assumption | exact get_map (at_bang (by (try simp at hc) <;> omega))) (fun _ => rfl)) rfl ?_ | refine lg rfl rfl (lop_load_ow (by first | exact W rfl id | exact E rfl) rfl sgT (fun hc => by first | rfl | exact get_map (by assumption) | assumption | exact get_map (at_bang (by (try simp at hc) <;> omega))) (fun _ => rfl)) rfl ?_
    first | refine ln rfl rfl rfl rfl ?_ | (refine gy rfl rfl ?_; refine lo (lop_geq (by first | exact W rfl id | exact E rfl) (E rfl)) rfl ?_) | refine lg rfl rfl (lop_geq (by first | exact W rfl id | exact E rfl) (E rfl)) rfl ?_
    first | refine lo (lop_pick_t (E rfl) (E rfl)) rfl ?_ | refine lo (lop_pick_f (E rfl) (by first | exact W rfl (by simp) | exact E rfl)) rfl ?_ | refine lo (lop_pick (E rfl) (E rfl) (by first | exact W rfl (by simp) | exact E rfl)) rfl ?_
    refine lo (lop_assign (E rfl)) rfl ?_
    refine leT ?_
    (refine ctlT ?_)
    refine sw_cond rfl (fun g21 => ?_) (fun g21 => ?_)
    · (refine ctlT ?_)
      refine rgT ?_
      refine lo (lop_assign (E rfl)) rfl ?_
      refine lo (lop_assign (E rfl)) rfl ?_
      refine leT ?_
      refine an ?_
      refine sw_virt 2 52 3 (by decide) rfl (by decide) (freshT fun q2 hq2 => ?_); (repeat (rcases hq2 with ⟨_, hq2⟩))
      have hN : matchN (opsOf l) = none := match_fail (hnx.trans (top_bad hb (by rw [hoy]; replace g21 := bT g21; rcases g21 with h | h; exact .inl (fun e => h (Option.some.inj e)); exact .inr h))) (by omega)
      (refine ctlT ?_)
      (apply aend; (exact resT))
      · exact mk_fail hN
      · (exact stleT)
    have hnn := hnx.trans (top_else hb (by rw [hoy]; replace g21 := bT g21; rw [g21.1]) (by replace g21 := bT g21; exact g21.2))
    obtain ⟨A, O, hAO, rfl, rfl⟩ : ∃ A O, Nq A O ∧ A = a ∧ O = o := ⟨_, _, by (exact nqT), rfl, rfl⟩
    (refine ctlT ?_)
    refine rgT ?_
    refine lo (lop_move (E rfl)) rfl ?_
    refine lo (lop_move (E rfl)) rfl ?_
    refine lo (lop_move (E rfl)) rfl ?_
    refine z19 ?_
    refine z15 ?_
    refine z16 ?_
    refine lo (lop_move (E rfl)) rfl ?_
    refine z15 ?_
    first | refine lo (lop_field_el (E rfl) rfl (by decide)) rfl ?_ | refine lo (lop_field_ow (E rfl) rfl (by decide)) rfl ?_
    apply sto; rfl; rfl; rfl; rfl; (exact ssetT); (exact atT); (exact putT_); rfl
    refine leT ?_
    (refine ctlT ?_)
    rw [show (all.map encK).set (k : Int).toNat [.int .i64 (b.at_ : Int), .int .i64 (j : Int), .int .i64 b.en] = (all.set k ⟨b.at_, j, b.en⟩).map encK by rw [Int.toNat_natCast, List.map_set]; rfl]
    refine rgT ?_
    refine z17 ?_
    refine lo (lop_move (E rfl)) rfl ?_
    refine leT ?_
    (refine ctlT ?_)
    refine ⟨(A, O, j + 1, _), ⟨hAO, hlt, hnn⟩, by show l.length - (j + 1) < l.length - j; omega, ?_⟩
    dsimp only
    (exact sgoT)
  obtain rfl : j = l.length := by simp at g6; omega
  (refine ctlT ?_)
  refine rgT ?_
  refine lo (lop_move (E rfl)) rfl ?_
  refine z14 ?_
  refine lo (lop_gtr (E rfl) (E rfl)) rfl ?_
  refine leT ?_
  (refine ctlT ?_)
  refine sw_cond rfl (fun g24 => ?_) (fun g24 => ?_)
  · (refine ctlT ?_)
    refine rgT ?_
    refine lo (lop_assign (E rfl)) rfl ?_
    refine lo (lop_assign (E rfl)) rfl ?_
    refine leT ?_
    refine an ?_
    refine sw_virt 2 52 3 (by decide) rfl (by decide) (freshT fun q2 hq2 => ?_); (repeat (rcases hq2 with ⟨_, hq2⟩))
    have hN : matchN (opsOf l) = none := by unfold matchN; rw [hol, hrun, if_neg (by simp at g1; omega)]; cases opn with | nil => simp at g24 | cons z zs => rfl
    (refine ctlT ?_)
    (apply aend; (exact resT))
    · exact mk_fail hN
    · (exact stleT)
  (refine ctlT ?_)
  refine rgT ?_
  refine lo (lop_move (E rfl)) rfl ?_
  refine lo (lop_assign (E rfl)) rfl ?_
  refine lo (lop_assign (E rfl)) rfl ?_
  refine leT ?_
  (refine ctlT ?_)
  (apply aend; (exact resT))
  · have hN : matchN (opsOf l) = some all := by unfold matchN; rw [hol, hrun, if_neg (by simp at g1; omega)]; cases opn with | nil => rfl | cons z zs => simp at g24
    simp only [blN, okN, hN, Option.getD_some, Option.isSome_some]; exact ⟨a, rfl, rfl⟩
  · (exact stleT)
end Go.Proofs.Ytkjfflabapeidaa
/-
  The document's Match.
-/
namespace Go.Proofs.Ytkjfflabapeidaa
open Go.RowKit Go.ChangeShapes Go.WideShapes Go.ChangeAt Go.Deep
set_option linter.unusedSimpArgs false
set_option linter.unusedVariables false
attribute [local irreducible] SW RS RD AThen ABlock

set_option maxRecDepth 100000 in
theorem ref_match (l : List Ins) (hl : l.length ≤ 100000) : SCall Try.prog 31 [.ro 4 (l.map (iv .any)) .any] []
    (fun y σ => ∃ q, y = .tup [.own q 0 (blN (opsOf l)).length, .bool (okN (opsOf l))] ∧ σ = [(q, .arr 53 3 ((blN (opsOf l)).map encK))]) := by
  have hol : (opsOf l).length = l.length := by simp [opsOf]
  refine scall_of (n := 99) (ks := [0, 2, 3, 4, 5, 6, 7, 11, 18, 19, 35, 36, 40, 64, 70, 74, 97]) Try.func31 rfl rfl (Nat.le_of_ble_eq_true rfl) ?_
  (refine ctlT ?_)
  refine rgT ?_
  refine lo (lop_assign (E rfl)) rfl ?_
  refine lo (lop_assign (E rfl)) rfl ?_
  refine leT ?_
  (refine ctlT ?_)
  refine rgT ?_
  refine lo (lop_assign (E rfl)) rfl ?_
  refine leT ?_
  (refine ctlT ?_)
  refine rgT ?_
  refine lo (lop_assign (E rfl)) rfl ?_
  refine leT ?_
  (refine ctlT ?_)
  refine rgT ?_
  refine lo (lop_assign (E rfl)) rfl ?_
  refine leT ?_
  (refine ctlT ?_)
  refine sw_virt 4 53 3 (by decide) rfl (by decide) (freshT fun a0 ha0 => ?_); (repeat (rcases ha0 with ⟨_, ha0⟩))
  refine sw_virt 5 3 1 (by decide) rfl (by decide) (freshT fun o0 ho0 => ?_); (repeat (rcases ho0 with ⟨_, ho0⟩))
  refine lp (β := Nat × Nat × Nat × MS) (fun b => ⟨[(0, .ro 4 (l.map (iv .any)) .any), (4, .own b.1 0 b.2.2.2.all.length), (5, .own b.2.1 0 b.2.2.2.opn.length), (6, .int .i64 b.2.2.1)], [(b.1, .arr 53 3 (b.2.2.2.all.map encK)), (b.2.1, .arr 3 1 (b.2.2.2.opn.map encN))]⟩) (fun b => Nq b.1 b.2.1 ∧ b.2.2.1 ≤ l.length ∧ mrun (opsOf l) b.2.2.1 = some b.2.2.2) (fun b => l.length - b.2.2.1) (a0, o0, 0, ⟨[], []⟩) sgoT ⟨by show Nq a0 o0; (exact nqT), Nat.zero_le _, rfl⟩ ?_
  rintro ⟨a, o, j, all, opn⟩ ⟨hao, hj, hrun⟩
  dsimp only at hao hj hrun ⊢
  obtain ⟨hk1, hk2, hk3, hk4⟩ := mrun_ok hrun
  dsimp only at hk1 hk2 hk3 hk4
  (refine ctlT ?_)
  refine rgT ?_
  refine lo (lop_move (E rfl)) rfl ?_
  refine lo (lop_move (E rfl)) rfl ?_
  refine z14 ?_
  refine lo (lop_lss (E rfl) (E rfl)) rfl ?_
  refine leT ?_
  (refine ctlT ?_)
  refine sw_cond rfl (fun g4 => ?_) (fun g4 => ?_)
  · have hlt : j < l.length := by simp at g4; omega
    obtain ⟨x, hx⟩ : ∃ x, l[j]? = some x := ⟨_, List.getElem?_eq_getElem hlt⟩
    have hnx := mrun_next hrun (opsOf_at hx)
    (refine ctlT ?_)
    refine rgT ?_
    refine lo (lop_move (E rfl)) rfl ?_
    refine lo (lop_move (E rfl)) rfl ?_
    refine z15 ?_
    first | refine lo (lop_field_el (E rfl) rfl (by decide)) rfl ?_ | refine lo (lop_field_ow (E rfl) rfl (by decide)) rfl ?_
    refine z16 ?_
    refine leT ?_
    (refine ctlT ?_)
    have hO : (x.op == 2 || (x.op == 3 || x.op == 4)) = isO x.op := by unfold isO; rw [Bool.or_assoc]
    refine rgT ?_
    refine lo (lop_eql (E rfl) (E rfl)) rfl ?_
    refine lo (lop_assign (E rfl)) rfl ?_
    refine leT ?_
    (refine ctlT ?_)
    apply sw_orr rfl; exact fdelT
    · intro _; (refine ctlT ?_)
      refine rgT ?_
      refine lo (lop_eql (E rfl) (E rfl)) rfl ?_
      refine lo (lop_assign (E rfl)) rfl ?_
      refine leT ?_
      (refine ctlT ?_)
      apply sw_orq rfl; exact fdelT
      · intro _; (refine ctlT ?_)
        refine rgT ?_
        refine lo (lop_eql (E rfl) (E rfl)) rfl ?_
        refine lo (lop_assign (E rfl)) rfl ?_
        refine leT ?_
        (refine ctlT ?_)
        (exact sgoT)
      (exact sgoT)
    (refine ctlT ?_)
    refine sw_cond rfl (fun g7 => ?_) (fun g7 => ?_)
    · have hso : isO x.op = true := hO ▸ g7
      (refine ctlT ?_)
      refine rgT ?_
      refine lo (lop_move (E rfl)) rfl ?_
      refine lo (lop_move (E rfl)) rfl ?_
      refine z14 ?_
      refine z1 ?_; refine freshT fun r26 h26 => ?_; (repeat (rcases h26 with ⟨_, h26⟩))
      refine apA ((opn ++ [all.length]).map encN) (opn ++ [all.length]).length ?_
      refine apnT fun r27 h27 => ?_; (repeat (rcases h27 with ⟨_, h27⟩))
      refine lo (lop_assign (E rfl)) rfl ?_
      refine leT ?_
      (refine ctlT ?_)
      refine rgT ?_
      refine lo (lop_move (E rfl)) rfl ?_
      refine lo (lop_move (E rfl)) rfl ?_
      refine z93 ?_
      refine z1 ?_; refine freshT fun r31 h31 => ?_; (repeat (rcases h31 with ⟨_, h31⟩))
      refine apA ((all ++ [(Bk.mk j (-1) (-1))]).map encK) (all ++ [(Bk.mk j (-1) (-1))]).length ?_
      refine apnT fun r32 h32 => ?_; (repeat (rcases h32 with ⟨_, h32⟩))
      refine lo (lop_assign (E rfl)) rfl ?_
      refine leT ?_
      (refine ctlT ?_)
      refine rgT ?_
      refine lo (lop_move (E rfl)) rfl ?_
      refine z14 ?_
      refine lo (lop_gtr (E rfl) (E rfl)) rfl ?_
      refine leT ?_
      (refine ctlT ?_)
      refine sw_cond rfl (fun g12 => ?_) (fun g12 => ?_)
      · (refine ctlT ?_)
        refine rgT ?_
        refine lo (lop_assign (E rfl)) rfl ?_
        refine lo (lop_assign (E rfl)) rfl ?_
        refine leT ?_
        refine an ?_
        refine sw_virt 2 53 3 (by decide) rfl (by decide) (freshT fun q2 hq2 => ?_); (repeat (rcases hq2 with ⟨_, hq2⟩))
        have hN : matchN (opsOf l) = none := match_fail (hnx.trans (step_full (s := ⟨all, opn⟩) hso (by show opn.length = 40; simp at g12; omega))) (by omega)
        (refine ctlT ?_)
        (apply aend; (exact resT))
        · exact mk_fail hN
        · (exact stleT)
      have hnn := hnx.trans (step_open hso (by intro he; simp at g12; simp at he; omega))
      obtain ⟨A, O, hAO, rfl, rfl⟩ : ∃ A O, Nq A O ∧ A = r32 ∧ O = r27 := ⟨_, _, by (exact nqT), rfl, rfl⟩
      (refine ctlT ?_)
      refine rgT ?_
      refine lo (lop_move (E rfl)) rfl ?_
      refine z17 ?_
      refine lo (lop_assign (E rfl)) rfl ?_
      refine leT ?_
      (refine ctlT ?_)
      refine ⟨(A, O, j + 1, _), ⟨hAO, hlt, hnn⟩, by show l.length - (j + 1) < l.length - j; omega, ?_⟩
      dsimp only
      (exact sgoT)
    have hso : isO x.op = false := hO ▸ g7
    (refine ctlT ?_)
    refine rgT ?_
    refine lo (lop_eql (E rfl) (E rfl)) rfl ?_
    refine lo (lop_assign (E rfl)) rfl ?_
    refine leT ?_
    (refine ctlT ?_)
    refine sw_cond rfl (fun g14 => ?_) (fun g14 => ?_)
    · have h5 : x.op = 5 := by simpa using g14
      have hnx := hnx.trans (step_top hso (.inl h5))
      rw [h5] at hnx
      (refine ctlT ?_)
      refine rgT ?_
      refine lo (lop_move (E rfl)) rfl ?_
      refine z14 ?_
      refine lo (lop_eql (E rfl) (E rfl)) rfl ?_
      refine leT ?_
      (refine ctlT ?_)
      refine sw_cond rfl (fun g15 => ?_) (fun g15 => ?_)
      · (refine ctlT ?_)
        refine rgT ?_
        refine lo (lop_assign (E rfl)) rfl ?_
        refine lo (lop_assign (E rfl)) rfl ?_
        refine leT ?_
        refine an ?_
        refine sw_virt 2 53 3 (by decide) rfl (by decide) (freshT fun q2 hq2 => ?_); (repeat (rcases hq2 with ⟨_, hq2⟩))
        have hN : matchN (opsOf l) = none := by obtain rfl : opn = [] := (by simpa using g15); exact match_fail (hnx.trans top_none) (by omega)
        (refine ctlT ?_)
        (apply aend; (exact resT))
        · exact mk_fail hN
        · (exact stleT)
      have hne : opn ≠ [] := by intro h; simp [h] at g15
      obtain ⟨pre, k, rfl⟩ : ∃ pre k, opn = pre ++ [k] := ⟨opn.dropLast, opn.getLast hne, (List.dropLast_concat_getLast hne).symm⟩
      have hkl := hk1 k (by simp)
      obtain ⟨b, hb⟩ : ∃ b, all[k]? = some b := ⟨_, List.getElem?_eq_getElem hkl⟩
      have hpl : (pre ++ [k]).length = pre.length + 1 := by simp
      have hlast := last_at (pre := pre) (k := k)
      have hbt := nat_at hb
      have hba := hk2 b (List.mem_of_getElem? hb)
      obtain ⟨y, hy⟩ : ∃ y, l[b.at_]? = some y := ⟨_, List.getElem?_eq_getElem (by omega)⟩
      have hyt := nat_at hy
      have hoy := opsOf_at hy
      (refine ctlT ?_)
      refine rgT ?_
      refine lo (lop_move (E rfl)) rfl ?_
      refine lo (lop_move (E rfl)) rfl ?_
      refine z14 ?_
      refine z19 ?_
      refine z15 ?_
      refine z16 ?_
      refine lo (lop_assign (E rfl)) rfl ?_
      refine leT ?_
      (refine ctlT ?_)
      refine rgT ?_
      refine lo (lop_move (E rfl)) rfl ?_
      refine lo (lop_move (E rfl)) rfl ?_
      refine lo (lop_move (E rfl)) rfl ?_
      refine z15 ?_
      first | refine lo (lop_field_el (E rfl) rfl (by decide)) rfl ?_ | refine lo (lop_field_ow (E rfl) rfl (by decide)) rfl ?_
      refine z16 ?_
      refine z15 ?_
      first | refine lo (lop_field_el (E rfl) rfl (by decide)) rfl ?_ | refine lo (lop_field_ow (E rfl) rfl (by decide)) rfl ?_
      refine z16 ?_
      refine lo (lop_neq (E rfl) (E rfl)) rfl ?_
      refine lo (lop_move (E rfl)) rfl ?_
      first | refine ln rfl rfl rfl rfl ?_ | (refine gy rfl rfl ?_; refine lo (lop_move (E rfl)) rfl ?_) | refine lg rfl rfl (lop_move (E rfl)) rfl ?_
      first | refine ln rfl rfl rfl rfl ?_ | (refine gy rfl rfl ?_; refine lo (lop_move (E rfl)) rfl ?_) | refine lg rfl rfl (lop_move (E rfl)) rfl ?_
      first | refine ln rfl rfl rfl rfl ?_ | (refine gy rfl rfl ?_; (first | refine lo (lop_index_ro (by first | exact W rfl id | exact E rfl) (by first | exact W rfl id | exact E rfl) (fun hc => by (simp only [List.length_map]; omega))) rfl ?_ | refine lo (lop_index_own0 (by first | exact W rfl id | exact E rfl) sgT (by first | exact W rfl id | exact E rfl) (fun hc => by omega)) rfl ?_ | refine lo (lop_index_own (by first | exact W rfl id | exact E rfl) sgT (by first | exact W rfl id | exact E rfl) (fun hc => by omega)) rfl ?_)) | refine lg rfl rfl (lop_index_ro (by first | exact W rfl id | exact E rfl) (by first | exact W rfl id | exact E rfl) (fun hc => by (try simp at hc) <;> (simp only [List.length_map]; omega))) rfl ?_ | refine lg rfl rfl (lop_index_own0 (by first | exact W rfl id | exact E rfl) sgT (by first | exact W rfl id | exact E rfl) (fun hc => by (try simp at hc) <;> omega)) rfl ?_ | refine lg rfl rfl (lop_index_own (by first | exact W rfl id | exact E rfl) sgT (by first | exact W rfl id | exact E rfl) (fun hc => by (try simp at hc) <;> omega)) rfl ?_
      first | refine ln rfl rfl rfl rfl ?_ | (refine gy rfl rfl ?_; (first | refine lo (lop_field_el (by first | exact W rfl id | exact E rfl) rfl (by decide)) rfl ?_ | refine lo (lop_field_ow (by first | exact W rfl id | exact E rfl) rfl (by decide)) rfl ?_)) | refine lg rfl rfl (lop_field_el (by first | exact W rfl id | exact E rfl) rfl (by decide)) rfl ?_ | refine lg rfl rfl (lop_field_ow (by first | exact W rfl id | exact E rfl) rfl (by decide)) rfl ?_
      first | refine ln rfl rfl rfl rfl ?_ | (refine gy rfl rfl ?_; (first | refine lo (lop_load_el (by first | exact W rfl id | exact E rfl) rfl (fun hc => by first | rfl | exact get_map (by assumption) | assumption | exact get_map (at_bang (by omega))) (fun _ => rfl)) rfl ?_ | refine lo (lop_load_ow (by first | exact W rfl id | exact E rfl) rfl sgT (fun hc => by first | rfl | exact get_map (by assumption) | assumption | exact get_map (at_bang (by omega))) (fun _ => rfl)) rfl ?_)) | refine lg rfl rfl (lop_load_el (by first | exact W rfl id | exact E rfl) rfl (fun hc => by first | rfl | exact get_map (by assumption) | assumption | exact get_map (at_bang (by (try simp at hc) <;> omega))) (fun _ => rfl)) rfl ?_ | refine lg rfl rfl (lop_load_ow (by first | exact W rfl id | exact E rfl) rfl sgT (fun hc => by first | rfl | exact get_map (by assumption) | assumption | exact get_map (at_bang (by (try simp at hc) <;> omega))) (fun _ => rfl)) rfl ?_
      first | refine ln rfl rfl rfl rfl ?_ | (refine gy rfl rfl ?_; refine lo (lop_geq (by first | exact W rfl id | exact E rfl) (E rfl)) rfl ?_) | refine lg rfl rfl (lop_geq (by first | exact W rfl id | exact E rfl) (E rfl)) rfl ?_
      first | refine lo (lop_pick_t (E rfl) (E rfl)) rfl ?_ | refine lo (lop_pick_f (E rfl) (by first | exact W rfl (by simp) | exact E rfl)) rfl ?_ | refine lo (lop_pick (E rfl) (E rfl) (by first | exact W rfl (by simp) | exact E rfl)) rfl ?_
      refine leT ?_
      (refine ctlT ?_)
      refine sw_cond rfl (fun g18 => ?_) (fun g18 => ?_)
      · (refine ctlT ?_)
        refine rgT ?_
        refine lo (lop_assign (E rfl)) rfl ?_
        refine lo (lop_assign (E rfl)) rfl ?_
        refine leT ?_
        refine an ?_
        refine sw_virt 2 53 3 (by decide) rfl (by decide) (freshT fun q2 hq2 => ?_); (repeat (rcases hq2 with ⟨_, hq2⟩))
        have hN : matchN (opsOf l) = none := match_fail (hnx.trans (top_bad hb (by rw [hoy]; replace g18 := bT g18; rcases g18 with h | h; exact .inl (fun e => h (Option.some.inj e)); exact .inr h))) (by omega)
        (refine ctlT ?_)
        (apply aend; (exact resT))
        · exact mk_fail hN
        · (exact stleT)
      have hnn := hnx.trans (top_else hb (by rw [hoy]; replace g18 := bT g18; rw [g18.1]) (by replace g18 := bT g18; exact g18.2))
      (refine ctlT ?_)
      refine rgT ?_
      refine lo (lop_move (E rfl)) rfl ?_
      refine lo (lop_move (E rfl)) rfl ?_
      refine lo (lop_move (E rfl)) rfl ?_
      refine z15 ?_
      first | refine lo (lop_field_el (E rfl) rfl (by decide)) rfl ?_ | refine lo (lop_field_ow (E rfl) rfl (by decide)) rfl ?_
      apply sto; rfl; rfl; rfl; rfl; (exact ssetT); (exact atT); (exact putT_); rfl
      refine leT ?_
      (refine ctlT ?_)
      rw [show (all.map encK).set (k : Int).toNat [.int .i64 (b.at_ : Int), .int .i64 (j : Int), .int .i64 b.en] = (all.set k ⟨b.at_, j, b.en⟩).map encK by rw [Int.toNat_natCast, List.map_set]; rfl]
      obtain ⟨A, O, hAO, rfl, rfl⟩ : ∃ A O, Nq A O ∧ A = a ∧ O = o := ⟨_, _, by (exact nqT), rfl, rfl⟩
      refine rgT ?_
      refine lo (lop_move (E rfl)) rfl ?_
      refine z17 ?_
      refine lo (lop_assign (E rfl)) rfl ?_
      refine leT ?_
      (refine ctlT ?_)
      refine ⟨(A, O, j + 1, _), ⟨hAO, hlt, hnn⟩, by show l.length - (j + 1) < l.length - j; omega, ?_⟩
      dsimp only
      (exact sgoT)
    have hn5 : x.op ≠ 5 := by simpa using g14
    (refine ctlT ?_)
    refine rgT ?_
    refine lo (lop_eql (E rfl) (E rfl)) rfl ?_
    refine lo (lop_assign (E rfl)) rfl ?_
    refine leT ?_
    (refine ctlT ?_)
    refine sw_cond rfl (fun g21 => ?_) (fun g21 => ?_)
    · have h11 : x.op = 11 := by simpa using g21
      have hnx := hnx.trans (step_top hso (.inr h11))
      rw [h11] at hnx
      (refine ctlT ?_)
      refine rgT ?_
      refine lo (lop_move (E rfl)) rfl ?_
      refine z14 ?_
      refine lo (lop_eql (E rfl) (E rfl)) rfl ?_
      refine leT ?_
      (refine ctlT ?_)
      refine sw_cond rfl (fun g22 => ?_) (fun g22 => ?_)
      · (refine ctlT ?_)
        refine rgT ?_
        refine lo (lop_assign (E rfl)) rfl ?_
        refine lo (lop_assign (E rfl)) rfl ?_
        refine leT ?_
        refine an ?_
        refine sw_virt 2 53 3 (by decide) rfl (by decide) (freshT fun q2 hq2 => ?_); (repeat (rcases hq2 with ⟨_, hq2⟩))
        have hN : matchN (opsOf l) = none := by obtain rfl : opn = [] := (by simpa using g22); exact match_fail (hnx.trans top_none) (by omega)
        (refine ctlT ?_)
        (apply aend; (exact resT))
        · exact mk_fail hN
        · (exact stleT)
      have hne : opn ≠ [] := by intro h; simp [h] at g22
      obtain ⟨pre, k, rfl⟩ : ∃ pre k, opn = pre ++ [k] := ⟨opn.dropLast, opn.getLast hne, (List.dropLast_concat_getLast hne).symm⟩
      have hkl := hk1 k (by simp)
      obtain ⟨b, hb⟩ : ∃ b, all[k]? = some b := ⟨_, List.getElem?_eq_getElem hkl⟩
      have hpl : (pre ++ [k]).length = pre.length + 1 := by simp
      have hlast := last_at (pre := pre) (k := k)
      have hbt := nat_at hb
      have hnn := hnx
      rw [top_end hb] at hnn
      (refine ctlT ?_)
      refine rgT ?_
      refine lo (lop_move (E rfl)) rfl ?_
      refine lo (lop_move (E rfl)) rfl ?_
      refine lo (lop_move (E rfl)) rfl ?_
      refine z14 ?_
      refine z19 ?_
      refine z15 ?_
      refine z16 ?_
      refine lo (lop_move (E rfl)) rfl ?_
      refine z15 ?_
      first | refine lo (lop_field_el (E rfl) rfl (by decide)) rfl ?_ | refine lo (lop_field_ow (E rfl) rfl (by decide)) rfl ?_
      apply sto; rfl; rfl; rfl; rfl; (exact ssetT); (exact atT); (exact putT_); rfl
      refine leT ?_
      (refine ctlT ?_)
      refine rgT ?_
      refine lo (lop_move (E rfl)) rfl ?_
      refine lo (lop_move (E rfl)) rfl ?_
      refine z14 ?_
      refine z19 ?_
      refine z100 ?_
      refine lo (lop_assign (E rfl)) rfl ?_
      refine leT ?_
      (refine ctlT ?_)
      rw [show ((((pre ++ [k]).length : Nat) : Int) - 1).toNat - 0 = pre.length by simp]
      refine sw_go (sgo_cut (o := o) pre.length ssetT) ?_
      rw [show (all.map encK).set (k : Int).toNat [.int .i64 (b.at_ : Int), .int .i64 b.els, .int .i64 (j : Int)] = (all.set k ⟨b.at_, b.els, j⟩).map encK by rw [Int.toNat_natCast, List.map_set]; rfl, show List.take pre.length ((pre ++ [k]).map encN) = pre.map encN by simp]
      obtain ⟨A, O, hAO, rfl, rfl⟩ : ∃ A O, Nq A O ∧ A = a ∧ O = o := ⟨_, _, by (exact nqT), rfl, rfl⟩
      refine rgT ?_
      refine lo (lop_move (E rfl)) rfl ?_
      refine z17 ?_
      refine lo (lop_assign (E rfl)) rfl ?_
      refine leT ?_
      (refine ctlT ?_)
      refine ⟨(A, O, j + 1, _), ⟨hAO, hlt, hnn⟩, by show l.length - (j + 1) < l.length - j; omega, ?_⟩
      dsimp only
      (exact sgoT)
    have hnn := hnx.trans (step_skip hso hn5 (by simpa using g21))
    obtain ⟨A, O, hAO, rfl, rfl⟩ : ∃ A O, Nq A O ∧ A = a ∧ O = o := ⟨_, _, by (exact nqT), rfl, rfl⟩
    (refine ctlT ?_)
    refine rgT ?_
    refine lo (lop_move (E rfl)) rfl ?_
    refine z17 ?_
    refine lo (lop_assign (E rfl)) rfl ?_
    refine leT ?_
    (refine ctlT ?_)
    refine ⟨(A, O, j + 1, _), ⟨hAO, hlt, hnn⟩, by show l.length - (j + 1) < l.length - j; omega, ?_⟩
    dsimp only
    (exact sgoT)
  obtain rfl : j = l.length := by simp at g4; omega
  (refine ctlT ?_)
  refine rgT ?_
  refine lo (lop_move (E rfl)) rfl ?_
  refine z14 ?_
  refine lo (lop_gtr (E rfl) (E rfl)) rfl ?_
  refine lo (lop_move (E rfl)) rfl ?_
  first | refine ln rfl rfl rfl rfl ?_ | (refine gy rfl rfl ?_; refine lo (lop_move (E rfl)) rfl ?_) | refine lg rfl rfl (lop_move (E rfl)) rfl ?_
  first | refine ln rfl rfl rfl rfl ?_ | (refine gy rfl rfl ?_; (first | refine lo (lop_len_map (by first | exact W rfl id | exact E rfl)) rfl ?_ | refine lo (lop_len_ro (by first | exact W rfl id | exact E rfl)) rfl ?_ | refine lo (lop_len_own (by first | exact W rfl id | exact E rfl)) rfl ?_)) | refine lg rfl rfl (lop_len_map (by first | exact W rfl id | exact E rfl)) rfl ?_ | refine lg rfl rfl (lop_len_ro (by first | exact W rfl id | exact E rfl)) rfl ?_ | refine lg rfl rfl (lop_len_own (by first | exact W rfl id | exact E rfl)) rfl ?_
  first | refine ln rfl rfl rfl rfl ?_ | (refine gy rfl rfl ?_; refine lo (lop_gtr (by first | exact W rfl id | exact E rfl) (E rfl)) rfl ?_) | refine lg rfl rfl (lop_gtr (by first | exact W rfl id | exact E rfl) (E rfl)) rfl ?_
  first | refine lo (lop_pick_t (E rfl) (E rfl)) rfl ?_ | refine lo (lop_pick_f (E rfl) (by first | exact W rfl (by simp) | exact E rfl)) rfl ?_ | refine lo (lop_pick (E rfl) (E rfl) (by first | exact W rfl (by simp) | exact E rfl)) rfl ?_
  refine leT ?_
  (refine ctlT ?_)
  refine sw_cond rfl (fun g26 => ?_) (fun g26 => ?_)
  · (refine ctlT ?_)
    refine rgT ?_
    refine lo (lop_assign (E rfl)) rfl ?_
    refine lo (lop_assign (E rfl)) rfl ?_
    refine leT ?_
    refine an ?_
    refine sw_virt 2 53 3 (by decide) rfl (by decide) (freshT fun q2 hq2 => ?_); (repeat (rcases hq2 with ⟨_, hq2⟩))
    have hN : matchN (opsOf l) = none := by replace g26 := bT g26; unfold matchN; split; rfl; (rw [hol, hrun]; cases opn with | nil => (exfalso; simp at g26; omega) | cons z zs => rfl)
    (refine ctlT ?_)
    (apply aend; (exact resT))
    · exact mk_fail hN
    · (exact stleT)
  have hN : matchN (opsOf l) = some all := by replace g26 := bT g26; unfold matchN; rw [hol, hrun, if_neg (by omega)]; cases opn with | nil => rfl | cons z zs => simp at g26
  (refine ctlT ?_)
  refine rgT ?_
  refine lo (lop_move (E rfl)) rfl ?_
  refine lo (lop_assign (E rfl)) rfl ?_
  refine lo (lop_assign (E rfl)) rfl ?_
  refine leT ?_
  (refine ctlT ?_)
  (apply aend; (exact resT))
  · simp only [blN, okN, hN, Option.getD_some, Option.isSome_some]; exact ⟨a, rfl, rfl⟩
  · (exact stleT)
end Go.Proofs.Ytkjfflabapeidaa
/-
  slices.Reverse at ints.
-/
namespace Go.Proofs.Ytkjfflabapeidaa
open Go.RowKit Go.ChangeShapes Go.WideShapes Go.ChangeAt Go.Deep
set_option linter.unusedSimpArgs false
set_option linter.unusedVariables false
attribute [local irreducible] SW RS RD AThen ABlock

structure RevOk (l : List Int) (k : Nat) (L : List Int) : Prop where
  len : L.length = l.length
  half : 2 * k ≤ l.length + 1
  at_ : ∀ t, t < l.length → L[t]? = if t < k ∨ l.length ≤ t + k then l[l.length - 1 - t]? else l[t]?
theorem RevOk.step {l L : List Int} {k : Nat} (h : RevOk l k L) {u v : Int} (hk : k + k + 1 < l.length) (hu : L[k]? = some u) (hv : L[l.length - 1 - k]? = some v) : RevOk l (k + 1) ((L.set k v).set (l.length - 1 - k) u) := by
  refine ⟨by simp [h.len], by omega, fun t ht => ?_⟩
  have hl := h.len
  rw [List.getElem?_set, List.length_set]
  split
  · next e =>
    subst e
    rw [if_pos (by omega), if_pos (by omega), show l.length - 1 - (l.length - 1 - k) = k by omega, ← hu, h.at_ k (by omega), if_neg (by omega)]
  · rw [List.getElem?_set]
    split
    · next e =>
      subst e
      rw [if_pos (by omega), if_pos (by omega), ← hv, h.at_ _ (by omega), if_neg (by omega)]
    · rw [h.at_ t ht]
      by_cases h1 : t < k ∨ l.length ≤ t + k
      · rw [if_pos h1, if_pos (by omega)]
      · rw [if_neg h1, if_neg (by omega)]
theorem RevOk.done {l L : List Int} {k : Nat} (h : RevOk l k L) (hk : l.length ≤ k + k + 1) : L = l.reverse := by
  refine List.ext_getElem? fun t => ?_
  by_cases ht : t < l.length
  · rw [h.at_ t ht, List.getElem?_reverse ht]
    split
    · rfl
    · rw [show l.length - 1 - t = t by omega]
  · rw [List.getElem?_eq_none (by rw [h.len]; omega), List.getElem?_eq_none (by simp; omega)]
set_option maxRecDepth 100000 in
theorem slices_reverse (q : Nat) (l : List Int) (hl : l.length ≤ 1000000) : SCall Try.prog 58 [.own q 0 l.length] [(q, .arr 3 1 (l.map encI))] (fun _ σ => σ = [(q, .arr 3 1 (l.reverse.map encI))]) := by
  refine scall_of (n := 28) (ks := [0, 2, 3, 9]) Try.func58 rfl rfl (Nat.le_of_ble_eq_true rfl) ?_
  (refine ctlT ?_)
  refine rgT ?_
  refine lo (lop_move (E rfl)) rfl ?_
  refine z14 ?_
  refine z19 ?_
  refine lo (lop_assign (E rfl)) rfl ?_
  refine lo (lop_assign (E rfl)) rfl ?_
  refine leT ?_
  (refine ctlT ?_)
  refine lp (β := Nat × List Int) (fun b => ⟨[(0, .own q 0 l.length), (2, .int .i64 b.1), (3, .int .i64 ((l.length : Int) - 1 - b.1))], [(q, .arr 3 1 (b.2.map encI))]⟩) (fun b => RevOk l b.1 b.2) (fun b => l.length - b.1) (0, l) ?_ ⟨rfl, by omega, fun t ht => by rw [if_neg (by omega)]⟩ ?_
  · dsimp only; rw [show (l.length : Int) - 1 - ((0 : Nat) : Int) = (l.length : Int) - 1 by omega]; (exact sgoT)
  rintro ⟨k, L⟩ hok
  have hL := hok.len
  have hhalf := hok.half
  dsimp only at hok hL hhalf ⊢
  (refine ctlT ?_)
  refine rgT ?_
  refine lo (lop_move (E rfl)) rfl ?_
  refine lo (lop_move (E rfl)) rfl ?_
  refine lo (lop_lss (E rfl) (E rfl)) rfl ?_
  refine leT ?_
  (refine ctlT ?_)
  refine sw_cond rfl (fun g1 => ?_) (fun g1 => ?_)
  · have hlt : k + k + 1 < l.length := by simp at g1; omega
    obtain ⟨u, hu⟩ : ∃ u, L[k]? = some u := ⟨_, List.getElem?_eq_getElem (by omega)⟩
    obtain ⟨v, hv⟩ : ∃ v, L[l.length - 1 - k]? = some v := ⟨_, List.getElem?_eq_getElem (by omega)⟩
    have e1 : ((l.length : Int) - 1 - k).toNat = l.length - 1 - k := by omega
    have hu' := nat_at hu
    have hv' : L[((l.length : Int) - 1 - k).toNat]? = some v := by rw [e1]; exact hv
    have hok' := hok.step hlt hu hv
    have hs : ((L.map encI).set (k : Int).toNat [.int .i64 v])[((l.length : Int) - 1 - k).toNat]? = some (encI v) := by rw [e1, Int.toNat_natCast, List.getElem?_set_ne (by omega), List.getElem?_map, hv]; rfl
    (refine ctlT ?_)
    refine rgD [(0, true), (1, true), (2, true), (3, true), (4, true), (5, true), (6, true), (7, true), (8, true), (9, true), (10, true), (11, true), (12, true), (13, false), (14, true), (15, false)] ?_
    refine dlo rfl (lop_move (E rfl)) rfl ?_
    refine dlo rfl (lop_move (E rfl)) rfl ?_
    refine dlo rfl (lop_move (E rfl)) rfl ?_
    refine dlo rfl (lop_move (E rfl)) rfl ?_
    refine dlo rfl (lop_move (E rfl)) rfl ?_
    refine dlo rfl (lop_move (E rfl)) rfl ?_
    refine z56 ?_
    refine z57 ?_
    refine dlo rfl (lop_move (E rfl)) rfl ?_
    refine dlo rfl (lop_move (E rfl)) rfl ?_
    refine z56 ?_
    refine z57 ?_
    refine z56 ?_
    apply dsto; rfl; infer_instance; rfl; rfl; rfl; rfl; (exact ssetT); (exact atT); (exact putT_); rfl; (exact hbtT)
    refine z56 ?_
    apply dsto; rfl; infer_instance; rfl; rfl; rfl; rfl; (exact ssetT); (exact atT); (exact putT_); rfl; (exact hbtT)
    refine deT ?_
    (refine ctlT ?_)
    rw [show ((L.map encI).set (k : Int).toNat [.int .i64 v]).set ((l.length : Int) - 1 - k).toNat [.int .i64 u] = ((L.set k v).set (l.length - 1 - k) u).map encI by rw [e1, Int.toNat_natCast, List.map_set, List.map_set]; rfl]
    refine rgT ?_
    refine lo (lop_move (E rfl)) rfl ?_
    refine z17 ?_
    refine lo (lop_move (E rfl)) rfl ?_
    refine z19 ?_
    refine lo (lop_assign (E rfl)) rfl ?_
    refine lo (lop_assign (E rfl)) rfl ?_
    refine leT ?_
    (refine ctlT ?_)
    refine ⟨(k + 1, (L.set k v).set (l.length - 1 - k) u), hok', by show l.length - (k + 1) < l.length - k; omega, ?_⟩
    dsimp only
    rw [show ((k + 1 : Nat) : Int) = (k : Int) + 1 by omega, show (l.length : Int) - 1 - ((k : Int) + 1) = (l.length : Int) - 1 - k - 1 by omega]
    (exact sgoT)
  obtain rfl := hok.done (by simp at g1; omega)
  (refine ctlT ?_)
  (apply aend; (exact resT))
  · rfl
  · (exact stleT)
end Go.Proofs.Ytkjfflabapeidaa
/-
  What encloses a place: the program's Targets and the document's.
-/
namespace Go.Proofs.Ytkjfflabapeidaa
open Go.RowKit Go.ChangeShapes Go.WideShapes Go.ChangeAt Go.Deep
set_option linter.unusedSimpArgs false
set_option linter.unusedVariables false
attribute [local irreducible] SW RS RD AThen ABlock

def inB (a : Int) (b : Bk) : Bool := decide ((b.at_ : Int) < a) && decide (a < b.en) && (a != b.els)
def tgN (ops : List Int) (a : Int) : List Int := if a < 0 ∨ (ops.length : Int) ≤ a then [] else (((blN ops).filter (inB a)).map fun b => (b.at_ : Int)).reverse
theorem blN_ok (ops : List Int) : (blN ops).length ≤ ops.length ∧ ∀ b ∈ blN ops, b.at_ < ops.length := by
  unfold blN matchN
  split
  · simp
  split
  · next all h =>
    have := mrun_ok h
    exact ⟨this.all, this.at_⟩
  · simp
def tP (B : List Bk) (a : Int) (j : Nat) : List Int := ((B.take j).filter (inB a)).map fun b => (b.at_ : Int)
theorem tP_len (B : List Bk) (a : Int) (j : Nat) : (tP B a j).length ≤ B.length := by
  unfold tP
  rw [List.length_map]
  refine Nat.le_trans (List.length_filter_le ..) ?_
  simp; omega
theorem tP_yes {B : List Bk} {a : Int} {j : Nat} {b : Bk} (h : B[j]? = some b) (hb : inB a b = true) : tP B a (j + 1) = tP B a j ++ [(b.at_ : Int)] := by
  unfold tP; rw [List.take_add_one, h, List.filter_append]; simp [hb]
theorem tP_no {B : List Bk} {a : Int} {j : Nat} {b : Bk} (h : B[j]? = some b) (hb : inB a b = false) : tP B a (j + 1) = tP B a j := by
  unfold tP; rw [List.take_add_one, h, List.filter_append]; simp [hb]
theorem tP_all {B : List Bk} {a : Int} : tP B a B.length = ((B.filter (inB a)).map fun b => (b.at_ : Int)) := by
  unfold tP; rw [List.take_length]
set_option maxRecDepth 100000 in
theorem code_targets (l : List Ins) (hl : l.length ≤ 100000) (a : Int) : SCall Try.prog 33 [.ro 4 (l.map (iv .any)) .any, .int .i64 a] []
    (fun y σ => ∃ q, y = .own q 0 (tgN (opsOf l) a).length ∧ σ = [(q, .arr 3 1 ((tgN (opsOf l) a).map encI))]) := by
  have hol : (opsOf l).length = l.length := by simp [opsOf]
  obtain ⟨hBl, -⟩ := blN_ok (opsOf l)
  rw [hol] at hBl
  refine scall_of (n := 54) (ks := [0, 1, 4, 5, 7, 9, 17, 23, 24, 25, 26, 44]) Try.func33 rfl rfl (Nat.le_of_ble_eq_true rfl) ?_
  (refine ctlT ?_)
  refine rgT ?_
  refine lo (lop_assign (E rfl)) rfl ?_
  refine leT ?_
  (refine ctlT ?_)
  refine rgT ?_
  refine lo (lop_move (E rfl)) rfl ?_
  refine lo (lop_lss (E rfl) (E rfl)) rfl ?_
  refine lo (lop_move (E rfl)) rfl ?_
  first | refine ln rfl rfl rfl rfl ?_ | (refine gy rfl rfl ?_; refine lo (lop_move (E rfl)) rfl ?_) | refine lg rfl rfl (lop_move (E rfl)) rfl ?_
  first | refine ln rfl rfl rfl rfl ?_ | (refine gy rfl rfl ?_; refine lo (lop_move (E rfl)) rfl ?_) | refine lg rfl rfl (lop_move (E rfl)) rfl ?_
  first | refine ln rfl rfl rfl rfl ?_ | (refine gy rfl rfl ?_; (first | refine lo (lop_len_map (by first | exact W rfl id | exact E rfl)) rfl ?_ | refine lo (lop_len_ro (by first | exact W rfl id | exact E rfl)) rfl ?_ | refine lo (lop_len_own (by first | exact W rfl id | exact E rfl)) rfl ?_)) | refine lg rfl rfl (lop_len_map (by first | exact W rfl id | exact E rfl)) rfl ?_ | refine lg rfl rfl (lop_len_ro (by first | exact W rfl id | exact E rfl)) rfl ?_ | refine lg rfl rfl (lop_len_own (by first | exact W rfl id | exact E rfl)) rfl ?_
  first | refine ln rfl rfl rfl rfl ?_ | (refine gy rfl rfl ?_; refine lo (lop_geq (by first | exact W rfl id | exact E rfl) (by first | exact W rfl id | exact E rfl)) rfl ?_) | refine lg rfl rfl (lop_geq (by first | exact W rfl id | exact E rfl) (by first | exact W rfl id | exact E rfl)) rfl ?_
  first | refine lo (lop_pick_t (E rfl) (E rfl)) rfl ?_ | refine lo (lop_pick_f (E rfl) (by first | exact W rfl (by simp) | exact E rfl)) rfl ?_ | refine lo (lop_pick (E rfl) (E rfl) (by first | exact W rfl (by simp) | exact E rfl)) rfl ?_
  refine leT ?_
  (refine ctlT ?_)
  refine sw_cond rfl (fun g1 => ?_) (fun g1 => ?_)
  · (refine ctlT ?_)
    refine rgT ?_
    refine lo (lop_assign (E rfl)) rfl ?_
    refine leT ?_
    refine an ?_
    refine sw_virt 4 3 1 (by decide) rfl (by decide) (freshT fun q2 hq2 => ?_); (repeat (rcases hq2 with ⟨_, hq2⟩))
    (refine ctlT ?_)
    (apply aend; (exact resT))
    · have hr : a < 0 ∨ (l.length : Int) ≤ a := by replace g1 := bT g1; exact g1
      unfold tgN; rw [hol, if_pos hr]; exact ⟨q2, rfl, rfl⟩
    · (exact stleT)
  have hr : ¬ (a < 0 ∨ (l.length : Int) ≤ a) := by replace g1 := bT g1; omega
  have ht : tgN (opsOf l) a = (tP (blN (opsOf l)) a (blN (opsOf l)).length).reverse := by unfold tgN; rw [hol, if_neg hr, tP_all]
  rw [ht]
  (refine ctlT ?_)
  refine rgT ?_
  refine lo (lop_move (E rfl)) rfl ?_
  refine cw [] Try.call30 (code_match l hl) rfl argsleT stleT ?_
  rintro _ σ' ⟨q3, rfl, rfl⟩ h20
  (apply rs_sto; (exact nflT))
  refine lo (lop_move (E rfl)) rfl ?_
  refine lo (lop_extract (E rfl) rfl) rfl ?_
  refine lo (lop_extract (E rfl) rfl) rfl ?_
  refine lo (lop_assign (E rfl)) rfl ?_
  refine lo (lop_assign (E rfl)) rfl ?_
  refine leT ?_
  (refine ctlT ?_)
  generalize blN (opsOf l) = B at hBl ⊢
  refine fzvs (j := 5) rfl sdelT (bor_own sgT (by simp)) ?_
  refine rgT ?_
  refine lo (lop_assign (E rfl)) rfl ?_
  refine leT ?_
  (refine ctlT ?_)
  refine sw_virt 7 3 1 (by decide) rfl (by decide) (freshT fun o0 ho0 => ?_); (repeat (rcases ho0 with ⟨_, ho0⟩))
  refine rgT ?_
  refine lo (lop_move (E rfl)) rfl ?_
  refine z14 ?_
  refine lo (lop_move (E rfl)) rfl ?_
  refine leT ?_
  (refine ctlT ?_)
  refine lp (β := Nat × Nat) (fun b => ⟨[(1, .int .i64 a), (7, .own b.1 0 (tP B a b.2).length), (23, .ro 3 (B.map encK) .any), (24, .int .i64 B.length), (25, .int .i64 b.2)], [(b.1, .arr 3 1 ((tP B a b.2).map encI))]⟩) (fun b => b.2 ≤ B.length) (fun b => B.length - b.2) (o0, 0) sgoT (Nat.zero_le _) ?_
  rintro ⟨o, j⟩ hj
  have hlen := tP_len B a j
  dsimp only at hj ⊢
  (refine ctlT ?_)
  refine rgT ?_
  refine lo (lop_lss (E rfl) (E rfl)) rfl ?_
  refine leT ?_
  (refine ctlT ?_)
  refine sw_cond rfl (fun g6 => ?_) (fun g6 => ?_)
  · have hlt : j < B.length := by simp at g6; omega
    obtain ⟨b, hb⟩ : ∃ b, B[j]? = some b := ⟨_, List.getElem?_eq_getElem hlt⟩
    (refine ctlT ?_)
    refine rgT ?_
    refine z15 ?_
    first | refine lo (lop_load_el_agg (E rfl) rfl (fun hc => by first | rfl | exact get_map (by assumption) | assumption | exact get_map (at_bang (by omega))) (fun _ => Nat.le_of_ble_eq_true rfl)) rfl ?_ | refine lo (lop_load_ow_agg (E rfl) rfl sgT (fun hc => by first | rfl | exact get_map (by assumption) | assumption | exact get_map (at_bang (by omega))) (fun _ => Nat.le_of_ble_eq_true rfl)) rfl ?_
    apply al; rfl; (exact zcT); refine freshT fun r9 h9 => ?_; (repeat (rcases h9 with ⟨_, h9⟩))
    apply stp; rfl; rfl; rfl; rfl; (exact sputT)
    refine leT ?_
    (refine ctlT ?_)
    refine rgT ?_
    refine z59 ?_
    refine z60 ?_
    refine lo (lop_move (E rfl)) rfl ?_
    refine lo (lop_lss (E rfl) (E rfl)) rfl ?_
    refine lo (lop_move (E rfl)) rfl ?_
    first | refine ln rfl rfl rfl rfl ?_ | (refine gy rfl rfl ?_; refine lo (lop_move (E rfl)) rfl ?_) | refine lg rfl rfl (lop_move (E rfl)) rfl ?_
    first | refine ln rfl rfl rfl rfl ?_ | (refine gy rfl rfl ?_; (first | refine lo (lop_field_ptr (E rfl) rfl (by decide)) rfl ?_ | refine lo (lop_field_el (E rfl) rfl (by decide)) rfl ?_)) | refine lg rfl rfl (lop_field_ptr (E rfl) rfl (by decide)) rfl ?_ | refine lg rfl rfl (lop_field_el (E rfl) rfl (by decide)) rfl ?_
    first | refine ln rfl rfl rfl rfl ?_ | (refine gy rfl rfl ?_; (first | refine lo (lop_load_ptr (by first | exact W rfl id | exact E rfl) rfl sgT (fun _ => rfl)) rfl ?_ | refine lo (lop_load_ptr (by first | exact W rfl id | exact E rfl) rfl sgT (fun _ => by assumption)) rfl ?_ | refine lo (lop_load_el (by first | exact W rfl id | exact E rfl) rfl (fun hc => by first | rfl | exact get_map (by assumption) | assumption | exact get_map (at_bang (by omega))) (fun _ => rfl)) rfl ?_)) | refine lg rfl rfl (lop_load_ptr (by first | exact W rfl id | exact E rfl) rfl sgT (fun _ => rfl)) rfl ?_ | refine lg rfl rfl (lop_load_ptr (by first | exact W rfl id | exact E rfl) rfl sgT (fun _ => by assumption)) rfl ?_ | refine lg rfl rfl (lop_load_el (by first | exact W rfl id | exact E rfl) rfl (fun hc => by first | rfl | exact get_map (by assumption) | assumption | exact get_map (at_bang (by (try simp at hc) <;> omega))) (fun _ => rfl)) rfl ?_
    first | refine ln rfl rfl rfl rfl ?_ | (refine gy rfl rfl ?_; refine lo (lop_lss (by first | exact W rfl id | exact E rfl) (by first | exact W rfl id | exact E rfl)) rfl ?_) | refine lg rfl rfl (lop_lss (by first | exact W rfl id | exact E rfl) (by first | exact W rfl id | exact E rfl)) rfl ?_
    refine z68 ?_
    refine lo (lop_move (E rfl)) rfl ?_
    first | refine ln rfl rfl rfl rfl ?_ | (refine gy rfl rfl ?_; refine lo (lop_move (E rfl)) rfl ?_) | refine lg rfl rfl (lop_move (E rfl)) rfl ?_
    first | refine ln rfl rfl rfl rfl ?_ | (refine gy rfl rfl ?_; (first | refine lo (lop_field_ptr (E rfl) rfl (by decide)) rfl ?_ | refine lo (lop_field_el (E rfl) rfl (by decide)) rfl ?_)) | refine lg rfl rfl (lop_field_ptr (E rfl) rfl (by decide)) rfl ?_ | refine lg rfl rfl (lop_field_el (E rfl) rfl (by decide)) rfl ?_
    first | refine ln rfl rfl rfl rfl ?_ | (refine gy rfl rfl ?_; (first | refine lo (lop_load_ptr (by first | exact W rfl id | exact E rfl) rfl sgT (fun _ => rfl)) rfl ?_ | refine lo (lop_load_ptr (by first | exact W rfl id | exact E rfl) rfl sgT (fun _ => by assumption)) rfl ?_ | refine lo (lop_load_el (by first | exact W rfl id | exact E rfl) rfl (fun hc => by first | rfl | exact get_map (by assumption) | assumption | exact get_map (at_bang (by omega))) (fun _ => rfl)) rfl ?_)) | refine lg rfl rfl (lop_load_ptr (by first | exact W rfl id | exact E rfl) rfl sgT (fun _ => rfl)) rfl ?_ | refine lg rfl rfl (lop_load_ptr (by first | exact W rfl id | exact E rfl) rfl sgT (fun _ => by assumption)) rfl ?_ | refine lg rfl rfl (lop_load_el (by first | exact W rfl id | exact E rfl) rfl (fun hc => by first | rfl | exact get_map (by assumption) | assumption | exact get_map (at_bang (by (try simp at hc) <;> omega))) (fun _ => rfl)) rfl ?_
    first | refine ln rfl rfl rfl rfl ?_ | (refine gy rfl rfl ?_; refine lo (lop_neq (by first | exact W rfl id | exact E rfl) (by first | exact W rfl id | exact E rfl)) rfl ?_) | refine lg rfl rfl (lop_neq (by first | exact W rfl id | exact E rfl) (by first | exact W rfl id | exact E rfl)) rfl ?_
    refine z68 ?_
    refine leT ?_
    (refine ctlT ?_)
    refine sw_cond rfl (fun g8 => ?_) (fun g8 => ?_)
    · have hn := tP_yes hb (a := a) (by unfold inB; replace g8 := bT g8; simp; omega)
      (refine ctlT ?_)
      refine rgT ?_
      refine lo (lop_move (E rfl)) rfl ?_
      refine z59 ?_
      refine z60 ?_
      refine z1 ?_; refine freshT fun r48 h48 => ?_; (repeat (rcases h48 with ⟨_, h48⟩))
      refine apA ((tP B a j ++ [(b.at_ : Int)]).map encI) (tP B a j ++ [(b.at_ : Int)]).length ?_
      refine apnT fun r49 h49 => ?_; (repeat (rcases h49 with ⟨_, h49⟩))
      refine lo (lop_assign (E rfl)) rfl ?_
      refine leT ?_
      (refine ctlT ?_)
      obtain ⟨O, rfl⟩ : ∃ O, O = r49 := ⟨_, rfl⟩
      refine rgT ?_
      refine z17 ?_
      refine lo (lop_move (E rfl)) rfl ?_
      refine leT ?_
      (refine ctlT ?_)
      refine ⟨(O, j + 1), hlt, by show B.length - (j + 1) < B.length - j; omega, ?_⟩
      dsimp only
      rw [hn]
      (exact sgoT)
    have hn := tP_no hb (a := a) (by unfold inB; simp only [if_and] at g8; exact g8)
    obtain ⟨O, rfl⟩ : ∃ O, O = o := ⟨_, rfl⟩
    (refine ctlT ?_)
    refine rgT ?_
    refine z17 ?_
    refine lo (lop_move (E rfl)) rfl ?_
    refine leT ?_
    (refine ctlT ?_)
    refine ⟨(O, j + 1), hlt, by show B.length - (j + 1) < B.length - j; omega, ?_⟩
    dsimp only
    rw [hn]
    (exact sgoT)
  obtain rfl : j = B.length := by simp at g6; omega
  (refine ctlT ?_)
  refine rgT ?_
  refine lo (lop_move (E rfl)) rfl ?_
  refine cw [(o, .arr 3 1 ((tP B a B.length).map encI))] Try.call58 (slices_reverse o (tP B a B.length) (by omega)) rfl argsleT stleT ?_
  rintro _ σ' rfl h52
  (apply rs_sto; (exact nflT))
  refine leT ?_
  (refine ctlT ?_)
  refine rgT ?_
  refine lo (lop_move (E rfl)) rfl ?_
  refine lo (lop_assign (E rfl)) rfl ?_
  refine leT ?_
  (refine ctlT ?_)
  (apply aend; (exact resT))
  · exact ⟨o, by rw [List.length_reverse]; rfl, rfl⟩
  · (exact stleT)
def inR (n a : Int) (b : Bk) : Bool := decide (0 ≤ a) && decide (a < n) && inB a b
def tR (B : List Bk) (n a : Int) (k : Nat) : List Int := (((B.drop k).filter (inR n a)).map fun b => (b.at_ : Int)).reverse
theorem tR_len (B : List Bk) (n a : Int) (k : Nat) : (tR B n a k).length ≤ B.length := by
  unfold tR
  rw [List.length_reverse, List.length_map]
  refine Nat.le_trans (List.length_filter_le ..) ?_
  simp
theorem tR_yes {B : List Bk} {n a : Int} {j : Nat} {b : Bk} (h : B[j]? = some b) (hb : inR n a b = true) : tR B n a j = tR B n a (j + 1) ++ [(b.at_ : Int)] := by
  obtain ⟨hj, hx⟩ := List.getElem?_eq_some_iff.1 h
  unfold tR; rw [List.drop_eq_getElem_cons hj, hx]; simp [hb]
theorem tR_no {B : List Bk} {n a : Int} {j : Nat} {b : Bk} (h : B[j]? = some b) (hb : inR n a b = false) : tR B n a j = tR B n a (j + 1) := by
  obtain ⟨hj, hx⟩ := List.getElem?_eq_some_iff.1 h
  unfold tR; rw [List.drop_eq_getElem_cons hj, hx]; simp [hb]
theorem tR_all {ops : List Int} {a : Int} : tR (blN ops) ops.length a 0 = tgN ops a := by
  unfold tR tgN
  rw [List.drop_zero]
  split
  · next h =>
    have : ∀ b, inR ops.length a b = false := fun b => by unfold inR; simp; omega
    rw [List.filter_eq_nil_iff.2 (fun b _ => by simp [this b])]
    rfl
  · next h =>
    have : ∀ b, inR ops.length a b = inB a b := fun b => by
      unfold inR; rw [decide_eq_true (by omega), decide_eq_true (by omega)]; rfl
    rw [List.filter_congr (fun b _ => this b)]
set_option maxRecDepth 100000 in
theorem ref_targets (l : List Ins) (hl : l.length ≤ 100000) (a : Int) : SCall Try.prog 34 [.ro 4 (l.map (iv .any)) .any, .int .i64 a] []
    (fun y σ => ∃ q, y = .own q 0 (tgN (opsOf l) a).length ∧ σ = [(q, .arr 3 1 ((tgN (opsOf l) a).map encI))]) := by
  have hol : (opsOf l).length = l.length := by simp [opsOf]
  obtain ⟨hBl, -⟩ := blN_ok (opsOf l)
  rw [hol] at hBl
  rw [← tR_all, hol]
  refine scall_of (n := 65) (ks := [0, 1, 4, 5, 7, 8, 18, 55]) Try.func34 rfl rfl (Nat.le_of_ble_eq_true rfl) ?_
  (refine ctlT ?_)
  refine rgT ?_
  refine lo (lop_assign (E rfl)) rfl ?_
  refine leT ?_
  (refine ctlT ?_)
  refine rgT ?_
  refine lo (lop_move (E rfl)) rfl ?_
  refine cw [] Try.call31 (ref_match l hl) rfl argsleT stleT ?_
  rintro _ σ' ⟨q3, rfl, rfl⟩ h11
  (apply rs_sto; (exact nflT))
  refine lo (lop_move (E rfl)) rfl ?_
  refine lo (lop_extract (E rfl) rfl) rfl ?_
  refine lo (lop_extract (E rfl) rfl) rfl ?_
  refine lo (lop_assign (E rfl)) rfl ?_
  refine lo (lop_assign (E rfl)) rfl ?_
  refine leT ?_
  (refine ctlT ?_)
  generalize blN (opsOf l) = B at hBl ⊢
  refine fzvs (j := 5) rfl sdelT (bor_own sgT (by simp)) ?_
  refine rgT ?_
  refine lo (lop_assign (E rfl)) rfl ?_
  refine leT ?_
  (refine ctlT ?_)
  refine sw_virt 7 3 1 (by decide) rfl (by decide) (freshT fun o0 ho0 => ?_); (repeat (rcases ho0 with ⟨_, ho0⟩))
  refine rgT ?_
  refine lo (lop_move (E rfl)) rfl ?_
  refine z14 ?_
  refine z19 ?_
  refine lo (lop_assign (E rfl)) rfl ?_
  refine leT ?_
  (refine ctlT ?_)
  refine lp (β := Nat × Nat) (fun b => ⟨[(0, .ro 4 (l.map (iv .any)) .any), (1, .int .i64 a), (5, .ro 3 (B.map encK) .any), (7, .own b.1 0 (tR B l.length a b.2).length), (8, .int .i64 ((b.2 : Int) - 1))], [(b.1, .arr 3 1 ((tR B l.length a b.2).map encI))]⟩) (fun b => b.2 ≤ B.length) (fun b => b.2) (o0, B.length) ?_ (Nat.le_refl _) ?_
  · dsimp only; rw [show tR B l.length a B.length = [] by unfold tR; rw [List.drop_length]; rfl]; (exact sgoT)
  rintro ⟨o, k⟩ hk
  have hlen := tR_len B l.length a k
  dsimp only at hk ⊢
  (refine ctlT ?_)
  refine rgT ?_
  refine lo (lop_move (E rfl)) rfl ?_
  refine lo (lop_geq (E rfl) (E rfl)) rfl ?_
  refine leT ?_
  (refine ctlT ?_)
  refine sw_cond rfl (fun g4 => ?_) (fun g4 => ?_)
  · obtain ⟨j, rfl⟩ : ∃ j, k = j + 1 := ⟨k - 1, by simp at g4; omega⟩
    have hlt : j < B.length := hk
    obtain ⟨b, hb⟩ : ∃ b, B[j]? = some b := ⟨_, List.getElem?_eq_getElem hlt⟩
    have hb' : B[(((j + 1 : Nat) : Int) - 1).toNat]? = some b := by rw [show (((j + 1 : Nat) : Int) - 1).toNat = j by omega]; exact hb
    (refine ctlT ?_)
    refine rgT ?_
    refine lo (lop_move (E rfl)) rfl ?_
    refine lo (lop_geq (E rfl) (E rfl)) rfl ?_
    refine lo (lop_move (E rfl)) rfl ?_
    first | refine ln rfl rfl rfl rfl ?_ | (refine gy rfl rfl ?_; refine lo (lop_move (E rfl)) rfl ?_) | refine lg rfl rfl (lop_move (E rfl)) rfl ?_
    first | refine ln rfl rfl rfl rfl ?_ | (refine gy rfl rfl ?_; refine lo (lop_move (E rfl)) rfl ?_) | refine lg rfl rfl (lop_move (E rfl)) rfl ?_
    first | refine ln rfl rfl rfl rfl ?_ | (refine gy rfl rfl ?_; (first | refine lo (lop_len_map (by first | exact W rfl id | exact E rfl)) rfl ?_ | refine lo (lop_len_ro (by first | exact W rfl id | exact E rfl)) rfl ?_ | refine lo (lop_len_own (by first | exact W rfl id | exact E rfl)) rfl ?_)) | refine lg rfl rfl (lop_len_map (by first | exact W rfl id | exact E rfl)) rfl ?_ | refine lg rfl rfl (lop_len_ro (by first | exact W rfl id | exact E rfl)) rfl ?_ | refine lg rfl rfl (lop_len_own (by first | exact W rfl id | exact E rfl)) rfl ?_
    first | refine ln rfl rfl rfl rfl ?_ | (refine gy rfl rfl ?_; refine lo (lop_lss (by first | exact W rfl id | exact E rfl) (by first | exact W rfl id | exact E rfl)) rfl ?_) | refine lg rfl rfl (lop_lss (by first | exact W rfl id | exact E rfl) (by first | exact W rfl id | exact E rfl)) rfl ?_
    refine z68 ?_
    refine lo (lop_move (E rfl)) rfl ?_
    first | refine ln rfl rfl rfl rfl ?_ | (refine gy rfl rfl ?_; refine lo (lop_move (E rfl)) rfl ?_) | refine lg rfl rfl (lop_move (E rfl)) rfl ?_
    first | refine ln rfl rfl rfl rfl ?_ | (refine gy rfl rfl ?_; refine lo (lop_move (E rfl)) rfl ?_) | refine lg rfl rfl (lop_move (E rfl)) rfl ?_
    first | refine ln rfl rfl rfl rfl ?_ | (refine gy rfl rfl ?_; (first | refine lo (lop_index_ro (by first | exact W rfl id | exact E rfl) (by first | exact W rfl id | exact E rfl) (fun hc => by (simp only [List.length_map]; omega))) rfl ?_ | refine lo (lop_index_own0 (by first | exact W rfl id | exact E rfl) sgT (by first | exact W rfl id | exact E rfl) (fun hc => by omega)) rfl ?_ | refine lo (lop_index_own (by first | exact W rfl id | exact E rfl) sgT (by first | exact W rfl id | exact E rfl) (fun hc => by omega)) rfl ?_)) | refine lg rfl rfl (lop_index_ro (by first | exact W rfl id | exact E rfl) (by first | exact W rfl id | exact E rfl) (fun hc => by (try simp at hc) <;> (simp only [List.length_map]; omega))) rfl ?_ | refine lg rfl rfl (lop_index_own0 (by first | exact W rfl id | exact E rfl) sgT (by first | exact W rfl id | exact E rfl) (fun hc => by (try simp at hc) <;> omega)) rfl ?_ | refine lg rfl rfl (lop_index_own (by first | exact W rfl id | exact E rfl) sgT (by first | exact W rfl id | exact E rfl) (fun hc => by (try simp at hc) <;> omega)) rfl ?_
    first | refine ln rfl rfl rfl rfl ?_ | (refine gy rfl rfl ?_; (first | refine lo (lop_field_el (by first | exact W rfl id | exact E rfl) rfl (by decide)) rfl ?_ | refine lo (lop_field_ow (by first | exact W rfl id | exact E rfl) rfl (by decide)) rfl ?_)) | refine lg rfl rfl (lop_field_el (by first | exact W rfl id | exact E rfl) rfl (by decide)) rfl ?_ | refine lg rfl rfl (lop_field_ow (by first | exact W rfl id | exact E rfl) rfl (by decide)) rfl ?_
    first | refine ln rfl rfl rfl rfl ?_ | (refine gy rfl rfl ?_; (first | refine lo (lop_load_el (by first | exact W rfl id | exact E rfl) rfl (fun hc => by first | rfl | exact get_map (by assumption) | assumption | exact get_map (at_bang (by omega))) (fun _ => rfl)) rfl ?_ | refine lo (lop_load_ow (by first | exact W rfl id | exact E rfl) rfl sgT (fun hc => by first | rfl | exact get_map (by assumption) | assumption | exact get_map (at_bang (by omega))) (fun _ => rfl)) rfl ?_)) | refine lg rfl rfl (lop_load_el (by first | exact W rfl id | exact E rfl) rfl (fun hc => by first | rfl | exact get_map (by assumption) | assumption | exact get_map (at_bang (by (try simp at hc) <;> omega))) (fun _ => rfl)) rfl ?_ | refine lg rfl rfl (lop_load_ow (by first | exact W rfl id | exact E rfl) rfl sgT (fun hc => by first | rfl | exact get_map (by assumption) | assumption | exact get_map (at_bang (by (try simp at hc) <;> omega))) (fun _ => rfl)) rfl ?_
    first | refine ln rfl rfl rfl rfl ?_ | (refine gy rfl rfl ?_; refine lo (lop_move (E rfl)) rfl ?_) | refine lg rfl rfl (lop_move (E rfl)) rfl ?_
    first | refine ln rfl rfl rfl rfl ?_ | (refine gy rfl rfl ?_; refine lo (lop_lss (by first | exact W rfl id | exact E rfl) (by first | exact W rfl id | exact E rfl)) rfl ?_) | refine lg rfl rfl (lop_lss (by first | exact W rfl id | exact E rfl) (by first | exact W rfl id | exact E rfl)) rfl ?_
    refine z68 ?_
    refine lo (lop_move (E rfl)) rfl ?_
    first | refine ln rfl rfl rfl rfl ?_ | (refine gy rfl rfl ?_; refine lo (lop_move (E rfl)) rfl ?_) | refine lg rfl rfl (lop_move (E rfl)) rfl ?_
    first | refine ln rfl rfl rfl rfl ?_ | (refine gy rfl rfl ?_; refine lo (lop_move (E rfl)) rfl ?_) | refine lg rfl rfl (lop_move (E rfl)) rfl ?_
    first | refine ln rfl rfl rfl rfl ?_ | (refine gy rfl rfl ?_; refine lo (lop_move (E rfl)) rfl ?_) | refine lg rfl rfl (lop_move (E rfl)) rfl ?_
    first | refine ln rfl rfl rfl rfl ?_ | (refine gy rfl rfl ?_; (first | refine lo (lop_index_ro (by first | exact W rfl id | exact E rfl) (by first | exact W rfl id | exact E rfl) (fun hc => by (simp only [List.length_map]; omega))) rfl ?_ | refine lo (lop_index_own0 (by first | exact W rfl id | exact E rfl) sgT (by first | exact W rfl id | exact E rfl) (fun hc => by omega)) rfl ?_ | refine lo (lop_index_own (by first | exact W rfl id | exact E rfl) sgT (by first | exact W rfl id | exact E rfl) (fun hc => by omega)) rfl ?_)) | refine lg rfl rfl (lop_index_ro (by first | exact W rfl id | exact E rfl) (by first | exact W rfl id | exact E rfl) (fun hc => by (try simp at hc) <;> (simp only [List.length_map]; omega))) rfl ?_ | refine lg rfl rfl (lop_index_own0 (by first | exact W rfl id | exact E rfl) sgT (by first | exact W rfl id | exact E rfl) (fun hc => by (try simp at hc) <;> omega)) rfl ?_ | refine lg rfl rfl (lop_index_own (by first | exact W rfl id | exact E rfl) sgT (by first | exact W rfl id | exact E rfl) (fun hc => by (try simp at hc) <;> omega)) rfl ?_
    first | refine ln rfl rfl rfl rfl ?_ | (refine gy rfl rfl ?_; (first | refine lo (lop_field_el (by first | exact W rfl id | exact E rfl) rfl (by decide)) rfl ?_ | refine lo (lop_field_ow (by first | exact W rfl id | exact E rfl) rfl (by decide)) rfl ?_)) | refine lg rfl rfl (lop_field_el (by first | exact W rfl id | exact E rfl) rfl (by decide)) rfl ?_ | refine lg rfl rfl (lop_field_ow (by first | exact W rfl id | exact E rfl) rfl (by decide)) rfl ?_
    first | refine ln rfl rfl rfl rfl ?_ | (refine gy rfl rfl ?_; (first | refine lo (lop_load_el (by first | exact W rfl id | exact E rfl) rfl (fun hc => by first | rfl | exact get_map (by assumption) | assumption | exact get_map (at_bang (by omega))) (fun _ => rfl)) rfl ?_ | refine lo (lop_load_ow (by first | exact W rfl id | exact E rfl) rfl sgT (fun hc => by first | rfl | exact get_map (by assumption) | assumption | exact get_map (at_bang (by omega))) (fun _ => rfl)) rfl ?_)) | refine lg rfl rfl (lop_load_el (by first | exact W rfl id | exact E rfl) rfl (fun hc => by first | rfl | exact get_map (by assumption) | assumption | exact get_map (at_bang (by (try simp at hc) <;> omega))) (fun _ => rfl)) rfl ?_ | refine lg rfl rfl (lop_load_ow (by first | exact W rfl id | exact E rfl) rfl sgT (fun hc => by first | rfl | exact get_map (by assumption) | assumption | exact get_map (at_bang (by (try simp at hc) <;> omega))) (fun _ => rfl)) rfl ?_
    first | refine ln rfl rfl rfl rfl ?_ | (refine gy rfl rfl ?_; refine lo (lop_lss (by first | exact W rfl id | exact E rfl) (by first | exact W rfl id | exact E rfl)) rfl ?_) | refine lg rfl rfl (lop_lss (by first | exact W rfl id | exact E rfl) (by first | exact W rfl id | exact E rfl)) rfl ?_
    refine z68 ?_
    refine lo (lop_move (E rfl)) rfl ?_
    first | refine ln rfl rfl rfl rfl ?_ | (refine gy rfl rfl ?_; refine lo (lop_move (E rfl)) rfl ?_) | refine lg rfl rfl (lop_move (E rfl)) rfl ?_
    first | refine ln rfl rfl rfl rfl ?_ | (refine gy rfl rfl ?_; refine lo (lop_move (E rfl)) rfl ?_) | refine lg rfl rfl (lop_move (E rfl)) rfl ?_
    first | refine ln rfl rfl rfl rfl ?_ | (refine gy rfl rfl ?_; refine lo (lop_move (E rfl)) rfl ?_) | refine lg rfl rfl (lop_move (E rfl)) rfl ?_
    first | refine ln rfl rfl rfl rfl ?_ | (refine gy rfl rfl ?_; (first | refine lo (lop_index_ro (by first | exact W rfl id | exact E rfl) (by first | exact W rfl id | exact E rfl) (fun hc => by (simp only [List.length_map]; omega))) rfl ?_ | refine lo (lop_index_own0 (by first | exact W rfl id | exact E rfl) sgT (by first | exact W rfl id | exact E rfl) (fun hc => by omega)) rfl ?_ | refine lo (lop_index_own (by first | exact W rfl id | exact E rfl) sgT (by first | exact W rfl id | exact E rfl) (fun hc => by omega)) rfl ?_)) | refine lg rfl rfl (lop_index_ro (by first | exact W rfl id | exact E rfl) (by first | exact W rfl id | exact E rfl) (fun hc => by (try simp at hc) <;> (simp only [List.length_map]; omega))) rfl ?_ | refine lg rfl rfl (lop_index_own0 (by first | exact W rfl id | exact E rfl) sgT (by first | exact W rfl id | exact E rfl) (fun hc => by (try simp at hc) <;> omega)) rfl ?_ | refine lg rfl rfl (lop_index_own (by first | exact W rfl id | exact E rfl) sgT (by first | exact W rfl id | exact E rfl) (fun hc => by (try simp at hc) <;> omega)) rfl ?_
    first | refine ln rfl rfl rfl rfl ?_ | (refine gy rfl rfl ?_; (first | refine lo (lop_field_el (by first | exact W rfl id | exact E rfl) rfl (by decide)) rfl ?_ | refine lo (lop_field_ow (by first | exact W rfl id | exact E rfl) rfl (by decide)) rfl ?_)) | refine lg rfl rfl (lop_field_el (by first | exact W rfl id | exact E rfl) rfl (by decide)) rfl ?_ | refine lg rfl rfl (lop_field_ow (by first | exact W rfl id | exact E rfl) rfl (by decide)) rfl ?_
    first | refine ln rfl rfl rfl rfl ?_ | (refine gy rfl rfl ?_; (first | refine lo (lop_load_el (by first | exact W rfl id | exact E rfl) rfl (fun hc => by first | rfl | exact get_map (by assumption) | assumption | exact get_map (at_bang (by omega))) (fun _ => rfl)) rfl ?_ | refine lo (lop_load_ow (by first | exact W rfl id | exact E rfl) rfl sgT (fun hc => by first | rfl | exact get_map (by assumption) | assumption | exact get_map (at_bang (by omega))) (fun _ => rfl)) rfl ?_)) | refine lg rfl rfl (lop_load_el (by first | exact W rfl id | exact E rfl) rfl (fun hc => by first | rfl | exact get_map (by assumption) | assumption | exact get_map (at_bang (by (try simp at hc) <;> omega))) (fun _ => rfl)) rfl ?_ | refine lg rfl rfl (lop_load_ow (by first | exact W rfl id | exact E rfl) rfl sgT (fun hc => by first | rfl | exact get_map (by assumption) | assumption | exact get_map (at_bang (by (try simp at hc) <;> omega))) (fun _ => rfl)) rfl ?_
    first | refine ln rfl rfl rfl rfl ?_ | (refine gy rfl rfl ?_; refine lo (lop_neq (by first | exact W rfl id | exact E rfl) (by first | exact W rfl id | exact E rfl)) rfl ?_) | refine lg rfl rfl (lop_neq (by first | exact W rfl id | exact E rfl) (by first | exact W rfl id | exact E rfl)) rfl ?_
    refine z68 ?_
    refine leT ?_
    (refine ctlT ?_)
    refine sw_cond rfl (fun g6 => ?_) (fun g6 => ?_)
    · have hn := tR_yes hb (n := l.length) (a := a) (by unfold inR inB; replace g6 := bT g6; simp; omega)
      (refine ctlT ?_)
      refine rgT ?_
      refine lo (lop_move (E rfl)) rfl ?_
      refine lo (lop_move (E rfl)) rfl ?_
      refine lo (lop_move (E rfl)) rfl ?_
      refine z15 ?_
      first | refine lo (lop_field_el (E rfl) rfl (by decide)) rfl ?_ | refine lo (lop_field_ow (E rfl) rfl (by decide)) rfl ?_
      refine z16 ?_
      refine z1 ?_; refine freshT fun r62 h62 => ?_; (repeat (rcases h62 with ⟨_, h62⟩))
      refine apA ((tR B l.length a (j + 1) ++ [(b.at_ : Int)]).map encI) (tR B l.length a (j + 1) ++ [(b.at_ : Int)]).length ?_
      refine apnT fun r63 h63 => ?_; (repeat (rcases h63 with ⟨_, h63⟩))
      refine lo (lop_assign (E rfl)) rfl ?_
      refine leT ?_
      (refine ctlT ?_)
      obtain ⟨O, rfl⟩ : ∃ O, O = r63 := ⟨_, rfl⟩
      refine rgT ?_
      refine lo (lop_move (E rfl)) rfl ?_
      refine z19 ?_
      refine lo (lop_assign (E rfl)) rfl ?_
      refine leT ?_
      (refine ctlT ?_)
      refine ⟨(O, j), Nat.le_of_lt hlt, Nat.lt_succ_self _, ?_⟩
      dsimp only
      rw [hn, show (j : Int) - 1 = ((j + 1 : Nat) : Int) - 1 - 1 by omega]
      (exact sgoT)
    have hn := tR_no hb (n := l.length) (a := a) (by unfold inR inB; simp only [if_and] at g6; simp only [Bool.and_assoc] at g6 ⊢; exact g6)
    obtain ⟨O, rfl⟩ : ∃ O, O = o := ⟨_, rfl⟩
    (refine ctlT ?_)
    refine rgT ?_
    refine lo (lop_move (E rfl)) rfl ?_
    refine z19 ?_
    refine lo (lop_assign (E rfl)) rfl ?_
    refine leT ?_
    (refine ctlT ?_)
    refine ⟨(O, j), Nat.le_of_lt hlt, Nat.lt_succ_self _, ?_⟩
    dsimp only
    rw [hn, show (j : Int) - 1 = ((j + 1 : Nat) : Int) - 1 - 1 by omega]
    (exact sgoT)
  obtain rfl : k = 0 := by simp at g4; omega
  (refine ctlT ?_)
  refine rgT ?_
  refine lo (lop_move (E rfl)) rfl ?_
  refine lo (lop_assign (E rfl)) rfl ?_
  refine leT ?_
  (refine ctlT ?_)
  (apply aend; (exact resT))
  · exact ⟨o, rfl, rfl⟩
  · (exact stleT)
end Go.Proofs.Ytkjfflabapeidaa
/-
  What is read as an instruction is the instruction's own bytes: plain words.
-/
namespace Go.Proofs.Ytkjfflabapeidaa
open Go.RowKit Go.ChangeShapes Go.WideShapes Go.ChangeAt Go.Deep
set_option linter.unusedSimpArgs false
set_option linter.unusedVariables false

/-- between n and m stand the bytes p -/
def Sp (l : List Nat) (n m : Nat) (p : List Nat) : Prop := l.drop n = p ++ l.drop m ∧ m = n + p.length ∧ m ≤ l.length
theorem Sp.trans {l : List Nat} {n m k : Nat} {p q : List Nat} (h : Sp l n m p) (g : Sp l m k q) : Sp l n k (p ++ q) :=
  ⟨by rw [h.1, g.1, List.append_assoc], by rw [g.2.1, h.2.1, List.length_append]; omega, g.2.2⟩
theorem Sp.nil {l : List Nat} {n : Nat} (h : n ≤ l.length) : Sp l n n [] := ⟨rfl, by simp, h⟩
theorem sp_take {l : List Nat} {n k : Nat} (h : n + k ≤ l.length) : Sp l n (n + k) ((l.drop n).take k) := by
  have hk : ((l.drop n).take k).length = k := by simp; omega
  refine ⟨?_, by rw [hk], h⟩
  rw [← List.drop_drop]
  exact (List.take_append_drop k (l.drop n)).symm
theorem rdB_sp {l : List Nat} {n : Nat} (hn : n ≤ l.length) (h : (rdB l n 0).2.2 = 0) : Sp l n (rdB l n 0).2.1 [(rdB l n 0).1] ∧ (rdB l n 0).1 ∈ l := by
  unfold rdB at h ⊢
  rw [if_neg (by simp)] at h ⊢
  by_cases hc : ((n : Int) == (l.length : Int)) = true
  · rw [if_pos hc] at h; cases h
  · rw [if_neg hc]
    have hlt : n < l.length := by simp at hc; omega
    dsimp only
    rw [getElem!_pos l n hlt]
    exact ⟨⟨by rw [List.drop_eq_getElem_cons hlt]; rfl, rfl, hlt⟩, List.getElem_mem hlt⟩
theorem rdU_sp {l : List Nat} {lim : Int} {n : Nat} (hn : n ≤ l.length) (h : (rdU l lim n 0).2.2 = 0) : Sp l n (rdU l lim n 0).2.1 (uB (rdU l lim n 0).1) ∧ ((rdU l lim n 0).1 : Int) ≤ lim ∧ (rdU l lim n 0).1 < 4294967296 := by
  obtain ⟨b1, b2, -⟩ := getU_bd (l.drop n)
  unfold rdU at h ⊢
  rw [if_neg (by simp)] at h ⊢
  split at h
  · next h1 => simp at h1; exact absurd h (by simpa using h1)
  · next h1 =>
    rw [if_neg h1]
    split at h
    · cases h
    · next h2 =>
      rw [if_neg h2]
      dsimp only
      simp only [decide_eq_true_eq, Int.not_lt] at h2
      refine ⟨?_, h2, b1⟩
      simp only [bne_iff_ne, ne_eq, Decidable.not_not] at h1
      unfold getU at h1 b2 ⊢
      split at h1
      · next h3 => exact absurd h1 h3
      · next h3 =>
        rw [if_neg h3] at b2 ⊢
        split at h1
        · next h4 =>
          rw [if_pos h4] at b2 ⊢
          rw [h4.1]
          simp at b2
          exact sp_take (by simp; omega)
        · cases h1
theorem wrap_i64_bd (n : Int) : -9223372036854775808 ≤ IntKind.i64.wrap n ∧ IntKind.i64.wrap n ≤ 9223372036854775807 := by
  have h1 : (2 : Int) ^ IntKind.i64.bits = 18446744073709551616 := by decide
  have h3 : (2 : Int) ^ (IntKind.i64.bits - 1) = 9223372036854775808 := by decide
  have h2 : IntKind.i64.signed = true := rfl
  unfold IntKind.wrap
  simp only [h1, h2, h3, Bool.true_and, decide_eq_true_eq]
  split <;> omega
theorem rdS_sp {l : List Nat} {bits : Nat} (hb : bits = 32 ∨ bits = 64) {n : Nat} (hn : n ≤ l.length) (h : (rdS l bits n).2.2 = 0) : Sp l n (rdS l bits n).2.1 (sB (rdS l bits n).1) ∧ (-9223372036854775808 ≤ (rdS l bits n).1 ∧ (rdS l bits n).1 ≤ 9223372036854775807) ∧ (bits = 32 → -2147483648 ≤ (rdS l bits n).1 ∧ (rdS l bits n).1 ≤ 2147483647) := by
  have hv : ∀ t : List Nat, -9223372036854775808 ≤ valS t ∧ valS t ≤ 9223372036854775807 := by
    intro t
    match t with
    | [] => simp [valS]
    | [b] => unfold valS; split <;> omega
    | b :: c :: t =>
      rw [valS]
      exact wrap_i64_bd _
  have b2 := getS_bd bits (l.drop n)
  unfold rdS at h ⊢
  dsimp only at h ⊢
  unfold getS at h b2 ⊢
  split at h
  · next h3 => exact absurd h h3
  · next h3 =>
    rw [if_neg h3] at b2 ⊢
    split at h
    · next h4 =>
      rw [if_pos h4] at b2 ⊢
      dsimp only at b2 ⊢
      refine ⟨?_, hv _, h4.2⟩
      rw [h4.1]
      simp at b2
      exact sp_take (by omega)
    · cases h
theorem rdZ_sp {l : List Nat} {n : Nat} (hn : n ≤ l.length) (h : (rdZ l n 0).2 = 0) : Sp l n (rdZ l n 0).1 [0] := by
  unfold rdZ at h ⊢
  split at h
  · cases h
  · next h1 =>
    rw [if_neg h1]
    have := (rdB_sp hn h).1
    rw [show (rdB l n 0).1 = 0 by simpa using h1] at this
    exact this
theorem rdB_ne {l : List Nat} {n : Nat} {e : Int} (h : e ≠ 0) : rdB l n e = (0, n, e) := by unfold rdB; rw [if_pos (by simpa using h)]
theorem rdU_ne {l : List Nat} {lim : Int} {n : Nat} {e : Int} (h : e ≠ 0) : rdU l lim n e = (0, n, e) := by unfold rdU; rw [if_pos (by simpa using h)]
theorem rdK_sp {l : List Nat} {n : Nat} (hn : n ≤ l.length) (h : (rdK l n 0).2.2 = 0) : Sp l n (rdK l n 0).2.1 [kindB (rdK l n 0).1] ∧ 0 ≤ (rdK l n 0).1 ∧ (rdK l n 0).1 ≤ 2 := by
  unfold rdK at h ⊢
  by_cases h1 : (if decide (kindI (rdB l n 0).1 < 0) = true then ((rdB l n 0).2.2 == 0) else false) = true
  · rw [if_pos h1] at h; cases h
  · rw [if_neg h1] at h ⊢
    dsimp only at h ⊢
    obtain ⟨s, -⟩ := rdB_sp hn h
    have hk : ¬ kindI (rdB l n 0).1 < 0 := by
      intro hk
      rw [h, if_pos (by simpa using hk)] at h1
      exact h1 rfl
    rw [if_neg hk]
    generalize hc : (rdB l n 0).1 = c at hk s ⊢
    have : c = 64 ∨ c = 127 ∨ c = 126 := by
      by_cases c1 : c = 64
      · exact .inl c1
      by_cases c2 : c = 127
      · exact .inr (.inl c2)
      by_cases c3 : c = 126
      · exact .inr (.inr c3)
      exfalso
      apply hk
      unfold kindI idxN
      rw [show ([64, 127, 126] : List Int).findIdx? (· == (c : Int)) = none by
        simp only [List.findIdx?_cons, List.findIdx?_nil]
        rw [if_neg (by simp; omega), if_neg (by simp; omega), if_neg (by simp; omega)]; rfl]
      decide
    rcases this with rfl | rfl | rfl <;> exact ⟨s, by decide, by decide⟩
theorem rdL_ne {l : List Nat} {n : Nat} {e : Int} (h : e ≠ 0) : ∀ m, (rdL l m n e).2.2 ≠ 0
  | 0 => h
  | m + 1 => by
    rw [rdL]
    dsimp only
    rw [rdU_ne (rdL_ne h m)]
    exact rdL_ne h m
theorem rdL_sp {l : List Nat} {n : Nat} (hn : n ≤ l.length) : ∀ m, (rdL l m n 0).2.2 = 0 → Sp l n (rdL l m n 0).2.1 ((rdL l m n 0).1.flatMap fun z => uB z.toNat) ∧ ∀ z ∈ (rdL l m n 0).1, 0 ≤ z ∧ z ≤ 1000
  | 0, _ => ⟨Sp.nil hn, by simp [rdL]⟩
  | m + 1, h => by
    rw [rdL] at h ⊢
    dsimp only at h ⊢
    have h0 : (rdL l m n 0).2.2 = 0 := by
      by_cases hc : (rdL l m n 0).2.2 = 0
      · exact hc
      · rw [rdU_ne hc] at h; exact h
    obtain ⟨s, hz⟩ := rdL_sp hn m h0
    rw [h0] at h ⊢
    obtain ⟨s2, h2, -⟩ := rdU_sp s.2.2 h
    refine ⟨?_, fun z hz2 => ?_⟩
    · rw [List.flatMap_append]
      simpa using s.trans s2
    · rcases List.mem_append.1 hz2 with hz2 | hz2
      · exact hz z hz2
      · rw [List.mem_singleton.1 hz2]; omega
theorem fin_ok {x : Ins} {n : Nat} {e : Int} (h : (fin x n e).2.2 = 0) : e = 0 ∧ fin x n e = (x, n, 0) := by
  unfold fin at h ⊢
  by_cases he : e = 0
  · subst he; exact ⟨rfl, rfl⟩
  · rw [if_pos (by simpa using he)] at h; exact absurd h he
theorem rdZ_ne {l : List Nat} {n : Nat} {e : Int} (h : e ≠ 0) : (rdZ l n e).2 ≠ 0 := by unfold rdZ; rw [rdB_ne h, if_neg (by simp)]; exact h
theorem formN_rng (op : Int) : formN op = 0 ∨ formN op = 1 ∨ formN op = 2 ∨ formN op = 3 ∨ formN op = 4 ∨ formN op = 5 ∨ formN op = 6 ∨ formN op = 7 ∨ formN op = 8 ∨ formN op = 9 := by
  unfold formN formW
  repeat' split
  all_goals simp
theorem getT_sound {l : List Nat} {op : Nat} (hop : op < 256) {n : Nat} (hn : n ≤ l.length) (hf : (formN (op : Int) == 0) = false) (h : (getT l op n 0).2.2 = 0) :
    (getT l op n 0).1.op = op ∧ (getT l op n 0).1.Ok ∧ mayN (getT l op n 0).1 = true ∧ Sp l n (getT l op n 0).2.1 (putT (getT l op n 0).1) := by
  unfold getT at h ⊢
  by_cases g2 : (formN (op : Int) == 2) = true
  · simp only [g2, if_true] at h ⊢
    obtain ⟨he, hx⟩ := fin_ok h
    rw [hx]
    obtain ⟨s, k1, k2⟩ := rdK_sp hn he
    have e2 : formN (op : Int) = 2 := by simpa using g2
    refine ⟨rfl, ⟨by dsimp only; omega, by dsimp only; omega, by dsimp only; omega, by dsimp only; omega, by simp⟩, by simp [mayN, preN, e2, bt2_eq]; omega, ?_⟩
    simp only [putT, e2]; exact s
  simp only [g2, Bool.false_eq_true, if_false] at h ⊢
  by_cases g3 : (formN (op : Int) == 3) = true
  · simp only [g3, if_true] at h ⊢
    obtain ⟨he, hx⟩ := fin_ok h
    rw [hx]
    obtain ⟨s, k1, k2⟩ := rdU_sp hn he
    have e2 : formN (op : Int) = 3 := by simpa using g3
    refine ⟨rfl, ⟨by dsimp only; omega, by dsimp only; omega, by dsimp only; omega, by dsimp only; omega, by simp⟩, by simp [mayN, preN, e2, bt2_eq]; omega, ?_⟩
    simp only [putT, e2]; exact s
  simp only [g3, Bool.false_eq_true, if_false] at h ⊢
  by_cases g5 : (formN (op : Int) == 5) = true
  · simp only [g5, if_true] at h ⊢
    obtain ⟨he, hx⟩ := fin_ok h
    rw [hx]
    have h0 : (rdU l 1000 n 0).2.2 = 0 := by
      by_cases hc : (rdU l 1000 n 0).2.2 = 0
      · exact hc
      · exact absurd he (rdZ_ne hc)
    obtain ⟨s, k1, k2⟩ := rdU_sp hn h0
    rw [h0] at he ⊢
    have s2 := rdZ_sp s.2.2 he
    have e2 : formN (op : Int) = 5 := by simpa using g5
    refine ⟨rfl, ⟨by dsimp only; omega, by dsimp only; omega, by dsimp only; omega, by dsimp only; omega, by simp⟩, by simp [mayN, preN, e2, bt2_eq]; omega, ?_⟩
    simp only [putT, e2]; exact s.trans s2
  simp only [g5, Bool.false_eq_true, if_false] at h ⊢
  by_cases g4 : (formN (op : Int) == 4) = true
  · simp only [g4, if_true] at h ⊢
    obtain ⟨he, hx⟩ := fin_ok h
    rw [hx]
    have h1 : (rdL l (rdU l 50 n 0).1 (rdU l 50 n 0).2.1 (rdU l 50 n 0).2.2).2.2 = 0 := by
      by_cases hc : (rdL l (rdU l 50 n 0).1 (rdU l 50 n 0).2.1 (rdU l 50 n 0).2.2).2.2 = 0
      · exact hc
      · rw [rdU_ne hc] at he; exact he
    have h0 : (rdU l 50 n 0).2.2 = 0 := by
      by_cases hc : (rdU l 50 n 0).2.2 = 0
      · exact hc
      · exact absurd h1 (rdL_ne hc _)
    obtain ⟨s, k1, k2⟩ := rdU_sp hn h0
    rw [h0] at h1 he ⊢
    obtain ⟨s2, hz⟩ := rdL_sp s.2.2 _ h1
    have hlen := rdL_len (l := l) (m := (rdU l 50 n 0).1) (n := (rdU l 50 n 0).2.1) (e := 0)
    rw [h1] at he ⊢
    obtain ⟨s3, k3, k4⟩ := rdU_sp s2.2.2 he
    have e2 : formN (op : Int) = 4 := by simpa using g4
    generalize rdL l (rdU l 50 n 0).1 (rdU l 50 n 0).2.1 0 = w at *
    obtain ⟨L, m, e⟩ := w
    dsimp only at *
    have hany : (L.any fun z => !bt2 z 0 1000) = false := by
      rw [List.any_eq_false]
      intro z hzz
      have := hz z hzz
      simp [bt2_eq]; omega
    refine ⟨rfl, ⟨by dsimp only; omega, by dsimp only; omega, by dsimp only; omega, by dsimp only; omega, by simp; omega⟩, ?_, ?_⟩
    · unfold mayN preN
      dsimp only
      rw [e2, hany]
      simp [bt2_eq]; omega
    · unfold putT
      dsimp only
      rw [e2, hlen]
      exact (s.trans s2).trans s3
  simp only [g4, Bool.false_eq_true, if_false] at h ⊢
  by_cases g6 : (formN (op : Int) == 6) = true
  · simp only [g6, if_true] at h ⊢
    obtain ⟨he, hx⟩ := fin_ok h
    rw [hx]
    have h0 : (rdU l 3 n 0).2.2 = 0 := by
      by_cases hc : (rdU l 3 n 0).2.2 = 0
      · exact hc
      · rw [rdU_ne hc] at he; exact absurd he hc
    obtain ⟨s, k1, k2⟩ := rdU_sp hn h0
    rw [h0] at he ⊢
    obtain ⟨s2, k3, k4⟩ := rdU_sp s.2.2 he
    have e2 : formN (op : Int) = 6 := by simpa using g6
    refine ⟨rfl, ⟨by dsimp only; omega, by dsimp only; omega, by dsimp only; omega, by dsimp only; omega, by simp⟩, by simp [mayN, preN, e2, bt2_eq]; omega, ?_⟩
    simp only [putT, e2]; exact s.trans s2
  simp only [g6, Bool.false_eq_true, if_false] at h ⊢
  by_cases g7 : (formN (op : Int) == 7) = true
  · simp only [g7, if_true] at h ⊢
    obtain ⟨he, hx⟩ := fin_ok h
    rw [hx]
    have s := rdZ_sp hn he
    have e2 : formN (op : Int) = 7 := by simpa using g7
    refine ⟨rfl, ⟨by dsimp only; omega, by dsimp only; omega, by simp, by simp, by simp⟩, by simp [mayN, preN, e2], ?_⟩
    simp only [putT, e2]; exact s
  simp only [g7, Bool.false_eq_true, if_false] at h ⊢
  by_cases g8 : (formN (op : Int) == 8) = true
  · simp only [g8, if_true] at h ⊢
    obtain ⟨he, hx⟩ := fin_ok h
    rw [hx]
    obtain ⟨s, k1, k2⟩ := rdS_sp (.inl rfl) hn he
    have k2 := k2 rfl
    have e2 : formN (op : Int) = 8 := by simpa using g8
    refine ⟨rfl, ⟨by dsimp only; omega, by dsimp only; omega, by dsimp only; omega, by dsimp only; omega, by simp⟩, by simp [mayN, preN, e2, bt2_eq]; omega, ?_⟩
    simp only [putT, e2]; exact s
  simp only [g8, Bool.false_eq_true, if_false] at h ⊢
  by_cases g9 : (formN (op : Int) == 9) = true
  · simp only [g9, if_true] at h ⊢
    obtain ⟨he, hx⟩ := fin_ok h
    rw [hx]
    obtain ⟨s, k1, k2⟩ := rdS_sp (.inr rfl) hn he
    have e2 : formN (op : Int) = 9 := by simpa using g9
    refine ⟨rfl, ⟨by dsimp only; omega, by dsimp only; omega, by dsimp only; omega, by dsimp only; omega, by simp⟩, by simp [mayN, preN, e2], ?_⟩
    simp only [putT, e2]; exact s
  simp only [g9, Bool.false_eq_true, if_false] at h ⊢
  have e2 : formN (op : Int) = 1 := by
    simp at hf g2 g3 g4 g5 g6 g7 g8 g9
    have := formN_rng (op : Int)
    omega
  obtain ⟨he, hx⟩ := fin_ok h
  rw [hx]
  refine ⟨rfl, ⟨by dsimp only; omega, by dsimp only; omega, by simp, by simp, by simp⟩, by simp [mayN, preN, e2], ?_⟩
  simp only [putT, e2]; exact Sp.nil hn
theorem getP_sound {l : List Nat} (hlt : ∀ x ∈ l, x < 256) (h : (getP l).2.2 = 0) : (getP l).1.Ok ∧ mayN (getP l).1 = true ∧ Sp l 0 (getP l).2.1 (putN (getP l).1) := by
  unfold getP at h ⊢
  by_cases g1 : (formN ((rdB l 0 0).1 : Nat) == 0) = true
  · rw [if_pos g1] at h; cases h
  rw [if_neg g1] at h ⊢
  by_cases g2 : ((rdB l 0 0).2.2 != 0) = true
  · rw [if_pos g2] at h; rw [show (rdB l 0 0).2.2 = 0 from h] at g2; simp at g2
  rw [if_neg g2] at h ⊢
  have he : (rdB l 0 0).2.2 = 0 := by simpa using g2
  obtain ⟨s, hm⟩ := rdB_sp (Nat.zero_le _) he
  rw [he] at h ⊢
  obtain ⟨k1, k2, k3, k4⟩ := getT_sound (hlt _ hm) s.2.2 (by simpa using g1) h
  refine ⟨k2, k3, ?_⟩
  have := s.trans k4
  unfold putN
  rw [k1]
  exact this
end Go.Proofs.Ytkjfflabapeidaa
/-
  A body's bytes: plain words.
-/
namespace Go.Proofs.Ytkjfflabapeidaa
open Go.RowKit Go.ChangeShapes Go.WideShapes Go.ChangeAt Go.Deep
set_option linter.unusedSimpArgs false
set_option linter.unusedVariables false

def putL (l : List Ins) : List Nat := l.flatMap putN ++ [11]
def dN (d : Int) (op : Int) : Int := if (op == 11) = true then d - 1 else if isO op = true then d + 1 else d
/-- the program's Get: so many more may come -/
def gcN (b : List Nat) : Nat → Nat → Int → List Ins → List Ins × Nat × Int
  | 0, _, _, _ => ([], 0, 4)
  | f + 1, k, d, l =>
    if ((getP (b.drop k)).2.2 != 0) = true then ([], 0, (getP (b.drop k)).2.2)
    else if dN d (getP (b.drop k)).1.op < 0 then (if okN (opsOf l) = true then (l, k + (getP (b.drop k)).2.1, 0) else ([], 0, 1))
    else gcN b f (k + (getP (b.drop k)).2.1) (dN d (getP (b.drop k)).1.op) (l ++ [(getP (b.drop k)).1])
def getC (b : List Nat) : List Ins × Nat × Int := gcN b 301 0 0 []
/-- the statement's reading, one behind the other -/
def smN : Nat → List Nat → Int → List Ins → Bool
  | 0, _, _, _ => false
  | f + 1, b, d, l =>
    if ((getP b).2.2 != 0) = true then false
    else if ((getP b).1.op == 11) = true ∧ d = 0 then okN (opsOf l)
    else smN f (b.drop (getP b).2.1) (dN d (getP b).1.op) (l ++ [(getP b).1])
theorem dN_neg {d op : Int} (hd : 0 ≤ d) : dN d op < 0 ↔ ((op == 11) = true ∧ d = 0) := by
  unfold dN
  split
  · next h => constructor; intro h2; exact ⟨h, by omega⟩; intro h2; omega
  · next h =>
    constructor
    · intro h2; split at h2 <;> omega
    · intro h2; exact absurd h2.1 h
theorem sm_gc (b : List Nat) : ∀ (f k : Nat) (d : Int) (l : List Ins), 0 ≤ d → smN f (b.drop k) d l = ((gcN b f k d l).2.2 == 0)
  | 0, k, d, l, _ => rfl
  | f + 1, k, d, l, hd => by
    rw [smN, gcN]
    by_cases h1 : ((getP (b.drop k)).2.2 != 0) = true
    · rw [if_pos h1, if_pos h1]; simpa using h1
    rw [if_neg h1, if_neg h1]
    by_cases h2 : dN d (getP (b.drop k)).1.op < 0
    · rw [if_pos h2, if_pos ((dN_neg hd).1 h2)]
      cases okN (opsOf l) <;> rfl
    · rw [if_neg h2, if_neg (fun h => h2 ((dN_neg hd).2 h)), List.drop_drop]
      exact sm_gc b f _ _ _ (by omega)
/-- an error tells nothing else -/
theorem gcN_err (b : List Nat) : ∀ (f k : Nat) (d : Int) (l : List Ins), (gcN b f k d l).2.2 ≠ 0 → (gcN b f k d l).1 = [] ∧ (gcN b f k d l).2.1 = 0
  | 0, k, d, l => fun _ => ⟨rfl, rfl⟩
  | f + 1, k, d, l => by
    rw [gcN]
    split
    · exact fun _ => ⟨rfl, rfl⟩
    split
    · split
      · exact fun h => absurd rfl h
      · exact fun _ => ⟨rfl, rfl⟩
    · exact gcN_err b f _ _ _
theorem getC_err (b : List Nat) (h : (getC b).2.2 ≠ 0) : (getC b).1 = [] ∧ (getC b).2.1 = 0 := gcN_err _ _ _ _ _ h
theorem form11 {x : Ins} (hx : x.Ok) (hm : mayN x = true) (h : x.op = 11) : x = ⟨11, 0, 0, []⟩ := by
  have f17 := may17 hm (by rw [h]; rfl)
  have fb := may_b hm (by rw [h]; decide)
  have fl := may_l hm (by rw [h]; decide)
  obtain ⟨op, a, c, L⟩ := x
  dsimp only at h f17 fb fl
  subst h f17 fb fl
  rfl
theorem Sp.of_drop {b p : List Nat} {k n : Nat} (hk : k ≤ b.length) (h : Sp (b.drop k) 0 n p) : Sp b k (k + n) p := by
  obtain ⟨h1, h2, h3⟩ := h
  rw [List.drop_zero, List.drop_drop] at h1
  rw [List.length_drop] at h3
  exact ⟨h1, by omega, by omega⟩
theorem gcN_sound {b : List Nat} (hb : ∀ x ∈ b, x < 256) : ∀ (f k : Nat) (d : Int) (l : List Ins), 0 ≤ d → (gcN b f k d l).2.2 = 0 → Sp b 0 k (l.flatMap putN) → (∀ x ∈ l, x.Ok ∧ mayN x = true) →
    okN (opsOf (gcN b f k d l).1) = true ∧ Sp b 0 (gcN b f k d l).2.1 (putL (gcN b f k d l).1) ∧ ∀ x ∈ (gcN b f k d l).1, x.Ok ∧ mayN x = true
  | 0, k, d, l => fun _ h => by cases h
  | f + 1, k, d, l => by
    intro hd h hs hl
    rw [gcN] at h ⊢
    by_cases h1 : ((getP (b.drop k)).2.2 != 0) = true
    · rw [if_pos h1] at h; rw [show (getP (b.drop k)).2.2 = 0 from h] at h1; simp at h1
    rw [if_neg h1] at h ⊢
    have he : (getP (b.drop k)).2.2 = 0 := by simpa using h1
    obtain ⟨ho, hm, hsp⟩ := getP_sound (fun x hx => hb x (List.mem_of_mem_drop hx)) he
    have hsp := Sp.of_drop hs.2.2 hsp
    by_cases h2 : dN d (getP (b.drop k)).1.op < 0
    · rw [if_pos h2] at h ⊢
      by_cases h3 : okN (opsOf l) = true
      · rw [if_pos h3] at h ⊢
        refine ⟨h3, ?_, hl⟩
        have h11 := ((dN_neg hd).1 h2).1
        rw [form11 ho hm (by simpa using h11)] at hsp
        exact hs.trans hsp
      · rw [if_neg h3] at h; cases h
    · rw [if_neg h2] at h ⊢
      refine gcN_sound hb f _ _ _ (by omega) h ?_ ?_
      · rw [List.flatMap_append]
        simpa using hs.trans hsp
      · intro x hx
        rcases List.mem_append.1 hx with hx | hx
        · exact hl x hx
        · rw [List.mem_singleton.1 hx]; exact ⟨ho, hm⟩
theorem getC_sound {b : List Nat} (hb : ∀ x ∈ b, x < 256) (h : (getC b).2.2 = 0) : okN (opsOf (getC b).1) = true ∧ Sp b 0 (getC b).2.1 (putL (getC b).1) ∧ ∀ x ∈ (getC b).1, x.Ok ∧ mayN x = true :=
  gcN_sound hb 301 0 0 [] (Int.le_refl 0) h (Sp.nil (Nat.zero_le _)) (by simp)
/-! ### a body goes there and back -/
theorem okN_len {ops : List Int} (h : okN ops = true) : ops.length ≤ 300 := by
  unfold okN matchN at h
  split at h
  · cases h
  · omega
theorem okN_run {ops : List Int} (h : okN ops = true) : ∃ all, mrun ops ops.length = some ⟨all, []⟩ := by
  unfold okN matchN at h
  split at h
  · cases h
  · split at h
    · next all h2 => exact ⟨all, h2⟩
    · cases h
theorem okN_at {ops : List Int} (h : okN ops = true) {j : Nat} (hj : j ≤ ops.length) : ∃ s, mrun ops j = some s := by
  obtain ⟨all, h⟩ := okN_run h
  cases hs : mrun ops j with
  | some s => exact ⟨s, rfl⟩
  | none =>
    have := mrun_none hs (ops.length - j)
    rw [Nat.add_sub_cancel' hj, h] at this
    cases this
theorem mstep_d {ops : List Int} {s s' : MS} {i : Nat} {op : Int} (h : mstep ops s i op = some s') : (s'.opn.length : Int) = dN s.opn.length op := by
  unfold mstep at h
  unfold dN
  split at h
  · next ho =>
    split at h
    · cases h
    · obtain rfl := Option.some.inj h
      rw [if_neg (by unfold isO at ho; simp at ho ⊢; omega), if_pos ho]; simp
  next ho =>
  split at h
  · next h5 =>
    obtain rfl := Option.some.inj h
    rw [if_neg (by simpa using h5.2), if_neg ho]
  next h5 =>
  unfold mtop at h
  split at h
  · cases h
  next k hk =>
  split at h
  · cases h
  split at h
  · next h11 =>
    obtain rfl := Option.some.inj h
    have : s.opn ≠ [] := by intro h0; rw [h0] at hk; cases hk
    have := List.length_pos_iff.2 this
    rw [if_pos (by simpa using h11)]; simp; omega
  next h11 =>
  split at h
  · cases h
  · obtain rfl := Option.some.inj h
    rw [if_neg (by simpa using h11), if_neg ho]
/-- reading on, behind j of them -/
theorem gcN_back {l : List Ins} (hl : ∀ x ∈ l, x.Ok ∧ mayN x = true) (hok : okN (opsOf l) = true) (r : List Nat) : ∀ (m j : Nat) (s : MS) (f : Nat), m + j = l.length → m < f → mrun (opsOf l) j = some s →
    gcN (putL l ++ r) f ((l.take j).flatMap putN).length s.opn.length (l.take j) = (l, (putL l).length, 0) := by
  have hol : (opsOf l).length = l.length := by simp [opsOf]
  have hdrop : ∀ j, (putL l ++ r).drop ((l.take j).flatMap putN).length = (l.drop j).flatMap putN ++ (11 :: r) := by
    intro j
    have : putL l ++ r = (l.take j).flatMap putN ++ ((l.drop j).flatMap putN ++ (11 :: r)) := by
      unfold putL
      conv => lhs; rw [← List.take_append_drop j l, List.flatMap_append]
      simp
    rw [this, List.drop_left]
  intro m
  induction m with
  | zero =>
    intro j s f hj hf hs
    obtain ⟨f, rfl⟩ : ∃ g, f = g + 1 := ⟨f - 1, by omega⟩
    obtain rfl : j = l.length := by omega
    obtain ⟨all, ha⟩ := okN_run hok
    rw [hol, hs] at ha
    obtain rfl := Option.some.inj ha
    have hg : getP ((putL l ++ r).drop ((l.take l.length).flatMap putN).length) = (⟨11, 0, 0, []⟩, 1, 0) := by
      rw [hdrop, List.drop_length]
      exact get_put (x := ⟨11, 0, 0, []⟩) ⟨by decide, by decide, by decide, by decide, by decide⟩ (by decide) r
    rw [gcN, hg, if_neg (by decide), if_pos (show dN (([] : List Nat).length : Nat) 11 < 0 by decide), List.take_length, if_pos hok]
    simp [putL]
  | succ m ih =>
    intro j s f hj hf hs
    obtain ⟨f, rfl⟩ : ∃ g, f = g + 1 := ⟨f - 1, by omega⟩
    have hlt : j < l.length := by omega
    obtain ⟨x, hx⟩ : ∃ x, l[j]? = some x := ⟨_, List.getElem?_eq_getElem hlt⟩
    obtain ⟨hxo, hxm⟩ := hl x (List.mem_of_getElem? hx)
    have hg : getP ((putL l ++ r).drop ((l.take j).flatMap putN).length) = (x, (putN x).length, 0) := by
      rw [hdrop, List.drop_eq_getElem_cons hlt, (List.getElem?_eq_some_iff.1 hx).2, List.flatMap_cons, List.append_assoc]
      exact get_put hxo hxm _
    obtain ⟨s', hs'⟩ := okN_at hok (j := j + 1) (by omega)
    have hst := mrun_next hs (opsOf_at hx)
    rw [hs'] at hst
    have hd := mstep_d hst.symm
    have ht : l.take (j + 1) = l.take j ++ [x] := by rw [List.take_add_one, hx]; rfl
    have hn := ih (j + 1) s' f (by omega) (by omega) hs'
    rw [gcN, hg, if_neg (by simp)]
    dsimp only
    rw [← hd, if_neg (by omega), ← ht, ← hn, ht, List.flatMap_append]
    simp
theorem getC_back {l : List Ins} (hl : ∀ x ∈ l, x.Ok ∧ mayN x = true) (hok : okN (opsOf l) = true) (r : List Nat) : getC (putL l ++ r) = (l, (putL l).length, 0) := by
  have := okN_len hok
  have hol : (opsOf l).length = l.length := by simp [opsOf]
  exact gcN_back hl hok r l.length 0 ⟨[], []⟩ 301 (by omega) (by omega) rfl
end Go.Proofs.Ytkjfflabapeidaa
/-
  What fits, by what is open alone; what a block encloses: plain words.
-/
namespace Go.Proofs.Ytkjfflabapeidaa
open Go.RowKit Go.ChangeShapes Go.WideShapes Go.ChangeAt Go.Deep
set_option linter.unusedSimpArgs false
set_option linter.unusedVariables false

/-- those that are open: may it turn? -/
def astep (L : Nat) (S : List Bool) (op : Int) : Option (List Bool) :=
  if isO op = true then (if L ≤ S.length then none else some (S ++ [op == 4]))
  else if op ≠ 5 ∧ op ≠ 11 then some S
  else match S.getLast? with
    | none => none
    | some c => if op = 11 then some S.dropLast else if c = true then some (S.dropLast ++ [false]) else none
def arun (L : Nat) : List Int → List Bool → Option (List Bool)
  | [], S => some S
  | op :: w, S => match astep L S op with
    | none => none
    | some S' => arun L w S'
theorem arun_app {L : Nat} : ∀ {u v : List Int} {S T : List Bool}, arun L u S = some T → arun L (u ++ v) S = arun L v T
  | [], _, _, _, h => by cases h; rfl
  | op :: u, v, S, T, h => by
    rw [List.cons_append, arun]
    rw [arun] at h
    cases hs : astep L S op with
    | none => rw [hs] at h; cases h
    | some S' => rw [hs] at h; exact arun_app h
theorem arun_none {L : Nat} : ∀ {u v : List Int} {S : List Bool}, arun L u S = none → arun L (u ++ v) S = none
  | [], _, _, h => by cases h
  | op :: u, v, S, h => by
    rw [List.cons_append, arun]
    rw [arun] at h
    cases hs : astep L S op with
    | none => rfl
    | some S' => rw [hs] at h; exact arun_none h
theorem astep_frame {L : Nat} {T T' : List Bool} {op : Int} (h : astep L T op = some T') (S : List Bool) : astep (L + S.length) (S ++ T) op = some (S ++ T') := by
  unfold astep at h ⊢
  split at h
  · next ho =>
    rw [if_pos ho]
    split at h
    · cases h
    · next hl =>
      obtain rfl := Option.some.inj h
      rw [if_neg (by simp; omega), List.append_assoc]
  next ho =>
  rw [if_neg ho]
  split at h
  · next h5 =>
    obtain rfl := Option.some.inj h
    rw [if_pos h5]
  next h5 =>
  rw [if_neg h5]
  cases hT : T.getLast? with
  | none => rw [hT] at h; cases h
  | some c =>
    rw [hT] at h
    have hne : T ≠ [] := by intro e; subst e; cases hT
    rw [List.getLast?_append, hT]
    dsimp only [Option.some_or] at h ⊢
    split at h
    · next h11 =>
      obtain rfl := Option.some.inj h
      rw [if_pos h11, List.dropLast_append_of_ne_nil hne]
    next h11 =>
    rw [if_neg h11]
    split at h
    · next hc =>
      obtain rfl := Option.some.inj h
      rw [if_pos hc, List.dropLast_append_of_ne_nil hne, List.append_assoc]
    · cases h
theorem arun_frame {L : Nat} (S : List Bool) : ∀ {w : List Int} {T T' : List Bool}, arun L w T = some T' → arun (L + S.length) w (S ++ T) = some (S ++ T')
  | [], _, _, h => by cases h; rfl
  | op :: w, T, T', h => by
    rw [arun] at h ⊢
    cases hs : astep L T op with
    | none => rw [hs] at h; cases h
    | some S' => rw [hs] at h; rw [astep_frame hs S]; exact arun_frame S h
theorem astep_mono {L L' : Nat} (hL : L ≤ L') {T T' : List Bool} {op : Int} (h : astep L T op = some T') : astep L' T op = some T' := by
  unfold astep at h ⊢
  split at h
  · next ho =>
    rw [if_pos ho]
    split at h
    · cases h
    · rw [if_neg (by omega)]; exact h
  · next ho => rw [if_neg ho]; exact h
theorem arun_mono {L L' : Nat} (hL : L ≤ L') : ∀ {w : List Int} {T T' : List Bool}, arun L w T = some T' → arun L' w T = some T'
  | [], _, _, h => h
  | op :: w, T, T', h => by
    rw [arun] at h ⊢
    cases hs : astep L T op with
    | none => rw [hs] at h; cases h
    | some S' => rw [hs] at h; rw [astep_mono hL hs]; exact arun_mono hL h
theorem arun_one {L : Nat} {S : List Bool} {op : Int} : arun L [op] S = astep L S op := by
  rw [arun]; cases astep L S op <;> rfl
/-! ### the program's words are these -/
def flg (ops : List Int) (all : List Bk) (k : Nat) : Bool :=
  match all[k]? with
  | some b => (ops[b.at_]? == some 4) && decide (b.els < 0)
  | none => false
def abst (ops : List Int) (s : MS) : List Bool := s.opn.map (flg ops s.all)
theorem flg_app {ops : List Int} {all : List Bk} {k : Nat} (h : k < all.length) (x : Bk) : flg ops (all ++ [x]) k = flg ops all k := by
  unfold flg; rw [List.getElem?_append_left h]
theorem flg_set {ops : List Int} {all : List Bk} {k n : Nat} (h : k ≠ n) (x : Bk) : flg ops (all.set n x) k = flg ops all k := by
  unfold flg; rw [List.getElem?_set_ne (Ne.symm h)]
/-- what is open stands in order -/
structure MOk2 (s : MS) : Prop where
  inc : s.opn.Pairwise (· < ·)
theorem mstep_ok2 {ops : List Int} {j : Nat} {s s' : MS} {op : Int} (h1 : MOk j s) (h : MOk2 s) (hs : mstep ops s j op = some s') : MOk2 s' := by
  unfold mstep at hs
  split at hs
  · split at hs
    · cases hs
    · obtain rfl := Option.some.inj hs
      refine ⟨List.pairwise_append.2 ⟨h.inc, by simp, fun a ha b hb => ?_⟩⟩
      rw [List.mem_singleton.1 hb]; exact h1.opn a ha
  split at hs
  · obtain rfl := Option.some.inj hs; exact h
  unfold mtop at hs
  split at hs
  · cases hs
  split at hs
  · cases hs
  split at hs
  · obtain rfl := Option.some.inj hs
    exact ⟨h.inc.sublist (List.dropLast_sublist _)⟩
  split at hs
  · cases hs
  · obtain rfl := Option.some.inj hs; exact ⟨h.inc⟩
theorem mrun_ok2 {ops : List Int} : ∀ {j : Nat} {s : MS}, mrun ops j = some s → MOk2 s
  | 0, s, h => by obtain rfl := Option.some.inj h; exact ⟨List.Pairwise.nil⟩
  | j + 1, s, h => by
    rw [mrun] at h
    split at h
    · next s0 op h1 h2 => exact mstep_ok2 (mrun_ok h1) (mrun_ok2 h1) h
    · cases h
theorem step_sim {ops : List Int} {j : Nat} {s : MS} {op : Int} (h1 : MOk j s) (h2 : MOk2 s) (ho : ops[j]? = some op) : (mstep ops s j op).map (abst ops) = astep 40 (abst ops s) op := by
  obtain ⟨all, opn⟩ := s
  have hk := h1.opn
  have hlen := h1.len
  have hinc := h2.inc
  dsimp only at hk hlen hinc
  by_cases hO : isO op = true
  · by_cases h40 : opn.length = 40
    · rw [step_full hO h40]
      unfold astep abst; rw [if_pos hO, if_pos (by simp; omega)]; rfl
    · rw [step_open hO h40]
      unfold astep abst; rw [if_pos hO, if_neg (by simp; omega)]
      dsimp only [Option.map]
      rw [List.map_append, List.map_congr_left fun k hkk => flg_app (hk k hkk) _]
      simp [flg, ho]
  have hO : isO op = false := by simpa using hO
  by_cases h5 : op ≠ 5 ∧ op ≠ 11
  · rw [step_skip hO h5.1 h5.2]
    unfold astep; rw [if_neg (by simp [hO]), if_pos h5]; rfl
  rw [step_top hO (by omega)]
  unfold astep; rw [if_neg (by simp [hO]), if_neg h5]
  rcases List.eq_nil_or_concat opn with rfl | ⟨pre, k, rfl⟩
  · rfl
  have hkl := hk k (by simp)
  obtain ⟨b, hb⟩ : ∃ b, all[k]? = some b := ⟨_, List.getElem?_eq_getElem hkl⟩
  have hpre : ∀ x ∈ pre, x ≠ k := fun x hx => by
    have := (List.pairwise_append.1 (by simpa using hinc)).2.2 x hx k (by simp)
    omega
  have hab : abst ops ⟨all, pre.concat k⟩ = pre.map (flg ops all) ++ [flg ops all k] := by unfold abst; simp
  have hfk : flg ops all k = ((ops[b.at_]? == some 4) && decide (b.els < 0)) := by unfold flg; rw [hb]
  rw [hab, List.getLast?_append]
  dsimp only [List.getLast?_singleton, Option.some_or]
  rw [List.concat_eq_append]
  rcases (show op = 11 ∨ op = 5 by omega) with rfl | rfl
  · rw [top_end hb, if_pos rfl]
    unfold abst
    dsimp only [Option.map]
    rw [List.map_congr_left fun x hx => flg_set (hpre x hx) _]
    simp
  · rw [if_neg (by decide), hfk]
    by_cases hc : ops[b.at_]? = some 4 ∧ ¬ 0 ≤ b.els
    · rw [top_else hb hc.1 hc.2, if_pos (by simp [hc.1]; omega)]
      unfold abst
      dsimp only [Option.map]
      rw [List.map_append, List.map_congr_left fun x hx => flg_set (hpre x hx) _]
      simp [flg, hkl]
    · have hc' : ops[b.at_]? ≠ some 4 ∨ 0 ≤ b.els := by
        by_cases h4 : ops[b.at_]? = some 4
        · exact .inr (by by_cases h0 : 0 ≤ b.els; exact h0; exact absurd ⟨h4, h0⟩ hc)
        · exact .inl h4
      rw [top_bad hb hc', if_neg (by rcases hc' with h | h; simp [h]; simp; intro _; exact h)]
      rfl
theorem run_sim {ops : List Int} : ∀ {j : Nat}, j ≤ ops.length → arun 40 (ops.take j) [] = (mrun ops j).map (abst ops)
  | 0, _ => by simp [arun, mrun, abst]
  | j + 1, hj => by
    have ih := run_sim (ops := ops) (j := j) (by omega)
    obtain ⟨op, ho⟩ : ∃ op, ops[j]? = some op := ⟨_, List.getElem?_eq_getElem hj⟩
    rw [List.take_add_one, ho]
    dsimp only [Option.toList]
    cases hm : mrun ops j with
    | none =>
      rw [hm] at ih
      rw [arun_none ih, mrun, hm]; rfl
    | some s =>
      rw [hm] at ih
      rw [arun_app ih, arun_one, mrun_next hm ho]
      exact (step_sim (mrun_ok hm) (mrun_ok2 hm) ho).symm
theorem okN_iff {ops : List Int} : okN ops = true ↔ ops.length ≤ 300 ∧ arun 40 ops [] = some [] := by
  have h := run_sim (ops := ops) (Nat.le_refl _)
  rw [List.take_length] at h
  rw [h]
  unfold okN matchN
  by_cases hl : 300 < ops.length
  · rw [if_pos hl]; simp; omega
  rw [if_neg hl]
  cases hm : mrun ops ops.length with
  | none => simp
  | some s =>
    obtain ⟨all, opn⟩ := s
    cases opn with
    | nil => simp [abst]; omega
    | cons k r => simp [abst]
/-! ### what a block encloses -/
def Bal (h : Nat) (w : List Int) : Prop := arun h w [] = some []
def sl (ops : List Int) (i k : Nat) : List Int := (ops.take k).drop i
theorem sl_self {ops : List Int} {i : Nat} : sl ops i i = [] := by unfold sl; simp
theorem sl_next {ops : List Int} {i j : Nat} {op : Int} (ho : ops[j]? = some op) (hij : i ≤ j) : sl ops i (j + 1) = sl ops i j ++ [op] := by
  have hj := (List.getElem?_eq_some_iff.1 ho).1
  unfold sl; rw [List.take_add_one, ho, List.drop_append_of_le_length (by simp; omega)]; rfl
theorem sl_app {ops : List Int} {i j k : Nat} (h1 : i ≤ j) (h2 : j ≤ k) (hk : k ≤ ops.length) : sl ops i k = sl ops i j ++ sl ops j k := by
  unfold sl
  rw [← List.drop_append_of_le_length (by simp; omega)]
  congr 1
  conv => lhs; rw [← List.take_append_drop j (ops.take k)]
  rw [List.take_take, Nat.min_eq_left h2]
theorem take_sl {ops : List Int} {i k : Nat} (h : i ≤ k) : ops.take k = ops.take i ++ sl ops i k := by
  unfold sl
  conv => lhs; rw [← List.take_append_drop i (ops.take k)]
  rw [List.take_take, Nat.min_eq_left h]
theorem sl_cons {ops : List Int} {i k : Nat} {op : Int} (ho : ops[i]? = some op) (h : i < k) (hk : k ≤ ops.length) : sl ops i k = op :: sl ops (i + 1) k := by
  rw [sl_app (Nat.le_succ i) h hk, sl_next ho (Nat.le_refl _), sl_self]; rfl
theorem bal_app {h : Nat} {u v : List Int} (hu : Bal h u) (hv : Bal h v) : Bal h (u ++ v) := (arun_app hu).trans hv
theorem bal_mono {h h' : Nat} (hh : h ≤ h') {u : List Int} (hu : Bal h u) : Bal h' u := arun_mono hh hu
theorem bal_on {h : Nat} {w : List Int} (hw : Bal h w) (S : List Bool) {L : Nat} (hL : h + S.length ≤ L) : arun L w S = some S := by
  have := arun_mono hL (arun_frame S hw)
  simpa using this
theorem bal_plain {h : Nat} {op : Int} (h1 : isO op = false) (h2 : op ≠ 5) (h3 : op ≠ 11) : Bal h [op] := by
  unfold Bal; rw [arun_one]; unfold astep; rw [if_neg (by simp [h1]), if_pos ⟨h2, h3⟩]
theorem a_open {L : Nat} {S : List Bool} {op : Int} (ho : isO op = true) (hS : S.length < L) : astep L S op = some (S ++ [op == 4]) := by
  unfold astep; rw [if_pos ho, if_neg (by omega)]
theorem a_end {L : Nat} {S : List Bool} {c : Bool} : astep L (S ++ [c]) 11 = some S := by
  unfold astep; rw [if_neg (by decide), if_neg (by decide)]; simp
theorem a_else {L : Nat} {S : List Bool} : astep L (S ++ [true]) 5 = some (S ++ [false]) := by
  unfold astep; rw [if_neg (by decide), if_neg (by decide)]; simp
/-- a block on those that are open -/
theorem blk_on {L : Nat} {S : List Bool} {op : Int} {w : List Int} (ho : isO op = true) (hS : S.length < L) (hw : arun L w (S ++ [op == 4]) = some (S ++ [op == 4])) : arun L (op :: w ++ [11]) S = some S := by
  rw [List.cons_append, arun, a_open ho hS]
  dsimp only
  rw [arun_app hw, arun_one, a_end]
theorem els_on {L : Nat} {S : List Bool} {u v : List Int} (hS : S.length < L) (hu : arun L u (S ++ [true]) = some (S ++ [true])) (hv : arun L v (S ++ [false]) = some (S ++ [false])) : arun L (4 :: (u ++ 5 :: v) ++ [11]) S = some S := by
  rw [List.cons_append, arun, a_open (by decide) hS]
  dsimp only
  rw [show ((4 : Int) == 4) = true from rfl, List.append_assoc, arun_app hu, List.cons_append, arun, a_else]
  dsimp only
  rw [arun_app hv, arun_one, a_end]
theorem bal_blk {h : Nat} {op : Int} {w : List Int} (ho : isO op = true) (hw : Bal h w) : Bal (h + 1) (op :: w ++ [11]) :=
  blk_on ho (by simp) (bal_on hw _ (by simp))
theorem bal_els {h : Nat} {u v : List Int} (hu : Bal h u) (hv : Bal h v) : Bal (h + 1) (4 :: (u ++ 5 :: v) ++ [11]) :=
  els_on (by simp) (bal_on hu _ (by simp)) (bal_on hv _ (by simp))
def Arm (ops : List Int) (h : Nat) (b : Bk) (j : Nat) : Prop :=
  (b.els = -1 ∧ Bal h (sl ops (b.at_ + 1) j)) ∨ ∃ e : Nat, b.els = (e : Int) ∧ b.at_ < e ∧ e < j ∧ ops[b.at_]? = some 4 ∧ ops[e]? = some 5 ∧ Bal h (sl ops (b.at_ + 1) e) ∧ Bal h (sl ops (e + 1) j)
inductive Stk (ops : List Int) (all : List Bk) : Nat → List Nat → Prop
  | nil {j : Nat} : Bal 40 (ops.take j) → Stk ops all j []
  | top {j k : Nat} {r : List Nat} {b : Bk} {op : Int} : all[k]? = some b → Stk ops all b.at_ r → (∀ x ∈ r, x < k) → r.length < 40 → b.at_ < j → ops[b.at_]? = some op → isO op = true → Arm ops (39 - r.length) b j → Stk ops all j (k :: r)
theorem arm_ext {ops : List Int} {h i k : Nat} {b : Bk} (ha : Arm ops h b i) (hb : b.at_ < i) (hik : i ≤ k) (hk : k ≤ ops.length) (hB : Bal h (sl ops i k)) : Arm ops h b k := by
  rcases ha with ⟨h1, h2⟩ | ⟨e, h1, h2, h3, h4, h5, h6, h7⟩
  · exact .inl ⟨h1, by rw [sl_app hb hik hk]; exact bal_app h2 hB⟩
  · exact .inr ⟨e, h1, h2, by omega, h4, h5, h6, by rw [sl_app h3 hik hk]; exact bal_app h7 hB⟩
theorem stk_ext {ops : List Int} {all : List Bk} {i k : Nat} {r : List Nat} (h : Stk ops all i r) (hik : i ≤ k) (hk : k ≤ ops.length) (hB : Bal (40 - r.length) (sl ops i k)) : Stk ops all k r := by
  cases h with
  | nil h => exact .nil (by rw [take_sl hik]; exact bal_app h (by simpa using hB))
  | @top _ _ r _ _ h1 h2 h3 h4 h5 h6 h7 h8 =>
    refine .top h1 h2 h3 h4 (by omega) h6 h7 (arm_ext h8 h5 hik hk ?_)
    rw [show 39 - r.length = 40 - (r.length + 1) by omega]
    simpa using hB
theorem stk_all {ops : List Int} {all all' : List Bk} {j : Nat} {r : List Nat} (h : Stk ops all j r) (ha : ∀ x ∈ r, all'[x]? = all[x]?) : Stk ops all' j r := by
  induction h with
  | nil h => exact .nil h
  | top h1 h2 h3 h4 h5 h6 h7 h8 ih =>
    exact .top ((ha _ (by simp)).trans h1) (ih fun x hx => ha x (List.mem_cons_of_mem _ hx)) h3 h4 h5 h6 h7 h8
theorem stk_run {ops : List Int} {all : List Bk} {j : Nat} {r : List Nat} (h : Stk ops all j r) (hj : j ≤ ops.length) : ∃ S, arun 40 (ops.take j) [] = some S ∧ S.length = r.length := by
  induction h with
  | nil h => exact ⟨[], h, rfl⟩
  | @top j k r b op h1 h2 h3 h4 h5 h6 h7 h8 ih =>
    obtain ⟨S, hS, hl⟩ := ih (by omega)
    rw [take_sl (Nat.le_of_lt h5), arun_app hS, sl_cons h6 h5 hj, arun, a_open h7 (by omega)]
    dsimp only
    rcases h8 with ⟨-, h2⟩ | ⟨e, -, he1, he2, k4, k5, k6, k7⟩
    · exact ⟨S ++ [op == 4], bal_on h2 _ (by simp; omega), by simp [hl]⟩
    · rw [k4] at h6
      obtain rfl := (Option.some.inj h6).symm
      refine ⟨S ++ [false], ?_, by simp [hl]⟩
      rw [sl_app he1 (Nat.le_of_lt he2) hj, arun_app (bal_on k6 _ (by simp; omega)), sl_cons k5 he2 hj, arun]
      rw [show ((4 : Int) == 4) = true from rfl, a_else]
      exact bal_on k7 _ (by simp; omega)
def Clo (ops : List Int) (j : Nat) (b : Bk) : Prop :=
  ∃ n : Nat, b.en = (n : Int) ∧ b.at_ < n ∧ n < j ∧ (∃ S, arun 40 (ops.take b.at_) [] = some S ∧ arun 40 (ops.take (n + 1)) [] = some S) ∧
    ((b.els = -1 ∧ Bal 40 (sl ops (b.at_ + 1) n)) ∨ ∃ e : Nat, b.els = (e : Int) ∧ b.at_ < e ∧ e < n ∧ Bal 40 (sl ops (b.at_ + 1) e) ∧ Bal 40 (sl ops (e + 1) n))
theorem Clo.mono {ops : List Int} {i j : Nat} {b : Bk} (h : Clo ops i b) (hij : i ≤ j) : Clo ops j b := by
  obtain ⟨n, h1, h2, h3, h4⟩ := h
  exact ⟨n, h1, h2, by omega, h4⟩
def J (ops : List Int) (j : Nat) (s : MS) : Prop := Stk ops s.all j s.opn.reverse ∧ ∀ k b, s.all[k]? = some b → k ∉ s.opn → Clo ops j b
theorem J_step {ops : List Int} {j : Nat} {s s' : MS} {op : Int} (h1 : MOk j s) (h2 : MOk2 s) (ho : ops[j]? = some op) (hJ : J ops j s) (hs : mstep ops s j op = some s') : J ops (j + 1) s' := by
  have hj := (List.getElem?_eq_some_iff.1 ho).1
  obtain ⟨all, opn⟩ := s
  obtain ⟨hS, hC⟩ := hJ
  have hk := h1.opn
  have hlen := h1.len
  have hinc := h2.inc
  dsimp only at hk hlen hinc hS hC
  by_cases hO : isO op = true
  · by_cases h40 : opn.length = 40
    · rw [step_full hO h40] at hs; cases hs
    · rw [step_open hO h40] at hs
      obtain rfl := Option.some.inj hs
      constructor
      · dsimp only
        rw [List.reverse_append]
        refine .top (b := ⟨j, -1, -1⟩) (by simp) (stk_all hS fun x hx => ?_) (fun x hx => hk x (by simpa using hx)) (by simp; omega) (Nat.lt_succ_self _) ho hO (.inl ⟨rfl, ?_⟩)
        · exact List.getElem?_append_left (hk x (by simpa using hx))
        · rw [sl_self]; rfl
      · intro k b hb hn
        dsimp only at hb hn
        have hkl : k < all.length := by
          have := (List.getElem?_eq_some_iff.1 hb).1
          simp at this hn; omega
        rw [List.getElem?_append_left hkl] at hb
        exact (hC k b hb (fun h => hn (List.mem_append_left _ h))).mono (Nat.le_succ _)
  have hO : isO op = false := by simpa using hO
  by_cases h5 : op ≠ 5 ∧ op ≠ 11
  · rw [step_skip hO h5.1 h5.2] at hs
    obtain rfl := Option.some.inj hs
    refine ⟨stk_ext hS (Nat.le_succ _) hj ?_, fun k b hb hn => (hC k b hb hn).mono (Nat.le_succ _)⟩
    rw [sl_next ho (Nat.le_refl _), sl_self]
    exact bal_plain hO h5.1 h5.2
  rw [step_top hO (by omega)] at hs
  rcases List.eq_nil_or_concat opn with rfl | ⟨pre, k, rfl⟩
  · rw [top_none] at hs; cases hs
  rw [List.concat_eq_append] at *
  have hkl := hk k (by simp)
  have hpre : ∀ x ∈ pre, x < k := fun x hx => (List.pairwise_append.1 hinc).2.2 x hx k (by simp)
  rw [List.reverse_append] at hS
  rw [show [k].reverse ++ pre.reverse = k :: pre.reverse from rfl] at hS
  cases hS with
  | @top _ _ _ b op0 hb hst h3 h4 hat h6 h7 h8 =>
  have hrev : pre.reverse.length = pre.length := List.length_reverse
  have hset : ∀ b', Stk ops (all.set k b') b.at_ pre.reverse := fun b' => stk_all hst fun x hx => by
    rw [List.getElem?_set_ne (by have := hpre x (by simpa using hx); omega)]
  rcases (show op = 11 ∨ op = 5 by omega) with rfl | rfl
  · rw [top_end hb] at hs
    obtain rfl := Option.some.inj hs
    have hbal : Bal (40 - pre.reverse.length) (sl ops b.at_ (j + 1)) := by
      rw [sl_cons h6 (by omega) hj, sl_next ho hat]
      rw [show 40 - pre.reverse.length = (39 - pre.reverse.length) + 1 by omega]
      rcases h8 with ⟨-, hi⟩ | ⟨e, -, he1, he2, g4, g5, g6, g7⟩
      · exact bal_blk h7 hi
      · obtain rfl : op0 = 4 := by rw [g4] at h6; exact (Option.some.inj h6).symm
        rw [sl_app he1 (Nat.le_of_lt he2) (Nat.le_of_lt hj), sl_cons g5 he2 (Nat.le_of_lt hj)]
        exact bal_els g6 g7
    constructor
    · exact stk_ext (hset _) (by omega) hj hbal
    · intro k' b' hb' hn
      dsimp only at hb' hn
      by_cases hkk : k' = k
      · subst hkk
        rw [List.getElem?_set_self hkl] at hb'
        obtain rfl := Option.some.inj hb'
        obtain ⟨S, hS1, hS2⟩ := stk_run hst (by omega)
        refine ⟨j, rfl, hat, Nat.lt_succ_self _, ⟨S, hS1, ?_⟩, ?_⟩
        · show arun 40 (ops.take (j + 1)) [] = some S
          rw [take_sl (i := b.at_) (by omega), arun_app hS1]
          exact bal_on hbal S (by omega)
        · rcases h8 with ⟨hi1, hi⟩ | ⟨e, h1, he1, he2, g4, g5, g6, g7⟩
          · exact .inl ⟨hi1, bal_mono (by omega) hi⟩
          · exact .inr ⟨e, h1, he1, he2, bal_mono (by omega) g6, bal_mono (by omega) g7⟩
      · rw [List.getElem?_set_ne (Ne.symm hkk)] at hb'
        refine (hC k' b' hb' ?_).mono (Nat.le_succ _)
        simp; exact ⟨hn, hkk⟩
  · by_cases hc : ops[b.at_]? = some 4 ∧ ¬ 0 ≤ b.els
    · rw [top_else hb hc.1 hc.2] at hs
      obtain rfl := Option.some.inj hs
      constructor
      · dsimp only
        rw [List.reverse_append]
        refine .top (b := ⟨b.at_, j, b.en⟩) (List.getElem?_set_self hkl) (hset _) h3 h4 (by show b.at_ < j + 1; omega) h6 h7 (.inr ⟨j, rfl, hat, Nat.lt_succ_self _, hc.1, ho, ?_, ?_⟩)
        · rcases h8 with ⟨-, hi⟩ | ⟨e, he, -⟩
          · exact hi
          · omega
        · rw [sl_self]; rfl
      · intro k' b' hb' hn
        dsimp only at hb' hn
        have hkk : k' ≠ k := by intro e; subst e; simp at hn
        rw [List.getElem?_set_ne (Ne.symm hkk)] at hb'
        exact (hC k' b' hb' hn).mono (Nat.le_succ _)
    · have hc' : ops[b.at_]? ≠ some 4 ∨ 0 ≤ b.els := by
        by_cases h4 : ops[b.at_]? = some 4
        · exact .inr (by by_cases h0 : 0 ≤ b.els; exact h0; exact absurd ⟨h4, h0⟩ hc)
        · exact .inl h4
      rw [top_bad hb hc'] at hs; cases hs
theorem J_run {ops : List Int} : ∀ {j : Nat} {s : MS}, mrun ops j = some s → J ops j s
  | 0, s, h => by
    obtain rfl := Option.some.inj h
    exact ⟨.nil rfl, fun k b hb => by simp at hb⟩
  | j + 1, s, h => by
    rw [mrun] at h
    split at h
    · next s0 op h1 h2 => exact J_step (mrun_ok h1) (mrun_ok2 h1) h2 (J_run h1) h
    · cases h
theorem sl_len {ops : List Int} {i k : Nat} : (sl ops i k).length ≤ ops.length := by unfold sl; simp; omega
theorem blk_facts {ops : List Int} (h : okN ops = true) {b : Bk} (hb : b ∈ blN ops) : ∃ n : Nat, b.en = (n : Int) ∧ b.at_ < n ∧ n < ops.length ∧ okN (ops.take b.at_ ++ ops.drop (n + 1)) = true ∧
    ((b.els = -1 ∧ okN (sl ops (b.at_ + 1) n) = true) ∨ ∃ e : Nat, b.els = (e : Int) ∧ b.at_ < e ∧ e < n ∧ okN (sl ops (b.at_ + 1) e) = true ∧ okN (sl ops (e + 1) n) = true) := by
  obtain ⟨all, hr⟩ := okN_run h
  have hl := okN_len h
  have hB : blN ops = all := by unfold blN matchN; rw [if_neg (by omega), hr]; rfl
  rw [hB] at hb
  obtain ⟨k, hk⟩ := List.getElem?_of_mem hb
  obtain ⟨n, h1, h2, h3, ⟨S, h4, h5⟩, h6⟩ := (J_run hr).2 k b hk (by simp)
  have hall := (okN_iff.1 h).2
  have hbal : ∀ i k, Bal 40 (sl ops i k) → okN (sl ops i k) = true := fun i k hb => okN_iff.2 ⟨Nat.le_trans sl_len hl, hb⟩
  refine ⟨n, h1, h2, h3, okN_iff.2 ⟨by simp; omega, ?_⟩, ?_⟩
  · rw [arun_app h4]
    rw [← List.take_append_drop (n + 1) ops, arun_app h5] at hall
    exact hall
  · rcases h6 with ⟨g1, g2⟩ | ⟨e, g1, g2, g3, g4, g5⟩
    · exact .inl ⟨g1, hbal _ _ g2⟩
    · exact .inr ⟨e, g1, g2, g3, hbal _ _ g4, hbal _ _ g5⟩
end Go.Proofs.Ytkjfflabapeidaa
/-
  The program's Put and Get of bodies, the document's PutBody, EqBody.
-/
namespace Go.Proofs.Ytkjfflabapeidaa
open Go.RowKit Go.ChangeShapes Go.WideShapes Go.ChangeAt Go.Deep
set_option linter.unusedSimpArgs false
set_option linter.unusedVariables false
attribute [local irreducible] SW RS RD AThen ABlock

theorem take_sub {b : List Nat} {k : Nat} : List.take ((b.map encU).length - k) (List.drop k (b.map encU)) = (b.drop k).map encU := by
  rw [List.map_drop]; exact List.take_of_length_le (by simp)
def pJ (l : List Ins) (j : Nat) : List Nat := (l.take j).flatMap putN
theorem pJ_next {l : List Ins} {j : Nat} {x : Ins} (h : l[j]? = some x) : pJ l (j + 1) = pJ l j ++ putN x := by
  unfold pJ; rw [List.take_add_one, h, List.flatMap_append]; simp
theorem pJ_len {l : List Ins} (hm : ∀ x ∈ l, x.Ok ∧ mayN x = true) (j : Nat) : (pJ l j).length ≤ 200 * l.length := by
  have h1 : (pJ l j).length ≤ 200 * (l.take j).length := flat_put_len fun x hx => hm x (List.mem_of_mem_take hx)
  have : (l.take j).length ≤ l.length := by simp; omega
  omega
theorem pJ_all {l : List Ins} : pJ l l.length ++ [11] = putL l := by unfold pJ putL; rw [List.take_length]
theorem putL_len {l : List Ins} (hm : ∀ x ∈ l, x.Ok ∧ mayN x = true) : (putL l).length ≤ 200 * l.length + 1 := by
  rw [← pJ_all]; have := pJ_len hm l.length; simp; omega
theorem putL_lt {l : List Ins} (hm : ∀ x ∈ l, x.Ok ∧ mayN x = true) : ∀ b ∈ putL l, b < 256 := by
  intro b hb
  rcases List.mem_append.1 hb with hb | hb
  · exact flat_put_lt hm b hb
  · rw [List.mem_singleton.1 hb]; decide
set_option maxRecDepth 100000 in
theorem code_put (q : Nat) (vs : List Nat) (hvs : vs.length ≤ 20000) (l : List Ins) (hl : l.length ≤ 310) (hm : ∀ x ∈ l, x.Ok ∧ mayN x = true) : SCall Try.prog 35 [.own q 0 vs.length, .ro 4 (l.map (iv .any)) .any] [(q, .arr 5 1 (vs.map encU))]
    (fun y σ => ∃ r, y = .own r 0 (vs ++ putL l).length ∧ σ = [(r, .arr 5 1 ((vs ++ putL l).map encU))]) := by
  refine scall_of (n := 20) (ks := [0, 1, 4, 6, 7, 8, 9, 10]) Try.func35 rfl rfl (Nat.le_of_ble_eq_true rfl) ?_
  (refine ctlT ?_)
  refine rgT ?_
  refine lo (lop_assign (E rfl)) rfl ?_
  refine leT ?_
  (refine ctlT ?_)
  refine rgT ?_
  refine lo (lop_move (E rfl)) rfl ?_
  refine z14 ?_
  refine lo (lop_move (E rfl)) rfl ?_
  refine leT ?_
  (refine ctlT ?_)
  refine lp (β := Nat × Nat) (fun b => ⟨[(0, .own b.1 0 (vs ++ pJ l b.2).length), (7, .ro 4 (l.map (iv .any)) .any), (8, .int .i64 l.length), (9, .int .i64 b.2)], [(b.1, .arr 5 1 ((vs ++ pJ l b.2).map encU))]⟩) (fun b => b.2 ≤ l.length) (fun b => l.length - b.2) (q, 0) (by dsimp only; rw [show vs ++ pJ l 0 = vs by simp [pJ]]; (exact sgoT)) (Nat.zero_le _) ?_
  rintro ⟨q1, j⟩ hj
  have hpl := pJ_len hm j
  dsimp only at hj ⊢
  (refine ctlT ?_)
  refine rgT ?_
  refine lo (lop_lss (E rfl) (E rfl)) rfl ?_
  refine leT ?_
  (refine ctlT ?_)
  refine sw_cond rfl (fun g2 => ?_) (fun g2 => ?_)
  · have hlt : j < l.length := by simp at g2; omega
    obtain ⟨x, hx⟩ : ∃ x, l[j]? = some x := ⟨_, List.getElem?_eq_getElem hlt⟩
    obtain ⟨hxo, hxm⟩ := hm x (List.mem_of_getElem? hx)
    have hnx := pJ_next hx
    (refine ctlT ?_)
    refine rgT ?_
    refine z15 ?_
    first | refine lo (lop_load_el_agg (E rfl) rfl (fun hc => by first | rfl | exact get_map (by assumption) | assumption | exact get_map (at_bang (by omega))) (fun _ => Nat.le_of_ble_eq_true rfl)) rfl ?_ | refine lo (lop_load_ow_agg (E rfl) rfl sgT (fun hc => by first | rfl | exact get_map (by assumption) | assumption | exact get_map (at_bang (by omega))) (fun _ => Nat.le_of_ble_eq_true rfl)) rfl ?_
    apply al; rfl; (exact zcT); refine freshT fun r6 h6 => ?_; (repeat (rcases h6 with ⟨_, h6⟩))
    apply stp; rfl; rfl; rfl; rfl; (exact sputT)
    refine leT ?_
    (refine ctlT ?_)
    refine rgT ?_
    refine lo (lop_move (E rfl)) rfl ?_
    refine z99 ?_
    refine cw [(q1, .arr 5 1 ((vs ++ pJ l j).map encU))] Try.call23 (instr_put q1 (vs ++ pJ l j) (by simp; omega) .any x hxo hxm) rfl argsleT stleT ?_
    rintro _ σ' ⟨r15, rfl, rfl⟩ h15
    have k15 := rest1T h15; (repeat (rcases k15 with ⟨_, k15⟩))
    (apply rs_sto; (exact nflT))
    refine lo (lop_assign (E rfl)) rfl ?_
    refine leT ?_
    (refine ctlT ?_)
    refine rgT ?_
    refine z17 ?_
    refine lo (lop_move (E rfl)) rfl ?_
    refine leT ?_
    (refine ctlT ?_)
    refine ⟨(r15, j + 1), hlt, by show l.length - (j + 1) < l.length - j; omega, ?_⟩
    dsimp only
    rw [hnx, ← List.append_assoc]
    (exact sgoT)
  obtain rfl : j = l.length := by simp at g2; omega
  (refine ctlT ?_)
  refine rgT ?_
  refine lo (lop_move (E rfl)) rfl ?_
  refine z1 ?_; refine freshT fun r18 h18 => ?_; (repeat (rcases h18 with ⟨_, h18⟩))
  refine apA (((vs ++ pJ l l.length) ++ [11]).map encU) ((vs ++ pJ l l.length) ++ [11]).length ?_
  refine apnT fun r19 h19 => ?_; (repeat (rcases h19 with ⟨_, h19⟩))
  refine lo (lop_assign (E rfl)) rfl ?_
  refine leT ?_
  (refine ctlT ?_)
  rw [List.append_assoc, pJ_all]
  (apply aend; (exact resT))
  · exact ⟨r19, rfl, rfl⟩
  · (exact stleT)
set_option maxRecDepth 100000 in
theorem ref_putBody (l : List Ins) (hl : l.length ≤ 310) (hm : ∀ x ∈ l, x.Ok ∧ mayN x = true) : SCall Try.prog 36 [.ro 4 (l.map (iv .any)) .any] []
    (fun y σ => ∃ r, y = .own r 0 (putL l).length ∧ σ = [(r, .arr 5 1 ((putL l).map encU))]) := by
  refine scall_of (n := 21) (ks := [0, 2, 3, 4, 8]) Try.func36 rfl rfl (Nat.le_of_ble_eq_true rfl) ?_
  (refine ctlT ?_)
  refine rgT ?_
  refine lo (lop_assign (E rfl)) rfl ?_
  refine leT ?_
  (refine ctlT ?_)
  refine rgT ?_
  refine lo (lop_assign (E rfl)) rfl ?_
  refine leT ?_
  (refine ctlT ?_)
  refine rgT ?_
  refine lo (lop_assign (E rfl)) rfl ?_
  refine leT ?_
  (refine ctlT ?_)
  refine sw_virt 3 5 1 (by decide) rfl (by decide) (freshT fun q0 hq0 => ?_); (repeat (rcases hq0 with ⟨_, hq0⟩))
  refine lp (β := Nat × Nat) (fun b => ⟨[(0, .ro 4 (l.map (iv .any)) .any), (3, .own b.1 0 (pJ l b.2).length), (4, .int .i64 b.2)], [(b.1, .arr 5 1 ((pJ l b.2).map encU))]⟩) (fun b => b.2 ≤ l.length) (fun b => l.length - b.2) (q0, 0) sgoT (Nat.zero_le _) ?_
  rintro ⟨q1, j⟩ hj
  have hpl := pJ_len hm j
  dsimp only at hj ⊢
  (refine ctlT ?_)
  refine rgT ?_
  refine lo (lop_move (E rfl)) rfl ?_
  refine lo (lop_move (E rfl)) rfl ?_
  refine z14 ?_
  refine lo (lop_lss (E rfl) (E rfl)) rfl ?_
  refine leT ?_
  (refine ctlT ?_)
  refine sw_cond rfl (fun g3 => ?_) (fun g3 => ?_)
  · have hlt : j < l.length := by simp at g3; omega
    obtain ⟨x, hx⟩ : ∃ x, l[j]? = some x := ⟨_, List.getElem?_eq_getElem hlt⟩
    obtain ⟨hxo, hxm⟩ := hm x (List.mem_of_getElem? hx)
    have hnx := pJ_next hx
    have hpx := putN_len hxo hxm
    (refine ctlT ?_)
    refine rgT ?_
    refine lo (lop_move (E rfl)) rfl ?_
    refine lo (lop_move (E rfl)) rfl ?_
    refine lo (lop_move (E rfl)) rfl ?_
    refine z15 ?_
    first | refine lo (lop_load_el_agg (E rfl) rfl (fun hc => by first | rfl | exact get_map (by assumption) | assumption | exact get_map (at_bang (by omega))) (fun _ => Nat.le_of_ble_eq_true rfl)) rfl ?_ | refine lo (lop_load_ow_agg (E rfl) rfl sgT (fun hc => by first | rfl | exact get_map (by assumption) | assumption | exact get_map (at_bang (by omega))) (fun _ => Nat.le_of_ble_eq_true rfl)) rfl ?_
    refine clA Try.call24 (ref_putInstr .any x hxo hxm) rfl bargsT noT ?_
    rintro _ σ' ⟨r16, rfl, rfl⟩ h16
    replace h16 := lnewT h16; (repeat (rcases h16 with ⟨_, h16⟩))
    (apply rs_sto; (exact nflT))
    refine apA ((pJ l j ++ putN x).map encU) (pJ l j ++ putN x).length ?_
    refine apnT fun r17 h17 => ?_; (repeat (rcases h17 with ⟨_, h17⟩))
    refine lo (lop_assign (E rfl)) rfl ?_
    refine leT ?_
    (refine ctlT ?_)
    refine rgT ?_
    refine lo (lop_move (E rfl)) rfl ?_
    refine z17 ?_
    refine lo (lop_assign (E rfl)) rfl ?_
    refine leT ?_
    (refine ctlT ?_)
    refine ⟨(r17, j + 1), hlt, by show l.length - (j + 1) < l.length - j; omega, ?_⟩
    dsimp only
    rw [hnx]
    (exact sgoT)
  obtain rfl : j = l.length := by simp at g3; omega
  (refine ctlT ?_)
  refine rgT ?_
  refine lo (lop_move (E rfl)) rfl ?_
  refine z1 ?_; refine freshT fun r19 h19 => ?_; (repeat (rcases h19 with ⟨_, h19⟩))
  refine apA ((pJ l l.length ++ [11]).map encU) (pJ l l.length ++ [11]).length ?_
  refine apnT fun r20 h20 => ?_; (repeat (rcases h20 with ⟨_, h20⟩))
  refine lo (lop_assign (E rfl)) rfl ?_
  refine leT ?_
  (refine ctlT ?_)
  rw [pJ_all]
  (apply aend; (exact resT))
  · exact ⟨r20, rfl, rfl⟩
  · (exact stleT)
instance : DecidableEq Ins := fun x y => if h : eqN x y = true then .isTrue (eqN_iff.1 h) else .isFalse fun e => h (eqN_iff.2 e)
def eqB (a c : List Ins) : Bool := decide (a = c)
set_option maxRecDepth 100000 in
theorem ref_eqBody (k k2 : Rk) (a c : List Ins) (ha : a.length ≤ 100000) (hc : c.length ≤ 100000) : SCall Try.prog 38 [.ro 4 (a.map (iv .any)) k, .ro 4 (c.map (iv .any)) k2] [] (fun r σ => r = .bool (eqB a c) ∧ σ = []) := by
  refine scall_of (n := 27) (ks := [0, 1, 4, 5, 10, 14, 26]) Try.func38 rfl rfl (Nat.le_of_ble_eq_true rfl) ?_
  (refine ctlT ?_)
  refine rgT ?_
  refine lo (lop_assign (E rfl)) rfl ?_
  refine leT ?_
  (refine ctlT ?_)
  refine rgT ?_
  refine lo (lop_move (E rfl)) rfl ?_
  refine z14 ?_
  refine lo (lop_move (E rfl)) rfl ?_
  refine z14 ?_
  refine lo (lop_neq (E rfl) (E rfl)) rfl ?_
  refine leT ?_
  (refine ctlT ?_)
  refine sw_cond rfl (fun g1 => ?_) (fun g1 => ?_)
  · have hE : eqB a c = false := by unfold eqB; rw [decide_eq_false]; intro e; rw [e] at g1; simp at g1
    (refine ctlT ?_)
    refine rgT ?_
    refine lo (lop_assign (E rfl)) rfl ?_
    refine leT ?_
    (refine ctlT ?_)
    (apply aend; (exact resT))
    · exact ⟨by rw [hE]; rfl, rfl⟩
    · (exact stleT)
  have hlen : a.length = c.length := by simp at g1; omega
  (refine ctlT ?_)
  refine rgT ?_
  refine lo (lop_assign (E rfl)) rfl ?_
  refine leT ?_
  (refine ctlT ?_)
  refine lp (β := Nat) (fun j => ⟨[(0, .ro 4 (a.map (iv .any)) k), (1, .ro 4 (c.map (iv .any)) k2), (5, .int .i64 j)], []⟩) (fun j => j ≤ a.length ∧ a.take j = c.take j) (fun j => a.length - j) 0 sgoT ⟨Nat.zero_le _, rfl⟩ ?_
  intro j ⟨hj, hjt⟩
  (refine ctlT ?_)
  refine rgT ?_
  refine lo (lop_move (E rfl)) rfl ?_
  refine lo (lop_move (E rfl)) rfl ?_
  refine z14 ?_
  refine lo (lop_lss (E rfl) (E rfl)) rfl ?_
  refine leT ?_
  (refine ctlT ?_)
  refine sw_cond rfl (fun g4 => ?_) (fun g4 => ?_)
  · have hlt : j < a.length := by simp at g4; omega
    obtain ⟨x, hx⟩ : ∃ x, a[j]? = some x := ⟨_, List.getElem?_eq_getElem hlt⟩
    obtain ⟨y, hy⟩ : ∃ y, c[j]? = some y := ⟨_, List.getElem?_eq_getElem (by omega)⟩
    (refine ctlT ?_)
    refine rgD [(0, true), (1, true), (2, true), (3, true), (4, true), (5, true), (6, true), (7, true), (8, false), (9, true)] ?_
    refine dlo rfl (lop_move (E rfl)) rfl ?_
    refine dlo rfl (lop_move (E rfl)) rfl ?_
    refine z56 ?_
    first | refine dlo rfl (lop_load_el_agg (E rfl) rfl (fun hc => by first | rfl | exact get_map (by assumption) | assumption | exact get_map (at_bang (by omega))) (fun _ => Nat.le_of_ble_eq_true rfl)) rfl ?_ | refine dlo rfl (lop_load_ow_agg (E rfl) rfl sgT (fun hc => by first | rfl | exact get_map (by assumption) | assumption | exact get_map (at_bang (by omega))) (fun _ => Nat.le_of_ble_eq_true rfl)) rfl ?_
    refine dlo rfl (lop_move (E rfl)) rfl ?_
    refine dlo rfl (lop_move (E rfl)) rfl ?_
    refine z56 ?_
    first | refine dlo rfl (lop_load_el_agg (E rfl) rfl (fun hc => by first | rfl | exact get_map (by assumption) | assumption | exact get_map (at_bang (by omega))) (fun _ => Nat.le_of_ble_eq_true rfl)) rfl ?_ | refine dlo rfl (lop_load_ow_agg (E rfl) rfl sgT (fun hc => by first | rfl | exact get_map (by assumption) | assumption | exact get_map (at_bang (by omega))) (fun _ => Nat.le_of_ble_eq_true rfl)) rfl ?_
    refine dpuA rfl Try.call22 (ref_eqInstr .any .any x y) rfl pargsT nofT ?_
    refine dlo rfl (lop_not (E rfl)) rfl ?_
    refine deT ?_
    (refine ctlT ?_)
    refine sw_cond rfl (fun g6 => ?_) (fun g6 => ?_)
    · have hE : eqB a c = false := by unfold eqB; rw [decide_eq_false]; intro e; rw [e, hy] at hx; rw [Option.some.inj hx, eqN_self] at g6; simp at g6
      (refine ctlT ?_)
      refine rgT ?_
      refine lo (lop_assign (E rfl)) rfl ?_
      refine leT ?_
      (refine ctlT ?_)
      (apply aend; (exact resT))
      · exact ⟨by rw [hE]; rfl, rfl⟩
      · (exact stleT)
    have hxy : x = y := eqN_iff.1 (by simpa using g6)
    (refine ctlT ?_)
    refine rgT ?_
    refine lo (lop_move (E rfl)) rfl ?_
    refine z17 ?_
    refine lo (lop_assign (E rfl)) rfl ?_
    refine leT ?_
    (refine ctlT ?_)
    refine ⟨j + 1, ⟨hlt, by rw [List.take_add_one, List.take_add_one, hjt, hx, hy, hxy]⟩, by show a.length - (j + 1) < a.length - j; omega, ?_⟩
    (exact sgoT)
  obtain rfl : j = a.length := by simp at g4; omega
  have hE : eqB a c = true := by unfold eqB; rw [decide_eq_true]; rw [List.take_length, hlen, List.take_length] at hjt; exact hjt
  (refine ctlT ?_)
  refine rgT ?_
  refine lo (lop_assign (E rfl)) rfl ?_
  refine leT ?_
  (refine ctlT ?_)
  (apply aend; (exact resT))
  · exact ⟨by rw [hE]; rfl, rfl⟩
  · (exact stleT)
set_option maxRecDepth 100000 in
theorem code_get (b : List Nat) (hb : b.length ≤ 1000000) (hlt : ∀ x ∈ b, x < 256) : SCall Try.prog 37 [.ro 1 (b.map encU) .any] []
    (fun y σ => ∃ q, y = .tup [.own q 0 (getC b).1.length, .int .i64 ((getC b).2.1 : Nat), .int .i64 (getC b).2.2] ∧ σ = [(q, .arr 24 4 ((getC b).1.map (iv .any)))]) := by
  refine scall_of (n := 55) (ks := [0, 2, 3, 4, 5, 6, 7, 8, 9, 10, 12, 22, 29, 34, 38, 45, 54]) Try.func37 rfl rfl (Nat.le_of_ble_eq_true rfl) ?_
  (refine ctlT ?_)
  refine rgT ?_
  refine lo (lop_assign (E rfl)) rfl ?_
  refine lo (lop_assign (E rfl)) rfl ?_
  refine lo (lop_assign (E rfl)) rfl ?_
  refine leT ?_
  (refine ctlT ?_)
  refine rgT ?_
  refine lo (lop_assign (E rfl)) rfl ?_
  refine leT ?_
  (refine ctlT ?_)
  refine rgT ?_
  refine lo (lop_assign (E rfl)) rfl ?_
  refine leT ?_
  (refine ctlT ?_)
  refine rgT ?_
  refine lo (lop_assign (E rfl)) rfl ?_
  refine leT ?_
  (refine ctlT ?_)
  refine sw_virt 5 24 4 (by decide) rfl (by decide) (freshT fun q0 hq0 => ?_); (repeat (rcases hq0 with ⟨_, hq0⟩))
  refine lp (β := Nat × Nat × Int × Nat × List Ins) (fun b' => ⟨[(0, .ro 1 (b.map encU) .any), (5, .own b'.1 0 b'.2.2.2.2.length), (6, .int .i64 b'.2.2.1), (7, .int .i64 b'.2.1)], [(b'.1, .arr 24 4 (b'.2.2.2.2.map (iv .any)))]⟩) (fun b' => b'.2.1 ≤ b.length ∧ 0 ≤ b'.2.2.1 ∧ b'.2.2.1 ≤ b'.2.2.2.2.length ∧ b'.2.2.2.1 + b'.2.2.2.2.length = 301 ∧ 1 ≤ b'.2.2.2.1 ∧ getC b = gcN b b'.2.2.2.1 b'.2.1 b'.2.2.1 b'.2.2.2.2) (fun b' => b'.2.2.2.1) (q0, 0, 0, 301, []) sgoT ⟨Nat.zero_le _, Int.le_refl 0, Int.le_refl 0, rfl, by show 1 ≤ 301; decide, rfl⟩ ?_
  rintro ⟨q, k, d, f, l⟩ ⟨hk, hd0, hdl, hfl, hf1, hG⟩
  dsimp only at hk hd0 hdl hfl hf1 hG ⊢
  obtain ⟨f, rfl⟩ : ∃ g, f = g + 1 := ⟨f - 1, by omega⟩
  have hlt2 : ∀ x ∈ b.drop k, x < 256 := fun x hx => hlt x (List.mem_of_mem_drop hx)
  have hsnd := getP_sound hlt2
  rw [gcN] at hG
  (refine ctlT ?_)
  refine rgT ?_
  refine lo (lop_move (E rfl)) rfl ?_
  refine lo (lop_move (E rfl)) rfl ?_
  first | refine lo (lop_slice_ro (E rfl) (OB.some (E rfl) (fun _ => by first | rfl | exact (Int.toNat_of_nonneg (by omega)).symm)) OB.none (fun _ => by first | (simp only [List.length_map]; omega) | omega)) rfl ?_ | refine lo (lop_slice_own (E rfl) sgT (OB.some (E rfl) (fun _ => by first | rfl | exact (Int.toNat_of_nonneg (by omega)).symm)) OB.none (fun _ => by first | (simp only [List.length_map]; omega) | omega)) rfl ?_
  rw [take_sub]
  refine cw [] Try.call25 (instr_get (b.drop k) (by simp; omega) hlt2) rfl argsleT stleT ?_
  rintro _ σ' ⟨q3, rfl, rfl⟩ h17
  replace h17 := cnewT h17; (repeat (rcases h17 with ⟨_, h17⟩))
  (apply rs_sto; (exact nflT))
  generalize getP (b.drop k) = gp at hG hsnd ⊢
  obtain ⟨x, n, e⟩ := gp
  dsimp only at hG hsnd ⊢
  refine lo (lop_move (E rfl)) rfl ?_
  refine lo (lop_extract (E rfl) rfl) rfl ?_
  refine lo (lop_extract (E rfl) rfl) rfl ?_
  refine lo (lop_extract (E rfl) rfl) rfl ?_
  apply al; rfl; (exact zcT); refine freshT fun r8 h8 => ?_; (repeat (rcases h8 with ⟨_, h8⟩))
  apply stp; rfl; rfl; rfl; rfl; (exact sputT)
  refine lo (lop_assign (E rfl)) rfl ?_
  refine lo (lop_assign (E rfl)) rfl ?_
  refine leT ?_
  (refine ctlT ?_)
  refine rgT ?_
  refine lo (lop_move (E rfl)) rfl ?_
  refine lo (lop_neq (E rfl) (E rfl)) rfl ?_
  refine leT ?_
  (refine ctlT ?_)
  refine sw_cond rfl (fun g5 => ?_) (fun g5 => ?_)
  · (refine ctlT ?_)
    refine rgT ?_
    refine lo (lop_move (E rfl)) rfl ?_
    refine lo (lop_assign (E rfl)) rfl ?_
    refine lo (lop_assign (E rfl)) rfl ?_
    refine lo (lop_assign (E rfl)) rfl ?_
    refine leT ?_
    refine an ?_
    refine sw_virt 2 24 4 (by decide) rfl (by decide) (freshT fun q2 hq2 => ?_); (repeat (rcases hq2 with ⟨_, hq2⟩))
    have hE : getC b = ([], 0, e) := by rw [hG, if_pos g5]
    (refine ctlT ?_)
    (apply aend; (exact resT))
    · exact ⟨q2, by rw [hE]; rfl, by rw [hE]⟩
    · (exact stleT)
  rw [if_neg (by simp [g5])] at hG
  obtain ⟨hxo, hxm, hsp⟩ := hsnd (by simpa using g5)
  have hkn : k + n ≤ b.length := by have := hsp.2.2; simp at this; omega
  (refine ctlT ?_)
  refine rgT ?_
  refine lo (lop_move (E rfl)) rfl ?_
  refine lo (lop_move (E rfl)) rfl ?_
  refine z17 ?_
  refine lo (lop_assign (E rfl)) rfl ?_
  refine leT ?_
  (refine ctlT ?_)
  refine rgT ?_
  refine z59 ?_
  refine z60 ?_
  refine lo (lop_eql (E rfl) (E rfl)) rfl ?_
  refine leT ?_
  (refine ctlT ?_)
  refine sw_cond rfl (fun g8 => ?_) (fun g8 => ?_)
  · have hD : dN d x.op = d - 1 := by unfold dN; rw [if_pos g8]
    (refine ctlT ?_)
    refine rgT ?_
    refine lo (lop_move (E rfl)) rfl ?_
    refine z19 ?_
    refine lo (lop_assign (E rfl)) rfl ?_
    refine leT ?_
    (refine ctlT ?_)
    refine rgT ?_
    refine lo (lop_move (E rfl)) rfl ?_
    refine lo (lop_lss (E rfl) (E rfl)) rfl ?_
    refine leT ?_
    (refine ctlT ?_)
    refine sw_cond rfl (fun g12 => ?_) (fun g12 => ?_)
    · rw [if_pos (by rw [hD]; simpa using g12)] at hG
      (refine ctlT ?_)
      refine rgT ?_
      refine lo (lop_move (E rfl)) rfl ?_
      refine clA Try.call30 (code_match l (by omega)) rfl bargsT noT ?_
      rintro _ σ' ⟨q4, rfl, rfl⟩ h41
      replace h41 := lnewT h41; (repeat (rcases h41 with ⟨_, h41⟩))
      (apply rs_sto; (exact nflT))
      refine lo (lop_move (E rfl)) rfl ?_
      refine lo (lop_extract (E rfl) rfl) rfl ?_
      refine lo (lop_extract (E rfl) rfl) rfl ?_
      refine lo (lop_assign (E rfl)) rfl ?_
      refine lo (lop_assign (E rfl)) rfl ?_
      refine leT ?_
      (refine ctlT ?_)
      refine rgT ?_
      refine lo (lop_move (E rfl)) rfl ?_
      refine lo (lop_not (E rfl)) rfl ?_
      refine leT ?_
      (refine ctlT ?_)
      refine sw_cond rfl (fun g14 => ?_) (fun g14 => ?_)
      · (refine ctlT ?_)
        refine rgT ?_
        refine lo (lop_assign (E rfl)) rfl ?_
        refine lo (lop_assign (E rfl)) rfl ?_
        refine lo (lop_assign (E rfl)) rfl ?_
        refine leT ?_
        refine an ?_
        refine sw_virt 2 24 4 (by decide) rfl (by decide) (freshT fun q2 hq2 => ?_); (repeat (rcases hq2 with ⟨_, hq2⟩))
        have hE : getC b = ([], 0, 1) := by rw [hG, if_neg]; intro h; rw [h] at g14; cases g14
        (refine ctlT ?_)
        (apply aend; (exact resT))
        · exact ⟨q2, by rw [hE]; rfl, by rw [hE]⟩
        · (exact stleT)
      (refine ctlT ?_)
      refine rgT ?_
      refine lo (lop_move (E rfl)) rfl ?_
      refine lo (lop_move (E rfl)) rfl ?_
      refine lo (lop_assign (E rfl)) rfl ?_
      refine lo (lop_assign (E rfl)) rfl ?_
      refine lo (lop_assign (E rfl)) rfl ?_
      refine leT ?_
      (refine ctlT ?_)
      have hE : getC b = (l, k + n, 0) := by rw [hG, if_pos]; cases h : okN (opsOf l); rw [h] at g14; cases g14; rfl
      (apply aend; (exact resT))
      · exact ⟨q, by rw [hE]; rfl, by rw [hE]⟩
      · (exact stleT)
    rw [if_neg (by rw [hD]; simpa using g12)] at hG
    (refine ctlT ?_)
    refine sw_go (sgo_fzb (r := r8) (q := q3) ssetT sdelT (.cons (.refl _) (.cons (.refl _) (.cons (.refl _) (.cons (bor_own sgT (by simp)) .nil))))) ?_
    refine rgT ?_
    refine lo (lop_move (E rfl)) rfl ?_
    refine z99 ?_
    refine z1 ?_; refine freshT fun r50 h50 => ?_; (repeat (rcases h50 with ⟨_, h50⟩))
    refine apA ((l ++ [x]).map (iv .any)) (l ++ [x]).length ?_
    refine apnT fun r51 h51 => ?_; (repeat (rcases h51 with ⟨_, h51⟩))
    refine lo (lop_assign (E rfl)) rfl ?_
    refine leT ?_
    (refine ctlT ?_)
    refine rgT ?_
    refine lo (lop_move (E rfl)) rfl ?_
    refine z14 ?_
    refine lo (lop_gtr (E rfl) (E rfl)) rfl ?_
    refine leT ?_
    (refine ctlT ?_)
    refine sw_cond rfl (fun g18 => ?_) (fun g18 => ?_)
    · (refine ctlT ?_)
      refine rgT ?_
      refine lo (lop_assign (E rfl)) rfl ?_
      refine lo (lop_assign (E rfl)) rfl ?_
      refine lo (lop_assign (E rfl)) rfl ?_
      refine leT ?_
      refine an ?_
      refine sw_virt 2 24 4 (by decide) rfl (by decide) (freshT fun q2 hq2 => ?_); (repeat (rcases hq2 with ⟨_, hq2⟩))
      have hE : getC b = ([], 0, 4) := by obtain rfl : f = 0 := (by simp at g18; omega); rw [hG]; rfl
      (refine ctlT ?_)
      (apply aend; (exact resT))
      · exact ⟨q2, by rw [hE]; rfl, by rw [hE]⟩
      · (exact stleT)
    (refine ctlT ?_)
    have hf0 : l.length + 1 ≤ 300 := by simp at g18; omega
    refine ⟨(r51, k + n, dN d x.op, f, l ++ [x]), ⟨hkn, by show 0 ≤ dN d x.op; rw [hD]; simp at g12; omega, by show dN d x.op ≤ ((l ++ [x]).length : Nat); rw [hD]; simp; omega, by show f + (l ++ [x]).length = 301; simp; omega, by show 1 ≤ f; omega, hG⟩, Nat.lt_succ_self _, ?_⟩
    dsimp only
    rw [hD]
    (exact sgoT)
  (refine ctlT ?_)
  refine rgT ?_
  refine z59 ?_
  refine z60 ?_
  refine puA Try.call57 (code_opens _) rfl pargsT nofT ?_
  refine leT ?_
  (refine ctlT ?_)
  refine sw_cond rfl (fun g10 => ?_) (fun g10 => ?_)
  · have hD : dN d x.op = d + 1 := by unfold dN; rw [if_neg (by simp [g8]), if_pos g10]
    (refine ctlT ?_)
    refine rgT ?_
    refine lo (lop_move (E rfl)) rfl ?_
    refine z17 ?_
    refine lo (lop_assign (E rfl)) rfl ?_
    refine leT ?_
    (refine ctlT ?_)
    refine rgT ?_
    refine lo (lop_move (E rfl)) rfl ?_
    refine lo (lop_lss (E rfl) (E rfl)) rfl ?_
    refine leT ?_
    (refine ctlT ?_)
    refine sw_cond rfl (fun g12 => ?_) (fun g12 => ?_)
    · rw [if_pos (by rw [hD]; simpa using g12)] at hG
      (refine ctlT ?_)
      refine rgT ?_
      refine lo (lop_move (E rfl)) rfl ?_
      refine clA Try.call30 (code_match l (by omega)) rfl bargsT noT ?_
      rintro _ σ' ⟨q4, rfl, rfl⟩ h41
      replace h41 := lnewT h41; (repeat (rcases h41 with ⟨_, h41⟩))
      (apply rs_sto; (exact nflT))
      refine lo (lop_move (E rfl)) rfl ?_
      refine lo (lop_extract (E rfl) rfl) rfl ?_
      refine lo (lop_extract (E rfl) rfl) rfl ?_
      refine lo (lop_assign (E rfl)) rfl ?_
      refine lo (lop_assign (E rfl)) rfl ?_
      refine leT ?_
      (refine ctlT ?_)
      refine rgT ?_
      refine lo (lop_move (E rfl)) rfl ?_
      refine lo (lop_not (E rfl)) rfl ?_
      refine leT ?_
      (refine ctlT ?_)
      refine sw_cond rfl (fun g14 => ?_) (fun g14 => ?_)
      · (refine ctlT ?_)
        refine rgT ?_
        refine lo (lop_assign (E rfl)) rfl ?_
        refine lo (lop_assign (E rfl)) rfl ?_
        refine lo (lop_assign (E rfl)) rfl ?_
        refine leT ?_
        refine an ?_
        refine sw_virt 2 24 4 (by decide) rfl (by decide) (freshT fun q2 hq2 => ?_); (repeat (rcases hq2 with ⟨_, hq2⟩))
        have hE : getC b = ([], 0, 1) := by rw [hG, if_neg]; intro h; rw [h] at g14; cases g14
        (refine ctlT ?_)
        (apply aend; (exact resT))
        · exact ⟨q2, by rw [hE]; rfl, by rw [hE]⟩
        · (exact stleT)
      (refine ctlT ?_)
      refine rgT ?_
      refine lo (lop_move (E rfl)) rfl ?_
      refine lo (lop_move (E rfl)) rfl ?_
      refine lo (lop_assign (E rfl)) rfl ?_
      refine lo (lop_assign (E rfl)) rfl ?_
      refine lo (lop_assign (E rfl)) rfl ?_
      refine leT ?_
      (refine ctlT ?_)
      have hE : getC b = (l, k + n, 0) := by rw [hG, if_pos]; cases h : okN (opsOf l); rw [h] at g14; cases g14; rfl
      (apply aend; (exact resT))
      · exact ⟨q, by rw [hE]; rfl, by rw [hE]⟩
      · (exact stleT)
    rw [if_neg (by rw [hD]; simpa using g12)] at hG
    (refine ctlT ?_)
    refine sw_go (sgo_fzb (r := r8) (q := q3) ssetT sdelT (.cons (.refl _) (.cons (.refl _) (.cons (.refl _) (.cons (bor_own sgT (by simp)) .nil))))) ?_
    refine rgT ?_
    refine lo (lop_move (E rfl)) rfl ?_
    refine z99 ?_
    refine z1 ?_; refine freshT fun r50 h50 => ?_; (repeat (rcases h50 with ⟨_, h50⟩))
    refine apA ((l ++ [x]).map (iv .any)) (l ++ [x]).length ?_
    refine apnT fun r51 h51 => ?_; (repeat (rcases h51 with ⟨_, h51⟩))
    refine lo (lop_assign (E rfl)) rfl ?_
    refine leT ?_
    (refine ctlT ?_)
    refine rgT ?_
    refine lo (lop_move (E rfl)) rfl ?_
    refine z14 ?_
    refine lo (lop_gtr (E rfl) (E rfl)) rfl ?_
    refine leT ?_
    (refine ctlT ?_)
    refine sw_cond rfl (fun g18 => ?_) (fun g18 => ?_)
    · (refine ctlT ?_)
      refine rgT ?_
      refine lo (lop_assign (E rfl)) rfl ?_
      refine lo (lop_assign (E rfl)) rfl ?_
      refine lo (lop_assign (E rfl)) rfl ?_
      refine leT ?_
      refine an ?_
      refine sw_virt 2 24 4 (by decide) rfl (by decide) (freshT fun q2 hq2 => ?_); (repeat (rcases hq2 with ⟨_, hq2⟩))
      have hE : getC b = ([], 0, 4) := by obtain rfl : f = 0 := (by simp at g18; omega); rw [hG]; rfl
      (refine ctlT ?_)
      (apply aend; (exact resT))
      · exact ⟨q2, by rw [hE]; rfl, by rw [hE]⟩
      · (exact stleT)
    (refine ctlT ?_)
    have hf0 : l.length + 1 ≤ 300 := by simp at g18; omega
    refine ⟨(r51, k + n, dN d x.op, f, l ++ [x]), ⟨hkn, by show 0 ≤ dN d x.op; rw [hD]; simp at g12; omega, by show dN d x.op ≤ ((l ++ [x]).length : Nat); rw [hD]; simp; omega, by show f + (l ++ [x]).length = 301; simp; omega, by show 1 ≤ f; omega, hG⟩, Nat.lt_succ_self _, ?_⟩
    dsimp only
    rw [hD]
    (exact sgoT)
  have hD : dN d x.op = d := by unfold dN; rw [if_neg (by simp [g8]), if_neg (by simp [g10])]
  (refine ctlT ?_)
  refine rgT ?_
  refine lo (lop_move (E rfl)) rfl ?_
  refine lo (lop_lss (E rfl) (E rfl)) rfl ?_
  refine leT ?_
  (refine ctlT ?_)
  refine sw_cond rfl (fun g12 => ?_) (fun g12 => ?_)
  · rw [if_pos (by rw [hD]; simpa using g12)] at hG
    (refine ctlT ?_)
    refine rgT ?_
    refine lo (lop_move (E rfl)) rfl ?_
    refine clA Try.call30 (code_match l (by omega)) rfl bargsT noT ?_
    rintro _ σ' ⟨q4, rfl, rfl⟩ h41
    replace h41 := lnewT h41; (repeat (rcases h41 with ⟨_, h41⟩))
    (apply rs_sto; (exact nflT))
    refine lo (lop_move (E rfl)) rfl ?_
    refine lo (lop_extract (E rfl) rfl) rfl ?_
    refine lo (lop_extract (E rfl) rfl) rfl ?_
    refine lo (lop_assign (E rfl)) rfl ?_
    refine lo (lop_assign (E rfl)) rfl ?_
    refine leT ?_
    (refine ctlT ?_)
    refine rgT ?_
    refine lo (lop_move (E rfl)) rfl ?_
    refine lo (lop_not (E rfl)) rfl ?_
    refine leT ?_
    (refine ctlT ?_)
    refine sw_cond rfl (fun g14 => ?_) (fun g14 => ?_)
    · (refine ctlT ?_)
      refine rgT ?_
      refine lo (lop_assign (E rfl)) rfl ?_
      refine lo (lop_assign (E rfl)) rfl ?_
      refine lo (lop_assign (E rfl)) rfl ?_
      refine leT ?_
      refine an ?_
      refine sw_virt 2 24 4 (by decide) rfl (by decide) (freshT fun q2 hq2 => ?_); (repeat (rcases hq2 with ⟨_, hq2⟩))
      have hE : getC b = ([], 0, 1) := by rw [hG, if_neg]; intro h; rw [h] at g14; cases g14
      (refine ctlT ?_)
      (apply aend; (exact resT))
      · exact ⟨q2, by rw [hE]; rfl, by rw [hE]⟩
      · (exact stleT)
    (refine ctlT ?_)
    refine rgT ?_
    refine lo (lop_move (E rfl)) rfl ?_
    refine lo (lop_move (E rfl)) rfl ?_
    refine lo (lop_assign (E rfl)) rfl ?_
    refine lo (lop_assign (E rfl)) rfl ?_
    refine lo (lop_assign (E rfl)) rfl ?_
    refine leT ?_
    (refine ctlT ?_)
    have hE : getC b = (l, k + n, 0) := by rw [hG, if_pos]; cases h : okN (opsOf l); rw [h] at g14; cases g14; rfl
    (apply aend; (exact resT))
    · exact ⟨q, by rw [hE]; rfl, by rw [hE]⟩
    · (exact stleT)
  rw [if_neg (by rw [hD]; simpa using g12)] at hG
  (refine ctlT ?_)
  refine sw_go (sgo_fzb (r := r8) (q := q3) ssetT sdelT (.cons (.refl _) (.cons (.refl _) (.cons (.refl _) (.cons (bor_own sgT (by simp)) .nil))))) ?_
  refine rgT ?_
  refine lo (lop_move (E rfl)) rfl ?_
  refine z99 ?_
  refine z1 ?_; refine freshT fun r50 h50 => ?_; (repeat (rcases h50 with ⟨_, h50⟩))
  refine apA ((l ++ [x]).map (iv .any)) (l ++ [x]).length ?_
  refine apnT fun r51 h51 => ?_; (repeat (rcases h51 with ⟨_, h51⟩))
  refine lo (lop_assign (E rfl)) rfl ?_
  refine leT ?_
  (refine ctlT ?_)
  refine rgT ?_
  refine lo (lop_move (E rfl)) rfl ?_
  refine z14 ?_
  refine lo (lop_gtr (E rfl) (E rfl)) rfl ?_
  refine leT ?_
  (refine ctlT ?_)
  refine sw_cond rfl (fun g18 => ?_) (fun g18 => ?_)
  · (refine ctlT ?_)
    refine rgT ?_
    refine lo (lop_assign (E rfl)) rfl ?_
    refine lo (lop_assign (E rfl)) rfl ?_
    refine lo (lop_assign (E rfl)) rfl ?_
    refine leT ?_
    refine an ?_
    refine sw_virt 2 24 4 (by decide) rfl (by decide) (freshT fun q2 hq2 => ?_); (repeat (rcases hq2 with ⟨_, hq2⟩))
    have hE : getC b = ([], 0, 4) := by obtain rfl : f = 0 := (by simp at g18; omega); rw [hG]; rfl
    (refine ctlT ?_)
    (apply aend; (exact resT))
    · exact ⟨q2, by rw [hE]; rfl, by rw [hE]⟩
    · (exact stleT)
  (refine ctlT ?_)
  have hf0 : l.length + 1 ≤ 300 := by simp at g18; omega
  refine ⟨(r51, k + n, dN d x.op, f, l ++ [x]), ⟨hkn, by show 0 ≤ dN d x.op; rw [hD]; simp at g12; omega, by show dN d x.op ≤ ((l ++ [x]).length : Nat); rw [hD]; simp; omega, by show f + (l ++ [x]).length = 301; simp; omega, by show 1 ≤ f; omega, hG⟩, Nat.lt_succ_self _, ?_⟩
  dsimp only
  rw [hD]
  (exact sgoT)
end Go.Proofs.Ytkjfflabapeidaa
/-
  The statements' begun: an if in a block.
-/
namespace Go.Proofs.Ytkjfflabapeidaa
open Go.RowKit Go.ChangeShapes Go.WideShapes Go.ChangeAt Go.Deep
set_option linter.unusedSimpArgs false
set_option linter.unusedVariables false
attribute [local irreducible] SW RS RD AThen ABlock

theorem VLe.ro {sz : Nat} {es es' : List (List AV)} {k : Rk} (hl : es.length = es'.length) (hs : RowsOk sz es')
    (h : ∀ (i : Nat) (e e' : List AV), es[i]? = some e → es'[i]? = some e' → e.length = e'.length ∧ ∀ (j : Nat) (a a' : AV), e[j]? = some a → e'[j]? = some a' → VLe a a') : VLe (.ro sz es k) (.ro sz es' k) := fun M F w v hv => by
  have hx : ∀ (i : Nat) (e' : List AV), es'[i]? = some e' → ∃ e, es[i]? = some e := fun i e' h => ⟨_, List.getElem?_eq_getElem (by have := (List.getElem?_eq_some_iff.1 h).1; omega)⟩
  have hy : ∀ (i : Nat) (e' : List AV) (j : Nat) (a' : AV), es'[i]? = some e' → e'[j]? = some a' → ∃ e a, es[i]? = some e ∧ e[j]? = some a ∧ VLe a a' := fun i e' j a' h1 h2 => by
    obtain ⟨e, he⟩ := hx i e' h1
    obtain ⟨g1, g2⟩ := h i e e' he h1
    have hj := (List.getElem?_eq_some_iff.1 h2).1
    have ha : e[j]? = some (e[j]'(by omega)) := List.getElem?_eq_getElem (by omega)
    exact ⟨e, _, he, ha, g2 j _ a' ha h2⟩
  cases hv with
  | ro hb hs' hc hr hle hm hf hn =>
    rw [hl]
    rw [hl] at hle hf
    rename_i b o cap us
    refine .ro (us := us) hb hs (fun i e' j a' h1 h2 => ?_) (fun i e' j a' h1 h2 => ?_) hle hm hf hn
    · obtain ⟨e, a, he, ha, -⟩ := hy i e' j a' h1 h2; exact hc i e j a he ha
    · obtain ⟨e, a, he, ha, hv⟩ := hy i e' j a' h1 h2; exact hv _ _ _ _ (hr i e j a he ha)
  | ro0 hm hA hf hn =>
    obtain rfl : es' = [] := List.length_eq_zero_iff.1 hl.symm
    exact .ro0 hm hA hf hn
/-- an instruction of which nothing was said but its byte -/
def encO (op : Int) : List AV := [.int .i64 op, .int .i64 0, .int .i64 0, .ro 0 [] .nil]
instance : NoE encO := ⟨fun a x hx => by simp [encO] at hx; rcases hx with rfl | rfl | rfl <;> first | exact NoF.int | exact NoF.nil⟩
def insO (op : Int) : Ins := ⟨op, 0, 0, []⟩
theorem vle_ops {ops : List Int} {k : Rk} : VLe (.ro 4 (ops.map encO) k) (.ro 4 ((ops.map insO).map (iv .any)) k) := by
  refine VLe.ro (by simp) ?_ ?_
  · intro x hx
    simp only [List.map_map, List.mem_map, Function.comp] at hx
    obtain ⟨o, -, rfl⟩ := hx
    exact ⟨rfl, by simp [iv, AV.cell]⟩
  · intro i e e' h1 h2
    simp only [List.map_map, List.getElem?_map, Option.map_eq_some_iff] at h1 h2
    obtain ⟨o, ho, rfl⟩ := h1
    obtain ⟨o', ho', rfl⟩ := h2
    obtain rfl := Option.some.inj (ho.symm.trans ho')
    refine ⟨rfl, fun j a a' ha ha' => ?_⟩
    match j with
    | 0 => cases ha; cases ha'; exact VLe.refl _
    | 1 => cases ha; cases ha'; exact VLe.refl _
    | 2 => cases ha; cases ha'; exact VLe.refl _
    | 3 => cases ha; cases ha'; exact VLe.empty
    | _ + 4 => cases ha
theorem sgo_ops {fr : Fr} {σ : Sto} {j : Nat} {ops : List Int} (h : fget fr j = some (.ro 4 (ops.map encO) .any)) : SGo ⟨fr, σ⟩ ⟨(j, .ro 4 ((ops.map insO).map (iv .any)) .any) :: fr, σ⟩ := by
  refine SGo.of_le (fun i x hi => ?_) (fun p hp => hp)
  by_cases hij : i = j
  · subst hij
    rw [show fget ((i, AV.ro 4 ((ops.map insO).map (iv .any)) .any) :: fr) i = some (.ro 4 ((ops.map insO).map (iv .any)) .any) by simp [fget]] at hi
    obtain rfl := Option.some.inj hi
    exact ⟨_, h, vle_ops⟩
  · rw [show fget ((j, AV.ro 4 ((ops.map insO).map (iv .any)) .any) :: fr) i = fget fr i by simp [fget]; intro e; exact absurd e hij] at hi
    exact ⟨x, hi, VLe.refl x⟩
theorem nil_putC (l : List Ins) (hl : l.length ≤ 310) (hm : ∀ x ∈ l, x.Ok ∧ mayN x = true) : SCall Try.prog 35 [.ro 0 [] .nil, .ro 4 (l.map (iv .any)) .any] []
    (fun y σ => ∃ r, y = .own r 0 (putL l).length ∧ σ = [(r, .arr 5 1 ((putL l).map encU))]) :=
  scall_nil (e := 5) (sz := 1) (by decide) fun q _ => code_put q [] (by simp) l hl hm
def o6 : List Int := [2, 65, 4, 1, 5, 12, 11, 11]
theorem o6_ok : ∀ x ∈ o6.map insO, x.Ok ∧ mayN x = true := by
  intro x hx
  simp only [o6, List.map_cons, List.map_nil, List.mem_cons, List.not_mem_nil, or_false] at hx
  rcases hx with rfl | rfl | rfl | rfl | rfl | rfl | rfl | rfl <;> exact ⟨⟨by decide, by decide, by decide, by decide, by decide⟩, by decide⟩
theorem o6_back : getC (putL (o6.map insO) ++ [1]) = (o6.map insO, (putL (o6.map insO)).length, 0) := getC_back o6_ok (by decide) [1]
set_option maxRecDepth 100000 in
theorem law_begun6 : SCall Try.prog 29 [] [] (fun x σ => x = .bool true ∧ σ = []) := by
  refine scall_of (n := 126) (ks := [0, 1, 2, 3, 4, 5, 6, 7, 8, 10, 51]) Try.func29 rfl rfl (Nat.le_of_ble_eq_true rfl) ?_
  (refine ctlT ?_)
  refine rgT ?_
  refine lo (lop_assign (E rfl)) rfl ?_
  refine leT ?_
  (refine ctlT ?_)
  refine rgT ?_
  refine z93 ?_
  refine z93 ?_
  refine z93 ?_
  refine z93 ?_
  refine z93 ?_
  refine z93 ?_
  refine z93 ?_
  refine z93 ?_
  refine z1 ?_; refine freshT fun r19 h19 => ?_; (repeat (rcases h19 with ⟨_, h19⟩))
  refine lo (lop_assign (E rfl)) rfl ?_
  refine leT ?_
  (refine ctlT ?_)
  refine fzvs (j := 1) rfl sdelT (bor_own sgT (by rfl)) ?_
  refine sw_go (sgo_ops (j := 1) (ops := o6) rfl) ?_
  refine rgT ?_
  refine lo (lop_move (E rfl)) rfl ?_
  refine cw [] Try.call30 (code_match (o6.map insO) (by decide)) rfl argsleT stleT ?_
  rintro _ σ' ⟨q2, rfl, rfl⟩ h22
  (apply rs_sto; (exact nflT))
  rw [show okN (opsOf (o6.map insO)) = true from rfl]
  obtain ⟨B, hB⟩ : ∃ B, B = blN (opsOf (o6.map insO)) := ⟨_, rfl⟩
  rw [← hB]
  have hB : B = [⟨0, -1, 7⟩, ⟨2, 4, 6⟩] := hB
  have hBl : B.length = 2 := by rw [hB]; rfl
  have hB0 : B[(0 : Int).toNat]? = some ⟨0, -1, 7⟩ := by rw [hB]; rfl
  have hB1 : B[(1 : Int).toNat]? = some ⟨2, 4, 6⟩ := by rw [hB]; rfl
  refine lo (lop_move (E rfl)) rfl ?_
  refine lo (lop_extract (E rfl) rfl) rfl ?_
  refine lo (lop_extract (E rfl) rfl) rfl ?_
  refine lo (lop_assign (E rfl)) rfl ?_
  refine lo (lop_assign (E rfl)) rfl ?_
  refine leT ?_
  (refine ctlT ?_)
  refine fzvs (j := 2) rfl sdelT (bor_own sgT (by simp)) ?_
  refine rgT ?_
  refine lo (lop_move (E rfl)) rfl ?_
  refine cw [] Try.call33 (code_targets (o6.map insO) (by decide) 5) rfl argsleT stleT ?_
  rintro _ σ' ⟨q4, rfl, rfl⟩ h26
  (apply rs_sto; (exact nflT))
  obtain ⟨T, hT⟩ : ∃ T, T = tgN (opsOf (o6.map insO)) 5 := ⟨_, rfl⟩
  rw [← hT]
  have hT : T = [2, 0] := hT
  have hTl : T.length = 2 := by rw [hT]; rfl
  have hT0 : T[(0 : Int).toNat]? = some 2 := by rw [hT]; rfl
  have hT1 : T[(1 : Int).toNat]? = some 0 := by rw [hT]; rfl
  refine lo (lop_assign (E rfl)) rfl ?_
  refine leT ?_
  (refine ctlT ?_)
  refine fzvs (j := 4) rfl sdelT (bor_own sgT (by simp)) ?_
  refine rgT ?_
  refine lo (lop_move (E rfl)) rfl ?_
  refine clA Try.call35 (nil_putC (o6.map insO) (by decide) o6_ok) rfl bargsT noT ?_
  rintro _ σ' ⟨r28, rfl, rfl⟩ h28
  replace h28 := lnewT h28; (repeat (rcases h28 with ⟨_, h28⟩))
  (apply rs_sto; (exact nflT))
  refine lo (lop_assign (E rfl)) rfl ?_
  refine leT ?_
  (refine ctlT ?_)
  have hPl := putL_len o6_ok
  have hPt := putL_lt o6_ok
  have hPb := o6_back
  generalize putL (o6.map insO) = P at hPl hPt hPb ⊢
  rw [show (o6.map insO).length = 8 from rfl] at hPl
  refine rgT ?_
  refine lo (lop_move (E rfl)) rfl ?_
  refine anA ((P).map encU) (P).length ?_
  refine freshT fun r31 h31 => ?_; (repeat (rcases h31 with ⟨_, h31⟩))
  refine z1 ?_; refine freshT fun r32 h32 => ?_; (repeat (rcases h32 with ⟨_, h32⟩))
  refine apA ((P ++ [1]).map encU) (P ++ [1]).length ?_
  refine apnT fun r33 h33 => ?_; (repeat (rcases h33 with ⟨_, h33⟩))
  refine fzv (j := 33) rfl sdelT (bor_own sgT (by simp)) ?_
  refine cw [] Try.call37 (code_get (P ++ [1]) (by simp; omega) (lt_app hPt (by decide))) rfl argsleT stleT ?_
  rintro _ σ' ⟨q34, rfl, rfl⟩ h34
  rw [hPb]
  dsimp only
  (apply rs_sto; (exact nflT))
  refine lo (lop_move (E rfl)) rfl ?_
  refine lo (lop_extract (E rfl) rfl) rfl ?_
  refine lo (lop_extract (E rfl) rfl) rfl ?_
  refine lo (lop_extract (E rfl) rfl) rfl ?_
  refine lo (lop_assign (E rfl)) rfl ?_
  refine lo (lop_assign (E rfl)) rfl ?_
  refine lo (lop_assign (E rfl)) rfl ?_
  refine leT ?_
  (refine ctlT ?_)
  refine rgT ?_
  refine lo (lop_move (E rfl)) rfl ?_
  refine lo (lop_slice_ro (h := 7) (E rfl) OB.none (OB.some (E rfl) (fun _ => rfl)) (fun _ => ⟨by decide, by decide⟩)) rfl ?_
  refine cw [] Try.call30 (code_match ((o6.map insO).take 7) (by decide)) rfl argsleT stleT ?_
  rintro _ σ' ⟨q5, rfl, rfl⟩ h41
  (apply rs_sto; (exact nflT))
  rw [show blN (opsOf ((o6.map insO).take 7)) = [] from rfl, show okN (opsOf ((o6.map insO).take 7)) = false from rfl]
  refine lo (lop_move (E rfl)) rfl ?_
  refine lo (lop_extract (E rfl) rfl) rfl ?_
  refine lo (lop_extract (E rfl) rfl) rfl ?_
  refine lo (lop_assign (E rfl)) rfl ?_
  refine lo (lop_assign (E rfl)) rfl ?_
  refine leT ?_
  (refine ctlT ?_)
  refine rgT ?_
  refine lo (lop_move (E rfl)) rfl ?_
  refine z14 ?_
  refine lo (lop_neq (E rfl) (E rfl)) rfl ?_
  refine lo (lop_move (E rfl)) rfl ?_
  first | refine ln rfl rfl rfl rfl ?_ | (refine gy rfl rfl ?_; refine lo (lop_move (E rfl)) rfl ?_) | refine lg rfl rfl (lop_move (E rfl)) rfl ?_
  first | refine ln rfl rfl rfl rfl ?_ | (refine gy rfl rfl ?_; (first | refine lo (lop_len_map (by first | exact W rfl id | exact E rfl)) rfl ?_ | refine lo (lop_len_ro (by first | exact W rfl id | exact E rfl)) rfl ?_ | refine lo (lop_len_own (by first | exact W rfl id | exact E rfl)) rfl ?_)) | refine lg rfl rfl (lop_len_map (by first | exact W rfl id | exact E rfl)) rfl ?_ | refine lg rfl rfl (lop_len_ro (by first | exact W rfl id | exact E rfl)) rfl ?_ | refine lg rfl rfl (lop_len_own (by first | exact W rfl id | exact E rfl)) rfl ?_
  first | refine ln rfl rfl rfl rfl ?_ | (refine gy rfl rfl ?_; refine lo (lop_neq (by first | exact W rfl id | exact E rfl) (E rfl)) rfl ?_) | refine lg rfl rfl (lop_neq (by first | exact W rfl id | exact E rfl) (E rfl)) rfl ?_
  first | refine lo (lop_pick_t (E rfl) (E rfl)) rfl ?_ | refine lo (lop_pick_f (E rfl) (by first | exact W rfl (by simp) | exact E rfl)) rfl ?_ | refine lo (lop_pick (E rfl) (E rfl) (by first | exact W rfl (by simp) | exact E rfl)) rfl ?_
  refine leT ?_
  (refine ctlT ?_)
  refine sw_cond rfl (fun g7 => ?_) (fun g7 => ?_)
  · (refine ctlT ?_)
    exfalso; simp [hBl, hTl] at g7
  (refine ctlT ?_)
  refine rgT ?_
  refine lo (lop_move (E rfl)) rfl ?_
  refine lo (lop_move (E rfl)) rfl ?_
  first | refine ln rfl rfl rfl rfl ?_ | (refine gy rfl rfl ?_; refine lo (lop_move (E rfl)) rfl ?_) | refine lg rfl rfl (lop_move (E rfl)) rfl ?_
  first | refine ln rfl rfl rfl rfl ?_ | (refine gy rfl rfl ?_; refine lo (lop_not (by first | exact W rfl id | exact E rfl)) rfl ?_) | refine lg rfl rfl (lop_not (by first | exact W rfl id | exact E rfl)) rfl ?_
  refine z68 ?_
  refine lo (lop_move (E rfl)) rfl ?_
  first | refine ln rfl rfl rfl rfl ?_ | (refine gy rfl rfl ?_; refine lo (lop_move (E rfl)) rfl ?_) | refine lg rfl rfl (lop_move (E rfl)) rfl ?_
  first | refine ln rfl rfl rfl rfl ?_ | (refine gy rfl rfl ?_; (first | refine lo (lop_index_ro (by first | exact W rfl id | exact E rfl) (E rfl) (fun hc => by (simp only [List.length_map]; omega))) rfl ?_ | refine lo (lop_index_own0 (by first | exact W rfl id | exact E rfl) sgT (E rfl) (fun hc => by omega)) rfl ?_ | refine lo (lop_index_own (by first | exact W rfl id | exact E rfl) sgT (E rfl) (fun hc => by omega)) rfl ?_)) | refine lg rfl rfl (lop_index_ro (by first | exact W rfl id | exact E rfl) (E rfl) (fun hc => by (try simp at hc) <;> (simp only [List.length_map]; omega))) rfl ?_ | refine lg rfl rfl (lop_index_own0 (by first | exact W rfl id | exact E rfl) sgT (E rfl) (fun hc => by (try simp at hc) <;> omega)) rfl ?_ | refine lg rfl rfl (lop_index_own (by first | exact W rfl id | exact E rfl) sgT (E rfl) (fun hc => by (try simp at hc) <;> omega)) rfl ?_
  first | refine ln rfl rfl rfl rfl ?_ | (refine gy rfl rfl ?_; (first | refine lo (lop_field_el (by first | exact W rfl id | exact E rfl) rfl (by decide)) rfl ?_ | refine lo (lop_field_ow (by first | exact W rfl id | exact E rfl) rfl (by decide)) rfl ?_)) | refine lg rfl rfl (lop_field_el (by first | exact W rfl id | exact E rfl) rfl (by decide)) rfl ?_ | refine lg rfl rfl (lop_field_ow (by first | exact W rfl id | exact E rfl) rfl (by decide)) rfl ?_
  first | refine ln rfl rfl rfl rfl ?_ | (refine gy rfl rfl ?_; (first | refine lo (lop_load_el (by first | exact W rfl id | exact E rfl) rfl (fun hc => by first | rfl | exact get_map (by assumption) | assumption | exact get_map (at_bang (by omega))) (fun _ => rfl)) rfl ?_ | refine lo (lop_load_ow (by first | exact W rfl id | exact E rfl) rfl sgT (fun hc => by first | rfl | exact get_map (by assumption) | assumption | exact get_map (at_bang (by omega))) (fun _ => rfl)) rfl ?_)) | refine lg rfl rfl (lop_load_el (by first | exact W rfl id | exact E rfl) rfl (fun hc => by first | rfl | exact get_map (by assumption) | assumption | exact get_map (at_bang (by (try simp at hc) <;> omega))) (fun _ => rfl)) rfl ?_ | refine lg rfl rfl (lop_load_ow (by first | exact W rfl id | exact E rfl) rfl sgT (fun hc => by first | rfl | exact get_map (by assumption) | assumption | exact get_map (at_bang (by (try simp at hc) <;> omega))) (fun _ => rfl)) rfl ?_
  first | refine ln rfl rfl rfl rfl ?_ | (refine gy rfl rfl ?_; refine lo (lop_eql (by first | exact W rfl id | exact E rfl) (E rfl)) rfl ?_) | refine lg rfl rfl (lop_eql (by first | exact W rfl id | exact E rfl) (E rfl)) rfl ?_
  refine z68 ?_
  refine lo (lop_move (E rfl)) rfl ?_
  first | refine ln rfl rfl rfl rfl ?_ | (refine gy rfl rfl ?_; refine lo (lop_move (E rfl)) rfl ?_) | refine lg rfl rfl (lop_move (E rfl)) rfl ?_
  first | refine ln rfl rfl rfl rfl ?_ | (refine gy rfl rfl ?_; (first | refine lo (lop_index_ro (by first | exact W rfl id | exact E rfl) (E rfl) (fun hc => by (simp only [List.length_map]; omega))) rfl ?_ | refine lo (lop_index_own0 (by first | exact W rfl id | exact E rfl) sgT (E rfl) (fun hc => by omega)) rfl ?_ | refine lo (lop_index_own (by first | exact W rfl id | exact E rfl) sgT (E rfl) (fun hc => by omega)) rfl ?_)) | refine lg rfl rfl (lop_index_ro (by first | exact W rfl id | exact E rfl) (E rfl) (fun hc => by (try simp at hc) <;> (simp only [List.length_map]; omega))) rfl ?_ | refine lg rfl rfl (lop_index_own0 (by first | exact W rfl id | exact E rfl) sgT (E rfl) (fun hc => by (try simp at hc) <;> omega)) rfl ?_ | refine lg rfl rfl (lop_index_own (by first | exact W rfl id | exact E rfl) sgT (E rfl) (fun hc => by (try simp at hc) <;> omega)) rfl ?_
  first | refine ln rfl rfl rfl rfl ?_ | (refine gy rfl rfl ?_; (first | refine lo (lop_field_el (by first | exact W rfl id | exact E rfl) rfl (by decide)) rfl ?_ | refine lo (lop_field_ow (by first | exact W rfl id | exact E rfl) rfl (by decide)) rfl ?_)) | refine lg rfl rfl (lop_field_el (by first | exact W rfl id | exact E rfl) rfl (by decide)) rfl ?_ | refine lg rfl rfl (lop_field_ow (by first | exact W rfl id | exact E rfl) rfl (by decide)) rfl ?_
  first | refine ln rfl rfl rfl rfl ?_ | (refine gy rfl rfl ?_; (first | refine lo (lop_load_el (by first | exact W rfl id | exact E rfl) rfl (fun hc => by first | rfl | exact get_map (by assumption) | assumption | exact get_map (at_bang (by omega))) (fun _ => rfl)) rfl ?_ | refine lo (lop_load_ow (by first | exact W rfl id | exact E rfl) rfl sgT (fun hc => by first | rfl | exact get_map (by assumption) | assumption | exact get_map (at_bang (by omega))) (fun _ => rfl)) rfl ?_)) | refine lg rfl rfl (lop_load_el (by first | exact W rfl id | exact E rfl) rfl (fun hc => by first | rfl | exact get_map (by assumption) | assumption | exact get_map (at_bang (by (try simp at hc) <;> omega))) (fun _ => rfl)) rfl ?_ | refine lg rfl rfl (lop_load_ow (by first | exact W rfl id | exact E rfl) rfl sgT (fun hc => by first | rfl | exact get_map (by assumption) | assumption | exact get_map (at_bang (by (try simp at hc) <;> omega))) (fun _ => rfl)) rfl ?_
  first | refine ln rfl rfl rfl rfl ?_ | (refine gy rfl rfl ?_; refine lo (lop_eql (by first | exact W rfl id | exact E rfl) (E rfl)) rfl ?_) | refine lg rfl rfl (lop_eql (by first | exact W rfl id | exact E rfl) (E rfl)) rfl ?_
  refine z68 ?_
  refine lo (lop_move (E rfl)) rfl ?_
  first | refine ln rfl rfl rfl rfl ?_ | (refine gy rfl rfl ?_; refine lo (lop_move (E rfl)) rfl ?_) | refine lg rfl rfl (lop_move (E rfl)) rfl ?_
  first | refine ln rfl rfl rfl rfl ?_ | (refine gy rfl rfl ?_; (first | refine lo (lop_index_ro (by first | exact W rfl id | exact E rfl) (E rfl) (fun hc => by (simp only [List.length_map]; omega))) rfl ?_ | refine lo (lop_index_own0 (by first | exact W rfl id | exact E rfl) sgT (E rfl) (fun hc => by omega)) rfl ?_ | refine lo (lop_index_own (by first | exact W rfl id | exact E rfl) sgT (E rfl) (fun hc => by omega)) rfl ?_)) | refine lg rfl rfl (lop_index_ro (by first | exact W rfl id | exact E rfl) (E rfl) (fun hc => by (try simp at hc) <;> (simp only [List.length_map]; omega))) rfl ?_ | refine lg rfl rfl (lop_index_own0 (by first | exact W rfl id | exact E rfl) sgT (E rfl) (fun hc => by (try simp at hc) <;> omega)) rfl ?_ | refine lg rfl rfl (lop_index_own (by first | exact W rfl id | exact E rfl) sgT (E rfl) (fun hc => by (try simp at hc) <;> omega)) rfl ?_
  first | refine ln rfl rfl rfl rfl ?_ | (refine gy rfl rfl ?_; (first | refine lo (lop_field_el (by first | exact W rfl id | exact E rfl) rfl (by decide)) rfl ?_ | refine lo (lop_field_ow (by first | exact W rfl id | exact E rfl) rfl (by decide)) rfl ?_)) | refine lg rfl rfl (lop_field_el (by first | exact W rfl id | exact E rfl) rfl (by decide)) rfl ?_ | refine lg rfl rfl (lop_field_ow (by first | exact W rfl id | exact E rfl) rfl (by decide)) rfl ?_
  first | refine ln rfl rfl rfl rfl ?_ | (refine gy rfl rfl ?_; (first | refine lo (lop_load_el (by first | exact W rfl id | exact E rfl) rfl (fun hc => by first | rfl | exact get_map (by assumption) | assumption | exact get_map (at_bang (by omega))) (fun _ => rfl)) rfl ?_ | refine lo (lop_load_ow (by first | exact W rfl id | exact E rfl) rfl sgT (fun hc => by first | rfl | exact get_map (by assumption) | assumption | exact get_map (at_bang (by omega))) (fun _ => rfl)) rfl ?_)) | refine lg rfl rfl (lop_load_el (by first | exact W rfl id | exact E rfl) rfl (fun hc => by first | rfl | exact get_map (by assumption) | assumption | exact get_map (at_bang (by (try simp at hc) <;> omega))) (fun _ => rfl)) rfl ?_ | refine lg rfl rfl (lop_load_ow (by first | exact W rfl id | exact E rfl) rfl sgT (fun hc => by first | rfl | exact get_map (by assumption) | assumption | exact get_map (at_bang (by (try simp at hc) <;> omega))) (fun _ => rfl)) rfl ?_
  first | refine ln rfl rfl rfl rfl ?_ | (refine gy rfl rfl ?_; refine lo (lop_eql (by first | exact W rfl id | exact E rfl) (E rfl)) rfl ?_) | refine lg rfl rfl (lop_eql (by first | exact W rfl id | exact E rfl) (E rfl)) rfl ?_
  refine z68 ?_
  refine lo (lop_move (E rfl)) rfl ?_
  first | refine ln rfl rfl rfl rfl ?_ | (refine gy rfl rfl ?_; refine lo (lop_move (E rfl)) rfl ?_) | refine lg rfl rfl (lop_move (E rfl)) rfl ?_
  first | refine ln rfl rfl rfl rfl ?_ | (refine gy rfl rfl ?_; (first | refine lo (lop_index_ro (by first | exact W rfl id | exact E rfl) (E rfl) (fun hc => by (simp only [List.length_map]; omega))) rfl ?_ | refine lo (lop_index_own0 (by first | exact W rfl id | exact E rfl) sgT (E rfl) (fun hc => by omega)) rfl ?_ | refine lo (lop_index_own (by first | exact W rfl id | exact E rfl) sgT (E rfl) (fun hc => by omega)) rfl ?_)) | refine lg rfl rfl (lop_index_ro (by first | exact W rfl id | exact E rfl) (E rfl) (fun hc => by (try simp at hc) <;> (simp only [List.length_map]; omega))) rfl ?_ | refine lg rfl rfl (lop_index_own0 (by first | exact W rfl id | exact E rfl) sgT (E rfl) (fun hc => by (try simp at hc) <;> omega)) rfl ?_ | refine lg rfl rfl (lop_index_own (by first | exact W rfl id | exact E rfl) sgT (E rfl) (fun hc => by (try simp at hc) <;> omega)) rfl ?_
  first | refine ln rfl rfl rfl rfl ?_ | (refine gy rfl rfl ?_; (first | refine lo (lop_field_el (by first | exact W rfl id | exact E rfl) rfl (by decide)) rfl ?_ | refine lo (lop_field_ow (by first | exact W rfl id | exact E rfl) rfl (by decide)) rfl ?_)) | refine lg rfl rfl (lop_field_el (by first | exact W rfl id | exact E rfl) rfl (by decide)) rfl ?_ | refine lg rfl rfl (lop_field_ow (by first | exact W rfl id | exact E rfl) rfl (by decide)) rfl ?_
  first | refine ln rfl rfl rfl rfl ?_ | (refine gy rfl rfl ?_; (first | refine lo (lop_load_el (by first | exact W rfl id | exact E rfl) rfl (fun hc => by first | rfl | exact get_map (by assumption) | assumption | exact get_map (at_bang (by omega))) (fun _ => rfl)) rfl ?_ | refine lo (lop_load_ow (by first | exact W rfl id | exact E rfl) rfl sgT (fun hc => by first | rfl | exact get_map (by assumption) | assumption | exact get_map (at_bang (by omega))) (fun _ => rfl)) rfl ?_)) | refine lg rfl rfl (lop_load_el (by first | exact W rfl id | exact E rfl) rfl (fun hc => by first | rfl | exact get_map (by assumption) | assumption | exact get_map (at_bang (by (try simp at hc) <;> omega))) (fun _ => rfl)) rfl ?_ | refine lg rfl rfl (lop_load_ow (by first | exact W rfl id | exact E rfl) rfl sgT (fun hc => by first | rfl | exact get_map (by assumption) | assumption | exact get_map (at_bang (by (try simp at hc) <;> omega))) (fun _ => rfl)) rfl ?_
  first | refine ln rfl rfl rfl rfl ?_ | (refine gy rfl rfl ?_; refine lo (lop_eql (by first | exact W rfl id | exact E rfl) (E rfl)) rfl ?_) | refine lg rfl rfl (lop_eql (by first | exact W rfl id | exact E rfl) (E rfl)) rfl ?_
  refine z68 ?_
  refine lo (lop_move (E rfl)) rfl ?_
  first | refine ln rfl rfl rfl rfl ?_ | (refine gy rfl rfl ?_; refine lo (lop_move (E rfl)) rfl ?_) | refine lg rfl rfl (lop_move (E rfl)) rfl ?_
  first | refine ln rfl rfl rfl rfl ?_ | (refine gy rfl rfl ?_; (first | refine lo (lop_index_ro (by first | exact W rfl id | exact E rfl) (E rfl) (fun hc => by (simp only [List.length_map]; omega))) rfl ?_ | refine lo (lop_index_own0 (by first | exact W rfl id | exact E rfl) sgT (E rfl) (fun hc => by omega)) rfl ?_ | refine lo (lop_index_own (by first | exact W rfl id | exact E rfl) sgT (E rfl) (fun hc => by omega)) rfl ?_)) | refine lg rfl rfl (lop_index_ro (by first | exact W rfl id | exact E rfl) (E rfl) (fun hc => by (try simp at hc) <;> (simp only [List.length_map]; omega))) rfl ?_ | refine lg rfl rfl (lop_index_own0 (by first | exact W rfl id | exact E rfl) sgT (E rfl) (fun hc => by (try simp at hc) <;> omega)) rfl ?_ | refine lg rfl rfl (lop_index_own (by first | exact W rfl id | exact E rfl) sgT (E rfl) (fun hc => by (try simp at hc) <;> omega)) rfl ?_
  first | refine ln rfl rfl rfl rfl ?_ | (refine gy rfl rfl ?_; (first | refine lo (lop_field_el (by first | exact W rfl id | exact E rfl) rfl (by decide)) rfl ?_ | refine lo (lop_field_ow (by first | exact W rfl id | exact E rfl) rfl (by decide)) rfl ?_)) | refine lg rfl rfl (lop_field_el (by first | exact W rfl id | exact E rfl) rfl (by decide)) rfl ?_ | refine lg rfl rfl (lop_field_ow (by first | exact W rfl id | exact E rfl) rfl (by decide)) rfl ?_
  first | refine ln rfl rfl rfl rfl ?_ | (refine gy rfl rfl ?_; (first | refine lo (lop_load_el (by first | exact W rfl id | exact E rfl) rfl (fun hc => by first | rfl | exact get_map (by assumption) | assumption | exact get_map (at_bang (by omega))) (fun _ => rfl)) rfl ?_ | refine lo (lop_load_ow (by first | exact W rfl id | exact E rfl) rfl sgT (fun hc => by first | rfl | exact get_map (by assumption) | assumption | exact get_map (at_bang (by omega))) (fun _ => rfl)) rfl ?_)) | refine lg rfl rfl (lop_load_el (by first | exact W rfl id | exact E rfl) rfl (fun hc => by first | rfl | exact get_map (by assumption) | assumption | exact get_map (at_bang (by (try simp at hc) <;> omega))) (fun _ => rfl)) rfl ?_ | refine lg rfl rfl (lop_load_ow (by first | exact W rfl id | exact E rfl) rfl sgT (fun hc => by first | rfl | exact get_map (by assumption) | assumption | exact get_map (at_bang (by (try simp at hc) <;> omega))) (fun _ => rfl)) rfl ?_
  first | refine ln rfl rfl rfl rfl ?_ | (refine gy rfl rfl ?_; refine lo (lop_eql (by first | exact W rfl id | exact E rfl) (E rfl)) rfl ?_) | refine lg rfl rfl (lop_eql (by first | exact W rfl id | exact E rfl) (E rfl)) rfl ?_
  refine z68 ?_
  refine lo (lop_move (E rfl)) rfl ?_
  first | refine ln rfl rfl rfl rfl ?_ | (refine gy rfl rfl ?_; refine lo (lop_move (E rfl)) rfl ?_) | refine lg rfl rfl (lop_move (E rfl)) rfl ?_
  first | refine ln rfl rfl rfl rfl ?_ | (refine gy rfl rfl ?_; (first | refine lo (lop_index_ro (by first | exact W rfl id | exact E rfl) (E rfl) (fun hc => by (simp only [List.length_map]; omega))) rfl ?_ | refine lo (lop_index_own0 (by first | exact W rfl id | exact E rfl) sgT (E rfl) (fun hc => by omega)) rfl ?_ | refine lo (lop_index_own (by first | exact W rfl id | exact E rfl) sgT (E rfl) (fun hc => by omega)) rfl ?_)) | refine lg rfl rfl (lop_index_ro (by first | exact W rfl id | exact E rfl) (E rfl) (fun hc => by (try simp at hc) <;> (simp only [List.length_map]; omega))) rfl ?_ | refine lg rfl rfl (lop_index_own0 (by first | exact W rfl id | exact E rfl) sgT (E rfl) (fun hc => by (try simp at hc) <;> omega)) rfl ?_ | refine lg rfl rfl (lop_index_own (by first | exact W rfl id | exact E rfl) sgT (E rfl) (fun hc => by (try simp at hc) <;> omega)) rfl ?_
  first | refine ln rfl rfl rfl rfl ?_ | (refine gy rfl rfl ?_; (first | refine lo (lop_field_el (by first | exact W rfl id | exact E rfl) rfl (by decide)) rfl ?_ | refine lo (lop_field_ow (by first | exact W rfl id | exact E rfl) rfl (by decide)) rfl ?_)) | refine lg rfl rfl (lop_field_el (by first | exact W rfl id | exact E rfl) rfl (by decide)) rfl ?_ | refine lg rfl rfl (lop_field_ow (by first | exact W rfl id | exact E rfl) rfl (by decide)) rfl ?_
  first | refine ln rfl rfl rfl rfl ?_ | (refine gy rfl rfl ?_; (first | refine lo (lop_load_el (by first | exact W rfl id | exact E rfl) rfl (fun hc => by first | rfl | exact get_map (by assumption) | assumption | exact get_map (at_bang (by omega))) (fun _ => rfl)) rfl ?_ | refine lo (lop_load_ow (by first | exact W rfl id | exact E rfl) rfl sgT (fun hc => by first | rfl | exact get_map (by assumption) | assumption | exact get_map (at_bang (by omega))) (fun _ => rfl)) rfl ?_)) | refine lg rfl rfl (lop_load_el (by first | exact W rfl id | exact E rfl) rfl (fun hc => by first | rfl | exact get_map (by assumption) | assumption | exact get_map (at_bang (by (try simp at hc) <;> omega))) (fun _ => rfl)) rfl ?_ | refine lg rfl rfl (lop_load_ow (by first | exact W rfl id | exact E rfl) rfl sgT (fun hc => by first | rfl | exact get_map (by assumption) | assumption | exact get_map (at_bang (by (try simp at hc) <;> omega))) (fun _ => rfl)) rfl ?_
  first | refine ln rfl rfl rfl rfl ?_ | (refine gy rfl rfl ?_; refine lo (lop_eql (by first | exact W rfl id | exact E rfl) (E rfl)) rfl ?_) | refine lg rfl rfl (lop_eql (by first | exact W rfl id | exact E rfl) (E rfl)) rfl ?_
  refine z68 ?_
  refine lo (lop_move (E rfl)) rfl ?_
  first | refine ln rfl rfl rfl rfl ?_ | (refine gy rfl rfl ?_; refine lo (lop_move (E rfl)) rfl ?_) | refine lg rfl rfl (lop_move (E rfl)) rfl ?_
  first | refine ln rfl rfl rfl rfl ?_ | (refine gy rfl rfl ?_; (first | refine lo (lop_index_ro (by first | exact W rfl id | exact E rfl) (E rfl) (fun hc => by (simp only [List.length_map]; omega))) rfl ?_ | refine lo (lop_index_own0 (by first | exact W rfl id | exact E rfl) sgT (E rfl) (fun hc => by omega)) rfl ?_ | refine lo (lop_index_own (by first | exact W rfl id | exact E rfl) sgT (E rfl) (fun hc => by omega)) rfl ?_)) | refine lg rfl rfl (lop_index_ro (by first | exact W rfl id | exact E rfl) (E rfl) (fun hc => by (try simp at hc) <;> (simp only [List.length_map]; omega))) rfl ?_ | refine lg rfl rfl (lop_index_own0 (by first | exact W rfl id | exact E rfl) sgT (E rfl) (fun hc => by (try simp at hc) <;> omega)) rfl ?_ | refine lg rfl rfl (lop_index_own (by first | exact W rfl id | exact E rfl) sgT (E rfl) (fun hc => by (try simp at hc) <;> omega)) rfl ?_
  first | refine ln rfl rfl rfl rfl ?_ | (refine gy rfl rfl ?_; (first | refine lo (lop_load_el (by first | exact W rfl id | exact E rfl) rfl (fun hc => by first | rfl | exact get_map (by assumption) | assumption | exact get_map (at_bang (by omega))) (fun _ => rfl)) rfl ?_ | refine lo (lop_load_ow (by first | exact W rfl id | exact E rfl) rfl sgT (fun hc => by first | rfl | exact get_map (by assumption) | assumption | exact get_map (at_bang (by omega))) (fun _ => rfl)) rfl ?_)) | refine lg rfl rfl (lop_load_el (by first | exact W rfl id | exact E rfl) rfl (fun hc => by first | rfl | exact get_map (by assumption) | assumption | exact get_map (at_bang (by (try simp at hc) <;> omega))) (fun _ => rfl)) rfl ?_ | refine lg rfl rfl (lop_load_ow (by first | exact W rfl id | exact E rfl) rfl sgT (fun hc => by first | rfl | exact get_map (by assumption) | assumption | exact get_map (at_bang (by (try simp at hc) <;> omega))) (fun _ => rfl)) rfl ?_
  first | refine ln rfl rfl rfl rfl ?_ | (refine gy rfl rfl ?_; refine lo (lop_eql (by first | exact W rfl id | exact E rfl) (E rfl)) rfl ?_) | refine lg rfl rfl (lop_eql (by first | exact W rfl id | exact E rfl) (E rfl)) rfl ?_
  refine z68 ?_
  refine lo (lop_move (E rfl)) rfl ?_
  first | refine ln rfl rfl rfl rfl ?_ | (refine gy rfl rfl ?_; refine lo (lop_move (E rfl)) rfl ?_) | refine lg rfl rfl (lop_move (E rfl)) rfl ?_
  first | refine ln rfl rfl rfl rfl ?_ | (refine gy rfl rfl ?_; (first | refine lo (lop_index_ro (by first | exact W rfl id | exact E rfl) (E rfl) (fun hc => by (simp only [List.length_map]; omega))) rfl ?_ | refine lo (lop_index_own0 (by first | exact W rfl id | exact E rfl) sgT (E rfl) (fun hc => by omega)) rfl ?_ | refine lo (lop_index_own (by first | exact W rfl id | exact E rfl) sgT (E rfl) (fun hc => by omega)) rfl ?_)) | refine lg rfl rfl (lop_index_ro (by first | exact W rfl id | exact E rfl) (E rfl) (fun hc => by (try simp at hc) <;> (simp only [List.length_map]; omega))) rfl ?_ | refine lg rfl rfl (lop_index_own0 (by first | exact W rfl id | exact E rfl) sgT (E rfl) (fun hc => by (try simp at hc) <;> omega)) rfl ?_ | refine lg rfl rfl (lop_index_own (by first | exact W rfl id | exact E rfl) sgT (E rfl) (fun hc => by (try simp at hc) <;> omega)) rfl ?_
  first | refine ln rfl rfl rfl rfl ?_ | (refine gy rfl rfl ?_; (first | refine lo (lop_load_el (by first | exact W rfl id | exact E rfl) rfl (fun hc => by first | rfl | exact get_map (by assumption) | assumption | exact get_map (at_bang (by omega))) (fun _ => rfl)) rfl ?_ | refine lo (lop_load_ow (by first | exact W rfl id | exact E rfl) rfl sgT (fun hc => by first | rfl | exact get_map (by assumption) | assumption | exact get_map (at_bang (by omega))) (fun _ => rfl)) rfl ?_)) | refine lg rfl rfl (lop_load_el (by first | exact W rfl id | exact E rfl) rfl (fun hc => by first | rfl | exact get_map (by assumption) | assumption | exact get_map (at_bang (by (try simp at hc) <;> omega))) (fun _ => rfl)) rfl ?_ | refine lg rfl rfl (lop_load_ow (by first | exact W rfl id | exact E rfl) rfl sgT (fun hc => by first | rfl | exact get_map (by assumption) | assumption | exact get_map (at_bang (by (try simp at hc) <;> omega))) (fun _ => rfl)) rfl ?_
  first | refine ln rfl rfl rfl rfl ?_ | (refine gy rfl rfl ?_; refine lo (lop_eql (by first | exact W rfl id | exact E rfl) (E rfl)) rfl ?_) | refine lg rfl rfl (lop_eql (by first | exact W rfl id | exact E rfl) (E rfl)) rfl ?_
  refine z68 ?_
  refine lo (lop_move (E rfl)) rfl ?_
  first | refine ln rfl rfl rfl rfl ?_ | (refine gy rfl rfl ?_; refine lo (lop_move (E rfl)) rfl ?_) | refine lg rfl rfl (lop_move (E rfl)) rfl ?_
  first | refine ln rfl rfl rfl rfl ?_ | (refine gy rfl rfl ?_; refine lo (lop_eql (by first | exact W rfl id | exact E rfl) (E rfl)) rfl ?_) | refine lg rfl rfl (lop_eql (by first | exact W rfl id | exact E rfl) (E rfl)) rfl ?_
  refine z68 ?_
  refine lo (lop_move (E rfl)) rfl ?_
  first | refine ln rfl rfl rfl rfl ?_ | (refine gy rfl rfl ?_; refine lo (lop_move (E rfl)) rfl ?_) | refine lg rfl rfl (lop_move (E rfl)) rfl ?_
  first | refine ln rfl rfl rfl rfl ?_ | (refine gy rfl rfl ?_; refine lo (lop_move (E rfl)) rfl ?_) | refine lg rfl rfl (lop_move (E rfl)) rfl ?_
  first | refine ln rfl rfl rfl rfl ?_ | (refine gy rfl rfl ?_; (first | refine lo (lop_len_map (by first | exact W rfl id | exact E rfl)) rfl ?_ | refine lo (lop_len_ro (by first | exact W rfl id | exact E rfl)) rfl ?_ | refine lo (lop_len_own (by first | exact W rfl id | exact E rfl)) rfl ?_)) | refine lg rfl rfl (lop_len_map (by first | exact W rfl id | exact E rfl)) rfl ?_ | refine lg rfl rfl (lop_len_ro (by first | exact W rfl id | exact E rfl)) rfl ?_ | refine lg rfl rfl (lop_len_own (by first | exact W rfl id | exact E rfl)) rfl ?_
  first | refine ln rfl rfl rfl rfl ?_ | (refine gy rfl rfl ?_; refine lo (lop_eql (by first | exact W rfl id | exact E rfl) (by first | exact W rfl id | exact E rfl)) rfl ?_) | refine lg rfl rfl (lop_eql (by first | exact W rfl id | exact E rfl) (by first | exact W rfl id | exact E rfl)) rfl ?_
  refine z68 ?_
  refine lo (lop_move (E rfl)) rfl ?_
  first | refine ln rfl rfl rfl rfl ?_ | (refine gy rfl rfl ?_; refine lo (lop_move (E rfl)) rfl ?_) | refine lg rfl rfl (lop_move (E rfl)) rfl ?_
  first | refine ln rfl rfl rfl rfl ?_ | (refine gy rfl rfl ?_; (first | refine lo (lop_len_map (by first | exact W rfl id | exact E rfl)) rfl ?_ | refine lo (lop_len_ro (by first | exact W rfl id | exact E rfl)) rfl ?_ | refine lo (lop_len_own (by first | exact W rfl id | exact E rfl)) rfl ?_)) | refine lg rfl rfl (lop_len_map (by first | exact W rfl id | exact E rfl)) rfl ?_ | refine lg rfl rfl (lop_len_ro (by first | exact W rfl id | exact E rfl)) rfl ?_ | refine lg rfl rfl (lop_len_own (by first | exact W rfl id | exact E rfl)) rfl ?_
  first | refine ln rfl rfl rfl rfl ?_ | (refine gy rfl rfl ?_; refine lo (lop_eql (by first | exact W rfl id | exact E rfl) (E rfl)) rfl ?_) | refine lg rfl rfl (lop_eql (by first | exact W rfl id | exact E rfl) (E rfl)) rfl ?_
  refine z68 ?_
  refine lo (lop_assign (E rfl)) rfl ?_
  refine leT ?_
  (refine ctlT ?_)
  (apply aend; (exact resT))
  · exact ⟨by simp only [beq_self_eq_true, if_true]; rfl, rfl⟩
  · (exact stleT)
end Go.Proofs.Ytkjfflabapeidaa
/-
  The statements' some and tells.
-/
namespace Go.Proofs.Ytkjfflabapeidaa
open Go.RowKit Go.ChangeShapes Go.WideShapes Go.ChangeAt Go.Deep
set_option linter.unusedSimpArgs false
set_option linter.unusedVariables false
attribute [local irreducible] SW RS RD AThen ABlock

theorem take_pre {b : List Nat} {n : Nat} : List.take (n - 0) (List.drop 0 (b.map encU)) = (b.take n).map encU := by simp [List.map_take]
theorem sp_pre {b p : List Nat} {n : Nat} (h : Sp b 0 n p) : b.take n = p := by
  obtain ⟨h1, h2, -⟩ := h
  rw [List.drop_zero] at h1
  rw [h1, h2, Nat.zero_add, List.take_left]
set_option maxRecDepth 100000 in
theorem law_some (b : List Nat) (hb : b.length ≤ 1000000) (hlt : ∀ x ∈ b, x < 256) : SCall Try.prog 59 [.ro 1 (b.map encU) .any] [] (fun x σ => x = .bool (smN 301 b 0 []) ∧ σ = []) := by
  obtain ⟨R, hR⟩ : ∃ R, R = smN 301 b 0 [] := ⟨_, rfl⟩
  rw [← hR]
  refine scall_of (n := 55) (ks := [0, 2, 3, 4, 5, 6, 7, 8, 10, 12, 22, 32, 40, 41, 47]) Try.func59 rfl rfl (Nat.le_of_ble_eq_true rfl) ?_
  (refine ctlT ?_)
  refine rgT ?_
  refine lo (lop_assign (E rfl)) rfl ?_
  refine leT ?_
  (refine ctlT ?_)
  refine rgT ?_
  refine lo (lop_assign (E rfl)) rfl ?_
  refine leT ?_
  (refine ctlT ?_)
  refine rgT ?_
  refine lo (lop_assign (E rfl)) rfl ?_
  refine leT ?_
  (refine ctlT ?_)
  refine rgT ?_
  refine lo (lop_assign (E rfl)) rfl ?_
  refine leT ?_
  (refine ctlT ?_)
  refine sw_virt 3 24 4 (by decide) rfl (by decide) (freshT fun q0 hq0 => ?_); (repeat (rcases hq0 with ⟨_, hq0⟩))
  refine lp (β := Nat × List Nat × Int × Nat × List Ins) (fun s => ⟨[(0, .ro 1 (s.2.1.map encU) .any), (3, .own s.1 0 s.2.2.2.2.length), (4, .int .i64 s.2.2.1), (5, .int .i64 s.2.2.2.1)], [(s.1, .arr 24 4 (s.2.2.2.2.map (iv .any)))]⟩) (fun s => s.2.1.length ≤ 1000000 ∧ (∀ x ∈ s.2.1, x < 256) ∧ 0 ≤ s.2.2.1 ∧ s.2.2.1 ≤ s.2.2.2.1 ∧ s.2.2.2.1 ≤ 301 ∧ s.2.2.2.2.length = s.2.2.2.1 ∧ R = smN (301 - s.2.2.2.1) s.2.1 s.2.2.1 s.2.2.2.2) (fun s => 301 - s.2.2.2.1) (q0, b, 0, 0, []) sgoT ⟨hb, hlt, Int.le_refl 0, Int.le_refl 0, by show 0 ≤ 301; decide, rfl, hR⟩ ?_
  rintro ⟨q, c, d, i, l⟩ ⟨hc, hct, hd0, hdi, hi, hli, hG⟩
  dsimp only at hc hct hd0 hdi hi hli hG ⊢
  (refine ctlT ?_)
  refine rgT ?_
  refine lo (lop_move (E rfl)) rfl ?_
  refine lo (lop_leq (E rfl) (E rfl)) rfl ?_
  refine leT ?_
  (refine ctlT ?_)
  refine sw_cond rfl (fun g4 => ?_) (fun g4 => ?_)
  · have hi3 : i ≤ 300 := by simp at g4; omega
    rw [show 301 - i = (300 - i) + 1 by omega, smN] at hG
    have hsnd := getP_sound hct
    (refine ctlT ?_)
    refine rgT ?_
    refine lo (lop_move (E rfl)) rfl ?_
    refine cw [] Try.call55 (ref_getInstr c hc hct) rfl argsleT stleT ?_
    rintro _ σ' ⟨q3, rfl, rfl⟩ h17
    replace h17 := cnewT h17; (repeat (rcases h17 with ⟨_, h17⟩))
    (apply rs_sto; (exact nflT))
    rw [getR_eq]
    generalize getP c = gp at hG hsnd ⊢
    obtain ⟨x, n, e⟩ := gp
    dsimp only at hG hsnd ⊢
    refine lo (lop_move (E rfl)) rfl ?_
    refine lo (lop_extract (E rfl) rfl) rfl ?_
    refine lo (lop_extract (E rfl) rfl) rfl ?_
    refine lo (lop_extract (E rfl) rfl) rfl ?_
    apply al; rfl; (exact zcT); refine freshT fun r6 h6 => ?_; (repeat (rcases h6 with ⟨_, h6⟩))
    apply stp; rfl; rfl; rfl; rfl; (exact sputT)
    refine lo (lop_assign (E rfl)) rfl ?_
    refine lo (lop_assign (E rfl)) rfl ?_
    refine leT ?_
    (refine ctlT ?_)
    refine rgT ?_
    refine lo (lop_move (E rfl)) rfl ?_
    refine lo (lop_neq (E rfl) (E rfl)) rfl ?_
    refine leT ?_
    (refine ctlT ?_)
    refine sw_cond rfl (fun g7 => ?_) (fun g7 => ?_)
    · have hE : R = false := by rw [hG, if_pos g7]
      (refine ctlT ?_)
      refine rgT ?_
      refine lo (lop_assign (E rfl)) rfl ?_
      refine leT ?_
      (refine ctlT ?_)
      (apply aend; (exact resT))
      · exact ⟨by rw [hE]; rfl, rfl⟩
      · (exact stleT)
    rw [if_neg (by simp [g7])] at hG
    obtain ⟨hxo, hxm, hsp⟩ := hsnd (by simpa using g7)
    have hkn : n ≤ c.length := by have := hsp.2.2; simpa using this
    (refine ctlT ?_)
    refine rgT ?_
    refine lo (lop_move (E rfl)) rfl ?_
    refine lo (lop_move (E rfl)) rfl ?_
    first | refine lo (lop_slice_ro (E rfl) (OB.some (E rfl) (fun _ => by first | rfl | exact (Int.toNat_of_nonneg (by omega)).symm)) OB.none (fun _ => by first | (simp only [List.length_map]; omega) | omega)) rfl ?_ | refine lo (lop_slice_own (E rfl) sgT (OB.some (E rfl) (fun _ => by first | rfl | exact (Int.toNat_of_nonneg (by omega)).symm)) OB.none (fun _ => by first | (simp only [List.length_map]; omega) | omega)) rfl ?_
    refine lo (lop_assign (E rfl)) rfl ?_
    refine leT ?_
    (refine ctlT ?_)
    rw [take_sub]
    refine rgT ?_
    refine z59 ?_
    refine z60 ?_
    refine lo (lop_eql (E rfl) (E rfl)) rfl ?_
    refine lo (lop_move (E rfl)) rfl ?_
    first | refine ln rfl rfl rfl rfl ?_ | (refine gy rfl rfl ?_; refine lo (lop_move (E rfl)) rfl ?_) | refine lg rfl rfl (lop_move (E rfl)) rfl ?_
    first | refine ln rfl rfl rfl rfl ?_ | (refine gy rfl rfl ?_; refine lo (lop_eql (by first | exact W rfl id | exact E rfl) (E rfl)) rfl ?_) | refine lg rfl rfl (lop_eql (by first | exact W rfl id | exact E rfl) (E rfl)) rfl ?_
    refine z68 ?_
    refine leT ?_
    (refine ctlT ?_)
    refine sw_cond rfl (fun g10 => ?_) (fun g10 => ?_)
    · rw [if_pos (by replace g10 := bT g10; simp; exact g10)] at hG
      (refine ctlT ?_)
      refine rgT ?_
      refine lo (lop_move (E rfl)) rfl ?_
      refine clA Try.call31 (ref_match l (by omega)) rfl bargsT noT ?_
      rintro _ σ' ⟨q4, rfl, rfl⟩ h35
      replace h35 := lnewT h35; (repeat (rcases h35 with ⟨_, h35⟩))
      (apply rs_sto; (exact nflT))
      refine lo (lop_move (E rfl)) rfl ?_
      refine lo (lop_extract (E rfl) rfl) rfl ?_
      refine lo (lop_extract (E rfl) rfl) rfl ?_
      refine lo (lop_assign (E rfl)) rfl ?_
      refine lo (lop_assign (E rfl)) rfl ?_
      refine leT ?_
      (refine ctlT ?_)
      have hE := hG
      refine rgT ?_
      refine lo (lop_move (E rfl)) rfl ?_
      refine lo (lop_assign (E rfl)) rfl ?_
      refine leT ?_
      (refine ctlT ?_)
      (apply aend; (exact resT))
      · exact ⟨by rw [hE]; rfl, rfl⟩
      · (exact stleT)
    have hno : ¬ ((x.op == 11) = true ∧ d = 0) := by replace g10 := bT g10; simp; omega
    rw [if_neg hno] at hG
    (refine ctlT ?_)
    refine rgT ?_
    refine z59 ?_
    refine z60 ?_
    refine leT ?_
    (refine ctlT ?_)
    have hO : (x.op == 2 || (x.op == 3 || x.op == 4)) = isO x.op := by unfold isO; rw [Bool.or_assoc]
    refine rgT ?_
    refine lo (lop_eql (E rfl) (E rfl)) rfl ?_
    refine lo (lop_assign (E rfl)) rfl ?_
    refine leT ?_
    (refine ctlT ?_)
    apply sw_orr rfl; exact fdelT
    · intro _; (refine ctlT ?_)
      refine rgT ?_
      refine lo (lop_eql (E rfl) (E rfl)) rfl ?_
      refine lo (lop_assign (E rfl)) rfl ?_
      refine leT ?_
      (refine ctlT ?_)
      apply sw_orq rfl; exact fdelT
      · intro _; (refine ctlT ?_)
        refine rgT ?_
        refine lo (lop_eql (E rfl) (E rfl)) rfl ?_
        refine lo (lop_assign (E rfl)) rfl ?_
        refine leT ?_
        (refine ctlT ?_)
        (exact sgoT)
      (exact sgoT)
    (refine ctlT ?_)
    refine sw_cond rfl (fun g14 => ?_) (fun g14 => ?_)
    · have hD : dN d x.op = d + 1 := by unfold dN; rw [if_neg (by intro h; simp at h; rw [hO, h] at g14; cases g14), if_pos (hO ▸ g14)]
      (refine ctlT ?_)
      refine rgT ?_
      refine lo (lop_move (E rfl)) rfl ?_
      refine z17 ?_
      refine lo (lop_assign (E rfl)) rfl ?_
      refine leT ?_
      (refine ctlT ?_)
      refine sw_go (sgo_fzb (r := r6) (q := q3) ssetT sdelT (.cons (.refl _) (.cons (.refl _) (.cons (.refl _) (.cons (bor_own sgT (by simp)) .nil))))) ?_
      refine rgT ?_
      refine lo (lop_move (E rfl)) rfl ?_
      refine z99 ?_
      refine z1 ?_; refine freshT fun r53 h53 => ?_; (repeat (rcases h53 with ⟨_, h53⟩))
      refine apA ((l ++ [x]).map (iv .any)) (l ++ [x]).length ?_
      refine apnT fun r54 h54 => ?_; (repeat (rcases h54 with ⟨_, h54⟩))
      refine lo (lop_assign (E rfl)) rfl ?_
      refine leT ?_
      (refine ctlT ?_)
      refine rgT ?_
      refine lo (lop_move (E rfl)) rfl ?_
      refine z17 ?_
      refine lo (lop_assign (E rfl)) rfl ?_
      refine leT ?_
      (refine ctlT ?_)
      have hd1 : 0 ≤ dN d x.op := by rcases Int.lt_or_le (dN d x.op) 0 with h | h; exact absurd ((dN_neg hd0).1 h) hno; exact h
      refine ⟨(r54, c.drop n, dN d x.op, i + 1, l ++ [x]), ⟨by show (c.drop n).length ≤ 1000000; simp; omega, fun x hx => hct x (List.mem_of_mem_drop hx), hd1, by show dN d x.op ≤ ((i + 1 : Nat) : Int); rw [hD]; omega, by show i + 1 ≤ 301; omega, by show (l ++ [x]).length = i + 1; simp; omega, by rw [hG]; show smN (300 - i) _ _ _ = smN (301 - (i + 1)) _ _ _; rw [show 301 - (i + 1) = 300 - i by omega]⟩, by show 301 - (i + 1) < 301 - i; omega, ?_⟩
      dsimp only
      rw [hD]
      (exact sgoT)
    (refine ctlT ?_)
    refine rgT ?_
    refine lo (lop_eql (E rfl) (E rfl)) rfl ?_
    refine lo (lop_assign (E rfl)) rfl ?_
    refine leT ?_
    (refine ctlT ?_)
    refine sw_cond rfl (fun g18 => ?_) (fun g18 => ?_)
    · have hD : dN d x.op = d - 1 := by unfold dN; rw [if_pos g18]
      (refine ctlT ?_)
      refine rgT ?_
      refine lo (lop_move (E rfl)) rfl ?_
      refine z19 ?_
      refine lo (lop_assign (E rfl)) rfl ?_
      refine leT ?_
      (refine ctlT ?_)
      refine sw_go (sgo_fzb (r := r6) (q := q3) ssetT sdelT (.cons (.refl _) (.cons (.refl _) (.cons (.refl _) (.cons (bor_own sgT (by simp)) .nil))))) ?_
      refine rgT ?_
      refine lo (lop_move (E rfl)) rfl ?_
      refine z99 ?_
      refine z1 ?_; refine freshT fun r53 h53 => ?_; (repeat (rcases h53 with ⟨_, h53⟩))
      refine apA ((l ++ [x]).map (iv .any)) (l ++ [x]).length ?_
      refine apnT fun r54 h54 => ?_; (repeat (rcases h54 with ⟨_, h54⟩))
      refine lo (lop_assign (E rfl)) rfl ?_
      refine leT ?_
      (refine ctlT ?_)
      refine rgT ?_
      refine lo (lop_move (E rfl)) rfl ?_
      refine z17 ?_
      refine lo (lop_assign (E rfl)) rfl ?_
      refine leT ?_
      (refine ctlT ?_)
      have hd1 : 0 ≤ dN d x.op := by rcases Int.lt_or_le (dN d x.op) 0 with h | h; exact absurd ((dN_neg hd0).1 h) hno; exact h
      refine ⟨(r54, c.drop n, dN d x.op, i + 1, l ++ [x]), ⟨by show (c.drop n).length ≤ 1000000; simp; omega, fun x hx => hct x (List.mem_of_mem_drop hx), hd1, by show dN d x.op ≤ ((i + 1 : Nat) : Int); rw [hD]; omega, by show i + 1 ≤ 301; omega, by show (l ++ [x]).length = i + 1; simp; omega, by rw [hG]; show smN (300 - i) _ _ _ = smN (301 - (i + 1)) _ _ _; rw [show 301 - (i + 1) = 300 - i by omega]⟩, by show 301 - (i + 1) < 301 - i; omega, ?_⟩
      dsimp only
      rw [hD]
      (exact sgoT)
    have hD : dN d x.op = d := by unfold dN; rw [if_neg (by simp [g18]), if_neg (by rw [← hO, g14]; simp)]
    (refine ctlT ?_)
    refine sw_go (sgo_fzb (r := r6) (q := q3) ssetT sdelT (.cons (.refl _) (.cons (.refl _) (.cons (.refl _) (.cons (bor_own sgT (by simp)) .nil))))) ?_
    refine rgT ?_
    refine lo (lop_move (E rfl)) rfl ?_
    refine z99 ?_
    refine z1 ?_; refine freshT fun r53 h53 => ?_; (repeat (rcases h53 with ⟨_, h53⟩))
    refine apA ((l ++ [x]).map (iv .any)) (l ++ [x]).length ?_
    refine apnT fun r54 h54 => ?_; (repeat (rcases h54 with ⟨_, h54⟩))
    refine lo (lop_assign (E rfl)) rfl ?_
    refine leT ?_
    (refine ctlT ?_)
    refine rgT ?_
    refine lo (lop_move (E rfl)) rfl ?_
    refine z17 ?_
    refine lo (lop_assign (E rfl)) rfl ?_
    refine leT ?_
    (refine ctlT ?_)
    have hd1 : 0 ≤ dN d x.op := by rcases Int.lt_or_le (dN d x.op) 0 with h | h; exact absurd ((dN_neg hd0).1 h) hno; exact h
    refine ⟨(r54, c.drop n, dN d x.op, i + 1, l ++ [x]), ⟨by show (c.drop n).length ≤ 1000000; simp; omega, fun x hx => hct x (List.mem_of_mem_drop hx), hd1, by show dN d x.op ≤ ((i + 1 : Nat) : Int); rw [hD]; omega, by show i + 1 ≤ 301; omega, by show (l ++ [x]).length = i + 1; simp; omega, by rw [hG]; show smN (300 - i) _ _ _ = smN (301 - (i + 1)) _ _ _; rw [show 301 - (i + 1) = 300 - i by omega]⟩, by show 301 - (i + 1) < 301 - i; omega, ?_⟩
    dsimp only
    rw [hD]
    (exact sgoT)
  have hE : R = false := by rw [hG, show 301 - i = 0 by simp at g4; omega]; rfl
  (refine ctlT ?_)
  refine rgT ?_
  refine lo (lop_assign (E rfl)) rfl ?_
  refine leT ?_
  (refine ctlT ?_)
  (apply aend; (exact resT))
  · exact ⟨by rw [hE]; rfl, rfl⟩
  · (exact stleT)
set_option maxRecDepth 100000 in
theorem law_tells6 (b : List Nat) (hb : b.length ≤ 1000000) (hlt : ∀ x ∈ b, x < 256) : SCall Try.prog 39 [.ro 1 (b.map encU) .any] [] (fun x σ => x = .bool true ∧ σ = []) := by
  have hsm : smN 301 b 0 [] = ((getC b).2.2 == 0) := sm_gc b 301 0 0 [] (Int.le_refl 0)
  have hsnd := getC_sound hlt
  have herr := getC_err b
  refine scall_of (n := 50) (ks := [0, 2, 3, 4, 5, 7, 15]) Try.func39 rfl rfl (Nat.le_of_ble_eq_true rfl) ?_
  (refine ctlT ?_)
  refine rgT ?_
  refine lo (lop_assign (E rfl)) rfl ?_
  refine leT ?_
  (refine ctlT ?_)
  refine rgT ?_
  refine lo (lop_move (E rfl)) rfl ?_
  refine cw [] Try.call37 (code_get b hb hlt) rfl argsleT stleT ?_
  rintro _ σ' ⟨q, rfl, rfl⟩ h10
  (apply rs_sto; (exact nflT))
  generalize getC b = gc at hsm hsnd herr ⊢
  obtain ⟨l, n, e⟩ := gc
  dsimp only at hsm hsnd herr ⊢
  refine lo (lop_move (E rfl)) rfl ?_
  refine lo (lop_extract (E rfl) rfl) rfl ?_
  refine lo (lop_extract (E rfl) rfl) rfl ?_
  refine lo (lop_extract (E rfl) rfl) rfl ?_
  refine lo (lop_assign (E rfl)) rfl ?_
  refine lo (lop_assign (E rfl)) rfl ?_
  refine lo (lop_assign (E rfl)) rfl ?_
  refine leT ?_
  (refine ctlT ?_)
  refine rgT ?_
  refine lo (lop_move (E rfl)) rfl ?_
  refine lo (lop_neq (E rfl) (E rfl)) rfl ?_
  refine leT ?_
  (refine ctlT ?_)
  refine sw_cond rfl (fun g2 => ?_) (fun g2 => ?_)
  · obtain ⟨rfl, rfl⟩ := herr (by simpa using g2)
    have hsm : smN 301 b 0 [] = false := by rw [hsm]; simpa using g2
    (refine ctlT ?_)
    refine rgT ?_
    refine lo (lop_move (E rfl)) rfl ?_
    refine z14 ?_
    refine lo (lop_eql (E rfl) (E rfl)) rfl ?_
    refine lo (lop_move (E rfl)) rfl ?_
    first | refine ln rfl rfl rfl rfl ?_ | (refine gy rfl rfl ?_; refine lo (lop_move (E rfl)) rfl ?_) | refine lg rfl rfl (lop_move (E rfl)) rfl ?_
    first | refine ln rfl rfl rfl rfl ?_ | (refine gy rfl rfl ?_; refine lo (lop_eql (by first | exact W rfl id | exact E rfl) (E rfl)) rfl ?_) | refine lg rfl rfl (lop_eql (by first | exact W rfl id | exact E rfl) (E rfl)) rfl ?_
    refine z68 ?_
    refine lo (lop_move (E rfl)) rfl ?_
    first | refine ln rfl rfl rfl rfl ?_ | (refine gy rfl rfl ?_; refine lo (lop_move (E rfl)) rfl ?_) | refine lg rfl rfl (lop_move (E rfl)) rfl ?_
    refine gy rfl rfl ?_
    refine puA Try.call59 (law_some b hb hlt) rfl pargsT nofT ?_
    rw [hsm]
    first | refine ln rfl rfl rfl rfl ?_ | (refine gy rfl rfl ?_; refine lo (lop_not (by first | exact W rfl id | exact E rfl)) rfl ?_) | refine lg rfl rfl (lop_not (by first | exact W rfl id | exact E rfl)) rfl ?_
    refine z68 ?_
    refine lo (lop_assign (E rfl)) rfl ?_
    refine leT ?_
    (refine ctlT ?_)
    (apply aend; (exact resT))
    · exact ⟨by rfl, rfl⟩
    · (exact stleT)
  obtain ⟨hok, hsp, hm⟩ := hsnd (by simpa using g2)
  have hll := okN_len hok
  have hol : (opsOf l).length = l.length := by simp [opsOf]
  have hpl := putL_len hm
  have hnb : n ≤ b.length := by have := hsp.2.2; simpa using this
  refine fzvs (j := 3) rfl sdelT (bor_own sgT (by simp)) ?_
  (refine ctlT ?_)
  refine rgT ?_
  refine lo (lop_move (E rfl)) rfl ?_
  refine cw [] Try.call31 (ref_match l (by omega)) rfl argsleT stleT ?_
  rintro _ σ' ⟨q2, rfl, rfl⟩ h30
  (apply rs_sto; (exact nflT))
  rw [hok]
  refine lo (lop_move (E rfl)) rfl ?_
  refine lo (lop_extract (E rfl) rfl) rfl ?_
  refine lo (lop_extract (E rfl) rfl) rfl ?_
  refine lo (lop_assign (E rfl)) rfl ?_
  refine lo (lop_assign (E rfl)) rfl ?_
  refine leT ?_
  (refine ctlT ?_)
  refine rgD [(0, true), (1, true), (2, true), (3, true), (4, true), (5, true), (6, true), (7, true), (8, true), (11, true), (12, true), (13, true), (14, true), (9, false), (10, true), (15, true), (16, true), (17, true)] ?_
  refine dlo rfl (lop_move (E rfl)) rfl ?_
  refine dlo rfl (lop_move (E rfl)) rfl ?_
  first | refine dln rfl rfl rfl rfl rfl ?_ | (refine dly rfl rfl rfl (lop_move (E rfl)) rfl ?_) | refine dlg rfl rfl rfl (lop_move (E rfl)) rfl ?_
  first | refine dln rfl rfl rfl rfl rfl ?_ | (refine dly rfl rfl rfl (lop_move (E rfl)) rfl ?_) | refine dlg rfl rfl rfl (lop_move (E rfl)) rfl ?_
  first | refine dln rfl rfl rfl rfl rfl ?_ | (first | refine dly rfl rfl rfl (lop_len_map (by first | exact W rfl id | exact E rfl)) rfl ?_ | refine dly rfl rfl rfl (lop_len_ro (by first | exact W rfl id | exact E rfl)) rfl ?_ | refine dly rfl rfl rfl (lop_len_own (by first | exact W rfl id | exact E rfl)) rfl ?_) | refine dlg rfl rfl rfl (lop_len_map (by first | exact W rfl id | exact E rfl)) rfl ?_ | refine dlg rfl rfl rfl (lop_len_ro (by first | exact W rfl id | exact E rfl)) rfl ?_ | refine dlg rfl rfl rfl (lop_len_own (by first | exact W rfl id | exact E rfl)) rfl ?_
  first | refine dln rfl rfl rfl rfl rfl ?_ | (refine dly rfl rfl rfl (lop_leq (by first | exact W rfl id | exact E rfl) (by first | exact W rfl id | exact E rfl)) rfl ?_) | refine dlg rfl rfl rfl (lop_leq (by first | exact W rfl id | exact E rfl) (by first | exact W rfl id | exact E rfl)) rfl ?_
  rw [decide_eq_true (show (n : Int) ≤ (b.length : Nat) by omega)]
  first | refine dlo rfl (lop_pick_t (E rfl) (by first | exact W rfl (by simp) | exact E rfl)) rfl ?_ | refine dlo rfl (lop_pick_f (E rfl) (E rfl)) rfl ?_ | refine dlo rfl (lop_pick (E rfl) (by first | exact W rfl (by simp) | exact E rfl) (E rfl)) rfl ?_
  refine dlo rfl (lop_move (E rfl)) rfl ?_
  first | refine dln rfl rfl rfl rfl rfl ?_ | (refine dly rfl rfl rfl (lop_move (E rfl)) rfl ?_) | refine dlg rfl rfl rfl (lop_move (E rfl)) rfl ?_
  first | refine dln rfl rfl rfl rfl rfl ?_ | (refine dly rfl rfl rfl (lop_move (E rfl)) rfl ?_) | refine dlg rfl rfl rfl (lop_move (E rfl)) rfl ?_
  first | refine dln rfl rfl rfl rfl rfl ?_ | (refine dly rfl rfl rfl (lop_move (E rfl)) rfl ?_) | refine dlg rfl rfl rfl (lop_move (E rfl)) rfl ?_
  first | refine dln rfl rfl rfl rfl rfl ?_ | (first | refine dly rfl rfl rfl (lop_slice_ro (by first | exact W rfl id | exact E rfl) OB.none (OB.some (by first | exact W rfl id | exact E rfl) (fun _ => by first | rfl | exact (Int.toNat_of_nonneg (by omega)).symm)) (fun _ => by first | (simp only [List.length_map]; omega) | omega)) rfl ?_ | refine dly rfl rfl rfl (lop_slice_own (by first | exact W rfl id | exact E rfl) sgT OB.none (OB.some (by first | exact W rfl id | exact E rfl) (fun _ => by first | rfl | exact (Int.toNat_of_nonneg (by omega)).symm)) (fun _ => by first | (simp only [List.length_map]; omega) | omega)) rfl ?_) | refine dlg rfl rfl rfl (lop_slice_ro (by first | exact W rfl id | exact E rfl) OB.none (OB.some (by first | exact W rfl id | exact E rfl) (fun _ => by first | rfl | exact (Int.toNat_of_nonneg (by omega)).symm)) (fun _ => by first | (simp only [List.length_map]; omega) | omega)) rfl ?_ | refine dlg rfl rfl rfl (lop_slice_own (by first | exact W rfl id | exact E rfl) sgT OB.none (OB.some (by first | exact W rfl id | exact E rfl) (fun _ => by first | rfl | exact (Int.toNat_of_nonneg (by omega)).symm)) (fun _ => by first | (simp only [List.length_map]; omega) | omega)) rfl ?_
  rw [take_pre]
  first | refine dln rfl rfl rfl rfl rfl ?_ | (first | refine dly rfl rfl rfl (lop_bytes_ro (by first | exact W rfl id | exact E rfl)) rfl ?_ | refine dly rfl rfl rfl (lop_text_own (by first | exact W rfl id | exact E rfl)) rfl ?_) | refine dlg rfl rfl rfl (lop_bytes_ro (by first | exact W rfl id | exact E rfl)) rfl ?_ | refine dlg rfl rfl rfl (lop_text_own (by first | exact W rfl id | exact E rfl)) rfl ?_
  refine dclyA rfl rfl rfl Try.call36 (ref_putBody l (by omega) hm) rfl bargsT noT ?_
  rintro _ σ' ⟨q3, rfl, rfl⟩ h42
  replace h42 := lnewT h42; (repeat (rcases h42 with ⟨_, h42⟩))
  (apply rd_sto; (exact nflT))
  first | refine dln rfl rfl rfl rfl rfl ?_ | (first | refine dly rfl rfl rfl (lop_bytes_ro (by first | exact W rfl id | exact E rfl)) rfl ?_ | refine dly rfl rfl rfl (lop_text_own (by first | exact W rfl id | exact E rfl)) rfl ?_) | refine dlg rfl rfl rfl (lop_bytes_ro (by first | exact W rfl id | exact E rfl)) rfl ?_ | refine dlg rfl rfl rfl (lop_text_own (by first | exact W rfl id | exact E rfl)) rfl ?_
  first | refine dln rfl rfl rfl rfl rfl ?_ | (refine dly rfl rfl rfl (lop_seql (by first | exact W rfl id | exact E rfl) (by first | exact W rfl id | exact E rfl)) rfl ?_) | refine dlg rfl rfl rfl (lop_seql (by first | exact W rfl id | exact E rfl) (by first | exact W rfl id | exact E rfl)) rfl ?_
  first | refine dlo rfl (lop_pick_t (E rfl) (by first | exact W rfl (by simp) | exact E rfl)) rfl ?_ | refine dlo rfl (lop_pick_f (E rfl) (E rfl)) rfl ?_ | refine dlo rfl (lop_pick (E rfl) (by first | exact W rfl (by simp) | exact E rfl) (E rfl)) rfl ?_
  refine dlo rfl (lop_assign (E rfl)) rfl ?_
  refine deT ?_
  (refine ctlT ?_)
  (apply aend; (exact resT))
  · exact ⟨by rw [sp_pre hsp, beq_self_eq_true]; rfl, rfl⟩
  · (exact stleT)
end Go.Proofs.Ytkjfflabapeidaa
