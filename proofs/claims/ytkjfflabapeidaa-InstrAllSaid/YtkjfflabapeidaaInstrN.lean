/-
  What the statements of instructions call: Put onto nothing, Short, Cut.
-/
import Derived.Test.YtkjfflabapeidaaInstrM
namespace Go.Proofs.Ytkjfflabapeidaa
open Go.RowKit Go.ChangeShapes Go.WideShapes Go.ChangeAt Go.Deep
set_option linter.unusedSimpArgs false
set_option linter.unusedVariables false
attribute [local irreducible] SW RS RD AThen ABlock

theorem nil_put (k : Rk) (x : Ins) (hx : x.Ok) (hm : mayN x = true) : SCall Try.prog 23 [.ro 0 [] .nil, .agg (iv k x)] []
    (fun y σ => ∃ r, y = .own r 0 (putN x).length ∧ σ = [(r, .arr 5 1 ((putN x).map encU))]) :=
  scall_nil (e := 5) (sz := 1) (by decide) fun q _ => instr_put q [] (by simp) k x hx hm
set_option maxRecDepth 100000 in
theorem law_short (l : List Nat) (hl : l.length ≤ maxLen) (n : Nat) : SCall Try.prog 18 [.ro 1 (l.map encU) .any, .int .i64 n] [] (fun x σ => x = .ro 1 ((l.take n).map encU) .any ∧ σ = []) := by
  unfold maxLen at hl
  refine scall_of (n := 13) (ks := [0, 1, 4, 8]) Try.func18 rfl rfl (Nat.le_of_ble_eq_true rfl) ?_
  (refine ctlT ?_)
  refine rgT ?_
  refine lo (lop_assign (E rfl)) rfl ?_
  refine leT ?_
  (refine ctlT ?_)
  refine rgT ?_
  refine lo (lop_move (E rfl)) rfl ?_
  refine z14 ?_
  refine lo (lop_move (E rfl)) rfl ?_
  refine lo (lop_gtr (E rfl) (E rfl)) rfl ?_
  refine leT ?_
  (refine ctlT ?_)
  refine sw_cond rfl (fun g1 => ?_) (fun g1 => ?_)
  · (refine ctlT ?_)
    have h2 := of_decide_eq_true g1
    refine rgT ?_
    refine lo (lop_move (E rfl)) rfl ?_
    refine lo (lop_move (E rfl)) rfl ?_
    refine z100 ?_
    refine lo (lop_assign (E rfl)) rfl ?_
    refine leT ?_
    (refine ctlT ?_)
    (apply aend; (exact resT))
    · (first | (have h1 := of_decide_eq_false g1; rw [List.take_of_length_le (by omega)]; exact ⟨rfl, rfl⟩) | (rw [List.map_take]; exact ⟨by simp [resAV], rfl⟩))
    · (exact stleT)
  (refine ctlT ?_)
  refine rgT ?_
  refine lo (lop_move (E rfl)) rfl ?_
  refine lo (lop_assign (E rfl)) rfl ?_
  refine leT ?_
  (refine ctlT ?_)
  (apply aend; (exact resT))
  · (first | (have h1 := of_decide_eq_false g1; rw [List.take_of_length_le (by omega)]; exact ⟨rfl, rfl⟩) | (rw [List.map_take]; exact ⟨by simp [resAV], rfl⟩))
  · (exact stleT)
def cutN (x : Ins) : Ins := ⟨x.op, x.a, x.b, x.l.take 55⟩
set_option maxRecDepth 100000 in
theorem law_cut (x : Ins) (hx : x.l.length ≤ maxLen) : SCall Try.prog 17 [.agg (iv .any x)] [] (fun y σ => ∃ q, y = .agg (io q (cutN x)) ∧ σ = [(q, .arr 3 1 ((cutN x).l.map encI))]) := by
  unfold maxLen at hx
  refine scall_of (n := 34) (ks := [0, 1, 2, 3, 4, 20]) Try.func17 rfl rfl (Nat.le_of_ble_eq_true rfl) ?_
  unfold iv
  (refine ctlT ?_)
  refine rgT ?_
  apply bx; rfl; rfl; (exact zcT); rfl; refine freshT fun r1 h1 => ?_; (repeat (rcases h1 with ⟨_, h1⟩))
  apply al; rfl; (exact zcT); refine freshT fun r2 h2 => ?_; (repeat (rcases h2 with ⟨_, h2⟩))
  refine leT ?_
  (refine ctlT ?_)
  refine rgT ?_
  refine z59 ?_
  refine z60 ?_
  refine z59 ?_
  refine z60 ?_
  refine z59 ?_
  refine z60 ?_
  refine z93 ?_
  apply al; rfl; (exact zcT); refine freshT fun r3 h3 => ?_; (repeat (rcases h3 with ⟨_, h3⟩))
  apply stp; rfl; rfl; rfl; rfl; (exact sputT)
  refine leT ?_
  refine an ?_
  refine sw_virt_box (ks := [0, 1, 2, 3, 4, 20]) r3 3 3 1 (by decide) sgT rfl (by decide) fun q hq => ?_
  simp only [fresh_cons, fresh_nil, and_true] at hq; (repeat (rcases hq with ⟨_, hq⟩))
  apply Exists.intro; apply And.intro; (exact ssetT)
  (refine ctlT ?_)
  refine rgT ?_
  refine lo (lop_assign (E rfl)) rfl ?_
  refine leT ?_
  (refine ctlT ?_)
  refine lp (β := Nat × Nat) (fun b => ⟨[(1, .ptr r1 0), (2, .ptr r2 0), (3, .ptr r3 0), (4, .int .i64 b.2)], [(b.1, .arr 3 1 ((x.l.take b.2).map encI)), (r3, .box 24 [.int .i64 x.op, .int .i64 x.a, .int .i64 x.b, .own b.1 0 (x.l.take b.2).length]), (r2, .box 24 [.int .i64 0, .int .i64 0, .int .i64 0, .ro 0 [] .nil]), (r1, .box 24 [.int .i64 x.op, .int .i64 x.a, .int .i64 x.b, .ro 1 (x.l.map encI) .any])]⟩) (fun b => (Nq b.1 r3 ∧ Nq b.1 r2 ∧ Nq b.1 r1) ∧ b.2 ≤ x.l.length ∧ b.2 ≤ 55) (fun b => 55 - b.2) (q, 0) (by (exact sgoT)) ⟨⟨by (exact nqT), by (exact nqT), by (exact nqT)⟩, by omega, by omega⟩ ?_
  rintro ⟨p, j⟩ ⟨⟨hp1, hp2, hp3⟩, hj, hj5⟩
  dsimp only at hp1 hp2 hp3 hj hj5 ⊢
  (refine ctlT ?_)
  refine rgT ?_
  refine lo (lop_move (E rfl)) rfl ?_
  refine z59 ?_
  refine z60 ?_
  refine z14 ?_
  refine lo (lop_lss (E rfl) (E rfl)) rfl ?_
  refine lo (lop_move (E rfl)) rfl ?_
  refine z4 ?_
  refine z69 ?_
  refine z7 ?_
  refine leT ?_
  (refine ctlT ?_)
  refine sw_cond rfl (fun h1 => ?_) (fun h1 => ?_)
  · have hlt : j < x.l.length ∧ j < 55 := by simp at h1; omega
    obtain ⟨hlt, hlt5⟩ := hlt
    obtain ⟨y, hy⟩ : ∃ y, x.l[j]? = some y := ⟨_, List.getElem?_eq_getElem hlt⟩
    have hn : x.l.take (j + 1) = x.l.take j ++ [y] := by rw [List.take_add_one, hy]; rfl
    have hlj : (x.l.take j).length = j := by simp; omega
    (refine ctlT ?_)
    refine rgD [(0, true), (1, true), (2, true), (3, true), (4, true), (5, true), (6, true), (7, false), (8, false), (9, true), (10, false)] ?_
    refine z73 ?_
    refine z74 ?_
    refine z73 ?_
    refine z74 ?_
    refine dlo rfl (lop_move (E rfl)) rfl ?_
    refine z56 ?_
    refine z57 ?_
    refine z97 ?_; refine freshT fun r30 h30 => ?_; (repeat (rcases h30 with ⟨_, h30⟩))
    apply dap (es' := (x.l.take j ++ [y]).map encI) (len' := (x.l.take j ++ [y]).length); rfl; infer_instance; infer_instance; rfl; rfl; (exact sgT)
    · simp
    · exact .inr (.inr ⟨_, _, _, _, _, rfl, sgT, by simp, rfl⟩)
    · simp [encI]
    · simp
    · simp [maxLen]; omega
    · simp; omega
    · rfl
    · (exact hbtT)
    refine apnT fun r31 h31 => ?_; (repeat (rcases h31 with ⟨_, h31⟩))
    refine z73 ?_
    refine z95 ?_
    refine deT ?_
    (refine ctlT ?_)
    refine rgT ?_
    refine lo (lop_move (E rfl)) rfl ?_
    refine z17 ?_
    refine lo (lop_assign (E rfl)) rfl ?_
    refine leT ?_
    (refine ctlT ?_)
    refine ⟨(r31, j + 1), ⟨⟨by show Nq r31 r3; (exact nqT), by show Nq r31 r2; (exact nqT), by show Nq r31 r1; (exact nqT)⟩, hlt, hlt5⟩, by show 55 - (j + 1) < 55 - j; omega, ?_⟩
    dsimp only
    rw [hn]
    (exact sgoT)
  · have he : x.l.take j = x.l.take 55 := by
      have : j = x.l.length ∨ j = 55 := by simp at h1; omega
      rcases this with rfl | rfl
      · rw [List.take_of_length_le (Nat.le_refl _), List.take_of_length_le (by omega)]
      · rfl
    rw [he]
    (refine ctlT ?_)
    refine rgT ?_
    refine z99 ?_
    apply stp; rfl; rfl; rfl; rfl; (exact sputT)
    refine leT ?_
    (refine ctlT ?_)
    refine aend_n ?_
    (apply aend; (exact resT))
    · exact ⟨p, rfl, rfl⟩
    · (exact stleT)
end Go.Proofs.Ytkjfflabapeidaa
