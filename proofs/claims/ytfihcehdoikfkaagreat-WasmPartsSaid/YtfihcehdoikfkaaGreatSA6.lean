import Derived.Test.YtfihcehdoikfkaaGreatSA5
set_option linter.unusedSimpArgs false
set_option linter.unusedVariables false
set_option maxRecDepth 100000
set_option maxHeartbeats 4000000
/-
  The document's Eq.
-/
namespace Go.Proofs.YtfihcehdoikfkaaGreat
open Go.RowKit Go.ChangeShapes Go.WideShapes Go.ChangeAt Go.Deep
attribute [local irreducible] SW RS RD AThen ABlock
theorem not_none3 {a b c : Bool} (h : (if (if (!a) = true then true else !b) = true then true else !c) = false) : (a && b && c) = true := by cases a <;> cases b <;> cases c <;> simp_all
theorem not_some3 {a b c : Bool} (h : (if (if (!a) = true then true else !b) = true then true else !c) = true) : (a && b && c) = false := by cases a <;> cases b <;> cases c <;> simp_all
def eqP (a b : Md) : Bool := decide (a.el = b.el ∧ a.co = b.co ∧ a.da = b.da)
def eqH (a b : Md) : Bool := decide (a.ty = b.ty ∧ a.im = b.im ∧ a.fn = b.fn ∧ a.tb = b.tb ∧ a.me = b.me ∧ a.gl = b.gl ∧ a.ex = b.ex)
theorem eqHP (a b : Md) : eqM a b = (eqH a b && eqP a b) := by
  unfold eqM eqH eqP
  rw [Bool.eq_iff_iff]
  simp only [Bool.and_eq_true, decide_eq_true_eq]
  constructor
  · rintro ⟨⟨⟨⟨⟨⟨⟨⟨⟨h1, h2⟩, h3⟩, h4⟩, h5⟩, h6⟩, h7⟩, h8⟩, h9⟩, h10⟩
    exact ⟨⟨h1, h5, h6, h7, h8, h9, h10⟩, h2, h3, h4⟩
  · rintro ⟨⟨h1, h5, h6, h7, h8, h9, h10⟩, h2, h3, h4⟩
    exact ⟨⟨⟨⟨⟨⟨⟨⟨⟨h1, h2⟩, h3⟩, h4⟩, h5⟩, h6⟩, h7⟩, h8⟩, h9⟩, h10⟩
theorem re_limits (a c : Li) : SCall Tryz.prog 57 [.agg (encLi a), .agg (encLi c)] [] (fun r σ => r = .bool (decide (a = c)) ∧ σ = []) := by
  have hE : decide (a = c) = if (if (a.has == c.has) = true then a.mn == c.mn else false) = true then a.mx == c.mx else false := by
    rw [ite_and, ite_and, Bool.eq_iff_iff]; cases a; cases c; simp [and_assoc]
  rw [hE]
  refine scall_of (n := 24) (ks := [0, 1, 2, 3, 4]) Tryz.func57 rfl rfl (Nat.le_of_ble_eq_true rfl) ?_
  unfold encLi
  refine sq3 ?_
  apply bx; rfl; rfl; (exact zcT); rfl; refine freshT fun r2 h2 => ?_; repeat rcases h2 with ⟨_, h2⟩
  apply bx; rfl; rfl; (exact zcT); rfl; refine freshT fun r3 h3 => ?_; repeat rcases h3 with ⟨_, h3⟩
  refine sq121 ?_
  refine lo (lop_beql (E rfl) (E rfl)) rfl ?_
  refine sq108 ?_
  refine z128 ?_
  refine z68 ?_
  refine sq108 ?_
  refine z128 ?_
  refine sq31 ?_
  apply aend; exact resT
  · exact ⟨rfl, rfl⟩
  · exact stleT
theorem re_parts (a c : Md) (za : a.Z) (zc : c.Z) (ba : ∀ x ∈ a.co, x.bd.length ≤ 100000) (bc : ∀ x ∈ c.co, x.bd.length ≤ 100000) (da1 : ∀ x ∈ a.da, ∀ c ∈ x.bs, c < 256) (dc1 : ∀ x ∈ c.da, ∀ c ∈ x.bs, c < 256) : SCall Tryz.prog 58 [.agg (encMd a), .agg (encMd c)] [] (fun r σ => r = .bool (eqP a c) ∧ σ = []) := by
  obtain ⟨-, -, -, -, -, ⟨z1, z2⟩, ⟨z3, z4⟩, ⟨z5, z6⟩⟩ := za
  obtain ⟨-, -, -, -, -, ⟨y1, y2⟩, ⟨y3, y4⟩, ⟨y5, y6⟩⟩ := zc
  obtain ⟨ty, im, fn, tb, me, gl, ex, el, co, da⟩ := a
  obtain ⟨ty', im', fn', tb', me', gl', ex', el', co', da'⟩ := c
  dsimp only at z1 z2 z3 z4 z5 z6 y1 y2 y3 y4 y5 y6 ba bc da1 dc1
  refine scall_of (n := 139) (ks := [0, 1, 2, 3, 4, 5, 6, 7, 8, 9, 34, 39, 70, 75, 101, 106, 138]) Tryz.func58 rfl rfl (Nat.le_of_ble_eq_true rfl) ?_
  unfold encMd
  dsimp only
  refine sq3 ?_
  apply bx; rfl; rfl; (exact zcT); rfl; refine freshT fun r2 h2 => ?_; repeat rcases h2 with ⟨_, h2⟩
  apply bx; rfl; rfl; (exact zcT); rfl; refine freshT fun r3 h3 => ?_; repeat rcases h3 with ⟨_, h3⟩
  refine sq45 ?_
  refine z14 ?_
  refine sq10 ?_
  refine z14 ?_
  refine lo (lop_neq (E rfl) (E rfl)) rfl ?_
  refine sq122 ?_
  refine sq64 ?_
  refine z124 ?_
  refine z167 ?_
  refine z113 ?_
  refine sq122 ?_
  refine sq64 ?_
  refine z124 ?_
  refine z167 ?_
  refine sq77 ?_
  refine sw_cond rfl (fun g1 => ?_) (fun g1 => ?_)
  · have h3 := not_some3 (a := (el.length : Int) == el'.length) (b := (co.length : Int) == co'.length) (c := (da.length : Int) == da'.length) g1
    have hE : eqP ⟨ty, im, fn, tb, me, gl, ex, el, co, da⟩ ⟨ty', im', fn', tb', me', gl', ex', el', co', da'⟩ = false := by refine decide_eq_false ?_; rintro ⟨e1, e2, e3⟩; dsimp only at e1 e2 e3; rw [e1, e2, e3] at h3; simp at h3
    refine sq7 ?_
    apply aend; exact resT
    · exact ⟨by rw [hE]; rfl, rfl⟩
    · exact stleT
  have h3 := not_none3 (a := (el.length : Int) == el'.length) (b := (co.length : Int) == co'.length) (c := (da.length : Int) == da'.length) g1
  simp only [Bool.and_eq_true, beq_iff_eq] at h3
  obtain ⟨⟨hl1, hl2⟩, hl3⟩ := h3
  refine sq7 ?_
  refine lp (β := Nat) (fun j => ⟨[(2, .ptr r2 0), (3, .ptr r3 0), (5, .int .i64 j)], [(r3, .box 33 (encMd ⟨ty', im', fn', tb', me', gl', ex', el', co', da'⟩)), (r2, .box 33 (encMd ⟨ty, im, fn, tb, me, gl, ex, el, co, da⟩))]⟩) (fun j => j ≤ el.length ∧ el.take j = el'.take j) (fun j => el.length - j) 0 sgoT ⟨Nat.zero_le _, rfl⟩ ?_
  rintro j ⟨hj, htel⟩
  unfold encMd
  dsimp only
  refine sq67 ?_
  refine sw_cond rfl (fun g4 => ?_) (fun g4 => ?_)
  · have hlt : j < el.length := by simp at g4; omega
    have hlt2 : j < el'.length := by omega
    obtain ⟨⟨o1, f1⟩, hx⟩ : ∃ x, el[j]? = some x := ⟨_, List.getElem?_eq_getElem hlt⟩
    obtain ⟨⟨o2, f2⟩, hy⟩ : ∃ x, el'[j]? = some x := ⟨_, List.getElem?_eq_getElem hlt2⟩
    refine ctlT ?_
    refine rgD [(0, true), (1, true), (2, true), (3, true), (4, true), (5, true), (6, true), (7, true), (8, true), (9, true), (10, true), (11, true), (12, true), (13, true), (14, true), (15, true), (16, true), (17, true), (18, true), (19, true), (20, true), (21, true), (22, true), (23, true), (24, true), (25, true), (26, false), (27, true), (28, true)] ?_
    refine sq105 ?_
    refine z58 ?_
    refine dlo rfl (lop_move (E rfl)) rfl ?_
    refine z168 ?_
    refine z169 ?_
    refine z156 ?_
    refine z157 ?_
    refine z170 ?_
    refine z158 ?_
    refine z168 ?_
    refine z169 ?_
    refine z156 ?_
    refine z157 ?_
    refine z170 ?_
    refine z158 ?_
    refine dpugA rfl rfl rfl Tryz.call20 (fun _ => (ref_eqInts f1 f2)) rfl pargsT nofT ?_
    refine z171 ?_
    refine z172 ?_
    refine sq102 ?_
    refine sw_cond rfl (fun g6 => ?_) (fun g6 => ?_)
    · have hn2 := not_some (a := o1 == o2) (b := decide (f1 = f2)) g6
      have hne : (⟨o1, f1⟩ : El) ≠ ⟨o2, f2⟩ := by intro e; cases e; simp at hn2
      have hE : eqP ⟨ty, im, fn, tb, me, gl, ex, el, co, da⟩ ⟨ty', im', fn', tb', me', gl', ex', el', co', da'⟩ = false := by refine decide_eq_false ?_; rintro ⟨e_el, e_co, e_da⟩; dsimp only at e_el; rw [e_el, hy] at hx; exact hne (Option.some.inj hx).symm
      refine sq7 ?_
      apply aend; exact resT
      · exact ⟨by rw [hE]; rfl, rfl⟩
      · exact stleT
    have hn2 := not_none (a := o1 == o2) (b := decide (f1 = f2)) g6
    have hxy : (⟨o1, f1⟩ : El) = ⟨o2, f2⟩ := by simp at hn2; rw [hn2.1, hn2.2]
    refine sq34 ?_
    refine ⟨j + 1, ⟨hlt, by rw [List.take_add_one, List.take_add_one, htel, hx, hy, hxy]⟩, by show el.length - (j + 1) < el.length - j; omega, ?_⟩
    exact sgoT
  have eel : el = el' := by simp at g4; rwa [List.take_of_length_le (by omega), List.take_of_length_le (by omega)] at htel
  refine sq7 ?_
  refine lp (β := Nat) (fun j => ⟨[(2, .ptr r2 0), (3, .ptr r3 0), (6, .int .i64 j)], [(r3, .box 33 (encMd ⟨ty', im', fn', tb', me', gl', ex', el', co', da'⟩)), (r2, .box 33 (encMd ⟨ty, im, fn, tb, me, gl, ex, el, co, da⟩))]⟩) (fun j => j ≤ co.length ∧ co.take j = co'.take j) (fun j => co.length - j) 0 sgoT ⟨Nat.zero_le _, rfl⟩ ?_
  rintro j ⟨hj, htco⟩
  unfold encMd
  dsimp only
  refine sq67 ?_
  refine sw_cond rfl (fun g9 => ?_) (fun g9 => ?_)
  · have hlt : j < co.length := by simp at g9; omega
    have hlt2 : j < co'.length := by omega
    obtain ⟨⟨o1, f1⟩, hx⟩ : ∃ x, co[j]? = some x := ⟨_, List.getElem?_eq_getElem hlt⟩
    obtain ⟨⟨o2, f2⟩, hy⟩ : ∃ x, co'[j]? = some x := ⟨_, List.getElem?_eq_getElem hlt2⟩
    have hb1 := ba _ (List.mem_of_getElem? hx)
    have hb2 := bc _ (List.mem_of_getElem? hy)
    dsimp only at hb1 hb2
    refine ctlT ?_
    refine rgD [(0, true), (1, true), (2, true), (3, true), (4, true), (5, true), (6, true), (7, true), (8, true), (9, true), (14, false), (14, false), (14, false), (14, false)] ?_
    refine sq42 ?_
    refine z126 ?_
    refine sq42 ?_
    refine z126 ?_
    refine rd_fork2 10 11 [(11, false), (12, false), (13, false)] [(10, false), (12, false), (13, false)] (f1 := []) (f2 := []) (by kernel_rfl) rfl rfl ?_ ?_ (.inl rfl) (.inl rfl)
    · apply hopal; infer_instance; rfl; (exact zcT); refine freshT fun r7 h7 => ?_; repeat rcases h7 with ⟨_, h7⟩
      apply dal; rfl; infer_instance; rfl; (exact zcT); refine freshT fun r8 h8 => ?_; repeat rcases h8 with ⟨_, h8⟩
      refine z95 ?_
      refine sq83 ?_
      refine sq38 ?_
      refine sq10 ?_
      refine puA Tryz.call20 (ref_eqInts o1 o2) rfl pargsT nofT ?_
      refine sq94 ?_
      refine sq64 ?_
      refine pugA rfl rfl Tryz.call129 (fun _ => (ref_eqBody .any .any f1 f2 (by omega) (by omega))) rfl pargsT nofT ?_
      refine z130 ?_
      refine sq77 ?_
      refine sw_cond rfl (fun g12 => ?_) (fun g12 => ?_)
      · have hn2 := not_some (a := decide (o1 = o2)) (b := eqB f1 f2) g12
        have hne : (⟨o1, f1⟩ : Co) ≠ ⟨o2, f2⟩ := by intro e; cases e; unfold eqB at hn2; simp at hn2
        have hE : eqP ⟨ty, im, fn, tb, me, gl, ex, el, co, da⟩ ⟨ty', im', fn', tb', me', gl', ex', el', co', da'⟩ = false := by refine decide_eq_false ?_; rintro ⟨e_el, e_co, e_da⟩; dsimp only at e_co; rw [e_co, hy] at hx; exact hne (Option.some.inj hx).symm
        refine sq7 ?_
        apply aend; exact resT
        · exact ⟨by rw [hE]; rfl, rfl⟩
        · exact stleT
      have hn2 := not_none (a := decide (o1 = o2)) (b := eqB f1 f2) g12
      have hxy : (⟨o1, f1⟩ : Co) = ⟨o2, f2⟩ := by unfold eqB at hn2; simp at hn2; rw [hn2.1, hn2.2]
      refine sq34 ?_
      refine ⟨j + 1, ⟨hlt, by rw [List.take_add_one, List.take_add_one, htco, hx, hy, hxy]⟩, by show co.length - (j + 1) < co.length - j; omega, ?_⟩
      exact sgoT
    · apply hopal; infer_instance; rfl; (exact zcT); refine freshT fun r8 h8 => ?_; repeat rcases h8 with ⟨_, h8⟩
      apply dal; rfl; infer_instance; rfl; (exact zcT); refine freshT fun r7 h7 => ?_; repeat rcases h7 with ⟨_, h7⟩
      refine z95 ?_
      refine sq83 ?_
      refine sq38 ?_
      refine sq10 ?_
      refine puA Tryz.call20 (ref_eqInts o1 o2) rfl pargsT nofT ?_
      refine sq94 ?_
      refine sq64 ?_
      refine pugA rfl rfl Tryz.call129 (fun _ => (ref_eqBody .any .any f1 f2 (by omega) (by omega))) rfl pargsT nofT ?_
      refine z130 ?_
      refine sq77 ?_
      refine sw_cond rfl (fun g12 => ?_) (fun g12 => ?_)
      · have hn2 := not_some (a := decide (o1 = o2)) (b := eqB f1 f2) g12
        have hne : (⟨o1, f1⟩ : Co) ≠ ⟨o2, f2⟩ := by intro e; cases e; unfold eqB at hn2; simp at hn2
        have hE : eqP ⟨ty, im, fn, tb, me, gl, ex, el, co, da⟩ ⟨ty', im', fn', tb', me', gl', ex', el', co', da'⟩ = false := by refine decide_eq_false ?_; rintro ⟨e_el, e_co, e_da⟩; dsimp only at e_co; rw [e_co, hy] at hx; exact hne (Option.some.inj hx).symm
        refine sq7 ?_
        apply aend; exact resT
        · exact ⟨by rw [hE]; rfl, rfl⟩
        · exact stleT
      have hn2 := not_none (a := decide (o1 = o2)) (b := eqB f1 f2) g12
      have hxy : (⟨o1, f1⟩ : Co) = ⟨o2, f2⟩ := by unfold eqB at hn2; simp at hn2; rw [hn2.1, hn2.2]
      refine sq34 ?_
      refine ⟨j + 1, ⟨hlt, by rw [List.take_add_one, List.take_add_one, htco, hx, hy, hxy]⟩, by show co.length - (j + 1) < co.length - j; omega, ?_⟩
      exact sgoT
  have eco : co = co' := by simp at g9; rwa [List.take_of_length_le (by omega), List.take_of_length_le (by omega)] at htco
  refine sq7 ?_
  refine lp (β := Nat) (fun j => ⟨[(2, .ptr r2 0), (3, .ptr r3 0), (9, .int .i64 j)], [(r3, .box 33 (encMd ⟨ty', im', fn', tb', me', gl', ex', el', co', da'⟩)), (r2, .box 33 (encMd ⟨ty, im, fn, tb, me, gl, ex, el, co, da⟩))]⟩) (fun j => j ≤ da.length ∧ da.take j = da'.take j) (fun j => da.length - j) 0 sgoT ⟨Nat.zero_le _, rfl⟩ ?_
  rintro j ⟨hj, htda⟩
  unfold encMd
  dsimp only
  refine sq67 ?_
  refine sw_cond rfl (fun g15 => ?_) (fun g15 => ?_)
  · have hlt : j < da.length := by simp at g15; omega
    have hlt2 : j < da'.length := by omega
    obtain ⟨⟨o1, f1⟩, hx⟩ : ∃ x, da[j]? = some x := ⟨_, List.getElem?_eq_getElem hlt⟩
    obtain ⟨⟨o2, f2⟩, hy⟩ : ∃ x, da'[j]? = some x := ⟨_, List.getElem?_eq_getElem hlt2⟩
    have hb1 := da1 _ (List.mem_of_getElem? hx)
    have hb2 := dc1 _ (List.mem_of_getElem? hy)
    refine ctlT ?_
    refine rgD [(0, true), (1, true), (2, true), (3, true), (4, true), (5, true), (6, true), (7, true), (8, true), (9, true), (10, true), (11, true), (12, true), (13, true), (14, true), (15, true), (16, true), (17, true), (18, true), (19, true), (20, true), (21, true), (22, true), (23, true), (24, true), (25, true), (26, true), (27, true), (28, true), (29, true)] ?_
    refine sq105 ?_
    refine z58 ?_
    refine dlo rfl (lop_move (E rfl)) rfl ?_
    refine z168 ?_
    refine z169 ?_
    refine z156 ?_
    refine z157 ?_
    refine z170 ?_
    refine z158 ?_
    refine z173 ?_
    refine z168 ?_
    refine z169 ?_
    refine z156 ?_
    refine z157 ?_
    refine z170 ?_
    refine z158 ?_
    refine z173 ?_
    refine z174 ?_
    refine z172 ?_
    refine sq102 ?_
    refine sw_cond rfl (fun g17 => ?_) (fun g17 => ?_)
    · have hn2 := not_some (a := o1 == o2) (b := (strU f1).toList == (strU f2).toList) g17
      have hne : (⟨o1, f1⟩ : Da) ≠ ⟨o2, f2⟩ := by intro e; cases e; simp at hn2
      have hE : eqP ⟨ty, im, fn, tb, me, gl, ex, el, co, da⟩ ⟨ty', im', fn', tb', me', gl', ex', el', co', da'⟩ = false := by refine decide_eq_false ?_; rintro ⟨e_el, e_co, e_da⟩; dsimp only at e_da; rw [e_da, hy] at hx; exact hne (Option.some.inj hx).symm
      refine sq7 ?_
      apply aend; exact resT
      · exact ⟨by rw [hE]; rfl, rfl⟩
      · exact stleT
    have hn2 := not_none (a := o1 == o2) (b := (strU f1).toList == (strU f2).toList) g17
    rw [strU_inj hb1 hb2] at hn2
    have hxy : (⟨o1, f1⟩ : Da) = ⟨o2, f2⟩ := by simp at hn2; rw [hn2.1, hn2.2]
    refine sq34 ?_
    refine ⟨j + 1, ⟨hlt, by rw [List.take_add_one, List.take_add_one, htda, hx, hy, hxy]⟩, by show da.length - (j + 1) < da.length - j; omega, ?_⟩
    exact sgoT
  have eda : da = da' := by simp at g15; rwa [List.take_of_length_le (by omega), List.take_of_length_le (by omega)] at htda
  refine sq7 ?_
  have hE : eqP ⟨ty, im, fn, tb, me, gl, ex, el, co, da⟩ ⟨ty', im', fn', tb', me', gl', ex', el', co', da'⟩ = true := decide_eq_true ⟨eel, eco, eda⟩
  apply aend; exact resT
  · exact ⟨by rw [hE]; rfl, rfl⟩
  · exact stleT
theorem ref_eq (a c : Md) (wa : a.W) (wc : c.W) (za : a.Z) (zc : c.Z) : SCall Tryz.prog 16 [.agg (encMd a), .agg (encMd c)] [] (fun r σ => r = .bool (eqM a c) ∧ σ = []) := by
  have hpt := re_parts a c za zc wa.co wc.co wa.da wc.da
  have hHP := eqHP a c
  obtain ⟨⟨z1, z2⟩, z3, z4, z5, z6, -, -, -⟩ := za
  obtain ⟨⟨y1, y2⟩, y3, y4, y5, y6, -, -, -⟩ := zc
  obtain ⟨a1, a2, -, -, -⟩ := wa
  obtain ⟨c1, c2, -, -, -⟩ := wc
  obtain ⟨ty, im, fn, tb, me, gl, ex, el, co, da⟩ := a
  obtain ⟨ty', im', fn', tb', me', gl', ex', el', co', da'⟩ := c
  dsimp only at z1 z2 z3 z4 z5 z6 y1 y2 y3 y4 y5 y6 a1 a2 c1 c2
  refine scall_of (n := 222) (ks := [0, 1, 2, 3, 4, 5, 6, 7, 8, 9, 10, 11, 12, 70, 75, 107, 112, 143, 148, 183, 188, 218]) Tryz.func16 rfl rfl (Nat.le_of_ble_eq_true rfl) ?_
  unfold encMd
  dsimp only
  refine sq3 ?_
  apply bx; rfl; rfl; (exact zcT); rfl; refine freshT fun r2 h2 => ?_; repeat rcases h2 with ⟨_, h2⟩
  apply bx; rfl; rfl; (exact zcT); rfl; refine freshT fun r3 h3 => ?_; repeat rcases h3 with ⟨_, h3⟩
  refine sq45 ?_
  refine z14 ?_
  refine sq10 ?_
  refine z14 ?_
  refine lo (lop_neq (E rfl) (E rfl)) rfl ?_
  refine sq122 ?_
  refine sq64 ?_
  refine z124 ?_
  refine z167 ?_
  refine z113 ?_
  refine sq108 ?_
  refine pugA rfl rfl Tryz.call20 (fun _ => (ref_eqInts fn fn')) rfl pargsT nofT ?_
  refine z130 ?_
  refine z113 ?_
  refine sq122 ?_
  refine sq64 ?_
  refine z124 ?_
  refine z167 ?_
  refine z113 ?_
  refine sq122 ?_
  refine sq64 ?_
  refine z124 ?_
  refine z167 ?_
  refine z113 ?_
  refine sq16 ?_
  refine z140 ?_
  refine z114 ?_
  refine z140 ?_
  refine pugA rfl rfl Tryz.call57 (fun _ => (re_limits tb tb')) rfl pargsT nofT ?_
  refine z130 ?_
  refine z113 ?_
  refine sq16 ?_
  refine z140 ?_
  refine z114 ?_
  refine z140 ?_
  refine pugA rfl rfl Tryz.call57 (fun _ => (re_limits me me')) rfl pargsT nofT ?_
  refine z130 ?_
  refine sq77 ?_
  rw [or7]
  refine sw_cond rfl (fun g1 => ?_) (fun g1 => ?_)
  · have hE : eqM ⟨ty, im, fn, tb, me, gl, ex, el, co, da⟩ ⟨ty', im', fn', tb', me', gl', ex', el', co', da'⟩ = false := by rw [eqHP]; unfold eqH; rw [decide_eq_false]; rfl; rintro ⟨e_ty, e_im, e_fn, e_tb, e_me, e_gl, e_ex⟩; dsimp only at e_ty e_im e_fn e_tb e_me e_gl e_ex; rw [e_ty, e_im, e_fn, e_tb, e_me, e_gl, e_ex] at g1; simp at g1
    refine sq7 ?_
    apply aend; exact resT
    · exact ⟨by rw [hE]; rfl, rfl⟩
    · exact stleT
  simp only [Bool.or_eq_false_iff, bne_eq_false_iff_eq, Bool.not_eq_false', decide_eq_true_eq] at g1
  obtain ⟨⟨⟨⟨⟨⟨m1, m2⟩, efn⟩, m3⟩, m4⟩, etb⟩, eme⟩ := g1
  refine sq7 ?_
  refine lp (β := Nat) (fun j => ⟨[(2, .ptr r2 0), (3, .ptr r3 0), (5, .int .i64 j)], [(r3, .box 33 (encMd ⟨ty', im', fn', tb', me', gl', ex', el', co', da'⟩)), (r2, .box 33 (encMd ⟨ty, im, fn, tb, me, gl, ex, el, co, da⟩))]⟩) (fun j => j ≤ ty.length ∧ ty.take j = ty'.take j) (fun j => ty.length - j) 0 sgoT ⟨Nat.zero_le _, rfl⟩ ?_
  rintro j ⟨hj, htty⟩
  unfold encMd
  dsimp only
  refine sq67 ?_
  refine sw_cond rfl (fun g4 => ?_) (fun g4 => ?_)
  · have hlt : j < ty.length := by simp at g4; omega
    have hlt2 : j < ty'.length := by omega
    obtain ⟨⟨o1, f1⟩, hx⟩ : ∃ x, ty[j]? = some x := ⟨_, List.getElem?_eq_getElem hlt⟩
    obtain ⟨⟨o2, f2⟩, hy⟩ : ∃ x, ty'[j]? = some x := ⟨_, List.getElem?_eq_getElem hlt2⟩
    refine ctlT ?_
    refine rgD [(0, true), (1, true), (2, true), (3, true), (4, true), (5, true), (6, true), (7, true), (8, true), (9, true), (10, true), (11, true), (12, false), (13, true), (14, true), (15, true), (16, true), (17, true), (18, true), (19, true), (20, true), (21, true), (22, true), (23, true), (24, true), (25, true), (26, true), (27, false), (28, true), (29, true)] ?_
    refine sq105 ?_
    refine dpuA rfl Tryz.call20 (ref_eqInts o1 o2) rfl pargsT nofT ?_
    refine dlo rfl (lop_not (E rfl)) rfl ?_
    refine dlo rfl (lop_move (E rfl)) rfl ?_
    refine z168 ?_
    refine z169 ?_
    refine z156 ?_
    refine z157 ?_
    refine z170 ?_
    refine z158 ?_
    refine z168 ?_
    refine z169 ?_
    refine z156 ?_
    refine z157 ?_
    refine z170 ?_
    refine z158 ?_
    refine dpugA rfl rfl rfl Tryz.call20 (fun _ => (ref_eqInts f1 f2)) rfl pargsT nofT ?_
    refine z171 ?_
    refine z172 ?_
    refine sq102 ?_
    refine sw_cond rfl (fun g6 => ?_) (fun g6 => ?_)
    · have hn2 := not_some (a := decide (o1 = o2)) (b := decide (f1 = f2)) g6
      have hne : (⟨o1, f1⟩ : FT) ≠ ⟨o2, f2⟩ := by intro e; cases e; simp at hn2
      have hE : eqM ⟨ty, im, fn, tb, me, gl, ex, el, co, da⟩ ⟨ty', im', fn', tb', me', gl', ex', el', co', da'⟩ = false := by rw [eqHP]; unfold eqH; rw [decide_eq_false]; rfl; rintro ⟨e_ty, e_im, e_fn, e_tb, e_me, e_gl, e_ex⟩; dsimp only at e_ty; rw [e_ty, hy] at hx; exact hne (Option.some.inj hx).symm
      refine sq7 ?_
      apply aend; exact resT
      · exact ⟨by rw [hE]; rfl, rfl⟩
      · exact stleT
    have hn2 := not_none (a := decide (o1 = o2)) (b := decide (f1 = f2)) g6
    have hxy : (⟨o1, f1⟩ : FT) = ⟨o2, f2⟩ := by simp at hn2; rw [hn2.1, hn2.2]
    refine sq34 ?_
    refine ⟨j + 1, ⟨hlt, by rw [List.take_add_one, List.take_add_one, htty, hx, hy, hxy]⟩, by show ty.length - (j + 1) < ty.length - j; omega, ?_⟩
    exact sgoT
  have ety : ty = ty' := by simp at g4; rwa [List.take_of_length_le (by omega), List.take_of_length_le (by omega)] at htty
  refine sq7 ?_
  refine lp (β := Nat) (fun j => ⟨[(2, .ptr r2 0), (3, .ptr r3 0), (6, .int .i64 j)], [(r3, .box 33 (encMd ⟨ty', im', fn', tb', me', gl', ex', el', co', da'⟩)), (r2, .box 33 (encMd ⟨ty, im, fn, tb, me, gl, ex, el, co, da⟩))]⟩) (fun j => j ≤ im.length ∧ im.take j = im'.take j) (fun j => im.length - j) 0 sgoT ⟨Nat.zero_le _, rfl⟩ ?_
  rintro j ⟨hj, htim⟩
  unfold encMd
  dsimp only
  refine sq67 ?_
  refine sw_cond rfl (fun g9 => ?_) (fun g9 => ?_)
  · have hlt : j < im.length := by simp at g9; omega
    have hlt2 : j < im'.length := by omega
    obtain ⟨⟨o1, f1, k1⟩, hx⟩ : ∃ x, im[j]? = some x := ⟨_, List.getElem?_eq_getElem hlt⟩
    obtain ⟨⟨o2, f2, k2⟩, hy⟩ : ∃ x, im'[j]? = some x := ⟨_, List.getElem?_eq_getElem hlt2⟩
    obtain ⟨⟨-, p1⟩, -, p2⟩ := a1 _ (List.mem_of_getElem? hx)
    obtain ⟨⟨-, p3⟩, -, p4⟩ := c1 _ (List.mem_of_getElem? hy)
    dsimp only at p1 p2 p3 p4
    refine ctlT ?_
    refine rgD [(0, true), (1, true), (2, true), (3, true), (4, true), (5, true), (6, true), (7, true), (8, true), (9, true), (14, false), (14, false), (14, false), (14, false)] ?_
    refine sq42 ?_
    refine z126 ?_
    refine sq42 ?_
    refine z126 ?_
    refine rd_fork2 10 11 [(11, false), (12, false), (13, false)] [(10, false), (12, false), (13, false)] (f1 := []) (f2 := []) (by kernel_rfl) rfl rfl ?_ ?_ (.inl rfl) (.inl rfl)
    · apply hopal; infer_instance; rfl; (exact zcT); refine freshT fun r7 h7 => ?_; repeat rcases h7 with ⟨_, h7⟩
      apply dal; rfl; infer_instance; rfl; (exact zcT); refine freshT fun r8 h8 => ?_; repeat rcases h8 with ⟨_, h8⟩
      refine z95 ?_
      refine sq83 ?_
      refine sq38 ?_
      refine sq10 ?_
      refine lo (lop_sneq (E rfl) (E rfl)) rfl ?_
      refine sq108 ?_
      refine z175 ?_
      refine z113 ?_
      refine sq108 ?_
      refine z167 ?_
      refine sq77 ?_
      refine sw_cond rfl (fun g12 => ?_) (fun g12 => ?_)
      · have hn2 := not_some3 (a := (strU o1).toList == (strU o2).toList) (b := (strU f1).toList == (strU f2).toList) (c := k1 == k2) g12
        have hne : (⟨o1, f1, k1⟩ : Im) ≠ ⟨o2, f2, k2⟩ := by intro e; cases e; simp at hn2
        have hE : eqM ⟨ty, im, fn, tb, me, gl, ex, el, co, da⟩ ⟨ty', im', fn', tb', me', gl', ex', el', co', da'⟩ = false := by rw [eqHP]; unfold eqH; rw [decide_eq_false]; rfl; rintro ⟨e_ty, e_im, e_fn, e_tb, e_me, e_gl, e_ex⟩; dsimp only at e_im; rw [e_im, hy] at hx; exact hne (Option.some.inj hx).symm
        refine sq7 ?_
        apply aend; exact resT
        · exact ⟨by rw [hE]; rfl, rfl⟩
        · exact stleT
      have hn2 := not_none3 (a := (strU o1).toList == (strU o2).toList) (b := (strU f1).toList == (strU f2).toList) (c := k1 == k2) g12
      rw [strU_inj p1 p3, strU_inj p2 p4] at hn2
      have hxy : (⟨o1, f1, k1⟩ : Im) = ⟨o2, f2, k2⟩ := by simp at hn2; rw [hn2.1.1, hn2.1.2, hn2.2]
      refine sq34 ?_
      refine ⟨j + 1, ⟨hlt, by rw [List.take_add_one, List.take_add_one, htim, hx, hy, hxy]⟩, by show im.length - (j + 1) < im.length - j; omega, ?_⟩
      exact sgoT
    · apply hopal; infer_instance; rfl; (exact zcT); refine freshT fun r8 h8 => ?_; repeat rcases h8 with ⟨_, h8⟩
      apply dal; rfl; infer_instance; rfl; (exact zcT); refine freshT fun r7 h7 => ?_; repeat rcases h7 with ⟨_, h7⟩
      refine z95 ?_
      refine sq83 ?_
      refine sq38 ?_
      refine sq10 ?_
      refine lo (lop_sneq (E rfl) (E rfl)) rfl ?_
      refine sq108 ?_
      refine z175 ?_
      refine z113 ?_
      refine sq108 ?_
      refine z167 ?_
      refine sq77 ?_
      refine sw_cond rfl (fun g12 => ?_) (fun g12 => ?_)
      · have hn2 := not_some3 (a := (strU o1).toList == (strU o2).toList) (b := (strU f1).toList == (strU f2).toList) (c := k1 == k2) g12
        have hne : (⟨o1, f1, k1⟩ : Im) ≠ ⟨o2, f2, k2⟩ := by intro e; cases e; simp at hn2
        have hE : eqM ⟨ty, im, fn, tb, me, gl, ex, el, co, da⟩ ⟨ty', im', fn', tb', me', gl', ex', el', co', da'⟩ = false := by rw [eqHP]; unfold eqH; rw [decide_eq_false]; rfl; rintro ⟨e_ty, e_im, e_fn, e_tb, e_me, e_gl, e_ex⟩; dsimp only at e_im; rw [e_im, hy] at hx; exact hne (Option.some.inj hx).symm
        refine sq7 ?_
        apply aend; exact resT
        · exact ⟨by rw [hE]; rfl, rfl⟩
        · exact stleT
      have hn2 := not_none3 (a := (strU o1).toList == (strU o2).toList) (b := (strU f1).toList == (strU f2).toList) (c := k1 == k2) g12
      rw [strU_inj p1 p3, strU_inj p2 p4] at hn2
      have hxy : (⟨o1, f1, k1⟩ : Im) = ⟨o2, f2, k2⟩ := by simp at hn2; rw [hn2.1.1, hn2.1.2, hn2.2]
      refine sq34 ?_
      refine ⟨j + 1, ⟨hlt, by rw [List.take_add_one, List.take_add_one, htim, hx, hy, hxy]⟩, by show im.length - (j + 1) < im.length - j; omega, ?_⟩
      exact sgoT
  have eim : im = im' := by simp at g9; rwa [List.take_of_length_le (by omega), List.take_of_length_le (by omega)] at htim
  refine sq7 ?_
  refine lp (β := Nat) (fun j => ⟨[(2, .ptr r2 0), (3, .ptr r3 0), (9, .int .i64 j)], [(r3, .box 33 (encMd ⟨ty', im', fn', tb', me', gl', ex', el', co', da'⟩)), (r2, .box 33 (encMd ⟨ty, im, fn, tb, me, gl, ex, el, co, da⟩))]⟩) (fun j => j ≤ gl.length ∧ gl.take j = gl'.take j) (fun j => gl.length - j) 0 sgoT ⟨Nat.zero_le _, rfl⟩ ?_
  rintro j ⟨hj, htgl⟩
  unfold encMd
  dsimp only
  refine sq67 ?_
  refine sw_cond rfl (fun g15 => ?_) (fun g15 => ?_)
  · have hlt : j < gl.length := by simp at g15; omega
    have hlt2 : j < gl'.length := by omega
    obtain ⟨⟨o1, f1, k1⟩, hx⟩ : ∃ x, gl[j]? = some x := ⟨_, List.getElem?_eq_getElem hlt⟩
    obtain ⟨⟨o2, f2, k2⟩, hy⟩ : ∃ x, gl'[j]? = some x := ⟨_, List.getElem?_eq_getElem hlt2⟩
    refine ctlT ?_
    refine rgD [(0, true), (1, true), (2, true), (3, true), (4, true), (5, true), (6, true), (7, true), (8, true), (9, true), (14, false), (14, false), (14, false), (14, false)] ?_
    refine sq42 ?_
    refine z126 ?_
    refine sq42 ?_
    refine z126 ?_
    refine rd_fork2 10 11 [(11, false), (12, false), (13, false)] [(10, false), (12, false), (13, false)] (f1 := []) (f2 := []) (by kernel_rfl) rfl rfl ?_ ?_ (.inl rfl) (.inl rfl)
    · apply hopal; infer_instance; rfl; (exact zcT); refine freshT fun r10 h10 => ?_; repeat rcases h10 with ⟨_, h10⟩
      apply dal; rfl; infer_instance; rfl; (exact zcT); refine freshT fun r11 h11 => ?_; repeat rcases h11 with ⟨_, h11⟩
      refine z95 ?_
      refine sq83 ?_
      refine sq38 ?_
      refine sq10 ?_
      refine lo (lop_bneq (E rfl) (E rfl)) rfl ?_
      refine sq16 ?_
      refine sq78 ?_
      refine z114 ?_
      refine sq78 ?_
      refine z167 ?_
      refine z113 ?_
      refine sq16 ?_
      refine sq78 ?_
      refine z114 ?_
      refine sq78 ?_
      refine z167 ?_
      refine sq77 ?_
      refine sw_cond rfl (fun g18 => ?_) (fun g18 => ?_)
      · have hn2 := not_some3 (a := o1 == o2) (b := f1 == f2) (c := k1 == k2) g18
        have hne : (⟨o1, f1, k1⟩ : Gl) ≠ ⟨o2, f2, k2⟩ := by intro e; cases e; simp at hn2
        have hE : eqM ⟨ty, im, fn, tb, me, gl, ex, el, co, da⟩ ⟨ty', im', fn', tb', me', gl', ex', el', co', da'⟩ = false := by rw [eqHP]; unfold eqH; rw [decide_eq_false]; rfl; rintro ⟨e_ty, e_im, e_fn, e_tb, e_me, e_gl, e_ex⟩; dsimp only at e_gl; rw [e_gl, hy] at hx; exact hne (Option.some.inj hx).symm
        refine sq7 ?_
        apply aend; exact resT
        · exact ⟨by rw [hE]; rfl, rfl⟩
        · exact stleT
      have hn2 := not_none3 (a := o1 == o2) (b := f1 == f2) (c := k1 == k2) g18
      have hxy : (⟨o1, f1, k1⟩ : Gl) = ⟨o2, f2, k2⟩ := by simp at hn2; rw [hn2.1.1, hn2.1.2, hn2.2]
      refine sq34 ?_
      refine ⟨j + 1, ⟨hlt, by rw [List.take_add_one, List.take_add_one, htgl, hx, hy, hxy]⟩, by show gl.length - (j + 1) < gl.length - j; omega, ?_⟩
      exact sgoT
    · apply hopal; infer_instance; rfl; (exact zcT); refine freshT fun r11 h11 => ?_; repeat rcases h11 with ⟨_, h11⟩
      apply dal; rfl; infer_instance; rfl; (exact zcT); refine freshT fun r10 h10 => ?_; repeat rcases h10 with ⟨_, h10⟩
      refine z95 ?_
      refine sq83 ?_
      refine sq38 ?_
      refine sq10 ?_
      refine lo (lop_bneq (E rfl) (E rfl)) rfl ?_
      refine sq16 ?_
      refine sq78 ?_
      refine z114 ?_
      refine sq78 ?_
      refine z167 ?_
      refine z113 ?_
      refine sq16 ?_
      refine sq78 ?_
      refine z114 ?_
      refine sq78 ?_
      refine z167 ?_
      refine sq77 ?_
      refine sw_cond rfl (fun g18 => ?_) (fun g18 => ?_)
      · have hn2 := not_some3 (a := o1 == o2) (b := f1 == f2) (c := k1 == k2) g18
        have hne : (⟨o1, f1, k1⟩ : Gl) ≠ ⟨o2, f2, k2⟩ := by intro e; cases e; simp at hn2
        have hE : eqM ⟨ty, im, fn, tb, me, gl, ex, el, co, da⟩ ⟨ty', im', fn', tb', me', gl', ex', el', co', da'⟩ = false := by rw [eqHP]; unfold eqH; rw [decide_eq_false]; rfl; rintro ⟨e_ty, e_im, e_fn, e_tb, e_me, e_gl, e_ex⟩; dsimp only at e_gl; rw [e_gl, hy] at hx; exact hne (Option.some.inj hx).symm
        refine sq7 ?_
        apply aend; exact resT
        · exact ⟨by rw [hE]; rfl, rfl⟩
        · exact stleT
      have hn2 := not_none3 (a := o1 == o2) (b := f1 == f2) (c := k1 == k2) g18
      have hxy : (⟨o1, f1, k1⟩ : Gl) = ⟨o2, f2, k2⟩ := by simp at hn2; rw [hn2.1.1, hn2.1.2, hn2.2]
      refine sq34 ?_
      refine ⟨j + 1, ⟨hlt, by rw [List.take_add_one, List.take_add_one, htgl, hx, hy, hxy]⟩, by show gl.length - (j + 1) < gl.length - j; omega, ?_⟩
      exact sgoT
  have egl : gl = gl' := by simp at g15; rwa [List.take_of_length_le (by omega), List.take_of_length_le (by omega)] at htgl
  refine sq7 ?_
  refine lp (β := Nat) (fun j => ⟨[(2, .ptr r2 0), (3, .ptr r3 0), (12, .int .i64 j)], [(r3, .box 33 (encMd ⟨ty', im', fn', tb', me', gl', ex', el', co', da'⟩)), (r2, .box 33 (encMd ⟨ty, im, fn, tb, me, gl, ex, el, co, da⟩))]⟩) (fun j => j ≤ ex.length ∧ ex.take j = ex'.take j) (fun j => ex.length - j) 0 sgoT ⟨Nat.zero_le _, rfl⟩ ?_
  rintro j ⟨hj, htex⟩
  unfold encMd
  dsimp only
  refine sq67 ?_
  refine sw_cond rfl (fun g21 => ?_) (fun g21 => ?_)
  · have hlt : j < ex.length := by simp at g21; omega
    have hlt2 : j < ex'.length := by omega
    obtain ⟨⟨o1, f1⟩, hx⟩ : ∃ x, ex[j]? = some x := ⟨_, List.getElem?_eq_getElem hlt⟩
    obtain ⟨⟨o2, f2⟩, hy⟩ : ∃ x, ex'[j]? = some x := ⟨_, List.getElem?_eq_getElem hlt2⟩
    obtain ⟨-, p1⟩ := a2 _ (List.mem_of_getElem? hx)
    obtain ⟨-, p3⟩ := c2 _ (List.mem_of_getElem? hy)
    dsimp only at p1 p3
    refine ctlT ?_
    refine rgD [(0, true), (1, true), (2, true), (3, true), (4, true), (5, true), (6, true), (7, true), (8, true), (9, true), (10, true), (11, true), (12, true), (13, true), (14, true), (15, true), (16, true), (17, true), (18, true), (19, true), (20, true), (21, true), (22, true), (23, true), (24, true), (25, true), (26, true), (27, true)] ?_
    refine sq105 ?_
    refine z176 ?_
    refine dlo rfl (lop_move (E rfl)) rfl ?_
    refine z168 ?_
    refine z169 ?_
    refine z156 ?_
    refine z157 ?_
    refine z170 ?_
    refine z158 ?_
    refine z168 ?_
    refine z169 ?_
    refine z156 ?_
    refine z157 ?_
    refine z170 ?_
    refine z158 ?_
    refine z177 ?_
    refine z172 ?_
    refine sq102 ?_
    refine sw_cond rfl (fun g23 => ?_) (fun g23 => ?_)
    · have hn2 := not_some (a := (strU o1).toList == (strU o2).toList) (b := f1 == f2) g23
      have hne : (⟨o1, f1⟩ : Ex) ≠ ⟨o2, f2⟩ := by intro e; cases e; simp at hn2
      have hE : eqM ⟨ty, im, fn, tb, me, gl, ex, el, co, da⟩ ⟨ty', im', fn', tb', me', gl', ex', el', co', da'⟩ = false := by rw [eqHP]; unfold eqH; rw [decide_eq_false]; rfl; rintro ⟨e_ty, e_im, e_fn, e_tb, e_me, e_gl, e_ex⟩; dsimp only at e_ex; rw [e_ex, hy] at hx; exact hne (Option.some.inj hx).symm
      refine sq7 ?_
      apply aend; exact resT
      · exact ⟨by rw [hE]; rfl, rfl⟩
      · exact stleT
    have hn2 := not_none (a := (strU o1).toList == (strU o2).toList) (b := f1 == f2) g23
    rw [strU_inj p1 p3] at hn2
    have hxy : (⟨o1, f1⟩ : Ex) = ⟨o2, f2⟩ := by simp at hn2; rw [hn2.1, hn2.2]
    refine sq34 ?_
    refine ⟨j + 1, ⟨hlt, by rw [List.take_add_one, List.take_add_one, htex, hx, hy, hxy]⟩, by show ex.length - (j + 1) < ex.length - j; omega, ?_⟩
    exact sgoT
  have eex : ex = ex' := by simp at g21; rwa [List.take_of_length_le (by omega), List.take_of_length_le (by omega)] at htex
  refine sq74 ?_
  refine z99 ?_
  refine puA Tryz.call58 hpt rfl pargsT nofT ?_
  refine sq2 ?_
  have hE : eqM ⟨ty, im, fn, tb, me, gl, ex, el, co, da⟩ ⟨ty', im', fn', tb', me', gl', ex', el', co', da'⟩ = eqP ⟨ty, im, fn, tb, me, gl, ex, el, co, da⟩ ⟨ty', im', fn', tb', me', gl', ex', el', co', da'⟩ := by rw [hHP]; unfold eqH; rw [decide_eq_true ⟨ety, eim, efn, etb, eme, egl, eex⟩, Bool.true_and]
  apply aend; exact resT
  · exact ⟨by rw [hE]; rfl, rfl⟩
  · exact stleT
end Go.Proofs.YtfihcehdoikfkaaGreat
/-
  The symbolic layer: a row is lent for good within a drawn region. No program is named here.
-/
namespace Go.Proofs.YtfihcehdoikfkaaGreat
open Go.RowKit Go.ChangeShapes Go.WideShapes Go.ChangeAt Go.Deep
section
variable {P : Program} {n : Nat} {ops : Array Oper} {fr : Fr} {σ : Sto} {K : ASt → Prop} {listed : Array Bool} {todo : List (Nat × Bool)} {held : List (Nat × List Nat)}
theorem rd_go {s s' : ASt} (hgo : SGo s s') (h : RD P n ops listed todo held s' K) : RD P n ops listed todo held s K := by
  intro hsel hc M F N a w hr
  obtain ⟨M1, F1, N1, hr1, he1⟩ := hgo M F N n a w hr
  refine wpAnyC_mono (PostN.ext he1) (fun j g hg => ?_) _ _ _ _ (h hsel hc M1 F1 N1 a w hr1)
  rcases hg with hg | ⟨r, hr, hb⟩
  · exact .inl (he1.ff g hg)
  · refine .inr ⟨r, hr, ?_⟩
    unfold blkOf at hb ⊢
    cases hm : M r with
    | none => rw [hm] at hb; cases hb
    | some b => rw [he1.mm r b hm]; rw [hm] at hb; exact hb
theorem dfzv {j q : Nat} {v v' : AV} {e : Ent} {σ' : Sto} (hx : fget fr j = some v) (hd : SDel σ q e σ') (hb : Bor σ [q] v v') (hK : RD P n ops listed todo held ⟨(j, v') :: fr, σ'⟩ K) : RD P n ops listed todo held ⟨fr, σ⟩ K := rd_go (sgo_fzv hx hd hb) hK
end
end Go.Proofs.YtfihcehdoikfkaaGreat
/-
  The statements' Cut: a module that is not too great.
-/
namespace Go.Proofs.YtfihcehdoikfkaaGreat
open Go.RowKit Go.ChangeShapes Go.WideShapes Go.ChangeAt Go.Deep
attribute [local irreducible] SW RS RD AThen ABlock
def outJ {α : Type} (f : α → α) (l : List α) (j : Nat) : List α := (l.take j).map f
theorem outJ_next {α : Type} {f : α → α} {l : List α} {j : Nat} {x : α} (h : l[j]? = some x) : outJ f l (j + 1) = outJ f l j ++ [f x] := by
  unfold outJ; rw [List.take_add_one, h]; simp
theorem outJ_len {α : Type} {f : α → α} {l : List α} {j : Nat} (h : j ≤ l.length) : (outJ f l j).length = j := by unfold outJ; simp; omega
theorem outJ_end {α : Type} {f : α → α} {l : List α} {j n : Nat} (h1 : j ≤ l.length) (h2 : j ≤ n) (h : ¬ (j < l.length ∧ j < n)) : outJ f l j = outJ f l n := by
  have : j = n ∨ j = l.length := by omega
  rcases this with rfl | rfl
  · rfl
  · unfold outJ; rw [List.take_length, List.take_of_length_le h2]
def cutT (x : FT) : FT := ⟨x.pr.take 34, x.rs.take 3⟩
def cutI (x : Im) : Im := ⟨x.mod.take 20, x.nm.take 20, x.ty⟩
def cutX (x : Ex) : Ex := ⟨x.nm.take 20, x.fn⟩
def cutE (x : El) : El := ⟨x.off, x.fs.take 55⟩
def cutC (x : Co) : Co := ⟨x.ls.take 34, bodyN x.bd 120⟩
def cutD (x : Da) : Da := ⟨x.off, x.bs.take 1010⟩
def cutG (x : Gl) : Gl := x
def cutM (m : Md) : Md := ⟨outJ cutT m.ty 18, outJ cutI m.im 18, m.fn.take 18, m.tb, m.me, outJ cutG m.gl 18, outJ cutX m.ex 18, outJ cutE m.el 18, outJ cutC m.co 18, outJ cutD m.da 18⟩
/-- lists as long as any may be -/
structure Md.A (m : Md) : Prop where
  ty : m.ty.length ≤ maxLen ∧ ∀ x ∈ m.ty, x.pr.length ≤ maxLen ∧ x.rs.length ≤ maxLen
  im : m.im.length ≤ maxLen ∧ ∀ x ∈ m.im, x.mod.length ≤ maxLen ∧ x.nm.length ≤ maxLen
  fn : m.fn.length ≤ maxLen
  gl : m.gl.length ≤ maxLen
  ex : m.ex.length ≤ maxLen ∧ ∀ x ∈ m.ex, x.nm.length ≤ maxLen
  el : m.el.length ≤ maxLen ∧ ∀ x ∈ m.el, x.fs.length ≤ maxLen
  co : m.co.length ≤ maxLen ∧ ∀ x ∈ m.co, x.ls.length ≤ maxLen ∧ x.bd.length ≤ maxLen ∧ ∀ i ∈ x.bd, i.l.length ≤ maxLen
  da : m.da.length ≤ maxLen ∧ ∀ x ∈ m.da, x.bs.length ≤ maxLen
theorem ite_lt {a b : Nat} {x : Nat} (h : (if decide ((x : Int) < (a : Nat)) = true then decide ((x : Int) < (b : Nat)) else false) = true) : x < a ∧ x < b := by
  rw [ite_and] at h
  simp only [Bool.and_eq_true, decide_eq_true_eq] at h
  omega
theorem ite_nlt {a b : Nat} {x : Nat} (h : (if decide ((x : Int) < (a : Nat)) = true then decide ((x : Int) < (b : Nat)) else false) = false) : ¬ (x < a ∧ x < b) := by
  rintro ⟨h1, h2⟩
  rw [decide_eq_true (by omega), if_pos rfl, decide_eq_true (by omega)] at h
  cases h
theorem law_nums (l : List Int) (hl : l.length ≤ maxLen) (n : Nat) (hn : n ≤ 1000) : SCall Tryz.prog 21 [.ro 1 (l.map encI) .any, .int .i64 n] [] (fun y σ => ∃ q, y = .own q 0 (l.take n).length ∧ σ = [(q, .arr 3 1 ((l.take n).map encI))]) := by
  unfold maxLen at hl
  refine scall_of (n := 26) (ks := [0, 1, 4, 5, 6, 15]) Tryz.func21 rfl rfl (Nat.le_of_ble_eq_true rfl) ?_
  refine sq97 ?_
  refine sw_virt 5 3 1 (by decide) rfl (by decide) (freshT fun q0 hq0 => ?_); repeat rcases hq0 with ⟨_, hq0⟩
  refine sq57 ?_
  refine lp (β := Nat × Nat) (fun b => ⟨[(0, .ro 1 (l.map encI) .any), (1, .int .i64 n), (5, .own b.1 0 (l.take b.2).length), (6, .int .i64 b.2)], [(b.1, .arr 3 1 ((l.take b.2).map encI))]⟩) (fun b => b.2 ≤ n ∧ b.2 ≤ l.length) (fun b => n - b.2) (q0, 0) sgoT ⟨Nat.zero_le _, Nat.zero_le _⟩ ?_
  rintro ⟨q, j⟩ ⟨hj, hjl⟩
  dsimp only at hj hjl ⊢
  refine sq9 ?_
  refine z14 ?_
  refine sq63 ?_
  refine z109 ?_
  refine z110 ?_
  refine sq86 ?_
  refine sw_cond rfl (fun g3 => ?_) (fun g3 => ?_)
  · obtain ⟨hl1, hl2⟩ := ite_lt g3
    obtain ⟨x, hx⟩ : ∃ x, l[j]? = some x := ⟨_, List.getElem?_eq_getElem hl1⟩
    have hnx : l.take (j + 1) = l.take j ++ [x] := by rw [List.take_add_one, hx]; rfl
    have htl : (l.take j).length = j := by simp; omega
    refine sq9 ?_
    refine sq110 ?_
    refine z1 ?_; refine freshT fun r23 h23 => ?_; repeat rcases h23 with ⟨_, h23⟩
    refine apA ((l.take j ++ [x]).map encI) (l.take j ++ [x]).length ?_
    refine apnT fun r24 h24 => ?_; repeat rcases h24 with ⟨_, h24⟩
    refine sq36 ?_
    refine sq28 ?_
    refine ⟨(r24, j + 1), ⟨hl2, hl1⟩, by show n - (j + 1) < n - j; omega, ?_⟩
    dsimp only
    rw [hnx]
    exact sgoT
  have he : l.take j = l.take n := by have := ite_nlt g3; have : j = n ∨ j = l.length := (by omega); rcases this with rfl | rfl; rfl; rw [List.take_length, List.take_of_length_le hj]
  rw [he]
  refine sq29 ?_
  apply aend; exact resT
  · exact ⟨q, rfl, rfl⟩
  · exact stleT
theorem law_word (s : List Nat) (hl : s.length ≤ maxLen) : SCall Tryz.prog 22 [.str (strU s)] [] (fun y σ => y = .str (strU (s.take 20)) ∧ σ = []) := by
  unfold maxLen at hl
  refine scall_of (n := 9) (ks := [0, 2, 5]) Tryz.func22 rfl rfl (Nat.le_of_ble_eq_true rfl) ?_
  refine sq32 ?_
  refine lo (lop_len_str (E rfl)) rfl ?_
  rw [strU_size]
  refine lo (lop_gtr (E rfl) (E rfl)) rfl ?_
  refine sq5 ?_
  refine sw_cond rfl (fun g1 => ?_) (fun g1 => ?_)
  · have hlt : 20 < s.length := by simp at g1; omega
    have hE : s.take 20 = (s.drop 0).take (20 - 0) := rfl
    refine sq4 ?_
    refine lo (lop_slice_str (h := 20) (E rfl) OB.none (OB.some (E rfl) (fun _ => rfl)) (fun _ => ⟨Nat.zero_le _, by omega⟩)) rfl ?_
    refine sq2 ?_
    apply aend; exact resT
    · exact ⟨by rw [hE]; rfl, rfl⟩
    · exact stleT
  have hE : s.take 20 = s := List.take_of_length_le (by simp at g1; omega)
  refine sq29 ?_
  apply aend; exact resT
  · exact ⟨by rw [hE]; rfl, rfl⟩
  · exact stleT
theorem law_cutM (m : Md) (h : m.A) : SCall Tryz.prog 11 [.agg (encMd m)] [] (fun y σ => y = .agg (encMd (cutM m)) ∧ σ = []) := by
  obtain ⟨⟨kz1, kz2⟩, ⟨kz3, kz4⟩, kz5, kz6, ⟨kz7, kz8⟩, ⟨kz9, kz10⟩, ⟨kz11, kz12⟩, ⟨kz13, kz14⟩⟩ := h
  obtain ⟨ty, im, fn, tb, me, gl, ex, el, co, da⟩ := m
  dsimp only at kz1 kz2 kz3 kz4 kz5 kz6 kz7 kz8 kz9 kz10 kz11 kz12 kz13 kz14
  have ky1 := kz1; have ky3 := kz3; have ky6 := kz6; have ky7 := kz7; have ky9 := kz9; have ky11 := kz11; have ky13 := kz13
  unfold maxLen at ky1 ky3 ky6 ky7 ky9 ky11 ky13
  refine scall_of (n := 231) (ks := [0, 1, 2, 3, 4, 5, 6, 7, 8, 9, 10, 27, 58, 95, 116, 146, 176, 207]) Tryz.func11 rfl rfl (Nat.le_of_ble_eq_true rfl) ?_
  unfold encMd
  dsimp only
  refine sq3 ?_
  apply bx; rfl; rfl; (exact zcT); rfl; refine freshT fun r1 h1 => ?_; repeat rcases h1 with ⟨_, h1⟩
  apply al; rfl; (exact zcT); refine freshT fun r2 h2 => ?_; repeat rcases h2 with ⟨_, h2⟩
  refine sq5 ?_
  refine sja (β := Nat × Nat) (fun b => ⟨[(1, .ptr r1 0), (2, .ptr r2 0), (3, .ptr b.1 0)], [(b.1, .box 33 [.ro 0 [] .nil, .ro 0 [] .nil, .own b.2 0 (fn.take 18).length, .bool tb.has, .int .i64 tb.mn, .int .i64 tb.mx, .bool me.has, .int .i64 me.mn, .int .i64 me.mx, .ro 0 [] .nil, .ro 0 [] .nil, .ro 0 [] .nil, .ro 0 [] .nil, .ro 0 [] .nil]), (b.2, .arr 3 1 ((fn.take 18).map encI)), (r1, .box 33 (encMd ⟨ty, im, fn, tb, me, gl, ex, el, co, da⟩)), (r2, .box 33 [.ro 0 [] .nil, .ro 0 [] .nil, .ro 0 [] .nil, .bool false, .int .i64 0, .int .i64 0, .bool false, .int .i64 0, .int .i64 0, .ro 0 [] .nil, .ro 0 [] .nil, .ro 0 [] .nil, .ro 0 [] .nil, .ro 0 [] .nil])]⟩) (fun b => (Nq b.1 b.2 ∧ Nq b.1 r1 ∧ Nq b.1 r2) ∧ Nq b.2 r1 ∧ Nq b.2 r2) ?_ ?_
  · refine rgD [(0, true), (1, true), (3, true), (4, true), (5, true), (6, true), (10, false), (10, false), (10, false), (10, false)] ?_
    refine sq18 ?_
    refine z73 ?_
    refine z96 ?_
    refine z73 ?_
    refine z96 ?_
    refine rd_fork2 2 8 [(7, true), (8, false), (9, false)] [(2, false), (7, true), (9, false)] (f1 := []) (f2 := []) (by kernel_rfl) rfl rfl ?_ ?_ (.inl rfl) (.inl rfl)
    · refine hop_call_lentA Tryz.call21 (law_nums fn kz5 18 (by decide)) (lt_ble rfl) ?_
      rintro _ σ' ⟨q13, rfl, rfl⟩ h13
      replace h13 := lnewT h13; repeat rcases h13 with ⟨_, h13⟩
      apply rd_sto; exact nflT
      refine z94 ?_
      apply dal; rfl; infer_instance; rfl; (exact zcT); refine freshT fun r3 h3 => ?_; repeat rcases h3 with ⟨_, h3⟩
      refine sq83 ?_
      refine an ?_
      exact ⟨(r3, q13), ⟨⟨by show Nq r3 q13; (exact nqT), by show Nq r3 r1; (exact nqT), by show Nq r3 r2; (exact nqT)⟩, by show Nq q13 r1; (exact nqT), by show Nq q13 r2; (exact nqT)⟩, sgoT⟩
    · apply hopal; infer_instance; rfl; (exact zcT); refine freshT fun r3 h3 => ?_; repeat rcases h3 with ⟨_, h3⟩
      refine dclA rfl Tryz.call21 (law_nums fn kz5 18 (by decide)) rfl bargsT noT ?_
      rintro _ σ' ⟨q13, rfl, rfl⟩ h13
      replace h13 := lnewT h13; repeat rcases h13 with ⟨_, h13⟩
      apply rd_sto; exact nflT
      refine z94 ?_
      refine sq83 ?_
      refine an ?_
      exact ⟨(r3, q13), ⟨⟨by show Nq r3 q13; (exact nqT), by show Nq r3 r1; (exact nqT), by show Nq r3 r2; (exact nqT)⟩, by show Nq q13 r1; (exact nqT), by show Nq q13 r2; (exact nqT)⟩, sgoT⟩
  rintro ⟨r3, q13⟩ ⟨⟨n1, n2, n3⟩, n4, n5⟩
  dsimp only at n1 n2 n3 n4 n5 ⊢
  refine sw_go (sgo_fzb (r := r3) (q := q13) ssetT sdelT (.cons (.refl _) (.cons (.refl _) (.cons (bor_own sgT (by simp)) (.cons (.refl _) (.cons (.refl _) (.cons (.refl _) (.cons (.refl _) (.cons (.refl _) (.cons (.refl _) (.cons (.refl _) (.cons (.refl _) (.cons (.refl _) (.cons (.refl _) (.cons (.refl _) .nil))))))))))))))) ?_
  unfold encMd
  dsimp only
  refine sq7 ?_
  refine sw_virt_box (ks := [0, 1, 2, 3, 4, 5, 6, 7, 8, 9, 10, 27, 58, 95, 116, 146, 176, 207]) r3 0 58 2 (by decide) sgT rfl (by decide) fun qty hqty => ?_
  simp only [fresh_cons, fresh_nil, and_true] at hqty; repeat rcases hqty with ⟨_, hqty⟩
  apply Exists.intro; apply And.intro; (exact ssetT)
  refine lp (β := Nat × Nat) (fun b => ⟨[(1, .ptr r1 0), (2, .ptr r2 0), (3, .ptr r3 0), (4, .int .i64 b.2)], [(r3, .box 33 [.own b.1 0 (outJ cutT ty b.2).length, .ro 0 [] .nil, .ro 1 ((fn.take 18).map encI) .any, .bool tb.has, .int .i64 tb.mn, .int .i64 tb.mx, .bool me.has, .int .i64 me.mn, .int .i64 me.mx, .ro 0 [] .nil, .ro 0 [] .nil, .ro 0 [] .nil, .ro 0 [] .nil, .ro 0 [] .nil]), (b.1, .arr 58 2 ((outJ cutT ty b.2).map encFT)), (r1, .box 33 (encMd ⟨ty, im, fn, tb, me, gl, ex, el, co, da⟩)), (r2, .box 33 [.ro 0 [] .nil, .ro 0 [] .nil, .ro 0 [] .nil, .bool false, .int .i64 0, .int .i64 0, .bool false, .int .i64 0, .int .i64 0, .ro 0 [] .nil, .ro 0 [] .nil, .ro 0 [] .nil, .ro 0 [] .nil, .ro 0 [] .nil])]⟩) (fun b => (b.2 ≤ ty.length ∧ b.2 ≤ 18) ∧ Nq b.1 r1 ∧ Nq b.1 r2 ∧ Nq b.1 r3) (fun b => 18 - b.2) (qty, 0) sgoT ⟨⟨Nat.zero_le _, Nat.zero_le _⟩, by show Nq qty r1; (exact nqT), by show Nq qty r2; (exact nqT), by show Nq qty r3; (exact nqT)⟩ ?_
  rintro ⟨q1, j⟩ ⟨⟨hj1, hj2⟩, e1, e2, e3⟩
  dsimp only at hj1 hj2 e1 e2 e3 ⊢
  unfold encMd
  dsimp only
  refine sq44 ?_
  refine z14 ?_
  refine sq63 ?_
  refine z162 ?_
  refine sq86 ?_
  refine sw_cond rfl (fun g3 => ?_) (fun g3 => ?_)
  · obtain ⟨hl1, hl2⟩ := ite_lt (b := 18) g3
    obtain ⟨⟨pr, rs⟩, hx⟩ : ∃ x, ty[j]? = some x := ⟨_, List.getElem?_eq_getElem hl1⟩
    have hol := outJ_len (f := cutT) hj1
    have hnx := outJ_next (f := cutT) hx
    obtain ⟨hp1, hp2⟩ := kz2 _ (List.mem_of_getElem? hx)
    dsimp only at hp1 hp2
    refine ctlT ?_
    refine rgD [(0, true), (1, true), (2, true), (3, true), (4, true), (5, true), (6, true), (7, true), (9, true), (10, true), (11, true), (12, true), (13, true), (14, true), (8, false), (15, false), (16, true), (17, false), (18, false), (19, true), (20, false)] ?_
    refine sq18 ?_
    refine sq105 ?_
    refine dclA rfl Tryz.call21 (law_nums pr hp1 34 (by decide)) rfl bargsT noT ?_
    rintro _ σ' ⟨q38, rfl, rfl⟩ h38
    replace h38 := lnewT h38; repeat rcases h38 with ⟨_, h38⟩
    apply rd_sto; exact nflT
    refine dfzv (j := 38) rfl sdelT (bor_own sgT (by simp)) ?_
    refine dclA rfl Tryz.call21 (law_nums rs hp2 3 (by decide)) rfl bargsT noT ?_
    rintro _ σ' ⟨q45, rfl, rfl⟩ h45
    replace h45 := lnewT h45; repeat rcases h45 with ⟨_, h45⟩
    apply rd_sto; exact nflT
    refine dfzv (j := 45) rfl sdelT (bor_own sgT (by simp)) ?_
    refine z94 ?_
    refine z97 ?_; refine freshT fun r47 h47 => ?_; repeat rcases h47 with ⟨_, h47⟩
    refine dapA rfl ((outJ cutT ty j ++ [cutT ⟨pr, rs⟩]).map encFT) (outJ cutT ty j ++ [cutT ⟨pr, rs⟩]).length ?_
    refine apnT fun r48 h48 => ?_; repeat rcases h48 with ⟨_, h48⟩
    refine z73 ?_
    refine sq83 ?_
    refine sq34 ?_
    refine ⟨(r48, j + 1), ⟨⟨hl1, hl2⟩, by show Nq r48 r1; (exact nqT), by show Nq r48 r2; (exact nqT), by show Nq r48 r3; (exact nqT)⟩, by show 18 - (j + 1) < 18 - j; omega, ?_⟩
    dsimp only
    rw [hnx]
    exact sgoT
  have he := outJ_end (f := cutT) hj1 hj2 (ite_nlt (b := 18) g3)
  rw [he]
  refine sw_go (sgo_fzb (r := r3) (q := q1) ssetT sdelT (.cons (bor_own sgT (by simp)) (.cons (.refl _) (.cons (.refl _) (.cons (.refl _) (.cons (.refl _) (.cons (.refl _) (.cons (.refl _) (.cons (.refl _) (.cons (.refl _) (.cons (.refl _) (.cons (.refl _) (.cons (.refl _) (.cons (.refl _) (.cons (.refl _) .nil))))))))))))))) ?_
  refine sq7 ?_
  refine sw_virt_box (ks := [0, 1, 2, 3, 4, 5, 6, 7, 8, 9, 10, 27, 58, 95, 116, 146, 176, 207]) r3 1 48 3 (by decide) sgT rfl (by decide) fun qim hqim => ?_
  simp only [fresh_cons, fresh_nil, and_true] at hqim; repeat rcases hqim with ⟨_, hqim⟩
  apply Exists.intro; apply And.intro; (exact ssetT)
  refine lp (β := Nat × Nat) (fun b => ⟨[(1, .ptr r1 0), (2, .ptr r2 0), (3, .ptr r3 0), (5, .int .i64 b.2)], [(r3, .box 33 [.ro 2 ((outJ cutT ty 18).map encFT) .any, .own b.1 0 (outJ cutI im b.2).length, .ro 1 ((fn.take 18).map encI) .any, .bool tb.has, .int .i64 tb.mn, .int .i64 tb.mx, .bool me.has, .int .i64 me.mn, .int .i64 me.mx, .ro 0 [] .nil, .ro 0 [] .nil, .ro 0 [] .nil, .ro 0 [] .nil, .ro 0 [] .nil]), (b.1, .arr 48 3 ((outJ cutI im b.2).map encIm)), (r1, .box 33 (encMd ⟨ty, im, fn, tb, me, gl, ex, el, co, da⟩)), (r2, .box 33 [.ro 0 [] .nil, .ro 0 [] .nil, .ro 0 [] .nil, .bool false, .int .i64 0, .int .i64 0, .bool false, .int .i64 0, .int .i64 0, .ro 0 [] .nil, .ro 0 [] .nil, .ro 0 [] .nil, .ro 0 [] .nil, .ro 0 [] .nil])]⟩) (fun b => (b.2 ≤ im.length ∧ b.2 ≤ 18) ∧ Nq b.1 r1 ∧ Nq b.1 r2 ∧ Nq b.1 r3) (fun b => 18 - b.2) (qim, 0) sgoT ⟨⟨Nat.zero_le _, Nat.zero_le _⟩, by show Nq qim r1; (exact nqT), by show Nq qim r2; (exact nqT), by show Nq qim r3; (exact nqT)⟩ ?_
  rintro ⟨q1, j⟩ ⟨⟨hj1, hj2⟩, e1, e2, e3⟩
  dsimp only at hj1 hj2 e1 e2 e3 ⊢
  unfold encMd
  dsimp only
  refine sq44 ?_
  refine z14 ?_
  refine sq63 ?_
  refine z162 ?_
  refine sq86 ?_
  refine sw_cond rfl (fun g7 => ?_) (fun g7 => ?_)
  · obtain ⟨hl1, hl2⟩ := ite_lt (b := 18) g7
    obtain ⟨⟨md, nm, tt⟩, hx⟩ : ∃ x, im[j]? = some x := ⟨_, List.getElem?_eq_getElem hl1⟩
    have hol := outJ_len (f := cutI) hj1
    have hnx := outJ_next (f := cutI) hx
    obtain ⟨hp1, hp2⟩ := kz4 _ (List.mem_of_getElem? hx)
    dsimp only at hp1 hp2
    refine ctlT ?_
    refine rgD [(0, true), (1, true), (2, true), (3, true), (4, true), (5, true), (6, true), (7, true), (9, true), (10, true), (11, true), (12, true), (13, true), (14, true), (16, true), (17, true), (18, true), (19, true), (20, true), (21, true), (8, false), (15, false), (22, true), (23, false), (24, false), (25, true), (26, false)] ?_
    refine sq18 ?_
    refine sq105 ?_
    refine sq53 ?_
    refine dpuA rfl Tryz.call22 (law_word md hp1) rfl pargsT nofT ?_
    refine dpuA rfl Tryz.call22 (law_word nm hp2) rfl pargsT nofT ?_
    refine z94 ?_
    refine z97 ?_; refine freshT fun r84 h84 => ?_; repeat rcases h84 with ⟨_, h84⟩
    refine dapA rfl ((outJ cutI im j ++ [cutI ⟨md, nm, tt⟩]).map encIm) (outJ cutI im j ++ [cutI ⟨md, nm, tt⟩]).length ?_
    refine apnT fun r85 h85 => ?_; repeat rcases h85 with ⟨_, h85⟩
    refine z73 ?_
    refine sq83 ?_
    refine sq34 ?_
    refine ⟨(r85, j + 1), ⟨⟨hl1, hl2⟩, by show Nq r85 r1; (exact nqT), by show Nq r85 r2; (exact nqT), by show Nq r85 r3; (exact nqT)⟩, by show 18 - (j + 1) < 18 - j; omega, ?_⟩
    dsimp only
    rw [hnx]
    exact sgoT
  have he := outJ_end (f := cutI) hj1 hj2 (ite_nlt (b := 18) g7)
  rw [he]
  refine sw_go (sgo_fzb (r := r3) (q := q1) ssetT sdelT (.cons (.refl _) (.cons (bor_own sgT (by simp)) (.cons (.refl _) (.cons (.refl _) (.cons (.refl _) (.cons (.refl _) (.cons (.refl _) (.cons (.refl _) (.cons (.refl _) (.cons (.refl _) (.cons (.refl _) (.cons (.refl _) (.cons (.refl _) (.cons (.refl _) .nil))))))))))))))) ?_
  refine sq7 ?_
  refine sw_virt_box (ks := [0, 1, 2, 3, 4, 5, 6, 7, 8, 9, 10, 27, 58, 95, 116, 146, 176, 207]) r3 9 66 3 (by decide) sgT rfl (by decide) fun qgl hqgl => ?_
  simp only [fresh_cons, fresh_nil, and_true] at hqgl; repeat rcases hqgl with ⟨_, hqgl⟩
  apply Exists.intro; apply And.intro; (exact ssetT)
  refine lp (β := Nat × Nat) (fun b => ⟨[(1, .ptr r1 0), (2, .ptr r2 0), (3, .ptr r3 0), (6, .int .i64 b.2)], [(r3, .box 33 [.ro 2 ((outJ cutT ty 18).map encFT) .any, .ro 3 ((outJ cutI im 18).map encIm) .any, .ro 1 ((fn.take 18).map encI) .any, .bool tb.has, .int .i64 tb.mn, .int .i64 tb.mx, .bool me.has, .int .i64 me.mn, .int .i64 me.mx, .own b.1 0 (outJ cutG gl b.2).length, .ro 0 [] .nil, .ro 0 [] .nil, .ro 0 [] .nil, .ro 0 [] .nil]), (b.1, .arr 66 3 ((outJ cutG gl b.2).map encGl)), (r1, .box 33 (encMd ⟨ty, im, fn, tb, me, gl, ex, el, co, da⟩)), (r2, .box 33 [.ro 0 [] .nil, .ro 0 [] .nil, .ro 0 [] .nil, .bool false, .int .i64 0, .int .i64 0, .bool false, .int .i64 0, .int .i64 0, .ro 0 [] .nil, .ro 0 [] .nil, .ro 0 [] .nil, .ro 0 [] .nil, .ro 0 [] .nil])]⟩) (fun b => (b.2 ≤ gl.length ∧ b.2 ≤ 18) ∧ Nq b.1 r1 ∧ Nq b.1 r2 ∧ Nq b.1 r3) (fun b => 18 - b.2) (qgl, 0) sgoT ⟨⟨Nat.zero_le _, Nat.zero_le _⟩, by show Nq qgl r1; (exact nqT), by show Nq qgl r2; (exact nqT), by show Nq qgl r3; (exact nqT)⟩ ?_
  rintro ⟨q1, j⟩ ⟨⟨hj1, hj2⟩, e1, e2, e3⟩
  dsimp only at hj1 hj2 e1 e2 e3 ⊢
  unfold encMd
  dsimp only
  refine sq44 ?_
  refine z14 ?_
  refine sq63 ?_
  refine z162 ?_
  refine sq86 ?_
  refine sw_cond rfl (fun g11 => ?_) (fun g11 => ?_)
  · obtain ⟨hl1, hl2⟩ := ite_lt (b := 18) g11
    obtain ⟨x, hx⟩ : ∃ x, gl[j]? = some x := ⟨_, List.getElem?_eq_getElem hl1⟩
    have hol := outJ_len (f := cutG) hj1
    have hnx := outJ_next (f := cutG) hx
    refine ctlT ?_
    refine rgD [(0, true), (1, true), (2, true), (3, true), (4, true), (5, true), (6, true), (7, false), (8, false), (9, true), (10, false)] ?_
    refine sq18 ?_
    refine sq42 ?_
    refine z126 ?_
    refine z97 ?_; refine freshT fun r105 h105 => ?_; repeat rcases h105 with ⟨_, h105⟩
    refine dapA rfl ((outJ cutG gl j ++ [cutG x]).map encGl) (outJ cutG gl j ++ [cutG x]).length ?_
    refine apnT fun r106 h106 => ?_; repeat rcases h106 with ⟨_, h106⟩
    refine z73 ?_
    refine sq83 ?_
    refine sq34 ?_
    refine ⟨(r106, j + 1), ⟨⟨hl1, hl2⟩, by show Nq r106 r1; (exact nqT), by show Nq r106 r2; (exact nqT), by show Nq r106 r3; (exact nqT)⟩, by show 18 - (j + 1) < 18 - j; omega, ?_⟩
    dsimp only
    rw [hnx]
    exact sgoT
  have he := outJ_end (f := cutG) hj1 hj2 (ite_nlt (b := 18) g11)
  rw [he]
  refine sw_go (sgo_fzb (r := r3) (q := q1) ssetT sdelT (.cons (.refl _) (.cons (.refl _) (.cons (.refl _) (.cons (.refl _) (.cons (.refl _) (.cons (.refl _) (.cons (.refl _) (.cons (.refl _) (.cons (.refl _) (.cons (bor_own sgT (by simp)) (.cons (.refl _) (.cons (.refl _) (.cons (.refl _) (.cons (.refl _) .nil))))))))))))))) ?_
  refine sq7 ?_
  refine sw_virt_box (ks := [0, 1, 2, 3, 4, 5, 6, 7, 8, 9, 10, 27, 58, 95, 116, 146, 176, 207]) r3 10 50 2 (by decide) sgT rfl (by decide) fun qex hqex => ?_
  simp only [fresh_cons, fresh_nil, and_true] at hqex; repeat rcases hqex with ⟨_, hqex⟩
  apply Exists.intro; apply And.intro; (exact ssetT)
  refine lp (β := Nat × Nat) (fun b => ⟨[(1, .ptr r1 0), (2, .ptr r2 0), (3, .ptr r3 0), (7, .int .i64 b.2)], [(r3, .box 33 [.ro 2 ((outJ cutT ty 18).map encFT) .any, .ro 3 ((outJ cutI im 18).map encIm) .any, .ro 1 ((fn.take 18).map encI) .any, .bool tb.has, .int .i64 tb.mn, .int .i64 tb.mx, .bool me.has, .int .i64 me.mn, .int .i64 me.mx, .ro 3 ((outJ cutG gl 18).map encGl) .any, .own b.1 0 (outJ cutX ex b.2).length, .ro 0 [] .nil, .ro 0 [] .nil, .ro 0 [] .nil]), (b.1, .arr 50 2 ((outJ cutX ex b.2).map encEx)), (r1, .box 33 (encMd ⟨ty, im, fn, tb, me, gl, ex, el, co, da⟩)), (r2, .box 33 [.ro 0 [] .nil, .ro 0 [] .nil, .ro 0 [] .nil, .bool false, .int .i64 0, .int .i64 0, .bool false, .int .i64 0, .int .i64 0, .ro 0 [] .nil, .ro 0 [] .nil, .ro 0 [] .nil, .ro 0 [] .nil, .ro 0 [] .nil])]⟩) (fun b => (b.2 ≤ ex.length ∧ b.2 ≤ 18) ∧ Nq b.1 r1 ∧ Nq b.1 r2 ∧ Nq b.1 r3) (fun b => 18 - b.2) (qex, 0) sgoT ⟨⟨Nat.zero_le _, Nat.zero_le _⟩, by show Nq qex r1; (exact nqT), by show Nq qex r2; (exact nqT), by show Nq qex r3; (exact nqT)⟩ ?_
  rintro ⟨q1, j⟩ ⟨⟨hj1, hj2⟩, e1, e2, e3⟩
  dsimp only at hj1 hj2 e1 e2 e3 ⊢
  unfold encMd
  dsimp only
  refine sq44 ?_
  refine z14 ?_
  refine sq63 ?_
  refine z162 ?_
  refine sq86 ?_
  refine sw_cond rfl (fun g15 => ?_) (fun g15 => ?_)
  · obtain ⟨hl1, hl2⟩ := ite_lt (b := 18) g15
    obtain ⟨⟨nm, ff⟩, hx⟩ : ∃ x, ex[j]? = some x := ⟨_, List.getElem?_eq_getElem hl1⟩
    have hol := outJ_len (f := cutX) hj1
    have hnx := outJ_next (f := cutX) hx
    have hp1 := kz8 _ (List.mem_of_getElem? hx)
    dsimp only at hp1
    refine ctlT ?_
    refine rgD [(0, true), (1, true), (2, true), (3, true), (4, true), (5, true), (6, true), (7, true), (9, true), (10, true), (11, true), (12, true), (13, true), (14, true), (8, false), (15, true), (16, false), (17, false), (18, true), (19, false)] ?_
    refine sq18 ?_
    refine sq105 ?_
    refine dpuA rfl Tryz.call22 (law_word nm hp1) rfl pargsT nofT ?_
    refine z94 ?_
    refine z97 ?_; refine freshT fun r135 h135 => ?_; repeat rcases h135 with ⟨_, h135⟩
    refine dapA rfl ((outJ cutX ex j ++ [cutX ⟨nm, ff⟩]).map encEx) (outJ cutX ex j ++ [cutX ⟨nm, ff⟩]).length ?_
    refine apnT fun r136 h136 => ?_; repeat rcases h136 with ⟨_, h136⟩
    refine z73 ?_
    refine sq83 ?_
    refine sq34 ?_
    refine ⟨(r136, j + 1), ⟨⟨hl1, hl2⟩, by show Nq r136 r1; (exact nqT), by show Nq r136 r2; (exact nqT), by show Nq r136 r3; (exact nqT)⟩, by show 18 - (j + 1) < 18 - j; omega, ?_⟩
    dsimp only
    rw [hnx]
    exact sgoT
  have he := outJ_end (f := cutX) hj1 hj2 (ite_nlt (b := 18) g15)
  rw [he]
  refine sw_go (sgo_fzb (r := r3) (q := q1) ssetT sdelT (.cons (.refl _) (.cons (.refl _) (.cons (.refl _) (.cons (.refl _) (.cons (.refl _) (.cons (.refl _) (.cons (.refl _) (.cons (.refl _) (.cons (.refl _) (.cons (.refl _) (.cons (bor_own sgT (by simp)) (.cons (.refl _) (.cons (.refl _) (.cons (.refl _) .nil))))))))))))))) ?_
  refine sq7 ?_
  refine sw_virt_box (ks := [0, 1, 2, 3, 4, 5, 6, 7, 8, 9, 10, 27, 58, 95, 116, 146, 176, 207]) r3 11 70 2 (by decide) sgT rfl (by decide) fun qel hqel => ?_
  simp only [fresh_cons, fresh_nil, and_true] at hqel; repeat rcases hqel with ⟨_, hqel⟩
  apply Exists.intro; apply And.intro; (exact ssetT)
  refine lp (β := Nat × Nat) (fun b => ⟨[(1, .ptr r1 0), (2, .ptr r2 0), (3, .ptr r3 0), (8, .int .i64 b.2)], [(r3, .box 33 [.ro 2 ((outJ cutT ty 18).map encFT) .any, .ro 3 ((outJ cutI im 18).map encIm) .any, .ro 1 ((fn.take 18).map encI) .any, .bool tb.has, .int .i64 tb.mn, .int .i64 tb.mx, .bool me.has, .int .i64 me.mn, .int .i64 me.mx, .ro 3 ((outJ cutG gl 18).map encGl) .any, .ro 2 ((outJ cutX ex 18).map encEx) .any, .own b.1 0 (outJ cutE el b.2).length, .ro 0 [] .nil, .ro 0 [] .nil]), (b.1, .arr 70 2 ((outJ cutE el b.2).map encEl)), (r1, .box 33 (encMd ⟨ty, im, fn, tb, me, gl, ex, el, co, da⟩)), (r2, .box 33 [.ro 0 [] .nil, .ro 0 [] .nil, .ro 0 [] .nil, .bool false, .int .i64 0, .int .i64 0, .bool false, .int .i64 0, .int .i64 0, .ro 0 [] .nil, .ro 0 [] .nil, .ro 0 [] .nil, .ro 0 [] .nil, .ro 0 [] .nil])]⟩) (fun b => (b.2 ≤ el.length ∧ b.2 ≤ 18) ∧ Nq b.1 r1 ∧ Nq b.1 r2 ∧ Nq b.1 r3) (fun b => 18 - b.2) (qel, 0) sgoT ⟨⟨Nat.zero_le _, Nat.zero_le _⟩, by show Nq qel r1; (exact nqT), by show Nq qel r2; (exact nqT), by show Nq qel r3; (exact nqT)⟩ ?_
  rintro ⟨q1, j⟩ ⟨⟨hj1, hj2⟩, e1, e2, e3⟩
  dsimp only at hj1 hj2 e1 e2 e3 ⊢
  unfold encMd
  dsimp only
  refine sq44 ?_
  refine z14 ?_
  refine sq63 ?_
  refine z162 ?_
  refine sq86 ?_
  refine sw_cond rfl (fun g19 => ?_) (fun g19 => ?_)
  · obtain ⟨hl1, hl2⟩ := ite_lt (b := 18) g19
    obtain ⟨⟨oo, fs⟩, hx⟩ : ∃ x, el[j]? = some x := ⟨_, List.getElem?_eq_getElem hl1⟩
    have hol := outJ_len (f := cutE) hj1
    have hnx := outJ_next (f := cutE) hx
    have hp1 := kz10 _ (List.mem_of_getElem? hx)
    dsimp only at hp1
    refine ctlT ?_
    refine rgD [(0, true), (1, true), (2, true), (3, true), (4, true), (5, true), (6, true), (7, true), (8, true), (9, true), (10, true), (11, true), (12, true), (13, true), (14, false), (15, true), (16, false), (17, false), (18, true), (19, false)] ?_
    refine sq18 ?_
    refine sq105 ?_
    refine dclA rfl Tryz.call21 (law_nums fs hp1 55 (by decide)) rfl bargsT noT ?_
    rintro _ σ' ⟨q163, rfl, rfl⟩ h163
    replace h163 := lnewT h163; repeat rcases h163 with ⟨_, h163⟩
    apply rd_sto; exact nflT
    refine dfzv (j := 163) rfl sdelT (bor_own sgT (by simp)) ?_
    refine z94 ?_
    refine z97 ?_; refine freshT fun r165 h165 => ?_; repeat rcases h165 with ⟨_, h165⟩
    refine dapA rfl ((outJ cutE el j ++ [cutE ⟨oo, fs⟩]).map encEl) (outJ cutE el j ++ [cutE ⟨oo, fs⟩]).length ?_
    refine apnT fun r166 h166 => ?_; repeat rcases h166 with ⟨_, h166⟩
    refine z73 ?_
    refine sq83 ?_
    refine sq34 ?_
    refine ⟨(r166, j + 1), ⟨⟨hl1, hl2⟩, by show Nq r166 r1; (exact nqT), by show Nq r166 r2; (exact nqT), by show Nq r166 r3; (exact nqT)⟩, by show 18 - (j + 1) < 18 - j; omega, ?_⟩
    dsimp only
    rw [hnx]
    exact sgoT
  have he := outJ_end (f := cutE) hj1 hj2 (ite_nlt (b := 18) g19)
  rw [he]
  refine sw_go (sgo_fzb (r := r3) (q := q1) ssetT sdelT (.cons (.refl _) (.cons (.refl _) (.cons (.refl _) (.cons (.refl _) (.cons (.refl _) (.cons (.refl _) (.cons (.refl _) (.cons (.refl _) (.cons (.refl _) (.cons (.refl _) (.cons (.refl _) (.cons (bor_own sgT (by simp)) (.cons (.refl _) (.cons (.refl _) .nil))))))))))))))) ?_
  refine sq7 ?_
  refine sw_virt_box (ks := [0, 1, 2, 3, 4, 5, 6, 7, 8, 9, 10, 27, 58, 95, 116, 146, 176, 207]) r3 12 54 2 (by decide) sgT rfl (by decide) fun qco hqco => ?_
  simp only [fresh_cons, fresh_nil, and_true] at hqco; repeat rcases hqco with ⟨_, hqco⟩
  apply Exists.intro; apply And.intro; (exact ssetT)
  refine lp (β := Nat × Nat) (fun b => ⟨[(1, .ptr r1 0), (2, .ptr r2 0), (3, .ptr r3 0), (9, .int .i64 b.2)], [(r3, .box 33 [.ro 2 ((outJ cutT ty 18).map encFT) .any, .ro 3 ((outJ cutI im 18).map encIm) .any, .ro 1 ((fn.take 18).map encI) .any, .bool tb.has, .int .i64 tb.mn, .int .i64 tb.mx, .bool me.has, .int .i64 me.mn, .int .i64 me.mx, .ro 3 ((outJ cutG gl 18).map encGl) .any, .ro 2 ((outJ cutX ex 18).map encEx) .any, .ro 2 ((outJ cutE el 18).map encEl) .any, .own b.1 0 (outJ cutC co b.2).length, .ro 0 [] .nil]), (b.1, .arr 54 2 ((outJ cutC co b.2).map encCo)), (r1, .box 33 (encMd ⟨ty, im, fn, tb, me, gl, ex, el, co, da⟩)), (r2, .box 33 [.ro 0 [] .nil, .ro 0 [] .nil, .ro 0 [] .nil, .bool false, .int .i64 0, .int .i64 0, .bool false, .int .i64 0, .int .i64 0, .ro 0 [] .nil, .ro 0 [] .nil, .ro 0 [] .nil, .ro 0 [] .nil, .ro 0 [] .nil])]⟩) (fun b => (b.2 ≤ co.length ∧ b.2 ≤ 18) ∧ Nq b.1 r1 ∧ Nq b.1 r2 ∧ Nq b.1 r3) (fun b => 18 - b.2) (qco, 0) sgoT ⟨⟨Nat.zero_le _, Nat.zero_le _⟩, by show Nq qco r1; (exact nqT), by show Nq qco r2; (exact nqT), by show Nq qco r3; (exact nqT)⟩ ?_
  rintro ⟨q1, j⟩ ⟨⟨hj1, hj2⟩, e1, e2, e3⟩
  dsimp only at hj1 hj2 e1 e2 e3 ⊢
  unfold encMd
  dsimp only
  refine sq44 ?_
  refine z14 ?_
  refine sq63 ?_
  refine z162 ?_
  refine sq86 ?_
  refine sw_cond rfl (fun g23 => ?_) (fun g23 => ?_)
  · obtain ⟨hl1, hl2⟩ := ite_lt (b := 18) g23
    obtain ⟨⟨ls, bd⟩, hx⟩ : ∃ x, co[j]? = some x := ⟨_, List.getElem?_eq_getElem hl1⟩
    have hol := outJ_len (f := cutC) hj1
    have hnx := outJ_next (f := cutC) hx
    obtain ⟨hp1, hp2, hp3⟩ := kz12 _ (List.mem_of_getElem? hx)
    dsimp only at hp1 hp2 hp3
    refine ctlT ?_
    refine rgD [(0, true), (1, true), (2, true), (3, true), (4, true), (5, true), (6, true), (7, true), (9, true), (10, true), (11, true), (12, true), (13, true), (14, true), (8, false), (15, false), (16, true), (17, false), (18, false), (19, true), (20, false)] ?_
    refine sq18 ?_
    refine sq105 ?_
    refine dclA rfl Tryz.call21 (law_nums ls hp1 34 (by decide)) rfl bargsT noT ?_
    rintro _ σ' ⟨q187, rfl, rfl⟩ h187
    replace h187 := lnewT h187; repeat rcases h187 with ⟨_, h187⟩
    apply rd_sto; exact nflT
    refine dfzv (j := 187) rfl sdelT (bor_own sgT (by simp)) ?_
    refine dcw [] rfl Tryz.call23 (law_body bd hp2 hp3 120 (by decide)) rfl argsleT stleT hbtT ?_
    rintro _ σ' ⟨q194, rfl, rfl⟩ h194
    replace h194 := cnewT h194; repeat rcases h194 with ⟨_, h194⟩
    apply rd_sto; exact nflT
    refine dfzv (j := 194) rfl sdelT (bor_own sgT (by simp)) ?_
    refine z94 ?_
    refine z97 ?_; refine freshT fun r196 h196 => ?_; repeat rcases h196 with ⟨_, h196⟩
    refine dapA rfl ((outJ cutC co j ++ [cutC ⟨ls, bd⟩]).map encCo) (outJ cutC co j ++ [cutC ⟨ls, bd⟩]).length ?_
    refine apnT fun r197 h197 => ?_; repeat rcases h197 with ⟨_, h197⟩
    refine z73 ?_
    refine sq83 ?_
    refine sq34 ?_
    refine ⟨(r197, j + 1), ⟨⟨hl1, hl2⟩, by show Nq r197 r1; (exact nqT), by show Nq r197 r2; (exact nqT), by show Nq r197 r3; (exact nqT)⟩, by show 18 - (j + 1) < 18 - j; omega, ?_⟩
    dsimp only
    rw [hnx]
    exact sgoT
  have he := outJ_end (f := cutC) hj1 hj2 (ite_nlt (b := 18) g23)
  rw [he]
  refine sw_go (sgo_fzb (r := r3) (q := q1) ssetT sdelT (.cons (.refl _) (.cons (.refl _) (.cons (.refl _) (.cons (.refl _) (.cons (.refl _) (.cons (.refl _) (.cons (.refl _) (.cons (.refl _) (.cons (.refl _) (.cons (.refl _) (.cons (.refl _) (.cons (.refl _) (.cons (bor_own sgT (by simp)) (.cons (.refl _) .nil))))))))))))))) ?_
  refine sq7 ?_
  refine sw_virt_box (ks := [0, 1, 2, 3, 4, 5, 6, 7, 8, 9, 10, 27, 58, 95, 116, 146, 176, 207]) r3 13 44 2 (by decide) sgT rfl (by decide) fun qda hqda => ?_
  simp only [fresh_cons, fresh_nil, and_true] at hqda; repeat rcases hqda with ⟨_, hqda⟩
  apply Exists.intro; apply And.intro; (exact ssetT)
  refine lp (β := Nat × Nat) (fun b => ⟨[(1, .ptr r1 0), (2, .ptr r2 0), (3, .ptr r3 0), (10, .int .i64 b.2)], [(r3, .box 33 [.ro 2 ((outJ cutT ty 18).map encFT) .any, .ro 3 ((outJ cutI im 18).map encIm) .any, .ro 1 ((fn.take 18).map encI) .any, .bool tb.has, .int .i64 tb.mn, .int .i64 tb.mx, .bool me.has, .int .i64 me.mn, .int .i64 me.mx, .ro 3 ((outJ cutG gl 18).map encGl) .any, .ro 2 ((outJ cutX ex 18).map encEx) .any, .ro 2 ((outJ cutE el 18).map encEl) .any, .ro 2 ((outJ cutC co 18).map encCo) .any, .own b.1 0 (outJ cutD da b.2).length]), (b.1, .arr 44 2 ((outJ cutD da b.2).map encDa)), (r1, .box 33 (encMd ⟨ty, im, fn, tb, me, gl, ex, el, co, da⟩)), (r2, .box 33 [.ro 0 [] .nil, .ro 0 [] .nil, .ro 0 [] .nil, .bool false, .int .i64 0, .int .i64 0, .bool false, .int .i64 0, .int .i64 0, .ro 0 [] .nil, .ro 0 [] .nil, .ro 0 [] .nil, .ro 0 [] .nil, .ro 0 [] .nil])]⟩) (fun b => (b.2 ≤ da.length ∧ b.2 ≤ 18) ∧ Nq b.1 r1 ∧ Nq b.1 r2 ∧ Nq b.1 r3) (fun b => 18 - b.2) (qda, 0) sgoT ⟨⟨Nat.zero_le _, Nat.zero_le _⟩, by show Nq qda r1; (exact nqT), by show Nq qda r2; (exact nqT), by show Nq qda r3; (exact nqT)⟩ ?_
  rintro ⟨q1, j⟩ ⟨⟨hj1, hj2⟩, e1, e2, e3⟩
  dsimp only at hj1 hj2 e1 e2 e3 ⊢
  unfold encMd
  dsimp only
  refine sq44 ?_
  refine z14 ?_
  refine sq63 ?_
  refine z162 ?_
  refine sq86 ?_
  refine sw_cond rfl (fun g27 => ?_) (fun g27 => ?_)
  · obtain ⟨hl1, hl2⟩ := ite_lt (b := 18) g27
    obtain ⟨⟨oo, bs⟩, hx⟩ : ∃ x, da[j]? = some x := ⟨_, List.getElem?_eq_getElem hl1⟩
    have hol := outJ_len (f := cutD) hj1
    have hnx := outJ_next (f := cutD) hx
    have hp1 := kz14 _ (List.mem_of_getElem? hx)
    dsimp only at hp1
    refine ctlT ?_
    refine rgD [(0, true), (1, true), (2, true), (3, true), (4, true), (5, true), (6, true), (7, true), (8, true), (9, true), (10, true), (11, true), (12, true), (13, true), (14, false), (15, false), (16, true), (17, false), (18, false), (19, true), (20, false)] ?_
    refine sq18 ?_
    refine sq105 ?_
    refine dcw [] rfl Tryz.call24 (law_short bs hp1 1010) rfl argsleT stleT hbtT ?_
    rintro _ σ' ⟨rfl, rfl⟩ h224
    apply rd_sto; exact nflT
    refine danA rfl ((bs.take 1010).map encU) (bs.take 1010).length ?_
    refine freshT fun r225 h225 => ?_; repeat rcases h225 with ⟨_, h225⟩
    refine dfzv (j := 225) rfl sdelT (bor_own sgT (by simp)) ?_
    refine z94 ?_
    refine z97 ?_; refine freshT fun r227 h227 => ?_; repeat rcases h227 with ⟨_, h227⟩
    refine dapA rfl ((outJ cutD da j ++ [cutD ⟨oo, bs⟩]).map encDa) (outJ cutD da j ++ [cutD ⟨oo, bs⟩]).length ?_
    refine apnT fun r228 h228 => ?_; repeat rcases h228 with ⟨_, h228⟩
    refine z73 ?_
    refine sq83 ?_
    refine sq34 ?_
    refine ⟨(r228, j + 1), ⟨⟨hl1, hl2⟩, by show Nq r228 r1; (exact nqT), by show Nq r228 r2; (exact nqT), by show Nq r228 r3; (exact nqT)⟩, by show 18 - (j + 1) < 18 - j; omega, ?_⟩
    dsimp only
    rw [hnx]
    exact sgoT
  have he := outJ_end (f := cutD) hj1 hj2 (ite_nlt (b := 18) g27)
  rw [he]
  refine sw_go (sgo_fzb (r := r3) (q := q1) ssetT sdelT (.cons (.refl _) (.cons (.refl _) (.cons (.refl _) (.cons (.refl _) (.cons (.refl _) (.cons (.refl _) (.cons (.refl _) (.cons (.refl _) (.cons (.refl _) (.cons (.refl _) (.cons (.refl _) (.cons (.refl _) (.cons (.refl _) (.cons (bor_own sgT (by simp)) .nil))))))))))))))) ?_
  refine sq74 ?_
  apply stp; rfl; rfl; rfl; rfl; (exact sputT)
  refine sq5 ?_
  apply aend; exact resT
  · exact ⟨rfl, rfl⟩
  · exact stleT
end Go.Proofs.YtfihcehdoikfkaaGreat
/-
  The module that adds two.
-/
namespace Go.Proofs.YtfihcehdoikfkaaGreat
open Go.RowKit Go.ChangeShapes Go.WideShapes Go.ChangeAt Go.Deep
def smallM : Md := ⟨[⟨[1, 1], [1]⟩], [], [0], li0, li0, [], [⟨[97, 100, 100], 0⟩], [], [⟨[], [⟨32, 0, 0, []⟩, ⟨32, 1, 0, []⟩, ⟨106, 0, 0, []⟩]⟩], []⟩
def fun0 : Md := { md0 with fn := [0] }
theorem small_wo : smallM.WO := by
  refine ⟨⟨by simp [smallM], ?_, ?_, by simp [smallM], by simp [smallM]⟩, ?_, by simp [smallM]⟩
  · intro x hx
    obtain rfl : x = ⟨[97, 100, 100], 0⟩ := by simpa [smallM] using hx
    exact ⟨by decide, by decide⟩
  · intro x hx
    obtain rfl : x = ⟨[], [⟨32, 0, 0, []⟩, ⟨32, 1, 0, []⟩, ⟨106, 0, 0, []⟩]⟩ := by simpa [smallM] using hx
    decide
  · intro x hx
    obtain rfl : x = ⟨[], [⟨32, 0, 0, []⟩, ⟨32, 1, 0, []⟩, ⟨106, 0, 0, []⟩]⟩ := by simpa [smallM] using hx
    intro i hi
    simp only [List.mem_cons, List.not_mem_nil, or_false] at hi
    rcases hi with rfl | rfl | rfl <;> exact ⟨by decide, by decide, by decide, by decide, by decide⟩
theorem small_a : mayA smallM = true := by decide
theorem small_w : (writB smallM).length ≤ 8000 ∧ 8 < (writB smallM).length := by
  have h1 : putN ⟨32, 0, 0, []⟩ = [32, 0] := by
    have f : formN 32 = 3 := by decide
    simp [putN, putT, f, uB_lo]
  have h2 : putN ⟨32, 1, 0, []⟩ = [32, 1] := by
    have f : formN 32 = 3 := by decide
    simp [putN, putT, f, uB_lo]
  have h3 : putN ⟨106, 0, 0, []⟩ = [106] := by
    have f : formN 106 = 1 := by decide
    simp [putN, putT, f]
  have : (writB smallM).length = 41 := by
    simp [writB, smallM, headB, secB, vecB, uB_lo, ftB, kB, numB, exB, txtB, codB, runsN, putL, h1, h2, h3, oneL, li0]
  omega
theorem small_may : mayM smallM = true := by
  rw [mayM_eq, small_a, Bool.true_and]
  exact decide_eq_true small_w.1
theorem enc_small : encB smallM = writB smallM := if_pos small_may
theorem dec_small : decM (encB smallM) = (smallM, 0) := by rw [enc_small]; exact dec_back small_may small_wo.ok
theorem small_lt : ∀ c ∈ encB smallM, c < 256 := encB_lt small_wo
theorem md0_may : mayM md0 = true := by
  have h : (writB md0).length = 8 := by simp [writB, md0, headB, secB, oneL, li0]
  rw [mayM_eq, show mayA md0 = true by decide, Bool.true_and, h]
  decide
theorem enc_md0 : (encB md0).length = 8 := by
  unfold encB
  rw [if_pos md0_may]
  simp [writB, md0, headB, secB, oneL, li0]
theorem fun0_wo : fun0.WO := ⟨⟨by simp [fun0, md0], by simp [fun0, md0], by simp [fun0, md0], by simp [fun0, md0], by simp [fun0, md0]⟩, by simp [fun0, md0], by simp [fun0, md0]⟩
theorem fun0_may : mayM fun0 = false := by rw [mayM_eq, show mayA fun0 = false by decide]; rfl
theorem dec_x : decM [120] = (md0, 1) := by
  unfold decM
  rw [if_neg (by decide), if_pos (by decide)]
theorem small_ne : eqM smallM md0 = false := by decide
end Go.Proofs.YtfihcehdoikfkaaGreat
/-
  The module that adds two goes to bytes and back.
-/
namespace Go.Proofs.YtfihcehdoikfkaaGreat
open Go.RowKit Go.ChangeShapes Go.WideShapes Go.ChangeAt Go.Deep
attribute [local irreducible] SW RS RD AThen ABlock
/-- an instruction without a list -/
def encNl (x : Ins) : List AV := [.int .i64 x.op, .int .i64 x.a, .int .i64 x.b, .ro 0 [] .nil]
theorem vle_nl {l : List Ins} (h : ∀ x ∈ l, x.l = []) {k : Rk} : VLe (.ro 4 (l.map encNl) k) (.ro 4 (l.map (iv .any)) k) := by
  refine VLe.ro (by simp) ?_ ?_
  · intro x hx
    simp only [List.mem_map] at hx
    obtain ⟨o, -, rfl⟩ := hx
    exact ⟨rfl, by simp [iv, AV.cell]⟩
  · intro i e e' h1 h2
    simp only [List.getElem?_map, Option.map_eq_some_iff] at h1 h2
    obtain ⟨o, ho, rfl⟩ := h1
    obtain ⟨o', ho', rfl⟩ := h2
    obtain rfl := Option.some.inj (ho.symm.trans ho')
    have hl := h o (List.mem_of_getElem? ho)
    refine ⟨rfl, fun j a a' ha ha' => ?_⟩
    unfold iv at ha'
    rw [hl] at ha'
    match j with
    | 0 => cases ha; cases ha'; exact VLe.refl _
    | 1 => cases ha; cases ha'; exact VLe.refl _
    | 2 => cases ha; cases ha'; exact VLe.refl _
    | 3 => cases ha; cases ha'; exact VLe.empty
    | _ + 4 => cases ha
theorem vle_nco {es : List (List AV)} : VLe (.agg [.ro 0 [] .nil, .ro 4 es .any]) (.agg [.ro 1 ([].map encI) .any, .ro 4 es .any]) := by
  refine VLe.agg rfl fun j a a' ha ha' => ?_
  match j with
  | 0 => cases ha; cases ha'; exact VLe.empty
  | 1 => cases ha; cases ha'; exact VLe.refl _
  | _ + 2 => cases ha
theorem vle_md0 : VLe (.agg [.ro 0 [] .nil, .ro 0 [] .nil, .ro 0 [] .nil, .bool false, .int .i64 0, .int .i64 0, .bool false, .int .i64 0, .int .i64 0, .ro 0 [] .nil, .ro 0 [] .nil, .ro 0 [] .nil, .ro 0 [] .nil, .ro 0 [] .nil]) (.agg (encMd md0)) := by
  refine VLe.agg rfl fun j a a' ha ha' => ?_
  match j with
  | 0 => cases ha; cases ha'; exact VLe.empty
  | 1 => cases ha; cases ha'; exact VLe.empty
  | 2 => cases ha; cases ha'; exact VLe.empty
  | 3 => cases ha; cases ha'; exact VLe.refl _
  | 4 => cases ha; cases ha'; exact VLe.refl _
  | 5 => cases ha; cases ha'; exact VLe.refl _
  | 6 => cases ha; cases ha'; exact VLe.refl _
  | 7 => cases ha; cases ha'; exact VLe.refl _
  | 8 => cases ha; cases ha'; exact VLe.refl _
  | 9 => cases ha; cases ha'; exact VLe.empty
  | 10 => cases ha; cases ha'; exact VLe.empty
  | 11 => cases ha; cases ha'; exact VLe.empty
  | 12 => cases ha; cases ha'; exact VLe.empty
  | 13 => cases ha; cases ha'; exact VLe.empty
  | _ + 14 => cases ha
theorem vle_fun0 : VLe (.agg [.ro 0 [] .nil, .ro 0 [] .nil, .ro 1 [[.int .i64 0]] .any, .bool false, .int .i64 0, .int .i64 0, .bool false, .int .i64 0, .int .i64 0, .ro 0 [] .nil, .ro 0 [] .nil, .ro 0 [] .nil, .ro 0 [] .nil, .ro 0 [] .nil]) (.agg (encMd fun0)) := by
  refine VLe.agg rfl fun j a a' ha ha' => ?_
  match j with
  | 0 => cases ha; cases ha'; exact VLe.empty
  | 1 => cases ha; cases ha'; exact VLe.empty
  | 2 => cases ha; cases ha'; exact VLe.refl _
  | 3 => cases ha; cases ha'; exact VLe.refl _
  | 4 => cases ha; cases ha'; exact VLe.refl _
  | 5 => cases ha; cases ha'; exact VLe.refl _
  | 6 => cases ha; cases ha'; exact VLe.refl _
  | 7 => cases ha; cases ha'; exact VLe.refl _
  | 8 => cases ha; cases ha'; exact VLe.refl _
  | 9 => cases ha; cases ha'; exact VLe.empty
  | 10 => cases ha; cases ha'; exact VLe.empty
  | 11 => cases ha; cases ha'; exact VLe.empty
  | 12 => cases ha; cases ha'; exact VLe.empty
  | 13 => cases ha; cases ha'; exact VLe.empty
  | _ + 14 => cases ha
def smallIs : List Ins := [⟨32, 0, 0, []⟩, ⟨32, 1, 0, []⟩, ⟨106, 0, 0, []⟩]
theorem law_small : SCall Tryz.prog 19 [] [] (fun y σ => y = .agg (encMd smallM) ∧ σ = []) := by
  refine scall_of (n := 15) (ks := [0]) Tryz.func19 rfl rfl (Nat.le_of_ble_eq_true rfl) ?_
  refine sq3 ?_
  apply al; rfl; (exact zcT); refine freshT fun r0 h0 => ?_; repeat rcases h0 with ⟨_, h0⟩
  refine leT ?_
  refine sq3 ?_
  refine z1 ?_; refine freshT fun r1 h1 => ?_; repeat rcases h1 with ⟨_, h1⟩
  refine fzv (j := 1) rfl sdelT (bor_own sgT (by simp)) ?_
  refine z1 ?_; refine freshT fun r2 h2 => ?_; repeat rcases h2 with ⟨_, h2⟩
  refine fzv (j := 2) rfl sdelT (bor_own sgT (by simp)) ?_
  refine z93 ?_
  refine z1 ?_; refine freshT fun r4 h4 => ?_; repeat rcases h4 with ⟨_, h4⟩
  refine fzv (j := 4) rfl sdelT (bor_own sgT (by simp)) ?_
  refine z1 ?_; refine freshT fun r5 h5 => ?_; repeat rcases h5 with ⟨_, h5⟩
  refine fzv (j := 5) rfl sdelT (bor_own sgT (by simp)) ?_
  refine z93 ?_
  refine z1 ?_; refine freshT fun r7 h7 => ?_; repeat rcases h7 with ⟨_, h7⟩
  refine fzv (j := 7) rfl sdelT (bor_own sgT (by simp)) ?_
  refine z93 ?_
  refine z93 ?_
  refine z93 ?_
  refine z1 ?_; refine freshT fun r11 h11 => ?_; repeat rcases h11 with ⟨_, h11⟩
  refine fzv (j := 11) rfl sdelT (bor_own sgT (by simp)) ?_
  refine rs_go (sgo_vle (j := 11) rfl (vle_nl (l := smallIs) (by simp [smallIs]))) ?_
  refine z93 ?_
  refine rs_go (sgo_vle (j := 12) rfl vle_nco) ?_
  refine z1 ?_; refine freshT fun r13 h13 => ?_; repeat rcases h13 with ⟨_, h13⟩
  refine fzv (j := 13) rfl sdelT (bor_own sgT (by simp)) ?_
  refine z93 ?_
  apply stp; rfl; rfl; rfl; rfl; (exact sputT)
  refine leT ?_
  refine an ?_
  refine sw_go (sgo_leb (r := r0) (cs' := encMd smallM) ssetT (.cons (.refl _) (.cons (.le VLe.empty) (.cons (.refl _) (.cons (.refl _) (.cons (.refl _) (.cons (.refl _) (.cons (.refl _) (.cons (.refl _) (.cons (.refl _) (.cons (.le VLe.empty) (.cons (.refl _) (.cons (.le VLe.empty) (.cons (.refl _) (.cons (.le VLe.empty) .nil))))))))))))))) ?_
  refine ctlT ?_
  apply aend; exact resT
  · exact ⟨rfl, rfl⟩
  · exact stleT
/-
  What all statements of modules begin with.
-/
theorem small_len : (encB smallM).length ≤ 8000 ∧ 8 < (encB smallM).length := by rw [enc_small]; exact small_w
theorem law_begun7 : SCall Tryz.prog 10 [] [] (fun y σ => y = .bool true ∧ σ = []) := by
  have w1 := wasm_decode (encB smallM) (by have := small_len.1; omega) small_lt
  rw [dec_small] at w1
  have w2 := wasm_decode [120] (by decide) (by decide)
  rw [dec_x] at w2
  have w3 := wasm_may smallM small_wo
  rw [small_may] at w3
  have w4 := wasm_eq smallM smallM small_wo.w small_wo.w
  rw [eqM_self] at w4
  have w5 := wasm_eq smallM md0 small_wo.w wo0.w
  rw [small_ne] at w5
  have w6 := wasm_encode md0 wo0
  have w7 := wasm_may fun0 fun0_wo
  rw [fun0_may] at w7
  have h8 := small_len.2
  refine scall_of (n := 59) (ks := [0, 1, 2, 3, 4, 6]) Tryz.func10 rfl rfl (Nat.le_of_ble_eq_true rfl) ?_
  refine sq7 ?_
  refine rgT ?_
  refine cw [] Tryz.call19 law_small rfl argsleT stleT ?_
  rintro _ σ' ⟨rfl, rfl⟩ h7
  apply rs_sto; exact nflT
  apply al; rfl; (exact zcT); refine freshT fun r1 h1 => ?_; repeat rcases h1 with ⟨_, h1⟩
  apply stp; rfl; rfl; rfl; rfl; (exact sputT)
  refine leT ?_
  refine sq74 ?_
  refine clA Tryz.call13 (wasm_encode smallM small_wo) rfl bargsT noT ?_
  rintro _ σ' ⟨q9, rfl, rfl⟩ h9
  replace h9 := lnewT h9; repeat rcases h9 with ⟨_, h9⟩
  apply rs_sto; exact nflT
  refine fzv (j := 9) rfl sdelT (bor_own sgT (by simp)) ?_
  refine sq36 ?_
  refine cw [] Tryz.call17 w1 rfl argsleT stleT ?_
  rintro _ σ' ⟨rfl, rfl⟩ h12
  apply rs_sto; exact nflT
  refine sq41 ?_
  apply al; rfl; (exact zcT); refine freshT fun r3 h3 => ?_; repeat rcases h3 with ⟨_, h3⟩
  apply stp; rfl; rfl; rfl; rfl; (exact sputT)
  refine sq23 ?_
  refine z1 ?_; refine freshT fun r16 h16 => ?_; repeat rcases h16 with ⟨_, h16⟩
  refine cvm (len := 1) ssetT (by decide) ?_
  refine fzv (j := 17) rfl sdelT (bor_own sgT (by simp)) ?_
  refine cw [] Tryz.call17 w2 rfl argsleT stleT ?_
  rintro _ σ' ⟨rfl, rfl⟩ h18
  apply rs_sto; exact nflT
  refine sq41 ?_
  apply al; rfl; (exact zcT); refine freshT fun r5 h5 => ?_; repeat rcases h5 with ⟨_, h5⟩
  apply stp; rfl; rfl; rfl; rfl; (exact sputT)
  refine sq23 ?_
  refine z99 ?_
  refine puA Tryz.call14 w3 rfl pargsT nofT ?_
  refine sq8 ?_
  refine z124 ?_
  refine z125 ?_
  rw [show decide ((8 : Int) < ((encB smallM).length : Int)) = true from decide_eq_true (by omega)]
  refine sq70 ?_
  refine z112 ?_
  rw [show ((0 : Int) == 0) = true from rfl]
  refine z68 ?_
  refine sq61 ?_
  refine z139 ?_
  refine gy rfl rfl ?_
  refine puA Tryz.call15 w4 rfl pargsT nofT ?_
  refine z68 ?_
  refine sq61 ?_
  refine z178 ?_
  refine rs_go (sgo_vle (j := 39) rfl vle_md0) ?_
  refine gy rfl rfl ?_
  refine puA Tryz.call15 w5 rfl pargsT nofT ?_
  refine z130 ?_
  rw [show (!false) = true from rfl]
  refine sq70 ?_
  refine z112 ?_
  rw [show ((1 : Int) == 1) = true from rfl]
  refine z68 ?_
  refine lo (lop_move (E rfl)) rfl ?_
  refine z178 ?_
  refine rs_go (sgo_vle (j := 48) rfl vle_md0) ?_
  refine gy rfl rfl ?_
  refine clA Tryz.call13 w6 rfl bargsT noT ?_
  rintro _ σ' ⟨q49, rfl, rfl⟩ h49
  replace h49 := lnewT h49; repeat rcases h49 with ⟨_, h49⟩
  apply rs_sto; exact nflT
  refine z124 ?_
  refine z112 ?_
  rw [enc_md0, show (((8 : Nat) : Int) == 8) = true from rfl]
  refine z68 ?_
  refine lo (lop_move (E rfl)) rfl ?_
  refine z179 ?_; refine freshT fun r54 h54 => ?_; repeat rcases h54 with ⟨_, h54⟩
  refine fzv (j := 54) rfl sdelT (bor_own sgT (by simp)) ?_
  refine z178 ?_
  refine rs_go (sgo_vle (j := 55) rfl vle_fun0) ?_
  refine gy rfl rfl ?_
  refine puA Tryz.call14 w7 rfl pargsT nofT ?_
  refine sq76 ?_
  apply aend; exact resT
  · exact ⟨rfl, rfl⟩
  · exact stleT
end Go.Proofs.YtfihcehdoikfkaaGreat
/-
  How modules are read.
-/
namespace Go.Proofs.YtfihcehdoikfkaaGreat
open Go.RowKit Go.ChangeShapes Go.WideShapes Go.ChangeAt Go.Deep
theorem rda_mapP {P : Program} {t : TypeId} {α β : Type} {sz : Nat} {en : α → List AV} {ok : α → Prop} (h : RdA P t α sz en ok) (f : α → β) (en2 : β → List AV) (ok2 : β → Prop) (hsh : ∀ b, (en2 b).length = sz ∧ ∀ x ∈ en2 b, x.cell = true) (he : ∀ a, ok a → en2 (f a) = en a) (hk : ∀ a, ok a → ok2 (f a)) : RdA P t β sz en2 ok2 :=
  ⟨h.cells, hsh, fun H enc W fuel cs x hx => by
    obtain ⟨a, h1, h2, h3⟩ := h.read H enc W fuel cs x hx
    exact ⟨f a, hk a h1, h2, by rw [he a h1]; exact h3⟩⟩
def StrL (s : List Nat) : Prop := s.length ≤ maxLen ∧ ∀ c ∈ s, c < 256
theorem strU_of (b : ByteArray) : strU (b.data.toList.map UInt8.toNat) = b := by
  cases b with
  | mk d =>
    unfold strU
    congr 1
    rw [List.map_map, show UInt8.ofNat ∘ UInt8.toNat = id from funext fun u => UInt8.ofNat_toNat, List.map_id]
theorem rda_txt : RdA Tryz.prog 9 (List Nat) 1 (fun s => [.str (strU s)]) StrL :=
  rda_mapP (rda_str (t := 9) rfl) (fun b : ByteArray => b.data.toList.map UInt8.toNat) _ _ (fun b => ⟨rfl, by simp [AV.cell]⟩) (fun b _ => by rw [strU_of]) (fun b hb => ⟨by rw [List.length_map, Array.length_toList]; exact hb, fun c hc => by
    obtain ⟨u, -, rfl⟩ := List.mem_map.1 hc
    exact u.toNat_lt⟩)
theorem rda_bys : RdA Tryz.prog 37 (List Nat) 1 (fun l => [.ro 1 (l.map encU) .any]) StrL :=
  rda_mapP rda_u8s (fun l : List Int => l.map Int.toNat) _ _ (fun b => ⟨rfl, by simp [AV.cell]⟩) (fun l hl => by rw [encU8_nat fun a ha => bd_u8 (hl.2 a ha)]) (fun l hl => ⟨by simpa using hl.1, fun c hc => by
    obtain ⟨a, ha, rfl⟩ := List.mem_map.1 hc
    have := bd_u8 (hl.2 a ha)
    omega⟩)
theorem rda_b : RdA Tryz.prog 4 Bool 1 (fun b => [.bool b]) (fun _ => True) := rda_bool (t := 4) rfl
abbrev IntsL (l : List Int) : Prop := l.length ≤ maxLen ∧ ∀ a ∈ l, I64 a
abbrev InssL (l : List Ins) : Prop := l.length ≤ maxLen ∧ ∀ x ∈ l, x.Wf
theorem rda_val00 : RdA Tryz.prog 64 (Int × Int) 2 (fun p : Int × Int => (fun n : Int => [.int .i64 n]) p.1 ++ (fun n : Int => [.int .i64 n]) p.2) (fun p : Int × Int => I64 p.1 ∧ I64 p.2) := by
  refine rda_struct ?_
  refine rdf_cons (f := ⟨_, _, _, _, _, _, _⟩) (sz' := 1) (en := (fun n : Int => [.int .i64 n])) (ok := I64) (en' := (fun n : Int => [.int .i64 n])) (ok' := I64) rda_i rfl ?_
  exact rdf_one rda_i64 rfl
theorem rda_val : RdA Tryz.prog 64 (Int × Int) 2 (fun p : Int × Int => [.int .i64 p.1, .int .i64 p.2]) (fun p : Int × Int => I64 p.1 ∧ I64 p.2) := rda_val00
def FT.R (x : FT) : Prop := IntsL x.pr ∧ IntsL x.rs
def Im.R (x : Im) : Prop := StrL x.mod ∧ StrL x.nm ∧ I64 x.ty
def Gl.R (x : Gl) : Prop := I64 x.kd ∧ I64 x.n
def Ex.R (x : Ex) : Prop := StrL x.nm ∧ I64 x.fn
def El.R (x : El) : Prop := I64 x.off ∧ IntsL x.fs
def Co.R (x : Co) : Prop := IntsL x.ls ∧ InssL x.bd
def Da.R (x : Da) : Prop := I64 x.off ∧ StrL x.bs
def Li.R (x : Li) : Prop := I64 x.mn ∧ I64 x.mx
theorem rda_ft0 : RdA Tryz.prog 58 ((List Int) × (List Int)) 2 (fun p : (List Int) × (List Int) => (fun l : List Int => [.ro 1 (l.map encI) .any]) p.1 ++ (fun l : List Int => [.ro 1 (l.map encI) .any]) p.2) (fun p : (List Int) × (List Int) => IntsL p.1 ∧ IntsL p.2) := by
  refine rda_struct ?_
  refine rdf_cons (f := ⟨_, _, _, _, _, _, _⟩) (sz' := 1) (en := (fun l : List Int => [.ro 1 (l.map encI) .any])) (ok := IntsL) (en' := (fun l : List Int => [.ro 1 (l.map encI) .any])) (ok' := IntsL) rda_ints rfl ?_
  exact rdf_one rda_ints rfl
theorem rda_ft : RdA Tryz.prog 58 FT 2 encFT FT.R := by
  refine rda_mapP rda_ft0 (fun p : (List Int) × (List Int) => ⟨p.1, p.2⟩) _ _ (fun b => ⟨rfl, by simp [encFT, AV.cell]⟩) (fun a _ => rfl) (fun p hp => ?_)
  exact ⟨hp.1, hp.2⟩
theorem rda_im0 : RdA Tryz.prog 48 ((List Nat) × (List Nat) × Int) 3 (fun p : (List Nat) × (List Nat) × Int => (fun s : List Nat => [.str (strU s)]) p.1 ++ (fun p : (List Nat) × Int => (fun s : List Nat => [.str (strU s)]) p.1 ++ (fun n : Int => [.int .i64 n]) p.2) p.2) (fun p : (List Nat) × (List Nat) × Int => StrL p.1 ∧ (fun p : (List Nat) × Int => StrL p.1 ∧ I64 p.2) p.2) := by
  refine rda_struct ?_
  refine rdf_cons (f := ⟨_, _, _, _, _, _, _⟩) (sz' := 2) (en := (fun s : List Nat => [.str (strU s)])) (ok := StrL) (en' := (fun p : (List Nat) × Int => (fun s : List Nat => [.str (strU s)]) p.1 ++ (fun n : Int => [.int .i64 n]) p.2)) (ok' := (fun p : (List Nat) × Int => StrL p.1 ∧ I64 p.2)) rda_txt rfl ?_
  refine rdf_cons (f := ⟨_, _, _, _, _, _, _⟩) (sz' := 1) (en := (fun s : List Nat => [.str (strU s)])) (ok := StrL) (en' := (fun n : Int => [.int .i64 n])) (ok' := I64) rda_txt rfl ?_
  exact rdf_one rda_i rfl
theorem rda_im : RdA Tryz.prog 48 Im 3 encIm Im.R := by
  refine rda_mapP rda_im0 (fun p : (List Nat) × (List Nat) × Int => ⟨p.1, p.2.1, p.2.2⟩) _ _ (fun b => ⟨rfl, by simp [encIm, AV.cell]⟩) (fun a _ => rfl) (fun p hp => ?_)
  exact ⟨hp.1, hp.2.1, hp.2.2⟩
theorem rda_gl0 : RdA Tryz.prog 66 (Bool × (Int × Int)) 3 (fun p : Bool × (Int × Int) => (fun b : Bool => [.bool b]) p.1 ++ (fun p : Int × Int => [.int .i64 p.1, .int .i64 p.2]) p.2) (fun p : Bool × (Int × Int) => (fun _ => True) p.1 ∧ (fun p : Int × Int => I64 p.1 ∧ I64 p.2) p.2) := by
  refine rda_struct ?_
  refine rdf_cons (f := ⟨_, _, _, _, _, _, _⟩) (sz' := 2) (en := (fun b : Bool => [.bool b])) (ok := (fun _ => True)) (en' := (fun p : Int × Int => [.int .i64 p.1, .int .i64 p.2])) (ok' := (fun p : Int × Int => I64 p.1 ∧ I64 p.2)) rda_b rfl ?_
  exact rdf_one rda_val rfl
theorem rda_gl : RdA Tryz.prog 66 Gl 3 encGl Gl.R := by
  refine rda_mapP rda_gl0 (fun p : Bool × (Int × Int) => ⟨p.1, (p.2).1, (p.2).2⟩) _ _ (fun b => ⟨rfl, by simp [encGl, AV.cell]⟩) (fun a _ => rfl) (fun p hp => ?_)
  exact ⟨hp.2.1, hp.2.2⟩
theorem rda_ex0 : RdA Tryz.prog 50 ((List Nat) × Int) 2 (fun p : (List Nat) × Int => (fun s : List Nat => [.str (strU s)]) p.1 ++ (fun n : Int => [.int .i64 n]) p.2) (fun p : (List Nat) × Int => StrL p.1 ∧ I64 p.2) := by
  refine rda_struct ?_
  refine rdf_cons (f := ⟨_, _, _, _, _, _, _⟩) (sz' := 1) (en := (fun s : List Nat => [.str (strU s)])) (ok := StrL) (en' := (fun n : Int => [.int .i64 n])) (ok' := I64) rda_txt rfl ?_
  exact rdf_one rda_i rfl
theorem rda_ex : RdA Tryz.prog 50 Ex 2 encEx Ex.R := by
  refine rda_mapP rda_ex0 (fun p : (List Nat) × Int => ⟨p.1, p.2⟩) _ _ (fun b => ⟨rfl, by simp [encEx, AV.cell]⟩) (fun a _ => rfl) (fun p hp => ?_)
  exact ⟨hp.1, hp.2⟩
theorem rda_el0 : RdA Tryz.prog 70 (Int × (List Int)) 2 (fun p : Int × (List Int) => (fun n : Int => [.int .i64 n]) p.1 ++ (fun l : List Int => [.ro 1 (l.map encI) .any]) p.2) (fun p : Int × (List Int) => I64 p.1 ∧ IntsL p.2) := by
  refine rda_struct ?_
  refine rdf_cons (f := ⟨_, _, _, _, _, _, _⟩) (sz' := 1) (en := (fun n : Int => [.int .i64 n])) (ok := I64) (en' := (fun l : List Int => [.ro 1 (l.map encI) .any])) (ok' := IntsL) rda_i rfl ?_
  exact rdf_one rda_ints rfl
theorem rda_el : RdA Tryz.prog 70 El 2 encEl El.R := by
  refine rda_mapP rda_el0 (fun p : Int × (List Int) => ⟨p.1, p.2⟩) _ _ (fun b => ⟨rfl, by simp [encEl, AV.cell]⟩) (fun a _ => rfl) (fun p hp => ?_)
  exact ⟨hp.1, hp.2⟩
theorem rda_co0 : RdA Tryz.prog 54 ((List Int) × (List Ins)) 2 (fun p : (List Int) × (List Ins) => (fun l : List Int => [.ro 1 (l.map encI) .any]) p.1 ++ (fun l : List Ins => [.ro 4 (l.map (iv .any)) .any]) p.2) (fun p : (List Int) × (List Ins) => IntsL p.1 ∧ InssL p.2) := by
  refine rda_struct ?_
  refine rdf_cons (f := ⟨_, _, _, _, _, _, _⟩) (sz' := 1) (en := (fun l : List Int => [.ro 1 (l.map encI) .any])) (ok := IntsL) (en' := (fun l : List Ins => [.ro 4 (l.map (iv .any)) .any])) (ok' := InssL) rda_ints rfl ?_
  exact rdf_one rda_inss rfl
theorem rda_co : RdA Tryz.prog 54 Co 2 encCo Co.R := by
  refine rda_mapP rda_co0 (fun p : (List Int) × (List Ins) => ⟨p.1, p.2⟩) _ _ (fun b => ⟨rfl, by simp [encCo, AV.cell]⟩) (fun a _ => rfl) (fun p hp => ?_)
  exact ⟨hp.1, hp.2⟩
theorem rda_da0 : RdA Tryz.prog 44 (Int × (List Nat)) 2 (fun p : Int × (List Nat) => (fun n : Int => [.int .i64 n]) p.1 ++ (fun l : List Nat => [.ro 1 (l.map encU) .any]) p.2) (fun p : Int × (List Nat) => I64 p.1 ∧ StrL p.2) := by
  refine rda_struct ?_
  refine rdf_cons (f := ⟨_, _, _, _, _, _, _⟩) (sz' := 1) (en := (fun n : Int => [.int .i64 n])) (ok := I64) (en' := (fun l : List Nat => [.ro 1 (l.map encU) .any])) (ok' := StrL) rda_i rfl ?_
  exact rdf_one rda_bys rfl
theorem rda_da : RdA Tryz.prog 44 Da 2 encDa Da.R := by
  refine rda_mapP rda_da0 (fun p : Int × (List Nat) => ⟨p.1, p.2⟩) _ _ (fun b => ⟨rfl, by simp [encDa, AV.cell]⟩) (fun a _ => rfl) (fun p hp => ?_)
  exact ⟨hp.1, hp.2⟩
theorem rda_li0 : RdA Tryz.prog 26 (Bool × Int × Int) 3 (fun p : Bool × Int × Int => (fun b : Bool => [.bool b]) p.1 ++ (fun p : Int × Int => (fun n : Int => [.int .i64 n]) p.1 ++ (fun n : Int => [.int .i64 n]) p.2) p.2) (fun p : Bool × Int × Int => (fun _ => True) p.1 ∧ (fun p : Int × Int => I64 p.1 ∧ I64 p.2) p.2) := by
  refine rda_struct ?_
  refine rdf_cons (f := ⟨_, _, _, _, _, _, _⟩) (sz' := 2) (en := (fun b : Bool => [.bool b])) (ok := (fun _ => True)) (en' := (fun p : Int × Int => (fun n : Int => [.int .i64 n]) p.1 ++ (fun n : Int => [.int .i64 n]) p.2)) (ok' := (fun p : Int × Int => I64 p.1 ∧ I64 p.2)) rda_b rfl ?_
  refine rdf_cons (f := ⟨_, _, _, _, _, _, _⟩) (sz' := 1) (en := (fun n : Int => [.int .i64 n])) (ok := I64) (en' := (fun n : Int => [.int .i64 n])) (ok' := I64) rda_i rfl ?_
  exact rdf_one rda_i rfl
theorem rda_li : RdA Tryz.prog 26 Li 3 encLi Li.R := by
  refine rda_mapP rda_li0 (fun p : Bool × Int × Int => ⟨p.1, p.2.1, p.2.2⟩) _ _ (fun b => ⟨rfl, by simp [encLi, AV.cell]⟩) (fun a _ => rfl) (fun p hp => ?_)
  exact ⟨hp.2.1, hp.2.2⟩
abbrev FTsL (l : List FT) : Prop := l.length ≤ maxLen ∧ ∀ x ∈ l, x.R
theorem rda_fts : RdA Tryz.prog 22 (List FT) 1 (fun l => [.ro 2 (l.map encFT) .any]) FTsL := rda_slice rfl (by decide) rda_ft
abbrev ImsL (l : List Im) : Prop := l.length ≤ maxLen ∧ ∀ x ∈ l, x.R
theorem rda_ims : RdA Tryz.prog 23 (List Im) 1 (fun l => [.ro 3 (l.map encIm) .any]) ImsL := rda_slice rfl (by decide) rda_im
abbrev GlsL (l : List Gl) : Prop := l.length ≤ maxLen ∧ ∀ x ∈ l, x.R
theorem rda_gls : RdA Tryz.prog 27 (List Gl) 1 (fun l => [.ro 3 (l.map encGl) .any]) GlsL := rda_slice rfl (by decide) rda_gl
abbrev ExsL (l : List Ex) : Prop := l.length ≤ maxLen ∧ ∀ x ∈ l, x.R
theorem rda_exs : RdA Tryz.prog 28 (List Ex) 1 (fun l => [.ro 2 (l.map encEx) .any]) ExsL := rda_slice rfl (by decide) rda_ex
abbrev ElsL (l : List El) : Prop := l.length ≤ maxLen ∧ ∀ x ∈ l, x.R
theorem rda_els : RdA Tryz.prog 29 (List El) 1 (fun l => [.ro 2 (l.map encEl) .any]) ElsL := rda_slice rfl (by decide) rda_el
abbrev CosL (l : List Co) : Prop := l.length ≤ maxLen ∧ ∀ x ∈ l, x.R
theorem rda_cos : RdA Tryz.prog 30 (List Co) 1 (fun l => [.ro 2 (l.map encCo) .any]) CosL := rda_slice rfl (by decide) rda_co
abbrev DasL (l : List Da) : Prop := l.length ≤ maxLen ∧ ∀ x ∈ l, x.R
theorem rda_das : RdA Tryz.prog 31 (List Da) 1 (fun l => [.ro 2 (l.map encDa) .any]) DasL := rda_slice rfl (by decide) rda_da
def Md.R (m : Md) : Prop := FTsL m.ty ∧ ImsL m.im ∧ IntsL m.fn ∧ m.tb.R ∧ m.me.R ∧ GlsL m.gl ∧ ExsL m.ex ∧ ElsL m.el ∧ CosL m.co ∧ DasL m.da
theorem rda_md0 : RdA Tryz.prog 33 ((List FT) × (List Im) × (List Int) × Li × Li × (List Gl) × (List Ex) × (List El) × (List Co) × (List Da)) 14 (fun p : (List FT) × (List Im) × (List Int) × Li × Li × (List Gl) × (List Ex) × (List El) × (List Co) × (List Da) => (fun l : List FT => [.ro 2 (l.map encFT) .any]) p.1 ++ (fun p : (List Im) × (List Int) × Li × Li × (List Gl) × (List Ex) × (List El) × (List Co) × (List Da) => (fun l : List Im => [.ro 3 (l.map encIm) .any]) p.1 ++ (fun p : (List Int) × Li × Li × (List Gl) × (List Ex) × (List El) × (List Co) × (List Da) => (fun l : List Int => [.ro 1 (l.map encI) .any]) p.1 ++ (fun p : Li × Li × (List Gl) × (List Ex) × (List El) × (List Co) × (List Da) => encLi p.1 ++ (fun p : Li × (List Gl) × (List Ex) × (List El) × (List Co) × (List Da) => encLi p.1 ++ (fun p : (List Gl) × (List Ex) × (List El) × (List Co) × (List Da) => (fun l : List Gl => [.ro 3 (l.map encGl) .any]) p.1 ++ (fun p : (List Ex) × (List El) × (List Co) × (List Da) => (fun l : List Ex => [.ro 2 (l.map encEx) .any]) p.1 ++ (fun p : (List El) × (List Co) × (List Da) => (fun l : List El => [.ro 2 (l.map encEl) .any]) p.1 ++ (fun p : (List Co) × (List Da) => (fun l : List Co => [.ro 2 (l.map encCo) .any]) p.1 ++ (fun l : List Da => [.ro 2 (l.map encDa) .any]) p.2) p.2) p.2) p.2) p.2) p.2) p.2) p.2) p.2) (fun p : (List FT) × (List Im) × (List Int) × Li × Li × (List Gl) × (List Ex) × (List El) × (List Co) × (List Da) => FTsL p.1 ∧ (fun p : (List Im) × (List Int) × Li × Li × (List Gl) × (List Ex) × (List El) × (List Co) × (List Da) => ImsL p.1 ∧ (fun p : (List Int) × Li × Li × (List Gl) × (List Ex) × (List El) × (List Co) × (List Da) => IntsL p.1 ∧ (fun p : Li × Li × (List Gl) × (List Ex) × (List El) × (List Co) × (List Da) => Li.R p.1 ∧ (fun p : Li × (List Gl) × (List Ex) × (List El) × (List Co) × (List Da) => Li.R p.1 ∧ (fun p : (List Gl) × (List Ex) × (List El) × (List Co) × (List Da) => GlsL p.1 ∧ (fun p : (List Ex) × (List El) × (List Co) × (List Da) => ExsL p.1 ∧ (fun p : (List El) × (List Co) × (List Da) => ElsL p.1 ∧ (fun p : (List Co) × (List Da) => CosL p.1 ∧ DasL p.2) p.2) p.2) p.2) p.2) p.2) p.2) p.2) p.2) := by
  refine rda_struct ?_
  refine rdf_cons (f := ⟨_, _, _, _, _, _, _⟩) (sz' := 13) (en := (fun l : List FT => [.ro 2 (l.map encFT) .any])) (ok := FTsL) (en' := (fun p : (List Im) × (List Int) × Li × Li × (List Gl) × (List Ex) × (List El) × (List Co) × (List Da) => (fun l : List Im => [.ro 3 (l.map encIm) .any]) p.1 ++ (fun p : (List Int) × Li × Li × (List Gl) × (List Ex) × (List El) × (List Co) × (List Da) => (fun l : List Int => [.ro 1 (l.map encI) .any]) p.1 ++ (fun p : Li × Li × (List Gl) × (List Ex) × (List El) × (List Co) × (List Da) => encLi p.1 ++ (fun p : Li × (List Gl) × (List Ex) × (List El) × (List Co) × (List Da) => encLi p.1 ++ (fun p : (List Gl) × (List Ex) × (List El) × (List Co) × (List Da) => (fun l : List Gl => [.ro 3 (l.map encGl) .any]) p.1 ++ (fun p : (List Ex) × (List El) × (List Co) × (List Da) => (fun l : List Ex => [.ro 2 (l.map encEx) .any]) p.1 ++ (fun p : (List El) × (List Co) × (List Da) => (fun l : List El => [.ro 2 (l.map encEl) .any]) p.1 ++ (fun p : (List Co) × (List Da) => (fun l : List Co => [.ro 2 (l.map encCo) .any]) p.1 ++ (fun l : List Da => [.ro 2 (l.map encDa) .any]) p.2) p.2) p.2) p.2) p.2) p.2) p.2) p.2)) (ok' := (fun p : (List Im) × (List Int) × Li × Li × (List Gl) × (List Ex) × (List El) × (List Co) × (List Da) => ImsL p.1 ∧ (fun p : (List Int) × Li × Li × (List Gl) × (List Ex) × (List El) × (List Co) × (List Da) => IntsL p.1 ∧ (fun p : Li × Li × (List Gl) × (List Ex) × (List El) × (List Co) × (List Da) => Li.R p.1 ∧ (fun p : Li × (List Gl) × (List Ex) × (List El) × (List Co) × (List Da) => Li.R p.1 ∧ (fun p : (List Gl) × (List Ex) × (List El) × (List Co) × (List Da) => GlsL p.1 ∧ (fun p : (List Ex) × (List El) × (List Co) × (List Da) => ExsL p.1 ∧ (fun p : (List El) × (List Co) × (List Da) => ElsL p.1 ∧ (fun p : (List Co) × (List Da) => CosL p.1 ∧ DasL p.2) p.2) p.2) p.2) p.2) p.2) p.2) p.2)) rda_fts rfl ?_
  refine rdf_cons (f := ⟨_, _, _, _, _, _, _⟩) (sz' := 12) (en := (fun l : List Im => [.ro 3 (l.map encIm) .any])) (ok := ImsL) (en' := (fun p : (List Int) × Li × Li × (List Gl) × (List Ex) × (List El) × (List Co) × (List Da) => (fun l : List Int => [.ro 1 (l.map encI) .any]) p.1 ++ (fun p : Li × Li × (List Gl) × (List Ex) × (List El) × (List Co) × (List Da) => encLi p.1 ++ (fun p : Li × (List Gl) × (List Ex) × (List El) × (List Co) × (List Da) => encLi p.1 ++ (fun p : (List Gl) × (List Ex) × (List El) × (List Co) × (List Da) => (fun l : List Gl => [.ro 3 (l.map encGl) .any]) p.1 ++ (fun p : (List Ex) × (List El) × (List Co) × (List Da) => (fun l : List Ex => [.ro 2 (l.map encEx) .any]) p.1 ++ (fun p : (List El) × (List Co) × (List Da) => (fun l : List El => [.ro 2 (l.map encEl) .any]) p.1 ++ (fun p : (List Co) × (List Da) => (fun l : List Co => [.ro 2 (l.map encCo) .any]) p.1 ++ (fun l : List Da => [.ro 2 (l.map encDa) .any]) p.2) p.2) p.2) p.2) p.2) p.2) p.2)) (ok' := (fun p : (List Int) × Li × Li × (List Gl) × (List Ex) × (List El) × (List Co) × (List Da) => IntsL p.1 ∧ (fun p : Li × Li × (List Gl) × (List Ex) × (List El) × (List Co) × (List Da) => Li.R p.1 ∧ (fun p : Li × (List Gl) × (List Ex) × (List El) × (List Co) × (List Da) => Li.R p.1 ∧ (fun p : (List Gl) × (List Ex) × (List El) × (List Co) × (List Da) => GlsL p.1 ∧ (fun p : (List Ex) × (List El) × (List Co) × (List Da) => ExsL p.1 ∧ (fun p : (List El) × (List Co) × (List Da) => ElsL p.1 ∧ (fun p : (List Co) × (List Da) => CosL p.1 ∧ DasL p.2) p.2) p.2) p.2) p.2) p.2) p.2)) rda_ims rfl ?_
  refine rdf_cons (f := ⟨_, _, _, _, _, _, _⟩) (sz' := 11) (en := (fun l : List Int => [.ro 1 (l.map encI) .any])) (ok := IntsL) (en' := (fun p : Li × Li × (List Gl) × (List Ex) × (List El) × (List Co) × (List Da) => encLi p.1 ++ (fun p : Li × (List Gl) × (List Ex) × (List El) × (List Co) × (List Da) => encLi p.1 ++ (fun p : (List Gl) × (List Ex) × (List El) × (List Co) × (List Da) => (fun l : List Gl => [.ro 3 (l.map encGl) .any]) p.1 ++ (fun p : (List Ex) × (List El) × (List Co) × (List Da) => (fun l : List Ex => [.ro 2 (l.map encEx) .any]) p.1 ++ (fun p : (List El) × (List Co) × (List Da) => (fun l : List El => [.ro 2 (l.map encEl) .any]) p.1 ++ (fun p : (List Co) × (List Da) => (fun l : List Co => [.ro 2 (l.map encCo) .any]) p.1 ++ (fun l : List Da => [.ro 2 (l.map encDa) .any]) p.2) p.2) p.2) p.2) p.2) p.2)) (ok' := (fun p : Li × Li × (List Gl) × (List Ex) × (List El) × (List Co) × (List Da) => Li.R p.1 ∧ (fun p : Li × (List Gl) × (List Ex) × (List El) × (List Co) × (List Da) => Li.R p.1 ∧ (fun p : (List Gl) × (List Ex) × (List El) × (List Co) × (List Da) => GlsL p.1 ∧ (fun p : (List Ex) × (List El) × (List Co) × (List Da) => ExsL p.1 ∧ (fun p : (List El) × (List Co) × (List Da) => ElsL p.1 ∧ (fun p : (List Co) × (List Da) => CosL p.1 ∧ DasL p.2) p.2) p.2) p.2) p.2) p.2)) rda_ints rfl ?_
  refine rdf_cons (f := ⟨_, _, _, _, _, _, _⟩) (sz' := 8) (en := encLi) (ok := Li.R) (en' := (fun p : Li × (List Gl) × (List Ex) × (List El) × (List Co) × (List Da) => encLi p.1 ++ (fun p : (List Gl) × (List Ex) × (List El) × (List Co) × (List Da) => (fun l : List Gl => [.ro 3 (l.map encGl) .any]) p.1 ++ (fun p : (List Ex) × (List El) × (List Co) × (List Da) => (fun l : List Ex => [.ro 2 (l.map encEx) .any]) p.1 ++ (fun p : (List El) × (List Co) × (List Da) => (fun l : List El => [.ro 2 (l.map encEl) .any]) p.1 ++ (fun p : (List Co) × (List Da) => (fun l : List Co => [.ro 2 (l.map encCo) .any]) p.1 ++ (fun l : List Da => [.ro 2 (l.map encDa) .any]) p.2) p.2) p.2) p.2) p.2)) (ok' := (fun p : Li × (List Gl) × (List Ex) × (List El) × (List Co) × (List Da) => Li.R p.1 ∧ (fun p : (List Gl) × (List Ex) × (List El) × (List Co) × (List Da) => GlsL p.1 ∧ (fun p : (List Ex) × (List El) × (List Co) × (List Da) => ExsL p.1 ∧ (fun p : (List El) × (List Co) × (List Da) => ElsL p.1 ∧ (fun p : (List Co) × (List Da) => CosL p.1 ∧ DasL p.2) p.2) p.2) p.2) p.2)) rda_li rfl ?_
  refine rdf_cons (f := ⟨_, _, _, _, _, _, _⟩) (sz' := 5) (en := encLi) (ok := Li.R) (en' := (fun p : (List Gl) × (List Ex) × (List El) × (List Co) × (List Da) => (fun l : List Gl => [.ro 3 (l.map encGl) .any]) p.1 ++ (fun p : (List Ex) × (List El) × (List Co) × (List Da) => (fun l : List Ex => [.ro 2 (l.map encEx) .any]) p.1 ++ (fun p : (List El) × (List Co) × (List Da) => (fun l : List El => [.ro 2 (l.map encEl) .any]) p.1 ++ (fun p : (List Co) × (List Da) => (fun l : List Co => [.ro 2 (l.map encCo) .any]) p.1 ++ (fun l : List Da => [.ro 2 (l.map encDa) .any]) p.2) p.2) p.2) p.2)) (ok' := (fun p : (List Gl) × (List Ex) × (List El) × (List Co) × (List Da) => GlsL p.1 ∧ (fun p : (List Ex) × (List El) × (List Co) × (List Da) => ExsL p.1 ∧ (fun p : (List El) × (List Co) × (List Da) => ElsL p.1 ∧ (fun p : (List Co) × (List Da) => CosL p.1 ∧ DasL p.2) p.2) p.2) p.2)) rda_li rfl ?_
  refine rdf_cons (f := ⟨_, _, _, _, _, _, _⟩) (sz' := 4) (en := (fun l : List Gl => [.ro 3 (l.map encGl) .any])) (ok := GlsL) (en' := (fun p : (List Ex) × (List El) × (List Co) × (List Da) => (fun l : List Ex => [.ro 2 (l.map encEx) .any]) p.1 ++ (fun p : (List El) × (List Co) × (List Da) => (fun l : List El => [.ro 2 (l.map encEl) .any]) p.1 ++ (fun p : (List Co) × (List Da) => (fun l : List Co => [.ro 2 (l.map encCo) .any]) p.1 ++ (fun l : List Da => [.ro 2 (l.map encDa) .any]) p.2) p.2) p.2)) (ok' := (fun p : (List Ex) × (List El) × (List Co) × (List Da) => ExsL p.1 ∧ (fun p : (List El) × (List Co) × (List Da) => ElsL p.1 ∧ (fun p : (List Co) × (List Da) => CosL p.1 ∧ DasL p.2) p.2) p.2)) rda_gls rfl ?_
  refine rdf_cons (f := ⟨_, _, _, _, _, _, _⟩) (sz' := 3) (en := (fun l : List Ex => [.ro 2 (l.map encEx) .any])) (ok := ExsL) (en' := (fun p : (List El) × (List Co) × (List Da) => (fun l : List El => [.ro 2 (l.map encEl) .any]) p.1 ++ (fun p : (List Co) × (List Da) => (fun l : List Co => [.ro 2 (l.map encCo) .any]) p.1 ++ (fun l : List Da => [.ro 2 (l.map encDa) .any]) p.2) p.2)) (ok' := (fun p : (List El) × (List Co) × (List Da) => ElsL p.1 ∧ (fun p : (List Co) × (List Da) => CosL p.1 ∧ DasL p.2) p.2)) rda_exs rfl ?_
  refine rdf_cons (f := ⟨_, _, _, _, _, _, _⟩) (sz' := 2) (en := (fun l : List El => [.ro 2 (l.map encEl) .any])) (ok := ElsL) (en' := (fun p : (List Co) × (List Da) => (fun l : List Co => [.ro 2 (l.map encCo) .any]) p.1 ++ (fun l : List Da => [.ro 2 (l.map encDa) .any]) p.2)) (ok' := (fun p : (List Co) × (List Da) => CosL p.1 ∧ DasL p.2)) rda_els rfl ?_
  refine rdf_cons (f := ⟨_, _, _, _, _, _, _⟩) (sz' := 1) (en := (fun l : List Co => [.ro 2 (l.map encCo) .any])) (ok := CosL) (en' := (fun l : List Da => [.ro 2 (l.map encDa) .any])) (ok' := DasL) rda_cos rfl ?_
  exact rdf_one rda_das rfl
theorem rda_md : RdA Tryz.prog 33 Md 14 encMd Md.R := by
  refine rda_mapP rda_md0 (fun p : (List FT) × (List Im) × (List Int) × Li × Li × (List Gl) × (List Ex) × (List El) × (List Co) × (List Da) => ⟨p.1, p.2.1, p.2.2.1, p.2.2.2.1, p.2.2.2.2.1, p.2.2.2.2.2.1, p.2.2.2.2.2.2.1, p.2.2.2.2.2.2.2.1, p.2.2.2.2.2.2.2.2.1, p.2.2.2.2.2.2.2.2.2⟩) _ _ (fun b => ⟨rfl, by simp [encMd, AV.cell]⟩) (fun a _ => rfl) (fun p hp => ?_)
  exact ⟨hp.1, hp.2.1, hp.2.2.1, hp.2.2.2.1, hp.2.2.2.2.1, hp.2.2.2.2.2.1, hp.2.2.2.2.2.2.1, hp.2.2.2.2.2.2.2.1, hp.2.2.2.2.2.2.2.2.1, hp.2.2.2.2.2.2.2.2.2⟩
theorem Md.R.a {m : Md} (h : m.R) : m.A := by
  obtain ⟨h1, h2, h3, -, -, h4, h5, h6, h7, h8⟩ := h
  exact ⟨⟨h1.1, fun x hx => ⟨(h1.2 x hx).1.1, (h1.2 x hx).2.1⟩⟩, ⟨h2.1, fun x hx => ⟨(h2.2 x hx).1.1, (h2.2 x hx).2.1.1⟩⟩, h3.1, h4.1, ⟨h5.1, fun x hx => (h5.2 x hx).1.1⟩, ⟨h6.1, fun x hx => (h6.2 x hx).2.1⟩,
    ⟨h7.1, fun x hx => ⟨(h7.2 x hx).1.1, (h7.2 x hx).2.1, fun i hi => ((h7.2 x hx).2.2 i hi).2.2.2.1⟩⟩, ⟨h8.1, fun x hx => (h8.2 x hx).2.1⟩⟩
theorem mem_out {α : Type} {f : α → α} {l : List α} {n : Nat} {x : α} (h : x ∈ outJ f l n) : ∃ y ∈ l, x = f y := by
  obtain ⟨y, hy, rfl⟩ := List.mem_map.1 h
  exact ⟨y, List.mem_of_mem_take hy, rfl⟩
theorem out_le {α : Type} (f : α → α) (l : List α) (n : Nat) : (outJ f l n).length ≤ n := by unfold outJ; simp; omega
theorem cut_wo {m : Md} (h : m.R) : (cutM m).WO := by
  obtain ⟨h1, h2, h3, -, -, h4, h5, h6, h7, h8⟩ := h
  refine ⟨⟨fun x hx => ?_, fun x hx => ?_, fun x hx => ?_, ?_, fun x hx => ?_⟩, fun x hx => ?_, fun x hx => ?_⟩
  · obtain ⟨y, hy, rfl⟩ := mem_out hx
    have := h2.2 y hy
    exact ⟨⟨by simp [cutI]; omega, fun c hc => this.1.2 c (List.mem_of_mem_take hc)⟩, by simp [cutI]; omega, fun c hc => this.2.1.2 c (List.mem_of_mem_take hc)⟩
  · obtain ⟨y, hy, rfl⟩ := mem_out hx
    have := h5.2 y hy
    exact ⟨by simp [cutX]; omega, fun c hc => this.1.2 c (List.mem_of_mem_take hc)⟩
  · obtain ⟨y, hy, rfl⟩ := mem_out hx
    simp [cutC, bodyN]; omega
  · have := out_le cutI m.im 18
    show (outJ cutI m.im 18).length ≤ _
    omega
  · obtain ⟨y, hy, rfl⟩ := mem_out hx
    exact fun c hc => (h8.2 y hy).2.2 c (List.mem_of_mem_take hc)
  · obtain ⟨y, hy, rfl⟩ := mem_out hx
    intro i hi
    obtain ⟨z, hz, rfl⟩ := List.mem_map.1 hi
    obtain ⟨p1, p2, p3, p4, p5⟩ := (h7.2 y hy).2.2 z (List.mem_of_mem_take hz)
    exact ⟨p1.1, p1.2, p2.1, p2.2, by simp [cutN]; omega⟩
  · obtain ⟨y, hy, he⟩ := mem_out hx
    rw [he]
    exact bd_i64 (h4.2 y hy).2
theorem cut_z {m : Md} : (cutM m).Z := by
  have hl : ∀ {α : Type} (f : α → α) (l : List α), (outJ f l 18).length ≤ 1000000 := fun f l => Nat.le_trans (out_le f l 18) (by decide)
  refine ⟨⟨hl _ _, fun x hx => ?_⟩, hl _ _, by show (m.fn.take 18).length ≤ _; simp; omega, hl _ _, hl _ _, ⟨hl _ _, fun x hx => ?_⟩, ⟨hl _ _, fun x hx => ?_⟩, ⟨hl _ _, fun x hx => ?_⟩⟩
  · obtain ⟨y, hy, rfl⟩ := mem_out hx
    simp [cutT]; omega
  · obtain ⟨y, hy, rfl⟩ := mem_out hx
    simp [cutE]; omega
  · obtain ⟨y, hy, rfl⟩ := mem_out hx
    simp [cutC]; omega
  · obtain ⟨y, hy, rfl⟩ := mem_out hx
    simp [cutD]; omega
end Go.Proofs.YtfihcehdoikfkaaGreat
/-
  A module has at most eight thousand bytes.
-/
namespace Go.Proofs.YtfihcehdoikfkaaGreat
open Go.RowKit Go.ChangeShapes Go.WideShapes Go.ChangeAt Go.Deep
attribute [local irreducible] SW RS RD AThen ABlock
def longM (n k : Nat) : Md := { md0 with me := ⟨true, 16, -1⟩, da := List.replicate k ⟨0, List.replicate n 0⟩ }
theorem long_da {n k : Nat} {x : Da} (h : x ∈ (longM n k).da) : x = ⟨0, List.replicate n 0⟩ := List.eq_of_mem_replicate h
theorem long_wo (n k : Nat) : (longM n k).WO := by
  refine ⟨⟨by simp [longM, md0], by simp [longM, md0], by simp [longM, md0], by simp [longM, md0], fun x hx c hc => ?_⟩, by simp [longM, md0], by simp [longM, md0]⟩
  rw [long_da hx] at hc
  rw [List.eq_of_mem_replicate hc]
  decide
theorem long_a {n k : Nat} (hn : n ≤ 1000) (hk : k ≤ 9) : mayA (longM n k) = true := by
  have hd : ((longM n k).da.all fun x => offN x.off && decide (x.bs.length ≤ 1000)) = true := by
    rw [List.all_eq_true]
    intro x hx
    rw [long_da hx]
    simp [offN]
    omega
  unfold mayA listsN
  unfold allN
  rw [hd]
  simp [longM, md0, limN, li0]
  omega
theorem long_z (n k : Nat) (hn : n ≤ 1000) (hk : k ≤ 9) : (longM n k).Z := by
  refine ⟨by simp [longM, md0], by simp [longM, md0], by simp [longM, md0], by simp [longM, md0], by simp [longM, md0], by simp [longM, md0], by simp [longM, md0], ⟨?_, fun x hx => ?_⟩⟩
  · simp [longM]; omega
  · rw [long_da hx]; simp; omega
theorem rep_u8 (n : Nat) : (List.replicate n [AV.int .u8 0]) = (List.replicate n 0).map encU := by rw [List.map_replicate]; rfl
theorem da_next (n j : Nat) : ((List.replicate j (⟨0, List.replicate n 0⟩ : Da)).map encDa) ++ [encDa ⟨0, List.replicate n 0⟩] = (List.replicate (j + 1) (⟨0, List.replicate n 0⟩ : Da)).map encDa := by
  rw [List.replicate_succ', List.map_append]; rfl
theorem long_len (n k : Nat) (hn : n ≤ 1000) (hk : k ≤ 9) : (writB (longM n k)).length ≤ 50000 := by
  have hd : ∀ x ∈ (longM n k).da, (daB x).length ≤ 1300 := fun x hx => by
    rw [long_da hx]
    have l1 := plc_len (n := 0) (by decide)
    have l2 := uB_len 1 n (by omega)
    unfold daB
    simp
    omega
  have hl : (longM n k).da.length = k := by simp [longM]
  have h1 := vec_len (pt := daB) (l := (longM n k).da) (c := 1300) hd (by omega)
  rw [hl] at h1
  have h2 : k * 1300 ≤ 9 * 1300 := Nat.mul_le_mul_right _ hk
  have h3 : (secB 11 (longM n k).da daB).length ≤ 20000 := by
    have h4 := uB_len 2 (vecB (longM n k).da daB).length (by omega)
    unfold secB
    split
    · simp
    · simp only [List.length_cons, List.length_append]; omega
  have h5 : (secB 5 (oneL (longM n k).me) limB).length = 5 := by
    simp [longM, secB, oneL, vecB, limB, numB, uB_lo]
  have h6 : writB (longM n k) = headB ++ secB 5 (oneL (longM n k).me) limB ++ secB 11 (longM n k).da daB := by
    simp [writB, longM, md0, secB, oneL, li0]
  rw [h6]
  simp only [List.length_append, h5]
  have h7 : headB.length = 8 := rfl
  omega
section
variable {P : Program} {n : Nat} {ops : Array Oper} {fr : Fr} {σ : Sto} {K : ASt → Prop} {ty t : TypeId} {pos : String} {af : Array Edge} {x y : Operand} {d i : Nat} {listed : Array Bool} {todo : List (Nat × Bool)} {held : List (Nat × List Nat)}
theorem dmk {e : TypeId} {sz by_ : Nat} {zv : Value} {k k' : IntKind} {m : Int} {l : Nat} {z : List AV} (hi : ops[i]? = some ⟨some d, .makeSlice t x y, ty, pos, af, none⟩) (i1 : Ty P t (.slice e)) (i2 : Tz P e sz by_ zv) (hl : aev ⟨fr, σ⟩ x = some (.int k m)) (hc : aev ⟨fr, σ⟩ y = some (.int k' m)) (hm : m = (l : Int)) (h0 : (decide (0 < sz) && (zv.cells.size == sz) && (zv.cells.toList.map ofConst).all AV.cell) = true)
    (hby : by_ * l ≤ 281474976710656) (hml : l ≤ maxLen) (hz : zv.cells.toList.map ofConst = z) (hd : Nat.ble (d + 1) n = true) (hK : ∀ r, Fresh r σ → RD P n ops (listed.setIfInBounds i true) todo held ⟨(d, .own r 0 l) :: fr, (r, .arr e sz (List.replicate l z)) :: σ⟩ K) : RD P n ops listed ((i, false) :: todo) held ⟨fr, σ⟩ K := by
  subst hz
  exact rd_new hi (hop_make hl hc hm h0 hby hml (lt_ble hd) hK)
end
theorem law_wasmLong2 (a c : Int) : SCall Tryz.prog 4 [.int .i64 a, .int .i64 c] [] (fun y σ => y = .bool true ∧ σ = []) := by
  refine scall_of (n := 93) (ks := [0, 1, 4, 5, 6, 7, 8, 9, 11, 12, 13, 16, 30, 35, 52]) Tryz.func4 rfl rfl (Nat.le_of_ble_eq_true rfl) ?_
  refine sq7 ?_
  refine rgT ?_
  refine puA Tryz.call10 law_begun7 rfl pargsT nofT ?_
  refine sq36 ?_
  refine lo (lop_not (E rfl)) rfl ?_
  refine sq48 ?_
  refine sq63 ?_
  refine z125 ?_
  refine z113 ?_
  refine sq8 ?_
  refine z162 ?_
  refine z113 ?_
  refine sq8 ?_
  refine z125 ?_
  refine sq77 ?_
  refine sw_cond rfl (fun g4 => ?_) (fun g4 => ?_)
  · refine sq7 ?_
    apply aend; exact resT
    · exact ⟨rfl, rfl⟩
    · exact stleT
  obtain ⟨n, k, rfl, rfl, hn, hk⟩ : ∃ n k : Nat, a = n ∧ c = k ∧ n ≤ 1000 ∧ k ≤ 9 := by
    have : ∀ p q r s : Bool, (if (if (if p = true then true else q) = true then true else r) = true then true else s) = false → p = false ∧ q = false ∧ r = false ∧ s = false := by intro p q r s; cases p <;> cases q <;> cases r <;> cases s <;> simp
    obtain ⟨h1, h2, h3, h4⟩ := this _ _ _ _ g4
    simp only [decide_eq_false_iff_not] at h1 h2 h3 h4
    exact ⟨a.toNat, c.toNat, by omega, by omega, by omega, by omega⟩
  refine sq3 ?_
  refine z93 ?_
  refine z93 ?_
  apply al; rfl; (exact zcT); refine freshT fun r6 h6 => ?_; repeat rcases h6 with ⟨_, h6⟩
  apply stp; rfl; rfl; rfl; rfl; (exact sputT)
  refine sq5 ?_
  refine sw_virt_box (ks := [0, 1, 4, 5, 6, 7, 8, 9, 11, 12, 13, 16, 30, 35, 52]) r6 13 44 2 (by decide) sgT rfl (by decide) fun q0 hq0 => ?_
  simp only [fresh_cons, fresh_nil, and_true] at hq0
  apply Exists.intro; apply And.intro; (exact ssetT)
  refine sq57 ?_
  refine lp (β := Nat × Nat) (fun b => ⟨[(0, .int .i64 n), (1, .int .i64 k), (6, .ptr r6 0), (7, .int .i64 b.2)], [(r6, .box 33 [.ro 0 [] .nil, .ro 0 [] .nil, .ro 0 [] .nil, .bool false, .int .i64 0, .int .i64 0, .bool true, .int .i64 16, .int .i64 (-1), .ro 0 [] .nil, .ro 0 [] .nil, .ro 0 [] .nil, .ro 0 [] .nil, .own b.1 0 (List.replicate b.2 (⟨0, List.replicate n 0⟩ : Da)).length]), (b.1, .arr 44 2 ((List.replicate b.2 (⟨0, List.replicate n 0⟩ : Da)).map encDa))]⟩) (fun b => b.2 ≤ k ∧ Nq b.1 r6) (fun b => k - b.2) (q0, 0) sgoT ⟨Nat.zero_le _, by show Nq q0 r6; (exact nqT)⟩ ?_
  rintro ⟨q1, j⟩ ⟨hj, e1⟩
  dsimp only at hj e1 ⊢
  have hrl : (List.replicate j (⟨0, List.replicate n 0⟩ : Da)).length = j := List.length_replicate
  refine sq9 ?_
  refine sq11 ?_
  refine sw_cond rfl (fun g8 => ?_) (fun g8 => ?_)
  · have hlt : j < k := by simp at g8; omega
    have hdn := da_next n j
    refine ctlT ?_
    refine rgD [(0, true), (1, true), (2, true), (3, false), (4, true), (5, false), (6, false), (7, true), (8, false)] ?_
    refine sq18 ?_
    refine dlo rfl (lop_move (E rfl)) rfl ?_
    refine dmk (l := n) (z := [.int .u8 0]) rfl inferInstance inferInstance rfl rfl rfl rfl (by omega) (by simp [maxLen]; omega) rfl rfl ?_
    refine freshT fun r41 h41 => ?_; repeat rcases h41 with ⟨_, h41⟩
    rw [rep_u8]
    refine dfzv (j := 41) rfl sdelT (bor_own sgT (by simp)) ?_
    refine z94 ?_
    refine z97 ?_; refine freshT fun r43 h43 => ?_; repeat rcases h43 with ⟨_, h43⟩
    refine dapA rfl ((List.replicate j (⟨0, List.replicate n 0⟩ : Da) ++ [(⟨0, List.replicate n 0⟩ : Da)]).map encDa) (List.replicate j (⟨0, List.replicate n 0⟩ : Da) ++ [(⟨0, List.replicate n 0⟩ : Da)]).length ?_
    refine apnT fun r44 h44 => ?_; repeat rcases h44 with ⟨_, h44⟩
    refine z73 ?_
    refine sq83 ?_
    refine sq34 ?_
    refine ⟨(r44, j + 1), ⟨hlt, by show Nq r44 r6; (exact nqT)⟩, by show k - (j + 1) < k - j; omega, ?_⟩
    dsimp only
    rw [List.replicate_succ' (n := j) (a := (⟨0, List.replicate n 0⟩ : Da))]
    exact sgoT
  obtain rfl : j = k := by simp at g8; omega
  refine sw_go (sgo_fzb (r := r6) (q := q1) ssetT sdelT (.cons (.refl _) (.cons (.refl _) (.cons (.refl _) (.cons (.refl _) (.cons (.refl _) (.cons (.refl _) (.cons (.refl _) (.cons (.refl _) (.cons (.refl _) (.cons (.refl _) (.cons (.refl _) (.cons (.refl _) (.cons (.refl _) (.cons (bor_own sgT (by simp)) .nil))))))))))))))) ?_
  refine sw_go (sgo_leb (r := r6) (cs' := encMd (longM n j)) ssetT (.cons (.le VLe.empty) (.cons (.le VLe.empty) (.cons (.le VLe.empty) (.cons (.refl _) (.cons (.refl _) (.cons (.refl _) (.cons (.refl _) (.cons (.refl _) (.cons (.refl _) (.cons (.le VLe.empty) (.cons (.le VLe.empty) (.cons (.le VLe.empty) (.cons (.le VLe.empty) (.cons (.refl _) .nil))))))))))))))) ?_
  have wM := long_wo n j
  have hA := long_a (n := n) (k := j) hn hk
  have hZ := long_z n j hn hk
  have wby := ref_bytes (longM n j) (may_g hA wM)
  have wen := wasm_encode (longM n j) wM
  have wma := wasm_may (longM n j) wM
  have weq := ref_eq (longM n j) (longM n j) wM.w wM.w hZ hZ
  have hwl := writ_lt hA wM
  have hM : mayM (longM n j) = decide ((writB (longM n j)).length ≤ 8000) := by rw [mayM_eq, hA, Bool.true_and]
  have hL : (writB (longM n j)).length ≤ 50000 := long_len n j hn hk
  generalize longM n j = M at wM hA hZ wby wen wma weq hwl hM hL ⊢
  obtain ⟨ty, im, fn, tb, me, gl, ex, el, co, da⟩ := M
  refine sq74 ?_
  refine clA Tryz.call18 wby rfl bargsT noT ?_
  rintro _ σ' ⟨q47, rfl, rfl⟩ h47
  replace h47 := lnewT h47; repeat rcases h47 with ⟨_, h47⟩
  apply rs_sto; exact nflT
  refine z14 ?_
  refine sq23 ?_
  refine z99 ?_
  refine clA Tryz.call13 wen rfl bargsT noT ?_
  rintro _ σ' ⟨q50, rfl, rfl⟩ h50
  replace h50 := lnewT h50; repeat rcases h50 with ⟨_, h50⟩
  apply rs_sto; exact nflT
  refine fzv (j := 50) rfl sdelT (bor_own sgT (by simp)) ?_
  refine sq36 ?_
  refine lo (lop_gtr (E rfl) (E rfl)) rfl ?_
  refine sq5 ?_
  refine sw_cond rfl (fun g13 => ?_) (fun g13 => ?_)
  · have hM2 : mayM ⟨ty, im, fn, tb, me, gl, ex, el, co, da⟩ = false := by rw [hM, decide_eq_false]; simp at g13; omega
    have hen : (encB ⟨ty, im, fn, tb, me, gl, ex, el, co, da⟩).length = 0 := by unfold encB; rw [hM2]; rfl
    have wd := wasm_decode (writB ⟨ty, im, fn, tb, me, gl, ex, el, co, da⟩) (by omega) hwl
    rw [show decM (writB ⟨ty, im, fn, tb, me, gl, ex, el, co, da⟩) = (md0, 4) by unfold decM; rw [if_pos (by simp at g13; omega)]] at wd
    rw [hM2] at wma
    refine sq74 ?_
    refine clA Tryz.call18 wby rfl bargsT noT ?_
    rintro _ σ' ⟨q55, rfl, rfl⟩ h55
    replace h55 := lnewT h55; repeat rcases h55 with ⟨_, h55⟩
    apply rs_sto; exact nflT
    refine fzv (j := 55) rfl sdelT (bor_own sgT (by simp)) ?_
    refine cw [] Tryz.call17 wd rfl argsleT stleT ?_
    rintro _ σ' ⟨rfl, rfl⟩ h56
    apply rs_sto; exact nflT
    refine sq41 ?_
    apply al; rfl; (exact zcT); refine freshT fun r10 h10 => ?_; repeat rcases h10 with ⟨_, h10⟩
    apply stp; rfl; rfl; rfl; rfl; (exact sputT)
    refine sq23 ?_
    refine z99 ?_
    refine puA Tryz.call14 wma rfl pargsT nofT ?_
    refine lo (lop_not (E rfl)) rfl ?_
    refine sq8 ?_
    refine z124 ?_
    refine z112 ?_
    refine sq70 ?_
    refine z112 ?_
    refine sq31 ?_
    apply aend; exact resT
    · exact ⟨by rw [hen]; rfl, rfl⟩
    · exact stleT
  have hM2 : mayM ⟨ty, im, fn, tb, me, gl, ex, el, co, da⟩ = true := by rw [hM, decide_eq_true]; simp at g13; omega
  have hen : encB ⟨ty, im, fn, tb, me, gl, ex, el, co, da⟩ = writB ⟨ty, im, fn, tb, me, gl, ex, el, co, da⟩ := if_pos hM2
  have wd := wasm_decode (encB ⟨ty, im, fn, tb, me, gl, ex, el, co, da⟩) (by rw [hen]; omega) (by rw [hen]; exact hwl)
  rw [show decM (encB ⟨ty, im, fn, tb, me, gl, ex, el, co, da⟩) = (⟨ty, im, fn, tb, me, gl, ex, el, co, da⟩, 0) by rw [hen]; exact dec_back hM2 wM.ok] at wd
  rw [hM2] at wma
  rw [eqM_self] at weq
  refine sq4 ?_
  refine cw [] Tryz.call17 wd rfl argsleT stleT ?_
  rintro _ σ' ⟨rfl, rfl⟩ h73
  apply rs_sto; exact nflT
  refine sq41 ?_
  apply al; rfl; (exact zcT); refine freshT fun r12 h12 => ?_; repeat rcases h12 with ⟨_, h12⟩
  apply stp; rfl; rfl; rfl; rfl; (exact sputT)
  refine sq23 ?_
  refine z99 ?_
  refine puA Tryz.call14 wma rfl pargsT nofT ?_
  refine sq8 ?_
  refine z124 ?_
  refine z109 ?_
  refine z128 ?_
  refine sq70 ?_
  refine z112 ?_
  refine z68 ?_
  refine sq61 ?_
  refine z139 ?_
  refine pugA rfl rfl Tryz.call16 (fun _ => weq) rfl pargsT nofT ?_
  refine sq31 ?_
  apply aend; exact resT
  · exact ⟨by rw [hen]; simp [resAV], rfl⟩
  · exact stleT
theorem law_wasmLong3 (a c : Int) : SCall Tryz.prog 4 [.int .i64 a, .int .i64 c] [] (fun y _ => y = .bool true) := (law_wasmLong2 a c).mono fun _ _ h => h.1
end Go.Proofs.YtfihcehdoikfkaaGreat
/-
  A module of which one part is left out.
-/
namespace Go.Proofs.YtfihcehdoikfkaaGreat
open Go.RowKit Go.ChangeShapes Go.WideShapes Go.ChangeAt Go.Deep
theorem sec_pos {α : Type} {no : Nat} {l : List α} {pt : α → List Nat} (h : 0 < l.length) : 0 < (secB no l pt).length := by
  unfold secB
  cases l with
  | nil => simp at h
  | cons a l => simp
theorem sec_none {α : Type} {no : Nat} {pt : α → List Nat} : (secB no ([] : List α) pt).length = 0 := rfl
theorem writ_len (m : Md) : (writB m).length = 8 + (secB 1 m.ty ftB).length + (secB 2 m.im imB).length + (secB 3 m.fn numB).length + (secB 4 (oneL m.tb) (fun l => 112 :: limB l)).length + (secB 5 (oneL m.me) limB).length + (secB 6 m.gl glB).length + (secB 7 m.ex exB).length + (secB 9 m.el elB).length + (secB 10 m.co codB).length + (secB 11 m.da daB).length := by
  unfold writB
  simp only [List.length_append]
  rfl
/-- D: m without a part; g: it had something there -/
structure LessF (m D : Md) (g : Bool) : Prop where
  wo : D.WO
  z : D.Z
  ma : mayA D = true
  lt : g = true → (writB D).length < (writB m).length
  eq : g = false → D = m
  ne : g = true → D ≠ m
theorem LessF.le {m D : Md} {g : Bool} (h : LessF m D g) : (writB D).length ≤ (writB m).length := by
  cases g with
  | false => rw [h.eq rfl]; exact Nat.le_refl _
  | true => exact Nat.le_of_lt (h.lt rfl)
theorem LessF.may {m D : Md} {g : Bool} (h : LessF m D g) (hm : mayM m = true) : mayM D = true := by
  rw [mayM_eq, h.ma, Bool.true_and]
  have := (may_a hm).2
  have := h.le
  exact decide_eq_true (by omega)
theorem LessF.eqm {m D : Md} {g : Bool} (h : LessF m D g) : eqM m D = !g := by
  cases g with
  | false => rw [h.eq rfl, eqM_self]; rfl
  | true =>
    rw [Bool.eq_iff_iff, eqM_iff]
    constructor
    · intro e; exact absurd e.symm (h.ne rfl)
    · intro e; cases e
theorem LessF.bts {m D : Md} {g : Bool} (h : LessF m D g) : decide (writB m = writB D) = !g := by
  cases g with
  | false => rw [h.eq rfl]; simp
  | true =>
    have := h.lt rfl
    simp only [Bool.not_true, decide_eq_false_iff_not]
    intro e
    rw [e] at this
    omega
theorem head_ge (m : Md) : 8 ≤ (writB m).length := by rw [writ_len]; omega
theorem alln_nil {α : Type} {k : Int} {p : α → Bool} (hk : 0 ≤ k) : allN ([] : List α) k p = true := by simp [allN, hk]
theorem alln_more {α : Type} {l : List α} {k k' : Int} {p : α → Bool} (h : allN l k p = true) (hk : k ≤ k') : allN l k' p = true := by
  unfold allN at *
  simp only [Bool.and_eq_true, decide_eq_true_eq] at *
  exact ⟨by omega, h.2⟩
theorem less_ty {m : Md} (wo : m.WO) (z : m.Z) (ha : mayA m = true) : LessF m { m with ty := [] } (decide (0 < m.ty.length)) := by
  have l1 := writ_len m
  have l2 := writ_len { m with ty := [] }
  refine ⟨⟨⟨?_, ?_, ?_, ?_, ?_⟩, ?_, ?_⟩, ?_, ?_, fun h => ?_, fun h => ?_, fun h e => ?_⟩
  · first | exact wo.w.im | (intro x hx; cases hx)
  · first | exact wo.w.ex | (intro x hx; cases hx)
  · exact wo.w.co
  · first | exact wo.w.il | exact Nat.zero_le _
  · first | exact wo.w.da | (intro x hx; cases hx)
  · exact wo.ok.1
  · first | exact wo.ok.2 | (intro x hx; cases hx)
  · obtain ⟨z1_, z2_, z3_, z4_, z5_, z6_, z7_, z8_⟩ := z
    constructor <;> first | assumption | exact Nat.zero_le _ | exact ⟨Nat.zero_le _, fun x hx => by cases hx⟩
  · unfold mayA listsN at ha ⊢
    simp only [Bool.and_eq_true] at ha ⊢
    obtain ⟨⟨⟨⟨a1, a2⟩, ⟨⟨⟨⟨⟨⟨b1, b2⟩, b3⟩, b4⟩, b5⟩, b6⟩, b7⟩⟩, a4⟩, a5⟩ := ha
    refine ⟨⟨⟨⟨a1, a2⟩, ⟨⟨⟨⟨⟨⟨?_, ?_⟩, ?_⟩, ?_⟩, ?_⟩, ?_⟩, ?_⟩⟩, a4⟩, a5⟩ <;> first | assumption | exact alln_nil (by decide) | exact alln_more b3 (by show (_ : Int) ≤ ((16 : Nat) : Int) - ((0 : Nat) : Int); omega)
  · have hs := sec_pos (no := 1) (pt := ftB) (of_decide_eq_true h)
    rw [l2, l1]
    dsimp only
    rw [sec_none]
    omega
  · have : m.ty = [] := List.eq_nil_of_length_eq_zero (by have := of_decide_eq_false h; omega)
    obtain ⟨ty, im, fn, tb, me, gl, ex, el, co, da⟩ := m
    dsimp only at this ⊢
    rw [this]
  · have h' := of_decide_eq_true h
    rw [← e] at h'
    simp at h'
theorem less_im {m : Md} (wo : m.WO) (z : m.Z) (ha : mayA m = true) : LessF m { m with im := [] } (decide (0 < m.im.length)) := by
  have l1 := writ_len m
  have l2 := writ_len { m with im := [] }
  refine ⟨⟨⟨?_, ?_, ?_, ?_, ?_⟩, ?_, ?_⟩, ?_, ?_, fun h => ?_, fun h => ?_, fun h e => ?_⟩
  · first | exact wo.w.im | (intro x hx; cases hx)
  · first | exact wo.w.ex | (intro x hx; cases hx)
  · exact wo.w.co
  · first | exact wo.w.il | exact Nat.zero_le _
  · first | exact wo.w.da | (intro x hx; cases hx)
  · exact wo.ok.1
  · first | exact wo.ok.2 | (intro x hx; cases hx)
  · obtain ⟨z1_, z2_, z3_, z4_, z5_, z6_, z7_, z8_⟩ := z
    constructor <;> first | assumption | exact Nat.zero_le _ | exact ⟨Nat.zero_le _, fun x hx => by cases hx⟩
  · unfold mayA listsN at ha ⊢
    simp only [Bool.and_eq_true] at ha ⊢
    obtain ⟨⟨⟨⟨a1, a2⟩, ⟨⟨⟨⟨⟨⟨b1, b2⟩, b3⟩, b4⟩, b5⟩, b6⟩, b7⟩⟩, a4⟩, a5⟩ := ha
    refine ⟨⟨⟨⟨a1, a2⟩, ⟨⟨⟨⟨⟨⟨?_, ?_⟩, ?_⟩, ?_⟩, ?_⟩, ?_⟩, ?_⟩⟩, a4⟩, a5⟩ <;> first | assumption | exact alln_nil (by decide) | exact alln_more b3 (by show (_ : Int) ≤ ((16 : Nat) : Int) - ((0 : Nat) : Int); omega)
  · have hs := sec_pos (no := 2) (pt := imB) (of_decide_eq_true h)
    rw [l2, l1]
    dsimp only
    rw [sec_none]
    omega
  · have : m.im = [] := List.eq_nil_of_length_eq_zero (by have := of_decide_eq_false h; omega)
    obtain ⟨ty, im, fn, tb, me, gl, ex, el, co, da⟩ := m
    dsimp only at this ⊢
    rw [this]
  · have h' := of_decide_eq_true h
    rw [← e] at h'
    simp at h'
theorem less_gl {m : Md} (wo : m.WO) (z : m.Z) (ha : mayA m = true) : LessF m { m with gl := [] } (decide (0 < m.gl.length)) := by
  have l1 := writ_len m
  have l2 := writ_len { m with gl := [] }
  refine ⟨⟨⟨?_, ?_, ?_, ?_, ?_⟩, ?_, ?_⟩, ?_, ?_, fun h => ?_, fun h => ?_, fun h e => ?_⟩
  · first | exact wo.w.im | (intro x hx; cases hx)
  · first | exact wo.w.ex | (intro x hx; cases hx)
  · exact wo.w.co
  · first | exact wo.w.il | exact Nat.zero_le _
  · first | exact wo.w.da | (intro x hx; cases hx)
  · exact wo.ok.1
  · first | exact wo.ok.2 | (intro x hx; cases hx)
  · obtain ⟨z1_, z2_, z3_, z4_, z5_, z6_, z7_, z8_⟩ := z
    constructor <;> first | assumption | exact Nat.zero_le _ | exact ⟨Nat.zero_le _, fun x hx => by cases hx⟩
  · unfold mayA listsN at ha ⊢
    simp only [Bool.and_eq_true] at ha ⊢
    obtain ⟨⟨⟨⟨a1, a2⟩, ⟨⟨⟨⟨⟨⟨b1, b2⟩, b3⟩, b4⟩, b5⟩, b6⟩, b7⟩⟩, a4⟩, a5⟩ := ha
    refine ⟨⟨⟨⟨a1, a2⟩, ⟨⟨⟨⟨⟨⟨?_, ?_⟩, ?_⟩, ?_⟩, ?_⟩, ?_⟩, ?_⟩⟩, a4⟩, a5⟩ <;> first | assumption | exact alln_nil (by decide) | exact alln_more b3 (by show (_ : Int) ≤ ((16 : Nat) : Int) - ((0 : Nat) : Int); omega)
  · have hs := sec_pos (no := 6) (pt := glB) (of_decide_eq_true h)
    rw [l2, l1]
    dsimp only
    rw [sec_none]
    omega
  · have : m.gl = [] := List.eq_nil_of_length_eq_zero (by have := of_decide_eq_false h; omega)
    obtain ⟨ty, im, fn, tb, me, gl, ex, el, co, da⟩ := m
    dsimp only at this ⊢
    rw [this]
  · have h' := of_decide_eq_true h
    rw [← e] at h'
    simp at h'
theorem less_ex {m : Md} (wo : m.WO) (z : m.Z) (ha : mayA m = true) : LessF m { m with ex := [] } (decide (0 < m.ex.length)) := by
  have l1 := writ_len m
  have l2 := writ_len { m with ex := [] }
  refine ⟨⟨⟨?_, ?_, ?_, ?_, ?_⟩, ?_, ?_⟩, ?_, ?_, fun h => ?_, fun h => ?_, fun h e => ?_⟩
  · first | exact wo.w.im | (intro x hx; cases hx)
  · first | exact wo.w.ex | (intro x hx; cases hx)
  · exact wo.w.co
  · first | exact wo.w.il | exact Nat.zero_le _
  · first | exact wo.w.da | (intro x hx; cases hx)
  · exact wo.ok.1
  · first | exact wo.ok.2 | (intro x hx; cases hx)
  · obtain ⟨z1_, z2_, z3_, z4_, z5_, z6_, z7_, z8_⟩ := z
    constructor <;> first | assumption | exact Nat.zero_le _ | exact ⟨Nat.zero_le _, fun x hx => by cases hx⟩
  · unfold mayA listsN at ha ⊢
    simp only [Bool.and_eq_true] at ha ⊢
    obtain ⟨⟨⟨⟨a1, a2⟩, ⟨⟨⟨⟨⟨⟨b1, b2⟩, b3⟩, b4⟩, b5⟩, b6⟩, b7⟩⟩, a4⟩, a5⟩ := ha
    refine ⟨⟨⟨⟨a1, a2⟩, ⟨⟨⟨⟨⟨⟨?_, ?_⟩, ?_⟩, ?_⟩, ?_⟩, ?_⟩, ?_⟩⟩, a4⟩, a5⟩ <;> first | assumption | exact alln_nil (by decide) | exact alln_more b3 (by show (_ : Int) ≤ ((16 : Nat) : Int) - ((0 : Nat) : Int); omega)
  · have hs := sec_pos (no := 7) (pt := exB) (of_decide_eq_true h)
    rw [l2, l1]
    dsimp only
    rw [sec_none]
    omega
  · have : m.ex = [] := List.eq_nil_of_length_eq_zero (by have := of_decide_eq_false h; omega)
    obtain ⟨ty, im, fn, tb, me, gl, ex, el, co, da⟩ := m
    dsimp only at this ⊢
    rw [this]
  · have h' := of_decide_eq_true h
    rw [← e] at h'
    simp at h'
theorem less_el {m : Md} (wo : m.WO) (z : m.Z) (ha : mayA m = true) : LessF m { m with el := [] } (decide (0 < m.el.length)) := by
  have l1 := writ_len m
  have l2 := writ_len { m with el := [] }
  refine ⟨⟨⟨?_, ?_, ?_, ?_, ?_⟩, ?_, ?_⟩, ?_, ?_, fun h => ?_, fun h => ?_, fun h e => ?_⟩
  · first | exact wo.w.im | (intro x hx; cases hx)
  · first | exact wo.w.ex | (intro x hx; cases hx)
  · exact wo.w.co
  · first | exact wo.w.il | exact Nat.zero_le _
  · first | exact wo.w.da | (intro x hx; cases hx)
  · exact wo.ok.1
  · first | exact wo.ok.2 | (intro x hx; cases hx)
  · obtain ⟨z1_, z2_, z3_, z4_, z5_, z6_, z7_, z8_⟩ := z
    constructor <;> first | assumption | exact Nat.zero_le _ | exact ⟨Nat.zero_le _, fun x hx => by cases hx⟩
  · unfold mayA listsN at ha ⊢
    simp only [Bool.and_eq_true] at ha ⊢
    obtain ⟨⟨⟨⟨a1, a2⟩, ⟨⟨⟨⟨⟨⟨b1, b2⟩, b3⟩, b4⟩, b5⟩, b6⟩, b7⟩⟩, a4⟩, a5⟩ := ha
    refine ⟨⟨⟨⟨a1, a2⟩, ⟨⟨⟨⟨⟨⟨?_, ?_⟩, ?_⟩, ?_⟩, ?_⟩, ?_⟩, ?_⟩⟩, a4⟩, a5⟩ <;> first | assumption | exact alln_nil (by decide) | exact alln_more b3 (by show (_ : Int) ≤ ((16 : Nat) : Int) - ((0 : Nat) : Int); omega)
  · have hs := sec_pos (no := 9) (pt := elB) (of_decide_eq_true h)
    rw [l2, l1]
    dsimp only
    rw [sec_none]
    omega
  · have : m.el = [] := List.eq_nil_of_length_eq_zero (by have := of_decide_eq_false h; omega)
    obtain ⟨ty, im, fn, tb, me, gl, ex, el, co, da⟩ := m
    dsimp only at this ⊢
    rw [this]
  · have h' := of_decide_eq_true h
    rw [← e] at h'
    simp at h'
theorem less_da {m : Md} (wo : m.WO) (z : m.Z) (ha : mayA m = true) : LessF m { m with da := [] } (decide (0 < m.da.length)) := by
  have l1 := writ_len m
  have l2 := writ_len { m with da := [] }
  refine ⟨⟨⟨?_, ?_, ?_, ?_, ?_⟩, ?_, ?_⟩, ?_, ?_, fun h => ?_, fun h => ?_, fun h e => ?_⟩
  · first | exact wo.w.im | (intro x hx; cases hx)
  · first | exact wo.w.ex | (intro x hx; cases hx)
  · exact wo.w.co
  · first | exact wo.w.il | exact Nat.zero_le _
  · first | exact wo.w.da | (intro x hx; cases hx)
  · exact wo.ok.1
  · first | exact wo.ok.2 | (intro x hx; cases hx)
  · obtain ⟨z1_, z2_, z3_, z4_, z5_, z6_, z7_, z8_⟩ := z
    constructor <;> first | assumption | exact Nat.zero_le _ | exact ⟨Nat.zero_le _, fun x hx => by cases hx⟩
  · unfold mayA listsN at ha ⊢
    simp only [Bool.and_eq_true] at ha ⊢
    obtain ⟨⟨⟨⟨a1, a2⟩, ⟨⟨⟨⟨⟨⟨b1, b2⟩, b3⟩, b4⟩, b5⟩, b6⟩, b7⟩⟩, a4⟩, a5⟩ := ha
    refine ⟨⟨⟨⟨a1, a2⟩, ⟨⟨⟨⟨⟨⟨?_, ?_⟩, ?_⟩, ?_⟩, ?_⟩, ?_⟩, ?_⟩⟩, a4⟩, a5⟩ <;> first | assumption | exact alln_nil (by decide) | exact alln_more b3 (by show (_ : Int) ≤ ((16 : Nat) : Int) - ((0 : Nat) : Int); omega)
  · have hs := sec_pos (no := 11) (pt := daB) (of_decide_eq_true h)
    rw [l2, l1]
    dsimp only
    rw [sec_none]
    omega
  · have : m.da = [] := List.eq_nil_of_length_eq_zero (by have := of_decide_eq_false h; omega)
    obtain ⟨ty, im, fn, tb, me, gl, ex, el, co, da⟩ := m
    dsimp only at this ⊢
    rw [this]
  · have h' := of_decide_eq_true h
    rw [← e] at h'
    simp at h'
theorem less_me {m : Md} (wo : m.WO) (z : m.Z) (ha : mayA m = true) : LessF m { m with me := li0 } m.me.has := by
  have l1 := writ_len m
  have l2 := writ_len { m with me := li0 }
  have hme : limN m.me 16 65536 = true := by unfold mayA at ha; simp only [Bool.and_eq_true] at ha; exact ha.2
  refine ⟨⟨⟨wo.w.im, wo.w.ex, wo.w.co, wo.w.il, wo.w.da⟩, wo.ok.1, wo.ok.2⟩, ⟨z.ty, z.im, z.fn, z.gl, z.ex, z.el, z.co, z.da⟩, ?_, fun h => ?_, fun h => ?_, fun h e => ?_⟩
  · unfold mayA at ha ⊢
    simp only [Bool.and_eq_true] at ha ⊢
    exact ⟨ha.1, rfl⟩
  · have hs := sec_pos (no := 5) (pt := limB) (l := oneL m.me) (by unfold oneL; rw [h]; simp)
    rw [l2, l1]
    dsimp only
    rw [show oneL li0 = [] from rfl, sec_none]
    omega
  · obtain ⟨ty, im, fn, tb, ⟨hs, mn, mx⟩, gl, ex, el, co, da⟩ := m
    dsimp only at h hme ⊢
    subst h
    simp [limN] at hme
    obtain ⟨rfl, rfl⟩ := hme
    rfl
  · rw [← e] at h; cases h
/-! ### cut twice is cut once -/
theorem out_out {α : Type} {f : α → α} (hf : ∀ x, f (f x) = f x) (l : List α) (n : Nat) : outJ f (outJ f l n) n = outJ f l n := by
  unfold outJ
  rw [← List.map_take, List.take_take, Nat.min_self, List.map_map]
  exact List.map_congr_left fun x _ => hf x
theorem cut_comp : (cutN ∘ cutN) = cutN := by funext y; simp [cutN, Function.comp, List.take_take]
theorem cut_cut (m : Md) : cutM (cutM m) = cutM m := by
  unfold cutM
  dsimp only
  rw [out_out (fun x => by simp [cutT, List.take_take]), out_out (fun x => by simp [cutI, List.take_take]), out_out (f := cutG) (fun x => rfl), out_out (fun x => by simp [cutX, List.take_take]), out_out (fun x => by simp [cutE, List.take_take]), out_out (fun x => by simp [cutC, List.take_take, bodyN, cut_comp]), out_out (fun x => by simp [cutD, List.take_take])]
  simp [List.take_take]
end Go.Proofs.YtfihcehdoikfkaaGreat
/-
  A module of which one part is left out has fewer bytes, and is another one, if that part had something.
-/
namespace Go.Proofs.YtfihcehdoikfkaaGreat
open Go.RowKit Go.ChangeShapes Go.WideShapes Go.ChangeAt Go.Deep
attribute [local irreducible] SW RS RD AThen ABlock
theorem cut_a {m : Md} : (cutM m).A := by
  have hl : ∀ {α : Type} (f : α → α) (l : List α), (outJ f l 18).length ≤ maxLen := fun f l => Nat.le_trans (out_le f l 18) (by unfold maxLen; omega)
  have ht : ∀ {α : Type} (l : List α) (n : Nat), n ≤ 2000 → (l.take n).length ≤ maxLen := fun l n hn => by unfold maxLen; simp; omega
  refine ⟨⟨hl _ _, fun x hx => ?_⟩, ⟨hl _ _, fun x hx => ?_⟩, ht _ _ (by decide), hl _ _, ⟨hl _ _, fun x hx => ?_⟩, ⟨hl _ _, fun x hx => ?_⟩, ⟨hl _ _, fun x hx => ?_⟩, ⟨hl _ _, fun x hx => ?_⟩⟩
  · obtain ⟨y, hy, rfl⟩ := mem_out hx
    exact ⟨ht _ _ (by decide), ht _ _ (by decide)⟩
  · obtain ⟨y, hy, rfl⟩ := mem_out hx
    exact ⟨ht _ _ (by decide), ht _ _ (by decide)⟩
  · obtain ⟨y, hy, rfl⟩ := mem_out hx
    exact ht _ _ (by decide)
  · obtain ⟨y, hy, rfl⟩ := mem_out hx
    exact ht _ _ (by decide)
  · obtain ⟨y, hy, rfl⟩ := mem_out hx
    refine ⟨ht _ _ (by decide), by unfold maxLen; simp [cutC, bodyN]; omega, fun i hi => ?_⟩
    obtain ⟨z, hz, rfl⟩ := List.mem_map.1 hi
    exact ht _ _ (by decide)
  · obtain ⟨y, hy, rfl⟩ := mem_out hx
    exact ht _ _ (by decide)
theorem gt_len {n : Nat} : decide (0 < (n : Int)) = decide (0 < n) := decide_eq_decide.2 (by omega)
theorem parts_end {m D : Md} {g : Bool} (hL : LessF m D g) (hm : mayM m = true) (wm : m.WO) : (if (if (if (if mayM D = true then decide (8 ≤ ((encB D).length : Int)) else false) = true then decide (((encB D).length : Int) < ((encB m).length : Int)) == g else false) = true then eqM m D == !g else false) = true then ((strU (encB m)).toList == (strU (encB D)).toList) == !g else false) = true := by
  have hD := hL.may hm
  have e1 : encB D = writB D := if_pos hD
  have e2 : encB m = writB m := if_pos hm
  have l8 := head_ge D
  have e3 : decide (((writB D).length : Int) < ((writB m).length : Int)) = g := by
    cases g with
    | false => rw [hL.eq rfl]; exact decide_eq_false (by omega)
    | true => have := hL.lt rfl; exact decide_eq_true (by omega)
  rw [strU_inj (encB_lt wm) (encB_lt hL.wo), e1, e2, hL.eqm, hL.bts, hD, e3, decide_eq_true (show (8 : Int) ≤ ((writB D).length : Int) by omega)]
  simp
theorem law_wasmParts2 (a : Md) (w : Int) (ha : a.R) : SCall Tryz.prog 5 [.agg (encMd a), .int .i64 w] [] (fun y σ => y = .bool true ∧ σ = []) := by
  have wM := cut_wo ha
  have zM := cut_z (m := a)
  have aM := cut_a (m := a)
  have ca := law_cutM a ha.a
  have cc := law_cutM (cutM a) aM
  rw [cut_cut] at cc
  refine scall_of (n := 109) (ks := [0, 1, 2, 4, 5, 6, 7, 8, 9, 12, 17, 23, 29, 36, 43, 50, 57, 64]) Tryz.func5 rfl rfl (Nat.le_of_ble_eq_true rfl) ?_
  refine ctlT ?_
  obtain ⟨ty, im, fn, tb, me, gl, ex, el, co, da⟩ := a
  refine rgT ?_
  apply bx; rfl; rfl; (exact zcT); rfl; refine freshT fun r2 h2 => ?_; repeat rcases h2 with ⟨_, h2⟩
  refine sq23 ?_
  refine puA Tryz.call10 law_begun7 rfl pargsT nofT ?_
  refine sq36 ?_
  refine lo (lop_not (E rfl)) rfl ?_
  refine leT ?_
  refine sq74 ?_
  refine cw [] Tryz.call11 ca rfl argsleT stleT ?_
  rintro _ σ' ⟨rfl, rfl⟩ h14
  apply rs_sto; exact nflT
  apply stp; rfl; rfl; rfl; rfl; (exact sputT)
  refine sq5 ?_
  generalize cutM ⟨ty, im, fn, tb, me, gl, ex, el, co, da⟩ = M at wM zM aM cc ⊢
  obtain ⟨ty, im, fn, tb, me, gl, ex, el, co, da⟩ := M
  refine rgT ?_
  refine z99 ?_
  refine puA Tryz.call12 (ref_may ⟨ty, im, fn, tb, me, gl, ex, el, co, da⟩ wM zM) rfl pargsT nofT ?_
  refine sq49 ?_
  refine sw_cond rfl (fun g5 => ?_) (fun g5 => ?_)
  · refine sq7 ?_
    apply aend; exact resT
    · exact ⟨rfl, rfl⟩
    · exact stleT
  have hmay : mayM ⟨ty, im, fn, tb, me, gl, ex, el, co, da⟩ = true := by simpa using g5
  have hA := (may_a hmay).1
  have wen := wasm_encode ⟨ty, im, fn, tb, me, gl, ex, el, co, da⟩ wM
  have hen : encB ⟨ty, im, fn, tb, me, gl, ex, el, co, da⟩ = writB ⟨ty, im, fn, tb, me, gl, ex, el, co, da⟩ := if_pos hmay
  refine sq74 ?_
  refine cw [] Tryz.call11 cc rfl argsleT stleT ?_
  rintro _ σ' ⟨rfl, rfl⟩ h19
  apply rs_sto; exact nflT
  apply al; rfl; (exact zcT); refine freshT fun r6 h6 => ?_; repeat rcases h6 with ⟨_, h6⟩
  apply stp; rfl; rfl; rfl; rfl; (exact sputT)
  refine leT ?_
  refine sq32 ?_
  refine z22 ?_
  refine z17 ?_
  refine z22 ?_
  refine leT ?_
  refine sq30 ?_
  refine sw_cond rfl (fun g11 => ?_) (fun g11 => ?_)
  · refine sq38 ?_
    refine sq46 ?_
    refine sq100 ?_
    apply stp; rfl; rfl; rfl; rfl; (exact sputT)
    refine sq5 ?_
    have hL : LessF ⟨ty, im, fn, tb, me, gl, ex, el, co, da⟩ ⟨[], im, fn, tb, me, gl, ex, el, co, da⟩ (decide (0 < ty.length)) := less_ty wM zM hA
    rw [gt_len]
    refine sw_go (sgo_leb (r := r6) (cs' := encMd ⟨[], im, fn, tb, me, gl, ex, el, co, da⟩) ssetT (.cons (.le VLe.empty) (.cons (.refl _) (.cons (.refl _) (.cons (.refl _) (.cons (.refl _) (.cons (.refl _) (.cons (.refl _) (.cons (.refl _) (.cons (.refl _) (.cons (.refl _) (.cons (.refl _) (.cons (.refl _) (.cons (.refl _) (.cons (.refl _) .nil))))))))))))))) ?_
    generalize (⟨[], im, fn, tb, me, gl, ex, el, co, da⟩ : Md) = D at hL ⊢
    generalize decide (0 < ty.length) = g at hL ⊢
    refine rgD [(0, true), (2, true), (1, false), (3, false), (4, true), (5, true)] ?_
    refine z96 ?_
    refine z96 ?_
    refine dclA rfl Tryz.call13 wen rfl bargsT noT ?_
    rintro _ σ' ⟨q72, rfl, rfl⟩ h72
    replace h72 := lnewT h72; repeat rcases h72 with ⟨_, h72⟩
    apply rd_sto; exact nflT
    refine dfzv (j := 72) rfl sdelT (bor_own sgT (by simp)) ?_
    refine dclA rfl Tryz.call13 (wasm_encode D hL.wo) rfl bargsT noT ?_
    rintro _ σ' ⟨q74, rfl, rfl⟩ h74
    replace h74 := lnewT h74; repeat rcases h74 with ⟨_, h74⟩
    apply rd_sto; exact nflT
    refine dfzv (j := 74) rfl sdelT (bor_own sgT (by simp)) ?_
    refine sq22 ?_
    refine sq74 ?_
    refine puA Tryz.call14 (wasm_may D hL.wo) rfl pargsT nofT ?_
    refine sq8 ?_
    refine z124 ?_
    refine z123 ?_
    refine sq70 ?_
    refine z124 ?_
    refine z109 ?_
    refine z124 ?_
    refine z110 ?_
    refine z109 ?_
    first | refine ln rfl rfl rfl rfl ?_ | (refine gy rfl rfl ?_; refine lo (lop_beql (by first | exact W rfl id | exact E rfl) (by first | exact W rfl id | exact E rfl)) rfl ?_) | refine lg rfl rfl (lop_beql (by first | exact W rfl id | exact E rfl) (by first | exact W rfl id | exact E rfl)) rfl ?_
    refine z68 ?_
    refine sq61 ?_
    refine z139 ?_
    refine pugA rfl rfl Tryz.call15 (fun _ => (wasm_eq ⟨ty, im, fn, tb, me, gl, ex, el, co, da⟩ D wM.w hL.wo.w)) rfl pargsT nofT ?_
    refine sq101 ?_
    first | refine ln rfl rfl rfl rfl ?_ | (refine gy rfl rfl ?_; refine lo (lop_beql (by first | exact W rfl id | exact E rfl) (by first | exact W rfl id | exact E rfl)) rfl ?_) | refine lg rfl rfl (lop_beql (by first | exact W rfl id | exact E rfl) (by first | exact W rfl id | exact E rfl)) rfl ?_
    refine sq70 ?_
    first | refine ln rfl rfl rfl rfl ?_ | (refine gy rfl rfl ?_; (first | refine lo (lop_bytes_ro (by first | exact W rfl id | exact E rfl)) rfl ?_ | refine lo (lop_text_own (by first | exact W rfl id | exact E rfl)) rfl ?_)) | refine lg rfl rfl (lop_bytes_ro (by first | exact W rfl id | exact E rfl)) rfl ?_ | refine lg rfl rfl (lop_text_own (by first | exact W rfl id | exact E rfl)) rfl ?_
    refine z109 ?_
    first | refine ln rfl rfl rfl rfl ?_ | (refine gy rfl rfl ?_; (first | refine lo (lop_bytes_ro (by first | exact W rfl id | exact E rfl)) rfl ?_ | refine lo (lop_text_own (by first | exact W rfl id | exact E rfl)) rfl ?_)) | refine lg rfl rfl (lop_bytes_ro (by first | exact W rfl id | exact E rfl)) rfl ?_ | refine lg rfl rfl (lop_text_own (by first | exact W rfl id | exact E rfl)) rfl ?_
    refine z155 ?_
    refine sq101 ?_
    first | refine ln rfl rfl rfl rfl ?_ | (refine gy rfl rfl ?_; refine lo (lop_beql (by first | exact W rfl id | exact E rfl) (by first | exact W rfl id | exact E rfl)) rfl ?_) | refine lg rfl rfl (lop_beql (by first | exact W rfl id | exact E rfl) (by first | exact W rfl id | exact E rfl)) rfl ?_
    refine sq31 ?_
    apply aend; exact resT
    · exact ⟨by rw [parts_end hL hmay wM]; rfl, rfl⟩
    · exact stleT
  refine sq30 ?_
  refine sw_cond rfl (fun g13 => ?_) (fun g13 => ?_)
  · refine sq38 ?_
    refine sq46 ?_
    refine sq100 ?_
    apply stp; rfl; rfl; rfl; rfl; (exact sputT)
    refine sq5 ?_
    have hL : LessF ⟨ty, im, fn, tb, me, gl, ex, el, co, da⟩ ⟨ty, [], fn, tb, me, gl, ex, el, co, da⟩ (decide (0 < im.length)) := less_im wM zM hA
    rw [gt_len]
    refine sw_go (sgo_leb (r := r6) (cs' := encMd ⟨ty, [], fn, tb, me, gl, ex, el, co, da⟩) ssetT (.cons (.refl _) (.cons (.le VLe.empty) (.cons (.refl _) (.cons (.refl _) (.cons (.refl _) (.cons (.refl _) (.cons (.refl _) (.cons (.refl _) (.cons (.refl _) (.cons (.refl _) (.cons (.refl _) (.cons (.refl _) (.cons (.refl _) (.cons (.refl _) .nil))))))))))))))) ?_
    generalize (⟨ty, [], fn, tb, me, gl, ex, el, co, da⟩ : Md) = D at hL ⊢
    generalize decide (0 < im.length) = g at hL ⊢
    refine rgD [(0, true), (2, true), (1, false), (3, false), (4, true), (5, true)] ?_
    refine z96 ?_
    refine z96 ?_
    refine dclA rfl Tryz.call13 wen rfl bargsT noT ?_
    rintro _ σ' ⟨q72, rfl, rfl⟩ h72
    replace h72 := lnewT h72; repeat rcases h72 with ⟨_, h72⟩
    apply rd_sto; exact nflT
    refine dfzv (j := 72) rfl sdelT (bor_own sgT (by simp)) ?_
    refine dclA rfl Tryz.call13 (wasm_encode D hL.wo) rfl bargsT noT ?_
    rintro _ σ' ⟨q74, rfl, rfl⟩ h74
    replace h74 := lnewT h74; repeat rcases h74 with ⟨_, h74⟩
    apply rd_sto; exact nflT
    refine dfzv (j := 74) rfl sdelT (bor_own sgT (by simp)) ?_
    refine sq22 ?_
    refine sq74 ?_
    refine puA Tryz.call14 (wasm_may D hL.wo) rfl pargsT nofT ?_
    refine sq8 ?_
    refine z124 ?_
    refine z123 ?_
    refine sq70 ?_
    refine z124 ?_
    refine z109 ?_
    refine z124 ?_
    refine z110 ?_
    refine z109 ?_
    first | refine ln rfl rfl rfl rfl ?_ | (refine gy rfl rfl ?_; refine lo (lop_beql (by first | exact W rfl id | exact E rfl) (by first | exact W rfl id | exact E rfl)) rfl ?_) | refine lg rfl rfl (lop_beql (by first | exact W rfl id | exact E rfl) (by first | exact W rfl id | exact E rfl)) rfl ?_
    refine z68 ?_
    refine sq61 ?_
    refine z139 ?_
    refine pugA rfl rfl Tryz.call15 (fun _ => (wasm_eq ⟨ty, im, fn, tb, me, gl, ex, el, co, da⟩ D wM.w hL.wo.w)) rfl pargsT nofT ?_
    refine sq101 ?_
    first | refine ln rfl rfl rfl rfl ?_ | (refine gy rfl rfl ?_; refine lo (lop_beql (by first | exact W rfl id | exact E rfl) (by first | exact W rfl id | exact E rfl)) rfl ?_) | refine lg rfl rfl (lop_beql (by first | exact W rfl id | exact E rfl) (by first | exact W rfl id | exact E rfl)) rfl ?_
    refine sq70 ?_
    first | refine ln rfl rfl rfl rfl ?_ | (refine gy rfl rfl ?_; (first | refine lo (lop_bytes_ro (by first | exact W rfl id | exact E rfl)) rfl ?_ | refine lo (lop_text_own (by first | exact W rfl id | exact E rfl)) rfl ?_)) | refine lg rfl rfl (lop_bytes_ro (by first | exact W rfl id | exact E rfl)) rfl ?_ | refine lg rfl rfl (lop_text_own (by first | exact W rfl id | exact E rfl)) rfl ?_
    refine z109 ?_
    first | refine ln rfl rfl rfl rfl ?_ | (refine gy rfl rfl ?_; (first | refine lo (lop_bytes_ro (by first | exact W rfl id | exact E rfl)) rfl ?_ | refine lo (lop_text_own (by first | exact W rfl id | exact E rfl)) rfl ?_)) | refine lg rfl rfl (lop_bytes_ro (by first | exact W rfl id | exact E rfl)) rfl ?_ | refine lg rfl rfl (lop_text_own (by first | exact W rfl id | exact E rfl)) rfl ?_
    refine z155 ?_
    refine sq101 ?_
    first | refine ln rfl rfl rfl rfl ?_ | (refine gy rfl rfl ?_; refine lo (lop_beql (by first | exact W rfl id | exact E rfl) (by first | exact W rfl id | exact E rfl)) rfl ?_) | refine lg rfl rfl (lop_beql (by first | exact W rfl id | exact E rfl) (by first | exact W rfl id | exact E rfl)) rfl ?_
    refine sq31 ?_
    apply aend; exact resT
    · exact ⟨by rw [parts_end hL hmay wM]; rfl, rfl⟩
    · exact stleT
  refine sq30 ?_
  refine sw_cond rfl (fun g15 => ?_) (fun g15 => ?_)
  · refine sq38 ?_
    refine sq46 ?_
    refine sq100 ?_
    apply stp; rfl; rfl; rfl; rfl; (exact sputT)
    refine sq5 ?_
    have hL : LessF ⟨ty, im, fn, tb, me, gl, ex, el, co, da⟩ ⟨ty, im, fn, tb, me, [], ex, el, co, da⟩ (decide (0 < gl.length)) := less_gl wM zM hA
    rw [gt_len]
    refine sw_go (sgo_leb (r := r6) (cs' := encMd ⟨ty, im, fn, tb, me, [], ex, el, co, da⟩) ssetT (.cons (.refl _) (.cons (.refl _) (.cons (.refl _) (.cons (.refl _) (.cons (.refl _) (.cons (.refl _) (.cons (.refl _) (.cons (.refl _) (.cons (.refl _) (.cons (.le VLe.empty) (.cons (.refl _) (.cons (.refl _) (.cons (.refl _) (.cons (.refl _) .nil))))))))))))))) ?_
    generalize (⟨ty, im, fn, tb, me, [], ex, el, co, da⟩ : Md) = D at hL ⊢
    generalize decide (0 < gl.length) = g at hL ⊢
    refine rgD [(0, true), (2, true), (1, false), (3, false), (4, true), (5, true)] ?_
    refine z96 ?_
    refine z96 ?_
    refine dclA rfl Tryz.call13 wen rfl bargsT noT ?_
    rintro _ σ' ⟨q72, rfl, rfl⟩ h72
    replace h72 := lnewT h72; repeat rcases h72 with ⟨_, h72⟩
    apply rd_sto; exact nflT
    refine dfzv (j := 72) rfl sdelT (bor_own sgT (by simp)) ?_
    refine dclA rfl Tryz.call13 (wasm_encode D hL.wo) rfl bargsT noT ?_
    rintro _ σ' ⟨q74, rfl, rfl⟩ h74
    replace h74 := lnewT h74; repeat rcases h74 with ⟨_, h74⟩
    apply rd_sto; exact nflT
    refine dfzv (j := 74) rfl sdelT (bor_own sgT (by simp)) ?_
    refine sq22 ?_
    refine sq74 ?_
    refine puA Tryz.call14 (wasm_may D hL.wo) rfl pargsT nofT ?_
    refine sq8 ?_
    refine z124 ?_
    refine z123 ?_
    refine sq70 ?_
    refine z124 ?_
    refine z109 ?_
    refine z124 ?_
    refine z110 ?_
    refine z109 ?_
    first | refine ln rfl rfl rfl rfl ?_ | (refine gy rfl rfl ?_; refine lo (lop_beql (by first | exact W rfl id | exact E rfl) (by first | exact W rfl id | exact E rfl)) rfl ?_) | refine lg rfl rfl (lop_beql (by first | exact W rfl id | exact E rfl) (by first | exact W rfl id | exact E rfl)) rfl ?_
    refine z68 ?_
    refine sq61 ?_
    refine z139 ?_
    refine pugA rfl rfl Tryz.call15 (fun _ => (wasm_eq ⟨ty, im, fn, tb, me, gl, ex, el, co, da⟩ D wM.w hL.wo.w)) rfl pargsT nofT ?_
    refine sq101 ?_
    first | refine ln rfl rfl rfl rfl ?_ | (refine gy rfl rfl ?_; refine lo (lop_beql (by first | exact W rfl id | exact E rfl) (by first | exact W rfl id | exact E rfl)) rfl ?_) | refine lg rfl rfl (lop_beql (by first | exact W rfl id | exact E rfl) (by first | exact W rfl id | exact E rfl)) rfl ?_
    refine sq70 ?_
    first | refine ln rfl rfl rfl rfl ?_ | (refine gy rfl rfl ?_; (first | refine lo (lop_bytes_ro (by first | exact W rfl id | exact E rfl)) rfl ?_ | refine lo (lop_text_own (by first | exact W rfl id | exact E rfl)) rfl ?_)) | refine lg rfl rfl (lop_bytes_ro (by first | exact W rfl id | exact E rfl)) rfl ?_ | refine lg rfl rfl (lop_text_own (by first | exact W rfl id | exact E rfl)) rfl ?_
    refine z109 ?_
    first | refine ln rfl rfl rfl rfl ?_ | (refine gy rfl rfl ?_; (first | refine lo (lop_bytes_ro (by first | exact W rfl id | exact E rfl)) rfl ?_ | refine lo (lop_text_own (by first | exact W rfl id | exact E rfl)) rfl ?_)) | refine lg rfl rfl (lop_bytes_ro (by first | exact W rfl id | exact E rfl)) rfl ?_ | refine lg rfl rfl (lop_text_own (by first | exact W rfl id | exact E rfl)) rfl ?_
    refine z155 ?_
    refine sq101 ?_
    first | refine ln rfl rfl rfl rfl ?_ | (refine gy rfl rfl ?_; refine lo (lop_beql (by first | exact W rfl id | exact E rfl) (by first | exact W rfl id | exact E rfl)) rfl ?_) | refine lg rfl rfl (lop_beql (by first | exact W rfl id | exact E rfl) (by first | exact W rfl id | exact E rfl)) rfl ?_
    refine sq31 ?_
    apply aend; exact resT
    · exact ⟨by rw [parts_end hL hmay wM]; rfl, rfl⟩
    · exact stleT
  refine sq30 ?_
  refine sw_cond rfl (fun g17 => ?_) (fun g17 => ?_)
  · refine sq38 ?_
    refine sq46 ?_
    refine sq100 ?_
    apply stp; rfl; rfl; rfl; rfl; (exact sputT)
    refine sq5 ?_
    have hL : LessF ⟨ty, im, fn, tb, me, gl, ex, el, co, da⟩ ⟨ty, im, fn, tb, me, gl, [], el, co, da⟩ (decide (0 < ex.length)) := less_ex wM zM hA
    rw [gt_len]
    refine sw_go (sgo_leb (r := r6) (cs' := encMd ⟨ty, im, fn, tb, me, gl, [], el, co, da⟩) ssetT (.cons (.refl _) (.cons (.refl _) (.cons (.refl _) (.cons (.refl _) (.cons (.refl _) (.cons (.refl _) (.cons (.refl _) (.cons (.refl _) (.cons (.refl _) (.cons (.refl _) (.cons (.le VLe.empty) (.cons (.refl _) (.cons (.refl _) (.cons (.refl _) .nil))))))))))))))) ?_
    generalize (⟨ty, im, fn, tb, me, gl, [], el, co, da⟩ : Md) = D at hL ⊢
    generalize decide (0 < ex.length) = g at hL ⊢
    refine rgD [(0, true), (2, true), (1, false), (3, false), (4, true), (5, true)] ?_
    refine z96 ?_
    refine z96 ?_
    refine dclA rfl Tryz.call13 wen rfl bargsT noT ?_
    rintro _ σ' ⟨q72, rfl, rfl⟩ h72
    replace h72 := lnewT h72; repeat rcases h72 with ⟨_, h72⟩
    apply rd_sto; exact nflT
    refine dfzv (j := 72) rfl sdelT (bor_own sgT (by simp)) ?_
    refine dclA rfl Tryz.call13 (wasm_encode D hL.wo) rfl bargsT noT ?_
    rintro _ σ' ⟨q74, rfl, rfl⟩ h74
    replace h74 := lnewT h74; repeat rcases h74 with ⟨_, h74⟩
    apply rd_sto; exact nflT
    refine dfzv (j := 74) rfl sdelT (bor_own sgT (by simp)) ?_
    refine sq22 ?_
    refine sq74 ?_
    refine puA Tryz.call14 (wasm_may D hL.wo) rfl pargsT nofT ?_
    refine sq8 ?_
    refine z124 ?_
    refine z123 ?_
    refine sq70 ?_
    refine z124 ?_
    refine z109 ?_
    refine z124 ?_
    refine z110 ?_
    refine z109 ?_
    first | refine ln rfl rfl rfl rfl ?_ | (refine gy rfl rfl ?_; refine lo (lop_beql (by first | exact W rfl id | exact E rfl) (by first | exact W rfl id | exact E rfl)) rfl ?_) | refine lg rfl rfl (lop_beql (by first | exact W rfl id | exact E rfl) (by first | exact W rfl id | exact E rfl)) rfl ?_
    refine z68 ?_
    refine sq61 ?_
    refine z139 ?_
    refine pugA rfl rfl Tryz.call15 (fun _ => (wasm_eq ⟨ty, im, fn, tb, me, gl, ex, el, co, da⟩ D wM.w hL.wo.w)) rfl pargsT nofT ?_
    refine sq101 ?_
    first | refine ln rfl rfl rfl rfl ?_ | (refine gy rfl rfl ?_; refine lo (lop_beql (by first | exact W rfl id | exact E rfl) (by first | exact W rfl id | exact E rfl)) rfl ?_) | refine lg rfl rfl (lop_beql (by first | exact W rfl id | exact E rfl) (by first | exact W rfl id | exact E rfl)) rfl ?_
    refine sq70 ?_
    first | refine ln rfl rfl rfl rfl ?_ | (refine gy rfl rfl ?_; (first | refine lo (lop_bytes_ro (by first | exact W rfl id | exact E rfl)) rfl ?_ | refine lo (lop_text_own (by first | exact W rfl id | exact E rfl)) rfl ?_)) | refine lg rfl rfl (lop_bytes_ro (by first | exact W rfl id | exact E rfl)) rfl ?_ | refine lg rfl rfl (lop_text_own (by first | exact W rfl id | exact E rfl)) rfl ?_
    refine z109 ?_
    first | refine ln rfl rfl rfl rfl ?_ | (refine gy rfl rfl ?_; (first | refine lo (lop_bytes_ro (by first | exact W rfl id | exact E rfl)) rfl ?_ | refine lo (lop_text_own (by first | exact W rfl id | exact E rfl)) rfl ?_)) | refine lg rfl rfl (lop_bytes_ro (by first | exact W rfl id | exact E rfl)) rfl ?_ | refine lg rfl rfl (lop_text_own (by first | exact W rfl id | exact E rfl)) rfl ?_
    refine z155 ?_
    refine sq101 ?_
    first | refine ln rfl rfl rfl rfl ?_ | (refine gy rfl rfl ?_; refine lo (lop_beql (by first | exact W rfl id | exact E rfl) (by first | exact W rfl id | exact E rfl)) rfl ?_) | refine lg rfl rfl (lop_beql (by first | exact W rfl id | exact E rfl) (by first | exact W rfl id | exact E rfl)) rfl ?_
    refine sq31 ?_
    apply aend; exact resT
    · exact ⟨by rw [parts_end hL hmay wM]; rfl, rfl⟩
    · exact stleT
  refine sq30 ?_
  refine sw_cond rfl (fun g19 => ?_) (fun g19 => ?_)
  · refine sq38 ?_
    refine sq46 ?_
    refine sq100 ?_
    apply stp; rfl; rfl; rfl; rfl; (exact sputT)
    refine sq5 ?_
    have hL : LessF ⟨ty, im, fn, tb, me, gl, ex, el, co, da⟩ ⟨ty, im, fn, tb, me, gl, ex, [], co, da⟩ (decide (0 < el.length)) := less_el wM zM hA
    rw [gt_len]
    refine sw_go (sgo_leb (r := r6) (cs' := encMd ⟨ty, im, fn, tb, me, gl, ex, [], co, da⟩) ssetT (.cons (.refl _) (.cons (.refl _) (.cons (.refl _) (.cons (.refl _) (.cons (.refl _) (.cons (.refl _) (.cons (.refl _) (.cons (.refl _) (.cons (.refl _) (.cons (.refl _) (.cons (.refl _) (.cons (.le VLe.empty) (.cons (.refl _) (.cons (.refl _) .nil))))))))))))))) ?_
    generalize (⟨ty, im, fn, tb, me, gl, ex, [], co, da⟩ : Md) = D at hL ⊢
    generalize decide (0 < el.length) = g at hL ⊢
    refine rgD [(0, true), (2, true), (1, false), (3, false), (4, true), (5, true)] ?_
    refine z96 ?_
    refine z96 ?_
    refine dclA rfl Tryz.call13 wen rfl bargsT noT ?_
    rintro _ σ' ⟨q72, rfl, rfl⟩ h72
    replace h72 := lnewT h72; repeat rcases h72 with ⟨_, h72⟩
    apply rd_sto; exact nflT
    refine dfzv (j := 72) rfl sdelT (bor_own sgT (by simp)) ?_
    refine dclA rfl Tryz.call13 (wasm_encode D hL.wo) rfl bargsT noT ?_
    rintro _ σ' ⟨q74, rfl, rfl⟩ h74
    replace h74 := lnewT h74; repeat rcases h74 with ⟨_, h74⟩
    apply rd_sto; exact nflT
    refine dfzv (j := 74) rfl sdelT (bor_own sgT (by simp)) ?_
    refine sq22 ?_
    refine sq74 ?_
    refine puA Tryz.call14 (wasm_may D hL.wo) rfl pargsT nofT ?_
    refine sq8 ?_
    refine z124 ?_
    refine z123 ?_
    refine sq70 ?_
    refine z124 ?_
    refine z109 ?_
    refine z124 ?_
    refine z110 ?_
    refine z109 ?_
    first | refine ln rfl rfl rfl rfl ?_ | (refine gy rfl rfl ?_; refine lo (lop_beql (by first | exact W rfl id | exact E rfl) (by first | exact W rfl id | exact E rfl)) rfl ?_) | refine lg rfl rfl (lop_beql (by first | exact W rfl id | exact E rfl) (by first | exact W rfl id | exact E rfl)) rfl ?_
    refine z68 ?_
    refine sq61 ?_
    refine z139 ?_
    refine pugA rfl rfl Tryz.call15 (fun _ => (wasm_eq ⟨ty, im, fn, tb, me, gl, ex, el, co, da⟩ D wM.w hL.wo.w)) rfl pargsT nofT ?_
    refine sq101 ?_
    first | refine ln rfl rfl rfl rfl ?_ | (refine gy rfl rfl ?_; refine lo (lop_beql (by first | exact W rfl id | exact E rfl) (by first | exact W rfl id | exact E rfl)) rfl ?_) | refine lg rfl rfl (lop_beql (by first | exact W rfl id | exact E rfl) (by first | exact W rfl id | exact E rfl)) rfl ?_
    refine sq70 ?_
    first | refine ln rfl rfl rfl rfl ?_ | (refine gy rfl rfl ?_; (first | refine lo (lop_bytes_ro (by first | exact W rfl id | exact E rfl)) rfl ?_ | refine lo (lop_text_own (by first | exact W rfl id | exact E rfl)) rfl ?_)) | refine lg rfl rfl (lop_bytes_ro (by first | exact W rfl id | exact E rfl)) rfl ?_ | refine lg rfl rfl (lop_text_own (by first | exact W rfl id | exact E rfl)) rfl ?_
    refine z109 ?_
    first | refine ln rfl rfl rfl rfl ?_ | (refine gy rfl rfl ?_; (first | refine lo (lop_bytes_ro (by first | exact W rfl id | exact E rfl)) rfl ?_ | refine lo (lop_text_own (by first | exact W rfl id | exact E rfl)) rfl ?_)) | refine lg rfl rfl (lop_bytes_ro (by first | exact W rfl id | exact E rfl)) rfl ?_ | refine lg rfl rfl (lop_text_own (by first | exact W rfl id | exact E rfl)) rfl ?_
    refine z155 ?_
    refine sq101 ?_
    first | refine ln rfl rfl rfl rfl ?_ | (refine gy rfl rfl ?_; refine lo (lop_beql (by first | exact W rfl id | exact E rfl) (by first | exact W rfl id | exact E rfl)) rfl ?_) | refine lg rfl rfl (lop_beql (by first | exact W rfl id | exact E rfl) (by first | exact W rfl id | exact E rfl)) rfl ?_
    refine sq31 ?_
    apply aend; exact resT
    · exact ⟨by rw [parts_end hL hmay wM]; rfl, rfl⟩
    · exact stleT
  refine sq30 ?_
  refine sw_cond rfl (fun g21 => ?_) (fun g21 => ?_)
  · refine sq38 ?_
    refine sq46 ?_
    refine sq100 ?_
    apply stp; rfl; rfl; rfl; rfl; (exact sputT)
    refine sq5 ?_
    have hL : LessF ⟨ty, im, fn, tb, me, gl, ex, el, co, da⟩ ⟨ty, im, fn, tb, me, gl, ex, el, co, []⟩ (decide (0 < da.length)) := less_da wM zM hA
    rw [gt_len]
    refine sw_go (sgo_leb (r := r6) (cs' := encMd ⟨ty, im, fn, tb, me, gl, ex, el, co, []⟩) ssetT (.cons (.refl _) (.cons (.refl _) (.cons (.refl _) (.cons (.refl _) (.cons (.refl _) (.cons (.refl _) (.cons (.refl _) (.cons (.refl _) (.cons (.refl _) (.cons (.refl _) (.cons (.refl _) (.cons (.refl _) (.cons (.refl _) (.cons (.le VLe.empty) .nil))))))))))))))) ?_
    generalize (⟨ty, im, fn, tb, me, gl, ex, el, co, []⟩ : Md) = D at hL ⊢
    generalize decide (0 < da.length) = g at hL ⊢
    refine rgD [(0, true), (2, true), (1, false), (3, false), (4, true), (5, true)] ?_
    refine z96 ?_
    refine z96 ?_
    refine dclA rfl Tryz.call13 wen rfl bargsT noT ?_
    rintro _ σ' ⟨q72, rfl, rfl⟩ h72
    replace h72 := lnewT h72; repeat rcases h72 with ⟨_, h72⟩
    apply rd_sto; exact nflT
    refine dfzv (j := 72) rfl sdelT (bor_own sgT (by simp)) ?_
    refine dclA rfl Tryz.call13 (wasm_encode D hL.wo) rfl bargsT noT ?_
    rintro _ σ' ⟨q74, rfl, rfl⟩ h74
    replace h74 := lnewT h74; repeat rcases h74 with ⟨_, h74⟩
    apply rd_sto; exact nflT
    refine dfzv (j := 74) rfl sdelT (bor_own sgT (by simp)) ?_
    refine sq22 ?_
    refine sq74 ?_
    refine puA Tryz.call14 (wasm_may D hL.wo) rfl pargsT nofT ?_
    refine sq8 ?_
    refine z124 ?_
    refine z123 ?_
    refine sq70 ?_
    refine z124 ?_
    refine z109 ?_
    refine z124 ?_
    refine z110 ?_
    refine z109 ?_
    first | refine ln rfl rfl rfl rfl ?_ | (refine gy rfl rfl ?_; refine lo (lop_beql (by first | exact W rfl id | exact E rfl) (by first | exact W rfl id | exact E rfl)) rfl ?_) | refine lg rfl rfl (lop_beql (by first | exact W rfl id | exact E rfl) (by first | exact W rfl id | exact E rfl)) rfl ?_
    refine z68 ?_
    refine sq61 ?_
    refine z139 ?_
    refine pugA rfl rfl Tryz.call15 (fun _ => (wasm_eq ⟨ty, im, fn, tb, me, gl, ex, el, co, da⟩ D wM.w hL.wo.w)) rfl pargsT nofT ?_
    refine sq101 ?_
    first | refine ln rfl rfl rfl rfl ?_ | (refine gy rfl rfl ?_; refine lo (lop_beql (by first | exact W rfl id | exact E rfl) (by first | exact W rfl id | exact E rfl)) rfl ?_) | refine lg rfl rfl (lop_beql (by first | exact W rfl id | exact E rfl) (by first | exact W rfl id | exact E rfl)) rfl ?_
    refine sq70 ?_
    first | refine ln rfl rfl rfl rfl ?_ | (refine gy rfl rfl ?_; (first | refine lo (lop_bytes_ro (by first | exact W rfl id | exact E rfl)) rfl ?_ | refine lo (lop_text_own (by first | exact W rfl id | exact E rfl)) rfl ?_)) | refine lg rfl rfl (lop_bytes_ro (by first | exact W rfl id | exact E rfl)) rfl ?_ | refine lg rfl rfl (lop_text_own (by first | exact W rfl id | exact E rfl)) rfl ?_
    refine z109 ?_
    first | refine ln rfl rfl rfl rfl ?_ | (refine gy rfl rfl ?_; (first | refine lo (lop_bytes_ro (by first | exact W rfl id | exact E rfl)) rfl ?_ | refine lo (lop_text_own (by first | exact W rfl id | exact E rfl)) rfl ?_)) | refine lg rfl rfl (lop_bytes_ro (by first | exact W rfl id | exact E rfl)) rfl ?_ | refine lg rfl rfl (lop_text_own (by first | exact W rfl id | exact E rfl)) rfl ?_
    refine z155 ?_
    refine sq101 ?_
    first | refine ln rfl rfl rfl rfl ?_ | (refine gy rfl rfl ?_; refine lo (lop_beql (by first | exact W rfl id | exact E rfl) (by first | exact W rfl id | exact E rfl)) rfl ?_) | refine lg rfl rfl (lop_beql (by first | exact W rfl id | exact E rfl) (by first | exact W rfl id | exact E rfl)) rfl ?_
    refine sq31 ?_
    apply aend; exact resT
    · exact ⟨by rw [parts_end hL hmay wM]; rfl, rfl⟩
    · exact stleT
  refine sq3 ?_
  refine z59 ?_
  refine sq10 ?_
  refine z93 ?_
  refine sq100 ?_
  apply stp; rfl; rfl; rfl; rfl; (exact sputT)
  refine sq5 ?_
  have hL : LessF ⟨ty, im, fn, tb, me, gl, ex, el, co, da⟩ ⟨ty, im, fn, tb, li0, gl, ex, el, co, da⟩ me.has := less_me wM zM hA
  refine sw_go (sgo_leb (r := r6) (cs' := encMd ⟨ty, im, fn, tb, li0, gl, ex, el, co, da⟩) ssetT (.cons (.refl _) (.cons (.refl _) (.cons (.refl _) (.cons (.refl _) (.cons (.refl _) (.cons (.refl _) (.cons (.refl _) (.cons (.refl _) (.cons (.refl _) (.cons (.refl _) (.cons (.refl _) (.cons (.refl _) (.cons (.refl _) (.cons (.refl _) .nil))))))))))))))) ?_
  generalize (⟨ty, im, fn, tb, li0, gl, ex, el, co, da⟩ : Md) = D at hL ⊢
  refine rgD [(0, true), (2, true), (1, false), (3, false), (4, true), (5, true)] ?_
  refine z96 ?_
  refine z96 ?_
  refine dclA rfl Tryz.call13 wen rfl bargsT noT ?_
  rintro _ σ' ⟨q72, rfl, rfl⟩ h72
  replace h72 := lnewT h72; repeat rcases h72 with ⟨_, h72⟩
  apply rd_sto; exact nflT
  refine dfzv (j := 72) rfl sdelT (bor_own sgT (by simp)) ?_
  refine dclA rfl Tryz.call13 (wasm_encode D hL.wo) rfl bargsT noT ?_
  rintro _ σ' ⟨q74, rfl, rfl⟩ h74
  replace h74 := lnewT h74; repeat rcases h74 with ⟨_, h74⟩
  apply rd_sto; exact nflT
  refine dfzv (j := 74) rfl sdelT (bor_own sgT (by simp)) ?_
  refine sq22 ?_
  refine sq74 ?_
  refine puA Tryz.call14 (wasm_may D hL.wo) rfl pargsT nofT ?_
  refine sq8 ?_
  refine z124 ?_
  refine z123 ?_
  refine sq70 ?_
  refine z124 ?_
  refine z109 ?_
  refine z124 ?_
  refine z110 ?_
  refine z109 ?_
  first | refine ln rfl rfl rfl rfl ?_ | (refine gy rfl rfl ?_; refine lo (lop_beql (by first | exact W rfl id | exact E rfl) (by first | exact W rfl id | exact E rfl)) rfl ?_) | refine lg rfl rfl (lop_beql (by first | exact W rfl id | exact E rfl) (by first | exact W rfl id | exact E rfl)) rfl ?_
  refine z68 ?_
  refine sq61 ?_
  refine z139 ?_
  refine pugA rfl rfl Tryz.call15 (fun _ => (wasm_eq ⟨ty, im, fn, tb, me, gl, ex, el, co, da⟩ D wM.w hL.wo.w)) rfl pargsT nofT ?_
  refine sq101 ?_
  first | refine ln rfl rfl rfl rfl ?_ | (refine gy rfl rfl ?_; refine lo (lop_beql (by first | exact W rfl id | exact E rfl) (by first | exact W rfl id | exact E rfl)) rfl ?_) | refine lg rfl rfl (lop_beql (by first | exact W rfl id | exact E rfl) (by first | exact W rfl id | exact E rfl)) rfl ?_
  refine sq70 ?_
  first | refine ln rfl rfl rfl rfl ?_ | (refine gy rfl rfl ?_; (first | refine lo (lop_bytes_ro (by first | exact W rfl id | exact E rfl)) rfl ?_ | refine lo (lop_text_own (by first | exact W rfl id | exact E rfl)) rfl ?_)) | refine lg rfl rfl (lop_bytes_ro (by first | exact W rfl id | exact E rfl)) rfl ?_ | refine lg rfl rfl (lop_text_own (by first | exact W rfl id | exact E rfl)) rfl ?_
  refine z109 ?_
  first | refine ln rfl rfl rfl rfl ?_ | (refine gy rfl rfl ?_; (first | refine lo (lop_bytes_ro (by first | exact W rfl id | exact E rfl)) rfl ?_ | refine lo (lop_text_own (by first | exact W rfl id | exact E rfl)) rfl ?_)) | refine lg rfl rfl (lop_bytes_ro (by first | exact W rfl id | exact E rfl)) rfl ?_ | refine lg rfl rfl (lop_text_own (by first | exact W rfl id | exact E rfl)) rfl ?_
  refine z155 ?_
  refine sq101 ?_
  first | refine ln rfl rfl rfl rfl ?_ | (refine gy rfl rfl ?_; refine lo (lop_beql (by first | exact W rfl id | exact E rfl) (by first | exact W rfl id | exact E rfl)) rfl ?_) | refine lg rfl rfl (lop_beql (by first | exact W rfl id | exact E rfl) (by first | exact W rfl id | exact E rfl)) rfl ?_
  refine sq31 ?_
  apply aend; exact resT
  · exact ⟨by rw [parts_end hL hmay wM]; rfl, rfl⟩
  · exact stleT
theorem law_wasmParts3 (a : Md) (w : Int) (ha : a.R) : SCall Tryz.prog 5 [.agg (encMd a), .int .i64 w] [] (fun y _ => y = .bool true) := (law_wasmParts2 a w ha).mono fun _ _ h => h.1
end Go.Proofs.YtfihcehdoikfkaaGreat
