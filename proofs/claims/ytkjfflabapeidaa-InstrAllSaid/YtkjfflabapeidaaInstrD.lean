/-
  Instructions as bytes: what is written.
-/
import Derived.Test.YtkjfflabapeidaaInstrC
namespace Go.Proofs.Ytkjfflabapeidaa
open Go.RowKit Go.ChangeShapes Go.WideShapes Go.ChangeAt Go.Deep
set_option linter.unusedSimpArgs false
set_option linter.unusedVariables false
attribute [local irreducible] SW RS RD AThen ABlock

theorem may_none {x : Ins} (h : formN x.op = 0) : mayN x = false := by
  unfold mayN
  split
  · rfl
  · simp [h]
theorem form_op {op : Int} (h : formN op ≠ 0) : 0 ≤ op ∧ op ≤ 173 := by
  unfold formN formW kOk at h
  simp only [Bool.or_eq_true, beq_iff_eq, decide_eq_true_eq] at h
  by_cases hc : 0 ≤ op ∧ op ≤ 173
  · exact hc
  · exfalso
    repeat rw [if_neg (by omega)] at h
    exact h rfl
theorem may_op {x : Ins} (h : mayN x = true) : 0 ≤ x.op ∧ x.op ≤ 173 := by
  refine form_op fun h0 => ?_
  rw [may_none h0] at h
  cases h
theorem may2 {x : Ins} (h : mayN x = true) (hf : (formN x.op == 2) = true) : 0 ≤ x.a ∧ x.a ≤ 2 := by
  rw [beq_iff_eq] at hf
  simp [mayN, hf, bt2_eq] at h
  omega
theorem may3 {x : Ins} (h : mayN x = true) (hf : (formN x.op == 3) = true) : 0 ≤ x.a ∧ x.a ≤ 1000 := by
  rw [beq_iff_eq] at hf
  simp [mayN, hf, bt2_eq] at h
  omega
theorem may5 {x : Ins} (h : mayN x = true) (hf : (formN x.op == 5) = true) : 0 ≤ x.a ∧ x.a ≤ 1000 := by
  rw [beq_iff_eq] at hf
  simp [mayN, hf, bt2_eq] at h
  omega
theorem may4 {x : Ins} (h : mayN x = true) (hf : (formN x.op == 4) = true) : (0 ≤ x.a ∧ x.a ≤ 1000) ∧ x.l.length ≤ 50 ∧ ∀ n ∈ x.l, 0 ≤ n ∧ n ≤ 1000 := by
  rw [beq_iff_eq] at hf
  simp [mayN, hf, bt2_eq] at h
  obtain ⟨h1, ⟨h2, h3⟩, h4⟩ := h
  exact ⟨h2, by omega, h4⟩
theorem may6 {x : Ins} (h : mayN x = true) (hf : (formN x.op == 6) = true) : 0 ≤ x.a ∧ x.a ≤ 3 ∧ 0 ≤ x.b ∧ x.b ≤ 4294967295 := by
  rw [beq_iff_eq] at hf
  simp [mayN, hf, bt2_eq] at h
  omega
def kindB (a : Int) : Nat := if a = 0 then 64 else if a = 1 then 127 else 126
/-- what stands behind an instruction's byte -/
def putT (x : Ins) : List Nat :=
  if (formN x.op == 2) = true then [kindB x.a] else if (formN x.op == 3) = true then uB x.a.toNat else if (formN x.op == 5) = true then uB x.a.toNat ++ [0]
  else if (formN x.op == 4) = true then uB x.l.length ++ (x.l.flatMap fun n => uB n.toNat) ++ uB x.a.toNat else if (formN x.op == 6) = true then uB x.a.toNat ++ uB x.b.toNat
  else if (formN x.op == 7) = true then [0] else if (formN x.op == 8 || formN x.op == 9) = true then sB x.a else []
def putN (x : Ins) : List Nat := x.op.toNat :: putT x
theorem flat_len : ∀ {l : List Int}, (∀ n ∈ l, 0 ≤ n ∧ n ≤ 1000) → (l.flatMap fun n => uB n.toNat).length ≤ 2 * l.length
  | [], _ => by simp
  | n :: l, h => by
    have ih := flat_len (l := l) fun m hm => h m (List.mem_cons_of_mem _ hm)
    have hn := h n List.mem_cons_self
    have h1 := uB_len 1 n.toNat (by omega)
    simp only [List.flatMap_cons, List.length_append, List.length_cons]
    omega
theorem kind_at {a : Int} (h : 0 ≤ a ∧ a ≤ 2) : ([.int .u8 64, .int .u8 127, .int .u8 126] : List AV)[a.toNat]? = some (.int .u8 (kindB a : Nat)) := by
  have : a = 0 ∨ a = 1 ∨ a = 2 := by omega
  rcases this with rfl | rfl | rfl <;> rfl
set_option maxRecDepth 100000 in
theorem instr_put (q : Nat) (vs : List Nat) (hvs : vs.length ≤ 100000) (k : Rk) (x : Ins) (hx : x.Ok) (hm : mayN x = true) : SCall Try.prog 23 [.own q 0 vs.length, .agg (iv k x)] [(q, .arr 5 1 (vs.map encU))]
    (fun y σ => ∃ r, y = .own r 0 (vs ++ putN x).length ∧ σ = [(r, .arr 5 1 ((vs ++ putN x).map encU))]) := by
  have f1 := may_op hm
  have f2 := may2 hm
  have f3 := may3 hm
  have f4 := may4 hm
  have f5 := may5 hm
  have f6 := may6 hm
  have f8 : -9223372036854775808 ≤ x.a ∧ x.a ≤ 9223372036854775807 := ⟨hx.2.2.1, hx.2.2.2.1⟩
  obtain ⟨op, ai, bi, l⟩ := x
  dsimp only at f1 f2 f3 f4 f5 f6 f8
  obtain ⟨op, rfl⟩ := Int.eq_ofNat_of_zero_le f1.1
  have hvo : vs ++ putN ⟨(op : Int), ai, bi, l⟩ = (vs ++ [op]) ++ putT ⟨(op : Int), ai, bi, l⟩ := by simp [putN]
  rw [hvo]
  obtain ⟨us, hus⟩ : ∃ us, us = vs ++ [op] := ⟨_, rfl⟩
  have hul : us.length ≤ 100001 := by rw [hus]; simp; omega
  refine scall_of (n := 90) (ks := [0, 1, 3, 4, 6, 15, 16, 25, 32, 41, 50, 51, 52, 53, 66, 77, 82]) Try.func23 rfl rfl (Nat.le_of_ble_eq_true rfl) ?_
  unfold iv
  dsimp only
  (refine ctlT ?_)
  refine rgT ?_
  apply bx; rfl; rfl; (exact zcT); rfl; refine freshT fun r3 h3 => ?_; (repeat (rcases h3 with ⟨_, h3⟩))
  refine lo (lop_assign (E rfl)) rfl ?_
  refine leT ?_
  (refine ctlT ?_)
  refine rgT ?_
  refine lo (lop_move (E rfl)) rfl ?_
  refine z59 ?_
  refine z60 ?_
  refine z0 ?_
  refine z1 ?_; refine freshT fun r11 h11 => ?_; (repeat (rcases h11 with ⟨_, h11⟩))
  apply ap (es' := (vs ++ [op]).map encU) (len' := (vs ++ [op]).length); rfl; rfl; (exact sgT)
  · simp
  · exact .inr (.inr ⟨_, _, _, _, _, rfl, sgT, by simp, rfl⟩)
  · first | (simp [encU]; done) | (simp only [List.drop_zero, List.map_append]; congr 1; exact List.take_of_length_le (by simp))
  · simp; try omega
  · simp [maxLen]; try omega
  · simp; try omega
  · rfl
  refine apnT fun r12 h12 => ?_; (repeat (rcases h12 with ⟨_, h12⟩))
  refine lo (lop_assign (E rfl)) rfl ?_
  refine leT ?_
  (refine ctlT ?_)
  rw [← hus]
  refine rgT ?_
  refine z59 ?_
  refine z60 ?_
  (first | refine ln rfl rfl rfl rfl ?_ | refine lw rfl rfl (lop_no (v := .bool false)) rfl ?_ | refine pu [] Try.call40 (instr_formN _) rfl argsT nofT ?_ | refine pug [] rfl rfl Try.call40 (fun _ => (instr_formN _)) rfl argsT nofT ?_ | refine puw [] rfl rfl Try.call40 (fun _ => (instr_formN _)) rfl argsT nofT ?_)
  refine leT ?_
  (refine ctlT ?_)
  refine rgT ?_
  refine lo (lop_eql (E rfl) (E rfl)) rfl ?_
  refine lo (lop_assign (E rfl)) rfl ?_
  refine leT ?_
  (refine ctlT ?_)
  refine sw_cond rfl (fun g1 => ?_) (fun g1 => ?_)
  · (refine ctlT ?_)
    have ha := f2 g1
    have hp : putT ⟨(op : Int), ai, bi, l⟩ = [kindB ai] := by unfold putT; simp only [g1, if_true, if_false, Bool.false_eq_true]
    refine rgT ?_
    refine lo (lop_move (E rfl)) rfl ?_
    refine lo (lop_arr3 (z := _) ⟨_, _, _, rfl⟩) rfl ?_
    refine z59 ?_
    refine z60 ?_
    refine lo (lop_index rfl (E rfl) (E rfl) (fun _ => by omega) (fun _ => kind_at ha)) rfl ?_
    refine z1 ?_; refine freshT fun r23 h23 => ?_; (repeat (rcases h23 with ⟨_, h23⟩))
    apply ap (es' := (us ++ [kindB ai]).map encU) (len' := (us ++ [kindB ai]).length); rfl; rfl; (exact sgT)
    · simp
    · exact .inr (.inr ⟨_, _, _, _, _, rfl, sgT, by simp, rfl⟩)
    · first | (simp [encU]; done) | (simp only [List.drop_zero, List.map_append]; congr 1; exact List.take_of_length_le (by simp))
    · simp; try omega
    · simp [maxLen]; try omega
    · simp; try omega
    · rfl
    refine apnT fun r24 h24 => ?_; (repeat (rcases h24 with ⟨_, h24⟩))
    refine lo (lop_assign (E rfl)) rfl ?_
    refine leT ?_
    (refine ctlT ?_)
    rw [hp]
    (apply aend; (exact resT))
    · exact ⟨_, rfl, rfl⟩
    · (exact stleT)
  (refine ctlT ?_)
  refine rgT ?_
  refine lo (lop_eql (E rfl) (E rfl)) rfl ?_
  refine lo (lop_assign (E rfl)) rfl ?_
  refine leT ?_
  (refine ctlT ?_)
  refine sw_cond rfl (fun g2 => ?_) (fun g2 => ?_)
  · (refine ctlT ?_)
    have ha := f3 g2
    obtain ⟨a, rfl⟩ := Int.eq_ofNat_of_zero_le ha.1
    have hp : putT ⟨(op : Int), (a : Int), bi, l⟩ = uB a := by unfold putT; simp only [g1, g2, if_true, if_false, Bool.false_eq_true, Int.toNat_natCast]
    refine rgT ?_
    refine lo (lop_move (E rfl)) rfl ?_
    refine z59 ?_
    refine z60 ?_
    refine z24 ?_
    refine cw [(r12, .arr 5 1 ((us).map encU))] Try.call46 (leb_putU r12 (us) (by first | omega | (simp; omega)) a (by omega)) rfl ?_ ?_ ?_
    · (exact argsleT)
    · (exact stleT)
    rintro _ σ' ⟨ra, rfl, rfl⟩ hra
    have kra := rest1T hra; (repeat (rcases kra with ⟨_, kra⟩))
    (apply rs_sto; (exact nflT))
    refine lo (lop_assign (E rfl)) rfl ?_
    refine leT ?_
    (refine ctlT ?_)
    rw [hp]
    (apply aend; (exact resT))
    · exact ⟨_, rfl, rfl⟩
    · (exact stleT)
  (refine ctlT ?_)
  refine rgT ?_
  refine lo (lop_eql (E rfl) (E rfl)) rfl ?_
  refine lo (lop_assign (E rfl)) rfl ?_
  refine leT ?_
  (refine ctlT ?_)
  refine sw_cond rfl (fun g3 => ?_) (fun g3 => ?_)
  · (refine ctlT ?_)
    have ha := f5 g3
    obtain ⟨a, rfl⟩ := Int.eq_ofNat_of_zero_le ha.1
    have hp : putT ⟨(op : Int), (a : Int), bi, l⟩ = uB a ++ [0] := by unfold putT; simp only [g1, g2, g3, if_true, if_false, Bool.false_eq_true, Int.toNat_natCast]
    have hal := uB_len 1 a (by omega)
    refine rgT ?_
    refine lo (lop_move (E rfl)) rfl ?_
    refine z59 ?_
    refine z60 ?_
    refine z24 ?_
    refine cw [(r12, .arr 5 1 ((us).map encU))] Try.call46 (leb_putU r12 (us) (by first | omega | (simp; omega)) a (by omega)) rfl ?_ ?_ ?_
    · (exact argsleT)
    · (exact stleT)
    rintro _ σ' ⟨ra, rfl, rfl⟩ hra
    have kra := rest1T hra; (repeat (rcases kra with ⟨_, kra⟩))
    (apply rs_sto; (exact nflT))
    refine z1 ?_; refine freshT fun r39 h39 => ?_; (repeat (rcases h39 with ⟨_, h39⟩))
    apply ap (es' := ((us ++ uB a) ++ [0]).map encU) (len' := ((us ++ uB a) ++ [0]).length); rfl; rfl; (exact sgT)
    · simp
    · exact .inr (.inr ⟨_, _, _, _, _, rfl, sgT, by simp, rfl⟩)
    · first | (simp [encU]; done) | (simp only [List.drop_zero, List.map_append]; congr 1; exact List.take_of_length_le (by simp))
    · simp; try omega
    · simp [maxLen]; try omega
    · simp; try omega
    · rfl
    refine apnT fun r40 h40 => ?_; (repeat (rcases h40 with ⟨_, h40⟩))
    refine lo (lop_assign (E rfl)) rfl ?_
    refine leT ?_
    (refine ctlT ?_)
    rw [hp, ← List.append_assoc]
    (apply aend; (exact resT))
    · exact ⟨_, rfl, rfl⟩
    · (exact stleT)
  (refine ctlT ?_)
  refine rgT ?_
  refine lo (lop_eql (E rfl) (E rfl)) rfl ?_
  refine lo (lop_assign (E rfl)) rfl ?_
  refine leT ?_
  (refine ctlT ?_)
  refine sw_cond rfl (fun g4 => ?_) (fun g4 => ?_)
  · (refine ctlT ?_)
    have ha := f4 g4
    obtain ⟨⟨ha0, ha1⟩, hl50, hall⟩ := ha
    obtain ⟨a, rfl⟩ := Int.eq_ofNat_of_zero_le ha0
    have hp : putT ⟨(op : Int), (a : Int), bi, l⟩ = uB l.length ++ (l.flatMap fun n => uB n.toNat) ++ uB a := by unfold putT; simp only [g1, g2, g3, g4, if_true, if_false, Bool.false_eq_true, Int.toNat_natCast]
    have hal := uB_len 1 a (by omega)
    have hll := uB_len 1 l.length (by omega)
    have hfl := flat_len hall
    refine rgT ?_
    refine lo (lop_move (E rfl)) rfl ?_
    refine z59 ?_
    refine z60 ?_
    refine z14 ?_
    refine z24 ?_
    refine cw [(r12, .arr 5 1 ((us).map encU))] Try.call46 (leb_putU r12 (us) (by first | omega | (simp; omega)) l.length (by omega)) rfl ?_ ?_ ?_
    · (exact argsleT)
    · (exact stleT)
    rintro _ σ' ⟨ra, rfl, rfl⟩ hra
    have kra := rest1T hra; (repeat (rcases kra with ⟨_, kra⟩))
    (apply rs_sto; (exact nflT))
    refine lo (lop_assign (E rfl)) rfl ?_
    refine leT ?_
    (refine ctlT ?_)
    refine rgT ?_
    refine z59 ?_
    refine z60 ?_
    refine z14 ?_
    refine lo (lop_move (E rfl)) rfl ?_
    refine leT ?_
    (refine ctlT ?_)
    obtain ⟨ws, hws⟩ : ∃ ws, ws = us ++ uB l.length := ⟨_, rfl⟩
    have hwl : ws.length ≤ 100003 := by rw [hws]; simp; omega
    rw [← hws]
    have hpre : ∀ j, (us ++ uB l.length ++ ((l.take j).flatMap fun n => uB n.toNat)).length ≤ 100103 := fun j => by
      have := flat_len (l := l.take j) fun n hn => hall n (List.mem_of_mem_take hn)
      simp at this ⊢
      omega
    refine lp (β := Nat × Nat) (fun b => ⟨[(0, .own b.1 0 (ws ++ ((l.take b.2).flatMap fun n => uB n.toNat)).length), (3, .ptr r3 0), (50, .ro 1 (l.map encI) k), (51, .int .i64 l.length), (52, .int .i64 b.2)], [(b.1, .arr 5 1 ((ws ++ ((l.take b.2).flatMap fun n => uB n.toNat)).map encU)), (r3, .box 24 [.int .i64 op, .int .i64 a, .int .i64 bi, .ro 1 (l.map encI) k])]⟩) (fun b => Nq b.1 r3 ∧ b.2 ≤ l.length) (fun b => l.length - b.2) (ra, 0) ?_ ⟨?_, Nat.zero_le _⟩ ?_
    · simp only [List.take_zero, List.flatMap_nil, List.append_nil]; (exact sgoT)
    · show Nq ra r3; (exact nqT)
    rintro ⟨rb, j⟩ ⟨hrb, hj⟩
    dsimp only at hrb hj ⊢
    have hpj := hpre j
    rw [← hws] at hpj
    (refine ctlT ?_)
    refine rgT ?_
    refine lo (lop_lss (E rfl) (E rfl)) rfl ?_
    refine leT ?_
    (refine ctlT ?_)
    refine sw_cond rfl (fun h1 => ?_) (fun h1 => ?_)
    · have hlt : j < l.length := by simp at h1; omega
      obtain ⟨y, hy⟩ : ∃ y, l[j]? = some y := ⟨_, List.getElem?_eq_getElem hlt⟩
      obtain ⟨hy0, hy1⟩ := hall y (List.mem_of_getElem? hy)
      obtain ⟨z, rfl⟩ := Int.eq_ofNat_of_zero_le hy0
      (refine ctlT ?_)
      refine rgT ?_
      refine z15 ?_
      refine z16 ?_
      refine lo (lop_assign (E rfl)) rfl ?_
      refine leT ?_
      (refine ctlT ?_)
      refine rgT ?_
      refine lo (lop_move (E rfl)) rfl ?_
      refine lo (lop_move (E rfl)) rfl ?_
      refine z24 ?_
      refine cw [(rb, .arr 5 1 ((ws ++ ((l.take j).flatMap fun n => uB n.toNat)).map encU))] Try.call46 (leb_putU rb (ws ++ ((l.take j).flatMap fun n => uB n.toNat)) (by first | omega | (simp; omega)) z (by omega)) rfl ?_ ?_ ?_
      · (exact argsleT)
      · (exact stleT)
      rintro _ σ' ⟨rc, rfl, rfl⟩ hrc
      have krc := rest1T hrc; (repeat (rcases krc with ⟨_, krc⟩))
      (apply rs_sto; (exact nflT))
      refine lo (lop_assign (E rfl)) rfl ?_
      refine leT ?_
      (refine ctlT ?_)
      refine rgT ?_
      refine z17 ?_
      refine lo (lop_move (E rfl)) rfl ?_
      refine leT ?_
      (refine ctlT ?_)
      have hnx : ws ++ ((l.take j).flatMap fun n => uB n.toNat) ++ uB z = ws ++ ((l.take (j + 1)).flatMap fun n => uB n.toNat) := by
        rw [List.take_add_one, hy, List.flatMap_append, List.append_assoc]
        simp
      rw [hnx]
      refine ⟨(rc, j + 1), ⟨by show Nq rc r3; (exact nqT), hlt⟩, by show l.length - (j + 1) < l.length - j; omega, ?_⟩
      (exact sgoT)
    · obtain rfl : j = l.length := by simp at h1; omega
      rw [List.take_length] at hpj ⊢
      (refine ctlT ?_)
      refine rgT ?_
      refine lo (lop_move (E rfl)) rfl ?_
      refine z59 ?_
      refine z60 ?_
      refine z24 ?_
      refine cw [(rb, .arr 5 1 ((ws ++ (l.flatMap fun n => uB n.toNat)).map encU))] Try.call46 (leb_putU rb (ws ++ (l.flatMap fun n => uB n.toNat)) (by first | omega | (simp; omega)) a (by omega)) rfl ?_ ?_ ?_
      · (exact argsleT)
      · (exact stleT)
      rintro _ σ' ⟨rd, rfl, rfl⟩ hrd
      have krd := rest1T hrd; (repeat (rcases krd with ⟨_, krd⟩))
      (apply rs_sto; (exact nflT))
      refine lo (lop_assign (E rfl)) rfl ?_
      refine leT ?_
      (refine ctlT ?_)
      rw [hp, show us ++ (uB l.length ++ (l.flatMap fun n => uB n.toNat) ++ uB a) = ws ++ (l.flatMap fun n => uB n.toNat) ++ uB a by rw [hws]; simp]
      (apply aend; (exact resT))
      · exact ⟨_, rfl, rfl⟩
      · (exact stleT)
  (refine ctlT ?_)
  refine rgT ?_
  refine lo (lop_eql (E rfl) (E rfl)) rfl ?_
  refine lo (lop_assign (E rfl)) rfl ?_
  refine leT ?_
  (refine ctlT ?_)
  refine sw_cond rfl (fun g5 => ?_) (fun g5 => ?_)
  · (refine ctlT ?_)
    have ha := f6 g5
    obtain ⟨ha0, ha1, hb0, hb1⟩ := ha
    obtain ⟨a, rfl⟩ := Int.eq_ofNat_of_zero_le ha0
    obtain ⟨b, rfl⟩ := Int.eq_ofNat_of_zero_le hb0
    have hp : putT ⟨(op : Int), (a : Int), (b : Int), l⟩ = uB a ++ uB b := by unfold putT; simp only [g1, g2, g3, g4, g5, if_true, if_false, Bool.false_eq_true, Int.toNat_natCast]
    have hal := uB_len 1 a (by omega)
    refine rgD [(0, true), (1, true), (2, true), (3, true), (5, true), (6, true), (7, true), (4, false), (8, false), (9, true)] ?_
    refine dlo rfl (lop_move (E rfl)) rfl ?_
    refine z73 ?_
    refine z74 ?_
    refine z75 ?_
    refine z73 ?_
    refine z74 ?_
    refine z75 ?_
    refine dcw [(r12, .arr 5 1 ((us).map encU))] rfl Try.call46 (leb_putU r12 (us) (by first | omega | (simp; omega)) a (by omega)) rfl ?_ ?_ ?_ ?_
    · (exact argsleT)
    · (exact stleT)
    · (exact hbtT)
    rintro _ σ' ⟨ra, rfl, rfl⟩ hra
    have kra := rest1T hra; (repeat (rcases kra with ⟨_, kra⟩))
    (apply rd_sto; (exact nflT))
    refine dcw [(ra, .arr 5 1 ((us ++ uB a).map encU))] rfl Try.call46 (leb_putU ra (us ++ uB a) (by first | omega | (simp; omega)) b (by omega)) rfl ?_ ?_ ?_ ?_
    · (exact argsleT)
    · (exact stleT)
    · (exact hbtT)
    rintro _ σ' ⟨rb, rfl, rfl⟩ hrb
    have krb := rest1T hrb; (repeat (rcases krb with ⟨_, krb⟩))
    (apply rd_sto; (exact nflT))
    refine dlo rfl (lop_assign (E rfl)) rfl ?_
    refine deT ?_
    (refine ctlT ?_)
    rw [hp, ← List.append_assoc]
    (apply aend; (exact resT))
    · exact ⟨_, rfl, rfl⟩
    · (exact stleT)
  (refine ctlT ?_)
  refine rgT ?_
  refine lo (lop_eql (E rfl) (E rfl)) rfl ?_
  refine lo (lop_assign (E rfl)) rfl ?_
  refine leT ?_
  (refine ctlT ?_)
  refine sw_cond rfl (fun g6 => ?_) (fun g6 => ?_)
  · (refine ctlT ?_)
    have hp : putT ⟨(op : Int), ai, bi, l⟩ = [0] := by unfold putT; simp only [g1, g2, g3, g4, g5, g6, if_true, if_false, Bool.false_eq_true]
    refine rgT ?_
    refine lo (lop_move (E rfl)) rfl ?_
    refine z1 ?_; refine freshT fun r80 h80 => ?_; (repeat (rcases h80 with ⟨_, h80⟩))
    apply ap (es' := (us ++ [0]).map encU) (len' := (us ++ [0]).length); rfl; rfl; (exact sgT)
    · simp
    · exact .inr (.inr ⟨_, _, _, _, _, rfl, sgT, by simp, rfl⟩)
    · first | (simp [encU]; done) | (simp only [List.drop_zero, List.map_append]; congr 1; exact List.take_of_length_le (by simp))
    · simp; try omega
    · simp [maxLen]; try omega
    · simp; try omega
    · rfl
    refine apnT fun r81 h81 => ?_; (repeat (rcases h81 with ⟨_, h81⟩))
    refine lo (lop_assign (E rfl)) rfl ?_
    refine leT ?_
    (refine ctlT ?_)
    rw [hp]
    (apply aend; (exact resT))
    · exact ⟨_, rfl, rfl⟩
    · (exact stleT)
  (refine ctlT ?_)
  refine rgT ?_
  refine lo (lop_eql (E rfl) (E rfl)) rfl ?_
  refine lo (lop_assign (E rfl)) rfl ?_
  refine leT ?_
  (refine ctlT ?_)
  apply sw_orr rfl; exact fdelT
  · intro _; (refine ctlT ?_)
    refine rgT ?_
    refine lo (lop_eql (E rfl) (E rfl)) rfl ?_
    refine lo (lop_assign (E rfl)) rfl ?_
    refine leT ?_
    (refine ctlT ?_)
    (exact sgoT)
  (refine ctlT ?_)
  refine sw_cond rfl (fun g7 => ?_) (fun g7 => ?_)
  · (refine ctlT ?_)
    have hp : putT ⟨(op : Int), ai, bi, l⟩ = sB ai := by unfold putT; simp only [g1, g2, g3, g4, g5, g6, g7, if_true, if_false, Bool.false_eq_true]
    refine rgT ?_
    refine lo (lop_move (E rfl)) rfl ?_
    refine z59 ?_
    refine z60 ?_
    refine cw [(r12, .arr 5 1 (us.map encU))] Try.call47 (leb_putS r12 us (by omega) ai f8) rfl ?_ ?_ ?_
    · (exact argsleT)
    · (exact stleT)
    rintro _ σ' ⟨ra, rfl, rfl⟩ hra
    (apply rs_sto; (exact nflT))
    refine lo (lop_assign (E rfl)) rfl ?_
    refine leT ?_
    (refine ctlT ?_)
    rw [hp]
    (apply aend; (exact resT))
    · exact ⟨_, rfl, rfl⟩
    · (exact stleT)
  (refine ctlT ?_)
  refine rgT ?_
  refine lo (lop_move (E rfl)) rfl ?_
  refine lo (lop_assign (E rfl)) rfl ?_
  refine leT ?_
  (refine ctlT ?_)
  (apply aend; (exact resT))
  · (unfold putT; simp only [g1, g2, g3, g4, g5, g6, g7, if_true, if_false, Bool.false_eq_true, List.append_nil]; exact ⟨_, rfl, rfl⟩)
  · (exact stleT)
end Go.Proofs.Ytkjfflabapeidaa
