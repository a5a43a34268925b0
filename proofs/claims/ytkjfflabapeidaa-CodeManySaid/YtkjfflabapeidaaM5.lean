import Derived.Test.YtkjfflabapeidaaM4
/-
  Instructions as bytes, in the document's words.
-/
namespace Go.Proofs.Ytkjfflabapeidaa
open Go.RowKit Go.ChangeShapes Go.WideShapes Go.ChangeAt Go.Deep
set_option linter.unusedSimpArgs false
set_option linter.unusedVariables false
attribute [local irreducible] SW RS RD AThen ABlock

theorem kind_at2 {a : Int} (h : 0 ≤ a ∧ a ≤ 2) : ([[.int .u8 64], [.int .u8 127], [.int .u8 126]] : List (List AV))[a.toNat]? = some [.int .u8 (kindB a : Nat)] := by
  have : a = 0 ∨ a = 1 ∨ a = 2 := by omega
  rcases this with rfl | rfl | rfl <;> rfl
set_option maxRecDepth 100000 in
theorem ref_putInstr (k : Rk) (x : Ins) (hx : x.Ok) (hm : mayN x = true) : SCall Try.prog 24 [.agg (iv k x)] []
    (fun y σ => ∃ r, y = .own r 0 (putN x).length ∧ σ = [(r, .arr 5 1 ((putN x).map encU))]) := by
  have f1 := may_op hm
  have f2 := may2 hm
  have f3 := may3 hm
  have f4 := may4 hm
  have f5 := may5 hm
  have f6 := may6 hm
  have hop : -9223372036854775808 ≤ x.op ∧ x.op ≤ 9223372036854775807 := ⟨hx.1, hx.2.1⟩
  have f8 : -9223372036854775808 ≤ x.a ∧ x.a ≤ 9223372036854775807 := ⟨hx.2.2.1, hx.2.2.2.1⟩
  have hs8 : (sB x.a).length ≤ 10 := sB_len 9 x.a (by omega) (by omega)
  obtain ⟨op, ai, bi, l⟩ := x
  dsimp only at f1 f2 f3 f4 f5 f6 f8 hop hs8
  obtain ⟨op, rfl⟩ := Int.eq_ofNat_of_zero_le f1.1
  have hvo : putN ⟨(op : Int), ai, bi, l⟩ = [op] ++ putT ⟨(op : Int), ai, bi, l⟩ := by simp [putN]
  rw [hvo]
  refine scall_of (n := 98) (ks := [0, 1, 2, 3, 4, 11, 12, 22, 30, 40, 53, 71, 84, 89]) Try.func24 rfl rfl (Nat.le_of_ble_eq_true rfl) ?_
  unfold iv
  dsimp only
  (refine ctlT ?_)
  refine rgT ?_
  apply bx; rfl; rfl; (exact zcT); rfl; refine freshT fun r1 h1 => ?_; (repeat (rcases h1 with ⟨_, h1⟩))
  refine lo (lop_assign (E rfl)) rfl ?_
  refine leT ?_
  (refine ctlT ?_)
  refine rgT ?_
  refine z59 ?_
  refine z60 ?_
  refine z0 ?_
  refine z1 ?_; refine freshT fun r8 h8 => ?_; (repeat (rcases h8 with ⟨_, h8⟩))
  refine lo (lop_assign (E rfl)) rfl ?_
  refine leT ?_
  (refine ctlT ?_)
  rw [show [[AV.int .u8 (op : Int)]] = [op].map encU from rfl, show AV.own r8 0 1 = AV.own r8 0 [op].length from rfl]
  refine rgT ?_
  refine z59 ?_
  refine z60 ?_
  (first | refine ln rfl rfl rfl rfl ?_ | refine lw rfl rfl (lop_no (v := .bool false)) rfl ?_ | refine pu [] Try.call27 (ref_formN _ (by assumption)) rfl argsT nofT ?_ | refine pug [] rfl rfl Try.call27 (fun _ => (ref_formN _ (by assumption))) rfl argsT nofT ?_ | refine puw [] rfl rfl Try.call27 (fun _ => (ref_formN _ (by assumption))) rfl argsT nofT ?_)
  refine leT ?_
  (refine ctlT ?_)
  refine rgT ?_
  refine lo (lop_eql (E rfl) (E rfl)) rfl ?_
  refine lo (lop_assign (E rfl)) rfl ?_
  refine leT ?_
  (refine ctlT ?_)
  refine sw_cond rfl (fun g1 => ?_) (fun g1 => ?_)
  · (refine ctlT ?_)
    have ha := f2 g1
    have hp : putT ⟨(op : Int), ai, bi, l⟩ = [kindB ai] := by unfold putT; simp only [g1, if_true, if_false, Bool.false_eq_true]
    refine rgT ?_
    refine lo (lop_move (E rfl)) rfl ?_
    refine z1 ?_; refine freshT fun r15 h15 => ?_; (repeat (rcases h15 with ⟨_, h15⟩))
    refine z59 ?_
    refine z60 ?_
    refine z15 ?_
    refine lo (lop_load_ow (E rfl) rfl sgT (fun _ => kind_at2 ha) (fun _ => rfl)) rfl ?_
    refine z1 ?_; refine freshT fun r20 h20 => ?_; (repeat (rcases h20 with ⟨_, h20⟩))
    apply ap (es' := ([op] ++ [kindB ai]).map encU) (len' := ([op] ++ [kindB ai]).length); rfl; rfl; (exact sgT)
    · simp
    · exact .inr (.inr ⟨_, _, _, _, _, rfl, sgT, by simp, rfl⟩)
    · first | (simp [encU]; done) | (simp only [List.drop_zero, List.map_append]; congr 1; exact List.take_of_length_le (by simp))
    · simp; try omega
    · simp [maxLen]; try omega
    · simp; try omega
    · rfl
    refine apnT fun r21 h21 => ?_; (repeat (rcases h21 with ⟨_, h21⟩))
    refine lo (lop_assign (E rfl)) rfl ?_
    refine leT ?_
    (refine ctlT ?_)
    rw [hp]
    (apply aend; (exact resT))
    · exact ⟨_, rfl, rfl⟩
    · (exact stleT)
  (refine ctlT ?_)
  refine rgT ?_
  refine lo (lop_eql (E rfl) (E rfl)) rfl ?_
  refine lo (lop_assign (E rfl)) rfl ?_
  refine leT ?_
  (refine ctlT ?_)
  refine sw_cond rfl (fun g2 => ?_) (fun g2 => ?_)
  · (refine ctlT ?_)
    have ha := f3 g2
    obtain ⟨a, rfl⟩ := Int.eq_ofNat_of_zero_le ha.1
    have hp : putT ⟨(op : Int), (a : Int), bi, l⟩ = uB a := by unfold putT; simp only [g1, g2, if_true, if_false, Bool.false_eq_true, Int.toNat_natCast]
    have hal := uB_len 1 a (by omega)
    refine rgT ?_
    refine lo (lop_move (E rfl)) rfl ?_
    refine z59 ?_
    refine z60 ?_
    refine z24 ?_
    refine cw [] Try.call48 (ref_U a (by omega)) rfl ?_ ?_ ?_
    · (exact argsleT)
    · (exact stleT)
    rintro _ σ' ⟨ra, rfl, rfl⟩ hra
    replace hra := cnewT hra; (repeat (rcases hra with ⟨_, hra⟩))
    (apply rs_sto; (exact nflT))

    apply ap (es' := ([op] ++ uB a).map encU) (len' := ([op] ++ uB a).length); rfl; rfl; (exact sgT)
    · simp
    · exact .inr (.inr ⟨_, _, _, _, _, rfl, sgT, by simp, rfl⟩)
    · first | (simp [encU]; done) | (simp only [List.drop_zero, List.map_append]; congr 1; exact List.take_of_length_le (by simp))
    · simp; try omega
    · simp [maxLen]; try omega
    · simp; try omega
    · rfl
    refine apnT fun r29 h29 => ?_; (repeat (rcases h29 with ⟨_, h29⟩))
    refine lo (lop_assign (E rfl)) rfl ?_
    refine leT ?_
    (refine ctlT ?_)
    rw [hp]
    (apply aend; (exact resT))
    · exact ⟨_, rfl, rfl⟩
    · (exact stleT)
  (refine ctlT ?_)
  refine rgT ?_
  refine lo (lop_eql (E rfl) (E rfl)) rfl ?_
  refine lo (lop_assign (E rfl)) rfl ?_
  refine leT ?_
  (refine ctlT ?_)
  refine sw_cond rfl (fun g3 => ?_) (fun g3 => ?_)
  · (refine ctlT ?_)
    have ha := f5 g3
    obtain ⟨a, rfl⟩ := Int.eq_ofNat_of_zero_le ha.1
    have hp : putT ⟨(op : Int), (a : Int), bi, l⟩ = uB a ++ [0] := by unfold putT; simp only [g1, g2, g3, if_true, if_false, Bool.false_eq_true, Int.toNat_natCast]
    have hal := uB_len 1 a (by omega)
    refine rgT ?_
    refine lo (lop_move (E rfl)) rfl ?_
    refine z59 ?_
    refine z60 ?_
    refine z24 ?_
    refine cw [] Try.call48 (ref_U a (by omega)) rfl ?_ ?_ ?_
    · (exact argsleT)
    · (exact stleT)
    rintro _ σ' ⟨ra, rfl, rfl⟩ hra
    replace hra := cnewT hra; (repeat (rcases hra with ⟨_, hra⟩))
    (apply rs_sto; (exact nflT))
    apply ap (es' := ([op] ++ uB a).map encU) (len' := ([op] ++ uB a).length); rfl; rfl; (exact sgT)
    · simp
    · exact .inr (.inr ⟨_, _, _, _, _, rfl, sgT, by simp, rfl⟩)
    · first | (simp [encU]; done) | (simp only [List.drop_zero, List.map_append]; congr 1; exact List.take_of_length_le (by simp))
    · simp; try omega
    · simp [maxLen]; try omega
    · simp; try omega
    · rfl
    refine apnT fun r37 h37 => ?_; (repeat (rcases h37 with ⟨_, h37⟩))
    refine z1 ?_; refine freshT fun r38 h38 => ?_; (repeat (rcases h38 with ⟨_, h38⟩))
    apply ap (es' := (([op] ++ uB a) ++ [0]).map encU) (len' := (([op] ++ uB a) ++ [0]).length); rfl; rfl; (exact sgT)
    · simp
    · exact .inr (.inr ⟨_, _, _, _, _, rfl, sgT, by simp, rfl⟩)
    · first | (simp [encU]; done) | (simp only [List.drop_zero, List.map_append]; congr 1; exact List.take_of_length_le (by simp))
    · simp; try omega
    · simp [maxLen]; try omega
    · simp; try omega
    · rfl
    refine apnT fun r39 h39 => ?_; (repeat (rcases h39 with ⟨_, h39⟩))
    refine lo (lop_assign (E rfl)) rfl ?_
    refine leT ?_
    (refine ctlT ?_)
    rw [hp, ← List.append_assoc]
    (apply aend; (exact resT))
    · exact ⟨_, rfl, rfl⟩
    · (exact stleT)
  (refine ctlT ?_)
  refine rgT ?_
  refine lo (lop_eql (E rfl) (E rfl)) rfl ?_
  refine lo (lop_assign (E rfl)) rfl ?_
  refine leT ?_
  (refine ctlT ?_)
  refine sw_cond rfl (fun g4 => ?_) (fun g4 => ?_)
  · (refine ctlT ?_)
    have ha := f4 g4
    obtain ⟨⟨ha0, ha1⟩, hl50, hall⟩ := ha
    obtain ⟨a, rfl⟩ := Int.eq_ofNat_of_zero_le ha0
    have hp : putT ⟨(op : Int), (a : Int), bi, l⟩ = uB l.length ++ (l.flatMap fun n => uB n.toNat) ++ uB a := by unfold putT; simp only [g1, g2, g3, g4, if_true, if_false, Bool.false_eq_true, Int.toNat_natCast]
    have hal := uB_len 1 a (by omega)
    have hll := uB_len 1 l.length (by omega)
    have hfl := flat_len hall
    refine rgT ?_
    refine lo (lop_move (E rfl)) rfl ?_
    refine z59 ?_
    refine z60 ?_
    refine z14 ?_
    refine z24 ?_
    refine cw [] Try.call48 (ref_U l.length (by omega)) rfl ?_ ?_ ?_
    · (exact argsleT)
    · (exact stleT)
    rintro _ σ' ⟨ra, rfl, rfl⟩ hra
    replace hra := cnewT hra; (repeat (rcases hra with ⟨_, hra⟩))
    (apply rs_sto; (exact nflT))
    apply ap (es' := ([op] ++ uB l.length).map encU) (len' := ([op] ++ uB l.length).length); rfl; rfl; (exact sgT)
    · simp
    · exact .inr (.inr ⟨_, _, _, _, _, rfl, sgT, by simp, rfl⟩)
    · first | (simp [encU]; done) | (simp only [List.drop_zero, List.map_append]; congr 1; exact List.take_of_length_le (by simp))
    · simp; try omega
    · simp [maxLen]; try omega
    · simp; try omega
    · rfl
    refine apnT fun r48 h48 => ?_; (repeat (rcases h48 with ⟨_, h48⟩))
    refine lo (lop_assign (E rfl)) rfl ?_
    refine leT ?_
    (refine ctlT ?_)
    refine rgT ?_
    refine lo (lop_assign (E rfl)) rfl ?_
    refine leT ?_
    (refine ctlT ?_)
    obtain ⟨ws, hws⟩ : ∃ ws, ws = [op] ++ uB l.length := ⟨_, rfl⟩
    have hwl : ws.length ≤ 3 := by rw [hws]; simp; omega
    rw [← hws]
    have hpre : ∀ j, (ws ++ ((l.take j).flatMap fun n => uB n.toNat)).length ≤ 103 := fun j => by
      have := flat_len (l := l.take j) fun n hn => hall n (List.mem_of_mem_take hn)
      simp at this ⊢
      omega
    refine lp (β := Nat × Nat) (fun b => ⟨[(3, .own b.1 0 (ws ++ ((l.take b.2).flatMap fun n => uB n.toNat)).length), (1, .ptr r1 0), (4, .int .i64 b.2)], [(b.1, .arr 5 1 ((ws ++ ((l.take b.2).flatMap fun n => uB n.toNat)).map encU)), (r1, .box 24 [.int .i64 op, .int .i64 a, .int .i64 bi, .ro 1 (l.map encI) k])]⟩) (fun b => Nq b.1 r1 ∧ b.2 ≤ l.length) (fun b => l.length - b.2) (r48, 0) ?_ ⟨?_, Nat.zero_le _⟩ ?_
    · simp only [List.take_zero, List.flatMap_nil, List.append_nil]; (exact sgoT)
    · show Nq r48 r1; (exact nqT)
    rintro ⟨rb, j⟩ ⟨hrb, hj⟩
    dsimp only at hrb hj ⊢
    have hpj := hpre j
    (refine ctlT ?_)
    refine rgT ?_
    refine lo (lop_move (E rfl)) rfl ?_
    refine z59 ?_
    refine z60 ?_
    refine z14 ?_
    refine lo (lop_lss (E rfl) (E rfl)) rfl ?_
    refine leT ?_
    (refine ctlT ?_)
    refine sw_cond rfl (fun h1 => ?_) (fun h1 => ?_)
    · have hlt : j < l.length := by simp at h1; omega
      obtain ⟨y, hy⟩ : ∃ y, l[j]? = some y := ⟨_, List.getElem?_eq_getElem hlt⟩
      obtain ⟨hy0, hy1⟩ := hall y (List.mem_of_getElem? hy)
      obtain ⟨z, rfl⟩ := Int.eq_ofNat_of_zero_le hy0
      have hzl := uB_len 1 z (by omega)
      obtain ⟨pl, hpl⟩ : ∃ pl, pl = ws ++ ((l.take j).flatMap fun n => uB n.toNat) := ⟨_, rfl⟩
      rw [← hpl] at hpj ⊢
      (refine ctlT ?_)
      refine rgT ?_
      refine lo (lop_move (E rfl)) rfl ?_
      refine z59 ?_
      refine z60 ?_
      refine lo (lop_move (E rfl)) rfl ?_
      refine z15 ?_
      refine z16 ?_
      refine z24 ?_
      refine cw [] Try.call48 (ref_U z (by omega)) rfl ?_ ?_ ?_
      · (exact argsleT)
      · (exact stleT)
      rintro _ σ' ⟨rc, rfl, rfl⟩ hrc
      replace hrc := cnewT hrc; (repeat (rcases hrc with ⟨_, hrc⟩))
      (apply rs_sto; (exact nflT))
      apply ap (es' := (pl ++ uB z).map encU) (len' := (pl ++ uB z).length); rfl; rfl; (exact sgT)
      · simp
      · exact .inr (.inr ⟨_, _, _, _, _, rfl, sgT, by simp, rfl⟩)
      · first | (simp [encU]; done) | (simp only [List.drop_zero, List.map_append]; congr 1; exact List.take_of_length_le (by simp))
      · simp; try omega
      · simp [maxLen]; try omega
      · simp; try omega
      · rfl
      refine apnT fun r64 h64 => ?_; (repeat (rcases h64 with ⟨_, h64⟩))
      refine lo (lop_assign (E rfl)) rfl ?_
      refine leT ?_
      (refine ctlT ?_)
      refine rgT ?_
      refine lo (lop_move (E rfl)) rfl ?_
      refine z17 ?_
      refine lo (lop_assign (E rfl)) rfl ?_
      refine leT ?_
      (refine ctlT ?_)
      have hnx : ws ++ ((l.take j).flatMap fun n => uB n.toNat) ++ uB z = ws ++ ((l.take (j + 1)).flatMap fun n => uB n.toNat) := by
        rw [List.take_add_one, hy, List.flatMap_append, List.append_assoc]
        simp
      rw [hpl, hnx]
      refine ⟨(r64, j + 1), ⟨by show Nq r64 r1; (exact nqT), hlt⟩, by show l.length - (j + 1) < l.length - j; omega, ?_⟩
      (exact sgoT)
    · obtain rfl : j = l.length := by simp at h1; omega
      rw [List.take_length] at hpj ⊢
      obtain ⟨pl, hpl⟩ : ∃ pl, pl = ws ++ (l.flatMap fun n => uB n.toNat) := ⟨_, rfl⟩
      rw [← hpl] at hpj ⊢
      (refine ctlT ?_)
      refine rgT ?_
      refine lo (lop_move (E rfl)) rfl ?_
      refine z59 ?_
      refine z60 ?_
      refine z24 ?_
      refine cw [] Try.call48 (ref_U a (by omega)) rfl ?_ ?_ ?_
      · (exact argsleT)
      · (exact stleT)
      rintro _ σ' ⟨rd, rfl, rfl⟩ hrd
      replace hrd := cnewT hrd; (repeat (rcases hrd with ⟨_, hrd⟩))
      (apply rs_sto; (exact nflT))
      apply ap (es' := (pl ++ uB a).map encU) (len' := (pl ++ uB a).length); rfl; rfl; (exact sgT)
      · simp
      · exact .inr (.inr ⟨_, _, _, _, _, rfl, sgT, by simp, rfl⟩)
      · first | (simp [encU]; done) | (simp only [List.drop_zero, List.map_append]; congr 1; exact List.take_of_length_le (by simp))
      · simp; try omega
      · simp [maxLen]; try omega
      · simp; try omega
      · rfl
      refine apnT fun r70 h70 => ?_; (repeat (rcases h70 with ⟨_, h70⟩))
      refine lo (lop_assign (E rfl)) rfl ?_
      refine leT ?_
      (refine ctlT ?_)
      rw [hpl]
      rw [hp, show [op] ++ (uB l.length ++ (l.flatMap fun n => uB n.toNat) ++ uB a) = ws ++ (l.flatMap fun n => uB n.toNat) ++ uB a by rw [hws]; simp]
      (apply aend; (exact resT))
      · exact ⟨_, rfl, rfl⟩
      · (exact stleT)
  (refine ctlT ?_)
  refine rgT ?_
  refine lo (lop_eql (E rfl) (E rfl)) rfl ?_
  refine lo (lop_assign (E rfl)) rfl ?_
  refine leT ?_
  (refine ctlT ?_)
  refine sw_cond rfl (fun g5 => ?_) (fun g5 => ?_)
  · (refine ctlT ?_)
    have ha := f6 g5
    obtain ⟨ha0, ha1, hb0, hb1⟩ := ha
    obtain ⟨a, rfl⟩ := Int.eq_ofNat_of_zero_le ha0
    obtain ⟨b, rfl⟩ := Int.eq_ofNat_of_zero_le hb0
    have hp : putT ⟨(op : Int), (a : Int), (b : Int), l⟩ = uB a ++ uB b := by unfold putT; simp only [g1, g2, g3, g4, g5, if_true, if_false, Bool.false_eq_true, Int.toNat_natCast]
    have hal := uB_len 1 a (by omega)
    have hbl := uB_len 4 b (by omega)
    refine rgD [(0, true), (1, true), (2, true), (3, true), (6, true), (7, true), (8, true), (4, false), (5, false), (9, false), (10, false), (11, true)] ?_
    refine dlo rfl (lop_move (E rfl)) rfl ?_
    refine z73 ?_
    refine z74 ?_
    refine z75 ?_
    refine z73 ?_
    refine z74 ?_
    refine z75 ?_
    refine dcw [] rfl Try.call48 (ref_U a (by omega)) rfl ?_ ?_ ?_ ?_
    · (exact argsleT)
    · (exact stleT)
    · (exact hbtT)
    rintro _ σ' ⟨ra, rfl, rfl⟩ hra
    replace hra := cnewT hra; (repeat (rcases hra with ⟨_, hra⟩))
    (apply rd_sto; (exact nflT))
    apply dap (es' := ([op] ++ uB a).map encU) (len' := ([op] ++ uB a).length); rfl; infer_instance; infer_instance; rfl; rfl; (exact sgT)
    · simp
    · exact .inr (.inr ⟨_, _, _, _, _, rfl, sgT, by simp, rfl⟩)
    · first | (simp [encU]; done) | (simp only [List.drop_zero, List.map_append]; congr 1; exact List.take_of_length_le (by simp))
    · simp; try omega
    · simp [maxLen]; try omega
    · simp; try omega
    · rfl
    · (exact hbtT)
    refine apnT fun r78 h78 => ?_; (repeat (rcases h78 with ⟨_, h78⟩))
    refine dcw [] rfl Try.call48 (ref_U b (by omega)) rfl ?_ ?_ ?_ ?_
    · (exact argsleT)
    · (exact stleT)
    · (exact hbtT)
    rintro _ σ' ⟨rb, rfl, rfl⟩ hrb
    replace hrb := cnewT hrb; (repeat (rcases hrb with ⟨_, hrb⟩))
    (apply rd_sto; (exact nflT))
    apply dap (es' := (([op] ++ uB a) ++ uB b).map encU) (len' := (([op] ++ uB a) ++ uB b).length); rfl; infer_instance; infer_instance; rfl; rfl; (exact sgT)
    · simp
    · exact .inr (.inr ⟨_, _, _, _, _, rfl, sgT, by simp, rfl⟩)
    · first | (simp [encU]; done) | (simp only [List.drop_zero, List.map_append]; congr 1; exact List.take_of_length_le (by simp))
    · simp; try omega
    · simp [maxLen]; try omega
    · simp; try omega
    · rfl
    · (exact hbtT)
    refine apnT fun r83 h83 => ?_; (repeat (rcases h83 with ⟨_, h83⟩))
    refine dlo rfl (lop_assign (E rfl)) rfl ?_
    refine deT ?_
    (refine ctlT ?_)
    rw [hp, ← List.append_assoc]
    (apply aend; (exact resT))
    · exact ⟨_, rfl, rfl⟩
    · (exact stleT)
  (refine ctlT ?_)
  refine rgT ?_
  refine lo (lop_eql (E rfl) (E rfl)) rfl ?_
  refine lo (lop_assign (E rfl)) rfl ?_
  refine leT ?_
  (refine ctlT ?_)
  refine sw_cond rfl (fun g6 => ?_) (fun g6 => ?_)
  · (refine ctlT ?_)
    have hp : putT ⟨(op : Int), ai, bi, l⟩ = [0] := by unfold putT; simp only [g1, g2, g3, g4, g5, g6, if_true, if_false, Bool.false_eq_true]
    refine rgT ?_
    refine lo (lop_move (E rfl)) rfl ?_
    refine z1 ?_; refine freshT fun r87 h87 => ?_; (repeat (rcases h87 with ⟨_, h87⟩))
    apply ap (es' := ([op] ++ [0]).map encU) (len' := ([op] ++ [0]).length); rfl; rfl; (exact sgT)
    · simp
    · exact .inr (.inr ⟨_, _, _, _, _, rfl, sgT, by simp, rfl⟩)
    · first | (simp [encU]; done) | (simp only [List.drop_zero, List.map_append]; congr 1; exact List.take_of_length_le (by simp))
    · simp; try omega
    · simp [maxLen]; try omega
    · simp; try omega
    · rfl
    refine apnT fun r88 h88 => ?_; (repeat (rcases h88 with ⟨_, h88⟩))
    refine lo (lop_assign (E rfl)) rfl ?_
    refine leT ?_
    (refine ctlT ?_)
    rw [hp]
    (apply aend; (exact resT))
    · exact ⟨_, rfl, rfl⟩
    · (exact stleT)
  (refine ctlT ?_)
  refine rgT ?_
  refine lo (lop_eql (E rfl) (E rfl)) rfl ?_
  refine lo (lop_assign (E rfl)) rfl ?_
  refine leT ?_
  (refine ctlT ?_)
  apply sw_orr rfl; exact fdelT
  · intro _; (refine ctlT ?_)
    refine rgT ?_
    refine lo (lop_eql (E rfl) (E rfl)) rfl ?_
    refine lo (lop_assign (E rfl)) rfl ?_
    refine leT ?_
    (refine ctlT ?_)
    (exact sgoT)
  (refine ctlT ?_)
  refine sw_cond rfl (fun g7 => ?_) (fun g7 => ?_)
  · (refine ctlT ?_)
    have hp : putT ⟨(op : Int), ai, bi, l⟩ = sB ai := by unfold putT; simp only [g1, g2, g3, g4, g5, g6, g7, if_true, if_false, Bool.false_eq_true]
    refine rgT ?_
    refine lo (lop_move (E rfl)) rfl ?_
    refine z59 ?_
    refine z60 ?_
    refine cw [] Try.call49 (ref_S ai f8) rfl ?_ ?_ ?_
    · (exact argsleT)
    · (exact stleT)
    rintro _ σ' ⟨ra, rfl, rfl⟩ hra
    replace hra := cnewT hra; (repeat (rcases hra with ⟨_, hra⟩))
    (apply rs_sto; (exact nflT))
    apply ap (es' := ([op] ++ sB ai).map encU) (len' := ([op] ++ sB ai).length); rfl; rfl; (exact sgT)
    · simp
    · exact .inr (.inr ⟨_, _, _, _, _, rfl, sgT, by simp, rfl⟩)
    · first | (simp [encU]; done) | (simp only [List.drop_zero, List.map_append]; congr 1; exact List.take_of_length_le (by simp))
    · simp; try omega
    · simp [maxLen]; try omega
    · simp; try omega
    · rfl
    refine apnT fun r96 h96 => ?_; (repeat (rcases h96 with ⟨_, h96⟩))
    refine lo (lop_assign (E rfl)) rfl ?_
    refine leT ?_
    (refine ctlT ?_)
    rw [hp]
    (apply aend; (exact resT))
    · exact ⟨_, rfl, rfl⟩
    · (exact stleT)
  (refine ctlT ?_)
  refine rgT ?_
  refine lo (lop_move (E rfl)) rfl ?_
  refine lo (lop_assign (E rfl)) rfl ?_
  refine leT ?_
  (refine ctlT ?_)
  (apply aend; (exact resT))
  · (unfold putT; simp only [g1, g2, g3, g4, g5, g6, g7, if_true, if_false, Bool.false_eq_true, List.append_nil]; exact ⟨_, rfl, rfl⟩)
  · (exact stleT)
end Go.Proofs.Ytkjfflabapeidaa
/-
  Reading parts of bytes: package instr's reader.
-/
namespace Go.Proofs.Ytkjfflabapeidaa
open Go.RowKit Go.ChangeShapes Go.WideShapes Go.ChangeAt Go.Deep
set_option linter.unusedSimpArgs false
set_option linter.unusedVariables false
attribute [local irreducible] SW RS RD AThen ABlock

/-- a reader's parts: the bytes, where it is, its error -/
def rv (l : List Nat) (n : Nat) (e : Int) : List AV := [.ro 1 (l.map encU) .any, .int .i64 n, .int .i64 e]
def rdB (l : List Nat) (n : Nat) (e : Int) : Nat × Nat × Int :=
  if (e != 0) = true then (0, n, e) else if ((n : Int) == (l.length : Int)) = true then (0, n, 2) else (l[n]!, n + 1, e)
def rdU (l : List Nat) (lim : Int) (n : Nat) (e : Int) : Nat × Nat × Int :=
  if (e != 0) = true then (0, n, e) else if ((getU (l.drop n)).2.2 != 0) = true then (0, n, (getU (l.drop n)).2.2) else if decide (lim < ((getU (l.drop n)).1 : Int)) = true then (0, n, 1) else ((getU (l.drop n)).1, n + (getU (l.drop n)).2.1, (getU (l.drop n)).2.2)
def rdS (l : List Nat) (bits : Nat) (n : Nat) : Int × Nat × Int := ((getS bits (l.drop n)).1, n + (getS bits (l.drop n)).2.1, (getS bits (l.drop n)).2.2)
set_option maxRecDepth 100000 in
theorem rdr_byte (r : Nat) (l : List Nat) (hl : l.length ≤ 1000000) (hlt : ∀ x ∈ l, x < 256) (n : Nat) (hn : n ≤ l.length) (e : Int) : SCall Try.prog 50 [.ptr r 0] [(r, .box 81 (rv l n e))]
    (fun x σ => x = .int .i64 ((rdB l n e).1 : Nat) ∧ σ = [(r, .box 81 (rv l (rdB l n e).2.1 (rdB l n e).2.2))]) := by
  refine scall_of (n := 42) (ks := [0, 2, 3, 9]) Try.func50 rfl rfl (Nat.le_of_ble_eq_true rfl) ?_
  unfold rv
  (refine ctlT ?_)
  refine rgT ?_
  refine lo (lop_assign (E rfl)) rfl ?_
  refine leT ?_
  (refine ctlT ?_)
  refine rgT ?_
  refine lo (lop_move (E rfl)) rfl ?_
  refine z76 ?_
  refine z59 ?_
  refine z60 ?_
  refine lo (lop_neq (E rfl) (E rfl)) rfl ?_
  refine lo (lop_assign (E rfl)) rfl ?_
  refine leT ?_
  (refine ctlT ?_)
  refine sw_cond rfl (fun g1 => ?_) (fun g1 => ?_)
  · (refine ctlT ?_)
    refine rgT ?_
    refine lo (lop_assign (E rfl)) rfl ?_
    refine leT ?_
    (refine ctlT ?_)
    (apply aend; (exact resT))
    · (unfold rdB; simp only [g1, if_true, if_false, Bool.false_eq_true]; exact ⟨rfl, rfl⟩)
    · (exact stleT)
  (refine ctlT ?_)
  refine rgD [(0, true), (1, true), (2, true), (3, true), (4, true), (5, true), (6, true), (7, true), (8, true), (9, true), (10, true)] ?_
  refine dlo rfl (lop_move (E rfl)) rfl ?_
  refine z77 ?_
  refine z73 ?_
  refine z74 ?_
  refine dlo rfl (lop_move (E rfl)) rfl ?_
  refine z77 ?_
  refine z73 ?_
  refine z74 ?_
  refine z78 ?_
  refine z79 ?_
  refine dlo rfl (lop_assign (E rfl)) rfl ?_
  refine deT ?_
  (refine ctlT ?_)
  refine sw_cond rfl (fun g2 => ?_) (fun g2 => ?_)
  · (refine ctlT ?_)
    refine rgT ?_
    refine lo (lop_move (E rfl)) rfl ?_
    refine z76 ?_
    refine z59 ?_
    apply stp; rfl; rfl; rfl; rfl; (exact sputT)
    refine leT ?_
    (refine ctlT ?_)
    refine rgT ?_
    refine lo (lop_assign (E rfl)) rfl ?_
    refine leT ?_
    (refine ctlT ?_)
    (apply aend; (exact resT))
    · (unfold rdB; simp only [g1, g2, if_true, if_false, Bool.false_eq_true]; exact ⟨rfl, rfl⟩)
    · (exact stleT)
  (refine ctlT ?_)
  refine rgT ?_
  refine lo (lop_move (E rfl)) rfl ?_
  refine z76 ?_
  refine z59 ?_
  refine z60 ?_
  refine z17 ?_
  refine z76 ?_
  refine z59 ?_
  apply stp; rfl; rfl; rfl; rfl; (exact sputT)
  refine leT ?_
  (refine ctlT ?_)
  have hlt2 : n < l.length := by simp at g2; omega
  refine rgD [(0, true), (1, true), (2, true), (3, true), (4, true), (5, true), (6, true), (7, true), (8, true), (9, true), (10, true), (11, true), (12, true)] ?_
  refine dlo rfl (lop_move (E rfl)) rfl ?_
  refine z77 ?_
  refine z73 ?_
  refine z74 ?_
  refine dlo rfl (lop_move (E rfl)) rfl ?_
  refine z77 ?_
  refine z73 ?_
  refine z74 ?_
  refine z82 ?_
  rw [show (n : Int) + 1 - 1 = (n : Nat) by omega]
  refine z56 ?_
  refine z57 ?_
  rw [Int.toNat_natCast]
  have hb8 := getB_lt hlt n
  refine z83 ?_
  refine dlo rfl (lop_assign (E rfl)) rfl ?_
  refine deT ?_
  (refine ctlT ?_)
  (apply aend; (exact resT))
  · (unfold rdB; simp only [g1, g2, if_true, if_false, Bool.false_eq_true]; exact ⟨rfl, rfl⟩)
  · (exact stleT)
def rdZ (l : List Nat) (n : Nat) (e : Int) : Nat × Int := if (((rdB l n e).1 : Int) != 0) = true then ((rdB l n e).2.1, 1) else (rdB l n e).2
theorem resAV_nil : resAV [] = .tup [] := rfl
set_option maxRecDepth 100000 in
theorem rdr_zero (r : Nat) (l : List Nat) (hl : l.length ≤ 1000000) (hlt : ∀ x ∈ l, x < 256) (n : Nat) (hn : n ≤ l.length) (e : Int) : SCall Try.prog 53 [.ptr r 0] [(r, .box 81 (rv l n e))]
    (fun x σ => x = .tup [] ∧ σ = [(r, .box 81 (rv l (rdZ l n e).1 (rdZ l n e).2))]) := by
  refine scall_of (n := 8) (ks := [0, 4]) Try.func53 rfl rfl (Nat.le_of_ble_eq_true rfl) ?_
  unfold rv
  (refine ctlT ?_)
  refine rgT ?_
  refine lo (lop_move (E rfl)) rfl ?_
  refine cw [(r, .box 81 (rv l n e))] Try.call50 (rdr_byte r l hl hlt n hn e) rfl ?_ ?_ ?_
  · (exact argsleT)
  · (exact stleT)
  rintro _ σ' ⟨rfl, rfl⟩ -
  (apply rs_sto; (exact nflT))
  refine lo (lop_neq (E rfl) (E rfl)) rfl ?_
  refine leT ?_
  (refine ctlT ?_)
  unfold rv
  refine sw_cond rfl (fun g1 => ?_) (fun g1 => ?_)
  · (refine ctlT ?_)
    refine rgT ?_
    refine lo (lop_move (E rfl)) rfl ?_
    refine z76 ?_
    refine z59 ?_
    apply stp; rfl; rfl; rfl; rfl; (exact sputT)
    refine leT ?_
    (refine ctlT ?_)
    refine aend_n ?_
    (apply aend; (exact resT))
    · unfold rdZ; rw [if_pos g1]; exact ⟨rfl, rfl⟩
    · (exact stleT)
  · (refine ctlT ?_)
    refine aend_n ?_
    (apply aend; (exact resT))
    · unfold rdZ; rw [if_neg (by rw [g1]; simp)]; exact ⟨rfl, rfl⟩
    · (exact stleT)
theorem drop_encU {l : List Nat} {n : Nat} : List.take ((l.map encU).length - n) (List.drop n (l.map encU)) = (l.drop n).map encU := by
  rw [List.map_drop, List.take_of_length_le (by simp)]
theorem unsigned_yes {e : Int} {b : Bool} (h : (if (e == 0) = true then b else false) = true) : e = 0 ∧ b = true := by
  split at h
  · next h1 => exact ⟨by simpa using h1, h⟩
  · cases h
theorem unsigned_no {e : Int} {b : Bool} (h : (if (e == 0) = true then b else false) = false) (h0 : (e != 0) = false) : e = 0 ∧ b = false := by
  have h1 : e = 0 := by simpa using h0
  subst h1
  exact ⟨rfl, h⟩
set_option maxRecDepth 100000 in
theorem rdr_unsigned (r : Nat) (l : List Nat) (hl : l.length ≤ 1000000) (hlt : ∀ x ∈ l, x < 256) (lim : Int) (n : Nat) (hn : n ≤ l.length) (e : Int) : SCall Try.prog 52 [.ptr r 0, .int .i64 lim] [(r, .box 81 (rv l n e))]
    (fun x σ => x = .int .i64 ((rdU l lim n e).1 : Nat) ∧ σ = [(r, .box 81 (rv l (rdU l lim n e).2.1 (rdU l lim n e).2.2))]) := by
  have hbd := getU_bd (l.drop n)
  obtain ⟨hb1, hb2, hb3⟩ := hbd
  rw [List.length_drop] at hb2
  refine scall_of (n := 51) (ks := [0, 1, 4, 5, 6, 7, 12, 34, 40]) Try.func52 rfl rfl (Nat.le_of_ble_eq_true rfl) ?_
  unfold rv
  (refine ctlT ?_)
  refine rgT ?_
  refine lo (lop_assign (E rfl)) rfl ?_
  refine leT ?_
  (refine ctlT ?_)
  refine rgT ?_
  refine lo (lop_move (E rfl)) rfl ?_
  refine z76 ?_
  refine z59 ?_
  refine z60 ?_
  refine lo (lop_neq (E rfl) (E rfl)) rfl ?_
  refine leT ?_
  (refine ctlT ?_)
  refine sw_cond rfl (fun g1 => ?_) (fun g1 => ?_)
  · (refine ctlT ?_)
    refine rgT ?_
    refine lo (lop_assign (E rfl)) rfl ?_
    refine leT ?_
    (refine ctlT ?_)
    (apply aend; (exact resT))
    · (unfold rdU; simp only [g1, if_true, if_false, Bool.false_eq_true]; first | exact ⟨rfl, rfl⟩ | (have hd := unsigned_no g2 g3; simp only [hd.2, Bool.false_eq_true, if_false]; exact ⟨rfl, rfl⟩))
    · (exact stleT)
  (refine ctlT ?_)
  refine rgD [(0, true), (1, true), (2, true), (3, true), (4, true), (5, true), (6, true), (7, true), (8, true), (9, false), (10, true), (11, true), (12, true), (13, true), (14, true), (15, true), (16, true)] ?_
  refine dlo rfl (lop_move (E rfl)) rfl ?_
  refine z77 ?_
  refine z73 ?_
  refine z74 ?_
  refine dlo rfl (lop_move (E rfl)) rfl ?_
  refine z77 ?_
  refine z73 ?_
  refine z74 ?_
  refine z84 ?_
  rw [drop_encU]
  refine dpu [] rfl Try.call63 (leb_U (l.drop n) (by rw [List.length_drop]; omega) (fun x hx => hlt x (List.mem_of_mem_drop hx))) rfl argsT nofT ?_
  refine dlo rfl (lop_move (E rfl)) rfl ?_
  refine z85 ?_
  refine z85 ?_
  refine z85 ?_
  refine dlo rfl (lop_assign (E rfl)) rfl ?_
  refine dlo rfl (lop_assign (E rfl)) rfl ?_
  refine dlo rfl (lop_assign (E rfl)) rfl ?_
  refine deT ?_
  (refine ctlT ?_)
  refine rgT ?_
  refine lo (lop_move (E rfl)) rfl ?_
  refine lo (lop_eql (E rfl) (E rfl)) rfl ?_
  refine lo (lop_move (E rfl)) rfl ?_
  refine z4 ?_
  refine z80 ?_
  refine z4 ?_
  refine z81 ?_
  refine z7 ?_
  refine leT ?_
  (refine ctlT ?_)
  refine sw_cond rfl (fun g2 => ?_) (fun g2 => ?_)
  · (refine ctlT ?_)
    refine rgT ?_
    refine lo (lop_assign (E rfl)) rfl ?_
    refine leT ?_
    (refine ctlT ?_)
    refine rgT ?_
    refine lo (lop_move (E rfl)) rfl ?_
    refine lo (lop_move (E rfl)) rfl ?_
    refine z76 ?_
    refine z59 ?_
    apply stp; rfl; rfl; rfl; rfl; (exact sputT)
    refine leT ?_
    (refine ctlT ?_)
    refine rgT ?_
    refine lo (lop_move (E rfl)) rfl ?_
    refine lo (lop_neq (E rfl) (E rfl)) rfl ?_
    refine leT ?_
    (refine ctlT ?_)
    refine rgT ?_
    refine lo (lop_assign (E rfl)) rfl ?_
    refine leT ?_
    (refine ctlT ?_)
    (apply aend; (exact resT))
    · unfold rdU
      have hd := unsigned_yes g2
      simp only [g1, hd.1, hd.2, bne_self_eq_false, Bool.false_eq_true, if_true, if_false]
      exact ⟨rfl, rfl⟩
    · (exact stleT)
  (refine ctlT ?_)
  refine rgT ?_
  refine lo (lop_move (E rfl)) rfl ?_
  refine lo (lop_move (E rfl)) rfl ?_
  refine z76 ?_
  refine z59 ?_
  apply stp; rfl; rfl; rfl; rfl; (exact sputT)
  refine leT ?_
  (refine ctlT ?_)
  refine rgT ?_
  refine lo (lop_move (E rfl)) rfl ?_
  refine lo (lop_neq (E rfl) (E rfl)) rfl ?_
  refine leT ?_
  (refine ctlT ?_)
  refine sw_cond rfl (fun g3 => ?_) (fun g3 => ?_)
  · (refine ctlT ?_)
    refine rgT ?_
    refine lo (lop_assign (E rfl)) rfl ?_
    refine leT ?_
    (refine ctlT ?_)
    (apply aend; (exact resT))
    · (unfold rdU; simp only [g1, g2, g3, if_true, if_false, Bool.false_eq_true]; first | exact ⟨rfl, rfl⟩ | (have hd := unsigned_no g2 g3; simp only [hd.2, Bool.false_eq_true, if_false]; exact ⟨rfl, rfl⟩))
    · (exact stleT)
  (refine ctlT ?_)
  refine rgT ?_
  refine lo (lop_move (E rfl)) rfl ?_
  refine z76 ?_
  refine z59 ?_
  refine z60 ?_
  refine lo (lop_move (E rfl)) rfl ?_
  refine z17 ?_
  refine z76 ?_
  refine z59 ?_
  apply stp; rfl; rfl; rfl; rfl; (exact sputT)
  refine leT ?_
  (refine ctlT ?_)
  refine rgT ?_
  refine lo (lop_move (E rfl)) rfl ?_
  refine z44 ?_
  refine lo (lop_assign (E rfl)) rfl ?_
  refine leT ?_
  (refine ctlT ?_)
  (apply aend; (exact resT))
  · (unfold rdU; simp only [g1, g2, g3, if_true, if_false, Bool.false_eq_true]; first | exact ⟨rfl, rfl⟩ | (have hd := unsigned_no g2 g3; simp only [hd.2, Bool.false_eq_true, if_false]; exact ⟨rfl, rfl⟩))
  · (exact stleT)
set_option maxRecDepth 100000 in
theorem rdr_signed (r : Nat) (l : List Nat) (hl : l.length ≤ 1000000) (hlt : ∀ x ∈ l, x < 256) (bits : Nat) (hb : bits = 32 ∨ bits = 64) (n : Nat) (hn : n ≤ l.length) (e : Int) : SCall Try.prog 54 [.ptr r 0, .int .i64 bits] [(r, .box 81 (rv l n e))]
    (fun x σ => x = .int .i64 (rdS l bits n).1 ∧ σ = [(r, .box 81 (rv l (rdS l bits n).2.1 (rdS l bits n).2.2))]) := by
  have hbd := getS_bd bits (l.drop n)
  rw [List.length_drop] at hbd
  refine scall_of (n := 37) (ks := [0, 1, 4, 5, 6, 7]) Try.func54 rfl rfl (Nat.le_of_ble_eq_true rfl) ?_
  unfold rv rdS
  (refine ctlT ?_)
  refine rgT ?_
  refine lo (lop_assign (E rfl)) rfl ?_
  refine leT ?_
  (refine ctlT ?_)
  refine rgD [(0, true), (1, true), (2, true), (3, true), (4, true), (5, true), (6, true), (7, true), (8, true), (9, true), (10, false), (11, true), (12, true), (13, true), (14, true), (15, true), (16, true), (17, true)] ?_
  refine dlo rfl (lop_move (E rfl)) rfl ?_
  refine z77 ?_
  refine z73 ?_
  refine z74 ?_
  refine dlo rfl (lop_move (E rfl)) rfl ?_
  refine z77 ?_
  refine z73 ?_
  refine z74 ?_
  refine z84 ?_
  refine dlo rfl (lop_move (E rfl)) rfl ?_
  rw [drop_encU]
  refine dpu [] rfl Try.call64 (leb_S (l.drop n) (by rw [List.length_drop]; omega) (fun x hx => hlt x (List.mem_of_mem_drop hx)) bits hb) rfl argsT nofT ?_
  refine dlo rfl (lop_move (E rfl)) rfl ?_
  refine z85 ?_
  refine z85 ?_
  refine z85 ?_
  refine dlo rfl (lop_assign (E rfl)) rfl ?_
  refine dlo rfl (lop_assign (E rfl)) rfl ?_
  refine dlo rfl (lop_assign (E rfl)) rfl ?_
  refine deT ?_
  (refine ctlT ?_)
  refine rgT ?_
  refine lo (lop_move (E rfl)) rfl ?_
  refine lo (lop_move (E rfl)) rfl ?_
  refine lo (lop_move (E rfl)) rfl ?_
  refine z76 ?_
  refine z59 ?_
  refine z60 ?_
  refine lo (lop_move (E rfl)) rfl ?_
  refine z17 ?_
  refine lo (lop_move (E rfl)) rfl ?_
  refine z76 ?_
  refine z59 ?_
  apply stp; rfl; rfl; rfl; rfl; (exact sputT)
  refine z76 ?_
  refine z59 ?_
  apply stp; rfl; rfl; rfl; rfl; (exact sputT)
  refine leT ?_
  (refine ctlT ?_)
  refine rgT ?_
  refine lo (lop_move (E rfl)) rfl ?_
  refine lo (lop_assign (E rfl)) rfl ?_
  refine leT ?_
  (refine ctlT ?_)
  (apply aend; (exact resT))
  · exact ⟨rfl, rfl⟩
  · (exact stleT)
end Go.Proofs.Ytkjfflabapeidaa
/-
  Reading parts of bytes, in the document's words; slices.Index at numbers; a block's kind.
-/
namespace Go.Proofs.Ytkjfflabapeidaa
open Go.RowKit Go.ChangeShapes Go.WideShapes Go.ChangeAt Go.Deep
set_option linter.unusedSimpArgs false
set_option linter.unusedVariables false
attribute [local irreducible] SW RS RD AThen ABlock

def rfU (l : List Nat) (lim : Int) (n : Nat) (e : Int) : Nat × Nat × Int :=
  if (e != 0) = true then (0, n, e) else if (if ((getU (l.drop n)).2.2 == 0) = true then decide (lim < ((getU (l.drop n)).1 : Int)) else false) = true then ((getU (l.drop n)).1, n + (getU (l.drop n)).2.1, 1) else ((getU (l.drop n)).1, n + (getU (l.drop n)).2.1, (getU (l.drop n)).2.2)
def rfS (l : List Nat) (bits : Nat) (n : Nat) (e : Int) : Int × Nat × Int := if (e != 0) = true then (0, n, e) else rdS l bits n
set_option maxRecDepth 100000 in
theorem rfr_u (r : Nat) (l : List Nat) (hl : l.length ≤ 1000000) (hlt : ∀ x ∈ l, x < 256) (lim : Int) (n : Nat) (hn : n ≤ l.length) (e : Int) : SCall Try.prog 66 [.ptr r 0, .int .u64 lim] [(r, .box 100 (rv l n e))]
    (fun x σ => x = .int .i64 ((rfU l lim n e).1 : Nat) ∧ σ = [(r, .box 100 (rv l (rfU l lim n e).2.1 (rfU l lim n e).2.2))]) := by
  have hbd := getU_bd (l.drop n)
  obtain ⟨hb1, hb2, hb3⟩ := hbd
  rw [List.length_drop] at hb2
  refine scall_of (n := 49) (ks := [0, 1, 4, 5, 6, 7, 12, 33]) Try.func66 rfl rfl (Nat.le_of_ble_eq_true rfl) ?_
  unfold rv
  (refine ctlT ?_)
  refine rgT ?_
  refine lo (lop_assign (E rfl)) rfl ?_
  refine leT ?_
  (refine ctlT ?_)
  refine rgT ?_
  refine lo (lop_move (E rfl)) rfl ?_
  refine z76 ?_
  refine z59 ?_
  refine z60 ?_
  refine lo (lop_neq (E rfl) (E rfl)) rfl ?_
  refine leT ?_
  (refine ctlT ?_)
  refine sw_cond rfl (fun g1 => ?_) (fun g1 => ?_)
  · (refine ctlT ?_)
    refine rgT ?_
    refine lo (lop_assign (E rfl)) rfl ?_
    refine leT ?_
    (refine ctlT ?_)
    (apply aend; (exact resT))
    · (unfold rfU; simp only [g1, if_true, if_false, Bool.false_eq_true]; exact ⟨rfl, rfl⟩)
    · (exact stleT)
  (refine ctlT ?_)
  refine rgD [(0, true), (1, true), (2, true), (3, true), (4, true), (5, true), (6, true), (7, true), (8, true), (9, false), (10, true), (11, true), (12, true), (13, true), (14, true), (15, true), (16, true)] ?_
  refine dlo rfl (lop_move (E rfl)) rfl ?_
  refine z77 ?_
  refine z73 ?_
  refine z74 ?_
  refine dlo rfl (lop_move (E rfl)) rfl ?_
  refine z77 ?_
  refine z73 ?_
  refine z74 ?_
  refine z84 ?_
  rw [drop_encU]
  refine dpu [] rfl Try.call74 (ref_GetU (l.drop n) (by rw [List.length_drop]; omega) (fun x hx => hlt x (List.mem_of_mem_drop hx))) rfl argsT nofT ?_
  refine dlo rfl (lop_move (E rfl)) rfl ?_
  refine z85 ?_
  refine z85 ?_
  refine z85 ?_
  refine dlo rfl (lop_assign (E rfl)) rfl ?_
  refine dlo rfl (lop_assign (E rfl)) rfl ?_
  refine dlo rfl (lop_assign (E rfl)) rfl ?_
  refine deT ?_
  (refine ctlT ?_)
  refine rgT ?_
  refine lo (lop_move (E rfl)) rfl ?_
  refine lo (lop_eql (E rfl) (E rfl)) rfl ?_
  refine lo (lop_move (E rfl)) rfl ?_
  refine z4 ?_
  refine z4 ?_
  refine z81 ?_
  refine z7 ?_
  refine leT ?_
  (refine ctlT ?_)
  refine sw_cond rfl (fun g2 => ?_) (fun g2 => ?_)
  · (refine ctlT ?_)
    refine rgT ?_
    refine lo (lop_assign (E rfl)) rfl ?_
    refine leT ?_
    (refine ctlT ?_)
    refine rgT ?_
    refine lo (lop_move (E rfl)) rfl ?_
    refine lo (lop_move (E rfl)) rfl ?_
    refine lo (lop_move (E rfl)) rfl ?_
    refine z76 ?_
    refine z59 ?_
    refine z60 ?_
    refine lo (lop_move (E rfl)) rfl ?_
    refine z17 ?_
    refine lo (lop_move (E rfl)) rfl ?_
    refine z76 ?_
    refine z59 ?_
    apply stp; rfl; rfl; rfl; rfl; (exact sputT)
    refine z76 ?_
    refine z59 ?_
    apply stp; rfl; rfl; rfl; rfl; (exact sputT)
    refine leT ?_
    (refine ctlT ?_)
    refine rgT ?_
    refine lo (lop_move (E rfl)) rfl ?_
    refine z44 ?_
    refine lo (lop_assign (E rfl)) rfl ?_
    refine leT ?_
    (refine ctlT ?_)
    (apply aend; (exact resT))
    · (unfold rfU; simp only [g1, g2, if_true, if_false, Bool.false_eq_true]; exact ⟨rfl, rfl⟩)
    · (exact stleT)
  (refine ctlT ?_)
  refine rgT ?_
  refine lo (lop_move (E rfl)) rfl ?_
  refine lo (lop_move (E rfl)) rfl ?_
  refine lo (lop_move (E rfl)) rfl ?_
  refine z76 ?_
  refine z59 ?_
  refine z60 ?_
  refine lo (lop_move (E rfl)) rfl ?_
  refine z17 ?_
  refine lo (lop_move (E rfl)) rfl ?_
  refine z76 ?_
  refine z59 ?_
  apply stp; rfl; rfl; rfl; rfl; (exact sputT)
  refine z76 ?_
  refine z59 ?_
  apply stp; rfl; rfl; rfl; rfl; (exact sputT)
  refine leT ?_
  (refine ctlT ?_)
  refine rgT ?_
  refine lo (lop_move (E rfl)) rfl ?_
  refine z44 ?_
  refine lo (lop_assign (E rfl)) rfl ?_
  refine leT ?_
  (refine ctlT ?_)
  (apply aend; (exact resT))
  · (unfold rfU; simp only [g1, g2, if_true, if_false, Bool.false_eq_true]; exact ⟨rfl, rfl⟩)
  · (exact stleT)
set_option maxRecDepth 100000 in
theorem rfr_s (r : Nat) (l : List Nat) (hl : l.length ≤ 1000000) (hlt : ∀ x ∈ l, x < 256) (bits : Nat) (hb : bits = 32 ∨ bits = 64) (n : Nat) (hn : n ≤ l.length) (e : Int) : SCall Try.prog 68 [.ptr r 0, .int .i64 bits] [(r, .box 100 (rv l n e))]
    (fun x σ => x = .int .i64 (rfS l bits n e).1 ∧ σ = [(r, .box 100 (rv l (rfS l bits n e).2.1 (rfS l bits n e).2.2))]) := by
  have hbd := getS_bd bits (l.drop n)
  rw [List.length_drop] at hbd
  refine scall_of (n := 42) (ks := [0, 1, 4, 5, 6, 7, 12]) Try.func68 rfl rfl (Nat.le_of_ble_eq_true rfl) ?_
  unfold rv
  (refine ctlT ?_)
  refine rgT ?_
  refine lo (lop_assign (E rfl)) rfl ?_
  refine leT ?_
  (refine ctlT ?_)
  refine rgT ?_
  refine lo (lop_move (E rfl)) rfl ?_
  refine z76 ?_
  refine z59 ?_
  refine z60 ?_
  refine lo (lop_neq (E rfl) (E rfl)) rfl ?_
  refine leT ?_
  (refine ctlT ?_)
  refine sw_cond rfl (fun g1 => ?_) (fun g1 => ?_)
  · (refine ctlT ?_)
    refine rgT ?_
    refine lo (lop_assign (E rfl)) rfl ?_
    refine leT ?_
    (refine ctlT ?_)
    (apply aend; (exact resT))
    · (unfold rfS rdS; simp only [g1, if_true, if_false, Bool.false_eq_true]; exact ⟨rfl, rfl⟩)
    · (exact stleT)
  (refine ctlT ?_)
  refine rgD [(0, true), (1, true), (2, true), (3, true), (4, true), (5, true), (6, true), (7, true), (8, true), (9, true), (10, false), (11, true), (12, true), (13, true), (14, true), (15, true), (16, true), (17, true)] ?_
  refine dlo rfl (lop_move (E rfl)) rfl ?_
  refine z77 ?_
  refine z73 ?_
  refine z74 ?_
  refine dlo rfl (lop_move (E rfl)) rfl ?_
  refine z77 ?_
  refine z73 ?_
  refine z74 ?_
  refine z84 ?_
  refine dlo rfl (lop_move (E rfl)) rfl ?_
  rw [drop_encU]
  refine dpu [] rfl Try.call75 (ref_GetS (l.drop n) (by rw [List.length_drop]; omega) (fun x hx => hlt x (List.mem_of_mem_drop hx)) bits hb) rfl argsT nofT ?_
  refine dlo rfl (lop_move (E rfl)) rfl ?_
  refine z85 ?_
  refine z85 ?_
  refine z85 ?_
  refine dlo rfl (lop_assign (E rfl)) rfl ?_
  refine dlo rfl (lop_assign (E rfl)) rfl ?_
  refine dlo rfl (lop_assign (E rfl)) rfl ?_
  refine deT ?_
  (refine ctlT ?_)
  refine rgT ?_
  refine lo (lop_move (E rfl)) rfl ?_
  refine lo (lop_move (E rfl)) rfl ?_
  refine lo (lop_move (E rfl)) rfl ?_
  refine z76 ?_
  refine z59 ?_
  refine z60 ?_
  refine lo (lop_move (E rfl)) rfl ?_
  refine z17 ?_
  refine lo (lop_move (E rfl)) rfl ?_
  refine z76 ?_
  refine z59 ?_
  apply stp; rfl; rfl; rfl; rfl; (exact sputT)
  refine z76 ?_
  refine z59 ?_
  apply stp; rfl; rfl; rfl; rfl; (exact sputT)
  refine leT ?_
  (refine ctlT ?_)
  refine rgT ?_
  refine lo (lop_move (E rfl)) rfl ?_
  refine lo (lop_assign (E rfl)) rfl ?_
  refine leT ?_
  (refine ctlT ?_)
  (apply aend; (exact resT))
  · (unfold rfS rdS; simp only [g1, if_true, if_false, Bool.false_eq_true]; exact ⟨rfl, rfl⟩)
  · (exact stleT)
theorem octet_no {e : Int} {n m : Nat} (h : (if (e == 0) = true then decide ((m : Int) ≤ n) else false) = false) (h0 : (e != 0) = false) : ((n : Int) == (m : Int)) = false := by
  have := (unsigned_no h h0).2
  simp at this ⊢
  omega
theorem octet_yes {e : Int} {n m : Nat} (h : (if (e == 0) = true then decide ((m : Int) ≤ n) else false) = true) (hn : n ≤ m) : (e != 0) = false ∧ ((n : Int) == (m : Int)) = true := by
  obtain ⟨rfl, h2⟩ := unsigned_yes h
  simp at h2 ⊢
  omega
set_option maxRecDepth 100000 in
theorem rfr_octet (r : Nat) (l : List Nat) (hl : l.length ≤ 1000000) (hlt : ∀ x ∈ l, x < 256) (n : Nat) (hn : n ≤ l.length) (e : Int) : SCall Try.prog 65 [.ptr r 0] [(r, .box 100 (rv l n e))]
    (fun x σ => x = .int .u8 ((rdB l n e).1 : Nat) ∧ σ = [(r, .box 100 (rv l (rdB l n e).2.1 (rdB l n e).2.2))]) := by
  refine scall_of (n := 46) (ks := [0, 2, 19, 27]) Try.func65 rfl rfl (Nat.le_of_ble_eq_true rfl) ?_
  unfold rv
  (refine ctlT ?_)
  refine rgT ?_
  refine lo (lop_assign (E rfl)) rfl ?_
  refine leT ?_
  (refine ctlT ?_)
  refine rgD [(0, true), (1, true), (2, true), (3, true), (4, true), (5, true), (6, true), (7, true), (8, true), (9, true), (10, true), (11, true), (12, true), (13, true), (14, true), (15, true), (16, true)] ?_
  refine dlo rfl (lop_move (E rfl)) rfl ?_
  refine z77 ?_
  refine z73 ?_
  refine z74 ?_
  refine z79 ?_
  refine dlo rfl (lop_move (E rfl)) rfl ?_
  refine z26 ?_
  refine z86 ?_
  refine z87 ?_
  refine z88 ?_
  refine z26 ?_
  refine z86 ?_
  refine z87 ?_
  refine z88 ?_
  refine z89 ?_
  refine z90 ?_
  refine z53 ?_
  refine deT ?_
  (refine ctlT ?_)
  refine sw_cond rfl (fun g1 => ?_) (fun g1 => ?_)
  · (refine ctlT ?_)
    have hd := octet_yes g1 hn
    refine rgT ?_
    refine lo (lop_move (E rfl)) rfl ?_
    refine z76 ?_
    refine z59 ?_
    apply stp; rfl; rfl; rfl; rfl; (exact sputT)
    refine leT ?_
    (refine ctlT ?_)
    refine rgT ?_
    refine lo (lop_move (E rfl)) rfl ?_
    refine z76 ?_
    refine z59 ?_
    refine z60 ?_
    refine lo (lop_neq (E rfl) (E rfl)) rfl ?_
    refine leT ?_
    (refine ctlT ?_)
    refine rgT ?_
    refine lo (lop_assign (E rfl)) rfl ?_
    refine leT ?_
    (refine ctlT ?_)
    (apply aend; (exact resT))
    · unfold rdB
      simp only [hd.1, hd.2, if_true, if_false, Bool.false_eq_true]
      exact ⟨rfl, rfl⟩
    · (exact stleT)
  (refine ctlT ?_)
  refine rgT ?_
  refine lo (lop_move (E rfl)) rfl ?_
  refine z76 ?_
  refine z59 ?_
  refine z60 ?_
  refine lo (lop_neq (E rfl) (E rfl)) rfl ?_
  refine leT ?_
  (refine ctlT ?_)
  refine sw_cond rfl (fun g2 => ?_) (fun g2 => ?_)
  · (refine ctlT ?_)
    refine rgT ?_
    refine lo (lop_assign (E rfl)) rfl ?_
    refine leT ?_
    (refine ctlT ?_)
    (apply aend; (exact resT))
    · (unfold rdB; first | (simp only [octet_no g1 g2, g1, g2, if_true, if_false, Bool.false_eq_true]; exact ⟨rfl, rfl⟩) | (simp only [g1, g2, if_true, if_false, Bool.false_eq_true]; exact ⟨rfl, rfl⟩))
    · (exact stleT)
  (refine ctlT ?_)
  refine rgT ?_
  refine lo (lop_move (E rfl)) rfl ?_
  refine z76 ?_
  refine z59 ?_
  refine z60 ?_
  refine z17 ?_
  refine z76 ?_
  refine z59 ?_
  apply stp; rfl; rfl; rfl; rfl; (exact sputT)
  refine leT ?_
  (refine ctlT ?_)
  have hlt2 : n < l.length := by have := octet_no g1 g2; simp at this; omega
  refine rgD [(0, true), (1, true), (2, true), (3, true), (4, true), (5, true), (6, true), (7, true), (8, true), (9, true), (10, true), (11, true)] ?_
  refine dlo rfl (lop_move (E rfl)) rfl ?_
  refine z77 ?_
  refine z73 ?_
  refine z74 ?_
  refine dlo rfl (lop_move (E rfl)) rfl ?_
  refine z77 ?_
  refine z73 ?_
  refine z74 ?_
  refine z82 ?_
  rw [show (n : Int) + 1 - 1 = (n : Nat) by omega]
  refine z56 ?_
  refine z57 ?_
  rw [Int.toNat_natCast]
  refine dlo rfl (lop_assign (E rfl)) rfl ?_
  refine deT ?_
  (refine ctlT ?_)
  (apply aend; (exact resT))
  · (unfold rdB; first | (simp only [octet_no g1 g2, g1, g2, if_true, if_false, Bool.false_eq_true]; exact ⟨rfl, rfl⟩) | (simp only [g1, g2, if_true, if_false, Bool.false_eq_true]; exact ⟨rfl, rfl⟩))
  · (exact stleT)
set_option maxRecDepth 100000 in
theorem rfr_nought (r : Nat) (l : List Nat) (hl : l.length ≤ 1000000) (hlt : ∀ x ∈ l, x < 256) (n : Nat) (hn : n ≤ l.length) (e : Int) : SCall Try.prog 67 [.ptr r 0] [(r, .box 100 (rv l n e))]
    (fun x σ => x = .tup [] ∧ σ = [(r, .box 100 (rv l (rdZ l n e).1 (rdZ l n e).2))]) := by
  refine scall_of (n := 8) (ks := [0, 4]) Try.func67 rfl rfl (Nat.le_of_ble_eq_true rfl) ?_
  unfold rv
  (refine ctlT ?_)
  refine rgT ?_
  refine lo (lop_move (E rfl)) rfl ?_
  refine cw [(r, .box 100 (rv l n e))] Try.call65 (rfr_octet r l hl hlt n hn e) rfl ?_ ?_ ?_
  · (exact argsleT)
  · (exact stleT)
  rintro _ σ' ⟨rfl, rfl⟩ -
  (apply rs_sto; (exact nflT))
  refine lo (lop_neq (E rfl) (E rfl)) rfl ?_
  refine leT ?_
  (refine ctlT ?_)
  unfold rv
  refine sw_cond rfl (fun g1 => ?_) (fun g1 => ?_)
  · (refine ctlT ?_)
    refine rgT ?_
    refine lo (lop_move (E rfl)) rfl ?_
    refine z76 ?_
    refine z59 ?_
    apply stp; rfl; rfl; rfl; rfl; (exact sputT)
    refine leT ?_
    (refine ctlT ?_)
    refine aend_n ?_
    (apply aend; (exact resT))
    · unfold rdZ; rw [if_pos g1]; exact ⟨rfl, rfl⟩
    · (exact stleT)
  · (refine ctlT ?_)
    refine aend_n ?_
    (apply aend; (exact resT))
    · unfold rdZ; rw [if_neg (by rw [g1]; simp)]; exact ⟨rfl, rfl⟩
    · (exact stleT)
/-- where y stands in l first; -1: nowhere -/
def idxN (l : List Int) (y : Int) : Int := match l.findIdx? (· == y) with | some i => i | none => -1
set_option maxRecDepth 100000 in
theorem lib_index_int {k : Rk} (l : List Int) (y : Int) : SCall Try.prog 62 [.ro 1 (l.map encI) k, .int .i64 y] [] (fun x σ => x = .int .i64 (idxN l y) ∧ σ = []) := by
  refine scall_of (n := 19) (ks := [0, 1, 4, 5, 7, 8, 9, 16]) Try.func62 rfl rfl (Nat.le_of_ble_eq_true rfl) ?_
  refine sw_max (i := 0) rfl fun hm => ?_
  rw [List.length_map] at hm
  unfold maxLen at hm
  (refine ctlT ?_)
  refine rgT ?_
  refine lo (lop_assign (E rfl)) rfl ?_
  refine leT ?_
  (refine ctlT ?_)
  refine rgT ?_
  refine lo (lop_move (E rfl)) rfl ?_
  refine z14 ?_
  refine lo (lop_move (E rfl)) rfl ?_
  refine leT ?_
  (refine ctlT ?_)
  refine lp (β := Nat) (fun j => ⟨[(0, .ro 1 (l.map encI) k), (1, .int .i64 y), (7, .int .i64 l.length), (8, .int .i64 j)], []⟩) (fun j => j ≤ l.length ∧ ∀ i, i < j → l[i]? ≠ some y) (fun j => l.length - j) 0 ?_ ⟨Nat.zero_le _, fun i hi => by omega⟩ ?_
  · (exact sgoT)
  rintro j ⟨hj, ht⟩
  (refine ctlT ?_)
  refine rgT ?_
  refine lo (lop_lss (E rfl) (E rfl)) rfl ?_
  refine leT ?_
  (refine ctlT ?_)
  refine sw_cond rfl (fun h1 => ?_) (fun h1 => ?_)
  · have hlt : j < l.length := by simp at h1; omega
    obtain ⟨x, hx⟩ : ∃ x, l[j]? = some x := ⟨_, List.getElem?_eq_getElem hlt⟩
    (refine ctlT ?_)
    refine rgT ?_
    refine lo (lop_move (E rfl)) rfl ?_
    refine lo (lop_assign (E rfl)) rfl ?_
    refine leT ?_
    (refine ctlT ?_)
    refine rgT ?_
    refine lo (lop_move (E rfl)) rfl ?_
    refine lo (lop_move (E rfl)) rfl ?_
    refine lo (lop_move (E rfl)) rfl ?_
    refine z15 ?_
    refine z16 ?_
    refine lo (lop_eql (E rfl) (E rfl)) rfl ?_
    refine leT ?_
    (refine ctlT ?_)
    refine sw_cond rfl (fun h2 => ?_) (fun h2 => ?_)
    · have hxy : y = x := by simpa using h2
      (refine ctlT ?_)
      refine rgT ?_
      refine lo (lop_move (E rfl)) rfl ?_
      refine lo (lop_assign (E rfl)) rfl ?_
      refine leT ?_
      (refine ctlT ?_)
      (apply aend; (exact resT))
      · have : l.findIdx? (· == y) = some j := by
          rw [List.findIdx?_eq_some_iff_getElem]
          refine ⟨hlt, ?_, fun i hi => ?_⟩
          · rw [List.getElem?_eq_getElem hlt] at hx; simp at hx ⊢; rw [hx, hxy]
          · have := ht i hi
            rw [List.getElem?_eq_getElem (by omega)] at this
            simpa using this
        unfold idxN
        rw [this]
        exact ⟨rfl, rfl⟩
      · (exact stleT)
    · have hxy : y ≠ x := by simpa using h2
      (refine ctlT ?_)
      refine rgT ?_
      refine z17 ?_
      refine lo (lop_move (E rfl)) rfl ?_
      refine leT ?_
      (refine ctlT ?_)
      refine ⟨j + 1, ⟨by omega, fun i hi => ?_⟩, by omega, ?_⟩
      · by_cases hij : i = j
        · subst hij; rw [hx]; simpa using fun e => hxy e.symm
        · exact ht i (by omega)
      · (exact sgoT)
  · obtain rfl : j = l.length := by simp at h1; omega
    (refine ctlT ?_)
    refine rgT ?_
    refine lo (lop_assign (E rfl)) rfl ?_
    refine leT ?_
    (refine ctlT ?_)
    (apply aend; (exact resT))
    · have : l.findIdx? (· == y) = none := by
        rw [List.findIdx?_eq_none_iff]
        intro x hx
        obtain ⟨i, hi, rfl⟩ := List.mem_iff_getElem.1 hx
        have := ht i hi
        rw [List.getElem?_eq_getElem hi] at this
        simpa using this
      unfold idxN
      rw [this]
      exact ⟨rfl, rfl⟩
    · (exact stleT)
end Go.Proofs.Ytkjfflabapeidaa
/-
  A block's kind; the program's Get.
-/
namespace Go.Proofs.Ytkjfflabapeidaa
open Go.RowKit Go.ChangeShapes Go.WideShapes Go.ChangeAt Go.Deep
set_option linter.unusedSimpArgs false
set_option linter.unusedVariables false
attribute [local irreducible] SW RS RD AThen ABlock

def kindI (c : Nat) : Int := idxN [64, 127, 126] c
def rdK (l : List Nat) (n : Nat) (e : Int) : Int × Nat × Int :=
  if (if decide (kindI (rdB l n e).1 < 0) = true then ((rdB l n e).2.2 == 0) else false) = true then (if kindI (rdB l n e).1 < 0 then 0 else kindI (rdB l n e).1, (rdB l n e).2.1, 1) else (if kindI (rdB l n e).1 < 0 then 0 else kindI (rdB l n e).1, (rdB l n e).2.1, (rdB l n e).2.2)
set_option maxRecDepth 100000 in
theorem rdr_kind (r : Nat) (l : List Nat) (hl : l.length ≤ 1000000) (hlt : ∀ x ∈ l, x < 256) (n : Nat) (hn : n ≤ l.length) (e : Int) : SCall Try.prog 51 [.ptr r 0] [(r, .box 81 (rv l n e))]
    (fun x σ => x = .int .i64 (rdK l n e).1 ∧ σ = [(r, .box 81 (rv l (rdK l n e).2.1 (rdK l n e).2.2))]) := by
  refine scall_of (n := 24) (ks := [0, 2, 3, 4, 18]) Try.func51 rfl rfl (Nat.le_of_ble_eq_true rfl) ?_
  unfold rv
  (refine ctlT ?_)
  refine rgT ?_
  refine lo (lop_assign (E rfl)) rfl ?_
  refine leT ?_
  (refine ctlT ?_)
  refine rgT ?_
  refine lo (lop_move (E rfl)) rfl ?_
  refine cw [(r, .box 81 (rv l n e))] Try.call50 (rdr_byte r l hl hlt n hn e) rfl ?_ ?_ ?_
  · (exact argsleT)
  · (exact stleT)
  rintro _ σ' ⟨rfl, rfl⟩ -
  (apply rs_sto; (exact nflT))
  refine lo (lop_assign (E rfl)) rfl ?_
  refine leT ?_
  (refine ctlT ?_)
  unfold rv
  refine rgT ?_
  refine z1 ?_; refine freshT fun r7 h7 => ?_; (repeat (rcases h7 with ⟨_, h7⟩))
  refine lo (lop_move (E rfl)) rfl ?_
  rw [show ([[.int .i64 64], [.int .i64 127], [.int .i64 126]] : List (List AV)) = [64, 127, 126].map encI from rfl]
  refine pu [r7] Try.call62 (lib_index_int (k := .any) [64, 127, 126] ((rdB l n e).1 : Nat)) rfl ?_ nofT ?_
  · (exact pargsT)
  refine lo (lop_assign (E rfl)) rfl ?_
  refine leT ?_
  (refine ctlT ?_)
  rw [show idxN [64, 127, 126] ((rdB l n e).1 : Nat) = kindI (rdB l n e).1 from rfl]
  refine rgT ?_
  refine lo (lop_move (E rfl)) rfl ?_
  refine lo (lop_lss (E rfl) (E rfl)) rfl ?_
  refine lo (lop_move (E rfl)) rfl ?_
  refine z4 ?_
  refine z91 ?_
  refine z92 ?_
  refine z62 ?_
  refine z6 ?_
  refine z7 ?_
  refine leT ?_
  (refine ctlT ?_)
  refine sw_cond rfl (fun g1 => ?_) (fun g1 => ?_)
  · (refine ctlT ?_)
    refine rgT ?_
    refine lo (lop_move (E rfl)) rfl ?_
    refine z76 ?_
    refine z59 ?_
    apply stp; rfl; rfl; rfl; rfl; (exact sputT)
    refine leT ?_
    (refine ctlT ?_)
    refine rgT ?_
    refine lo (lop_move (E rfl)) rfl ?_
    refine lo (lop_max (E rfl) (E rfl)) rfl ?_
    refine lo (lop_assign (E rfl)) rfl ?_
    refine leT ?_
    (refine ctlT ?_)
    (apply aend; (exact resT))
    · (unfold rdK; simp only [g1, if_true, if_false, Bool.false_eq_true]; exact ⟨rfl, rfl⟩)
    · (exact stleT)
  (refine ctlT ?_)
  refine rgT ?_
  refine lo (lop_move (E rfl)) rfl ?_
  refine lo (lop_max (E rfl) (E rfl)) rfl ?_
  refine lo (lop_assign (E rfl)) rfl ?_
  refine leT ?_
  (refine ctlT ?_)
  (apply aend; (exact resT))
  · (unfold rdK; simp only [g1, if_true, if_false, Bool.false_eq_true]; exact ⟨rfl, rfl⟩)
  · (exact stleT)
end Go.Proofs.Ytkjfflabapeidaa
/-
  The program's Get.
-/
namespace Go.Proofs.Ytkjfflabapeidaa
open Go.RowKit Go.ChangeShapes Go.WideShapes Go.ChangeAt Go.Deep
set_option linter.unusedSimpArgs false
set_option linter.unusedVariables false
attribute [local irreducible] SW RS RD AThen ABlock

def io (q : Nat) (x : Ins) : List AV := [.int .i64 x.op, .int .i64 x.a, .int .i64 x.b, .own q 0 x.l.length]
def ins0 : Ins := ⟨0, 0, 0, []⟩
/-- m numbers, one behind the other -/
def rdL (l : List Nat) : Nat → Nat → Int → List Int × Nat × Int
  | 0, n, e => ([], n, e)
  | m + 1, n, e => (((rdL l m n e).1 ++ [((rdU l 1000 (rdL l m n e).2.1 (rdL l m n e).2.2).1 : Int)]), (rdU l 1000 (rdL l m n e).2.1 (rdL l m n e).2.2).2)
def fin (x : Ins) (n : Nat) (e : Int) : Ins × Nat × Int := if (e != 0) = true then (ins0, 0, e) else (x, n, 0)
/-- what stands behind the byte -/
def getT (l : List Nat) (op : Int) (n : Nat) (e : Int) : Ins × Nat × Int :=
  if (formN op == 2) = true then fin ⟨op, (rdK l n e).1, 0, []⟩ (rdK l n e).2.1 (rdK l n e).2.2
  else if (formN op == 3) = true then fin ⟨op, (rdU l 1000 n e).1, 0, []⟩ (rdU l 1000 n e).2.1 (rdU l 1000 n e).2.2
  else if (formN op == 5) = true then fin ⟨op, (rdU l 1000 n e).1, 0, []⟩ (rdZ l (rdU l 1000 n e).2.1 (rdU l 1000 n e).2.2).1 (rdZ l (rdU l 1000 n e).2.1 (rdU l 1000 n e).2.2).2
  else if (formN op == 4) = true then
    let u := rdU l 50 n e
    let w := rdL l u.1 u.2.1 u.2.2
    let v := rdU l 1000 w.2.1 w.2.2
    fin ⟨op, v.1, 0, w.1⟩ v.2.1 v.2.2
  else if (formN op == 6) = true then
    let u := rdU l 3 n e
    let v := rdU l 4294967295 u.2.1 u.2.2
    fin ⟨op, u.1, v.1, []⟩ v.2.1 v.2.2
  else if (formN op == 7) = true then fin ⟨op, 0, 0, []⟩ (rdZ l n e).1 (rdZ l n e).2
  else if (formN op == 8) = true then fin ⟨op, (rdS l 32 n).1, 0, []⟩ (rdS l 32 n).2.1 (rdS l 32 n).2.2
  else if (formN op == 9) = true then fin ⟨op, (rdS l 64 n).1, 0, []⟩ (rdS l 64 n).2.1 (rdS l 64 n).2.2
  else fin ⟨op, 0, 0, []⟩ n e
def getP (l : List Nat) : Ins × Nat × Int :=
  if (formN ((rdB l 0 0).1 : Nat) == 0) = true then (ins0, 0, 1)
  else if ((rdB l 0 0).2.2 != 0) = true then (ins0, 0, (rdB l 0 0).2.2)
  else getT l ((rdB l 0 0).1 : Nat) (rdB l 0 0).2.1 (rdB l 0 0).2.2
theorem rdB_bd {l : List Nat} {n : Nat} {e : Int} (h : n ≤ l.length) : (rdB l n e).2.1 ≤ l.length := by
  unfold rdB
  split
  · exact h
  · split
    · exact h
    · next h1 => simp at h1 ⊢; omega
theorem rdU_bd {l : List Nat} {lim : Int} {n : Nat} {e : Int} (h : n ≤ l.length) : (rdU l lim n e).2.1 ≤ l.length := by
  have h1 := (getU_bd (l.drop n)).2.1
  rw [List.length_drop] at h1
  unfold rdU
  repeat' split
  all_goals first | exact h | (simp; omega)
theorem rdU_le {l : List Nat} {lim : Int} {n : Nat} {e : Int} (h : 0 ≤ lim) : ((rdU l lim n e).1 : Int) ≤ lim := by
  unfold rdU
  split
  · exact h
  · split
    · exact h
    · split
      · exact h
      · next h1 => simp at h1 ⊢; omega
theorem rdL_bd {l : List Nat} : ∀ {m n : Nat} {e : Int}, n ≤ l.length → (rdL l m n e).2.1 ≤ l.length
  | 0, _, _, h => h
  | _ + 1, _, _, h => rdU_bd (rdL_bd h)
theorem rdL_len {l : List Nat} : ∀ {m n : Nat} {e : Int}, (rdL l m n e).1.length = m
  | 0, _, _ => rfl
  | m + 1, n, e => by rw [rdL]; simp [rdL_len (m := m)]
set_option maxRecDepth 100000 in
theorem instr_get (l : List Nat) (hl : l.length ≤ 1000000) (hlt : ∀ x ∈ l, x < 256) : SCall Try.prog 25 [.ro 1 (l.map encU) .any] []
    (fun y σ => ∃ q, y = .tup [.agg (io q (getP l).1), .int .i64 ((getP l).2.1 : Nat), .int .i64 (getP l).2.2] ∧ σ = [(q, .arr 3 1 ((getP l).1.l.map encI))]) := by
  refine scall_of (n := 104) (ks := [0, 2, 3, 4, 5, 6, 7, 18, 26, 32, 33, 38, 43, 50, 53, 54, 55, 67, 75, 79, 84, 93]) Try.func25 rfl rfl (Nat.le_of_ble_eq_true rfl) ?_
  (refine ctlT ?_)
  refine rgT ?_
  apply al; rfl; (exact zcT); refine freshT fun r2 h2 => ?_; (repeat (rcases h2 with ⟨_, h2⟩))
  refine lo (lop_assign (E rfl)) rfl ?_
  refine lo (lop_assign (E rfl)) rfl ?_
  refine leT ?_
  (refine ctlT ?_)
  refine rgT ?_
  refine lo (lop_move (E rfl)) rfl ?_
  refine z93 ?_
  apply bx; rfl; rfl; (exact zcT); rfl; refine freshT fun r10 h10 => ?_; (repeat (rcases h10 with ⟨_, h10⟩))
  refine lo (lop_assign (E rfl)) rfl ?_
  refine leT ?_
  (refine ctlT ?_)
  refine rgT ?_
  refine lo (lop_move (E rfl)) rfl ?_
  refine cw [(r10, .box 81 (rv l (0) (0)))] Try.call50 (rdr_byte r10 l hl hlt 0 (by omega) 0) rfl ?_ ?_ ?_
  · (exact argsleT)
  · (exact stleT)
  rintro _ σ' ⟨rfl, rfl⟩ -
  (apply rs_sto; (exact nflT))
  unfold rv
  refine z93 ?_
  apply al; rfl; (exact zcT); refine freshT fun r6 h6 => ?_; (repeat (rcases h6 with ⟨_, h6⟩))
  apply stp; rfl; rfl; rfl; rfl; (exact sputT)
  refine leT ?_
  refine an ?_
  refine sw_virt_box (ks := [0, 2, 3, 4, 5, 6, 7, 18, 26, 32, 33, 38, 43, 50, 53, 54, 55, 67, 75, 79, 84, 93]) r6 3 3 1 (by decide) sgT rfl (by decide) fun q hq => ?_
  simp only [fresh_cons, fresh_nil, and_true] at hq; (repeat (rcases hq with ⟨_, hq⟩))
  apply Exists.intro; apply And.intro; (exact ssetT)
  (refine ctlT ?_)
  have hn1 := rdB_bd (l := l) (n := 0) (e := 0) (by omega)
  generalize hB : rdB l 0 0 = bb at *
  obtain ⟨c, n1, e1⟩ := bb
  dsimp only at hn1 ⊢
  rw [show ([AV.int .i64 (c : Int), .int .i64 0, .int .i64 0, .ro 0 [] .nil].set 3 (.own q 0 0)) = [.int .i64 (c : Int), .int .i64 0, .int .i64 0, .own q 0 0] from rfl]
  refine rgT ?_
  refine z59 ?_
  refine z60 ?_
  (first | refine ln rfl rfl rfl rfl ?_ | refine lw rfl rfl (lop_no (v := .bool false)) rfl ?_ | refine pu [] Try.call40 (instr_formN _) rfl argsT nofT ?_ | refine pug [] rfl rfl Try.call40 (fun _ => (instr_formN _)) rfl argsT nofT ?_ | refine puw [] rfl rfl Try.call40 (fun _ => (instr_formN _)) rfl argsT nofT ?_)
  refine lo (lop_assign (E rfl)) rfl ?_
  refine leT ?_
  (refine ctlT ?_)
  refine rgT ?_
  refine lo (lop_move (E rfl)) rfl ?_
  refine lo (lop_eql (E rfl) (E rfl)) rfl ?_
  refine leT ?_
  (refine ctlT ?_)
  refine sw_cond rfl (fun g1 => ?_) (fun g1 => ?_)
  · (refine ctlT ?_)
    have hG : getP l = (ins0, 0, 1) := by unfold getP; rw [hB]; simp only [g1, if_true]
    refine rgT ?_
    refine lo (lop_move (E rfl)) rfl ?_
    refine z76 ?_
    refine z59 ?_
    apply stp; rfl; rfl; rfl; rfl; (exact sputT)
    refine leT ?_
    (refine ctlT ?_)
    refine rgT ?_
    refine lo (lop_move (E rfl)) rfl ?_
    refine z76 ?_
    refine z59 ?_
    refine z60 ?_
    refine lo (lop_neq (E rfl) (E rfl)) rfl ?_
    refine leT ?_
    (refine ctlT ?_)
    refine rgD [(0, true), (1, true), (2, true), (3, true), (4, true), (5, false), (6, true), (7, true)] ?_
    refine z94 ?_
    refine dlo rfl (lop_move (E rfl)) rfl ?_
    refine z77 ?_
    refine z73 ?_
    refine z74 ?_
    refine z95 ?_
    refine dlo rfl (lop_assign (E rfl)) rfl ?_
    refine dlo rfl (lop_assign (E rfl)) rfl ?_
    refine deT ?_
    refine an ?_
    refine sw_virt_box (ks := [0, 2, 3, 4, 5, 6, 7, 18, 26, 32, 33, 38, 43, 50, 53, 54, 55, 67, 75, 79, 84, 93]) r2 3 3 1 (by decide) sgT rfl (by decide) fun qz hqz => ?_
    simp only [fresh_cons, fresh_nil, and_true] at hqz; (repeat (rcases hqz with ⟨_, hqz⟩))
    apply Exists.intro; apply And.intro; (exact ssetT)
    (refine ctlT ?_)
    (apply aend; (exact resT))
    · rw [hG]; exact ⟨qz, rfl, rfl⟩
    · (exact stleT)
  (refine ctlT ?_)
  refine rgT ?_
  refine lo (lop_move (E rfl)) rfl ?_
  refine z76 ?_
  refine z59 ?_
  refine z60 ?_
  refine lo (lop_neq (E rfl) (E rfl)) rfl ?_
  refine leT ?_
  (refine ctlT ?_)
  refine sw_cond rfl (fun g2 => ?_) (fun g2 => ?_)
  · (refine ctlT ?_)
    have hG : getP l = (ins0, 0, e1) := by unfold getP; rw [hB]; simp only [g1, g2, if_true, if_false, Bool.false_eq_true]
    refine rgD [(0, true), (1, true), (2, true), (3, true), (4, true), (5, false), (6, true), (7, true)] ?_
    refine z94 ?_
    refine dlo rfl (lop_move (E rfl)) rfl ?_
    refine z77 ?_
    refine z73 ?_
    refine z74 ?_
    refine z95 ?_
    refine dlo rfl (lop_assign (E rfl)) rfl ?_
    refine dlo rfl (lop_assign (E rfl)) rfl ?_
    refine deT ?_
    refine an ?_
    refine sw_virt_box (ks := [0, 2, 3, 4, 5, 6, 7, 18, 26, 32, 33, 38, 43, 50, 53, 54, 55, 67, 75, 79, 84, 93]) r2 3 3 1 (by decide) sgT rfl (by decide) fun qz hqz => ?_
    simp only [fresh_cons, fresh_nil, and_true] at hqz; (repeat (rcases hqz with ⟨_, hqz⟩))
    apply Exists.intro; apply And.intro; (exact ssetT)
    (refine ctlT ?_)
    (apply aend; (exact resT))
    · rw [hG]; exact ⟨qz, rfl, rfl⟩
    · (exact stleT)
  (refine ctlT ?_)
  refine rgT ?_
  refine lo (lop_move (E rfl)) rfl ?_
  refine leT ?_
  (refine ctlT ?_)
  refine rgT ?_
  refine lo (lop_eql (E rfl) (E rfl)) rfl ?_
  refine lo (lop_assign (E rfl)) rfl ?_
  refine leT ?_
  (refine ctlT ?_)
  refine sw_cond rfl (fun g3 => ?_) (fun g3 => ?_)
  · (refine ctlT ?_)
    have hG : getP l = fin ⟨(c : Int), (rdK l n1 e1).1, 0, []⟩ (rdK l n1 e1).2.1 (rdK l n1 e1).2.2 := by unfold getP getT; rw [hB]; simp only [g1, g2, g3, if_true, if_false, Bool.false_eq_true]
    refine rgT ?_
    refine lo (lop_move (E rfl)) rfl ?_
    refine cw [(r10, .box 81 (rv l (n1) (e1)))] Try.call51 (rdr_kind r10 l hl hlt n1 hn1 e1) rfl ?_ ?_ ?_
    · (exact argsleT)
    · (exact stleT)
    rintro _ σ' ⟨rfl, rfl⟩ -
    (apply rs_sto; (exact nflT))
    unfold rv
    refine z59 ?_
    apply stp; rfl; rfl; rfl; rfl; (exact sputT)
    refine leT ?_
    (refine ctlT ?_)
    refine rgT ?_
    refine lo (lop_move (E rfl)) rfl ?_
    refine z76 ?_
    refine z59 ?_
    refine z60 ?_
    refine lo (lop_neq (E rfl) (E rfl)) rfl ?_
    refine leT ?_
    (refine ctlT ?_)
    refine sw_cond rfl (fun ge => ?_) (fun ge => ?_)
    · unfold fin at hG
      rw [ge] at hG
      simp only [if_true] at hG
      (refine ctlT ?_)
      refine rgD [(0, true), (1, true), (2, true), (3, true), (4, true), (5, false), (6, true), (7, true)] ?_
      refine z94 ?_
      refine dlo rfl (lop_move (E rfl)) rfl ?_
      refine z77 ?_
      refine z73 ?_
      refine z74 ?_
      refine z95 ?_
      refine dlo rfl (lop_assign (E rfl)) rfl ?_
      refine dlo rfl (lop_assign (E rfl)) rfl ?_
      refine deT ?_
      refine an ?_
      refine sw_virt_box (ks := [0, 2, 3, 4, 5, 6, 7, 18, 26, 32, 33, 38, 43, 50, 53, 54, 55, 67, 75, 79, 84, 93]) r2 3 3 1 (by decide) sgT rfl (by decide) fun qz hqz => ?_
      simp only [fresh_cons, fresh_nil, and_true] at hqz; (repeat (rcases hqz with ⟨_, hqz⟩))
      apply Exists.intro; apply And.intro; (exact ssetT)
      (refine ctlT ?_)
      (apply aend; (exact resT))
      · rw [hG]; exact ⟨qz, rfl, rfl⟩
      · (exact stleT)
    · unfold fin at hG
      rw [ge] at hG
      simp only [Bool.false_eq_true, if_false] at hG
      (refine ctlT ?_)
      refine rgD [(0, true), (1, true), (2, true), (3, true), (4, true), (5, false), (6, true), (7, true)] ?_
      refine z96 ?_
      refine dlo rfl (lop_move (E rfl)) rfl ?_
      refine z77 ?_
      refine z73 ?_
      refine z74 ?_
      refine z95 ?_
      refine dlo rfl (lop_assign (E rfl)) rfl ?_
      refine dlo rfl (lop_assign (E rfl)) rfl ?_
      refine deT ?_
      (refine ctlT ?_)
      (apply aend; (exact resT))
      · rw [hG]; exact ⟨q, rfl, rfl⟩
      · (exact stleT)
  (refine ctlT ?_)
  refine rgT ?_
  refine lo (lop_eql (E rfl) (E rfl)) rfl ?_
  refine lo (lop_assign (E rfl)) rfl ?_
  refine leT ?_
  (refine ctlT ?_)
  refine sw_cond rfl (fun g4 => ?_) (fun g4 => ?_)
  · (refine ctlT ?_)
    have hG : getP l = fin ⟨(c : Int), (rdU l 1000 n1 e1).1, 0, []⟩ (rdU l 1000 n1 e1).2.1 (rdU l 1000 n1 e1).2.2 := by unfold getP getT; rw [hB]; simp only [g1, g2, g3, g4, if_true, if_false, Bool.false_eq_true]
    refine rgT ?_
    refine lo (lop_move (E rfl)) rfl ?_
    refine cw [(r10, .box 81 (rv l (n1) (e1)))] Try.call52 (rdr_unsigned r10 l hl hlt 1000 n1 hn1 e1) rfl ?_ ?_ ?_
    · (exact argsleT)
    · (exact stleT)
    rintro _ σ' ⟨rfl, rfl⟩ -
    (apply rs_sto; (exact nflT))
    unfold rv
    refine z59 ?_
    apply stp; rfl; rfl; rfl; rfl; (exact sputT)
    refine leT ?_
    (refine ctlT ?_)
    refine rgT ?_
    refine lo (lop_move (E rfl)) rfl ?_
    refine z76 ?_
    refine z59 ?_
    refine z60 ?_
    refine lo (lop_neq (E rfl) (E rfl)) rfl ?_
    refine leT ?_
    (refine ctlT ?_)
    refine sw_cond rfl (fun ge => ?_) (fun ge => ?_)
    · unfold fin at hG
      rw [ge] at hG
      simp only [if_true] at hG
      (refine ctlT ?_)
      refine rgD [(0, true), (1, true), (2, true), (3, true), (4, true), (5, false), (6, true), (7, true)] ?_
      refine z94 ?_
      refine dlo rfl (lop_move (E rfl)) rfl ?_
      refine z77 ?_
      refine z73 ?_
      refine z74 ?_
      refine z95 ?_
      refine dlo rfl (lop_assign (E rfl)) rfl ?_
      refine dlo rfl (lop_assign (E rfl)) rfl ?_
      refine deT ?_
      refine an ?_
      refine sw_virt_box (ks := [0, 2, 3, 4, 5, 6, 7, 18, 26, 32, 33, 38, 43, 50, 53, 54, 55, 67, 75, 79, 84, 93]) r2 3 3 1 (by decide) sgT rfl (by decide) fun qz hqz => ?_
      simp only [fresh_cons, fresh_nil, and_true] at hqz; (repeat (rcases hqz with ⟨_, hqz⟩))
      apply Exists.intro; apply And.intro; (exact ssetT)
      (refine ctlT ?_)
      (apply aend; (exact resT))
      · rw [hG]; exact ⟨qz, rfl, rfl⟩
      · (exact stleT)
    · unfold fin at hG
      rw [ge] at hG
      simp only [Bool.false_eq_true, if_false] at hG
      (refine ctlT ?_)
      refine rgD [(0, true), (1, true), (2, true), (3, true), (4, true), (5, false), (6, true), (7, true)] ?_
      refine z96 ?_
      refine dlo rfl (lop_move (E rfl)) rfl ?_
      refine z77 ?_
      refine z73 ?_
      refine z74 ?_
      refine z95 ?_
      refine dlo rfl (lop_assign (E rfl)) rfl ?_
      refine dlo rfl (lop_assign (E rfl)) rfl ?_
      refine deT ?_
      (refine ctlT ?_)
      (apply aend; (exact resT))
      · rw [hG]; exact ⟨q, rfl, rfl⟩
      · (exact stleT)
  (refine ctlT ?_)
  refine rgT ?_
  refine lo (lop_eql (E rfl) (E rfl)) rfl ?_
  refine lo (lop_assign (E rfl)) rfl ?_
  refine leT ?_
  (refine ctlT ?_)
  refine sw_cond rfl (fun g5 => ?_) (fun g5 => ?_)
  · (refine ctlT ?_)
    have hG : getP l = fin ⟨(c : Int), (rdU l 1000 n1 e1).1, 0, []⟩ (rdZ l (rdU l 1000 n1 e1).2.1 (rdU l 1000 n1 e1).2.2).1 (rdZ l (rdU l 1000 n1 e1).2.1 (rdU l 1000 n1 e1).2.2).2 := by unfold getP getT; rw [hB]; simp only [g1, g2, g3, g4, g5, if_true, if_false, Bool.false_eq_true]
    have hn2 := rdU_bd (lim := 1000) (e := e1) hn1
    refine rgT ?_
    refine lo (lop_move (E rfl)) rfl ?_
    refine cw [(r10, .box 81 (rv l (n1) (e1)))] Try.call52 (rdr_unsigned r10 l hl hlt 1000 n1 hn1 e1) rfl ?_ ?_ ?_
    · (exact argsleT)
    · (exact stleT)
    rintro _ σ' ⟨rfl, rfl⟩ -
    (apply rs_sto; (exact nflT))
    unfold rv
    refine z59 ?_
    apply stp; rfl; rfl; rfl; rfl; (exact sputT)
    refine leT ?_
    (refine ctlT ?_)
    generalize rdU l 1000 n1 e1 = u at *
    obtain ⟨a, n2, e2⟩ := u
    dsimp only at hn2 hG ⊢
    refine rgT ?_
    refine lo (lop_move (E rfl)) rfl ?_
    refine cw [(r10, .box 81 (rv l (n2) (e2)))] Try.call53 (rdr_zero r10 l hl hlt n2 hn2 e2) rfl ?_ ?_ ?_
    · (exact argsleT)
    · (exact stleT)
    rintro _ σ' ⟨rfl, rfl⟩ -
    (apply rs_sto; (exact nflT))
    unfold rv
    refine leT ?_
    (refine ctlT ?_)
    refine rgT ?_
    refine lo (lop_move (E rfl)) rfl ?_
    refine z76 ?_
    refine z59 ?_
    refine z60 ?_
    refine lo (lop_neq (E rfl) (E rfl)) rfl ?_
    refine leT ?_
    (refine ctlT ?_)
    refine sw_cond rfl (fun ge => ?_) (fun ge => ?_)
    · unfold fin at hG
      rw [ge] at hG
      simp only [if_true] at hG
      (refine ctlT ?_)
      refine rgD [(0, true), (1, true), (2, true), (3, true), (4, true), (5, false), (6, true), (7, true)] ?_
      refine z94 ?_
      refine dlo rfl (lop_move (E rfl)) rfl ?_
      refine z77 ?_
      refine z73 ?_
      refine z74 ?_
      refine z95 ?_
      refine dlo rfl (lop_assign (E rfl)) rfl ?_
      refine dlo rfl (lop_assign (E rfl)) rfl ?_
      refine deT ?_
      refine an ?_
      refine sw_virt_box (ks := [0, 2, 3, 4, 5, 6, 7, 18, 26, 32, 33, 38, 43, 50, 53, 54, 55, 67, 75, 79, 84, 93]) r2 3 3 1 (by decide) sgT rfl (by decide) fun qz hqz => ?_
      simp only [fresh_cons, fresh_nil, and_true] at hqz; (repeat (rcases hqz with ⟨_, hqz⟩))
      apply Exists.intro; apply And.intro; (exact ssetT)
      (refine ctlT ?_)
      (apply aend; (exact resT))
      · rw [hG]; exact ⟨qz, rfl, rfl⟩
      · (exact stleT)
    · unfold fin at hG
      rw [ge] at hG
      simp only [Bool.false_eq_true, if_false] at hG
      (refine ctlT ?_)
      refine rgD [(0, true), (1, true), (2, true), (3, true), (4, true), (5, false), (6, true), (7, true)] ?_
      refine z96 ?_
      refine dlo rfl (lop_move (E rfl)) rfl ?_
      refine z77 ?_
      refine z73 ?_
      refine z74 ?_
      refine z95 ?_
      refine dlo rfl (lop_assign (E rfl)) rfl ?_
      refine dlo rfl (lop_assign (E rfl)) rfl ?_
      refine deT ?_
      (refine ctlT ?_)
      (apply aend; (exact resT))
      · rw [hG]; exact ⟨q, rfl, rfl⟩
      · (exact stleT)
  (refine ctlT ?_)
  refine rgT ?_
  refine lo (lop_eql (E rfl) (E rfl)) rfl ?_
  refine lo (lop_assign (E rfl)) rfl ?_
  refine leT ?_
  (refine ctlT ?_)
  refine sw_cond rfl (fun g6 => ?_) (fun g6 => ?_)
  · (refine ctlT ?_)
    have hG : getP l = fin ⟨(c : Int), (rdU l 1000 (rdL l (rdU l 50 n1 e1).1 (rdU l 50 n1 e1).2.1 (rdU l 50 n1 e1).2.2).2.1 (rdL l (rdU l 50 n1 e1).1 (rdU l 50 n1 e1).2.1 (rdU l 50 n1 e1).2.2).2.2).1, 0, (rdL l (rdU l 50 n1 e1).1 (rdU l 50 n1 e1).2.1 (rdU l 50 n1 e1).2.2).1⟩ (rdU l 1000 (rdL l (rdU l 50 n1 e1).1 (rdU l 50 n1 e1).2.1 (rdU l 50 n1 e1).2.2).2.1 (rdL l (rdU l 50 n1 e1).1 (rdU l 50 n1 e1).2.1 (rdU l 50 n1 e1).2.2).2.2).2.1 (rdU l 1000 (rdL l (rdU l 50 n1 e1).1 (rdU l 50 n1 e1).2.1 (rdU l 50 n1 e1).2.2).2.1 (rdL l (rdU l 50 n1 e1).1 (rdU l 50 n1 e1).2.1 (rdU l 50 n1 e1).2.2).2.2).2.2 := by unfold getP getT; rw [hB]; simp only [g1, g2, g3, g4, g5, g6, if_true, if_false, Bool.false_eq_true]
    have hn2 := rdU_bd (lim := 50) (e := e1) hn1
    have hm50 := rdU_le (l := l) (lim := 50) (n := n1) (e := e1) (by omega)
    refine rgT ?_
    refine lo (lop_move (E rfl)) rfl ?_
    refine cw [(r10, .box 81 (rv l (n1) (e1)))] Try.call52 (rdr_unsigned r10 l hl hlt 50 n1 hn1 e1) rfl ?_ ?_ ?_
    · (exact argsleT)
    · (exact stleT)
    rintro _ σ' ⟨rfl, rfl⟩ -
    (apply rs_sto; (exact nflT))
    unfold rv
    refine lo (lop_move (E rfl)) rfl ?_
    refine leT ?_
    (refine ctlT ?_)
    generalize rdU l 50 n1 e1 = u at *
    obtain ⟨m, n2, e2⟩ := u
    dsimp only at hn2 hm50 hG ⊢
    refine lp (β := Nat × Nat) (fun b => ⟨[(2, .ptr r2 0), (5, .ptr r10 0), (6, .ptr r6 0), (53, .int .i64 m), (54, .int .i64 b.2)], [(b.1, .arr 3 1 ((rdL l b.2 n2 e2).1.map encI)), (r6, .box 24 [.int .i64 c, .int .i64 0, .int .i64 0, .own b.1 0 (rdL l b.2 n2 e2).1.length]), (r10, .box 81 (rv l (rdL l b.2 n2 e2).2.1 (rdL l b.2 n2 e2).2.2)), (r2, .box 24 [.int .i64 0, .int .i64 0, .int .i64 0, .ro 0 [] .nil])]⟩) (fun b => (Nq b.1 r6 ∧ Nq b.1 r10 ∧ Nq b.1 r2) ∧ b.2 ≤ m) (fun b => m - b.2) (q, 0) (by (exact sgoT)) ⟨⟨by (exact nqT), by (exact nqT), by (exact nqT)⟩, Nat.zero_le _⟩ ?_
    rintro ⟨p, j⟩ ⟨⟨hp1, hp2, hp3⟩, hj⟩
    dsimp only at hp1 hp2 hp3 hj ⊢
    have hn3 := rdL_bd (m := j) (e := e2) hn2
    have hlen := rdL_len (l := l) (m := j) (n := n2) (e := e2)
    have hstep : rdL l (j + 1) n2 e2 = (((rdL l j n2 e2).1 ++ [((rdU l 1000 (rdL l j n2 e2).2.1 (rdL l j n2 e2).2.2).1 : Int)]), (rdU l 1000 (rdL l j n2 e2).2.1 (rdL l j n2 e2).2.2).2) := rfl
    generalize hW : rdL l j n2 e2 = w at hn3 hlen hstep ⊢
    obtain ⟨L, n3, e3⟩ := w
    dsimp only at hn3 hlen hstep ⊢
    unfold rv
    (refine ctlT ?_)
    refine rgT ?_
    refine lo (lop_lss (E rfl) (E rfl)) rfl ?_
    refine leT ?_
    (refine ctlT ?_)
    refine sw_cond rfl (fun h1 => ?_) (fun h1 => ?_)
    · have hlt2 : j < m := by simp at h1; omega
      (refine ctlT ?_)
      refine rgD [(0, true), (1, true), (2, true), (3, false), (4, false), (5, false), (6, true), (7, false)] ?_
      refine z73 ?_
      refine z74 ?_
      refine dlo rfl (lop_move (E rfl)) rfl ?_
      refine dcw [(r10, .box 81 (rv l n3 e3))] rfl Try.call52 (rdr_unsigned r10 l hl hlt 1000 n3 hn3 e3) rfl ?_ ?_ ?_ ?_
      · (exact argsleT)
      · (exact stleT)
      · (exact hbtT)
      rintro _ σ' ⟨rfl, rfl⟩ -
      (apply rd_sto; (exact nflT))
      unfold rv
      generalize rdU l 1000 n3 e3 = u at hstep ⊢
      obtain ⟨v, n4, e4⟩ := u
      dsimp only at hstep ⊢
      refine z97 ?_; refine freshT fun r60 h60 => ?_; (repeat (rcases h60 with ⟨_, h60⟩))
      apply dap (es' := (L ++ [(v : Int)]).map encI) (len' := (L ++ [(v : Int)]).length); rfl; infer_instance; infer_instance; rfl; rfl; (exact sgT)
      · simp
      · exact .inr (.inr ⟨_, _, _, _, _, rfl, sgT, by simp, rfl⟩)
      · simp [encI]
      · simp
      · simp [maxLen]; omega
      · simp; omega
      · rfl
      · (exact hbtT)
      refine apnT fun r61 h61 => ?_; (repeat (rcases h61 with ⟨_, h61⟩))
      refine z73 ?_
      refine z95 ?_
      refine deT ?_
      (refine ctlT ?_)
      refine rgT ?_
      refine z17 ?_
      refine lo (lop_move (E rfl)) rfl ?_
      refine leT ?_
      (refine ctlT ?_)
      refine ⟨(r61, j + 1), ⟨⟨by show Nq r61 r6; (exact nqT), by show Nq r61 r10; (exact nqT), by show Nq r61 r2; (exact nqT)⟩, hlt2⟩, by show m - (j + 1) < m - j; omega, ?_⟩
      dsimp only
      rw [hstep]
      (exact sgoT)
    · obtain rfl : j = m := by simp at h1; omega
      rw [hW] at hG
      dsimp only at hG
      (refine ctlT ?_)
      refine rgT ?_
      refine lo (lop_move (E rfl)) rfl ?_
      refine cw [(r10, .box 81 (rv l (n3) (e3)))] Try.call52 (rdr_unsigned r10 l hl hlt 1000 n3 hn3 e3) rfl ?_ ?_ ?_
      · (exact argsleT)
      · (exact stleT)
      rintro _ σ' ⟨rfl, rfl⟩ -
      (apply rs_sto; (exact nflT))
      unfold rv
      refine z59 ?_
      apply stp; rfl; rfl; rfl; rfl; (exact sputT)
      refine leT ?_
      (refine ctlT ?_)
      refine rgT ?_
      refine lo (lop_move (E rfl)) rfl ?_
      refine z76 ?_
      refine z59 ?_
      refine z60 ?_
      refine lo (lop_neq (E rfl) (E rfl)) rfl ?_
      refine leT ?_
      (refine ctlT ?_)
      refine sw_cond rfl (fun ge => ?_) (fun ge => ?_)
      · unfold fin at hG
        rw [ge] at hG
        simp only [if_true] at hG
        (refine ctlT ?_)
        refine rgD [(0, true), (1, true), (2, true), (3, true), (4, true), (5, false), (6, true), (7, true)] ?_
        refine z94 ?_
        refine dlo rfl (lop_move (E rfl)) rfl ?_
        refine z77 ?_
        refine z73 ?_
        refine z74 ?_
        refine z95 ?_
        refine dlo rfl (lop_assign (E rfl)) rfl ?_
        refine dlo rfl (lop_assign (E rfl)) rfl ?_
        refine deT ?_
        refine an ?_
        refine sw_virt_box (ks := [0, 2, 3, 4, 5, 6, 7, 18, 26, 32, 33, 38, 43, 50, 53, 54, 55, 67, 75, 79, 84, 93]) r2 3 3 1 (by decide) sgT rfl (by decide) fun qz hqz => ?_
        simp only [fresh_cons, fresh_nil, and_true] at hqz; (repeat (rcases hqz with ⟨_, hqz⟩))
        apply Exists.intro; apply And.intro; (exact ssetT)
        (refine ctlT ?_)
        (apply aend; (exact resT))
        · rw [hG]; exact ⟨qz, rfl, rfl⟩
        · (exact stleT)
      · unfold fin at hG
        rw [ge] at hG
        simp only [Bool.false_eq_true, if_false] at hG
        (refine ctlT ?_)
        refine rgD [(0, true), (1, true), (2, true), (3, true), (4, true), (5, false), (6, true), (7, true)] ?_
        refine z96 ?_
        refine dlo rfl (lop_move (E rfl)) rfl ?_
        refine z77 ?_
        refine z73 ?_
        refine z74 ?_
        refine z95 ?_
        refine dlo rfl (lop_assign (E rfl)) rfl ?_
        refine dlo rfl (lop_assign (E rfl)) rfl ?_
        refine deT ?_
        (refine ctlT ?_)
        (apply aend; (exact resT))
        · rw [hG]; exact ⟨p, rfl, rfl⟩
        · (exact stleT)
  (refine ctlT ?_)
  refine rgT ?_
  refine lo (lop_eql (E rfl) (E rfl)) rfl ?_
  refine lo (lop_assign (E rfl)) rfl ?_
  refine leT ?_
  (refine ctlT ?_)
  refine sw_cond rfl (fun g7 => ?_) (fun g7 => ?_)
  · (refine ctlT ?_)
    have hG : getP l = fin ⟨(c : Int), (rdU l 3 n1 e1).1, (rdU l 4294967295 (rdU l 3 n1 e1).2.1 (rdU l 3 n1 e1).2.2).1, []⟩ (rdU l 4294967295 (rdU l 3 n1 e1).2.1 (rdU l 3 n1 e1).2.2).2.1 (rdU l 4294967295 (rdU l 3 n1 e1).2.1 (rdU l 3 n1 e1).2.2).2.2 := by unfold getP getT; rw [hB]; simp only [g1, g2, g3, g4, g5, g6, g7, if_true, if_false, Bool.false_eq_true]
    have hn2 := rdU_bd (lim := 3) (e := e1) hn1
    refine rgT ?_
    refine lo (lop_move (E rfl)) rfl ?_
    refine cw [(r10, .box 81 (rv l (n1) (e1)))] Try.call52 (rdr_unsigned r10 l hl hlt 3 n1 hn1 e1) rfl ?_ ?_ ?_
    · (exact argsleT)
    · (exact stleT)
    rintro _ σ' ⟨rfl, rfl⟩ -
    (apply rs_sto; (exact nflT))
    unfold rv
    refine z59 ?_
    apply stp; rfl; rfl; rfl; rfl; (exact sputT)
    refine leT ?_
    (refine ctlT ?_)
    generalize rdU l 3 n1 e1 = u at *
    obtain ⟨a, n2, e2⟩ := u
    dsimp only at hn2 hG ⊢
    refine rgT ?_
    refine lo (lop_move (E rfl)) rfl ?_
    refine cw [(r10, .box 81 (rv l (n2) (e2)))] Try.call52 (rdr_unsigned r10 l hl hlt 4294967295 n2 hn2 e2) rfl ?_ ?_ ?_
    · (exact argsleT)
    · (exact stleT)
    rintro _ σ' ⟨rfl, rfl⟩ -
    (apply rs_sto; (exact nflT))
    unfold rv
    refine z59 ?_
    apply stp; rfl; rfl; rfl; rfl; (exact sputT)
    refine leT ?_
    (refine ctlT ?_)
    refine rgT ?_
    refine lo (lop_move (E rfl)) rfl ?_
    refine z76 ?_
    refine z59 ?_
    refine z60 ?_
    refine lo (lop_neq (E rfl) (E rfl)) rfl ?_
    refine leT ?_
    (refine ctlT ?_)
    refine sw_cond rfl (fun ge => ?_) (fun ge => ?_)
    · unfold fin at hG
      rw [ge] at hG
      simp only [if_true] at hG
      (refine ctlT ?_)
      refine rgD [(0, true), (1, true), (2, true), (3, true), (4, true), (5, false), (6, true), (7, true)] ?_
      refine z94 ?_
      refine dlo rfl (lop_move (E rfl)) rfl ?_
      refine z77 ?_
      refine z73 ?_
      refine z74 ?_
      refine z95 ?_
      refine dlo rfl (lop_assign (E rfl)) rfl ?_
      refine dlo rfl (lop_assign (E rfl)) rfl ?_
      refine deT ?_
      refine an ?_
      refine sw_virt_box (ks := [0, 2, 3, 4, 5, 6, 7, 18, 26, 32, 33, 38, 43, 50, 53, 54, 55, 67, 75, 79, 84, 93]) r2 3 3 1 (by decide) sgT rfl (by decide) fun qz hqz => ?_
      simp only [fresh_cons, fresh_nil, and_true] at hqz; (repeat (rcases hqz with ⟨_, hqz⟩))
      apply Exists.intro; apply And.intro; (exact ssetT)
      (refine ctlT ?_)
      (apply aend; (exact resT))
      · rw [hG]; exact ⟨qz, rfl, rfl⟩
      · (exact stleT)
    · unfold fin at hG
      rw [ge] at hG
      simp only [Bool.false_eq_true, if_false] at hG
      (refine ctlT ?_)
      refine rgD [(0, true), (1, true), (2, true), (3, true), (4, true), (5, false), (6, true), (7, true)] ?_
      refine z96 ?_
      refine dlo rfl (lop_move (E rfl)) rfl ?_
      refine z77 ?_
      refine z73 ?_
      refine z74 ?_
      refine z95 ?_
      refine dlo rfl (lop_assign (E rfl)) rfl ?_
      refine dlo rfl (lop_assign (E rfl)) rfl ?_
      refine deT ?_
      (refine ctlT ?_)
      (apply aend; (exact resT))
      · rw [hG]; exact ⟨q, rfl, rfl⟩
      · (exact stleT)
  (refine ctlT ?_)
  refine rgT ?_
  refine lo (lop_eql (E rfl) (E rfl)) rfl ?_
  refine lo (lop_assign (E rfl)) rfl ?_
  refine leT ?_
  (refine ctlT ?_)
  refine sw_cond rfl (fun g8 => ?_) (fun g8 => ?_)
  · (refine ctlT ?_)
    have hG : getP l = fin ⟨(c : Int), 0, 0, []⟩ (rdZ l n1 e1).1 (rdZ l n1 e1).2 := by unfold getP getT; rw [hB]; simp only [g1, g2, g3, g4, g5, g6, g7, g8, if_true, if_false, Bool.false_eq_true]
    refine rgT ?_
    refine lo (lop_move (E rfl)) rfl ?_
    refine cw [(r10, .box 81 (rv l (n1) (e1)))] Try.call53 (rdr_zero r10 l hl hlt n1 hn1 e1) rfl ?_ ?_ ?_
    · (exact argsleT)
    · (exact stleT)
    rintro _ σ' ⟨rfl, rfl⟩ -
    (apply rs_sto; (exact nflT))
    unfold rv
    refine leT ?_
    (refine ctlT ?_)
    refine rgT ?_
    refine lo (lop_move (E rfl)) rfl ?_
    refine z76 ?_
    refine z59 ?_
    refine z60 ?_
    refine lo (lop_neq (E rfl) (E rfl)) rfl ?_
    refine leT ?_
    (refine ctlT ?_)
    refine sw_cond rfl (fun ge => ?_) (fun ge => ?_)
    · unfold fin at hG
      rw [ge] at hG
      simp only [if_true] at hG
      (refine ctlT ?_)
      refine rgD [(0, true), (1, true), (2, true), (3, true), (4, true), (5, false), (6, true), (7, true)] ?_
      refine z94 ?_
      refine dlo rfl (lop_move (E rfl)) rfl ?_
      refine z77 ?_
      refine z73 ?_
      refine z74 ?_
      refine z95 ?_
      refine dlo rfl (lop_assign (E rfl)) rfl ?_
      refine dlo rfl (lop_assign (E rfl)) rfl ?_
      refine deT ?_
      refine an ?_
      refine sw_virt_box (ks := [0, 2, 3, 4, 5, 6, 7, 18, 26, 32, 33, 38, 43, 50, 53, 54, 55, 67, 75, 79, 84, 93]) r2 3 3 1 (by decide) sgT rfl (by decide) fun qz hqz => ?_
      simp only [fresh_cons, fresh_nil, and_true] at hqz; (repeat (rcases hqz with ⟨_, hqz⟩))
      apply Exists.intro; apply And.intro; (exact ssetT)
      (refine ctlT ?_)
      (apply aend; (exact resT))
      · rw [hG]; exact ⟨qz, rfl, rfl⟩
      · (exact stleT)
    · unfold fin at hG
      rw [ge] at hG
      simp only [Bool.false_eq_true, if_false] at hG
      (refine ctlT ?_)
      refine rgD [(0, true), (1, true), (2, true), (3, true), (4, true), (5, false), (6, true), (7, true)] ?_
      refine z96 ?_
      refine dlo rfl (lop_move (E rfl)) rfl ?_
      refine z77 ?_
      refine z73 ?_
      refine z74 ?_
      refine z95 ?_
      refine dlo rfl (lop_assign (E rfl)) rfl ?_
      refine dlo rfl (lop_assign (E rfl)) rfl ?_
      refine deT ?_
      (refine ctlT ?_)
      (apply aend; (exact resT))
      · rw [hG]; exact ⟨q, rfl, rfl⟩
      · (exact stleT)
  (refine ctlT ?_)
  refine rgT ?_
  refine lo (lop_eql (E rfl) (E rfl)) rfl ?_
  refine lo (lop_assign (E rfl)) rfl ?_
  refine leT ?_
  (refine ctlT ?_)
  refine sw_cond rfl (fun g9 => ?_) (fun g9 => ?_)
  · (refine ctlT ?_)
    have hG : getP l = fin ⟨(c : Int), (rdS l 32 n1).1, 0, []⟩ (rdS l 32 n1).2.1 (rdS l 32 n1).2.2 := by unfold getP getT; rw [hB]; simp only [g1, g2, g3, g4, g5, g6, g7, g8, g9, if_true, if_false, Bool.false_eq_true]
    refine rgT ?_
    refine lo (lop_move (E rfl)) rfl ?_
    refine cw [(r10, .box 81 (rv l (n1) (e1)))] Try.call54 (rdr_signed r10 l hl hlt 32 (.inl rfl) n1 hn1 e1) rfl ?_ ?_ ?_
    · (exact argsleT)
    · (exact stleT)
    rintro _ σ' ⟨rfl, rfl⟩ -
    (apply rs_sto; (exact nflT))
    unfold rv
    refine z59 ?_
    apply stp; rfl; rfl; rfl; rfl; (exact sputT)
    refine leT ?_
    (refine ctlT ?_)
    refine rgT ?_
    refine lo (lop_move (E rfl)) rfl ?_
    refine z76 ?_
    refine z59 ?_
    refine z60 ?_
    refine lo (lop_neq (E rfl) (E rfl)) rfl ?_
    refine leT ?_
    (refine ctlT ?_)
    refine sw_cond rfl (fun ge => ?_) (fun ge => ?_)
    · unfold fin at hG
      rw [ge] at hG
      simp only [if_true] at hG
      (refine ctlT ?_)
      refine rgD [(0, true), (1, true), (2, true), (3, true), (4, true), (5, false), (6, true), (7, true)] ?_
      refine z94 ?_
      refine dlo rfl (lop_move (E rfl)) rfl ?_
      refine z77 ?_
      refine z73 ?_
      refine z74 ?_
      refine z95 ?_
      refine dlo rfl (lop_assign (E rfl)) rfl ?_
      refine dlo rfl (lop_assign (E rfl)) rfl ?_
      refine deT ?_
      refine an ?_
      refine sw_virt_box (ks := [0, 2, 3, 4, 5, 6, 7, 18, 26, 32, 33, 38, 43, 50, 53, 54, 55, 67, 75, 79, 84, 93]) r2 3 3 1 (by decide) sgT rfl (by decide) fun qz hqz => ?_
      simp only [fresh_cons, fresh_nil, and_true] at hqz; (repeat (rcases hqz with ⟨_, hqz⟩))
      apply Exists.intro; apply And.intro; (exact ssetT)
      (refine ctlT ?_)
      (apply aend; (exact resT))
      · rw [hG]; exact ⟨qz, rfl, rfl⟩
      · (exact stleT)
    · unfold fin at hG
      rw [ge] at hG
      simp only [Bool.false_eq_true, if_false] at hG
      (refine ctlT ?_)
      refine rgD [(0, true), (1, true), (2, true), (3, true), (4, true), (5, false), (6, true), (7, true)] ?_
      refine z96 ?_
      refine dlo rfl (lop_move (E rfl)) rfl ?_
      refine z77 ?_
      refine z73 ?_
      refine z74 ?_
      refine z95 ?_
      refine dlo rfl (lop_assign (E rfl)) rfl ?_
      refine dlo rfl (lop_assign (E rfl)) rfl ?_
      refine deT ?_
      (refine ctlT ?_)
      (apply aend; (exact resT))
      · rw [hG]; exact ⟨q, rfl, rfl⟩
      · (exact stleT)
  (refine ctlT ?_)
  refine rgT ?_
  refine lo (lop_eql (E rfl) (E rfl)) rfl ?_
  refine lo (lop_assign (E rfl)) rfl ?_
  refine leT ?_
  (refine ctlT ?_)
  refine sw_cond rfl (fun g10 => ?_) (fun g10 => ?_)
  · (refine ctlT ?_)
    have hG : getP l = fin ⟨(c : Int), (rdS l 64 n1).1, 0, []⟩ (rdS l 64 n1).2.1 (rdS l 64 n1).2.2 := by unfold getP getT; rw [hB]; simp only [g1, g2, g3, g4, g5, g6, g7, g8, g9, g10, if_true, if_false, Bool.false_eq_true]
    refine rgT ?_
    refine lo (lop_move (E rfl)) rfl ?_
    refine cw [(r10, .box 81 (rv l (n1) (e1)))] Try.call54 (rdr_signed r10 l hl hlt 64 (.inr rfl) n1 hn1 e1) rfl ?_ ?_ ?_
    · (exact argsleT)
    · (exact stleT)
    rintro _ σ' ⟨rfl, rfl⟩ -
    (apply rs_sto; (exact nflT))
    unfold rv
    refine z59 ?_
    apply stp; rfl; rfl; rfl; rfl; (exact sputT)
    refine leT ?_
    (refine ctlT ?_)
    refine rgT ?_
    refine lo (lop_move (E rfl)) rfl ?_
    refine z76 ?_
    refine z59 ?_
    refine z60 ?_
    refine lo (lop_neq (E rfl) (E rfl)) rfl ?_
    refine leT ?_
    (refine ctlT ?_)
    refine sw_cond rfl (fun ge => ?_) (fun ge => ?_)
    · unfold fin at hG
      rw [ge] at hG
      simp only [if_true] at hG
      (refine ctlT ?_)
      refine rgD [(0, true), (1, true), (2, true), (3, true), (4, true), (5, false), (6, true), (7, true)] ?_
      refine z94 ?_
      refine dlo rfl (lop_move (E rfl)) rfl ?_
      refine z77 ?_
      refine z73 ?_
      refine z74 ?_
      refine z95 ?_
      refine dlo rfl (lop_assign (E rfl)) rfl ?_
      refine dlo rfl (lop_assign (E rfl)) rfl ?_
      refine deT ?_
      refine an ?_
      refine sw_virt_box (ks := [0, 2, 3, 4, 5, 6, 7, 18, 26, 32, 33, 38, 43, 50, 53, 54, 55, 67, 75, 79, 84, 93]) r2 3 3 1 (by decide) sgT rfl (by decide) fun qz hqz => ?_
      simp only [fresh_cons, fresh_nil, and_true] at hqz; (repeat (rcases hqz with ⟨_, hqz⟩))
      apply Exists.intro; apply And.intro; (exact ssetT)
      (refine ctlT ?_)
      (apply aend; (exact resT))
      · rw [hG]; exact ⟨qz, rfl, rfl⟩
      · (exact stleT)
    · unfold fin at hG
      rw [ge] at hG
      simp only [Bool.false_eq_true, if_false] at hG
      (refine ctlT ?_)
      refine rgD [(0, true), (1, true), (2, true), (3, true), (4, true), (5, false), (6, true), (7, true)] ?_
      refine z96 ?_
      refine dlo rfl (lop_move (E rfl)) rfl ?_
      refine z77 ?_
      refine z73 ?_
      refine z74 ?_
      refine z95 ?_
      refine dlo rfl (lop_assign (E rfl)) rfl ?_
      refine dlo rfl (lop_assign (E rfl)) rfl ?_
      refine deT ?_
      (refine ctlT ?_)
      (apply aend; (exact resT))
      · rw [hG]; exact ⟨q, rfl, rfl⟩
      · (exact stleT)
  (refine ctlT ?_)
  have hG : getP l = fin ⟨(c : Int), 0, 0, []⟩ n1 e1 := by unfold getP getT; rw [hB]; simp only [g1, g2, g3, g4, g5, g6, g7, g8, g9, g10, if_true, if_false, Bool.false_eq_true]
  refine rgT ?_
  refine lo (lop_move (E rfl)) rfl ?_
  refine z76 ?_
  refine z59 ?_
  refine z60 ?_
  refine lo (lop_neq (E rfl) (E rfl)) rfl ?_
  refine leT ?_
  (refine ctlT ?_)
  refine sw_cond rfl (fun ge => ?_) (fun ge => ?_)
  · unfold fin at hG
    rw [ge] at hG
    simp only [if_true] at hG
    (refine ctlT ?_)
    refine rgD [(0, true), (1, true), (2, true), (3, true), (4, true), (5, false), (6, true), (7, true)] ?_
    refine z94 ?_
    refine dlo rfl (lop_move (E rfl)) rfl ?_
    refine z77 ?_
    refine z73 ?_
    refine z74 ?_
    refine z95 ?_
    refine dlo rfl (lop_assign (E rfl)) rfl ?_
    refine dlo rfl (lop_assign (E rfl)) rfl ?_
    refine deT ?_
    refine an ?_
    refine sw_virt_box (ks := [0, 2, 3, 4, 5, 6, 7, 18, 26, 32, 33, 38, 43, 50, 53, 54, 55, 67, 75, 79, 84, 93]) r2 3 3 1 (by decide) sgT rfl (by decide) fun qz hqz => ?_
    simp only [fresh_cons, fresh_nil, and_true] at hqz; (repeat (rcases hqz with ⟨_, hqz⟩))
    apply Exists.intro; apply And.intro; (exact ssetT)
    (refine ctlT ?_)
    (apply aend; (exact resT))
    · rw [hG]; exact ⟨qz, rfl, rfl⟩
    · (exact stleT)
  · unfold fin at hG
    rw [ge] at hG
    simp only [Bool.false_eq_true, if_false] at hG
    (refine ctlT ?_)
    refine rgD [(0, true), (1, true), (2, true), (3, true), (4, true), (5, false), (6, true), (7, true)] ?_
    refine z96 ?_
    refine dlo rfl (lop_move (E rfl)) rfl ?_
    refine z77 ?_
    refine z73 ?_
    refine z74 ?_
    refine z95 ?_
    refine dlo rfl (lop_assign (E rfl)) rfl ?_
    refine dlo rfl (lop_assign (E rfl)) rfl ?_
    refine deT ?_
    (refine ctlT ?_)
    (apply aend; (exact resT))
    · rw [hG]; exact ⟨q, rfl, rfl⟩
    · (exact stleT)
end Go.Proofs.Ytkjfflabapeidaa
/-
  Get, in the document's words.
-/
namespace Go.Proofs.Ytkjfflabapeidaa
open Go.RowKit Go.ChangeShapes Go.WideShapes Go.ChangeAt Go.Deep
set_option linter.unusedSimpArgs false
set_option linter.unusedVariables false
attribute [local irreducible] SW RS RD AThen ABlock

def rfK (l : List Nat) (n : Nat) (e : Int) : Int × Nat × Int :=
  if (((rdB l n e).1 : Int) == 127) = true then (1, (rdB l n e).2.1, (rdB l n e).2.2) else if (((rdB l n e).1 : Int) == 126) = true then (2, (rdB l n e).2.1, (rdB l n e).2.2)
  else if (((rdB l n e).1 : Int) == 64) = true then (0, (rdB l n e).2.1, (rdB l n e).2.2) else if ((rdB l n e).2.2 == 0) = true then (0, (rdB l n e).2.1, 1) else (0, (rdB l n e).2.1, (rdB l n e).2.2)
def rfL (l : List Nat) : Nat → Nat → Int → List Int × Nat × Int
  | 0, n, e => ([], n, e)
  | m + 1, n, e => (((rfL l m n e).1 ++ [((rfU l 1000 (rfL l m n e).2.1 (rfL l m n e).2.2).1 : Int)]), (rfU l 1000 (rfL l m n e).2.1 (rfL l m n e).2.2).2)
def getF (l : List Nat) (op : Int) (n : Nat) (e : Int) : Ins × Nat × Int :=
  if (formN op == 2) = true then fin ⟨op, (rfK l n e).1, 0, []⟩ (rfK l n e).2.1 (rfK l n e).2.2
  else if (formN op == 3) = true then fin ⟨op, (rfU l 1000 n e).1, 0, []⟩ (rfU l 1000 n e).2.1 (rfU l 1000 n e).2.2
  else if (formN op == 5) = true then fin ⟨op, (rfU l 1000 n e).1, 0, []⟩ (rdZ l (rfU l 1000 n e).2.1 (rfU l 1000 n e).2.2).1 (rdZ l (rfU l 1000 n e).2.1 (rfU l 1000 n e).2.2).2
  else if (formN op == 4) = true then
    let u := rfU l 50 n e
    let w := rfL l u.1 u.2.1 u.2.2
    let v := rfU l 1000 w.2.1 w.2.2
    fin ⟨op, v.1, 0, w.1⟩ v.2.1 v.2.2
  else if (formN op == 6) = true then
    let u := rfU l 3 n e
    let v := rfU l 4294967295 u.2.1 u.2.2
    fin ⟨op, u.1, v.1, []⟩ v.2.1 v.2.2
  else if (formN op == 7) = true then fin ⟨op, 0, 0, []⟩ (rdZ l n e).1 (rdZ l n e).2
  else if (formN op == 8) = true then fin ⟨op, (rfS l 32 n e).1, 0, []⟩ (rfS l 32 n e).2.1 (rfS l 32 n e).2.2
  else if (formN op == 9) = true then fin ⟨op, (rfS l 64 n e).1, 0, []⟩ (rfS l 64 n e).2.1 (rfS l 64 n e).2.2
  else fin ⟨op, 0, 0, []⟩ n e
def getR (l : List Nat) : Ins × Nat × Int :=
  if (if ((rdB l 0 0).2.2 == 0) = true then (formN ((rdB l 0 0).1 : Nat) == 0) else false) = true then (ins0, 0, 1)
  else getF l ((rdB l 0 0).1 : Nat) (rdB l 0 0).2.1 (rdB l 0 0).2.2
theorem rfU_bd {l : List Nat} {lim : Int} {n : Nat} {e : Int} (h : n ≤ l.length) : (rfU l lim n e).2.1 ≤ l.length := by
  have h1 := (getU_bd (l.drop n)).2.1
  rw [List.length_drop] at h1
  unfold rfU
  repeat' split
  all_goals first | exact h | (simp; omega)
theorem rfU_err {l : List Nat} {lim : Int} {n : Nat} {e : Int} (h : (e != 0) = true) : rfU l lim n e = (0, n, e) := by unfold rfU; rw [if_pos h]
theorem rfU_32 (l : List Nat) (lim : Int) (n : Nat) (e : Int) : (rfU l lim n e).1 < 4294967296 := by
  have h1 := (getU_bd (l.drop n)).1
  unfold rfU
  repeat' split
  all_goals first | exact h1 | (show (0 : Nat) < _; omega)
theorem rfL_err {l : List Nat} {n : Nat} {e : Int} {j : Nat} : ∀ {m : Nat}, j ≤ m → ((rfL l j n e).2.2 != 0) = true → (rfL l m n e).2 = (rfL l j n e).2
  | 0, h, _ => by rw [show j = 0 by omega]
  | m + 1, h, h0 => by
    by_cases hj : j = m + 1
    · rw [hj]
    · have ih := rfL_err (m := m) (by omega) h0
      rw [rfL]
      show (rfU l 1000 (rfL l m n e).2.1 (rfL l m n e).2.2).2 = _
      rw [ih, rfU_err h0]
theorem rfL_bd {l : List Nat} : ∀ {m n : Nat} {e : Int}, n ≤ l.length → (rfL l m n e).2.1 ≤ l.length
  | 0, _, _, h => h
  | _ + 1, _, _, h => rfU_bd (rfL_bd h)
theorem rfL_len {l : List Nat} : ∀ {m n : Nat} {e : Int}, (rfL l m n e).1.length = m
  | 0, _, _ => rfl
  | m + 1, n, e => by rw [rfL]; simp [rfL_len (m := m)]
theorem rdB_256 {l : List Nat} (hlt : ∀ x ∈ l, x < 256) (n : Nat) (e : Int) : (rdB l n e).1 < 256 := by
  unfold rdB
  repeat' split
  all_goals first | exact getB_lt hlt n | (show (0 : Nat) < 256; omega)
set_option maxHeartbeats 1000000 in
set_option maxRecDepth 100000 in
theorem ref_getInstr (l : List Nat) (hl : l.length ≤ 1000000) (hlt : ∀ x ∈ l, x < 256) : SCall Try.prog 55 [.ro 1 (l.map encU) .any] []
    (fun y σ => ∃ q, y = .tup [.agg (io q (getR l).1), .int .i64 ((getR l).2.1 : Nat), .int .i64 (getR l).2.2] ∧ σ = [(q, .arr 3 1 ((getR l).1.l.map encI))]) := by
  refine scall_of (n := 128) (ks := [0, 2, 3, 4, 5, 6, 7, 8, 26, 32, 33, 36, 41, 45, 48, 51, 53, 58, 65, 78, 91, 99, 103, 108, 117]) Try.func55 rfl rfl (Nat.le_of_ble_eq_true rfl) ?_
  (refine ctlT ?_)
  refine rgT ?_
  apply al; rfl; (exact zcT); refine freshT fun r2 h2 => ?_; (repeat (rcases h2 with ⟨_, h2⟩))
  refine lo (lop_assign (E rfl)) rfl ?_
  refine lo (lop_assign (E rfl)) rfl ?_
  refine leT ?_
  (refine ctlT ?_)
  refine rgT ?_
  refine lo (lop_move (E rfl)) rfl ?_
  refine z93 ?_
  apply bx; rfl; rfl; (exact zcT); rfl; refine freshT fun r11 h11 => ?_; (repeat (rcases h11 with ⟨_, h11⟩))
  refine lo (lop_assign (E rfl)) rfl ?_
  refine leT ?_
  (refine ctlT ?_)
  refine rgT ?_
  refine lo (lop_move (E rfl)) rfl ?_
  refine cw [(r11, .box 100 (rv l (0) (0)))] Try.call65 (rfr_octet r11 l hl hlt 0 (by omega) 0) rfl ?_ ?_ ?_
  · (exact argsleT)
  · (exact stleT)
  rintro _ σ' ⟨rfl, rfl⟩ -
  (apply rs_sto; (exact nflT))
  unfold rv
  have hc256 := rdB_256 hlt 0 0
  have hn1 := rdB_bd (l := l) (n := 0) (e := 0) (by omega)
  generalize hB : rdB l 0 0 = bb at *
  obtain ⟨c, n1, e1⟩ := bb
  dsimp only at hn1 hc256 ⊢
  refine z44 ?_
  refine z93 ?_
  apply al; rfl; (exact zcT); refine freshT fun r6 h6 => ?_; (repeat (rcases h6 with ⟨_, h6⟩))
  apply stp; rfl; rfl; rfl; rfl; (exact sputT)
  refine leT ?_
  refine an ?_
  refine sw_virt_box (ks := [0, 2, 3, 4, 5, 6, 7, 8, 26, 32, 33, 36, 41, 45, 48, 51, 53, 58, 65, 78, 91, 99, 103, 108, 117]) r6 3 3 1 (by decide) sgT rfl (by decide) fun q hq => ?_
  simp only [fresh_cons, fresh_nil, and_true] at hq; (repeat (rcases hq with ⟨_, hq⟩))
  apply Exists.intro; apply And.intro; (exact ssetT)
  (refine ctlT ?_)
  rw [show ([AV.int .i64 (c : Int), .int .i64 0, .int .i64 0, .ro 0 [] .nil].set 3 (.own q 0 0)) = [.int .i64 (c : Int), .int .i64 0, .int .i64 0, .own q 0 0] from rfl]
  refine rgT ?_
  refine lo (lop_move (E rfl)) rfl ?_
  refine z76 ?_
  refine z59 ?_
  refine z60 ?_
  refine lo (lop_eql (E rfl) (E rfl)) rfl ?_
  refine lo (lop_move (E rfl)) rfl ?_
  refine z61 ?_
  refine z62 ?_
  (first | refine ln rfl rfl rfl rfl ?_ | refine lw rfl rfl (lop_no (v := .bool false)) rfl ?_ | refine pu [] Try.call27 (ref_formN (c : Int) (by omega)) rfl argsT nofT ?_ | refine pug [] rfl rfl Try.call27 (fun _ => (ref_formN (c : Int) (by omega))) rfl argsT nofT ?_ | refine puw [] rfl rfl Try.call27 (fun _ => (ref_formN (c : Int) (by omega))) rfl argsT nofT ?_)
  refine z98 ?_
  refine z7 ?_
  refine leT ?_
  (refine ctlT ?_)
  refine sw_cond rfl (fun g1 => ?_) (fun g1 => ?_)
  · (refine ctlT ?_)
    have hG : getR l = (ins0, 0, 1) := by unfold getR; rw [hB]; simp only [g1, if_true]
    have hf0 : formN (c : Int) = 0 := by have := (unsigned_yes g1).2; simpa using this
    refine rgT ?_
    refine lo (lop_move (E rfl)) rfl ?_
    refine z76 ?_
    refine z59 ?_
    apply stp; rfl; rfl; rfl; rfl; (exact sputT)
    refine leT ?_
    (refine ctlT ?_)
    refine rgT ?_
    refine z59 ?_
    refine z60 ?_
    (first | refine pu [] Try.call27 (ref_formN (c : Int) (by omega)) rfl argsT nofT ?_ | refine pug [] rfl rfl Try.call27 (fun _ => (ref_formN (c : Int) (by omega))) rfl argsT nofT ?_)
    rw [hf0]
    refine leT ?_
    (refine ctlT ?_)
    refine rgT ?_
    refine lo (lop_eql (E rfl) (E rfl)) rfl ?_
    refine lo (lop_assign (E rfl)) rfl ?_
    refine leT ?_
    (refine ctlT ?_)
    refine rgT ?_
    refine lo (lop_eql (E rfl) (E rfl)) rfl ?_
    refine lo (lop_assign (E rfl)) rfl ?_
    refine leT ?_
    (refine ctlT ?_)
    refine rgT ?_
    refine lo (lop_eql (E rfl) (E rfl)) rfl ?_
    refine lo (lop_assign (E rfl)) rfl ?_
    refine leT ?_
    (refine ctlT ?_)
    refine rgT ?_
    refine lo (lop_eql (E rfl) (E rfl)) rfl ?_
    refine lo (lop_assign (E rfl)) rfl ?_
    refine leT ?_
    (refine ctlT ?_)
    refine rgT ?_
    refine lo (lop_eql (E rfl) (E rfl)) rfl ?_
    refine lo (lop_assign (E rfl)) rfl ?_
    refine leT ?_
    (refine ctlT ?_)
    refine rgT ?_
    refine lo (lop_eql (E rfl) (E rfl)) rfl ?_
    refine lo (lop_assign (E rfl)) rfl ?_
    refine leT ?_
    (refine ctlT ?_)
    refine rgT ?_
    refine lo (lop_eql (E rfl) (E rfl)) rfl ?_
    refine lo (lop_assign (E rfl)) rfl ?_
    refine leT ?_
    (refine ctlT ?_)
    refine rgT ?_
    refine lo (lop_eql (E rfl) (E rfl)) rfl ?_
    refine lo (lop_assign (E rfl)) rfl ?_
    refine leT ?_
    (refine ctlT ?_)
    refine rgT ?_
    refine lo (lop_move (E rfl)) rfl ?_
    refine z76 ?_
    refine z59 ?_
    refine z60 ?_
    refine lo (lop_neq (E rfl) (E rfl)) rfl ?_
    refine leT ?_
    (refine ctlT ?_)
    refine rgD [(0, true), (1, true), (2, true), (3, true), (4, true), (5, false), (6, true), (7, true)] ?_
    refine z94 ?_
    refine dlo rfl (lop_move (E rfl)) rfl ?_
    refine z77 ?_
    refine z73 ?_
    refine z74 ?_
    refine z95 ?_
    refine dlo rfl (lop_assign (E rfl)) rfl ?_
    refine dlo rfl (lop_assign (E rfl)) rfl ?_
    refine deT ?_
    refine an ?_
    refine sw_virt_box (ks := [0, 2, 3, 4, 5, 6, 7, 8, 26, 32, 33, 36, 41, 45, 48, 51, 53, 58, 65, 78, 91, 99, 103, 108, 117]) r2 3 3 1 (by decide) sgT rfl (by decide) fun qz hqz => ?_
    simp only [fresh_cons, fresh_nil, and_true] at hqz; (repeat (rcases hqz with ⟨_, hqz⟩))
    apply Exists.intro; apply And.intro; (exact ssetT)
    (refine ctlT ?_)
    (apply aend; (exact resT))
    · rw [hG]; exact ⟨qz, rfl, rfl⟩
    · (exact stleT)
  (refine ctlT ?_)
  refine rgT ?_
  refine z59 ?_
  refine z60 ?_
  (first | refine ln rfl rfl rfl rfl ?_ | refine lw rfl rfl (lop_no (v := .bool false)) rfl ?_ | refine pu [] Try.call27 (ref_formN (c : Int) (by omega)) rfl argsT nofT ?_ | refine pug [] rfl rfl Try.call27 (fun _ => (ref_formN (c : Int) (by omega))) rfl argsT nofT ?_ | refine puw [] rfl rfl Try.call27 (fun _ => (ref_formN (c : Int) (by omega))) rfl argsT nofT ?_)
  refine leT ?_
  (refine ctlT ?_)
  refine rgT ?_
  refine lo (lop_eql (E rfl) (E rfl)) rfl ?_
  refine lo (lop_assign (E rfl)) rfl ?_
  refine leT ?_
  (refine ctlT ?_)
  refine sw_cond rfl (fun g2 => ?_) (fun g2 => ?_)
  · (refine ctlT ?_)
    have hb256 := rdB_256 hlt n1 e1
    refine rgT ?_
    refine lo (lop_move (E rfl)) rfl ?_
    refine cw [(r11, .box 100 (rv l (n1) (e1)))] Try.call65 (rfr_octet r11 l hl hlt n1 hn1 e1) rfl ?_ ?_ ?_
    · (exact argsleT)
    · (exact stleT)
    rintro _ σ' ⟨rfl, rfl⟩ -
    (apply rs_sto; (exact nflT))
    unfold rv
    refine leT ?_
    (refine ctlT ?_)
    refine rgT ?_
    refine lo (lop_eql (E rfl) (E rfl)) rfl ?_
    refine lo (lop_assign (E rfl)) rfl ?_
    refine leT ?_
    (refine ctlT ?_)
    refine sw_cond rfl (fun g3 => ?_) (fun g3 => ?_)
    · (refine ctlT ?_)
      have hG : getR l = fin ⟨(c : Int), 1, 0, []⟩ (rdB l n1 e1).2.1 (rdB l n1 e1).2.2 := by unfold getR getF rfK; rw [hB]; simp only [g1, g2, g3, if_true, if_false, Bool.false_eq_true]
      refine rgT ?_
      refine z59 ?_
      apply stp; rfl; rfl; rfl; rfl; (exact sputT)
      refine leT ?_
      (refine ctlT ?_)
      refine rgT ?_
      refine lo (lop_move (E rfl)) rfl ?_
      refine z76 ?_
      refine z59 ?_
      refine z60 ?_
      refine lo (lop_neq (E rfl) (E rfl)) rfl ?_
      refine leT ?_
      (refine ctlT ?_)
      refine sw_cond rfl (fun ge => ?_) (fun ge => ?_)
      · unfold fin at hG
        rw [ge] at hG
        simp only [if_true] at hG
        (refine ctlT ?_)
        refine rgD [(0, true), (1, true), (2, true), (3, true), (4, true), (5, false), (6, true), (7, true)] ?_
        refine z94 ?_
        refine dlo rfl (lop_move (E rfl)) rfl ?_
        refine z77 ?_
        refine z73 ?_
        refine z74 ?_
        refine z95 ?_
        refine dlo rfl (lop_assign (E rfl)) rfl ?_
        refine dlo rfl (lop_assign (E rfl)) rfl ?_
        refine deT ?_
        refine an ?_
        refine sw_virt_box (ks := [0, 2, 3, 4, 5, 6, 7, 8, 26, 32, 33, 36, 41, 45, 48, 51, 53, 58, 65, 78, 91, 99, 103, 108, 117]) r2 3 3 1 (by decide) sgT rfl (by decide) fun qz hqz => ?_
        simp only [fresh_cons, fresh_nil, and_true] at hqz; (repeat (rcases hqz with ⟨_, hqz⟩))
        apply Exists.intro; apply And.intro; (exact ssetT)
        (refine ctlT ?_)
        (apply aend; (exact resT))
        · rw [hG]; exact ⟨qz, rfl, rfl⟩
        · (exact stleT)
      · unfold fin at hG
        rw [ge] at hG
        simp only [Bool.false_eq_true, if_false] at hG
        (refine ctlT ?_)
        refine rgD [(0, true), (1, true), (2, true), (3, true), (4, true), (5, false), (6, true), (7, true)] ?_
        refine z96 ?_
        refine dlo rfl (lop_move (E rfl)) rfl ?_
        refine z77 ?_
        refine z73 ?_
        refine z74 ?_
        refine z95 ?_
        refine dlo rfl (lop_assign (E rfl)) rfl ?_
        refine dlo rfl (lop_assign (E rfl)) rfl ?_
        refine deT ?_
        (refine ctlT ?_)
        (apply aend; (exact resT))
        · rw [hG]; exact ⟨q, rfl, rfl⟩
        · (exact stleT)
    (refine ctlT ?_)
    refine rgT ?_
    refine lo (lop_eql (E rfl) (E rfl)) rfl ?_
    refine lo (lop_assign (E rfl)) rfl ?_
    refine leT ?_
    (refine ctlT ?_)
    refine sw_cond rfl (fun g4 => ?_) (fun g4 => ?_)
    · (refine ctlT ?_)
      have hG : getR l = fin ⟨(c : Int), 2, 0, []⟩ (rdB l n1 e1).2.1 (rdB l n1 e1).2.2 := by unfold getR getF rfK; rw [hB]; simp only [g1, g2, g3, g4, if_true, if_false, Bool.false_eq_true]
      refine rgT ?_
      refine z59 ?_
      apply stp; rfl; rfl; rfl; rfl; (exact sputT)
      refine leT ?_
      (refine ctlT ?_)
      refine rgT ?_
      refine lo (lop_move (E rfl)) rfl ?_
      refine z76 ?_
      refine z59 ?_
      refine z60 ?_
      refine lo (lop_neq (E rfl) (E rfl)) rfl ?_
      refine leT ?_
      (refine ctlT ?_)
      refine sw_cond rfl (fun ge => ?_) (fun ge => ?_)
      · unfold fin at hG
        rw [ge] at hG
        simp only [if_true] at hG
        (refine ctlT ?_)
        refine rgD [(0, true), (1, true), (2, true), (3, true), (4, true), (5, false), (6, true), (7, true)] ?_
        refine z94 ?_
        refine dlo rfl (lop_move (E rfl)) rfl ?_
        refine z77 ?_
        refine z73 ?_
        refine z74 ?_
        refine z95 ?_
        refine dlo rfl (lop_assign (E rfl)) rfl ?_
        refine dlo rfl (lop_assign (E rfl)) rfl ?_
        refine deT ?_
        refine an ?_
        refine sw_virt_box (ks := [0, 2, 3, 4, 5, 6, 7, 8, 26, 32, 33, 36, 41, 45, 48, 51, 53, 58, 65, 78, 91, 99, 103, 108, 117]) r2 3 3 1 (by decide) sgT rfl (by decide) fun qz hqz => ?_
        simp only [fresh_cons, fresh_nil, and_true] at hqz; (repeat (rcases hqz with ⟨_, hqz⟩))
        apply Exists.intro; apply And.intro; (exact ssetT)
        (refine ctlT ?_)
        (apply aend; (exact resT))
        · rw [hG]; exact ⟨qz, rfl, rfl⟩
        · (exact stleT)
      · unfold fin at hG
        rw [ge] at hG
        simp only [Bool.false_eq_true, if_false] at hG
        (refine ctlT ?_)
        refine rgD [(0, true), (1, true), (2, true), (3, true), (4, true), (5, false), (6, true), (7, true)] ?_
        refine z96 ?_
        refine dlo rfl (lop_move (E rfl)) rfl ?_
        refine z77 ?_
        refine z73 ?_
        refine z74 ?_
        refine z95 ?_
        refine dlo rfl (lop_assign (E rfl)) rfl ?_
        refine dlo rfl (lop_assign (E rfl)) rfl ?_
        refine deT ?_
        (refine ctlT ?_)
        (apply aend; (exact resT))
        · rw [hG]; exact ⟨q, rfl, rfl⟩
        · (exact stleT)
    (refine ctlT ?_)
    refine rgT ?_
    refine lo (lop_eql (E rfl) (E rfl)) rfl ?_
    refine lo (lop_assign (E rfl)) rfl ?_
    refine leT ?_
    (refine ctlT ?_)
    refine sw_cond rfl (fun g5 => ?_) (fun g5 => ?_)
    · have hG : getR l = fin ⟨(c : Int), 0, 0, []⟩ (rdB l n1 e1).2.1 (rdB l n1 e1).2.2 := by unfold getR getF rfK; rw [hB]; simp only [g1, g2, g3, g4, g5, if_true, if_false, Bool.false_eq_true]
      (refine ctlT ?_)
      refine rgT ?_
      refine lo (lop_move (E rfl)) rfl ?_
      refine z76 ?_
      refine z59 ?_
      refine z60 ?_
      refine lo (lop_neq (E rfl) (E rfl)) rfl ?_
      refine leT ?_
      (refine ctlT ?_)
      refine sw_cond rfl (fun ge => ?_) (fun ge => ?_)
      · unfold fin at hG
        rw [ge] at hG
        simp only [if_true] at hG
        (refine ctlT ?_)
        refine rgD [(0, true), (1, true), (2, true), (3, true), (4, true), (5, false), (6, true), (7, true)] ?_
        refine z94 ?_
        refine dlo rfl (lop_move (E rfl)) rfl ?_
        refine z77 ?_
        refine z73 ?_
        refine z74 ?_
        refine z95 ?_
        refine dlo rfl (lop_assign (E rfl)) rfl ?_
        refine dlo rfl (lop_assign (E rfl)) rfl ?_
        refine deT ?_
        refine an ?_
        refine sw_virt_box (ks := [0, 2, 3, 4, 5, 6, 7, 8, 26, 32, 33, 36, 41, 45, 48, 51, 53, 58, 65, 78, 91, 99, 103, 108, 117]) r2 3 3 1 (by decide) sgT rfl (by decide) fun qz hqz => ?_
        simp only [fresh_cons, fresh_nil, and_true] at hqz; (repeat (rcases hqz with ⟨_, hqz⟩))
        apply Exists.intro; apply And.intro; (exact ssetT)
        (refine ctlT ?_)
        (apply aend; (exact resT))
        · rw [hG]; exact ⟨qz, rfl, rfl⟩
        · (exact stleT)
      · unfold fin at hG
        rw [ge] at hG
        simp only [Bool.false_eq_true, if_false] at hG
        (refine ctlT ?_)
        refine rgD [(0, true), (1, true), (2, true), (3, true), (4, true), (5, false), (6, true), (7, true)] ?_
        refine z96 ?_
        refine dlo rfl (lop_move (E rfl)) rfl ?_
        refine z77 ?_
        refine z73 ?_
        refine z74 ?_
        refine z95 ?_
        refine dlo rfl (lop_assign (E rfl)) rfl ?_
        refine dlo rfl (lop_assign (E rfl)) rfl ?_
        refine deT ?_
        (refine ctlT ?_)
        (apply aend; (exact resT))
        · rw [hG]; exact ⟨q, rfl, rfl⟩
        · (exact stleT)
    · (refine ctlT ?_)
      refine rgT ?_
      refine lo (lop_move (E rfl)) rfl ?_
      refine z76 ?_
      refine z59 ?_
      refine z60 ?_
      refine lo (lop_eql (E rfl) (E rfl)) rfl ?_
      refine leT ?_
      (refine ctlT ?_)
      refine sw_cond rfl (fun g6 => ?_) (fun g6 => ?_)
      · have hG : getR l = fin ⟨(c : Int), 0, 0, []⟩ (rdB l n1 e1).2.1 1 := by unfold getR getF rfK; rw [hB]; simp only [g1, g2, g3, g4, g5, g6, if_true, if_false, Bool.false_eq_true]
        rw [show fin ⟨(c : Int), 0, 0, []⟩ (rdB l n1 e1).2.1 1 = (ins0, 0, 1) from rfl] at hG
        (refine ctlT ?_)
        refine rgT ?_
        refine lo (lop_move (E rfl)) rfl ?_
        refine z76 ?_
        refine z59 ?_
        apply stp; rfl; rfl; rfl; rfl; (exact sputT)
        refine leT ?_
        (refine ctlT ?_)
        refine rgT ?_
        refine lo (lop_move (E rfl)) rfl ?_
        refine z76 ?_
        refine z59 ?_
        refine z60 ?_
        refine lo (lop_neq (E rfl) (E rfl)) rfl ?_
        refine leT ?_
        (refine ctlT ?_)
        refine rgD [(0, true), (1, true), (2, true), (3, true), (4, true), (5, false), (6, true), (7, true)] ?_
        refine z94 ?_
        refine dlo rfl (lop_move (E rfl)) rfl ?_
        refine z77 ?_
        refine z73 ?_
        refine z74 ?_
        refine z95 ?_
        refine dlo rfl (lop_assign (E rfl)) rfl ?_
        refine dlo rfl (lop_assign (E rfl)) rfl ?_
        refine deT ?_
        refine an ?_
        refine sw_virt_box (ks := [0, 2, 3, 4, 5, 6, 7, 8, 26, 32, 33, 36, 41, 45, 48, 51, 53, 58, 65, 78, 91, 99, 103, 108, 117]) r2 3 3 1 (by decide) sgT rfl (by decide) fun qz hqz => ?_
        simp only [fresh_cons, fresh_nil, and_true] at hqz; (repeat (rcases hqz with ⟨_, hqz⟩))
        apply Exists.intro; apply And.intro; (exact ssetT)
        (refine ctlT ?_)
        (apply aend; (exact resT))
        · rw [hG]; exact ⟨qz, rfl, rfl⟩
        · (exact stleT)
      · have hG : getR l = fin ⟨(c : Int), 0, 0, []⟩ (rdB l n1 e1).2.1 (rdB l n1 e1).2.2 := by unfold getR getF rfK; rw [hB]; simp only [g1, g2, g3, g4, g5, g6, if_true, if_false, Bool.false_eq_true]
        (refine ctlT ?_)
        refine rgT ?_
        refine lo (lop_move (E rfl)) rfl ?_
        refine z76 ?_
        refine z59 ?_
        refine z60 ?_
        refine lo (lop_neq (E rfl) (E rfl)) rfl ?_
        refine leT ?_
        (refine ctlT ?_)
        refine sw_cond rfl (fun ge => ?_) (fun ge => ?_)
        · unfold fin at hG
          rw [ge] at hG
          simp only [if_true] at hG
          (refine ctlT ?_)
          refine rgD [(0, true), (1, true), (2, true), (3, true), (4, true), (5, false), (6, true), (7, true)] ?_
          refine z94 ?_
          refine dlo rfl (lop_move (E rfl)) rfl ?_
          refine z77 ?_
          refine z73 ?_
          refine z74 ?_
          refine z95 ?_
          refine dlo rfl (lop_assign (E rfl)) rfl ?_
          refine dlo rfl (lop_assign (E rfl)) rfl ?_
          refine deT ?_
          refine an ?_
          refine sw_virt_box (ks := [0, 2, 3, 4, 5, 6, 7, 8, 26, 32, 33, 36, 41, 45, 48, 51, 53, 58, 65, 78, 91, 99, 103, 108, 117]) r2 3 3 1 (by decide) sgT rfl (by decide) fun qz hqz => ?_
          simp only [fresh_cons, fresh_nil, and_true] at hqz; (repeat (rcases hqz with ⟨_, hqz⟩))
          apply Exists.intro; apply And.intro; (exact ssetT)
          (refine ctlT ?_)
          (apply aend; (exact resT))
          · rw [hG]; exact ⟨qz, rfl, rfl⟩
          · (exact stleT)
        · unfold fin at hG
          rw [ge] at hG
          simp only [Bool.false_eq_true, if_false] at hG
          (refine ctlT ?_)
          refine rgD [(0, true), (1, true), (2, true), (3, true), (4, true), (5, false), (6, true), (7, true)] ?_
          refine z96 ?_
          refine dlo rfl (lop_move (E rfl)) rfl ?_
          refine z77 ?_
          refine z73 ?_
          refine z74 ?_
          refine z95 ?_
          refine dlo rfl (lop_assign (E rfl)) rfl ?_
          refine dlo rfl (lop_assign (E rfl)) rfl ?_
          refine deT ?_
          (refine ctlT ?_)
          (apply aend; (exact resT))
          · rw [hG]; exact ⟨q, rfl, rfl⟩
          · (exact stleT)
  (refine ctlT ?_)
  refine rgT ?_
  refine lo (lop_eql (E rfl) (E rfl)) rfl ?_
  refine lo (lop_assign (E rfl)) rfl ?_
  refine leT ?_
  (refine ctlT ?_)
  refine sw_cond rfl (fun g5 => ?_) (fun g5 => ?_)
  · (refine ctlT ?_)
    have hG : getR l = fin ⟨(c : Int), (rfU l 1000 n1 e1).1, 0, []⟩ (rfU l 1000 n1 e1).2.1 (rfU l 1000 n1 e1).2.2 := by unfold getR getF; rw [hB]; simp only [g1, g2, g5, if_true, if_false, Bool.false_eq_true]
    refine rgT ?_
    refine lo (lop_move (E rfl)) rfl ?_
    refine cw [(r11, .box 100 (rv l (n1) (e1)))] Try.call66 (rfr_u r11 l hl hlt 1000 n1 hn1 e1) rfl ?_ ?_ ?_
    · (exact argsleT)
    · (exact stleT)
    rintro _ σ' ⟨rfl, rfl⟩ -
    (apply rs_sto; (exact nflT))
    unfold rv
    refine z59 ?_
    apply stp; rfl; rfl; rfl; rfl; (exact sputT)
    refine leT ?_
    (refine ctlT ?_)
    refine rgT ?_
    refine lo (lop_move (E rfl)) rfl ?_
    refine z76 ?_
    refine z59 ?_
    refine z60 ?_
    refine lo (lop_neq (E rfl) (E rfl)) rfl ?_
    refine leT ?_
    (refine ctlT ?_)
    refine sw_cond rfl (fun ge => ?_) (fun ge => ?_)
    · unfold fin at hG
      rw [ge] at hG
      simp only [if_true] at hG
      (refine ctlT ?_)
      refine rgD [(0, true), (1, true), (2, true), (3, true), (4, true), (5, false), (6, true), (7, true)] ?_
      refine z94 ?_
      refine dlo rfl (lop_move (E rfl)) rfl ?_
      refine z77 ?_
      refine z73 ?_
      refine z74 ?_
      refine z95 ?_
      refine dlo rfl (lop_assign (E rfl)) rfl ?_
      refine dlo rfl (lop_assign (E rfl)) rfl ?_
      refine deT ?_
      refine an ?_
      refine sw_virt_box (ks := [0, 2, 3, 4, 5, 6, 7, 8, 26, 32, 33, 36, 41, 45, 48, 51, 53, 58, 65, 78, 91, 99, 103, 108, 117]) r2 3 3 1 (by decide) sgT rfl (by decide) fun qz hqz => ?_
      simp only [fresh_cons, fresh_nil, and_true] at hqz; (repeat (rcases hqz with ⟨_, hqz⟩))
      apply Exists.intro; apply And.intro; (exact ssetT)
      (refine ctlT ?_)
      (apply aend; (exact resT))
      · rw [hG]; exact ⟨qz, rfl, rfl⟩
      · (exact stleT)
    · unfold fin at hG
      rw [ge] at hG
      simp only [Bool.false_eq_true, if_false] at hG
      (refine ctlT ?_)
      refine rgD [(0, true), (1, true), (2, true), (3, true), (4, true), (5, false), (6, true), (7, true)] ?_
      refine z96 ?_
      refine dlo rfl (lop_move (E rfl)) rfl ?_
      refine z77 ?_
      refine z73 ?_
      refine z74 ?_
      refine z95 ?_
      refine dlo rfl (lop_assign (E rfl)) rfl ?_
      refine dlo rfl (lop_assign (E rfl)) rfl ?_
      refine deT ?_
      (refine ctlT ?_)
      (apply aend; (exact resT))
      · rw [hG]; exact ⟨q, rfl, rfl⟩
      · (exact stleT)
  (refine ctlT ?_)
  refine rgT ?_
  refine lo (lop_eql (E rfl) (E rfl)) rfl ?_
  refine lo (lop_assign (E rfl)) rfl ?_
  refine leT ?_
  (refine ctlT ?_)
  refine sw_cond rfl (fun g6 => ?_) (fun g6 => ?_)
  · (refine ctlT ?_)
    have hG : getR l = fin ⟨(c : Int), (rfU l 1000 n1 e1).1, 0, []⟩ (rdZ l (rfU l 1000 n1 e1).2.1 (rfU l 1000 n1 e1).2.2).1 (rdZ l (rfU l 1000 n1 e1).2.1 (rfU l 1000 n1 e1).2.2).2 := by unfold getR getF; rw [hB]; simp only [g1, g2, g5, g6, if_true, if_false, Bool.false_eq_true]
    have hn2 := rfU_bd (lim := 1000) (e := e1) hn1
    refine rgT ?_
    refine lo (lop_move (E rfl)) rfl ?_
    refine cw [(r11, .box 100 (rv l (n1) (e1)))] Try.call66 (rfr_u r11 l hl hlt 1000 n1 hn1 e1) rfl ?_ ?_ ?_
    · (exact argsleT)
    · (exact stleT)
    rintro _ σ' ⟨rfl, rfl⟩ -
    (apply rs_sto; (exact nflT))
    unfold rv
    refine z59 ?_
    apply stp; rfl; rfl; rfl; rfl; (exact sputT)
    refine leT ?_
    (refine ctlT ?_)
    generalize rfU l 1000 n1 e1 = u at *
    obtain ⟨a, n2, e2⟩ := u
    dsimp only at hn2 hG ⊢
    refine rgT ?_
    refine lo (lop_move (E rfl)) rfl ?_
    refine cw [(r11, .box 100 (rv l (n2) (e2)))] Try.call67 (rfr_nought r11 l hl hlt n2 hn2 e2) rfl ?_ ?_ ?_
    · (exact argsleT)
    · (exact stleT)
    rintro _ σ' ⟨rfl, rfl⟩ -
    (apply rs_sto; (exact nflT))
    unfold rv
    refine leT ?_
    (refine ctlT ?_)
    refine rgT ?_
    refine lo (lop_move (E rfl)) rfl ?_
    refine z76 ?_
    refine z59 ?_
    refine z60 ?_
    refine lo (lop_neq (E rfl) (E rfl)) rfl ?_
    refine leT ?_
    (refine ctlT ?_)
    refine sw_cond rfl (fun ge => ?_) (fun ge => ?_)
    · unfold fin at hG
      rw [ge] at hG
      simp only [if_true] at hG
      (refine ctlT ?_)
      refine rgD [(0, true), (1, true), (2, true), (3, true), (4, true), (5, false), (6, true), (7, true)] ?_
      refine z94 ?_
      refine dlo rfl (lop_move (E rfl)) rfl ?_
      refine z77 ?_
      refine z73 ?_
      refine z74 ?_
      refine z95 ?_
      refine dlo rfl (lop_assign (E rfl)) rfl ?_
      refine dlo rfl (lop_assign (E rfl)) rfl ?_
      refine deT ?_
      refine an ?_
      refine sw_virt_box (ks := [0, 2, 3, 4, 5, 6, 7, 8, 26, 32, 33, 36, 41, 45, 48, 51, 53, 58, 65, 78, 91, 99, 103, 108, 117]) r2 3 3 1 (by decide) sgT rfl (by decide) fun qz hqz => ?_
      simp only [fresh_cons, fresh_nil, and_true] at hqz; (repeat (rcases hqz with ⟨_, hqz⟩))
      apply Exists.intro; apply And.intro; (exact ssetT)
      (refine ctlT ?_)
      (apply aend; (exact resT))
      · rw [hG]; exact ⟨qz, rfl, rfl⟩
      · (exact stleT)
    · unfold fin at hG
      rw [ge] at hG
      simp only [Bool.false_eq_true, if_false] at hG
      (refine ctlT ?_)
      refine rgD [(0, true), (1, true), (2, true), (3, true), (4, true), (5, false), (6, true), (7, true)] ?_
      refine z96 ?_
      refine dlo rfl (lop_move (E rfl)) rfl ?_
      refine z77 ?_
      refine z73 ?_
      refine z74 ?_
      refine z95 ?_
      refine dlo rfl (lop_assign (E rfl)) rfl ?_
      refine dlo rfl (lop_assign (E rfl)) rfl ?_
      refine deT ?_
      (refine ctlT ?_)
      (apply aend; (exact resT))
      · rw [hG]; exact ⟨q, rfl, rfl⟩
      · (exact stleT)
  (refine ctlT ?_)
  refine rgT ?_
  refine lo (lop_eql (E rfl) (E rfl)) rfl ?_
  refine lo (lop_assign (E rfl)) rfl ?_
  refine leT ?_
  (refine ctlT ?_)
  refine sw_cond rfl (fun g7 => ?_) (fun g7 => ?_)
  · (refine ctlT ?_)
    have hG : getR l = fin ⟨(c : Int), (rfU l 1000 (rfL l (rfU l 50 n1 e1).1 (rfU l 50 n1 e1).2.1 (rfU l 50 n1 e1).2.2).2.1 (rfL l (rfU l 50 n1 e1).1 (rfU l 50 n1 e1).2.1 (rfU l 50 n1 e1).2.2).2.2).1, 0, (rfL l (rfU l 50 n1 e1).1 (rfU l 50 n1 e1).2.1 (rfU l 50 n1 e1).2.2).1⟩ (rfU l 1000 (rfL l (rfU l 50 n1 e1).1 (rfU l 50 n1 e1).2.1 (rfU l 50 n1 e1).2.2).2.1 (rfL l (rfU l 50 n1 e1).1 (rfU l 50 n1 e1).2.1 (rfU l 50 n1 e1).2.2).2.2).2.1 (rfU l 1000 (rfL l (rfU l 50 n1 e1).1 (rfU l 50 n1 e1).2.1 (rfU l 50 n1 e1).2.2).2.1 (rfL l (rfU l 50 n1 e1).1 (rfU l 50 n1 e1).2.1 (rfU l 50 n1 e1).2.2).2.2).2.2 := by unfold getR getF; rw [hB]; simp only [g1, g2, g5, g6, g7, if_true, if_false, Bool.false_eq_true]
    have hn2 := rfU_bd (lim := 50) (e := e1) hn1
    have hm50 := rfU_32 l 50 n1 e1
    refine rgT ?_
    refine lo (lop_move (E rfl)) rfl ?_
    refine cw [(r11, .box 100 (rv l (n1) (e1)))] Try.call66 (rfr_u r11 l hl hlt 50 n1 hn1 e1) rfl ?_ ?_ ?_
    · (exact argsleT)
    · (exact stleT)
    rintro _ σ' ⟨rfl, rfl⟩ -
    (apply rs_sto; (exact nflT))
    unfold rv
    refine lo (lop_assign (E rfl)) rfl ?_
    refine leT ?_
    (refine ctlT ?_)
    refine rgT ?_
    refine lo (lop_assign (E rfl)) rfl ?_
    refine leT ?_
    (refine ctlT ?_)
    generalize rfU l 50 n1 e1 = u at *
    obtain ⟨m, n2, e2⟩ := u
    dsimp only at hn2 hm50 hG ⊢
    refine lp (β := Nat × Nat) (fun b => ⟨[(2, .ptr r2 0), (5, .ptr r11 0), (6, .ptr r6 0), (7, .int .i64 m), (8, .int .i64 b.2)], [(b.1, .arr 3 1 ((rfL l b.2 n2 e2).1.map encI)), (r6, .box 24 [.int .i64 c, .int .i64 0, .int .i64 0, .own b.1 0 (rfL l b.2 n2 e2).1.length]), (r11, .box 100 (rv l (rfL l b.2 n2 e2).2.1 (rfL l b.2 n2 e2).2.2)), (r2, .box 24 [.int .i64 0, .int .i64 0, .int .i64 0, .ro 0 [] .nil])]⟩) (fun b => (Nq b.1 r6 ∧ Nq b.1 r11 ∧ Nq b.1 r2) ∧ b.2 ≤ m) (fun b => m - b.2) (q, 0) (by (exact sgoT)) ⟨⟨by (exact nqT), by (exact nqT), by (exact nqT)⟩, Nat.zero_le _⟩ ?_
    rintro ⟨p, j⟩ ⟨⟨hp1, hp2, hp3⟩, hj⟩
    dsimp only at hp1 hp2 hp3 hj ⊢
    have hn3 := rfL_bd (m := j) (e := e2) hn2
    have hlen := rfL_len (l := l) (m := j) (n := n2) (e := e2)
    have herr := rfL_err (l := l) (n := n2) (e := e2) hj
    have hstep : rfL l (j + 1) n2 e2 = (((rfL l j n2 e2).1 ++ [((rfU l 1000 (rfL l j n2 e2).2.1 (rfL l j n2 e2).2.2).1 : Int)]), (rfU l 1000 (rfL l j n2 e2).2.1 (rfL l j n2 e2).2.2).2) := rfl
    generalize hW : rfL l j n2 e2 = w at hn3 hlen hstep herr ⊢
    obtain ⟨L, n3, e3⟩ := w
    dsimp only at hn3 hlen hstep herr ⊢
    unfold rv
    (refine ctlT ?_)
    refine rgT ?_
    refine lo (lop_move (E rfl)) rfl ?_
    refine lo (lop_move (E rfl)) rfl ?_
    refine lo (lop_lss (E rfl) (E rfl)) rfl ?_
    refine lo (lop_move (E rfl)) rfl ?_
    refine z4 ?_
    refine z91 ?_
    refine z92 ?_
    refine z62 ?_
    refine z6 ?_
    refine z7 ?_
    refine leT ?_
    (refine ctlT ?_)
    refine sw_cond rfl (fun h1 => ?_) (fun h1 => ?_)
    · have hlt2 : j < m := by
        by_cases hc : (j : Int) < m
        · omega
        · rw [decide_eq_false hc] at h1; simp at h1
      (refine ctlT ?_)
      refine rgD [(0, true), (1, true), (2, true), (3, false), (4, false), (5, false), (6, true), (7, false)] ?_
      refine z73 ?_
      refine z74 ?_
      refine dlo rfl (lop_move (E rfl)) rfl ?_
      refine dcw [(r11, .box 100 (rv l n3 e3))] rfl Try.call66 (rfr_u r11 l hl hlt 1000 n3 hn3 e3) rfl ?_ ?_ ?_ ?_
      · (exact argsleT)
      · (exact stleT)
      · (exact hbtT)
      rintro _ σ' ⟨rfl, rfl⟩ -
      (apply rd_sto; (exact nflT))
      unfold rv
      generalize rfU l 1000 n3 e3 = u at hstep ⊢
      obtain ⟨v, n4, e4⟩ := u
      dsimp only at hstep ⊢
      refine z97 ?_; refine freshT fun r85 h85 => ?_; (repeat (rcases h85 with ⟨_, h85⟩))
      apply dap (es' := (L ++ [(v : Int)]).map encI) (len' := (L ++ [(v : Int)]).length); rfl; infer_instance; infer_instance; rfl; rfl; (exact sgT)
      · simp
      · exact .inr (.inr ⟨_, _, _, _, _, rfl, sgT, by simp, rfl⟩)
      · simp [encI]
      · simp
      · simp [maxLen]; omega
      · simp; omega
      · rfl
      · (exact hbtT)
      refine apnT fun r86 h86 => ?_; (repeat (rcases h86 with ⟨_, h86⟩))
      refine z73 ?_
      refine z95 ?_
      refine deT ?_
      (refine ctlT ?_)
      refine rgT ?_
      refine lo (lop_move (E rfl)) rfl ?_
      refine z17 ?_
      refine lo (lop_assign (E rfl)) rfl ?_
      refine leT ?_
      (refine ctlT ?_)
      refine ⟨(r86, j + 1), ⟨⟨by show Nq r86 r6; (exact nqT), by show Nq r86 r11; (exact nqT), by show Nq r86 r2; (exact nqT)⟩, hlt2⟩, by show m - (j + 1) < m - j; omega, ?_⟩
      dsimp only
      rw [hstep]
      (exact sgoT)
    by_cases he3 : (e3 != 0) = true
    · rw [herr he3] at hG
      dsimp only at hG
      rw [rfU_err he3] at hG
      dsimp only at hG
      unfold fin at hG
      rw [he3] at hG
      simp only [if_true] at hG
      (refine ctlT ?_)
      refine rgT ?_
      refine lo (lop_move (E rfl)) rfl ?_
      refine cw [(r11, .box 100 (rv l (n3) (e3)))] Try.call66 (rfr_u r11 l hl hlt 1000 n3 hn3 e3) rfl ?_ ?_ ?_
      · (exact argsleT)
      · (exact stleT)
      rintro _ σ' ⟨rfl, rfl⟩ -
      (apply rs_sto; (exact nflT))
      unfold rv
      rw [rfU_err he3]
      refine z59 ?_
      apply stp; rfl; rfl; rfl; rfl; (exact sputT)
      refine leT ?_
      (refine ctlT ?_)
      refine rgT ?_
      refine lo (lop_move (E rfl)) rfl ?_
      refine z76 ?_
      refine z59 ?_
      refine z60 ?_
      refine lo (lop_neq (E rfl) (E rfl)) rfl ?_
      refine leT ?_
      (refine ctlT ?_)
      refine sw_cond rfl (fun ge => ?_) (fun ge => ?_)
      · (refine ctlT ?_)
        refine rgD [(0, true), (1, true), (2, true), (3, true), (4, true), (5, false), (6, true), (7, true)] ?_
        refine z94 ?_
        refine dlo rfl (lop_move (E rfl)) rfl ?_
        refine z77 ?_
        refine z73 ?_
        refine z74 ?_
        refine z95 ?_
        refine dlo rfl (lop_assign (E rfl)) rfl ?_
        refine dlo rfl (lop_assign (E rfl)) rfl ?_
        refine deT ?_
        refine an ?_
        refine sw_virt_box (ks := [0, 2, 3, 4, 5, 6, 7, 8, 26, 32, 33, 36, 41, 45, 48, 51, 53, 58, 65, 78, 91, 99, 103, 108, 117]) r2 3 3 1 (by decide) sgT rfl (by decide) fun qz hqz => ?_
        simp only [fresh_cons, fresh_nil, and_true] at hqz; (repeat (rcases hqz with ⟨_, hqz⟩))
        apply Exists.intro; apply And.intro; (exact ssetT)
        (refine ctlT ?_)
        (apply aend; (exact resT))
        · rw [hG]; exact ⟨qz, rfl, rfl⟩
        · (exact stleT)
      · rw [he3] at ge; cases ge
    · obtain rfl : j = m := by
        by_cases hc : (j : Int) < m
        · rw [decide_eq_true hc, if_pos rfl] at h1
          exact absurd (by simpa using h1) he3
        · omega
      rw [hW] at hG
      dsimp only at hG
      (refine ctlT ?_)
      refine rgT ?_
      refine lo (lop_move (E rfl)) rfl ?_
      refine cw [(r11, .box 100 (rv l (n3) (e3)))] Try.call66 (rfr_u r11 l hl hlt 1000 n3 hn3 e3) rfl ?_ ?_ ?_
      · (exact argsleT)
      · (exact stleT)
      rintro _ σ' ⟨rfl, rfl⟩ -
      (apply rs_sto; (exact nflT))
      unfold rv
      refine z59 ?_
      apply stp; rfl; rfl; rfl; rfl; (exact sputT)
      refine leT ?_
      (refine ctlT ?_)
      refine rgT ?_
      refine lo (lop_move (E rfl)) rfl ?_
      refine z76 ?_
      refine z59 ?_
      refine z60 ?_
      refine lo (lop_neq (E rfl) (E rfl)) rfl ?_
      refine leT ?_
      (refine ctlT ?_)
      refine sw_cond rfl (fun ge => ?_) (fun ge => ?_)
      · unfold fin at hG
        rw [ge] at hG
        simp only [if_true] at hG
        (refine ctlT ?_)
        refine rgD [(0, true), (1, true), (2, true), (3, true), (4, true), (5, false), (6, true), (7, true)] ?_
        refine z94 ?_
        refine dlo rfl (lop_move (E rfl)) rfl ?_
        refine z77 ?_
        refine z73 ?_
        refine z74 ?_
        refine z95 ?_
        refine dlo rfl (lop_assign (E rfl)) rfl ?_
        refine dlo rfl (lop_assign (E rfl)) rfl ?_
        refine deT ?_
        refine an ?_
        refine sw_virt_box (ks := [0, 2, 3, 4, 5, 6, 7, 8, 26, 32, 33, 36, 41, 45, 48, 51, 53, 58, 65, 78, 91, 99, 103, 108, 117]) r2 3 3 1 (by decide) sgT rfl (by decide) fun qz hqz => ?_
        simp only [fresh_cons, fresh_nil, and_true] at hqz; (repeat (rcases hqz with ⟨_, hqz⟩))
        apply Exists.intro; apply And.intro; (exact ssetT)
        (refine ctlT ?_)
        (apply aend; (exact resT))
        · rw [hG]; exact ⟨qz, rfl, rfl⟩
        · (exact stleT)
      · unfold fin at hG
        rw [ge] at hG
        simp only [Bool.false_eq_true, if_false] at hG
        (refine ctlT ?_)
        refine rgD [(0, true), (1, true), (2, true), (3, true), (4, true), (5, false), (6, true), (7, true)] ?_
        refine z96 ?_
        refine dlo rfl (lop_move (E rfl)) rfl ?_
        refine z77 ?_
        refine z73 ?_
        refine z74 ?_
        refine z95 ?_
        refine dlo rfl (lop_assign (E rfl)) rfl ?_
        refine dlo rfl (lop_assign (E rfl)) rfl ?_
        refine deT ?_
        (refine ctlT ?_)
        (apply aend; (exact resT))
        · rw [hG]; exact ⟨p, rfl, rfl⟩
        · (exact stleT)
  (refine ctlT ?_)
  refine rgT ?_
  refine lo (lop_eql (E rfl) (E rfl)) rfl ?_
  refine lo (lop_assign (E rfl)) rfl ?_
  refine leT ?_
  (refine ctlT ?_)
  refine sw_cond rfl (fun g8 => ?_) (fun g8 => ?_)
  · (refine ctlT ?_)
    have hG : getR l = fin ⟨(c : Int), (rfU l 3 n1 e1).1, (rfU l 4294967295 (rfU l 3 n1 e1).2.1 (rfU l 3 n1 e1).2.2).1, []⟩ (rfU l 4294967295 (rfU l 3 n1 e1).2.1 (rfU l 3 n1 e1).2.2).2.1 (rfU l 4294967295 (rfU l 3 n1 e1).2.1 (rfU l 3 n1 e1).2.2).2.2 := by unfold getR getF; rw [hB]; simp only [g1, g2, g5, g6, g7, g8, if_true, if_false, Bool.false_eq_true]
    have hn2 := rfU_bd (lim := 3) (e := e1) hn1
    refine rgT ?_
    refine lo (lop_move (E rfl)) rfl ?_
    refine cw [(r11, .box 100 (rv l (n1) (e1)))] Try.call66 (rfr_u r11 l hl hlt 3 n1 hn1 e1) rfl ?_ ?_ ?_
    · (exact argsleT)
    · (exact stleT)
    rintro _ σ' ⟨rfl, rfl⟩ -
    (apply rs_sto; (exact nflT))
    unfold rv
    refine z59 ?_
    apply stp; rfl; rfl; rfl; rfl; (exact sputT)
    refine leT ?_
    (refine ctlT ?_)
    generalize rfU l 3 n1 e1 = u at *
    obtain ⟨a, n2, e2⟩ := u
    dsimp only at hn2 hG ⊢
    refine rgT ?_
    refine lo (lop_move (E rfl)) rfl ?_
    refine cw [(r11, .box 100 (rv l (n2) (e2)))] Try.call66 (rfr_u r11 l hl hlt 4294967295 n2 hn2 e2) rfl ?_ ?_ ?_
    · (exact argsleT)
    · (exact stleT)
    rintro _ σ' ⟨rfl, rfl⟩ -
    (apply rs_sto; (exact nflT))
    unfold rv
    refine z59 ?_
    apply stp; rfl; rfl; rfl; rfl; (exact sputT)
    refine leT ?_
    (refine ctlT ?_)
    refine rgT ?_
    refine lo (lop_move (E rfl)) rfl ?_
    refine z76 ?_
    refine z59 ?_
    refine z60 ?_
    refine lo (lop_neq (E rfl) (E rfl)) rfl ?_
    refine leT ?_
    (refine ctlT ?_)
    refine sw_cond rfl (fun ge => ?_) (fun ge => ?_)
    · unfold fin at hG
      rw [ge] at hG
      simp only [if_true] at hG
      (refine ctlT ?_)
      refine rgD [(0, true), (1, true), (2, true), (3, true), (4, true), (5, false), (6, true), (7, true)] ?_
      refine z94 ?_
      refine dlo rfl (lop_move (E rfl)) rfl ?_
      refine z77 ?_
      refine z73 ?_
      refine z74 ?_
      refine z95 ?_
      refine dlo rfl (lop_assign (E rfl)) rfl ?_
      refine dlo rfl (lop_assign (E rfl)) rfl ?_
      refine deT ?_
      refine an ?_
      refine sw_virt_box (ks := [0, 2, 3, 4, 5, 6, 7, 8, 26, 32, 33, 36, 41, 45, 48, 51, 53, 58, 65, 78, 91, 99, 103, 108, 117]) r2 3 3 1 (by decide) sgT rfl (by decide) fun qz hqz => ?_
      simp only [fresh_cons, fresh_nil, and_true] at hqz; (repeat (rcases hqz with ⟨_, hqz⟩))
      apply Exists.intro; apply And.intro; (exact ssetT)
      (refine ctlT ?_)
      (apply aend; (exact resT))
      · rw [hG]; exact ⟨qz, rfl, rfl⟩
      · (exact stleT)
    · unfold fin at hG
      rw [ge] at hG
      simp only [Bool.false_eq_true, if_false] at hG
      (refine ctlT ?_)
      refine rgD [(0, true), (1, true), (2, true), (3, true), (4, true), (5, false), (6, true), (7, true)] ?_
      refine z96 ?_
      refine dlo rfl (lop_move (E rfl)) rfl ?_
      refine z77 ?_
      refine z73 ?_
      refine z74 ?_
      refine z95 ?_
      refine dlo rfl (lop_assign (E rfl)) rfl ?_
      refine dlo rfl (lop_assign (E rfl)) rfl ?_
      refine deT ?_
      (refine ctlT ?_)
      (apply aend; (exact resT))
      · rw [hG]; exact ⟨q, rfl, rfl⟩
      · (exact stleT)
  (refine ctlT ?_)
  refine rgT ?_
  refine lo (lop_eql (E rfl) (E rfl)) rfl ?_
  refine lo (lop_assign (E rfl)) rfl ?_
  refine leT ?_
  (refine ctlT ?_)
  refine sw_cond rfl (fun g9 => ?_) (fun g9 => ?_)
  · (refine ctlT ?_)
    have hG : getR l = fin ⟨(c : Int), 0, 0, []⟩ (rdZ l n1 e1).1 (rdZ l n1 e1).2 := by unfold getR getF; rw [hB]; simp only [g1, g2, g5, g6, g7, g8, g9, if_true, if_false, Bool.false_eq_true]
    refine rgT ?_
    refine lo (lop_move (E rfl)) rfl ?_
    refine cw [(r11, .box 100 (rv l (n1) (e1)))] Try.call67 (rfr_nought r11 l hl hlt n1 hn1 e1) rfl ?_ ?_ ?_
    · (exact argsleT)
    · (exact stleT)
    rintro _ σ' ⟨rfl, rfl⟩ -
    (apply rs_sto; (exact nflT))
    unfold rv
    refine leT ?_
    (refine ctlT ?_)
    refine rgT ?_
    refine lo (lop_move (E rfl)) rfl ?_
    refine z76 ?_
    refine z59 ?_
    refine z60 ?_
    refine lo (lop_neq (E rfl) (E rfl)) rfl ?_
    refine leT ?_
    (refine ctlT ?_)
    refine sw_cond rfl (fun ge => ?_) (fun ge => ?_)
    · unfold fin at hG
      rw [ge] at hG
      simp only [if_true] at hG
      (refine ctlT ?_)
      refine rgD [(0, true), (1, true), (2, true), (3, true), (4, true), (5, false), (6, true), (7, true)] ?_
      refine z94 ?_
      refine dlo rfl (lop_move (E rfl)) rfl ?_
      refine z77 ?_
      refine z73 ?_
      refine z74 ?_
      refine z95 ?_
      refine dlo rfl (lop_assign (E rfl)) rfl ?_
      refine dlo rfl (lop_assign (E rfl)) rfl ?_
      refine deT ?_
      refine an ?_
      refine sw_virt_box (ks := [0, 2, 3, 4, 5, 6, 7, 8, 26, 32, 33, 36, 41, 45, 48, 51, 53, 58, 65, 78, 91, 99, 103, 108, 117]) r2 3 3 1 (by decide) sgT rfl (by decide) fun qz hqz => ?_
      simp only [fresh_cons, fresh_nil, and_true] at hqz; (repeat (rcases hqz with ⟨_, hqz⟩))
      apply Exists.intro; apply And.intro; (exact ssetT)
      (refine ctlT ?_)
      (apply aend; (exact resT))
      · rw [hG]; exact ⟨qz, rfl, rfl⟩
      · (exact stleT)
    · unfold fin at hG
      rw [ge] at hG
      simp only [Bool.false_eq_true, if_false] at hG
      (refine ctlT ?_)
      refine rgD [(0, true), (1, true), (2, true), (3, true), (4, true), (5, false), (6, true), (7, true)] ?_
      refine z96 ?_
      refine dlo rfl (lop_move (E rfl)) rfl ?_
      refine z77 ?_
      refine z73 ?_
      refine z74 ?_
      refine z95 ?_
      refine dlo rfl (lop_assign (E rfl)) rfl ?_
      refine dlo rfl (lop_assign (E rfl)) rfl ?_
      refine deT ?_
      (refine ctlT ?_)
      (apply aend; (exact resT))
      · rw [hG]; exact ⟨q, rfl, rfl⟩
      · (exact stleT)
  (refine ctlT ?_)
  refine rgT ?_
  refine lo (lop_eql (E rfl) (E rfl)) rfl ?_
  refine lo (lop_assign (E rfl)) rfl ?_
  refine leT ?_
  (refine ctlT ?_)
  refine sw_cond rfl (fun g10 => ?_) (fun g10 => ?_)
  · (refine ctlT ?_)
    have hG : getR l = fin ⟨(c : Int), (rfS l 32 n1 e1).1, 0, []⟩ (rfS l 32 n1 e1).2.1 (rfS l 32 n1 e1).2.2 := by unfold getR getF; rw [hB]; simp only [g1, g2, g5, g6, g7, g8, g9, g10, if_true, if_false, Bool.false_eq_true]
    refine rgT ?_
    refine lo (lop_move (E rfl)) rfl ?_
    refine cw [(r11, .box 100 (rv l (n1) (e1)))] Try.call68 (rfr_s r11 l hl hlt 32 (.inl rfl) n1 hn1 e1) rfl ?_ ?_ ?_
    · (exact argsleT)
    · (exact stleT)
    rintro _ σ' ⟨rfl, rfl⟩ -
    (apply rs_sto; (exact nflT))
    unfold rv
    refine z59 ?_
    apply stp; rfl; rfl; rfl; rfl; (exact sputT)
    refine leT ?_
    (refine ctlT ?_)
    refine rgT ?_
    refine lo (lop_move (E rfl)) rfl ?_
    refine z76 ?_
    refine z59 ?_
    refine z60 ?_
    refine lo (lop_neq (E rfl) (E rfl)) rfl ?_
    refine leT ?_
    (refine ctlT ?_)
    refine sw_cond rfl (fun ge => ?_) (fun ge => ?_)
    · unfold fin at hG
      rw [ge] at hG
      simp only [if_true] at hG
      (refine ctlT ?_)
      refine rgD [(0, true), (1, true), (2, true), (3, true), (4, true), (5, false), (6, true), (7, true)] ?_
      refine z94 ?_
      refine dlo rfl (lop_move (E rfl)) rfl ?_
      refine z77 ?_
      refine z73 ?_
      refine z74 ?_
      refine z95 ?_
      refine dlo rfl (lop_assign (E rfl)) rfl ?_
      refine dlo rfl (lop_assign (E rfl)) rfl ?_
      refine deT ?_
      refine an ?_
      refine sw_virt_box (ks := [0, 2, 3, 4, 5, 6, 7, 8, 26, 32, 33, 36, 41, 45, 48, 51, 53, 58, 65, 78, 91, 99, 103, 108, 117]) r2 3 3 1 (by decide) sgT rfl (by decide) fun qz hqz => ?_
      simp only [fresh_cons, fresh_nil, and_true] at hqz; (repeat (rcases hqz with ⟨_, hqz⟩))
      apply Exists.intro; apply And.intro; (exact ssetT)
      (refine ctlT ?_)
      (apply aend; (exact resT))
      · rw [hG]; exact ⟨qz, rfl, rfl⟩
      · (exact stleT)
    · unfold fin at hG
      rw [ge] at hG
      simp only [Bool.false_eq_true, if_false] at hG
      (refine ctlT ?_)
      refine rgD [(0, true), (1, true), (2, true), (3, true), (4, true), (5, false), (6, true), (7, true)] ?_
      refine z96 ?_
      refine dlo rfl (lop_move (E rfl)) rfl ?_
      refine z77 ?_
      refine z73 ?_
      refine z74 ?_
      refine z95 ?_
      refine dlo rfl (lop_assign (E rfl)) rfl ?_
      refine dlo rfl (lop_assign (E rfl)) rfl ?_
      refine deT ?_
      (refine ctlT ?_)
      (apply aend; (exact resT))
      · rw [hG]; exact ⟨q, rfl, rfl⟩
      · (exact stleT)
  (refine ctlT ?_)
  refine rgT ?_
  refine lo (lop_eql (E rfl) (E rfl)) rfl ?_
  refine lo (lop_assign (E rfl)) rfl ?_
  refine leT ?_
  (refine ctlT ?_)
  refine sw_cond rfl (fun g11 => ?_) (fun g11 => ?_)
  · (refine ctlT ?_)
    have hG : getR l = fin ⟨(c : Int), (rfS l 64 n1 e1).1, 0, []⟩ (rfS l 64 n1 e1).2.1 (rfS l 64 n1 e1).2.2 := by unfold getR getF; rw [hB]; simp only [g1, g2, g5, g6, g7, g8, g9, g10, g11, if_true, if_false, Bool.false_eq_true]
    refine rgT ?_
    refine lo (lop_move (E rfl)) rfl ?_
    refine cw [(r11, .box 100 (rv l (n1) (e1)))] Try.call68 (rfr_s r11 l hl hlt 64 (.inr rfl) n1 hn1 e1) rfl ?_ ?_ ?_
    · (exact argsleT)
    · (exact stleT)
    rintro _ σ' ⟨rfl, rfl⟩ -
    (apply rs_sto; (exact nflT))
    unfold rv
    refine z59 ?_
    apply stp; rfl; rfl; rfl; rfl; (exact sputT)
    refine leT ?_
    (refine ctlT ?_)
    refine rgT ?_
    refine lo (lop_move (E rfl)) rfl ?_
    refine z76 ?_
    refine z59 ?_
    refine z60 ?_
    refine lo (lop_neq (E rfl) (E rfl)) rfl ?_
    refine leT ?_
    (refine ctlT ?_)
    refine sw_cond rfl (fun ge => ?_) (fun ge => ?_)
    · unfold fin at hG
      rw [ge] at hG
      simp only [if_true] at hG
      (refine ctlT ?_)
      refine rgD [(0, true), (1, true), (2, true), (3, true), (4, true), (5, false), (6, true), (7, true)] ?_
      refine z94 ?_
      refine dlo rfl (lop_move (E rfl)) rfl ?_
      refine z77 ?_
      refine z73 ?_
      refine z74 ?_
      refine z95 ?_
      refine dlo rfl (lop_assign (E rfl)) rfl ?_
      refine dlo rfl (lop_assign (E rfl)) rfl ?_
      refine deT ?_
      refine an ?_
      refine sw_virt_box (ks := [0, 2, 3, 4, 5, 6, 7, 8, 26, 32, 33, 36, 41, 45, 48, 51, 53, 58, 65, 78, 91, 99, 103, 108, 117]) r2 3 3 1 (by decide) sgT rfl (by decide) fun qz hqz => ?_
      simp only [fresh_cons, fresh_nil, and_true] at hqz; (repeat (rcases hqz with ⟨_, hqz⟩))
      apply Exists.intro; apply And.intro; (exact ssetT)
      (refine ctlT ?_)
      (apply aend; (exact resT))
      · rw [hG]; exact ⟨qz, rfl, rfl⟩
      · (exact stleT)
    · unfold fin at hG
      rw [ge] at hG
      simp only [Bool.false_eq_true, if_false] at hG
      (refine ctlT ?_)
      refine rgD [(0, true), (1, true), (2, true), (3, true), (4, true), (5, false), (6, true), (7, true)] ?_
      refine z96 ?_
      refine dlo rfl (lop_move (E rfl)) rfl ?_
      refine z77 ?_
      refine z73 ?_
      refine z74 ?_
      refine z95 ?_
      refine dlo rfl (lop_assign (E rfl)) rfl ?_
      refine dlo rfl (lop_assign (E rfl)) rfl ?_
      refine deT ?_
      (refine ctlT ?_)
      (apply aend; (exact resT))
      · rw [hG]; exact ⟨q, rfl, rfl⟩
      · (exact stleT)
  (refine ctlT ?_)
  have hG : getR l = fin ⟨(c : Int), 0, 0, []⟩ n1 e1 := by unfold getR getF; rw [hB]; simp only [g1, g2, g5, g6, g7, g8, g9, g10, g11, if_true, if_false, Bool.false_eq_true]
  refine rgT ?_
  refine lo (lop_move (E rfl)) rfl ?_
  refine z76 ?_
  refine z59 ?_
  refine z60 ?_
  refine lo (lop_neq (E rfl) (E rfl)) rfl ?_
  refine leT ?_
  (refine ctlT ?_)
  refine sw_cond rfl (fun ge => ?_) (fun ge => ?_)
  · unfold fin at hG
    rw [ge] at hG
    simp only [if_true] at hG
    (refine ctlT ?_)
    refine rgD [(0, true), (1, true), (2, true), (3, true), (4, true), (5, false), (6, true), (7, true)] ?_
    refine z94 ?_
    refine dlo rfl (lop_move (E rfl)) rfl ?_
    refine z77 ?_
    refine z73 ?_
    refine z74 ?_
    refine z95 ?_
    refine dlo rfl (lop_assign (E rfl)) rfl ?_
    refine dlo rfl (lop_assign (E rfl)) rfl ?_
    refine deT ?_
    refine an ?_
    refine sw_virt_box (ks := [0, 2, 3, 4, 5, 6, 7, 8, 26, 32, 33, 36, 41, 45, 48, 51, 53, 58, 65, 78, 91, 99, 103, 108, 117]) r2 3 3 1 (by decide) sgT rfl (by decide) fun qz hqz => ?_
    simp only [fresh_cons, fresh_nil, and_true] at hqz; (repeat (rcases hqz with ⟨_, hqz⟩))
    apply Exists.intro; apply And.intro; (exact ssetT)
    (refine ctlT ?_)
    (apply aend; (exact resT))
    · rw [hG]; exact ⟨qz, rfl, rfl⟩
    · (exact stleT)
  · unfold fin at hG
    rw [ge] at hG
    simp only [Bool.false_eq_true, if_false] at hG
    (refine ctlT ?_)
    refine rgD [(0, true), (1, true), (2, true), (3, true), (4, true), (5, false), (6, true), (7, true)] ?_
    refine z96 ?_
    refine dlo rfl (lop_move (E rfl)) rfl ?_
    refine z77 ?_
    refine z73 ?_
    refine z74 ?_
    refine z95 ?_
    refine dlo rfl (lop_assign (E rfl)) rfl ?_
    refine dlo rfl (lop_assign (E rfl)) rfl ?_
    refine deT ?_
    (refine ctlT ?_)
    (apply aend; (exact resT))
    · rw [hG]; exact ⟨q, rfl, rfl⟩
    · (exact stleT)
end Go.Proofs.Ytkjfflabapeidaa
/-
  Plain: the two Gets answer alike.
-/
namespace Go.Proofs.Ytkjfflabapeidaa
open Go.RowKit Go.ChangeShapes Go.WideShapes Go.ChangeAt Go.Deep
set_option linter.unusedSimpArgs false
set_option linter.unusedVariables false

theorem rdU_err {l : List Nat} {lim : Int} {n : Nat} {e : Int} (h : (e != 0) = true) : rdU l lim n e = (0, n, e) := by unfold rdU; rw [if_pos h]
theorem ag_U (l : List Nat) (lim : Int) (n : Nat) (e : Int) : (rfU l lim n e).2.2 = (rdU l lim n e).2.2 ∧ ((rdU l lim n e).2.2 = 0 → rfU l lim n e = rdU l lim n e) := by
  by_cases he : (e != 0) = true
  · rw [rfU_err he, rdU_err he]; exact ⟨rfl, fun _ => rfl⟩
  · unfold rfU rdU
    rw [if_neg he, if_neg he]
    generalize (getU (l.drop n)).2.2 = g
    generalize decide (lim < ((getU (l.drop n)).1 : Int)) = b
    by_cases hg : g = 0
    · subst hg
      cases b <;> simp
    · have h1 : (g == 0) = false := by simpa using hg
      have h2 : (g != 0) = true := by simpa using hg
      simp [h1, h2, hg]
theorem ag_L (l : List Nat) : ∀ (m n : Nat) (e : Int), (rfL l m n e).2.2 = (rdL l m n e).2.2 ∧ ((rdL l m n e).2.2 = 0 → rfL l m n e = rdL l m n e)
  | 0, n, e => ⟨rfl, fun _ => rfl⟩
  | m + 1, n, e => by
    obtain ⟨i1, i2⟩ := ag_L l m n e
    rw [rfL, rdL]
    by_cases h0 : (rdL l m n e).2.2 = 0
    · rw [i2 h0]
      obtain ⟨k1, k2⟩ := ag_U l 1000 (rdL l m n e).2.1 (rdL l m n e).2.2
      refine ⟨k1, fun h => ?_⟩
      dsimp only at h ⊢
      rw [k2 h]
    · have h2 : ((rdL l m n e).2.2 != 0) = true := by simpa using h0
      have h3 : ((rfL l m n e).2.2 != 0) = true := by rw [i1]; exact h2
      rw [rdU_err h2, rfU_err h3]
      dsimp only
      exact ⟨i1, fun h => absurd h h0⟩
theorem fin_err {x y : Ins} {n m : Nat} {e : Int} (h : e ≠ 0) : fin x n e = fin y m e := by
  unfold fin
  rw [if_pos (by simpa using h), if_pos (by simpa using h)]
theorem rdB_err {l : List Nat} {n : Nat} {e : Int} (h : e ≠ 0) : rdB l n e = (0, n, e) := by unfold rdB; rw [if_pos (by simpa using h)]
theorem rdZ_err {l : List Nat} {n : Nat} {e : Int} (h : e ≠ 0) : rdZ l n e = (n, e) := by unfold rdZ; rw [rdB_err h, if_neg (by simp)]
theorem kindI_eq (c : Nat) : kindI c = if c = 64 then 0 else if c = 127 then 1 else if c = 126 then 2 else -1 := by
  by_cases h1 : c = 64
  · subst h1; decide
  by_cases h2 : c = 127
  · subst h2; decide
  by_cases h3 : c = 126
  · subst h3; decide
  rw [if_neg h1, if_neg h2, if_neg h3]
  unfold kindI idxN
  have : ([64, 127, 126] : List Int).findIdx? (· == (c : Int)) = none := by
    rw [List.findIdx?_eq_none_iff]
    intro x hx
    simp at hx
    rcases hx with rfl | rfl | rfl <;> simp <;> omega
  rw [this]
theorem one_K (l : List Nat) (n : Nat) (e : Int) : rfK l n e = rdK l n e := by
  unfold rfK rdK
  rw [kindI_eq]
  generalize (rdB l n e).1 = c
  generalize (rdB l n e).2.1 = n1
  generalize (rdB l n e).2.2 = e1
  by_cases h1 : c = 64
  · subst h1; simp
  by_cases h2 : c = 127
  · subst h2; simp
  by_cases h3 : c = 126
  · subst h3; simp
  have k1 : ((c : Int) == 64) = false := by simp; omega
  have k2 : ((c : Int) == 127) = false := by simp; omega
  have k3 : ((c : Int) == 126) = false := by simp; omega
  simp [h1, h2, h3, k1, k2, k3]
theorem fin_U {op b : Int} {L : List Int} (l : List Nat) (lim : Int) (n : Nat) (e : Int) : fin ⟨op, (rfU l lim n e).1, b, L⟩ (rfU l lim n e).2.1 (rfU l lim n e).2.2 = fin ⟨op, (rdU l lim n e).1, b, L⟩ (rdU l lim n e).2.1 (rdU l lim n e).2.2 := by
  obtain ⟨h1, h2⟩ := ag_U l lim n e
  by_cases h : (rdU l lim n e).2.2 = 0
  · rw [h2 h]
  · rw [h1]; exact fin_err h
theorem rdL_err (l : List Nat) (n : Nat) (e : Int) (h : (e != 0) = true) : ∀ m, (rdL l m n e).2 = (n, e)
  | 0 => rfl
  | m + 1 => by
    rw [rdL]
    show (rdU l 1000 (rdL l m n e).2.1 (rdL l m n e).2.2).2 = _
    rw [rdL_err l n e h m, rdU_err h]
theorem one_F (l : List Nat) (op : Int) (n : Nat) : getF l op n 0 = getT l op n 0 := by
  unfold getF getT
  rw [one_K]
  split
  · rfl
  split
  · exact fin_U l 1000 n 0
  split
  · obtain ⟨h1, h2⟩ := ag_U l 1000 n 0
    by_cases h : (rdU l 1000 n 0).2.2 = 0
    · rw [h2 h]
    · rw [h1, rdZ_err h, rdZ_err h]; exact fin_err h
  split
  · dsimp only
    obtain ⟨h1, h2⟩ := ag_U l 50 n 0
    by_cases h : (rdU l 50 n 0).2.2 = 0
    · rw [h2 h]
      generalize rdU l 50 n 0 = u
      obtain ⟨k1, k2⟩ := ag_L l u.1 u.2.1 u.2.2
      by_cases hk : (rdL l u.1 u.2.1 u.2.2).2.2 = 0
      · rw [k2 hk]; exact fin_U l 1000 _ _
      · have e1 : ((rdL l u.1 u.2.1 u.2.2).2.2 != 0) = true := by simpa using hk
        rw [rfU_err (by rw [k1]; exact e1), rdU_err e1]
        dsimp only
        rw [k1]
        exact fin_err hk
    · have e1 : ((rdU l 50 n 0).2.2 != 0) = true := by simpa using h
      have e2 : ((rfU l 50 n 0).2.2 != 0) = true := by rw [h1]; exact e1
      have k1 := rfL_err (l := l) (n := (rfU l 50 n 0).2.1) (e := (rfU l 50 n 0).2.2) (Nat.zero_le (rfU l 50 n 0).1) e2
      have k2 := rdL_err l (rdU l 50 n 0).2.1 (rdU l 50 n 0).2.2 e1 (rdU l 50 n 0).1
      rw [rfL] at k1
      have k3 : rfU l 1000 (rfL l (rfU l 50 n 0).1 (rfU l 50 n 0).2.1 (rfU l 50 n 0).2.2).2.1 (rfL l (rfU l 50 n 0).1 (rfU l 50 n 0).2.1 (rfU l 50 n 0).2.2).2.2 = (0, (rfU l 50 n 0).2.1, (rfU l 50 n 0).2.2) := by rw [k1]; exact rfU_err e2
      have k4 : rdU l 1000 (rdL l (rdU l 50 n 0).1 (rdU l 50 n 0).2.1 (rdU l 50 n 0).2.2).2.1 (rdL l (rdU l 50 n 0).1 (rdU l 50 n 0).2.1 (rdU l 50 n 0).2.2).2.2 = (0, (rdU l 50 n 0).2.1, (rdU l 50 n 0).2.2) := by rw [k2]; exact rdU_err e1
      rw [k3, k4]
      dsimp only
      rw [h1]
      exact fin_err h
  split
  · dsimp only
    obtain ⟨h1, h2⟩ := ag_U l 3 n 0
    by_cases h : (rdU l 3 n 0).2.2 = 0
    · rw [h2 h]
      generalize rdU l 3 n 0 = u
      obtain ⟨k1, k2⟩ := ag_U l 4294967295 u.2.1 u.2.2
      by_cases hk : (rdU l 4294967295 u.2.1 u.2.2).2.2 = 0
      · rw [k2 hk]
      · rw [k1]; exact fin_err hk
    · have e1 : ((rdU l 3 n 0).2.2 != 0) = true := by simpa using h
      rw [rfU_err (l := l) (lim := 4294967295) (n := (rfU l 3 n 0).2.1) (e := (rfU l 3 n 0).2.2) (by rw [h1]; exact e1), rdU_err (l := l) (lim := 4294967295) (n := (rdU l 3 n 0).2.1) (e := (rdU l 3 n 0).2.2) e1]
      dsimp only
      rw [h1]
      exact fin_err h
  split
  · rfl
  split
  · rfl
  split
  · rfl
  · rfl
theorem rdB0 (l : List Nat) : (rdB l 0 0).2.2 = 0 ∨ (rdB l 0 0).1 = 0 ∧ (rdB l 0 0).2.2 = 2 := by
  unfold rdB
  rw [if_neg (by simp)]
  split
  · exact .inr ⟨rfl, rfl⟩
  · exact .inl rfl
/-- the two Gets answer alike -/
theorem getR_eq (l : List Nat) : getR l = getP l := by
  unfold getR getP
  have h := rdB0 l
  generalize rdB l 0 0 = b at h ⊢
  obtain ⟨c, n, e⟩ := b
  dsimp only at h ⊢
  rcases h with rfl | ⟨rfl, rfl⟩
  · rw [one_F]
    by_cases hf : (formN (c : Int) == 0) = true
    · simp [hf]
    · simp [hf]
  · rfl
end Go.Proofs.Ytkjfflabapeidaa
/-
  Plain: an instruction's bytes are told as it.
-/
namespace Go.Proofs.Ytkjfflabapeidaa
open Go.RowKit Go.ChangeShapes Go.WideShapes Go.ChangeAt Go.Deep
set_option linter.unusedSimpArgs false
set_option linter.unusedVariables false

theorem drop_on {l p r : List Nat} {n : Nat} (h : l.drop n = p ++ r) : l.drop (n + p.length) = r := by
  rw [← List.drop_drop, h, List.drop_left]
theorem rdB_at {l r : List Nat} {n b : Nat} (h : l.drop n = b :: r) : rdB l n 0 = (b, n + 1, 0) := by
  have hn : n < l.length := by
    by_cases hc : n < l.length
    · exact hc
    · rw [List.drop_of_length_le (by omega)] at h; cases h
  have hb : l[n]! = b := by
    rw [getElem!_pos l n hn]
    rw [List.drop_eq_getElem_cons hn] at h
    exact (List.cons.inj h).1
  unfold rdB
  rw [if_neg (by simp), if_neg (by simp; omega), hb]
theorem rdZ_at {l r : List Nat} {n : Nat} (h : l.drop n = 0 :: r) : rdZ l n 0 = (n + 1, 0) := by
  unfold rdZ; rw [rdB_at h, if_neg (by simp)]
theorem rdU_at {l r : List Nat} {n v : Nat} {lim : Int} (h : l.drop n = uB v ++ r) (h1 : v < 4294967296) (h2 : (v : Int) ≤ lim) : rdU l lim n 0 = (v, n + (uB v).length, 0) := by
  unfold rdU
  rw [h, getU_uB h1, if_neg (by simp), if_neg (by simp), if_neg (by simp; omega)]
theorem rdS_at {l r : List Nat} {n bits : Nat} (hb : bits = 32 ∨ bits = 64) {v : Int} (h : l.drop n = sB v ++ r) (h1 : -9223372036854775808 ≤ v) (h2 : v ≤ 9223372036854775807) (h3 : bits = 32 → -2147483648 ≤ v ∧ v ≤ 2147483647) : rdS l bits n = (v, n + (sB v).length, 0) := by
  unfold rdS
  rw [h, getS_sB hb h1 h2 h3]
theorem rdL_at {l r : List Nat} {n : Nat} {L : List Int} (h : l.drop n = (L.flatMap fun z => uB z.toNat) ++ r) (hL : ∀ z ∈ L, 0 ≤ z ∧ z ≤ 1000) : ∀ m, m ≤ L.length → rdL l m n 0 = (L.take m, n + ((L.take m).flatMap fun z => uB z.toNat).length, 0)
  | 0, _ => by simp [rdL]
  | m + 1, hm => by
    have ih := rdL_at h hL m (by omega)
    obtain ⟨y, hy⟩ : ∃ y, L[m]? = some y := ⟨_, List.getElem?_eq_getElem (by omega)⟩
    obtain ⟨hy0, hy1⟩ := hL y (List.mem_of_getElem? hy)
    obtain ⟨z, rfl⟩ := Int.eq_ofNat_of_zero_le hy0
    have hd : l.drop (n + ((L.take m).flatMap fun z => uB z.toNat).length) = uB z ++ (((L.drop (m + 1)).flatMap fun z => uB z.toNat) ++ r) := by
      refine drop_on ?_
      rw [h, ← List.append_assoc, ← List.append_assoc]
      congr 1
      have : L = L.take m ++ (z : Int) :: L.drop (m + 1) := by
        rw [List.getElem?_eq_getElem (by omega)] at hy
        rw [← Option.some.inj hy, ← List.drop_eq_getElem_cons (by omega), List.take_append_drop]
      conv => lhs; rw [this]
      simp [List.flatMap_append]
    rw [rdL, ih]
    dsimp only
    rw [rdU_at hd (by omega) hy1, List.take_add_one, hy]
    simp [List.flatMap_append, Nat.add_assoc]
theorem may8 {x : Ins} (h : mayN x = true) (hf : (formN x.op == 8) = true) : -2147483648 ≤ x.a ∧ x.a ≤ 2147483647 := by
  rw [beq_iff_eq] at hf
  simp [mayN, hf, bt2_eq] at h
  omega
theorem may17 {x : Ins} (h : mayN x = true) (hf : (formN x.op == 1 || formN x.op == 7) = true) : x.a = 0 := by
  unfold mayN at h
  split at h
  · cases h
  · first | (rw [if_pos hf] at h; simpa using h) | simpa using h
theorem may_b {x : Ins} (h : mayN x = true) (hf : formN x.op ≠ 6) : x.b = 0 := by
  unfold mayN at h
  split at h
  · cases h
  · next hp => 
    have h6 : (formN x.op != 6) = true := by simpa using hf
    unfold preN at hp
    rw [if_pos h6] at hp
    split at hp
    · simp at hp; exact hp.2
    · simpa using hp
theorem may_l {x : Ins} (h : mayN x = true) (hf : formN x.op ≠ 4) : x.l = [] := by
  unfold mayN at h
  split at h
  · cases h
  · next hp =>
    have h4 : (formN x.op != 4) = true := by simpa using hf
    unfold preN at hp
    rw [if_pos h4] at hp
    split at hp
    · simp at hp
    · next hq => simpa using hq
/-- an instruction's bytes are told as it -/
theorem get_put {x : Ins} (hx : x.Ok) (h : mayN x = true) (rest : List Nat) : getP (putN x ++ rest) = (x, (putN x).length, 0) := by
  have f1 := may_op h
  have f2 := may2 h
  have f3 := may3 h
  have f4 := may4 h
  have f5 := may5 h
  have f6 := may6 h
  have f8 := may8 h
  have f17 := may17 h
  have fb := may_b h
  have fl := may_l h
  have f9 : -9223372036854775808 ≤ x.a ∧ x.a ≤ 9223372036854775807 := ⟨hx.2.2.1, hx.2.2.2.1⟩
  have f0 : (formN x.op == 0) = false := by
    by_cases h0 : formN x.op = 0
    · rw [may_none h0] at h; cases h
    · simpa using h0
  obtain ⟨op, a, b, L⟩ := x
  dsimp only at f1 f2 f3 f4 f5 f6 f8 f9 f17 fb fl f0
  obtain ⟨op, rfl⟩ := Int.eq_ofNat_of_zero_le f1.1
  have hp0 : putN ⟨(op : Int), a, b, L⟩ = op :: putT ⟨(op : Int), a, b, L⟩ := rfl
  obtain ⟨l, hl⟩ : ∃ l, l = putN ⟨(op : Int), a, b, L⟩ ++ rest := ⟨_, rfl⟩
  rw [← hl]
  have hB : rdB l 0 0 = (op, 1, 0) := rdB_at (r := putT ⟨(op : Int), a, b, L⟩ ++ rest) (by rw [hl, hp0]; rfl)
  have h1 : l.drop 1 = putT ⟨(op : Int), a, b, L⟩ ++ rest := by rw [hl, hp0]; rfl
  unfold getP
  rw [hB, hp0]
  dsimp only
  rw [f0]
  simp only [Bool.false_eq_true, if_false, bne_self_eq_false]
  unfold getT
  unfold putT at h1 ⊢
  by_cases g2 : (formN (op : Int) == 2) = true
  · simp only [g2, if_true] at h1 ⊢
    obtain ⟨k1, k2⟩ := f2 g2
    have e2 : formN (op : Int) = 2 := by simpa using g2
    obtain rfl := fb (by omega)
    obtain rfl := fl (by omega)
    have hk : rdK l 1 0 = (a, 2, 0) := by
      unfold rdK
      rw [rdB_at h1, kindI_eq]
      have : a = 0 ∨ a = 1 ∨ a = 2 := by omega
      rcases this with rfl | rfl | rfl <;> rfl
    rw [hk]
    rfl
  simp only [g2, Bool.false_eq_true, if_false] at h1 ⊢
  by_cases g3 : (formN (op : Int) == 3) = true
  · simp only [g3, if_true] at h1 ⊢
    obtain ⟨k1, k2⟩ := f3 g3
    have e2 : formN (op : Int) = 3 := by simpa using g3
    obtain rfl := fb (by omega)
    obtain rfl := fl (by omega)
    obtain ⟨a, rfl⟩ := Int.eq_ofNat_of_zero_le k1
    rw [Int.toNat_natCast] at h1 ⊢
    rw [rdU_at h1 (by omega) k2]
    simp [fin, Nat.add_comm]
  simp only [g3, Bool.false_eq_true, if_false] at h1 ⊢
  by_cases g5 : (formN (op : Int) == 5) = true
  · simp only [g5, if_true] at h1 ⊢
    obtain ⟨k1, k2⟩ := f5 g5
    have e2 : formN (op : Int) = 5 := by simpa using g5
    obtain rfl := fb (by omega)
    obtain rfl := fl (by omega)
    obtain ⟨a, rfl⟩ := Int.eq_ofNat_of_zero_le k1
    rw [Int.toNat_natCast] at h1 ⊢
    rw [List.append_assoc] at h1
    rw [rdU_at h1 (by omega) k2]
    dsimp only
    rw [rdZ_at (drop_on h1)]
    simp [fin]; omega
  simp only [g5, Bool.false_eq_true, if_false] at h1 ⊢
  by_cases g4 : (formN (op : Int) == 4) = true
  · simp only [g4, if_true] at h1 ⊢
    obtain ⟨⟨k1, k2⟩, k3, k4⟩ := f4 g4
    have e2 : formN (op : Int) = 4 := by simpa using g4
    obtain rfl := fb (by omega)
    obtain ⟨a, rfl⟩ := Int.eq_ofNat_of_zero_le k1
    rw [Int.toNat_natCast] at h1 ⊢
    rw [List.append_assoc, List.append_assoc] at h1
    have h2 := drop_on h1
    rw [rdU_at h1 (by omega) (by omega)]
    dsimp only
    rw [rdL_at h2 k4 L.length (Nat.le_refl _), List.take_length]
    dsimp only
    rw [rdU_at (drop_on h2) (by omega) k2]
    simp [fin]; omega
  simp only [g4, Bool.false_eq_true, if_false] at h1 ⊢
  have e4 : formN (op : Int) ≠ 4 := by simpa using g4
  obtain rfl := fl e4
  by_cases g6 : (formN (op : Int) == 6) = true
  · simp only [g6, if_true] at h1 ⊢
    obtain ⟨k1, k2, k3, k4⟩ := f6 g6
    obtain ⟨a, rfl⟩ := Int.eq_ofNat_of_zero_le k1
    obtain ⟨b, rfl⟩ := Int.eq_ofNat_of_zero_le k3
    rw [Int.toNat_natCast, Int.toNat_natCast] at h1 ⊢
    rw [List.append_assoc] at h1
    rw [rdU_at h1 (by omega) k2]
    dsimp only
    rw [rdU_at (drop_on h1) (by omega) k4]
    simp [fin]; omega
  simp only [g6, Bool.false_eq_true, if_false] at h1 ⊢
  have e6 : formN (op : Int) ≠ 6 := by simpa using g6
  obtain rfl := fb e6
  by_cases g7 : (formN (op : Int) == 7) = true
  · simp only [g7, if_true] at h1 ⊢
    obtain rfl := f17 (by rw [g7]; simp)
    rw [rdZ_at h1]
    simp [fin]
  simp only [g7, Bool.false_eq_true, if_false] at h1 ⊢
  by_cases g8 : (formN (op : Int) == 8) = true
  · simp only [g8, Bool.true_or, if_true] at h1 ⊢
    obtain ⟨k1, k2⟩ := f8 g8
    rw [rdS_at (.inl rfl) h1 f9.1 f9.2 (fun _ => ⟨k1, k2⟩)]
    simp [fin, Nat.add_comm]
  simp only [g8, Bool.false_eq_true, if_false] at h1 ⊢
  by_cases g9 : (formN (op : Int) == 9) = true
  · simp only [g9, Bool.or_true, if_true] at h1 ⊢
    rw [rdS_at (.inr rfl) h1 f9.1 f9.2 (fun hc => by cases hc)]
    simp [fin, Nat.add_comm]
  simp only [g9, Bool.or_false, Bool.false_eq_true, if_false] at h1 ⊢
  have ha : a = 0 := by
    by_cases g1 : formN (op : Int) = 1
    · exact f17 (by rw [g1]; rfl)
    · exfalso
      have : mayN ⟨(op : Int), a, 0, []⟩ = false := by
        unfold mayN
        have g1' : (formN (op : Int) == 1) = false := by simpa using g1
        simp [g1', g2, g3, g4, g5, g6, g7, g8, g9]
      rw [this] at h; cases h
  subst ha
  simp [fin]
end Go.Proofs.Ytkjfflabapeidaa
/-
  What the statements of instructions call: tells.
-/
namespace Go.Proofs.Ytkjfflabapeidaa
open Go.RowKit Go.ChangeShapes Go.WideShapes Go.ChangeAt Go.Deep
set_option linter.unusedSimpArgs false
set_option linter.unusedVariables false
attribute [local irreducible] SW RS RD AThen ABlock

theorem eqN_self (x : Ins) : eqN x x = true := by unfold eqN; simp
set_option maxRecDepth 100000 in
theorem law_tells (l : List Nat) (hl : l.length ≤ 1000000) (hlt : ∀ x ∈ l, x < 256) : SCall Try.prog 26 [.ro 1 (l.map encU) .any] [] (fun x σ => x = .bool true ∧ σ = []) := by
  refine scall_of (n := 34) (ks := [0, 2, 3, 4, 5, 6, 7, 8]) Try.func26 rfl rfl (Nat.le_of_ble_eq_true rfl) ?_
  have h1 := instr_get l hl hlt
  have h2 := ref_getInstr l hl hlt
  rw [getR_eq] at h2
  generalize getP l = g at h1 h2
  obtain ⟨x, n, e⟩ := g
  (refine ctlT ?_)
  refine rgT ?_
  refine lo (lop_assign (E rfl)) rfl ?_
  refine leT ?_
  (refine ctlT ?_)
  refine rgT ?_
  refine lo (lop_move (E rfl)) rfl ?_
  refine cw [] Try.call25 h1 rfl ?_ ?_ ?_
  · (exact argsleT)
  · (exact stleT)
  rintro _ σ' ⟨q, rfl, rfl⟩ hq
  replace hq := cnewT hq; (repeat (rcases hq with ⟨_, hq⟩))
  (apply rs_sto; (exact nflT))
  unfold io
  refine lo (lop_move (E rfl)) rfl ?_
  refine lo (lop_extract (E rfl) rfl) rfl ?_
  refine lo (lop_extract (E rfl) rfl) rfl ?_
  refine lo (lop_extract (E rfl) rfl) rfl ?_
  apply al; rfl; (exact zcT); refine freshT fun r3 h3 => ?_; (repeat (rcases h3 with ⟨_, h3⟩))
  apply stp; rfl; rfl; rfl; rfl; (exact sputT)
  refine lo (lop_assign (E rfl)) rfl ?_
  refine lo (lop_assign (E rfl)) rfl ?_
  refine leT ?_
  (refine ctlT ?_)
  refine rgT ?_
  refine lo (lop_move (E rfl)) rfl ?_
  refine cw [] Try.call55 h2 rfl ?_ ?_ ?_
  · (exact argsleT)
  · (exact stleT)
  rintro _ σ' ⟨p, rfl, rfl⟩ hp
  replace hp := cnewT hp; (repeat (rcases hp with ⟨_, hp⟩))
  (apply rs_sto; (exact nflT))
  unfold io
  refine lo (lop_move (E rfl)) rfl ?_
  refine lo (lop_extract (E rfl) rfl) rfl ?_
  refine lo (lop_extract (E rfl) rfl) rfl ?_
  refine lo (lop_extract (E rfl) rfl) rfl ?_
  apply al; rfl; (exact zcT); refine freshT fun r6 h6 => ?_; (repeat (rcases h6 with ⟨_, h6⟩))
  apply stp; rfl; rfl; rfl; rfl; (exact sputT)
  refine lo (lop_assign (E rfl)) rfl ?_
  refine lo (lop_assign (E rfl)) rfl ?_
  refine leT ?_
  (refine ctlT ?_)
  refine rgT ?_
  refine z99 ?_
  refine z99 ?_
  refine pu [q, p] Try.call22 (ref_eqInstr .any .any x x) rfl ?_ nofT ?_
  · unfold iv; (exact pargsT)
  rw [eqN_self]
  refine lo (lop_move (E rfl)) rfl ?_
  refine z4 ?_
  refine z4 ?_
  refine z70 ?_
  refine z7 ?_
  refine lo (lop_move (E rfl)) rfl ?_
  refine z4 ?_
  refine z4 ?_
  refine z70 ?_
  refine z7 ?_
  refine lo (lop_assign (E rfl)) rfl ?_
  refine leT ?_
  (refine ctlT ?_)
  (apply aend; (exact resT))
  · refine ⟨?_, rfl⟩
    simp [resAV]
  · (exact stleT)
end Go.Proofs.Ytkjfflabapeidaa
/-
  What the statements of instructions call: Put onto nothing, Short, Cut.
-/
namespace Go.Proofs.Ytkjfflabapeidaa
open Go.RowKit Go.ChangeShapes Go.WideShapes Go.ChangeAt Go.Deep
set_option linter.unusedSimpArgs false
set_option linter.unusedVariables false
attribute [local irreducible] SW RS RD AThen ABlock

theorem nil_put (k : Rk) (x : Ins) (hx : x.Ok) (hm : mayN x = true) : SCall Try.prog 23 [.ro 0 [] .nil, .agg (iv k x)] []
    (fun y σ => ∃ r, y = .own r 0 (putN x).length ∧ σ = [(r, .arr 5 1 ((putN x).map encU))]) :=
  scall_nil (e := 5) (sz := 1) (by decide) fun q _ => instr_put q [] (by simp) k x hx hm
set_option maxRecDepth 100000 in
theorem law_short (l : List Nat) (hl : l.length ≤ maxLen) (n : Nat) : SCall Try.prog 18 [.ro 1 (l.map encU) .any, .int .i64 n] [] (fun x σ => x = .ro 1 ((l.take n).map encU) .any ∧ σ = []) := by
  unfold maxLen at hl
  refine scall_of (n := 13) (ks := [0, 1, 4, 8]) Try.func18 rfl rfl (Nat.le_of_ble_eq_true rfl) ?_
  (refine ctlT ?_)
  refine rgT ?_
  refine lo (lop_assign (E rfl)) rfl ?_
  refine leT ?_
  (refine ctlT ?_)
  refine rgT ?_
  refine lo (lop_move (E rfl)) rfl ?_
  refine z14 ?_
  refine lo (lop_move (E rfl)) rfl ?_
  refine lo (lop_gtr (E rfl) (E rfl)) rfl ?_
  refine leT ?_
  (refine ctlT ?_)
  refine sw_cond rfl (fun g1 => ?_) (fun g1 => ?_)
  · (refine ctlT ?_)
    have h2 := of_decide_eq_true g1
    refine rgT ?_
    refine lo (lop_move (E rfl)) rfl ?_
    refine lo (lop_move (E rfl)) rfl ?_
    refine z100 ?_
    refine lo (lop_assign (E rfl)) rfl ?_
    refine leT ?_
    (refine ctlT ?_)
    (apply aend; (exact resT))
    · (first | (have h1 := of_decide_eq_false g1; rw [List.take_of_length_le (by omega)]; exact ⟨rfl, rfl⟩) | (rw [List.map_take]; exact ⟨by simp [resAV], rfl⟩))
    · (exact stleT)
  (refine ctlT ?_)
  refine rgT ?_
  refine lo (lop_move (E rfl)) rfl ?_
  refine lo (lop_assign (E rfl)) rfl ?_
  refine leT ?_
  (refine ctlT ?_)
  (apply aend; (exact resT))
  · (first | (have h1 := of_decide_eq_false g1; rw [List.take_of_length_le (by omega)]; exact ⟨rfl, rfl⟩) | (rw [List.map_take]; exact ⟨by simp [resAV], rfl⟩))
  · (exact stleT)
def cutN (x : Ins) : Ins := ⟨x.op, x.a, x.b, x.l.take 55⟩
set_option maxRecDepth 100000 in
theorem law_cut (x : Ins) (hx : x.l.length ≤ maxLen) : SCall Try.prog 17 [.agg (iv .any x)] [] (fun y σ => ∃ q, y = .agg (io q (cutN x)) ∧ σ = [(q, .arr 3 1 ((cutN x).l.map encI))]) := by
  unfold maxLen at hx
  refine scall_of (n := 34) (ks := [0, 1, 2, 3, 4, 20]) Try.func17 rfl rfl (Nat.le_of_ble_eq_true rfl) ?_
  unfold iv
  (refine ctlT ?_)
  refine rgT ?_
  apply bx; rfl; rfl; (exact zcT); rfl; refine freshT fun r1 h1 => ?_; (repeat (rcases h1 with ⟨_, h1⟩))
  apply al; rfl; (exact zcT); refine freshT fun r2 h2 => ?_; (repeat (rcases h2 with ⟨_, h2⟩))
  refine leT ?_
  (refine ctlT ?_)
  refine rgT ?_
  refine z59 ?_
  refine z60 ?_
  refine z59 ?_
  refine z60 ?_
  refine z59 ?_
  refine z60 ?_
  refine z93 ?_
  apply al; rfl; (exact zcT); refine freshT fun r3 h3 => ?_; (repeat (rcases h3 with ⟨_, h3⟩))
  apply stp; rfl; rfl; rfl; rfl; (exact sputT)
  refine leT ?_
  refine an ?_
  refine sw_virt_box (ks := [0, 1, 2, 3, 4, 20]) r3 3 3 1 (by decide) sgT rfl (by decide) fun q hq => ?_
  simp only [fresh_cons, fresh_nil, and_true] at hq; (repeat (rcases hq with ⟨_, hq⟩))
  apply Exists.intro; apply And.intro; (exact ssetT)
  (refine ctlT ?_)
  refine rgT ?_
  refine lo (lop_assign (E rfl)) rfl ?_
  refine leT ?_
  (refine ctlT ?_)
  refine lp (β := Nat × Nat) (fun b => ⟨[(1, .ptr r1 0), (2, .ptr r2 0), (3, .ptr r3 0), (4, .int .i64 b.2)], [(b.1, .arr 3 1 ((x.l.take b.2).map encI)), (r3, .box 24 [.int .i64 x.op, .int .i64 x.a, .int .i64 x.b, .own b.1 0 (x.l.take b.2).length]), (r2, .box 24 [.int .i64 0, .int .i64 0, .int .i64 0, .ro 0 [] .nil]), (r1, .box 24 [.int .i64 x.op, .int .i64 x.a, .int .i64 x.b, .ro 1 (x.l.map encI) .any])]⟩) (fun b => (Nq b.1 r3 ∧ Nq b.1 r2 ∧ Nq b.1 r1) ∧ b.2 ≤ x.l.length ∧ b.2 ≤ 55) (fun b => 55 - b.2) (q, 0) (by (exact sgoT)) ⟨⟨by (exact nqT), by (exact nqT), by (exact nqT)⟩, by omega, by omega⟩ ?_
  rintro ⟨p, j⟩ ⟨⟨hp1, hp2, hp3⟩, hj, hj5⟩
  dsimp only at hp1 hp2 hp3 hj hj5 ⊢
  (refine ctlT ?_)
  refine rgT ?_
  refine lo (lop_move (E rfl)) rfl ?_
  refine z59 ?_
  refine z60 ?_
  refine z14 ?_
  refine lo (lop_lss (E rfl) (E rfl)) rfl ?_
  refine lo (lop_move (E rfl)) rfl ?_
  refine z4 ?_
  refine z69 ?_
  refine z7 ?_
  refine leT ?_
  (refine ctlT ?_)
  refine sw_cond rfl (fun h1 => ?_) (fun h1 => ?_)
  · have hlt : j < x.l.length ∧ j < 55 := by simp at h1; omega
    obtain ⟨hlt, hlt5⟩ := hlt
    obtain ⟨y, hy⟩ : ∃ y, x.l[j]? = some y := ⟨_, List.getElem?_eq_getElem hlt⟩
    have hn : x.l.take (j + 1) = x.l.take j ++ [y] := by rw [List.take_add_one, hy]; rfl
    have hlj : (x.l.take j).length = j := by simp; omega
    (refine ctlT ?_)
    refine rgD [(0, true), (1, true), (2, true), (3, true), (4, true), (5, true), (6, true), (7, false), (8, false), (9, true), (10, false)] ?_
    refine z73 ?_
    refine z74 ?_
    refine z73 ?_
    refine z74 ?_
    refine dlo rfl (lop_move (E rfl)) rfl ?_
    refine z56 ?_
    refine z57 ?_
    refine z97 ?_; refine freshT fun r30 h30 => ?_; (repeat (rcases h30 with ⟨_, h30⟩))
    apply dap (es' := (x.l.take j ++ [y]).map encI) (len' := (x.l.take j ++ [y]).length); rfl; infer_instance; infer_instance; rfl; rfl; (exact sgT)
    · simp
    · exact .inr (.inr ⟨_, _, _, _, _, rfl, sgT, by simp, rfl⟩)
    · simp [encI]
    · simp
    · simp [maxLen]; omega
    · simp; omega
    · rfl
    · (exact hbtT)
    refine apnT fun r31 h31 => ?_; (repeat (rcases h31 with ⟨_, h31⟩))
    refine z73 ?_
    refine z95 ?_
    refine deT ?_
    (refine ctlT ?_)
    refine rgT ?_
    refine lo (lop_move (E rfl)) rfl ?_
    refine z17 ?_
    refine lo (lop_assign (E rfl)) rfl ?_
    refine leT ?_
    (refine ctlT ?_)
    refine ⟨(r31, j + 1), ⟨⟨by show Nq r31 r3; (exact nqT), by show Nq r31 r2; (exact nqT), by show Nq r31 r1; (exact nqT)⟩, hlt, hlt5⟩, by show 55 - (j + 1) < 55 - j; omega, ?_⟩
    dsimp only
    rw [hn]
    (exact sgoT)
  · have he : x.l.take j = x.l.take 55 := by
      have : j = x.l.length ∨ j = 55 := by simp at h1; omega
      rcases this with rfl | rfl
      · rw [List.take_of_length_le (Nat.le_refl _), List.take_of_length_le (by omega)]
      · rfl
    rw [he]
    (refine ctlT ?_)
    refine rgT ?_
    refine z99 ?_
    apply stp; rfl; rfl; rfl; rfl; (exact sputT)
    refine leT ?_
    (refine ctlT ?_)
    refine aend_n ?_
    (apply aend; (exact resT))
    · exact ⟨p, rfl, rfl⟩
    · (exact stleT)
end Go.Proofs.Ytkjfflabapeidaa
/-
  What the statements of instructions call: begun.
-/
namespace Go.Proofs.Ytkjfflabapeidaa
open Go.RowKit Go.ChangeShapes Go.WideShapes Go.ChangeAt Go.Deep
set_option linter.unusedSimpArgs false
set_option linter.unusedVariables false
attribute [local irreducible] SW RS RD AThen ABlock

theorem bytes_noF {l : List Nat} : ∀ e ∈ l.map encU, ∀ x ∈ e, NoF x := by
  intro e he x hx
  obtain ⟨n, -, rfl⟩ := List.mem_map.1 he
  simp [encU] at hx
  subst hx
  exact NoF.int
theorem ints_noF {l : List Int} : ∀ e ∈ l.map encI, ∀ x ∈ e, NoF x := by
  intro e he x hx
  obtain ⟨n, -, rfl⟩ := List.mem_map.1 he
  simp [encI] at hx
  subst hx
  exact NoF.int
theorem get_noF {q n : Nat} {x : Ins} {e : Int} : NoF (.tup [.agg (io q x), .int .i64 n, .int .i64 e]) ∧ ∀ p ∈ [(q, Ent.arr 3 1 (x.l.map encI))], ENoF p.2 := by
  refine ⟨?_, ?_⟩
  · unfold io; exact nofT
  · simp only [List.mem_singleton, forall_eq]
    exact ints_noF
def x5 : Ins := ⟨14, 2, 0, [0, 300]⟩
theorem x5_ok : x5.Ok := by unfold x5 Ins.Ok; simp
theorem x5_may : mayN x5 = true := by decide
theorem x5_put : putN x5 = [14, 2, 0, 172, 2, 2] := by
  have h1 : uB 2 = [2] := uB_lo (by decide)
  have h2 : uB 0 = [0] := uB_lo (by decide)
  have h3 : uB 300 = [172, 2] := by rw [uB_hi (by decide), show 300 / 128 = 2 by decide, h1]
  have hf : formN 14 = 4 := by decide
  simp [putN, putT, x5, hf, h1, h2, h3]
theorem get_a : getP [65, 128] = (ins0, 0, 2) := rfl
theorem get_b : getP [6] = (ins0, 0, 1) := rfl
theorem get_c : getP ([14, 2, 0, 172, 2, 2] ++ [9]) = (x5, 6, 0) := by
  have := get_put x5_ok x5_may [9]
  rw [x5_put] at this
  exact this
set_option maxRecDepth 100000 in
theorem law_begun5 : SCall Try.prog 16 [] [] (fun x σ => x = .bool true ∧ σ = []) := by
  refine scall_of (n := 76) (ks := [0, 1, 2, 3, 4, 5, 8, 11]) Try.func16 rfl rfl (Nat.le_of_ble_eq_true rfl) ?_
  (refine ctlT ?_)
  refine rgT ?_
  refine lo (lop_assign (E rfl)) rfl ?_
  refine leT ?_
  (refine ctlT ?_)
  refine rgT ?_
  refine z1 ?_; refine freshT fun r12 h12 => ?_; (repeat (rcases h12 with ⟨_, h12⟩))
  refine z93 ?_
  apply al; rfl; (exact zcT); refine freshT fun r1 h1 => ?_; (repeat (rcases h1 with ⟨_, h1⟩))
  apply stp; rfl; rfl; rfl; rfl; (exact sputT)
  refine leT ?_
  (refine ctlT ?_)
  rw [show ([[.int .i64 0], [.int .i64 300]] : List (List AV)) = [0, 300].map encI from rfl]
  refine rgT ?_
  refine z99 ?_
  refine cl [r12] Try.call23 (nil_put .any x5 x5_ok x5_may) rfl ?_ ?_ ?_
  · unfold iv x5; (exact bargsT)
  · rintro x σ' ⟨r, rfl, rfl⟩
    refine ⟨NoF.own, ?_⟩
    simp only [List.mem_singleton, forall_eq]
    exact bytes_noF
  rintro _ σ' ⟨b, rfl, rfl⟩ hb
  replace hb := lnewT hb; (repeat (rcases hb with ⟨_, hb⟩))
  rw [x5_put]
  (apply rs_sto; (exact nflT))
  refine lo (lop_assign (E rfl)) rfl ?_
  refine leT ?_
  (refine ctlT ?_)
  rw [show [encU 14, encU 2, encU 0, encU 172, encU 2, encU 2] = [14, 2, 0, 172, 2, 2].map encU from rfl, show [encI 0, encI 300] = [0, 300].map encI from rfl]
  refine rgT ?_
  refine lo (lop_move (E rfl)) rfl ?_
  refine rs_heavy (hop_append_new (e := 5) (sz := 1) (ys := [14, 2, 0, 172, 2, 2].map encU) (by decide) rfl (x := .const (.slice none 0 0)) (z := 0) (k := .nil) rfl (by decide) (.inr (.inr ⟨_, _, _, _, _, rfl, sgT, by simp, rfl⟩)) (by simp) (lt_ble rfl) fun r18 h18 => ?_)
  simp only [fresh_cons, fresh_nil, and_true] at h18; (repeat (rcases h18 with ⟨_, h18⟩))
  refine z1 ?_; refine freshT fun r19 h19 => ?_; (repeat (rcases h19 with ⟨_, h19⟩))
  apply ap (es' := ([14, 2, 0, 172, 2, 2] ++ [9]).map encU) (len' := ([14, 2, 0, 172, 2, 2] ++ [9]).length); rfl; rfl; (exact sgT)
  · simp
  · exact .inr (.inr ⟨_, _, _, _, _, rfl, sgT, by simp, rfl⟩)
  · first | (simp [encU]; done) | (simp only [List.drop_zero, List.map_append]; congr 1; exact List.take_of_length_le (by simp))
  · simp; try omega
  · simp [maxLen]; try omega
  · simp; try omega
  · rfl
  refine apnT fun r20 h20 => ?_; (repeat (rcases h20 with ⟨_, h20⟩))

  refine cl [r20] Try.call25 (instr_get ([14, 2, 0, 172, 2, 2] ++ [9]) (by decide) (by decide)) rfl ?_ ?_ ?_
  · (exact bargsT)
  · rintro x σ' ⟨q, rfl, rfl⟩
    exact get_noF
  rw [get_c]
  rintro _ σ' ⟨q, rfl, rfl⟩ hq
  replace hq := lnewT hq; (repeat (rcases hq with ⟨_, hq⟩))
  (apply rs_sto; (exact nflT))
  unfold io x5
  refine lo (lop_move (E rfl)) rfl ?_
  refine lo (lop_extract (E rfl) rfl) rfl ?_
  refine lo (lop_extract (E rfl) rfl) rfl ?_
  refine lo (lop_extract (E rfl) rfl) rfl ?_
  apply al; rfl; (exact zcT); refine freshT fun r3 h3 => ?_; (repeat (rcases h3 with ⟨_, h3⟩))
  apply stp; rfl; rfl; rfl; rfl; (exact sputT)
  refine lo (lop_assign (E rfl)) rfl ?_
  refine lo (lop_assign (E rfl)) rfl ?_
  refine leT ?_
  (refine ctlT ?_)
  refine rgT ?_
  refine z1 ?_; refine freshT fun r26 h26 => ?_; (repeat (rcases h26 with ⟨_, h26⟩))
  rw [show ([[.int .u8 65], [.int .u8 128]] : List (List AV)) = [65, 128].map encU from rfl]
  refine cl [r26] Try.call25 (instr_get [65, 128] (by decide) (by decide)) rfl ?_ ?_ ?_
  · (exact bargsT)
  · rintro x σ' ⟨q, rfl, rfl⟩
    exact get_noF
  rw [get_a]
  rintro _ σ' ⟨q2, rfl, rfl⟩ hq2
  replace hq2 := lnewT hq2; (repeat (rcases hq2 with ⟨_, hq2⟩))
  (apply rs_sto; (exact nflT))
  unfold io ins0
  refine lo (lop_move (E rfl)) rfl ?_
  refine lo (lop_extract (E rfl) rfl) rfl ?_
  refine lo (lop_extract (E rfl) rfl) rfl ?_
  refine lo (lop_extract (E rfl) rfl) rfl ?_
  apply al; rfl; (exact zcT); refine freshT fun r6 h6 => ?_; (repeat (rcases h6 with ⟨_, h6⟩))
  apply stp; rfl; rfl; rfl; rfl; (exact sputT)
  refine lo (lop_assign (E rfl)) rfl ?_
  refine lo (lop_assign (E rfl)) rfl ?_
  refine leT ?_
  (refine ctlT ?_)
  refine rgT ?_
  refine z1 ?_; refine freshT fun r32 h32 => ?_; (repeat (rcases h32 with ⟨_, h32⟩))
  rw [show ([[.int .u8 6]] : List (List AV)) = [6].map encU from rfl]
  refine cl [r32] Try.call25 (instr_get [6] (by decide) (by decide)) rfl ?_ ?_ ?_
  · (exact bargsT)
  · rintro x σ' ⟨q, rfl, rfl⟩
    exact get_noF
  rw [get_b]
  rintro _ σ' ⟨q3, rfl, rfl⟩ hq3
  replace hq3 := lnewT hq3; (repeat (rcases hq3 with ⟨_, hq3⟩))
  (apply rs_sto; (exact nflT))
  unfold io ins0
  refine lo (lop_move (E rfl)) rfl ?_
  refine lo (lop_extract (E rfl) rfl) rfl ?_
  refine lo (lop_extract (E rfl) rfl) rfl ?_
  refine lo (lop_extract (E rfl) rfl) rfl ?_
  apply al; rfl; (exact zcT); refine freshT fun r9 h9 => ?_; (repeat (rcases h9 with ⟨_, h9⟩))
  apply stp; rfl; rfl; rfl; rfl; (exact sputT)
  refine lo (lop_assign (E rfl)) rfl ?_
  refine lo (lop_assign (E rfl)) rfl ?_
  refine leT ?_
  (refine ctlT ?_)
  dsimp only
  rw [show [encI 0, encI 300] = [0, 300].map encI from rfl]
  refine rgT ?_
  refine lo (lop_move (E rfl)) rfl ?_
  refine z14 ?_
  refine lo (lop_eql (E rfl) (E rfl)) rfl ?_
  refine lo (lop_move (E rfl)) rfl ?_
  refine z101 ?_
  refine z102 ?_
  refine z103 ?_
  refine lo (lop_move (E rfl)) rfl ?_
  refine z101 ?_
  refine z102 ?_
  refine z103 ?_
  refine lo (lop_move (E rfl)) rfl ?_
  refine z104 ?_
  refine z104 ?_
  refine gy rfl rfl ?_
  refine pu [r12, q] Try.call21 (instr_eq .any .any x5 x5) rfl ?_ nofT ?_
  · unfold iv x5; (exact pargsT)
  rw [eqN_self]
  refine z103 ?_
  refine lo (lop_move (E rfl)) rfl ?_
  refine z101 ?_
  refine z102 ?_
  refine z103 ?_
  refine lo (lop_move (E rfl)) rfl ?_
  refine z101 ?_
  refine z102 ?_
  refine z103 ?_
  refine lo (lop_move (E rfl)) rfl ?_
  refine z104 ?_
  refine gy rfl rfl ?_
  refine pu [r12] Try.call20 (instr_may .any x5) rfl ?_ nofT ?_
  · unfold iv x5; (exact pargsT)
  rw [x5_may]
  refine z103 ?_
  refine lo (lop_move (E rfl)) rfl ?_
  refine z105 ?_
  refine gy rfl rfl ?_
  refine pu [r12] Try.call20 (instr_may .any ⟨1, 1, 0, []⟩) rfl ?_ nofT ?_
  · unfold iv; (exact pargsT)
  rw [show mayN ⟨1, 1, 0, []⟩ = false by decide]
  refine z106 ?_
  refine z103 ?_
  refine lo (lop_move (E rfl)) rfl ?_
  refine z104 ?_
  refine z105 ?_
  refine gy rfl rfl ?_
  refine pu [r12] Try.call21 (instr_eq .any .any x5 ⟨1, 0, 0, []⟩) rfl ?_ nofT ?_
  · unfold iv x5; (exact pargsT)
  rw [show eqN x5 ⟨1, 0, 0, []⟩ = false by decide]
  refine z106 ?_
  refine z103 ?_
  refine lo (lop_assign (E rfl)) rfl ?_
  refine leT ?_
  (refine ctlT ?_)
  (apply aend; (exact resT))
  · exact ⟨rfl, rfl⟩
  · (exact stleT)
end Go.Proofs.Ytkjfflabapeidaa
