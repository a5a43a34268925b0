/-
  Instructions as bytes, in the document's words.
-/
import Derived.Test.YtkjfflabapeidaaInstrD
namespace Go.Proofs.Ytkjfflabapeidaa
open Go.RowKit Go.ChangeShapes Go.WideShapes Go.ChangeAt Go.Deep
set_option linter.unusedSimpArgs false
set_option linter.unusedVariables false
attribute [local irreducible] SW RS RD AThen ABlock

theorem kind_at2 {a : Int} (h : 0 ≤ a ∧ a ≤ 2) : ([[.int .u8 64], [.int .u8 127], [.int .u8 126]] : List (List AV))[a.toNat]? = some [.int .u8 (kindB a : Nat)] := by
  have : a = 0 ∨ a = 1 ∨ a = 2 := by omega
  rcases this with rfl | rfl | rfl <;> rfl
set_option maxRecDepth 100000 in
theorem ref_putInstr (k : Rk) (x : Ins) (hx : x.Ok) (hm : mayN x = true) : SCall Try.prog 24 [.agg (iv k x)] []
    (fun y σ => ∃ r, y = .own r 0 (putN x).length ∧ σ = [(r, .arr 5 1 ((putN x).map encU))]) := by
  have f1 := may_op hm
  have f2 := may2 hm
  have f3 := may3 hm
  have f4 := may4 hm
  have f5 := may5 hm
  have f6 := may6 hm
  have hop : -9223372036854775808 ≤ x.op ∧ x.op ≤ 9223372036854775807 := ⟨hx.1, hx.2.1⟩
  have f8 : -9223372036854775808 ≤ x.a ∧ x.a ≤ 9223372036854775807 := ⟨hx.2.2.1, hx.2.2.2.1⟩
  have hs8 : (sB x.a).length ≤ 10 := sB_len 9 x.a (by omega) (by omega)
  obtain ⟨op, ai, bi, l⟩ := x
  dsimp only at f1 f2 f3 f4 f5 f6 f8 hop hs8
  obtain ⟨op, rfl⟩ := Int.eq_ofNat_of_zero_le f1.1
  have hvo : putN ⟨(op : Int), ai, bi, l⟩ = [op] ++ putT ⟨(op : Int), ai, bi, l⟩ := by simp [putN]
  rw [hvo]
  refine scall_of (n := 98) (ks := [0, 1, 2, 3, 4, 11, 12, 22, 30, 40, 53, 71, 84, 89]) Try.func24 rfl rfl (Nat.le_of_ble_eq_true rfl) ?_
  unfold iv
  dsimp only
  (refine ctlT ?_)
  refine rgT ?_
  apply bx; rfl; rfl; (exact zcT); rfl; refine freshT fun r1 h1 => ?_; (repeat (rcases h1 with ⟨_, h1⟩))
  refine lo (lop_assign (E rfl)) rfl ?_
  refine leT ?_
  (refine ctlT ?_)
  refine rgT ?_
  refine z59 ?_
  refine z60 ?_
  refine z0 ?_
  refine z1 ?_; refine freshT fun r8 h8 => ?_; (repeat (rcases h8 with ⟨_, h8⟩))
  refine lo (lop_assign (E rfl)) rfl ?_
  refine leT ?_
  (refine ctlT ?_)
  rw [show [[AV.int .u8 (op : Int)]] = [op].map encU from rfl, show AV.own r8 0 1 = AV.own r8 0 [op].length from rfl]
  refine rgT ?_
  refine z59 ?_
  refine z60 ?_
  (first | refine ln rfl rfl rfl rfl ?_ | refine lw rfl rfl (lop_no (v := .bool false)) rfl ?_ | refine pu [] Try.call27 (ref_formN _ (by assumption)) rfl argsT nofT ?_ | refine pug [] rfl rfl Try.call27 (fun _ => (ref_formN _ (by assumption))) rfl argsT nofT ?_ | refine puw [] rfl rfl Try.call27 (fun _ => (ref_formN _ (by assumption))) rfl argsT nofT ?_)
  refine leT ?_
  (refine ctlT ?_)
  refine rgT ?_
  refine lo (lop_eql (E rfl) (E rfl)) rfl ?_
  refine lo (lop_assign (E rfl)) rfl ?_
  refine leT ?_
  (refine ctlT ?_)
  refine sw_cond rfl (fun g1 => ?_) (fun g1 => ?_)
  · (refine ctlT ?_)
    have ha := f2 g1
    have hp : putT ⟨(op : Int), ai, bi, l⟩ = [kindB ai] := by unfold putT; simp only [g1, if_true, if_false, Bool.false_eq_true]
    refine rgT ?_
    refine lo (lop_move (E rfl)) rfl ?_
    refine z1 ?_; refine freshT fun r15 h15 => ?_; (repeat (rcases h15 with ⟨_, h15⟩))
    refine z59 ?_
    refine z60 ?_
    refine z15 ?_
    refine lo (lop_load_ow (E rfl) rfl sgT (fun _ => kind_at2 ha) (fun _ => rfl)) rfl ?_
    refine z1 ?_; refine freshT fun r20 h20 => ?_; (repeat (rcases h20 with ⟨_, h20⟩))
    apply ap (es' := ([op] ++ [kindB ai]).map encU) (len' := ([op] ++ [kindB ai]).length); rfl; rfl; (exact sgT)
    · simp
    · exact .inr (.inr ⟨_, _, _, _, _, rfl, sgT, by simp, rfl⟩)
    · first | (simp [encU]; done) | (simp only [List.drop_zero, List.map_append]; congr 1; exact List.take_of_length_le (by simp))
    · simp; try omega
    · simp [maxLen]; try omega
    · simp; try omega
    · rfl
    refine apnT fun r21 h21 => ?_; (repeat (rcases h21 with ⟨_, h21⟩))
    refine lo (lop_assign (E rfl)) rfl ?_
    refine leT ?_
    (refine ctlT ?_)
    rw [hp]
    (apply aend; (exact resT))
    · exact ⟨_, rfl, rfl⟩
    · (exact stleT)
  (refine ctlT ?_)
  refine rgT ?_
  refine lo (lop_eql (E rfl) (E rfl)) rfl ?_
  refine lo (lop_assign (E rfl)) rfl ?_
  refine leT ?_
  (refine ctlT ?_)
  refine sw_cond rfl (fun g2 => ?_) (fun g2 => ?_)
  · (refine ctlT ?_)
    have ha := f3 g2
    obtain ⟨a, rfl⟩ := Int.eq_ofNat_of_zero_le ha.1
    have hp : putT ⟨(op : Int), (a : Int), bi, l⟩ = uB a := by unfold putT; simp only [g1, g2, if_true, if_false, Bool.false_eq_true, Int.toNat_natCast]
    have hal := uB_len 1 a (by omega)
    refine rgT ?_
    refine lo (lop_move (E rfl)) rfl ?_
    refine z59 ?_
    refine z60 ?_
    refine z24 ?_
    refine cw [] Try.call48 (ref_U a (by omega)) rfl ?_ ?_ ?_
    · (exact argsleT)
    · (exact stleT)
    rintro _ σ' ⟨ra, rfl, rfl⟩ hra
    replace hra := cnewT hra; (repeat (rcases hra with ⟨_, hra⟩))
    (apply rs_sto; (exact nflT))

    apply ap (es' := ([op] ++ uB a).map encU) (len' := ([op] ++ uB a).length); rfl; rfl; (exact sgT)
    · simp
    · exact .inr (.inr ⟨_, _, _, _, _, rfl, sgT, by simp, rfl⟩)
    · first | (simp [encU]; done) | (simp only [List.drop_zero, List.map_append]; congr 1; exact List.take_of_length_le (by simp))
    · simp; try omega
    · simp [maxLen]; try omega
    · simp; try omega
    · rfl
    refine apnT fun r29 h29 => ?_; (repeat (rcases h29 with ⟨_, h29⟩))
    refine lo (lop_assign (E rfl)) rfl ?_
    refine leT ?_
    (refine ctlT ?_)
    rw [hp]
    (apply aend; (exact resT))
    · exact ⟨_, rfl, rfl⟩
    · (exact stleT)
  (refine ctlT ?_)
  refine rgT ?_
  refine lo (lop_eql (E rfl) (E rfl)) rfl ?_
  refine lo (lop_assign (E rfl)) rfl ?_
  refine leT ?_
  (refine ctlT ?_)
  refine sw_cond rfl (fun g3 => ?_) (fun g3 => ?_)
  · (refine ctlT ?_)
    have ha := f5 g3
    obtain ⟨a, rfl⟩ := Int.eq_ofNat_of_zero_le ha.1
    have hp : putT ⟨(op : Int), (a : Int), bi, l⟩ = uB a ++ [0] := by unfold putT; simp only [g1, g2, g3, if_true, if_false, Bool.false_eq_true, Int.toNat_natCast]
    have hal := uB_len 1 a (by omega)
    refine rgT ?_
    refine lo (lop_move (E rfl)) rfl ?_
    refine z59 ?_
    refine z60 ?_
    refine z24 ?_
    refine cw [] Try.call48 (ref_U a (by omega)) rfl ?_ ?_ ?_
    · (exact argsleT)
    · (exact stleT)
    rintro _ σ' ⟨ra, rfl, rfl⟩ hra
    replace hra := cnewT hra; (repeat (rcases hra with ⟨_, hra⟩))
    (apply rs_sto; (exact nflT))
    apply ap (es' := ([op] ++ uB a).map encU) (len' := ([op] ++ uB a).length); rfl; rfl; (exact sgT)
    · simp
    · exact .inr (.inr ⟨_, _, _, _, _, rfl, sgT, by simp, rfl⟩)
    · first | (simp [encU]; done) | (simp only [List.drop_zero, List.map_append]; congr 1; exact List.take_of_length_le (by simp))
    · simp; try omega
    · simp [maxLen]; try omega
    · simp; try omega
    · rfl
    refine apnT fun r37 h37 => ?_; (repeat (rcases h37 with ⟨_, h37⟩))
    refine z1 ?_; refine freshT fun r38 h38 => ?_; (repeat (rcases h38 with ⟨_, h38⟩))
    apply ap (es' := (([op] ++ uB a) ++ [0]).map encU) (len' := (([op] ++ uB a) ++ [0]).length); rfl; rfl; (exact sgT)
    · simp
    · exact .inr (.inr ⟨_, _, _, _, _, rfl, sgT, by simp, rfl⟩)
    · first | (simp [encU]; done) | (simp only [List.drop_zero, List.map_append]; congr 1; exact List.take_of_length_le (by simp))
    · simp; try omega
    · simp [maxLen]; try omega
    · simp; try omega
    · rfl
    refine apnT fun r39 h39 => ?_; (repeat (rcases h39 with ⟨_, h39⟩))
    refine lo (lop_assign (E rfl)) rfl ?_
    refine leT ?_
    (refine ctlT ?_)
    rw [hp, ← List.append_assoc]
    (apply aend; (exact resT))
    · exact ⟨_, rfl, rfl⟩
    · (exact stleT)
  (refine ctlT ?_)
  refine rgT ?_
  refine lo (lop_eql (E rfl) (E rfl)) rfl ?_
  refine lo (lop_assign (E rfl)) rfl ?_
  refine leT ?_
  (refine ctlT ?_)
  refine sw_cond rfl (fun g4 => ?_) (fun g4 => ?_)
  · (refine ctlT ?_)
    have ha := f4 g4
    obtain ⟨⟨ha0, ha1⟩, hl50, hall⟩ := ha
    obtain ⟨a, rfl⟩ := Int.eq_ofNat_of_zero_le ha0
    have hp : putT ⟨(op : Int), (a : Int), bi, l⟩ = uB l.length ++ (l.flatMap fun n => uB n.toNat) ++ uB a := by unfold putT; simp only [g1, g2, g3, g4, if_true, if_false, Bool.false_eq_true, Int.toNat_natCast]
    have hal := uB_len 1 a (by omega)
    have hll := uB_len 1 l.length (by omega)
    have hfl := flat_len hall
    refine rgT ?_
    refine lo (lop_move (E rfl)) rfl ?_
    refine z59 ?_
    refine z60 ?_
    refine z14 ?_
    refine z24 ?_
    refine cw [] Try.call48 (ref_U l.length (by omega)) rfl ?_ ?_ ?_
    · (exact argsleT)
    · (exact stleT)
    rintro _ σ' ⟨ra, rfl, rfl⟩ hra
    replace hra := cnewT hra; (repeat (rcases hra with ⟨_, hra⟩))
    (apply rs_sto; (exact nflT))
    apply ap (es' := ([op] ++ uB l.length).map encU) (len' := ([op] ++ uB l.length).length); rfl; rfl; (exact sgT)
    · simp
    · exact .inr (.inr ⟨_, _, _, _, _, rfl, sgT, by simp, rfl⟩)
    · first | (simp [encU]; done) | (simp only [List.drop_zero, List.map_append]; congr 1; exact List.take_of_length_le (by simp))
    · simp; try omega
    · simp [maxLen]; try omega
    · simp; try omega
    · rfl
    refine apnT fun r48 h48 => ?_; (repeat (rcases h48 with ⟨_, h48⟩))
    refine lo (lop_assign (E rfl)) rfl ?_
    refine leT ?_
    (refine ctlT ?_)
    refine rgT ?_
    refine lo (lop_assign (E rfl)) rfl ?_
    refine leT ?_
    (refine ctlT ?_)
    obtain ⟨ws, hws⟩ : ∃ ws, ws = [op] ++ uB l.length := ⟨_, rfl⟩
    have hwl : ws.length ≤ 3 := by rw [hws]; simp; omega
    rw [← hws]
    have hpre : ∀ j, (ws ++ ((l.take j).flatMap fun n => uB n.toNat)).length ≤ 103 := fun j => by
      have := flat_len (l := l.take j) fun n hn => hall n (List.mem_of_mem_take hn)
      simp at this ⊢
      omega
    refine lp (β := Nat × Nat) (fun b => ⟨[(3, .own b.1 0 (ws ++ ((l.take b.2).flatMap fun n => uB n.toNat)).length), (1, .ptr r1 0), (4, .int .i64 b.2)], [(b.1, .arr 5 1 ((ws ++ ((l.take b.2).flatMap fun n => uB n.toNat)).map encU)), (r1, .box 24 [.int .i64 op, .int .i64 a, .int .i64 bi, .ro 1 (l.map encI) k])]⟩) (fun b => Nq b.1 r1 ∧ b.2 ≤ l.length) (fun b => l.length - b.2) (r48, 0) ?_ ⟨?_, Nat.zero_le _⟩ ?_
    · simp only [List.take_zero, List.flatMap_nil, List.append_nil]; (exact sgoT)
    · show Nq r48 r1; (exact nqT)
    rintro ⟨rb, j⟩ ⟨hrb, hj⟩
    dsimp only at hrb hj ⊢
    have hpj := hpre j
    (refine ctlT ?_)
    refine rgT ?_
    refine lo (lop_move (E rfl)) rfl ?_
    refine z59 ?_
    refine z60 ?_
    refine z14 ?_
    refine lo (lop_lss (E rfl) (E rfl)) rfl ?_
    refine leT ?_
    (refine ctlT ?_)
    refine sw_cond rfl (fun h1 => ?_) (fun h1 => ?_)
    · have hlt : j < l.length := by simp at h1; omega
      obtain ⟨y, hy⟩ : ∃ y, l[j]? = some y := ⟨_, List.getElem?_eq_getElem hlt⟩
      obtain ⟨hy0, hy1⟩ := hall y (List.mem_of_getElem? hy)
      obtain ⟨z, rfl⟩ := Int.eq_ofNat_of_zero_le hy0
      have hzl := uB_len 1 z (by omega)
      obtain ⟨pl, hpl⟩ : ∃ pl, pl = ws ++ ((l.take j).flatMap fun n => uB n.toNat) := ⟨_, rfl⟩
      rw [← hpl] at hpj ⊢
      (refine ctlT ?_)
      refine rgT ?_
      refine lo (lop_move (E rfl)) rfl ?_
      refine z59 ?_
      refine z60 ?_
      refine lo (lop_move (E rfl)) rfl ?_
      refine z15 ?_
      refine z16 ?_
      refine z24 ?_
      refine cw [] Try.call48 (ref_U z (by omega)) rfl ?_ ?_ ?_
      · (exact argsleT)
      · (exact stleT)
      rintro _ σ' ⟨rc, rfl, rfl⟩ hrc
      replace hrc := cnewT hrc; (repeat (rcases hrc with ⟨_, hrc⟩))
      (apply rs_sto; (exact nflT))
      apply ap (es' := (pl ++ uB z).map encU) (len' := (pl ++ uB z).length); rfl; rfl; (exact sgT)
      · simp
      · exact .inr (.inr ⟨_, _, _, _, _, rfl, sgT, by simp, rfl⟩)
      · first | (simp [encU]; done) | (simp only [List.drop_zero, List.map_append]; congr 1; exact List.take_of_length_le (by simp))
      · simp; try omega
      · simp [maxLen]; try omega
      · simp; try omega
      · rfl
      refine apnT fun r64 h64 => ?_; (repeat (rcases h64 with ⟨_, h64⟩))
      refine lo (lop_assign (E rfl)) rfl ?_
      refine leT ?_
      (refine ctlT ?_)
      refine rgT ?_
      refine lo (lop_move (E rfl)) rfl ?_
      refine z17 ?_
      refine lo (lop_assign (E rfl)) rfl ?_
      refine leT ?_
      (refine ctlT ?_)
      have hnx : ws ++ ((l.take j).flatMap fun n => uB n.toNat) ++ uB z = ws ++ ((l.take (j + 1)).flatMap fun n => uB n.toNat) := by
        rw [List.take_add_one, hy, List.flatMap_append, List.append_assoc]
        simp
      rw [hpl, hnx]
      refine ⟨(r64, j + 1), ⟨by show Nq r64 r1; (exact nqT), hlt⟩, by show l.length - (j + 1) < l.length - j; omega, ?_⟩
      (exact sgoT)
    · obtain rfl : j = l.length := by simp at h1; omega
      rw [List.take_length] at hpj ⊢
      obtain ⟨pl, hpl⟩ : ∃ pl, pl = ws ++ (l.flatMap fun n => uB n.toNat) := ⟨_, rfl⟩
      rw [← hpl] at hpj ⊢
      (refine ctlT ?_)
      refine rgT ?_
      refine lo (lop_move (E rfl)) rfl ?_
      refine z59 ?_
      refine z60 ?_
      refine z24 ?_
      refine cw [] Try.call48 (ref_U a (by omega)) rfl ?_ ?_ ?_
      · (exact argsleT)
      · (exact stleT)
      rintro _ σ' ⟨rd, rfl, rfl⟩ hrd
      replace hrd := cnewT hrd; (repeat (rcases hrd with ⟨_, hrd⟩))
      (apply rs_sto; (exact nflT))
      apply ap (es' := (pl ++ uB a).map encU) (len' := (pl ++ uB a).length); rfl; rfl; (exact sgT)
      · simp
      · exact .inr (.inr ⟨_, _, _, _, _, rfl, sgT, by simp, rfl⟩)
      · first | (simp [encU]; done) | (simp only [List.drop_zero, List.map_append]; congr 1; exact List.take_of_length_le (by simp))
      · simp; try omega
      · simp [maxLen]; try omega
      · simp; try omega
      · rfl
      refine apnT fun r70 h70 => ?_; (repeat (rcases h70 with ⟨_, h70⟩))
      refine lo (lop_assign (E rfl)) rfl ?_
      refine leT ?_
      (refine ctlT ?_)
      rw [hpl]
      rw [hp, show [op] ++ (uB l.length ++ (l.flatMap fun n => uB n.toNat) ++ uB a) = ws ++ (l.flatMap fun n => uB n.toNat) ++ uB a by rw [hws]; simp]
      (apply aend; (exact resT))
      · exact ⟨_, rfl, rfl⟩
      · (exact stleT)
  (refine ctlT ?_)
  refine rgT ?_
  refine lo (lop_eql (E rfl) (E rfl)) rfl ?_
  refine lo (lop_assign (E rfl)) rfl ?_
  refine leT ?_
  (refine ctlT ?_)
  refine sw_cond rfl (fun g5 => ?_) (fun g5 => ?_)
  · (refine ctlT ?_)
    have ha := f6 g5
    obtain ⟨ha0, ha1, hb0, hb1⟩ := ha
    obtain ⟨a, rfl⟩ := Int.eq_ofNat_of_zero_le ha0
    obtain ⟨b, rfl⟩ := Int.eq_ofNat_of_zero_le hb0
    have hp : putT ⟨(op : Int), (a : Int), (b : Int), l⟩ = uB a ++ uB b := by unfold putT; simp only [g1, g2, g3, g4, g5, if_true, if_false, Bool.false_eq_true, Int.toNat_natCast]
    have hal := uB_len 1 a (by omega)
    have hbl := uB_len 4 b (by omega)
    refine rgD [(0, true), (1, true), (2, true), (3, true), (6, true), (7, true), (8, true), (4, false), (5, false), (9, false), (10, false), (11, true)] ?_
    refine dlo rfl (lop_move (E rfl)) rfl ?_
    refine z73 ?_
    refine z74 ?_
    refine z75 ?_
    refine z73 ?_
    refine z74 ?_
    refine z75 ?_
    refine dcw [] rfl Try.call48 (ref_U a (by omega)) rfl ?_ ?_ ?_ ?_
    · (exact argsleT)
    · (exact stleT)
    · (exact hbtT)
    rintro _ σ' ⟨ra, rfl, rfl⟩ hra
    replace hra := cnewT hra; (repeat (rcases hra with ⟨_, hra⟩))
    (apply rd_sto; (exact nflT))
    apply dap (es' := ([op] ++ uB a).map encU) (len' := ([op] ++ uB a).length); rfl; infer_instance; infer_instance; rfl; rfl; (exact sgT)
    · simp
    · exact .inr (.inr ⟨_, _, _, _, _, rfl, sgT, by simp, rfl⟩)
    · first | (simp [encU]; done) | (simp only [List.drop_zero, List.map_append]; congr 1; exact List.take_of_length_le (by simp))
    · simp; try omega
    · simp [maxLen]; try omega
    · simp; try omega
    · rfl
    · (exact hbtT)
    refine apnT fun r78 h78 => ?_; (repeat (rcases h78 with ⟨_, h78⟩))
    refine dcw [] rfl Try.call48 (ref_U b (by omega)) rfl ?_ ?_ ?_ ?_
    · (exact argsleT)
    · (exact stleT)
    · (exact hbtT)
    rintro _ σ' ⟨rb, rfl, rfl⟩ hrb
    replace hrb := cnewT hrb; (repeat (rcases hrb with ⟨_, hrb⟩))
    (apply rd_sto; (exact nflT))
    apply dap (es' := (([op] ++ uB a) ++ uB b).map encU) (len' := (([op] ++ uB a) ++ uB b).length); rfl; infer_instance; infer_instance; rfl; rfl; (exact sgT)
    · simp
    · exact .inr (.inr ⟨_, _, _, _, _, rfl, sgT, by simp, rfl⟩)
    · first | (simp [encU]; done) | (simp only [List.drop_zero, List.map_append]; congr 1; exact List.take_of_length_le (by simp))
    · simp; try omega
    · simp [maxLen]; try omega
    · simp; try omega
    · rfl
    · (exact hbtT)
    refine apnT fun r83 h83 => ?_; (repeat (rcases h83 with ⟨_, h83⟩))
    refine dlo rfl (lop_assign (E rfl)) rfl ?_
    refine deT ?_
    (refine ctlT ?_)
    rw [hp, ← List.append_assoc]
    (apply aend; (exact resT))
    · exact ⟨_, rfl, rfl⟩
    · (exact stleT)
  (refine ctlT ?_)
  refine rgT ?_
  refine lo (lop_eql (E rfl) (E rfl)) rfl ?_
  refine lo (lop_assign (E rfl)) rfl ?_
  refine leT ?_
  (refine ctlT ?_)
  refine sw_cond rfl (fun g6 => ?_) (fun g6 => ?_)
  · (refine ctlT ?_)
    have hp : putT ⟨(op : Int), ai, bi, l⟩ = [0] := by unfold putT; simp only [g1, g2, g3, g4, g5, g6, if_true, if_false, Bool.false_eq_true]
    refine rgT ?_
    refine lo (lop_move (E rfl)) rfl ?_
    refine z1 ?_; refine freshT fun r87 h87 => ?_; (repeat (rcases h87 with ⟨_, h87⟩))
    apply ap (es' := ([op] ++ [0]).map encU) (len' := ([op] ++ [0]).length); rfl; rfl; (exact sgT)
    · simp
    · exact .inr (.inr ⟨_, _, _, _, _, rfl, sgT, by simp, rfl⟩)
    · first | (simp [encU]; done) | (simp only [List.drop_zero, List.map_append]; congr 1; exact List.take_of_length_le (by simp))
    · simp; try omega
    · simp [maxLen]; try omega
    · simp; try omega
    · rfl
    refine apnT fun r88 h88 => ?_; (repeat (rcases h88 with ⟨_, h88⟩))
    refine lo (lop_assign (E rfl)) rfl ?_
    refine leT ?_
    (refine ctlT ?_)
    rw [hp]
    (apply aend; (exact resT))
    · exact ⟨_, rfl, rfl⟩
    · (exact stleT)
  (refine ctlT ?_)
  refine rgT ?_
  refine lo (lop_eql (E rfl) (E rfl)) rfl ?_
  refine lo (lop_assign (E rfl)) rfl ?_
  refine leT ?_
  (refine ctlT ?_)
  apply sw_orr rfl; exact fdelT
  · intro _; (refine ctlT ?_)
    refine rgT ?_
    refine lo (lop_eql (E rfl) (E rfl)) rfl ?_
    refine lo (lop_assign (E rfl)) rfl ?_
    refine leT ?_
    (refine ctlT ?_)
    (exact sgoT)
  (refine ctlT ?_)
  refine sw_cond rfl (fun g7 => ?_) (fun g7 => ?_)
  · (refine ctlT ?_)
    have hp : putT ⟨(op : Int), ai, bi, l⟩ = sB ai := by unfold putT; simp only [g1, g2, g3, g4, g5, g6, g7, if_true, if_false, Bool.false_eq_true]
    refine rgT ?_
    refine lo (lop_move (E rfl)) rfl ?_
    refine z59 ?_
    refine z60 ?_
    refine cw [] Try.call49 (ref_S ai f8) rfl ?_ ?_ ?_
    · (exact argsleT)
    · (exact stleT)
    rintro _ σ' ⟨ra, rfl, rfl⟩ hra
    replace hra := cnewT hra; (repeat (rcases hra with ⟨_, hra⟩))
    (apply rs_sto; (exact nflT))
    apply ap (es' := ([op] ++ sB ai).map encU) (len' := ([op] ++ sB ai).length); rfl; rfl; (exact sgT)
    · simp
    · exact .inr (.inr ⟨_, _, _, _, _, rfl, sgT, by simp, rfl⟩)
    · first | (simp [encU]; done) | (simp only [List.drop_zero, List.map_append]; congr 1; exact List.take_of_length_le (by simp))
    · simp; try omega
    · simp [maxLen]; try omega
    · simp; try omega
    · rfl
    refine apnT fun r96 h96 => ?_; (repeat (rcases h96 with ⟨_, h96⟩))
    refine lo (lop_assign (E rfl)) rfl ?_
    refine leT ?_
    (refine ctlT ?_)
    rw [hp]
    (apply aend; (exact resT))
    · exact ⟨_, rfl, rfl⟩
    · (exact stleT)
  (refine ctlT ?_)
  refine rgT ?_
  refine lo (lop_move (E rfl)) rfl ?_
  refine lo (lop_assign (E rfl)) rfl ?_
  refine leT ?_
  (refine ctlT ?_)
  (apply aend; (exact resT))
  · (unfold putT; simp only [g1, g2, g3, g4, g5, g6, g7, if_true, if_false, Bool.false_eq_true, List.append_nil]; exact ⟨_, rfl, rfl⟩)
  · (exact stleT)
end Go.Proofs.Ytkjfflabapeidaa
