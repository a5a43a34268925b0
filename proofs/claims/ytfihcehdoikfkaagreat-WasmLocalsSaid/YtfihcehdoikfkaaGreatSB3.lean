import Derived.Test.YtfihcehdoikfkaaGreatSB2
import Derived.Test.YtfihcehdoikfkaaGreatSB1
import Derived.ChangeOld
import Derived.WalkKit
import Derived.ProofKit
import Derived.OpenShut
import Derived.Lib.AppendStr
set_option linter.unusedSimpArgs false
set_option linter.unusedVariables false
set_option maxRecDepth 100000
set_option maxHeartbeats 4000000
/-
  Instructions as bytes, in the document's words.
-/
namespace Go.Proofs.YtfihcehdoikfkaaGreat
open Go.RowKit Go.ChangeShapes Go.WideShapes Go.ChangeAt Go.Deep
attribute [local irreducible] SW RS RD AThen ABlock
theorem kind_at2 {a : Int} (h : 0 ≤ a ∧ a ≤ 2) : ([[.int .u8 64], [.int .u8 127], [.int .u8 126]] : List (List AV))[a.toNat]? = some [.int .u8 (kindB a : Nat)] := by
  have : a = 0 ∨ a = 1 ∨ a = 2 := by omega
  rcases this with rfl | rfl | rfl <;> rfl
theorem ref_putInstr (k : Rk) (x : Ins) (hx : x.Ok) (hm : mayN x = true) : SCall Tryz.prog 152 [.agg (iv k x)] []
    (fun y σ => ∃ r, y = .own r 0 (putN x).length ∧ σ = [(r, .arr 5 1 ((putN x).map encU))]) := by
  have f1 := may_op hm
  have f2 := may2 hm
  have f3 := may3 hm
  have f4 := may4 hm
  have f5 := may5 hm
  have f6 := may6 hm
  have hop : -9223372036854775808 ≤ x.op ∧ x.op ≤ 9223372036854775807 := ⟨hx.1, hx.2.1⟩
  have f8 : -9223372036854775808 ≤ x.a ∧ x.a ≤ 9223372036854775807 := ⟨hx.2.2.1, hx.2.2.2.1⟩
  have hs8 : (sB x.a).length ≤ 10 := sB_len 9 x.a (by omega) (by omega)
  obtain ⟨op, ai, bi, l⟩ := x
  dsimp only at f1 f2 f3 f4 f5 f6 f8 hop hs8
  obtain ⟨op, rfl⟩ := Int.eq_ofNat_of_zero_le f1.1
  have hvo : putN ⟨(op : Int), ai, bi, l⟩ = [op] ++ putT ⟨(op : Int), ai, bi, l⟩ := by simp [putN]
  rw [hvo]
  refine scall_of (n := 98) (ks := [0, 1, 2, 3, 4, 11, 12, 22, 30, 40, 53, 71, 84, 89]) Tryz.func152 rfl rfl (Nat.le_of_ble_eq_true rfl) ?_
  unfold iv
  dsimp only
  refine sq3 ?_
  apply bx; rfl; rfl; (exact zcT); rfl; refine freshT fun r1 h1 => ?_; repeat rcases h1 with ⟨_, h1⟩
  refine sq41 ?_
  refine z0 ?_
  refine z1 ?_; refine freshT fun r8 h8 => ?_; repeat rcases h8 with ⟨_, h8⟩
  refine sq2 ?_
  rw [show [[AV.int .u8 (op : Int)]] = [op].map encU from rfl, show AV.own r8 0 1 = AV.own r8 0 [op].length from rfl]
  refine rgT ?_
  refine sq12 ?_
  (first | refine ln rfl rfl rfl rfl ?_ | refine lw rfl rfl (lop_no (v := .bool false)) rfl ?_ | refine pu [] Tryz.call156 (ref_formN _ (by assumption)) rfl argsT nofT ?_ | refine pug [] rfl rfl Tryz.call156 (fun _ => (ref_formN _ (by assumption))) rfl argsT nofT ?_ | refine puw [] rfl rfl Tryz.call156 (fun _ => (ref_formN _ (by assumption))) rfl argsT nofT ?_)
  refine leT ?_
  refine sq33 ?_
  refine sw_cond rfl (fun g1 => ?_) (fun g1 => ?_)
  · refine ctlT ?_
    have ha := f2 g1
    have hp : putT ⟨(op : Int), ai, bi, l⟩ = [kindB ai] := by unfold putT; simp only [g1, if_true, if_false, Bool.false_eq_true]
    refine sq1 ?_
    refine z1 ?_; refine freshT fun r15 h15 => ?_; repeat rcases h15 with ⟨_, h15⟩
    refine sq12 ?_
    refine z15 ?_
    refine lo (lop_load_ow (E rfl) rfl sgT (fun _ => kind_at2 ha) (fun _ => rfl)) rfl ?_
    refine z1 ?_; refine freshT fun r20 h20 => ?_; repeat rcases h20 with ⟨_, h20⟩
    apply ap (es' := ([op] ++ [kindB ai]).map encU) (len' := ([op] ++ [kindB ai]).length); rfl; rfl; (exact sgT)
    · simp
    · exact .inr (.inr ⟨_, _, _, _, _, rfl, sgT, by simp, rfl⟩)
    · first | (simp [encU]; done) | (simp only [List.drop_zero, List.map_append]; congr 1; exact List.take_of_length_le (by simp))
    · simp; try omega
    · simp [maxLen]; try omega
    · simp; try omega
    · rfl
    refine apnT fun r21 h21 => ?_; repeat rcases h21 with ⟨_, h21⟩
    refine sq2 ?_
    rw [hp]
    apply aend; exact resT
    · exact ⟨_, rfl, rfl⟩
    · exact stleT
  refine sq33 ?_
  refine sw_cond rfl (fun g2 => ?_) (fun g2 => ?_)
  · refine ctlT ?_
    have ha := f3 g2
    obtain ⟨a, rfl⟩ := Int.eq_ofNat_of_zero_le ha.1
    have hp : putT ⟨(op : Int), (a : Int), bi, l⟩ = uB a := by unfold putT; simp only [g1, g2, if_true, if_false, Bool.false_eq_true, Int.toNat_natCast]
    have hal := uB_len 1 a (by omega)
    refine sq82 ?_
    refine z24 ?_
    refine cw [] Tryz.call151 (ref_U a (by omega)) rfl ?_ ?_ ?_
    · exact argsleT
    · exact stleT
    rintro _ σ' ⟨ra, rfl, rfl⟩ hra
    replace hra := cnewT hra; repeat rcases hra with ⟨_, hra⟩
    apply rs_sto; exact nflT

    apply ap (es' := ([op] ++ uB a).map encU) (len' := ([op] ++ uB a).length); rfl; rfl; (exact sgT)
    · simp
    · exact .inr (.inr ⟨_, _, _, _, _, rfl, sgT, by simp, rfl⟩)
    · first | (simp [encU]; done) | (simp only [List.drop_zero, List.map_append]; congr 1; exact List.take_of_length_le (by simp))
    · simp; try omega
    · simp [maxLen]; try omega
    · simp; try omega
    · rfl
    refine apnT fun r29 h29 => ?_; repeat rcases h29 with ⟨_, h29⟩
    refine sq2 ?_
    rw [hp]
    apply aend; exact resT
    · exact ⟨_, rfl, rfl⟩
    · exact stleT
  refine sq33 ?_
  refine sw_cond rfl (fun g3 => ?_) (fun g3 => ?_)
  · refine ctlT ?_
    have ha := f5 g3
    obtain ⟨a, rfl⟩ := Int.eq_ofNat_of_zero_le ha.1
    have hp : putT ⟨(op : Int), (a : Int), bi, l⟩ = uB a ++ [0] := by unfold putT; simp only [g1, g2, g3, if_true, if_false, Bool.false_eq_true, Int.toNat_natCast]
    have hal := uB_len 1 a (by omega)
    refine sq82 ?_
    refine z24 ?_
    refine cw [] Tryz.call151 (ref_U a (by omega)) rfl ?_ ?_ ?_
    · exact argsleT
    · exact stleT
    rintro _ σ' ⟨ra, rfl, rfl⟩ hra
    replace hra := cnewT hra; repeat rcases hra with ⟨_, hra⟩
    apply rs_sto; exact nflT
    apply ap (es' := ([op] ++ uB a).map encU) (len' := ([op] ++ uB a).length); rfl; rfl; (exact sgT)
    · simp
    · exact .inr (.inr ⟨_, _, _, _, _, rfl, sgT, by simp, rfl⟩)
    · first | (simp [encU]; done) | (simp only [List.drop_zero, List.map_append]; congr 1; exact List.take_of_length_le (by simp))
    · simp; try omega
    · simp [maxLen]; try omega
    · simp; try omega
    · rfl
    refine apnT fun r37 h37 => ?_; repeat rcases h37 with ⟨_, h37⟩
    refine z1 ?_; refine freshT fun r38 h38 => ?_; repeat rcases h38 with ⟨_, h38⟩
    apply ap (es' := (([op] ++ uB a) ++ [0]).map encU) (len' := (([op] ++ uB a) ++ [0]).length); rfl; rfl; (exact sgT)
    · simp
    · exact .inr (.inr ⟨_, _, _, _, _, rfl, sgT, by simp, rfl⟩)
    · first | (simp [encU]; done) | (simp only [List.drop_zero, List.map_append]; congr 1; exact List.take_of_length_le (by simp))
    · simp; try omega
    · simp [maxLen]; try omega
    · simp; try omega
    · rfl
    refine apnT fun r39 h39 => ?_; repeat rcases h39 with ⟨_, h39⟩
    refine sq2 ?_
    rw [hp, ← List.append_assoc]
    apply aend; exact resT
    · exact ⟨_, rfl, rfl⟩
    · exact stleT
  refine sq33 ?_
  refine sw_cond rfl (fun g4 => ?_) (fun g4 => ?_)
  · refine ctlT ?_
    have ha := f4 g4
    obtain ⟨⟨ha0, ha1⟩, hl50, hall⟩ := ha
    obtain ⟨a, rfl⟩ := Int.eq_ofNat_of_zero_le ha0
    have hp : putT ⟨(op : Int), (a : Int), bi, l⟩ = uB l.length ++ (l.flatMap fun n => uB n.toNat) ++ uB a := by unfold putT; simp only [g1, g2, g3, g4, if_true, if_false, Bool.false_eq_true, Int.toNat_natCast]
    have hal := uB_len 1 a (by omega)
    have hll := uB_len 1 l.length (by omega)
    have hfl := flat_len hall
    refine sq82 ?_
    refine z14 ?_
    refine z24 ?_
    refine cw [] Tryz.call151 (ref_U l.length (by omega)) rfl ?_ ?_ ?_
    · exact argsleT
    · exact stleT
    rintro _ σ' ⟨ra, rfl, rfl⟩ hra
    replace hra := cnewT hra; repeat rcases hra with ⟨_, hra⟩
    apply rs_sto; exact nflT
    apply ap (es' := ([op] ++ uB l.length).map encU) (len' := ([op] ++ uB l.length).length); rfl; rfl; (exact sgT)
    · simp
    · exact .inr (.inr ⟨_, _, _, _, _, rfl, sgT, by simp, rfl⟩)
    · first | (simp [encU]; done) | (simp only [List.drop_zero, List.map_append]; congr 1; exact List.take_of_length_le (by simp))
    · simp; try omega
    · simp [maxLen]; try omega
    · simp; try omega
    · rfl
    refine apnT fun r48 h48 => ?_; repeat rcases h48 with ⟨_, h48⟩
    refine sq22 ?_
    refine sq2 ?_
    obtain ⟨ws, hws⟩ : ∃ ws, ws = [op] ++ uB l.length := ⟨_, rfl⟩
    have hwl : ws.length ≤ 3 := by rw [hws]; simp; omega
    rw [← hws]
    have hpre : ∀ j, (ws ++ ((l.take j).flatMap fun n => uB n.toNat)).length ≤ 103 := fun j => by
      have := flat_len (l := l.take j) fun n hn => hall n (List.mem_of_mem_take hn)
      simp at this ⊢
      omega
    refine lp (β := Nat × Nat) (fun b => ⟨[(3, .own b.1 0 (ws ++ ((l.take b.2).flatMap fun n => uB n.toNat)).length), (1, .ptr r1 0), (4, .int .i64 b.2)], [(b.1, .arr 5 1 ((ws ++ ((l.take b.2).flatMap fun n => uB n.toNat)).map encU)), (r1, .box 56 [.int .i64 op, .int .i64 a, .int .i64 bi, .ro 1 (l.map encI) k])]⟩) (fun b => Nq b.1 r1 ∧ b.2 ≤ l.length) (fun b => l.length - b.2) (r48, 0) ?_ ⟨?_, Nat.zero_le _⟩ ?_
    · simp only [List.take_zero, List.flatMap_nil, List.append_nil]; (exact sgoT)
    · show Nq r48 r1; (exact nqT)
    rintro ⟨rb, j⟩ ⟨hrb, hj⟩
    dsimp only at hrb hj ⊢
    have hpj := hpre j
    refine sq89 ?_
    refine sw_cond rfl (fun h1 => ?_) (fun h1 => ?_)
    · have hlt : j < l.length := by simp at h1; omega
      obtain ⟨y, hy⟩ : ∃ y, l[j]? = some y := ⟨_, List.getElem?_eq_getElem hlt⟩
      obtain ⟨hy0, hy1⟩ := hall y (List.mem_of_getElem? hy)
      obtain ⟨z, rfl⟩ := Int.eq_ofNat_of_zero_le hy0
      have hzl := uB_len 1 z (by omega)
      obtain ⟨pl, hpl⟩ : ∃ pl, pl = ws ++ ((l.take j).flatMap fun n => uB n.toNat) := ⟨_, rfl⟩
      rw [← hpl] at hpj ⊢
      refine sq53 ?_
      refine sq31 ?_
      refine z16 ?_
      refine z24 ?_
      refine cw [] Tryz.call151 (ref_U z (by omega)) rfl ?_ ?_ ?_
      · exact argsleT
      · exact stleT
      rintro _ σ' ⟨rc, rfl, rfl⟩ hrc
      replace hrc := cnewT hrc; repeat rcases hrc with ⟨_, hrc⟩
      apply rs_sto; exact nflT
      apply ap (es' := (pl ++ uB z).map encU) (len' := (pl ++ uB z).length); rfl; rfl; (exact sgT)
      · simp
      · exact .inr (.inr ⟨_, _, _, _, _, rfl, sgT, by simp, rfl⟩)
      · first | (simp [encU]; done) | (simp only [List.drop_zero, List.map_append]; congr 1; exact List.take_of_length_le (by simp))
      · simp; try omega
      · simp [maxLen]; try omega
      · simp; try omega
      · rfl
      refine apnT fun r64 h64 => ?_; repeat rcases h64 with ⟨_, h64⟩
      refine sq27 ?_
      refine sq37 ?_
      have hnx : ws ++ ((l.take j).flatMap fun n => uB n.toNat) ++ uB z = ws ++ ((l.take (j + 1)).flatMap fun n => uB n.toNat) := by
        rw [List.take_add_one, hy, List.flatMap_append, List.append_assoc]
        simp
      rw [hpl, hnx]
      refine ⟨(r64, j + 1), ⟨by show Nq r64 r1; (exact nqT), hlt⟩, by show l.length - (j + 1) < l.length - j; omega, ?_⟩
      exact sgoT
    · obtain rfl : j = l.length := by simp at h1; omega
      rw [List.take_length] at hpj ⊢
      obtain ⟨pl, hpl⟩ : ∃ pl, pl = ws ++ (l.flatMap fun n => uB n.toNat) := ⟨_, rfl⟩
      rw [← hpl] at hpj ⊢
      refine sq53 ?_
      refine z24 ?_
      refine cw [] Tryz.call151 (ref_U a (by omega)) rfl ?_ ?_ ?_
      · exact argsleT
      · exact stleT
      rintro _ σ' ⟨rd, rfl, rfl⟩ hrd
      replace hrd := cnewT hrd; repeat rcases hrd with ⟨_, hrd⟩
      apply rs_sto; exact nflT
      apply ap (es' := (pl ++ uB a).map encU) (len' := (pl ++ uB a).length); rfl; rfl; (exact sgT)
      · simp
      · exact .inr (.inr ⟨_, _, _, _, _, rfl, sgT, by simp, rfl⟩)
      · first | (simp [encU]; done) | (simp only [List.drop_zero, List.map_append]; congr 1; exact List.take_of_length_le (by simp))
      · simp; try omega
      · simp [maxLen]; try omega
      · simp; try omega
      · rfl
      refine apnT fun r70 h70 => ?_; repeat rcases h70 with ⟨_, h70⟩
      refine sq2 ?_
      rw [hpl]
      rw [hp, show [op] ++ (uB l.length ++ (l.flatMap fun n => uB n.toNat) ++ uB a) = ws ++ (l.flatMap fun n => uB n.toNat) ++ uB a by rw [hws]; simp]
      apply aend; exact resT
      · exact ⟨_, rfl, rfl⟩
      · exact stleT
  refine sq33 ?_
  refine sw_cond rfl (fun g5 => ?_) (fun g5 => ?_)
  · refine ctlT ?_
    have ha := f6 g5
    obtain ⟨ha0, ha1, hb0, hb1⟩ := ha
    obtain ⟨a, rfl⟩ := Int.eq_ofNat_of_zero_le ha0
    obtain ⟨b, rfl⟩ := Int.eq_ofNat_of_zero_le hb0
    have hp : putT ⟨(op : Int), (a : Int), (b : Int), l⟩ = uB a ++ uB b := by unfold putT; simp only [g1, g2, g3, g4, g5, if_true, if_false, Bool.false_eq_true, Int.toNat_natCast]
    have hal := uB_len 1 a (by omega)
    have hbl := uB_len 4 b (by omega)
    refine rgD [(0, true), (1, true), (2, true), (3, true), (6, true), (7, true), (8, true), (4, false), (5, false), (9, false), (10, false), (11, true)] ?_
    refine sq44 ?_
    refine z75 ?_
    refine sq20 ?_
    refine z75 ?_
    refine dcw [] rfl Tryz.call151 (ref_U a (by omega)) rfl ?_ ?_ ?_ ?_
    · exact argsleT
    · exact stleT
    · exact hbtT
    rintro _ σ' ⟨ra, rfl, rfl⟩ hra
    replace hra := cnewT hra; repeat rcases hra with ⟨_, hra⟩
    apply rd_sto; exact nflT
    apply dap (es' := ([op] ++ uB a).map encU) (len' := ([op] ++ uB a).length); rfl; infer_instance; infer_instance; rfl; rfl; (exact sgT)
    · simp
    · exact .inr (.inr ⟨_, _, _, _, _, rfl, sgT, by simp, rfl⟩)
    · first | (simp [encU]; done) | (simp only [List.drop_zero, List.map_append]; congr 1; exact List.take_of_length_le (by simp))
    · simp; try omega
    · simp [maxLen]; try omega
    · simp; try omega
    · rfl
    · exact hbtT
    refine apnT fun r78 h78 => ?_; repeat rcases h78 with ⟨_, h78⟩
    refine dcw [] rfl Tryz.call151 (ref_U b (by omega)) rfl ?_ ?_ ?_ ?_
    · exact argsleT
    · exact stleT
    · exact hbtT
    rintro _ σ' ⟨rb, rfl, rfl⟩ hrb
    replace hrb := cnewT hrb; repeat rcases hrb with ⟨_, hrb⟩
    apply rd_sto; exact nflT
    apply dap (es' := (([op] ++ uB a) ++ uB b).map encU) (len' := (([op] ++ uB a) ++ uB b).length); rfl; infer_instance; infer_instance; rfl; rfl; (exact sgT)
    · simp
    · exact .inr (.inr ⟨_, _, _, _, _, rfl, sgT, by simp, rfl⟩)
    · first | (simp [encU]; done) | (simp only [List.drop_zero, List.map_append]; congr 1; exact List.take_of_length_le (by simp))
    · simp; try omega
    · simp [maxLen]; try omega
    · simp; try omega
    · rfl
    · exact hbtT
    refine apnT fun r83 h83 => ?_; repeat rcases h83 with ⟨_, h83⟩
    refine sq68 ?_
    rw [hp, ← List.append_assoc]
    apply aend; exact resT
    · exact ⟨_, rfl, rfl⟩
    · exact stleT
  refine sq33 ?_
  refine sw_cond rfl (fun g6 => ?_) (fun g6 => ?_)
  · refine ctlT ?_
    have hp : putT ⟨(op : Int), ai, bi, l⟩ = [0] := by unfold putT; simp only [g1, g2, g3, g4, g5, g6, if_true, if_false, Bool.false_eq_true]
    refine sq1 ?_
    refine z1 ?_; refine freshT fun r87 h87 => ?_; repeat rcases h87 with ⟨_, h87⟩
    apply ap (es' := ([op] ++ [0]).map encU) (len' := ([op] ++ [0]).length); rfl; rfl; (exact sgT)
    · simp
    · exact .inr (.inr ⟨_, _, _, _, _, rfl, sgT, by simp, rfl⟩)
    · first | (simp [encU]; done) | (simp only [List.drop_zero, List.map_append]; congr 1; exact List.take_of_length_le (by simp))
    · simp; try omega
    · simp [maxLen]; try omega
    · simp; try omega
    · rfl
    refine apnT fun r88 h88 => ?_; repeat rcases h88 with ⟨_, h88⟩
    refine sq2 ?_
    rw [hp]
    apply aend; exact resT
    · exact ⟨_, rfl, rfl⟩
    · exact stleT
  refine sq33 ?_
  apply sw_orr rfl; exact fdelT
  · intro _; (refine ctlT ?_)
    refine sq25 ?_
    exact sgoT
  refine ctlT ?_
  refine sw_cond rfl (fun g7 => ?_) (fun g7 => ?_)
  · refine ctlT ?_
    have hp : putT ⟨(op : Int), ai, bi, l⟩ = sB ai := by unfold putT; simp only [g1, g2, g3, g4, g5, g6, g7, if_true, if_false, Bool.false_eq_true]
    refine sq82 ?_
    refine cw [] Tryz.call200 (ref_S ai f8) rfl ?_ ?_ ?_
    · exact argsleT
    · exact stleT
    rintro _ σ' ⟨ra, rfl, rfl⟩ hra
    replace hra := cnewT hra; repeat rcases hra with ⟨_, hra⟩
    apply rs_sto; exact nflT
    apply ap (es' := ([op] ++ sB ai).map encU) (len' := ([op] ++ sB ai).length); rfl; rfl; (exact sgT)
    · simp
    · exact .inr (.inr ⟨_, _, _, _, _, rfl, sgT, by simp, rfl⟩)
    · first | (simp [encU]; done) | (simp only [List.drop_zero, List.map_append]; congr 1; exact List.take_of_length_le (by simp))
    · simp; try omega
    · simp [maxLen]; try omega
    · simp; try omega
    · rfl
    refine apnT fun r96 h96 => ?_; repeat rcases h96 with ⟨_, h96⟩
    refine sq2 ?_
    rw [hp]
    apply aend; exact resT
    · exact ⟨_, rfl, rfl⟩
    · exact stleT
  refine sq29 ?_
  apply aend; exact resT
  · (unfold putT; simp only [g1, g2, g3, g4, g5, g6, g7, if_true, if_false, Bool.false_eq_true, List.append_nil]; exact ⟨_, rfl, rfl⟩)
  · exact stleT
/-
  Reading parts of bytes: package instr's reader.
-/
/-- a reader's parts: the bytes, where it is, its error -/
def rv (l : List Nat) (n : Nat) (e : Int) : List AV := [.ro 1 (l.map encU) .any, .int .i64 n, .int .i64 e]
def rdB (l : List Nat) (n : Nat) (e : Int) : Nat × Nat × Int :=
  if (e != 0) = true then (0, n, e) else if ((n : Int) == (l.length : Int)) = true then (0, n, 2) else (l[n]!, n + 1, e)
def rdU (l : List Nat) (lim : Int) (n : Nat) (e : Int) : Nat × Nat × Int :=
  if (e != 0) = true then (0, n, e) else if ((getU (l.drop n)).2.2 != 0) = true then (0, n, (getU (l.drop n)).2.2) else if decide (lim < ((getU (l.drop n)).1 : Int)) = true then (0, n, 1) else ((getU (l.drop n)).1, n + (getU (l.drop n)).2.1, (getU (l.drop n)).2.2)
def rdS (l : List Nat) (bits : Nat) (n : Nat) : Int × Nat × Int := ((getS bits (l.drop n)).1, n + (getS bits (l.drop n)).2.1, (getS bits (l.drop n)).2.2)
theorem rdr_byte (r : Nat) (l : List Nat) (hl : l.length ≤ 1000000) (hlt : ∀ x ∈ l, x < 256) (n : Nat) (hn : n ≤ l.length) (e : Int) : SCall Tryz.prog 217 [.ptr r 0] [(r, .box 247 (rv l n e))]
    (fun x σ => x = .int .i64 ((rdB l n e).1 : Nat) ∧ σ = [(r, .box 247 (rv l (rdB l n e).2.1 (rdB l n e).2.2))]) := by
  refine scall_of (n := 42) (ks := [0, 2, 3, 9]) Tryz.func217 rfl rfl (Nat.le_of_ble_eq_true rfl) ?_
  unfold rv
  refine sq32 ?_
  refine sq50 ?_
  refine lo (lop_neq (E rfl) (E rfl)) rfl ?_
  refine sq2 ?_
  refine sw_cond rfl (fun g1 => ?_) (fun g1 => ?_)
  · refine sq7 ?_
    apply aend; exact resT
    · (unfold rdB; simp only [g1, if_true, if_false, Bool.false_eq_true]; exact ⟨rfl, rfl⟩)
    · exact stleT
  refine ctlT ?_
  refine rgD [(0, true), (1, true), (2, true), (3, true), (4, true), (5, true), (6, true), (7, true), (8, true), (9, true), (10, true)] ?_
  refine sq48 ?_
  refine sq48 ?_
  refine z78 ?_
  refine z79 ?_
  refine sq68 ?_
  refine sw_cond rfl (fun g2 => ?_) (fun g2 => ?_)
  · refine sq4 ?_
    refine sq60 ?_
    apply stp; rfl; rfl; rfl; rfl; (exact sputT)
    refine leT ?_
    refine sq7 ?_
    apply aend; exact resT
    · (unfold rdB; simp only [g1, g2, if_true, if_false, Bool.false_eq_true]; exact ⟨rfl, rfl⟩)
    · exact stleT
  refine sq4 ?_
  refine sq50 ?_
  refine z17 ?_
  refine sq60 ?_
  apply stp; rfl; rfl; rfl; rfl; (exact sputT)
  refine sq6 ?_
  have hlt2 : n < l.length := by simp at g2; omega
  refine rgD [(0, true), (1, true), (2, true), (3, true), (4, true), (5, true), (6, true), (7, true), (8, true), (9, true), (10, true), (11, true), (12, true)] ?_
  refine sq48 ?_
  refine sq48 ?_
  refine z82 ?_
  rw [show (n : Int) + 1 - 1 = (n : Nat) by omega]
  refine z56 ?_
  refine z57 ?_
  rw [Int.toNat_natCast]
  have hb8 := getB_lt hlt n
  refine z83 ?_
  refine sq68 ?_
  apply aend; exact resT
  · (unfold rdB; simp only [g1, g2, if_true, if_false, Bool.false_eq_true]; exact ⟨rfl, rfl⟩)
  · exact stleT
def rdZ (l : List Nat) (n : Nat) (e : Int) : Nat × Int := if (((rdB l n e).1 : Int) != 0) = true then ((rdB l n e).2.1, 1) else (rdB l n e).2
theorem rdr_zero (r : Nat) (l : List Nat) (hl : l.length ≤ 1000000) (hlt : ∀ x ∈ l, x < 256) (n : Nat) (hn : n ≤ l.length) (e : Int) : SCall Tryz.prog 220 [.ptr r 0] [(r, .box 247 (rv l n e))]
    (fun x σ => x = .tup [] ∧ σ = [(r, .box 247 (rv l (rdZ l n e).1 (rdZ l n e).2))]) := by
  refine scall_of (n := 8) (ks := [0, 4]) Tryz.func220 rfl rfl (Nat.le_of_ble_eq_true rfl) ?_
  unfold rv
  refine sq4 ?_
  refine cw [(r, .box 247 (rv l n e))] Tryz.call217 (rdr_byte r l hl hlt n hn e) rfl ?_ ?_ ?_
  · exact argsleT
  · exact stleT
  rintro _ σ' ⟨rfl, rfl⟩ -
  apply rs_sto; exact nflT
  refine sq23 ?_
  unfold rv
  refine sw_cond rfl (fun g1 => ?_) (fun g1 => ?_)
  · refine sq4 ?_
    refine sq60 ?_
    apply stp; rfl; rfl; rfl; rfl; (exact sputT)
    refine sq6 ?_
    refine aend_n ?_
    apply aend; exact resT
    · unfold rdZ; rw [if_pos g1]; exact ⟨rfl, rfl⟩
    · exact stleT
  · refine ctlT ?_
    refine aend_n ?_
    apply aend; exact resT
    · unfold rdZ; rw [if_neg (by rw [g1]; simp)]; exact ⟨rfl, rfl⟩
    · exact stleT
theorem drop_encU {l : List Nat} {n : Nat} : List.take ((l.map encU).length - n) (List.drop n (l.map encU)) = (l.drop n).map encU := by
  rw [List.map_drop, List.take_of_length_le (by simp)]
theorem unsigned_yes {e : Int} {b : Bool} (h : (if (e == 0) = true then b else false) = true) : e = 0 ∧ b = true := by
  split at h
  · next h1 => exact ⟨by simpa using h1, h⟩
  · cases h
theorem unsigned_no {e : Int} {b : Bool} (h : (if (e == 0) = true then b else false) = false) (h0 : (e != 0) = false) : e = 0 ∧ b = false := by
  have h1 : e = 0 := by simpa using h0
  subst h1
  exact ⟨rfl, h⟩
theorem rdr_unsigned (r : Nat) (l : List Nat) (hl : l.length ≤ 1000000) (hlt : ∀ x ∈ l, x < 256) (lim : Int) (n : Nat) (hn : n ≤ l.length) (e : Int) : SCall Tryz.prog 219 [.ptr r 0, .int .i64 lim] [(r, .box 247 (rv l n e))]
    (fun x σ => x = .int .i64 ((rdU l lim n e).1 : Nat) ∧ σ = [(r, .box 247 (rv l (rdU l lim n e).2.1 (rdU l lim n e).2.2))]) := by
  have hbd := getU_bd (l.drop n)
  obtain ⟨hb1, hb2, hb3⟩ := hbd
  rw [List.length_drop] at hb2
  refine scall_of (n := 51) (ks := [0, 1, 4, 5, 6, 7, 12, 34, 40]) Tryz.func219 rfl rfl (Nat.le_of_ble_eq_true rfl) ?_
  unfold rv
  refine sq32 ?_
  refine sq99 ?_
  refine sw_cond rfl (fun g1 => ?_) (fun g1 => ?_)
  · refine sq7 ?_
    apply aend; exact resT
    · (unfold rdU; simp only [g1, if_true, if_false, Bool.false_eq_true]; first | exact ⟨rfl, rfl⟩ | (have hd := unsigned_no g2 g3; simp only [hd.2, Bool.false_eq_true, if_false]; exact ⟨rfl, rfl⟩))
    · exact stleT
  refine ctlT ?_
  refine rgD [(0, true), (1, true), (2, true), (3, true), (4, true), (5, true), (6, true), (7, true), (8, true), (9, false), (10, true), (11, true), (12, true), (13, true), (14, true), (15, true), (16, true)] ?_
  refine sq48 ?_
  refine sq48 ?_
  refine z84 ?_
  rw [drop_encU]
  refine dpu [] rfl Tryz.call131 (leb_U (l.drop n) (by rw [List.length_drop]; omega) (fun x hx => hlt x (List.mem_of_mem_drop hx))) rfl argsT nofT ?_
  refine dlo rfl (lop_move (E rfl)) rfl ?_
  refine z85 ?_
  refine z85 ?_
  refine z85 ?_
  refine dlo rfl (lop_assign (E rfl)) rfl ?_
  refine sq30 ?_
  refine sq4 ?_
  refine lo (lop_eql (E rfl) (E rfl)) rfl ?_
  refine sq49 ?_
  refine z80 ?_
  refine z4 ?_
  refine z81 ?_
  refine z7 ?_
  refine sq6 ?_
  refine sw_cond rfl (fun g2 => ?_) (fun g2 => ?_)
  · refine sq57 ?_
    refine sq60 ?_
    apply stp; rfl; rfl; rfl; rfl; (exact sputT)
    refine sq38 ?_
    refine lo (lop_neq (E rfl) (E rfl)) rfl ?_
    refine leT ?_
    refine sq7 ?_
    apply aend; exact resT
    · unfold rdU
      have hd := unsigned_yes g2
      simp only [g1, hd.1, hd.2, bne_self_eq_false, Bool.false_eq_true, if_true, if_false]
      exact ⟨rfl, rfl⟩
    · exact stleT
  refine sq8 ?_
  refine sq60 ?_
  apply stp; rfl; rfl; rfl; rfl; (exact sputT)
  refine sq38 ?_
  refine sq23 ?_
  refine sw_cond rfl (fun g3 => ?_) (fun g3 => ?_)
  · refine sq7 ?_
    apply aend; exact resT
    · (unfold rdU; simp only [g1, g2, g3, if_true, if_false, Bool.false_eq_true]; first | exact ⟨rfl, rfl⟩ | (have hd := unsigned_no g2 g3; simp only [hd.2, Bool.false_eq_true, if_false]; exact ⟨rfl, rfl⟩))
    · exact stleT
  refine sq4 ?_
  refine sq50 ?_
  refine lo (lop_move (E rfl)) rfl ?_
  refine z17 ?_
  refine sq60 ?_
  apply stp; rfl; rfl; rfl; rfl; (exact sputT)
  refine sq38 ?_
  refine z44 ?_
  refine sq2 ?_
  apply aend; exact resT
  · (unfold rdU; simp only [g1, g2, g3, if_true, if_false, Bool.false_eq_true]; first | exact ⟨rfl, rfl⟩ | (have hd := unsigned_no g2 g3; simp only [hd.2, Bool.false_eq_true, if_false]; exact ⟨rfl, rfl⟩))
  · exact stleT
theorem rdr_signed (r : Nat) (l : List Nat) (hl : l.length ≤ 1000000) (hlt : ∀ x ∈ l, x < 256) (bits : Nat) (hb : bits = 32 ∨ bits = 64) (n : Nat) (hn : n ≤ l.length) (e : Int) : SCall Tryz.prog 221 [.ptr r 0, .int .i64 bits] [(r, .box 247 (rv l n e))]
    (fun x σ => x = .int .i64 (rdS l bits n).1 ∧ σ = [(r, .box 247 (rv l (rdS l bits n).2.1 (rdS l bits n).2.2))]) := by
  have hbd := getS_bd bits (l.drop n)
  rw [List.length_drop] at hbd
  refine scall_of (n := 37) (ks := [0, 1, 4, 5, 6, 7]) Tryz.func221 rfl rfl (Nat.le_of_ble_eq_true rfl) ?_
  unfold rv rdS
  refine sq7 ?_
  refine rgD [(0, true), (1, true), (2, true), (3, true), (4, true), (5, true), (6, true), (7, true), (8, true), (9, true), (10, false), (11, true), (12, true), (13, true), (14, true), (15, true), (16, true), (17, true)] ?_
  refine sq48 ?_
  refine sq48 ?_
  refine z84 ?_
  refine dlo rfl (lop_move (E rfl)) rfl ?_
  rw [drop_encU]
  refine dpu [] rfl Tryz.call224 (leb_S (l.drop n) (by rw [List.length_drop]; omega) (fun x hx => hlt x (List.mem_of_mem_drop hx)) bits hb) rfl argsT nofT ?_
  refine dlo rfl (lop_move (E rfl)) rfl ?_
  refine z85 ?_
  refine z85 ?_
  refine z85 ?_
  refine dlo rfl (lop_assign (E rfl)) rfl ?_
  refine sq30 ?_
  refine sq8 ?_
  refine lo (lop_move (E rfl)) rfl ?_
  refine sq50 ?_
  refine lo (lop_move (E rfl)) rfl ?_
  refine z17 ?_
  refine lo (lop_move (E rfl)) rfl ?_
  refine sq60 ?_
  apply stp; rfl; rfl; rfl; rfl; (exact sputT)
  refine sq60 ?_
  apply stp; rfl; rfl; rfl; rfl; (exact sputT)
  refine leT ?_
  refine sq29 ?_
  apply aend; exact resT
  · exact ⟨rfl, rfl⟩
  · exact stleT
/-
  Reading parts of bytes, in the document's words; slices.Index at numbers; a block's kind.
-/
/-- where y stands in l first; -1: nowhere -/
def idxN (l : List Int) (y : Int) : Int := match l.findIdx? (· == y) with | some i => i | none => -1
theorem lib_index_int {k : Rk} (l : List Int) (y : Int) : SCall Tryz.prog 223 [.ro 1 (l.map encI) k, .int .i64 y] [] (fun x σ => x = .int .i64 (idxN l y) ∧ σ = []) := by
  refine scall_of (n := 19) (ks := [0, 1, 4, 5, 7, 8, 9, 16]) Tryz.func223 rfl rfl (Nat.le_of_ble_eq_true rfl) ?_
  refine sw_max (i := 0) rfl fun hm => ?_
  rw [List.length_map] at hm
  unfold maxLen at hm
  refine sq100 ?_
  refine lp (β := Nat) (fun j => ⟨[(0, .ro 1 (l.map encI) k), (1, .int .i64 y), (7, .int .i64 l.length), (8, .int .i64 j)], []⟩) (fun j => j ≤ l.length ∧ ∀ i, i < j → l[i]? ≠ some y) (fun j => l.length - j) 0 ?_ ⟨Nat.zero_le _, fun i hi => by omega⟩ ?_
  · exact sgoT
  rintro j ⟨hj, ht⟩
  refine sq42 ?_
  refine sw_cond rfl (fun h1 => ?_) (fun h1 => ?_)
  · have hlt : j < l.length := by simp at h1; omega
    obtain ⟨x, hx⟩ : ∃ x, l[j]? = some x := ⟨_, List.getElem?_eq_getElem hlt⟩
    refine sq94 ?_
    refine z16 ?_
    refine sq36 ?_
    refine sw_cond rfl (fun h2 => ?_) (fun h2 => ?_)
    · have hxy : y = x := by simpa using h2
      refine sq29 ?_
      apply aend; exact resT
      · have : l.findIdx? (· == y) = some j := by
          rw [List.findIdx?_eq_some_iff_getElem]
          refine ⟨hlt, ?_, fun i hi => ?_⟩
          · rw [List.getElem?_eq_getElem hlt] at hx; simp at hx ⊢; rw [hx, hxy]
          · have := ht i hi
            rw [List.getElem?_eq_getElem (by omega)] at this
            simpa using this
        unfold idxN
        rw [this]
        exact ⟨rfl, rfl⟩
      · exact stleT
    · have hxy : y ≠ x := by simpa using h2
      refine sq54 ?_
      refine ⟨j + 1, ⟨by omega, fun i hi => ?_⟩, by omega, ?_⟩
      · by_cases hij : i = j
        · subst hij; rw [hx]; simpa using fun e => hxy e.symm
        · exact ht i (by omega)
      · exact sgoT
  · obtain rfl : j = l.length := by simp at h1; omega
    refine sq7 ?_
    apply aend; exact resT
    · have : l.findIdx? (· == y) = none := by
        rw [List.findIdx?_eq_none_iff]
        intro x hx
        obtain ⟨i, hi, rfl⟩ := List.mem_iff_getElem.1 hx
        have := ht i hi
        rw [List.getElem?_eq_getElem hi] at this
        simpa using this
      unfold idxN
      rw [this]
      exact ⟨rfl, rfl⟩
    · exact stleT
/-
  A block's kind; the program's Get.
-/
def kindI (c : Nat) : Int := idxN [64, 127, 126] c
def rdK (l : List Nat) (n : Nat) (e : Int) : Int × Nat × Int :=
  if (if decide (kindI (rdB l n e).1 < 0) = true then ((rdB l n e).2.2 == 0) else false) = true then (if kindI (rdB l n e).1 < 0 then 0 else kindI (rdB l n e).1, (rdB l n e).2.1, 1) else (if kindI (rdB l n e).1 < 0 then 0 else kindI (rdB l n e).1, (rdB l n e).2.1, (rdB l n e).2.2)
theorem rdr_kind (r : Nat) (l : List Nat) (hl : l.length ≤ 1000000) (hlt : ∀ x ∈ l, x < 256) (n : Nat) (hn : n ≤ l.length) (e : Int) : SCall Tryz.prog 218 [.ptr r 0] [(r, .box 247 (rv l n e))]
    (fun x σ => x = .int .i64 (rdK l n e).1 ∧ σ = [(r, .box 247 (rv l (rdK l n e).2.1 (rdK l n e).2.2))]) := by
  refine scall_of (n := 24) (ks := [0, 2, 3, 4, 18]) Tryz.func218 rfl rfl (Nat.le_of_ble_eq_true rfl) ?_
  unfold rv
  refine sq32 ?_
  refine cw [(r, .box 247 (rv l n e))] Tryz.call217 (rdr_byte r l hl hlt n hn e) rfl ?_ ?_ ?_
  · exact argsleT
  · exact stleT
  rintro _ σ' ⟨rfl, rfl⟩ -
  apply rs_sto; exact nflT
  refine sq2 ?_
  unfold rv
  refine rgT ?_
  refine z1 ?_; refine freshT fun r7 h7 => ?_; repeat rcases h7 with ⟨_, h7⟩
  refine lo (lop_move (E rfl)) rfl ?_
  rw [show ([[.int .i64 64], [.int .i64 127], [.int .i64 126]] : List (List AV)) = [64, 127, 126].map encI from rfl]
  refine pu [r7] Tryz.call223 (lib_index_int (k := .any) [64, 127, 126] ((rdB l n e).1 : Nat)) rfl ?_ nofT ?_
  · exact pargsT
  refine sq2 ?_
  rw [show idxN [64, 127, 126] ((rdB l n e).1 : Nat) = kindI (rdB l n e).1 from rfl]
  refine sq1 ?_
  refine lo (lop_lss (E rfl) (E rfl)) rfl ?_
  refine sq49 ?_
  refine z91 ?_
  refine z92 ?_
  refine z62 ?_
  refine z6 ?_
  refine z7 ?_
  refine sq6 ?_
  refine sw_cond rfl (fun g1 => ?_) (fun g1 => ?_)
  · refine sq4 ?_
    refine sq60 ?_
    apply stp; rfl; rfl; rfl; rfl; (exact sputT)
    refine sq38 ?_
    refine lo (lop_max (E rfl) (E rfl)) rfl ?_
    refine sq2 ?_
    apply aend; exact resT
    · (unfold rdK; simp only [g1, if_true, if_false, Bool.false_eq_true]; exact ⟨rfl, rfl⟩)
    · exact stleT
  refine sq4 ?_
  refine lo (lop_max (E rfl) (E rfl)) rfl ?_
  refine sq2 ?_
  apply aend; exact resT
  · (unfold rdK; simp only [g1, if_true, if_false, Bool.false_eq_true]; exact ⟨rfl, rfl⟩)
  · exact stleT
/-
  The program's Get.
-/
def io (q : Nat) (x : Ins) : List AV := [.int .i64 x.op, .int .i64 x.a, .int .i64 x.b, .own q 0 x.l.length]
def ins0 : Ins := ⟨0, 0, 0, []⟩
/-- m numbers, one behind the other -/
def rdL (l : List Nat) : Nat → Nat → Int → List Int × Nat × Int
  | 0, n, e => ([], n, e)
  | m + 1, n, e => (((rdL l m n e).1 ++ [((rdU l 1000 (rdL l m n e).2.1 (rdL l m n e).2.2).1 : Int)]), (rdU l 1000 (rdL l m n e).2.1 (rdL l m n e).2.2).2)
def fin (x : Ins) (n : Nat) (e : Int) : Ins × Nat × Int := if (e != 0) = true then (ins0, 0, e) else (x, n, 0)
/-- what stands behind the byte -/
def getT (l : List Nat) (op : Int) (n : Nat) (e : Int) : Ins × Nat × Int :=
  if (formN op == 2) = true then fin ⟨op, (rdK l n e).1, 0, []⟩ (rdK l n e).2.1 (rdK l n e).2.2
  else if (formN op == 3) = true then fin ⟨op, (rdU l 1000 n e).1, 0, []⟩ (rdU l 1000 n e).2.1 (rdU l 1000 n e).2.2
  else if (formN op == 5) = true then fin ⟨op, (rdU l 1000 n e).1, 0, []⟩ (rdZ l (rdU l 1000 n e).2.1 (rdU l 1000 n e).2.2).1 (rdZ l (rdU l 1000 n e).2.1 (rdU l 1000 n e).2.2).2
  else if (formN op == 4) = true then
    let u := rdU l 50 n e
    let w := rdL l u.1 u.2.1 u.2.2
    let v := rdU l 1000 w.2.1 w.2.2
    fin ⟨op, v.1, 0, w.1⟩ v.2.1 v.2.2
  else if (formN op == 6) = true then
    let u := rdU l 3 n e
    let v := rdU l 4294967295 u.2.1 u.2.2
    fin ⟨op, u.1, v.1, []⟩ v.2.1 v.2.2
  else if (formN op == 7) = true then fin ⟨op, 0, 0, []⟩ (rdZ l n e).1 (rdZ l n e).2
  else if (formN op == 8) = true then fin ⟨op, (rdS l 32 n).1, 0, []⟩ (rdS l 32 n).2.1 (rdS l 32 n).2.2
  else if (formN op == 9) = true then fin ⟨op, (rdS l 64 n).1, 0, []⟩ (rdS l 64 n).2.1 (rdS l 64 n).2.2
  else fin ⟨op, 0, 0, []⟩ n e
def getP (l : List Nat) : Ins × Nat × Int :=
  if (formN ((rdB l 0 0).1 : Nat) == 0) = true then (ins0, 0, 1)
  else if ((rdB l 0 0).2.2 != 0) = true then (ins0, 0, (rdB l 0 0).2.2)
  else getT l ((rdB l 0 0).1 : Nat) (rdB l 0 0).2.1 (rdB l 0 0).2.2
theorem rdB_bd {l : List Nat} {n : Nat} {e : Int} (h : n ≤ l.length) : (rdB l n e).2.1 ≤ l.length := by
  unfold rdB
  split
  · exact h
  · split
    · exact h
    · next h1 => simp at h1 ⊢; omega
theorem rdU_bd {l : List Nat} {lim : Int} {n : Nat} {e : Int} (h : n ≤ l.length) : (rdU l lim n e).2.1 ≤ l.length := by
  have h1 := (getU_bd (l.drop n)).2.1
  rw [List.length_drop] at h1
  unfold rdU
  repeat' split
  all_goals first | exact h | (simp; omega)
theorem rdU_le {l : List Nat} {lim : Int} {n : Nat} {e : Int} (h : 0 ≤ lim) : ((rdU l lim n e).1 : Int) ≤ lim := by
  unfold rdU
  split
  · exact h
  · split
    · exact h
    · split
      · exact h
      · next h1 => simp at h1 ⊢; omega
theorem rdL_bd {l : List Nat} : ∀ {m n : Nat} {e : Int}, n ≤ l.length → (rdL l m n e).2.1 ≤ l.length
  | 0, _, _, h => h
  | _ + 1, _, _, h => rdU_bd (rdL_bd h)
theorem rdL_len {l : List Nat} : ∀ {m n : Nat} {e : Int}, (rdL l m n e).1.length = m
  | 0, _, _ => rfl
  | m + 1, n, e => by rw [rdL]; simp [rdL_len (m := m)]
theorem instr_get (l : List Nat) (hl : l.length ≤ 1000000) (hlt : ∀ x ∈ l, x < 256) : SCall Tryz.prog 213 [.ro 1 (l.map encU) .any] []
    (fun y σ => ∃ q, y = .tup [.agg (io q (getP l).1), .int .i64 ((getP l).2.1 : Nat), .int .i64 (getP l).2.2] ∧ σ = [(q, .arr 3 1 ((getP l).1.l.map encI))]) := by
  refine scall_of (n := 104) (ks := [0, 2, 3, 4, 5, 6, 7, 18, 26, 32, 33, 38, 43, 50, 53, 54, 55, 67, 75, 79, 84, 93]) Tryz.func213 rfl rfl (Nat.le_of_ble_eq_true rfl) ?_
  refine sq3 ?_
  apply al; rfl; (exact zcT); refine freshT fun r2 h2 => ?_; repeat rcases h2 with ⟨_, h2⟩
  refine sq88 ?_
  refine z93 ?_
  apply bx; rfl; rfl; (exact zcT); rfl; refine freshT fun r10 h10 => ?_; repeat rcases h10 with ⟨_, h10⟩
  refine sq27 ?_
  refine cw [(r10, .box 247 (rv l (0) (0)))] Tryz.call217 (rdr_byte r10 l hl hlt 0 (by omega) 0) rfl ?_ ?_ ?_
  · exact argsleT
  · exact stleT
  rintro _ σ' ⟨rfl, rfl⟩ -
  apply rs_sto; exact nflT
  unfold rv
  refine z93 ?_
  apply al; rfl; (exact zcT); refine freshT fun r6 h6 => ?_; repeat rcases h6 with ⟨_, h6⟩
  apply stp; rfl; rfl; rfl; rfl; (exact sputT)
  refine leT ?_
  refine an ?_
  refine sw_virt_box (ks := [0, 2, 3, 4, 5, 6, 7, 18, 26, 32, 33, 38, 43, 50, 53, 54, 55, 67, 75, 79, 84, 93]) r6 3 3 1 (by decide) sgT rfl (by decide) fun q hq => ?_
  simp only [fresh_cons, fresh_nil, and_true] at hq; repeat rcases hq with ⟨_, hq⟩
  apply Exists.intro; apply And.intro; (exact ssetT)
  refine ctlT ?_
  have hn1 := rdB_bd (l := l) (n := 0) (e := 0) (by omega)
  generalize hB : rdB l 0 0 = bb at *
  obtain ⟨c, n1, e1⟩ := bb
  dsimp only at hn1 ⊢
  rw [show ([AV.int .i64 (c : Int), .int .i64 0, .int .i64 0, .ro 0 [] .nil].set 3 (.own q 0 0)) = [.int .i64 (c : Int), .int .i64 0, .int .i64 0, .own q 0 0] from rfl]
  refine rgT ?_
  refine sq12 ?_
  (first | refine ln rfl rfl rfl rfl ?_ | refine lw rfl rfl (lop_no (v := .bool false)) rfl ?_ | refine pu [] Tryz.call109 (instr_formN _) rfl argsT nofT ?_ | refine pug [] rfl rfl Tryz.call109 (fun _ => (instr_formN _)) rfl argsT nofT ?_ | refine puw [] rfl rfl Tryz.call109 (fun _ => (instr_formN _)) rfl argsT nofT ?_)
  refine sq27 ?_
  refine sq36 ?_
  refine sw_cond rfl (fun g1 => ?_) (fun g1 => ?_)
  · refine ctlT ?_
    have hG : getP l = (ins0, 0, 1) := by unfold getP; rw [hB]; simp only [g1, if_true]
    refine sq1 ?_
    refine sq60 ?_
    apply stp; rfl; rfl; rfl; rfl; (exact sputT)
    refine sq38 ?_
    refine sq99 ?_
    refine rgD [(0, true), (1, true), (2, true), (3, true), (4, true), (5, false), (6, true), (7, true)] ?_
    refine sq103 ?_
    refine an ?_
    refine sw_virt_box (ks := [0, 2, 3, 4, 5, 6, 7, 18, 26, 32, 33, 38, 43, 50, 53, 54, 55, 67, 75, 79, 84, 93]) r2 3 3 1 (by decide) sgT rfl (by decide) fun qz hqz => ?_
    simp only [fresh_cons, fresh_nil, and_true] at hqz; repeat rcases hqz with ⟨_, hqz⟩
    apply Exists.intro; apply And.intro; (exact ssetT)
    refine ctlT ?_
    apply aend; exact resT
    · rw [hG]; exact ⟨qz, rfl, rfl⟩
    · exact stleT
  refine sq4 ?_
  refine sq99 ?_
  refine sw_cond rfl (fun g2 => ?_) (fun g2 => ?_)
  · refine ctlT ?_
    have hG : getP l = (ins0, 0, e1) := by unfold getP; rw [hB]; simp only [g1, g2, if_true, if_false, Bool.false_eq_true]
    refine rgD [(0, true), (1, true), (2, true), (3, true), (4, true), (5, false), (6, true), (7, true)] ?_
    refine sq103 ?_
    refine an ?_
    refine sw_virt_box (ks := [0, 2, 3, 4, 5, 6, 7, 18, 26, 32, 33, 38, 43, 50, 53, 54, 55, 67, 75, 79, 84, 93]) r2 3 3 1 (by decide) sgT rfl (by decide) fun qz hqz => ?_
    simp only [fresh_cons, fresh_nil, and_true] at hqz; repeat rcases hqz with ⟨_, hqz⟩
    apply Exists.intro; apply And.intro; (exact ssetT)
    refine ctlT ?_
    apply aend; exact resT
    · rw [hG]; exact ⟨qz, rfl, rfl⟩
    · exact stleT
  refine sq4 ?_
  refine leT ?_
  refine sq33 ?_
  refine sw_cond rfl (fun g3 => ?_) (fun g3 => ?_)
  · refine ctlT ?_
    have hG : getP l = fin ⟨(c : Int), (rdK l n1 e1).1, 0, []⟩ (rdK l n1 e1).2.1 (rdK l n1 e1).2.2 := by unfold getP getT; rw [hB]; simp only [g1, g2, g3, if_true, if_false, Bool.false_eq_true]
    refine sq1 ?_
    refine cw [(r10, .box 247 (rv l (n1) (e1)))] Tryz.call218 (rdr_kind r10 l hl hlt n1 hn1 e1) rfl ?_ ?_ ?_
    · exact argsleT
    · exact stleT
    rintro _ σ' ⟨rfl, rfl⟩ -
    apply rs_sto; exact nflT
    unfold rv
    refine z59 ?_
    apply stp; rfl; rfl; rfl; rfl; (exact sputT)
    refine sq38 ?_
    refine sq99 ?_
    refine sw_cond rfl (fun ge => ?_) (fun ge => ?_)
    · unfold fin at hG
      rw [ge] at hG
      simp only [if_true] at hG
      refine ctlT ?_
      refine rgD [(0, true), (1, true), (2, true), (3, true), (4, true), (5, false), (6, true), (7, true)] ?_
      refine sq103 ?_
      refine an ?_
      refine sw_virt_box (ks := [0, 2, 3, 4, 5, 6, 7, 18, 26, 32, 33, 38, 43, 50, 53, 54, 55, 67, 75, 79, 84, 93]) r2 3 3 1 (by decide) sgT rfl (by decide) fun qz hqz => ?_
      simp only [fresh_cons, fresh_nil, and_true] at hqz; repeat rcases hqz with ⟨_, hqz⟩
      apply Exists.intro; apply And.intro; (exact ssetT)
      refine ctlT ?_
      apply aend; exact resT
      · rw [hG]; exact ⟨qz, rfl, rfl⟩
      · exact stleT
    · unfold fin at hG
      rw [ge] at hG
      simp only [Bool.false_eq_true, if_false] at hG
      refine ctlT ?_
      refine rgD [(0, true), (1, true), (2, true), (3, true), (4, true), (5, false), (6, true), (7, true)] ?_
      refine z96 ?_
      refine sq65 ?_
      refine ctlT ?_
      apply aend; exact resT
      · rw [hG]; exact ⟨q, rfl, rfl⟩
      · exact stleT
  refine sq33 ?_
  refine sw_cond rfl (fun g4 => ?_) (fun g4 => ?_)
  · refine ctlT ?_
    have hG : getP l = fin ⟨(c : Int), (rdU l 1000 n1 e1).1, 0, []⟩ (rdU l 1000 n1 e1).2.1 (rdU l 1000 n1 e1).2.2 := by unfold getP getT; rw [hB]; simp only [g1, g2, g3, g4, if_true, if_false, Bool.false_eq_true]
    refine sq1 ?_
    refine cw [(r10, .box 247 (rv l (n1) (e1)))] Tryz.call219 (rdr_unsigned r10 l hl hlt 1000 n1 hn1 e1) rfl ?_ ?_ ?_
    · exact argsleT
    · exact stleT
    rintro _ σ' ⟨rfl, rfl⟩ -
    apply rs_sto; exact nflT
    unfold rv
    refine z59 ?_
    apply stp; rfl; rfl; rfl; rfl; (exact sputT)
    refine sq38 ?_
    refine sq99 ?_
    refine sw_cond rfl (fun ge => ?_) (fun ge => ?_)
    · unfold fin at hG
      rw [ge] at hG
      simp only [if_true] at hG
      refine ctlT ?_
      refine rgD [(0, true), (1, true), (2, true), (3, true), (4, true), (5, false), (6, true), (7, true)] ?_
      refine sq103 ?_
      refine an ?_
      refine sw_virt_box (ks := [0, 2, 3, 4, 5, 6, 7, 18, 26, 32, 33, 38, 43, 50, 53, 54, 55, 67, 75, 79, 84, 93]) r2 3 3 1 (by decide) sgT rfl (by decide) fun qz hqz => ?_
      simp only [fresh_cons, fresh_nil, and_true] at hqz; repeat rcases hqz with ⟨_, hqz⟩
      apply Exists.intro; apply And.intro; (exact ssetT)
      refine ctlT ?_
      apply aend; exact resT
      · rw [hG]; exact ⟨qz, rfl, rfl⟩
      · exact stleT
    · unfold fin at hG
      rw [ge] at hG
      simp only [Bool.false_eq_true, if_false] at hG
      refine ctlT ?_
      refine rgD [(0, true), (1, true), (2, true), (3, true), (4, true), (5, false), (6, true), (7, true)] ?_
      refine z96 ?_
      refine sq65 ?_
      refine ctlT ?_
      apply aend; exact resT
      · rw [hG]; exact ⟨q, rfl, rfl⟩
      · exact stleT
  refine sq33 ?_
  refine sw_cond rfl (fun g5 => ?_) (fun g5 => ?_)
  · refine ctlT ?_
    have hG : getP l = fin ⟨(c : Int), (rdU l 1000 n1 e1).1, 0, []⟩ (rdZ l (rdU l 1000 n1 e1).2.1 (rdU l 1000 n1 e1).2.2).1 (rdZ l (rdU l 1000 n1 e1).2.1 (rdU l 1000 n1 e1).2.2).2 := by unfold getP getT; rw [hB]; simp only [g1, g2, g3, g4, g5, if_true, if_false, Bool.false_eq_true]
    have hn2 := rdU_bd (lim := 1000) (e := e1) hn1
    refine sq1 ?_
    refine cw [(r10, .box 247 (rv l (n1) (e1)))] Tryz.call219 (rdr_unsigned r10 l hl hlt 1000 n1 hn1 e1) rfl ?_ ?_ ?_
    · exact argsleT
    · exact stleT
    rintro _ σ' ⟨rfl, rfl⟩ -
    apply rs_sto; exact nflT
    unfold rv
    refine z59 ?_
    apply stp; rfl; rfl; rfl; rfl; (exact sputT)
    refine sq6 ?_
    generalize rdU l 1000 n1 e1 = u at *
    obtain ⟨a, n2, e2⟩ := u
    dsimp only at hn2 hG ⊢
    refine sq1 ?_
    refine cw [(r10, .box 247 (rv l (n2) (e2)))] Tryz.call220 (rdr_zero r10 l hl hlt n2 hn2 e2) rfl ?_ ?_ ?_
    · exact argsleT
    · exact stleT
    rintro _ σ' ⟨rfl, rfl⟩ -
    apply rs_sto; exact nflT
    unfold rv
    refine sq38 ?_
    refine sq99 ?_
    refine sw_cond rfl (fun ge => ?_) (fun ge => ?_)
    · unfold fin at hG
      rw [ge] at hG
      simp only [if_true] at hG
      refine ctlT ?_
      refine rgD [(0, true), (1, true), (2, true), (3, true), (4, true), (5, false), (6, true), (7, true)] ?_
      refine sq103 ?_
      refine an ?_
      refine sw_virt_box (ks := [0, 2, 3, 4, 5, 6, 7, 18, 26, 32, 33, 38, 43, 50, 53, 54, 55, 67, 75, 79, 84, 93]) r2 3 3 1 (by decide) sgT rfl (by decide) fun qz hqz => ?_
      simp only [fresh_cons, fresh_nil, and_true] at hqz; repeat rcases hqz with ⟨_, hqz⟩
      apply Exists.intro; apply And.intro; (exact ssetT)
      refine ctlT ?_
      apply aend; exact resT
      · rw [hG]; exact ⟨qz, rfl, rfl⟩
      · exact stleT
    · unfold fin at hG
      rw [ge] at hG
      simp only [Bool.false_eq_true, if_false] at hG
      refine ctlT ?_
      refine rgD [(0, true), (1, true), (2, true), (3, true), (4, true), (5, false), (6, true), (7, true)] ?_
      refine z96 ?_
      refine sq65 ?_
      refine ctlT ?_
      apply aend; exact resT
      · rw [hG]; exact ⟨q, rfl, rfl⟩
      · exact stleT
  refine sq33 ?_
  refine sw_cond rfl (fun g6 => ?_) (fun g6 => ?_)
  · refine ctlT ?_
    have hG : getP l = fin ⟨(c : Int), (rdU l 1000 (rdL l (rdU l 50 n1 e1).1 (rdU l 50 n1 e1).2.1 (rdU l 50 n1 e1).2.2).2.1 (rdL l (rdU l 50 n1 e1).1 (rdU l 50 n1 e1).2.1 (rdU l 50 n1 e1).2.2).2.2).1, 0, (rdL l (rdU l 50 n1 e1).1 (rdU l 50 n1 e1).2.1 (rdU l 50 n1 e1).2.2).1⟩ (rdU l 1000 (rdL l (rdU l 50 n1 e1).1 (rdU l 50 n1 e1).2.1 (rdU l 50 n1 e1).2.2).2.1 (rdL l (rdU l 50 n1 e1).1 (rdU l 50 n1 e1).2.1 (rdU l 50 n1 e1).2.2).2.2).2.1 (rdU l 1000 (rdL l (rdU l 50 n1 e1).1 (rdU l 50 n1 e1).2.1 (rdU l 50 n1 e1).2.2).2.1 (rdL l (rdU l 50 n1 e1).1 (rdU l 50 n1 e1).2.1 (rdU l 50 n1 e1).2.2).2.2).2.2 := by unfold getP getT; rw [hB]; simp only [g1, g2, g3, g4, g5, g6, if_true, if_false, Bool.false_eq_true]
    have hn2 := rdU_bd (lim := 50) (e := e1) hn1
    have hm50 := rdU_le (l := l) (lim := 50) (n := n1) (e := e1) (by omega)
    refine sq1 ?_
    refine cw [(r10, .box 247 (rv l (n1) (e1)))] Tryz.call219 (rdr_unsigned r10 l hl hlt 50 n1 hn1 e1) rfl ?_ ?_ ?_
    · exact argsleT
    · exact stleT
    rintro _ σ' ⟨rfl, rfl⟩ -
    apply rs_sto; exact nflT
    unfold rv
    refine sq11 ?_
    generalize rdU l 50 n1 e1 = u at *
    obtain ⟨m, n2, e2⟩ := u
    dsimp only at hn2 hm50 hG ⊢
    refine lp (β := Nat × Nat) (fun b => ⟨[(2, .ptr r2 0), (5, .ptr r10 0), (6, .ptr r6 0), (53, .int .i64 m), (54, .int .i64 b.2)], [(b.1, .arr 3 1 ((rdL l b.2 n2 e2).1.map encI)), (r6, .box 56 [.int .i64 c, .int .i64 0, .int .i64 0, .own b.1 0 (rdL l b.2 n2 e2).1.length]), (r10, .box 247 (rv l (rdL l b.2 n2 e2).2.1 (rdL l b.2 n2 e2).2.2)), (r2, .box 56 [.int .i64 0, .int .i64 0, .int .i64 0, .ro 0 [] .nil])]⟩) (fun b => (Nq b.1 r6 ∧ Nq b.1 r10 ∧ Nq b.1 r2) ∧ b.2 ≤ m) (fun b => m - b.2) (q, 0) (by (exact sgoT)) ⟨⟨by (exact nqT), by (exact nqT), by (exact nqT)⟩, Nat.zero_le _⟩ ?_
    rintro ⟨p, j⟩ ⟨⟨hp1, hp2, hp3⟩, hj⟩
    dsimp only at hp1 hp2 hp3 hj ⊢
    have hn3 := rdL_bd (m := j) (e := e2) hn2
    have hlen := rdL_len (l := l) (m := j) (n := n2) (e := e2)
    have hstep : rdL l (j + 1) n2 e2 = (((rdL l j n2 e2).1 ++ [((rdU l 1000 (rdL l j n2 e2).2.1 (rdL l j n2 e2).2.2).1 : Int)]), (rdU l 1000 (rdL l j n2 e2).2.1 (rdL l j n2 e2).2.2).2) := rfl
    generalize hW : rdL l j n2 e2 = w at hn3 hlen hstep ⊢
    obtain ⟨L, n3, e3⟩ := w
    dsimp only at hn3 hlen hstep ⊢
    unfold rv
    refine sq42 ?_
    refine sw_cond rfl (fun h1 => ?_) (fun h1 => ?_)
    · have hlt2 : j < m := by simp at h1; omega
      refine ctlT ?_
      refine rgD [(0, true), (1, true), (2, true), (3, false), (4, false), (5, false), (6, true), (7, false)] ?_
      refine sq20 ?_
      refine dlo rfl (lop_move (E rfl)) rfl ?_
      refine dcw [(r10, .box 247 (rv l n3 e3))] rfl Tryz.call219 (rdr_unsigned r10 l hl hlt 1000 n3 hn3 e3) rfl ?_ ?_ ?_ ?_
      · exact argsleT
      · exact stleT
      · exact hbtT
      rintro _ σ' ⟨rfl, rfl⟩ -
      apply rd_sto; exact nflT
      unfold rv
      generalize rdU l 1000 n3 e3 = u at hstep ⊢
      obtain ⟨v, n4, e4⟩ := u
      dsimp only at hstep ⊢
      refine z97 ?_; refine freshT fun r60 h60 => ?_; repeat rcases h60 with ⟨_, h60⟩
      apply dap (es' := (L ++ [(v : Int)]).map encI) (len' := (L ++ [(v : Int)]).length); rfl; infer_instance; infer_instance; rfl; rfl; (exact sgT)
      · simp
      · exact .inr (.inr ⟨_, _, _, _, _, rfl, sgT, by simp, rfl⟩)
      · simp [encI]
      · simp
      · simp [maxLen]; omega
      · simp; omega
      · rfl
      · exact hbtT
      refine apnT fun r61 h61 => ?_; repeat rcases h61 with ⟨_, h61⟩
      refine z73 ?_
      refine z95 ?_
      refine deT ?_
      refine sq54 ?_
      refine ⟨(r61, j + 1), ⟨⟨by show Nq r61 r6; (exact nqT), by show Nq r61 r10; (exact nqT), by show Nq r61 r2; (exact nqT)⟩, hlt2⟩, by show m - (j + 1) < m - j; omega, ?_⟩
      dsimp only
      rw [hstep]
      exact sgoT
    · obtain rfl : j = m := by simp at h1; omega
      rw [hW] at hG
      dsimp only at hG
      refine sq4 ?_
      refine cw [(r10, .box 247 (rv l (n3) (e3)))] Tryz.call219 (rdr_unsigned r10 l hl hlt 1000 n3 hn3 e3) rfl ?_ ?_ ?_
      · exact argsleT
      · exact stleT
      rintro _ σ' ⟨rfl, rfl⟩ -
      apply rs_sto; exact nflT
      unfold rv
      refine z59 ?_
      apply stp; rfl; rfl; rfl; rfl; (exact sputT)
      refine sq38 ?_
      refine sq99 ?_
      refine sw_cond rfl (fun ge => ?_) (fun ge => ?_)
      · unfold fin at hG
        rw [ge] at hG
        simp only [if_true] at hG
        refine ctlT ?_
        refine rgD [(0, true), (1, true), (2, true), (3, true), (4, true), (5, false), (6, true), (7, true)] ?_
        refine sq103 ?_
        refine an ?_
        refine sw_virt_box (ks := [0, 2, 3, 4, 5, 6, 7, 18, 26, 32, 33, 38, 43, 50, 53, 54, 55, 67, 75, 79, 84, 93]) r2 3 3 1 (by decide) sgT rfl (by decide) fun qz hqz => ?_
        simp only [fresh_cons, fresh_nil, and_true] at hqz; repeat rcases hqz with ⟨_, hqz⟩
        apply Exists.intro; apply And.intro; (exact ssetT)
        refine ctlT ?_
        apply aend; exact resT
        · rw [hG]; exact ⟨qz, rfl, rfl⟩
        · exact stleT
      · unfold fin at hG
        rw [ge] at hG
        simp only [Bool.false_eq_true, if_false] at hG
        refine ctlT ?_
        refine rgD [(0, true), (1, true), (2, true), (3, true), (4, true), (5, false), (6, true), (7, true)] ?_
        refine z96 ?_
        refine sq65 ?_
        refine ctlT ?_
        apply aend; exact resT
        · rw [hG]; exact ⟨p, rfl, rfl⟩
        · exact stleT
  refine sq33 ?_
  refine sw_cond rfl (fun g7 => ?_) (fun g7 => ?_)
  · refine ctlT ?_
    have hG : getP l = fin ⟨(c : Int), (rdU l 3 n1 e1).1, (rdU l 4294967295 (rdU l 3 n1 e1).2.1 (rdU l 3 n1 e1).2.2).1, []⟩ (rdU l 4294967295 (rdU l 3 n1 e1).2.1 (rdU l 3 n1 e1).2.2).2.1 (rdU l 4294967295 (rdU l 3 n1 e1).2.1 (rdU l 3 n1 e1).2.2).2.2 := by unfold getP getT; rw [hB]; simp only [g1, g2, g3, g4, g5, g6, g7, if_true, if_false, Bool.false_eq_true]
    have hn2 := rdU_bd (lim := 3) (e := e1) hn1
    refine sq1 ?_
    refine cw [(r10, .box 247 (rv l (n1) (e1)))] Tryz.call219 (rdr_unsigned r10 l hl hlt 3 n1 hn1 e1) rfl ?_ ?_ ?_
    · exact argsleT
    · exact stleT
    rintro _ σ' ⟨rfl, rfl⟩ -
    apply rs_sto; exact nflT
    unfold rv
    refine z59 ?_
    apply stp; rfl; rfl; rfl; rfl; (exact sputT)
    refine sq6 ?_
    generalize rdU l 3 n1 e1 = u at *
    obtain ⟨a, n2, e2⟩ := u
    dsimp only at hn2 hG ⊢
    refine sq1 ?_
    refine cw [(r10, .box 247 (rv l (n2) (e2)))] Tryz.call219 (rdr_unsigned r10 l hl hlt 4294967295 n2 hn2 e2) rfl ?_ ?_ ?_
    · exact argsleT
    · exact stleT
    rintro _ σ' ⟨rfl, rfl⟩ -
    apply rs_sto; exact nflT
    unfold rv
    refine z59 ?_
    apply stp; rfl; rfl; rfl; rfl; (exact sputT)
    refine sq38 ?_
    refine sq99 ?_
    refine sw_cond rfl (fun ge => ?_) (fun ge => ?_)
    · unfold fin at hG
      rw [ge] at hG
      simp only [if_true] at hG
      refine ctlT ?_
      refine rgD [(0, true), (1, true), (2, true), (3, true), (4, true), (5, false), (6, true), (7, true)] ?_
      refine sq103 ?_
      refine an ?_
      refine sw_virt_box (ks := [0, 2, 3, 4, 5, 6, 7, 18, 26, 32, 33, 38, 43, 50, 53, 54, 55, 67, 75, 79, 84, 93]) r2 3 3 1 (by decide) sgT rfl (by decide) fun qz hqz => ?_
      simp only [fresh_cons, fresh_nil, and_true] at hqz; repeat rcases hqz with ⟨_, hqz⟩
      apply Exists.intro; apply And.intro; (exact ssetT)
      refine ctlT ?_
      apply aend; exact resT
      · rw [hG]; exact ⟨qz, rfl, rfl⟩
      · exact stleT
    · unfold fin at hG
      rw [ge] at hG
      simp only [Bool.false_eq_true, if_false] at hG
      refine ctlT ?_
      refine rgD [(0, true), (1, true), (2, true), (3, true), (4, true), (5, false), (6, true), (7, true)] ?_
      refine z96 ?_
      refine sq65 ?_
      refine ctlT ?_
      apply aend; exact resT
      · rw [hG]; exact ⟨q, rfl, rfl⟩
      · exact stleT
  refine sq33 ?_
  refine sw_cond rfl (fun g8 => ?_) (fun g8 => ?_)
  · refine ctlT ?_
    have hG : getP l = fin ⟨(c : Int), 0, 0, []⟩ (rdZ l n1 e1).1 (rdZ l n1 e1).2 := by unfold getP getT; rw [hB]; simp only [g1, g2, g3, g4, g5, g6, g7, g8, if_true, if_false, Bool.false_eq_true]
    refine sq1 ?_
    refine cw [(r10, .box 247 (rv l (n1) (e1)))] Tryz.call220 (rdr_zero r10 l hl hlt n1 hn1 e1) rfl ?_ ?_ ?_
    · exact argsleT
    · exact stleT
    rintro _ σ' ⟨rfl, rfl⟩ -
    apply rs_sto; exact nflT
    unfold rv
    refine sq38 ?_
    refine sq99 ?_
    refine sw_cond rfl (fun ge => ?_) (fun ge => ?_)
    · unfold fin at hG
      rw [ge] at hG
      simp only [if_true] at hG
      refine ctlT ?_
      refine rgD [(0, true), (1, true), (2, true), (3, true), (4, true), (5, false), (6, true), (7, true)] ?_
      refine sq103 ?_
      refine an ?_
      refine sw_virt_box (ks := [0, 2, 3, 4, 5, 6, 7, 18, 26, 32, 33, 38, 43, 50, 53, 54, 55, 67, 75, 79, 84, 93]) r2 3 3 1 (by decide) sgT rfl (by decide) fun qz hqz => ?_
      simp only [fresh_cons, fresh_nil, and_true] at hqz; repeat rcases hqz with ⟨_, hqz⟩
      apply Exists.intro; apply And.intro; (exact ssetT)
      refine ctlT ?_
      apply aend; exact resT
      · rw [hG]; exact ⟨qz, rfl, rfl⟩
      · exact stleT
    · unfold fin at hG
      rw [ge] at hG
      simp only [Bool.false_eq_true, if_false] at hG
      refine ctlT ?_
      refine rgD [(0, true), (1, true), (2, true), (3, true), (4, true), (5, false), (6, true), (7, true)] ?_
      refine z96 ?_
      refine sq65 ?_
      refine ctlT ?_
      apply aend; exact resT
      · rw [hG]; exact ⟨q, rfl, rfl⟩
      · exact stleT
  refine sq33 ?_
  refine sw_cond rfl (fun g9 => ?_) (fun g9 => ?_)
  · refine ctlT ?_
    have hG : getP l = fin ⟨(c : Int), (rdS l 32 n1).1, 0, []⟩ (rdS l 32 n1).2.1 (rdS l 32 n1).2.2 := by unfold getP getT; rw [hB]; simp only [g1, g2, g3, g4, g5, g6, g7, g8, g9, if_true, if_false, Bool.false_eq_true]
    refine sq1 ?_
    refine cw [(r10, .box 247 (rv l (n1) (e1)))] Tryz.call221 (rdr_signed r10 l hl hlt 32 (.inl rfl) n1 hn1 e1) rfl ?_ ?_ ?_
    · exact argsleT
    · exact stleT
    rintro _ σ' ⟨rfl, rfl⟩ -
    apply rs_sto; exact nflT
    unfold rv
    refine z59 ?_
    apply stp; rfl; rfl; rfl; rfl; (exact sputT)
    refine sq38 ?_
    refine sq99 ?_
    refine sw_cond rfl (fun ge => ?_) (fun ge => ?_)
    · unfold fin at hG
      rw [ge] at hG
      simp only [if_true] at hG
      refine ctlT ?_
      refine rgD [(0, true), (1, true), (2, true), (3, true), (4, true), (5, false), (6, true), (7, true)] ?_
      refine sq103 ?_
      refine an ?_
      refine sw_virt_box (ks := [0, 2, 3, 4, 5, 6, 7, 18, 26, 32, 33, 38, 43, 50, 53, 54, 55, 67, 75, 79, 84, 93]) r2 3 3 1 (by decide) sgT rfl (by decide) fun qz hqz => ?_
      simp only [fresh_cons, fresh_nil, and_true] at hqz; repeat rcases hqz with ⟨_, hqz⟩
      apply Exists.intro; apply And.intro; (exact ssetT)
      refine ctlT ?_
      apply aend; exact resT
      · rw [hG]; exact ⟨qz, rfl, rfl⟩
      · exact stleT
    · unfold fin at hG
      rw [ge] at hG
      simp only [Bool.false_eq_true, if_false] at hG
      refine ctlT ?_
      refine rgD [(0, true), (1, true), (2, true), (3, true), (4, true), (5, false), (6, true), (7, true)] ?_
      refine z96 ?_
      refine sq65 ?_
      refine ctlT ?_
      apply aend; exact resT
      · rw [hG]; exact ⟨q, rfl, rfl⟩
      · exact stleT
  refine sq33 ?_
  refine sw_cond rfl (fun g10 => ?_) (fun g10 => ?_)
  · refine ctlT ?_
    have hG : getP l = fin ⟨(c : Int), (rdS l 64 n1).1, 0, []⟩ (rdS l 64 n1).2.1 (rdS l 64 n1).2.2 := by unfold getP getT; rw [hB]; simp only [g1, g2, g3, g4, g5, g6, g7, g8, g9, g10, if_true, if_false, Bool.false_eq_true]
    refine sq1 ?_
    refine cw [(r10, .box 247 (rv l (n1) (e1)))] Tryz.call221 (rdr_signed r10 l hl hlt 64 (.inr rfl) n1 hn1 e1) rfl ?_ ?_ ?_
    · exact argsleT
    · exact stleT
    rintro _ σ' ⟨rfl, rfl⟩ -
    apply rs_sto; exact nflT
    unfold rv
    refine z59 ?_
    apply stp; rfl; rfl; rfl; rfl; (exact sputT)
    refine sq38 ?_
    refine sq99 ?_
    refine sw_cond rfl (fun ge => ?_) (fun ge => ?_)
    · unfold fin at hG
      rw [ge] at hG
      simp only [if_true] at hG
      refine ctlT ?_
      refine rgD [(0, true), (1, true), (2, true), (3, true), (4, true), (5, false), (6, true), (7, true)] ?_
      refine sq103 ?_
      refine an ?_
      refine sw_virt_box (ks := [0, 2, 3, 4, 5, 6, 7, 18, 26, 32, 33, 38, 43, 50, 53, 54, 55, 67, 75, 79, 84, 93]) r2 3 3 1 (by decide) sgT rfl (by decide) fun qz hqz => ?_
      simp only [fresh_cons, fresh_nil, and_true] at hqz; repeat rcases hqz with ⟨_, hqz⟩
      apply Exists.intro; apply And.intro; (exact ssetT)
      refine ctlT ?_
      apply aend; exact resT
      · rw [hG]; exact ⟨qz, rfl, rfl⟩
      · exact stleT
    · unfold fin at hG
      rw [ge] at hG
      simp only [Bool.false_eq_true, if_false] at hG
      refine ctlT ?_
      refine rgD [(0, true), (1, true), (2, true), (3, true), (4, true), (5, false), (6, true), (7, true)] ?_
      refine z96 ?_
      refine sq65 ?_
      refine ctlT ?_
      apply aend; exact resT
      · rw [hG]; exact ⟨q, rfl, rfl⟩
      · exact stleT
  refine ctlT ?_
  have hG : getP l = fin ⟨(c : Int), 0, 0, []⟩ n1 e1 := by unfold getP getT; rw [hB]; simp only [g1, g2, g3, g4, g5, g6, g7, g8, g9, g10, if_true, if_false, Bool.false_eq_true]
  refine sq1 ?_
  refine sq99 ?_
  refine sw_cond rfl (fun ge => ?_) (fun ge => ?_)
  · unfold fin at hG
    rw [ge] at hG
    simp only [if_true] at hG
    refine ctlT ?_
    refine rgD [(0, true), (1, true), (2, true), (3, true), (4, true), (5, false), (6, true), (7, true)] ?_
    refine sq103 ?_
    refine an ?_
    refine sw_virt_box (ks := [0, 2, 3, 4, 5, 6, 7, 18, 26, 32, 33, 38, 43, 50, 53, 54, 55, 67, 75, 79, 84, 93]) r2 3 3 1 (by decide) sgT rfl (by decide) fun qz hqz => ?_
    simp only [fresh_cons, fresh_nil, and_true] at hqz; repeat rcases hqz with ⟨_, hqz⟩
    apply Exists.intro; apply And.intro; (exact ssetT)
    refine ctlT ?_
    apply aend; exact resT
    · rw [hG]; exact ⟨qz, rfl, rfl⟩
    · exact stleT
  · unfold fin at hG
    rw [ge] at hG
    simp only [Bool.false_eq_true, if_false] at hG
    refine ctlT ?_
    refine rgD [(0, true), (1, true), (2, true), (3, true), (4, true), (5, false), (6, true), (7, true)] ?_
    refine z96 ?_
    refine sq65 ?_
    refine ctlT ?_
    apply aend; exact resT
    · rw [hG]; exact ⟨q, rfl, rfl⟩
    · exact stleT
end Go.Proofs.YtfihcehdoikfkaaGreat
/-
  Plain: the two Gets answer alike.
-/
namespace Go.Proofs.YtfihcehdoikfkaaGreat
open Go.RowKit Go.ChangeShapes Go.WideShapes Go.ChangeAt Go.Deep
theorem kindI_eq (c : Nat) : kindI c = if c = 64 then 0 else if c = 127 then 1 else if c = 126 then 2 else -1 := by
  by_cases h1 : c = 64
  · subst h1; decide
  by_cases h2 : c = 127
  · subst h2; decide
  by_cases h3 : c = 126
  · subst h3; decide
  rw [if_neg h1, if_neg h2, if_neg h3]
  unfold kindI idxN
  have : ([64, 127, 126] : List Int).findIdx? (· == (c : Int)) = none := by
    rw [List.findIdx?_eq_none_iff]
    intro x hx
    simp at hx
    rcases hx with rfl | rfl | rfl <;> simp <;> omega
  rw [this]
/-
  Plain: an instruction's bytes are told as it.
-/
theorem drop_on {l p r : List Nat} {n : Nat} (h : l.drop n = p ++ r) : l.drop (n + p.length) = r := by
  rw [← List.drop_drop, h, List.drop_left]
theorem rdB_at {l r : List Nat} {n b : Nat} (h : l.drop n = b :: r) : rdB l n 0 = (b, n + 1, 0) := by
  have hn : n < l.length := by
    by_cases hc : n < l.length
    · exact hc
    · rw [List.drop_of_length_le (by omega)] at h; cases h
  have hb : l[n]! = b := by
    rw [getElem!_pos l n hn]
    rw [List.drop_eq_getElem_cons hn] at h
    exact (List.cons.inj h).1
  unfold rdB
  rw [if_neg (by simp), if_neg (by simp; omega), hb]
theorem rdZ_at {l r : List Nat} {n : Nat} (h : l.drop n = 0 :: r) : rdZ l n 0 = (n + 1, 0) := by
  unfold rdZ; rw [rdB_at h, if_neg (by simp)]
theorem rdU_at {l r : List Nat} {n v : Nat} {lim : Int} (h : l.drop n = uB v ++ r) (h1 : v < 4294967296) (h2 : (v : Int) ≤ lim) : rdU l lim n 0 = (v, n + (uB v).length, 0) := by
  unfold rdU
  rw [h, getU_uB h1, if_neg (by simp), if_neg (by simp), if_neg (by simp; omega)]
theorem rdS_at {l r : List Nat} {n bits : Nat} (hb : bits = 32 ∨ bits = 64) {v : Int} (h : l.drop n = sB v ++ r) (h1 : -9223372036854775808 ≤ v) (h2 : v ≤ 9223372036854775807) (h3 : bits = 32 → -2147483648 ≤ v ∧ v ≤ 2147483647) : rdS l bits n = (v, n + (sB v).length, 0) := by
  unfold rdS
  rw [h, getS_sB hb h1 h2 h3]
theorem rdL_at {l r : List Nat} {n : Nat} {L : List Int} (h : l.drop n = (L.flatMap fun z => uB z.toNat) ++ r) (hL : ∀ z ∈ L, 0 ≤ z ∧ z ≤ 1000) : ∀ m, m ≤ L.length → rdL l m n 0 = (L.take m, n + ((L.take m).flatMap fun z => uB z.toNat).length, 0)
  | 0, _ => by simp [rdL]
  | m + 1, hm => by
    have ih := rdL_at h hL m (by omega)
    obtain ⟨y, hy⟩ : ∃ y, L[m]? = some y := ⟨_, List.getElem?_eq_getElem (by omega)⟩
    obtain ⟨hy0, hy1⟩ := hL y (List.mem_of_getElem? hy)
    obtain ⟨z, rfl⟩ := Int.eq_ofNat_of_zero_le hy0
    have hd : l.drop (n + ((L.take m).flatMap fun z => uB z.toNat).length) = uB z ++ (((L.drop (m + 1)).flatMap fun z => uB z.toNat) ++ r) := by
      refine drop_on ?_
      rw [h, ← List.append_assoc, ← List.append_assoc]
      congr 1
      have : L = L.take m ++ (z : Int) :: L.drop (m + 1) := by
        rw [List.getElem?_eq_getElem (by omega)] at hy
        rw [← Option.some.inj hy, ← List.drop_eq_getElem_cons (by omega), List.take_append_drop]
      conv => lhs; rw [this]
      simp [List.flatMap_append]
    rw [rdL, ih]
    dsimp only
    rw [rdU_at hd (by omega) hy1, List.take_add_one, hy]
    simp [List.flatMap_append, Nat.add_assoc]
theorem may8 {x : Ins} (h : mayN x = true) (hf : (formN x.op == 8) = true) : -2147483648 ≤ x.a ∧ x.a ≤ 2147483647 := by
  rw [beq_iff_eq] at hf
  simp [mayN, hf, bt2_eq] at h
  omega
theorem may17 {x : Ins} (h : mayN x = true) (hf : (formN x.op == 1 || formN x.op == 7) = true) : x.a = 0 := by
  unfold mayN at h
  split at h
  · cases h
  · first | (rw [if_pos hf] at h; simpa using h) | simpa using h
theorem may_b {x : Ins} (h : mayN x = true) (hf : formN x.op ≠ 6) : x.b = 0 := by
  unfold mayN at h
  split at h
  · cases h
  · next hp => 
    have h6 : (formN x.op != 6) = true := by simpa using hf
    unfold preN at hp
    rw [if_pos h6] at hp
    split at hp
    · simp at hp; exact hp.2
    · simpa using hp
theorem may_l {x : Ins} (h : mayN x = true) (hf : formN x.op ≠ 4) : x.l = [] := by
  unfold mayN at h
  split at h
  · cases h
  · next hp =>
    have h4 : (formN x.op != 4) = true := by simpa using hf
    unfold preN at hp
    rw [if_pos h4] at hp
    split at hp
    · simp at hp
    · next hq => simpa using hq
/-- an instruction's bytes are told as it -/
theorem get_put {x : Ins} (hx : x.Ok) (h : mayN x = true) (rest : List Nat) : getP (putN x ++ rest) = (x, (putN x).length, 0) := by
  have f1 := may_op h
  have f2 := may2 h
  have f3 := may3 h
  have f4 := may4 h
  have f5 := may5 h
  have f6 := may6 h
  have f8 := may8 h
  have f17 := may17 h
  have fb := may_b h
  have fl := may_l h
  have f9 : -9223372036854775808 ≤ x.a ∧ x.a ≤ 9223372036854775807 := ⟨hx.2.2.1, hx.2.2.2.1⟩
  have f0 : (formN x.op == 0) = false := by
    by_cases h0 : formN x.op = 0
    · rw [may_none h0] at h; cases h
    · simpa using h0
  obtain ⟨op, a, b, L⟩ := x
  dsimp only at f1 f2 f3 f4 f5 f6 f8 f9 f17 fb fl f0
  obtain ⟨op, rfl⟩ := Int.eq_ofNat_of_zero_le f1.1
  have hp0 : putN ⟨(op : Int), a, b, L⟩ = op :: putT ⟨(op : Int), a, b, L⟩ := rfl
  obtain ⟨l, hl⟩ : ∃ l, l = putN ⟨(op : Int), a, b, L⟩ ++ rest := ⟨_, rfl⟩
  rw [← hl]
  have hB : rdB l 0 0 = (op, 1, 0) := rdB_at (r := putT ⟨(op : Int), a, b, L⟩ ++ rest) (by rw [hl, hp0]; rfl)
  have h1 : l.drop 1 = putT ⟨(op : Int), a, b, L⟩ ++ rest := by rw [hl, hp0]; rfl
  unfold getP
  rw [hB, hp0]
  dsimp only
  rw [f0]
  simp only [Bool.false_eq_true, if_false, bne_self_eq_false]
  unfold getT
  unfold putT at h1 ⊢
  by_cases g2 : (formN (op : Int) == 2) = true
  · simp only [g2, if_true] at h1 ⊢
    obtain ⟨k1, k2⟩ := f2 g2
    have e2 : formN (op : Int) = 2 := by simpa using g2
    obtain rfl := fb (by omega)
    obtain rfl := fl (by omega)
    have hk : rdK l 1 0 = (a, 2, 0) := by
      unfold rdK
      rw [rdB_at h1, kindI_eq]
      have : a = 0 ∨ a = 1 ∨ a = 2 := by omega
      rcases this with rfl | rfl | rfl <;> rfl
    rw [hk]
    rfl
  simp only [g2, Bool.false_eq_true, if_false] at h1 ⊢
  by_cases g3 : (formN (op : Int) == 3) = true
  · simp only [g3, if_true] at h1 ⊢
    obtain ⟨k1, k2⟩ := f3 g3
    have e2 : formN (op : Int) = 3 := by simpa using g3
    obtain rfl := fb (by omega)
    obtain rfl := fl (by omega)
    obtain ⟨a, rfl⟩ := Int.eq_ofNat_of_zero_le k1
    rw [Int.toNat_natCast] at h1 ⊢
    rw [rdU_at h1 (by omega) k2]
    simp [fin, Nat.add_comm]
  simp only [g3, Bool.false_eq_true, if_false] at h1 ⊢
  by_cases g5 : (formN (op : Int) == 5) = true
  · simp only [g5, if_true] at h1 ⊢
    obtain ⟨k1, k2⟩ := f5 g5
    have e2 : formN (op : Int) = 5 := by simpa using g5
    obtain rfl := fb (by omega)
    obtain rfl := fl (by omega)
    obtain ⟨a, rfl⟩ := Int.eq_ofNat_of_zero_le k1
    rw [Int.toNat_natCast] at h1 ⊢
    rw [List.append_assoc] at h1
    rw [rdU_at h1 (by omega) k2]
    dsimp only
    rw [rdZ_at (drop_on h1)]
    simp [fin]; omega
  simp only [g5, Bool.false_eq_true, if_false] at h1 ⊢
  by_cases g4 : (formN (op : Int) == 4) = true
  · simp only [g4, if_true] at h1 ⊢
    obtain ⟨⟨k1, k2⟩, k3, k4⟩ := f4 g4
    have e2 : formN (op : Int) = 4 := by simpa using g4
    obtain rfl := fb (by omega)
    obtain ⟨a, rfl⟩ := Int.eq_ofNat_of_zero_le k1
    rw [Int.toNat_natCast] at h1 ⊢
    rw [List.append_assoc, List.append_assoc] at h1
    have h2 := drop_on h1
    rw [rdU_at h1 (by omega) (by omega)]
    dsimp only
    rw [rdL_at h2 k4 L.length (Nat.le_refl _), List.take_length]
    dsimp only
    rw [rdU_at (drop_on h2) (by omega) k2]
    simp [fin]; omega
  simp only [g4, Bool.false_eq_true, if_false] at h1 ⊢
  have e4 : formN (op : Int) ≠ 4 := by simpa using g4
  obtain rfl := fl e4
  by_cases g6 : (formN (op : Int) == 6) = true
  · simp only [g6, if_true] at h1 ⊢
    obtain ⟨k1, k2, k3, k4⟩ := f6 g6
    obtain ⟨a, rfl⟩ := Int.eq_ofNat_of_zero_le k1
    obtain ⟨b, rfl⟩ := Int.eq_ofNat_of_zero_le k3
    rw [Int.toNat_natCast, Int.toNat_natCast] at h1 ⊢
    rw [List.append_assoc] at h1
    rw [rdU_at h1 (by omega) k2]
    dsimp only
    rw [rdU_at (drop_on h1) (by omega) k4]
    simp [fin]; omega
  simp only [g6, Bool.false_eq_true, if_false] at h1 ⊢
  have e6 : formN (op : Int) ≠ 6 := by simpa using g6
  obtain rfl := fb e6
  by_cases g7 : (formN (op : Int) == 7) = true
  · simp only [g7, if_true] at h1 ⊢
    obtain rfl := f17 (by rw [g7]; simp)
    rw [rdZ_at h1]
    simp [fin]
  simp only [g7, Bool.false_eq_true, if_false] at h1 ⊢
  by_cases g8 : (formN (op : Int) == 8) = true
  · simp only [g8, Bool.true_or, if_true] at h1 ⊢
    obtain ⟨k1, k2⟩ := f8 g8
    rw [rdS_at (.inl rfl) h1 f9.1 f9.2 (fun _ => ⟨k1, k2⟩)]
    simp [fin, Nat.add_comm]
  simp only [g8, Bool.false_eq_true, if_false] at h1 ⊢
  by_cases g9 : (formN (op : Int) == 9) = true
  · simp only [g9, Bool.or_true, if_true] at h1 ⊢
    rw [rdS_at (.inr rfl) h1 f9.1 f9.2 (fun hc => by cases hc)]
    simp [fin, Nat.add_comm]
  simp only [g9, Bool.or_false, Bool.false_eq_true, if_false] at h1 ⊢
  have ha : a = 0 := by
    by_cases g1 : formN (op : Int) = 1
    · exact f17 (by rw [g1]; rfl)
    · exfalso
      have : mayN ⟨(op : Int), a, 0, []⟩ = false := by
        unfold mayN
        have g1' : (formN (op : Int) == 1) = false := by simpa using g1
        simp [g1', g2, g3, g4, g5, g6, g7, g8, g9]
      rw [this] at h; cases h
  subst ha
  simp [fin]
theorem eqN_self (x : Ins) : eqN x x = true := by unfold eqN; simp
end Go.Proofs.YtfihcehdoikfkaaGreat
/-
  What the statements of instructions call: Put onto nothing, Short, Cut.
-/
namespace Go.Proofs.YtfihcehdoikfkaaGreat
open Go.RowKit Go.ChangeShapes Go.WideShapes Go.ChangeAt Go.Deep
attribute [local irreducible] SW RS RD AThen ABlock
def cutN (x : Ins) : Ins := ⟨x.op, x.a, x.b, x.l.take 55⟩
theorem law_cut (x : Ins) (hx : x.l.length ≤ maxLen) : SCall Tryz.prog 73 [.agg (iv .any x)] [] (fun y σ => ∃ q, y = .agg (io q (cutN x)) ∧ σ = [(q, .arr 3 1 ((cutN x).l.map encI))]) := by
  unfold maxLen at hx
  refine scall_of (n := 34) (ks := [0, 1, 2, 3, 4, 20]) Tryz.func73 rfl rfl (Nat.le_of_ble_eq_true rfl) ?_
  unfold iv
  refine sq3 ?_
  apply bx; rfl; rfl; (exact zcT); rfl; refine freshT fun r1 h1 => ?_; repeat rcases h1 with ⟨_, h1⟩
  apply al; rfl; (exact zcT); refine freshT fun r2 h2 => ?_; repeat rcases h2 with ⟨_, h2⟩
  refine leT ?_
  refine sq58 ?_
  refine sq12 ?_
  refine sq12 ?_
  refine z93 ?_
  apply al; rfl; (exact zcT); refine freshT fun r3 h3 => ?_; repeat rcases h3 with ⟨_, h3⟩
  apply stp; rfl; rfl; rfl; rfl; (exact sputT)
  refine leT ?_
  refine an ?_
  refine sw_virt_box (ks := [0, 1, 2, 3, 4, 20]) r3 3 3 1 (by decide) sgT rfl (by decide) fun q hq => ?_
  simp only [fresh_cons, fresh_nil, and_true] at hq; repeat rcases hq with ⟨_, hq⟩
  apply Exists.intro; apply And.intro; (exact ssetT)
  refine sq7 ?_
  refine lp (β := Nat × Nat) (fun b => ⟨[(1, .ptr r1 0), (2, .ptr r2 0), (3, .ptr r3 0), (4, .int .i64 b.2)], [(b.1, .arr 3 1 ((x.l.take b.2).map encI)), (r3, .box 56 [.int .i64 x.op, .int .i64 x.a, .int .i64 x.b, .own b.1 0 (x.l.take b.2).length]), (r2, .box 56 [.int .i64 0, .int .i64 0, .int .i64 0, .ro 0 [] .nil]), (r1, .box 56 [.int .i64 x.op, .int .i64 x.a, .int .i64 x.b, .ro 1 (x.l.map encI) .any])]⟩) (fun b => (Nq b.1 r3 ∧ Nq b.1 r2 ∧ Nq b.1 r1) ∧ b.2 ≤ x.l.length ∧ b.2 ≤ 55) (fun b => 55 - b.2) (q, 0) (by (exact sgoT)) ⟨⟨by (exact nqT), by (exact nqT), by (exact nqT)⟩, by omega, by omega⟩ ?_
  rintro ⟨p, j⟩ ⟨⟨hp1, hp2, hp3⟩, hj, hj5⟩
  dsimp only at hp1 hp2 hp3 hj hj5 ⊢
  refine sq53 ?_
  refine z14 ?_
  refine lo (lop_lss (E rfl) (E rfl)) rfl ?_
  refine sq49 ?_
  refine z69 ?_
  refine z7 ?_
  refine sq6 ?_
  refine sw_cond rfl (fun h1 => ?_) (fun h1 => ?_)
  · have hlt : j < x.l.length ∧ j < 55 := by simp at h1; omega
    obtain ⟨hlt, hlt5⟩ := hlt
    obtain ⟨y, hy⟩ : ∃ y, x.l[j]? = some y := ⟨_, List.getElem?_eq_getElem hlt⟩
    have hn : x.l.take (j + 1) = x.l.take j ++ [y] := by rw [List.take_add_one, hy]; rfl
    have hlj : (x.l.take j).length = j := by simp; omega
    refine ctlT ?_
    refine rgD [(0, true), (1, true), (2, true), (3, true), (4, true), (5, true), (6, true), (7, false), (8, false), (9, true), (10, false)] ?_
    refine sq20 ?_
    refine sq61 ?_
    refine z57 ?_
    refine z97 ?_; refine freshT fun r30 h30 => ?_; repeat rcases h30 with ⟨_, h30⟩
    apply dap (es' := (x.l.take j ++ [y]).map encI) (len' := (x.l.take j ++ [y]).length); rfl; infer_instance; infer_instance; rfl; rfl; (exact sgT)
    · simp
    · exact .inr (.inr ⟨_, _, _, _, _, rfl, sgT, by simp, rfl⟩)
    · simp [encI]
    · simp
    · simp [maxLen]; omega
    · simp; omega
    · rfl
    · exact hbtT
    refine apnT fun r31 h31 => ?_; repeat rcases h31 with ⟨_, h31⟩
    refine z73 ?_
    refine z95 ?_
    refine deT ?_
    refine sq45 ?_
    refine ⟨(r31, j + 1), ⟨⟨by show Nq r31 r3; (exact nqT), by show Nq r31 r2; (exact nqT), by show Nq r31 r1; (exact nqT)⟩, hlt, hlt5⟩, by show 55 - (j + 1) < 55 - j; omega, ?_⟩
    dsimp only
    rw [hn]
    exact sgoT
  · have he : x.l.take j = x.l.take 55 := by
      have : j = x.l.length ∨ j = 55 := by simp at h1; omega
      rcases this with rfl | rfl
      · rw [List.take_of_length_le (Nat.le_refl _), List.take_of_length_le (by omega)]
      · rfl
    rw [he]
    refine sq78 ?_
    apply stp; rfl; rfl; rfl; rfl; (exact sputT)
    refine sq6 ?_
    refine aend_n ?_
    apply aend; exact resT
    · exact ⟨p, rfl, rfl⟩
    · exact stleT
end Go.Proofs.YtfihcehdoikfkaaGreat
/-
  The symbolic layer: calls and appends in their short forms. No program is named here.
-/
namespace Go.Proofs.YtfihcehdoikfkaaGreat
open Go.RowKit Go.ChangeShapes Go.WideShapes Go.ChangeAt Go.Deep
/-- an encoding that lends nothing -/
class NoE {α : Type} (enc : α → List AV) : Prop where
  no : ∀ a, ∀ x ∈ enc a, NoF x
theorem enof_map {α : Type} {enc : α → List AV} [h : NoE enc] {e : TypeId} {sz : Nat} {l : List α} : ENoF (.arr e sz (l.map enc)) := by
  intro y hy x hx
  obtain ⟨a, -, rfl⟩ := List.mem_map.1 hy
  exact h.no a x hx
instance : NoE encU := ⟨fun a x hx => by simp [encU] at hx; subst hx; exact NoF.int⟩
theorem noT {P : Prop} (h : P := by
    intro x σ' h
    repeat (refine Exists.elim h ?_; clear h; intro _ h)
    first | (obtain ⟨rfl, rfl⟩ := h) | (obtain ⟨_, rfl, rfl⟩ := h) | (obtain ⟨_, _, rfl, rfl⟩ := h)
    refine ⟨nofT, ?_⟩
    intro p hp
    simp only [List.mem_cons, List.not_mem_nil, or_false] at hp
    repeat' (first | (rcases hp with rfl | hp) | (cases hp; done))
    all_goals first | exact enof_map | exact enof_nil | exact enof_box nofT) : P := h

section
variable {P : Program} {n : Nat} {ops : Array Oper} {rest : List Oper} {fr : Fr} {σ : Sto} {K : ASt → Prop} {op : Op} {ty t t' : TypeId} {pos : String} {af : Array Edge} {x y : Operand} {d : Nat} {f : FuncId} {xs : List Operand} {ats : Array TypeId} {args : List AV}
theorem puA {v : AV} (hf : ∀ args w, (callFunc f args).run P w = .ok (.enter f args) w) (h : SCall P f args [] (fun x σ' => x = v ∧ σ' = [])) (hd : Nat.ble (d + 1) n = true)
    (hargs : ArgsIf ⟨fr, σ⟩ true (σ.map (·.1)) xs args) (hno : NoF v) (hK : RS P n ops rest ⟨(d, v) :: fr, σ⟩ K) : RS P n ops (⟨some d, .call { callee := .value (.func f), args := xs.toArray, argTypes := ats }, ty, pos, af, none⟩ :: rest) ⟨fr, σ⟩ K := pu _ hf h hd hargs hno hK
theorem pugA {j dj : Nat} {want b : Bool} {v : AV} (hj : (ops[j]?).bind (·.dst) = some dj) (hb : fget fr dj = some (.bool b)) (hf : ∀ args w, (callFunc f args).run P w = .ok (.enter f args) w)
    (h : (b == want) = true → SCall P f args [] (fun x σ' => x = v ∧ σ' = [])) (hd : Nat.ble (d + 1) n = true) (hargs : ArgsIf ⟨fr, σ⟩ (b == want) (σ.map (·.1)) xs args) (hno : NoF v) (hK : RS P n ops rest ⟨(d, .when (b == want) v) :: fr, σ⟩ K) :
    RS P n ops (⟨some d, .call { callee := .value (.func f), args := xs.toArray, argTypes := ats }, ty, pos, af, some (j, want)⟩ :: rest) ⟨fr, σ⟩ K := pug _ hj hb hf h hd hargs hno hK
theorem puwA {j dj : Nat} {want b c0 : Bool} {v : AV} (hj : (ops[j]?).bind (·.dst) = some dj) (hb : fget fr dj = some (.when c0 (.bool b))) (hf : ∀ args w, (callFunc f args).run P w = .ok (.enter f args) w)
    (h : (c0 && (b == want)) = true → SCall P f args [] (fun x σ' => x = v ∧ σ' = [])) (hd : Nat.ble (d + 1) n = true) (hargs : ArgsIf ⟨fr, σ⟩ (c0 && (b == want)) (σ.map (·.1)) xs args) (hno : NoF v) (hK : RS P n ops rest ⟨(d, .when (c0 && (b == want)) v) :: fr, σ⟩ K) :
    RS P n ops (⟨some d, .call { callee := .value (.func f), args := xs.toArray, argTypes := ats }, ty, pos, af, some (j, want)⟩ :: rest) ⟨fr, σ⟩ K := puw _ hj hb hf h hd hargs hno hK
theorem clA {R : AV → Sto → Prop} (hf : ∀ args w, (callFunc f args).run P w = .ok (.enter f args) w) (h : SCall P f args [] R) (hd : Nat.ble (d + 1) n = true)
    (hargs : ArgsBor ⟨fr, σ⟩ (σ.map (·.1)) xs args) (hno : ∀ x σ', R x σ' → NoF x ∧ ∀ p ∈ σ', ENoF p.2) (hK : ∀ x σ', R x σ' → (∀ p ∈ σ', Fresh p.1 σ) → RS P n ops rest ⟨(d, x) :: fr, σ' ++ σ⟩ K) :
    RS P n ops (⟨some d, .call { callee := .value (.func f), args := xs.toArray, argTypes := ats }, ty, pos, af, none⟩ :: rest) ⟨fr, σ⟩ K := cl _ hf h hd hargs hno hK
/-- append onto an own row, all of it -/
theorem srcT {P : Prop} (h : P := by (first | exact .inl ⟨_, rfl⟩ | exact .inr (.inr ⟨_, _, _, _, _, rfl, sgT, by simp, rfl⟩) | exact .inr (.inl ⟨_, _, rfl, rfl⟩))) : P := h
theorem newT {P : Prop} (h : P := by (first | rfl | (simp; done) | (simp only [List.map_append, List.drop_zero]; rfl) |  (simp only [List.drop_zero, List.map_append, List.map_cons, List.map_nil]; congr 1; exact List.take_of_length_le (by simp)) | (simp only [List.drop_zero, List.map_append]; congr 1; exact List.take_of_length_le (by first | (simp; done) | omega)))) : P := h
theorem lenT {P : Prop} (h : P := by (first | rfl | omega | (simp; done) | (simp; omega) | (simp [maxLen]; omega))) : P := h
theorem apA {e : TypeId} [Ty P t (.slice e)] {sz by_ : Nat} {zv : Value} [Tz P e sz by_ zv] {r len : Nat} {es ys : List (List AV)} (es' : List (List AV)) (len' : Nat)
    (hK : ∀ r', Fresh r' (sdrop [r] σ) → ∃ σ', SSet σ r (.arr e sz es) r' (.arr e sz es') σ' ∧ RS P n ops rest ⟨(d, .own r' 0 len') :: fr, σ'⟩ K)
    (hz : zv.cells.size = sz := by rfl) (hb : aev ⟨fr, σ⟩ x = some (.own r 0 len) := by rfl) (hg : sget σ r = some (.arr e sz es) := by exact sgT) (hlen : len = es.length := by exact lenT) (hy : Src ⟨fr, σ⟩ y sz ys := by exact srcT)
    (he : es ++ ys = es' := by exact newT) (hl' : len' = len + ys.length := by exact lenT) (hmax : len' ≤ maxLen := by (simp [maxLen]; try omega)) (hby : len' * by_ ≤ 140737488355328 := by (simp; try omega)) (hd : Nat.ble (d + 1) n = true := by rfl) :
    RS P n ops (⟨some d, .call { callee := .builtin .append, args := #[x, y], argTypes := #[t, t] }, ty, pos, af, none⟩ :: rest) ⟨fr, σ⟩ K := ap hz hb hg hlen hy he hl' hmax hby hd hK

/-- a row that a slot's value tells of is written by nobody from here on: the slot reads as x' -/
theorem sgo_fzv {j q : Nat} {v v' : AV} {e : Ent} {σ' : Sto} (hx : fget fr j = some v) (hd : SDel σ q e σ') (hb : Bor σ [q] v v') : SGo ⟨fr, σ⟩ ⟨(j, v') :: fr, σ'⟩ := by
  refine sgo_freeze [q] (fun i x' hi => ?_) (fun p hp => ?_)
  · simp only [fget] at hi
    split at hi
    · next h => subst h; obtain rfl := Option.some.inj hi; exact ⟨_, hx, hb⟩
    · exact ⟨x', hi, .refl _⟩
  · obtain ⟨h1, h2⟩ := hd.sub p hp
    exact ⟨by simpa using h2, p.2, h1, .refl _⟩
theorem fzv {j q : Nat} {v v' : AV} {e : Ent} {σ' : Sto} (hx : fget fr j = some v) (hd : SDel σ q e σ') (hb : Bor σ [q] v v') (hK : RS P n ops rest ⟨(j, v') :: fr, σ'⟩ K) : RS P n ops rest ⟨fr, σ⟩ K := rs_go (sgo_fzv hx hd hb) hK
theorem fzvs {ks : List Nat} {c : Code} {Q : Exit → ASt → Prop} {j q : Nat} {v v' : AV} {e : Ent} {σ' : Sto} (hx : fget fr j = some v) (hd : SDel σ q e σ') (hb : Bor σ [q] v v') (hK : SW P n ks c ⟨(j, v') :: fr, σ'⟩ Q) : SW P n ks c ⟨fr, σ⟩ Q := sw_go (sgo_fzv hx hd hb) hK
/-- an own row, all of it, as a list that is read -/
theorem bor_own {q len sz : Nat} {et : TypeId} {es : List (List AV)} (hg : sget σ q = some (.arr et sz es)) (hl : len = es.length) : Bor σ [q] (.own q 0 len) (.ro sz es .any) :=
  bown List.mem_cons_self hg (by omega) (by subst hl; simp)

/-! ### the same in a drawn region -/
variable {listed : Array Bool} {todo : List (Nat × Bool)} {held : List (Nat × List Nat)} {i : Nat}
theorem dpuA {v : AV} (hi : ops[i]? = some ⟨some d, .call { callee := .value (.func f), args := xs.toArray, argTypes := ats }, ty, pos, af, none⟩) (hf : ∀ args w, (callFunc f args).run P w = .ok (.enter f args) w) (h : SCall P f args [] (fun x σ' => x = v ∧ σ' = [])) (hd : Nat.ble (d + 1) n = true)
    (hargs : ArgsIf ⟨fr, σ⟩ true (σ.map (·.1)) xs args) (hno : NoF v) (hK : RD P n ops (listed.setIfInBounds i true) todo held ⟨(d, v) :: fr, σ⟩ K) : RD P n ops listed ((i, false) :: todo) held ⟨fr, σ⟩ K := dpu _ hi hf h hd hargs hno hK
theorem dpugA {j dj : Nat} {want b : Bool} {v : AV} (hi : ops[i]? = some ⟨some d, .call { callee := .value (.func f), args := xs.toArray, argTypes := ats }, ty, pos, af, some (j, want)⟩) (hj : (ops[j]?).bind (·.dst) = some dj) (hb : fget fr dj = some (.bool b)) (hf : ∀ args w, (callFunc f args).run P w = .ok (.enter f args) w)
    (h : (b == want) = true → SCall P f args [] (fun x σ' => x = v ∧ σ' = [])) (hd : Nat.ble (d + 1) n = true) (hargs : ArgsIf ⟨fr, σ⟩ (b == want) (σ.map (·.1)) xs args) (hno : NoF v) (hK : RD P n ops (listed.setIfInBounds i true) todo held ⟨(d, .when (b == want) v) :: fr, σ⟩ K) :
    RD P n ops listed ((i, false) :: todo) held ⟨fr, σ⟩ K := dpug _ hi hj hb hf h hd hargs hno hK
theorem dclA {R : AV → Sto → Prop} (hi : ops[i]? = some ⟨some d, .call { callee := .value (.func f), args := xs.toArray, argTypes := ats }, ty, pos, af, none⟩) (hf : ∀ args w, (callFunc f args).run P w = .ok (.enter f args) w) (h : SCall P f args [] R) (hd : Nat.ble (d + 1) n = true)
    (hargs : ArgsBor ⟨fr, σ⟩ (σ.map (·.1)) xs args) (hno : ∀ x σ', R x σ' → NoF x ∧ ∀ p ∈ σ', ENoF p.2) (hK : ∀ x σ', R x σ' → (∀ p ∈ σ', Fresh p.1 σ) → RD P n ops (listed.setIfInBounds i true) todo held ⟨(d, x) :: fr, σ' ++ σ⟩ K) :
    RD P n ops listed ((i, false) :: todo) held ⟨fr, σ⟩ K := dcl _ hi hf h hd hargs hno hK
theorem dapA {e : TypeId} {sz by_ : Nat} {zv : Value} {r len : Nat} {es ys : List (List AV)} (hi : ops[i]? = some ⟨some d, .call { callee := .builtin .append, args := #[x, y], argTypes := #[t, t] }, ty, pos, af, none⟩) (es' : List (List AV)) (len' : Nat)
    (hK : ∀ r', Fresh r' (sdrop [r] σ) → ∃ σ', SSet σ r (.arr e sz es) r' (.arr e sz es') σ' ∧ RD P n ops (listed.setIfInBounds i true) todo held ⟨(d, .own r' 0 len') :: fr, σ'⟩ K)
    (i1 : Ty P t (.slice e) := by infer_instance) (i2 : Tz P e sz by_ zv := by infer_instance) (hz : zv.cells.size = sz := by rfl) (hx : aev ⟨fr, σ⟩ x = some (.own r 0 len) := by rfl) (hg : sget σ r = some (.arr e sz es) := by exact sgT) (hlen : len = es.length := by exact lenT) (hy : Src ⟨fr, σ⟩ y sz ys := by exact srcT)
    (he : es ++ ys = es' := by exact newT) (hl' : len' = len + ys.length := by exact lenT) (hmax : len' ≤ maxLen := by (simp [maxLen]; try omega)) (hby : len' * by_ ≤ 140737488355328 := by (simp; try omega)) (hd : Nat.ble (d + 1) n = true := by rfl) (hb : HB ops i (σ.map (·.1)) [r] held := by exact hbtT) :
    RD P n ops listed ((i, false) :: todo) held ⟨fr, σ⟩ K := dap hi i1 i2 hz hx hg hlen hy he hl' hmax hby hd hb hK
end
/-
  Plain words on what instructions are written as: their bytes, how many, no two alike.
-/
theorem if_and {p q : Bool} : (if p = true then q else false) = (p && q) := by cases p <;> rfl
theorem if_or {p q : Bool} : (if p = true then true else q) = (p || q) := by cases p <;> rfl
theorem bT {H R : Prop} (a : H) (h : H → R := by intro h; (try simp only [if_and, if_or] at h); simp only [Bool.and_eq_true, Bool.or_eq_true, Bool.and_eq_false_iff, Bool.or_eq_false_iff, decide_eq_true_eq, decide_eq_false_iff_not, Bool.not_eq_true', Bool.not_eq_false', bne_iff_ne, beq_iff_eq, ne_eq, Bool.not_eq_eq_eq_not, Bool.not_true, Bool.not_false, bne_eq_false_iff_eq, beq_eq_false_iff_ne] at h; exact h) : R := h a
instance : NoE encI := ⟨fun a x hx => by simp [encI] at hx; subst hx; exact NoF.int⟩
theorem putT_lt (x : Ins) : ∀ b ∈ putT x, b < 256 := by
  have hf : ∀ l : List Int, ∀ b ∈ (l.flatMap fun n => uB n.toNat), b < 256 := by
    intro l b hb
    obtain ⟨n, -, hn⟩ := List.mem_flatMap.1 hb
    exact uB_lt _ b hn
  intro b hb
  unfold putT at hb
  split at hb
  · rw [List.mem_singleton.1 hb]; unfold kindB; split <;> (try split) <;> decide
  split at hb
  · exact uB_lt _ b hb
  split at hb
  · rcases List.mem_append.1 hb with h | h
    · exact uB_lt _ b h
    · rw [List.mem_singleton.1 h]; decide
  split at hb
  · rcases List.mem_append.1 hb with h | h
    · rcases List.mem_append.1 h with h | h
      · exact uB_lt _ b h
      · exact hf _ b h
    · exact uB_lt _ b h
  split at hb
  · rcases List.mem_append.1 hb with h | h
    · exact uB_lt _ b h
    · exact uB_lt _ b h
  split at hb
  · rw [List.mem_singleton.1 hb]; decide
  split at hb
  · exact sB_lt _ x.a (Nat.le_refl _) b hb
  · simp at hb
theorem putN_lt {x : Ins} (hm : mayN x = true) : ∀ b ∈ putN x, b < 256 := by
  intro b hb
  rcases List.mem_cons.1 hb with rfl | hb
  · have := may_op hm; omega
  · exact putT_lt x b hb
theorem putN_len {x : Ins} (hx : x.Ok) (hm : mayN x = true) : (putN x).length ≤ 200 := by
  unfold putN
  rw [List.length_cons]
  suffices (putT x).length ≤ 199 by omega
  unfold putT
  split
  · simp
  split
  · next h => have := may3 hm h; have := uB_len 1 x.a.toNat (by omega); omega
  split
  · next h => have := may5 hm h; have := uB_len 1 x.a.toNat (by omega); simp; omega
  split
  · next h =>
    obtain ⟨h1, h2, h3⟩ := may4 hm h
    have := uB_len 1 x.a.toNat (by omega)
    have := uB_len 0 x.l.length (by omega)
    have := flat_len h3
    simp only [List.length_append]
    omega
  split
  · next h => have := may6 hm h; have := uB_len 0 x.a.toNat (by omega); have := uB_len 4 x.b.toNat (by omega); simp; omega
  split
  · simp
  split
  · obtain ⟨-, -, h1, h2, -⟩ := hx
    have := sB_len 9 x.a (by omega) (by omega)
    omega
  · simp
theorem eqN_iff {x y : Ins} : eqN x y = true ↔ x = y := by
  cases x; cases y
  simp [eqN]
end Go.Proofs.YtfihcehdoikfkaaGreat
/-
  Body: instructions whose lists are cut, not too many.
-/
namespace Go.Proofs.YtfihcehdoikfkaaGreat
open Go.RowKit Go.ChangeShapes Go.WideShapes Go.ChangeAt Go.Deep
attribute [local irreducible] SW RS RD AThen ABlock
def bodyN (l : List Ins) (n : Nat) : List Ins := (l.take n).map cutN
theorem bodyN_next {l : List Ins} {j : Nat} {x : Ins} (h : l[j]? = some x) : bodyN l (j + 1) = bodyN l j ++ [cutN x] := by
  unfold bodyN; rw [List.take_add_one, h]; simp
theorem bodyN_len {l : List Ins} {j : Nat} (h : j ≤ l.length) : (bodyN l j).length = j := by unfold bodyN; simp; omega
theorem bor_io {q : Nat} {x : Ins} {e : TypeId} {σ : Sto} (h : sget σ q = some (.arr e 1 (x.l.map encI))) : Bor σ [q] (.agg (io q x)) (.agg (iv .any x)) :=
  bagg (.cons (.refl _) (.cons (.refl _) (.cons (.refl _) (.cons (bor_own h (by simp)) .nil))))
theorem law_body (l : List Ins) (hl : l.length ≤ maxLen) (hw : ∀ x ∈ l, x.l.length ≤ maxLen) (n : Nat) (hn : n ≤ 1000) : SCall Tryz.prog 23 [.ro 4 (l.map (iv .any)) .any, .int .i64 n] []
    (fun y σ => ∃ q, y = .own q 0 (bodyN l n).length ∧ σ = [(q, .arr 56 4 ((bodyN l n).map (iv .any)))]) := by
  unfold maxLen at hl
  refine scall_of (n := 27) (ks := [0, 1, 4, 5, 6, 15]) Tryz.func23 rfl rfl (Nat.le_of_ble_eq_true rfl) ?_
  refine sq7 ?_
  refine rgT ?_
  refine sq22 ?_
  refine sq2 ?_
  refine sw_virt 5 56 4 (by decide) rfl (by decide) (freshT fun q0 hq0 => ?_); repeat rcases hq0 with ⟨_, hq0⟩
  refine lp (β := Nat × Nat) (fun b => ⟨[(0, .ro 4 (l.map (iv .any)) .any), (1, .int .i64 n), (5, .own b.1 0 (bodyN l b.2).length), (6, .int .i64 b.2)], [(b.1, .arr 56 4 ((bodyN l b.2).map (iv .any)))]⟩) (fun b => b.2 ≤ n ∧ b.2 ≤ l.length) (fun b => n - b.2) (q0, 0) sgoT ⟨by omega, by omega⟩ ?_
  rintro ⟨q, j⟩ ⟨hj, hjl⟩
  dsimp only at hj hjl ⊢
  refine sq8 ?_
  refine z14 ?_
  refine lo (lop_lss (E rfl) (E rfl)) rfl ?_
  refine sq9 ?_
  refine z109 ?_
  refine z110 ?_
  refine sq106 ?_
  refine sw_cond rfl (fun g3 => ?_) (fun g3 => ?_)
  · replace g3 := bT g3
    obtain ⟨x, hx⟩ : ∃ x, l[j]? = some x := ⟨_, List.getElem?_eq_getElem (by omega)⟩
    have hxm := hw x (List.mem_of_getElem? hx)
    have hnx := bodyN_next hx
    have hbl := bodyN_len hjl
    refine sq8 ?_
    refine sq31 ?_
    refine z111 ?_
    refine cw [] Tryz.call73 (law_cut x hxm) rfl argsleT stleT ?_
    rintro _ σ' ⟨q2, rfl, rfl⟩ h23
    replace h23 := cnewT h23; repeat rcases h23 with ⟨_, h23⟩
    apply rs_sto; exact nflT
    refine fzv (j := 23) rfl sdelT (bor_io sgT) ?_
    refine z1 ?_; refine freshT fun r24 h24 => ?_; repeat rcases h24 with ⟨_, h24⟩
    refine apA ((bodyN l j ++ [cutN x]).map (iv .any)) (bodyN l j ++ [cutN x]).length ?_
    refine apnT fun r25 h25 => ?_; repeat rcases h25 with ⟨_, h25⟩
    refine sq27 ?_
    refine sq37 ?_
    refine ⟨(r25, j + 1), ⟨by show j + 1 ≤ n; omega, by show j + 1 ≤ l.length; omega⟩, by show n - (j + 1) < n - j; omega, ?_⟩
    dsimp only
    rw [hnx]
    exact sgoT
  have he : bodyN l j = bodyN l n := by
    have : j = n ∨ j = l.length := by replace g3 := bT g3; omega
    rcases this with rfl | rfl
    · rfl
    · unfold bodyN; rw [List.take_of_length_le (Nat.le_refl _), List.take_of_length_le hj]
  rw [he]
  refine sq29 ?_
  apply aend; exact resT
  · exact ⟨q, rfl, rfl⟩
  · exact stleT
end Go.Proofs.YtfihcehdoikfkaaGreat
/-
  From the reading of an argument as data to its representation; the close of a statement 'true, and every argument as it was'. No program is named here.
-/
namespace Go.Proofs.YtfihcehdoikfkaaGreat
open Go.RowKit Go.ChangeShapes Go.WideShapes Go.ChangeAt Go.Deep
theorem read_of {P : Program} {f : Func} (h : (f.params.toList.all fun t => P.readableRec t && decide (t < P.types.size)) = true) : ∀ t ∈ f.params.toList, P.readableRec t = true ∧ t < P.types.size := by
  intro t ht
  have := List.all_eq_true.1 h t ht
  simpa using this

/-
  From the reading of an argument as data to an abstract value; the close of a statement 'true, and every argument as it was'. No program is named here.
-/
def VR0 (W : World) : AV → Value → Prop := VR (fun _ => none) (fun b => b < W.heap.size) W

/-- Whatever cells of type t are read as data: they are en a for some a of α, and ok a. -/
structure RdA (P : Program) (t : TypeId) (α : Type) (sz : Nat) (en : α → List AV) (ok : α → Prop) : Prop where
  cells : P.cellsOf t = sz
  shape : ∀ a, (en a).length = sz ∧ ∀ x ∈ en a, x.cell = true
  read : ∀ (H : Type) (enc : TypeId × Value → H) (W : World) (fuel : Nat) (cs : List Value) (x : DataW H × List MemPlace), DataW.trod enc P W 0 (fun _ => true) true fuel t cs = some x →
    ∃ a : α, ok a ∧ cs.length = sz ∧ ∀ (j : Nat) (x : AV) (u : Value), (en a)[j]? = some x → cs[j]? = some u → VR0 W x u

section
variable {P : Program} {t : TypeId}
theorem cells_of {sz by_ : Nat} {z : Value} (i2 : Tz P t sz by_ z) : P.cellsOf t = sz := by
  obtain ⟨i, h1, _, h2, _⟩ := Tz.parts P t
  simp [Program.cellsOf, h1, h2]
theorem one_at {W : World} {x : AV} {u : Value} (h : VR0 W x u) : ∀ (j : Nat) (y : AV) (v : Value), [x][j]? = some y → [u][j]? = some v → VR0 W y v := by
  intro j y v hy hv
  match j with
  | 0 =>
    simp at hy hv
    subst hy hv
    exact h
  | j + 1 => simp at hy
theorem rda_int {sz by_ : Nat} {z : Value} {k : IntKind} [i : Ty P t (.int k)] [i2 : Tz P t sz by_ z] (hsz : sz = 1) : RdA P t Int 1 (fun n => [.int k n]) (fun n => (Lit.int k n).wf = true) := by
  subst hsz
  refine ⟨cells_of i2, fun a => ⟨rfl, by simp [AV.cell]⟩, fun H enc W fuel cs x h => ?_⟩
  obtain ⟨n, rfl, _, hw⟩ := DataW.trod_int i.und h
  exact ⟨n, hw, rfl, one_at (.int k n)⟩
theorem rda_slice {α : Type} {e : TypeId} {sz szs by_ : Nat} {z : Value} {en : α → List AV} {ok : α → Prop} [i : Ty P t (.slice e)] [i2 : Tz P t szs by_ z] (hsz : szs = 1) (hpos : 0 < sz) (he : RdA P e α sz en ok) :
    RdA P t (List α) 1 (fun l => [.ro sz (l.map en) .any]) (fun l => l.length ≤ maxLen ∧ ∀ a ∈ l, ok a) := by
  subst hsz
  refine ⟨cells_of i2, fun a => ⟨rfl, by simp [AV.cell]⟩, fun H enc W fuel cs x h => ?_⟩
  rcases open_slice i.und h with ⟨rfl, _⟩ | ⟨a, len, cap, m, n, D, Pl, rfl, _, hl, hm, hmm, _, hi⟩
  · exact ⟨[], ⟨Nat.zero_le _, by simp⟩, rfl, one_at (.ro0 (Nat.zero_le _) (fun _ => rfl) (fun h => by cases h) (fun h => by cases h))⟩
  · simp only [if_true] at hmm
    subst hmm
    rcases Nat.eq_zero_or_pos len with rfl | hlen
    · exact ⟨[], ⟨Nat.zero_le _, by simp⟩, rfl, one_at (.ro0 hm (fun h => by cases h) (fun h => by cases h) (fun h => by cases h))⟩
    obtain ⟨b, off, spot⟩ := a
    have hspot : spot = none ∧ b < W.heap.size := by
      obtain ⟨us0, hc0, _⟩ := hi 0 (by omega)
      obtain ⟨_, hul0, hat0⟩ := World.cells?_some hc0
      rw [he.cells] at hul0 hat0
      have h00 := hat0 0 hpos
      rw [List.getElem?_eq_getElem (by omega)] at h00
      simp only [Nat.zero_mul] at h00
      have hs : spot = none := by simpa [Addr.add] using World.cell?_spot h00
      refine ⟨hs, ?_⟩
      have := World.block_lt_of_cell? _ _ h00
      rwa [block_of_add, block_of_add] at this
    obtain ⟨rfl, hlt⟩ := hspot
    have hex : ∀ i : Nat, ∃ y : Option (α × List Value), i < len → ∃ z us, y = some (z, us) ∧ ok z ∧ us.length = sz ∧ (∀ (j : Nat) (u : Value), us[j]? = some u → W.cell? ⟨b, off + i * sz + j, none⟩ = some u) ∧ ∀ (j : Nat) (x : AV) (u : Value), (en z)[j]? = some x → us[j]? = some u → VR0 W x u := by
      intro i
      by_cases hlt : i < len
      · obtain ⟨us, hc, htr⟩ := hi i (by omega)
        obtain ⟨z, hz, hzl, hzv⟩ := he.read H enc W n us _ htr
        obtain ⟨_, hul, hat⟩ := World.cells?_some hc
        rw [he.cells] at hul hat
        refine ⟨some (z, us), fun _ => ⟨z, us, rfl, hz, hzl, fun j u hu => ?_, hzv⟩⟩
        have hj : j < sz := by have := (List.getElem?_eq_some_iff.1 hu).1; omega
        have := hat j hj
        rw [hu, add_of_add, Addr.add_lit] at this
        rw [Nat.add_assoc]
        exact this
      · exact ⟨none, fun h => absurd h hlt⟩
    obtain ⟨f, hf⟩ := Classical.axiomOfChoice hex
    obtain ⟨d, d2, _⟩ := hf 0 (by omega)
    let g : Nat → α × List Value := fun i => (f i).getD (d, d2)
    have hg : ∀ i, i < len → ok (g i).1 ∧ (g i).2.length = sz ∧ (∀ (j : Nat) (u : Value), (g i).2[j]? = some u → W.cell? ⟨b, off + i * sz + j, none⟩ = some u) ∧ ∀ (j : Nat) (x : AV) (u : Value), (en (g i).1)[j]? = some x → (g i).2[j]? = some u → VR0 W x u := by
      intro i hlt
      obtain ⟨z, us, hz, h1, h2, h3, h4⟩ := hf i hlt
      have : g i = (z, us) := by show (f i).getD _ = _; rw [hz]; rfl
      rw [this]
      exact ⟨h1, h2, h3, h4⟩
    have hpick : ∀ (i : Nat) (e : List AV) (j : Nat) (a : AV), (((List.range len).map fun i => (g i).1).map en)[i]? = some e → e[j]? = some a → i < len ∧ (en (g i).1)[j]? = some a ∧ ∃ u, (g i).2[j]? = some u ∧ u = ((g i).2[j]?).getD Go.undef := by
      intro i e j a hie hja
      have hlt : i < len := by have := (List.getElem?_eq_some_iff.1 hie).1; simpa using this
      rw [List.getElem?_map, List.getElem?_map, List.getElem?_range hlt] at hie
      simp at hie
      subst hie
      refine ⟨hlt, hja, ?_⟩
      have hj : j < (g i).2.length := by
        rw [(hg i hlt).2.1, ← (he.shape (g i).1).1]
        exact (List.getElem?_eq_some_iff.1 hja).1
      exact ⟨(g i).2[j], List.getElem?_eq_getElem hj, by simp [List.getElem?_eq_getElem hj]⟩
    refine ⟨(List.range len).map (fun i => (g i).1), ⟨by simp; omega, ?_⟩, rfl, one_at ?_⟩
    · intro a ha
      simp only [List.mem_map, List.mem_range] at ha
      obtain ⟨i, hi, rfl⟩ := ha
      exact (hg i hi).1
    · have hlen' : (((List.range len).map fun i => (g i).1).map en).length = len := by simp
      have key := VR.ro (M := fun _ => none) (F := fun b => b < W.heap.size) (w := W) (es := ((List.range len).map fun i => (g i).1).map en) (k := .any) (b := b) (o := off) (sz := sz) (cap := m)
        (us := fun i j => ((g i).2[j]?).getD Go.undef) hlt ?_ ?_ ?_ (by rw [hlen']; exact hl) hm (fun h => by cases h) (fun h => by cases h)
      · rw [hlen'] at key
        exact key
      · intro x hx
        simp only [List.mem_map] at hx
        obtain ⟨a, _, rfl⟩ := hx
        exact he.shape a
      · intro i e j a hie hja
        obtain ⟨h1, h2, u, hu, hu'⟩ := hpick i e j a hie hja
        rw [← hu']
        exact (hg i h1).2.2.1 j u hu
      · intro i e j a hie hja
        obtain ⟨h1, h2, u, hu, hu'⟩ := hpick i e j a hie hja
        rw [← hu']
        exact (hg i h1).2.2.2 j a u h2 hu

/-! ### arguments -/
/-- an argument of one cell -/
theorem arg_one {α : Type} {en : α → List AV} {ok : α → Prop} (h : RdA P t α 1 en ok) {H : Type} {enc : TypeId × Value → H} {W : World} {v : Value} {d : DataW H} {p : List MemPlace} (hv : v.cells.toList = [v])
    (hd : DataW.Trod enc P W 0 (fun _ => true) true t v d p) : ∃ a, ok a ∧ VR0 W ((en a).headD .undef) v := by
  obtain ⟨fuel, hf⟩ := hd
  rw [hv] at hf
  obtain ⟨a, h1, h2, h3⟩ := h.read H enc W fuel _ _ hf
  refine ⟨a, h1, ?_⟩
  have hl := (h.shape a).1
  match he : en a, hl with
  | [x], _ => exact h3 0 x v (by rw [he]; rfl) rfl
end

/-- a call from a world where nothing is one's own -/
theorem law_run {P : Program} {f : FuncId} {args : List AV} (h : SCall P f args [] (fun x _ => x = .bool true)) {W : World} {vs : List Value} (hl : vs.length = args.length) (hv : ∀ (i : Nat) (x : AV) (v : Value), args[i]? = some x → vs[i]? = some v → VR0 W x v) :
    Calls P f vs.toArray W fun e w' => e = .returned (.bool true) ∧ Below W.heap.size W w' := by
  refine (h (fun _ => none) (fun b => b < W.heap.size) 0 W vs hl hv ⟨by simp, by simp, fun g ⟨p, hp, _⟩ => by simp at hp, fun _ h => h, fun _ _ => rfl⟩).mono ?_
  rintro e w' ⟨v, x, M', F', N', σ', rfl, he, hvx, _, rfl⟩
  cases hvx
  exact ⟨rfl, he.only.below (Nat.le_refl _) fun i _ ⟨p, hp, _⟩ => by simp at hp⟩
theorem vs_nil {W : World} : ∀ (i : Nat) (x : AV) (v : Value), ([] : List AV)[i]? = some x → ([] : List Value)[i]? = some v → VR0 W x v := fun i x v h => by simp at h
theorem vs_cons {W : World} {x : AV} {v : Value} {xs : List AV} {vs : List Value} (h : VR0 W x v) (k : ∀ (i : Nat) (x : AV) (v : Value), xs[i]? = some x → vs[i]? = some v → VR0 W x v) :
    ∀ (i : Nat) (x' : AV) (v' : Value), (x :: xs)[i]? = some x' → (v :: vs)[i]? = some v' → VR0 W x' v' := by
  intro i x' v' hx hv
  match i with
  | 0 => simp at hx hv; subst hx hv; exact h
  | i + 1 => exact k i x' v' (by simpa using hx) (by simpa using hv)

/-
  How a statement's arguments are read: numbers, bytes, instructions.
-/
abbrev I64 (a : Int) : Prop := (Lit.int .i64 a).wf = true
abbrev U8 (a : Int) : Prop := (Lit.int .u8 a).wf = true
theorem bd_u8 {n : Int} (h : U8 n) : 0 ≤ n ∧ n ≤ 255 := by
  simp [U8, Lit.wf, IntKind.min, IntKind.max, IntKind.signed, IntKind.bits] at h
  omega
theorem rda_ints : RdA Tryz.prog 24 (List Int) 1 (fun l => [.ro 1 (l.map encI) .any]) (fun l => l.length ≤ maxLen ∧ ∀ a ∈ l, I64 a) := rda_slice rfl (by decide) (rda_int (t := 3) (k := .i64) rfl)
/-- an instruction that is read: its numbers are numbers -/
def Ins.Wf (x : Ins) : Prop := (-9223372036854775808 ≤ x.op ∧ x.op ≤ 9223372036854775807) ∧ (-9223372036854775808 ≤ x.a ∧ x.a ≤ 9223372036854775807) ∧ (-9223372036854775808 ≤ x.b ∧ x.b ≤ 9223372036854775807) ∧ x.l.length ≤ maxLen ∧ ∀ a ∈ x.l, -9223372036854775808 ≤ a ∧ a ≤ 9223372036854775807
/-
  Plain words of instructions one behind the other.
-/
theorem flat_put_len : ∀ {M : List Ins}, (∀ x ∈ M, x.Ok ∧ mayN x = true) → (M.flatMap putN).length ≤ 200 * M.length
  | [], _ => by simp
  | x :: M, h => by
    have ih := flat_put_len (M := M) fun y hy => h y (List.mem_cons_of_mem _ hy)
    have h1 := putN_len (h x List.mem_cons_self).1 (h x List.mem_cons_self).2
    simp only [List.flatMap_cons, List.length_append, List.length_cons]
    omega
theorem flat_put_lt {M : List Ins} (h : ∀ x ∈ M, x.Ok ∧ mayN x = true) : ∀ b ∈ M.flatMap putN, b < 256 := by
  intro b hb
  obtain ⟨x, hx, hb⟩ := List.mem_flatMap.1 hb
  exact putN_lt (h x hx).2 b hb
/-
  What is read as an instruction is the instruction's own bytes: plain words.
-/
/-- between n and m stand the bytes p -/
def Sp (l : List Nat) (n m : Nat) (p : List Nat) : Prop := l.drop n = p ++ l.drop m ∧ m = n + p.length ∧ m ≤ l.length
theorem Sp.trans {l : List Nat} {n m k : Nat} {p q : List Nat} (h : Sp l n m p) (g : Sp l m k q) : Sp l n k (p ++ q) :=
  ⟨by rw [h.1, g.1, List.append_assoc], by rw [g.2.1, h.2.1, List.length_append]; omega, g.2.2⟩
theorem Sp.nil {l : List Nat} {n : Nat} (h : n ≤ l.length) : Sp l n n [] := ⟨rfl, by simp, h⟩
theorem sp_take {l : List Nat} {n k : Nat} (h : n + k ≤ l.length) : Sp l n (n + k) ((l.drop n).take k) := by
  have hk : ((l.drop n).take k).length = k := by simp; omega
  refine ⟨?_, by rw [hk], h⟩
  rw [← List.drop_drop]
  exact (List.take_append_drop k (l.drop n)).symm
theorem rdB_sp {l : List Nat} {n : Nat} (hn : n ≤ l.length) (h : (rdB l n 0).2.2 = 0) : Sp l n (rdB l n 0).2.1 [(rdB l n 0).1] ∧ (rdB l n 0).1 ∈ l := by
  unfold rdB at h ⊢
  rw [if_neg (by simp)] at h ⊢
  by_cases hc : ((n : Int) == (l.length : Int)) = true
  · rw [if_pos hc] at h; cases h
  · rw [if_neg hc]
    have hlt : n < l.length := by simp at hc; omega
    dsimp only
    rw [getElem!_pos l n hlt]
    exact ⟨⟨by rw [List.drop_eq_getElem_cons hlt]; rfl, rfl, hlt⟩, List.getElem_mem hlt⟩
theorem rdU_sp {l : List Nat} {lim : Int} {n : Nat} (hn : n ≤ l.length) (h : (rdU l lim n 0).2.2 = 0) : Sp l n (rdU l lim n 0).2.1 (uB (rdU l lim n 0).1) ∧ ((rdU l lim n 0).1 : Int) ≤ lim ∧ (rdU l lim n 0).1 < 4294967296 := by
  obtain ⟨b1, b2, -⟩ := getU_bd (l.drop n)
  unfold rdU at h ⊢
  rw [if_neg (by simp)] at h ⊢
  split at h
  · next h1 => simp at h1; exact absurd h (by simpa using h1)
  · next h1 =>
    rw [if_neg h1]
    split at h
    · cases h
    · next h2 =>
      rw [if_neg h2]
      dsimp only
      simp only [decide_eq_true_eq, Int.not_lt] at h2
      refine ⟨?_, h2, b1⟩
      simp only [bne_iff_ne, ne_eq, Decidable.not_not] at h1
      unfold getU at h1 b2 ⊢
      split at h1
      · next h3 => exact absurd h1 h3
      · next h3 =>
        rw [if_neg h3] at b2 ⊢
        split at h1
        · next h4 =>
          rw [if_pos h4] at b2 ⊢
          rw [h4.1]
          simp at b2
          exact sp_take (by simp; omega)
        · cases h1
theorem wrap_i64_bd (n : Int) : -9223372036854775808 ≤ IntKind.i64.wrap n ∧ IntKind.i64.wrap n ≤ 9223372036854775807 := by
  have h1 : (2 : Int) ^ IntKind.i64.bits = 18446744073709551616 := by decide
  have h3 : (2 : Int) ^ (IntKind.i64.bits - 1) = 9223372036854775808 := by decide
  have h2 : IntKind.i64.signed = true := rfl
  unfold IntKind.wrap
  simp only [h1, h2, h3, Bool.true_and, decide_eq_true_eq]
  split <;> omega
theorem rdS_sp {l : List Nat} {bits : Nat} (hb : bits = 32 ∨ bits = 64) {n : Nat} (hn : n ≤ l.length) (h : (rdS l bits n).2.2 = 0) : Sp l n (rdS l bits n).2.1 (sB (rdS l bits n).1) ∧ (-9223372036854775808 ≤ (rdS l bits n).1 ∧ (rdS l bits n).1 ≤ 9223372036854775807) ∧ (bits = 32 → -2147483648 ≤ (rdS l bits n).1 ∧ (rdS l bits n).1 ≤ 2147483647) := by
  have hv : ∀ t : List Nat, -9223372036854775808 ≤ valS t ∧ valS t ≤ 9223372036854775807 := by
    intro t
    match t with
    | [] => simp [valS]
    | [b] => unfold valS; split <;> omega
    | b :: c :: t =>
      rw [valS]
      exact wrap_i64_bd _
  have b2 := getS_bd bits (l.drop n)
  unfold rdS at h ⊢
  dsimp only at h ⊢
  unfold getS at h b2 ⊢
  split at h
  · next h3 => exact absurd h h3
  · next h3 =>
    rw [if_neg h3] at b2 ⊢
    split at h
    · next h4 =>
      rw [if_pos h4] at b2 ⊢
      dsimp only at b2 ⊢
      refine ⟨?_, hv _, h4.2⟩
      rw [h4.1]
      simp at b2
      exact sp_take (by omega)
    · cases h
theorem rdZ_sp {l : List Nat} {n : Nat} (hn : n ≤ l.length) (h : (rdZ l n 0).2 = 0) : Sp l n (rdZ l n 0).1 [0] := by
  unfold rdZ at h ⊢
  split at h
  · cases h
  · next h1 =>
    rw [if_neg h1]
    have := (rdB_sp hn h).1
    rw [show (rdB l n 0).1 = 0 by simpa using h1] at this
    exact this
theorem rdB_ne {l : List Nat} {n : Nat} {e : Int} (h : e ≠ 0) : rdB l n e = (0, n, e) := by unfold rdB; rw [if_pos (by simpa using h)]
theorem rdU_ne {l : List Nat} {lim : Int} {n : Nat} {e : Int} (h : e ≠ 0) : rdU l lim n e = (0, n, e) := by unfold rdU; rw [if_pos (by simpa using h)]
theorem rdK_sp {l : List Nat} {n : Nat} (hn : n ≤ l.length) (h : (rdK l n 0).2.2 = 0) : Sp l n (rdK l n 0).2.1 [kindB (rdK l n 0).1] ∧ 0 ≤ (rdK l n 0).1 ∧ (rdK l n 0).1 ≤ 2 := by
  unfold rdK at h ⊢
  by_cases h1 : (if decide (kindI (rdB l n 0).1 < 0) = true then ((rdB l n 0).2.2 == 0) else false) = true
  · rw [if_pos h1] at h; cases h
  · rw [if_neg h1] at h ⊢
    dsimp only at h ⊢
    obtain ⟨s, -⟩ := rdB_sp hn h
    have hk : ¬ kindI (rdB l n 0).1 < 0 := by
      intro hk
      rw [h, if_pos (by simpa using hk)] at h1
      exact h1 rfl
    rw [if_neg hk]
    generalize hc : (rdB l n 0).1 = c at hk s ⊢
    have : c = 64 ∨ c = 127 ∨ c = 126 := by
      by_cases c1 : c = 64
      · exact .inl c1
      by_cases c2 : c = 127
      · exact .inr (.inl c2)
      by_cases c3 : c = 126
      · exact .inr (.inr c3)
      exfalso
      apply hk
      unfold kindI idxN
      rw [show ([64, 127, 126] : List Int).findIdx? (· == (c : Int)) = none by
        simp only [List.findIdx?_cons, List.findIdx?_nil]
        rw [if_neg (by simp; omega), if_neg (by simp; omega), if_neg (by simp; omega)]; rfl]
      decide
    rcases this with rfl | rfl | rfl <;> exact ⟨s, by decide, by decide⟩
theorem rdL_ne {l : List Nat} {n : Nat} {e : Int} (h : e ≠ 0) : ∀ m, (rdL l m n e).2.2 ≠ 0
  | 0 => h
  | m + 1 => by
    rw [rdL]
    dsimp only
    rw [rdU_ne (rdL_ne h m)]
    exact rdL_ne h m
theorem rdL_sp {l : List Nat} {n : Nat} (hn : n ≤ l.length) : ∀ m, (rdL l m n 0).2.2 = 0 → Sp l n (rdL l m n 0).2.1 ((rdL l m n 0).1.flatMap fun z => uB z.toNat) ∧ ∀ z ∈ (rdL l m n 0).1, 0 ≤ z ∧ z ≤ 1000
  | 0, _ => ⟨Sp.nil hn, by simp [rdL]⟩
  | m + 1, h => by
    rw [rdL] at h ⊢
    dsimp only at h ⊢
    have h0 : (rdL l m n 0).2.2 = 0 := by
      by_cases hc : (rdL l m n 0).2.2 = 0
      · exact hc
      · rw [rdU_ne hc] at h; exact h
    obtain ⟨s, hz⟩ := rdL_sp hn m h0
    rw [h0] at h ⊢
    obtain ⟨s2, h2, -⟩ := rdU_sp s.2.2 h
    refine ⟨?_, fun z hz2 => ?_⟩
    · rw [List.flatMap_append]
      simpa using s.trans s2
    · rcases List.mem_append.1 hz2 with hz2 | hz2
      · exact hz z hz2
      · rw [List.mem_singleton.1 hz2]; omega
theorem fin_ok {x : Ins} {n : Nat} {e : Int} (h : (fin x n e).2.2 = 0) : e = 0 ∧ fin x n e = (x, n, 0) := by
  unfold fin at h ⊢
  by_cases he : e = 0
  · subst he; exact ⟨rfl, rfl⟩
  · rw [if_pos (by simpa using he)] at h; exact absurd h he
theorem rdZ_ne {l : List Nat} {n : Nat} {e : Int} (h : e ≠ 0) : (rdZ l n e).2 ≠ 0 := by unfold rdZ; rw [rdB_ne h, if_neg (by simp)]; exact h
theorem formN_rng (op : Int) : formN op = 0 ∨ formN op = 1 ∨ formN op = 2 ∨ formN op = 3 ∨ formN op = 4 ∨ formN op = 5 ∨ formN op = 6 ∨ formN op = 7 ∨ formN op = 8 ∨ formN op = 9 := by
  unfold formN formW
  repeat' split
  all_goals simp
theorem getT_sound {l : List Nat} {op : Nat} (hop : op < 256) {n : Nat} (hn : n ≤ l.length) (hf : (formN (op : Int) == 0) = false) (h : (getT l op n 0).2.2 = 0) :
    (getT l op n 0).1.op = op ∧ (getT l op n 0).1.Ok ∧ mayN (getT l op n 0).1 = true ∧ Sp l n (getT l op n 0).2.1 (putT (getT l op n 0).1) := by
  unfold getT at h ⊢
  by_cases g2 : (formN (op : Int) == 2) = true
  · simp only [g2, if_true] at h ⊢
    obtain ⟨he, hx⟩ := fin_ok h
    rw [hx]
    obtain ⟨s, k1, k2⟩ := rdK_sp hn he
    have e2 : formN (op : Int) = 2 := by simpa using g2
    refine ⟨rfl, ⟨by dsimp only; omega, by dsimp only; omega, by dsimp only; omega, by dsimp only; omega, by simp⟩, by simp [mayN, preN, e2, bt2_eq]; omega, ?_⟩
    simp only [putT, e2]; exact s
  simp only [g2, Bool.false_eq_true, if_false] at h ⊢
  by_cases g3 : (formN (op : Int) == 3) = true
  · simp only [g3, if_true] at h ⊢
    obtain ⟨he, hx⟩ := fin_ok h
    rw [hx]
    obtain ⟨s, k1, k2⟩ := rdU_sp hn he
    have e2 : formN (op : Int) = 3 := by simpa using g3
    refine ⟨rfl, ⟨by dsimp only; omega, by dsimp only; omega, by dsimp only; omega, by dsimp only; omega, by simp⟩, by simp [mayN, preN, e2, bt2_eq]; omega, ?_⟩
    simp only [putT, e2]; exact s
  simp only [g3, Bool.false_eq_true, if_false] at h ⊢
  by_cases g5 : (formN (op : Int) == 5) = true
  · simp only [g5, if_true] at h ⊢
    obtain ⟨he, hx⟩ := fin_ok h
    rw [hx]
    have h0 : (rdU l 1000 n 0).2.2 = 0 := by
      by_cases hc : (rdU l 1000 n 0).2.2 = 0
      · exact hc
      · exact absurd he (rdZ_ne hc)
    obtain ⟨s, k1, k2⟩ := rdU_sp hn h0
    rw [h0] at he ⊢
    have s2 := rdZ_sp s.2.2 he
    have e2 : formN (op : Int) = 5 := by simpa using g5
    refine ⟨rfl, ⟨by dsimp only; omega, by dsimp only; omega, by dsimp only; omega, by dsimp only; omega, by simp⟩, by simp [mayN, preN, e2, bt2_eq]; omega, ?_⟩
    simp only [putT, e2]; exact s.trans s2
  simp only [g5, Bool.false_eq_true, if_false] at h ⊢
  by_cases g4 : (formN (op : Int) == 4) = true
  · simp only [g4, if_true] at h ⊢
    obtain ⟨he, hx⟩ := fin_ok h
    rw [hx]
    have h1 : (rdL l (rdU l 50 n 0).1 (rdU l 50 n 0).2.1 (rdU l 50 n 0).2.2).2.2 = 0 := by
      by_cases hc : (rdL l (rdU l 50 n 0).1 (rdU l 50 n 0).2.1 (rdU l 50 n 0).2.2).2.2 = 0
      · exact hc
      · rw [rdU_ne hc] at he; exact he
    have h0 : (rdU l 50 n 0).2.2 = 0 := by
      by_cases hc : (rdU l 50 n 0).2.2 = 0
      · exact hc
      · exact absurd h1 (rdL_ne hc _)
    obtain ⟨s, k1, k2⟩ := rdU_sp hn h0
    rw [h0] at h1 he ⊢
    obtain ⟨s2, hz⟩ := rdL_sp s.2.2 _ h1
    have hlen := rdL_len (l := l) (m := (rdU l 50 n 0).1) (n := (rdU l 50 n 0).2.1) (e := 0)
    rw [h1] at he ⊢
    obtain ⟨s3, k3, k4⟩ := rdU_sp s2.2.2 he
    have e2 : formN (op : Int) = 4 := by simpa using g4
    generalize rdL l (rdU l 50 n 0).1 (rdU l 50 n 0).2.1 0 = w at *
    obtain ⟨L, m, e⟩ := w
    dsimp only at *
    have hany : (L.any fun z => !bt2 z 0 1000) = false := by
      rw [List.any_eq_false]
      intro z hzz
      have := hz z hzz
      simp [bt2_eq]; omega
    refine ⟨rfl, ⟨by dsimp only; omega, by dsimp only; omega, by dsimp only; omega, by dsimp only; omega, by simp; omega⟩, ?_, ?_⟩
    · unfold mayN preN
      dsimp only
      rw [e2, hany]
      simp [bt2_eq]; omega
    · unfold putT
      dsimp only
      rw [e2, hlen]
      exact (s.trans s2).trans s3
  simp only [g4, Bool.false_eq_true, if_false] at h ⊢
  by_cases g6 : (formN (op : Int) == 6) = true
  · simp only [g6, if_true] at h ⊢
    obtain ⟨he, hx⟩ := fin_ok h
    rw [hx]
    have h0 : (rdU l 3 n 0).2.2 = 0 := by
      by_cases hc : (rdU l 3 n 0).2.2 = 0
      · exact hc
      · rw [rdU_ne hc] at he; exact absurd he hc
    obtain ⟨s, k1, k2⟩ := rdU_sp hn h0
    rw [h0] at he ⊢
    obtain ⟨s2, k3, k4⟩ := rdU_sp s.2.2 he
    have e2 : formN (op : Int) = 6 := by simpa using g6
    refine ⟨rfl, ⟨by dsimp only; omega, by dsimp only; omega, by dsimp only; omega, by dsimp only; omega, by simp⟩, by simp [mayN, preN, e2, bt2_eq]; omega, ?_⟩
    simp only [putT, e2]; exact s.trans s2
  simp only [g6, Bool.false_eq_true, if_false] at h ⊢
  by_cases g7 : (formN (op : Int) == 7) = true
  · simp only [g7, if_true] at h ⊢
    obtain ⟨he, hx⟩ := fin_ok h
    rw [hx]
    have s := rdZ_sp hn he
    have e2 : formN (op : Int) = 7 := by simpa using g7
    refine ⟨rfl, ⟨by dsimp only; omega, by dsimp only; omega, by simp, by simp, by simp⟩, by simp [mayN, preN, e2], ?_⟩
    simp only [putT, e2]; exact s
  simp only [g7, Bool.false_eq_true, if_false] at h ⊢
  by_cases g8 : (formN (op : Int) == 8) = true
  · simp only [g8, if_true] at h ⊢
    obtain ⟨he, hx⟩ := fin_ok h
    rw [hx]
    obtain ⟨s, k1, k2⟩ := rdS_sp (.inl rfl) hn he
    have k2 := k2 rfl
    have e2 : formN (op : Int) = 8 := by simpa using g8
    refine ⟨rfl, ⟨by dsimp only; omega, by dsimp only; omega, by dsimp only; omega, by dsimp only; omega, by simp⟩, by simp [mayN, preN, e2, bt2_eq]; omega, ?_⟩
    simp only [putT, e2]; exact s
  simp only [g8, Bool.false_eq_true, if_false] at h ⊢
  by_cases g9 : (formN (op : Int) == 9) = true
  · simp only [g9, if_true] at h ⊢
    obtain ⟨he, hx⟩ := fin_ok h
    rw [hx]
    obtain ⟨s, k1, k2⟩ := rdS_sp (.inr rfl) hn he
    have e2 : formN (op : Int) = 9 := by simpa using g9
    refine ⟨rfl, ⟨by dsimp only; omega, by dsimp only; omega, by dsimp only; omega, by dsimp only; omega, by simp⟩, by simp [mayN, preN, e2], ?_⟩
    simp only [putT, e2]; exact s
  simp only [g9, Bool.false_eq_true, if_false] at h ⊢
  have e2 : formN (op : Int) = 1 := by
    simp at hf g2 g3 g4 g5 g6 g7 g8 g9
    have := formN_rng (op : Int)
    omega
  obtain ⟨he, hx⟩ := fin_ok h
  rw [hx]
  refine ⟨rfl, ⟨by dsimp only; omega, by dsimp only; omega, by simp, by simp, by simp⟩, by simp [mayN, preN, e2], ?_⟩
  simp only [putT, e2]; exact Sp.nil hn
theorem getP_sound {l : List Nat} (hlt : ∀ x ∈ l, x < 256) (h : (getP l).2.2 = 0) : (getP l).1.Ok ∧ mayN (getP l).1 = true ∧ Sp l 0 (getP l).2.1 (putN (getP l).1) := by
  unfold getP at h ⊢
  by_cases g1 : (formN ((rdB l 0 0).1 : Nat) == 0) = true
  · rw [if_pos g1] at h; cases h
  rw [if_neg g1] at h ⊢
  by_cases g2 : ((rdB l 0 0).2.2 != 0) = true
  · rw [if_pos g2] at h; rw [show (rdB l 0 0).2.2 = 0 from h] at g2; simp at g2
  rw [if_neg g2] at h ⊢
  have he : (rdB l 0 0).2.2 = 0 := by simpa using g2
  obtain ⟨s, hm⟩ := rdB_sp (Nat.zero_le _) he
  rw [he] at h ⊢
  obtain ⟨k1, k2, k3, k4⟩ := getT_sound (hlt _ hm) s.2.2 (by simpa using g1) h
  refine ⟨k2, k3, ?_⟩
  have := s.trans k4
  unfold putN
  rw [k1]
  exact this
/-
  The symbolic layer: appends onto nil, bytes as text. No program is named here.
-/
theorem take_all {α : Type} {l : List α} {n : Nat} (h : l.length ≤ n) : (l.drop 0).take n = l := by rw [List.drop_zero]; exact List.take_of_length_le h
theorem textT {P : Prop} (h : P := by (first | exact take_all (by first | (simp; done) | (simp; omega) | omega) | rfl)) : P := h
section
variable {P : Program} {n : Nat} {ops : Array Oper} {rest : List Oper} {fr : Fr} {σ : Sto} {K : ASt → Prop} {op : Op} {ty t t' : TypeId} {pos : String} {af : Array Edge} {x y : Operand} {d : Nat}
variable {listed : Array Bool} {todo : List (Nat × Bool)} {held : List (Nat × List Nat)} {i : Nat}
end

/-- a row that a box tells of is written by nobody from here on -/
theorem sgo_fzb {fr : Fr} {σ σ1 σ' : Sto} {r q : Nat} {bt : TypeId} {cs cs' : List AV} {e : Ent} (hs : SSet σ r (.box bt cs) r (.box bt cs') σ1) (hd : SDel σ1 q e σ') (hb : BorL σ [q] cs cs') : SGo ⟨fr, σ⟩ ⟨fr, σ'⟩ := by
  refine sgo_freeze [q] (fun i x' hi => ⟨x', hi, .refl _⟩) (fun p hp => ?_)
  obtain ⟨h1, h2⟩ := hd.sub p hp
  refine ⟨by simpa using h2, ?_⟩
  rcases List.mem_cons.1 (hs.sub p h1) with rfl | h
  · exact ⟨_, sget_mem hs.get, .box (bagg hb)⟩
  · exact ⟨p.2, (mem_sdrop h).1, .refl _⟩

/-- a row that is told less of -/
theorem sgo_cut {fr : Fr} {σ σ' : Sto} {o : Nat} {e : TypeId} {sz : Nat} {es : List (List AV)} (k : Nat) (hs : SSet σ o (.arr e sz es) o (.arr e sz (es.take k)) σ') : SGo ⟨fr, σ⟩ ⟨fr, σ'⟩ := by
  intro M F N n a w hr
  have hmem : ∀ p ∈ σ', (∃ x, (p.1, x) ∈ σ) ∧ ER M F w p.1 p.2 := by
    intro p hp
    rcases List.mem_cons.1 (hs.sub p hp) with rfl | h
    · refine ⟨⟨_, sget_mem hs.get⟩, ?_⟩
      obtain ⟨h0, h1, h2⟩ := hr.st.ent _ (sget_mem hs.get)
      refine ⟨h0, fun x hx => h1 x (List.mem_of_mem_take hx), ?_⟩
      rcases h2 with ⟨h2, h3⟩ | ⟨g, c, vs, h2, h3, h4, h5, h6, h7⟩
      · exact .inl ⟨h2, by simp [h3]⟩
      · refine .inr ⟨g, c, vs, h2, h3, h4, by simp; omega, h6, fun i x j b u hi => ?_⟩
        rw [List.getElem?_take] at hi
        split at hi
        · exact h7 i x j b u hi
        · cases hi
    · exact ⟨⟨p.2, (mem_sdrop h).1⟩, hr.st.ent p (mem_sdrop h).1⟩
  exact ⟨M, F, N, ⟨hr.size, hr.defers, hr.fr, hr.st.retold hmem⟩, Ext.retold fun p hp => (hmem p hp).1⟩

theorem strU_size (a : List Nat) : (strU a).size = a.length := by simp [strU, ByteArray.size]
section
variable {P : Program} {ty t t' : TypeId} {s : ASt} {c : Bool} {x y : Operand}
theorem lop_text_own {e : TypeId} [Ty P t (.slice e)] [Ty P e (.int .u8)] [Ty P t' .string] {bs bs' : List Nat} {r off len : Nat} {et : TypeId} (h : Ev s c x (.own r off len)) (hg : sget s.σ r = some (.arr et 1 (bs.map encU)) := by exact sgT) (hle : off + len ≤ bs.length := by exact lenT) (hbs : (bs.drop off).take len = bs' := by exact textT) : Lop P (.convert t t' x) ty s c (.str (strU bs')) [r] := lop_bytes_own h hg hle hbs
end
end Go.Proofs.YtfihcehdoikfkaaGreat
/-
  Which block ends where: plain words, and the program's Match.
-/
namespace Go.Proofs.YtfihcehdoikfkaaGreat
open Go.RowKit Go.ChangeShapes Go.WideShapes Go.ChangeAt Go.Deep
attribute [local irreducible] SW RS RD AThen ABlock
def encN (n : Nat) : List AV := [.int .i64 n]
instance : NoE encN := ⟨fun a x hx => by simp [encN] at hx; subst hx; exact NoF.int⟩
structure Bk where
  at_ : Nat
  els : Int
  en : Int
def encK (b : Bk) : List AV := [.int .i64 b.at_, .int .i64 b.els, .int .i64 b.en]
instance : NoE encK := ⟨fun a x hx => by simp [encK] at hx; rcases hx with rfl | rfl | rfl <;> exact NoF.int⟩
def isO (op : Int) : Bool := op == 2 || op == 3 || op == 4
/-- blocks so far, and which are open -/
structure MS where
  all : List Bk
  opn : List Nat
def mtop (ops : List Int) (s : MS) (i : Nat) (op : Int) : Option MS :=
  match s.opn.getLast? with
  | none => none
  | some k => match s.all[k]? with
    | none => none
    | some b => if op = 11 then some ⟨s.all.set k ⟨b.at_, b.els, i⟩, s.opn.dropLast⟩
      else if ops[b.at_]? ≠ some (4 : Int) ∨ 0 ≤ b.els then none else some ⟨s.all.set k ⟨b.at_, i, b.en⟩, s.opn⟩
def mstep (ops : List Int) (s : MS) (i : Nat) (op : Int) : Option MS :=
  if isO op = true then (if s.opn.length = 40 then none else some ⟨s.all ++ [⟨i, -1, -1⟩], s.opn ++ [s.all.length]⟩)
  else if op ≠ 5 ∧ op ≠ 11 then some s else mtop ops s i op
def mrun (ops : List Int) : Nat → Option MS
  | 0 => some ⟨[], []⟩
  | j + 1 => match mrun ops j, ops[j]? with
    | some s, some op => mstep ops s j op
    | _, _ => none
theorem mrun_next {ops : List Int} {j : Nat} {s : MS} {op : Int} (h : mrun ops j = some s) (ho : ops[j]? = some op) : mrun ops (j + 1) = mstep ops s j op := by
  rw [mrun, h, ho]
theorem mrun_none {ops : List Int} {j : Nat} (h : mrun ops j = none) : ∀ d, mrun ops (j + d) = none
  | 0 => h
  | d + 1 => by rw [← Nat.add_assoc, mrun, mrun_none h d]
/-- what holds of what was found so far -/
structure MOk (j : Nat) (s : MS) : Prop where
  opn : ∀ k ∈ s.opn, k < s.all.length
  at_ : ∀ b ∈ s.all, b.at_ < j
  len : s.opn.length ≤ 40
  all : s.all.length ≤ j
theorem mstep_ok {ops : List Int} {j : Nat} {s s' : MS} {op : Int} (h : MOk j s) (hs : mstep ops s j op = some s') : MOk (j + 1) s' := by
  unfold mstep at hs
  split at hs
  · split at hs
    · cases hs
    · next h40 =>
      obtain rfl := Option.some.inj hs
      refine ⟨fun k hk => ?_, fun b hb => ?_, by have := h.len; simp; omega, by have := h.all; simp; omega⟩
      · rcases List.mem_append.1 hk with hk | hk
        · have := h.opn k hk; simp; omega
        · rw [List.mem_singleton.1 hk]; simp
      · rcases List.mem_append.1 hb with hb | hb
        · have := h.at_ b hb; omega
        · rw [List.mem_singleton.1 hb]; exact Nat.lt_succ_self _
  split at hs
  · obtain rfl := Option.some.inj hs
    exact ⟨h.opn, fun b hb => Nat.lt_succ_of_lt (h.at_ b hb), h.len, Nat.le_succ_of_le h.all⟩
  unfold mtop at hs
  split at hs
  · cases hs
  split at hs
  · cases hs
  · next k hk b hb =>
    have hbm := h.at_ b (List.mem_of_getElem? hb)
    split at hs
    · obtain rfl := Option.some.inj hs
      refine ⟨fun x hx => ?_, fun x hx => ?_, by have := h.len; simp; omega, by have := h.all; simp; omega⟩
      · have := h.opn x ((List.dropLast_sublist _).subset hx); simpa using this
      · rcases List.mem_or_eq_of_mem_set hx with hx | rfl
        · exact Nat.lt_succ_of_lt (h.at_ x hx)
        · exact Nat.lt_succ_of_lt hbm
    split at hs
    · cases hs
    · obtain rfl := Option.some.inj hs
      refine ⟨fun x hx => ?_, fun x hx => ?_, h.len, by have := h.all; simp; omega⟩
      · have := h.opn x hx; simpa using this
      · rcases List.mem_or_eq_of_mem_set hx with hx | rfl
        · exact Nat.lt_succ_of_lt (h.at_ x hx)
        · exact Nat.lt_succ_of_lt hbm
theorem mrun_ok {ops : List Int} : ∀ {j : Nat} {s : MS}, mrun ops j = some s → MOk j s
  | 0, s, h => by
    obtain rfl := Option.some.inj h
    exact ⟨by simp, by simp, by simp, by simp⟩
  | j + 1, s, h => by
    rw [mrun] at h
    split at h
    · next s0 op h1 h2 => exact mstep_ok (mrun_ok h1) h
    · cases h
def matchN (ops : List Int) : Option (List Bk) := if 300 < ops.length then none else match mrun ops ops.length with | some ⟨all, []⟩ => some all | _ => none
def blN (ops : List Int) : List Bk := (matchN ops).getD []
def okN (ops : List Int) : Bool := (matchN ops).isSome
theorem match_fail {ops : List Int} {j : Nat} (h : mrun ops j = none) (hj : j ≤ ops.length) : matchN ops = none := by
  unfold matchN
  split
  · rfl
  · have := mrun_none h (ops.length - j)
    rw [Nat.add_sub_cancel' hj] at this
    rw [this]
def opsOf (l : List Ins) : List Int := l.map Ins.op
theorem opsOf_at {l : List Ins} {j : Nat} {x : Ins} (h : l[j]? = some x) : (opsOf l)[j]? = some x.op := by simp [opsOf, h]
theorem mk_fail {ops : List Int} {q : Nat} {t : TypeId} (h : matchN ops = none) : ∃ q2, AV.tup [.own q 0 0, .bool false] = .tup [.own q2 0 (blN ops).length, .bool (okN ops)] ∧ ([(q, .arr t 3 [])] : Sto) = [(q2, .arr t 3 ((blN ops).map encK))] :=
  ⟨q, by simp [blN, okN, h], by simp [blN, h]⟩
theorem code_opens (op : Int) : SCall Tryz.prog 104 [.int .i64 op] [] (fun x σ => x = .bool (isO op) ∧ σ = []) := by
  refine scall_of (n := 13) (ks := [0, 2]) Tryz.func104 rfl rfl (Nat.le_of_ble_eq_true rfl) ?_
  refine sq32 ?_
  refine sq92 ?_
  refine z112 ?_
  refine z113 ?_
  refine sq9 ?_
  refine z112 ?_
  refine z113 ?_
  refine sq2 ?_
  apply aend; exact resT
  · exact ⟨by show AV.bool _ = _; congr 1; simp only [if_or, isO], rfl⟩
  · exact stleT
/-
  The program's Match.
-/
theorem step_open {ops : List Int} {s : MS} {j : Nat} {op : Int} (h : isO op = true) (hl : s.opn.length ≠ 40) : mstep ops s j op = some ⟨s.all ++ [⟨j, -1, -1⟩], s.opn ++ [s.all.length]⟩ := by
  unfold mstep; rw [if_pos h, if_neg hl]
theorem step_full {ops : List Int} {s : MS} {j : Nat} {op : Int} (h : isO op = true) (hl : s.opn.length = 40) : mstep ops s j op = none := by
  unfold mstep; rw [if_pos h, if_pos hl]
theorem step_skip {ops : List Int} {s : MS} {j : Nat} {op : Int} (h : isO op = false) (h1 : op ≠ 5) (h2 : op ≠ 11) : mstep ops s j op = some s := by
  unfold mstep; rw [if_neg (by simp [h]), if_pos ⟨h1, h2⟩]
theorem step_top {ops : List Int} {s : MS} {j : Nat} {op : Int} (h : isO op = false) (h1 : op = 5 ∨ op = 11) : mstep ops s j op = mtop ops s j op := by
  unfold mstep; rw [if_neg (by simp [h]), if_neg (by omega)]
theorem top_none {ops : List Int} {all : List Bk} {j : Nat} {op : Int} : mtop ops ⟨all, []⟩ j op = none := rfl
theorem top_end {ops : List Int} {all : List Bk} {pre : List Nat} {k j : Nat} {b : Bk} (hb : all[k]? = some b) : mtop ops ⟨all, pre ++ [k]⟩ j 11 = some ⟨all.set k ⟨b.at_, b.els, j⟩, pre⟩ := by
  unfold mtop; simp [hb]
theorem top_else {ops : List Int} {all : List Bk} {pre : List Nat} {k j : Nat} {b : Bk} (hb : all[k]? = some b) (h4 : ops[b.at_]? = some 4) (he : ¬ 0 ≤ b.els) : mtop ops ⟨all, pre ++ [k]⟩ j 5 = some ⟨all.set k ⟨b.at_, j, b.en⟩, pre ++ [k]⟩ := by
  unfold mtop; simp [hb, h4, he]
theorem top_bad {ops : List Int} {all : List Bk} {pre : List Nat} {k j : Nat} {b : Bk} (hb : all[k]? = some b) (h : ops[b.at_]? ≠ some 4 ∨ 0 ≤ b.els) : mtop ops ⟨all, pre ++ [k]⟩ j 5 = none := by
  unfold mtop; simp [hb]; intro h4
  rcases h with h | h
  · exact absurd h4 h
  · exact h
theorem last_at {pre : List Nat} {k : Nat} : (pre ++ [k])[(((pre ++ [k]).length : Nat) - 1 : Int).toNat]? = some k := by
  rw [show (((pre ++ [k]).length : Nat) - 1 : Int).toNat = pre.length by simp]
  simp
theorem nat_at {α : Type} {l : List α} {k : Nat} {x : α} (h : l[k]? = some x) : l[(k : Int).toNat]? = some x := by rw [Int.toNat_natCast]; exact h
theorem code_match (l : List Ins) (hl : l.length ≤ 100000) : SCall Tryz.prog 35 [.ro 4 (l.map (iv .any)) .any] []
    (fun y σ => ∃ q, y = .tup [.own q 0 (blN (opsOf l)).length, .bool (okN (opsOf l))] ∧ σ = [(q, .arr 145 3 ((blN (opsOf l)).map encK))]) := by
  have hol : (opsOf l).length = l.length := by simp [opsOf]
  refine scall_of (n := 113) (ks := [0, 2, 3, 4, 5, 6, 7, 8, 11, 12, 13, 14, 15, 30, 38, 52, 61, 64, 81, 111]) Tryz.func35 rfl rfl (Nat.le_of_ble_eq_true rfl) ?_
  refine sq3 ?_
  refine sq88 ?_
  refine z14 ?_
  refine sq47 ?_
  refine sw_cond rfl (fun g1 => ?_) (fun g1 => ?_)
  · refine sq3 ?_
    refine sq46 ?_
    refine an ?_
    refine sw_virt 2 145 3 (by decide) rfl (by decide) (freshT fun q2 hq2 => ?_); repeat rcases hq2 with ⟨_, hq2⟩
    have hN : matchN (opsOf l) = none := by unfold matchN; rw [if_pos (by simp at g1; omega)]
    refine ctlT ?_
    apply aend; exact resT
    · exact mk_fail hN
    · exact stleT
  refine sq7 ?_
  refine rgT ?_
  refine sq113 ?_
  refine sw_virt 4 145 3 (by decide) rfl (by decide) (freshT fun a0 ha0 => ?_); repeat rcases ha0 with ⟨_, ha0⟩
  refine sw_virt 5 3 1 (by decide) rfl (by decide) (freshT fun o0 ho0 => ?_); repeat rcases ho0 with ⟨_, ho0⟩
  refine lp (β := Nat × Nat × Nat × MS) (fun b => ⟨[(0, .ro 4 (l.map (iv .any)) .any), (4, .own b.1 0 b.2.2.2.all.length), (5, .own b.2.1 0 b.2.2.2.opn.length), (12, .ro 4 (l.map (iv .any)) .any), (13, .int .i64 l.length), (14, .int .i64 b.2.2.1)], [(b.1, .arr 145 3 (b.2.2.2.all.map encK)), (b.2.1, .arr 3 1 (b.2.2.2.opn.map encN))]⟩) (fun b => Nq b.1 b.2.1 ∧ b.2.2.1 ≤ l.length ∧ mrun (opsOf l) b.2.2.1 = some b.2.2.2) (fun b => l.length - b.2.2.1) (a0, o0, 0, ⟨[], []⟩) sgoT ⟨by show Nq a0 o0; (exact nqT), Nat.zero_le _, rfl⟩ ?_
  rintro ⟨a, o, j, all, opn⟩ ⟨hao, hj, hrun⟩
  dsimp only at hao hj hrun ⊢
  obtain ⟨hk1, hk2, hk3, hk4⟩ := mrun_ok hrun
  dsimp only at hk1 hk2 hk3 hk4
  refine sq42 ?_
  refine sw_cond rfl (fun g6 => ?_) (fun g6 => ?_)
  · have hlt : j < l.length := by simp at g6; omega
    obtain ⟨x, hx⟩ : ∃ x, l[j]? = some x := ⟨_, List.getElem?_eq_getElem hlt⟩
    have hnx := mrun_next hrun (opsOf_at hx)
    refine sq4 ?_
    refine sq69 ?_
    apply al; rfl; (exact zcT); refine freshT fun r7 h7 => ?_; repeat rcases h7 with ⟨_, h7⟩
    refine lo (lop_assign (E rfl)) rfl ?_
    apply stp; rfl; rfl; rfl; rfl; (exact sputT)
    refine sq38 ?_
    refine z14 ?_
    refine sq41 ?_
    refine puA Tryz.call104 (code_opens _) rfl pargsT nofT ?_
    refine sq9 ?_
    refine z112 ?_
    refine sq28 ?_
    refine sw_cond rfl (fun g10 => ?_) (fun g10 => ?_)
    · refine sq3 ?_
      refine sq46 ?_
      refine an ?_
      refine sw_virt 2 145 3 (by decide) rfl (by decide) (freshT fun q2 hq2 => ?_); repeat rcases hq2 with ⟨_, hq2⟩
      have hN : matchN (opsOf l) = none := by replace g10 := bT g10; exact match_fail (hnx.trans (step_full (s := ⟨all, opn⟩) g10.1 (by show opn.length = 40; omega))) (by omega)
      refine ctlT ?_
      apply aend; exact resT
      · exact mk_fail hN
      · exact stleT
    refine sq58 ?_
    refine puA Tryz.call104 (code_opens _) rfl pargsT nofT ?_
    refine sq2 ?_
    refine sw_cond rfl (fun g12 => ?_) (fun g12 => ?_)
    · have hnn := hnx.trans (step_open g12 (by intro he; simp [g12, he] at g10))
      refine sq8 ?_
      refine z14 ?_
      refine z1 ?_; refine freshT fun r45 h45 => ?_; repeat rcases h45 with ⟨_, h45⟩
      refine apA ((opn ++ [all.length]).map encN) (opn ++ [all.length]).length ?_
      refine apnT fun r46 h46 => ?_; repeat rcases h46 with ⟨_, h46⟩
      refine sq2 ?_
      refine sq13 ?_
      refine z93 ?_
      refine z1 ?_; refine freshT fun r50 h50 => ?_; repeat rcases h50 with ⟨_, h50⟩
      refine apA ((all ++ [(Bk.mk j (-1) (-1))]).map encK) (all ++ [(Bk.mk j (-1) (-1))]).length ?_
      refine apnT fun r51 h51 => ?_; repeat rcases h51 with ⟨_, h51⟩
      refine sq2 ?_
      obtain ⟨A, O, hAO, rfl, rfl⟩ : ∃ A O, Nq A O ∧ A = r51 ∧ O = r46 := ⟨_, _, by (exact nqT), rfl, rfl⟩
      refine rgT ?_
      refine sq35 ?_
      refine ⟨(A, O, j + 1, _), ⟨hAO, hlt, hnn⟩, by show l.length - (j + 1) < l.length - j; omega, ?_⟩
      dsimp only
      exact sgoT
    refine sq58 ?_
    refine lo (lop_neq (E rfl) (E rfl)) rfl ?_
    refine sq39 ?_
    refine z116 ?_
    refine sq28 ?_
    refine sw_cond rfl (fun g15 => ?_) (fun g15 => ?_)
    · have hnn := hnx.trans (step_skip g12 (by replace g15 := bT g15; exact g15.1) (by replace g15 := bT g15; exact g15.2))
      obtain ⟨A, O, hAO, rfl, rfl⟩ : ∃ A O, Nq A O ∧ A = a ∧ O = o := ⟨_, _, by (exact nqT), rfl, rfl⟩
      refine sq54 ?_
      refine ⟨(A, O, j + 1, _), ⟨hAO, hlt, hnn⟩, by show l.length - (j + 1) < l.length - j; omega, ?_⟩
      dsimp only
      exact sgoT
    have h5 : x.op = 5 ∨ x.op = 11 := by replace g15 := bT g15; omega
    have hnx := hnx.trans (step_top g12 h5)
    refine sq4 ?_
    refine sq5 ?_
    refine sw_cond rfl (fun g16 => ?_) (fun g16 => ?_)
    · refine sq3 ?_
      refine sq46 ?_
      refine an ?_
      refine sw_virt 2 145 3 (by decide) rfl (by decide) (freshT fun q2 hq2 => ?_); repeat rcases hq2 with ⟨_, hq2⟩
      have hN : matchN (opsOf l) = none := by obtain rfl : opn = [] := (by simpa using g16); exact match_fail (hnx.trans top_none) (by omega)
      refine ctlT ?_
      apply aend; exact resT
      · exact mk_fail hN
      · exact stleT
    have hne : opn ≠ [] := by intro h; simp [h] at g16
    obtain ⟨pre, k, rfl⟩ : ∃ pre k, opn = pre ++ [k] := ⟨opn.dropLast, opn.getLast hne, (List.dropLast_concat_getLast hne).symm⟩
    have hkl := hk1 k (by simp)
    obtain ⟨b, hb⟩ : ∃ b, all[k]? = some b := ⟨_, List.getElem?_eq_getElem hkl⟩
    have hpl : (pre ++ [k]).length = pre.length + 1 := by simp
    have hlast := last_at (pre := pre) (k := k)
    have hbt := nat_at hb
    refine sq58 ?_
    refine sq5 ?_
    refine sw_cond rfl (fun g18 => ?_) (fun g18 => ?_)
    · have h11 : x.op = 11 := by simpa using g18
      have hnn := hnx
      rw [h11, top_end hb] at hnn
      obtain ⟨A, O, hAO, rfl, rfl⟩ : ∃ A O, Nq A O ∧ A = a ∧ O = o := ⟨_, _, by (exact nqT), rfl, rfl⟩
      refine sq8 ?_
      refine lo (lop_move (E rfl)) rfl ?_
      refine z19 ?_
      refine sq102 ?_
      refine sq31 ?_
      refine z117 ?_
      refine z118 ?_
      refine sq84 ?_
      refine z19 ?_
      refine z100 ?_
      refine sq2 ?_
      rw [show ((((pre ++ [k]).length : Nat) : Int) - 1).toNat - 0 = pre.length by simp]
      refine sw_go (sgo_cut (o := O) pre.length ssetT) ?_
      rw [show (all.map encK).set (k : Int).toNat [.int .i64 (b.at_ : Int), .int .i64 b.els, .int .i64 (j : Int)] = (all.set k ⟨b.at_, b.els, j⟩).map encK by rw [Int.toNat_natCast, List.map_set]; rfl, show List.take pre.length ((pre ++ [k]).map encN) = pre.map encN by simp]
      refine rgT ?_
      refine sq35 ?_
      refine ⟨(A, O, j + 1, _), ⟨hAO, hlt, hnn⟩, by show l.length - (j + 1) < l.length - j; omega, ?_⟩
      dsimp only
      exact sgoT
    have h05 : x.op = 5 := by simp at g18; omega
    have hnx := by have := hnx; rw [h05] at this; exact this
    have hba := hk2 b (List.mem_of_getElem? hb)
    obtain ⟨y, hy⟩ : ∃ y, l[b.at_]? = some y := ⟨_, List.getElem?_eq_getElem (by omega)⟩
    have hyt := nat_at hy
    have hoy := opsOf_at hy
    refine sq8 ?_
    refine lo (lop_move (E rfl)) rfl ?_
    refine lo (lop_move (E rfl)) rfl ?_
    refine z19 ?_
    refine sq102 ?_
    refine z15 ?_
    refine z117 ?_
    refine z16 ?_
    refine z15 ?_
    refine z117 ?_
    refine z16 ?_
    refine lo (lop_neq (E rfl) (E rfl)) rfl ?_
    refine sq9 ?_
    refine z109 ?_
    refine z109 ?_
    refine z119 ?_
    refine z120 ?_
    refine z121 ?_
    refine z120 ?_
    refine z122 ?_
    refine z121 ?_
    refine z123 ?_
    refine z113 ?_
    refine sq2 ?_
    refine sw_cond rfl (fun g21 => ?_) (fun g21 => ?_)
    · refine sq3 ?_
      refine sq46 ?_
      refine an ?_
      refine sw_virt 2 145 3 (by decide) rfl (by decide) (freshT fun q2 hq2 => ?_); repeat rcases hq2 with ⟨_, hq2⟩
      have hN : matchN (opsOf l) = none := match_fail (hnx.trans (top_bad hb (by rw [hoy]; replace g21 := bT g21; rcases g21 with h | h; exact .inl (fun e => h (Option.some.inj e)); exact .inr h))) (by omega)
      refine ctlT ?_
      apply aend; exact resT
      · exact mk_fail hN
      · exact stleT
    have hnn := hnx.trans (top_else hb (by rw [hoy]; replace g21 := bT g21; rw [g21.1]) (by replace g21 := bT g21; exact g21.2))
    obtain ⟨A, O, hAO, rfl, rfl⟩ : ∃ A O, Nq A O ∧ A = a ∧ O = o := ⟨_, _, by (exact nqT), rfl, rfl⟩
    refine sq8 ?_
    refine lo (lop_move (E rfl)) rfl ?_
    refine z19 ?_
    refine sq102 ?_
    refine sq31 ?_
    refine z117 ?_
    refine z118 ?_
    refine sq6 ?_
    rw [show (all.map encK).set (k : Int).toNat [.int .i64 (b.at_ : Int), .int .i64 (j : Int), .int .i64 b.en] = (all.set k ⟨b.at_, j, b.en⟩).map encK by rw [Int.toNat_natCast, List.map_set]; rfl]
    refine rgT ?_
    refine sq35 ?_
    refine ⟨(A, O, j + 1, _), ⟨hAO, hlt, hnn⟩, by show l.length - (j + 1) < l.length - j; omega, ?_⟩
    dsimp only
    exact sgoT
  obtain rfl : j = l.length := by simp at g6; omega
  refine sq4 ?_
  refine z14 ?_
  refine sq47 ?_
  refine sw_cond rfl (fun g24 => ?_) (fun g24 => ?_)
  · refine sq3 ?_
    refine sq46 ?_
    refine an ?_
    refine sw_virt 2 145 3 (by decide) rfl (by decide) (freshT fun q2 hq2 => ?_); repeat rcases hq2 with ⟨_, hq2⟩
    have hN : matchN (opsOf l) = none := by unfold matchN; rw [hol, hrun, if_neg (by simp at g1; omega)]; cases opn with | nil => simp at g24 | cons z zs => rfl
    refine ctlT ?_
    apply aend; exact resT
    · exact mk_fail hN
    · exact stleT
  refine sq4 ?_
  refine sq14 ?_
  apply aend; exact resT
  · have hN : matchN (opsOf l) = some all := by unfold matchN; rw [hol, hrun, if_neg (by simp at g1; omega)]; cases opn with | nil => rfl | cons z zs => simp at g24
    simp only [blN, okN, hN, Option.getD_some, Option.isSome_some]; exact ⟨a, rfl, rfl⟩
  · exact stleT
end Go.Proofs.YtfihcehdoikfkaaGreat
/-
  A body's bytes: plain words.
-/
namespace Go.Proofs.YtfihcehdoikfkaaGreat
open Go.RowKit Go.ChangeShapes Go.WideShapes Go.ChangeAt Go.Deep
def putL (l : List Ins) : List Nat := l.flatMap putN ++ [11]
def dN (d : Int) (op : Int) : Int := if (op == 11) = true then d - 1 else if isO op = true then d + 1 else d
/-- the program's Get: so many more may come -/
def gcN (b : List Nat) : Nat → Nat → Int → List Ins → List Ins × Nat × Int
  | 0, _, _, _ => ([], 0, 4)
  | f + 1, k, d, l =>
    if ((getP (b.drop k)).2.2 != 0) = true then ([], 0, (getP (b.drop k)).2.2)
    else if dN d (getP (b.drop k)).1.op < 0 then (if okN (opsOf l) = true then (l, k + (getP (b.drop k)).2.1, 0) else ([], 0, 1))
    else gcN b f (k + (getP (b.drop k)).2.1) (dN d (getP (b.drop k)).1.op) (l ++ [(getP (b.drop k)).1])
def getC (b : List Nat) : List Ins × Nat × Int := gcN b 301 0 0 []
theorem dN_neg {d op : Int} (hd : 0 ≤ d) : dN d op < 0 ↔ ((op == 11) = true ∧ d = 0) := by
  unfold dN
  split
  · next h => constructor; intro h2; exact ⟨h, by omega⟩; intro h2; omega
  · next h =>
    constructor
    · intro h2; split at h2 <;> omega
    · intro h2; exact absurd h2.1 h
/-- an error tells nothing else -/
theorem gcN_err (b : List Nat) : ∀ (f k : Nat) (d : Int) (l : List Ins), (gcN b f k d l).2.2 ≠ 0 → (gcN b f k d l).1 = [] ∧ (gcN b f k d l).2.1 = 0
  | 0, k, d, l => fun _ => ⟨rfl, rfl⟩
  | f + 1, k, d, l => by
    rw [gcN]
    split
    · exact fun _ => ⟨rfl, rfl⟩
    split
    · split
      · exact fun h => absurd rfl h
      · exact fun _ => ⟨rfl, rfl⟩
    · exact gcN_err b f _ _ _
theorem getC_err (b : List Nat) (h : (getC b).2.2 ≠ 0) : (getC b).1 = [] ∧ (getC b).2.1 = 0 := gcN_err _ _ _ _ _ h
theorem form11 {x : Ins} (hx : x.Ok) (hm : mayN x = true) (h : x.op = 11) : x = ⟨11, 0, 0, []⟩ := by
  have f17 := may17 hm (by rw [h]; rfl)
  have fb := may_b hm (by rw [h]; decide)
  have fl := may_l hm (by rw [h]; decide)
  obtain ⟨op, a, c, L⟩ := x
  dsimp only at h f17 fb fl
  subst h f17 fb fl
  rfl
theorem Sp.of_drop {b p : List Nat} {k n : Nat} (hk : k ≤ b.length) (h : Sp (b.drop k) 0 n p) : Sp b k (k + n) p := by
  obtain ⟨h1, h2, h3⟩ := h
  rw [List.drop_zero, List.drop_drop] at h1
  rw [List.length_drop] at h3
  exact ⟨h1, by omega, by omega⟩
theorem gcN_sound {b : List Nat} (hb : ∀ x ∈ b, x < 256) : ∀ (f k : Nat) (d : Int) (l : List Ins), 0 ≤ d → (gcN b f k d l).2.2 = 0 → Sp b 0 k (l.flatMap putN) → (∀ x ∈ l, x.Ok ∧ mayN x = true) →
    okN (opsOf (gcN b f k d l).1) = true ∧ Sp b 0 (gcN b f k d l).2.1 (putL (gcN b f k d l).1) ∧ ∀ x ∈ (gcN b f k d l).1, x.Ok ∧ mayN x = true
  | 0, k, d, l => fun _ h => by cases h
  | f + 1, k, d, l => by
    intro hd h hs hl
    rw [gcN] at h ⊢
    by_cases h1 : ((getP (b.drop k)).2.2 != 0) = true
    · rw [if_pos h1] at h; rw [show (getP (b.drop k)).2.2 = 0 from h] at h1; simp at h1
    rw [if_neg h1] at h ⊢
    have he : (getP (b.drop k)).2.2 = 0 := by simpa using h1
    obtain ⟨ho, hm, hsp⟩ := getP_sound (fun x hx => hb x (List.mem_of_mem_drop hx)) he
    have hsp := Sp.of_drop hs.2.2 hsp
    by_cases h2 : dN d (getP (b.drop k)).1.op < 0
    · rw [if_pos h2] at h ⊢
      by_cases h3 : okN (opsOf l) = true
      · rw [if_pos h3] at h ⊢
        refine ⟨h3, ?_, hl⟩
        have h11 := ((dN_neg hd).1 h2).1
        rw [form11 ho hm (by simpa using h11)] at hsp
        exact hs.trans hsp
      · rw [if_neg h3] at h; cases h
    · rw [if_neg h2] at h ⊢
      refine gcN_sound hb f _ _ _ (by omega) h ?_ ?_
      · rw [List.flatMap_append]
        simpa using hs.trans hsp
      · intro x hx
        rcases List.mem_append.1 hx with hx | hx
        · exact hl x hx
        · rw [List.mem_singleton.1 hx]; exact ⟨ho, hm⟩
theorem getC_sound {b : List Nat} (hb : ∀ x ∈ b, x < 256) (h : (getC b).2.2 = 0) : okN (opsOf (getC b).1) = true ∧ Sp b 0 (getC b).2.1 (putL (getC b).1) ∧ ∀ x ∈ (getC b).1, x.Ok ∧ mayN x = true :=
  gcN_sound hb 301 0 0 [] (Int.le_refl 0) h (Sp.nil (Nat.zero_le _)) (by simp)
/-! ### a body goes there and back -/
theorem okN_len {ops : List Int} (h : okN ops = true) : ops.length ≤ 300 := by
  unfold okN matchN at h
  split at h
  · cases h
  · omega
theorem okN_run {ops : List Int} (h : okN ops = true) : ∃ all, mrun ops ops.length = some ⟨all, []⟩ := by
  unfold okN matchN at h
  split at h
  · cases h
  · split at h
    · next all h2 => exact ⟨all, h2⟩
    · cases h
theorem okN_at {ops : List Int} (h : okN ops = true) {j : Nat} (hj : j ≤ ops.length) : ∃ s, mrun ops j = some s := by
  obtain ⟨all, h⟩ := okN_run h
  cases hs : mrun ops j with
  | some s => exact ⟨s, rfl⟩
  | none =>
    have := mrun_none hs (ops.length - j)
    rw [Nat.add_sub_cancel' hj, h] at this
    cases this
theorem mstep_d {ops : List Int} {s s' : MS} {i : Nat} {op : Int} (h : mstep ops s i op = some s') : (s'.opn.length : Int) = dN s.opn.length op := by
  unfold mstep at h
  unfold dN
  split at h
  · next ho =>
    split at h
    · cases h
    · obtain rfl := Option.some.inj h
      rw [if_neg (by unfold isO at ho; simp at ho ⊢; omega), if_pos ho]; simp
  next ho =>
  split at h
  · next h5 =>
    obtain rfl := Option.some.inj h
    rw [if_neg (by simpa using h5.2), if_neg ho]
  next h5 =>
  unfold mtop at h
  split at h
  · cases h
  next k hk =>
  split at h
  · cases h
  split at h
  · next h11 =>
    obtain rfl := Option.some.inj h
    have : s.opn ≠ [] := by intro h0; rw [h0] at hk; cases hk
    have := List.length_pos_iff.2 this
    rw [if_pos (by simpa using h11)]; simp; omega
  next h11 =>
  split at h
  · cases h
  · obtain rfl := Option.some.inj h
    rw [if_neg (by simpa using h11), if_neg ho]
/-- reading on, behind j of them -/
theorem gcN_back {l : List Ins} (hl : ∀ x ∈ l, x.Ok ∧ mayN x = true) (hok : okN (opsOf l) = true) (r : List Nat) : ∀ (m j : Nat) (s : MS) (f : Nat), m + j = l.length → m < f → mrun (opsOf l) j = some s →
    gcN (putL l ++ r) f ((l.take j).flatMap putN).length s.opn.length (l.take j) = (l, (putL l).length, 0) := by
  have hol : (opsOf l).length = l.length := by simp [opsOf]
  have hdrop : ∀ j, (putL l ++ r).drop ((l.take j).flatMap putN).length = (l.drop j).flatMap putN ++ (11 :: r) := by
    intro j
    have : putL l ++ r = (l.take j).flatMap putN ++ ((l.drop j).flatMap putN ++ (11 :: r)) := by
      unfold putL
      conv => lhs; rw [← List.take_append_drop j l, List.flatMap_append]
      simp
    rw [this, List.drop_left]
  intro m
  induction m with
  | zero =>
    intro j s f hj hf hs
    obtain ⟨f, rfl⟩ : ∃ g, f = g + 1 := ⟨f - 1, by omega⟩
    obtain rfl : j = l.length := by omega
    obtain ⟨all, ha⟩ := okN_run hok
    rw [hol, hs] at ha
    obtain rfl := Option.some.inj ha
    have hg : getP ((putL l ++ r).drop ((l.take l.length).flatMap putN).length) = (⟨11, 0, 0, []⟩, 1, 0) := by
      rw [hdrop, List.drop_length]
      exact get_put (x := ⟨11, 0, 0, []⟩) ⟨by decide, by decide, by decide, by decide, by decide⟩ (by decide) r
    rw [gcN, hg, if_neg (by decide), if_pos (show dN (([] : List Nat).length : Nat) 11 < 0 by decide), List.take_length, if_pos hok]
    simp [putL]
  | succ m ih =>
    intro j s f hj hf hs
    obtain ⟨f, rfl⟩ : ∃ g, f = g + 1 := ⟨f - 1, by omega⟩
    have hlt : j < l.length := by omega
    obtain ⟨x, hx⟩ : ∃ x, l[j]? = some x := ⟨_, List.getElem?_eq_getElem hlt⟩
    obtain ⟨hxo, hxm⟩ := hl x (List.mem_of_getElem? hx)
    have hg : getP ((putL l ++ r).drop ((l.take j).flatMap putN).length) = (x, (putN x).length, 0) := by
      rw [hdrop, List.drop_eq_getElem_cons hlt, (List.getElem?_eq_some_iff.1 hx).2, List.flatMap_cons, List.append_assoc]
      exact get_put hxo hxm _
    obtain ⟨s', hs'⟩ := okN_at hok (j := j + 1) (by omega)
    have hst := mrun_next hs (opsOf_at hx)
    rw [hs'] at hst
    have hd := mstep_d hst.symm
    have ht : l.take (j + 1) = l.take j ++ [x] := by rw [List.take_add_one, hx]; rfl
    have hn := ih (j + 1) s' f (by omega) (by omega) hs'
    rw [gcN, hg, if_neg (by simp)]
    dsimp only
    rw [← hd, if_neg (by omega), ← ht, ← hn, ht, List.flatMap_append]
    simp
theorem getC_back {l : List Ins} (hl : ∀ x ∈ l, x.Ok ∧ mayN x = true) (hok : okN (opsOf l) = true) (r : List Nat) : getC (putL l ++ r) = (l, (putL l).length, 0) := by
  have := okN_len hok
  have hol : (opsOf l).length = l.length := by simp [opsOf]
  exact gcN_back hl hok r l.length 0 ⟨[], []⟩ 301 (by omega) (by omega) rfl
end Go.Proofs.YtfihcehdoikfkaaGreat
/-
  The program's Put and Get of bodies, the document's PutBody, EqBody.
-/
namespace Go.Proofs.YtfihcehdoikfkaaGreat
open Go.RowKit Go.ChangeShapes Go.WideShapes Go.ChangeAt Go.Deep
attribute [local irreducible] SW RS RD AThen ABlock
theorem take_sub {b : List Nat} {k : Nat} : List.take ((b.map encU).length - k) (List.drop k (b.map encU)) = (b.drop k).map encU := by
  rw [List.map_drop]; exact List.take_of_length_le (by simp)
def pJ (l : List Ins) (j : Nat) : List Nat := (l.take j).flatMap putN
theorem pJ_next {l : List Ins} {j : Nat} {x : Ins} (h : l[j]? = some x) : pJ l (j + 1) = pJ l j ++ putN x := by
  unfold pJ; rw [List.take_add_one, h, List.flatMap_append]; simp
theorem pJ_len {l : List Ins} (hm : ∀ x ∈ l, x.Ok ∧ mayN x = true) (j : Nat) : (pJ l j).length ≤ 200 * l.length := by
  have h1 : (pJ l j).length ≤ 200 * (l.take j).length := flat_put_len fun x hx => hm x (List.mem_of_mem_take hx)
  have : (l.take j).length ≤ l.length := by simp; omega
  omega
theorem pJ_all {l : List Ins} : pJ l l.length ++ [11] = putL l := by unfold pJ putL; rw [List.take_length]
theorem putL_len {l : List Ins} (hm : ∀ x ∈ l, x.Ok ∧ mayN x = true) : (putL l).length ≤ 200 * l.length + 1 := by
  rw [← pJ_all]; have := pJ_len hm l.length; simp; omega
theorem putL_lt {l : List Ins} (hm : ∀ x ∈ l, x.Ok ∧ mayN x = true) : ∀ b ∈ putL l, b < 256 := by
  intro b hb
  rcases List.mem_append.1 hb with hb | hb
  · exact flat_put_lt hm b hb
  · rw [List.mem_singleton.1 hb]; decide
theorem code_put (q : Nat) (vs : List Nat) (hvs : vs.length ≤ 20000000) (l : List Ins) (hl : l.length ≤ 310) (hm : ∀ x ∈ l, x.Ok ∧ mayN x = true) : SCall Tryz.prog 168 [.own q 0 vs.length, .ro 4 (l.map (iv .any)) .any] [(q, .arr 5 1 (vs.map encU))]
    (fun y σ => ∃ r, y = .own r 0 (vs ++ putL l).length ∧ σ = [(r, .arr 5 1 ((vs ++ putL l).map encU))]) := by
  refine scall_of (n := 20) (ks := [0, 1, 4, 6, 7, 8, 9, 10]) Tryz.func168 rfl rfl (Nat.le_of_ble_eq_true rfl) ?_
  refine sq100 ?_
  refine lp (β := Nat × Nat) (fun b => ⟨[(0, .own b.1 0 (vs ++ pJ l b.2).length), (7, .ro 4 (l.map (iv .any)) .any), (8, .int .i64 l.length), (9, .int .i64 b.2)], [(b.1, .arr 5 1 ((vs ++ pJ l b.2).map encU))]⟩) (fun b => b.2 ≤ l.length) (fun b => l.length - b.2) (q, 0) (by dsimp only; rw [show vs ++ pJ l 0 = vs by simp [pJ]]; (exact sgoT)) (Nat.zero_le _) ?_
  rintro ⟨q1, j⟩ hj
  have hpl := pJ_len hm j
  dsimp only at hj ⊢
  refine sq42 ?_
  refine sw_cond rfl (fun g2 => ?_) (fun g2 => ?_)
  · have hlt : j < l.length := by simp at g2; omega
    obtain ⟨x, hx⟩ : ∃ x, l[j]? = some x := ⟨_, List.getElem?_eq_getElem hlt⟩
    obtain ⟨hxo, hxm⟩ := hm x (List.mem_of_getElem? hx)
    have hnx := pJ_next hx
    refine sq3 ?_
    refine sq69 ?_
    apply al; rfl; (exact zcT); refine freshT fun r6 h6 => ?_; repeat rcases h6 with ⟨_, h6⟩
    apply stp; rfl; rfl; rfl; rfl; (exact sputT)
    refine sq38 ?_
    refine z99 ?_
    refine cw [(q1, .arr 5 1 ((vs ++ pJ l j).map encU))] Tryz.call162 (instr_put q1 (vs ++ pJ l j) (by simp; omega) .any x hxo hxm) rfl argsleT stleT ?_
    rintro _ σ' ⟨r15, rfl, rfl⟩ h15
    have k15 := rest1T h15; repeat rcases k15 with ⟨_, k15⟩
    apply rs_sto; exact nflT
    refine sq90 ?_
    refine ⟨(r15, j + 1), hlt, by show l.length - (j + 1) < l.length - j; omega, ?_⟩
    dsimp only
    rw [hnx, ← List.append_assoc]
    exact sgoT
  obtain rfl : j = l.length := by simp at g2; omega
  refine sq4 ?_
  refine z1 ?_; refine freshT fun r18 h18 => ?_; repeat rcases h18 with ⟨_, h18⟩
  refine apA (((vs ++ pJ l l.length) ++ [11]).map encU) ((vs ++ pJ l l.length) ++ [11]).length ?_
  refine apnT fun r19 h19 => ?_; repeat rcases h19 with ⟨_, h19⟩
  refine sq2 ?_
  rw [List.append_assoc, pJ_all]
  apply aend; exact resT
  · exact ⟨r19, rfl, rfl⟩
  · exact stleT
theorem ref_putBody (l : List Ins) (hl : l.length ≤ 310) (hm : ∀ x ∈ l, x.Ok ∧ mayN x = true) : SCall Tryz.prog 155 [.ro 4 (l.map (iv .any)) .any] []
    (fun y σ => ∃ r, y = .own r 0 (putL l).length ∧ σ = [(r, .arr 5 1 ((putL l).map encU))]) := by
  refine scall_of (n := 21) (ks := [0, 2, 3, 4, 8]) Tryz.func155 rfl rfl (Nat.le_of_ble_eq_true rfl) ?_
  refine sq7 ?_
  refine rgT ?_
  refine sq22 ?_
  refine sq2 ?_
  refine sw_virt 3 5 1 (by decide) rfl (by decide) (freshT fun q0 hq0 => ?_); repeat rcases hq0 with ⟨_, hq0⟩
  refine lp (β := Nat × Nat) (fun b => ⟨[(0, .ro 4 (l.map (iv .any)) .any), (3, .own b.1 0 (pJ l b.2).length), (4, .int .i64 b.2)], [(b.1, .arr 5 1 ((pJ l b.2).map encU))]⟩) (fun b => b.2 ≤ l.length) (fun b => l.length - b.2) (q0, 0) sgoT (Nat.zero_le _) ?_
  rintro ⟨q1, j⟩ hj
  have hpl := pJ_len hm j
  dsimp only at hj ⊢
  refine sq8 ?_
  refine sq71 ?_
  refine sw_cond rfl (fun g3 => ?_) (fun g3 => ?_)
  · have hlt : j < l.length := by simp at g3; omega
    obtain ⟨x, hx⟩ : ∃ x, l[j]? = some x := ⟨_, List.getElem?_eq_getElem hlt⟩
    obtain ⟨hxo, hxm⟩ := hm x (List.mem_of_getElem? hx)
    have hnx := pJ_next hx
    have hpx := putN_len hxo hxm
    refine sq8 ?_
    refine sq31 ?_
    refine z111 ?_
    refine clA Tryz.call152 (ref_putInstr .any x hxo hxm) rfl bargsT noT ?_
    rintro _ σ' ⟨r16, rfl, rfl⟩ h16
    replace h16 := lnewT h16; repeat rcases h16 with ⟨_, h16⟩
    apply rs_sto; exact nflT
    refine apA ((pJ l j ++ putN x).map encU) (pJ l j ++ putN x).length ?_
    refine apnT fun r17 h17 => ?_; repeat rcases h17 with ⟨_, h17⟩
    refine sq27 ?_
    refine sq37 ?_
    refine ⟨(r17, j + 1), hlt, by show l.length - (j + 1) < l.length - j; omega, ?_⟩
    dsimp only
    rw [hnx]
    exact sgoT
  obtain rfl : j = l.length := by simp at g3; omega
  refine sq4 ?_
  refine z1 ?_; refine freshT fun r19 h19 => ?_; repeat rcases h19 with ⟨_, h19⟩
  refine apA ((pJ l l.length ++ [11]).map encU) (pJ l l.length ++ [11]).length ?_
  refine apnT fun r20 h20 => ?_; repeat rcases h20 with ⟨_, h20⟩
  refine sq2 ?_
  rw [pJ_all]
  apply aend; exact resT
  · exact ⟨r20, rfl, rfl⟩
  · exact stleT
instance : DecidableEq Ins := fun x y => if h : eqN x y = true then .isTrue (eqN_iff.1 h) else .isFalse fun e => h (eqN_iff.2 e)
def eqB (a c : List Ins) : Bool := decide (a = c)
theorem ref_eqBody (k k2 : Rk) (a c : List Ins) (ha : a.length ≤ 100000) (hc : c.length ≤ 100000) : SCall Tryz.prog 129 [.ro 4 (a.map (iv .any)) k, .ro 4 (c.map (iv .any)) k2] [] (fun r σ => r = .bool (eqB a c) ∧ σ = []) := by
  refine scall_of (n := 27) (ks := [0, 1, 4, 5, 10, 14, 26]) Tryz.func129 rfl rfl (Nat.le_of_ble_eq_true rfl) ?_
  refine sq111 ?_
  refine sw_cond rfl (fun g1 => ?_) (fun g1 => ?_)
  · have hE : eqB a c = false := by unfold eqB; rw [decide_eq_false]; intro e; rw [e] at g1; simp at g1
    refine sq7 ?_
    apply aend; exact resT
    · exact ⟨by rw [hE]; rfl, rfl⟩
    · exact stleT
  have hlen : a.length = c.length := by simp at g1; omega
  refine sq7 ?_
  refine lp (β := Nat) (fun j => ⟨[(0, .ro 4 (a.map (iv .any)) k), (1, .ro 4 (c.map (iv .any)) k2), (5, .int .i64 j)], []⟩) (fun j => j ≤ a.length ∧ a.take j = c.take j) (fun j => a.length - j) 0 sgoT ⟨Nat.zero_le _, rfl⟩ ?_
  intro j ⟨hj, hjt⟩
  refine sq8 ?_
  refine sq71 ?_
  refine sw_cond rfl (fun g4 => ?_) (fun g4 => ?_)
  · have hlt : j < a.length := by simp at g4; omega
    obtain ⟨x, hx⟩ : ∃ x, a[j]? = some x := ⟨_, List.getElem?_eq_getElem hlt⟩
    obtain ⟨y, hy⟩ : ∃ y, c[j]? = some y := ⟨_, List.getElem?_eq_getElem (by omega)⟩
    refine ctlT ?_
    refine rgD [(0, true), (1, true), (2, true), (3, true), (4, true), (5, true), (6, true), (7, true), (8, false), (9, true)] ?_
    refine sq40 ?_
    refine z126 ?_
    refine sq40 ?_
    refine z126 ?_
    refine dpuA rfl Tryz.call188 (ref_eqInstr .any .any x y) rfl pargsT nofT ?_
    refine dlo rfl (lop_not (E rfl)) rfl ?_
    refine sq91 ?_
    refine sw_cond rfl (fun g6 => ?_) (fun g6 => ?_)
    · have hE : eqB a c = false := by unfold eqB; rw [decide_eq_false]; intro e; rw [e, hy] at hx; rw [Option.some.inj hx, eqN_self] at g6; simp at g6
      refine sq7 ?_
      apply aend; exact resT
      · exact ⟨by rw [hE]; rfl, rfl⟩
      · exact stleT
    have hxy : x = y := eqN_iff.1 (by simpa using g6)
    refine sq45 ?_
    refine ⟨j + 1, ⟨hlt, by rw [List.take_add_one, List.take_add_one, hjt, hx, hy, hxy]⟩, by show a.length - (j + 1) < a.length - j; omega, ?_⟩
    exact sgoT
  obtain rfl : j = a.length := by simp at g4; omega
  have hE : eqB a c = true := by unfold eqB; rw [decide_eq_true]; rw [List.take_length, hlen, List.take_length] at hjt; exact hjt
  refine sq7 ?_
  apply aend; exact resT
  · exact ⟨by rw [hE]; rfl, rfl⟩
  · exact stleT
theorem code_get (b : List Nat) (hb : b.length ≤ 1000000) (hlt : ∀ x ∈ b, x < 256) : SCall Tryz.prog 198 [.ro 1 (b.map encU) .any] []
    (fun y σ => ∃ q, y = .tup [.own q 0 (getC b).1.length, .int .i64 ((getC b).2.1 : Nat), .int .i64 (getC b).2.2] ∧ σ = [(q, .arr 56 4 ((getC b).1.map (iv .any)))]) := by
  refine scall_of (n := 55) (ks := [0, 2, 3, 4, 5, 6, 7, 8, 9, 10, 12, 22, 29, 34, 38, 45, 54]) Tryz.func198 rfl rfl (Nat.le_of_ble_eq_true rfl) ?_
  refine sq3 ?_
  refine sq21 ?_
  refine rgT ?_
  refine sq22 ?_
  refine sq22 ?_
  refine sq2 ?_
  refine sw_virt 5 56 4 (by decide) rfl (by decide) (freshT fun q0 hq0 => ?_); repeat rcases hq0 with ⟨_, hq0⟩
  refine lp (β := Nat × Nat × Int × Nat × List Ins) (fun b' => ⟨[(0, .ro 1 (b.map encU) .any), (5, .own b'.1 0 b'.2.2.2.2.length), (6, .int .i64 b'.2.2.1), (7, .int .i64 b'.2.1)], [(b'.1, .arr 56 4 (b'.2.2.2.2.map (iv .any)))]⟩) (fun b' => b'.2.1 ≤ b.length ∧ 0 ≤ b'.2.2.1 ∧ b'.2.2.1 ≤ b'.2.2.2.2.length ∧ b'.2.2.2.1 + b'.2.2.2.2.length = 301 ∧ 1 ≤ b'.2.2.2.1 ∧ getC b = gcN b b'.2.2.2.1 b'.2.1 b'.2.2.1 b'.2.2.2.2) (fun b' => b'.2.2.2.1) (q0, 0, 0, 301, []) sgoT ⟨Nat.zero_le _, Int.le_refl 0, Int.le_refl 0, rfl, by show 1 ≤ 301; decide, rfl⟩ ?_
  rintro ⟨q, k, d, f, l⟩ ⟨hk, hd0, hdl, hfl, hf1, hG⟩
  dsimp only at hk hd0 hdl hfl hf1 hG ⊢
  obtain ⟨f, rfl⟩ : ∃ g, f = g + 1 := ⟨f - 1, by omega⟩
  have hlt2 : ∀ x ∈ b.drop k, x < 256 := fun x hx => hlt x (List.mem_of_mem_drop hx)
  have hsnd := getP_sound hlt2
  rw [gcN] at hG
  refine sq8 ?_
  refine z127 ?_
  rw [take_sub]
  refine cw [] Tryz.call213 (instr_get (b.drop k) (by simp; omega) hlt2) rfl argsleT stleT ?_
  rintro _ σ' ⟨q3, rfl, rfl⟩ h17
  replace h17 := cnewT h17; repeat rcases h17 with ⟨_, h17⟩
  apply rs_sto; exact nflT
  generalize getP (b.drop k) = gp at hG hsnd ⊢
  obtain ⟨x, n, e⟩ := gp
  dsimp only at hG hsnd ⊢
  refine sq108 ?_
  apply al; rfl; (exact zcT); refine freshT fun r8 h8 => ?_; repeat rcases h8 with ⟨_, h8⟩
  apply stp; rfl; rfl; rfl; rfl; (exact sputT)
  refine sq88 ?_
  refine sq23 ?_
  refine sw_cond rfl (fun g5 => ?_) (fun g5 => ?_)
  · refine sq4 ?_
    refine sq86 ?_
    refine an ?_
    refine sw_virt 2 56 4 (by decide) rfl (by decide) (freshT fun q2 hq2 => ?_); repeat rcases hq2 with ⟨_, hq2⟩
    have hE : getC b = ([], 0, e) := by rw [hG, if_pos g5]
    refine ctlT ?_
    apply aend; exact resT
    · exact ⟨q2, by rw [hE]; rfl, by rw [hE]⟩
    · exact stleT
  rw [if_neg (by simp [g5])] at hG
  obtain ⟨hxo, hxm, hsp⟩ := hsnd (by simpa using g5)
  have hkn : k + n ≤ b.length := by have := hsp.2.2; simp at this; omega
  refine sq8 ?_
  refine z17 ?_
  refine sq41 ?_
  refine sq36 ?_
  refine sw_cond rfl (fun g8 => ?_) (fun g8 => ?_)
  · have hD : dN d x.op = d - 1 := by unfold dN; rw [if_pos g8]
    refine sq4 ?_
    refine z19 ?_
    refine sq27 ?_
    refine sq10 ?_
    refine sw_cond rfl (fun g12 => ?_) (fun g12 => ?_)
    · rw [if_pos (by rw [hD]; simpa using g12)] at hG
      refine sq4 ?_
      refine clA Tryz.call35 (code_match l (by omega)) rfl bargsT noT ?_
      rintro _ σ' ⟨q4, rfl, rfl⟩ h41
      replace h41 := lnewT h41; repeat rcases h41 with ⟨_, h41⟩
      apply rs_sto; exact nflT
      refine sq24 ?_
      refine sq88 ?_
      refine sq59 ?_
      refine sw_cond rfl (fun g14 => ?_) (fun g14 => ?_)
      · refine sq3 ?_
        refine sq86 ?_
        refine an ?_
        refine sw_virt 2 56 4 (by decide) rfl (by decide) (freshT fun q2 hq2 => ?_); repeat rcases hq2 with ⟨_, hq2⟩
        have hE : getC b = ([], 0, 1) := by rw [hG, if_neg]; intro h; rw [h] at g14; cases g14
        refine ctlT ?_
        apply aend; exact resT
        · exact ⟨q2, by rw [hE]; rfl, by rw [hE]⟩
        · exact stleT
      refine sq8 ?_
      refine sq21 ?_
      have hE : getC b = (l, k + n, 0) := by rw [hG, if_pos]; cases h : okN (opsOf l); rw [h] at g14; cases g14; rfl
      apply aend; exact resT
      · exact ⟨q, by rw [hE]; rfl, by rw [hE]⟩
      · exact stleT
    rw [if_neg (by rw [hD]; simpa using g12)] at hG
    refine ctlT ?_
    refine sw_go (sgo_fzb (r := r8) (q := q3) ssetT sdelT (.cons (.refl _) (.cons (.refl _) (.cons (.refl _) (.cons (bor_own sgT (by simp)) .nil))))) ?_
    refine sq1 ?_
    refine z99 ?_
    refine z1 ?_; refine freshT fun r50 h50 => ?_; repeat rcases h50 with ⟨_, h50⟩
    refine apA ((l ++ [x]).map (iv .any)) (l ++ [x]).length ?_
    refine apnT fun r51 h51 => ?_; repeat rcases h51 with ⟨_, h51⟩
    refine sq27 ?_
    refine z14 ?_
    refine sq47 ?_
    refine sw_cond rfl (fun g18 => ?_) (fun g18 => ?_)
    · refine sq3 ?_
      refine sq86 ?_
      refine an ?_
      refine sw_virt 2 56 4 (by decide) rfl (by decide) (freshT fun q2 hq2 => ?_); repeat rcases hq2 with ⟨_, hq2⟩
      have hE : getC b = ([], 0, 4) := by obtain rfl : f = 0 := (by simp at g18; omega); rw [hG]; rfl
      refine ctlT ?_
      apply aend; exact resT
      · exact ⟨q2, by rw [hE]; rfl, by rw [hE]⟩
      · exact stleT
    refine ctlT ?_
    have hf0 : l.length + 1 ≤ 300 := by simp at g18; omega
    refine ⟨(r51, k + n, dN d x.op, f, l ++ [x]), ⟨hkn, by show 0 ≤ dN d x.op; rw [hD]; simp at g12; omega, by show dN d x.op ≤ ((l ++ [x]).length : Nat); rw [hD]; simp; omega, by show f + (l ++ [x]).length = 301; simp; omega, by show 1 ≤ f; omega, hG⟩, Nat.lt_succ_self _, ?_⟩
    dsimp only
    rw [hD]
    exact sgoT
  refine sq58 ?_
  refine puA Tryz.call104 (code_opens _) rfl pargsT nofT ?_
  refine sq6 ?_
  refine sw_cond rfl (fun g10 => ?_) (fun g10 => ?_)
  · have hD : dN d x.op = d + 1 := by unfold dN; rw [if_neg (by simp [g8]), if_pos g10]
    refine sq4 ?_
    refine z17 ?_
    refine sq27 ?_
    refine sq10 ?_
    refine sw_cond rfl (fun g12 => ?_) (fun g12 => ?_)
    · rw [if_pos (by rw [hD]; simpa using g12)] at hG
      refine sq4 ?_
      refine clA Tryz.call35 (code_match l (by omega)) rfl bargsT noT ?_
      rintro _ σ' ⟨q4, rfl, rfl⟩ h41
      replace h41 := lnewT h41; repeat rcases h41 with ⟨_, h41⟩
      apply rs_sto; exact nflT
      refine sq24 ?_
      refine sq88 ?_
      refine sq59 ?_
      refine sw_cond rfl (fun g14 => ?_) (fun g14 => ?_)
      · refine sq3 ?_
        refine sq86 ?_
        refine an ?_
        refine sw_virt 2 56 4 (by decide) rfl (by decide) (freshT fun q2 hq2 => ?_); repeat rcases hq2 with ⟨_, hq2⟩
        have hE : getC b = ([], 0, 1) := by rw [hG, if_neg]; intro h; rw [h] at g14; cases g14
        refine ctlT ?_
        apply aend; exact resT
        · exact ⟨q2, by rw [hE]; rfl, by rw [hE]⟩
        · exact stleT
      refine sq8 ?_
      refine sq21 ?_
      have hE : getC b = (l, k + n, 0) := by rw [hG, if_pos]; cases h : okN (opsOf l); rw [h] at g14; cases g14; rfl
      apply aend; exact resT
      · exact ⟨q, by rw [hE]; rfl, by rw [hE]⟩
      · exact stleT
    rw [if_neg (by rw [hD]; simpa using g12)] at hG
    refine ctlT ?_
    refine sw_go (sgo_fzb (r := r8) (q := q3) ssetT sdelT (.cons (.refl _) (.cons (.refl _) (.cons (.refl _) (.cons (bor_own sgT (by simp)) .nil))))) ?_
    refine sq1 ?_
    refine z99 ?_
    refine z1 ?_; refine freshT fun r50 h50 => ?_; repeat rcases h50 with ⟨_, h50⟩
    refine apA ((l ++ [x]).map (iv .any)) (l ++ [x]).length ?_
    refine apnT fun r51 h51 => ?_; repeat rcases h51 with ⟨_, h51⟩
    refine sq27 ?_
    refine z14 ?_
    refine sq47 ?_
    refine sw_cond rfl (fun g18 => ?_) (fun g18 => ?_)
    · refine sq3 ?_
      refine sq86 ?_
      refine an ?_
      refine sw_virt 2 56 4 (by decide) rfl (by decide) (freshT fun q2 hq2 => ?_); repeat rcases hq2 with ⟨_, hq2⟩
      have hE : getC b = ([], 0, 4) := by obtain rfl : f = 0 := (by simp at g18; omega); rw [hG]; rfl
      refine ctlT ?_
      apply aend; exact resT
      · exact ⟨q2, by rw [hE]; rfl, by rw [hE]⟩
      · exact stleT
    refine ctlT ?_
    have hf0 : l.length + 1 ≤ 300 := by simp at g18; omega
    refine ⟨(r51, k + n, dN d x.op, f, l ++ [x]), ⟨hkn, by show 0 ≤ dN d x.op; rw [hD]; simp at g12; omega, by show dN d x.op ≤ ((l ++ [x]).length : Nat); rw [hD]; simp; omega, by show f + (l ++ [x]).length = 301; simp; omega, by show 1 ≤ f; omega, hG⟩, Nat.lt_succ_self _, ?_⟩
    dsimp only
    rw [hD]
    exact sgoT
  have hD : dN d x.op = d := by unfold dN; rw [if_neg (by simp [g8]), if_neg (by simp [g10])]
  refine sq4 ?_
  refine sq10 ?_
  refine sw_cond rfl (fun g12 => ?_) (fun g12 => ?_)
  · rw [if_pos (by rw [hD]; simpa using g12)] at hG
    refine sq4 ?_
    refine clA Tryz.call35 (code_match l (by omega)) rfl bargsT noT ?_
    rintro _ σ' ⟨q4, rfl, rfl⟩ h41
    replace h41 := lnewT h41; repeat rcases h41 with ⟨_, h41⟩
    apply rs_sto; exact nflT
    refine sq24 ?_
    refine sq88 ?_
    refine sq59 ?_
    refine sw_cond rfl (fun g14 => ?_) (fun g14 => ?_)
    · refine sq3 ?_
      refine sq86 ?_
      refine an ?_
      refine sw_virt 2 56 4 (by decide) rfl (by decide) (freshT fun q2 hq2 => ?_); repeat rcases hq2 with ⟨_, hq2⟩
      have hE : getC b = ([], 0, 1) := by rw [hG, if_neg]; intro h; rw [h] at g14; cases g14
      refine ctlT ?_
      apply aend; exact resT
      · exact ⟨q2, by rw [hE]; rfl, by rw [hE]⟩
      · exact stleT
    refine sq8 ?_
    refine sq21 ?_
    have hE : getC b = (l, k + n, 0) := by rw [hG, if_pos]; cases h : okN (opsOf l); rw [h] at g14; cases g14; rfl
    apply aend; exact resT
    · exact ⟨q, by rw [hE]; rfl, by rw [hE]⟩
    · exact stleT
  rw [if_neg (by rw [hD]; simpa using g12)] at hG
  refine ctlT ?_
  refine sw_go (sgo_fzb (r := r8) (q := q3) ssetT sdelT (.cons (.refl _) (.cons (.refl _) (.cons (.refl _) (.cons (bor_own sgT (by simp)) .nil))))) ?_
  refine sq1 ?_
  refine z99 ?_
  refine z1 ?_; refine freshT fun r50 h50 => ?_; repeat rcases h50 with ⟨_, h50⟩
  refine apA ((l ++ [x]).map (iv .any)) (l ++ [x]).length ?_
  refine apnT fun r51 h51 => ?_; repeat rcases h51 with ⟨_, h51⟩
  refine sq27 ?_
  refine z14 ?_
  refine sq47 ?_
  refine sw_cond rfl (fun g18 => ?_) (fun g18 => ?_)
  · refine sq3 ?_
    refine sq86 ?_
    refine an ?_
    refine sw_virt 2 56 4 (by decide) rfl (by decide) (freshT fun q2 hq2 => ?_); repeat rcases hq2 with ⟨_, hq2⟩
    have hE : getC b = ([], 0, 4) := by obtain rfl : f = 0 := (by simp at g18; omega); rw [hG]; rfl
    refine ctlT ?_
    apply aend; exact resT
    · exact ⟨q2, by rw [hE]; rfl, by rw [hE]⟩
    · exact stleT
  refine ctlT ?_
  have hf0 : l.length + 1 ≤ 300 := by simp at g18; omega
  refine ⟨(r51, k + n, dN d x.op, f, l ++ [x]), ⟨hkn, by show 0 ≤ dN d x.op; rw [hD]; simp at g12; omega, by show dN d x.op ≤ ((l ++ [x]).length : Nat); rw [hD]; simp; omega, by show f + (l ++ [x]).length = 301; simp; omega, by show 1 ≤ f; omega, hG⟩, Nat.lt_succ_self _, ?_⟩
  dsimp only
  rw [hD]
  exact sgoT
end Go.Proofs.YtfihcehdoikfkaaGreat
/-
  A read-only slice's elements may be told weaker; instructions of which nothing was said but the byte; Put onto nothing.
-/
namespace Go.Proofs.YtfihcehdoikfkaaGreat
open Go.RowKit Go.ChangeShapes Go.WideShapes Go.ChangeAt Go.Deep
theorem VLe.ro {sz : Nat} {es es' : List (List AV)} {k : Rk} (hl : es.length = es'.length) (hs : RowsOk sz es')
    (h : ∀ (i : Nat) (e e' : List AV), es[i]? = some e → es'[i]? = some e' → e.length = e'.length ∧ ∀ (j : Nat) (a a' : AV), e[j]? = some a → e'[j]? = some a' → VLe a a') : VLe (.ro sz es k) (.ro sz es' k) := fun M F w v hv => by
  have hx : ∀ (i : Nat) (e' : List AV), es'[i]? = some e' → ∃ e, es[i]? = some e := fun i e' h => ⟨_, List.getElem?_eq_getElem (by have := (List.getElem?_eq_some_iff.1 h).1; omega)⟩
  have hy : ∀ (i : Nat) (e' : List AV) (j : Nat) (a' : AV), es'[i]? = some e' → e'[j]? = some a' → ∃ e a, es[i]? = some e ∧ e[j]? = some a ∧ VLe a a' := fun i e' j a' h1 h2 => by
    obtain ⟨e, he⟩ := hx i e' h1
    obtain ⟨g1, g2⟩ := h i e e' he h1
    have hj := (List.getElem?_eq_some_iff.1 h2).1
    have ha : e[j]? = some (e[j]'(by omega)) := List.getElem?_eq_getElem (by omega)
    exact ⟨e, _, he, ha, g2 j _ a' ha h2⟩
  cases hv with
  | ro hb hs' hc hr hle hm hf hn =>
    rw [hl]
    rw [hl] at hle hf
    rename_i b o cap us
    refine .ro (us := us) hb hs (fun i e' j a' h1 h2 => ?_) (fun i e' j a' h1 h2 => ?_) hle hm hf hn
    · obtain ⟨e, a, he, ha, -⟩ := hy i e' j a' h1 h2; exact hc i e j a he ha
    · obtain ⟨e, a, he, ha, hv⟩ := hy i e' j a' h1 h2; exact hv _ _ _ _ (hr i e j a he ha)
  | ro0 hm hA hf hn =>
    obtain rfl : es' = [] := List.length_eq_zero_iff.1 hl.symm
    exact .ro0 hm hA hf hn
/-
  Modules as bytes: plain words.
-/
structure FT where
  pr : List Int
  rs : List Int
structure Im where
  mod : List Nat
  nm : List Nat
  ty : Int
structure Gl where
  mu : Bool
  kd : Int
  n : Int
structure Ex where
  nm : List Nat
  fn : Int
structure El where
  off : Int
  fs : List Int
structure Co where
  ls : List Int
  bd : List Ins
structure Da where
  off : Int
  bs : List Nat
structure Li where
  has : Bool
  mn : Int
  mx : Int
structure Md where
  ty : List FT
  im : List Im
  fn : List Int
  tb : Li
  me : Li
  gl : List Gl
  ex : List Ex
  el : List El
  co : List Co
  da : List Da
def li0 : Li := ⟨false, 0, 0⟩
def md0 : Md := ⟨[], [], [], li0, li0, [], [], [], [], []⟩
def encFT (x : FT) : List AV := [.ro 1 (x.pr.map encI) .any, .ro 1 (x.rs.map encI) .any]
def encIm (x : Im) : List AV := [.str (strU x.mod), .str (strU x.nm), .int .i64 x.ty]
def encGl (x : Gl) : List AV := [.bool x.mu, .int .i64 x.kd, .int .i64 x.n]
def encEx (x : Ex) : List AV := [.str (strU x.nm), .int .i64 x.fn]
def encEl (x : El) : List AV := [.int .i64 x.off, .ro 1 (x.fs.map encI) .any]
def encCo (x : Co) : List AV := [.ro 1 (x.ls.map encI) .any, .ro 4 (x.bd.map (iv .any)) .any]
def encDa (x : Da) : List AV := [.int .i64 x.off, .ro 1 (x.bs.map encU) .any]
def encLi (x : Li) : List AV := [.bool x.has, .int .i64 x.mn, .int .i64 x.mx]
def encMd (m : Md) : List AV := [.ro 2 (m.ty.map encFT) .any, .ro 3 (m.im.map encIm) .any, .ro 1 (m.fn.map encI) .any, .bool m.tb.has, .int .i64 m.tb.mn, .int .i64 m.tb.mx, .bool m.me.has, .int .i64 m.me.mn, .int .i64 m.me.mx,
  .ro 3 (m.gl.map encGl) .any, .ro 2 (m.ex.map encEx) .any, .ro 2 (m.el.map encEl) .any, .ro 2 (m.co.map encCo) .any, .ro 2 (m.da.map encDa) .any]
/-! ### writing -/
def vecB {α : Type} (l : List α) (pt : α → List Nat) : List Nat := uB l.length ++ l.flatMap pt
def txtB (s : List Nat) : List Nat := uB s.length ++ s
def kB (k : Int) : List Nat := if (k == 1) = true then [127] else [126]
def numB (n : Int) : List Nat := uB n.toNat
def conB (k n : Int) : List Nat := putN ⟨if (k == 2) = true then 66 else 65, n, 0, []⟩ ++ [11]
def plcB (n : Int) : List Nat := 0 :: conB 1 n
def limB (l : Li) : List Nat := if decide (l.mx < 0) = true then 0 :: numB l.mn else 1 :: (numB l.mn ++ numB l.mx)
/-- runs of one kind: the last one grows -/
def runsN : List Int → List (List Int) := fun l => l.foldl (fun r k => match r.getLast? with
  | some (x :: xs) => if x == k then r.dropLast ++ [(x :: xs) ++ [k]] else r ++ [[k]]
  | _ => r ++ [[k]]) []
def runB (r : List Int) : List Nat := numB r.length ++ kB (r.headD 0)
def codB (c : Co) : List Nat := uB (vecB (runsN c.ls) runB ++ putL c.bd).length ++ (vecB (runsN c.ls) runB ++ putL c.bd)
def secB {α : Type} (no : Nat) (l : List α) (pt : α → List Nat) : List Nat := if l.isEmpty then [] else no :: (uB (vecB l pt).length ++ vecB l pt)
def ftB (t : FT) : List Nat := 96 :: (vecB t.pr kB ++ vecB t.rs kB)
def imB (x : Im) : List Nat := txtB x.mod ++ txtB x.nm ++ [0] ++ numB x.ty
def glB (g : Gl) : List Nat := kB g.kd ++ [if g.mu then 1 else 0] ++ conB g.kd g.n
def exB (x : Ex) : List Nat := txtB x.nm ++ [0] ++ numB x.fn
def elB (x : El) : List Nat := plcB x.off ++ vecB x.fs numB
def daB (x : Da) : List Nat := plcB x.off ++ uB x.bs.length ++ x.bs
def oneL (l : Li) : List Li := if l.has then [l] else []
def headB : List Nat := [0, 97, 115, 109, 1, 0, 0, 0]
def writB (m : Md) : List Nat := headB ++ secB 1 m.ty ftB ++ secB 2 m.im imB ++ secB 3 m.fn numB ++ secB 4 (oneL m.tb) (fun l => 112 :: limB l) ++ secB 5 (oneL m.me) limB ++ secB 6 m.gl glB ++ secB 7 m.ex exB ++ secB 9 m.el elB ++ secB 10 m.co codB ++ secB 11 m.da daB
/-! ### which may be -/
def smN_ (n : Int) : Bool := if decide (0 ≤ n) = true then decide (n ≤ 1000) else false
def kdN (k : Int) : Bool := if (k == 1) = true then true else (k == 2)
def nmN (s : List Nat) : Bool := if (s.length != 0) = true then (decide (s.length ≤ 16) && s.all fun c => decide (32 ≤ c) && decide (c ≤ 126)) else false
def offN (n : Int) : Bool := decide (-2147483648 ≤ n) && decide (n ≤ 2147483647)
def limN (l : Li) (least most : Int) : Bool := if l.has then decide (0 ≤ l.mn) && decide (l.mn ≤ least) && decide (-1 ≤ l.mx) && decide (l.mx ≤ most) else (l.mn == 0 && l.mx == 0)
def allN {α : Type} (l : List α) (most : Int) (p : α → Bool) : Bool := decide ((l.length : Int) ≤ most) && l.all p
def valN (k n : Int) : Bool := (k == 1 && decide (-2147483648 ≤ n) && decide (n ≤ 2147483647)) || (k == 2)
def listsN (m : Md) : Bool := allN m.ty 16 (fun t => allN t.pr 32 kdN && allN t.rs 1 kdN) && allN m.im 16 (fun x => nmN x.mod && nmN x.nm && smN_ x.ty) && allN m.fn (16 - m.im.length) smN_ &&
  allN m.gl 16 (fun g => valN g.kd g.n) && allN m.ex 16 (fun x => nmN x.nm && smN_ x.fn) && allN m.el 16 (fun x => offN x.off && allN x.fs 50 smN_) && allN m.da 16 (fun x => offN x.off && decide (x.bs.length ≤ 1000))
def codN (c : Co) : Bool := okN (opsOf c.bd) && allN c.ls 32 kdN && allN c.bd 300 mayN
def mayM (m : Md) : Bool := (m.co.length == m.fn.length && allN m.co 16 codN) && listsN m && limN m.tb 16 1000 && limN m.me 16 65536 && decide ((writB m).length ≤ 8000)
theorem co_may {k n : Int} (h : valN k n = true) (hn : -9223372036854775808 ≤ n ∧ n ≤ 9223372036854775807) : (⟨if (k == 2) = true then 66 else 65, n, 0, []⟩ : Ins).Ok ∧ mayN ⟨if (k == 2) = true then 66 else 65, n, 0, []⟩ = true ∧ (k = 1 ∨ k = 2) := by
  unfold valN at h
  simp only [Bool.or_eq_true, Bool.and_eq_true, beq_iff_eq, decide_eq_true_eq] at h
  rcases h with ⟨⟨rfl, h1⟩, h2⟩ | rfl
  · refine ⟨⟨by simp, by simp, hn.1, hn.2, by simp⟩, ?_, .inl rfl⟩
    rw [if_neg (by decide)]
    have : formN 65 = 8 := by decide
    simp [mayN, preN, this, bt2_eq]; omega
  · refine ⟨⟨by simp, by simp, hn.1, hn.2, by simp⟩, ?_, .inr rfl⟩
    rw [if_pos (by decide)]
    have : formN 66 = 9 := by decide
    simp [mayN, preN, this]
/-
  The symbolic layer: a string behind bytes; values told weaker. No program is named here.
-/
theorem run_append_room_strG {P : Program} (w : World) (t u ty e : TypeId) (i : TypeInfo) (ht : P.underlying t = some (.slice e)) (hu : P.underlying u = some .string) (hi : P.info? e = some i) (hs1 : i.size = 1)
    (g sLen sCap : Nat) (cur : Array Value) (fz : Nat × Nat) (hg : w.heap[g]? = some (.cells cur e fz)) (hz : Fz cur.size fz) (s : ByteArray)
    (hroom : sLen + s.size ≤ sCap) (hfit : sLen + s.size ≤ cur.size) :
    (Builtin.append_ #[t, u] ty #[.slice (some ⟨g, 0, none⟩) sLen sCap, .string s]).run P w =
      .ok (.slice (some ⟨g, 0, none⟩) (sLen + s.size) sCap) (w.setRow g (cur.toList.take sLen ++ Lib.strCells s ++ cur.toList.drop (sLen + s.size)).toArray) := by
  have hf := Lib.run_firstCells_string (P := P) w 1 s
  have hst := run_storeCells_atG (P := P) g sLen e fz (Lib.strCells s) 0 cur w hg hz (by simpa [Lib.strCells_length] using hfit) (Lib.strCells_oneCell s)
  simp only [Nat.add_zero, Lib.strCells_length] at hst
  simp [Builtin.append_, run_underlying ht, run_underlying hu, sizeOf, typeInfo, hi, hs1, Builtin.lenOf, hroom, hf, Addr.add_lit, hst]
theorem run_append_strG {P : Program} (w : World) (t u ty e : TypeId) (i : TypeInfo) (ht : P.underlying t = some (.slice e)) (hu : P.underlying u = some .string) (hi : P.info? e = some i) (hz : i.zero = some (.int .u8 0))
    (hsize : i.size = 1) (hby : i.bytes = 1) (v : Value) (n : Nat) (xs : List Value) (hn : 0 < n) (hown : rowG w 0 e 1 v n xs) (s : ByteArray) (h63 : n + s.size ≤ maxLen) (hbytes : n + s.size ≤ 140737488355328) :
    ∃ v' w', (Builtin.append_ #[t, u] ty #[v, .string s]).run P w = .ok v' w' ∧ rowG w' 0 e 1 v' (n + s.size) (xs ++ Lib.strCells s) ∧ w.grownBy w' v.ownBlock ∧ (v'.ownBlock = v.ownBlock ∨ v'.ownBlock = some w.heap.size) := by
  rcases hown.2 with ⟨rfl, rfl⟩ | ⟨g, cap, cur, fz, rfl, hbg, hg, hfz, hnc, hcm, hcs, htake⟩
  · omega
  have hl := Lib.strCells_length s
  have hxl : xs.length = n := by simpa using hown.1
  have hsmall : n + s.size ≤ 9223372036854775807 := by simp only [maxLen] at h63; omega
  have hlen : (xs ++ Lib.strCells s).length = (n + s.size) * 1 := by rw [List.length_append, hxl, hl, Nat.mul_one]
  rw [Nat.mul_one] at hcs htake
  by_cases hroom : n + s.size ≤ cap
  · have hr := run_append_room_strG (P := P) w t u ty e i ht hu hi hsize g n cap cur fz hg hfz s hroom (by omega)
    have hsz2 : (cur.toList.take n ++ Lib.strCells s ++ cur.toList.drop (n + s.size)).toArray.size = cur.size := by
      simp only [List.size_toArray, List.length_append, List.length_take, List.length_drop, Array.length_toList, hl]
      omega
    refine ⟨_, _, hr, ⟨hlen, .inr ⟨g, cap, _, fz, rfl, hbg, setRow_heap w g cur _ e _ hg, by rw [hsz2]; exact hfz, hroom, hcm, by rw [hsz2]; omega, ?_⟩⟩, ⟨rfl, rfl, rfl, by simp, fun k _ hk => setRow_other w g k _ (fun e => hk (by simp [Value.ownBlock, e]))⟩, Or.inl rfl⟩
    rw [htake, ← hlen]
    exact List.take_left
  · have holds : ∀ j u, xs[j]? = some u → w.cell? ((⟨g, 0, none⟩ : Addr).add j) = some u := by
      intro j u hu
      rw [Addr.add_lit, Nat.zero_add, cell_of_row w g j cur e fz hg, ← Array.getElem?_toList]
      rw [← htake, List.getElem?_take] at hu
      split at hu
      · exact hu
      · cases hu
    have hr := Lib.run_append_grow_string (P := P) w t u ty e i (.int .u8 0) ht hu hi hz ⟨g, 0, none⟩ n cap xs (by rw [hsize]; simpa using hxl) holds s (by omega) (by omega) (by rw [hby]; exact growslice_fits (by omega) (by omega))
    have hge := grownCap_ge w (n + s.size) cap e
    have hcm := grownCap_le_maxLen w (n + s.size) cap e h63
    refine ⟨_, _, hr, ⟨hlen, .inr ⟨w.heap.size, _, _, (0, 0), rfl, Nat.zero_le _, heap_alloc_new w.drew _, .inl rfl, hge, hcm, ?_, ?_⟩⟩, ⟨rfl, rfl, rfl, by simp, fun k hk _ => heap_alloc_old w.drew _ hk⟩, Or.inr rfl⟩
    · have hz1 : (Value.int IntKind.u8 0).cells.size = 1 := rfl
      simp only [Array.size_append, List.size_toArray, size_zeroCells, hz1, hxl, hl]
      omega
    · simp only [Array.toList_append, List.append_assoc]
      rw [← List.append_assoc, ← hlen]
      exact List.take_left
section
variable {P : Program} {n : Nat} {s : ASt} {K : ASt → Prop} {ty t u : TypeId} {x y : Operand} {d : Nat}
/-- a string behind bytes -/
theorem hop_append_str {e : TypeId} [Ty P t (.slice e)] [Ty P u .string] [Tz P e 1 1 (.int .u8 0)] {r len : Nat} {es : List (List AV)} {b : List Nat} (hb : aev s x = some (.own r 0 len)) (hg : sget s.σ r = some (.arr e 1 es)) (hlen : len ≤ es.length) (hpos : 0 < len) (hy : aev s y = some (.str (strU b))) (hlt : ∀ c ∈ b, c < 256)
    (hmax : len + b.length ≤ 140737488355328) (hd : d < n)
    (hK : ∀ r', Fresh r' (sdrop [r] s.σ) → K ⟨(d, .own r' 0 (len + (b.map encU).length)) :: s.fr, (r', .arr e 1 (es.take len ++ b.map encU)) :: sdrop [r] s.σ⟩) : Hop P n (.call { callee := .builtin .append, args := #[x, y], argTypes := #[t, u] }) ty (some d) s [r] K := by
  intro M F N a w o ho hty hdst hr next Q hnext
  have hbase := hr.aev hb
  have hmem := sget_mem hg
  obtain ⟨h0, hrowsE, h3⟩ := hr.st.ent _ hmem
  obtain ⟨i, hi, hz0, hs0, hb0⟩ := Tz.parts P e
  have he : a.eval y = .string (strU b) := by
    have := hr.aev hy
    generalize a.eval y = v at this ⊢
    cases this; rfl
  have hsl : (strU b).size = (b.map encU).length := by simp [strU, ByteArray.size]
  have hnews : Lib.strCells (strU b) = b.map (fun c : Nat => Value.int .u8 (c : Int)) := by
    unfold Lib.strCells strU
    simp only [List.map_map]
    refine List.map_congr_left fun c hc => ?_
    have := hlt c hc
    simp [Nat.mod_eq_of_lt this]
  have hrows : RowsAt M F w 1 (b.map encU) (Lib.strCells (strU b)) := by
    rw [hnews]
    refine ⟨by simp, fun i x j a u hi hj hu => ?_⟩
    simp only [List.getElem?_map, Option.map_eq_some_iff] at hi hu
    obtain ⟨c, hc, rfl⟩ := hi
    match j, hj with
    | 0, hj =>
      obtain rfl := Option.some.inj hj
      obtain ⟨c', hc', rfl⟩ := hu
      rw [Nat.mul_one, Nat.add_zero] at hc'
      obtain rfl := Option.some.inj (hc.symm.trans hc')
      exact .int _ _
    | j + 1, hj => cases hj
  have hok : RowsOk 1 (b.map encU) := by
    intro x hx
    obtain ⟨c, -, rfl⟩ := List.mem_map.1 hx
    exact ⟨rfl, by simp [encU, AV.cell]⟩
  generalize hys : b.map encU = ys at hrows hok hsl hK ⊢
  have hyl : ys.length = b.length := by rw [← hys]; simp
  obtain ⟨news, hns⟩ : ∃ news, news = Lib.strCells (strU b) := ⟨_, rfl⟩
  rw [← hns] at hrows
  have hokT : RowsOk 1 (es.take len) := fun x hx => hrowsE x (List.mem_of_mem_take hx)
  have hlenT : (es.take len).length = len := by rw [List.length_take]; omega
  -- what the row holds
  have hown : ∃ v xs, a.eval x = v ∧ rowG w 0 e 1 v len xs ∧ RowsAt M F w 1 (es.take len) xs ∧ (∀ g, v.ownBlock = some g → blkOf M r = some g) ∨ (∃ A, a.eval x = .slice A 0 0 ∧ len = 0 ∧ v = .slice A 0 0 ∧ xs = []) := by
    generalize a.eval x = u at hbase ⊢
    cases hbase with
    | own0 => exact ⟨_, [], .inr ⟨_, rfl, rfl, rfl, rfl⟩⟩
    | own hM hle hmm =>
      rcases h3 with ⟨hv', _⟩ | ⟨g, cc, vs, hM', hcl, hsz, hle', hmax', hvr⟩
      · rw [hM] at hv'; cases hv'
      · have hg' := hM'.symm.trans hM
        simp only [Option.some.injEq, Blk'.row.injEq] at hg'
        obtain ⟨q1, q2, q3⟩ := hg'
        subst q1
        subst q2
        subst q3
        obtain ⟨fz, hcl, hfz⟩ := hcl
        have hfit : len * 1 ≤ vs.size := by rw [hsz]; exact Nat.mul_le_mul_right _ (by omega)
        refine ⟨_, vs.toList.take (len * 1), .inl ⟨rfl, ⟨by rw [List.length_take]; simp; omega, .inr ⟨g, cc, vs, fz, by simp, Nat.zero_le _, hcl, hfz, by omega, hmm, hsz, rfl⟩⟩, ⟨by rw [hlenT, List.length_take]; simp; omega, fun i' x' j b u hi' hj hu => ?_⟩, fun g2 hg2 => ?_⟩⟩
        · have hil := (List.getElem?_eq_some_iff.1 hi').1
          rw [hlenT] at hil
          have hjs : j < 1 := by rw [← (hokT x' (List.mem_of_getElem? hi')).1]; exact (List.getElem?_eq_some_iff.1 hj).1
          rw [List.getElem?_take_of_lt hil] at hi'
          rw [List.getElem?_take_of_lt (flat_idx hil hjs)] at hu
          exact hvr i' x' j b u hi' hj (by simpa using hu)
        · simp only [Value.ownBlock, Option.some.injEq] at hg2
          subst hg2
          simp [blkOf, hM]
  obtain ⟨v, xs, hown | ⟨B, hx, rfl, rfl, rfl⟩⟩ := hown
  · obtain ⟨hx, hown, hrT, hblk⟩ := hown
    obtain ⟨v', w', hrun, ho', hg', hbl⟩ := run_append_strG (P := P) w t u o.type e i (Ty.und (P := P) (t := t)) (Ty.und (P := P) (t := u)) hi hz0 hs0 hb0 v len xs hpos hown (strU b) (by rw [hsl]; simp [maxLen]; omega) (by rw [hsl]; omega)
    rw [hsl, ← hns] at ho'
    have hex : (execOp a.eval o).run P w = .ok (.value v') w' := by
      simp only [execOp, ho, resolve, invoke, builtin, Sem.run_bind, Sem.run_pure, Result.andThen_ok, List.map_toArray, List.map_cons, List.map_nil, hx, he, hrun]
    unfold Oper.wp
    rw [hex, Oper.upon_value, hdst]
    have honly : Only (fun k => blkOf M r = some k) w w' := ⟨hg'.os, hg'.tape, hg'.output, hg'.size, fun k hk hne => hg'.block k hk (fun e => hne (hblk k e.symm))⟩
    have hSame : Same F w w' := fun g hgF => honly.block g (hr.st.flt g hgF) (fun e => hr.st.nof g ⟨_, hmem, e⟩ hgF)
    have hcat : RowsAt M F w 1 (es.take len ++ ys) (xs ++ news) := hrT.append hokT hrows
    have hokC : RowsOk 1 (es.take len ++ ys) := fun x hx => (List.mem_append.1 hx).elim (hokT x) (hok x)
    rcases ho'.2 with ⟨rfl, hz'⟩ | ⟨g2, cap, cur, fz2, rfl, _, hg2, hfz2, hn2, hm2, hs2, ht2⟩
    · have hl0 : len = 0 := by omega
      have hy0 : ys = [] := List.eq_nil_of_length_eq_zero (by omega)
      subst hl0
      subst hy0
      have hE : ER (addM M N .virt) F w' N (.arr e 1 (es.take 0 ++ [])) := ⟨h0, fun x hx => by simp at hx, .inl ⟨addM_new _, by simp⟩⟩
      obtain ⟨r1, e1, n1, o1⟩ := hr.move_ hmem .virt honly (fun g hg => by simp [blkOf, addM_new] at hg) hE
      exact hnext _ F (N + 1) _ _ ⟨(d, .own N 0 (0 + 0)) :: s.fr, _⟩ (r1.put hd .own0) e1 o1 (hK N n1)
    · have hE : ER (addM M N (.row g2 cap 1)) F w' N (.arr e 1 (es.take len ++ ys)) := by
        refine ⟨h0, hokC, .inr ⟨g2, cap, cur, addM_new _, ⟨fz2, hg2, hfz2⟩, hs2, by rw [List.length_append, hlenT]; exact hn2, hm2, fun i' x' j b u hi' hj hu => ?_⟩⟩
        refine VR.mono (fun r b' h => addM_old hr.st.fresh _ h) (fun _ h => h) hSame (hcat.2 i' x' j b u hi' hj ?_)
        have hil := (List.getElem?_eq_some_iff.1 hi').1
        rw [List.length_append, hlenT] at hil
        have hjs : j < 1 := by rw [← (hokC x' (List.mem_of_getElem? hi')).1]; exact (List.getElem?_eq_some_iff.1 hj).1
        rw [← ht2, List.getElem?_take_of_lt (flat_idx hil hjs)]
        simpa using hu
      obtain ⟨r1, e1, n1, o1⟩ := hr.move_ hmem (.row g2 cap 1) honly (fun g hg => by
        simp only [blkOf, addM_new, Option.some.injEq] at hg
        subst hg
        rcases hbl with h | h
        · exact .inl (hblk g2 (h.symm.trans rfl))
        · simp only [Value.ownBlock, Option.some.injEq] at h
          exact .inr (by omega)) hE
      have hv := VR.own (M := addM M N (.row g2 cap 1)) (F := F) (w := w') (t := N) (off := 0) (len := len + ys.length) (addM_new _) (by omega) hm2
      simp only [Nat.zero_mul, Nat.sub_zero] at hv
      exact hnext _ F (N + 1) _ _ ⟨(d, .own N 0 (len + ys.length)) :: s.fr, _⟩ (r1.put hd hv) e1 o1 (hK N n1)
  · omega
end
section
variable {P : Program} {n : Nat} {ops : Array Oper} {rest : List Oper} {fr : Fr} {σ : Sto} {K : ASt → Prop} {ty t u : TypeId} {pos : String} {af : Array Edge} {x y : Operand} {d : Nat}
theorem apS {e : TypeId} [Ty P t (.slice e)] [Ty P u .string] [Tz P e 1 1 (.int .u8 0)] {r len : Nat} (vs b : List Nat) (hlt : ∀ c ∈ b, c < 256)
    (hK : ∀ r', Fresh r' (sdrop [r] σ) → ∃ σ', SSet σ r (.arr e 1 (vs.map encU)) r' (.arr e 1 ((vs ++ b).map encU)) σ' ∧ RS P n ops rest ⟨(d, .own r' 0 (vs ++ b).length) :: fr, σ'⟩ K)
    (hb : aev ⟨fr, σ⟩ x = some (.own r 0 len) := by rfl) (hg : sget σ r = some (.arr e 1 (vs.map encU)) := by exact sgT) (hlen : len = vs.length := by exact lenT) (hpos : 0 < len := by first | omega | (simp; omega)) (hy : aev ⟨fr, σ⟩ y = some (.str (strU b)) := by rfl)
    (hmax : len + b.length ≤ 140737488355328 := by (simp; try omega)) (hd : Nat.ble (d + 1) n = true := by rfl) :
    RS P n ops (⟨some d, .call { callee := .builtin .append, args := #[x, y], argTypes := #[t, u] }, ty, pos, af, none⟩ :: rest) ⟨fr, σ⟩ K := by
  refine rs_heavy (hop_append_str hb hg (by simp; omega) hpos hy hlt hmax (lt_ble hd) fun r' hf => ?_)
  obtain ⟨σ', hs, hK⟩ := hK r' hf
  dsimp only
  rw [hlen, show vs.length = (vs.map encU).length by simp, List.take_length, ← List.map_append]
  refine rs_sub (fun p hp => hs.sub p hp) ?_
  rw [show (vs.map encU).length + (b.map encU).length = (vs ++ b).length by simp]
  exact hK
end
/-- two loud operations, in either order: what the one and the other turn is not held -/
theorem rd_fork2 {P : Program} {n : Nat} {ops : Array Oper} {listed : Array Bool} {rest : List (Nat × Bool)} {held : List (Nat × List Nat)} {s : ASt} {K : ASt → Prop} {z : Nat} {zb : Bool} (i j : Nat) (t1 t2 : List (Nat × Bool)) {dst dst' : Option Nat} {op op' : Op} {ty ty' : TypeId} {pos pos' : String} {af af' : Array Edge} {f1 f2 : List Nat}
    (hr : (Region.ready .any ops listed == [i, j] && (t1.length == rest.length) && (t2.length == rest.length) && chkB ops (listed.setIfInBounds i true) t1 && chkB ops (listed.setIfInBounds j true) t2) = true)
    (hi : ops[i]? = some ⟨dst, op, ty, pos, af, none⟩) (hj : ops[j]? = some ⟨dst', op', ty', pos', af', none⟩)
    (h1 : Hop P n op ty dst s f1 fun s' => RD P n ops (listed.setIfInBounds i true) t1 held s' K) (h2 : Hop P n op' ty' dst' s f2 fun s' => RD P n ops (listed.setIfInBounds j true) t2 held s' K)
    (g1 : f1 = [] ∨ ((∀ r ∈ f1, r ∈ s.σ.map (·.1)) ∧ HB ops i (s.σ.map (·.1)) f1 held)) (g2 : f2 = [] ∨ ((∀ r ∈ f2, r ∈ s.σ.map (·.1)) ∧ HB ops j (s.σ.map (·.1)) f2 held)) : RD P n ops listed ((z, zb) :: rest) held s K := by
  intro hsel _ M F N a w hr0
  simp only [Bool.and_eq_true, beq_iff_eq] at hr
  obtain ⟨⟨⟨⟨hrd, hl1⟩, hl2⟩, hc1⟩, hc2⟩ := hr
  have main : ∀ {k : Nat} {t : List (Nat × Bool)} {dst : Option Nat} {op : Op} {ty : TypeId} {pos : String} {af : Array Edge} {fp : List Nat}, t.length = rest.length → chkB ops (listed.setIfInBounds k true) t = true → ops[k]? = some ⟨dst, op, ty, pos, af, none⟩ →
      Hop P n op ty dst s fp (fun s' => RD P n ops (listed.setIfInBounds k true) t held s' K) → (fp = [] ∨ ((∀ r ∈ fp, r ∈ s.σ.map (·.1)) ∧ HB ops k (s.σ.map (·.1)) fp held)) → wpOp P ops (PostN n M F N w s.σ K) k (fun a' w' => (∀ g, Hd ops M F held k g → g < w.heap.size → w'.heap[g]? = w.heap[g]?) ∧ wpAnyC P .any ops (PostN n M F N w s.σ K) (Hd ops M F held) rest.length (listed.setIfInBounds k true) a' w') a w := by
    intro k t dst op ty pos af fp hl hc hk h hfp
    unfold wpOp
    simp only [hk]
    rw [if_pos (by simp [Region.wanted])]
    refine .inl (h M F N a w _ rfl rfl rfl hr0 _ _ fun M' F' N' a' w' s' hr' he ho hk' => ⟨fun g hg hlt => ?_, ?_⟩)
    · rcases hg with hg | ⟨r, hrh, hg⟩
      · exact he.only.block g hlt (fun hB => hr0.st.nof g hB hg)
      · rcases hfp with rfl | ⟨hf1, hb⟩
        · exact ho.block g hlt (by simp)
        · obtain ⟨h1, h2⟩ := hb.held r hrh
          obtain ⟨p, hp, rfl⟩ := List.mem_map.1 h1
          refine ho.block g hlt ?_
          rintro ⟨q, hq, hqg⟩
          obtain ⟨p2, hp2, rfl⟩ := List.mem_map.1 (hf1 q hq)
          exact h2 (by rw [hr0.st.inj p hp p2 hp2 g hg hqg]; exact hq)
    · rw [← hl]
      refine wpAnyC_mono (PostN.ext he) ?_ _ _ _ _ (hk' hsel hc M' F' N' a' w' hr')
      rintro j' g (hg | ⟨r, hrr, hg⟩)
      · exact .inl (he.ff g hg)
      · refine .inr ⟨r, hrr, ?_⟩
        unfold blkOf at hg ⊢
        cases hm : M r with
        | none => rw [hm] at hg; cases hg
        | some b => rw [hm] at hg; rw [he.mm _ _ hm]; exact hg
  refine ⟨fun h0 => by rw [hrd] at h0; simp at h0, fun k hk => ?_⟩
  rw [hrd] at hk
  rcases List.mem_cons.1 hk with rfl | hk
  · exact main hl1 hc1 hi h1 g1
  · obtain rfl := List.mem_singleton.1 hk
    exact main hl2 hc2 hj h2 g2
theorem hopbs {P : Program} {n : Nat} {fr : Fr} {σ : Sto} {K : ASt → Prop} {ty t : TypeId} {d : Nat} {e : TypeId} {sz by_ : Nat} {zv : Value} {len : Nat} {parts : Array (Nat × Operand)} {vs : List AV} {es : List (List AV)} (i1 : Ty P t (.slice e)) (i2 : Tz P e sz by_ zv) (hv : AEvs ⟨fr, σ⟩ (parts.toList.map (·.2)) vs) (hp : parts.toList = enumF 0 (parts.toList.map (·.2))) (hlen : (len == vs.length) = true) (h0 : (decide (0 < sz) && decide (len * sz ≤ 16777216)) = true)
    (hc : (vs.all fun v => v.cells.length == sz && v.cells.all AV.cell) = true) (he : vs.map AV.cells = es) (hd : Nat.ble (d + 1) n = true) (hK : ∀ r, Fresh r σ → K ⟨(d, .own r 0 len) :: fr, (r, .arr e sz es) :: σ⟩) : Hop P n (.buildSlice t len parts) ty (some d) ⟨fr, σ⟩ [] K := by
  subst he
  exact hop_buildSlice' hp hv hlen h0 hc (lt_ble hd) hK
/-- as sgo_freeze; what is told otherwise may be anything that holds -/
theorem sgo_freezeP {s s' : ASt} (ts : List Nat) (hf : ∀ i x', fget s'.fr i = some x' → ∃ x, fget s.fr i = some x ∧ Bor s.σ ts x x') (hσ : ∀ p ∈ s'.σ, p.1 ∉ ts ∧ ∃ x, (p.1, x) ∈ s.σ ∧ ∀ (M : Mp) (F : Nat → Prop) (N : Nat) (w : World), SR M F N w s.σ → ER M F w p.1 x → ER M (FPlus M F s.σ ts) w p.1 p.2) : SGo s s' := by
  intro M F N n a w hr
  refine ⟨M, FPlus M F s.σ ts, N, ⟨hr.size, hr.defers, fun i x' hi => ?_, ?_, ?_, ?_, fun b hb => hb.flt hr.st, hr.st.fresh⟩, fun _ _ h => h, fun _ h => .inl h, Nat.le_refl _, Only.refl _ _, ?_, ?_, ?_⟩
  · obtain ⟨x, hx, hb⟩ := hf i x' hi
    exact hb.vr hr.st (hr.fr i x hx)
  · intro p hp
    obtain ⟨_, x, hx, hb⟩ := hσ p hp
    exact hb M F N w hr.st (hr.st.ent _ hx)
  · intro p hp q hq g h1 h2
    obtain ⟨_, x, hx, _⟩ := hσ p hp
    obtain ⟨_, y, hy, _⟩ := hσ q hq
    exact hr.st.inj (p.1, x) hx (q.1, y) hy g h1 h2
  · rintro g ⟨p, hp, hg⟩ hF
    obtain ⟨hn, x, hx, _⟩ := hσ p hp
    rcases hF with hF | ⟨q, hq, hqt, hqg⟩
    · exact hr.st.nof g ⟨_, hx, hg⟩ hF
    · exact hn (by have := hr.st.inj _ hx _ hq g hg hqg; simp only at this; rw [this]; exact hqt)
  · rintro g ⟨p, hp, hg⟩ _
    obtain ⟨_, x, hx, _⟩ := hσ p hp
    exact ⟨_, hx, hg⟩
  · rintro b (hb | ⟨q, hq, _, hqg⟩)
    · exact .inl hb
    · exact .inr (.inr ⟨q, hq, hqg⟩)
  · intro p hp _
    obtain ⟨_, x, hx, _⟩ := hσ p hp
    exact ⟨_, hx, rfl⟩
/-- a row that another row's elements tell of is written by nobody from here on -/
theorem sgo_fza {fr : Fr} {σ σ1 σ' : Sto} {r q : Nat} {et : TypeId} {sz : Nat} {es es' : List (List AV)} {e : Ent} (hs : SSet σ r (.arr et sz es) r (.arr et sz es') σ1) (hd : SDel σ1 q e σ') (hl : es'.length = es.length) (hok : RowsOk sz es')
    (hb : ∀ (i : Nat) (x x' : List AV), es[i]? = some x → es'[i]? = some x' → BorL σ [q] x x') : SGo ⟨fr, σ⟩ ⟨fr, σ'⟩ := by
  refine sgo_freezeP [q] (fun i x' hi => ⟨x', hi, .refl _⟩) (fun p hp => ?_)
  obtain ⟨h1, h2⟩ := hd.sub p hp
  refine ⟨by simpa using h2, ?_⟩
  rcases List.mem_cons.1 (hs.sub p h1) with rfl | h
  · refine ⟨_, sget_mem hs.get, fun M F N w hr hx => ?_⟩
    obtain ⟨g0, g1, g2⟩ := hx
    refine ⟨g0, hok, ?_⟩
    rcases g2 with ⟨k1, k2⟩ | ⟨g, c, vs, k1, k2, k3, k4, k5, k6⟩
    · refine .inl ⟨k1, ?_⟩
      subst k2
      exact List.length_eq_zero_iff.1 hl
    · refine .inr ⟨g, c, vs, k1, k2, k3, by rw [hl]; exact k4, k5, fun i x' j a' u hi hj hu => ?_⟩
      have hil := (List.getElem?_eq_some_iff.1 hi).1
      have hx : es[i]? = some (es[i]'(by omega)) := List.getElem?_eq_getElem (by omega)
      obtain ⟨hbl, hbe⟩ := (hb i _ x' hx hi).at_
      have hjl := (List.getElem?_eq_some_iff.1 hj).1
      have ha : (es[i]'(by omega))[j]? = some ((es[i]'(by omega))[j]'(by omega)) := List.getElem?_eq_getElem (by omega)
      refine (hbe j a' hj).vr hr ?_
      rw [List.getD_eq_getElem?_getD, ha, Option.getD_some]
      exact k6 i _ j _ u hx ha hu
  · exact ⟨p.2, (mem_sdrop h).1, fun M F N w hr hx => hx.mono (fun _ _ h => h) (fun _ h => .inl h) (fun _ _ => rfl) (fun _ _ => rfl)⟩
end Go.Proofs.YtfihcehdoikfkaaGreat
/-
  Modules' parts are written.
-/
namespace Go.Proofs.YtfihcehdoikfkaaGreat
open Go.RowKit Go.ChangeShapes Go.WideShapes Go.ChangeAt Go.Deep
attribute [local irreducible] SW RS RD AThen ABlock
/-- a function value that writes an x behind what stands there -/
def Puts (P : Program) (t8 : TypeId) (f : FuncId) {α : Type} (ar : α → AV) (pt : α → List Nat) (ok : α → Prop) (c B : Nat) : Prop :=
  (∀ args w, (callFunc f args).run P w = .ok (.enter f args) w) ∧ ∀ (q : Nat) (vs : List Nat) (x : α), ok x → 0 < vs.length → vs.length ≤ B → (pt x).length ≤ c ∧
    SCall P f ([] ++ [.own q 0 vs.length, ar x] ++ []) [(q, .arr t8 1 (vs.map encU))] (fun y σ => ∃ r, y = .own r 0 (vs ++ pt x).length ∧ σ = [(r, .arr t8 1 ((vs ++ pt x).map encU))])
theorem flat_le {P : Program} {t8 : TypeId} {f : FuncId} {α : Type} {ar : α → AV} {pt : α → List Nat} {ok : α → Prop} {c B : Nat} (hf : Puts P t8 f ar pt ok c B) (hB : 1 ≤ B) {l : List α} (hl : ∀ x ∈ l, ok x) (j : Nat) : ((l.take j).flatMap pt).length ≤ l.length * c := by
  have h1 : ∀ (l : List α), (∀ x ∈ l, ok x) → (l.flatMap pt).length ≤ l.length * c := by
    intro l
    induction l with
    | nil => simp
    | cons x l ih =>
      intro h
      have := ih fun y hy => h y (List.mem_cons_of_mem _ hy)
      have hx := (hf.2 0 [0] x (h x List.mem_cons_self) (by simp) hB).1
      rw [List.flatMap_cons, List.length_append, List.length_cons, Nat.add_mul]
      omega
  refine Nat.le_trans (h1 (l.take j) fun x hx => hl x (List.mem_of_mem_take hx)) (Nat.mul_le_mul_right c ?_)
  simp; omega
theorem wasm_num (q : Nat) (vs : List Nat) (hvs : vs.length ≤ 50000000) (n : Nat) (hn : n < 9223372036854775808) : SCall Tryz.prog 83 [.own q 0 vs.length, .int .i64 n] [(q, .arr 5 1 (vs.map encU))]
    (fun y σ => ∃ r, y = .own r 0 (vs ++ uB n).length ∧ σ = [(r, .arr 5 1 ((vs ++ uB n).map encU))]) := by
  refine scall_of (n := 9) (ks := [0, 1, 4]) Tryz.func83 rfl rfl (Nat.le_of_ble_eq_true rfl) ?_
  refine sq57 ?_
  refine z24 ?_
  refine cw [(q, .arr 5 1 (vs.map encU))] Tryz.call159 (leb_putU q vs (by omega) n (by omega)) rfl argsleT stleT ?_
  rintro _ σ' ⟨r8, rfl, rfl⟩ h8
  have k8 := rest1T h8; repeat rcases k8 with ⟨_, k8⟩
  apply rs_sto; exact nflT
  refine sq2 ?_
  apply aend; exact resT
  · exact ⟨r8, rfl, rfl⟩
  · exact stleT
theorem sgo_vle {fr : Fr} {σ : Sto} {j : Nat} {x y : AV} (h : fget fr j = some x) (hv : VLe x y) : SGo ⟨fr, σ⟩ ⟨(j, y) :: fr, σ⟩ := by
  refine SGo.of_le (fun i z hi => ?_) (fun p hp => hp)
  by_cases hij : i = j
  · subst hij
    rw [show fget ((i, y) :: fr) i = some y by simp [fget]] at hi
    obtain rfl := Option.some.inj hi
    exact ⟨_, h, hv⟩
  · rw [show fget ((j, y) :: fr) i = fget fr i by simp [fget]; intro e; exact absurd e hij] at hi
    exact ⟨z, hi, VLe.refl z⟩
theorem VLe.agg {cs cs' : List AV} (hl : cs.length = cs'.length) (h : ∀ (j : Nat) (a a' : AV), cs[j]? = some a → cs'[j]? = some a' → VLe a a') : VLe (.agg cs) (.agg cs') := fun M F w v hv => by
  cases hv with
  | agg hn hc =>
    refine .agg (hn.trans hl) fun j a' u ha' hu => ?_
    have hj := (List.getElem?_eq_some_iff.1 ha').1
    have ha : cs[j]? = some (cs[j]'(by omega)) := List.getElem?_eq_getElem (by omega)
    exact h j _ a' ha ha' _ _ _ _ (hc j _ u ha hu)
theorem vle_ins {op a b : Int} : VLe (.agg [.int .i64 op, .int .i64 a, .int .i64 b, .ro 0 [] .nil]) (.agg (iv .any ⟨op, a, b, []⟩)) := by
  refine VLe.agg rfl fun j a a' ha ha' => ?_
  match j with
  | 0 => cases ha; cases ha'; exact VLe.refl _
  | 1 => cases ha; cases ha'; exact VLe.refl _
  | 2 => cases ha; cases ha'; exact VLe.refl _
  | 3 => cases ha; cases ha'; exact VLe.empty
  | _ + 4 => cases ha
theorem wasm_text (q : Nat) (vs : List Nat) (hpos : 0 < vs.length) (hvs : vs.length ≤ 20000000) (b : List Nat) (hb : b.length ≤ 1000) (hlt : ∀ c ∈ b, c < 256) : SCall Tryz.prog 84 [.own q 0 vs.length, .str (strU b)] [(q, .arr 5 1 (vs.map encU))]
    (fun y σ => ∃ r, y = .own r 0 (vs ++ txtB b).length ∧ σ = [(r, .arr 5 1 ((vs ++ txtB b).map encU))]) := by
  have hu := uB_len 1 b.length (by omega)
  refine scall_of (n := 11) (ks := [0, 1, 4]) Tryz.func84 rfl rfl (Nat.le_of_ble_eq_true rfl) ?_
  refine sq57 ?_
  refine lo (lop_len_str (E rfl)) rfl ?_
  rw [strU_size]
  refine cw [(q, .arr 5 1 (vs.map encU))] Tryz.call83 (wasm_num q vs (by omega) b.length (by omega)) rfl argsleT stleT ?_
  rintro _ σ' ⟨r8, rfl, rfl⟩ h8
  have k8 := rest1T h8; repeat rcases k8 with ⟨_, k8⟩
  apply rs_sto; exact nflT
  refine lo (lop_move (E rfl)) rfl ?_
  refine apS (vs ++ uB b.length) (b) hlt ?_
  refine apnT fun r10 h10 => ?_; repeat rcases h10 with ⟨_, h10⟩
  refine sq2 ?_
  rw [show vs ++ uB b.length ++ b = vs ++ txtB b by unfold txtB; rw [List.append_assoc]]
  apply aend; exact resT
  · exact ⟨r10, rfl, rfl⟩
  · exact stleT
theorem wasm_putKind (q : Nat) (vs : List Nat) (hvs : vs.length ≤ 20000000) (k : Int) : SCall Tryz.prog 80 [.own q 0 vs.length, .int .i64 k] [(q, .arr 5 1 (vs.map encU))]
    (fun y σ => ∃ r, y = .own r 0 (vs ++ kB k).length ∧ σ = [(r, .arr 5 1 ((vs ++ kB k).map encU))]) := by
  refine scall_of (n := 13) (ks := [0, 1, 4, 6]) Tryz.func80 rfl rfl (Nat.le_of_ble_eq_true rfl) ?_
  refine sq32 ?_
  refine sq36 ?_
  refine sw_cond rfl (fun g1 => ?_) (fun g1 => ?_)
  · rw [show kB k = [127] by unfold kB; rw [if_pos g1]]
    refine sq4 ?_
    refine z1 ?_; refine freshT fun r8 h8 => ?_; repeat rcases h8 with ⟨_, h8⟩
    refine apA ((vs ++ [127]).map encU) (vs ++ [127]).length ?_
    refine apnT fun r9 h9 => ?_; repeat rcases h9 with ⟨_, h9⟩
    refine sq2 ?_
    apply aend; exact resT
    · exact ⟨r9, rfl, rfl⟩
    · exact stleT
  rw [show kB k = [126] by unfold kB; rw [if_neg (by simp [g1])]]
  refine sq4 ?_
  refine z1 ?_; refine freshT fun r11 h11 => ?_; repeat rcases h11 with ⟨_, h11⟩
  refine apA ((vs ++ [126]).map encU) (vs ++ [126]).length ?_
  refine apnT fun r12 h12 => ?_; repeat rcases h12 with ⟨_, h12⟩
  refine sq2 ?_
  apply aend; exact resT
  · exact ⟨r12, rfl, rfl⟩
  · exact stleT
theorem wasm_constant (q : Nat) (vs : List Nat) (hvs : vs.length ≤ 20000000) (k n : Int) (hv : valN k n = true) (hn : -9223372036854775808 ≤ n ∧ n ≤ 9223372036854775807) : SCall Tryz.prog 92 [.own q 0 vs.length, .agg [.int .i64 k, .int .i64 n]] [(q, .arr 5 1 (vs.map encU))]
    (fun y σ => ∃ r, y = .own r 0 (vs ++ conB k n).length ∧ σ = [(r, .arr 5 1 ((vs ++ conB k n).map encU))]) := by
  obtain ⟨ho, hm, -⟩ := co_may hv hn
  have hpl := putN_len ho hm
  have hcB : conB k n = putN ⟨if (k == 2) = true then 66 else 65, n, 0, []⟩ ++ [11] := rfl
  rw [hcB]
  generalize hop : (if (k == 2) = true then (66 : Int) else 65) = op at ho hm hpl hcB ⊢
  have hop := hop.symm
  refine scall_of (n := 17) (ks := [0, 1, 3, 4, 5, 8]) Tryz.func92 rfl rfl (Nat.le_of_ble_eq_true rfl) ?_
  refine sq3 ?_
  apply bx; rfl; rfl; (exact zcT); rfl; refine freshT fun r3 h3 => ?_; repeat rcases h3 with ⟨_, h3⟩
  refine sq22 ?_
  refine sq41 ?_
  refine sq36 ?_
  refine sw_cond rfl (fun g2 => ?_) (fun g2 => ?_)
  · have hco : ofConst (.int .i64 66) = AV.int .i64 op := by rw [hop, if_pos g2]; rfl
    refine sq7 ?_
    rw [hco]
    refine sq13 ?_
    refine sq12 ?_
    refine z93 ?_
    refine rs_go (sgo_vle (j := 13) rfl vle_ins) ?_
    refine cw [(q, .arr 5 1 (vs.map encU))] Tryz.call162 (instr_put q vs (by omega) .any ⟨op, n, 0, []⟩ ho hm) rfl argsleT stleT ?_
    rintro _ σ' ⟨r14, rfl, rfl⟩ h14
    have k14 := rest1T h14; repeat rcases k14 with ⟨_, k14⟩
    apply rs_sto; exact nflT
    refine z1 ?_; refine freshT fun r15 h15 => ?_; repeat rcases h15 with ⟨_, h15⟩
    refine apA ((vs ++ putN ⟨op, n, 0, []⟩ ++ [11]).map encU) (vs ++ putN ⟨op, n, 0, []⟩ ++ [11]).length ?_
    refine apnT fun r16 h16 => ?_; repeat rcases h16 with ⟨_, h16⟩
    refine sq2 ?_
    rw [List.append_assoc]
    apply aend; exact resT
    · exact ⟨r16, rfl, rfl⟩
    · exact stleT
  have hco : ofConst (.int .i64 65) = AV.int .i64 op := by rw [hop, if_neg (by simp [g2])]; rfl
  refine ctlT ?_
  rw [hco]
  refine sq13 ?_
  refine sq12 ?_
  refine z93 ?_
  refine rs_go (sgo_vle (j := 13) rfl vle_ins) ?_
  refine cw [(q, .arr 5 1 (vs.map encU))] Tryz.call162 (instr_put q vs (by omega) .any ⟨op, n, 0, []⟩ ho hm) rfl argsleT stleT ?_
  rintro _ σ' ⟨r14, rfl, rfl⟩ h14
  have k14 := rest1T h14; repeat rcases k14 with ⟨_, k14⟩
  apply rs_sto; exact nflT
  refine z1 ?_; refine freshT fun r15 h15 => ?_; repeat rcases h15 with ⟨_, h15⟩
  refine apA ((vs ++ putN ⟨op, n, 0, []⟩ ++ [11]).map encU) (vs ++ putN ⟨op, n, 0, []⟩ ++ [11]).length ?_
  refine apnT fun r16 h16 => ?_; repeat rcases h16 with ⟨_, h16⟩
  refine sq2 ?_
  rw [List.append_assoc]
  apply aend; exact resT
  · exact ⟨r16, rfl, rfl⟩
  · exact stleT
theorem vec_ft {f : FuncId} {pt : FT → List Nat} {ok : FT → Prop} {c B : Nat} (hf : Puts Tryz.prog 5 f (fun x => .agg (encFT x)) pt ok c B) (hB : B ≤ 50000000) (q : Nat) (vs : List Nat) (l : List FT) (hok : ∀ x ∈ l, ok x) (hl : l.length ≤ 1000) (hb : vs.length + 10 + l.length * c ≤ B) :
    SCall Tryz.prog 157 [.own q 0 vs.length, .ro 2 (l.map encFT) .any, .fn (.func f) [] []] [(q, .arr 5 1 (vs.map encU))] (fun y σ => ∃ r, y = .own r 0 (vs ++ vecB l pt).length ∧ σ = [(r, .arr 5 1 ((vs ++ vecB l pt).map encU))]) := by
  have hu := uB_len 1 l.length (by omega)
  have hup := uB_pos l.length
  have hpc := flat_le hf (by omega) hok
  refine scall_of (n := 25) (ks := [0, 1, 2, 6, 8, 13, 14, 15, 16]) Tryz.func157 rfl rfl (Nat.le_of_ble_eq_true rfl) ?_
  refine sq57 ?_
  refine z14 ?_
  refine cw [(q, .arr 5 1 (vs.map encU))] Tryz.call83 (wasm_num q vs (by omega) l.length (by omega)) rfl argsleT stleT ?_
  rintro _ σ' ⟨r12, rfl, rfl⟩ h12
  have k12 := rest1T h12; repeat rcases k12 with ⟨_, k12⟩
  apply rs_sto; exact nflT
  refine sq113 ?_
  refine lp (β := Nat × Nat) (fun b => ⟨[(0, .own b.1 0 (vs ++ uB l.length ++ (l.take b.2).flatMap pt).length), (2, .fn (.func f) [] []), (13, .ro 2 (l.map encFT) .any), (14, .int .i64 l.length), (15, .int .i64 b.2)], [(b.1, .arr 5 1 ((vs ++ uB l.length ++ (l.take b.2).flatMap pt).map encU))]⟩) (fun b => b.2 ≤ l.length) (fun b => l.length - b.2) (r12, 0) (by dsimp only; rw [show vs ++ uB l.length ++ (l.take 0).flatMap pt = vs ++ uB l.length by simp]; (exact sgoT)) (Nat.zero_le _) ?_
  rintro ⟨q1, j⟩ hj
  have hpj := hpc j
  have hsl : (vs ++ uB l.length ++ (l.take j).flatMap pt).length = vs.length + (uB l.length).length + ((l.take j).flatMap pt).length := by simp [Nat.add_assoc]
  dsimp only at hj ⊢
  refine sq42 ?_
  refine sw_cond rfl (fun g3 => ?_) (fun g3 => ?_)
  · have hlt : j < l.length := by simp at g3; omega
    obtain ⟨x, hx⟩ : ∃ x, l[j]? = some x := ⟨_, List.getElem?_eq_getElem hlt⟩
    have hnx : vs ++ uB l.length ++ (l.take (j + 1)).flatMap pt = vs ++ uB l.length ++ (l.take j).flatMap pt ++ pt x := by rw [List.take_add_one, hx, List.flatMap_append]; simp
    refine sq3 ?_
    refine sq69 ?_
    apply al; rfl; (exact zcT); refine freshT fun r8 h8 => ?_; repeat rcases h8 with ⟨_, h8⟩
    apply stp; rfl; rfl; rfl; rfl; (exact sputT)
    refine sq84 ?_
    refine z99 ?_
    refine cf_ [(q1, .arr 5 1 ((vs ++ uB l.length ++ (l.take j).flatMap pt).map encU))] rfl hf.1 (hf.2 q1 _ x (hok x (List.mem_of_getElem? hx)) (by omega) (by omega)).2 rfl argsleT stleT ?_
    rintro _ σ' ⟨r22, rfl, rfl⟩ h22
    have k22 := rest1T h22; repeat rcases k22 with ⟨_, k22⟩
    apply rs_sto; exact nflT
    refine sq90 ?_
    refine ⟨(r22, j + 1), hlt, by show l.length - (j + 1) < l.length - j; omega, ?_⟩
    dsimp only
    rw [hnx]
    exact sgoT
  obtain rfl : j = l.length := by simp at g3; omega
  refine sq29 ?_
  rw [show vs ++ uB l.length ++ (l.take l.length).flatMap pt = vs ++ vecB l pt by rw [List.take_length, List.append_assoc]; rfl]
  apply aend; exact resT
  · exact ⟨q1, rfl, rfl⟩
  · exact stleT
theorem nvec_ft {f : FuncId} {pt : FT → List Nat} {ok : FT → Prop} {c B : Nat} (hf : Puts Tryz.prog 5 f (fun x => .agg (encFT x)) pt ok c B) (hB : B ≤ 50000000) (l : List FT) (hok : ∀ x ∈ l, ok x) (hl : l.length ≤ 1000) (hb : 10 + l.length * c ≤ B) :
    SCall Tryz.prog 157 [.ro 0 [] .nil, .ro 2 (l.map encFT) .any, .fn (.func f) [] []] [] (fun y σ => ∃ r, y = .own r 0 (vecB l pt).length ∧ σ = [(r, .arr 5 1 ((vecB l pt).map encU))]) :=
  scall_nil (e := 5) (sz := 1) (by decide) fun q _ => vec_ft hf hB q [] l hok hl (by simpa using hb)
end Go.Proofs.YtfihcehdoikfkaaGreat
/-
  Modules' sections are written.
-/
namespace Go.Proofs.YtfihcehdoikfkaaGreat
open Go.RowKit Go.ChangeShapes Go.WideShapes Go.ChangeAt Go.Deep
def encR (r : List Int) : List AV := [.ro 1 (r.map encI) .any]
theorem vec_int {f : FuncId} {pt : Int → List Nat} {ok : Int → Prop} {c B : Nat} (hf : Puts Tryz.prog 5 f (fun n => .int .i64 n) pt ok c B) (hB : B ≤ 50000000) (q : Nat) (vs : List Nat) (l : List Int) (hok : ∀ x ∈ l, ok x) (hl : l.length ≤ 1000) (hb : vs.length + 10 + l.length * c ≤ B) :
    SCall Tryz.prog 79 [.own q 0 vs.length, .ro 1 (l.map encI) .any, .fn (.func f) [] []] [(q, .arr 5 1 (vs.map encU))] (fun y σ => ∃ r, y = .own r 0 (vs ++ vecB l pt).length ∧ σ = [(r, .arr 5 1 ((vs ++ vecB l pt).map encU))]) := by
  have hu := uB_len 1 l.length (by omega)
  have hup := uB_pos l.length
  have hpc := flat_le hf (by omega) hok
  refine scall_of (n := 25) (ks := [0, 1, 2, 6, 8, 13, 14, 15, 16]) Tryz.func79 rfl rfl (Nat.le_of_ble_eq_true rfl) ?_
  refine sq57 ?_
  refine z14 ?_
  refine cw [(q, .arr 5 1 (vs.map encU))] Tryz.call83 (wasm_num q vs (by omega) l.length (by omega)) rfl argsleT stleT ?_
  rintro _ σ' ⟨r12, rfl, rfl⟩ h12
  have k12 := rest1T h12; repeat rcases k12 with ⟨_, k12⟩
  apply rs_sto; exact nflT
  refine sq113 ?_
  refine lp (β := Nat × Nat) (fun b => ⟨[(0, .own b.1 0 (vs ++ uB l.length ++ (l.take b.2).flatMap pt).length), (2, .fn (.func f) [] []), (13, .ro 1 (l.map encI) .any), (14, .int .i64 l.length), (15, .int .i64 b.2)], [(b.1, .arr 5 1 ((vs ++ uB l.length ++ (l.take b.2).flatMap pt).map encU))]⟩) (fun b => b.2 ≤ l.length) (fun b => l.length - b.2) (r12, 0) (by dsimp only; rw [show vs ++ uB l.length ++ (l.take 0).flatMap pt = vs ++ uB l.length by simp]; (exact sgoT)) (Nat.zero_le _) ?_
  rintro ⟨q1, j⟩ hj
  have hpj := hpc j
  have hsl : (vs ++ uB l.length ++ (l.take j).flatMap pt).length = vs.length + (uB l.length).length + ((l.take j).flatMap pt).length := by simp [Nat.add_assoc]
  dsimp only at hj ⊢
  refine sq42 ?_
  refine sw_cond rfl (fun g3 => ?_) (fun g3 => ?_)
  · have hlt : j < l.length := by simp at g3; omega
    obtain ⟨x, hx⟩ : ∃ x, l[j]? = some x := ⟨_, List.getElem?_eq_getElem hlt⟩
    have hnx : vs ++ uB l.length ++ (l.take (j + 1)).flatMap pt = vs ++ uB l.length ++ (l.take j).flatMap pt ++ pt x := by rw [List.take_add_one, hx, List.flatMap_append]; simp
    refine sq3 ?_
    refine sq102 ?_
    refine sq2 ?_
    refine sq104 ?_
    refine cf_ [(q1, .arr 5 1 ((vs ++ uB l.length ++ (l.take j).flatMap pt).map encU))] rfl hf.1 (hf.2 q1 _ x (hok x (List.mem_of_getElem? hx)) (by omega) (by omega)).2 rfl argsleT stleT ?_
    rintro _ σ' ⟨r22, rfl, rfl⟩ h22
    have k22 := rest1T h22; repeat rcases k22 with ⟨_, k22⟩
    apply rs_sto; exact nflT
    refine sq90 ?_
    refine ⟨(r22, j + 1), hlt, by show l.length - (j + 1) < l.length - j; omega, ?_⟩
    dsimp only
    rw [hnx]
    exact sgoT
  obtain rfl : j = l.length := by simp at g3; omega
  refine sq29 ?_
  rw [show vs ++ uB l.length ++ (l.take l.length).flatMap pt = vs ++ vecB l pt by rw [List.take_length, List.append_assoc]; rfl]
  apply aend; exact resT
  · exact ⟨q1, rfl, rfl⟩
  · exact stleT
theorem nvec_int {f : FuncId} {pt : Int → List Nat} {ok : Int → Prop} {c B : Nat} (hf : Puts Tryz.prog 5 f (fun n => .int .i64 n) pt ok c B) (hB : B ≤ 50000000) (l : List Int) (hok : ∀ x ∈ l, ok x) (hl : l.length ≤ 1000) (hb : 10 + l.length * c ≤ B) :
    SCall Tryz.prog 79 [.ro 0 [] .nil, .ro 1 (l.map encI) .any, .fn (.func f) [] []] [] (fun y σ => ∃ r, y = .own r 0 (vecB l pt).length ∧ σ = [(r, .arr 5 1 ((vecB l pt).map encU))]) :=
  scall_nil (e := 5) (sz := 1) (by decide) fun q _ => vec_int hf hB q [] l hok hl (by simpa using hb)
theorem vec_run {f : FuncId} {pt : (List Int) → List Nat} {ok : (List Int) → Prop} {c B : Nat} (hf : Puts Tryz.prog 5 f (fun r => .ro 1 (r.map encI) .any) pt ok c B) (hB : B ≤ 50000000) (q : Nat) (vs : List Nat) (l : List (List Int)) (hok : ∀ x ∈ l, ok x) (hl : l.length ≤ 1000) (hb : vs.length + 10 + l.length * c ≤ B) :
    SCall Tryz.prog 166 [.own q 0 vs.length, .ro 1 (l.map encR) .any, .fn (.func f) [] []] [(q, .arr 5 1 (vs.map encU))] (fun y σ => ∃ r, y = .own r 0 (vs ++ vecB l pt).length ∧ σ = [(r, .arr 5 1 ((vs ++ vecB l pt).map encU))]) := by
  have hu := uB_len 1 l.length (by omega)
  have hup := uB_pos l.length
  have hpc := flat_le hf (by omega) hok
  refine scall_of (n := 25) (ks := [0, 1, 2, 6, 8, 13, 14, 15, 16]) Tryz.func166 rfl rfl (Nat.le_of_ble_eq_true rfl) ?_
  refine sq57 ?_
  refine z14 ?_
  refine cw [(q, .arr 5 1 (vs.map encU))] Tryz.call83 (wasm_num q vs (by omega) l.length (by omega)) rfl argsleT stleT ?_
  rintro _ σ' ⟨r12, rfl, rfl⟩ h12
  have k12 := rest1T h12; repeat rcases k12 with ⟨_, k12⟩
  apply rs_sto; exact nflT
  refine sq113 ?_
  refine lp (β := Nat × Nat) (fun b => ⟨[(0, .own b.1 0 (vs ++ uB l.length ++ (l.take b.2).flatMap pt).length), (2, .fn (.func f) [] []), (13, .ro 1 (l.map encR) .any), (14, .int .i64 l.length), (15, .int .i64 b.2)], [(b.1, .arr 5 1 ((vs ++ uB l.length ++ (l.take b.2).flatMap pt).map encU))]⟩) (fun b => b.2 ≤ l.length) (fun b => l.length - b.2) (r12, 0) (by dsimp only; rw [show vs ++ uB l.length ++ (l.take 0).flatMap pt = vs ++ uB l.length by simp]; (exact sgoT)) (Nat.zero_le _) ?_
  rintro ⟨q1, j⟩ hj
  have hpj := hpc j
  have hsl : (vs ++ uB l.length ++ (l.take j).flatMap pt).length = vs.length + (uB l.length).length + ((l.take j).flatMap pt).length := by simp [Nat.add_assoc]
  dsimp only at hj ⊢
  refine sq42 ?_
  refine sw_cond rfl (fun g3 => ?_) (fun g3 => ?_)
  · have hlt : j < l.length := by simp at g3; omega
    obtain ⟨x, hx⟩ : ∃ x, l[j]? = some x := ⟨_, List.getElem?_eq_getElem hlt⟩
    have hnx : vs ++ uB l.length ++ (l.take (j + 1)).flatMap pt = vs ++ uB l.length ++ (l.take j).flatMap pt ++ pt x := by rw [List.take_add_one, hx, List.flatMap_append]; simp
    refine sq3 ?_
    refine sq102 ?_
    refine sq2 ?_
    refine sq104 ?_
    refine cf_ [(q1, .arr 5 1 ((vs ++ uB l.length ++ (l.take j).flatMap pt).map encU))] rfl hf.1 (hf.2 q1 _ x (hok x (List.mem_of_getElem? hx)) (by omega) (by omega)).2 rfl argsleT stleT ?_
    rintro _ σ' ⟨r22, rfl, rfl⟩ h22
    have k22 := rest1T h22; repeat rcases k22 with ⟨_, k22⟩
    apply rs_sto; exact nflT
    refine sq90 ?_
    refine ⟨(r22, j + 1), hlt, by show l.length - (j + 1) < l.length - j; omega, ?_⟩
    dsimp only
    rw [hnx]
    exact sgoT
  obtain rfl : j = l.length := by simp at g3; omega
  refine sq29 ?_
  rw [show vs ++ uB l.length ++ (l.take l.length).flatMap pt = vs ++ vecB l pt by rw [List.take_length, List.append_assoc]; rfl]
  apply aend; exact resT
  · exact ⟨q1, rfl, rfl⟩
  · exact stleT
theorem nvec_run {f : FuncId} {pt : (List Int) → List Nat} {ok : (List Int) → Prop} {c B : Nat} (hf : Puts Tryz.prog 5 f (fun r => .ro 1 (r.map encI) .any) pt ok c B) (hB : B ≤ 50000000) (l : List (List Int)) (hok : ∀ x ∈ l, ok x) (hl : l.length ≤ 1000) (hb : 10 + l.length * c ≤ B) :
    SCall Tryz.prog 166 [.ro 0 [] .nil, .ro 1 (l.map encR) .any, .fn (.func f) [] []] [] (fun y σ => ∃ r, y = .own r 0 (vecB l pt).length ∧ σ = [(r, .arr 5 1 ((vecB l pt).map encU))]) :=
  scall_nil (e := 5) (sz := 1) (by decide) fun q _ => vec_run hf hB q [] l hok hl (by simpa using hb)
theorem vec_im {f : FuncId} {pt : Im → List Nat} {ok : Im → Prop} {c B : Nat} (hf : Puts Tryz.prog 5 f (fun x => .agg (encIm x)) pt ok c B) (hB : B ≤ 50000000) (q : Nat) (vs : List Nat) (l : List Im) (hok : ∀ x ∈ l, ok x) (hl : l.length ≤ 1000) (hb : vs.length + 10 + l.length * c ≤ B) :
    SCall Tryz.prog 158 [.own q 0 vs.length, .ro 3 (l.map encIm) .any, .fn (.func f) [] []] [(q, .arr 5 1 (vs.map encU))] (fun y σ => ∃ r, y = .own r 0 (vs ++ vecB l pt).length ∧ σ = [(r, .arr 5 1 ((vs ++ vecB l pt).map encU))]) := by
  have hu := uB_len 1 l.length (by omega)
  have hup := uB_pos l.length
  have hpc := flat_le hf (by omega) hok
  refine scall_of (n := 25) (ks := [0, 1, 2, 6, 8, 13, 14, 15, 16]) Tryz.func158 rfl rfl (Nat.le_of_ble_eq_true rfl) ?_
  refine sq57 ?_
  refine z14 ?_
  refine cw [(q, .arr 5 1 (vs.map encU))] Tryz.call83 (wasm_num q vs (by omega) l.length (by omega)) rfl argsleT stleT ?_
  rintro _ σ' ⟨r12, rfl, rfl⟩ h12
  have k12 := rest1T h12; repeat rcases k12 with ⟨_, k12⟩
  apply rs_sto; exact nflT
  refine sq113 ?_
  refine lp (β := Nat × Nat) (fun b => ⟨[(0, .own b.1 0 (vs ++ uB l.length ++ (l.take b.2).flatMap pt).length), (2, .fn (.func f) [] []), (13, .ro 3 (l.map encIm) .any), (14, .int .i64 l.length), (15, .int .i64 b.2)], [(b.1, .arr 5 1 ((vs ++ uB l.length ++ (l.take b.2).flatMap pt).map encU))]⟩) (fun b => b.2 ≤ l.length) (fun b => l.length - b.2) (r12, 0) (by dsimp only; rw [show vs ++ uB l.length ++ (l.take 0).flatMap pt = vs ++ uB l.length by simp]; (exact sgoT)) (Nat.zero_le _) ?_
  rintro ⟨q1, j⟩ hj
  have hpj := hpc j
  have hsl : (vs ++ uB l.length ++ (l.take j).flatMap pt).length = vs.length + (uB l.length).length + ((l.take j).flatMap pt).length := by simp [Nat.add_assoc]
  dsimp only at hj ⊢
  refine sq42 ?_
  refine sw_cond rfl (fun g3 => ?_) (fun g3 => ?_)
  · have hlt : j < l.length := by simp at g3; omega
    obtain ⟨x, hx⟩ : ∃ x, l[j]? = some x := ⟨_, List.getElem?_eq_getElem hlt⟩
    have hnx : vs ++ uB l.length ++ (l.take (j + 1)).flatMap pt = vs ++ uB l.length ++ (l.take j).flatMap pt ++ pt x := by rw [List.take_add_one, hx, List.flatMap_append]; simp
    refine sq3 ?_
    refine sq69 ?_
    apply al; rfl; (exact zcT); refine freshT fun r8 h8 => ?_; repeat rcases h8 with ⟨_, h8⟩
    apply stp; rfl; rfl; rfl; rfl; (exact sputT)
    refine sq84 ?_
    refine z99 ?_
    refine cf_ [(q1, .arr 5 1 ((vs ++ uB l.length ++ (l.take j).flatMap pt).map encU))] rfl hf.1 (hf.2 q1 _ x (hok x (List.mem_of_getElem? hx)) (by omega) (by omega)).2 rfl argsleT stleT ?_
    rintro _ σ' ⟨r22, rfl, rfl⟩ h22
    have k22 := rest1T h22; repeat rcases k22 with ⟨_, k22⟩
    apply rs_sto; exact nflT
    refine sq90 ?_
    refine ⟨(r22, j + 1), hlt, by show l.length - (j + 1) < l.length - j; omega, ?_⟩
    dsimp only
    rw [hnx]
    exact sgoT
  obtain rfl : j = l.length := by simp at g3; omega
  refine sq29 ?_
  rw [show vs ++ uB l.length ++ (l.take l.length).flatMap pt = vs ++ vecB l pt by rw [List.take_length, List.append_assoc]; rfl]
  apply aend; exact resT
  · exact ⟨q1, rfl, rfl⟩
  · exact stleT
theorem nvec_im {f : FuncId} {pt : Im → List Nat} {ok : Im → Prop} {c B : Nat} (hf : Puts Tryz.prog 5 f (fun x => .agg (encIm x)) pt ok c B) (hB : B ≤ 50000000) (l : List Im) (hok : ∀ x ∈ l, ok x) (hl : l.length ≤ 1000) (hb : 10 + l.length * c ≤ B) :
    SCall Tryz.prog 158 [.ro 0 [] .nil, .ro 3 (l.map encIm) .any, .fn (.func f) [] []] [] (fun y σ => ∃ r, y = .own r 0 (vecB l pt).length ∧ σ = [(r, .arr 5 1 ((vecB l pt).map encU))]) :=
  scall_nil (e := 5) (sz := 1) (by decide) fun q _ => vec_im hf hB q [] l hok hl (by simpa using hb)
theorem vec_li {f : FuncId} {pt : Li → List Nat} {ok : Li → Prop} {c B : Nat} (hf : Puts Tryz.prog 5 f (fun x => .agg (encLi x)) pt ok c B) (hB : B ≤ 50000000) (q : Nat) (vs : List Nat) (l : List Li) (hok : ∀ x ∈ l, ok x) (hl : l.length ≤ 1000) (hb : vs.length + 10 + l.length * c ≤ B) :
    SCall Tryz.prog 160 [.own q 0 vs.length, .ro 3 (l.map encLi) .any, .fn (.func f) [] []] [(q, .arr 5 1 (vs.map encU))] (fun y σ => ∃ r, y = .own r 0 (vs ++ vecB l pt).length ∧ σ = [(r, .arr 5 1 ((vs ++ vecB l pt).map encU))]) := by
  have hu := uB_len 1 l.length (by omega)
  have hup := uB_pos l.length
  have hpc := flat_le hf (by omega) hok
  refine scall_of (n := 25) (ks := [0, 1, 2, 6, 8, 13, 14, 15, 16]) Tryz.func160 rfl rfl (Nat.le_of_ble_eq_true rfl) ?_
  refine sq57 ?_
  refine z14 ?_
  refine cw [(q, .arr 5 1 (vs.map encU))] Tryz.call83 (wasm_num q vs (by omega) l.length (by omega)) rfl argsleT stleT ?_
  rintro _ σ' ⟨r12, rfl, rfl⟩ h12
  have k12 := rest1T h12; repeat rcases k12 with ⟨_, k12⟩
  apply rs_sto; exact nflT
  refine sq113 ?_
  refine lp (β := Nat × Nat) (fun b => ⟨[(0, .own b.1 0 (vs ++ uB l.length ++ (l.take b.2).flatMap pt).length), (2, .fn (.func f) [] []), (13, .ro 3 (l.map encLi) .any), (14, .int .i64 l.length), (15, .int .i64 b.2)], [(b.1, .arr 5 1 ((vs ++ uB l.length ++ (l.take b.2).flatMap pt).map encU))]⟩) (fun b => b.2 ≤ l.length) (fun b => l.length - b.2) (r12, 0) (by dsimp only; rw [show vs ++ uB l.length ++ (l.take 0).flatMap pt = vs ++ uB l.length by simp]; (exact sgoT)) (Nat.zero_le _) ?_
  rintro ⟨q1, j⟩ hj
  have hpj := hpc j
  have hsl : (vs ++ uB l.length ++ (l.take j).flatMap pt).length = vs.length + (uB l.length).length + ((l.take j).flatMap pt).length := by simp [Nat.add_assoc]
  dsimp only at hj ⊢
  refine sq42 ?_
  refine sw_cond rfl (fun g3 => ?_) (fun g3 => ?_)
  · have hlt : j < l.length := by simp at g3; omega
    obtain ⟨x, hx⟩ : ∃ x, l[j]? = some x := ⟨_, List.getElem?_eq_getElem hlt⟩
    have hnx : vs ++ uB l.length ++ (l.take (j + 1)).flatMap pt = vs ++ uB l.length ++ (l.take j).flatMap pt ++ pt x := by rw [List.take_add_one, hx, List.flatMap_append]; simp
    refine sq3 ?_
    refine sq69 ?_
    apply al; rfl; (exact zcT); refine freshT fun r8 h8 => ?_; repeat rcases h8 with ⟨_, h8⟩
    apply stp; rfl; rfl; rfl; rfl; (exact sputT)
    refine sq84 ?_
    refine z99 ?_
    refine cf_ [(q1, .arr 5 1 ((vs ++ uB l.length ++ (l.take j).flatMap pt).map encU))] rfl hf.1 (hf.2 q1 _ x (hok x (List.mem_of_getElem? hx)) (by omega) (by omega)).2 rfl argsleT stleT ?_
    rintro _ σ' ⟨r22, rfl, rfl⟩ h22
    have k22 := rest1T h22; repeat rcases k22 with ⟨_, k22⟩
    apply rs_sto; exact nflT
    refine sq90 ?_
    refine ⟨(r22, j + 1), hlt, by show l.length - (j + 1) < l.length - j; omega, ?_⟩
    dsimp only
    rw [hnx]
    exact sgoT
  obtain rfl : j = l.length := by simp at g3; omega
  refine sq29 ?_
  rw [show vs ++ uB l.length ++ (l.take l.length).flatMap pt = vs ++ vecB l pt by rw [List.take_length, List.append_assoc]; rfl]
  apply aend; exact resT
  · exact ⟨q1, rfl, rfl⟩
  · exact stleT
theorem nvec_li {f : FuncId} {pt : Li → List Nat} {ok : Li → Prop} {c B : Nat} (hf : Puts Tryz.prog 5 f (fun x => .agg (encLi x)) pt ok c B) (hB : B ≤ 50000000) (l : List Li) (hok : ∀ x ∈ l, ok x) (hl : l.length ≤ 1000) (hb : 10 + l.length * c ≤ B) :
    SCall Tryz.prog 160 [.ro 0 [] .nil, .ro 3 (l.map encLi) .any, .fn (.func f) [] []] [] (fun y σ => ∃ r, y = .own r 0 (vecB l pt).length ∧ σ = [(r, .arr 5 1 ((vecB l pt).map encU))]) :=
  scall_nil (e := 5) (sz := 1) (by decide) fun q _ => vec_li hf hB q [] l hok hl (by simpa using hb)
theorem vec_gl {f : FuncId} {pt : Gl → List Nat} {ok : Gl → Prop} {c B : Nat} (hf : Puts Tryz.prog 5 f (fun x => .agg (encGl x)) pt ok c B) (hB : B ≤ 50000000) (q : Nat) (vs : List Nat) (l : List Gl) (hok : ∀ x ∈ l, ok x) (hl : l.length ≤ 1000) (hb : vs.length + 10 + l.length * c ≤ B) :
    SCall Tryz.prog 161 [.own q 0 vs.length, .ro 3 (l.map encGl) .any, .fn (.func f) [] []] [(q, .arr 5 1 (vs.map encU))] (fun y σ => ∃ r, y = .own r 0 (vs ++ vecB l pt).length ∧ σ = [(r, .arr 5 1 ((vs ++ vecB l pt).map encU))]) := by
  have hu := uB_len 1 l.length (by omega)
  have hup := uB_pos l.length
  have hpc := flat_le hf (by omega) hok
  refine scall_of (n := 25) (ks := [0, 1, 2, 6, 8, 13, 14, 15, 16]) Tryz.func161 rfl rfl (Nat.le_of_ble_eq_true rfl) ?_
  refine sq57 ?_
  refine z14 ?_
  refine cw [(q, .arr 5 1 (vs.map encU))] Tryz.call83 (wasm_num q vs (by omega) l.length (by omega)) rfl argsleT stleT ?_
  rintro _ σ' ⟨r12, rfl, rfl⟩ h12
  have k12 := rest1T h12; repeat rcases k12 with ⟨_, k12⟩
  apply rs_sto; exact nflT
  refine sq113 ?_
  refine lp (β := Nat × Nat) (fun b => ⟨[(0, .own b.1 0 (vs ++ uB l.length ++ (l.take b.2).flatMap pt).length), (2, .fn (.func f) [] []), (13, .ro 3 (l.map encGl) .any), (14, .int .i64 l.length), (15, .int .i64 b.2)], [(b.1, .arr 5 1 ((vs ++ uB l.length ++ (l.take b.2).flatMap pt).map encU))]⟩) (fun b => b.2 ≤ l.length) (fun b => l.length - b.2) (r12, 0) (by dsimp only; rw [show vs ++ uB l.length ++ (l.take 0).flatMap pt = vs ++ uB l.length by simp]; (exact sgoT)) (Nat.zero_le _) ?_
  rintro ⟨q1, j⟩ hj
  have hpj := hpc j
  have hsl : (vs ++ uB l.length ++ (l.take j).flatMap pt).length = vs.length + (uB l.length).length + ((l.take j).flatMap pt).length := by simp [Nat.add_assoc]
  dsimp only at hj ⊢
  refine sq42 ?_
  refine sw_cond rfl (fun g3 => ?_) (fun g3 => ?_)
  · have hlt : j < l.length := by simp at g3; omega
    obtain ⟨x, hx⟩ : ∃ x, l[j]? = some x := ⟨_, List.getElem?_eq_getElem hlt⟩
    have hnx : vs ++ uB l.length ++ (l.take (j + 1)).flatMap pt = vs ++ uB l.length ++ (l.take j).flatMap pt ++ pt x := by rw [List.take_add_one, hx, List.flatMap_append]; simp
    refine sq3 ?_
    refine sq69 ?_
    apply al; rfl; (exact zcT); refine freshT fun r8 h8 => ?_; repeat rcases h8 with ⟨_, h8⟩
    apply stp; rfl; rfl; rfl; rfl; (exact sputT)
    refine sq84 ?_
    refine z99 ?_
    refine cf_ [(q1, .arr 5 1 ((vs ++ uB l.length ++ (l.take j).flatMap pt).map encU))] rfl hf.1 (hf.2 q1 _ x (hok x (List.mem_of_getElem? hx)) (by omega) (by omega)).2 rfl argsleT stleT ?_
    rintro _ σ' ⟨r22, rfl, rfl⟩ h22
    have k22 := rest1T h22; repeat rcases k22 with ⟨_, k22⟩
    apply rs_sto; exact nflT
    refine sq90 ?_
    refine ⟨(r22, j + 1), hlt, by show l.length - (j + 1) < l.length - j; omega, ?_⟩
    dsimp only
    rw [hnx]
    exact sgoT
  obtain rfl : j = l.length := by simp at g3; omega
  refine sq29 ?_
  rw [show vs ++ uB l.length ++ (l.take l.length).flatMap pt = vs ++ vecB l pt by rw [List.take_length, List.append_assoc]; rfl]
  apply aend; exact resT
  · exact ⟨q1, rfl, rfl⟩
  · exact stleT
theorem nvec_gl {f : FuncId} {pt : Gl → List Nat} {ok : Gl → Prop} {c B : Nat} (hf : Puts Tryz.prog 5 f (fun x => .agg (encGl x)) pt ok c B) (hB : B ≤ 50000000) (l : List Gl) (hok : ∀ x ∈ l, ok x) (hl : l.length ≤ 1000) (hb : 10 + l.length * c ≤ B) :
    SCall Tryz.prog 161 [.ro 0 [] .nil, .ro 3 (l.map encGl) .any, .fn (.func f) [] []] [] (fun y σ => ∃ r, y = .own r 0 (vecB l pt).length ∧ σ = [(r, .arr 5 1 ((vecB l pt).map encU))]) :=
  scall_nil (e := 5) (sz := 1) (by decide) fun q _ => vec_gl hf hB q [] l hok hl (by simpa using hb)
theorem vec_ex {f : FuncId} {pt : Ex → List Nat} {ok : Ex → Prop} {c B : Nat} (hf : Puts Tryz.prog 5 f (fun x => .agg (encEx x)) pt ok c B) (hB : B ≤ 50000000) (q : Nat) (vs : List Nat) (l : List Ex) (hok : ∀ x ∈ l, ok x) (hl : l.length ≤ 1000) (hb : vs.length + 10 + l.length * c ≤ B) :
    SCall Tryz.prog 163 [.own q 0 vs.length, .ro 2 (l.map encEx) .any, .fn (.func f) [] []] [(q, .arr 5 1 (vs.map encU))] (fun y σ => ∃ r, y = .own r 0 (vs ++ vecB l pt).length ∧ σ = [(r, .arr 5 1 ((vs ++ vecB l pt).map encU))]) := by
  have hu := uB_len 1 l.length (by omega)
  have hup := uB_pos l.length
  have hpc := flat_le hf (by omega) hok
  refine scall_of (n := 25) (ks := [0, 1, 2, 6, 8, 13, 14, 15, 16]) Tryz.func163 rfl rfl (Nat.le_of_ble_eq_true rfl) ?_
  refine sq57 ?_
  refine z14 ?_
  refine cw [(q, .arr 5 1 (vs.map encU))] Tryz.call83 (wasm_num q vs (by omega) l.length (by omega)) rfl argsleT stleT ?_
  rintro _ σ' ⟨r12, rfl, rfl⟩ h12
  have k12 := rest1T h12; repeat rcases k12 with ⟨_, k12⟩
  apply rs_sto; exact nflT
  refine sq113 ?_
  refine lp (β := Nat × Nat) (fun b => ⟨[(0, .own b.1 0 (vs ++ uB l.length ++ (l.take b.2).flatMap pt).length), (2, .fn (.func f) [] []), (13, .ro 2 (l.map encEx) .any), (14, .int .i64 l.length), (15, .int .i64 b.2)], [(b.1, .arr 5 1 ((vs ++ uB l.length ++ (l.take b.2).flatMap pt).map encU))]⟩) (fun b => b.2 ≤ l.length) (fun b => l.length - b.2) (r12, 0) (by dsimp only; rw [show vs ++ uB l.length ++ (l.take 0).flatMap pt = vs ++ uB l.length by simp]; (exact sgoT)) (Nat.zero_le _) ?_
  rintro ⟨q1, j⟩ hj
  have hpj := hpc j
  have hsl : (vs ++ uB l.length ++ (l.take j).flatMap pt).length = vs.length + (uB l.length).length + ((l.take j).flatMap pt).length := by simp [Nat.add_assoc]
  dsimp only at hj ⊢
  refine sq42 ?_
  refine sw_cond rfl (fun g3 => ?_) (fun g3 => ?_)
  · have hlt : j < l.length := by simp at g3; omega
    obtain ⟨x, hx⟩ : ∃ x, l[j]? = some x := ⟨_, List.getElem?_eq_getElem hlt⟩
    have hnx : vs ++ uB l.length ++ (l.take (j + 1)).flatMap pt = vs ++ uB l.length ++ (l.take j).flatMap pt ++ pt x := by rw [List.take_add_one, hx, List.flatMap_append]; simp
    refine sq3 ?_
    refine sq69 ?_
    apply al; rfl; (exact zcT); refine freshT fun r8 h8 => ?_; repeat rcases h8 with ⟨_, h8⟩
    apply stp; rfl; rfl; rfl; rfl; (exact sputT)
    refine sq84 ?_
    refine z99 ?_
    refine cf_ [(q1, .arr 5 1 ((vs ++ uB l.length ++ (l.take j).flatMap pt).map encU))] rfl hf.1 (hf.2 q1 _ x (hok x (List.mem_of_getElem? hx)) (by omega) (by omega)).2 rfl argsleT stleT ?_
    rintro _ σ' ⟨r22, rfl, rfl⟩ h22
    have k22 := rest1T h22; repeat rcases k22 with ⟨_, k22⟩
    apply rs_sto; exact nflT
    refine sq90 ?_
    refine ⟨(r22, j + 1), hlt, by show l.length - (j + 1) < l.length - j; omega, ?_⟩
    dsimp only
    rw [hnx]
    exact sgoT
  obtain rfl : j = l.length := by simp at g3; omega
  refine sq29 ?_
  rw [show vs ++ uB l.length ++ (l.take l.length).flatMap pt = vs ++ vecB l pt by rw [List.take_length, List.append_assoc]; rfl]
  apply aend; exact resT
  · exact ⟨q1, rfl, rfl⟩
  · exact stleT
theorem nvec_ex {f : FuncId} {pt : Ex → List Nat} {ok : Ex → Prop} {c B : Nat} (hf : Puts Tryz.prog 5 f (fun x => .agg (encEx x)) pt ok c B) (hB : B ≤ 50000000) (l : List Ex) (hok : ∀ x ∈ l, ok x) (hl : l.length ≤ 1000) (hb : 10 + l.length * c ≤ B) :
    SCall Tryz.prog 163 [.ro 0 [] .nil, .ro 2 (l.map encEx) .any, .fn (.func f) [] []] [] (fun y σ => ∃ r, y = .own r 0 (vecB l pt).length ∧ σ = [(r, .arr 5 1 ((vecB l pt).map encU))]) :=
  scall_nil (e := 5) (sz := 1) (by decide) fun q _ => vec_ex hf hB q [] l hok hl (by simpa using hb)
theorem vec_el {f : FuncId} {pt : El → List Nat} {ok : El → Prop} {c B : Nat} (hf : Puts Tryz.prog 5 f (fun x => .agg (encEl x)) pt ok c B) (hB : B ≤ 50000000) (q : Nat) (vs : List Nat) (l : List El) (hok : ∀ x ∈ l, ok x) (hl : l.length ≤ 1000) (hb : vs.length + 10 + l.length * c ≤ B) :
    SCall Tryz.prog 164 [.own q 0 vs.length, .ro 2 (l.map encEl) .any, .fn (.func f) [] []] [(q, .arr 5 1 (vs.map encU))] (fun y σ => ∃ r, y = .own r 0 (vs ++ vecB l pt).length ∧ σ = [(r, .arr 5 1 ((vs ++ vecB l pt).map encU))]) := by
  have hu := uB_len 1 l.length (by omega)
  have hup := uB_pos l.length
  have hpc := flat_le hf (by omega) hok
  refine scall_of (n := 25) (ks := [0, 1, 2, 6, 8, 13, 14, 15, 16]) Tryz.func164 rfl rfl (Nat.le_of_ble_eq_true rfl) ?_
  refine sq57 ?_
  refine z14 ?_
  refine cw [(q, .arr 5 1 (vs.map encU))] Tryz.call83 (wasm_num q vs (by omega) l.length (by omega)) rfl argsleT stleT ?_
  rintro _ σ' ⟨r12, rfl, rfl⟩ h12
  have k12 := rest1T h12; repeat rcases k12 with ⟨_, k12⟩
  apply rs_sto; exact nflT
  refine sq113 ?_
  refine lp (β := Nat × Nat) (fun b => ⟨[(0, .own b.1 0 (vs ++ uB l.length ++ (l.take b.2).flatMap pt).length), (2, .fn (.func f) [] []), (13, .ro 2 (l.map encEl) .any), (14, .int .i64 l.length), (15, .int .i64 b.2)], [(b.1, .arr 5 1 ((vs ++ uB l.length ++ (l.take b.2).flatMap pt).map encU))]⟩) (fun b => b.2 ≤ l.length) (fun b => l.length - b.2) (r12, 0) (by dsimp only; rw [show vs ++ uB l.length ++ (l.take 0).flatMap pt = vs ++ uB l.length by simp]; (exact sgoT)) (Nat.zero_le _) ?_
  rintro ⟨q1, j⟩ hj
  have hpj := hpc j
  have hsl : (vs ++ uB l.length ++ (l.take j).flatMap pt).length = vs.length + (uB l.length).length + ((l.take j).flatMap pt).length := by simp [Nat.add_assoc]
  dsimp only at hj ⊢
  refine sq42 ?_
  refine sw_cond rfl (fun g3 => ?_) (fun g3 => ?_)
  · have hlt : j < l.length := by simp at g3; omega
    obtain ⟨x, hx⟩ : ∃ x, l[j]? = some x := ⟨_, List.getElem?_eq_getElem hlt⟩
    have hnx : vs ++ uB l.length ++ (l.take (j + 1)).flatMap pt = vs ++ uB l.length ++ (l.take j).flatMap pt ++ pt x := by rw [List.take_add_one, hx, List.flatMap_append]; simp
    refine sq3 ?_
    refine sq69 ?_
    apply al; rfl; (exact zcT); refine freshT fun r8 h8 => ?_; repeat rcases h8 with ⟨_, h8⟩
    apply stp; rfl; rfl; rfl; rfl; (exact sputT)
    refine sq84 ?_
    refine z99 ?_
    refine cf_ [(q1, .arr 5 1 ((vs ++ uB l.length ++ (l.take j).flatMap pt).map encU))] rfl hf.1 (hf.2 q1 _ x (hok x (List.mem_of_getElem? hx)) (by omega) (by omega)).2 rfl argsleT stleT ?_
    rintro _ σ' ⟨r22, rfl, rfl⟩ h22
    have k22 := rest1T h22; repeat rcases k22 with ⟨_, k22⟩
    apply rs_sto; exact nflT
    refine sq90 ?_
    refine ⟨(r22, j + 1), hlt, by show l.length - (j + 1) < l.length - j; omega, ?_⟩
    dsimp only
    rw [hnx]
    exact sgoT
  obtain rfl : j = l.length := by simp at g3; omega
  refine sq29 ?_
  rw [show vs ++ uB l.length ++ (l.take l.length).flatMap pt = vs ++ vecB l pt by rw [List.take_length, List.append_assoc]; rfl]
  apply aend; exact resT
  · exact ⟨q1, rfl, rfl⟩
  · exact stleT
theorem nvec_el {f : FuncId} {pt : El → List Nat} {ok : El → Prop} {c B : Nat} (hf : Puts Tryz.prog 5 f (fun x => .agg (encEl x)) pt ok c B) (hB : B ≤ 50000000) (l : List El) (hok : ∀ x ∈ l, ok x) (hl : l.length ≤ 1000) (hb : 10 + l.length * c ≤ B) :
    SCall Tryz.prog 164 [.ro 0 [] .nil, .ro 2 (l.map encEl) .any, .fn (.func f) [] []] [] (fun y σ => ∃ r, y = .own r 0 (vecB l pt).length ∧ σ = [(r, .arr 5 1 ((vecB l pt).map encU))]) :=
  scall_nil (e := 5) (sz := 1) (by decide) fun q _ => vec_el hf hB q [] l hok hl (by simpa using hb)
theorem vec_co {f : FuncId} {pt : Co → List Nat} {ok : Co → Prop} {c B : Nat} (hf : Puts Tryz.prog 5 f (fun x => .agg (encCo x)) pt ok c B) (hB : B ≤ 50000000) (q : Nat) (vs : List Nat) (l : List Co) (hok : ∀ x ∈ l, ok x) (hl : l.length ≤ 1000) (hb : vs.length + 10 + l.length * c ≤ B) :
    SCall Tryz.prog 165 [.own q 0 vs.length, .ro 2 (l.map encCo) .any, .fn (.func f) [] []] [(q, .arr 5 1 (vs.map encU))] (fun y σ => ∃ r, y = .own r 0 (vs ++ vecB l pt).length ∧ σ = [(r, .arr 5 1 ((vs ++ vecB l pt).map encU))]) := by
  have hu := uB_len 1 l.length (by omega)
  have hup := uB_pos l.length
  have hpc := flat_le hf (by omega) hok
  refine scall_of (n := 25) (ks := [0, 1, 2, 6, 8, 13, 14, 15, 16]) Tryz.func165 rfl rfl (Nat.le_of_ble_eq_true rfl) ?_
  refine sq57 ?_
  refine z14 ?_
  refine cw [(q, .arr 5 1 (vs.map encU))] Tryz.call83 (wasm_num q vs (by omega) l.length (by omega)) rfl argsleT stleT ?_
  rintro _ σ' ⟨r12, rfl, rfl⟩ h12
  have k12 := rest1T h12; repeat rcases k12 with ⟨_, k12⟩
  apply rs_sto; exact nflT
  refine sq113 ?_
  refine lp (β := Nat × Nat) (fun b => ⟨[(0, .own b.1 0 (vs ++ uB l.length ++ (l.take b.2).flatMap pt).length), (2, .fn (.func f) [] []), (13, .ro 2 (l.map encCo) .any), (14, .int .i64 l.length), (15, .int .i64 b.2)], [(b.1, .arr 5 1 ((vs ++ uB l.length ++ (l.take b.2).flatMap pt).map encU))]⟩) (fun b => b.2 ≤ l.length) (fun b => l.length - b.2) (r12, 0) (by dsimp only; rw [show vs ++ uB l.length ++ (l.take 0).flatMap pt = vs ++ uB l.length by simp]; (exact sgoT)) (Nat.zero_le _) ?_
  rintro ⟨q1, j⟩ hj
  have hpj := hpc j
  have hsl : (vs ++ uB l.length ++ (l.take j).flatMap pt).length = vs.length + (uB l.length).length + ((l.take j).flatMap pt).length := by simp [Nat.add_assoc]
  dsimp only at hj ⊢
  refine sq42 ?_
  refine sw_cond rfl (fun g3 => ?_) (fun g3 => ?_)
  · have hlt : j < l.length := by simp at g3; omega
    obtain ⟨x, hx⟩ : ∃ x, l[j]? = some x := ⟨_, List.getElem?_eq_getElem hlt⟩
    have hnx : vs ++ uB l.length ++ (l.take (j + 1)).flatMap pt = vs ++ uB l.length ++ (l.take j).flatMap pt ++ pt x := by rw [List.take_add_one, hx, List.flatMap_append]; simp
    refine sq3 ?_
    refine sq69 ?_
    apply al; rfl; (exact zcT); refine freshT fun r8 h8 => ?_; repeat rcases h8 with ⟨_, h8⟩
    apply stp; rfl; rfl; rfl; rfl; (exact sputT)
    refine sq84 ?_
    refine z99 ?_
    refine cf_ [(q1, .arr 5 1 ((vs ++ uB l.length ++ (l.take j).flatMap pt).map encU))] rfl hf.1 (hf.2 q1 _ x (hok x (List.mem_of_getElem? hx)) (by omega) (by omega)).2 rfl argsleT stleT ?_
    rintro _ σ' ⟨r22, rfl, rfl⟩ h22
    have k22 := rest1T h22; repeat rcases k22 with ⟨_, k22⟩
    apply rs_sto; exact nflT
    refine sq90 ?_
    refine ⟨(r22, j + 1), hlt, by show l.length - (j + 1) < l.length - j; omega, ?_⟩
    dsimp only
    rw [hnx]
    exact sgoT
  obtain rfl : j = l.length := by simp at g3; omega
  refine sq29 ?_
  rw [show vs ++ uB l.length ++ (l.take l.length).flatMap pt = vs ++ vecB l pt by rw [List.take_length, List.append_assoc]; rfl]
  apply aend; exact resT
  · exact ⟨q1, rfl, rfl⟩
  · exact stleT
theorem nvec_co {f : FuncId} {pt : Co → List Nat} {ok : Co → Prop} {c B : Nat} (hf : Puts Tryz.prog 5 f (fun x => .agg (encCo x)) pt ok c B) (hB : B ≤ 50000000) (l : List Co) (hok : ∀ x ∈ l, ok x) (hl : l.length ≤ 1000) (hb : 10 + l.length * c ≤ B) :
    SCall Tryz.prog 165 [.ro 0 [] .nil, .ro 2 (l.map encCo) .any, .fn (.func f) [] []] [] (fun y σ => ∃ r, y = .own r 0 (vecB l pt).length ∧ σ = [(r, .arr 5 1 ((vecB l pt).map encU))]) :=
  scall_nil (e := 5) (sz := 1) (by decide) fun q _ => vec_co hf hB q [] l hok hl (by simpa using hb)
theorem vec_da {f : FuncId} {pt : Da → List Nat} {ok : Da → Prop} {c B : Nat} (hf : Puts Tryz.prog 5 f (fun x => .agg (encDa x)) pt ok c B) (hB : B ≤ 50000000) (q : Nat) (vs : List Nat) (l : List Da) (hok : ∀ x ∈ l, ok x) (hl : l.length ≤ 1000) (hb : vs.length + 10 + l.length * c ≤ B) :
    SCall Tryz.prog 169 [.own q 0 vs.length, .ro 2 (l.map encDa) .any, .fn (.func f) [] []] [(q, .arr 5 1 (vs.map encU))] (fun y σ => ∃ r, y = .own r 0 (vs ++ vecB l pt).length ∧ σ = [(r, .arr 5 1 ((vs ++ vecB l pt).map encU))]) := by
  have hu := uB_len 1 l.length (by omega)
  have hup := uB_pos l.length
  have hpc := flat_le hf (by omega) hok
  refine scall_of (n := 25) (ks := [0, 1, 2, 6, 8, 13, 14, 15, 16]) Tryz.func169 rfl rfl (Nat.le_of_ble_eq_true rfl) ?_
  refine sq57 ?_
  refine z14 ?_
  refine cw [(q, .arr 5 1 (vs.map encU))] Tryz.call83 (wasm_num q vs (by omega) l.length (by omega)) rfl argsleT stleT ?_
  rintro _ σ' ⟨r12, rfl, rfl⟩ h12
  have k12 := rest1T h12; repeat rcases k12 with ⟨_, k12⟩
  apply rs_sto; exact nflT
  refine sq113 ?_
  refine lp (β := Nat × Nat) (fun b => ⟨[(0, .own b.1 0 (vs ++ uB l.length ++ (l.take b.2).flatMap pt).length), (2, .fn (.func f) [] []), (13, .ro 2 (l.map encDa) .any), (14, .int .i64 l.length), (15, .int .i64 b.2)], [(b.1, .arr 5 1 ((vs ++ uB l.length ++ (l.take b.2).flatMap pt).map encU))]⟩) (fun b => b.2 ≤ l.length) (fun b => l.length - b.2) (r12, 0) (by dsimp only; rw [show vs ++ uB l.length ++ (l.take 0).flatMap pt = vs ++ uB l.length by simp]; (exact sgoT)) (Nat.zero_le _) ?_
  rintro ⟨q1, j⟩ hj
  have hpj := hpc j
  have hsl : (vs ++ uB l.length ++ (l.take j).flatMap pt).length = vs.length + (uB l.length).length + ((l.take j).flatMap pt).length := by simp [Nat.add_assoc]
  dsimp only at hj ⊢
  refine sq42 ?_
  refine sw_cond rfl (fun g3 => ?_) (fun g3 => ?_)
  · have hlt : j < l.length := by simp at g3; omega
    obtain ⟨x, hx⟩ : ∃ x, l[j]? = some x := ⟨_, List.getElem?_eq_getElem hlt⟩
    have hnx : vs ++ uB l.length ++ (l.take (j + 1)).flatMap pt = vs ++ uB l.length ++ (l.take j).flatMap pt ++ pt x := by rw [List.take_add_one, hx, List.flatMap_append]; simp
    refine sq3 ?_
    refine sq69 ?_
    apply al; rfl; (exact zcT); refine freshT fun r8 h8 => ?_; repeat rcases h8 with ⟨_, h8⟩
    apply stp; rfl; rfl; rfl; rfl; (exact sputT)
    refine sq84 ?_
    refine z99 ?_
    refine cf_ [(q1, .arr 5 1 ((vs ++ uB l.length ++ (l.take j).flatMap pt).map encU))] rfl hf.1 (hf.2 q1 _ x (hok x (List.mem_of_getElem? hx)) (by omega) (by omega)).2 rfl argsleT stleT ?_
    rintro _ σ' ⟨r22, rfl, rfl⟩ h22
    have k22 := rest1T h22; repeat rcases k22 with ⟨_, k22⟩
    apply rs_sto; exact nflT
    refine sq90 ?_
    refine ⟨(r22, j + 1), hlt, by show l.length - (j + 1) < l.length - j; omega, ?_⟩
    dsimp only
    rw [hnx]
    exact sgoT
  obtain rfl : j = l.length := by simp at g3; omega
  refine sq29 ?_
  rw [show vs ++ uB l.length ++ (l.take l.length).flatMap pt = vs ++ vecB l pt by rw [List.take_length, List.append_assoc]; rfl]
  apply aend; exact resT
  · exact ⟨q1, rfl, rfl⟩
  · exact stleT
theorem nvec_da {f : FuncId} {pt : Da → List Nat} {ok : Da → Prop} {c B : Nat} (hf : Puts Tryz.prog 5 f (fun x => .agg (encDa x)) pt ok c B) (hB : B ≤ 50000000) (l : List Da) (hok : ∀ x ∈ l, ok x) (hl : l.length ≤ 1000) (hb : 10 + l.length * c ≤ B) :
    SCall Tryz.prog 169 [.ro 0 [] .nil, .ro 2 (l.map encDa) .any, .fn (.func f) [] []] [] (fun y σ => ∃ r, y = .own r 0 (vecB l pt).length ∧ σ = [(r, .arr 5 1 ((vecB l pt).map encU))]) :=
  scall_nil (e := 5) (sz := 1) (by decide) fun q _ => vec_da hf hB q [] l hok hl (by simpa using hb)
theorem sec_ft {f : FuncId} {pt : FT → List Nat} {ok : FT → Prop} {c B : Nat} (hf : Puts Tryz.prog 5 f (fun x => .agg (encFT x)) pt ok c B) (hB : B ≤ 50000000) (q : Nat) (vs : List Nat) (no : Nat) (hno : no < 256) (l : List FT) (hok : ∀ x ∈ l, ok x) (hl : l.length ≤ 1000) (hvs : vs.length ≤ 10000000) (hb : 10 + l.length * c ≤ B) :
    SCall Tryz.prog 77 [.own q 0 vs.length, .int .i64 no, .ro 2 (l.map encFT) .any, .fn (.func f) [] []] [(q, .arr 5 1 (vs.map encU))] (fun y σ => ∃ r, y = .own r 0 (vs ++ secB no l pt).length ∧ σ = [(r, .arr 5 1 ((vs ++ secB no l pt).map encU))]) := by
  have hu := uB_len 1 l.length (by omega)
  have hup := uB_pos l.length
  have hpc := flat_le hf (by omega) hok l.length
  rw [List.take_length] at hpc
  have hvl : (vecB l pt).length ≤ 50000000 := by unfold vecB; simp only [List.length_append]; omega
  have hub := uB_len 4 (vecB l pt).length (by omega)
  refine scall_of (n := 27) (ks := [0, 1, 2, 3, 8, 9, 12]) Tryz.func77 rfl rfl (Nat.le_of_ble_eq_true rfl) ?_
  refine sq32 ?_
  refine z14 ?_
  refine sq36 ?_
  refine sw_cond rfl (fun g1 => ?_) (fun g1 => ?_)
  · obtain rfl : l = [] := by cases l with | nil => rfl | cons x t => simp at g1; omega
    refine sq29 ?_
    rw [show vs ++ secB no ([] : List FT) pt = vs by simp [secB]]
    apply aend; exact resT
    · exact ⟨q, rfl, rfl⟩
    · exact stleT
  have hs : secB no l pt = [no] ++ uB (vecB l pt).length ++ vecB l pt := by unfold secB; rw [if_neg (by intro e; rw [List.isEmpty_iff.1 e] at g1; simp at g1)]; simp
  rw [hs]
  refine sq8 ?_
  refine cw [] Tryz.call157 (nvec_ft hf hB l hok hl hb) rfl argsleT stleT ?_
  rintro _ σ' ⟨r16, rfl, rfl⟩ h16
  replace h16 := cnewT h16; repeat rcases h16 with ⟨_, h16⟩
  apply rs_sto; exact nflT
  refine sq2 ?_
  generalize vecB l pt = P at hvl hub ⊢
  refine sq13 ?_
  refine z0 ?_
  refine z1 ?_; refine freshT fun r20 h20 => ?_; repeat rcases h20 with ⟨_, h20⟩
  refine apA ((vs ++ [no]).map encU) (vs ++ [no]).length ?_
  refine apnT fun r21 h21 => ?_; repeat rcases h21 with ⟨_, h21⟩
  refine sq76 ?_
  refine cw [(r21, .arr 5 1 ((vs ++ [no]).map encU))] Tryz.call83 (wasm_num r21 (vs ++ [no]) (by simp; omega) P.length (by omega)) rfl argsleT stleT ?_
  rintro _ σ' ⟨r24, rfl, rfl⟩ h24
  have k24 := rest1T h24; repeat rcases k24 with ⟨_, k24⟩
  apply rs_sto; exact nflT
  refine lo (lop_move (E rfl)) rfl ?_
  refine apA ((vs ++ [no] ++ uB P.length ++ P).map encU) (vs ++ [no] ++ uB P.length ++ P).length ?_
  refine apnT fun r26 h26 => ?_; repeat rcases h26 with ⟨_, h26⟩
  refine sq2 ?_
  rw [show vs ++ [no] ++ uB P.length ++ P = vs ++ ([no] ++ uB P.length ++ P) by simp]
  apply aend; exact resT
  · exact ⟨r26, rfl, rfl⟩
  · exact stleT
theorem sec_int {f : FuncId} {pt : Int → List Nat} {ok : Int → Prop} {c B : Nat} (hf : Puts Tryz.prog 5 f (fun n => .int .i64 n) pt ok c B) (hB : B ≤ 50000000) (q : Nat) (vs : List Nat) (no : Nat) (hno : no < 256) (l : List Int) (hok : ∀ x ∈ l, ok x) (hl : l.length ≤ 1000) (hvs : vs.length ≤ 10000000) (hb : 10 + l.length * c ≤ B) :
    SCall Tryz.prog 85 [.own q 0 vs.length, .int .i64 no, .ro 1 (l.map encI) .any, .fn (.func f) [] []] [(q, .arr 5 1 (vs.map encU))] (fun y σ => ∃ r, y = .own r 0 (vs ++ secB no l pt).length ∧ σ = [(r, .arr 5 1 ((vs ++ secB no l pt).map encU))]) := by
  have hu := uB_len 1 l.length (by omega)
  have hup := uB_pos l.length
  have hpc := flat_le hf (by omega) hok l.length
  rw [List.take_length] at hpc
  have hvl : (vecB l pt).length ≤ 50000000 := by unfold vecB; simp only [List.length_append]; omega
  have hub := uB_len 4 (vecB l pt).length (by omega)
  refine scall_of (n := 27) (ks := [0, 1, 2, 3, 8, 9, 12]) Tryz.func85 rfl rfl (Nat.le_of_ble_eq_true rfl) ?_
  refine sq32 ?_
  refine z14 ?_
  refine sq36 ?_
  refine sw_cond rfl (fun g1 => ?_) (fun g1 => ?_)
  · obtain rfl : l = [] := by cases l with | nil => rfl | cons x t => simp at g1; omega
    refine sq29 ?_
    rw [show vs ++ secB no ([] : List Int) pt = vs by simp [secB]]
    apply aend; exact resT
    · exact ⟨q, rfl, rfl⟩
    · exact stleT
  have hs : secB no l pt = [no] ++ uB (vecB l pt).length ++ vecB l pt := by unfold secB; rw [if_neg (by intro e; rw [List.isEmpty_iff.1 e] at g1; simp at g1)]; simp
  rw [hs]
  refine sq8 ?_
  refine cw [] Tryz.call79 (nvec_int hf hB l hok hl hb) rfl argsleT stleT ?_
  rintro _ σ' ⟨r16, rfl, rfl⟩ h16
  replace h16 := cnewT h16; repeat rcases h16 with ⟨_, h16⟩
  apply rs_sto; exact nflT
  refine sq2 ?_
  generalize vecB l pt = P at hvl hub ⊢
  refine sq13 ?_
  refine z0 ?_
  refine z1 ?_; refine freshT fun r20 h20 => ?_; repeat rcases h20 with ⟨_, h20⟩
  refine apA ((vs ++ [no]).map encU) (vs ++ [no]).length ?_
  refine apnT fun r21 h21 => ?_; repeat rcases h21 with ⟨_, h21⟩
  refine sq76 ?_
  refine cw [(r21, .arr 5 1 ((vs ++ [no]).map encU))] Tryz.call83 (wasm_num r21 (vs ++ [no]) (by simp; omega) P.length (by omega)) rfl argsleT stleT ?_
  rintro _ σ' ⟨r24, rfl, rfl⟩ h24
  have k24 := rest1T h24; repeat rcases k24 with ⟨_, k24⟩
  apply rs_sto; exact nflT
  refine lo (lop_move (E rfl)) rfl ?_
  refine apA ((vs ++ [no] ++ uB P.length ++ P).map encU) (vs ++ [no] ++ uB P.length ++ P).length ?_
  refine apnT fun r26 h26 => ?_; repeat rcases h26 with ⟨_, h26⟩
  refine sq2 ?_
  rw [show vs ++ [no] ++ uB P.length ++ P = vs ++ ([no] ++ uB P.length ++ P) by simp]
  apply aend; exact resT
  · exact ⟨r26, rfl, rfl⟩
  · exact stleT
theorem sec_im {f : FuncId} {pt : Im → List Nat} {ok : Im → Prop} {c B : Nat} (hf : Puts Tryz.prog 5 f (fun x => .agg (encIm x)) pt ok c B) (hB : B ≤ 50000000) (q : Nat) (vs : List Nat) (no : Nat) (hno : no < 256) (l : List Im) (hok : ∀ x ∈ l, ok x) (hl : l.length ≤ 1000) (hvs : vs.length ≤ 10000000) (hb : 10 + l.length * c ≤ B) :
    SCall Tryz.prog 81 [.own q 0 vs.length, .int .i64 no, .ro 3 (l.map encIm) .any, .fn (.func f) [] []] [(q, .arr 5 1 (vs.map encU))] (fun y σ => ∃ r, y = .own r 0 (vs ++ secB no l pt).length ∧ σ = [(r, .arr 5 1 ((vs ++ secB no l pt).map encU))]) := by
  have hu := uB_len 1 l.length (by omega)
  have hup := uB_pos l.length
  have hpc := flat_le hf (by omega) hok l.length
  rw [List.take_length] at hpc
  have hvl : (vecB l pt).length ≤ 50000000 := by unfold vecB; simp only [List.length_append]; omega
  have hub := uB_len 4 (vecB l pt).length (by omega)
  refine scall_of (n := 27) (ks := [0, 1, 2, 3, 8, 9, 12]) Tryz.func81 rfl rfl (Nat.le_of_ble_eq_true rfl) ?_
  refine sq32 ?_
  refine z14 ?_
  refine sq36 ?_
  refine sw_cond rfl (fun g1 => ?_) (fun g1 => ?_)
  · obtain rfl : l = [] := by cases l with | nil => rfl | cons x t => simp at g1; omega
    refine sq29 ?_
    rw [show vs ++ secB no ([] : List Im) pt = vs by simp [secB]]
    apply aend; exact resT
    · exact ⟨q, rfl, rfl⟩
    · exact stleT
  have hs : secB no l pt = [no] ++ uB (vecB l pt).length ++ vecB l pt := by unfold secB; rw [if_neg (by intro e; rw [List.isEmpty_iff.1 e] at g1; simp at g1)]; simp
  rw [hs]
  refine sq8 ?_
  refine cw [] Tryz.call158 (nvec_im hf hB l hok hl hb) rfl argsleT stleT ?_
  rintro _ σ' ⟨r16, rfl, rfl⟩ h16
  replace h16 := cnewT h16; repeat rcases h16 with ⟨_, h16⟩
  apply rs_sto; exact nflT
  refine sq2 ?_
  generalize vecB l pt = P at hvl hub ⊢
  refine sq13 ?_
  refine z0 ?_
  refine z1 ?_; refine freshT fun r20 h20 => ?_; repeat rcases h20 with ⟨_, h20⟩
  refine apA ((vs ++ [no]).map encU) (vs ++ [no]).length ?_
  refine apnT fun r21 h21 => ?_; repeat rcases h21 with ⟨_, h21⟩
  refine sq76 ?_
  refine cw [(r21, .arr 5 1 ((vs ++ [no]).map encU))] Tryz.call83 (wasm_num r21 (vs ++ [no]) (by simp; omega) P.length (by omega)) rfl argsleT stleT ?_
  rintro _ σ' ⟨r24, rfl, rfl⟩ h24
  have k24 := rest1T h24; repeat rcases k24 with ⟨_, k24⟩
  apply rs_sto; exact nflT
  refine lo (lop_move (E rfl)) rfl ?_
  refine apA ((vs ++ [no] ++ uB P.length ++ P).map encU) (vs ++ [no] ++ uB P.length ++ P).length ?_
  refine apnT fun r26 h26 => ?_; repeat rcases h26 with ⟨_, h26⟩
  refine sq2 ?_
  rw [show vs ++ [no] ++ uB P.length ++ P = vs ++ ([no] ++ uB P.length ++ P) by simp]
  apply aend; exact resT
  · exact ⟨r26, rfl, rfl⟩
  · exact stleT
theorem sec_li {f : FuncId} {pt : Li → List Nat} {ok : Li → Prop} {c B : Nat} (hf : Puts Tryz.prog 5 f (fun x => .agg (encLi x)) pt ok c B) (hB : B ≤ 50000000) (q : Nat) (vs : List Nat) (no : Nat) (hno : no < 256) (l : List Li) (hok : ∀ x ∈ l, ok x) (hl : l.length ≤ 1000) (hvs : vs.length ≤ 10000000) (hb : 10 + l.length * c ≤ B) :
    SCall Tryz.prog 86 [.own q 0 vs.length, .int .i64 no, .ro 3 (l.map encLi) .any, .fn (.func f) [] []] [(q, .arr 5 1 (vs.map encU))] (fun y σ => ∃ r, y = .own r 0 (vs ++ secB no l pt).length ∧ σ = [(r, .arr 5 1 ((vs ++ secB no l pt).map encU))]) := by
  have hu := uB_len 1 l.length (by omega)
  have hup := uB_pos l.length
  have hpc := flat_le hf (by omega) hok l.length
  rw [List.take_length] at hpc
  have hvl : (vecB l pt).length ≤ 50000000 := by unfold vecB; simp only [List.length_append]; omega
  have hub := uB_len 4 (vecB l pt).length (by omega)
  refine scall_of (n := 27) (ks := [0, 1, 2, 3, 8, 9, 12]) Tryz.func86 rfl rfl (Nat.le_of_ble_eq_true rfl) ?_
  refine sq32 ?_
  refine z14 ?_
  refine sq36 ?_
  refine sw_cond rfl (fun g1 => ?_) (fun g1 => ?_)
  · obtain rfl : l = [] := by cases l with | nil => rfl | cons x t => simp at g1; omega
    refine sq29 ?_
    rw [show vs ++ secB no ([] : List Li) pt = vs by simp [secB]]
    apply aend; exact resT
    · exact ⟨q, rfl, rfl⟩
    · exact stleT
  have hs : secB no l pt = [no] ++ uB (vecB l pt).length ++ vecB l pt := by unfold secB; rw [if_neg (by intro e; rw [List.isEmpty_iff.1 e] at g1; simp at g1)]; simp
  rw [hs]
  refine sq8 ?_
  refine cw [] Tryz.call160 (nvec_li hf hB l hok hl hb) rfl argsleT stleT ?_
  rintro _ σ' ⟨r16, rfl, rfl⟩ h16
  replace h16 := cnewT h16; repeat rcases h16 with ⟨_, h16⟩
  apply rs_sto; exact nflT
  refine sq2 ?_
  generalize vecB l pt = P at hvl hub ⊢
  refine sq13 ?_
  refine z0 ?_
  refine z1 ?_; refine freshT fun r20 h20 => ?_; repeat rcases h20 with ⟨_, h20⟩
  refine apA ((vs ++ [no]).map encU) (vs ++ [no]).length ?_
  refine apnT fun r21 h21 => ?_; repeat rcases h21 with ⟨_, h21⟩
  refine sq76 ?_
  refine cw [(r21, .arr 5 1 ((vs ++ [no]).map encU))] Tryz.call83 (wasm_num r21 (vs ++ [no]) (by simp; omega) P.length (by omega)) rfl argsleT stleT ?_
  rintro _ σ' ⟨r24, rfl, rfl⟩ h24
  have k24 := rest1T h24; repeat rcases k24 with ⟨_, k24⟩
  apply rs_sto; exact nflT
  refine lo (lop_move (E rfl)) rfl ?_
  refine apA ((vs ++ [no] ++ uB P.length ++ P).map encU) (vs ++ [no] ++ uB P.length ++ P).length ?_
  refine apnT fun r26 h26 => ?_; repeat rcases h26 with ⟨_, h26⟩
  refine sq2 ?_
  rw [show vs ++ [no] ++ uB P.length ++ P = vs ++ ([no] ++ uB P.length ++ P) by simp]
  apply aend; exact resT
  · exact ⟨r26, rfl, rfl⟩
  · exact stleT
theorem sec_gl {f : FuncId} {pt : Gl → List Nat} {ok : Gl → Prop} {c B : Nat} (hf : Puts Tryz.prog 5 f (fun x => .agg (encGl x)) pt ok c B) (hB : B ≤ 50000000) (q : Nat) (vs : List Nat) (no : Nat) (hno : no < 256) (l : List Gl) (hok : ∀ x ∈ l, ok x) (hl : l.length ≤ 1000) (hvs : vs.length ≤ 10000000) (hb : 10 + l.length * c ≤ B) :
    SCall Tryz.prog 90 [.own q 0 vs.length, .int .i64 no, .ro 3 (l.map encGl) .any, .fn (.func f) [] []] [(q, .arr 5 1 (vs.map encU))] (fun y σ => ∃ r, y = .own r 0 (vs ++ secB no l pt).length ∧ σ = [(r, .arr 5 1 ((vs ++ secB no l pt).map encU))]) := by
  have hu := uB_len 1 l.length (by omega)
  have hup := uB_pos l.length
  have hpc := flat_le hf (by omega) hok l.length
  rw [List.take_length] at hpc
  have hvl : (vecB l pt).length ≤ 50000000 := by unfold vecB; simp only [List.length_append]; omega
  have hub := uB_len 4 (vecB l pt).length (by omega)
  refine scall_of (n := 27) (ks := [0, 1, 2, 3, 8, 9, 12]) Tryz.func90 rfl rfl (Nat.le_of_ble_eq_true rfl) ?_
  refine sq32 ?_
  refine z14 ?_
  refine sq36 ?_
  refine sw_cond rfl (fun g1 => ?_) (fun g1 => ?_)
  · obtain rfl : l = [] := by cases l with | nil => rfl | cons x t => simp at g1; omega
    refine sq29 ?_
    rw [show vs ++ secB no ([] : List Gl) pt = vs by simp [secB]]
    apply aend; exact resT
    · exact ⟨q, rfl, rfl⟩
    · exact stleT
  have hs : secB no l pt = [no] ++ uB (vecB l pt).length ++ vecB l pt := by unfold secB; rw [if_neg (by intro e; rw [List.isEmpty_iff.1 e] at g1; simp at g1)]; simp
  rw [hs]
  refine sq8 ?_
  refine cw [] Tryz.call161 (nvec_gl hf hB l hok hl hb) rfl argsleT stleT ?_
  rintro _ σ' ⟨r16, rfl, rfl⟩ h16
  replace h16 := cnewT h16; repeat rcases h16 with ⟨_, h16⟩
  apply rs_sto; exact nflT
  refine sq2 ?_
  generalize vecB l pt = P at hvl hub ⊢
  refine sq13 ?_
  refine z0 ?_
  refine z1 ?_; refine freshT fun r20 h20 => ?_; repeat rcases h20 with ⟨_, h20⟩
  refine apA ((vs ++ [no]).map encU) (vs ++ [no]).length ?_
  refine apnT fun r21 h21 => ?_; repeat rcases h21 with ⟨_, h21⟩
  refine sq76 ?_
  refine cw [(r21, .arr 5 1 ((vs ++ [no]).map encU))] Tryz.call83 (wasm_num r21 (vs ++ [no]) (by simp; omega) P.length (by omega)) rfl argsleT stleT ?_
  rintro _ σ' ⟨r24, rfl, rfl⟩ h24
  have k24 := rest1T h24; repeat rcases k24 with ⟨_, k24⟩
  apply rs_sto; exact nflT
  refine lo (lop_move (E rfl)) rfl ?_
  refine apA ((vs ++ [no] ++ uB P.length ++ P).map encU) (vs ++ [no] ++ uB P.length ++ P).length ?_
  refine apnT fun r26 h26 => ?_; repeat rcases h26 with ⟨_, h26⟩
  refine sq2 ?_
  rw [show vs ++ [no] ++ uB P.length ++ P = vs ++ ([no] ++ uB P.length ++ P) by simp]
  apply aend; exact resT
  · exact ⟨r26, rfl, rfl⟩
  · exact stleT
theorem sec_ex {f : FuncId} {pt : Ex → List Nat} {ok : Ex → Prop} {c B : Nat} (hf : Puts Tryz.prog 5 f (fun x => .agg (encEx x)) pt ok c B) (hB : B ≤ 50000000) (q : Nat) (vs : List Nat) (no : Nat) (hno : no < 256) (l : List Ex) (hok : ∀ x ∈ l, ok x) (hl : l.length ≤ 1000) (hvs : vs.length ≤ 10000000) (hb : 10 + l.length * c ≤ B) :
    SCall Tryz.prog 93 [.own q 0 vs.length, .int .i64 no, .ro 2 (l.map encEx) .any, .fn (.func f) [] []] [(q, .arr 5 1 (vs.map encU))] (fun y σ => ∃ r, y = .own r 0 (vs ++ secB no l pt).length ∧ σ = [(r, .arr 5 1 ((vs ++ secB no l pt).map encU))]) := by
  have hu := uB_len 1 l.length (by omega)
  have hup := uB_pos l.length
  have hpc := flat_le hf (by omega) hok l.length
  rw [List.take_length] at hpc
  have hvl : (vecB l pt).length ≤ 50000000 := by unfold vecB; simp only [List.length_append]; omega
  have hub := uB_len 4 (vecB l pt).length (by omega)
  refine scall_of (n := 27) (ks := [0, 1, 2, 3, 8, 9, 12]) Tryz.func93 rfl rfl (Nat.le_of_ble_eq_true rfl) ?_
  refine sq32 ?_
  refine z14 ?_
  refine sq36 ?_
  refine sw_cond rfl (fun g1 => ?_) (fun g1 => ?_)
  · obtain rfl : l = [] := by cases l with | nil => rfl | cons x t => simp at g1; omega
    refine sq29 ?_
    rw [show vs ++ secB no ([] : List Ex) pt = vs by simp [secB]]
    apply aend; exact resT
    · exact ⟨q, rfl, rfl⟩
    · exact stleT
  have hs : secB no l pt = [no] ++ uB (vecB l pt).length ++ vecB l pt := by unfold secB; rw [if_neg (by intro e; rw [List.isEmpty_iff.1 e] at g1; simp at g1)]; simp
  rw [hs]
  refine sq8 ?_
  refine cw [] Tryz.call163 (nvec_ex hf hB l hok hl hb) rfl argsleT stleT ?_
  rintro _ σ' ⟨r16, rfl, rfl⟩ h16
  replace h16 := cnewT h16; repeat rcases h16 with ⟨_, h16⟩
  apply rs_sto; exact nflT
  refine sq2 ?_
  generalize vecB l pt = P at hvl hub ⊢
  refine sq13 ?_
  refine z0 ?_
  refine z1 ?_; refine freshT fun r20 h20 => ?_; repeat rcases h20 with ⟨_, h20⟩
  refine apA ((vs ++ [no]).map encU) (vs ++ [no]).length ?_
  refine apnT fun r21 h21 => ?_; repeat rcases h21 with ⟨_, h21⟩
  refine sq76 ?_
  refine cw [(r21, .arr 5 1 ((vs ++ [no]).map encU))] Tryz.call83 (wasm_num r21 (vs ++ [no]) (by simp; omega) P.length (by omega)) rfl argsleT stleT ?_
  rintro _ σ' ⟨r24, rfl, rfl⟩ h24
  have k24 := rest1T h24; repeat rcases k24 with ⟨_, k24⟩
  apply rs_sto; exact nflT
  refine lo (lop_move (E rfl)) rfl ?_
  refine apA ((vs ++ [no] ++ uB P.length ++ P).map encU) (vs ++ [no] ++ uB P.length ++ P).length ?_
  refine apnT fun r26 h26 => ?_; repeat rcases h26 with ⟨_, h26⟩
  refine sq2 ?_
  rw [show vs ++ [no] ++ uB P.length ++ P = vs ++ ([no] ++ uB P.length ++ P) by simp]
  apply aend; exact resT
  · exact ⟨r26, rfl, rfl⟩
  · exact stleT
theorem sec_el {f : FuncId} {pt : El → List Nat} {ok : El → Prop} {c B : Nat} (hf : Puts Tryz.prog 5 f (fun x => .agg (encEl x)) pt ok c B) (hB : B ≤ 50000000) (q : Nat) (vs : List Nat) (no : Nat) (hno : no < 256) (l : List El) (hok : ∀ x ∈ l, ok x) (hl : l.length ≤ 1000) (hvs : vs.length ≤ 10000000) (hb : 10 + l.length * c ≤ B) :
    SCall Tryz.prog 95 [.own q 0 vs.length, .int .i64 no, .ro 2 (l.map encEl) .any, .fn (.func f) [] []] [(q, .arr 5 1 (vs.map encU))] (fun y σ => ∃ r, y = .own r 0 (vs ++ secB no l pt).length ∧ σ = [(r, .arr 5 1 ((vs ++ secB no l pt).map encU))]) := by
  have hu := uB_len 1 l.length (by omega)
  have hup := uB_pos l.length
  have hpc := flat_le hf (by omega) hok l.length
  rw [List.take_length] at hpc
  have hvl : (vecB l pt).length ≤ 50000000 := by unfold vecB; simp only [List.length_append]; omega
  have hub := uB_len 4 (vecB l pt).length (by omega)
  refine scall_of (n := 27) (ks := [0, 1, 2, 3, 8, 9, 12]) Tryz.func95 rfl rfl (Nat.le_of_ble_eq_true rfl) ?_
  refine sq32 ?_
  refine z14 ?_
  refine sq36 ?_
  refine sw_cond rfl (fun g1 => ?_) (fun g1 => ?_)
  · obtain rfl : l = [] := by cases l with | nil => rfl | cons x t => simp at g1; omega
    refine sq29 ?_
    rw [show vs ++ secB no ([] : List El) pt = vs by simp [secB]]
    apply aend; exact resT
    · exact ⟨q, rfl, rfl⟩
    · exact stleT
  have hs : secB no l pt = [no] ++ uB (vecB l pt).length ++ vecB l pt := by unfold secB; rw [if_neg (by intro e; rw [List.isEmpty_iff.1 e] at g1; simp at g1)]; simp
  rw [hs]
  refine sq8 ?_
  refine cw [] Tryz.call164 (nvec_el hf hB l hok hl hb) rfl argsleT stleT ?_
  rintro _ σ' ⟨r16, rfl, rfl⟩ h16
  replace h16 := cnewT h16; repeat rcases h16 with ⟨_, h16⟩
  apply rs_sto; exact nflT
  refine sq2 ?_
  generalize vecB l pt = P at hvl hub ⊢
  refine sq13 ?_
  refine z0 ?_
  refine z1 ?_; refine freshT fun r20 h20 => ?_; repeat rcases h20 with ⟨_, h20⟩
  refine apA ((vs ++ [no]).map encU) (vs ++ [no]).length ?_
  refine apnT fun r21 h21 => ?_; repeat rcases h21 with ⟨_, h21⟩
  refine sq76 ?_
  refine cw [(r21, .arr 5 1 ((vs ++ [no]).map encU))] Tryz.call83 (wasm_num r21 (vs ++ [no]) (by simp; omega) P.length (by omega)) rfl argsleT stleT ?_
  rintro _ σ' ⟨r24, rfl, rfl⟩ h24
  have k24 := rest1T h24; repeat rcases k24 with ⟨_, k24⟩
  apply rs_sto; exact nflT
  refine lo (lop_move (E rfl)) rfl ?_
  refine apA ((vs ++ [no] ++ uB P.length ++ P).map encU) (vs ++ [no] ++ uB P.length ++ P).length ?_
  refine apnT fun r26 h26 => ?_; repeat rcases h26 with ⟨_, h26⟩
  refine sq2 ?_
  rw [show vs ++ [no] ++ uB P.length ++ P = vs ++ ([no] ++ uB P.length ++ P) by simp]
  apply aend; exact resT
  · exact ⟨r26, rfl, rfl⟩
  · exact stleT
theorem sec_co {f : FuncId} {pt : Co → List Nat} {ok : Co → Prop} {c B : Nat} (hf : Puts Tryz.prog 5 f (fun x => .agg (encCo x)) pt ok c B) (hB : B ≤ 50000000) (q : Nat) (vs : List Nat) (no : Nat) (hno : no < 256) (l : List Co) (hok : ∀ x ∈ l, ok x) (hl : l.length ≤ 1000) (hvs : vs.length ≤ 10000000) (hb : 10 + l.length * c ≤ B) :
    SCall Tryz.prog 98 [.own q 0 vs.length, .int .i64 no, .ro 2 (l.map encCo) .any, .fn (.func f) [] []] [(q, .arr 5 1 (vs.map encU))] (fun y σ => ∃ r, y = .own r 0 (vs ++ secB no l pt).length ∧ σ = [(r, .arr 5 1 ((vs ++ secB no l pt).map encU))]) := by
  have hu := uB_len 1 l.length (by omega)
  have hup := uB_pos l.length
  have hpc := flat_le hf (by omega) hok l.length
  rw [List.take_length] at hpc
  have hvl : (vecB l pt).length ≤ 50000000 := by unfold vecB; simp only [List.length_append]; omega
  have hub := uB_len 4 (vecB l pt).length (by omega)
  refine scall_of (n := 27) (ks := [0, 1, 2, 3, 8, 9, 12]) Tryz.func98 rfl rfl (Nat.le_of_ble_eq_true rfl) ?_
  refine sq32 ?_
  refine z14 ?_
  refine sq36 ?_
  refine sw_cond rfl (fun g1 => ?_) (fun g1 => ?_)
  · obtain rfl : l = [] := by cases l with | nil => rfl | cons x t => simp at g1; omega
    refine sq29 ?_
    rw [show vs ++ secB no ([] : List Co) pt = vs by simp [secB]]
    apply aend; exact resT
    · exact ⟨q, rfl, rfl⟩
    · exact stleT
  have hs : secB no l pt = [no] ++ uB (vecB l pt).length ++ vecB l pt := by unfold secB; rw [if_neg (by intro e; rw [List.isEmpty_iff.1 e] at g1; simp at g1)]; simp
  rw [hs]
  refine sq8 ?_
  refine cw [] Tryz.call165 (nvec_co hf hB l hok hl hb) rfl argsleT stleT ?_
  rintro _ σ' ⟨r16, rfl, rfl⟩ h16
  replace h16 := cnewT h16; repeat rcases h16 with ⟨_, h16⟩
  apply rs_sto; exact nflT
  refine sq2 ?_
  generalize vecB l pt = P at hvl hub ⊢
  refine sq13 ?_
  refine z0 ?_
  refine z1 ?_; refine freshT fun r20 h20 => ?_; repeat rcases h20 with ⟨_, h20⟩
  refine apA ((vs ++ [no]).map encU) (vs ++ [no]).length ?_
  refine apnT fun r21 h21 => ?_; repeat rcases h21 with ⟨_, h21⟩
  refine sq76 ?_
  refine cw [(r21, .arr 5 1 ((vs ++ [no]).map encU))] Tryz.call83 (wasm_num r21 (vs ++ [no]) (by simp; omega) P.length (by omega)) rfl argsleT stleT ?_
  rintro _ σ' ⟨r24, rfl, rfl⟩ h24
  have k24 := rest1T h24; repeat rcases k24 with ⟨_, k24⟩
  apply rs_sto; exact nflT
  refine lo (lop_move (E rfl)) rfl ?_
  refine apA ((vs ++ [no] ++ uB P.length ++ P).map encU) (vs ++ [no] ++ uB P.length ++ P).length ?_
  refine apnT fun r26 h26 => ?_; repeat rcases h26 with ⟨_, h26⟩
  refine sq2 ?_
  rw [show vs ++ [no] ++ uB P.length ++ P = vs ++ ([no] ++ uB P.length ++ P) by simp]
  apply aend; exact resT
  · exact ⟨r26, rfl, rfl⟩
  · exact stleT
theorem sec_da {f : FuncId} {pt : Da → List Nat} {ok : Da → Prop} {c B : Nat} (hf : Puts Tryz.prog 5 f (fun x => .agg (encDa x)) pt ok c B) (hB : B ≤ 50000000) (q : Nat) (vs : List Nat) (no : Nat) (hno : no < 256) (l : List Da) (hok : ∀ x ∈ l, ok x) (hl : l.length ≤ 1000) (hvs : vs.length ≤ 10000000) (hb : 10 + l.length * c ≤ B) :
    SCall Tryz.prog 100 [.own q 0 vs.length, .int .i64 no, .ro 2 (l.map encDa) .any, .fn (.func f) [] []] [(q, .arr 5 1 (vs.map encU))] (fun y σ => ∃ r, y = .own r 0 (vs ++ secB no l pt).length ∧ σ = [(r, .arr 5 1 ((vs ++ secB no l pt).map encU))]) := by
  have hu := uB_len 1 l.length (by omega)
  have hup := uB_pos l.length
  have hpc := flat_le hf (by omega) hok l.length
  rw [List.take_length] at hpc
  have hvl : (vecB l pt).length ≤ 50000000 := by unfold vecB; simp only [List.length_append]; omega
  have hub := uB_len 4 (vecB l pt).length (by omega)
  refine scall_of (n := 27) (ks := [0, 1, 2, 3, 8, 9, 12]) Tryz.func100 rfl rfl (Nat.le_of_ble_eq_true rfl) ?_
  refine sq32 ?_
  refine z14 ?_
  refine sq36 ?_
  refine sw_cond rfl (fun g1 => ?_) (fun g1 => ?_)
  · obtain rfl : l = [] := by cases l with | nil => rfl | cons x t => simp at g1; omega
    refine sq29 ?_
    rw [show vs ++ secB no ([] : List Da) pt = vs by simp [secB]]
    apply aend; exact resT
    · exact ⟨q, rfl, rfl⟩
    · exact stleT
  have hs : secB no l pt = [no] ++ uB (vecB l pt).length ++ vecB l pt := by unfold secB; rw [if_neg (by intro e; rw [List.isEmpty_iff.1 e] at g1; simp at g1)]; simp
  rw [hs]
  refine sq8 ?_
  refine cw [] Tryz.call169 (nvec_da hf hB l hok hl hb) rfl argsleT stleT ?_
  rintro _ σ' ⟨r16, rfl, rfl⟩ h16
  replace h16 := cnewT h16; repeat rcases h16 with ⟨_, h16⟩
  apply rs_sto; exact nflT
  refine sq2 ?_
  generalize vecB l pt = P at hvl hub ⊢
  refine sq13 ?_
  refine z0 ?_
  refine z1 ?_; refine freshT fun r20 h20 => ?_; repeat rcases h20 with ⟨_, h20⟩
  refine apA ((vs ++ [no]).map encU) (vs ++ [no]).length ?_
  refine apnT fun r21 h21 => ?_; repeat rcases h21 with ⟨_, h21⟩
  refine sq76 ?_
  refine cw [(r21, .arr 5 1 ((vs ++ [no]).map encU))] Tryz.call83 (wasm_num r21 (vs ++ [no]) (by simp; omega) P.length (by omega)) rfl argsleT stleT ?_
  rintro _ σ' ⟨r24, rfl, rfl⟩ h24
  have k24 := rest1T h24; repeat rcases k24 with ⟨_, k24⟩
  apply rs_sto; exact nflT
  refine lo (lop_move (E rfl)) rfl ?_
  refine apA ((vs ++ [no] ++ uB P.length ++ P).map encU) (vs ++ [no] ++ uB P.length ++ P).length ?_
  refine apnT fun r26 h26 => ?_; repeat rcases h26 with ⟨_, h26⟩
  refine sq2 ?_
  rw [show vs ++ [no] ++ uB P.length ++ P = vs ++ ([no] ++ uB P.length ++ P) by simp]
  apply aend; exact resT
  · exact ⟨r26, rfl, rfl⟩
  · exact stleT
end Go.Proofs.YtfihcehdoikfkaaGreat
