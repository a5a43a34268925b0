/-
  Get, in the document's words.
-/
import Derived.Test.YtkjfflabapeidaaInstrI
namespace Go.Proofs.Ytkjfflabapeidaa
open Go.RowKit Go.ChangeShapes Go.WideShapes Go.ChangeAt Go.Deep
set_option linter.unusedSimpArgs false
set_option linter.unusedVariables false
attribute [local irreducible] SW RS RD AThen ABlock

def rfK (l : List Nat) (n : Nat) (e : Int) : Int × Nat × Int :=
  if (((rdB l n e).1 : Int) == 127) = true then (1, (rdB l n e).2.1, (rdB l n e).2.2) else if (((rdB l n e).1 : Int) == 126) = true then (2, (rdB l n e).2.1, (rdB l n e).2.2)
  else if (((rdB l n e).1 : Int) == 64) = true then (0, (rdB l n e).2.1, (rdB l n e).2.2) else if ((rdB l n e).2.2 == 0) = true then (0, (rdB l n e).2.1, 1) else (0, (rdB l n e).2.1, (rdB l n e).2.2)
def rfL (l : List Nat) : Nat → Nat → Int → List Int × Nat × Int
  | 0, n, e => ([], n, e)
  | m + 1, n, e => (((rfL l m n e).1 ++ [((rfU l 1000 (rfL l m n e).2.1 (rfL l m n e).2.2).1 : Int)]), (rfU l 1000 (rfL l m n e).2.1 (rfL l m n e).2.2).2)
def getF (l : List Nat) (op : Int) (n : Nat) (e : Int) : Ins × Nat × Int :=
  if (formN op == 2) = true then fin ⟨op, (rfK l n e).1, 0, []⟩ (rfK l n e).2.1 (rfK l n e).2.2
  else if (formN op == 3) = true then fin ⟨op, (rfU l 1000 n e).1, 0, []⟩ (rfU l 1000 n e).2.1 (rfU l 1000 n e).2.2
  else if (formN op == 5) = true then fin ⟨op, (rfU l 1000 n e).1, 0, []⟩ (rdZ l (rfU l 1000 n e).2.1 (rfU l 1000 n e).2.2).1 (rdZ l (rfU l 1000 n e).2.1 (rfU l 1000 n e).2.2).2
  else if (formN op == 4) = true then
    let u := rfU l 50 n e
    let w := rfL l u.1 u.2.1 u.2.2
    let v := rfU l 1000 w.2.1 w.2.2
    fin ⟨op, v.1, 0, w.1⟩ v.2.1 v.2.2
  else if (formN op == 6) = true then
    let u := rfU l 3 n e
    let v := rfU l 4294967295 u.2.1 u.2.2
    fin ⟨op, u.1, v.1, []⟩ v.2.1 v.2.2
  else if (formN op == 7) = true then fin ⟨op, 0, 0, []⟩ (rdZ l n e).1 (rdZ l n e).2
  else if (formN op == 8) = true then fin ⟨op, (rfS l 32 n e).1, 0, []⟩ (rfS l 32 n e).2.1 (rfS l 32 n e).2.2
  else if (formN op == 9) = true then fin ⟨op, (rfS l 64 n e).1, 0, []⟩ (rfS l 64 n e).2.1 (rfS l 64 n e).2.2
  else fin ⟨op, 0, 0, []⟩ n e
def getR (l : List Nat) : Ins × Nat × Int :=
  if (if ((rdB l 0 0).2.2 == 0) = true then (formN ((rdB l 0 0).1 : Nat) == 0) else false) = true then (ins0, 0, 1)
  else getF l ((rdB l 0 0).1 : Nat) (rdB l 0 0).2.1 (rdB l 0 0).2.2
theorem rfU_bd {l : List Nat} {lim : Int} {n : Nat} {e : Int} (h : n ≤ l.length) : (rfU l lim n e).2.1 ≤ l.length := by
  have h1 := (getU_bd (l.drop n)).2.1
  rw [List.length_drop] at h1
  unfold rfU
  repeat' split
  all_goals first | exact h | (simp; omega)
theorem rfU_err {l : List Nat} {lim : Int} {n : Nat} {e : Int} (h : (e != 0) = true) : rfU l lim n e = (0, n, e) := by unfold rfU; rw [if_pos h]
theorem rfU_32 (l : List Nat) (lim : Int) (n : Nat) (e : Int) : (rfU l lim n e).1 < 4294967296 := by
  have h1 := (getU_bd (l.drop n)).1
  unfold rfU
  repeat' split
  all_goals first | exact h1 | (show (0 : Nat) < _; omega)
theorem rfL_err {l : List Nat} {n : Nat} {e : Int} {j : Nat} : ∀ {m : Nat}, j ≤ m → ((rfL l j n e).2.2 != 0) = true → (rfL l m n e).2 = (rfL l j n e).2
  | 0, h, _ => by rw [show j = 0 by omega]
  | m + 1, h, h0 => by
    by_cases hj : j = m + 1
    · rw [hj]
    · have ih := rfL_err (m := m) (by omega) h0
      rw [rfL]
      show (rfU l 1000 (rfL l m n e).2.1 (rfL l m n e).2.2).2 = _
      rw [ih, rfU_err h0]
theorem rfL_bd {l : List Nat} : ∀ {m n : Nat} {e : Int}, n ≤ l.length → (rfL l m n e).2.1 ≤ l.length
  | 0, _, _, h => h
  | _ + 1, _, _, h => rfU_bd (rfL_bd h)
theorem rfL_len {l : List Nat} : ∀ {m n : Nat} {e : Int}, (rfL l m n e).1.length = m
  | 0, _, _ => rfl
  | m + 1, n, e => by rw [rfL]; simp [rfL_len (m := m)]
theorem rdB_256 {l : List Nat} (hlt : ∀ x ∈ l, x < 256) (n : Nat) (e : Int) : (rdB l n e).1 < 256 := by
  unfold rdB
  repeat' split
  all_goals first | exact getB_lt hlt n | (show (0 : Nat) < 256; omega)
set_option maxHeartbeats 1000000 in
set_option maxRecDepth 100000 in
theorem ref_getInstr (l : List Nat) (hl : l.length ≤ 1000000) (hlt : ∀ x ∈ l, x < 256) : SCall Try.prog 55 [.ro 1 (l.map encU) .any] []
    (fun y σ => ∃ q, y = .tup [.agg (io q (getR l).1), .int .i64 ((getR l).2.1 : Nat), .int .i64 (getR l).2.2] ∧ σ = [(q, .arr 3 1 ((getR l).1.l.map encI))]) := by
  refine scall_of (n := 128) (ks := [0, 2, 3, 4, 5, 6, 7, 8, 26, 32, 33, 36, 41, 45, 48, 51, 53, 58, 65, 78, 91, 99, 103, 108, 117]) Try.func55 rfl rfl (Nat.le_of_ble_eq_true rfl) ?_
  (refine ctlT ?_)
  refine rgT ?_
  apply al; rfl; (exact zcT); refine freshT fun r2 h2 => ?_; (repeat (rcases h2 with ⟨_, h2⟩))
  refine lo (lop_assign (E rfl)) rfl ?_
  refine lo (lop_assign (E rfl)) rfl ?_
  refine leT ?_
  (refine ctlT ?_)
  refine rgT ?_
  refine lo (lop_move (E rfl)) rfl ?_
  refine z93 ?_
  apply bx; rfl; rfl; (exact zcT); rfl; refine freshT fun r11 h11 => ?_; (repeat (rcases h11 with ⟨_, h11⟩))
  refine lo (lop_assign (E rfl)) rfl ?_
  refine leT ?_
  (refine ctlT ?_)
  refine rgT ?_
  refine lo (lop_move (E rfl)) rfl ?_
  refine cw [(r11, .box 100 (rv l (0) (0)))] Try.call65 (rfr_octet r11 l hl hlt 0 (by omega) 0) rfl ?_ ?_ ?_
  · (exact argsleT)
  · (exact stleT)
  rintro _ σ' ⟨rfl, rfl⟩ -
  (apply rs_sto; (exact nflT))
  unfold rv
  have hc256 := rdB_256 hlt 0 0
  have hn1 := rdB_bd (l := l) (n := 0) (e := 0) (by omega)
  generalize hB : rdB l 0 0 = bb at *
  obtain ⟨c, n1, e1⟩ := bb
  dsimp only at hn1 hc256 ⊢
  refine z44 ?_
  refine z93 ?_
  apply al; rfl; (exact zcT); refine freshT fun r6 h6 => ?_; (repeat (rcases h6 with ⟨_, h6⟩))
  apply stp; rfl; rfl; rfl; rfl; (exact sputT)
  refine leT ?_
  refine an ?_
  refine sw_virt_box (ks := [0, 2, 3, 4, 5, 6, 7, 8, 26, 32, 33, 36, 41, 45, 48, 51, 53, 58, 65, 78, 91, 99, 103, 108, 117]) r6 3 3 1 (by decide) sgT rfl (by decide) fun q hq => ?_
  simp only [fresh_cons, fresh_nil, and_true] at hq; (repeat (rcases hq with ⟨_, hq⟩))
  apply Exists.intro; apply And.intro; (exact ssetT)
  (refine ctlT ?_)
  rw [show ([AV.int .i64 (c : Int), .int .i64 0, .int .i64 0, .ro 0 [] .nil].set 3 (.own q 0 0)) = [.int .i64 (c : Int), .int .i64 0, .int .i64 0, .own q 0 0] from rfl]
  refine rgT ?_
  refine lo (lop_move (E rfl)) rfl ?_
  refine z76 ?_
  refine z59 ?_
  refine z60 ?_
  refine lo (lop_eql (E rfl) (E rfl)) rfl ?_
  refine lo (lop_move (E rfl)) rfl ?_
  refine z61 ?_
  refine z62 ?_
  (first | refine ln rfl rfl rfl rfl ?_ | refine lw rfl rfl (lop_no (v := .bool false)) rfl ?_ | refine pu [] Try.call27 (ref_formN (c : Int) (by omega)) rfl argsT nofT ?_ | refine pug [] rfl rfl Try.call27 (fun _ => (ref_formN (c : Int) (by omega))) rfl argsT nofT ?_ | refine puw [] rfl rfl Try.call27 (fun _ => (ref_formN (c : Int) (by omega))) rfl argsT nofT ?_)
  refine z98 ?_
  refine z7 ?_
  refine leT ?_
  (refine ctlT ?_)
  refine sw_cond rfl (fun g1 => ?_) (fun g1 => ?_)
  · (refine ctlT ?_)
    have hG : getR l = (ins0, 0, 1) := by unfold getR; rw [hB]; simp only [g1, if_true]
    have hf0 : formN (c : Int) = 0 := by have := (unsigned_yes g1).2; simpa using this
    refine rgT ?_
    refine lo (lop_move (E rfl)) rfl ?_
    refine z76 ?_
    refine z59 ?_
    apply stp; rfl; rfl; rfl; rfl; (exact sputT)
    refine leT ?_
    (refine ctlT ?_)
    refine rgT ?_
    refine z59 ?_
    refine z60 ?_
    (first | refine pu [] Try.call27 (ref_formN (c : Int) (by omega)) rfl argsT nofT ?_ | refine pug [] rfl rfl Try.call27 (fun _ => (ref_formN (c : Int) (by omega))) rfl argsT nofT ?_)
    rw [hf0]
    refine leT ?_
    (refine ctlT ?_)
    refine rgT ?_
    refine lo (lop_eql (E rfl) (E rfl)) rfl ?_
    refine lo (lop_assign (E rfl)) rfl ?_
    refine leT ?_
    (refine ctlT ?_)
    refine rgT ?_
    refine lo (lop_eql (E rfl) (E rfl)) rfl ?_
    refine lo (lop_assign (E rfl)) rfl ?_
    refine leT ?_
    (refine ctlT ?_)
    refine rgT ?_
    refine lo (lop_eql (E rfl) (E rfl)) rfl ?_
    refine lo (lop_assign (E rfl)) rfl ?_
    refine leT ?_
    (refine ctlT ?_)
    refine rgT ?_
    refine lo (lop_eql (E rfl) (E rfl)) rfl ?_
    refine lo (lop_assign (E rfl)) rfl ?_
    refine leT ?_
    (refine ctlT ?_)
    refine rgT ?_
    refine lo (lop_eql (E rfl) (E rfl)) rfl ?_
    refine lo (lop_assign (E rfl)) rfl ?_
    refine leT ?_
    (refine ctlT ?_)
    refine rgT ?_
    refine lo (lop_eql (E rfl) (E rfl)) rfl ?_
    refine lo (lop_assign (E rfl)) rfl ?_
    refine leT ?_
    (refine ctlT ?_)
    refine rgT ?_
    refine lo (lop_eql (E rfl) (E rfl)) rfl ?_
    refine lo (lop_assign (E rfl)) rfl ?_
    refine leT ?_
    (refine ctlT ?_)
    refine rgT ?_
    refine lo (lop_eql (E rfl) (E rfl)) rfl ?_
    refine lo (lop_assign (E rfl)) rfl ?_
    refine leT ?_
    (refine ctlT ?_)
    refine rgT ?_
    refine lo (lop_move (E rfl)) rfl ?_
    refine z76 ?_
    refine z59 ?_
    refine z60 ?_
    refine lo (lop_neq (E rfl) (E rfl)) rfl ?_
    refine leT ?_
    (refine ctlT ?_)
    refine rgD [(0, true), (1, true), (2, true), (3, true), (4, true), (5, false), (6, true), (7, true)] ?_
    refine z94 ?_
    refine dlo rfl (lop_move (E rfl)) rfl ?_
    refine z77 ?_
    refine z73 ?_
    refine z74 ?_
    refine z95 ?_
    refine dlo rfl (lop_assign (E rfl)) rfl ?_
    refine dlo rfl (lop_assign (E rfl)) rfl ?_
    refine deT ?_
    refine an ?_
    refine sw_virt_box (ks := [0, 2, 3, 4, 5, 6, 7, 8, 26, 32, 33, 36, 41, 45, 48, 51, 53, 58, 65, 78, 91, 99, 103, 108, 117]) r2 3 3 1 (by decide) sgT rfl (by decide) fun qz hqz => ?_
    simp only [fresh_cons, fresh_nil, and_true] at hqz; (repeat (rcases hqz with ⟨_, hqz⟩))
    apply Exists.intro; apply And.intro; (exact ssetT)
    (refine ctlT ?_)
    (apply aend; (exact resT))
    · rw [hG]; exact ⟨qz, rfl, rfl⟩
    · (exact stleT)
  (refine ctlT ?_)
  refine rgT ?_
  refine z59 ?_
  refine z60 ?_
  (first | refine ln rfl rfl rfl rfl ?_ | refine lw rfl rfl (lop_no (v := .bool false)) rfl ?_ | refine pu [] Try.call27 (ref_formN (c : Int) (by omega)) rfl argsT nofT ?_ | refine pug [] rfl rfl Try.call27 (fun _ => (ref_formN (c : Int) (by omega))) rfl argsT nofT ?_ | refine puw [] rfl rfl Try.call27 (fun _ => (ref_formN (c : Int) (by omega))) rfl argsT nofT ?_)
  refine leT ?_
  (refine ctlT ?_)
  refine rgT ?_
  refine lo (lop_eql (E rfl) (E rfl)) rfl ?_
  refine lo (lop_assign (E rfl)) rfl ?_
  refine leT ?_
  (refine ctlT ?_)
  refine sw_cond rfl (fun g2 => ?_) (fun g2 => ?_)
  · (refine ctlT ?_)
    have hb256 := rdB_256 hlt n1 e1
    refine rgT ?_
    refine lo (lop_move (E rfl)) rfl ?_
    refine cw [(r11, .box 100 (rv l (n1) (e1)))] Try.call65 (rfr_octet r11 l hl hlt n1 hn1 e1) rfl ?_ ?_ ?_
    · (exact argsleT)
    · (exact stleT)
    rintro _ σ' ⟨rfl, rfl⟩ -
    (apply rs_sto; (exact nflT))
    unfold rv
    refine leT ?_
    (refine ctlT ?_)
    refine rgT ?_
    refine lo (lop_eql (E rfl) (E rfl)) rfl ?_
    refine lo (lop_assign (E rfl)) rfl ?_
    refine leT ?_
    (refine ctlT ?_)
    refine sw_cond rfl (fun g3 => ?_) (fun g3 => ?_)
    · (refine ctlT ?_)
      have hG : getR l = fin ⟨(c : Int), 1, 0, []⟩ (rdB l n1 e1).2.1 (rdB l n1 e1).2.2 := by unfold getR getF rfK; rw [hB]; simp only [g1, g2, g3, if_true, if_false, Bool.false_eq_true]
      refine rgT ?_
      refine z59 ?_
      apply stp; rfl; rfl; rfl; rfl; (exact sputT)
      refine leT ?_
      (refine ctlT ?_)
      refine rgT ?_
      refine lo (lop_move (E rfl)) rfl ?_
      refine z76 ?_
      refine z59 ?_
      refine z60 ?_
      refine lo (lop_neq (E rfl) (E rfl)) rfl ?_
      refine leT ?_
      (refine ctlT ?_)
      refine sw_cond rfl (fun ge => ?_) (fun ge => ?_)
      · unfold fin at hG
        rw [ge] at hG
        simp only [if_true] at hG
        (refine ctlT ?_)
        refine rgD [(0, true), (1, true), (2, true), (3, true), (4, true), (5, false), (6, true), (7, true)] ?_
        refine z94 ?_
        refine dlo rfl (lop_move (E rfl)) rfl ?_
        refine z77 ?_
        refine z73 ?_
        refine z74 ?_
        refine z95 ?_
        refine dlo rfl (lop_assign (E rfl)) rfl ?_
        refine dlo rfl (lop_assign (E rfl)) rfl ?_
        refine deT ?_
        refine an ?_
        refine sw_virt_box (ks := [0, 2, 3, 4, 5, 6, 7, 8, 26, 32, 33, 36, 41, 45, 48, 51, 53, 58, 65, 78, 91, 99, 103, 108, 117]) r2 3 3 1 (by decide) sgT rfl (by decide) fun qz hqz => ?_
        simp only [fresh_cons, fresh_nil, and_true] at hqz; (repeat (rcases hqz with ⟨_, hqz⟩))
        apply Exists.intro; apply And.intro; (exact ssetT)
        (refine ctlT ?_)
        (apply aend; (exact resT))
        · rw [hG]; exact ⟨qz, rfl, rfl⟩
        · (exact stleT)
      · unfold fin at hG
        rw [ge] at hG
        simp only [Bool.false_eq_true, if_false] at hG
        (refine ctlT ?_)
        refine rgD [(0, true), (1, true), (2, true), (3, true), (4, true), (5, false), (6, true), (7, true)] ?_
        refine z96 ?_
        refine dlo rfl (lop_move (E rfl)) rfl ?_
        refine z77 ?_
        refine z73 ?_
        refine z74 ?_
        refine z95 ?_
        refine dlo rfl (lop_assign (E rfl)) rfl ?_
        refine dlo rfl (lop_assign (E rfl)) rfl ?_
        refine deT ?_
        (refine ctlT ?_)
        (apply aend; (exact resT))
        · rw [hG]; exact ⟨q, rfl, rfl⟩
        · (exact stleT)
    (refine ctlT ?_)
    refine rgT ?_
    refine lo (lop_eql (E rfl) (E rfl)) rfl ?_
    refine lo (lop_assign (E rfl)) rfl ?_
    refine leT ?_
    (refine ctlT ?_)
    refine sw_cond rfl (fun g4 => ?_) (fun g4 => ?_)
    · (refine ctlT ?_)
      have hG : getR l = fin ⟨(c : Int), 2, 0, []⟩ (rdB l n1 e1).2.1 (rdB l n1 e1).2.2 := by unfold getR getF rfK; rw [hB]; simp only [g1, g2, g3, g4, if_true, if_false, Bool.false_eq_true]
      refine rgT ?_
      refine z59 ?_
      apply stp; rfl; rfl; rfl; rfl; (exact sputT)
      refine leT ?_
      (refine ctlT ?_)
      refine rgT ?_
      refine lo (lop_move (E rfl)) rfl ?_
      refine z76 ?_
      refine z59 ?_
      refine z60 ?_
      refine lo (lop_neq (E rfl) (E rfl)) rfl ?_
      refine leT ?_
      (refine ctlT ?_)
      refine sw_cond rfl (fun ge => ?_) (fun ge => ?_)
      · unfold fin at hG
        rw [ge] at hG
        simp only [if_true] at hG
        (refine ctlT ?_)
        refine rgD [(0, true), (1, true), (2, true), (3, true), (4, true), (5, false), (6, true), (7, true)] ?_
        refine z94 ?_
        refine dlo rfl (lop_move (E rfl)) rfl ?_
        refine z77 ?_
        refine z73 ?_
        refine z74 ?_
        refine z95 ?_
        refine dlo rfl (lop_assign (E rfl)) rfl ?_
        refine dlo rfl (lop_assign (E rfl)) rfl ?_
        refine deT ?_
        refine an ?_
        refine sw_virt_box (ks := [0, 2, 3, 4, 5, 6, 7, 8, 26, 32, 33, 36, 41, 45, 48, 51, 53, 58, 65, 78, 91, 99, 103, 108, 117]) r2 3 3 1 (by decide) sgT rfl (by decide) fun qz hqz => ?_
        simp only [fresh_cons, fresh_nil, and_true] at hqz; (repeat (rcases hqz with ⟨_, hqz⟩))
        apply Exists.intro; apply And.intro; (exact ssetT)
        (refine ctlT ?_)
        (apply aend; (exact resT))
        · rw [hG]; exact ⟨qz, rfl, rfl⟩
        · (exact stleT)
      · unfold fin at hG
        rw [ge] at hG
        simp only [Bool.false_eq_true, if_false] at hG
        (refine ctlT ?_)
        refine rgD [(0, true), (1, true), (2, true), (3, true), (4, true), (5, false), (6, true), (7, true)] ?_
        refine z96 ?_
        refine dlo rfl (lop_move (E rfl)) rfl ?_
        refine z77 ?_
        refine z73 ?_
        refine z74 ?_
        refine z95 ?_
        refine dlo rfl (lop_assign (E rfl)) rfl ?_
        refine dlo rfl (lop_assign (E rfl)) rfl ?_
        refine deT ?_
        (refine ctlT ?_)
        (apply aend; (exact resT))
        · rw [hG]; exact ⟨q, rfl, rfl⟩
        · (exact stleT)
    (refine ctlT ?_)
    refine rgT ?_
    refine lo (lop_eql (E rfl) (E rfl)) rfl ?_
    refine lo (lop_assign (E rfl)) rfl ?_
    refine leT ?_
    (refine ctlT ?_)
    refine sw_cond rfl (fun g5 => ?_) (fun g5 => ?_)
    · have hG : getR l = fin ⟨(c : Int), 0, 0, []⟩ (rdB l n1 e1).2.1 (rdB l n1 e1).2.2 := by unfold getR getF rfK; rw [hB]; simp only [g1, g2, g3, g4, g5, if_true, if_false, Bool.false_eq_true]
      (refine ctlT ?_)
      refine rgT ?_
      refine lo (lop_move (E rfl)) rfl ?_
      refine z76 ?_
      refine z59 ?_
      refine z60 ?_
      refine lo (lop_neq (E rfl) (E rfl)) rfl ?_
      refine leT ?_
      (refine ctlT ?_)
      refine sw_cond rfl (fun ge => ?_) (fun ge => ?_)
      · unfold fin at hG
        rw [ge] at hG
        simp only [if_true] at hG
        (refine ctlT ?_)
        refine rgD [(0, true), (1, true), (2, true), (3, true), (4, true), (5, false), (6, true), (7, true)] ?_
        refine z94 ?_
        refine dlo rfl (lop_move (E rfl)) rfl ?_
        refine z77 ?_
        refine z73 ?_
        refine z74 ?_
        refine z95 ?_
        refine dlo rfl (lop_assign (E rfl)) rfl ?_
        refine dlo rfl (lop_assign (E rfl)) rfl ?_
        refine deT ?_
        refine an ?_
        refine sw_virt_box (ks := [0, 2, 3, 4, 5, 6, 7, 8, 26, 32, 33, 36, 41, 45, 48, 51, 53, 58, 65, 78, 91, 99, 103, 108, 117]) r2 3 3 1 (by decide) sgT rfl (by decide) fun qz hqz => ?_
        simp only [fresh_cons, fresh_nil, and_true] at hqz; (repeat (rcases hqz with ⟨_, hqz⟩))
        apply Exists.intro; apply And.intro; (exact ssetT)
        (refine ctlT ?_)
        (apply aend; (exact resT))
        · rw [hG]; exact ⟨qz, rfl, rfl⟩
        · (exact stleT)
      · unfold fin at hG
        rw [ge] at hG
        simp only [Bool.false_eq_true, if_false] at hG
        (refine ctlT ?_)
        refine rgD [(0, true), (1, true), (2, true), (3, true), (4, true), (5, false), (6, true), (7, true)] ?_
        refine z96 ?_
        refine dlo rfl (lop_move (E rfl)) rfl ?_
        refine z77 ?_
        refine z73 ?_
        refine z74 ?_
        refine z95 ?_
        refine dlo rfl (lop_assign (E rfl)) rfl ?_
        refine dlo rfl (lop_assign (E rfl)) rfl ?_
        refine deT ?_
        (refine ctlT ?_)
        (apply aend; (exact resT))
        · rw [hG]; exact ⟨q, rfl, rfl⟩
        · (exact stleT)
    · (refine ctlT ?_)
      refine rgT ?_
      refine lo (lop_move (E rfl)) rfl ?_
      refine z76 ?_
      refine z59 ?_
      refine z60 ?_
      refine lo (lop_eql (E rfl) (E rfl)) rfl ?_
      refine leT ?_
      (refine ctlT ?_)
      refine sw_cond rfl (fun g6 => ?_) (fun g6 => ?_)
      · have hG : getR l = fin ⟨(c : Int), 0, 0, []⟩ (rdB l n1 e1).2.1 1 := by unfold getR getF rfK; rw [hB]; simp only [g1, g2, g3, g4, g5, g6, if_true, if_false, Bool.false_eq_true]
        rw [show fin ⟨(c : Int), 0, 0, []⟩ (rdB l n1 e1).2.1 1 = (ins0, 0, 1) from rfl] at hG
        (refine ctlT ?_)
        refine rgT ?_
        refine lo (lop_move (E rfl)) rfl ?_
        refine z76 ?_
        refine z59 ?_
        apply stp; rfl; rfl; rfl; rfl; (exact sputT)
        refine leT ?_
        (refine ctlT ?_)
        refine rgT ?_
        refine lo (lop_move (E rfl)) rfl ?_
        refine z76 ?_
        refine z59 ?_
        refine z60 ?_
        refine lo (lop_neq (E rfl) (E rfl)) rfl ?_
        refine leT ?_
        (refine ctlT ?_)
        refine rgD [(0, true), (1, true), (2, true), (3, true), (4, true), (5, false), (6, true), (7, true)] ?_
        refine z94 ?_
        refine dlo rfl (lop_move (E rfl)) rfl ?_
        refine z77 ?_
        refine z73 ?_
        refine z74 ?_
        refine z95 ?_
        refine dlo rfl (lop_assign (E rfl)) rfl ?_
        refine dlo rfl (lop_assign (E rfl)) rfl ?_
        refine deT ?_
        refine an ?_
        refine sw_virt_box (ks := [0, 2, 3, 4, 5, 6, 7, 8, 26, 32, 33, 36, 41, 45, 48, 51, 53, 58, 65, 78, 91, 99, 103, 108, 117]) r2 3 3 1 (by decide) sgT rfl (by decide) fun qz hqz => ?_
        simp only [fresh_cons, fresh_nil, and_true] at hqz; (repeat (rcases hqz with ⟨_, hqz⟩))
        apply Exists.intro; apply And.intro; (exact ssetT)
        (refine ctlT ?_)
        (apply aend; (exact resT))
        · rw [hG]; exact ⟨qz, rfl, rfl⟩
        · (exact stleT)
      · have hG : getR l = fin ⟨(c : Int), 0, 0, []⟩ (rdB l n1 e1).2.1 (rdB l n1 e1).2.2 := by unfold getR getF rfK; rw [hB]; simp only [g1, g2, g3, g4, g5, g6, if_true, if_false, Bool.false_eq_true]
        (refine ctlT ?_)
        refine rgT ?_
        refine lo (lop_move (E rfl)) rfl ?_
        refine z76 ?_
        refine z59 ?_
        refine z60 ?_
        refine lo (lop_neq (E rfl) (E rfl)) rfl ?_
        refine leT ?_
        (refine ctlT ?_)
        refine sw_cond rfl (fun ge => ?_) (fun ge => ?_)
        · unfold fin at hG
          rw [ge] at hG
          simp only [if_true] at hG
          (refine ctlT ?_)
          refine rgD [(0, true), (1, true), (2, true), (3, true), (4, true), (5, false), (6, true), (7, true)] ?_
          refine z94 ?_
          refine dlo rfl (lop_move (E rfl)) rfl ?_
          refine z77 ?_
          refine z73 ?_
          refine z74 ?_
          refine z95 ?_
          refine dlo rfl (lop_assign (E rfl)) rfl ?_
          refine dlo rfl (lop_assign (E rfl)) rfl ?_
          refine deT ?_
          refine an ?_
          refine sw_virt_box (ks := [0, 2, 3, 4, 5, 6, 7, 8, 26, 32, 33, 36, 41, 45, 48, 51, 53, 58, 65, 78, 91, 99, 103, 108, 117]) r2 3 3 1 (by decide) sgT rfl (by decide) fun qz hqz => ?_
          simp only [fresh_cons, fresh_nil, and_true] at hqz; (repeat (rcases hqz with ⟨_, hqz⟩))
          apply Exists.intro; apply And.intro; (exact ssetT)
          (refine ctlT ?_)
          (apply aend; (exact resT))
          · rw [hG]; exact ⟨qz, rfl, rfl⟩
          · (exact stleT)
        · unfold fin at hG
          rw [ge] at hG
          simp only [Bool.false_eq_true, if_false] at hG
          (refine ctlT ?_)
          refine rgD [(0, true), (1, true), (2, true), (3, true), (4, true), (5, false), (6, true), (7, true)] ?_
          refine z96 ?_
          refine dlo rfl (lop_move (E rfl)) rfl ?_
          refine z77 ?_
          refine z73 ?_
          refine z74 ?_
          refine z95 ?_
          refine dlo rfl (lop_assign (E rfl)) rfl ?_
          refine dlo rfl (lop_assign (E rfl)) rfl ?_
          refine deT ?_
          (refine ctlT ?_)
          (apply aend; (exact resT))
          · rw [hG]; exact ⟨q, rfl, rfl⟩
          · (exact stleT)
  (refine ctlT ?_)
  refine rgT ?_
  refine lo (lop_eql (E rfl) (E rfl)) rfl ?_
  refine lo (lop_assign (E rfl)) rfl ?_
  refine leT ?_
  (refine ctlT ?_)
  refine sw_cond rfl (fun g5 => ?_) (fun g5 => ?_)
  · (refine ctlT ?_)
    have hG : getR l = fin ⟨(c : Int), (rfU l 1000 n1 e1).1, 0, []⟩ (rfU l 1000 n1 e1).2.1 (rfU l 1000 n1 e1).2.2 := by unfold getR getF; rw [hB]; simp only [g1, g2, g5, if_true, if_false, Bool.false_eq_true]
    refine rgT ?_
    refine lo (lop_move (E rfl)) rfl ?_
    refine cw [(r11, .box 100 (rv l (n1) (e1)))] Try.call66 (rfr_u r11 l hl hlt 1000 n1 hn1 e1) rfl ?_ ?_ ?_
    · (exact argsleT)
    · (exact stleT)
    rintro _ σ' ⟨rfl, rfl⟩ -
    (apply rs_sto; (exact nflT))
    unfold rv
    refine z59 ?_
    apply stp; rfl; rfl; rfl; rfl; (exact sputT)
    refine leT ?_
    (refine ctlT ?_)
    refine rgT ?_
    refine lo (lop_move (E rfl)) rfl ?_
    refine z76 ?_
    refine z59 ?_
    refine z60 ?_
    refine lo (lop_neq (E rfl) (E rfl)) rfl ?_
    refine leT ?_
    (refine ctlT ?_)
    refine sw_cond rfl (fun ge => ?_) (fun ge => ?_)
    · unfold fin at hG
      rw [ge] at hG
      simp only [if_true] at hG
      (refine ctlT ?_)
      refine rgD [(0, true), (1, true), (2, true), (3, true), (4, true), (5, false), (6, true), (7, true)] ?_
      refine z94 ?_
      refine dlo rfl (lop_move (E rfl)) rfl ?_
      refine z77 ?_
      refine z73 ?_
      refine z74 ?_
      refine z95 ?_
      refine dlo rfl (lop_assign (E rfl)) rfl ?_
      refine dlo rfl (lop_assign (E rfl)) rfl ?_
      refine deT ?_
      refine an ?_
      refine sw_virt_box (ks := [0, 2, 3, 4, 5, 6, 7, 8, 26, 32, 33, 36, 41, 45, 48, 51, 53, 58, 65, 78, 91, 99, 103, 108, 117]) r2 3 3 1 (by decide) sgT rfl (by decide) fun qz hqz => ?_
      simp only [fresh_cons, fresh_nil, and_true] at hqz; (repeat (rcases hqz with ⟨_, hqz⟩))
      apply Exists.intro; apply And.intro; (exact ssetT)
      (refine ctlT ?_)
      (apply aend; (exact resT))
      · rw [hG]; exact ⟨qz, rfl, rfl⟩
      · (exact stleT)
    · unfold fin at hG
      rw [ge] at hG
      simp only [Bool.false_eq_true, if_false] at hG
      (refine ctlT ?_)
      refine rgD [(0, true), (1, true), (2, true), (3, true), (4, true), (5, false), (6, true), (7, true)] ?_
      refine z96 ?_
      refine dlo rfl (lop_move (E rfl)) rfl ?_
      refine z77 ?_
      refine z73 ?_
      refine z74 ?_
      refine z95 ?_
      refine dlo rfl (lop_assign (E rfl)) rfl ?_
      refine dlo rfl (lop_assign (E rfl)) rfl ?_
      refine deT ?_
      (refine ctlT ?_)
      (apply aend; (exact resT))
      · rw [hG]; exact ⟨q, rfl, rfl⟩
      · (exact stleT)
  (refine ctlT ?_)
  refine rgT ?_
  refine lo (lop_eql (E rfl) (E rfl)) rfl ?_
  refine lo (lop_assign (E rfl)) rfl ?_
  refine leT ?_
  (refine ctlT ?_)
  refine sw_cond rfl (fun g6 => ?_) (fun g6 => ?_)
  · (refine ctlT ?_)
    have hG : getR l = fin ⟨(c : Int), (rfU l 1000 n1 e1).1, 0, []⟩ (rdZ l (rfU l 1000 n1 e1).2.1 (rfU l 1000 n1 e1).2.2).1 (rdZ l (rfU l 1000 n1 e1).2.1 (rfU l 1000 n1 e1).2.2).2 := by unfold getR getF; rw [hB]; simp only [g1, g2, g5, g6, if_true, if_false, Bool.false_eq_true]
    have hn2 := rfU_bd (lim := 1000) (e := e1) hn1
    refine rgT ?_
    refine lo (lop_move (E rfl)) rfl ?_
    refine cw [(r11, .box 100 (rv l (n1) (e1)))] Try.call66 (rfr_u r11 l hl hlt 1000 n1 hn1 e1) rfl ?_ ?_ ?_
    · (exact argsleT)
    · (exact stleT)
    rintro _ σ' ⟨rfl, rfl⟩ -
    (apply rs_sto; (exact nflT))
    unfold rv
    refine z59 ?_
    apply stp; rfl; rfl; rfl; rfl; (exact sputT)
    refine leT ?_
    (refine ctlT ?_)
    generalize rfU l 1000 n1 e1 = u at *
    obtain ⟨a, n2, e2⟩ := u
    dsimp only at hn2 hG ⊢
    refine rgT ?_
    refine lo (lop_move (E rfl)) rfl ?_
    refine cw [(r11, .box 100 (rv l (n2) (e2)))] Try.call67 (rfr_nought r11 l hl hlt n2 hn2 e2) rfl ?_ ?_ ?_
    · (exact argsleT)
    · (exact stleT)
    rintro _ σ' ⟨rfl, rfl⟩ -
    (apply rs_sto; (exact nflT))
    unfold rv
    refine leT ?_
    (refine ctlT ?_)
    refine rgT ?_
    refine lo (lop_move (E rfl)) rfl ?_
    refine z76 ?_
    refine z59 ?_
    refine z60 ?_
    refine lo (lop_neq (E rfl) (E rfl)) rfl ?_
    refine leT ?_
    (refine ctlT ?_)
    refine sw_cond rfl (fun ge => ?_) (fun ge => ?_)
    · unfold fin at hG
      rw [ge] at hG
      simp only [if_true] at hG
      (refine ctlT ?_)
      refine rgD [(0, true), (1, true), (2, true), (3, true), (4, true), (5, false), (6, true), (7, true)] ?_
      refine z94 ?_
      refine dlo rfl (lop_move (E rfl)) rfl ?_
      refine z77 ?_
      refine z73 ?_
      refine z74 ?_
      refine z95 ?_
      refine dlo rfl (lop_assign (E rfl)) rfl ?_
      refine dlo rfl (lop_assign (E rfl)) rfl ?_
      refine deT ?_
      refine an ?_
      refine sw_virt_box (ks := [0, 2, 3, 4, 5, 6, 7, 8, 26, 32, 33, 36, 41, 45, 48, 51, 53, 58, 65, 78, 91, 99, 103, 108, 117]) r2 3 3 1 (by decide) sgT rfl (by decide) fun qz hqz => ?_
      simp only [fresh_cons, fresh_nil, and_true] at hqz; (repeat (rcases hqz with ⟨_, hqz⟩))
      apply Exists.intro; apply And.intro; (exact ssetT)
      (refine ctlT ?_)
      (apply aend; (exact resT))
      · rw [hG]; exact ⟨qz, rfl, rfl⟩
      · (exact stleT)
    · unfold fin at hG
      rw [ge] at hG
      simp only [Bool.false_eq_true, if_false] at hG
      (refine ctlT ?_)
      refine rgD [(0, true), (1, true), (2, true), (3, true), (4, true), (5, false), (6, true), (7, true)] ?_
      refine z96 ?_
      refine dlo rfl (lop_move (E rfl)) rfl ?_
      refine z77 ?_
      refine z73 ?_
      refine z74 ?_
      refine z95 ?_
      refine dlo rfl (lop_assign (E rfl)) rfl ?_
      refine dlo rfl (lop_assign (E rfl)) rfl ?_
      refine deT ?_
      (refine ctlT ?_)
      (apply aend; (exact resT))
      · rw [hG]; exact ⟨q, rfl, rfl⟩
      · (exact stleT)
  (refine ctlT ?_)
  refine rgT ?_
  refine lo (lop_eql (E rfl) (E rfl)) rfl ?_
  refine lo (lop_assign (E rfl)) rfl ?_
  refine leT ?_
  (refine ctlT ?_)
  refine sw_cond rfl (fun g7 => ?_) (fun g7 => ?_)
  · (refine ctlT ?_)
    have hG : getR l = fin ⟨(c : Int), (rfU l 1000 (rfL l (rfU l 50 n1 e1).1 (rfU l 50 n1 e1).2.1 (rfU l 50 n1 e1).2.2).2.1 (rfL l (rfU l 50 n1 e1).1 (rfU l 50 n1 e1).2.1 (rfU l 50 n1 e1).2.2).2.2).1, 0, (rfL l (rfU l 50 n1 e1).1 (rfU l 50 n1 e1).2.1 (rfU l 50 n1 e1).2.2).1⟩ (rfU l 1000 (rfL l (rfU l 50 n1 e1).1 (rfU l 50 n1 e1).2.1 (rfU l 50 n1 e1).2.2).2.1 (rfL l (rfU l 50 n1 e1).1 (rfU l 50 n1 e1).2.1 (rfU l 50 n1 e1).2.2).2.2).2.1 (rfU l 1000 (rfL l (rfU l 50 n1 e1).1 (rfU l 50 n1 e1).2.1 (rfU l 50 n1 e1).2.2).2.1 (rfL l (rfU l 50 n1 e1).1 (rfU l 50 n1 e1).2.1 (rfU l 50 n1 e1).2.2).2.2).2.2 := by unfold getR getF; rw [hB]; simp only [g1, g2, g5, g6, g7, if_true, if_false, Bool.false_eq_true]
    have hn2 := rfU_bd (lim := 50) (e := e1) hn1
    have hm50 := rfU_32 l 50 n1 e1
    refine rgT ?_
    refine lo (lop_move (E rfl)) rfl ?_
    refine cw [(r11, .box 100 (rv l (n1) (e1)))] Try.call66 (rfr_u r11 l hl hlt 50 n1 hn1 e1) rfl ?_ ?_ ?_
    · (exact argsleT)
    · (exact stleT)
    rintro _ σ' ⟨rfl, rfl⟩ -
    (apply rs_sto; (exact nflT))
    unfold rv
    refine lo (lop_assign (E rfl)) rfl ?_
    refine leT ?_
    (refine ctlT ?_)
    refine rgT ?_
    refine lo (lop_assign (E rfl)) rfl ?_
    refine leT ?_
    (refine ctlT ?_)
    generalize rfU l 50 n1 e1 = u at *
    obtain ⟨m, n2, e2⟩ := u
    dsimp only at hn2 hm50 hG ⊢
    refine lp (β := Nat × Nat) (fun b => ⟨[(2, .ptr r2 0), (5, .ptr r11 0), (6, .ptr r6 0), (7, .int .i64 m), (8, .int .i64 b.2)], [(b.1, .arr 3 1 ((rfL l b.2 n2 e2).1.map encI)), (r6, .box 24 [.int .i64 c, .int .i64 0, .int .i64 0, .own b.1 0 (rfL l b.2 n2 e2).1.length]), (r11, .box 100 (rv l (rfL l b.2 n2 e2).2.1 (rfL l b.2 n2 e2).2.2)), (r2, .box 24 [.int .i64 0, .int .i64 0, .int .i64 0, .ro 0 [] .nil])]⟩) (fun b => (Nq b.1 r6 ∧ Nq b.1 r11 ∧ Nq b.1 r2) ∧ b.2 ≤ m) (fun b => m - b.2) (q, 0) (by (exact sgoT)) ⟨⟨by (exact nqT), by (exact nqT), by (exact nqT)⟩, Nat.zero_le _⟩ ?_
    rintro ⟨p, j⟩ ⟨⟨hp1, hp2, hp3⟩, hj⟩
    dsimp only at hp1 hp2 hp3 hj ⊢
    have hn3 := rfL_bd (m := j) (e := e2) hn2
    have hlen := rfL_len (l := l) (m := j) (n := n2) (e := e2)
    have herr := rfL_err (l := l) (n := n2) (e := e2) hj
    have hstep : rfL l (j + 1) n2 e2 = (((rfL l j n2 e2).1 ++ [((rfU l 1000 (rfL l j n2 e2).2.1 (rfL l j n2 e2).2.2).1 : Int)]), (rfU l 1000 (rfL l j n2 e2).2.1 (rfL l j n2 e2).2.2).2) := rfl
    generalize hW : rfL l j n2 e2 = w at hn3 hlen hstep herr ⊢
    obtain ⟨L, n3, e3⟩ := w
    dsimp only at hn3 hlen hstep herr ⊢
    unfold rv
    (refine ctlT ?_)
    refine rgT ?_
    refine lo (lop_move (E rfl)) rfl ?_
    refine lo (lop_move (E rfl)) rfl ?_
    refine lo (lop_lss (E rfl) (E rfl)) rfl ?_
    refine lo (lop_move (E rfl)) rfl ?_
    refine z4 ?_
    refine z91 ?_
    refine z92 ?_
    refine z62 ?_
    refine z6 ?_
    refine z7 ?_
    refine leT ?_
    (refine ctlT ?_)
    refine sw_cond rfl (fun h1 => ?_) (fun h1 => ?_)
    · have hlt2 : j < m := by
        by_cases hc : (j : Int) < m
        · omega
        · rw [decide_eq_false hc] at h1; simp at h1
      (refine ctlT ?_)
      refine rgD [(0, true), (1, true), (2, true), (3, false), (4, false), (5, false), (6, true), (7, false)] ?_
      refine z73 ?_
      refine z74 ?_
      refine dlo rfl (lop_move (E rfl)) rfl ?_
      refine dcw [(r11, .box 100 (rv l n3 e3))] rfl Try.call66 (rfr_u r11 l hl hlt 1000 n3 hn3 e3) rfl ?_ ?_ ?_ ?_
      · (exact argsleT)
      · (exact stleT)
      · (exact hbtT)
      rintro _ σ' ⟨rfl, rfl⟩ -
      (apply rd_sto; (exact nflT))
      unfold rv
      generalize rfU l 1000 n3 e3 = u at hstep ⊢
      obtain ⟨v, n4, e4⟩ := u
      dsimp only at hstep ⊢
      refine z97 ?_; refine freshT fun r85 h85 => ?_; (repeat (rcases h85 with ⟨_, h85⟩))
      apply dap (es' := (L ++ [(v : Int)]).map encI) (len' := (L ++ [(v : Int)]).length); rfl; infer_instance; infer_instance; rfl; rfl; (exact sgT)
      · simp
      · exact .inr (.inr ⟨_, _, _, _, _, rfl, sgT, by simp, rfl⟩)
      · simp [encI]
      · simp
      · simp [maxLen]; omega
      · simp; omega
      · rfl
      · (exact hbtT)
      refine apnT fun r86 h86 => ?_; (repeat (rcases h86 with ⟨_, h86⟩))
      refine z73 ?_
      refine z95 ?_
      refine deT ?_
      (refine ctlT ?_)
      refine rgT ?_
      refine lo (lop_move (E rfl)) rfl ?_
      refine z17 ?_
      refine lo (lop_assign (E rfl)) rfl ?_
      refine leT ?_
      (refine ctlT ?_)
      refine ⟨(r86, j + 1), ⟨⟨by show Nq r86 r6; (exact nqT), by show Nq r86 r11; (exact nqT), by show Nq r86 r2; (exact nqT)⟩, hlt2⟩, by show m - (j + 1) < m - j; omega, ?_⟩
      dsimp only
      rw [hstep]
      (exact sgoT)
    by_cases he3 : (e3 != 0) = true
    · rw [herr he3] at hG
      dsimp only at hG
      rw [rfU_err he3] at hG
      dsimp only at hG
      unfold fin at hG
      rw [he3] at hG
      simp only [if_true] at hG
      (refine ctlT ?_)
      refine rgT ?_
      refine lo (lop_move (E rfl)) rfl ?_
      refine cw [(r11, .box 100 (rv l (n3) (e3)))] Try.call66 (rfr_u r11 l hl hlt 1000 n3 hn3 e3) rfl ?_ ?_ ?_
      · (exact argsleT)
      · (exact stleT)
      rintro _ σ' ⟨rfl, rfl⟩ -
      (apply rs_sto; (exact nflT))
      unfold rv
      rw [rfU_err he3]
      refine z59 ?_
      apply stp; rfl; rfl; rfl; rfl; (exact sputT)
      refine leT ?_
      (refine ctlT ?_)
      refine rgT ?_
      refine lo (lop_move (E rfl)) rfl ?_
      refine z76 ?_
      refine z59 ?_
      refine z60 ?_
      refine lo (lop_neq (E rfl) (E rfl)) rfl ?_
      refine leT ?_
      (refine ctlT ?_)
      refine sw_cond rfl (fun ge => ?_) (fun ge => ?_)
      · (refine ctlT ?_)
        refine rgD [(0, true), (1, true), (2, true), (3, true), (4, true), (5, false), (6, true), (7, true)] ?_
        refine z94 ?_
        refine dlo rfl (lop_move (E rfl)) rfl ?_
        refine z77 ?_
        refine z73 ?_
        refine z74 ?_
        refine z95 ?_
        refine dlo rfl (lop_assign (E rfl)) rfl ?_
        refine dlo rfl (lop_assign (E rfl)) rfl ?_
        refine deT ?_
        refine an ?_
        refine sw_virt_box (ks := [0, 2, 3, 4, 5, 6, 7, 8, 26, 32, 33, 36, 41, 45, 48, 51, 53, 58, 65, 78, 91, 99, 103, 108, 117]) r2 3 3 1 (by decide) sgT rfl (by decide) fun qz hqz => ?_
        simp only [fresh_cons, fresh_nil, and_true] at hqz; (repeat (rcases hqz with ⟨_, hqz⟩))
        apply Exists.intro; apply And.intro; (exact ssetT)
        (refine ctlT ?_)
        (apply aend; (exact resT))
        · rw [hG]; exact ⟨qz, rfl, rfl⟩
        · (exact stleT)
      · rw [he3] at ge; cases ge
    · obtain rfl : j = m := by
        by_cases hc : (j : Int) < m
        · rw [decide_eq_true hc, if_pos rfl] at h1
          exact absurd (by simpa using h1) he3
        · omega
      rw [hW] at hG
      dsimp only at hG
      (refine ctlT ?_)
      refine rgT ?_
      refine lo (lop_move (E rfl)) rfl ?_
      refine cw [(r11, .box 100 (rv l (n3) (e3)))] Try.call66 (rfr_u r11 l hl hlt 1000 n3 hn3 e3) rfl ?_ ?_ ?_
      · (exact argsleT)
      · (exact stleT)
      rintro _ σ' ⟨rfl, rfl⟩ -
      (apply rs_sto; (exact nflT))
      unfold rv
      refine z59 ?_
      apply stp; rfl; rfl; rfl; rfl; (exact sputT)
      refine leT ?_
      (refine ctlT ?_)
      refine rgT ?_
      refine lo (lop_move (E rfl)) rfl ?_
      refine z76 ?_
      refine z59 ?_
      refine z60 ?_
      refine lo (lop_neq (E rfl) (E rfl)) rfl ?_
      refine leT ?_
      (refine ctlT ?_)
      refine sw_cond rfl (fun ge => ?_) (fun ge => ?_)
      · unfold fin at hG
        rw [ge] at hG
        simp only [if_true] at hG
        (refine ctlT ?_)
        refine rgD [(0, true), (1, true), (2, true), (3, true), (4, true), (5, false), (6, true), (7, true)] ?_
        refine z94 ?_
        refine dlo rfl (lop_move (E rfl)) rfl ?_
        refine z77 ?_
        refine z73 ?_
        refine z74 ?_
        refine z95 ?_
        refine dlo rfl (lop_assign (E rfl)) rfl ?_
        refine dlo rfl (lop_assign (E rfl)) rfl ?_
        refine deT ?_
        refine an ?_
        refine sw_virt_box (ks := [0, 2, 3, 4, 5, 6, 7, 8, 26, 32, 33, 36, 41, 45, 48, 51, 53, 58, 65, 78, 91, 99, 103, 108, 117]) r2 3 3 1 (by decide) sgT rfl (by decide) fun qz hqz => ?_
        simp only [fresh_cons, fresh_nil, and_true] at hqz; (repeat (rcases hqz with ⟨_, hqz⟩))
        apply Exists.intro; apply And.intro; (exact ssetT)
        (refine ctlT ?_)
        (apply aend; (exact resT))
        · rw [hG]; exact ⟨qz, rfl, rfl⟩
        · (exact stleT)
      · unfold fin at hG
        rw [ge] at hG
        simp only [Bool.false_eq_true, if_false] at hG
        (refine ctlT ?_)
        refine rgD [(0, true), (1, true), (2, true), (3, true), (4, true), (5, false), (6, true), (7, true)] ?_
        refine z96 ?_
        refine dlo rfl (lop_move (E rfl)) rfl ?_
        refine z77 ?_
        refine z73 ?_
        refine z74 ?_
        refine z95 ?_
        refine dlo rfl (lop_assign (E rfl)) rfl ?_
        refine dlo rfl (lop_assign (E rfl)) rfl ?_
        refine deT ?_
        (refine ctlT ?_)
        (apply aend; (exact resT))
        · rw [hG]; exact ⟨p, rfl, rfl⟩
        · (exact stleT)
  (refine ctlT ?_)
  refine rgT ?_
  refine lo (lop_eql (E rfl) (E rfl)) rfl ?_
  refine lo (lop_assign (E rfl)) rfl ?_
  refine leT ?_
  (refine ctlT ?_)
  refine sw_cond rfl (fun g8 => ?_) (fun g8 => ?_)
  · (refine ctlT ?_)
    have hG : getR l = fin ⟨(c : Int), (rfU l 3 n1 e1).1, (rfU l 4294967295 (rfU l 3 n1 e1).2.1 (rfU l 3 n1 e1).2.2).1, []⟩ (rfU l 4294967295 (rfU l 3 n1 e1).2.1 (rfU l 3 n1 e1).2.2).2.1 (rfU l 4294967295 (rfU l 3 n1 e1).2.1 (rfU l 3 n1 e1).2.2).2.2 := by unfold getR getF; rw [hB]; simp only [g1, g2, g5, g6, g7, g8, if_true, if_false, Bool.false_eq_true]
    have hn2 := rfU_bd (lim := 3) (e := e1) hn1
    refine rgT ?_
    refine lo (lop_move (E rfl)) rfl ?_
    refine cw [(r11, .box 100 (rv l (n1) (e1)))] Try.call66 (rfr_u r11 l hl hlt 3 n1 hn1 e1) rfl ?_ ?_ ?_
    · (exact argsleT)
    · (exact stleT)
    rintro _ σ' ⟨rfl, rfl⟩ -
    (apply rs_sto; (exact nflT))
    unfold rv
    refine z59 ?_
    apply stp; rfl; rfl; rfl; rfl; (exact sputT)
    refine leT ?_
    (refine ctlT ?_)
    generalize rfU l 3 n1 e1 = u at *
    obtain ⟨a, n2, e2⟩ := u
    dsimp only at hn2 hG ⊢
    refine rgT ?_
    refine lo (lop_move (E rfl)) rfl ?_
    refine cw [(r11, .box 100 (rv l (n2) (e2)))] Try.call66 (rfr_u r11 l hl hlt 4294967295 n2 hn2 e2) rfl ?_ ?_ ?_
    · (exact argsleT)
    · (exact stleT)
    rintro _ σ' ⟨rfl, rfl⟩ -
    (apply rs_sto; (exact nflT))
    unfold rv
    refine z59 ?_
    apply stp; rfl; rfl; rfl; rfl; (exact sputT)
    refine leT ?_
    (refine ctlT ?_)
    refine rgT ?_
    refine lo (lop_move (E rfl)) rfl ?_
    refine z76 ?_
    refine z59 ?_
    refine z60 ?_
    refine lo (lop_neq (E rfl) (E rfl)) rfl ?_
    refine leT ?_
    (refine ctlT ?_)
    refine sw_cond rfl (fun ge => ?_) (fun ge => ?_)
    · unfold fin at hG
      rw [ge] at hG
      simp only [if_true] at hG
      (refine ctlT ?_)
      refine rgD [(0, true), (1, true), (2, true), (3, true), (4, true), (5, false), (6, true), (7, true)] ?_
      refine z94 ?_
      refine dlo rfl (lop_move (E rfl)) rfl ?_
      refine z77 ?_
      refine z73 ?_
      refine z74 ?_
      refine z95 ?_
      refine dlo rfl (lop_assign (E rfl)) rfl ?_
      refine dlo rfl (lop_assign (E rfl)) rfl ?_
      refine deT ?_
      refine an ?_
      refine sw_virt_box (ks := [0, 2, 3, 4, 5, 6, 7, 8, 26, 32, 33, 36, 41, 45, 48, 51, 53, 58, 65, 78, 91, 99, 103, 108, 117]) r2 3 3 1 (by decide) sgT rfl (by decide) fun qz hqz => ?_
      simp only [fresh_cons, fresh_nil, and_true] at hqz; (repeat (rcases hqz with ⟨_, hqz⟩))
      apply Exists.intro; apply And.intro; (exact ssetT)
      (refine ctlT ?_)
      (apply aend; (exact resT))
      · rw [hG]; exact ⟨qz, rfl, rfl⟩
      · (exact stleT)
    · unfold fin at hG
      rw [ge] at hG
      simp only [Bool.false_eq_true, if_false] at hG
      (refine ctlT ?_)
      refine rgD [(0, true), (1, true), (2, true), (3, true), (4, true), (5, false), (6, true), (7, true)] ?_
      refine z96 ?_
      refine dlo rfl (lop_move (E rfl)) rfl ?_
      refine z77 ?_
      refine z73 ?_
      refine z74 ?_
      refine z95 ?_
      refine dlo rfl (lop_assign (E rfl)) rfl ?_
      refine dlo rfl (lop_assign (E rfl)) rfl ?_
      refine deT ?_
      (refine ctlT ?_)
      (apply aend; (exact resT))
      · rw [hG]; exact ⟨q, rfl, rfl⟩
      · (exact stleT)
  (refine ctlT ?_)
  refine rgT ?_
  refine lo (lop_eql (E rfl) (E rfl)) rfl ?_
  refine lo (lop_assign (E rfl)) rfl ?_
  refine leT ?_
  (refine ctlT ?_)
  refine sw_cond rfl (fun g9 => ?_) (fun g9 => ?_)
  · (refine ctlT ?_)
    have hG : getR l = fin ⟨(c : Int), 0, 0, []⟩ (rdZ l n1 e1).1 (rdZ l n1 e1).2 := by unfold getR getF; rw [hB]; simp only [g1, g2, g5, g6, g7, g8, g9, if_true, if_false, Bool.false_eq_true]
    refine rgT ?_
    refine lo (lop_move (E rfl)) rfl ?_
    refine cw [(r11, .box 100 (rv l (n1) (e1)))] Try.call67 (rfr_nought r11 l hl hlt n1 hn1 e1) rfl ?_ ?_ ?_
    · (exact argsleT)
    · (exact stleT)
    rintro _ σ' ⟨rfl, rfl⟩ -
    (apply rs_sto; (exact nflT))
    unfold rv
    refine leT ?_
    (refine ctlT ?_)
    refine rgT ?_
    refine lo (lop_move (E rfl)) rfl ?_
    refine z76 ?_
    refine z59 ?_
    refine z60 ?_
    refine lo (lop_neq (E rfl) (E rfl)) rfl ?_
    refine leT ?_
    (refine ctlT ?_)
    refine sw_cond rfl (fun ge => ?_) (fun ge => ?_)
    · unfold fin at hG
      rw [ge] at hG
      simp only [if_true] at hG
      (refine ctlT ?_)
      refine rgD [(0, true), (1, true), (2, true), (3, true), (4, true), (5, false), (6, true), (7, true)] ?_
      refine z94 ?_
      refine dlo rfl (lop_move (E rfl)) rfl ?_
      refine z77 ?_
      refine z73 ?_
      refine z74 ?_
      refine z95 ?_
      refine dlo rfl (lop_assign (E rfl)) rfl ?_
      refine dlo rfl (lop_assign (E rfl)) rfl ?_
      refine deT ?_
      refine an ?_
      refine sw_virt_box (ks := [0, 2, 3, 4, 5, 6, 7, 8, 26, 32, 33, 36, 41, 45, 48, 51, 53, 58, 65, 78, 91, 99, 103, 108, 117]) r2 3 3 1 (by decide) sgT rfl (by decide) fun qz hqz => ?_
      simp only [fresh_cons, fresh_nil, and_true] at hqz; (repeat (rcases hqz with ⟨_, hqz⟩))
      apply Exists.intro; apply And.intro; (exact ssetT)
      (refine ctlT ?_)
      (apply aend; (exact resT))
      · rw [hG]; exact ⟨qz, rfl, rfl⟩
      · (exact stleT)
    · unfold fin at hG
      rw [ge] at hG
      simp only [Bool.false_eq_true, if_false] at hG
      (refine ctlT ?_)
      refine rgD [(0, true), (1, true), (2, true), (3, true), (4, true), (5, false), (6, true), (7, true)] ?_
      refine z96 ?_
      refine dlo rfl (lop_move (E rfl)) rfl ?_
      refine z77 ?_
      refine z73 ?_
      refine z74 ?_
      refine z95 ?_
      refine dlo rfl (lop_assign (E rfl)) rfl ?_
      refine dlo rfl (lop_assign (E rfl)) rfl ?_
      refine deT ?_
      (refine ctlT ?_)
      (apply aend; (exact resT))
      · rw [hG]; exact ⟨q, rfl, rfl⟩
      · (exact stleT)
  (refine ctlT ?_)
  refine rgT ?_
  refine lo (lop_eql (E rfl) (E rfl)) rfl ?_
  refine lo (lop_assign (E rfl)) rfl ?_
  refine leT ?_
  (refine ctlT ?_)
  refine sw_cond rfl (fun g10 => ?_) (fun g10 => ?_)
  · (refine ctlT ?_)
    have hG : getR l = fin ⟨(c : Int), (rfS l 32 n1 e1).1, 0, []⟩ (rfS l 32 n1 e1).2.1 (rfS l 32 n1 e1).2.2 := by unfold getR getF; rw [hB]; simp only [g1, g2, g5, g6, g7, g8, g9, g10, if_true, if_false, Bool.false_eq_true]
    refine rgT ?_
    refine lo (lop_move (E rfl)) rfl ?_
    refine cw [(r11, .box 100 (rv l (n1) (e1)))] Try.call68 (rfr_s r11 l hl hlt 32 (.inl rfl) n1 hn1 e1) rfl ?_ ?_ ?_
    · (exact argsleT)
    · (exact stleT)
    rintro _ σ' ⟨rfl, rfl⟩ -
    (apply rs_sto; (exact nflT))
    unfold rv
    refine z59 ?_
    apply stp; rfl; rfl; rfl; rfl; (exact sputT)
    refine leT ?_
    (refine ctlT ?_)
    refine rgT ?_
    refine lo (lop_move (E rfl)) rfl ?_
    refine z76 ?_
    refine z59 ?_
    refine z60 ?_
    refine lo (lop_neq (E rfl) (E rfl)) rfl ?_
    refine leT ?_
    (refine ctlT ?_)
    refine sw_cond rfl (fun ge => ?_) (fun ge => ?_)
    · unfold fin at hG
      rw [ge] at hG
      simp only [if_true] at hG
      (refine ctlT ?_)
      refine rgD [(0, true), (1, true), (2, true), (3, true), (4, true), (5, false), (6, true), (7, true)] ?_
      refine z94 ?_
      refine dlo rfl (lop_move (E rfl)) rfl ?_
      refine z77 ?_
      refine z73 ?_
      refine z74 ?_
      refine z95 ?_
      refine dlo rfl (lop_assign (E rfl)) rfl ?_
      refine dlo rfl (lop_assign (E rfl)) rfl ?_
      refine deT ?_
      refine an ?_
      refine sw_virt_box (ks := [0, 2, 3, 4, 5, 6, 7, 8, 26, 32, 33, 36, 41, 45, 48, 51, 53, 58, 65, 78, 91, 99, 103, 108, 117]) r2 3 3 1 (by decide) sgT rfl (by decide) fun qz hqz => ?_
      simp only [fresh_cons, fresh_nil, and_true] at hqz; (repeat (rcases hqz with ⟨_, hqz⟩))
      apply Exists.intro; apply And.intro; (exact ssetT)
      (refine ctlT ?_)
      (apply aend; (exact resT))
      · rw [hG]; exact ⟨qz, rfl, rfl⟩
      · (exact stleT)
    · unfold fin at hG
      rw [ge] at hG
      simp only [Bool.false_eq_true, if_false] at hG
      (refine ctlT ?_)
      refine rgD [(0, true), (1, true), (2, true), (3, true), (4, true), (5, false), (6, true), (7, true)] ?_
      refine z96 ?_
      refine dlo rfl (lop_move (E rfl)) rfl ?_
      refine z77 ?_
      refine z73 ?_
      refine z74 ?_
      refine z95 ?_
      refine dlo rfl (lop_assign (E rfl)) rfl ?_
      refine dlo rfl (lop_assign (E rfl)) rfl ?_
      refine deT ?_
      (refine ctlT ?_)
      (apply aend; (exact resT))
      · rw [hG]; exact ⟨q, rfl, rfl⟩
      · (exact stleT)
  (refine ctlT ?_)
  refine rgT ?_
  refine lo (lop_eql (E rfl) (E rfl)) rfl ?_
  refine lo (lop_assign (E rfl)) rfl ?_
  refine leT ?_
  (refine ctlT ?_)
  refine sw_cond rfl (fun g11 => ?_) (fun g11 => ?_)
  · (refine ctlT ?_)
    have hG : getR l = fin ⟨(c : Int), (rfS l 64 n1 e1).1, 0, []⟩ (rfS l 64 n1 e1).2.1 (rfS l 64 n1 e1).2.2 := by unfold getR getF; rw [hB]; simp only [g1, g2, g5, g6, g7, g8, g9, g10, g11, if_true, if_false, Bool.false_eq_true]
    refine rgT ?_
    refine lo (lop_move (E rfl)) rfl ?_
    refine cw [(r11, .box 100 (rv l (n1) (e1)))] Try.call68 (rfr_s r11 l hl hlt 64 (.inr rfl) n1 hn1 e1) rfl ?_ ?_ ?_
    · (exact argsleT)
    · (exact stleT)
    rintro _ σ' ⟨rfl, rfl⟩ -
    (apply rs_sto; (exact nflT))
    unfold rv
    refine z59 ?_
    apply stp; rfl; rfl; rfl; rfl; (exact sputT)
    refine leT ?_
    (refine ctlT ?_)
    refine rgT ?_
    refine lo (lop_move (E rfl)) rfl ?_
    refine z76 ?_
    refine z59 ?_
    refine z60 ?_
    refine lo (lop_neq (E rfl) (E rfl)) rfl ?_
    refine leT ?_
    (refine ctlT ?_)
    refine sw_cond rfl (fun ge => ?_) (fun ge => ?_)
    · unfold fin at hG
      rw [ge] at hG
      simp only [if_true] at hG
      (refine ctlT ?_)
      refine rgD [(0, true), (1, true), (2, true), (3, true), (4, true), (5, false), (6, true), (7, true)] ?_
      refine z94 ?_
      refine dlo rfl (lop_move (E rfl)) rfl ?_
      refine z77 ?_
      refine z73 ?_
      refine z74 ?_
      refine z95 ?_
      refine dlo rfl (lop_assign (E rfl)) rfl ?_
      refine dlo rfl (lop_assign (E rfl)) rfl ?_
      refine deT ?_
      refine an ?_
      refine sw_virt_box (ks := [0, 2, 3, 4, 5, 6, 7, 8, 26, 32, 33, 36, 41, 45, 48, 51, 53, 58, 65, 78, 91, 99, 103, 108, 117]) r2 3 3 1 (by decide) sgT rfl (by decide) fun qz hqz => ?_
      simp only [fresh_cons, fresh_nil, and_true] at hqz; (repeat (rcases hqz with ⟨_, hqz⟩))
      apply Exists.intro; apply And.intro; (exact ssetT)
      (refine ctlT ?_)
      (apply aend; (exact resT))
      · rw [hG]; exact ⟨qz, rfl, rfl⟩
      · (exact stleT)
    · unfold fin at hG
      rw [ge] at hG
      simp only [Bool.false_eq_true, if_false] at hG
      (refine ctlT ?_)
      refine rgD [(0, true), (1, true), (2, true), (3, true), (4, true), (5, false), (6, true), (7, true)] ?_
      refine z96 ?_
      refine dlo rfl (lop_move (E rfl)) rfl ?_
      refine z77 ?_
      refine z73 ?_
      refine z74 ?_
      refine z95 ?_
      refine dlo rfl (lop_assign (E rfl)) rfl ?_
      refine dlo rfl (lop_assign (E rfl)) rfl ?_
      refine deT ?_
      (refine ctlT ?_)
      (apply aend; (exact resT))
      · rw [hG]; exact ⟨q, rfl, rfl⟩
      · (exact stleT)
  (refine ctlT ?_)
  have hG : getR l = fin ⟨(c : Int), 0, 0, []⟩ n1 e1 := by unfold getR getF; rw [hB]; simp only [g1, g2, g5, g6, g7, g8, g9, g10, g11, if_true, if_false, Bool.false_eq_true]
  refine rgT ?_
  refine lo (lop_move (E rfl)) rfl ?_
  refine z76 ?_
  refine z59 ?_
  refine z60 ?_
  refine lo (lop_neq (E rfl) (E rfl)) rfl ?_
  refine leT ?_
  (refine ctlT ?_)
  refine sw_cond rfl (fun ge => ?_) (fun ge => ?_)
  · unfold fin at hG
    rw [ge] at hG
    simp only [if_true] at hG
    (refine ctlT ?_)
    refine rgD [(0, true), (1, true), (2, true), (3, true), (4, true), (5, false), (6, true), (7, true)] ?_
    refine z94 ?_
    refine dlo rfl (lop_move (E rfl)) rfl ?_
    refine z77 ?_
    refine z73 ?_
    refine z74 ?_
    refine z95 ?_
    refine dlo rfl (lop_assign (E rfl)) rfl ?_
    refine dlo rfl (lop_assign (E rfl)) rfl ?_
    refine deT ?_
    refine an ?_
    refine sw_virt_box (ks := [0, 2, 3, 4, 5, 6, 7, 8, 26, 32, 33, 36, 41, 45, 48, 51, 53, 58, 65, 78, 91, 99, 103, 108, 117]) r2 3 3 1 (by decide) sgT rfl (by decide) fun qz hqz => ?_
    simp only [fresh_cons, fresh_nil, and_true] at hqz; (repeat (rcases hqz with ⟨_, hqz⟩))
    apply Exists.intro; apply And.intro; (exact ssetT)
    (refine ctlT ?_)
    (apply aend; (exact resT))
    · rw [hG]; exact ⟨qz, rfl, rfl⟩
    · (exact stleT)
  · unfold fin at hG
    rw [ge] at hG
    simp only [Bool.false_eq_true, if_false] at hG
    (refine ctlT ?_)
    refine rgD [(0, true), (1, true), (2, true), (3, true), (4, true), (5, false), (6, true), (7, true)] ?_
    refine z96 ?_
    refine dlo rfl (lop_move (E rfl)) rfl ?_
    refine z77 ?_
    refine z73 ?_
    refine z74 ?_
    refine z95 ?_
    refine dlo rfl (lop_assign (E rfl)) rfl ?_
    refine dlo rfl (lop_assign (E rfl)) rfl ?_
    refine deT ?_
    (refine ctlT ?_)
    (apply aend; (exact resT))
    · rw [hG]; exact ⟨q, rfl, rfl⟩
    · (exact stleT)
end Go.Proofs.Ytkjfflabapeidaa
