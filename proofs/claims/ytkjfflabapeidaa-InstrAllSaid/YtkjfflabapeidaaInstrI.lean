/-
  The program's Get.
-/
import Derived.Test.YtkjfflabapeidaaInstrH
namespace Go.Proofs.Ytkjfflabapeidaa
open Go.RowKit Go.ChangeShapes Go.WideShapes Go.ChangeAt Go.Deep
set_option linter.unusedSimpArgs false
set_option linter.unusedVariables false
attribute [local irreducible] SW RS RD AThen ABlock

def io (q : Nat) (x : Ins) : List AV := [.int .i64 x.op, .int .i64 x.a, .int .i64 x.b, .own q 0 x.l.length]
def ins0 : Ins := ⟨0, 0, 0, []⟩
/-- m numbers, one behind the other -/
def rdL (l : List Nat) : Nat → Nat → Int → List Int × Nat × Int
  | 0, n, e => ([], n, e)
  | m + 1, n, e => (((rdL l m n e).1 ++ [((rdU l 1000 (rdL l m n e).2.1 (rdL l m n e).2.2).1 : Int)]), (rdU l 1000 (rdL l m n e).2.1 (rdL l m n e).2.2).2)
def fin (x : Ins) (n : Nat) (e : Int) : Ins × Nat × Int := if (e != 0) = true then (ins0, 0, e) else (x, n, 0)
/-- what stands behind the byte -/
def getT (l : List Nat) (op : Int) (n : Nat) (e : Int) : Ins × Nat × Int :=
  if (formN op == 2) = true then fin ⟨op, (rdK l n e).1, 0, []⟩ (rdK l n e).2.1 (rdK l n e).2.2
  else if (formN op == 3) = true then fin ⟨op, (rdU l 1000 n e).1, 0, []⟩ (rdU l 1000 n e).2.1 (rdU l 1000 n e).2.2
  else if (formN op == 5) = true then fin ⟨op, (rdU l 1000 n e).1, 0, []⟩ (rdZ l (rdU l 1000 n e).2.1 (rdU l 1000 n e).2.2).1 (rdZ l (rdU l 1000 n e).2.1 (rdU l 1000 n e).2.2).2
  else if (formN op == 4) = true then
    let u := rdU l 50 n e
    let w := rdL l u.1 u.2.1 u.2.2
    let v := rdU l 1000 w.2.1 w.2.2
    fin ⟨op, v.1, 0, w.1⟩ v.2.1 v.2.2
  else if (formN op == 6) = true then
    let u := rdU l 3 n e
    let v := rdU l 4294967295 u.2.1 u.2.2
    fin ⟨op, u.1, v.1, []⟩ v.2.1 v.2.2
  else if (formN op == 7) = true then fin ⟨op, 0, 0, []⟩ (rdZ l n e).1 (rdZ l n e).2
  else if (formN op == 8) = true then fin ⟨op, (rdS l 32 n).1, 0, []⟩ (rdS l 32 n).2.1 (rdS l 32 n).2.2
  else if (formN op == 9) = true then fin ⟨op, (rdS l 64 n).1, 0, []⟩ (rdS l 64 n).2.1 (rdS l 64 n).2.2
  else fin ⟨op, 0, 0, []⟩ n e
def getP (l : List Nat) : Ins × Nat × Int :=
  if (formN ((rdB l 0 0).1 : Nat) == 0) = true then (ins0, 0, 1)
  else if ((rdB l 0 0).2.2 != 0) = true then (ins0, 0, (rdB l 0 0).2.2)
  else getT l ((rdB l 0 0).1 : Nat) (rdB l 0 0).2.1 (rdB l 0 0).2.2
theorem rdB_bd {l : List Nat} {n : Nat} {e : Int} (h : n ≤ l.length) : (rdB l n e).2.1 ≤ l.length := by
  unfold rdB
  split
  · exact h
  · split
    · exact h
    · next h1 => simp at h1 ⊢; omega
theorem rdU_bd {l : List Nat} {lim : Int} {n : Nat} {e : Int} (h : n ≤ l.length) : (rdU l lim n e).2.1 ≤ l.length := by
  have h1 := (getU_bd (l.drop n)).2.1
  rw [List.length_drop] at h1
  unfold rdU
  repeat' split
  all_goals first | exact h | (simp; omega)
theorem rdU_le {l : List Nat} {lim : Int} {n : Nat} {e : Int} (h : 0 ≤ lim) : ((rdU l lim n e).1 : Int) ≤ lim := by
  unfold rdU
  split
  · exact h
  · split
    · exact h
    · split
      · exact h
      · next h1 => simp at h1 ⊢; omega
theorem rdL_bd {l : List Nat} : ∀ {m n : Nat} {e : Int}, n ≤ l.length → (rdL l m n e).2.1 ≤ l.length
  | 0, _, _, h => h
  | _ + 1, _, _, h => rdU_bd (rdL_bd h)
theorem rdL_len {l : List Nat} : ∀ {m n : Nat} {e : Int}, (rdL l m n e).1.length = m
  | 0, _, _ => rfl
  | m + 1, n, e => by rw [rdL]; simp [rdL_len (m := m)]
set_option maxRecDepth 100000 in
theorem instr_get (l : List Nat) (hl : l.length ≤ 1000000) (hlt : ∀ x ∈ l, x < 256) : SCall Try.prog 25 [.ro 1 (l.map encU) .any] []
    (fun y σ => ∃ q, y = .tup [.agg (io q (getP l).1), .int .i64 ((getP l).2.1 : Nat), .int .i64 (getP l).2.2] ∧ σ = [(q, .arr 3 1 ((getP l).1.l.map encI))]) := by
  refine scall_of (n := 104) (ks := [0, 2, 3, 4, 5, 6, 7, 18, 26, 32, 33, 38, 43, 50, 53, 54, 55, 67, 75, 79, 84, 93]) Try.func25 rfl rfl (Nat.le_of_ble_eq_true rfl) ?_
  (refine ctlT ?_)
  refine rgT ?_
  apply al; rfl; (exact zcT); refine freshT fun r2 h2 => ?_; (repeat (rcases h2 with ⟨_, h2⟩))
  refine lo (lop_assign (E rfl)) rfl ?_
  refine lo (lop_assign (E rfl)) rfl ?_
  refine leT ?_
  (refine ctlT ?_)
  refine rgT ?_
  refine lo (lop_move (E rfl)) rfl ?_
  refine z93 ?_
  apply bx; rfl; rfl; (exact zcT); rfl; refine freshT fun r10 h10 => ?_; (repeat (rcases h10 with ⟨_, h10⟩))
  refine lo (lop_assign (E rfl)) rfl ?_
  refine leT ?_
  (refine ctlT ?_)
  refine rgT ?_
  refine lo (lop_move (E rfl)) rfl ?_
  refine cw [(r10, .box 81 (rv l (0) (0)))] Try.call50 (rdr_byte r10 l hl hlt 0 (by omega) 0) rfl ?_ ?_ ?_
  · (exact argsleT)
  · (exact stleT)
  rintro _ σ' ⟨rfl, rfl⟩ -
  (apply rs_sto; (exact nflT))
  unfold rv
  refine z93 ?_
  apply al; rfl; (exact zcT); refine freshT fun r6 h6 => ?_; (repeat (rcases h6 with ⟨_, h6⟩))
  apply stp; rfl; rfl; rfl; rfl; (exact sputT)
  refine leT ?_
  refine an ?_
  refine sw_virt_box (ks := [0, 2, 3, 4, 5, 6, 7, 18, 26, 32, 33, 38, 43, 50, 53, 54, 55, 67, 75, 79, 84, 93]) r6 3 3 1 (by decide) sgT rfl (by decide) fun q hq => ?_
  simp only [fresh_cons, fresh_nil, and_true] at hq; (repeat (rcases hq with ⟨_, hq⟩))
  apply Exists.intro; apply And.intro; (exact ssetT)
  (refine ctlT ?_)
  have hn1 := rdB_bd (l := l) (n := 0) (e := 0) (by omega)
  generalize hB : rdB l 0 0 = bb at *
  obtain ⟨c, n1, e1⟩ := bb
  dsimp only at hn1 ⊢
  rw [show ([AV.int .i64 (c : Int), .int .i64 0, .int .i64 0, .ro 0 [] .nil].set 3 (.own q 0 0)) = [.int .i64 (c : Int), .int .i64 0, .int .i64 0, .own q 0 0] from rfl]
  refine rgT ?_
  refine z59 ?_
  refine z60 ?_
  (first | refine ln rfl rfl rfl rfl ?_ | refine lw rfl rfl (lop_no (v := .bool false)) rfl ?_ | refine pu [] Try.call40 (instr_formN _) rfl argsT nofT ?_ | refine pug [] rfl rfl Try.call40 (fun _ => (instr_formN _)) rfl argsT nofT ?_ | refine puw [] rfl rfl Try.call40 (fun _ => (instr_formN _)) rfl argsT nofT ?_)
  refine lo (lop_assign (E rfl)) rfl ?_
  refine leT ?_
  (refine ctlT ?_)
  refine rgT ?_
  refine lo (lop_move (E rfl)) rfl ?_
  refine lo (lop_eql (E rfl) (E rfl)) rfl ?_
  refine leT ?_
  (refine ctlT ?_)
  refine sw_cond rfl (fun g1 => ?_) (fun g1 => ?_)
  · (refine ctlT ?_)
    have hG : getP l = (ins0, 0, 1) := by unfold getP; rw [hB]; simp only [g1, if_true]
    refine rgT ?_
    refine lo (lop_move (E rfl)) rfl ?_
    refine z76 ?_
    refine z59 ?_
    apply stp; rfl; rfl; rfl; rfl; (exact sputT)
    refine leT ?_
    (refine ctlT ?_)
    refine rgT ?_
    refine lo (lop_move (E rfl)) rfl ?_
    refine z76 ?_
    refine z59 ?_
    refine z60 ?_
    refine lo (lop_neq (E rfl) (E rfl)) rfl ?_
    refine leT ?_
    (refine ctlT ?_)
    refine rgD [(0, true), (1, true), (2, true), (3, true), (4, true), (5, false), (6, true), (7, true)] ?_
    refine z94 ?_
    refine dlo rfl (lop_move (E rfl)) rfl ?_
    refine z77 ?_
    refine z73 ?_
    refine z74 ?_
    refine z95 ?_
    refine dlo rfl (lop_assign (E rfl)) rfl ?_
    refine dlo rfl (lop_assign (E rfl)) rfl ?_
    refine deT ?_
    refine an ?_
    refine sw_virt_box (ks := [0, 2, 3, 4, 5, 6, 7, 18, 26, 32, 33, 38, 43, 50, 53, 54, 55, 67, 75, 79, 84, 93]) r2 3 3 1 (by decide) sgT rfl (by decide) fun qz hqz => ?_
    simp only [fresh_cons, fresh_nil, and_true] at hqz; (repeat (rcases hqz with ⟨_, hqz⟩))
    apply Exists.intro; apply And.intro; (exact ssetT)
    (refine ctlT ?_)
    (apply aend; (exact resT))
    · rw [hG]; exact ⟨qz, rfl, rfl⟩
    · (exact stleT)
  (refine ctlT ?_)
  refine rgT ?_
  refine lo (lop_move (E rfl)) rfl ?_
  refine z76 ?_
  refine z59 ?_
  refine z60 ?_
  refine lo (lop_neq (E rfl) (E rfl)) rfl ?_
  refine leT ?_
  (refine ctlT ?_)
  refine sw_cond rfl (fun g2 => ?_) (fun g2 => ?_)
  · (refine ctlT ?_)
    have hG : getP l = (ins0, 0, e1) := by unfold getP; rw [hB]; simp only [g1, g2, if_true, if_false, Bool.false_eq_true]
    refine rgD [(0, true), (1, true), (2, true), (3, true), (4, true), (5, false), (6, true), (7, true)] ?_
    refine z94 ?_
    refine dlo rfl (lop_move (E rfl)) rfl ?_
    refine z77 ?_
    refine z73 ?_
    refine z74 ?_
    refine z95 ?_
    refine dlo rfl (lop_assign (E rfl)) rfl ?_
    refine dlo rfl (lop_assign (E rfl)) rfl ?_
    refine deT ?_
    refine an ?_
    refine sw_virt_box (ks := [0, 2, 3, 4, 5, 6, 7, 18, 26, 32, 33, 38, 43, 50, 53, 54, 55, 67, 75, 79, 84, 93]) r2 3 3 1 (by decide) sgT rfl (by decide) fun qz hqz => ?_
    simp only [fresh_cons, fresh_nil, and_true] at hqz; (repeat (rcases hqz with ⟨_, hqz⟩))
    apply Exists.intro; apply And.intro; (exact ssetT)
    (refine ctlT ?_)
    (apply aend; (exact resT))
    · rw [hG]; exact ⟨qz, rfl, rfl⟩
    · (exact stleT)
  (refine ctlT ?_)
  refine rgT ?_
  refine lo (lop_move (E rfl)) rfl ?_
  refine leT ?_
  (refine ctlT ?_)
  refine rgT ?_
  refine lo (lop_eql (E rfl) (E rfl)) rfl ?_
  refine lo (lop_assign (E rfl)) rfl ?_
  refine leT ?_
  (refine ctlT ?_)
  refine sw_cond rfl (fun g3 => ?_) (fun g3 => ?_)
  · (refine ctlT ?_)
    have hG : getP l = fin ⟨(c : Int), (rdK l n1 e1).1, 0, []⟩ (rdK l n1 e1).2.1 (rdK l n1 e1).2.2 := by unfold getP getT; rw [hB]; simp only [g1, g2, g3, if_true, if_false, Bool.false_eq_true]
    refine rgT ?_
    refine lo (lop_move (E rfl)) rfl ?_
    refine cw [(r10, .box 81 (rv l (n1) (e1)))] Try.call51 (rdr_kind r10 l hl hlt n1 hn1 e1) rfl ?_ ?_ ?_
    · (exact argsleT)
    · (exact stleT)
    rintro _ σ' ⟨rfl, rfl⟩ -
    (apply rs_sto; (exact nflT))
    unfold rv
    refine z59 ?_
    apply stp; rfl; rfl; rfl; rfl; (exact sputT)
    refine leT ?_
    (refine ctlT ?_)
    refine rgT ?_
    refine lo (lop_move (E rfl)) rfl ?_
    refine z76 ?_
    refine z59 ?_
    refine z60 ?_
    refine lo (lop_neq (E rfl) (E rfl)) rfl ?_
    refine leT ?_
    (refine ctlT ?_)
    refine sw_cond rfl (fun ge => ?_) (fun ge => ?_)
    · unfold fin at hG
      rw [ge] at hG
      simp only [if_true] at hG
      (refine ctlT ?_)
      refine rgD [(0, true), (1, true), (2, true), (3, true), (4, true), (5, false), (6, true), (7, true)] ?_
      refine z94 ?_
      refine dlo rfl (lop_move (E rfl)) rfl ?_
      refine z77 ?_
      refine z73 ?_
      refine z74 ?_
      refine z95 ?_
      refine dlo rfl (lop_assign (E rfl)) rfl ?_
      refine dlo rfl (lop_assign (E rfl)) rfl ?_
      refine deT ?_
      refine an ?_
      refine sw_virt_box (ks := [0, 2, 3, 4, 5, 6, 7, 18, 26, 32, 33, 38, 43, 50, 53, 54, 55, 67, 75, 79, 84, 93]) r2 3 3 1 (by decide) sgT rfl (by decide) fun qz hqz => ?_
      simp only [fresh_cons, fresh_nil, and_true] at hqz; (repeat (rcases hqz with ⟨_, hqz⟩))
      apply Exists.intro; apply And.intro; (exact ssetT)
      (refine ctlT ?_)
      (apply aend; (exact resT))
      · rw [hG]; exact ⟨qz, rfl, rfl⟩
      · (exact stleT)
    · unfold fin at hG
      rw [ge] at hG
      simp only [Bool.false_eq_true, if_false] at hG
      (refine ctlT ?_)
      refine rgD [(0, true), (1, true), (2, true), (3, true), (4, true), (5, false), (6, true), (7, true)] ?_
      refine z96 ?_
      refine dlo rfl (lop_move (E rfl)) rfl ?_
      refine z77 ?_
      refine z73 ?_
      refine z74 ?_
      refine z95 ?_
      refine dlo rfl (lop_assign (E rfl)) rfl ?_
      refine dlo rfl (lop_assign (E rfl)) rfl ?_
      refine deT ?_
      (refine ctlT ?_)
      (apply aend; (exact resT))
      · rw [hG]; exact ⟨q, rfl, rfl⟩
      · (exact stleT)
  (refine ctlT ?_)
  refine rgT ?_
  refine lo (lop_eql (E rfl) (E rfl)) rfl ?_
  refine lo (lop_assign (E rfl)) rfl ?_
  refine leT ?_
  (refine ctlT ?_)
  refine sw_cond rfl (fun g4 => ?_) (fun g4 => ?_)
  · (refine ctlT ?_)
    have hG : getP l = fin ⟨(c : Int), (rdU l 1000 n1 e1).1, 0, []⟩ (rdU l 1000 n1 e1).2.1 (rdU l 1000 n1 e1).2.2 := by unfold getP getT; rw [hB]; simp only [g1, g2, g3, g4, if_true, if_false, Bool.false_eq_true]
    refine rgT ?_
    refine lo (lop_move (E rfl)) rfl ?_
    refine cw [(r10, .box 81 (rv l (n1) (e1)))] Try.call52 (rdr_unsigned r10 l hl hlt 1000 n1 hn1 e1) rfl ?_ ?_ ?_
    · (exact argsleT)
    · (exact stleT)
    rintro _ σ' ⟨rfl, rfl⟩ -
    (apply rs_sto; (exact nflT))
    unfold rv
    refine z59 ?_
    apply stp; rfl; rfl; rfl; rfl; (exact sputT)
    refine leT ?_
    (refine ctlT ?_)
    refine rgT ?_
    refine lo (lop_move (E rfl)) rfl ?_
    refine z76 ?_
    refine z59 ?_
    refine z60 ?_
    refine lo (lop_neq (E rfl) (E rfl)) rfl ?_
    refine leT ?_
    (refine ctlT ?_)
    refine sw_cond rfl (fun ge => ?_) (fun ge => ?_)
    · unfold fin at hG
      rw [ge] at hG
      simp only [if_true] at hG
      (refine ctlT ?_)
      refine rgD [(0, true), (1, true), (2, true), (3, true), (4, true), (5, false), (6, true), (7, true)] ?_
      refine z94 ?_
      refine dlo rfl (lop_move (E rfl)) rfl ?_
      refine z77 ?_
      refine z73 ?_
      refine z74 ?_
      refine z95 ?_
      refine dlo rfl (lop_assign (E rfl)) rfl ?_
      refine dlo rfl (lop_assign (E rfl)) rfl ?_
      refine deT ?_
      refine an ?_
      refine sw_virt_box (ks := [0, 2, 3, 4, 5, 6, 7, 18, 26, 32, 33, 38, 43, 50, 53, 54, 55, 67, 75, 79, 84, 93]) r2 3 3 1 (by decide) sgT rfl (by decide) fun qz hqz => ?_
      simp only [fresh_cons, fresh_nil, and_true] at hqz; (repeat (rcases hqz with ⟨_, hqz⟩))
      apply Exists.intro; apply And.intro; (exact ssetT)
      (refine ctlT ?_)
      (apply aend; (exact resT))
      · rw [hG]; exact ⟨qz, rfl, rfl⟩
      · (exact stleT)
    · unfold fin at hG
      rw [ge] at hG
      simp only [Bool.false_eq_true, if_false] at hG
      (refine ctlT ?_)
      refine rgD [(0, true), (1, true), (2, true), (3, true), (4, true), (5, false), (6, true), (7, true)] ?_
      refine z96 ?_
      refine dlo rfl (lop_move (E rfl)) rfl ?_
      refine z77 ?_
      refine z73 ?_
      refine z74 ?_
      refine z95 ?_
      refine dlo rfl (lop_assign (E rfl)) rfl ?_
      refine dlo rfl (lop_assign (E rfl)) rfl ?_
      refine deT ?_
      (refine ctlT ?_)
      (apply aend; (exact resT))
      · rw [hG]; exact ⟨q, rfl, rfl⟩
      · (exact stleT)
  (refine ctlT ?_)
  refine rgT ?_
  refine lo (lop_eql (E rfl) (E rfl)) rfl ?_
  refine lo (lop_assign (E rfl)) rfl ?_
  refine leT ?_
  (refine ctlT ?_)
  refine sw_cond rfl (fun g5 => ?_) (fun g5 => ?_)
  · (refine ctlT ?_)
    have hG : getP l = fin ⟨(c : Int), (rdU l 1000 n1 e1).1, 0, []⟩ (rdZ l (rdU l 1000 n1 e1).2.1 (rdU l 1000 n1 e1).2.2).1 (rdZ l (rdU l 1000 n1 e1).2.1 (rdU l 1000 n1 e1).2.2).2 := by unfold getP getT; rw [hB]; simp only [g1, g2, g3, g4, g5, if_true, if_false, Bool.false_eq_true]
    have hn2 := rdU_bd (lim := 1000) (e := e1) hn1
    refine rgT ?_
    refine lo (lop_move (E rfl)) rfl ?_
    refine cw [(r10, .box 81 (rv l (n1) (e1)))] Try.call52 (rdr_unsigned r10 l hl hlt 1000 n1 hn1 e1) rfl ?_ ?_ ?_
    · (exact argsleT)
    · (exact stleT)
    rintro _ σ' ⟨rfl, rfl⟩ -
    (apply rs_sto; (exact nflT))
    unfold rv
    refine z59 ?_
    apply stp; rfl; rfl; rfl; rfl; (exact sputT)
    refine leT ?_
    (refine ctlT ?_)
    generalize rdU l 1000 n1 e1 = u at *
    obtain ⟨a, n2, e2⟩ := u
    dsimp only at hn2 hG ⊢
    refine rgT ?_
    refine lo (lop_move (E rfl)) rfl ?_
    refine cw [(r10, .box 81 (rv l (n2) (e2)))] Try.call53 (rdr_zero r10 l hl hlt n2 hn2 e2) rfl ?_ ?_ ?_
    · (exact argsleT)
    · (exact stleT)
    rintro _ σ' ⟨rfl, rfl⟩ -
    (apply rs_sto; (exact nflT))
    unfold rv
    refine leT ?_
    (refine ctlT ?_)
    refine rgT ?_
    refine lo (lop_move (E rfl)) rfl ?_
    refine z76 ?_
    refine z59 ?_
    refine z60 ?_
    refine lo (lop_neq (E rfl) (E rfl)) rfl ?_
    refine leT ?_
    (refine ctlT ?_)
    refine sw_cond rfl (fun ge => ?_) (fun ge => ?_)
    · unfold fin at hG
      rw [ge] at hG
      simp only [if_true] at hG
      (refine ctlT ?_)
      refine rgD [(0, true), (1, true), (2, true), (3, true), (4, true), (5, false), (6, true), (7, true)] ?_
      refine z94 ?_
      refine dlo rfl (lop_move (E rfl)) rfl ?_
      refine z77 ?_
      refine z73 ?_
      refine z74 ?_
      refine z95 ?_
      refine dlo rfl (lop_assign (E rfl)) rfl ?_
      refine dlo rfl (lop_assign (E rfl)) rfl ?_
      refine deT ?_
      refine an ?_
      refine sw_virt_box (ks := [0, 2, 3, 4, 5, 6, 7, 18, 26, 32, 33, 38, 43, 50, 53, 54, 55, 67, 75, 79, 84, 93]) r2 3 3 1 (by decide) sgT rfl (by decide) fun qz hqz => ?_
      simp only [fresh_cons, fresh_nil, and_true] at hqz; (repeat (rcases hqz with ⟨_, hqz⟩))
      apply Exists.intro; apply And.intro; (exact ssetT)
      (refine ctlT ?_)
      (apply aend; (exact resT))
      · rw [hG]; exact ⟨qz, rfl, rfl⟩
      · (exact stleT)
    · unfold fin at hG
      rw [ge] at hG
      simp only [Bool.false_eq_true, if_false] at hG
      (refine ctlT ?_)
      refine rgD [(0, true), (1, true), (2, true), (3, true), (4, true), (5, false), (6, true), (7, true)] ?_
      refine z96 ?_
      refine dlo rfl (lop_move (E rfl)) rfl ?_
      refine z77 ?_
      refine z73 ?_
      refine z74 ?_
      refine z95 ?_
      refine dlo rfl (lop_assign (E rfl)) rfl ?_
      refine dlo rfl (lop_assign (E rfl)) rfl ?_
      refine deT ?_
      (refine ctlT ?_)
      (apply aend; (exact resT))
      · rw [hG]; exact ⟨q, rfl, rfl⟩
      · (exact stleT)
  (refine ctlT ?_)
  refine rgT ?_
  refine lo (lop_eql (E rfl) (E rfl)) rfl ?_
  refine lo (lop_assign (E rfl)) rfl ?_
  refine leT ?_
  (refine ctlT ?_)
  refine sw_cond rfl (fun g6 => ?_) (fun g6 => ?_)
  · (refine ctlT ?_)
    have hG : getP l = fin ⟨(c : Int), (rdU l 1000 (rdL l (rdU l 50 n1 e1).1 (rdU l 50 n1 e1).2.1 (rdU l 50 n1 e1).2.2).2.1 (rdL l (rdU l 50 n1 e1).1 (rdU l 50 n1 e1).2.1 (rdU l 50 n1 e1).2.2).2.2).1, 0, (rdL l (rdU l 50 n1 e1).1 (rdU l 50 n1 e1).2.1 (rdU l 50 n1 e1).2.2).1⟩ (rdU l 1000 (rdL l (rdU l 50 n1 e1).1 (rdU l 50 n1 e1).2.1 (rdU l 50 n1 e1).2.2).2.1 (rdL l (rdU l 50 n1 e1).1 (rdU l 50 n1 e1).2.1 (rdU l 50 n1 e1).2.2).2.2).2.1 (rdU l 1000 (rdL l (rdU l 50 n1 e1).1 (rdU l 50 n1 e1).2.1 (rdU l 50 n1 e1).2.2).2.1 (rdL l (rdU l 50 n1 e1).1 (rdU l 50 n1 e1).2.1 (rdU l 50 n1 e1).2.2).2.2).2.2 := by unfold getP getT; rw [hB]; simp only [g1, g2, g3, g4, g5, g6, if_true, if_false, Bool.false_eq_true]
    have hn2 := rdU_bd (lim := 50) (e := e1) hn1
    have hm50 := rdU_le (l := l) (lim := 50) (n := n1) (e := e1) (by omega)
    refine rgT ?_
    refine lo (lop_move (E rfl)) rfl ?_
    refine cw [(r10, .box 81 (rv l (n1) (e1)))] Try.call52 (rdr_unsigned r10 l hl hlt 50 n1 hn1 e1) rfl ?_ ?_ ?_
    · (exact argsleT)
    · (exact stleT)
    rintro _ σ' ⟨rfl, rfl⟩ -
    (apply rs_sto; (exact nflT))
    unfold rv
    refine lo (lop_move (E rfl)) rfl ?_
    refine leT ?_
    (refine ctlT ?_)
    generalize rdU l 50 n1 e1 = u at *
    obtain ⟨m, n2, e2⟩ := u
    dsimp only at hn2 hm50 hG ⊢
    refine lp (β := Nat × Nat) (fun b => ⟨[(2, .ptr r2 0), (5, .ptr r10 0), (6, .ptr r6 0), (53, .int .i64 m), (54, .int .i64 b.2)], [(b.1, .arr 3 1 ((rdL l b.2 n2 e2).1.map encI)), (r6, .box 24 [.int .i64 c, .int .i64 0, .int .i64 0, .own b.1 0 (rdL l b.2 n2 e2).1.length]), (r10, .box 81 (rv l (rdL l b.2 n2 e2).2.1 (rdL l b.2 n2 e2).2.2)), (r2, .box 24 [.int .i64 0, .int .i64 0, .int .i64 0, .ro 0 [] .nil])]⟩) (fun b => (Nq b.1 r6 ∧ Nq b.1 r10 ∧ Nq b.1 r2) ∧ b.2 ≤ m) (fun b => m - b.2) (q, 0) (by (exact sgoT)) ⟨⟨by (exact nqT), by (exact nqT), by (exact nqT)⟩, Nat.zero_le _⟩ ?_
    rintro ⟨p, j⟩ ⟨⟨hp1, hp2, hp3⟩, hj⟩
    dsimp only at hp1 hp2 hp3 hj ⊢
    have hn3 := rdL_bd (m := j) (e := e2) hn2
    have hlen := rdL_len (l := l) (m := j) (n := n2) (e := e2)
    have hstep : rdL l (j + 1) n2 e2 = (((rdL l j n2 e2).1 ++ [((rdU l 1000 (rdL l j n2 e2).2.1 (rdL l j n2 e2).2.2).1 : Int)]), (rdU l 1000 (rdL l j n2 e2).2.1 (rdL l j n2 e2).2.2).2) := rfl
    generalize hW : rdL l j n2 e2 = w at hn3 hlen hstep ⊢
    obtain ⟨L, n3, e3⟩ := w
    dsimp only at hn3 hlen hstep ⊢
    unfold rv
    (refine ctlT ?_)
    refine rgT ?_
    refine lo (lop_lss (E rfl) (E rfl)) rfl ?_
    refine leT ?_
    (refine ctlT ?_)
    refine sw_cond rfl (fun h1 => ?_) (fun h1 => ?_)
    · have hlt2 : j < m := by simp at h1; omega
      (refine ctlT ?_)
      refine rgD [(0, true), (1, true), (2, true), (3, false), (4, false), (5, false), (6, true), (7, false)] ?_
      refine z73 ?_
      refine z74 ?_
      refine dlo rfl (lop_move (E rfl)) rfl ?_
      refine dcw [(r10, .box 81 (rv l n3 e3))] rfl Try.call52 (rdr_unsigned r10 l hl hlt 1000 n3 hn3 e3) rfl ?_ ?_ ?_ ?_
      · (exact argsleT)
      · (exact stleT)
      · (exact hbtT)
      rintro _ σ' ⟨rfl, rfl⟩ -
      (apply rd_sto; (exact nflT))
      unfold rv
      generalize rdU l 1000 n3 e3 = u at hstep ⊢
      obtain ⟨v, n4, e4⟩ := u
      dsimp only at hstep ⊢
      refine z97 ?_; refine freshT fun r60 h60 => ?_; (repeat (rcases h60 with ⟨_, h60⟩))
      apply dap (es' := (L ++ [(v : Int)]).map encI) (len' := (L ++ [(v : Int)]).length); rfl; infer_instance; infer_instance; rfl; rfl; (exact sgT)
      · simp
      · exact .inr (.inr ⟨_, _, _, _, _, rfl, sgT, by simp, rfl⟩)
      · simp [encI]
      · simp
      · simp [maxLen]; omega
      · simp; omega
      · rfl
      · (exact hbtT)
      refine apnT fun r61 h61 => ?_; (repeat (rcases h61 with ⟨_, h61⟩))
      refine z73 ?_
      refine z95 ?_
      refine deT ?_
      (refine ctlT ?_)
      refine rgT ?_
      refine z17 ?_
      refine lo (lop_move (E rfl)) rfl ?_
      refine leT ?_
      (refine ctlT ?_)
      refine ⟨(r61, j + 1), ⟨⟨by show Nq r61 r6; (exact nqT), by show Nq r61 r10; (exact nqT), by show Nq r61 r2; (exact nqT)⟩, hlt2⟩, by show m - (j + 1) < m - j; omega, ?_⟩
      dsimp only
      rw [hstep]
      (exact sgoT)
    · obtain rfl : j = m := by simp at h1; omega
      rw [hW] at hG
      dsimp only at hG
      (refine ctlT ?_)
      refine rgT ?_
      refine lo (lop_move (E rfl)) rfl ?_
      refine cw [(r10, .box 81 (rv l (n3) (e3)))] Try.call52 (rdr_unsigned r10 l hl hlt 1000 n3 hn3 e3) rfl ?_ ?_ ?_
      · (exact argsleT)
      · (exact stleT)
      rintro _ σ' ⟨rfl, rfl⟩ -
      (apply rs_sto; (exact nflT))
      unfold rv
      refine z59 ?_
      apply stp; rfl; rfl; rfl; rfl; (exact sputT)
      refine leT ?_
      (refine ctlT ?_)
      refine rgT ?_
      refine lo (lop_move (E rfl)) rfl ?_
      refine z76 ?_
      refine z59 ?_
      refine z60 ?_
      refine lo (lop_neq (E rfl) (E rfl)) rfl ?_
      refine leT ?_
      (refine ctlT ?_)
      refine sw_cond rfl (fun ge => ?_) (fun ge => ?_)
      · unfold fin at hG
        rw [ge] at hG
        simp only [if_true] at hG
        (refine ctlT ?_)
        refine rgD [(0, true), (1, true), (2, true), (3, true), (4, true), (5, false), (6, true), (7, true)] ?_
        refine z94 ?_
        refine dlo rfl (lop_move (E rfl)) rfl ?_
        refine z77 ?_
        refine z73 ?_
        refine z74 ?_
        refine z95 ?_
        refine dlo rfl (lop_assign (E rfl)) rfl ?_
        refine dlo rfl (lop_assign (E rfl)) rfl ?_
        refine deT ?_
        refine an ?_
        refine sw_virt_box (ks := [0, 2, 3, 4, 5, 6, 7, 18, 26, 32, 33, 38, 43, 50, 53, 54, 55, 67, 75, 79, 84, 93]) r2 3 3 1 (by decide) sgT rfl (by decide) fun qz hqz => ?_
        simp only [fresh_cons, fresh_nil, and_true] at hqz; (repeat (rcases hqz with ⟨_, hqz⟩))
        apply Exists.intro; apply And.intro; (exact ssetT)
        (refine ctlT ?_)
        (apply aend; (exact resT))
        · rw [hG]; exact ⟨qz, rfl, rfl⟩
        · (exact stleT)
      · unfold fin at hG
        rw [ge] at hG
        simp only [Bool.false_eq_true, if_false] at hG
        (refine ctlT ?_)
        refine rgD [(0, true), (1, true), (2, true), (3, true), (4, true), (5, false), (6, true), (7, true)] ?_
        refine z96 ?_
        refine dlo rfl (lop_move (E rfl)) rfl ?_
        refine z77 ?_
        refine z73 ?_
        refine z74 ?_
        refine z95 ?_
        refine dlo rfl (lop_assign (E rfl)) rfl ?_
        refine dlo rfl (lop_assign (E rfl)) rfl ?_
        refine deT ?_
        (refine ctlT ?_)
        (apply aend; (exact resT))
        · rw [hG]; exact ⟨p, rfl, rfl⟩
        · (exact stleT)
  (refine ctlT ?_)
  refine rgT ?_
  refine lo (lop_eql (E rfl) (E rfl)) rfl ?_
  refine lo (lop_assign (E rfl)) rfl ?_
  refine leT ?_
  (refine ctlT ?_)
  refine sw_cond rfl (fun g7 => ?_) (fun g7 => ?_)
  · (refine ctlT ?_)
    have hG : getP l = fin ⟨(c : Int), (rdU l 3 n1 e1).1, (rdU l 4294967295 (rdU l 3 n1 e1).2.1 (rdU l 3 n1 e1).2.2).1, []⟩ (rdU l 4294967295 (rdU l 3 n1 e1).2.1 (rdU l 3 n1 e1).2.2).2.1 (rdU l 4294967295 (rdU l 3 n1 e1).2.1 (rdU l 3 n1 e1).2.2).2.2 := by unfold getP getT; rw [hB]; simp only [g1, g2, g3, g4, g5, g6, g7, if_true, if_false, Bool.false_eq_true]
    have hn2 := rdU_bd (lim := 3) (e := e1) hn1
    refine rgT ?_
    refine lo (lop_move (E rfl)) rfl ?_
    refine cw [(r10, .box 81 (rv l (n1) (e1)))] Try.call52 (rdr_unsigned r10 l hl hlt 3 n1 hn1 e1) rfl ?_ ?_ ?_
    · (exact argsleT)
    · (exact stleT)
    rintro _ σ' ⟨rfl, rfl⟩ -
    (apply rs_sto; (exact nflT))
    unfold rv
    refine z59 ?_
    apply stp; rfl; rfl; rfl; rfl; (exact sputT)
    refine leT ?_
    (refine ctlT ?_)
    generalize rdU l 3 n1 e1 = u at *
    obtain ⟨a, n2, e2⟩ := u
    dsimp only at hn2 hG ⊢
    refine rgT ?_
    refine lo (lop_move (E rfl)) rfl ?_
    refine cw [(r10, .box 81 (rv l (n2) (e2)))] Try.call52 (rdr_unsigned r10 l hl hlt 4294967295 n2 hn2 e2) rfl ?_ ?_ ?_
    · (exact argsleT)
    · (exact stleT)
    rintro _ σ' ⟨rfl, rfl⟩ -
    (apply rs_sto; (exact nflT))
    unfold rv
    refine z59 ?_
    apply stp; rfl; rfl; rfl; rfl; (exact sputT)
    refine leT ?_
    (refine ctlT ?_)
    refine rgT ?_
    refine lo (lop_move (E rfl)) rfl ?_
    refine z76 ?_
    refine z59 ?_
    refine z60 ?_
    refine lo (lop_neq (E rfl) (E rfl)) rfl ?_
    refine leT ?_
    (refine ctlT ?_)
    refine sw_cond rfl (fun ge => ?_) (fun ge => ?_)
    · unfold fin at hG
      rw [ge] at hG
      simp only [if_true] at hG
      (refine ctlT ?_)
      refine rgD [(0, true), (1, true), (2, true), (3, true), (4, true), (5, false), (6, true), (7, true)] ?_
      refine z94 ?_
      refine dlo rfl (lop_move (E rfl)) rfl ?_
      refine z77 ?_
      refine z73 ?_
      refine z74 ?_
      refine z95 ?_
      refine dlo rfl (lop_assign (E rfl)) rfl ?_
      refine dlo rfl (lop_assign (E rfl)) rfl ?_
      refine deT ?_
      refine an ?_
      refine sw_virt_box (ks := [0, 2, 3, 4, 5, 6, 7, 18, 26, 32, 33, 38, 43, 50, 53, 54, 55, 67, 75, 79, 84, 93]) r2 3 3 1 (by decide) sgT rfl (by decide) fun qz hqz => ?_
      simp only [fresh_cons, fresh_nil, and_true] at hqz; (repeat (rcases hqz with ⟨_, hqz⟩))
      apply Exists.intro; apply And.intro; (exact ssetT)
      (refine ctlT ?_)
      (apply aend; (exact resT))
      · rw [hG]; exact ⟨qz, rfl, rfl⟩
      · (exact stleT)
    · unfold fin at hG
      rw [ge] at hG
      simp only [Bool.false_eq_true, if_false] at hG
      (refine ctlT ?_)
      refine rgD [(0, true), (1, true), (2, true), (3, true), (4, true), (5, false), (6, true), (7, true)] ?_
      refine z96 ?_
      refine dlo rfl (lop_move (E rfl)) rfl ?_
      refine z77 ?_
      refine z73 ?_
      refine z74 ?_
      refine z95 ?_
      refine dlo rfl (lop_assign (E rfl)) rfl ?_
      refine dlo rfl (lop_assign (E rfl)) rfl ?_
      refine deT ?_
      (refine ctlT ?_)
      (apply aend; (exact resT))
      · rw [hG]; exact ⟨q, rfl, rfl⟩
      · (exact stleT)
  (refine ctlT ?_)
  refine rgT ?_
  refine lo (lop_eql (E rfl) (E rfl)) rfl ?_
  refine lo (lop_assign (E rfl)) rfl ?_
  refine leT ?_
  (refine ctlT ?_)
  refine sw_cond rfl (fun g8 => ?_) (fun g8 => ?_)
  · (refine ctlT ?_)
    have hG : getP l = fin ⟨(c : Int), 0, 0, []⟩ (rdZ l n1 e1).1 (rdZ l n1 e1).2 := by unfold getP getT; rw [hB]; simp only [g1, g2, g3, g4, g5, g6, g7, g8, if_true, if_false, Bool.false_eq_true]
    refine rgT ?_
    refine lo (lop_move (E rfl)) rfl ?_
    refine cw [(r10, .box 81 (rv l (n1) (e1)))] Try.call53 (rdr_zero r10 l hl hlt n1 hn1 e1) rfl ?_ ?_ ?_
    · (exact argsleT)
    · (exact stleT)
    rintro _ σ' ⟨rfl, rfl⟩ -
    (apply rs_sto; (exact nflT))
    unfold rv
    refine leT ?_
    (refine ctlT ?_)
    refine rgT ?_
    refine lo (lop_move (E rfl)) rfl ?_
    refine z76 ?_
    refine z59 ?_
    refine z60 ?_
    refine lo (lop_neq (E rfl) (E rfl)) rfl ?_
    refine leT ?_
    (refine ctlT ?_)
    refine sw_cond rfl (fun ge => ?_) (fun ge => ?_)
    · unfold fin at hG
      rw [ge] at hG
      simp only [if_true] at hG
      (refine ctlT ?_)
      refine rgD [(0, true), (1, true), (2, true), (3, true), (4, true), (5, false), (6, true), (7, true)] ?_
      refine z94 ?_
      refine dlo rfl (lop_move (E rfl)) rfl ?_
      refine z77 ?_
      refine z73 ?_
      refine z74 ?_
      refine z95 ?_
      refine dlo rfl (lop_assign (E rfl)) rfl ?_
      refine dlo rfl (lop_assign (E rfl)) rfl ?_
      refine deT ?_
      refine an ?_
      refine sw_virt_box (ks := [0, 2, 3, 4, 5, 6, 7, 18, 26, 32, 33, 38, 43, 50, 53, 54, 55, 67, 75, 79, 84, 93]) r2 3 3 1 (by decide) sgT rfl (by decide) fun qz hqz => ?_
      simp only [fresh_cons, fresh_nil, and_true] at hqz; (repeat (rcases hqz with ⟨_, hqz⟩))
      apply Exists.intro; apply And.intro; (exact ssetT)
      (refine ctlT ?_)
      (apply aend; (exact resT))
      · rw [hG]; exact ⟨qz, rfl, rfl⟩
      · (exact stleT)
    · unfold fin at hG
      rw [ge] at hG
      simp only [Bool.false_eq_true, if_false] at hG
      (refine ctlT ?_)
      refine rgD [(0, true), (1, true), (2, true), (3, true), (4, true), (5, false), (6, true), (7, true)] ?_
      refine z96 ?_
      refine dlo rfl (lop_move (E rfl)) rfl ?_
      refine z77 ?_
      refine z73 ?_
      refine z74 ?_
      refine z95 ?_
      refine dlo rfl (lop_assign (E rfl)) rfl ?_
      refine dlo rfl (lop_assign (E rfl)) rfl ?_
      refine deT ?_
      (refine ctlT ?_)
      (apply aend; (exact resT))
      · rw [hG]; exact ⟨q, rfl, rfl⟩
      · (exact stleT)
  (refine ctlT ?_)
  refine rgT ?_
  refine lo (lop_eql (E rfl) (E rfl)) rfl ?_
  refine lo (lop_assign (E rfl)) rfl ?_
  refine leT ?_
  (refine ctlT ?_)
  refine sw_cond rfl (fun g9 => ?_) (fun g9 => ?_)
  · (refine ctlT ?_)
    have hG : getP l = fin ⟨(c : Int), (rdS l 32 n1).1, 0, []⟩ (rdS l 32 n1).2.1 (rdS l 32 n1).2.2 := by unfold getP getT; rw [hB]; simp only [g1, g2, g3, g4, g5, g6, g7, g8, g9, if_true, if_false, Bool.false_eq_true]
    refine rgT ?_
    refine lo (lop_move (E rfl)) rfl ?_
    refine cw [(r10, .box 81 (rv l (n1) (e1)))] Try.call54 (rdr_signed r10 l hl hlt 32 (.inl rfl) n1 hn1 e1) rfl ?_ ?_ ?_
    · (exact argsleT)
    · (exact stleT)
    rintro _ σ' ⟨rfl, rfl⟩ -
    (apply rs_sto; (exact nflT))
    unfold rv
    refine z59 ?_
    apply stp; rfl; rfl; rfl; rfl; (exact sputT)
    refine leT ?_
    (refine ctlT ?_)
    refine rgT ?_
    refine lo (lop_move (E rfl)) rfl ?_
    refine z76 ?_
    refine z59 ?_
    refine z60 ?_
    refine lo (lop_neq (E rfl) (E rfl)) rfl ?_
    refine leT ?_
    (refine ctlT ?_)
    refine sw_cond rfl (fun ge => ?_) (fun ge => ?_)
    · unfold fin at hG
      rw [ge] at hG
      simp only [if_true] at hG
      (refine ctlT ?_)
      refine rgD [(0, true), (1, true), (2, true), (3, true), (4, true), (5, false), (6, true), (7, true)] ?_
      refine z94 ?_
      refine dlo rfl (lop_move (E rfl)) rfl ?_
      refine z77 ?_
      refine z73 ?_
      refine z74 ?_
      refine z95 ?_
      refine dlo rfl (lop_assign (E rfl)) rfl ?_
      refine dlo rfl (lop_assign (E rfl)) rfl ?_
      refine deT ?_
      refine an ?_
      refine sw_virt_box (ks := [0, 2, 3, 4, 5, 6, 7, 18, 26, 32, 33, 38, 43, 50, 53, 54, 55, 67, 75, 79, 84, 93]) r2 3 3 1 (by decide) sgT rfl (by decide) fun qz hqz => ?_
      simp only [fresh_cons, fresh_nil, and_true] at hqz; (repeat (rcases hqz with ⟨_, hqz⟩))
      apply Exists.intro; apply And.intro; (exact ssetT)
      (refine ctlT ?_)
      (apply aend; (exact resT))
      · rw [hG]; exact ⟨qz, rfl, rfl⟩
      · (exact stleT)
    · unfold fin at hG
      rw [ge] at hG
      simp only [Bool.false_eq_true, if_false] at hG
      (refine ctlT ?_)
      refine rgD [(0, true), (1, true), (2, true), (3, true), (4, true), (5, false), (6, true), (7, true)] ?_
      refine z96 ?_
      refine dlo rfl (lop_move (E rfl)) rfl ?_
      refine z77 ?_
      refine z73 ?_
      refine z74 ?_
      refine z95 ?_
      refine dlo rfl (lop_assign (E rfl)) rfl ?_
      refine dlo rfl (lop_assign (E rfl)) rfl ?_
      refine deT ?_
      (refine ctlT ?_)
      (apply aend; (exact resT))
      · rw [hG]; exact ⟨q, rfl, rfl⟩
      · (exact stleT)
  (refine ctlT ?_)
  refine rgT ?_
  refine lo (lop_eql (E rfl) (E rfl)) rfl ?_
  refine lo (lop_assign (E rfl)) rfl ?_
  refine leT ?_
  (refine ctlT ?_)
  refine sw_cond rfl (fun g10 => ?_) (fun g10 => ?_)
  · (refine ctlT ?_)
    have hG : getP l = fin ⟨(c : Int), (rdS l 64 n1).1, 0, []⟩ (rdS l 64 n1).2.1 (rdS l 64 n1).2.2 := by unfold getP getT; rw [hB]; simp only [g1, g2, g3, g4, g5, g6, g7, g8, g9, g10, if_true, if_false, Bool.false_eq_true]
    refine rgT ?_
    refine lo (lop_move (E rfl)) rfl ?_
    refine cw [(r10, .box 81 (rv l (n1) (e1)))] Try.call54 (rdr_signed r10 l hl hlt 64 (.inr rfl) n1 hn1 e1) rfl ?_ ?_ ?_
    · (exact argsleT)
    · (exact stleT)
    rintro _ σ' ⟨rfl, rfl⟩ -
    (apply rs_sto; (exact nflT))
    unfold rv
    refine z59 ?_
    apply stp; rfl; rfl; rfl; rfl; (exact sputT)
    refine leT ?_
    (refine ctlT ?_)
    refine rgT ?_
    refine lo (lop_move (E rfl)) rfl ?_
    refine z76 ?_
    refine z59 ?_
    refine z60 ?_
    refine lo (lop_neq (E rfl) (E rfl)) rfl ?_
    refine leT ?_
    (refine ctlT ?_)
    refine sw_cond rfl (fun ge => ?_) (fun ge => ?_)
    · unfold fin at hG
      rw [ge] at hG
      simp only [if_true] at hG
      (refine ctlT ?_)
      refine rgD [(0, true), (1, true), (2, true), (3, true), (4, true), (5, false), (6, true), (7, true)] ?_
      refine z94 ?_
      refine dlo rfl (lop_move (E rfl)) rfl ?_
      refine z77 ?_
      refine z73 ?_
      refine z74 ?_
      refine z95 ?_
      refine dlo rfl (lop_assign (E rfl)) rfl ?_
      refine dlo rfl (lop_assign (E rfl)) rfl ?_
      refine deT ?_
      refine an ?_
      refine sw_virt_box (ks := [0, 2, 3, 4, 5, 6, 7, 18, 26, 32, 33, 38, 43, 50, 53, 54, 55, 67, 75, 79, 84, 93]) r2 3 3 1 (by decide) sgT rfl (by decide) fun qz hqz => ?_
      simp only [fresh_cons, fresh_nil, and_true] at hqz; (repeat (rcases hqz with ⟨_, hqz⟩))
      apply Exists.intro; apply And.intro; (exact ssetT)
      (refine ctlT ?_)
      (apply aend; (exact resT))
      · rw [hG]; exact ⟨qz, rfl, rfl⟩
      · (exact stleT)
    · unfold fin at hG
      rw [ge] at hG
      simp only [Bool.false_eq_true, if_false] at hG
      (refine ctlT ?_)
      refine rgD [(0, true), (1, true), (2, true), (3, true), (4, true), (5, false), (6, true), (7, true)] ?_
      refine z96 ?_
      refine dlo rfl (lop_move (E rfl)) rfl ?_
      refine z77 ?_
      refine z73 ?_
      refine z74 ?_
      refine z95 ?_
      refine dlo rfl (lop_assign (E rfl)) rfl ?_
      refine dlo rfl (lop_assign (E rfl)) rfl ?_
      refine deT ?_
      (refine ctlT ?_)
      (apply aend; (exact resT))
      · rw [hG]; exact ⟨q, rfl, rfl⟩
      · (exact stleT)
  (refine ctlT ?_)
  have hG : getP l = fin ⟨(c : Int), 0, 0, []⟩ n1 e1 := by unfold getP getT; rw [hB]; simp only [g1, g2, g3, g4, g5, g6, g7, g8, g9, g10, if_true, if_false, Bool.false_eq_true]
  refine rgT ?_
  refine lo (lop_move (E rfl)) rfl ?_
  refine z76 ?_
  refine z59 ?_
  refine z60 ?_
  refine lo (lop_neq (E rfl) (E rfl)) rfl ?_
  refine leT ?_
  (refine ctlT ?_)
  refine sw_cond rfl (fun ge => ?_) (fun ge => ?_)
  · unfold fin at hG
    rw [ge] at hG
    simp only [if_true] at hG
    (refine ctlT ?_)
    refine rgD [(0, true), (1, true), (2, true), (3, true), (4, true), (5, false), (6, true), (7, true)] ?_
    refine z94 ?_
    refine dlo rfl (lop_move (E rfl)) rfl ?_
    refine z77 ?_
    refine z73 ?_
    refine z74 ?_
    refine z95 ?_
    refine dlo rfl (lop_assign (E rfl)) rfl ?_
    refine dlo rfl (lop_assign (E rfl)) rfl ?_
    refine deT ?_
    refine an ?_
    refine sw_virt_box (ks := [0, 2, 3, 4, 5, 6, 7, 18, 26, 32, 33, 38, 43, 50, 53, 54, 55, 67, 75, 79, 84, 93]) r2 3 3 1 (by decide) sgT rfl (by decide) fun qz hqz => ?_
    simp only [fresh_cons, fresh_nil, and_true] at hqz; (repeat (rcases hqz with ⟨_, hqz⟩))
    apply Exists.intro; apply And.intro; (exact ssetT)
    (refine ctlT ?_)
    (apply aend; (exact resT))
    · rw [hG]; exact ⟨qz, rfl, rfl⟩
    · (exact stleT)
  · unfold fin at hG
    rw [ge] at hG
    simp only [Bool.false_eq_true, if_false] at hG
    (refine ctlT ?_)
    refine rgD [(0, true), (1, true), (2, true), (3, true), (4, true), (5, false), (6, true), (7, true)] ?_
    refine z96 ?_
    refine dlo rfl (lop_move (E rfl)) rfl ?_
    refine z77 ?_
    refine z73 ?_
    refine z74 ?_
    refine z95 ?_
    refine dlo rfl (lop_assign (E rfl)) rfl ?_
    refine dlo rfl (lop_assign (E rfl)) rfl ?_
    refine deT ?_
    (refine ctlT ?_)
    (apply aend; (exact resT))
    · rw [hG]; exact ⟨q, rfl, rfl⟩
    · (exact stleT)
end Go.Proofs.Ytkjfflabapeidaa
