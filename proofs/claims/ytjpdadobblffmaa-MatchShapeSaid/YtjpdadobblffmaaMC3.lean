import Derived.Test.YtjpdadobblffmaaMC2
import Derived.Test.YtjpdadobblffmaaMC1
import Derived.ChangeOld
import Derived.WalkKit
import Derived.ProofKit
import Derived.OpenShut
import Derived.MapKept
import Derived.Carry
set_option linter.unusedSimpArgs false
set_option linter.unusedVariables false
/-
  The program's Get.
-/
namespace Go.Proofs.Ytjpdadobblffmaa
open Go.RowKit Go.ChangeShapes Go.WideShapes Go.ChangeAt Go.Deep
attribute [local irreducible] SW RS RD AThen ABlock
def io (q : Nat) (x : Ins) : List AV := [.int .i64 x.op, .int .i64 x.a, .int .i64 x.b, .own q 0 x.l.length]
def ins0 : Ins := ⟨0, 0, 0, []⟩
/-- m numbers, one behind the other -/
def rdL (l : List Nat) : Nat → Nat → Int → List Int × Nat × Int
  | 0, n, e => ([], n, e)
  | m + 1, n, e => (((rdL l m n e).1 ++ [((rdU l 1000 (rdL l m n e).2.1 (rdL l m n e).2.2).1 : Int)]), (rdU l 1000 (rdL l m n e).2.1 (rdL l m n e).2.2).2)
def fin (x : Ins) (n : Nat) (e : Int) : Ins × Nat × Int := if (e != 0) = true then (ins0, 0, e) else (x, n, 0)
/-- what stands behind the byte -/
def getT (l : List Nat) (op : Int) (n : Nat) (e : Int) : Ins × Nat × Int :=
  if (formN op == 2) = true then fin ⟨op, (rdK l n e).1, 0, []⟩ (rdK l n e).2.1 (rdK l n e).2.2
  else if (formN op == 3) = true then fin ⟨op, (rdU l 1000 n e).1, 0, []⟩ (rdU l 1000 n e).2.1 (rdU l 1000 n e).2.2
  else if (formN op == 5) = true then fin ⟨op, (rdU l 1000 n e).1, 0, []⟩ (rdZ l (rdU l 1000 n e).2.1 (rdU l 1000 n e).2.2).1 (rdZ l (rdU l 1000 n e).2.1 (rdU l 1000 n e).2.2).2
  else if (formN op == 4) = true then
    let u := rdU l 50 n e
    let w := rdL l u.1 u.2.1 u.2.2
    let v := rdU l 1000 w.2.1 w.2.2
    fin ⟨op, v.1, 0, w.1⟩ v.2.1 v.2.2
  else if (formN op == 6) = true then
    let u := rdU l 3 n e
    let v := rdU l 4294967295 u.2.1 u.2.2
    fin ⟨op, u.1, v.1, []⟩ v.2.1 v.2.2
  else if (formN op == 7) = true then fin ⟨op, 0, 0, []⟩ (rdZ l n e).1 (rdZ l n e).2
  else if (formN op == 8) = true then fin ⟨op, (rdS l 32 n).1, 0, []⟩ (rdS l 32 n).2.1 (rdS l 32 n).2.2
  else if (formN op == 9) = true then fin ⟨op, (rdS l 64 n).1, 0, []⟩ (rdS l 64 n).2.1 (rdS l 64 n).2.2
  else fin ⟨op, 0, 0, []⟩ n e
def getP (l : List Nat) : Ins × Nat × Int :=
  if (formN ((rdB l 0 0).1 : Nat) == 0) = true then (ins0, 0, 1)
  else if ((rdB l 0 0).2.2 != 0) = true then (ins0, 0, (rdB l 0 0).2.2)
  else getT l ((rdB l 0 0).1 : Nat) (rdB l 0 0).2.1 (rdB l 0 0).2.2
theorem rdB_bd {l : List Nat} {n : Nat} {e : Int} (h : n ≤ l.length) : (rdB l n e).2.1 ≤ l.length := by
  unfold rdB
  split
  · exact h
  · split
    · exact h
    · next h1 => simp at h1 ⊢; omega
theorem rdU_bd {l : List Nat} {lim : Int} {n : Nat} {e : Int} (h : n ≤ l.length) : (rdU l lim n e).2.1 ≤ l.length := by
  have h1 := (getU_bd (l.drop n)).2.1
  rw [List.length_drop] at h1
  unfold rdU
  repeat' split
  all_goals first | exact h | (simp; omega)
theorem rdU_le {l : List Nat} {lim : Int} {n : Nat} {e : Int} (h : 0 ≤ lim) : ((rdU l lim n e).1 : Int) ≤ lim := by
  unfold rdU
  split
  · exact h
  · split
    · exact h
    · split
      · exact h
      · next h1 => simp at h1 ⊢; omega
theorem rdL_bd {l : List Nat} : ∀ {m n : Nat} {e : Int}, n ≤ l.length → (rdL l m n e).2.1 ≤ l.length
  | 0, _, _, h => h
  | _ + 1, _, _, h => rdU_bd (rdL_bd h)
theorem rdL_len {l : List Nat} : ∀ {m n : Nat} {e : Int}, (rdL l m n e).1.length = m
  | 0, _, _ => rfl
  | m + 1, n, e => by rw [rdL]; simp [rdL_len (m := m)]
set_option maxRecDepth 100000 in
theorem instr_get (l : List Nat) (hl : l.length ≤ 1000000) (hlt : ∀ x ∈ l, x < 256) : SCall Try.prog 12 [.ro 1 (l.map encU) .any] []
    (fun y σ => ∃ q, y = .tup [.agg (io q (getP l).1), .int .i64 ((getP l).2.1 : Nat), .int .i64 (getP l).2.2] ∧ σ = [(q, .arr 3 1 ((getP l).1.l.map encI))]) := by
  refine scall_of (n := 104) (ks := [0, 2, 3, 4, 5, 6, 7, 18, 26, 32, 33, 38, 43, 50, 53, 54, 55, 67, 75, 79, 84, 93]) Try.func12 rfl rfl (Nat.le_of_ble_eq_true rfl) ?_
  (refine ctlT ?_)
  refine rgT ?_
  apply al; rfl; (exact zcT); refine freshT fun r2 h2 => ?_; (repeat (rcases h2 with ⟨_, h2⟩))
  refine lo (lop_assign (E rfl)) rfl ?_
  refine lo (lop_assign (E rfl)) rfl ?_
  refine leT ?_
  (refine ctlT ?_)
  refine rgT ?_
  refine lo (lop_move (E rfl)) rfl ?_
  refine z93 ?_
  apply bx; rfl; rfl; (exact zcT); rfl; refine freshT fun r10 h10 => ?_; (repeat (rcases h10 with ⟨_, h10⟩))
  refine lo (lop_assign (E rfl)) rfl ?_
  refine leT ?_
  (refine ctlT ?_)
  refine rgT ?_
  refine lo (lop_move (E rfl)) rfl ?_
  refine cw [(r10, .box 52 (rv l (0) (0)))] Try.call16 (rdr_byte r10 l hl hlt 0 (by omega) 0) rfl ?_ ?_ ?_
  · (exact argsleT)
  · (exact stleT)
  rintro _ σ' ⟨rfl, rfl⟩ -
  (apply rs_sto; (exact nflT))
  unfold rv
  refine z93 ?_
  apply al; rfl; (exact zcT); refine freshT fun r6 h6 => ?_; (repeat (rcases h6 with ⟨_, h6⟩))
  apply stp; rfl; rfl; rfl; rfl; (exact sputT)
  refine leT ?_
  refine an ?_
  refine sw_virt_box (ks := [0, 2, 3, 4, 5, 6, 7, 18, 26, 32, 33, 38, 43, 50, 53, 54, 55, 67, 75, 79, 84, 93]) r6 3 3 1 (by decide) sgT rfl (by decide) fun q hq => ?_
  simp only [fresh_cons, fresh_nil, and_true] at hq; (repeat (rcases hq with ⟨_, hq⟩))
  apply Exists.intro; apply And.intro; (exact ssetT)
  (refine ctlT ?_)
  have hn1 := rdB_bd (l := l) (n := 0) (e := 0) (by omega)
  generalize hB : rdB l 0 0 = bb at *
  obtain ⟨c, n1, e1⟩ := bb
  dsimp only at hn1 ⊢
  rw [show ([AV.int .i64 (c : Int), .int .i64 0, .int .i64 0, .ro 0 [] .nil].set 3 (.own q 0 0)) = [.int .i64 (c : Int), .int .i64 0, .int .i64 0, .own q 0 0] from rfl]
  refine rgT ?_
  refine z59 ?_
  refine z60 ?_
  (first | refine ln rfl rfl rfl rfl ?_ | refine lw rfl rfl (lop_no (v := .bool false)) rfl ?_ | refine pu [] Try.call13 (instr_formN _) rfl argsT nofT ?_ | refine pug [] rfl rfl Try.call13 (fun _ => (instr_formN _)) rfl argsT nofT ?_ | refine puw [] rfl rfl Try.call13 (fun _ => (instr_formN _)) rfl argsT nofT ?_)
  refine lo (lop_assign (E rfl)) rfl ?_
  refine leT ?_
  (refine ctlT ?_)
  refine rgT ?_
  refine lo (lop_move (E rfl)) rfl ?_
  refine lo (lop_eql (E rfl) (E rfl)) rfl ?_
  refine leT ?_
  (refine ctlT ?_)
  refine sw_cond rfl (fun g1 => ?_) (fun g1 => ?_)
  · (refine ctlT ?_)
    have hG : getP l = (ins0, 0, 1) := by unfold getP; rw [hB]; simp only [g1, if_true]
    refine rgT ?_
    refine lo (lop_move (E rfl)) rfl ?_
    refine z76 ?_
    refine z59 ?_
    apply stp; rfl; rfl; rfl; rfl; (exact sputT)
    refine leT ?_
    (refine ctlT ?_)
    refine rgT ?_
    refine lo (lop_move (E rfl)) rfl ?_
    refine z76 ?_
    refine z59 ?_
    refine z60 ?_
    refine lo (lop_neq (E rfl) (E rfl)) rfl ?_
    refine leT ?_
    (refine ctlT ?_)
    refine rgD [(0, true), (1, true), (2, true), (3, true), (4, true), (5, false), (6, true), (7, true)] ?_
    refine z94 ?_
    refine dlo rfl (lop_move (E rfl)) rfl ?_
    refine z77 ?_
    refine z73 ?_
    refine z74 ?_
    refine z95 ?_
    refine dlo rfl (lop_assign (E rfl)) rfl ?_
    refine dlo rfl (lop_assign (E rfl)) rfl ?_
    refine deT ?_
    refine an ?_
    refine sw_virt_box (ks := [0, 2, 3, 4, 5, 6, 7, 18, 26, 32, 33, 38, 43, 50, 53, 54, 55, 67, 75, 79, 84, 93]) r2 3 3 1 (by decide) sgT rfl (by decide) fun qz hqz => ?_
    simp only [fresh_cons, fresh_nil, and_true] at hqz; (repeat (rcases hqz with ⟨_, hqz⟩))
    apply Exists.intro; apply And.intro; (exact ssetT)
    (refine ctlT ?_)
    (apply aend; (exact resT))
    · rw [hG]; exact ⟨qz, rfl, rfl⟩
    · (exact stleT)
  (refine ctlT ?_)
  refine rgT ?_
  refine lo (lop_move (E rfl)) rfl ?_
  refine z76 ?_
  refine z59 ?_
  refine z60 ?_
  refine lo (lop_neq (E rfl) (E rfl)) rfl ?_
  refine leT ?_
  (refine ctlT ?_)
  refine sw_cond rfl (fun g2 => ?_) (fun g2 => ?_)
  · (refine ctlT ?_)
    have hG : getP l = (ins0, 0, e1) := by unfold getP; rw [hB]; simp only [g1, g2, if_true, if_false, Bool.false_eq_true]
    refine rgD [(0, true), (1, true), (2, true), (3, true), (4, true), (5, false), (6, true), (7, true)] ?_
    refine z94 ?_
    refine dlo rfl (lop_move (E rfl)) rfl ?_
    refine z77 ?_
    refine z73 ?_
    refine z74 ?_
    refine z95 ?_
    refine dlo rfl (lop_assign (E rfl)) rfl ?_
    refine dlo rfl (lop_assign (E rfl)) rfl ?_
    refine deT ?_
    refine an ?_
    refine sw_virt_box (ks := [0, 2, 3, 4, 5, 6, 7, 18, 26, 32, 33, 38, 43, 50, 53, 54, 55, 67, 75, 79, 84, 93]) r2 3 3 1 (by decide) sgT rfl (by decide) fun qz hqz => ?_
    simp only [fresh_cons, fresh_nil, and_true] at hqz; (repeat (rcases hqz with ⟨_, hqz⟩))
    apply Exists.intro; apply And.intro; (exact ssetT)
    (refine ctlT ?_)
    (apply aend; (exact resT))
    · rw [hG]; exact ⟨qz, rfl, rfl⟩
    · (exact stleT)
  (refine ctlT ?_)
  refine rgT ?_
  refine lo (lop_move (E rfl)) rfl ?_
  refine leT ?_
  (refine ctlT ?_)
  refine rgT ?_
  refine lo (lop_eql (E rfl) (E rfl)) rfl ?_
  refine lo (lop_assign (E rfl)) rfl ?_
  refine leT ?_
  (refine ctlT ?_)
  refine sw_cond rfl (fun g3 => ?_) (fun g3 => ?_)
  · (refine ctlT ?_)
    have hG : getP l = fin ⟨(c : Int), (rdK l n1 e1).1, 0, []⟩ (rdK l n1 e1).2.1 (rdK l n1 e1).2.2 := by unfold getP getT; rw [hB]; simp only [g1, g2, g3, if_true, if_false, Bool.false_eq_true]
    refine rgT ?_
    refine lo (lop_move (E rfl)) rfl ?_
    refine cw [(r10, .box 52 (rv l (n1) (e1)))] Try.call17 (rdr_kind r10 l hl hlt n1 hn1 e1) rfl ?_ ?_ ?_
    · (exact argsleT)
    · (exact stleT)
    rintro _ σ' ⟨rfl, rfl⟩ -
    (apply rs_sto; (exact nflT))
    unfold rv
    refine z59 ?_
    apply stp; rfl; rfl; rfl; rfl; (exact sputT)
    refine leT ?_
    (refine ctlT ?_)
    refine rgT ?_
    refine lo (lop_move (E rfl)) rfl ?_
    refine z76 ?_
    refine z59 ?_
    refine z60 ?_
    refine lo (lop_neq (E rfl) (E rfl)) rfl ?_
    refine leT ?_
    (refine ctlT ?_)
    refine sw_cond rfl (fun ge => ?_) (fun ge => ?_)
    · unfold fin at hG
      rw [ge] at hG
      simp only [if_true] at hG
      (refine ctlT ?_)
      refine rgD [(0, true), (1, true), (2, true), (3, true), (4, true), (5, false), (6, true), (7, true)] ?_
      refine z94 ?_
      refine dlo rfl (lop_move (E rfl)) rfl ?_
      refine z77 ?_
      refine z73 ?_
      refine z74 ?_
      refine z95 ?_
      refine dlo rfl (lop_assign (E rfl)) rfl ?_
      refine dlo rfl (lop_assign (E rfl)) rfl ?_
      refine deT ?_
      refine an ?_
      refine sw_virt_box (ks := [0, 2, 3, 4, 5, 6, 7, 18, 26, 32, 33, 38, 43, 50, 53, 54, 55, 67, 75, 79, 84, 93]) r2 3 3 1 (by decide) sgT rfl (by decide) fun qz hqz => ?_
      simp only [fresh_cons, fresh_nil, and_true] at hqz; (repeat (rcases hqz with ⟨_, hqz⟩))
      apply Exists.intro; apply And.intro; (exact ssetT)
      (refine ctlT ?_)
      (apply aend; (exact resT))
      · rw [hG]; exact ⟨qz, rfl, rfl⟩
      · (exact stleT)
    · unfold fin at hG
      rw [ge] at hG
      simp only [Bool.false_eq_true, if_false] at hG
      (refine ctlT ?_)
      refine rgD [(0, true), (1, true), (2, true), (3, true), (4, true), (5, false), (6, true), (7, true)] ?_
      refine z96 ?_
      refine dlo rfl (lop_move (E rfl)) rfl ?_
      refine z77 ?_
      refine z73 ?_
      refine z74 ?_
      refine z95 ?_
      refine dlo rfl (lop_assign (E rfl)) rfl ?_
      refine dlo rfl (lop_assign (E rfl)) rfl ?_
      refine deT ?_
      (refine ctlT ?_)
      (apply aend; (exact resT))
      · rw [hG]; exact ⟨q, rfl, rfl⟩
      · (exact stleT)
  (refine ctlT ?_)
  refine rgT ?_
  refine lo (lop_eql (E rfl) (E rfl)) rfl ?_
  refine lo (lop_assign (E rfl)) rfl ?_
  refine leT ?_
  (refine ctlT ?_)
  refine sw_cond rfl (fun g4 => ?_) (fun g4 => ?_)
  · (refine ctlT ?_)
    have hG : getP l = fin ⟨(c : Int), (rdU l 1000 n1 e1).1, 0, []⟩ (rdU l 1000 n1 e1).2.1 (rdU l 1000 n1 e1).2.2 := by unfold getP getT; rw [hB]; simp only [g1, g2, g3, g4, if_true, if_false, Bool.false_eq_true]
    refine rgT ?_
    refine lo (lop_move (E rfl)) rfl ?_
    refine cw [(r10, .box 52 (rv l (n1) (e1)))] Try.call18 (rdr_unsigned r10 l hl hlt 1000 n1 hn1 e1) rfl ?_ ?_ ?_
    · (exact argsleT)
    · (exact stleT)
    rintro _ σ' ⟨rfl, rfl⟩ -
    (apply rs_sto; (exact nflT))
    unfold rv
    refine z59 ?_
    apply stp; rfl; rfl; rfl; rfl; (exact sputT)
    refine leT ?_
    (refine ctlT ?_)
    refine rgT ?_
    refine lo (lop_move (E rfl)) rfl ?_
    refine z76 ?_
    refine z59 ?_
    refine z60 ?_
    refine lo (lop_neq (E rfl) (E rfl)) rfl ?_
    refine leT ?_
    (refine ctlT ?_)
    refine sw_cond rfl (fun ge => ?_) (fun ge => ?_)
    · unfold fin at hG
      rw [ge] at hG
      simp only [if_true] at hG
      (refine ctlT ?_)
      refine rgD [(0, true), (1, true), (2, true), (3, true), (4, true), (5, false), (6, true), (7, true)] ?_
      refine z94 ?_
      refine dlo rfl (lop_move (E rfl)) rfl ?_
      refine z77 ?_
      refine z73 ?_
      refine z74 ?_
      refine z95 ?_
      refine dlo rfl (lop_assign (E rfl)) rfl ?_
      refine dlo rfl (lop_assign (E rfl)) rfl ?_
      refine deT ?_
      refine an ?_
      refine sw_virt_box (ks := [0, 2, 3, 4, 5, 6, 7, 18, 26, 32, 33, 38, 43, 50, 53, 54, 55, 67, 75, 79, 84, 93]) r2 3 3 1 (by decide) sgT rfl (by decide) fun qz hqz => ?_
      simp only [fresh_cons, fresh_nil, and_true] at hqz; (repeat (rcases hqz with ⟨_, hqz⟩))
      apply Exists.intro; apply And.intro; (exact ssetT)
      (refine ctlT ?_)
      (apply aend; (exact resT))
      · rw [hG]; exact ⟨qz, rfl, rfl⟩
      · (exact stleT)
    · unfold fin at hG
      rw [ge] at hG
      simp only [Bool.false_eq_true, if_false] at hG
      (refine ctlT ?_)
      refine rgD [(0, true), (1, true), (2, true), (3, true), (4, true), (5, false), (6, true), (7, true)] ?_
      refine z96 ?_
      refine dlo rfl (lop_move (E rfl)) rfl ?_
      refine z77 ?_
      refine z73 ?_
      refine z74 ?_
      refine z95 ?_
      refine dlo rfl (lop_assign (E rfl)) rfl ?_
      refine dlo rfl (lop_assign (E rfl)) rfl ?_
      refine deT ?_
      (refine ctlT ?_)
      (apply aend; (exact resT))
      · rw [hG]; exact ⟨q, rfl, rfl⟩
      · (exact stleT)
  (refine ctlT ?_)
  refine rgT ?_
  refine lo (lop_eql (E rfl) (E rfl)) rfl ?_
  refine lo (lop_assign (E rfl)) rfl ?_
  refine leT ?_
  (refine ctlT ?_)
  refine sw_cond rfl (fun g5 => ?_) (fun g5 => ?_)
  · (refine ctlT ?_)
    have hG : getP l = fin ⟨(c : Int), (rdU l 1000 n1 e1).1, 0, []⟩ (rdZ l (rdU l 1000 n1 e1).2.1 (rdU l 1000 n1 e1).2.2).1 (rdZ l (rdU l 1000 n1 e1).2.1 (rdU l 1000 n1 e1).2.2).2 := by unfold getP getT; rw [hB]; simp only [g1, g2, g3, g4, g5, if_true, if_false, Bool.false_eq_true]
    have hn2 := rdU_bd (lim := 1000) (e := e1) hn1
    refine rgT ?_
    refine lo (lop_move (E rfl)) rfl ?_
    refine cw [(r10, .box 52 (rv l (n1) (e1)))] Try.call18 (rdr_unsigned r10 l hl hlt 1000 n1 hn1 e1) rfl ?_ ?_ ?_
    · (exact argsleT)
    · (exact stleT)
    rintro _ σ' ⟨rfl, rfl⟩ -
    (apply rs_sto; (exact nflT))
    unfold rv
    refine z59 ?_
    apply stp; rfl; rfl; rfl; rfl; (exact sputT)
    refine leT ?_
    (refine ctlT ?_)
    generalize rdU l 1000 n1 e1 = u at *
    obtain ⟨a, n2, e2⟩ := u
    dsimp only at hn2 hG ⊢
    refine rgT ?_
    refine lo (lop_move (E rfl)) rfl ?_
    refine cw [(r10, .box 52 (rv l (n2) (e2)))] Try.call19 (rdr_zero r10 l hl hlt n2 hn2 e2) rfl ?_ ?_ ?_
    · (exact argsleT)
    · (exact stleT)
    rintro _ σ' ⟨rfl, rfl⟩ -
    (apply rs_sto; (exact nflT))
    unfold rv
    refine leT ?_
    (refine ctlT ?_)
    refine rgT ?_
    refine lo (lop_move (E rfl)) rfl ?_
    refine z76 ?_
    refine z59 ?_
    refine z60 ?_
    refine lo (lop_neq (E rfl) (E rfl)) rfl ?_
    refine leT ?_
    (refine ctlT ?_)
    refine sw_cond rfl (fun ge => ?_) (fun ge => ?_)
    · unfold fin at hG
      rw [ge] at hG
      simp only [if_true] at hG
      (refine ctlT ?_)
      refine rgD [(0, true), (1, true), (2, true), (3, true), (4, true), (5, false), (6, true), (7, true)] ?_
      refine z94 ?_
      refine dlo rfl (lop_move (E rfl)) rfl ?_
      refine z77 ?_
      refine z73 ?_
      refine z74 ?_
      refine z95 ?_
      refine dlo rfl (lop_assign (E rfl)) rfl ?_
      refine dlo rfl (lop_assign (E rfl)) rfl ?_
      refine deT ?_
      refine an ?_
      refine sw_virt_box (ks := [0, 2, 3, 4, 5, 6, 7, 18, 26, 32, 33, 38, 43, 50, 53, 54, 55, 67, 75, 79, 84, 93]) r2 3 3 1 (by decide) sgT rfl (by decide) fun qz hqz => ?_
      simp only [fresh_cons, fresh_nil, and_true] at hqz; (repeat (rcases hqz with ⟨_, hqz⟩))
      apply Exists.intro; apply And.intro; (exact ssetT)
      (refine ctlT ?_)
      (apply aend; (exact resT))
      · rw [hG]; exact ⟨qz, rfl, rfl⟩
      · (exact stleT)
    · unfold fin at hG
      rw [ge] at hG
      simp only [Bool.false_eq_true, if_false] at hG
      (refine ctlT ?_)
      refine rgD [(0, true), (1, true), (2, true), (3, true), (4, true), (5, false), (6, true), (7, true)] ?_
      refine z96 ?_
      refine dlo rfl (lop_move (E rfl)) rfl ?_
      refine z77 ?_
      refine z73 ?_
      refine z74 ?_
      refine z95 ?_
      refine dlo rfl (lop_assign (E rfl)) rfl ?_
      refine dlo rfl (lop_assign (E rfl)) rfl ?_
      refine deT ?_
      (refine ctlT ?_)
      (apply aend; (exact resT))
      · rw [hG]; exact ⟨q, rfl, rfl⟩
      · (exact stleT)
  (refine ctlT ?_)
  refine rgT ?_
  refine lo (lop_eql (E rfl) (E rfl)) rfl ?_
  refine lo (lop_assign (E rfl)) rfl ?_
  refine leT ?_
  (refine ctlT ?_)
  refine sw_cond rfl (fun g6 => ?_) (fun g6 => ?_)
  · (refine ctlT ?_)
    have hG : getP l = fin ⟨(c : Int), (rdU l 1000 (rdL l (rdU l 50 n1 e1).1 (rdU l 50 n1 e1).2.1 (rdU l 50 n1 e1).2.2).2.1 (rdL l (rdU l 50 n1 e1).1 (rdU l 50 n1 e1).2.1 (rdU l 50 n1 e1).2.2).2.2).1, 0, (rdL l (rdU l 50 n1 e1).1 (rdU l 50 n1 e1).2.1 (rdU l 50 n1 e1).2.2).1⟩ (rdU l 1000 (rdL l (rdU l 50 n1 e1).1 (rdU l 50 n1 e1).2.1 (rdU l 50 n1 e1).2.2).2.1 (rdL l (rdU l 50 n1 e1).1 (rdU l 50 n1 e1).2.1 (rdU l 50 n1 e1).2.2).2.2).2.1 (rdU l 1000 (rdL l (rdU l 50 n1 e1).1 (rdU l 50 n1 e1).2.1 (rdU l 50 n1 e1).2.2).2.1 (rdL l (rdU l 50 n1 e1).1 (rdU l 50 n1 e1).2.1 (rdU l 50 n1 e1).2.2).2.2).2.2 := by unfold getP getT; rw [hB]; simp only [g1, g2, g3, g4, g5, g6, if_true, if_false, Bool.false_eq_true]
    have hn2 := rdU_bd (lim := 50) (e := e1) hn1
    have hm50 := rdU_le (l := l) (lim := 50) (n := n1) (e := e1) (by omega)
    refine rgT ?_
    refine lo (lop_move (E rfl)) rfl ?_
    refine cw [(r10, .box 52 (rv l (n1) (e1)))] Try.call18 (rdr_unsigned r10 l hl hlt 50 n1 hn1 e1) rfl ?_ ?_ ?_
    · (exact argsleT)
    · (exact stleT)
    rintro _ σ' ⟨rfl, rfl⟩ -
    (apply rs_sto; (exact nflT))
    unfold rv
    refine lo (lop_move (E rfl)) rfl ?_
    refine leT ?_
    (refine ctlT ?_)
    generalize rdU l 50 n1 e1 = u at *
    obtain ⟨m, n2, e2⟩ := u
    dsimp only at hn2 hm50 hG ⊢
    refine lp (β := Nat × Nat) (fun b => ⟨[(2, .ptr r2 0), (5, .ptr r10 0), (6, .ptr r6 0), (53, .int .i64 m), (54, .int .i64 b.2)], [(b.1, .arr 3 1 ((rdL l b.2 n2 e2).1.map encI)), (r6, .box 27 [.int .i64 c, .int .i64 0, .int .i64 0, .own b.1 0 (rdL l b.2 n2 e2).1.length]), (r10, .box 52 (rv l (rdL l b.2 n2 e2).2.1 (rdL l b.2 n2 e2).2.2)), (r2, .box 27 [.int .i64 0, .int .i64 0, .int .i64 0, .ro 0 [] .nil])]⟩) (fun b => (Nq b.1 r6 ∧ Nq b.1 r10 ∧ Nq b.1 r2) ∧ b.2 ≤ m) (fun b => m - b.2) (q, 0) (by (exact sgoT)) ⟨⟨by (exact nqT), by (exact nqT), by (exact nqT)⟩, Nat.zero_le _⟩ ?_
    rintro ⟨p, j⟩ ⟨⟨hp1, hp2, hp3⟩, hj⟩
    dsimp only at hp1 hp2 hp3 hj ⊢
    have hn3 := rdL_bd (m := j) (e := e2) hn2
    have hlen := rdL_len (l := l) (m := j) (n := n2) (e := e2)
    have hstep : rdL l (j + 1) n2 e2 = (((rdL l j n2 e2).1 ++ [((rdU l 1000 (rdL l j n2 e2).2.1 (rdL l j n2 e2).2.2).1 : Int)]), (rdU l 1000 (rdL l j n2 e2).2.1 (rdL l j n2 e2).2.2).2) := rfl
    generalize hW : rdL l j n2 e2 = w at hn3 hlen hstep ⊢
    obtain ⟨L, n3, e3⟩ := w
    dsimp only at hn3 hlen hstep ⊢
    unfold rv
    (refine ctlT ?_)
    refine rgT ?_
    refine lo (lop_lss (E rfl) (E rfl)) rfl ?_
    refine leT ?_
    (refine ctlT ?_)
    refine sw_cond rfl (fun h1 => ?_) (fun h1 => ?_)
    · have hlt2 : j < m := by simp at h1; omega
      (refine ctlT ?_)
      refine rgD [(0, true), (1, true), (2, true), (3, false), (4, false), (5, false), (6, true), (7, false)] ?_
      refine z73 ?_
      refine z74 ?_
      refine dlo rfl (lop_move (E rfl)) rfl ?_
      refine dcw [(r10, .box 52 (rv l n3 e3))] rfl Try.call18 (rdr_unsigned r10 l hl hlt 1000 n3 hn3 e3) rfl ?_ ?_ ?_ ?_
      · (exact argsleT)
      · (exact stleT)
      · (exact hbtT)
      rintro _ σ' ⟨rfl, rfl⟩ -
      (apply rd_sto; (exact nflT))
      unfold rv
      generalize rdU l 1000 n3 e3 = u at hstep ⊢
      obtain ⟨v, n4, e4⟩ := u
      dsimp only at hstep ⊢
      refine z97 ?_; refine freshT fun r60 h60 => ?_; (repeat (rcases h60 with ⟨_, h60⟩))
      apply dap (es' := (L ++ [(v : Int)]).map encI) (len' := (L ++ [(v : Int)]).length); rfl; infer_instance; infer_instance; rfl; rfl; (exact sgT)
      · simp
      · exact .inr (.inr ⟨_, _, _, _, _, rfl, sgT, by simp, rfl⟩)
      · simp [encI]
      · simp
      · simp [maxLen]; omega
      · simp; omega
      · rfl
      · (exact hbtT)
      refine apnT fun r61 h61 => ?_; (repeat (rcases h61 with ⟨_, h61⟩))
      refine z73 ?_
      refine z95 ?_
      refine deT ?_
      (refine ctlT ?_)
      refine rgT ?_
      refine z17 ?_
      refine lo (lop_move (E rfl)) rfl ?_
      refine leT ?_
      (refine ctlT ?_)
      refine ⟨(r61, j + 1), ⟨⟨by show Nq r61 r6; (exact nqT), by show Nq r61 r10; (exact nqT), by show Nq r61 r2; (exact nqT)⟩, hlt2⟩, by show m - (j + 1) < m - j; omega, ?_⟩
      dsimp only
      rw [hstep]
      (exact sgoT)
    · obtain rfl : j = m := by simp at h1; omega
      rw [hW] at hG
      dsimp only at hG
      (refine ctlT ?_)
      refine rgT ?_
      refine lo (lop_move (E rfl)) rfl ?_
      refine cw [(r10, .box 52 (rv l (n3) (e3)))] Try.call18 (rdr_unsigned r10 l hl hlt 1000 n3 hn3 e3) rfl ?_ ?_ ?_
      · (exact argsleT)
      · (exact stleT)
      rintro _ σ' ⟨rfl, rfl⟩ -
      (apply rs_sto; (exact nflT))
      unfold rv
      refine z59 ?_
      apply stp; rfl; rfl; rfl; rfl; (exact sputT)
      refine leT ?_
      (refine ctlT ?_)
      refine rgT ?_
      refine lo (lop_move (E rfl)) rfl ?_
      refine z76 ?_
      refine z59 ?_
      refine z60 ?_
      refine lo (lop_neq (E rfl) (E rfl)) rfl ?_
      refine leT ?_
      (refine ctlT ?_)
      refine sw_cond rfl (fun ge => ?_) (fun ge => ?_)
      · unfold fin at hG
        rw [ge] at hG
        simp only [if_true] at hG
        (refine ctlT ?_)
        refine rgD [(0, true), (1, true), (2, true), (3, true), (4, true), (5, false), (6, true), (7, true)] ?_
        refine z94 ?_
        refine dlo rfl (lop_move (E rfl)) rfl ?_
        refine z77 ?_
        refine z73 ?_
        refine z74 ?_
        refine z95 ?_
        refine dlo rfl (lop_assign (E rfl)) rfl ?_
        refine dlo rfl (lop_assign (E rfl)) rfl ?_
        refine deT ?_
        refine an ?_
        refine sw_virt_box (ks := [0, 2, 3, 4, 5, 6, 7, 18, 26, 32, 33, 38, 43, 50, 53, 54, 55, 67, 75, 79, 84, 93]) r2 3 3 1 (by decide) sgT rfl (by decide) fun qz hqz => ?_
        simp only [fresh_cons, fresh_nil, and_true] at hqz; (repeat (rcases hqz with ⟨_, hqz⟩))
        apply Exists.intro; apply And.intro; (exact ssetT)
        (refine ctlT ?_)
        (apply aend; (exact resT))
        · rw [hG]; exact ⟨qz, rfl, rfl⟩
        · (exact stleT)
      · unfold fin at hG
        rw [ge] at hG
        simp only [Bool.false_eq_true, if_false] at hG
        (refine ctlT ?_)
        refine rgD [(0, true), (1, true), (2, true), (3, true), (4, true), (5, false), (6, true), (7, true)] ?_
        refine z96 ?_
        refine dlo rfl (lop_move (E rfl)) rfl ?_
        refine z77 ?_
        refine z73 ?_
        refine z74 ?_
        refine z95 ?_
        refine dlo rfl (lop_assign (E rfl)) rfl ?_
        refine dlo rfl (lop_assign (E rfl)) rfl ?_
        refine deT ?_
        (refine ctlT ?_)
        (apply aend; (exact resT))
        · rw [hG]; exact ⟨p, rfl, rfl⟩
        · (exact stleT)
  (refine ctlT ?_)
  refine rgT ?_
  refine lo (lop_eql (E rfl) (E rfl)) rfl ?_
  refine lo (lop_assign (E rfl)) rfl ?_
  refine leT ?_
  (refine ctlT ?_)
  refine sw_cond rfl (fun g7 => ?_) (fun g7 => ?_)
  · (refine ctlT ?_)
    have hG : getP l = fin ⟨(c : Int), (rdU l 3 n1 e1).1, (rdU l 4294967295 (rdU l 3 n1 e1).2.1 (rdU l 3 n1 e1).2.2).1, []⟩ (rdU l 4294967295 (rdU l 3 n1 e1).2.1 (rdU l 3 n1 e1).2.2).2.1 (rdU l 4294967295 (rdU l 3 n1 e1).2.1 (rdU l 3 n1 e1).2.2).2.2 := by unfold getP getT; rw [hB]; simp only [g1, g2, g3, g4, g5, g6, g7, if_true, if_false, Bool.false_eq_true]
    have hn2 := rdU_bd (lim := 3) (e := e1) hn1
    refine rgT ?_
    refine lo (lop_move (E rfl)) rfl ?_
    refine cw [(r10, .box 52 (rv l (n1) (e1)))] Try.call18 (rdr_unsigned r10 l hl hlt 3 n1 hn1 e1) rfl ?_ ?_ ?_
    · (exact argsleT)
    · (exact stleT)
    rintro _ σ' ⟨rfl, rfl⟩ -
    (apply rs_sto; (exact nflT))
    unfold rv
    refine z59 ?_
    apply stp; rfl; rfl; rfl; rfl; (exact sputT)
    refine leT ?_
    (refine ctlT ?_)
    generalize rdU l 3 n1 e1 = u at *
    obtain ⟨a, n2, e2⟩ := u
    dsimp only at hn2 hG ⊢
    refine rgT ?_
    refine lo (lop_move (E rfl)) rfl ?_
    refine cw [(r10, .box 52 (rv l (n2) (e2)))] Try.call18 (rdr_unsigned r10 l hl hlt 4294967295 n2 hn2 e2) rfl ?_ ?_ ?_
    · (exact argsleT)
    · (exact stleT)
    rintro _ σ' ⟨rfl, rfl⟩ -
    (apply rs_sto; (exact nflT))
    unfold rv
    refine z59 ?_
    apply stp; rfl; rfl; rfl; rfl; (exact sputT)
    refine leT ?_
    (refine ctlT ?_)
    refine rgT ?_
    refine lo (lop_move (E rfl)) rfl ?_
    refine z76 ?_
    refine z59 ?_
    refine z60 ?_
    refine lo (lop_neq (E rfl) (E rfl)) rfl ?_
    refine leT ?_
    (refine ctlT ?_)
    refine sw_cond rfl (fun ge => ?_) (fun ge => ?_)
    · unfold fin at hG
      rw [ge] at hG
      simp only [if_true] at hG
      (refine ctlT ?_)
      refine rgD [(0, true), (1, true), (2, true), (3, true), (4, true), (5, false), (6, true), (7, true)] ?_
      refine z94 ?_
      refine dlo rfl (lop_move (E rfl)) rfl ?_
      refine z77 ?_
      refine z73 ?_
      refine z74 ?_
      refine z95 ?_
      refine dlo rfl (lop_assign (E rfl)) rfl ?_
      refine dlo rfl (lop_assign (E rfl)) rfl ?_
      refine deT ?_
      refine an ?_
      refine sw_virt_box (ks := [0, 2, 3, 4, 5, 6, 7, 18, 26, 32, 33, 38, 43, 50, 53, 54, 55, 67, 75, 79, 84, 93]) r2 3 3 1 (by decide) sgT rfl (by decide) fun qz hqz => ?_
      simp only [fresh_cons, fresh_nil, and_true] at hqz; (repeat (rcases hqz with ⟨_, hqz⟩))
      apply Exists.intro; apply And.intro; (exact ssetT)
      (refine ctlT ?_)
      (apply aend; (exact resT))
      · rw [hG]; exact ⟨qz, rfl, rfl⟩
      · (exact stleT)
    · unfold fin at hG
      rw [ge] at hG
      simp only [Bool.false_eq_true, if_false] at hG
      (refine ctlT ?_)
      refine rgD [(0, true), (1, true), (2, true), (3, true), (4, true), (5, false), (6, true), (7, true)] ?_
      refine z96 ?_
      refine dlo rfl (lop_move (E rfl)) rfl ?_
      refine z77 ?_
      refine z73 ?_
      refine z74 ?_
      refine z95 ?_
      refine dlo rfl (lop_assign (E rfl)) rfl ?_
      refine dlo rfl (lop_assign (E rfl)) rfl ?_
      refine deT ?_
      (refine ctlT ?_)
      (apply aend; (exact resT))
      · rw [hG]; exact ⟨q, rfl, rfl⟩
      · (exact stleT)
  (refine ctlT ?_)
  refine rgT ?_
  refine lo (lop_eql (E rfl) (E rfl)) rfl ?_
  refine lo (lop_assign (E rfl)) rfl ?_
  refine leT ?_
  (refine ctlT ?_)
  refine sw_cond rfl (fun g8 => ?_) (fun g8 => ?_)
  · (refine ctlT ?_)
    have hG : getP l = fin ⟨(c : Int), 0, 0, []⟩ (rdZ l n1 e1).1 (rdZ l n1 e1).2 := by unfold getP getT; rw [hB]; simp only [g1, g2, g3, g4, g5, g6, g7, g8, if_true, if_false, Bool.false_eq_true]
    refine rgT ?_
    refine lo (lop_move (E rfl)) rfl ?_
    refine cw [(r10, .box 52 (rv l (n1) (e1)))] Try.call19 (rdr_zero r10 l hl hlt n1 hn1 e1) rfl ?_ ?_ ?_
    · (exact argsleT)
    · (exact stleT)
    rintro _ σ' ⟨rfl, rfl⟩ -
    (apply rs_sto; (exact nflT))
    unfold rv
    refine leT ?_
    (refine ctlT ?_)
    refine rgT ?_
    refine lo (lop_move (E rfl)) rfl ?_
    refine z76 ?_
    refine z59 ?_
    refine z60 ?_
    refine lo (lop_neq (E rfl) (E rfl)) rfl ?_
    refine leT ?_
    (refine ctlT ?_)
    refine sw_cond rfl (fun ge => ?_) (fun ge => ?_)
    · unfold fin at hG
      rw [ge] at hG
      simp only [if_true] at hG
      (refine ctlT ?_)
      refine rgD [(0, true), (1, true), (2, true), (3, true), (4, true), (5, false), (6, true), (7, true)] ?_
      refine z94 ?_
      refine dlo rfl (lop_move (E rfl)) rfl ?_
      refine z77 ?_
      refine z73 ?_
      refine z74 ?_
      refine z95 ?_
      refine dlo rfl (lop_assign (E rfl)) rfl ?_
      refine dlo rfl (lop_assign (E rfl)) rfl ?_
      refine deT ?_
      refine an ?_
      refine sw_virt_box (ks := [0, 2, 3, 4, 5, 6, 7, 18, 26, 32, 33, 38, 43, 50, 53, 54, 55, 67, 75, 79, 84, 93]) r2 3 3 1 (by decide) sgT rfl (by decide) fun qz hqz => ?_
      simp only [fresh_cons, fresh_nil, and_true] at hqz; (repeat (rcases hqz with ⟨_, hqz⟩))
      apply Exists.intro; apply And.intro; (exact ssetT)
      (refine ctlT ?_)
      (apply aend; (exact resT))
      · rw [hG]; exact ⟨qz, rfl, rfl⟩
      · (exact stleT)
    · unfold fin at hG
      rw [ge] at hG
      simp only [Bool.false_eq_true, if_false] at hG
      (refine ctlT ?_)
      refine rgD [(0, true), (1, true), (2, true), (3, true), (4, true), (5, false), (6, true), (7, true)] ?_
      refine z96 ?_
      refine dlo rfl (lop_move (E rfl)) rfl ?_
      refine z77 ?_
      refine z73 ?_
      refine z74 ?_
      refine z95 ?_
      refine dlo rfl (lop_assign (E rfl)) rfl ?_
      refine dlo rfl (lop_assign (E rfl)) rfl ?_
      refine deT ?_
      (refine ctlT ?_)
      (apply aend; (exact resT))
      · rw [hG]; exact ⟨q, rfl, rfl⟩
      · (exact stleT)
  (refine ctlT ?_)
  refine rgT ?_
  refine lo (lop_eql (E rfl) (E rfl)) rfl ?_
  refine lo (lop_assign (E rfl)) rfl ?_
  refine leT ?_
  (refine ctlT ?_)
  refine sw_cond rfl (fun g9 => ?_) (fun g9 => ?_)
  · (refine ctlT ?_)
    have hG : getP l = fin ⟨(c : Int), (rdS l 32 n1).1, 0, []⟩ (rdS l 32 n1).2.1 (rdS l 32 n1).2.2 := by unfold getP getT; rw [hB]; simp only [g1, g2, g3, g4, g5, g6, g7, g8, g9, if_true, if_false, Bool.false_eq_true]
    refine rgT ?_
    refine lo (lop_move (E rfl)) rfl ?_
    refine cw [(r10, .box 52 (rv l (n1) (e1)))] Try.call20 (rdr_signed r10 l hl hlt 32 (.inl rfl) n1 hn1 e1) rfl ?_ ?_ ?_
    · (exact argsleT)
    · (exact stleT)
    rintro _ σ' ⟨rfl, rfl⟩ -
    (apply rs_sto; (exact nflT))
    unfold rv
    refine z59 ?_
    apply stp; rfl; rfl; rfl; rfl; (exact sputT)
    refine leT ?_
    (refine ctlT ?_)
    refine rgT ?_
    refine lo (lop_move (E rfl)) rfl ?_
    refine z76 ?_
    refine z59 ?_
    refine z60 ?_
    refine lo (lop_neq (E rfl) (E rfl)) rfl ?_
    refine leT ?_
    (refine ctlT ?_)
    refine sw_cond rfl (fun ge => ?_) (fun ge => ?_)
    · unfold fin at hG
      rw [ge] at hG
      simp only [if_true] at hG
      (refine ctlT ?_)
      refine rgD [(0, true), (1, true), (2, true), (3, true), (4, true), (5, false), (6, true), (7, true)] ?_
      refine z94 ?_
      refine dlo rfl (lop_move (E rfl)) rfl ?_
      refine z77 ?_
      refine z73 ?_
      refine z74 ?_
      refine z95 ?_
      refine dlo rfl (lop_assign (E rfl)) rfl ?_
      refine dlo rfl (lop_assign (E rfl)) rfl ?_
      refine deT ?_
      refine an ?_
      refine sw_virt_box (ks := [0, 2, 3, 4, 5, 6, 7, 18, 26, 32, 33, 38, 43, 50, 53, 54, 55, 67, 75, 79, 84, 93]) r2 3 3 1 (by decide) sgT rfl (by decide) fun qz hqz => ?_
      simp only [fresh_cons, fresh_nil, and_true] at hqz; (repeat (rcases hqz with ⟨_, hqz⟩))
      apply Exists.intro; apply And.intro; (exact ssetT)
      (refine ctlT ?_)
      (apply aend; (exact resT))
      · rw [hG]; exact ⟨qz, rfl, rfl⟩
      · (exact stleT)
    · unfold fin at hG
      rw [ge] at hG
      simp only [Bool.false_eq_true, if_false] at hG
      (refine ctlT ?_)
      refine rgD [(0, true), (1, true), (2, true), (3, true), (4, true), (5, false), (6, true), (7, true)] ?_
      refine z96 ?_
      refine dlo rfl (lop_move (E rfl)) rfl ?_
      refine z77 ?_
      refine z73 ?_
      refine z74 ?_
      refine z95 ?_
      refine dlo rfl (lop_assign (E rfl)) rfl ?_
      refine dlo rfl (lop_assign (E rfl)) rfl ?_
      refine deT ?_
      (refine ctlT ?_)
      (apply aend; (exact resT))
      · rw [hG]; exact ⟨q, rfl, rfl⟩
      · (exact stleT)
  (refine ctlT ?_)
  refine rgT ?_
  refine lo (lop_eql (E rfl) (E rfl)) rfl ?_
  refine lo (lop_assign (E rfl)) rfl ?_
  refine leT ?_
  (refine ctlT ?_)
  refine sw_cond rfl (fun g10 => ?_) (fun g10 => ?_)
  · (refine ctlT ?_)
    have hG : getP l = fin ⟨(c : Int), (rdS l 64 n1).1, 0, []⟩ (rdS l 64 n1).2.1 (rdS l 64 n1).2.2 := by unfold getP getT; rw [hB]; simp only [g1, g2, g3, g4, g5, g6, g7, g8, g9, g10, if_true, if_false, Bool.false_eq_true]
    refine rgT ?_
    refine lo (lop_move (E rfl)) rfl ?_
    refine cw [(r10, .box 52 (rv l (n1) (e1)))] Try.call20 (rdr_signed r10 l hl hlt 64 (.inr rfl) n1 hn1 e1) rfl ?_ ?_ ?_
    · (exact argsleT)
    · (exact stleT)
    rintro _ σ' ⟨rfl, rfl⟩ -
    (apply rs_sto; (exact nflT))
    unfold rv
    refine z59 ?_
    apply stp; rfl; rfl; rfl; rfl; (exact sputT)
    refine leT ?_
    (refine ctlT ?_)
    refine rgT ?_
    refine lo (lop_move (E rfl)) rfl ?_
    refine z76 ?_
    refine z59 ?_
    refine z60 ?_
    refine lo (lop_neq (E rfl) (E rfl)) rfl ?_
    refine leT ?_
    (refine ctlT ?_)
    refine sw_cond rfl (fun ge => ?_) (fun ge => ?_)
    · unfold fin at hG
      rw [ge] at hG
      simp only [if_true] at hG
      (refine ctlT ?_)
      refine rgD [(0, true), (1, true), (2, true), (3, true), (4, true), (5, false), (6, true), (7, true)] ?_
      refine z94 ?_
      refine dlo rfl (lop_move (E rfl)) rfl ?_
      refine z77 ?_
      refine z73 ?_
      refine z74 ?_
      refine z95 ?_
      refine dlo rfl (lop_assign (E rfl)) rfl ?_
      refine dlo rfl (lop_assign (E rfl)) rfl ?_
      refine deT ?_
      refine an ?_
      refine sw_virt_box (ks := [0, 2, 3, 4, 5, 6, 7, 18, 26, 32, 33, 38, 43, 50, 53, 54, 55, 67, 75, 79, 84, 93]) r2 3 3 1 (by decide) sgT rfl (by decide) fun qz hqz => ?_
      simp only [fresh_cons, fresh_nil, and_true] at hqz; (repeat (rcases hqz with ⟨_, hqz⟩))
      apply Exists.intro; apply And.intro; (exact ssetT)
      (refine ctlT ?_)
      (apply aend; (exact resT))
      · rw [hG]; exact ⟨qz, rfl, rfl⟩
      · (exact stleT)
    · unfold fin at hG
      rw [ge] at hG
      simp only [Bool.false_eq_true, if_false] at hG
      (refine ctlT ?_)
      refine rgD [(0, true), (1, true), (2, true), (3, true), (4, true), (5, false), (6, true), (7, true)] ?_
      refine z96 ?_
      refine dlo rfl (lop_move (E rfl)) rfl ?_
      refine z77 ?_
      refine z73 ?_
      refine z74 ?_
      refine z95 ?_
      refine dlo rfl (lop_assign (E rfl)) rfl ?_
      refine dlo rfl (lop_assign (E rfl)) rfl ?_
      refine deT ?_
      (refine ctlT ?_)
      (apply aend; (exact resT))
      · rw [hG]; exact ⟨q, rfl, rfl⟩
      · (exact stleT)
  (refine ctlT ?_)
  have hG : getP l = fin ⟨(c : Int), 0, 0, []⟩ n1 e1 := by unfold getP getT; rw [hB]; simp only [g1, g2, g3, g4, g5, g6, g7, g8, g9, g10, if_true, if_false, Bool.false_eq_true]
  refine rgT ?_
  refine lo (lop_move (E rfl)) rfl ?_
  refine z76 ?_
  refine z59 ?_
  refine z60 ?_
  refine lo (lop_neq (E rfl) (E rfl)) rfl ?_
  refine leT ?_
  (refine ctlT ?_)
  refine sw_cond rfl (fun ge => ?_) (fun ge => ?_)
  · unfold fin at hG
    rw [ge] at hG
    simp only [if_true] at hG
    (refine ctlT ?_)
    refine rgD [(0, true), (1, true), (2, true), (3, true), (4, true), (5, false), (6, true), (7, true)] ?_
    refine z94 ?_
    refine dlo rfl (lop_move (E rfl)) rfl ?_
    refine z77 ?_
    refine z73 ?_
    refine z74 ?_
    refine z95 ?_
    refine dlo rfl (lop_assign (E rfl)) rfl ?_
    refine dlo rfl (lop_assign (E rfl)) rfl ?_
    refine deT ?_
    refine an ?_
    refine sw_virt_box (ks := [0, 2, 3, 4, 5, 6, 7, 18, 26, 32, 33, 38, 43, 50, 53, 54, 55, 67, 75, 79, 84, 93]) r2 3 3 1 (by decide) sgT rfl (by decide) fun qz hqz => ?_
    simp only [fresh_cons, fresh_nil, and_true] at hqz; (repeat (rcases hqz with ⟨_, hqz⟩))
    apply Exists.intro; apply And.intro; (exact ssetT)
    (refine ctlT ?_)
    (apply aend; (exact resT))
    · rw [hG]; exact ⟨qz, rfl, rfl⟩
    · (exact stleT)
  · unfold fin at hG
    rw [ge] at hG
    simp only [Bool.false_eq_true, if_false] at hG
    (refine ctlT ?_)
    refine rgD [(0, true), (1, true), (2, true), (3, true), (4, true), (5, false), (6, true), (7, true)] ?_
    refine z96 ?_
    refine dlo rfl (lop_move (E rfl)) rfl ?_
    refine z77 ?_
    refine z73 ?_
    refine z74 ?_
    refine z95 ?_
    refine dlo rfl (lop_assign (E rfl)) rfl ?_
    refine dlo rfl (lop_assign (E rfl)) rfl ?_
    refine deT ?_
    (refine ctlT ?_)
    (apply aend; (exact resT))
    · rw [hG]; exact ⟨q, rfl, rfl⟩
    · (exact stleT)
end Go.Proofs.Ytjpdadobblffmaa
/-
  Plain: the two Gets answer alike.
-/
namespace Go.Proofs.Ytjpdadobblffmaa
open Go.RowKit Go.ChangeShapes Go.WideShapes Go.ChangeAt Go.Deep
theorem kindI_eq (c : Nat) : kindI c = if c = 64 then 0 else if c = 127 then 1 else if c = 126 then 2 else -1 := by
  by_cases h1 : c = 64
  · subst h1; decide
  by_cases h2 : c = 127
  · subst h2; decide
  by_cases h3 : c = 126
  · subst h3; decide
  rw [if_neg h1, if_neg h2, if_neg h3]
  unfold kindI idxN
  have : ([64, 127, 126] : List Int).findIdx? (· == (c : Int)) = none := by
    rw [List.findIdx?_eq_none_iff]
    intro x hx
    simp at hx
    rcases hx with rfl | rfl | rfl <;> simp <;> omega
  rw [this]
end Go.Proofs.Ytjpdadobblffmaa
/-
  Plain: an instruction's bytes are told as it.
-/
namespace Go.Proofs.Ytjpdadobblffmaa
open Go.RowKit Go.ChangeShapes Go.WideShapes Go.ChangeAt Go.Deep
theorem drop_on {l p r : List Nat} {n : Nat} (h : l.drop n = p ++ r) : l.drop (n + p.length) = r := by
  rw [← List.drop_drop, h, List.drop_left]
theorem rdB_at {l r : List Nat} {n b : Nat} (h : l.drop n = b :: r) : rdB l n 0 = (b, n + 1, 0) := by
  have hn : n < l.length := by
    by_cases hc : n < l.length
    · exact hc
    · rw [List.drop_of_length_le (by omega)] at h; cases h
  have hb : l[n]! = b := by
    rw [getElem!_pos l n hn]
    rw [List.drop_eq_getElem_cons hn] at h
    exact (List.cons.inj h).1
  unfold rdB
  rw [if_neg (by simp), if_neg (by simp; omega), hb]
theorem rdZ_at {l r : List Nat} {n : Nat} (h : l.drop n = 0 :: r) : rdZ l n 0 = (n + 1, 0) := by
  unfold rdZ; rw [rdB_at h, if_neg (by simp)]
theorem rdU_at {l r : List Nat} {n v : Nat} {lim : Int} (h : l.drop n = uB v ++ r) (h1 : v < 4294967296) (h2 : (v : Int) ≤ lim) : rdU l lim n 0 = (v, n + (uB v).length, 0) := by
  unfold rdU
  rw [h, getU_uB h1, if_neg (by simp), if_neg (by simp), if_neg (by simp; omega)]
theorem rdS_at {l r : List Nat} {n bits : Nat} (hb : bits = 32 ∨ bits = 64) {v : Int} (h : l.drop n = sB v ++ r) (h1 : -9223372036854775808 ≤ v) (h2 : v ≤ 9223372036854775807) (h3 : bits = 32 → -2147483648 ≤ v ∧ v ≤ 2147483647) : rdS l bits n = (v, n + (sB v).length, 0) := by
  unfold rdS
  rw [h, getS_sB hb h1 h2 h3]
theorem rdL_at {l r : List Nat} {n : Nat} {L : List Int} (h : l.drop n = (L.flatMap fun z => uB z.toNat) ++ r) (hL : ∀ z ∈ L, 0 ≤ z ∧ z ≤ 1000) : ∀ m, m ≤ L.length → rdL l m n 0 = (L.take m, n + ((L.take m).flatMap fun z => uB z.toNat).length, 0)
  | 0, _ => by simp [rdL]
  | m + 1, hm => by
    have ih := rdL_at h hL m (by omega)
    obtain ⟨y, hy⟩ : ∃ y, L[m]? = some y := ⟨_, List.getElem?_eq_getElem (by omega)⟩
    obtain ⟨hy0, hy1⟩ := hL y (List.mem_of_getElem? hy)
    obtain ⟨z, rfl⟩ := Int.eq_ofNat_of_zero_le hy0
    have hd : l.drop (n + ((L.take m).flatMap fun z => uB z.toNat).length) = uB z ++ (((L.drop (m + 1)).flatMap fun z => uB z.toNat) ++ r) := by
      refine drop_on ?_
      rw [h, ← List.append_assoc, ← List.append_assoc]
      congr 1
      have : L = L.take m ++ (z : Int) :: L.drop (m + 1) := by
        rw [List.getElem?_eq_getElem (by omega)] at hy
        rw [← Option.some.inj hy, ← List.drop_eq_getElem_cons (by omega), List.take_append_drop]
      conv => lhs; rw [this]
      simp [List.flatMap_append]
    rw [rdL, ih]
    dsimp only
    rw [rdU_at hd (by omega) hy1, List.take_add_one, hy]
    simp [List.flatMap_append, Nat.add_assoc]
theorem may8 {x : Ins} (h : mayN x = true) (hf : (formN x.op == 8) = true) : -2147483648 ≤ x.a ∧ x.a ≤ 2147483647 := by
  rw [beq_iff_eq] at hf
  simp [mayN, hf, bt2_eq] at h
  omega
theorem may17 {x : Ins} (h : mayN x = true) (hf : (formN x.op == 1 || formN x.op == 7) = true) : x.a = 0 := by
  unfold mayN at h
  split at h
  · cases h
  · first | (rw [if_pos hf] at h; simpa using h) | simpa using h
theorem may_b {x : Ins} (h : mayN x = true) (hf : formN x.op ≠ 6) : x.b = 0 := by
  unfold mayN at h
  split at h
  · cases h
  · next hp => 
    have h6 : (formN x.op != 6) = true := by simpa using hf
    unfold preN at hp
    rw [if_pos h6] at hp
    split at hp
    · simp at hp; exact hp.2
    · simpa using hp
theorem may_l {x : Ins} (h : mayN x = true) (hf : formN x.op ≠ 4) : x.l = [] := by
  unfold mayN at h
  split at h
  · cases h
  · next hp =>
    have h4 : (formN x.op != 4) = true := by simpa using hf
    unfold preN at hp
    rw [if_pos h4] at hp
    split at hp
    · simp at hp
    · next hq => simpa using hq
/-- an instruction's bytes are told as it -/
theorem get_put {x : Ins} (hx : x.Ok) (h : mayN x = true) (rest : List Nat) : getP (putN x ++ rest) = (x, (putN x).length, 0) := by
  have f1 := may_op h
  have f2 := may2 h
  have f3 := may3 h
  have f4 := may4 h
  have f5 := may5 h
  have f6 := may6 h
  have f8 := may8 h
  have f17 := may17 h
  have fb := may_b h
  have fl := may_l h
  have f9 : -9223372036854775808 ≤ x.a ∧ x.a ≤ 9223372036854775807 := ⟨hx.2.2.1, hx.2.2.2.1⟩
  have f0 : (formN x.op == 0) = false := by
    by_cases h0 : formN x.op = 0
    · rw [may_none h0] at h; cases h
    · simpa using h0
  obtain ⟨op, a, b, L⟩ := x
  dsimp only at f1 f2 f3 f4 f5 f6 f8 f9 f17 fb fl f0
  obtain ⟨op, rfl⟩ := Int.eq_ofNat_of_zero_le f1.1
  have hp0 : putN ⟨(op : Int), a, b, L⟩ = op :: putT ⟨(op : Int), a, b, L⟩ := rfl
  obtain ⟨l, hl⟩ : ∃ l, l = putN ⟨(op : Int), a, b, L⟩ ++ rest := ⟨_, rfl⟩
  rw [← hl]
  have hB : rdB l 0 0 = (op, 1, 0) := rdB_at (r := putT ⟨(op : Int), a, b, L⟩ ++ rest) (by rw [hl, hp0]; rfl)
  have h1 : l.drop 1 = putT ⟨(op : Int), a, b, L⟩ ++ rest := by rw [hl, hp0]; rfl
  unfold getP
  rw [hB, hp0]
  dsimp only
  rw [f0]
  simp only [Bool.false_eq_true, if_false, bne_self_eq_false]
  unfold getT
  unfold putT at h1 ⊢
  by_cases g2 : (formN (op : Int) == 2) = true
  · simp only [g2, if_true] at h1 ⊢
    obtain ⟨k1, k2⟩ := f2 g2
    have e2 : formN (op : Int) = 2 := by simpa using g2
    obtain rfl := fb (by omega)
    obtain rfl := fl (by omega)
    have hk : rdK l 1 0 = (a, 2, 0) := by
      unfold rdK
      rw [rdB_at h1, kindI_eq]
      have : a = 0 ∨ a = 1 ∨ a = 2 := by omega
      rcases this with rfl | rfl | rfl <;> rfl
    rw [hk]
    rfl
  simp only [g2, Bool.false_eq_true, if_false] at h1 ⊢
  by_cases g3 : (formN (op : Int) == 3) = true
  · simp only [g3, if_true] at h1 ⊢
    obtain ⟨k1, k2⟩ := f3 g3
    have e2 : formN (op : Int) = 3 := by simpa using g3
    obtain rfl := fb (by omega)
    obtain rfl := fl (by omega)
    obtain ⟨a, rfl⟩ := Int.eq_ofNat_of_zero_le k1
    rw [Int.toNat_natCast] at h1 ⊢
    rw [rdU_at h1 (by omega) k2]
    simp [fin, Nat.add_comm]
  simp only [g3, Bool.false_eq_true, if_false] at h1 ⊢
  by_cases g5 : (formN (op : Int) == 5) = true
  · simp only [g5, if_true] at h1 ⊢
    obtain ⟨k1, k2⟩ := f5 g5
    have e2 : formN (op : Int) = 5 := by simpa using g5
    obtain rfl := fb (by omega)
    obtain rfl := fl (by omega)
    obtain ⟨a, rfl⟩ := Int.eq_ofNat_of_zero_le k1
    rw [Int.toNat_natCast] at h1 ⊢
    rw [List.append_assoc] at h1
    rw [rdU_at h1 (by omega) k2]
    dsimp only
    rw [rdZ_at (drop_on h1)]
    simp [fin]; omega
  simp only [g5, Bool.false_eq_true, if_false] at h1 ⊢
  by_cases g4 : (formN (op : Int) == 4) = true
  · simp only [g4, if_true] at h1 ⊢
    obtain ⟨⟨k1, k2⟩, k3, k4⟩ := f4 g4
    have e2 : formN (op : Int) = 4 := by simpa using g4
    obtain rfl := fb (by omega)
    obtain ⟨a, rfl⟩ := Int.eq_ofNat_of_zero_le k1
    rw [Int.toNat_natCast] at h1 ⊢
    rw [List.append_assoc, List.append_assoc] at h1
    have h2 := drop_on h1
    rw [rdU_at h1 (by omega) (by omega)]
    dsimp only
    rw [rdL_at h2 k4 L.length (Nat.le_refl _), List.take_length]
    dsimp only
    rw [rdU_at (drop_on h2) (by omega) k2]
    simp [fin]; omega
  simp only [g4, Bool.false_eq_true, if_false] at h1 ⊢
  have e4 : formN (op : Int) ≠ 4 := by simpa using g4
  obtain rfl := fl e4
  by_cases g6 : (formN (op : Int) == 6) = true
  · simp only [g6, if_true] at h1 ⊢
    obtain ⟨k1, k2, k3, k4⟩ := f6 g6
    obtain ⟨a, rfl⟩ := Int.eq_ofNat_of_zero_le k1
    obtain ⟨b, rfl⟩ := Int.eq_ofNat_of_zero_le k3
    rw [Int.toNat_natCast, Int.toNat_natCast] at h1 ⊢
    rw [List.append_assoc] at h1
    rw [rdU_at h1 (by omega) k2]
    dsimp only
    rw [rdU_at (drop_on h1) (by omega) k4]
    simp [fin]; omega
  simp only [g6, Bool.false_eq_true, if_false] at h1 ⊢
  have e6 : formN (op : Int) ≠ 6 := by simpa using g6
  obtain rfl := fb e6
  by_cases g7 : (formN (op : Int) == 7) = true
  · simp only [g7, if_true] at h1 ⊢
    obtain rfl := f17 (by rw [g7]; simp)
    rw [rdZ_at h1]
    simp [fin]
  simp only [g7, Bool.false_eq_true, if_false] at h1 ⊢
  by_cases g8 : (formN (op : Int) == 8) = true
  · simp only [g8, Bool.true_or, if_true] at h1 ⊢
    obtain ⟨k1, k2⟩ := f8 g8
    rw [rdS_at (.inl rfl) h1 f9.1 f9.2 (fun _ => ⟨k1, k2⟩)]
    simp [fin, Nat.add_comm]
  simp only [g8, Bool.false_eq_true, if_false] at h1 ⊢
  by_cases g9 : (formN (op : Int) == 9) = true
  · simp only [g9, Bool.or_true, if_true] at h1 ⊢
    rw [rdS_at (.inr rfl) h1 f9.1 f9.2 (fun hc => by cases hc)]
    simp [fin, Nat.add_comm]
  simp only [g9, Bool.or_false, Bool.false_eq_true, if_false] at h1 ⊢
  have ha : a = 0 := by
    by_cases g1 : formN (op : Int) = 1
    · exact f17 (by rw [g1]; rfl)
    · exfalso
      have : mayN ⟨(op : Int), a, 0, []⟩ = false := by
        unfold mayN
        have g1' : (formN (op : Int) == 1) = false := by simpa using g1
        simp [g1', g2, g3, g4, g5, g6, g7, g8, g9]
      rw [this] at h; cases h
  subst ha
  simp [fin]
end Go.Proofs.Ytjpdadobblffmaa
/-
  The symbolic layer: calls and appends in their short forms. No program is named here.
-/
namespace Go.Proofs.Ytjpdadobblffmaa
open Go.RowKit Go.ChangeShapes Go.WideShapes Go.ChangeAt Go.Deep
/-- an encoding that lends nothing -/
class NoE {α : Type} (enc : α → List AV) : Prop where
  no : ∀ a, ∀ x ∈ enc a, NoF x
theorem enof_map {α : Type} {enc : α → List AV} [h : NoE enc] {e : TypeId} {sz : Nat} {l : List α} : ENoF (.arr e sz (l.map enc)) := by
  intro y hy x hx
  obtain ⟨a, -, rfl⟩ := List.mem_map.1 hy
  exact h.no a x hx
theorem enof_nil {e : TypeId} {sz : Nat} : ENoF (.arr e sz []) := by intro y hy; simp at hy
theorem enof_box {bt : TypeId} {cs : List AV} (h : ∀ x ∈ cs, NoF x) : ENoF (.box bt cs) := h
instance : NoE encU := ⟨fun a x hx => by simp [encU] at hx; subst hx; exact NoF.int⟩
theorem noT {P : Prop} (h : P := by
    intro x σ' h
    repeat (refine Exists.elim h ?_; clear h; intro _ h)
    first | (obtain ⟨rfl, rfl⟩ := h) | (obtain ⟨_, rfl, rfl⟩ := h) | (obtain ⟨_, _, rfl, rfl⟩ := h)
    refine ⟨nofT, ?_⟩
    intro p hp
    simp only [List.mem_cons, List.not_mem_nil, or_false] at hp
    repeat' (first | (rcases hp with rfl | hp) | (cases hp; done))
    all_goals first | exact enof_map | exact enof_nil | exact enof_box nofT) : P := h

section
variable {P : Program} {n : Nat} {ops : Array Oper} {rest : List Oper} {fr : Fr} {σ : Sto} {K : ASt → Prop} {op : Op} {ty t t' : TypeId} {pos : String} {af : Array Edge} {x y : Operand} {d : Nat} {f : FuncId} {xs : List Operand} {ats : Array TypeId} {args : List AV}
theorem puA {v : AV} (hf : ∀ args w, (callFunc f args).run P w = .ok (.enter f args) w) (h : SCall P f args [] (fun x σ' => x = v ∧ σ' = [])) (hd : Nat.ble (d + 1) n = true)
    (hargs : ArgsIf ⟨fr, σ⟩ true (σ.map (·.1)) xs args) (hno : NoF v) (hK : RS P n ops rest ⟨(d, v) :: fr, σ⟩ K) : RS P n ops (⟨some d, .call { callee := .value (.func f), args := xs.toArray, argTypes := ats }, ty, pos, af, none⟩ :: rest) ⟨fr, σ⟩ K := pu _ hf h hd hargs hno hK
theorem clA {R : AV → Sto → Prop} (hf : ∀ args w, (callFunc f args).run P w = .ok (.enter f args) w) (h : SCall P f args [] R) (hd : Nat.ble (d + 1) n = true)
    (hargs : ArgsBor ⟨fr, σ⟩ (σ.map (·.1)) xs args) (hno : ∀ x σ', R x σ' → NoF x ∧ ∀ p ∈ σ', ENoF p.2) (hK : ∀ x σ', R x σ' → (∀ p ∈ σ', Fresh p.1 σ) → RS P n ops rest ⟨(d, x) :: fr, σ' ++ σ⟩ K) :
    RS P n ops (⟨some d, .call { callee := .value (.func f), args := xs.toArray, argTypes := ats }, ty, pos, af, none⟩ :: rest) ⟨fr, σ⟩ K := cl _ hf h hd hargs hno hK
/-- append onto an own row, all of it -/
theorem srcT {P : Prop} (h : P := by (first | exact .inl ⟨_, rfl⟩ | exact .inr (.inr ⟨_, _, _, _, _, rfl, sgT, by simp, rfl⟩) | exact .inr (.inl ⟨_, _, rfl, rfl⟩))) : P := h
theorem newT {P : Prop} (h : P := by (first | rfl | (simp; done) | (simp only [List.map_append, List.drop_zero]; rfl) |  (simp only [List.drop_zero, List.map_append, List.map_cons, List.map_nil]; congr 1; exact List.take_of_length_le (by simp)) | (simp only [List.drop_zero, List.map_append]; congr 1; exact List.take_of_length_le (by first | (simp; done) | omega)))) : P := h
theorem lenT {P : Prop} (h : P := by (first | rfl | omega | (simp; done) | (simp; omega) | (simp [maxLen]; omega))) : P := h
theorem apA {e : TypeId} [Ty P t (.slice e)] {sz by_ : Nat} {zv : Value} [Tz P e sz by_ zv] {r len : Nat} {es ys : List (List AV)} (es' : List (List AV)) (len' : Nat)
    (hK : ∀ r', Fresh r' (sdrop [r] σ) → ∃ σ', SSet σ r (.arr e sz es) r' (.arr e sz es') σ' ∧ RS P n ops rest ⟨(d, .own r' 0 len') :: fr, σ'⟩ K)
    (hz : zv.cells.size = sz := by rfl) (hb : aev ⟨fr, σ⟩ x = some (.own r 0 len) := by rfl) (hg : sget σ r = some (.arr e sz es) := by exact sgT) (hlen : len = es.length := by exact lenT) (hy : Src ⟨fr, σ⟩ y sz ys := by exact srcT)
    (he : es ++ ys = es' := by exact newT) (hl' : len' = len + ys.length := by exact lenT) (hmax : len' ≤ maxLen := by (simp [maxLen]; try omega)) (hby : len' * by_ ≤ 140737488355328 := by (simp; try omega)) (hd : Nat.ble (d + 1) n = true := by rfl) :
    RS P n ops (⟨some d, .call { callee := .builtin .append, args := #[x, y], argTypes := #[t, t] }, ty, pos, af, none⟩ :: rest) ⟨fr, σ⟩ K := ap hz hb hg hlen hy he hl' hmax hby hd hK

/-- a row that a slot's value tells of is written by nobody from here on: the slot reads as x' -/
theorem sgo_fzv {j q : Nat} {v v' : AV} {e : Ent} {σ' : Sto} (hx : fget fr j = some v) (hd : SDel σ q e σ') (hb : Bor σ [q] v v') : SGo ⟨fr, σ⟩ ⟨(j, v') :: fr, σ'⟩ := by
  refine sgo_freeze [q] (fun i x' hi => ?_) (fun p hp => ?_)
  · simp only [fget] at hi
    split at hi
    · next h => subst h; obtain rfl := Option.some.inj hi; exact ⟨_, hx, hb⟩
    · exact ⟨x', hi, .refl _⟩
  · obtain ⟨h1, h2⟩ := hd.sub p hp
    exact ⟨by simpa using h2, p.2, h1, .refl _⟩
theorem fzv {j q : Nat} {v v' : AV} {e : Ent} {σ' : Sto} (hx : fget fr j = some v) (hd : SDel σ q e σ') (hb : Bor σ [q] v v') (hK : RS P n ops rest ⟨(j, v') :: fr, σ'⟩ K) : RS P n ops rest ⟨fr, σ⟩ K := rs_go (sgo_fzv hx hd hb) hK
theorem fzvs {ks : List Nat} {c : Code} {Q : Exit → ASt → Prop} {j q : Nat} {v v' : AV} {e : Ent} {σ' : Sto} (hx : fget fr j = some v) (hd : SDel σ q e σ') (hb : Bor σ [q] v v') (hK : SW P n ks c ⟨(j, v') :: fr, σ'⟩ Q) : SW P n ks c ⟨fr, σ⟩ Q := sw_go (sgo_fzv hx hd hb) hK
/-- an own row, all of it, as a list that is read -/
theorem bor_own {q len sz : Nat} {et : TypeId} {es : List (List AV)} (hg : sget σ q = some (.arr et sz es)) (hl : len = es.length) : Bor σ [q] (.own q 0 len) (.ro sz es .any) :=
  bown List.mem_cons_self hg (by omega) (by subst hl; simp)

/-! ### the same in a drawn region -/
variable {listed : Array Bool} {todo : List (Nat × Bool)} {held : List (Nat × List Nat)} {i : Nat}
end
end Go.Proofs.Ytjpdadobblffmaa
/-
  Plain words on what instructions are written as: their bytes, how many, no two alike.
-/
namespace Go.Proofs.Ytjpdadobblffmaa
open Go.RowKit Go.ChangeShapes Go.WideShapes Go.ChangeAt Go.Deep
theorem if_and {p q : Bool} : (if p = true then q else false) = (p && q) := by cases p <;> rfl
theorem if_or {p q : Bool} : (if p = true then true else q) = (p || q) := by cases p <;> rfl
theorem bT {H R : Prop} (a : H) (h : H → R := by intro h; (try simp only [if_and, if_or] at h); simp only [Bool.and_eq_true, Bool.or_eq_true, Bool.and_eq_false_iff, Bool.or_eq_false_iff, decide_eq_true_eq, decide_eq_false_iff_not, Bool.not_eq_true', Bool.not_eq_false', bne_iff_ne, beq_iff_eq, ne_eq, Bool.not_eq_eq_eq_not, Bool.not_true, Bool.not_false, bne_eq_false_iff_eq, beq_eq_false_iff_ne] at h; exact h) : R := h a
instance : NoE encI := ⟨fun a x hx => by simp [encI] at hx; subst hx; exact NoF.int⟩
theorem putT_lt (x : Ins) : ∀ b ∈ putT x, b < 256 := by
  have hf : ∀ l : List Int, ∀ b ∈ (l.flatMap fun n => uB n.toNat), b < 256 := by
    intro l b hb
    obtain ⟨n, -, hn⟩ := List.mem_flatMap.1 hb
    exact uB_lt _ b hn
  intro b hb
  unfold putT at hb
  split at hb
  · rw [List.mem_singleton.1 hb]; unfold kindB; split <;> (try split) <;> decide
  split at hb
  · exact uB_lt _ b hb
  split at hb
  · rcases List.mem_append.1 hb with h | h
    · exact uB_lt _ b h
    · rw [List.mem_singleton.1 h]; decide
  split at hb
  · rcases List.mem_append.1 hb with h | h
    · rcases List.mem_append.1 h with h | h
      · exact uB_lt _ b h
      · exact hf _ b h
    · exact uB_lt _ b h
  split at hb
  · rcases List.mem_append.1 hb with h | h
    · exact uB_lt _ b h
    · exact uB_lt _ b h
  split at hb
  · rw [List.mem_singleton.1 hb]; decide
  split at hb
  · exact sB_lt _ x.a (Nat.le_refl _) b hb
  · simp at hb
theorem putN_lt {x : Ins} (hm : mayN x = true) : ∀ b ∈ putN x, b < 256 := by
  intro b hb
  rcases List.mem_cons.1 hb with rfl | hb
  · have := may_op hm; omega
  · exact putT_lt x b hb
theorem putN_len {x : Ins} (hx : x.Ok) (hm : mayN x = true) : (putN x).length ≤ 200 := by
  unfold putN
  rw [List.length_cons]
  suffices (putT x).length ≤ 199 by omega
  unfold putT
  split
  · simp
  split
  · next h => have := may3 hm h; have := uB_len 1 x.a.toNat (by omega); omega
  split
  · next h => have := may5 hm h; have := uB_len 1 x.a.toNat (by omega); simp; omega
  split
  · next h =>
    obtain ⟨h1, h2, h3⟩ := may4 hm h
    have := uB_len 1 x.a.toNat (by omega)
    have := uB_len 0 x.l.length (by omega)
    have := flat_len h3
    simp only [List.length_append]
    omega
  split
  · next h => have := may6 hm h; have := uB_len 0 x.a.toNat (by omega); have := uB_len 4 x.b.toNat (by omega); simp; omega
  split
  · simp
  split
  · obtain ⟨-, -, h1, h2, -⟩ := hx
    have := sB_len 9 x.a (by omega) (by omega)
    omega
  · simp
theorem eqN_iff {x y : Ins} : eqN x y = true ↔ x = y := by
  cases x; cases y
  simp [eqN]
end Go.Proofs.Ytjpdadobblffmaa
/-
  From the reading of an argument as data to its representation; the close of a statement 'true, and every argument as it was'. No program is named here.
-/
namespace Go.Proofs.Ytjpdadobblffmaa
open Go.RowKit Go.ChangeShapes Go.WideShapes Go.ChangeAt Go.Deep
theorem read_of {P : Program} {f : Func} (h : (f.params.toList.all fun t => P.readableRec t && decide (t < P.types.size)) = true) : ∀ t ∈ f.params.toList, P.readableRec t = true ∧ t < P.types.size := by
  intro t ht
  have := List.all_eq_true.1 h t ht
  simpa using this

end Go.Proofs.Ytjpdadobblffmaa
/-
  From the reading of an argument as data to an abstract value; the close of a statement 'true, and every argument as it was'. No program is named here.
-/
namespace Go.Proofs.Ytjpdadobblffmaa
open Go.RowKit Go.ChangeShapes Go.WideShapes Go.ChangeAt Go.Deep
def VR0 (W : World) : AV → Value → Prop := VR (fun _ => none) (fun b => b < W.heap.size) W

/-- Whatever cells of type t are read as data: they are en a for some a of α, and ok a. -/
structure RdA (P : Program) (t : TypeId) (α : Type) (sz : Nat) (en : α → List AV) (ok : α → Prop) : Prop where
  cells : P.cellsOf t = sz
  shape : ∀ a, (en a).length = sz ∧ ∀ x ∈ en a, x.cell = true
  read : ∀ (H : Type) (enc : TypeId × Value → H) (W : World) (fuel : Nat) (cs : List Value) (x : DataW H × List MemPlace), DataW.trod enc P W 0 (fun _ => true) true fuel t cs = some x →
    ∃ a : α, ok a ∧ cs.length = sz ∧ ∀ (j : Nat) (x : AV) (u : Value), (en a)[j]? = some x → cs[j]? = some u → VR0 W x u

section
variable {P : Program} {t : TypeId}
theorem cells_of {sz by_ : Nat} {z : Value} (i2 : Tz P t sz by_ z) : P.cellsOf t = sz := by
  obtain ⟨i, h1, _, h2, _⟩ := Tz.parts P t
  simp [Program.cellsOf, h1, h2]
theorem one_at {W : World} {x : AV} {u : Value} (h : VR0 W x u) : ∀ (j : Nat) (y : AV) (v : Value), [x][j]? = some y → [u][j]? = some v → VR0 W y v := by
  intro j y v hy hv
  match j with
  | 0 =>
    simp at hy hv
    subst hy hv
    exact h
  | j + 1 => simp at hy
theorem rda_int {sz by_ : Nat} {z : Value} {k : IntKind} [i : Ty P t (.int k)] [i2 : Tz P t sz by_ z] (hsz : sz = 1) : RdA P t Int 1 (fun n => [.int k n]) (fun n => (Lit.int k n).wf = true) := by
  subst hsz
  refine ⟨cells_of i2, fun a => ⟨rfl, by simp [AV.cell]⟩, fun H enc W fuel cs x h => ?_⟩
  obtain ⟨n, rfl, _, hw⟩ := DataW.trod_int i.und h
  exact ⟨n, hw, rfl, one_at (.int k n)⟩
theorem rda_slice {α : Type} {e : TypeId} {sz szs by_ : Nat} {z : Value} {en : α → List AV} {ok : α → Prop} [i : Ty P t (.slice e)] [i2 : Tz P t szs by_ z] (hsz : szs = 1) (hpos : 0 < sz) (he : RdA P e α sz en ok) :
    RdA P t (List α) 1 (fun l => [.ro sz (l.map en) .any]) (fun l => l.length ≤ maxLen ∧ ∀ a ∈ l, ok a) := by
  subst hsz
  refine ⟨cells_of i2, fun a => ⟨rfl, by simp [AV.cell]⟩, fun H enc W fuel cs x h => ?_⟩
  rcases open_slice i.und h with ⟨rfl, _⟩ | ⟨a, len, cap, m, n, D, Pl, rfl, _, hl, hm, hmm, _, hi⟩
  · exact ⟨[], ⟨Nat.zero_le _, by simp⟩, rfl, one_at (.ro0 (Nat.zero_le _) (fun _ => rfl) (fun h => by cases h) (fun h => by cases h))⟩
  · simp only [if_true] at hmm
    subst hmm
    rcases Nat.eq_zero_or_pos len with rfl | hlen
    · exact ⟨[], ⟨Nat.zero_le _, by simp⟩, rfl, one_at (.ro0 hm (fun h => by cases h) (fun h => by cases h) (fun h => by cases h))⟩
    obtain ⟨b, off, spot⟩ := a
    have hspot : spot = none ∧ b < W.heap.size := by
      obtain ⟨us0, hc0, _⟩ := hi 0 (by omega)
      obtain ⟨_, hul0, hat0⟩ := World.cells?_some hc0
      rw [he.cells] at hul0 hat0
      have h00 := hat0 0 hpos
      rw [List.getElem?_eq_getElem (by omega)] at h00
      simp only [Nat.zero_mul] at h00
      have hs : spot = none := by simpa [Addr.add] using World.cell?_spot h00
      refine ⟨hs, ?_⟩
      have := World.block_lt_of_cell? _ _ h00
      rwa [block_of_add, block_of_add] at this
    obtain ⟨rfl, hlt⟩ := hspot
    have hex : ∀ i : Nat, ∃ y : Option (α × List Value), i < len → ∃ z us, y = some (z, us) ∧ ok z ∧ us.length = sz ∧ (∀ (j : Nat) (u : Value), us[j]? = some u → W.cell? ⟨b, off + i * sz + j, none⟩ = some u) ∧ ∀ (j : Nat) (x : AV) (u : Value), (en z)[j]? = some x → us[j]? = some u → VR0 W x u := by
      intro i
      by_cases hlt : i < len
      · obtain ⟨us, hc, htr⟩ := hi i (by omega)
        obtain ⟨z, hz, hzl, hzv⟩ := he.read H enc W n us _ htr
        obtain ⟨_, hul, hat⟩ := World.cells?_some hc
        rw [he.cells] at hul hat
        refine ⟨some (z, us), fun _ => ⟨z, us, rfl, hz, hzl, fun j u hu => ?_, hzv⟩⟩
        have hj : j < sz := by have := (List.getElem?_eq_some_iff.1 hu).1; omega
        have := hat j hj
        rw [hu, add_of_add, Addr.add_lit] at this
        rw [Nat.add_assoc]
        exact this
      · exact ⟨none, fun h => absurd h hlt⟩
    obtain ⟨f, hf⟩ := Classical.axiomOfChoice hex
    obtain ⟨d, d2, _⟩ := hf 0 (by omega)
    let g : Nat → α × List Value := fun i => (f i).getD (d, d2)
    have hg : ∀ i, i < len → ok (g i).1 ∧ (g i).2.length = sz ∧ (∀ (j : Nat) (u : Value), (g i).2[j]? = some u → W.cell? ⟨b, off + i * sz + j, none⟩ = some u) ∧ ∀ (j : Nat) (x : AV) (u : Value), (en (g i).1)[j]? = some x → (g i).2[j]? = some u → VR0 W x u := by
      intro i hlt
      obtain ⟨z, us, hz, h1, h2, h3, h4⟩ := hf i hlt
      have : g i = (z, us) := by show (f i).getD _ = _; rw [hz]; rfl
      rw [this]
      exact ⟨h1, h2, h3, h4⟩
    have hpick : ∀ (i : Nat) (e : List AV) (j : Nat) (a : AV), (((List.range len).map fun i => (g i).1).map en)[i]? = some e → e[j]? = some a → i < len ∧ (en (g i).1)[j]? = some a ∧ ∃ u, (g i).2[j]? = some u ∧ u = ((g i).2[j]?).getD Go.undef := by
      intro i e j a hie hja
      have hlt : i < len := by have := (List.getElem?_eq_some_iff.1 hie).1; simpa using this
      rw [List.getElem?_map, List.getElem?_map, List.getElem?_range hlt] at hie
      simp at hie
      subst hie
      refine ⟨hlt, hja, ?_⟩
      have hj : j < (g i).2.length := by
        rw [(hg i hlt).2.1, ← (he.shape (g i).1).1]
        exact (List.getElem?_eq_some_iff.1 hja).1
      exact ⟨(g i).2[j], List.getElem?_eq_getElem hj, by simp [List.getElem?_eq_getElem hj]⟩
    refine ⟨(List.range len).map (fun i => (g i).1), ⟨by simp; omega, ?_⟩, rfl, one_at ?_⟩
    · intro a ha
      simp only [List.mem_map, List.mem_range] at ha
      obtain ⟨i, hi, rfl⟩ := ha
      exact (hg i hi).1
    · have hlen' : (((List.range len).map fun i => (g i).1).map en).length = len := by simp
      have key := VR.ro (M := fun _ => none) (F := fun b => b < W.heap.size) (w := W) (es := ((List.range len).map fun i => (g i).1).map en) (k := .any) (b := b) (o := off) (sz := sz) (cap := m)
        (us := fun i j => ((g i).2[j]?).getD Go.undef) hlt ?_ ?_ ?_ (by rw [hlen']; exact hl) hm (fun h => by cases h) (fun h => by cases h)
      · rw [hlen'] at key
        exact key
      · intro x hx
        simp only [List.mem_map] at hx
        obtain ⟨a, _, rfl⟩ := hx
        exact he.shape a
      · intro i e j a hie hja
        obtain ⟨h1, h2, u, hu, hu'⟩ := hpick i e j a hie hja
        rw [← hu']
        exact (hg i h1).2.2.1 j u hu
      · intro i e j a hie hja
        obtain ⟨h1, h2, u, hu, hu'⟩ := hpick i e j a hie hja
        rw [← hu']
        exact (hg i h1).2.2.2 j a u h2 hu

/-! ### arguments -/
/-- an argument of one cell -/
theorem arg_one {α : Type} {en : α → List AV} {ok : α → Prop} (h : RdA P t α 1 en ok) {H : Type} {enc : TypeId × Value → H} {W : World} {v : Value} {d : DataW H} {p : List MemPlace} (hv : v.cells.toList = [v])
    (hd : DataW.Trod enc P W 0 (fun _ => true) true t v d p) : ∃ a, ok a ∧ VR0 W ((en a).headD .undef) v := by
  obtain ⟨fuel, hf⟩ := hd
  rw [hv] at hf
  obtain ⟨a, h1, h2, h3⟩ := h.read H enc W fuel _ _ hf
  refine ⟨a, h1, ?_⟩
  have hl := (h.shape a).1
  match he : en a, hl with
  | [x], _ => exact h3 0 x v (by rw [he]; rfl) rfl
end

/-- a call from a world where nothing is one's own -/
theorem law_run {P : Program} {f : FuncId} {args : List AV} (h : SCall P f args [] (fun x _ => x = .bool true)) {W : World} {vs : List Value} (hl : vs.length = args.length) (hv : ∀ (i : Nat) (x : AV) (v : Value), args[i]? = some x → vs[i]? = some v → VR0 W x v) :
    Calls P f vs.toArray W fun e w' => e = .returned (.bool true) ∧ Below W.heap.size W w' := by
  refine (h (fun _ => none) (fun b => b < W.heap.size) 0 W vs hl hv ⟨by simp, by simp, fun g ⟨p, hp, _⟩ => by simp at hp, fun _ h => h, fun _ _ => rfl⟩).mono ?_
  rintro e w' ⟨v, x, M', F', N', σ', rfl, he, hvx, _, rfl⟩
  cases hvx
  exact ⟨rfl, he.only.below (Nat.le_refl _) fun i _ ⟨p, hp, _⟩ => by simp at hp⟩
theorem vs_nil {W : World} : ∀ (i : Nat) (x : AV) (v : Value), ([] : List AV)[i]? = some x → ([] : List Value)[i]? = some v → VR0 W x v := fun i x v h => by simp at h
theorem vs_cons {W : World} {x : AV} {v : Value} {xs : List AV} {vs : List Value} (h : VR0 W x v) (k : ∀ (i : Nat) (x : AV) (v : Value), xs[i]? = some x → vs[i]? = some v → VR0 W x v) :
    ∀ (i : Nat) (x' : AV) (v' : Value), (x :: xs)[i]? = some x' → (v :: vs)[i]? = some v' → VR0 W x' v' := by
  intro i x' v' hx hv
  match i with
  | 0 => simp at hx hv; subst hx hv; exact h
  | i + 1 => exact k i x' v' (by simpa using hx) (by simpa using hv)

end Go.Proofs.Ytjpdadobblffmaa
/-
  How a statement's arguments are read: numbers, bytes, instructions.
-/
namespace Go.Proofs.Ytjpdadobblffmaa
open Go.RowKit Go.ChangeShapes Go.WideShapes Go.ChangeAt Go.Deep
abbrev I64 (a : Int) : Prop := (Lit.int .i64 a).wf = true
theorem rda_ints : RdA Try.prog 22 (List Int) 1 (fun l => [.ro 1 (l.map encI) .any]) (fun l => l.length ≤ maxLen ∧ ∀ a ∈ l, I64 a) := rda_slice rfl (by decide) (rda_int (t := 3) (k := .i64) rfl)
end Go.Proofs.Ytjpdadobblffmaa
/-
  Plain words of instructions one behind the other.
-/
namespace Go.Proofs.Ytjpdadobblffmaa
open Go.RowKit Go.ChangeShapes Go.WideShapes Go.ChangeAt Go.Deep
theorem flat_put_len : ∀ {M : List Ins}, (∀ x ∈ M, x.Ok ∧ mayN x = true) → (M.flatMap putN).length ≤ 200 * M.length
  | [], _ => by simp
  | x :: M, h => by
    have ih := flat_put_len (M := M) fun y hy => h y (List.mem_cons_of_mem _ hy)
    have h1 := putN_len (h x List.mem_cons_self).1 (h x List.mem_cons_self).2
    simp only [List.flatMap_cons, List.length_append, List.length_cons]
    omega
theorem flat_put_lt {M : List Ins} (h : ∀ x ∈ M, x.Ok ∧ mayN x = true) : ∀ b ∈ M.flatMap putN, b < 256 := by
  intro b hb
  obtain ⟨x, hx, hb⟩ := List.mem_flatMap.1 hb
  exact putN_lt (h x hx).2 b hb
theorem lt_app {a b : List Nat} (h : ∀ x ∈ a, x < 256) (k : ∀ x ∈ b, x < 256) : ∀ x ∈ a ++ b, x < 256 := fun x hx => by
  rcases List.mem_append.1 hx with hx | hx
  · exact h x hx
  · exact k x hx
end Go.Proofs.Ytjpdadobblffmaa
/-
  What is read as an instruction is the instruction's own bytes: plain words.
-/
namespace Go.Proofs.Ytjpdadobblffmaa
open Go.RowKit Go.ChangeShapes Go.WideShapes Go.ChangeAt Go.Deep
/-- between n and m stand the bytes p -/
def Sp (l : List Nat) (n m : Nat) (p : List Nat) : Prop := l.drop n = p ++ l.drop m ∧ m = n + p.length ∧ m ≤ l.length
theorem Sp.trans {l : List Nat} {n m k : Nat} {p q : List Nat} (h : Sp l n m p) (g : Sp l m k q) : Sp l n k (p ++ q) :=
  ⟨by rw [h.1, g.1, List.append_assoc], by rw [g.2.1, h.2.1, List.length_append]; omega, g.2.2⟩
theorem Sp.nil {l : List Nat} {n : Nat} (h : n ≤ l.length) : Sp l n n [] := ⟨rfl, by simp, h⟩
theorem sp_take {l : List Nat} {n k : Nat} (h : n + k ≤ l.length) : Sp l n (n + k) ((l.drop n).take k) := by
  have hk : ((l.drop n).take k).length = k := by simp; omega
  refine ⟨?_, by rw [hk], h⟩
  rw [← List.drop_drop]
  exact (List.take_append_drop k (l.drop n)).symm
theorem rdB_sp {l : List Nat} {n : Nat} (hn : n ≤ l.length) (h : (rdB l n 0).2.2 = 0) : Sp l n (rdB l n 0).2.1 [(rdB l n 0).1] ∧ (rdB l n 0).1 ∈ l := by
  unfold rdB at h ⊢
  rw [if_neg (by simp)] at h ⊢
  by_cases hc : ((n : Int) == (l.length : Int)) = true
  · rw [if_pos hc] at h; cases h
  · rw [if_neg hc]
    have hlt : n < l.length := by simp at hc; omega
    dsimp only
    rw [getElem!_pos l n hlt]
    exact ⟨⟨by rw [List.drop_eq_getElem_cons hlt]; rfl, rfl, hlt⟩, List.getElem_mem hlt⟩
theorem rdU_sp {l : List Nat} {lim : Int} {n : Nat} (hn : n ≤ l.length) (h : (rdU l lim n 0).2.2 = 0) : Sp l n (rdU l lim n 0).2.1 (uB (rdU l lim n 0).1) ∧ ((rdU l lim n 0).1 : Int) ≤ lim ∧ (rdU l lim n 0).1 < 4294967296 := by
  obtain ⟨b1, b2, -⟩ := getU_bd (l.drop n)
  unfold rdU at h ⊢
  rw [if_neg (by simp)] at h ⊢
  split at h
  · next h1 => simp at h1; exact absurd h (by simpa using h1)
  · next h1 =>
    rw [if_neg h1]
    split at h
    · cases h
    · next h2 =>
      rw [if_neg h2]
      dsimp only
      simp only [decide_eq_true_eq, Int.not_lt] at h2
      refine ⟨?_, h2, b1⟩
      simp only [bne_iff_ne, ne_eq, Decidable.not_not] at h1
      unfold getU at h1 b2 ⊢
      split at h1
      · next h3 => exact absurd h1 h3
      · next h3 =>
        rw [if_neg h3] at b2 ⊢
        split at h1
        · next h4 =>
          rw [if_pos h4] at b2 ⊢
          rw [h4.1]
          simp at b2
          exact sp_take (by simp; omega)
        · cases h1
theorem wrap_i64_bd (n : Int) : -9223372036854775808 ≤ IntKind.i64.wrap n ∧ IntKind.i64.wrap n ≤ 9223372036854775807 := by
  have h1 : (2 : Int) ^ IntKind.i64.bits = 18446744073709551616 := by decide
  have h3 : (2 : Int) ^ (IntKind.i64.bits - 1) = 9223372036854775808 := by decide
  have h2 : IntKind.i64.signed = true := rfl
  unfold IntKind.wrap
  simp only [h1, h2, h3, Bool.true_and, decide_eq_true_eq]
  split <;> omega
theorem rdS_sp {l : List Nat} {bits : Nat} (hb : bits = 32 ∨ bits = 64) {n : Nat} (hn : n ≤ l.length) (h : (rdS l bits n).2.2 = 0) : Sp l n (rdS l bits n).2.1 (sB (rdS l bits n).1) ∧ (-9223372036854775808 ≤ (rdS l bits n).1 ∧ (rdS l bits n).1 ≤ 9223372036854775807) ∧ (bits = 32 → -2147483648 ≤ (rdS l bits n).1 ∧ (rdS l bits n).1 ≤ 2147483647) := by
  have hv : ∀ t : List Nat, -9223372036854775808 ≤ valS t ∧ valS t ≤ 9223372036854775807 := by
    intro t
    match t with
    | [] => simp [valS]
    | [b] => unfold valS; split <;> omega
    | b :: c :: t =>
      rw [valS]
      exact wrap_i64_bd _
  have b2 := getS_bd bits (l.drop n)
  unfold rdS at h ⊢
  dsimp only at h ⊢
  unfold getS at h b2 ⊢
  split at h
  · next h3 => exact absurd h h3
  · next h3 =>
    rw [if_neg h3] at b2 ⊢
    split at h
    · next h4 =>
      rw [if_pos h4] at b2 ⊢
      dsimp only at b2 ⊢
      refine ⟨?_, hv _, h4.2⟩
      rw [h4.1]
      simp at b2
      exact sp_take (by omega)
    · cases h
theorem rdZ_sp {l : List Nat} {n : Nat} (hn : n ≤ l.length) (h : (rdZ l n 0).2 = 0) : Sp l n (rdZ l n 0).1 [0] := by
  unfold rdZ at h ⊢
  split at h
  · cases h
  · next h1 =>
    rw [if_neg h1]
    have := (rdB_sp hn h).1
    rw [show (rdB l n 0).1 = 0 by simpa using h1] at this
    exact this
theorem rdB_ne {l : List Nat} {n : Nat} {e : Int} (h : e ≠ 0) : rdB l n e = (0, n, e) := by unfold rdB; rw [if_pos (by simpa using h)]
theorem rdU_ne {l : List Nat} {lim : Int} {n : Nat} {e : Int} (h : e ≠ 0) : rdU l lim n e = (0, n, e) := by unfold rdU; rw [if_pos (by simpa using h)]
theorem rdK_sp {l : List Nat} {n : Nat} (hn : n ≤ l.length) (h : (rdK l n 0).2.2 = 0) : Sp l n (rdK l n 0).2.1 [kindB (rdK l n 0).1] ∧ 0 ≤ (rdK l n 0).1 ∧ (rdK l n 0).1 ≤ 2 := by
  unfold rdK at h ⊢
  by_cases h1 : (if decide (kindI (rdB l n 0).1 < 0) = true then ((rdB l n 0).2.2 == 0) else false) = true
  · rw [if_pos h1] at h; cases h
  · rw [if_neg h1] at h ⊢
    dsimp only at h ⊢
    obtain ⟨s, -⟩ := rdB_sp hn h
    have hk : ¬ kindI (rdB l n 0).1 < 0 := by
      intro hk
      rw [h, if_pos (by simpa using hk)] at h1
      exact h1 rfl
    rw [if_neg hk]
    generalize hc : (rdB l n 0).1 = c at hk s ⊢
    have : c = 64 ∨ c = 127 ∨ c = 126 := by
      by_cases c1 : c = 64
      · exact .inl c1
      by_cases c2 : c = 127
      · exact .inr (.inl c2)
      by_cases c3 : c = 126
      · exact .inr (.inr c3)
      exfalso
      apply hk
      unfold kindI idxN
      rw [show ([64, 127, 126] : List Int).findIdx? (· == (c : Int)) = none by
        simp only [List.findIdx?_cons, List.findIdx?_nil]
        rw [if_neg (by simp; omega), if_neg (by simp; omega), if_neg (by simp; omega)]; rfl]
      decide
    rcases this with rfl | rfl | rfl <;> exact ⟨s, by decide, by decide⟩
theorem rdL_ne {l : List Nat} {n : Nat} {e : Int} (h : e ≠ 0) : ∀ m, (rdL l m n e).2.2 ≠ 0
  | 0 => h
  | m + 1 => by
    rw [rdL]
    dsimp only
    rw [rdU_ne (rdL_ne h m)]
    exact rdL_ne h m
theorem rdL_sp {l : List Nat} {n : Nat} (hn : n ≤ l.length) : ∀ m, (rdL l m n 0).2.2 = 0 → Sp l n (rdL l m n 0).2.1 ((rdL l m n 0).1.flatMap fun z => uB z.toNat) ∧ ∀ z ∈ (rdL l m n 0).1, 0 ≤ z ∧ z ≤ 1000
  | 0, _ => ⟨Sp.nil hn, by simp [rdL]⟩
  | m + 1, h => by
    rw [rdL] at h ⊢
    dsimp only at h ⊢
    have h0 : (rdL l m n 0).2.2 = 0 := by
      by_cases hc : (rdL l m n 0).2.2 = 0
      · exact hc
      · rw [rdU_ne hc] at h; exact h
    obtain ⟨s, hz⟩ := rdL_sp hn m h0
    rw [h0] at h ⊢
    obtain ⟨s2, h2, -⟩ := rdU_sp s.2.2 h
    refine ⟨?_, fun z hz2 => ?_⟩
    · rw [List.flatMap_append]
      simpa using s.trans s2
    · rcases List.mem_append.1 hz2 with hz2 | hz2
      · exact hz z hz2
      · rw [List.mem_singleton.1 hz2]; omega
theorem fin_ok {x : Ins} {n : Nat} {e : Int} (h : (fin x n e).2.2 = 0) : e = 0 ∧ fin x n e = (x, n, 0) := by
  unfold fin at h ⊢
  by_cases he : e = 0
  · subst he; exact ⟨rfl, rfl⟩
  · rw [if_pos (by simpa using he)] at h; exact absurd h he
theorem rdZ_ne {l : List Nat} {n : Nat} {e : Int} (h : e ≠ 0) : (rdZ l n e).2 ≠ 0 := by unfold rdZ; rw [rdB_ne h, if_neg (by simp)]; exact h
theorem formN_rng (op : Int) : formN op = 0 ∨ formN op = 1 ∨ formN op = 2 ∨ formN op = 3 ∨ formN op = 4 ∨ formN op = 5 ∨ formN op = 6 ∨ formN op = 7 ∨ formN op = 8 ∨ formN op = 9 := by
  unfold formN formW
  repeat' split
  all_goals simp
theorem getT_sound {l : List Nat} {op : Nat} (hop : op < 256) {n : Nat} (hn : n ≤ l.length) (hf : (formN (op : Int) == 0) = false) (h : (getT l op n 0).2.2 = 0) :
    (getT l op n 0).1.op = op ∧ (getT l op n 0).1.Ok ∧ mayN (getT l op n 0).1 = true ∧ Sp l n (getT l op n 0).2.1 (putT (getT l op n 0).1) := by
  unfold getT at h ⊢
  by_cases g2 : (formN (op : Int) == 2) = true
  · simp only [g2, if_true] at h ⊢
    obtain ⟨he, hx⟩ := fin_ok h
    rw [hx]
    obtain ⟨s, k1, k2⟩ := rdK_sp hn he
    have e2 : formN (op : Int) = 2 := by simpa using g2
    refine ⟨rfl, ⟨by dsimp only; omega, by dsimp only; omega, by dsimp only; omega, by dsimp only; omega, by simp⟩, by simp [mayN, preN, e2, bt2_eq]; omega, ?_⟩
    simp only [putT, e2]; exact s
  simp only [g2, Bool.false_eq_true, if_false] at h ⊢
  by_cases g3 : (formN (op : Int) == 3) = true
  · simp only [g3, if_true] at h ⊢
    obtain ⟨he, hx⟩ := fin_ok h
    rw [hx]
    obtain ⟨s, k1, k2⟩ := rdU_sp hn he
    have e2 : formN (op : Int) = 3 := by simpa using g3
    refine ⟨rfl, ⟨by dsimp only; omega, by dsimp only; omega, by dsimp only; omega, by dsimp only; omega, by simp⟩, by simp [mayN, preN, e2, bt2_eq]; omega, ?_⟩
    simp only [putT, e2]; exact s
  simp only [g3, Bool.false_eq_true, if_false] at h ⊢
  by_cases g5 : (formN (op : Int) == 5) = true
  · simp only [g5, if_true] at h ⊢
    obtain ⟨he, hx⟩ := fin_ok h
    rw [hx]
    have h0 : (rdU l 1000 n 0).2.2 = 0 := by
      by_cases hc : (rdU l 1000 n 0).2.2 = 0
      · exact hc
      · exact absurd he (rdZ_ne hc)
    obtain ⟨s, k1, k2⟩ := rdU_sp hn h0
    rw [h0] at he ⊢
    have s2 := rdZ_sp s.2.2 he
    have e2 : formN (op : Int) = 5 := by simpa using g5
    refine ⟨rfl, ⟨by dsimp only; omega, by dsimp only; omega, by dsimp only; omega, by dsimp only; omega, by simp⟩, by simp [mayN, preN, e2, bt2_eq]; omega, ?_⟩
    simp only [putT, e2]; exact s.trans s2
  simp only [g5, Bool.false_eq_true, if_false] at h ⊢
  by_cases g4 : (formN (op : Int) == 4) = true
  · simp only [g4, if_true] at h ⊢
    obtain ⟨he, hx⟩ := fin_ok h
    rw [hx]
    have h1 : (rdL l (rdU l 50 n 0).1 (rdU l 50 n 0).2.1 (rdU l 50 n 0).2.2).2.2 = 0 := by
      by_cases hc : (rdL l (rdU l 50 n 0).1 (rdU l 50 n 0).2.1 (rdU l 50 n 0).2.2).2.2 = 0
      · exact hc
      · rw [rdU_ne hc] at he; exact he
    have h0 : (rdU l 50 n 0).2.2 = 0 := by
      by_cases hc : (rdU l 50 n 0).2.2 = 0
      · exact hc
      · exact absurd h1 (rdL_ne hc _)
    obtain ⟨s, k1, k2⟩ := rdU_sp hn h0
    rw [h0] at h1 he ⊢
    obtain ⟨s2, hz⟩ := rdL_sp s.2.2 _ h1
    have hlen := rdL_len (l := l) (m := (rdU l 50 n 0).1) (n := (rdU l 50 n 0).2.1) (e := 0)
    rw [h1] at he ⊢
    obtain ⟨s3, k3, k4⟩ := rdU_sp s2.2.2 he
    have e2 : formN (op : Int) = 4 := by simpa using g4
    generalize rdL l (rdU l 50 n 0).1 (rdU l 50 n 0).2.1 0 = w at *
    obtain ⟨L, m, e⟩ := w
    dsimp only at *
    have hany : (L.any fun z => !bt2 z 0 1000) = false := by
      rw [List.any_eq_false]
      intro z hzz
      have := hz z hzz
      simp [bt2_eq]; omega
    refine ⟨rfl, ⟨by dsimp only; omega, by dsimp only; omega, by dsimp only; omega, by dsimp only; omega, by simp; omega⟩, ?_, ?_⟩
    · unfold mayN preN
      dsimp only
      rw [e2, hany]
      simp [bt2_eq]; omega
    · unfold putT
      dsimp only
      rw [e2, hlen]
      exact (s.trans s2).trans s3
  simp only [g4, Bool.false_eq_true, if_false] at h ⊢
  by_cases g6 : (formN (op : Int) == 6) = true
  · simp only [g6, if_true] at h ⊢
    obtain ⟨he, hx⟩ := fin_ok h
    rw [hx]
    have h0 : (rdU l 3 n 0).2.2 = 0 := by
      by_cases hc : (rdU l 3 n 0).2.2 = 0
      · exact hc
      · rw [rdU_ne hc] at he; exact absurd he hc
    obtain ⟨s, k1, k2⟩ := rdU_sp hn h0
    rw [h0] at he ⊢
    obtain ⟨s2, k3, k4⟩ := rdU_sp s.2.2 he
    have e2 : formN (op : Int) = 6 := by simpa using g6
    refine ⟨rfl, ⟨by dsimp only; omega, by dsimp only; omega, by dsimp only; omega, by dsimp only; omega, by simp⟩, by simp [mayN, preN, e2, bt2_eq]; omega, ?_⟩
    simp only [putT, e2]; exact s.trans s2
  simp only [g6, Bool.false_eq_true, if_false] at h ⊢
  by_cases g7 : (formN (op : Int) == 7) = true
  · simp only [g7, if_true] at h ⊢
    obtain ⟨he, hx⟩ := fin_ok h
    rw [hx]
    have s := rdZ_sp hn he
    have e2 : formN (op : Int) = 7 := by simpa using g7
    refine ⟨rfl, ⟨by dsimp only; omega, by dsimp only; omega, by simp, by simp, by simp⟩, by simp [mayN, preN, e2], ?_⟩
    simp only [putT, e2]; exact s
  simp only [g7, Bool.false_eq_true, if_false] at h ⊢
  by_cases g8 : (formN (op : Int) == 8) = true
  · simp only [g8, if_true] at h ⊢
    obtain ⟨he, hx⟩ := fin_ok h
    rw [hx]
    obtain ⟨s, k1, k2⟩ := rdS_sp (.inl rfl) hn he
    have k2 := k2 rfl
    have e2 : formN (op : Int) = 8 := by simpa using g8
    refine ⟨rfl, ⟨by dsimp only; omega, by dsimp only; omega, by dsimp only; omega, by dsimp only; omega, by simp⟩, by simp [mayN, preN, e2, bt2_eq]; omega, ?_⟩
    simp only [putT, e2]; exact s
  simp only [g8, Bool.false_eq_true, if_false] at h ⊢
  by_cases g9 : (formN (op : Int) == 9) = true
  · simp only [g9, if_true] at h ⊢
    obtain ⟨he, hx⟩ := fin_ok h
    rw [hx]
    obtain ⟨s, k1, k2⟩ := rdS_sp (.inr rfl) hn he
    have e2 : formN (op : Int) = 9 := by simpa using g9
    refine ⟨rfl, ⟨by dsimp only; omega, by dsimp only; omega, by dsimp only; omega, by dsimp only; omega, by simp⟩, by simp [mayN, preN, e2], ?_⟩
    simp only [putT, e2]; exact s
  simp only [g9, Bool.false_eq_true, if_false] at h ⊢
  have e2 : formN (op : Int) = 1 := by
    simp at hf g2 g3 g4 g5 g6 g7 g8 g9
    have := formN_rng (op : Int)
    omega
  obtain ⟨he, hx⟩ := fin_ok h
  rw [hx]
  refine ⟨rfl, ⟨by dsimp only; omega, by dsimp only; omega, by simp, by simp, by simp⟩, by simp [mayN, preN, e2], ?_⟩
  simp only [putT, e2]; exact Sp.nil hn
theorem getP_sound {l : List Nat} (hlt : ∀ x ∈ l, x < 256) (h : (getP l).2.2 = 0) : (getP l).1.Ok ∧ mayN (getP l).1 = true ∧ Sp l 0 (getP l).2.1 (putN (getP l).1) := by
  unfold getP at h ⊢
  by_cases g1 : (formN ((rdB l 0 0).1 : Nat) == 0) = true
  · rw [if_pos g1] at h; cases h
  rw [if_neg g1] at h ⊢
  by_cases g2 : ((rdB l 0 0).2.2 != 0) = true
  · rw [if_pos g2] at h; rw [show (rdB l 0 0).2.2 = 0 from h] at g2; simp at g2
  rw [if_neg g2] at h ⊢
  have he : (rdB l 0 0).2.2 = 0 := by simpa using g2
  obtain ⟨s, hm⟩ := rdB_sp (Nat.zero_le _) he
  rw [he] at h ⊢
  obtain ⟨k1, k2, k3, k4⟩ := getT_sound (hlt _ hm) s.2.2 (by simpa using g1) h
  refine ⟨k2, k3, ?_⟩
  have := s.trans k4
  unfold putN
  rw [k1]
  exact this
end Go.Proofs.Ytjpdadobblffmaa
/-
  The symbolic layer: appends onto nil, bytes as text. No program is named here.
-/
namespace Go.Proofs.Ytjpdadobblffmaa
open Go.RowKit Go.ChangeShapes Go.WideShapes Go.ChangeAt Go.Deep
theorem oldT {P : Prop} (h : P := by (first | rfl | (simp; done) | (rw [List.drop_zero]; exact List.take_of_length_le (by first | (simp; done) | (simp; omega) | omega)) | (simp only [List.map_take, List.map_drop, List.drop_zero]; done))) : P := h
theorem take_all {α : Type} {l : List α} {n : Nat} (h : l.length ≤ n) : (l.drop 0).take n = l := by rw [List.drop_zero]; exact List.take_of_length_le h
theorem textT {P : Prop} (h : P := by (first | exact take_all (by first | (simp; done) | (simp; omega) | omega) | rfl)) : P := h
section
variable {P : Program} {n : Nat} {ops : Array Oper} {rest : List Oper} {fr : Fr} {σ : Sto} {K : ASt → Prop} {op : Op} {ty t t' : TypeId} {pos : String} {af : Array Edge} {x y : Operand} {d : Nat}
theorem anA {e : TypeId} [Ty P t (.slice e)] {sz by_ : Nat} {zv : Value} [Tz P e sz by_ zv] {z : Nat} {k : Rk} {ys : List (List AV)} (es' : List (List AV)) (len' : Nat)
    (hK : ∀ r, Fresh r σ → RS P n ops rest ⟨(d, .own r 0 len') :: fr, (r, .arr e sz es') :: σ⟩ K)
    (hz : zv.cells.size = sz := by rfl) (h0 : Nat.ble 1 sz = true := by rfl) (hb : aev ⟨fr, σ⟩ x = some (.ro z [] k) := by rfl) (hk : k ≠ .any := by decide) (hy : Src ⟨fr, σ⟩ y sz ys := by exact srcT) (he : ys = es' := by exact oldT) (hl : len' = ys.length := by exact lenT) (hby : len' * by_ ≤ 140737488355328 := by (simp; try omega)) (hd : Nat.ble (d + 1) n = true := by rfl) :
    RS P n ops (⟨some d, .call { callee := .builtin .append, args := #[x, y], argTypes := #[t, t] }, ty, pos, af, none⟩ :: rest) ⟨fr, σ⟩ K := by
  subst he hl
  exact rs_heavy (hop_append_new (Nat.le_of_ble_eq_true h0) hz hb hk hy hby (lt_ble hd) hK)
variable {listed : Array Bool} {todo : List (Nat × Bool)} {held : List (Nat × List Nat)} {i : Nat}
end

/-- a row that a box tells of is written by nobody from here on -/
theorem sgo_fzb {fr : Fr} {σ σ1 σ' : Sto} {r q : Nat} {bt : TypeId} {cs cs' : List AV} {e : Ent} (hs : SSet σ r (.box bt cs) r (.box bt cs') σ1) (hd : SDel σ1 q e σ') (hb : BorL σ [q] cs cs') : SGo ⟨fr, σ⟩ ⟨fr, σ'⟩ := by
  refine sgo_freeze [q] (fun i x' hi => ⟨x', hi, .refl _⟩) (fun p hp => ?_)
  obtain ⟨h1, h2⟩ := hd.sub p hp
  refine ⟨by simpa using h2, ?_⟩
  rcases List.mem_cons.1 (hs.sub p h1) with rfl | h
  · exact ⟨_, sget_mem hs.get, .box (bagg hb)⟩
  · exact ⟨p.2, (mem_sdrop h).1, .refl _⟩

/-- a row that is told less of -/
theorem sgo_cut {fr : Fr} {σ σ' : Sto} {o : Nat} {e : TypeId} {sz : Nat} {es : List (List AV)} (k : Nat) (hs : SSet σ o (.arr e sz es) o (.arr e sz (es.take k)) σ') : SGo ⟨fr, σ⟩ ⟨fr, σ'⟩ := by
  intro M F N n a w hr
  have hmem : ∀ p ∈ σ', (∃ x, (p.1, x) ∈ σ) ∧ ER M F w p.1 p.2 := by
    intro p hp
    rcases List.mem_cons.1 (hs.sub p hp) with rfl | h
    · refine ⟨⟨_, sget_mem hs.get⟩, ?_⟩
      obtain ⟨h0, h1, h2⟩ := hr.st.ent _ (sget_mem hs.get)
      refine ⟨h0, fun x hx => h1 x (List.mem_of_mem_take hx), ?_⟩
      rcases h2 with ⟨h2, h3⟩ | ⟨g, c, vs, h2, h3, h4, h5, h6, h7⟩
      · exact .inl ⟨h2, by simp [h3]⟩
      · refine .inr ⟨g, c, vs, h2, h3, h4, by simp; omega, h6, fun i x j b u hi => ?_⟩
        rw [List.getElem?_take] at hi
        split at hi
        · exact h7 i x j b u hi
        · cases hi
    · exact ⟨⟨p.2, (mem_sdrop h).1⟩, hr.st.ent p (mem_sdrop h).1⟩
  exact ⟨M, F, N, ⟨hr.size, hr.defers, hr.fr, hr.st.retold hmem⟩, Ext.retold fun p hp => (hmem p hp).1⟩

section
variable {P : Program} {ty t t' : TypeId} {s : ASt} {c : Bool} {x y : Operand}
theorem lop_text_own {e : TypeId} [Ty P t (.slice e)] [Ty P e (.int .u8)] [Ty P t' .string] {bs bs' : List Nat} {r off len : Nat} {et : TypeId} (h : Ev s c x (.own r off len)) (hg : sget s.σ r = some (.arr et 1 (bs.map encU)) := by exact sgT) (hle : off + len ≤ bs.length := by exact lenT) (hbs : (bs.drop off).take len = bs' := by exact textT) : Lop P (.convert t t' x) ty s c (.str (strU bs')) [r] := lop_bytes_own h hg hle hbs
end
end Go.Proofs.Ytjpdadobblffmaa
/-
  Which block ends where: plain words, and the program's Match.
-/
namespace Go.Proofs.Ytjpdadobblffmaa
open Go.RowKit Go.ChangeShapes Go.WideShapes Go.ChangeAt Go.Deep
attribute [local irreducible] SW RS RD AThen ABlock
def encN (n : Nat) : List AV := [.int .i64 n]
instance : NoE encN := ⟨fun a x hx => by simp [encN] at hx; subst hx; exact NoF.int⟩
structure Bk where
  at_ : Nat
  els : Int
  en : Int
def encK (b : Bk) : List AV := [.int .i64 b.at_, .int .i64 b.els, .int .i64 b.en]
instance : NoE encK := ⟨fun a x hx => by simp [encK] at hx; rcases hx with rfl | rfl | rfl <;> exact NoF.int⟩
def isO (op : Int) : Bool := op == 2 || op == 3 || op == 4
/-- blocks so far, and which are open -/
structure MS where
  all : List Bk
  opn : List Nat
def mtop (ops : List Int) (s : MS) (i : Nat) (op : Int) : Option MS :=
  match s.opn.getLast? with
  | none => none
  | some k => match s.all[k]? with
    | none => none
    | some b => if op = 11 then some ⟨s.all.set k ⟨b.at_, b.els, i⟩, s.opn.dropLast⟩
      else if ops[b.at_]? ≠ some (4 : Int) ∨ 0 ≤ b.els then none else some ⟨s.all.set k ⟨b.at_, i, b.en⟩, s.opn⟩
def mstep (ops : List Int) (s : MS) (i : Nat) (op : Int) : Option MS :=
  if isO op = true then (if s.opn.length = 40 then none else some ⟨s.all ++ [⟨i, -1, -1⟩], s.opn ++ [s.all.length]⟩)
  else if op ≠ 5 ∧ op ≠ 11 then some s else mtop ops s i op
def mrun (ops : List Int) : Nat → Option MS
  | 0 => some ⟨[], []⟩
  | j + 1 => match mrun ops j, ops[j]? with
    | some s, some op => mstep ops s j op
    | _, _ => none
theorem mrun_next {ops : List Int} {j : Nat} {s : MS} {op : Int} (h : mrun ops j = some s) (ho : ops[j]? = some op) : mrun ops (j + 1) = mstep ops s j op := by
  rw [mrun, h, ho]
theorem mrun_none {ops : List Int} {j : Nat} (h : mrun ops j = none) : ∀ d, mrun ops (j + d) = none
  | 0 => h
  | d + 1 => by rw [← Nat.add_assoc, mrun, mrun_none h d]
/-- what holds of what was found so far -/
structure MOk (j : Nat) (s : MS) : Prop where
  opn : ∀ k ∈ s.opn, k < s.all.length
  at_ : ∀ b ∈ s.all, b.at_ < j
  len : s.opn.length ≤ 40
  all : s.all.length ≤ j
theorem mstep_ok {ops : List Int} {j : Nat} {s s' : MS} {op : Int} (h : MOk j s) (hs : mstep ops s j op = some s') : MOk (j + 1) s' := by
  unfold mstep at hs
  split at hs
  · split at hs
    · cases hs
    · next h40 =>
      obtain rfl := Option.some.inj hs
      refine ⟨fun k hk => ?_, fun b hb => ?_, by have := h.len; simp; omega, by have := h.all; simp; omega⟩
      · rcases List.mem_append.1 hk with hk | hk
        · have := h.opn k hk; simp; omega
        · rw [List.mem_singleton.1 hk]; simp
      · rcases List.mem_append.1 hb with hb | hb
        · have := h.at_ b hb; omega
        · rw [List.mem_singleton.1 hb]; exact Nat.lt_succ_self _
  split at hs
  · obtain rfl := Option.some.inj hs
    exact ⟨h.opn, fun b hb => Nat.lt_succ_of_lt (h.at_ b hb), h.len, Nat.le_succ_of_le h.all⟩
  unfold mtop at hs
  split at hs
  · cases hs
  split at hs
  · cases hs
  · next k hk b hb =>
    have hbm := h.at_ b (List.mem_of_getElem? hb)
    split at hs
    · obtain rfl := Option.some.inj hs
      refine ⟨fun x hx => ?_, fun x hx => ?_, by have := h.len; simp; omega, by have := h.all; simp; omega⟩
      · have := h.opn x ((List.dropLast_sublist _).subset hx); simpa using this
      · rcases List.mem_or_eq_of_mem_set hx with hx | rfl
        · exact Nat.lt_succ_of_lt (h.at_ x hx)
        · exact Nat.lt_succ_of_lt hbm
    split at hs
    · cases hs
    · obtain rfl := Option.some.inj hs
      refine ⟨fun x hx => ?_, fun x hx => ?_, h.len, by have := h.all; simp; omega⟩
      · have := h.opn x hx; simpa using this
      · rcases List.mem_or_eq_of_mem_set hx with hx | rfl
        · exact Nat.lt_succ_of_lt (h.at_ x hx)
        · exact Nat.lt_succ_of_lt hbm
theorem mrun_ok {ops : List Int} : ∀ {j : Nat} {s : MS}, mrun ops j = some s → MOk j s
  | 0, s, h => by
    obtain rfl := Option.some.inj h
    exact ⟨by simp, by simp, by simp, by simp⟩
  | j + 1, s, h => by
    rw [mrun] at h
    split at h
    · next s0 op h1 h2 => exact mstep_ok (mrun_ok h1) h
    · cases h
def matchN (ops : List Int) : Option (List Bk) := if 300 < ops.length then none else match mrun ops ops.length with | some ⟨all, []⟩ => some all | _ => none
def blN (ops : List Int) : List Bk := (matchN ops).getD []
def okN (ops : List Int) : Bool := (matchN ops).isSome
theorem match_fail {ops : List Int} {j : Nat} (h : mrun ops j = none) (hj : j ≤ ops.length) : matchN ops = none := by
  unfold matchN
  split
  · rfl
  · have := mrun_none h (ops.length - j)
    rw [Nat.add_sub_cancel' hj] at this
    rw [this]
def opsOf (l : List Ins) : List Int := l.map Ins.op
theorem opsOf_at {l : List Ins} {j : Nat} {x : Ins} (h : l[j]? = some x) : (opsOf l)[j]? = some x.op := by simp [opsOf, h]
theorem mk_fail {ops : List Int} {q : Nat} {t : TypeId} (h : matchN ops = none) : ∃ q2, AV.tup [.own q 0 0, .bool false] = .tup [.own q2 0 (blN ops).length, .bool (okN ops)] ∧ ([(q, .arr t 3 [])] : Sto) = [(q2, .arr t 3 ((blN ops).map encK))] :=
  ⟨q, by simp [blN, okN, h], by simp [blN, h]⟩
set_option maxRecDepth 100000 in
theorem code_opens (op : Int) : SCall Try.prog 9 [.int .i64 op] [] (fun x σ => x = .bool (isO op) ∧ σ = []) := by
  refine scall_of (n := 13) (ks := [0, 2]) Try.func9 rfl rfl (Nat.le_of_ble_eq_true rfl) ?_
  (refine ctlT ?_)
  refine rgT ?_
  refine lo (lop_assign (E rfl)) rfl ?_
  refine leT ?_
  (refine ctlT ?_)
  refine rgT ?_
  refine lo (lop_move (E rfl)) rfl ?_
  refine lo (lop_eql (E rfl) (E rfl)) rfl ?_
  refine lo (lop_move (E rfl)) rfl ?_
  refine z109 ?_
  refine z112 ?_
  refine z113 ?_
  refine lo (lop_move (E rfl)) rfl ?_
  refine z109 ?_
  refine z112 ?_
  refine z113 ?_
  refine lo (lop_assign (E rfl)) rfl ?_
  refine leT ?_
  (refine ctlT ?_)
  (apply aend; (exact resT))
  · exact ⟨by show AV.bool _ = _; congr 1; simp only [if_or, isO], rfl⟩
  · (exact stleT)
end Go.Proofs.Ytjpdadobblffmaa
/-
  The program's Match.
-/
namespace Go.Proofs.Ytjpdadobblffmaa
open Go.RowKit Go.ChangeShapes Go.WideShapes Go.ChangeAt Go.Deep
attribute [local irreducible] SW RS RD AThen ABlock
theorem step_open {ops : List Int} {s : MS} {j : Nat} {op : Int} (h : isO op = true) (hl : s.opn.length ≠ 40) : mstep ops s j op = some ⟨s.all ++ [⟨j, -1, -1⟩], s.opn ++ [s.all.length]⟩ := by
  unfold mstep; rw [if_pos h, if_neg hl]
theorem step_full {ops : List Int} {s : MS} {j : Nat} {op : Int} (h : isO op = true) (hl : s.opn.length = 40) : mstep ops s j op = none := by
  unfold mstep; rw [if_pos h, if_pos hl]
theorem step_skip {ops : List Int} {s : MS} {j : Nat} {op : Int} (h : isO op = false) (h1 : op ≠ 5) (h2 : op ≠ 11) : mstep ops s j op = some s := by
  unfold mstep; rw [if_neg (by simp [h]), if_pos ⟨h1, h2⟩]
theorem step_top {ops : List Int} {s : MS} {j : Nat} {op : Int} (h : isO op = false) (h1 : op = 5 ∨ op = 11) : mstep ops s j op = mtop ops s j op := by
  unfold mstep; rw [if_neg (by simp [h]), if_neg (by omega)]
theorem top_none {ops : List Int} {all : List Bk} {j : Nat} {op : Int} : mtop ops ⟨all, []⟩ j op = none := rfl
theorem top_end {ops : List Int} {all : List Bk} {pre : List Nat} {k j : Nat} {b : Bk} (hb : all[k]? = some b) : mtop ops ⟨all, pre ++ [k]⟩ j 11 = some ⟨all.set k ⟨b.at_, b.els, j⟩, pre⟩ := by
  unfold mtop; simp [hb]
theorem top_else {ops : List Int} {all : List Bk} {pre : List Nat} {k j : Nat} {b : Bk} (hb : all[k]? = some b) (h4 : ops[b.at_]? = some 4) (he : ¬ 0 ≤ b.els) : mtop ops ⟨all, pre ++ [k]⟩ j 5 = some ⟨all.set k ⟨b.at_, j, b.en⟩, pre ++ [k]⟩ := by
  unfold mtop; simp [hb, h4, he]
theorem top_bad {ops : List Int} {all : List Bk} {pre : List Nat} {k j : Nat} {b : Bk} (hb : all[k]? = some b) (h : ops[b.at_]? ≠ some 4 ∨ 0 ≤ b.els) : mtop ops ⟨all, pre ++ [k]⟩ j 5 = none := by
  unfold mtop; simp [hb]; intro h4
  rcases h with h | h
  · exact absurd h4 h
  · exact h
theorem last_at {pre : List Nat} {k : Nat} : (pre ++ [k])[(((pre ++ [k]).length : Nat) - 1 : Int).toNat]? = some k := by
  rw [show (((pre ++ [k]).length : Nat) - 1 : Int).toNat = pre.length by simp]
  simp
theorem nat_at {α : Type} {l : List α} {k : Nat} {x : α} (h : l[k]? = some x) : l[(k : Int).toNat]? = some x := by rw [Int.toNat_natCast]; exact h
theorem blN_ok (ops : List Int) : (blN ops).length ≤ ops.length ∧ ∀ b ∈ blN ops, b.at_ < ops.length := by
  unfold blN matchN
  split
  · simp
  split
  · next all h =>
    have := mrun_ok h
    exact ⟨this.all, this.at_⟩
  · simp
set_option maxRecDepth 100000 in
theorem code_match (l : List Ins) (hl : l.length ≤ 100000) : SCall Try.prog 5 [.ro 4 (l.map (iv .any)) .any] []
    (fun y σ => ∃ q, y = .tup [.own q 0 (blN (opsOf l)).length, .bool (okN (opsOf l))] ∧ σ = [(q, .arr 32 3 ((blN (opsOf l)).map encK))]) := by
  have hol : (opsOf l).length = l.length := by simp [opsOf]
  refine scall_of (n := 113) (ks := [0, 2, 3, 4, 5, 6, 7, 8, 11, 12, 13, 14, 15, 30, 38, 52, 61, 64, 81, 111]) Try.func5 rfl rfl (Nat.le_of_ble_eq_true rfl) ?_
  (refine ctlT ?_)
  refine rgT ?_
  refine lo (lop_assign (E rfl)) rfl ?_
  refine lo (lop_assign (E rfl)) rfl ?_
  refine leT ?_
  (refine ctlT ?_)
  refine rgT ?_
  refine lo (lop_move (E rfl)) rfl ?_
  refine z14 ?_
  refine lo (lop_gtr (E rfl) (E rfl)) rfl ?_
  refine leT ?_
  (refine ctlT ?_)
  refine sw_cond rfl (fun g1 => ?_) (fun g1 => ?_)
  · (refine ctlT ?_)
    refine rgT ?_
    refine lo (lop_assign (E rfl)) rfl ?_
    refine lo (lop_assign (E rfl)) rfl ?_
    refine leT ?_
    refine an ?_
    refine sw_virt 2 32 3 (by decide) rfl (by decide) (freshT fun q2 hq2 => ?_); (repeat (rcases hq2 with ⟨_, hq2⟩))
    have hN : matchN (opsOf l) = none := by unfold matchN; rw [if_pos (by simp at g1; omega)]
    (refine ctlT ?_)
    (apply aend; (exact resT))
    · exact mk_fail hN
    · (exact stleT)
  (refine ctlT ?_)
  refine rgT ?_
  refine lo (lop_assign (E rfl)) rfl ?_
  refine leT ?_
  (refine ctlT ?_)
  refine rgT ?_
  refine lo (lop_assign (E rfl)) rfl ?_
  refine leT ?_
  (refine ctlT ?_)
  refine rgT ?_
  refine lo (lop_move (E rfl)) rfl ?_
  refine z14 ?_
  refine lo (lop_move (E rfl)) rfl ?_
  refine leT ?_
  (refine ctlT ?_)
  refine sw_virt 4 32 3 (by decide) rfl (by decide) (freshT fun a0 ha0 => ?_); (repeat (rcases ha0 with ⟨_, ha0⟩))
  refine sw_virt 5 3 1 (by decide) rfl (by decide) (freshT fun o0 ho0 => ?_); (repeat (rcases ho0 with ⟨_, ho0⟩))
  refine lp (β := Nat × Nat × Nat × MS) (fun b => ⟨[(0, .ro 4 (l.map (iv .any)) .any), (4, .own b.1 0 b.2.2.2.all.length), (5, .own b.2.1 0 b.2.2.2.opn.length), (12, .ro 4 (l.map (iv .any)) .any), (13, .int .i64 l.length), (14, .int .i64 b.2.2.1)], [(b.1, .arr 32 3 (b.2.2.2.all.map encK)), (b.2.1, .arr 3 1 (b.2.2.2.opn.map encN))]⟩) (fun b => Nq b.1 b.2.1 ∧ b.2.2.1 ≤ l.length ∧ mrun (opsOf l) b.2.2.1 = some b.2.2.2) (fun b => l.length - b.2.2.1) (a0, o0, 0, ⟨[], []⟩) sgoT ⟨by show Nq a0 o0; (exact nqT), Nat.zero_le _, rfl⟩ ?_
  rintro ⟨a, o, j, all, opn⟩ ⟨hao, hj, hrun⟩
  dsimp only at hao hj hrun ⊢
  obtain ⟨hk1, hk2, hk3, hk4⟩ := mrun_ok hrun
  dsimp only at hk1 hk2 hk3 hk4
  (refine ctlT ?_)
  refine rgT ?_
  refine lo (lop_lss (E rfl) (E rfl)) rfl ?_
  refine leT ?_
  (refine ctlT ?_)
  refine sw_cond rfl (fun g6 => ?_) (fun g6 => ?_)
  · have hlt : j < l.length := by simp at g6; omega
    obtain ⟨x, hx⟩ : ∃ x, l[j]? = some x := ⟨_, List.getElem?_eq_getElem hlt⟩
    have hnx := mrun_next hrun (opsOf_at hx)
    (refine ctlT ?_)
    refine rgT ?_
    refine lo (lop_move (E rfl)) rfl ?_
    refine z15 ?_
    refine z111 ?_
    apply al; rfl; (exact zcT); refine freshT fun r7 h7 => ?_; (repeat (rcases h7 with ⟨_, h7⟩))
    refine lo (lop_assign (E rfl)) rfl ?_
    apply stp; rfl; rfl; rfl; rfl; (exact sputT)
    refine leT ?_
    (refine ctlT ?_)
    refine rgT ?_
    refine lo (lop_move (E rfl)) rfl ?_
    refine z14 ?_
    refine lo (lop_assign (E rfl)) rfl ?_
    refine leT ?_
    (refine ctlT ?_)
    refine rgT ?_
    refine z59 ?_
    refine z60 ?_
    refine puA Try.call9 (code_opens _) rfl pargsT nofT ?_
    refine lo (lop_move (E rfl)) rfl ?_
    refine z109 ?_
    refine z112 ?_
    refine z68 ?_
    refine lo (lop_assign (E rfl)) rfl ?_
    refine leT ?_
    (refine ctlT ?_)
    refine sw_cond rfl (fun g10 => ?_) (fun g10 => ?_)
    · (refine ctlT ?_)
      refine rgT ?_
      refine lo (lop_assign (E rfl)) rfl ?_
      refine lo (lop_assign (E rfl)) rfl ?_
      refine leT ?_
      refine an ?_
      refine sw_virt 2 32 3 (by decide) rfl (by decide) (freshT fun q2 hq2 => ?_); (repeat (rcases hq2 with ⟨_, hq2⟩))
      have hN : matchN (opsOf l) = none := by replace g10 := bT g10; exact match_fail (hnx.trans (step_full (s := ⟨all, opn⟩) g10.1 (by show opn.length = 40; omega))) (by omega)
      (refine ctlT ?_)
      (apply aend; (exact resT))
      · exact mk_fail hN
      · (exact stleT)
    (refine ctlT ?_)
    refine rgT ?_
    refine z59 ?_
    refine z60 ?_
    refine puA Try.call9 (code_opens _) rfl pargsT nofT ?_
    refine lo (lop_assign (E rfl)) rfl ?_
    refine leT ?_
    (refine ctlT ?_)
    refine sw_cond rfl (fun g12 => ?_) (fun g12 => ?_)
    · have hnn := hnx.trans (step_open g12 (by intro he; simp [g12, he] at g10))
      (refine ctlT ?_)
      refine rgT ?_
      refine lo (lop_move (E rfl)) rfl ?_
      refine lo (lop_move (E rfl)) rfl ?_
      refine z14 ?_
      refine z1 ?_; refine freshT fun r45 h45 => ?_; (repeat (rcases h45 with ⟨_, h45⟩))
      refine apA ((opn ++ [all.length]).map encN) (opn ++ [all.length]).length ?_
      refine apnT fun r46 h46 => ?_; (repeat (rcases h46 with ⟨_, h46⟩))
      refine lo (lop_assign (E rfl)) rfl ?_
      refine leT ?_
      (refine ctlT ?_)
      refine rgT ?_
      refine lo (lop_move (E rfl)) rfl ?_
      refine lo (lop_move (E rfl)) rfl ?_
      refine z93 ?_
      refine z1 ?_; refine freshT fun r50 h50 => ?_; (repeat (rcases h50 with ⟨_, h50⟩))
      refine apA ((all ++ [(Bk.mk j (-1) (-1))]).map encK) (all ++ [(Bk.mk j (-1) (-1))]).length ?_
      refine apnT fun r51 h51 => ?_; (repeat (rcases h51 with ⟨_, h51⟩))
      refine lo (lop_assign (E rfl)) rfl ?_
      refine leT ?_
      (refine ctlT ?_)
      obtain ⟨A, O, hAO, rfl, rfl⟩ : ∃ A O, Nq A O ∧ A = r51 ∧ O = r46 := ⟨_, _, by (exact nqT), rfl, rfl⟩
      refine rgT ?_
      refine z17 ?_
      refine lo (lop_move (E rfl)) rfl ?_
      refine leT ?_
      (refine ctlT ?_)
      refine ⟨(A, O, j + 1, _), ⟨hAO, hlt, hnn⟩, by show l.length - (j + 1) < l.length - j; omega, ?_⟩
      dsimp only
      (exact sgoT)
    (refine ctlT ?_)
    refine rgT ?_
    refine z59 ?_
    refine z60 ?_
    refine lo (lop_neq (E rfl) (E rfl)) rfl ?_
    refine lo (lop_move (E rfl)) rfl ?_
    refine z114 ?_
    refine z115 ?_
    refine z116 ?_
    refine z68 ?_
    refine lo (lop_assign (E rfl)) rfl ?_
    refine leT ?_
    (refine ctlT ?_)
    refine sw_cond rfl (fun g15 => ?_) (fun g15 => ?_)
    · have hnn := hnx.trans (step_skip g12 (by replace g15 := bT g15; exact g15.1) (by replace g15 := bT g15; exact g15.2))
      obtain ⟨A, O, hAO, rfl, rfl⟩ : ∃ A O, Nq A O ∧ A = a ∧ O = o := ⟨_, _, by (exact nqT), rfl, rfl⟩
      (refine ctlT ?_)
      refine rgT ?_
      refine z17 ?_
      refine lo (lop_move (E rfl)) rfl ?_
      refine leT ?_
      (refine ctlT ?_)
      refine ⟨(A, O, j + 1, _), ⟨hAO, hlt, hnn⟩, by show l.length - (j + 1) < l.length - j; omega, ?_⟩
      dsimp only
      (exact sgoT)
    have h5 : x.op = 5 ∨ x.op = 11 := by replace g15 := bT g15; omega
    have hnx := hnx.trans (step_top g12 h5)
    (refine ctlT ?_)
    refine rgT ?_
    refine lo (lop_move (E rfl)) rfl ?_
    refine lo (lop_eql (E rfl) (E rfl)) rfl ?_
    refine lo (lop_assign (E rfl)) rfl ?_
    refine leT ?_
    (refine ctlT ?_)
    refine sw_cond rfl (fun g16 => ?_) (fun g16 => ?_)
    · (refine ctlT ?_)
      refine rgT ?_
      refine lo (lop_assign (E rfl)) rfl ?_
      refine lo (lop_assign (E rfl)) rfl ?_
      refine leT ?_
      refine an ?_
      refine sw_virt 2 32 3 (by decide) rfl (by decide) (freshT fun q2 hq2 => ?_); (repeat (rcases hq2 with ⟨_, hq2⟩))
      have hN : matchN (opsOf l) = none := by obtain rfl : opn = [] := (by simpa using g16); exact match_fail (hnx.trans top_none) (by omega)
      (refine ctlT ?_)
      (apply aend; (exact resT))
      · exact mk_fail hN
      · (exact stleT)
    have hne : opn ≠ [] := by intro h; simp [h] at g16
    obtain ⟨pre, k, rfl⟩ : ∃ pre k, opn = pre ++ [k] := ⟨opn.dropLast, opn.getLast hne, (List.dropLast_concat_getLast hne).symm⟩
    have hkl := hk1 k (by simp)
    obtain ⟨b, hb⟩ : ∃ b, all[k]? = some b := ⟨_, List.getElem?_eq_getElem hkl⟩
    have hpl : (pre ++ [k]).length = pre.length + 1 := by simp
    have hlast := last_at (pre := pre) (k := k)
    have hbt := nat_at hb
    (refine ctlT ?_)
    refine rgT ?_
    refine z59 ?_
    refine z60 ?_
    refine lo (lop_eql (E rfl) (E rfl)) rfl ?_
    refine lo (lop_assign (E rfl)) rfl ?_
    refine leT ?_
    (refine ctlT ?_)
    refine sw_cond rfl (fun g18 => ?_) (fun g18 => ?_)
    · have h11 : x.op = 11 := by simpa using g18
      have hnn := hnx
      rw [h11, top_end hb] at hnn
      obtain ⟨A, O, hAO, rfl, rfl⟩ : ∃ A O, Nq A O ∧ A = a ∧ O = o := ⟨_, _, by (exact nqT), rfl, rfl⟩
      (refine ctlT ?_)
      refine rgT ?_
      refine lo (lop_move (E rfl)) rfl ?_
      refine lo (lop_move (E rfl)) rfl ?_
      refine lo (lop_move (E rfl)) rfl ?_
      refine z19 ?_
      refine z15 ?_
      refine z16 ?_
      refine lo (lop_move (E rfl)) rfl ?_
      refine z15 ?_
      refine z117 ?_
      refine z118 ?_
      refine leT ?_
      (refine ctlT ?_)
      refine rgT ?_
      refine lo (lop_move (E rfl)) rfl ?_
      refine lo (lop_move (E rfl)) rfl ?_
      refine z19 ?_
      refine z100 ?_
      refine lo (lop_assign (E rfl)) rfl ?_
      refine leT ?_
      (refine ctlT ?_)
      rw [show ((((pre ++ [k]).length : Nat) : Int) - 1).toNat - 0 = pre.length by simp]
      refine sw_go (sgo_cut (o := O) pre.length ssetT) ?_
      rw [show (all.map encK).set (k : Int).toNat [.int .i64 (b.at_ : Int), .int .i64 b.els, .int .i64 (j : Int)] = (all.set k ⟨b.at_, b.els, j⟩).map encK by rw [Int.toNat_natCast, List.map_set]; rfl, show List.take pre.length ((pre ++ [k]).map encN) = pre.map encN by simp]
      refine rgT ?_
      refine z17 ?_
      refine lo (lop_move (E rfl)) rfl ?_
      refine leT ?_
      (refine ctlT ?_)
      refine ⟨(A, O, j + 1, _), ⟨hAO, hlt, hnn⟩, by show l.length - (j + 1) < l.length - j; omega, ?_⟩
      dsimp only
      (exact sgoT)
    have h05 : x.op = 5 := by simp at g18; omega
    have hnx := by have := hnx; rw [h05] at this; exact this
    have hba := hk2 b (List.mem_of_getElem? hb)
    obtain ⟨y, hy⟩ : ∃ y, l[b.at_]? = some y := ⟨_, List.getElem?_eq_getElem (by omega)⟩
    have hyt := nat_at hy
    have hoy := opsOf_at hy
    (refine ctlT ?_)
    refine rgT ?_
    refine lo (lop_move (E rfl)) rfl ?_
    refine lo (lop_move (E rfl)) rfl ?_
    refine lo (lop_move (E rfl)) rfl ?_
    refine lo (lop_move (E rfl)) rfl ?_
    refine z19 ?_
    refine z15 ?_
    refine z16 ?_
    refine z15 ?_
    refine z117 ?_
    refine z16 ?_
    refine z15 ?_
    refine z117 ?_
    refine z16 ?_
    refine lo (lop_neq (E rfl) (E rfl)) rfl ?_
    refine lo (lop_move (E rfl)) rfl ?_
    refine z109 ?_
    refine z109 ?_
    refine z109 ?_
    refine z119 ?_
    refine z120 ?_
    refine z121 ?_
    refine z120 ?_
    refine z122 ?_
    refine z121 ?_
    refine z123 ?_
    refine z113 ?_
    refine lo (lop_assign (E rfl)) rfl ?_
    refine leT ?_
    (refine ctlT ?_)
    refine sw_cond rfl (fun g21 => ?_) (fun g21 => ?_)
    · (refine ctlT ?_)
      refine rgT ?_
      refine lo (lop_assign (E rfl)) rfl ?_
      refine lo (lop_assign (E rfl)) rfl ?_
      refine leT ?_
      refine an ?_
      refine sw_virt 2 32 3 (by decide) rfl (by decide) (freshT fun q2 hq2 => ?_); (repeat (rcases hq2 with ⟨_, hq2⟩))
      have hN : matchN (opsOf l) = none := match_fail (hnx.trans (top_bad hb (by rw [hoy]; replace g21 := bT g21; rcases g21 with h | h; exact .inl (fun e => h (Option.some.inj e)); exact .inr h))) (by omega)
      (refine ctlT ?_)
      (apply aend; (exact resT))
      · exact mk_fail hN
      · (exact stleT)
    have hnn := hnx.trans (top_else hb (by rw [hoy]; replace g21 := bT g21; rw [g21.1]) (by replace g21 := bT g21; exact g21.2))
    obtain ⟨A, O, hAO, rfl, rfl⟩ : ∃ A O, Nq A O ∧ A = a ∧ O = o := ⟨_, _, by (exact nqT), rfl, rfl⟩
    (refine ctlT ?_)
    refine rgT ?_
    refine lo (lop_move (E rfl)) rfl ?_
    refine lo (lop_move (E rfl)) rfl ?_
    refine lo (lop_move (E rfl)) rfl ?_
    refine z19 ?_
    refine z15 ?_
    refine z16 ?_
    refine lo (lop_move (E rfl)) rfl ?_
    refine z15 ?_
    refine z117 ?_
    refine z118 ?_
    refine leT ?_
    (refine ctlT ?_)
    rw [show (all.map encK).set (k : Int).toNat [.int .i64 (b.at_ : Int), .int .i64 (j : Int), .int .i64 b.en] = (all.set k ⟨b.at_, j, b.en⟩).map encK by rw [Int.toNat_natCast, List.map_set]; rfl]
    refine rgT ?_
    refine z17 ?_
    refine lo (lop_move (E rfl)) rfl ?_
    refine leT ?_
    (refine ctlT ?_)
    refine ⟨(A, O, j + 1, _), ⟨hAO, hlt, hnn⟩, by show l.length - (j + 1) < l.length - j; omega, ?_⟩
    dsimp only
    (exact sgoT)
  obtain rfl : j = l.length := by simp at g6; omega
  (refine ctlT ?_)
  refine rgT ?_
  refine lo (lop_move (E rfl)) rfl ?_
  refine z14 ?_
  refine lo (lop_gtr (E rfl) (E rfl)) rfl ?_
  refine leT ?_
  (refine ctlT ?_)
  refine sw_cond rfl (fun g24 => ?_) (fun g24 => ?_)
  · (refine ctlT ?_)
    refine rgT ?_
    refine lo (lop_assign (E rfl)) rfl ?_
    refine lo (lop_assign (E rfl)) rfl ?_
    refine leT ?_
    refine an ?_
    refine sw_virt 2 32 3 (by decide) rfl (by decide) (freshT fun q2 hq2 => ?_); (repeat (rcases hq2 with ⟨_, hq2⟩))
    have hN : matchN (opsOf l) = none := by unfold matchN; rw [hol, hrun, if_neg (by simp at g1; omega)]; cases opn with | nil => simp at g24 | cons z zs => rfl
    (refine ctlT ?_)
    (apply aend; (exact resT))
    · exact mk_fail hN
    · (exact stleT)
  (refine ctlT ?_)
  refine rgT ?_
  refine lo (lop_move (E rfl)) rfl ?_
  refine lo (lop_assign (E rfl)) rfl ?_
  refine lo (lop_assign (E rfl)) rfl ?_
  refine leT ?_
  (refine ctlT ?_)
  (apply aend; (exact resT))
  · have hN : matchN (opsOf l) = some all := by unfold matchN; rw [hol, hrun, if_neg (by simp at g1; omega)]; cases opn with | nil => rfl | cons z zs => simp at g24
    simp only [blN, okN, hN, Option.getD_some, Option.isSome_some]; exact ⟨a, rfl, rfl⟩
  · (exact stleT)
end Go.Proofs.Ytjpdadobblffmaa
/-
  A body's bytes: plain words.
-/
namespace Go.Proofs.Ytjpdadobblffmaa
open Go.RowKit Go.ChangeShapes Go.WideShapes Go.ChangeAt Go.Deep
def putL (l : List Ins) : List Nat := l.flatMap putN ++ [11]
def dN (d : Int) (op : Int) : Int := if (op == 11) = true then d - 1 else if isO op = true then d + 1 else d
/-- the program's Get: so many more may come -/
def gcN (b : List Nat) : Nat → Nat → Int → List Ins → List Ins × Nat × Int
  | 0, _, _, _ => ([], 0, 4)
  | f + 1, k, d, l =>
    if ((getP (b.drop k)).2.2 != 0) = true then ([], 0, (getP (b.drop k)).2.2)
    else if dN d (getP (b.drop k)).1.op < 0 then (if okN (opsOf l) = true then (l, k + (getP (b.drop k)).2.1, 0) else ([], 0, 1))
    else gcN b f (k + (getP (b.drop k)).2.1) (dN d (getP (b.drop k)).1.op) (l ++ [(getP (b.drop k)).1])
def getC (b : List Nat) : List Ins × Nat × Int := gcN b 301 0 0 []
/-! ### a body goes there and back -/
theorem okN_len {ops : List Int} (h : okN ops = true) : ops.length ≤ 300 := by
  unfold okN matchN at h
  split at h
  · cases h
  · omega
theorem okN_run {ops : List Int} (h : okN ops = true) : ∃ all, mrun ops ops.length = some ⟨all, []⟩ := by
  unfold okN matchN at h
  split at h
  · cases h
  · split at h
    · next all h2 => exact ⟨all, h2⟩
    · cases h
theorem okN_at {ops : List Int} (h : okN ops = true) {j : Nat} (hj : j ≤ ops.length) : ∃ s, mrun ops j = some s := by
  obtain ⟨all, h⟩ := okN_run h
  cases hs : mrun ops j with
  | some s => exact ⟨s, rfl⟩
  | none =>
    have := mrun_none hs (ops.length - j)
    rw [Nat.add_sub_cancel' hj, h] at this
    cases this
theorem mstep_d {ops : List Int} {s s' : MS} {i : Nat} {op : Int} (h : mstep ops s i op = some s') : (s'.opn.length : Int) = dN s.opn.length op := by
  unfold mstep at h
  unfold dN
  split at h
  · next ho =>
    split at h
    · cases h
    · obtain rfl := Option.some.inj h
      rw [if_neg (by unfold isO at ho; simp at ho ⊢; omega), if_pos ho]; simp
  next ho =>
  split at h
  · next h5 =>
    obtain rfl := Option.some.inj h
    rw [if_neg (by simpa using h5.2), if_neg ho]
  next h5 =>
  unfold mtop at h
  split at h
  · cases h
  next k hk =>
  split at h
  · cases h
  split at h
  · next h11 =>
    obtain rfl := Option.some.inj h
    have : s.opn ≠ [] := by intro h0; rw [h0] at hk; cases hk
    have := List.length_pos_iff.2 this
    rw [if_pos (by simpa using h11)]; simp; omega
  next h11 =>
  split at h
  · cases h
  · obtain rfl := Option.some.inj h
    rw [if_neg (by simpa using h11), if_neg ho]
/-- reading on, behind j of them -/
theorem gcN_back {l : List Ins} (hl : ∀ x ∈ l, x.Ok ∧ mayN x = true) (hok : okN (opsOf l) = true) (r : List Nat) : ∀ (m j : Nat) (s : MS) (f : Nat), m + j = l.length → m < f → mrun (opsOf l) j = some s →
    gcN (putL l ++ r) f ((l.take j).flatMap putN).length s.opn.length (l.take j) = (l, (putL l).length, 0) := by
  have hol : (opsOf l).length = l.length := by simp [opsOf]
  have hdrop : ∀ j, (putL l ++ r).drop ((l.take j).flatMap putN).length = (l.drop j).flatMap putN ++ (11 :: r) := by
    intro j
    have : putL l ++ r = (l.take j).flatMap putN ++ ((l.drop j).flatMap putN ++ (11 :: r)) := by
      unfold putL
      conv => lhs; rw [← List.take_append_drop j l, List.flatMap_append]
      simp
    rw [this, List.drop_left]
  intro m
  induction m with
  | zero =>
    intro j s f hj hf hs
    obtain ⟨f, rfl⟩ : ∃ g, f = g + 1 := ⟨f - 1, by omega⟩
    obtain rfl : j = l.length := by omega
    obtain ⟨all, ha⟩ := okN_run hok
    rw [hol, hs] at ha
    obtain rfl := Option.some.inj ha
    have hg : getP ((putL l ++ r).drop ((l.take l.length).flatMap putN).length) = (⟨11, 0, 0, []⟩, 1, 0) := by
      rw [hdrop, List.drop_length]
      exact get_put (x := ⟨11, 0, 0, []⟩) ⟨by decide, by decide, by decide, by decide, by decide⟩ (by decide) r
    rw [gcN, hg, if_neg (by decide), if_pos (show dN (([] : List Nat).length : Nat) 11 < 0 by decide), List.take_length, if_pos hok]
    simp [putL]
  | succ m ih =>
    intro j s f hj hf hs
    obtain ⟨f, rfl⟩ : ∃ g, f = g + 1 := ⟨f - 1, by omega⟩
    have hlt : j < l.length := by omega
    obtain ⟨x, hx⟩ : ∃ x, l[j]? = some x := ⟨_, List.getElem?_eq_getElem hlt⟩
    obtain ⟨hxo, hxm⟩ := hl x (List.mem_of_getElem? hx)
    have hg : getP ((putL l ++ r).drop ((l.take j).flatMap putN).length) = (x, (putN x).length, 0) := by
      rw [hdrop, List.drop_eq_getElem_cons hlt, (List.getElem?_eq_some_iff.1 hx).2, List.flatMap_cons, List.append_assoc]
      exact get_put hxo hxm _
    obtain ⟨s', hs'⟩ := okN_at hok (j := j + 1) (by omega)
    have hst := mrun_next hs (opsOf_at hx)
    rw [hs'] at hst
    have hd := mstep_d hst.symm
    have ht : l.take (j + 1) = l.take j ++ [x] := by rw [List.take_add_one, hx]; rfl
    have hn := ih (j + 1) s' f (by omega) (by omega) hs'
    rw [gcN, hg, if_neg (by simp)]
    dsimp only
    rw [← hd, if_neg (by omega), ← ht, ← hn, ht, List.flatMap_append]
    simp
theorem getC_back {l : List Ins} (hl : ∀ x ∈ l, x.Ok ∧ mayN x = true) (hok : okN (opsOf l) = true) (r : List Nat) : getC (putL l ++ r) = (l, (putL l).length, 0) := by
  have := okN_len hok
  have hol : (opsOf l).length = l.length := by simp [opsOf]
  exact gcN_back hl hok r l.length 0 ⟨[], []⟩ 301 (by omega) (by omega) rfl
end Go.Proofs.Ytjpdadobblffmaa
/-
  What fits, by what is open alone; what a block encloses: plain words.
-/
namespace Go.Proofs.Ytjpdadobblffmaa
open Go.RowKit Go.ChangeShapes Go.WideShapes Go.ChangeAt Go.Deep
/-- those that are open: may it turn? -/
def astep (L : Nat) (S : List Bool) (op : Int) : Option (List Bool) :=
  if isO op = true then (if L ≤ S.length then none else some (S ++ [op == 4]))
  else if op ≠ 5 ∧ op ≠ 11 then some S
  else match S.getLast? with
    | none => none
    | some c => if op = 11 then some S.dropLast else if c = true then some (S.dropLast ++ [false]) else none
def arun (L : Nat) : List Int → List Bool → Option (List Bool)
  | [], S => some S
  | op :: w, S => match astep L S op with
    | none => none
    | some S' => arun L w S'
/-- what is open stands in order -/
structure MOk2 (s : MS) : Prop where
  inc : s.opn.Pairwise (· < ·)
theorem mstep_ok2 {ops : List Int} {j : Nat} {s s' : MS} {op : Int} (h1 : MOk j s) (h : MOk2 s) (hs : mstep ops s j op = some s') : MOk2 s' := by
  unfold mstep at hs
  split at hs
  · split at hs
    · cases hs
    · obtain rfl := Option.some.inj hs
      refine ⟨List.pairwise_append.2 ⟨h.inc, by simp, fun a ha b hb => ?_⟩⟩
      rw [List.mem_singleton.1 hb]; exact h1.opn a ha
  split at hs
  · obtain rfl := Option.some.inj hs; exact h
  unfold mtop at hs
  split at hs
  · cases hs
  split at hs
  · cases hs
  split at hs
  · obtain rfl := Option.some.inj hs
    exact ⟨h.inc.sublist (List.dropLast_sublist _)⟩
  split at hs
  · cases hs
  · obtain rfl := Option.some.inj hs; exact ⟨h.inc⟩
theorem mrun_ok2 {ops : List Int} : ∀ {j : Nat} {s : MS}, mrun ops j = some s → MOk2 s
  | 0, s, h => by obtain rfl := Option.some.inj h; exact ⟨List.Pairwise.nil⟩
  | j + 1, s, h => by
    rw [mrun] at h
    split at h
    · next s0 op h1 h2 => exact mstep_ok2 (mrun_ok h1) (mrun_ok2 h1) h
    · cases h
/-! ### what a block encloses -/
def Bal (h : Nat) (w : List Int) : Prop := arun h w [] = some []
def sl (ops : List Int) (i k : Nat) : List Int := (ops.take k).drop i
def Arm (ops : List Int) (h : Nat) (b : Bk) (j : Nat) : Prop :=
  (b.els = -1 ∧ Bal h (sl ops (b.at_ + 1) j)) ∨ ∃ e : Nat, b.els = (e : Int) ∧ b.at_ < e ∧ e < j ∧ ops[b.at_]? = some 4 ∧ ops[e]? = some 5 ∧ Bal h (sl ops (b.at_ + 1) e) ∧ Bal h (sl ops (e + 1) j)
inductive Stk (ops : List Int) (all : List Bk) : Nat → List Nat → Prop
  | nil {j : Nat} : Bal 40 (ops.take j) → Stk ops all j []
  | top {j k : Nat} {r : List Nat} {b : Bk} {op : Int} : all[k]? = some b → Stk ops all b.at_ r → (∀ x ∈ r, x < k) → r.length < 40 → b.at_ < j → ops[b.at_]? = some op → isO op = true → Arm ops (39 - r.length) b j → Stk ops all j (k :: r)
def Clo (ops : List Int) (j : Nat) (b : Bk) : Prop :=
  ∃ n : Nat, b.en = (n : Int) ∧ b.at_ < n ∧ n < j ∧ (∃ S, arun 40 (ops.take b.at_) [] = some S ∧ arun 40 (ops.take (n + 1)) [] = some S) ∧
    ((b.els = -1 ∧ Bal 40 (sl ops (b.at_ + 1) n)) ∨ ∃ e : Nat, b.els = (e : Int) ∧ b.at_ < e ∧ e < n ∧ Bal 40 (sl ops (b.at_ + 1) e) ∧ Bal 40 (sl ops (e + 1) n))
theorem Clo.mono {ops : List Int} {i j : Nat} {b : Bk} (h : Clo ops i b) (hij : i ≤ j) : Clo ops j b := by
  obtain ⟨n, h1, h2, h3, h4⟩ := h
  exact ⟨n, h1, h2, by omega, h4⟩
def J (ops : List Int) (j : Nat) (s : MS) : Prop := Stk ops s.all j s.opn.reverse ∧ ∀ k b, s.all[k]? = some b → k ∉ s.opn → Clo ops j b
end Go.Proofs.Ytjpdadobblffmaa
/-
  How many enclose a place; deep blocks: plain words.
-/
namespace Go.Proofs.Ytjpdadobblffmaa
open Go.RowKit Go.ChangeShapes Go.WideShapes Go.ChangeAt Go.Deep
/-- what holds of the blocks so far -/
structure MOk3 (j : Nat) (s : MS) : Prop where
  cl : ∀ k b, s.all[k]? = some b → k ∉ s.opn → 0 ≤ b.en ∧ b.en < (j : Int)
  op : ∀ k b, s.all[k]? = some b → k ∈ s.opn → b.en = -1
  els : ∀ b ∈ s.all, b.els < (j : Int)
  inc : (s.all.map Bk.at_).Pairwise (· < ·)
  cnt : s.all.countP (fun b => decide (b.en < 0)) = s.opn.length
theorem map_at {all : List Bk} {k : Nat} {b b' : Bk} (hb : all[k]? = some b) (h : b'.at_ = b.at_) : (all.set k b').map Bk.at_ = all.map Bk.at_ := by
  obtain ⟨hk, hx⟩ := List.getElem?_eq_some_iff.1 hb
  rw [List.map_set, h, ← hx]
  have : (all.map Bk.at_)[k]'(by simpa using hk) = all[k].at_ := by simp
  rw [← this, List.set_getElem_self]
theorem count_set {α : Type} {p : α → Bool} {all : List α} {k : Nat} {b b' : α} (hb : all[k]? = some b) : (all.set k b').countP p + (if p b = true then 1 else 0) = all.countP p + (if p b' = true then 1 else 0) := by
  obtain ⟨hk, hx⟩ := List.getElem?_eq_some_iff.1 hb
  rw [List.countP_set hk, hx]
  have : (if p b = true then 1 else 0) ≤ all.countP p := by
    split
    · next h => exact List.countP_pos_iff.2 ⟨b, List.mem_of_getElem? hb, h⟩
    · exact Nat.zero_le _
  omega
theorem mstep_ok3 {ops : List Int} {j : Nat} {s s' : MS} {op : Int} (h1 : MOk j s) (h2 : MOk2 s) (h3 : MOk3 j s) (hs : mstep ops s j op = some s') : MOk3 (j + 1) s' := by
  obtain ⟨all, opn⟩ := s
  have hk := h1.opn
  have hat := h1.at_
  have hinc := h2.inc
  obtain ⟨c1, c2, c3, c4, c5⟩ := h3
  dsimp only at hk hat hinc c1 c2 c3 c4 c5
  by_cases hO : isO op = true
  · by_cases h40 : opn.length = 40
    · rw [step_full hO h40] at hs; cases hs
    · rw [step_open hO h40] at hs
      obtain rfl := Option.some.inj hs
      constructor <;> dsimp only
      · intro k b hb hn
        have hkl : k < all.length := by
          have := (List.getElem?_eq_some_iff.1 hb).1
          simp at this hn; omega
        rw [List.getElem?_append_left hkl] at hb
        have := c1 k b hb (fun h => hn (List.mem_append_left _ h)); omega
      · intro k b hb hn
        rcases List.mem_append.1 hn with hn | hn
        · rw [List.getElem?_append_left (hk k hn)] at hb; exact c2 k b hb hn
        · rw [List.mem_singleton.1 hn] at hb; simp at hb; subst hb; rfl
      · intro b hb
        rcases List.mem_append.1 hb with hb | hb
        · have := c3 b hb; omega
        · rw [List.mem_singleton.1 hb]; show (-1 : Int) < _; omega
      · rw [List.map_append]
        refine List.pairwise_append.2 ⟨c4, by simp, fun a ha b hb => ?_⟩
        obtain ⟨x, hx, rfl⟩ := List.mem_map.1 ha
        rw [show b = j by simpa using hb]; exact hat x hx
      · rw [List.countP_append, c5]; simp [List.countP_cons]
  have hO : isO op = false := by simpa using hO
  by_cases h5 : op ≠ 5 ∧ op ≠ 11
  · rw [step_skip hO h5.1 h5.2] at hs
    obtain rfl := Option.some.inj hs
    exact ⟨fun k b hb hn => by have := c1 k b hb hn; omega, c2, fun b hb => by have := c3 b hb; omega, c4, c5⟩
  rw [step_top hO (by omega)] at hs
  rcases List.eq_nil_or_concat opn with rfl | ⟨pre, k, rfl⟩
  · rw [top_none] at hs; cases hs
  rw [List.concat_eq_append] at *
  have hkl := hk k (by simp)
  have hpre : ∀ x ∈ pre, x < k := fun x hx => (List.pairwise_append.1 hinc).2.2 x hx k (by simp)
  obtain ⟨b, hb⟩ : ∃ b, all[k]? = some b := ⟨_, List.getElem?_eq_getElem hkl⟩
  have hen := c2 k b hb (by simp)
  rcases (show op = 11 ∨ op = 5 by omega) with rfl | rfl
  · rw [top_end hb] at hs
    obtain rfl := Option.some.inj hs
    constructor <;> dsimp only
    · intro k' b' hb' hn
      by_cases hkk : k' = k
      · subst hkk
        rw [List.getElem?_set_self hkl] at hb'
        obtain rfl := Option.some.inj hb'
        dsimp only; omega
      · rw [List.getElem?_set_ne (Ne.symm hkk)] at hb'
        have := c1 k' b' hb' (by simp; exact ⟨hn, hkk⟩); omega
    · intro k' b' hb' hn
      have := hpre k' hn
      rw [List.getElem?_set_ne (by omega)] at hb'
      exact c2 k' b' hb' (by simp [hn])
    · intro x hx
      rcases List.mem_or_eq_of_mem_set hx with hx | rfl
      · have := c3 x hx; omega
      · have := c3 b (List.mem_of_getElem? hb); dsimp only; omega
    · rw [map_at (b' := ⟨b.at_, b.els, j⟩) hb rfl]; exact c4
    · have := count_set (p := fun b => decide (b.en < 0)) (b' := ⟨b.at_, b.els, j⟩) hb
      rw [c5] at this
      simp [hen] at this
      rw [if_neg (by omega)] at this
      omega
  · by_cases hc : ops[b.at_]? = some 4 ∧ ¬ 0 ≤ b.els
    · rw [top_else hb hc.1 hc.2] at hs
      obtain rfl := Option.some.inj hs
      constructor <;> dsimp only
      · intro k' b' hb' hn
        have hkk : k' ≠ k := by intro e; subst e; simp at hn
        rw [List.getElem?_set_ne (Ne.symm hkk)] at hb'
        have := c1 k' b' hb' hn; omega
      · intro k' b' hb' hn
        by_cases hkk : k' = k
        · subst hkk
          rw [List.getElem?_set_self hkl] at hb'
          obtain rfl := Option.some.inj hb'
          exact hen
        · rw [List.getElem?_set_ne (Ne.symm hkk)] at hb'
          exact c2 k' b' hb' hn
      · intro x hx
        rcases List.mem_or_eq_of_mem_set hx with hx | rfl
        · have := c3 x hx; omega
        · dsimp only; omega
      · rw [map_at (b' := ⟨b.at_, j, b.en⟩) hb rfl]; exact c4
      · have := count_set (p := fun b => decide (b.en < 0)) (b' := ⟨b.at_, j, b.en⟩) hb
        rw [c5] at this
        dsimp only at this
        omega
    · have hc' : ops[b.at_]? ≠ some 4 ∨ 0 ≤ b.els := by
        by_cases h4 : ops[b.at_]? = some 4
        · exact .inr (by by_cases h0 : 0 ≤ b.els; exact h0; exact absurd ⟨h4, h0⟩ hc)
        · exact .inl h4
      rw [top_bad hb hc'] at hs; cases hs
theorem mrun_ok3 {ops : List Int} : ∀ {j : Nat} {s : MS}, mrun ops j = some s → MOk3 j s
  | 0, s, h => by
    obtain rfl := Option.some.inj h
    exact ⟨by simp, by simp, by simp, by simp, rfl⟩
  | j + 1, s, h => by
    rw [mrun] at h
    split at h
    · next s0 op h1 h2 => exact mstep_ok3 (mrun_ok h1) (mrun_ok2 h1) (mrun_ok3 h1) h
    · cases h
end Go.Proofs.Ytjpdadobblffmaa
/-
  slices.Reverse at ints.
-/
namespace Go.Proofs.Ytjpdadobblffmaa
open Go.RowKit Go.ChangeShapes Go.WideShapes Go.ChangeAt Go.Deep
attribute [local irreducible] SW RS RD AThen ABlock
structure RevOk (l : List Int) (k : Nat) (L : List Int) : Prop where
  len : L.length = l.length
  half : 2 * k ≤ l.length + 1
  at_ : ∀ t, t < l.length → L[t]? = if t < k ∨ l.length ≤ t + k then l[l.length - 1 - t]? else l[t]?
theorem RevOk.step {l L : List Int} {k : Nat} (h : RevOk l k L) {u v : Int} (hk : k + k + 1 < l.length) (hu : L[k]? = some u) (hv : L[l.length - 1 - k]? = some v) : RevOk l (k + 1) ((L.set k v).set (l.length - 1 - k) u) := by
  refine ⟨by simp [h.len], by omega, fun t ht => ?_⟩
  have hl := h.len
  rw [List.getElem?_set, List.length_set]
  split
  · next e =>
    subst e
    rw [if_pos (by omega), if_pos (by omega), show l.length - 1 - (l.length - 1 - k) = k by omega, ← hu, h.at_ k (by omega), if_neg (by omega)]
  · rw [List.getElem?_set]
    split
    · next e =>
      subst e
      rw [if_pos (by omega), if_pos (by omega), ← hv, h.at_ _ (by omega), if_neg (by omega)]
    · rw [h.at_ t ht]
      by_cases h1 : t < k ∨ l.length ≤ t + k
      · rw [if_pos h1, if_pos (by omega)]
      · rw [if_neg h1, if_neg (by omega)]
theorem RevOk.done {l L : List Int} {k : Nat} (h : RevOk l k L) (hk : l.length ≤ k + k + 1) : L = l.reverse := by
  refine List.ext_getElem? fun t => ?_
  by_cases ht : t < l.length
  · rw [h.at_ t ht, List.getElem?_reverse ht]
    split
    · rfl
    · rw [show l.length - 1 - t = t by omega]
  · rw [List.getElem?_eq_none (by rw [h.len]; omega), List.getElem?_eq_none (by simp; omega)]
set_option maxRecDepth 100000 in
theorem slices_reverse (q : Nat) (l : List Int) (hl : l.length ≤ 1000000) : SCall Try.prog 10 [.own q 0 l.length] [(q, .arr 3 1 (l.map encI))] (fun _ σ => σ = [(q, .arr 3 1 (l.reverse.map encI))]) := by
  refine scall_of (n := 28) (ks := [0, 2, 3, 9]) Try.func10 rfl rfl (Nat.le_of_ble_eq_true rfl) ?_
  (refine ctlT ?_)
  refine rgT ?_
  refine lo (lop_move (E rfl)) rfl ?_
  refine z14 ?_
  refine z19 ?_
  refine lo (lop_assign (E rfl)) rfl ?_
  refine lo (lop_assign (E rfl)) rfl ?_
  refine leT ?_
  (refine ctlT ?_)
  refine lp (β := Nat × List Int) (fun b => ⟨[(0, .own q 0 l.length), (2, .int .i64 b.1), (3, .int .i64 ((l.length : Int) - 1 - b.1))], [(q, .arr 3 1 (b.2.map encI))]⟩) (fun b => RevOk l b.1 b.2) (fun b => l.length - b.1) (0, l) ?_ ⟨rfl, by omega, fun t ht => by rw [if_neg (by omega)]⟩ ?_
  · dsimp only; rw [show (l.length : Int) - 1 - ((0 : Nat) : Int) = (l.length : Int) - 1 by omega]; (exact sgoT)
  rintro ⟨k, L⟩ hok
  have hL := hok.len
  have hhalf := hok.half
  dsimp only at hok hL hhalf ⊢
  (refine ctlT ?_)
  refine rgT ?_
  refine lo (lop_move (E rfl)) rfl ?_
  refine lo (lop_move (E rfl)) rfl ?_
  refine lo (lop_lss (E rfl) (E rfl)) rfl ?_
  refine leT ?_
  (refine ctlT ?_)
  refine sw_cond rfl (fun g1 => ?_) (fun g1 => ?_)
  · have hlt : k + k + 1 < l.length := by simp at g1; omega
    obtain ⟨u, hu⟩ : ∃ u, L[k]? = some u := ⟨_, List.getElem?_eq_getElem (by omega)⟩
    obtain ⟨v, hv⟩ : ∃ v, L[l.length - 1 - k]? = some v := ⟨_, List.getElem?_eq_getElem (by omega)⟩
    have e1 : ((l.length : Int) - 1 - k).toNat = l.length - 1 - k := by omega
    have hu' := nat_at hu
    have hv' : L[((l.length : Int) - 1 - k).toNat]? = some v := by rw [e1]; exact hv
    have hok' := hok.step hlt hu hv
    have hs : ((L.map encI).set (k : Int).toNat [.int .i64 v])[((l.length : Int) - 1 - k).toNat]? = some (encI v) := by rw [e1, Int.toNat_natCast, List.getElem?_set_ne (by omega), List.getElem?_map, hv]; rfl
    (refine ctlT ?_)
    refine rgD [(0, true), (1, true), (2, true), (3, true), (4, true), (5, true), (6, true), (7, true), (8, true), (9, true), (10, true), (11, true), (12, true), (13, false), (14, true), (15, false)] ?_
    refine dlo rfl (lop_move (E rfl)) rfl ?_
    refine dlo rfl (lop_move (E rfl)) rfl ?_
    refine dlo rfl (lop_move (E rfl)) rfl ?_
    refine dlo rfl (lop_move (E rfl)) rfl ?_
    refine dlo rfl (lop_move (E rfl)) rfl ?_
    refine dlo rfl (lop_move (E rfl)) rfl ?_
    refine z56 ?_
    refine z57 ?_
    refine dlo rfl (lop_move (E rfl)) rfl ?_
    refine dlo rfl (lop_move (E rfl)) rfl ?_
    refine z56 ?_
    refine z57 ?_
    refine z56 ?_
    apply dsto; rfl; infer_instance; rfl; rfl; rfl; rfl; (exact ssetT); (exact atT); (exact putT_); rfl; (exact hbtT)
    refine z56 ?_
    apply dsto; rfl; infer_instance; rfl; rfl; rfl; rfl; (exact ssetT); (exact atT); (exact putT_); rfl; (exact hbtT)
    refine deT ?_
    (refine ctlT ?_)
    rw [show ((L.map encI).set (k : Int).toNat [.int .i64 v]).set ((l.length : Int) - 1 - k).toNat [.int .i64 u] = ((L.set k v).set (l.length - 1 - k) u).map encI by rw [e1, Int.toNat_natCast, List.map_set, List.map_set]; rfl]
    refine rgT ?_
    refine lo (lop_move (E rfl)) rfl ?_
    refine z17 ?_
    refine lo (lop_move (E rfl)) rfl ?_
    refine z19 ?_
    refine lo (lop_assign (E rfl)) rfl ?_
    refine lo (lop_assign (E rfl)) rfl ?_
    refine leT ?_
    (refine ctlT ?_)
    refine ⟨(k + 1, (L.set k v).set (l.length - 1 - k) u), hok', by show l.length - (k + 1) < l.length - k; omega, ?_⟩
    dsimp only
    rw [show ((k + 1 : Nat) : Int) = (k : Int) + 1 by omega, show (l.length : Int) - 1 - ((k : Int) + 1) = (l.length : Int) - 1 - k - 1 by omega]
    (exact sgoT)
  obtain rfl := hok.done (by simp at g1; omega)
  (refine ctlT ?_)
  refine aend_n ?_
  (apply aend; (exact resT))
  · rfl
  · (exact stleT)
end Go.Proofs.Ytjpdadobblffmaa
/-
  What encloses a place: the program's Targets and the document's.
-/
namespace Go.Proofs.Ytjpdadobblffmaa
open Go.RowKit Go.ChangeShapes Go.WideShapes Go.ChangeAt Go.Deep
attribute [local irreducible] SW RS RD AThen ABlock
def inB (a : Int) (b : Bk) : Bool := decide ((b.at_ : Int) < a) && decide (a < b.en) && (a != b.els)
def tgN (ops : List Int) (a : Int) : List Int := if a < 0 ∨ (ops.length : Int) ≤ a then [] else (((blN ops).filter (inB a)).map fun b => (b.at_ : Int)).reverse
def tP (B : List Bk) (a : Int) (j : Nat) : List Int := ((B.take j).filter (inB a)).map fun b => (b.at_ : Int)
theorem tP_len (B : List Bk) (a : Int) (j : Nat) : (tP B a j).length ≤ B.length := by
  unfold tP
  rw [List.length_map]
  refine Nat.le_trans (List.length_filter_le ..) ?_
  simp; omega
theorem tP_yes {B : List Bk} {a : Int} {j : Nat} {b : Bk} (h : B[j]? = some b) (hb : inB a b = true) : tP B a (j + 1) = tP B a j ++ [(b.at_ : Int)] := by
  unfold tP; rw [List.take_add_one, h, List.filter_append]; simp [hb]
theorem tP_no {B : List Bk} {a : Int} {j : Nat} {b : Bk} (h : B[j]? = some b) (hb : inB a b = false) : tP B a (j + 1) = tP B a j := by
  unfold tP; rw [List.take_add_one, h, List.filter_append]; simp [hb]
theorem tP_all {B : List Bk} {a : Int} : tP B a B.length = ((B.filter (inB a)).map fun b => (b.at_ : Int)) := by
  unfold tP; rw [List.take_length]
set_option maxRecDepth 100000 in
theorem code_targets (l : List Ins) (hl : l.length ≤ 100000) (a : Int) : SCall Try.prog 6 [.ro 4 (l.map (iv .any)) .any, .int .i64 a] []
    (fun y σ => ∃ q, y = .own q 0 (tgN (opsOf l) a).length ∧ σ = [(q, .arr 3 1 ((tgN (opsOf l) a).map encI))]) := by
  have hol : (opsOf l).length = l.length := by simp [opsOf]
  obtain ⟨hBl, -⟩ := blN_ok (opsOf l)
  rw [hol] at hBl
  refine scall_of (n := 54) (ks := [0, 1, 4, 5, 7, 9, 17, 23, 24, 25, 26, 44]) Try.func6 rfl rfl (Nat.le_of_ble_eq_true rfl) ?_
  (refine ctlT ?_)
  refine rgT ?_
  refine lo (lop_assign (E rfl)) rfl ?_
  refine leT ?_
  (refine ctlT ?_)
  refine rgT ?_
  refine lo (lop_move (E rfl)) rfl ?_
  refine lo (lop_lss (E rfl) (E rfl)) rfl ?_
  refine lo (lop_move (E rfl)) rfl ?_
  refine z109 ?_
  refine z109 ?_
  refine z124 ?_
  first | refine ln rfl rfl rfl rfl ?_ | (refine gy rfl rfl ?_; refine lo (lop_geq (by first | exact W rfl id | exact E rfl) (by first | exact W rfl id | exact E rfl)) rfl ?_) | refine lg rfl rfl (lop_geq (by first | exact W rfl id | exact E rfl) (by first | exact W rfl id | exact E rfl)) rfl ?_
  refine z113 ?_
  refine leT ?_
  (refine ctlT ?_)
  refine sw_cond rfl (fun g1 => ?_) (fun g1 => ?_)
  · (refine ctlT ?_)
    refine rgT ?_
    refine lo (lop_assign (E rfl)) rfl ?_
    refine leT ?_
    refine an ?_
    refine sw_virt 4 3 1 (by decide) rfl (by decide) (freshT fun q2 hq2 => ?_); (repeat (rcases hq2 with ⟨_, hq2⟩))
    (refine ctlT ?_)
    (apply aend; (exact resT))
    · have hr : a < 0 ∨ (l.length : Int) ≤ a := by replace g1 := bT g1; exact g1
      unfold tgN; rw [hol, if_pos hr]; exact ⟨q2, rfl, rfl⟩
    · (exact stleT)
  have hr : ¬ (a < 0 ∨ (l.length : Int) ≤ a) := by replace g1 := bT g1; omega
  have ht : tgN (opsOf l) a = (tP (blN (opsOf l)) a (blN (opsOf l)).length).reverse := by unfold tgN; rw [hol, if_neg hr, tP_all]
  rw [ht]
  (refine ctlT ?_)
  refine rgT ?_
  refine lo (lop_move (E rfl)) rfl ?_
  refine cw [] Try.call5 (code_match l hl) rfl argsleT stleT ?_
  rintro _ σ' ⟨q3, rfl, rfl⟩ h20
  (apply rs_sto; (exact nflT))
  refine lo (lop_move (E rfl)) rfl ?_
  refine lo (lop_extract (E rfl) rfl) rfl ?_
  refine lo (lop_extract (E rfl) rfl) rfl ?_
  refine lo (lop_assign (E rfl)) rfl ?_
  refine lo (lop_assign (E rfl)) rfl ?_
  refine leT ?_
  (refine ctlT ?_)
  generalize blN (opsOf l) = B at hBl ⊢
  refine fzvs (j := 5) rfl sdelT (bor_own sgT (by simp)) ?_
  refine rgT ?_
  refine lo (lop_assign (E rfl)) rfl ?_
  refine leT ?_
  (refine ctlT ?_)
  refine sw_virt 7 3 1 (by decide) rfl (by decide) (freshT fun o0 ho0 => ?_); (repeat (rcases ho0 with ⟨_, ho0⟩))
  refine rgT ?_
  refine lo (lop_move (E rfl)) rfl ?_
  refine z14 ?_
  refine lo (lop_move (E rfl)) rfl ?_
  refine leT ?_
  (refine ctlT ?_)
  refine lp (β := Nat × Nat) (fun b => ⟨[(1, .int .i64 a), (7, .own b.1 0 (tP B a b.2).length), (23, .ro 3 (B.map encK) .any), (24, .int .i64 B.length), (25, .int .i64 b.2)], [(b.1, .arr 3 1 ((tP B a b.2).map encI))]⟩) (fun b => b.2 ≤ B.length) (fun b => B.length - b.2) (o0, 0) sgoT (Nat.zero_le _) ?_
  rintro ⟨o, j⟩ hj
  have hlen := tP_len B a j
  dsimp only at hj ⊢
  (refine ctlT ?_)
  refine rgT ?_
  refine lo (lop_lss (E rfl) (E rfl)) rfl ?_
  refine leT ?_
  (refine ctlT ?_)
  refine sw_cond rfl (fun g6 => ?_) (fun g6 => ?_)
  · have hlt : j < B.length := by simp at g6; omega
    obtain ⟨b, hb⟩ : ∃ b, B[j]? = some b := ⟨_, List.getElem?_eq_getElem hlt⟩
    (refine ctlT ?_)
    refine rgT ?_
    refine z15 ?_
    refine z111 ?_
    apply al; rfl; (exact zcT); refine freshT fun r9 h9 => ?_; (repeat (rcases h9 with ⟨_, h9⟩))
    apply stp; rfl; rfl; rfl; rfl; (exact sputT)
    refine leT ?_
    (refine ctlT ?_)
    refine rgT ?_
    refine z59 ?_
    refine z60 ?_
    refine lo (lop_move (E rfl)) rfl ?_
    refine lo (lop_lss (E rfl) (E rfl)) rfl ?_
    refine lo (lop_move (E rfl)) rfl ?_
    refine z109 ?_
    refine z114 ?_
    refine z115 ?_
    refine z110 ?_
    refine z68 ?_
    refine lo (lop_move (E rfl)) rfl ?_
    refine z109 ?_
    refine z114 ?_
    refine z115 ?_
    refine z167 ?_
    refine z68 ?_
    refine leT ?_
    (refine ctlT ?_)
    refine sw_cond rfl (fun g8 => ?_) (fun g8 => ?_)
    · have hn := tP_yes hb (a := a) (by unfold inB; replace g8 := bT g8; simp; omega)
      (refine ctlT ?_)
      refine rgT ?_
      refine lo (lop_move (E rfl)) rfl ?_
      refine z59 ?_
      refine z60 ?_
      refine z1 ?_; refine freshT fun r48 h48 => ?_; (repeat (rcases h48 with ⟨_, h48⟩))
      refine apA ((tP B a j ++ [(b.at_ : Int)]).map encI) (tP B a j ++ [(b.at_ : Int)]).length ?_
      refine apnT fun r49 h49 => ?_; (repeat (rcases h49 with ⟨_, h49⟩))
      refine lo (lop_assign (E rfl)) rfl ?_
      refine leT ?_
      (refine ctlT ?_)
      obtain ⟨O, rfl⟩ : ∃ O, O = r49 := ⟨_, rfl⟩
      refine rgT ?_
      refine z17 ?_
      refine lo (lop_move (E rfl)) rfl ?_
      refine leT ?_
      (refine ctlT ?_)
      refine ⟨(O, j + 1), hlt, by show B.length - (j + 1) < B.length - j; omega, ?_⟩
      dsimp only
      rw [hn]
      (exact sgoT)
    have hn := tP_no hb (a := a) (by unfold inB; simp only [if_and] at g8; exact g8)
    obtain ⟨O, rfl⟩ : ∃ O, O = o := ⟨_, rfl⟩
    (refine ctlT ?_)
    refine rgT ?_
    refine z17 ?_
    refine lo (lop_move (E rfl)) rfl ?_
    refine leT ?_
    (refine ctlT ?_)
    refine ⟨(O, j + 1), hlt, by show B.length - (j + 1) < B.length - j; omega, ?_⟩
    dsimp only
    rw [hn]
    (exact sgoT)
  obtain rfl : j = B.length := by simp at g6; omega
  (refine ctlT ?_)
  refine rgT ?_
  refine lo (lop_move (E rfl)) rfl ?_
  refine cw [(o, .arr 3 1 ((tP B a B.length).map encI))] Try.call10 (slices_reverse o (tP B a B.length) (by omega)) rfl argsleT stleT ?_
  rintro _ σ' rfl h52
  (apply rs_sto; (exact nflT))
  refine leT ?_
  (refine ctlT ?_)
  refine rgT ?_
  refine lo (lop_move (E rfl)) rfl ?_
  refine lo (lop_assign (E rfl)) rfl ?_
  refine leT ?_
  (refine ctlT ?_)
  (apply aend; (exact resT))
  · exact ⟨o, by rw [List.length_reverse]; rfl, rfl⟩
  · (exact stleT)
end Go.Proofs.Ytjpdadobblffmaa
/-
  The symbolic layer's maps whose keys are numbers: made, written, looked into. No program is named here.
-/
namespace Go.Proofs.Ytjpdadobblffmaa
open Go.RowKit Go.ChangeShapes Go.WideShapes Go.ChangeAt Go.Deep Go.MapKept
/-- what stands at a key -/
def mget : List Int → List AV → Int → Option AV
  | k :: ks, x :: xs, q => if k = q then some x else mget ks xs q
  | _, _, _ => none
def mset : List Int → List AV → Int → AV → List AV
  | k :: ks, x :: xs, q, v => if k = q then v :: xs else x :: mset ks xs q v
  | _, xs, _, _ => xs
def mputK (ks : List Int) (q : Int) : List Int := if q ∈ ks then ks else ks ++ [q]
def mputX (ks : List Int) (xs : List AV) (q : Int) (v : AV) : List AV := if q ∈ ks then mset ks xs q v else xs ++ [v]
theorem mset_len {ks : List Int} {xs : List AV} {q : Int} {v : AV} : (mset ks xs q v).length = xs.length := by
  induction ks generalizing xs with
  | nil => cases xs <;> rfl
  | cons k ks ih =>
    cases xs with
    | nil => rfl
    | cons x xs =>
      unfold mset
      split <;> simp [ih]
theorem mput_len {ks : List Int} {xs : List AV} {q : Int} {v : AV} (h : xs.length = ks.length) : (mputX ks xs q v).length = (mputK ks q).length := by
  unfold mputX mputK
  split <;> simp [mset_len, h]
/-- keys as values -/
def KeysAre (ks : List Int) (l : List MapEntry) : Prop := l.map (·.key) = ks.map fun k => Value.int .i64 k
theorem keys_of {ks : List Int} {es : Array MapEntry} (hl : es.size = ks.length) (hk : ∀ (i : Nat) (k : Int) (e : MapEntry), ks[i]? = some k → es[i]? = some e → e.key = .int .i64 k) : KeysAre ks es.toList := by
  refine List.ext_getElem? fun i => ?_
  rw [List.getElem?_map, List.getElem?_map, Array.getElem?_toList]
  cases hi : ks[i]? with
  | none =>
    have := List.getElem?_eq_none_iff.1 hi
    rw [Array.getElem?_eq_none (by omega)]
    rfl
  | some k =>
    have hlt := (List.getElem?_eq_some_iff.1 hi).1
    have he : es[i]? = some es[i] := Array.getElem?_eq_getElem (by omega)
    rw [he]
    simp [hk i k _ hi he]
theorem findNow_at {q : Int} : ∀ {ks : List Int} {l : List MapEntry} {i : Nat}, KeysAre ks l → (q ∉ ks ∧ Instr.findNow (.int .i64) (.int .i64 q) l i = some none) ∨ (∃ j e, q ∈ ks ∧ ks[j]? = some q ∧ (∀ j' < j, ks[j']? ≠ some q) ∧ l[j]? = some e ∧ Instr.findNow (.int .i64) (.int .i64 q) l i = some (some (i + j, e.val)))
  | [], [], _, _ => .inl ⟨by simp, rfl⟩
  | k :: ks, [], _, h => by simp [KeysAre] at h
  | [], e :: l, _, h => by simp [KeysAre] at h
  | k :: ks, e :: l, i, h => by
    have hk : e.key = .int .i64 k ∧ KeysAre ks l := by simpa [KeysAre] using h
    have hs : Instr.sameNow (.int .i64) (.int .i64 q) e.key = some (q == k) := by rw [hk.1]; simp [Instr.sameNow]
    by_cases hq : q = k
    · subst hq
      refine .inr ⟨0, e, by simp, rfl, fun j' hj => absurd hj (Nat.not_lt_zero _), rfl, ?_⟩
      simp [Instr.findNow, hs]
    · have hne : (q == k) = false := by simpa using hq
      rcases findNow_at (q := q) (i := i + 1) hk.2 with ⟨h1, h2⟩ | ⟨j, e', h0, h1, h2, h3, h4⟩
      · exact .inl ⟨by simp [hq, h1], by simp [Instr.findNow, hs, hne, h2]⟩
      · refine .inr ⟨j + 1, e', by simp [h0], by simpa using h1, fun j' hj => ?_, by simpa using h3, ?_⟩
        · cases j' with
          | zero => simp; exact fun e => hq e.symm
          | succ j' => simpa using h2 j' (by omega)
        · simp [Instr.findNow, hs, hne, h4]; omega
theorem mget_none {q : Int} : ∀ {ks : List Int} {xs : List AV}, q ∉ ks → mget ks xs q = none
  | [], _, _ => by unfold mget; rfl
  | k :: ks, [], _ => by unfold mget; rfl
  | k :: ks, x :: xs, h => by
    unfold mget
    rw [if_neg (fun e => h (by simp [e]))]
    exact mget_none (fun e => h (by simp [e]))
theorem mget_at {q : Int} : ∀ {ks : List Int} {xs : List AV} {j : Nat}, ks[j]? = some q → (∀ j' < j, ks[j']? ≠ some q) → mget ks xs q = xs[j]?
  | [], _, _, h, _ => by simp at h
  | k :: ks, [], j, _, _ => by unfold mget; simp
  | k :: ks, x :: xs, 0, h, _ => by
    have : k = q := by simpa using h
    unfold mget; rw [if_pos this]; rfl
  | k :: ks, x :: xs, j + 1, h, h' => by
    have : ¬ k = q := fun e => h' 0 (by omega) (by simp [e])
    unfold mget
    rw [if_neg this, List.getElem?_cons_succ]
    exact mget_at (by simpa using h) fun j' hj => by simpa using h' (j' + 1) (by omega)
theorem mset_at {q : Int} {v : AV} : ∀ {ks : List Int} {xs : List AV} {j : Nat}, ks[j]? = some q → (∀ j' < j, ks[j']? ≠ some q) → mset ks xs q v = xs.set j v
  | [], _, _, h, _ => by simp at h
  | k :: ks, [], j, _, _ => by unfold mset; simp
  | k :: ks, x :: xs, 0, h, _ => by
    have : k = q := by simpa using h
    unfold mset; rw [if_pos this]; rfl
  | k :: ks, x :: xs, j + 1, h, h' => by
    have : ¬ k = q := fun e => h' 0 (by omega) (by simp [e])
    unfold mset
    rw [if_neg this, List.set_cons_succ, mset_at (by simpa using h) fun j' hj => by simpa using h' (j' + 1) (by omega)]

section
variable {P : Program} {n : Nat} {s : ASt} {K : ASt → Prop} {ty t kt et : TypeId} {d : Nat} {x y z : Operand}
/-- make(map[..]..) -/
theorem hop_makeMap (hd : d < n) (hK : ∀ r, Fresh r s.σ → K ⟨(d, .mp r) :: s.fr, (r, .map [] []) :: s.σ⟩) : Hop P n (.makeMap t none) ty (some d) s [] K := by
  intro M F N a w o ho _ hdst hr next Q hnext
  have hrun : (execOp a.eval o).run P w = .ok (.value (.map (some w.heap.size))) (w.alloc (.map #[] 0)) := by
    have := run_makeMap (P := P) t w
    simp [execOp, ho, this]
  unfold Oper.wp
  rw [hrun, Oper.upon_value, hdst]
  have hE : ER (addM M N (.row w.heap.size 0 0)) F (w.alloc (.map #[] 0)) N (.map [] []) :=
    ⟨w.heap.size, #[], 0, addM_new _, heap_alloc_new w _, rfl, rfl, fun i k e hi => by simp at hi, fun i x e hi => by simp at hi⟩
  obtain ⟨r1, e1, n1⟩ := hr.new_ (w' := w.alloc (.map #[] 0)) (.row w.heap.size 0 0) (.map [] []) (fun k hk => Below.heap_alloc _ _ _ hk) ⟨rfl, rfl, rfl⟩ (by simp)
    (fun g hg => by simp only [blkOf, addM_new, Option.some.injEq] at hg; omega) hE
  exact hnext _ F (N + 1) _ _ ⟨(d, .mp N) :: s.fr, (N, .map [] []) :: s.σ⟩ (r1.put hd (.mp (addM_new _))) e1 ⟨rfl, rfl, rfl, by simp, fun k hk _ => Below.heap_alloc _ _ _ hk⟩ (hK N n1)
/-- m[k] = v -/
theorem hop_mapUpdate [Ty P t (.map kt et)] [Ty P kt (.int .i64)] {r : Nat} {ks : List Int} {xs : List AV} {q : Int} {v : AV} (h : aev s x = some (.mp r)) (hg : sget s.σ r = some (.map ks xs)) (hq : aev s y = some (.int .i64 q)) (hv : aev s z = some v)
    (hK : K ⟨s.fr, sset s.σ r (.map (mputK ks q) (mputX ks xs q v))⟩) : Hop P n (.mapUpdate t x y z) ty none s [r] K := by
  intro M F N a w o ho _ hdst hr next Q hnext
  have hx := hr.aev h
  have e2 := (Ev.here hq : Ev s true y _).int hr rfl
  have hvv := hr.aev hv
  generalize hu : a.eval x = u at hx
  have hmem := sget_mem hg
  obtain ⟨g, es, ck, hM', hh, hsz, hxl, hks, hvr⟩ := hr.st.ent _ hmem
  cases hx with
  | mp hM =>
    have hg' := hM'.symm.trans hM
    simp only [Option.some.injEq, Blk'.row.injEq] at hg'
    obtain ⟨q1, _, _⟩ := hg'
    subst q1
    have hKA := keys_of hsz hks
    have hik : IsKey (.int .i64) (.int .i64 q) := by simp [IsKey]
    have hbl : blkOf M r = some g := by simp [blkOf, hM]
    have hF : ¬ F g := hr.st.nof g ⟨_, hmem, hbl⟩
    have only_ : ∀ o' : Obj, Only (fun k => k = g) w { w with heap := w.heap.setIfInBounds g o' } := fun o' => ⟨rfl, rfl, rfl, by simp, fun k _ hne => (heap_set hh).2 k hne⟩
    have hSame : ∀ o' : Obj, Same F w { w with heap := w.heap.setIfInBounds g o' } := fun o' b hb => (heap_set hh).2 b (fun e => hF (e ▸ hb))
    rcases findNow_at (q := q) (i := 0) hKA with ⟨hn, hf⟩ | ⟨j, e0, hin, hj, hj', he0, hf⟩
    · have hrun : (execOp a.eval o).run P w = .ok .skip { w with heap := w.heap.setIfInBounds g (.map (es.push { key := .int .i64 q, val := a.eval z, born := ck }) (ck + 1)) } := by
        simp [execOp, ho, hu, e2, Instr.mapUpdate, run_underlying (Ty.und (P := P) (t := t)), Go.MapKept.run_getObj_map hh, run_checkKey (Ty.und (P := P) (t := kt)) hik, run_findKey (Ty.und (P := P) (t := kt)) hf, run_setObj_map _ hh, Result.andThen]
      unfold Oper.wp
      rw [hrun, Oper.upon_skip, hdst]
      have hE : ER M F { w with heap := w.heap.setIfInBounds g (.map (es.push { key := .int .i64 q, val := a.eval z, born := ck }) (ck + 1)) } r (.map (mputK ks q) (mputX ks xs q v)) := by
        refine ⟨g, _, _, hM', (heap_set hh).1, ?_, mput_len hxl, ?_, ?_⟩
        · simp [mputK, hn, hsz]
        · intro i k e hi he
          simp only [mputK, if_neg hn] at hi
          rcases Nat.lt_or_ge i ks.length with hlt | hge
          · rw [List.getElem?_append_left hlt] at hi
            rw [Array.getElem?_push_lt (by omega)] at he
            obtain rfl := Option.some.inj he
            exact hks i k _ hi (Array.getElem?_eq_getElem (by omega))
          · have hi1 : i = ks.length := by have := (List.getElem?_eq_some_iff.1 hi).1; simp at this; omega
            subst hi1
            rw [List.getElem?_append_right (Nat.le_refl _), Nat.sub_self] at hi
            rw [← hsz, Array.getElem?_push_size] at he
            cases hi; cases he; rfl
        · intro i x' e hi he
          simp only [mputX, if_neg hn] at hi
          rcases Nat.lt_or_ge i xs.length with hlt | hge
          · rw [List.getElem?_append_left hlt] at hi
            rw [Array.getElem?_push_lt (by omega)] at he
            obtain rfl := Option.some.inj he
            exact (hvr i x' _ hi (Array.getElem?_eq_getElem (by omega))).mono (fun _ _ h => h) (fun _ h => h) (hSame _)
          · have hi1 : i = xs.length := by have := (List.getElem?_eq_some_iff.1 hi).1; simp at this; omega
            subst hi1
            rw [List.getElem?_append_right (Nat.le_refl _), Nat.sub_self] at hi
            rw [hxl, ← hsz, Array.getElem?_push_size] at he
            cases hi; cases he
            exact hvv.mono (fun _ _ h => h) (fun _ h => h) (hSame _)
      obtain ⟨r1, e1, o1⟩ := hr.set_ hmem hbl (only_ _) hE
      exact hnext M F N _ _ _ r1 e1 o1 hK
    · rw [Nat.zero_add] at hf
      have hjs : j < es.size := by have := (List.getElem?_eq_some_iff.1 he0).1; simpa using this
      have hkey : e0.key = .int .i64 q := hks j q e0 hj (by rw [← Array.getElem?_toList]; exact he0)
      have he1 : es[j]? = some e0 := by rw [← Array.getElem?_toList]; exact he0
      have hrun : (execOp a.eval o).run P w = .ok .skip { w with heap := w.heap.setIfInBounds g (.map (es.modify j fun e => { e with key := .int .i64 q, val := a.eval z }) ck) } := by
        simp [execOp, ho, hu, e2, Instr.mapUpdate, run_underlying (Ty.und (P := P) (t := t)), Go.MapKept.run_getObj_map hh, run_checkKey (Ty.und (P := P) (t := kt)) hik, run_findKey (Ty.und (P := P) (t := kt)) hf, he1, hkey, run_keyThatStays hik, run_setObj_map _ hh, Result.andThen]
      unfold Oper.wp
      rw [hrun, Oper.upon_skip, hdst]
      have hE : ER M F { w with heap := w.heap.setIfInBounds g (.map (es.modify j fun e => { e with key := .int .i64 q, val := a.eval z }) ck) } r (.map (mputK ks q) (mputX ks xs q v)) := by
        have hmx : mputX ks xs q v = xs.set j v := by unfold mputX; rw [if_pos hin, mset_at hj hj']
        refine ⟨g, _, _, hM', (heap_set hh).1, ?_, mput_len hxl, ?_, ?_⟩
        · simp [mputK, hin, hsz]
        · intro i k e hi he
          simp only [mputK, if_pos hin] at hi
          rw [Array.getElem?_modify] at he
          split at he
          · next hij =>
            subst hij
            rw [he1] at he
            obtain rfl := Option.some.inj he
            rw [hj] at hi
            cases hi; rfl
          · exact hks i k e hi he
        · intro i x' e hi he
          rw [hmx, List.getElem?_set] at hi
          rw [Array.getElem?_modify] at he
          by_cases hij : j = i
          · subst hij
            rw [if_pos rfl] at he hi
            rw [if_pos (by omega)] at hi
            rw [he1] at he
            obtain rfl := Option.some.inj he
            obtain rfl := Option.some.inj hi
            exact hvv.mono (fun _ _ h => h) (fun _ h => h) (hSame _)
          · rw [if_neg hij] at he hi
            exact (hvr i x' e hi he).mono (fun _ _ h => h) (fun _ h => h) (hSame _)
      obtain ⟨r1, e1, o1⟩ := hr.set_ hmem hbl (only_ _) hE
      exact hnext M F N _ _ _ r1 e1 o1 hK
variable {c : Bool}
/-- what a map's look-up yields -/
def mlook (ks : List Int) (xs : List AV) (q : Int) (z : AV) : Bool → AV
  | true => .tup [(mget ks xs q).getD z, .bool (decide (q ∈ ks))]
  | false => (mget ks xs q).getD z
theorem look_run {w' : World} {g ck : Nat} {es : Array MapEntry} {M : Mp} {F : Nat → Prop} {w : World} {ks : List Int} {xs : List AV} {q : Int} {sz by_ : Nat} {zv : Value} [Ty P t (.map kt et)] [Ty P kt (.int .i64)] [Tz P et sz by_ zv] (hh : w'.heap[g]? = some (.map es ck)) (hsz : es.size = ks.length) (hxl : xs.length = ks.length)
    (hks : ∀ (i : Nat) (k : Int) (e : MapEntry), ks[i]? = some k → es[i]? = some e → e.key = .int .i64 k) (hvr : ∀ (i : Nat) (x : AV) (e : MapEntry), xs[i]? = some x → es[i]? = some e → VR M F w x e.val) (ok : Bool) :
    ∃ u, VR M F w (mlook ks xs q (ofConst zv) ok) u ∧ ∀ w'' : World, w''.heap[g]? = some (.map es ck) → (Instr.lookup t (.map (some g)) (.int .i64 q) ok).run P w'' = .ok u w'' := by
  have hKA := keys_of hsz hks
  have hik : IsKey (.int .i64) (.int .i64 q) := by simp [IsKey]
  obtain ⟨i, hi, hz0, hs0, hb0⟩ := Tz.parts P et
  have hzero : ∀ w'' : World, (zeroValue et).run P w'' = .ok zv w'' := fun w'' => by simp [zeroValue, typeInfo, hi, hz0]
  have tupr : ∀ {a : AV} {b : Bool} {u : Value}, VR M F w a u → VR M F w (.tup [a, .bool b]) (.tuple #[u, .bool b]) := fun h => .tup rfl fun j a' u' hj hu => by
    match j with
    | 0 => cases hj; cases hu; exact h
    | 1 => cases hj; cases hu; exact .bool _
    | _ + 2 => simp at hj
  rcases findNow_at (q := q) (i := 0) hKA with ⟨hn, hf⟩ | ⟨j, e0, hin, hj, hj', he0, hf⟩
  · have hm := mget_none (xs := xs) hn
    cases ok with
    | true =>
      refine ⟨.tuple #[zv, .bool false], ?_, fun w'' hw => ?_⟩
      · have := tupr (b := false) (ofConst_vr (M := M) (F := F) (w := w) zv)
        simpa [mlook, hm, hn] using this
      · simp [Instr.lookup, run_underlying (Ty.und (P := P) (t := t)), Go.MapKept.run_getObj_map hw, run_checkKey (Ty.und (P := P) (t := kt)) hik, run_findKey (Ty.und (P := P) (t := kt)) hf, hzero, Result.andThen]
    | false =>
      refine ⟨zv, ?_, fun w'' hw => ?_⟩
      · simpa [mlook, hm] using ofConst_vr (M := M) (F := F) (w := w) zv
      · simp [Instr.lookup, run_underlying (Ty.und (P := P) (t := t)), Go.MapKept.run_getObj_map hw, run_checkKey (Ty.und (P := P) (t := kt)) hik, run_findKey (Ty.und (P := P) (t := kt)) hf, hzero, Result.andThen]
  · have he1 : es[j]? = some e0 := by rw [← Array.getElem?_toList]; exact he0
    have hjs : j < xs.length := by have := (List.getElem?_eq_some_iff.1 hj).1; omega
    have hm : mget ks xs q = some xs[j] := by rw [mget_at hj hj', List.getElem?_eq_getElem hjs]
    have hv := hvr j _ e0 (List.getElem?_eq_getElem hjs) he1
    cases ok with
    | true =>
      refine ⟨.tuple #[e0.val, .bool true], ?_, fun w'' hw => ?_⟩
      · have := tupr (b := true) hv
        simpa [mlook, hm, hin] using this
      · simp [Instr.lookup, run_underlying (Ty.und (P := P) (t := t)), Go.MapKept.run_getObj_map hw, run_checkKey (Ty.und (P := P) (t := kt)) hik, run_findKey (Ty.und (P := P) (t := kt)) hf, Result.andThen]
    | false =>
      refine ⟨e0.val, ?_, fun w'' hw => ?_⟩
      · simpa [mlook, hm] using hv
      · simp [Instr.lookup, run_underlying (Ty.und (P := P) (t := t)), Go.MapKept.run_getObj_map hw, run_checkKey (Ty.und (P := P) (t := kt)) hik, run_findKey (Ty.und (P := P) (t := kt)) hf, Result.andThen]
theorem lop_lookup_mp [Ty P t (.map kt et)] [Ty P kt (.int .i64)] {sz by_ : Nat} {zv : Value} [Tz P et sz by_ zv] {r : Nat} {ks : List Int} {xs : List AV} {q : Int} {ok : Bool} (h : Ev s c x (.mp r)) (hg : sget s.σ r = some (.map ks xs)) (hq : Ev s c y (.int .i64 q)) : Lop P (.lookup t x y ok) ty s c (mlook ks xs q (ofConst zv) ok) [r] := by
  refine ⟨fun r' hr' => ⟨_, sget_mem hg, (List.mem_singleton.1 hr').symm⟩, fun M F N n a w hr hc => ?_⟩
  have e1 := h.vr hr hc
  have e2 := hq.int hr hc
  generalize hu : a.eval x = u at e1
  obtain ⟨g, es, ck, hM', hh, hsz, hxl, hks, hvr⟩ := hr.st.ent _ (sget_mem hg)
  cases e1 with
  | mp hM =>
    have hg' := hM'.symm.trans hM
    simp only [Option.some.injEq, Blk'.row.injEq] at hg'
    obtain ⟨q1, _, _⟩ := hg'
    subst q1
    obtain ⟨u, h1, h2⟩ := look_run (P := P) (t := t) (q := q) hh hsz hxl hks hvr ok
    refine ⟨u, h1, fun w' o ho _ hw => ?_⟩
    have := h2 w' ((hw g (.inr ⟨r, List.mem_singleton.2 rfl, by simp [blkOf, hM]⟩)).trans hh)
    simp [execOp, ho, hu, e2, this]
theorem lop_len_mp [Ty P t (.map kt et)] {r : Nat} {ks : List Int} {xs : List AV} (h : Ev s c x (.mp r)) (hg : sget s.σ r = some (.map ks xs)) : Lop P (.call { callee := .builtin .len, args := #[x], argTypes := #[t] }) ty s c (.int .i64 ks.length) [r] := by
  refine ⟨fun r' hr' => ⟨_, sget_mem hg, (List.mem_singleton.1 hr').symm⟩, fun M F N n a w hr hc => ?_⟩
  have e1 := h.vr hr hc
  generalize hu : a.eval x = u at e1
  obtain ⟨g, es, ck, hM', hh, hsz, hxl, hks, hvr⟩ := hr.st.ent _ (sget_mem hg)
  cases e1 with
  | mp hM =>
    have hg' := hM'.symm.trans hM
    simp only [Option.some.injEq, Blk'.row.injEq] at hg'
    obtain ⟨q1, _, _⟩ := hg'
    subst q1
    refine ⟨_, .int _ _, fun w' o ho _ hw => ?_⟩
    have hh' := (hw g (.inr ⟨r, List.mem_singleton.2 rfl, by simp [blkOf, hM]⟩)).trans hh
    simp [execOp, ho, hu, resolve, invoke, builtin, Builtin.len_, run_underlying (Ty.und (P := P) (t := t)), Go.MapKept.run_getObj_map hh', goInt, hsz]
end
end Go.Proofs.Ytjpdadobblffmaa
/-
  Blocks written out one by one: which are closed where, and what encloses the place ahead of an end: plain words.
-/
namespace Go.Proofs.Ytjpdadobblffmaa
open Go.RowKit Go.ChangeShapes Go.WideShapes Go.ChangeAt Go.Deep
theorem mstep_ops {ops ops' : List Int} {s : MS} {j : Nat} {op : Int} (h : op ≠ 5) : mstep ops s j op = mstep ops' s j op := by
  unfold mstep
  split
  · rfl
  · split
    · rfl
    · next h2 =>
      have h11 : op = 11 := Classical.byContradiction fun e => h2 ⟨h, e⟩
      subst h11
      unfold mtop
      rfl
theorem mrun_app {B C : List Int} (h5 : 5 ∉ B) : ∀ {j : Nat}, j ≤ B.length → mrun (B ++ C) j = mrun B j
  | 0, _ => rfl
  | j + 1, hj => by
    have ho : (B ++ C)[j]? = B[j]? := List.getElem?_append_left (by omega)
    rw [mrun, mrun, mrun_app h5 (by omega), ho]
    cases h : mrun B j with
    | none => rfl
    | some s =>
      cases h2 : B[j]? with
      | none => rfl
      | some op => exact mstep_ops (fun e => h5 (e ▸ List.mem_of_getElem? h2))
/-- what a step leaves, and what it turns -/
structure Stp (s : MS) (j : Nat) (t : MS) : Prop where
  clo : ∀ (k : Nat) (b : Bk), s.all[k]? = some b → k ∉ s.opn → t.all[k]? = some b ∧ k ∉ t.opn
  at_ : ∀ (k : Nat) (b : Bk), s.all[k]? = some b → ∃ b' : Bk, t.all[k]? = some b' ∧ b'.at_ = b.at_
  new : ∀ (k : Nat) (b : Bk), t.all[k]? = some b → s.all.length ≤ k → j ≤ b.at_
  end_ : ∀ (k : Nat) (b : Bk), k ∈ s.opn → t.all[k]? = some b → k ∉ t.opn → (j : Int) ≤ b.en
theorem stp_refl (s : MS) (j : Nat) : Stp s j s := ⟨fun _ _ h k => ⟨h, k⟩, fun _ b h => ⟨b, h, rfl⟩, fun k b h hk => by have := (List.getElem?_eq_some_iff.1 h).1; omega, fun _ _ h _ k => absurd h k⟩
theorem stp_one {ops : List Int} {s t : MS} {j : Nat} {op : Int} (h1 : MOk j s) (h2 : MOk2 s) (h5 : op ≠ 5) (hs : mstep ops s j op = some t) : Stp s j t ∧ (∀ k, k ∈ s.opn → k ∉ t.opn → s.opn.getLast? = some k) := by
  unfold mstep at hs
  split at hs
  · split at hs
    · cases hs
    · obtain rfl := Option.some.inj hs
      refine ⟨⟨fun k b hb ho => ?_, fun k b hb => ?_, fun k b hb hk => ?_, fun k b ho hb hn => ?_⟩, fun k hk hn => ?_⟩
      · have hlt := (List.getElem?_eq_some_iff.1 hb).1
        refine ⟨by rw [List.getElem?_append_left hlt]; exact hb, ?_⟩
        simp only [List.mem_append, List.mem_singleton, not_or]
        exact ⟨ho, by omega⟩
      · have hlt := (List.getElem?_eq_some_iff.1 hb).1
        exact ⟨b, by rw [List.getElem?_append_left hlt]; exact hb, rfl⟩
      · rw [List.getElem?_append_right hk] at hb
        have : k - s.all.length = 0 := by have := (List.getElem?_eq_some_iff.1 hb).1; simp at this; omega
        rw [this] at hb
        cases hb
        exact Nat.le_refl _
      · exact absurd (List.mem_append_left _ ho) hn
      · exact absurd (List.mem_append_left _ hk) hn
  · split at hs
    · obtain rfl := Option.some.inj hs
      exact ⟨stp_refl _ _, fun k hk hn => absurd hk hn⟩
    · next h0 =>
      have h11 : op = 11 := Classical.byContradiction fun e => h0 ⟨h5, e⟩
      subst h11
      unfold mtop at hs
      cases hl : s.opn.getLast? with
      | none => rw [hl] at hs; cases hs
      | some q =>
        rw [hl] at hs
        dsimp only at hs
        cases hq : s.all[q]? with
        | none => rw [hq] at hs; cases hs
        | some c =>
          rw [hq] at hs
          simp only [if_true, Option.some.injEq] at hs
          obtain rfl := hs
          have hop : s.opn = s.opn.dropLast ++ [q] := by
            have hne : s.opn ≠ [] := fun e => by rw [e] at hl; cases hl
            have := List.dropLast_concat_getLast hne
            rw [List.getLast?_eq_some_getLast hne] at hl
            rw [Option.some.inj hl] at this
            exact this.symm
          have hqin : q ∈ s.opn := by rw [hop]; simp
          have hqn : q ∉ s.opn.dropLast := fun e => by
            have := h2.inc
            rw [hop] at this
            have := (List.pairwise_append.1 this).2.2 q e q (by simp)
            omega
          have hmem : ∀ k, k ∈ s.opn → k ∉ s.opn.dropLast → k = q := fun k hk hn => by
            rw [hop] at hk
            rcases List.mem_append.1 hk with hk | hk
            · exact absurd hk hn
            · exact List.mem_singleton.1 hk
          refine ⟨⟨fun k b hb ho => ?_, fun k b hb => ?_, fun k b hb hk => ?_, fun k b ho hb hn => ?_⟩, fun k hk hn => ?_⟩
          · refine ⟨?_, fun e => ho (by rw [hop]; exact List.mem_append_left _ e)⟩
            have hne : q ≠ k := fun e => ho (e ▸ hqin)
            rw [List.getElem?_set_ne hne]
            exact hb
          · by_cases e : q = k
            · subst e
              have hlt := (List.getElem?_eq_some_iff.1 hb).1
              rw [hq] at hb
              cases hb
              exact ⟨⟨c.at_, c.els, j⟩, List.getElem?_set_self hlt, rfl⟩
            · exact ⟨b, by rw [List.getElem?_set_ne e]; exact hb, rfl⟩
          · have := (List.getElem?_eq_some_iff.1 hb).1
            simp at this
            omega
          · obtain rfl := hmem k ho hn
            have hlt := (List.getElem?_eq_some_iff.1 hq).1
            rw [List.getElem?_set_self hlt] at hb
            cases hb
            exact Int.le_refl _
          · rw [hmem k hk hn]
theorem stp_trans {s t u : MS} {j i : Nat} (hij : j ≤ i) (h1 : MOk j s) (h : Stp s j t) (k : Stp t i u) : Stp s j u := by
  refine ⟨fun q b hb ho => ?_, fun q b hb => ?_, fun q b hb hq => ?_, fun q b ho hb hn => ?_⟩
  · obtain ⟨a1, a2⟩ := h.clo q b hb ho
    exact k.clo q b a1 a2
  · obtain ⟨b1, a1, a2⟩ := h.at_ q b hb
    obtain ⟨b2, a3, a4⟩ := k.at_ q b1 a1
    exact ⟨b2, a3, a4.trans a2⟩
  · rcases Nat.lt_or_ge q t.all.length with hlt | hge
    · obtain ⟨b2, a3, a4⟩ := k.at_ q _ (List.getElem?_eq_getElem hlt)
      rw [hb] at a3
      cases a3
      rw [a4]
      exact h.new q _ (List.getElem?_eq_getElem hlt) hq
    · have := k.new q b hb hge
      omega
  · have hlt : q < s.all.length := h1.opn q ho
    obtain ⟨b1, a1, a2⟩ := h.at_ q _ (List.getElem?_eq_getElem hlt)
    by_cases hq : q ∈ t.opn
    · have := k.end_ q b hq hb hn
      omega
    · obtain ⟨a3, a4⟩ := k.clo q b1 a1 hq
      rw [hb] at a3
      cases a3
      exact h.end_ q b ho a1 hq
theorem stp_run {B : List Int} (h5 : 5 ∉ B) {j : Nat} {s : MS} (hs : mrun B j = some s) : ∀ (d : Nat) (t : MS), mrun B (j + d) = some t → Stp s j t
  | 0, t, ht => by rw [Nat.add_zero, hs] at ht; cases ht; exact stp_refl _ _
  | d + 1, t, ht => by
    rw [← Nat.add_assoc, mrun] at ht
    cases hu : mrun B (j + d) with
    | none => rw [hu] at ht; cases ht
    | some u =>
      cases ho : B[j + d]? with
      | none => rw [hu, ho] at ht; cases ht
      | some op =>
        rw [hu, ho] at ht
        exact stp_trans (Nat.le_add_right _ _) (mrun_ok hs) (stp_run h5 hs d u hu) (stp_one (mrun_ok hu) (mrun_ok2 hu) (fun e => h5 (e ▸ List.mem_of_getElem? ho)) ht).1
theorem mrun_some {B : List Int} {n : Nat} {t : MS} (ht : mrun B n = some t) {j : Nat} (hj : j ≤ n) : ∃ s, mrun B j = some s := by
  cases h : mrun B j with
  | some s => exact ⟨s, rfl⟩
  | none =>
    have := mrun_none h (n - j)
    rw [Nat.add_sub_cancel' hj, ht] at this
    cases this
theorem filter_last {α : Type} {l : List α} {p : α → Bool} {i : Nat} {b : α} (hb : l[i]? = some b) (hp : p b = true) (hn : ∀ k b', i < k → l[k]? = some b' → p b' = false) : l.filter p = (l.take i).filter p ++ [b] := by
  have e1 : l = l.take (i + 1) ++ l.drop (i + 1) := (List.take_append_drop _ _).symm
  have e2 : (l.drop (i + 1)).filter p = [] := by
    rw [List.filter_eq_nil_iff]
    intro x hx
    obtain ⟨k, hk⟩ := List.getElem?_of_mem hx
    rw [List.getElem?_drop] at hk
    have := hn (i + 1 + k) x (by omega) hk
    simp [this]
  calc l.filter p = (l.take (i + 1) ++ l.drop (i + 1)).filter p := by rw [← e1]
    _ = (l.take i).filter p ++ [b] := by
      rw [List.filter_append, e2, List.append_nil, List.take_add_one, hb, List.filter_append]
      simp [hp]
/-- what encloses the plain instruction ahead of an end: the block that ends there, first -/
theorem tg_head {B : List Int} {s : MS} (h5 : 5 ∉ B) (hs : mrun B B.length = some s) (ho : s.opn = []) (hE : ∀ b ∈ s.all, b.els = -1) (hbl : blN B = s.all) {i : Nat} {b : Bk} (hb : s.all[i]? = some b) {p : Nat} (hp : b.en = (p : Int) + 1) (hat : b.at_ < p) (h1 : B[p]? = some 1) :
    ∃ l, tgN B p = (b.at_ : Int) :: l := by
  have hni : ∀ k, k ∉ s.opn := fun k => by rw [ho]; simp
  have hcl := (mrun_ok3 hs).cl i b hb (hni i)
  have hpl : p + 1 < B.length := by omega
  obtain ⟨sp, hsp⟩ := mrun_some hs (j := p) (by omega)
  have hsp1 : mrun B (p + 1) = some sp := by
    rw [mrun_next hsp h1]
    rfl
  obtain ⟨s2, hs2⟩ := mrun_some hs (j := p + 1 + 1) (by omega)
  have hop : ∃ op, B[p + 1]? = some op := ⟨_, List.getElem?_eq_getElem hpl⟩
  obtain ⟨op, hop⟩ := hop
  have hst := hs2
  rw [mrun_next hsp1 hop] at hst
  obtain ⟨S1, hlast⟩ := stp_one (mrun_ok hsp1) (mrun_ok2 hsp1) (fun e => h5 (e ▸ List.mem_of_getElem? hop)) hst
  have R := stp_run h5 hsp1 (B.length - (p + 1)) s (by rw [Nat.add_sub_cancel' (by omega)]; exact hs)
  have R2 := stp_run h5 hs2 (B.length - (p + 1 + 1)) s (by rw [Nat.add_sub_cancel' (by omega)]; exact hs)
  -- a block that is there at the end and that encloses p is open there
  have key : ∀ k c, s.all[k]? = some c → (c.at_ : Int) < p → (p : Int) < c.en → k ∈ sp.opn := fun k c hc h2 h3 => by
    rcases Nat.lt_or_ge k sp.all.length with hlt | hge
    · refine Classical.byContradiction fun hn => ?_
      have a1 := (R.clo k _ (List.getElem?_eq_getElem hlt) hn).1
      rw [hc] at a1
      cases a1
      have := (mrun_ok3 hsp1).cl k _ (List.getElem?_eq_getElem hlt) hn
      omega
    · have := R.new k c hc hge
      omega
  have hi := key i b hb (by omega) (by omega)
  have hi2 : i ∉ s2.opn := fun e => by
    have := R2.end_ i b e hb (hni i)
    omega
  have hl := hlast i hi hi2
  have hmax : ∀ k ∈ sp.opn, k ≤ i := fun k hk => by
    have hne : sp.opn ≠ [] := fun e => by rw [e] at hk; cases hk
    have hc := List.dropLast_concat_getLast hne
    rw [List.getLast?_eq_some_getLast hne] at hl
    rw [Option.some.inj hl] at hc
    have := (mrun_ok2 hsp1).inc
    rw [← hc] at this hk
    rcases List.mem_append.1 hk with hk | hk
    · have := (List.pairwise_append.1 this).2.2 k hk i (by simp)
      omega
    · rw [List.mem_singleton.1 hk]; exact Nat.le_refl _
  have hin : ∀ c ∈ s.all, inB p c = true ↔ ((c.at_ : Int) < p ∧ (p : Int) < c.en) := fun c hc => by
    unfold inB
    rw [hE c hc]
    simp
  unfold tgN
  rw [if_neg (by omega), hbl, filter_last hb ((hin b (List.mem_of_getElem? hb)).2 ⟨by omega, by omega⟩) fun k c hk hc => ?_]
  · exact ⟨_, by rw [List.map_append, List.reverse_append]; rfl⟩
  · cases hx : inB (p : Int) c with
    | false => rfl
    | true =>
      obtain ⟨a1, a2⟩ := (hin c (List.mem_of_getElem? hc)).1 hx
      have := hmax k (key k c hc a1 a2)
      omega
/-! ### blocks written out from numbers -/
theorem mputK_new {ks : List Int} {q : Int} (h : q ∉ ks) : mputK ks q = ks ++ [q] := by unfold mputK; rw [if_neg h]
theorem mputX_new {ks : List Int} {xs : List AV} {q : Int} {v : AV} (h : q ∉ ks) : mputX ks xs q v = xs ++ [v] := by unfold mputX; rw [if_neg h]
def kvK (kv : List (Int × Int)) : List Int := kv.map Prod.fst
def kvX (kv : List (Int × Int)) : List AV := kv.map fun p => .int .i64 p.2
theorem mget_app {kv : List (Int × Int)} {q : Int} {x : AV} (h : mget (kvK kv) (kvX kv) q = some x) (p : Int × Int) : mget (kvK (kv ++ [p])) (kvX (kv ++ [p])) q = some x := by
  induction kv with
  | nil => simp [kvK, kvX, mget] at h
  | cons y kv ih =>
    simp only [kvK, kvX, List.map_cons, List.cons_append, mget] at h ⊢
    by_cases hy : y.1 = q
    · rw [if_pos hy] at h ⊢; exact h
    · rw [if_neg hy] at h ⊢; exact ih h
theorem mget_last {kv : List (Int × Int)} {q v : Int} (h : q ∉ kvK kv) : mget (kvK (kv ++ [(q, v)])) (kvX (kv ++ [(q, v)])) q = some (.int .i64 v) := by
  induction kv with
  | nil => simp [kvK, kvX, mget]
  | cons y kv ih =>
    have hy : ¬ y.1 = q := fun e => h (by simp [kvK, e])
    simp only [kvK, kvX, List.map_cons, List.cons_append, mget]
    rw [if_neg hy]
    exact ih fun e => h (List.mem_cons_of_mem _ e)
structure ShOk (B : List Int) (s : MS) (kv : List (Int × Int)) : Prop where
  run : mrun B B.length = some s
  no5 : 5 ∉ B
  els : ∀ b ∈ s.all, b.els = -1
  ln : kv.length + s.opn.length = s.all.length
  get : ∀ (k : Nat) (b : Bk), s.all[k]? = some b → k ∉ s.opn → mget (kvK kv) (kvX kv) (b.at_ : Int) = some (.int .i64 b.en)
  own : ∀ p ∈ kv, ∃ (k : Nat) (b : Bk), s.all[k]? = some b ∧ k ∉ s.opn ∧ p.1 = (b.at_ : Int)
def opL (s : MS) : List Int := s.opn.map fun k => ((s.all.getD k ⟨0, 0, 0⟩).at_ : Int)
theorem opL_len (s : MS) : (opL s).length = s.opn.length := by simp [opL]
theorem sh_nil : ShOk [] ⟨[], []⟩ [] := ⟨rfl, by simp, by simp, rfl, fun k b h => by simp at h, fun p hp => by simp at hp⟩
theorem sh_run {B : List Int} {s : MS} {kv : List (Int × Int)} (h : ShOk B s kv) {op : Int} (h5 : op ≠ 5) : mrun (B ++ [op]) (B ++ [op]).length = mstep [] s B.length op := by
  rw [List.length_append]
  show mrun (B ++ [op]) (B.length + 1) = _
  rw [mrun_next (s := s) (op := op) (by rw [mrun_app h.no5 (Nat.le_refl _)]; exact h.run) (by simp)]
  exact mstep_ops h5
theorem no5_app {B : List Int} {op : Int} (h : 5 ∉ B) (h5 : op ≠ 5) : 5 ∉ B ++ [op] := by
  simp only [List.mem_append, List.mem_singleton, not_or]
  exact ⟨h, fun e => h5 e.symm⟩
theorem sh_nop {B : List Int} {s : MS} {kv : List (Int × Int)} (h : ShOk B s kv) : ShOk (B ++ [1]) s kv :=
  ⟨by rw [sh_run h (by decide)]; rfl, no5_app h.no5 (by decide), h.els, h.ln, h.get, h.own⟩
theorem sh_open {B : List Int} {s : MS} {kv : List (Int × Int)} (h : ShOk B s kv) {op : Int} (ho : isO op = true) (hl : s.opn.length < 40) :
    ShOk (B ++ [op]) ⟨s.all ++ [⟨B.length, -1, -1⟩], s.opn ++ [s.all.length]⟩ kv ∧ opL ⟨s.all ++ [⟨B.length, -1, -1⟩], s.opn ++ [s.all.length]⟩ = opL s ++ [(B.length : Int)] := by
  have h5 : op ≠ 5 := fun e => by subst e; cases ho
  have hop := (mrun_ok h.run).opn
  refine ⟨⟨?_, no5_app h.no5 h5, fun b hb => ?_, ?_, fun k b hb hk => ?_, fun p hp => ?_⟩, ?_⟩
  · rw [sh_run h h5]
    unfold mstep
    rw [if_pos ho, if_neg (by omega)]
  · rcases List.mem_append.1 hb with hb | hb
    · exact h.els b hb
    · rw [List.mem_singleton.1 hb]
  · have := h.ln
    simp only [List.length_append, List.length_singleton]
    omega
  · simp only [List.mem_append, List.mem_singleton, not_or] at hk
    rcases Nat.lt_or_ge k s.all.length with hlt | hge
    · rw [List.getElem?_append_left hlt] at hb
      exact h.get k b hb hk.1
    · have := (List.getElem?_eq_some_iff.1 hb).1
      simp at this
      omega
  · obtain ⟨k, b, h1, h2, h3⟩ := h.own p hp
    have hlt := (List.getElem?_eq_some_iff.1 h1).1
    refine ⟨k, b, by rw [List.getElem?_append_left hlt]; exact h1, ?_, h3⟩
    simp only [List.mem_append, List.mem_singleton, not_or]
    exact ⟨h2, by omega⟩
  · unfold opL
    dsimp only
    rw [List.map_append]
    congr 1
    · refine List.map_congr_left fun k hk => ?_
      have := hop k hk
      rw [List.getD_eq_getElem?_getD, List.getD_eq_getElem?_getD, List.getElem?_append_left this]
    · simp
theorem sh_close {B : List Int} {s : MS} {kv : List (Int × Int)} (h : ShOk B s kv) (hne : s.opn ≠ []) :
    ∃ s' a r, opL s = r ++ [a] ∧ opL s' = r ∧ a ∉ kvK kv ∧ s'.opn.length + 1 = s.opn.length ∧ ShOk (B ++ [11]) s' (kv ++ [(a, (B.length : Int))]) := by
  obtain ⟨q, hq⟩ : ∃ q, s.opn = s.opn.dropLast ++ [q] := ⟨_, (List.dropLast_concat_getLast hne).symm⟩
  have hM := mrun_ok h.run
  have hM2 := mrun_ok2 h.run
  have hM3 := mrun_ok3 h.run
  have hqin : q ∈ s.opn := by rw [hq]; simp
  have hql := hM.opn q hqin
  obtain ⟨b, hb⟩ : ∃ b, s.all[q]? = some b := ⟨_, List.getElem?_eq_getElem hql⟩
  have hqn : q ∉ s.opn.dropLast := fun e => by
    have := hM2.inc
    rw [hq] at this
    have := (List.pairwise_append.1 this).2.2 q e q (by simp)
    omega
  have hlast : s.opn.getLast? = some q := by rw [hq]; simp
  have hdl : s.opn.dropLast.length + 1 = s.opn.length := by
    have := congrArg List.length hq
    simpa using this.symm
  have hanew : (b.at_ : Int) ∉ kvK kv := fun e => by
    obtain ⟨p, hp, hpe⟩ := List.mem_map.1 e
    obtain ⟨k, c, h1, h2, h3⟩ := h.own p hp
    have hne : k ≠ q := fun e => h2 (e ▸ hqin)
    have hinc := List.pairwise_iff_getElem.1 hM3.inc
    have hkl := (List.getElem?_eq_some_iff.1 h1).1
    have e1 : s.all[k] = c := (List.getElem?_eq_some_iff.1 h1).2
    have e2 : s.all[q] = b := (List.getElem?_eq_some_iff.1 hb).2
    have hat : c.at_ = b.at_ := by omega
    rcases Nat.lt_or_gt_of_ne hne with hlt | hgt
    · have := hinc k q (by simpa using hkl) (by simpa using hql) hlt
      simp only [List.getElem_map, e1, e2] at this
      omega
    · have := hinc q k (by simpa using hql) (by simpa using hkl) hgt
      simp only [List.getElem_map, e1, e2] at this
      omega
  have hgetD : ∀ k, k ∈ s.opn.dropLast → ((s.all.set q ⟨b.at_, b.els, B.length⟩).getD k ⟨0, 0, 0⟩).at_ = (s.all.getD k ⟨0, 0, 0⟩).at_ := fun k hk => by
    rw [List.getD_eq_getElem?_getD, List.getD_eq_getElem?_getD, List.getElem?_set_ne (show q ≠ k from fun e => hqn (e ▸ hk))]
  refine ⟨⟨s.all.set q ⟨b.at_, b.els, B.length⟩, s.opn.dropLast⟩, b.at_, s.opn.dropLast.map fun k => ((s.all.getD k ⟨0, 0, 0⟩).at_ : Int), ?_, ?_, hanew, hdl, ⟨?_, no5_app h.no5 (by decide), fun c hc => ?_, ?_, fun k c hc hk => ?_, fun p hp => ?_⟩⟩
  · unfold opL
    rw [hq, List.map_append, List.dropLast_concat]
    simp [List.getD_eq_getElem?_getD, hb]
  · unfold opL
    exact List.map_congr_left fun k hk => by rw [hgetD k hk]
  · rw [sh_run h (by decide)]
    unfold mstep
    rw [if_neg (by decide), if_neg (by simp)]
    unfold mtop
    rw [hlast]
    dsimp only
    rw [hb]
    rfl
  · rcases List.mem_or_eq_of_mem_set hc with hc | rfl
    · exact h.els c hc
    · exact h.els b (List.mem_of_getElem? hb)
  · have := h.ln
    simp only [List.length_append, List.length_singleton, List.length_set]
    omega
  · dsimp only at hc hk
    by_cases e : q = k
    · subst e
      rw [List.getElem?_set_self hql] at hc
      cases hc
      exact mget_last hanew
    · rw [List.getElem?_set_ne e] at hc
      refine mget_app (h.get k c hc fun ho => ?_) _
      rw [hq] at ho
      rcases List.mem_append.1 ho with ho | ho
      · exact hk ho
      · exact e (List.mem_singleton.1 ho).symm
  · rcases List.mem_append.1 hp with hp | hp
    · obtain ⟨k, c, h1, h2, h3⟩ := h.own p hp
      refine ⟨k, c, ?_, fun e => h2 (by rw [hq]; exact List.mem_append_left _ e), h3⟩
      show (s.all.set q _)[k]? = some c
      rw [List.getElem?_set_ne (show q ≠ k from fun e => h2 (e ▸ hqin))]
      exact h1
    · rw [List.mem_singleton.1 hp]
      exact ⟨q, _, List.getElem?_set_self hql, hqn, rfl⟩
/-- all are closed: what Match tells -/
theorem sh_end {B : List Int} {s : MS} {kv : List (Int × Int)} (h : ShOk B s kv) (ho : s.opn = []) (hl : B.length ≤ 300) : okN B = true ∧ blN B = s.all ∧ kv.length = s.all.length := by
  obtain ⟨all, opn⟩ := s
  dsimp only at ho ⊢
  subst ho
  have hm : matchN B = some all := by
    unfold matchN
    rw [if_neg (by omega), h.run]
  have := h.ln
  exact ⟨by unfold okN; rw [hm]; rfl, by unfold blN; rw [hm]; rfl, by simpa using this⟩
end Go.Proofs.Ytjpdadobblffmaa
/-
  The program's Put and Get of bodies, the document's PutBody, EqBody.
-/
namespace Go.Proofs.Ytjpdadobblffmaa
open Go.RowKit Go.ChangeShapes Go.WideShapes Go.ChangeAt Go.Deep
attribute [local irreducible] SW RS RD AThen ABlock
theorem take_sub {b : List Nat} {k : Nat} : List.take ((b.map encU).length - k) (List.drop k (b.map encU)) = (b.drop k).map encU := by
  rw [List.map_drop]; exact List.take_of_length_le (by simp)
def pJ (l : List Ins) (j : Nat) : List Nat := (l.take j).flatMap putN
theorem pJ_next {l : List Ins} {j : Nat} {x : Ins} (h : l[j]? = some x) : pJ l (j + 1) = pJ l j ++ putN x := by
  unfold pJ; rw [List.take_add_one, h, List.flatMap_append]; simp
theorem pJ_len {l : List Ins} (hm : ∀ x ∈ l, x.Ok ∧ mayN x = true) (j : Nat) : (pJ l j).length ≤ 200 * l.length := by
  have h1 : (pJ l j).length ≤ 200 * (l.take j).length := flat_put_len fun x hx => hm x (List.mem_of_mem_take hx)
  have : (l.take j).length ≤ l.length := by simp; omega
  omega
theorem pJ_all {l : List Ins} : pJ l l.length ++ [11] = putL l := by unfold pJ putL; rw [List.take_length]
theorem putL_len {l : List Ins} (hm : ∀ x ∈ l, x.Ok ∧ mayN x = true) : (putL l).length ≤ 200 * l.length + 1 := by
  rw [← pJ_all]; have := pJ_len hm l.length; simp; omega
theorem putL_lt {l : List Ins} (hm : ∀ x ∈ l, x.Ok ∧ mayN x = true) : ∀ b ∈ putL l, b < 256 := by
  intro b hb
  rcases List.mem_append.1 hb with hb | hb
  · exact flat_put_lt hm b hb
  · rw [List.mem_singleton.1 hb]; decide
set_option maxRecDepth 100000 in
theorem code_put (q : Nat) (vs : List Nat) (hvs : vs.length ≤ 20000000) (l : List Ins) (hl : l.length ≤ 310) (hm : ∀ x ∈ l, x.Ok ∧ mayN x = true) : SCall Try.prog 7 [.own q 0 vs.length, .ro 4 (l.map (iv .any)) .any] [(q, .arr 5 1 (vs.map encU))]
    (fun y σ => ∃ r, y = .own r 0 (vs ++ putL l).length ∧ σ = [(r, .arr 5 1 ((vs ++ putL l).map encU))]) := by
  refine scall_of (n := 20) (ks := [0, 1, 4, 6, 7, 8, 9, 10]) Try.func7 rfl rfl (Nat.le_of_ble_eq_true rfl) ?_
  (refine ctlT ?_)
  refine rgT ?_
  refine lo (lop_assign (E rfl)) rfl ?_
  refine leT ?_
  (refine ctlT ?_)
  refine rgT ?_
  refine lo (lop_move (E rfl)) rfl ?_
  refine z14 ?_
  refine lo (lop_move (E rfl)) rfl ?_
  refine leT ?_
  (refine ctlT ?_)
  refine lp (β := Nat × Nat) (fun b => ⟨[(0, .own b.1 0 (vs ++ pJ l b.2).length), (7, .ro 4 (l.map (iv .any)) .any), (8, .int .i64 l.length), (9, .int .i64 b.2)], [(b.1, .arr 5 1 ((vs ++ pJ l b.2).map encU))]⟩) (fun b => b.2 ≤ l.length) (fun b => l.length - b.2) (q, 0) (by dsimp only; rw [show vs ++ pJ l 0 = vs by simp [pJ]]; (exact sgoT)) (Nat.zero_le _) ?_
  rintro ⟨q1, j⟩ hj
  have hpl := pJ_len hm j
  dsimp only at hj ⊢
  (refine ctlT ?_)
  refine rgT ?_
  refine lo (lop_lss (E rfl) (E rfl)) rfl ?_
  refine leT ?_
  (refine ctlT ?_)
  refine sw_cond rfl (fun g2 => ?_) (fun g2 => ?_)
  · have hlt : j < l.length := by simp at g2; omega
    obtain ⟨x, hx⟩ : ∃ x, l[j]? = some x := ⟨_, List.getElem?_eq_getElem hlt⟩
    obtain ⟨hxo, hxm⟩ := hm x (List.mem_of_getElem? hx)
    have hnx := pJ_next hx
    (refine ctlT ?_)
    refine rgT ?_
    refine z15 ?_
    refine z111 ?_
    apply al; rfl; (exact zcT); refine freshT fun r6 h6 => ?_; (repeat (rcases h6 with ⟨_, h6⟩))
    apply stp; rfl; rfl; rfl; rfl; (exact sputT)
    refine leT ?_
    (refine ctlT ?_)
    refine rgT ?_
    refine lo (lop_move (E rfl)) rfl ?_
    refine z99 ?_
    refine cw [(q1, .arr 5 1 ((vs ++ pJ l j).map encU))] Try.call11 (instr_put q1 (vs ++ pJ l j) (by simp; omega) .any x hxo hxm) rfl argsleT stleT ?_
    rintro _ σ' ⟨r15, rfl, rfl⟩ h15
    have k15 := rest1T h15; (repeat (rcases k15 with ⟨_, k15⟩))
    (apply rs_sto; (exact nflT))
    refine lo (lop_assign (E rfl)) rfl ?_
    refine leT ?_
    (refine ctlT ?_)
    refine rgT ?_
    refine z17 ?_
    refine lo (lop_move (E rfl)) rfl ?_
    refine leT ?_
    (refine ctlT ?_)
    refine ⟨(r15, j + 1), hlt, by show l.length - (j + 1) < l.length - j; omega, ?_⟩
    dsimp only
    rw [hnx, ← List.append_assoc]
    (exact sgoT)
  obtain rfl : j = l.length := by simp at g2; omega
  (refine ctlT ?_)
  refine rgT ?_
  refine lo (lop_move (E rfl)) rfl ?_
  refine z1 ?_; refine freshT fun r18 h18 => ?_; (repeat (rcases h18 with ⟨_, h18⟩))
  refine apA (((vs ++ pJ l l.length) ++ [11]).map encU) ((vs ++ pJ l l.length) ++ [11]).length ?_
  refine apnT fun r19 h19 => ?_; (repeat (rcases h19 with ⟨_, h19⟩))
  refine lo (lop_assign (E rfl)) rfl ?_
  refine leT ?_
  (refine ctlT ?_)
  rw [List.append_assoc, pJ_all]
  (apply aend; (exact resT))
  · exact ⟨r19, rfl, rfl⟩
  · (exact stleT)
instance : DecidableEq Ins := fun x y => if h : eqN x y = true then .isTrue (eqN_iff.1 h) else .isFalse fun e => h (eqN_iff.2 e)
set_option maxRecDepth 100000 in
theorem code_get (b : List Nat) (hb : b.length ≤ 1000000) (hlt : ∀ x ∈ b, x < 256) : SCall Try.prog 8 [.ro 1 (b.map encU) .any] []
    (fun y σ => ∃ q, y = .tup [.own q 0 (getC b).1.length, .int .i64 ((getC b).2.1 : Nat), .int .i64 (getC b).2.2] ∧ σ = [(q, .arr 27 4 ((getC b).1.map (iv .any)))]) := by
  refine scall_of (n := 55) (ks := [0, 2, 3, 4, 5, 6, 7, 8, 9, 10, 12, 22, 29, 34, 38, 45, 54]) Try.func8 rfl rfl (Nat.le_of_ble_eq_true rfl) ?_
  (refine ctlT ?_)
  refine rgT ?_
  refine lo (lop_assign (E rfl)) rfl ?_
  refine lo (lop_assign (E rfl)) rfl ?_
  refine lo (lop_assign (E rfl)) rfl ?_
  refine leT ?_
  (refine ctlT ?_)
  refine rgT ?_
  refine lo (lop_assign (E rfl)) rfl ?_
  refine leT ?_
  (refine ctlT ?_)
  refine rgT ?_
  refine lo (lop_assign (E rfl)) rfl ?_
  refine leT ?_
  (refine ctlT ?_)
  refine rgT ?_
  refine lo (lop_assign (E rfl)) rfl ?_
  refine leT ?_
  (refine ctlT ?_)
  refine sw_virt 5 27 4 (by decide) rfl (by decide) (freshT fun q0 hq0 => ?_); (repeat (rcases hq0 with ⟨_, hq0⟩))
  refine lp (β := Nat × Nat × Int × Nat × List Ins) (fun b' => ⟨[(0, .ro 1 (b.map encU) .any), (5, .own b'.1 0 b'.2.2.2.2.length), (6, .int .i64 b'.2.2.1), (7, .int .i64 b'.2.1)], [(b'.1, .arr 27 4 (b'.2.2.2.2.map (iv .any)))]⟩) (fun b' => b'.2.1 ≤ b.length ∧ 0 ≤ b'.2.2.1 ∧ b'.2.2.1 ≤ b'.2.2.2.2.length ∧ b'.2.2.2.1 + b'.2.2.2.2.length = 301 ∧ 1 ≤ b'.2.2.2.1 ∧ getC b = gcN b b'.2.2.2.1 b'.2.1 b'.2.2.1 b'.2.2.2.2) (fun b' => b'.2.2.2.1) (q0, 0, 0, 301, []) sgoT ⟨Nat.zero_le _, Int.le_refl 0, Int.le_refl 0, rfl, by show 1 ≤ 301; decide, rfl⟩ ?_
  rintro ⟨q, k, d, f, l⟩ ⟨hk, hd0, hdl, hfl, hf1, hG⟩
  dsimp only at hk hd0 hdl hfl hf1 hG ⊢
  obtain ⟨f, rfl⟩ : ∃ g, f = g + 1 := ⟨f - 1, by omega⟩
  have hlt2 : ∀ x ∈ b.drop k, x < 256 := fun x hx => hlt x (List.mem_of_mem_drop hx)
  have hsnd := getP_sound hlt2
  rw [gcN] at hG
  (refine ctlT ?_)
  refine rgT ?_
  refine lo (lop_move (E rfl)) rfl ?_
  refine lo (lop_move (E rfl)) rfl ?_
  refine z127 ?_
  rw [take_sub]
  refine cw [] Try.call12 (instr_get (b.drop k) (by simp; omega) hlt2) rfl argsleT stleT ?_
  rintro _ σ' ⟨q3, rfl, rfl⟩ h17
  replace h17 := cnewT h17; (repeat (rcases h17 with ⟨_, h17⟩))
  (apply rs_sto; (exact nflT))
  generalize getP (b.drop k) = gp at hG hsnd ⊢
  obtain ⟨x, n, e⟩ := gp
  dsimp only at hG hsnd ⊢
  refine lo (lop_move (E rfl)) rfl ?_
  refine lo (lop_extract (E rfl) rfl) rfl ?_
  refine lo (lop_extract (E rfl) rfl) rfl ?_
  refine lo (lop_extract (E rfl) rfl) rfl ?_
  apply al; rfl; (exact zcT); refine freshT fun r8 h8 => ?_; (repeat (rcases h8 with ⟨_, h8⟩))
  apply stp; rfl; rfl; rfl; rfl; (exact sputT)
  refine lo (lop_assign (E rfl)) rfl ?_
  refine lo (lop_assign (E rfl)) rfl ?_
  refine leT ?_
  (refine ctlT ?_)
  refine rgT ?_
  refine lo (lop_move (E rfl)) rfl ?_
  refine lo (lop_neq (E rfl) (E rfl)) rfl ?_
  refine leT ?_
  (refine ctlT ?_)
  refine sw_cond rfl (fun g5 => ?_) (fun g5 => ?_)
  · (refine ctlT ?_)
    refine rgT ?_
    refine lo (lop_move (E rfl)) rfl ?_
    refine lo (lop_assign (E rfl)) rfl ?_
    refine lo (lop_assign (E rfl)) rfl ?_
    refine lo (lop_assign (E rfl)) rfl ?_
    refine leT ?_
    refine an ?_
    refine sw_virt 2 27 4 (by decide) rfl (by decide) (freshT fun q2 hq2 => ?_); (repeat (rcases hq2 with ⟨_, hq2⟩))
    have hE : getC b = ([], 0, e) := by rw [hG, if_pos g5]
    (refine ctlT ?_)
    (apply aend; (exact resT))
    · exact ⟨q2, by rw [hE]; rfl, by rw [hE]⟩
    · (exact stleT)
  rw [if_neg (by simp [g5])] at hG
  obtain ⟨hxo, hxm, hsp⟩ := hsnd (by simpa using g5)
  have hkn : k + n ≤ b.length := by have := hsp.2.2; simp at this; omega
  (refine ctlT ?_)
  refine rgT ?_
  refine lo (lop_move (E rfl)) rfl ?_
  refine lo (lop_move (E rfl)) rfl ?_
  refine z17 ?_
  refine lo (lop_assign (E rfl)) rfl ?_
  refine leT ?_
  (refine ctlT ?_)
  refine rgT ?_
  refine z59 ?_
  refine z60 ?_
  refine lo (lop_eql (E rfl) (E rfl)) rfl ?_
  refine leT ?_
  (refine ctlT ?_)
  refine sw_cond rfl (fun g8 => ?_) (fun g8 => ?_)
  · have hD : dN d x.op = d - 1 := by unfold dN; rw [if_pos g8]
    (refine ctlT ?_)
    refine rgT ?_
    refine lo (lop_move (E rfl)) rfl ?_
    refine z19 ?_
    refine lo (lop_assign (E rfl)) rfl ?_
    refine leT ?_
    (refine ctlT ?_)
    refine rgT ?_
    refine lo (lop_move (E rfl)) rfl ?_
    refine lo (lop_lss (E rfl) (E rfl)) rfl ?_
    refine leT ?_
    (refine ctlT ?_)
    refine sw_cond rfl (fun g12 => ?_) (fun g12 => ?_)
    · rw [if_pos (by rw [hD]; simpa using g12)] at hG
      (refine ctlT ?_)
      refine rgT ?_
      refine lo (lop_move (E rfl)) rfl ?_
      refine clA Try.call5 (code_match l (by omega)) rfl bargsT noT ?_
      rintro _ σ' ⟨q4, rfl, rfl⟩ h41
      replace h41 := lnewT h41; (repeat (rcases h41 with ⟨_, h41⟩))
      (apply rs_sto; (exact nflT))
      refine lo (lop_move (E rfl)) rfl ?_
      refine lo (lop_extract (E rfl) rfl) rfl ?_
      refine lo (lop_extract (E rfl) rfl) rfl ?_
      refine lo (lop_assign (E rfl)) rfl ?_
      refine lo (lop_assign (E rfl)) rfl ?_
      refine leT ?_
      (refine ctlT ?_)
      refine rgT ?_
      refine lo (lop_move (E rfl)) rfl ?_
      refine lo (lop_not (E rfl)) rfl ?_
      refine leT ?_
      (refine ctlT ?_)
      refine sw_cond rfl (fun g14 => ?_) (fun g14 => ?_)
      · (refine ctlT ?_)
        refine rgT ?_
        refine lo (lop_assign (E rfl)) rfl ?_
        refine lo (lop_assign (E rfl)) rfl ?_
        refine lo (lop_assign (E rfl)) rfl ?_
        refine leT ?_
        refine an ?_
        refine sw_virt 2 27 4 (by decide) rfl (by decide) (freshT fun q2 hq2 => ?_); (repeat (rcases hq2 with ⟨_, hq2⟩))
        have hE : getC b = ([], 0, 1) := by rw [hG, if_neg]; intro h; rw [h] at g14; cases g14
        (refine ctlT ?_)
        (apply aend; (exact resT))
        · exact ⟨q2, by rw [hE]; rfl, by rw [hE]⟩
        · (exact stleT)
      (refine ctlT ?_)
      refine rgT ?_
      refine lo (lop_move (E rfl)) rfl ?_
      refine lo (lop_move (E rfl)) rfl ?_
      refine lo (lop_assign (E rfl)) rfl ?_
      refine lo (lop_assign (E rfl)) rfl ?_
      refine lo (lop_assign (E rfl)) rfl ?_
      refine leT ?_
      (refine ctlT ?_)
      have hE : getC b = (l, k + n, 0) := by rw [hG, if_pos]; cases h : okN (opsOf l); rw [h] at g14; cases g14; rfl
      (apply aend; (exact resT))
      · exact ⟨q, by rw [hE]; rfl, by rw [hE]⟩
      · (exact stleT)
    rw [if_neg (by rw [hD]; simpa using g12)] at hG
    (refine ctlT ?_)
    refine sw_go (sgo_fzb (r := r8) (q := q3) ssetT sdelT (.cons (.refl _) (.cons (.refl _) (.cons (.refl _) (.cons (bor_own sgT (by simp)) .nil))))) ?_
    refine rgT ?_
    refine lo (lop_move (E rfl)) rfl ?_
    refine z99 ?_
    refine z1 ?_; refine freshT fun r50 h50 => ?_; (repeat (rcases h50 with ⟨_, h50⟩))
    refine apA ((l ++ [x]).map (iv .any)) (l ++ [x]).length ?_
    refine apnT fun r51 h51 => ?_; (repeat (rcases h51 with ⟨_, h51⟩))
    refine lo (lop_assign (E rfl)) rfl ?_
    refine leT ?_
    (refine ctlT ?_)
    refine rgT ?_
    refine lo (lop_move (E rfl)) rfl ?_
    refine z14 ?_
    refine lo (lop_gtr (E rfl) (E rfl)) rfl ?_
    refine leT ?_
    (refine ctlT ?_)
    refine sw_cond rfl (fun g18 => ?_) (fun g18 => ?_)
    · (refine ctlT ?_)
      refine rgT ?_
      refine lo (lop_assign (E rfl)) rfl ?_
      refine lo (lop_assign (E rfl)) rfl ?_
      refine lo (lop_assign (E rfl)) rfl ?_
      refine leT ?_
      refine an ?_
      refine sw_virt 2 27 4 (by decide) rfl (by decide) (freshT fun q2 hq2 => ?_); (repeat (rcases hq2 with ⟨_, hq2⟩))
      have hE : getC b = ([], 0, 4) := by obtain rfl : f = 0 := (by simp at g18; omega); rw [hG]; rfl
      (refine ctlT ?_)
      (apply aend; (exact resT))
      · exact ⟨q2, by rw [hE]; rfl, by rw [hE]⟩
      · (exact stleT)
    (refine ctlT ?_)
    have hf0 : l.length + 1 ≤ 300 := by simp at g18; omega
    refine ⟨(r51, k + n, dN d x.op, f, l ++ [x]), ⟨hkn, by show 0 ≤ dN d x.op; rw [hD]; simp at g12; omega, by show dN d x.op ≤ ((l ++ [x]).length : Nat); rw [hD]; simp; omega, by show f + (l ++ [x]).length = 301; simp; omega, by show 1 ≤ f; omega, hG⟩, Nat.lt_succ_self _, ?_⟩
    dsimp only
    rw [hD]
    (exact sgoT)
  (refine ctlT ?_)
  refine rgT ?_
  refine z59 ?_
  refine z60 ?_
  refine puA Try.call9 (code_opens _) rfl pargsT nofT ?_
  refine leT ?_
  (refine ctlT ?_)
  refine sw_cond rfl (fun g10 => ?_) (fun g10 => ?_)
  · have hD : dN d x.op = d + 1 := by unfold dN; rw [if_neg (by simp [g8]), if_pos g10]
    (refine ctlT ?_)
    refine rgT ?_
    refine lo (lop_move (E rfl)) rfl ?_
    refine z17 ?_
    refine lo (lop_assign (E rfl)) rfl ?_
    refine leT ?_
    (refine ctlT ?_)
    refine rgT ?_
    refine lo (lop_move (E rfl)) rfl ?_
    refine lo (lop_lss (E rfl) (E rfl)) rfl ?_
    refine leT ?_
    (refine ctlT ?_)
    refine sw_cond rfl (fun g12 => ?_) (fun g12 => ?_)
    · rw [if_pos (by rw [hD]; simpa using g12)] at hG
      (refine ctlT ?_)
      refine rgT ?_
      refine lo (lop_move (E rfl)) rfl ?_
      refine clA Try.call5 (code_match l (by omega)) rfl bargsT noT ?_
      rintro _ σ' ⟨q4, rfl, rfl⟩ h41
      replace h41 := lnewT h41; (repeat (rcases h41 with ⟨_, h41⟩))
      (apply rs_sto; (exact nflT))
      refine lo (lop_move (E rfl)) rfl ?_
      refine lo (lop_extract (E rfl) rfl) rfl ?_
      refine lo (lop_extract (E rfl) rfl) rfl ?_
      refine lo (lop_assign (E rfl)) rfl ?_
      refine lo (lop_assign (E rfl)) rfl ?_
      refine leT ?_
      (refine ctlT ?_)
      refine rgT ?_
      refine lo (lop_move (E rfl)) rfl ?_
      refine lo (lop_not (E rfl)) rfl ?_
      refine leT ?_
      (refine ctlT ?_)
      refine sw_cond rfl (fun g14 => ?_) (fun g14 => ?_)
      · (refine ctlT ?_)
        refine rgT ?_
        refine lo (lop_assign (E rfl)) rfl ?_
        refine lo (lop_assign (E rfl)) rfl ?_
        refine lo (lop_assign (E rfl)) rfl ?_
        refine leT ?_
        refine an ?_
        refine sw_virt 2 27 4 (by decide) rfl (by decide) (freshT fun q2 hq2 => ?_); (repeat (rcases hq2 with ⟨_, hq2⟩))
        have hE : getC b = ([], 0, 1) := by rw [hG, if_neg]; intro h; rw [h] at g14; cases g14
        (refine ctlT ?_)
        (apply aend; (exact resT))
        · exact ⟨q2, by rw [hE]; rfl, by rw [hE]⟩
        · (exact stleT)
      (refine ctlT ?_)
      refine rgT ?_
      refine lo (lop_move (E rfl)) rfl ?_
      refine lo (lop_move (E rfl)) rfl ?_
      refine lo (lop_assign (E rfl)) rfl ?_
      refine lo (lop_assign (E rfl)) rfl ?_
      refine lo (lop_assign (E rfl)) rfl ?_
      refine leT ?_
      (refine ctlT ?_)
      have hE : getC b = (l, k + n, 0) := by rw [hG, if_pos]; cases h : okN (opsOf l); rw [h] at g14; cases g14; rfl
      (apply aend; (exact resT))
      · exact ⟨q, by rw [hE]; rfl, by rw [hE]⟩
      · (exact stleT)
    rw [if_neg (by rw [hD]; simpa using g12)] at hG
    (refine ctlT ?_)
    refine sw_go (sgo_fzb (r := r8) (q := q3) ssetT sdelT (.cons (.refl _) (.cons (.refl _) (.cons (.refl _) (.cons (bor_own sgT (by simp)) .nil))))) ?_
    refine rgT ?_
    refine lo (lop_move (E rfl)) rfl ?_
    refine z99 ?_
    refine z1 ?_; refine freshT fun r50 h50 => ?_; (repeat (rcases h50 with ⟨_, h50⟩))
    refine apA ((l ++ [x]).map (iv .any)) (l ++ [x]).length ?_
    refine apnT fun r51 h51 => ?_; (repeat (rcases h51 with ⟨_, h51⟩))
    refine lo (lop_assign (E rfl)) rfl ?_
    refine leT ?_
    (refine ctlT ?_)
    refine rgT ?_
    refine lo (lop_move (E rfl)) rfl ?_
    refine z14 ?_
    refine lo (lop_gtr (E rfl) (E rfl)) rfl ?_
    refine leT ?_
    (refine ctlT ?_)
    refine sw_cond rfl (fun g18 => ?_) (fun g18 => ?_)
    · (refine ctlT ?_)
      refine rgT ?_
      refine lo (lop_assign (E rfl)) rfl ?_
      refine lo (lop_assign (E rfl)) rfl ?_
      refine lo (lop_assign (E rfl)) rfl ?_
      refine leT ?_
      refine an ?_
      refine sw_virt 2 27 4 (by decide) rfl (by decide) (freshT fun q2 hq2 => ?_); (repeat (rcases hq2 with ⟨_, hq2⟩))
      have hE : getC b = ([], 0, 4) := by obtain rfl : f = 0 := (by simp at g18; omega); rw [hG]; rfl
      (refine ctlT ?_)
      (apply aend; (exact resT))
      · exact ⟨q2, by rw [hE]; rfl, by rw [hE]⟩
      · (exact stleT)
    (refine ctlT ?_)
    have hf0 : l.length + 1 ≤ 300 := by simp at g18; omega
    refine ⟨(r51, k + n, dN d x.op, f, l ++ [x]), ⟨hkn, by show 0 ≤ dN d x.op; rw [hD]; simp at g12; omega, by show dN d x.op ≤ ((l ++ [x]).length : Nat); rw [hD]; simp; omega, by show f + (l ++ [x]).length = 301; simp; omega, by show 1 ≤ f; omega, hG⟩, Nat.lt_succ_self _, ?_⟩
    dsimp only
    rw [hD]
    (exact sgoT)
  have hD : dN d x.op = d := by unfold dN; rw [if_neg (by simp [g8]), if_neg (by simp [g10])]
  (refine ctlT ?_)
  refine rgT ?_
  refine lo (lop_move (E rfl)) rfl ?_
  refine lo (lop_lss (E rfl) (E rfl)) rfl ?_
  refine leT ?_
  (refine ctlT ?_)
  refine sw_cond rfl (fun g12 => ?_) (fun g12 => ?_)
  · rw [if_pos (by rw [hD]; simpa using g12)] at hG
    (refine ctlT ?_)
    refine rgT ?_
    refine lo (lop_move (E rfl)) rfl ?_
    refine clA Try.call5 (code_match l (by omega)) rfl bargsT noT ?_
    rintro _ σ' ⟨q4, rfl, rfl⟩ h41
    replace h41 := lnewT h41; (repeat (rcases h41 with ⟨_, h41⟩))
    (apply rs_sto; (exact nflT))
    refine lo (lop_move (E rfl)) rfl ?_
    refine lo (lop_extract (E rfl) rfl) rfl ?_
    refine lo (lop_extract (E rfl) rfl) rfl ?_
    refine lo (lop_assign (E rfl)) rfl ?_
    refine lo (lop_assign (E rfl)) rfl ?_
    refine leT ?_
    (refine ctlT ?_)
    refine rgT ?_
    refine lo (lop_move (E rfl)) rfl ?_
    refine lo (lop_not (E rfl)) rfl ?_
    refine leT ?_
    (refine ctlT ?_)
    refine sw_cond rfl (fun g14 => ?_) (fun g14 => ?_)
    · (refine ctlT ?_)
      refine rgT ?_
      refine lo (lop_assign (E rfl)) rfl ?_
      refine lo (lop_assign (E rfl)) rfl ?_
      refine lo (lop_assign (E rfl)) rfl ?_
      refine leT ?_
      refine an ?_
      refine sw_virt 2 27 4 (by decide) rfl (by decide) (freshT fun q2 hq2 => ?_); (repeat (rcases hq2 with ⟨_, hq2⟩))
      have hE : getC b = ([], 0, 1) := by rw [hG, if_neg]; intro h; rw [h] at g14; cases g14
      (refine ctlT ?_)
      (apply aend; (exact resT))
      · exact ⟨q2, by rw [hE]; rfl, by rw [hE]⟩
      · (exact stleT)
    (refine ctlT ?_)
    refine rgT ?_
    refine lo (lop_move (E rfl)) rfl ?_
    refine lo (lop_move (E rfl)) rfl ?_
    refine lo (lop_assign (E rfl)) rfl ?_
    refine lo (lop_assign (E rfl)) rfl ?_
    refine lo (lop_assign (E rfl)) rfl ?_
    refine leT ?_
    (refine ctlT ?_)
    have hE : getC b = (l, k + n, 0) := by rw [hG, if_pos]; cases h : okN (opsOf l); rw [h] at g14; cases g14; rfl
    (apply aend; (exact resT))
    · exact ⟨q, by rw [hE]; rfl, by rw [hE]⟩
    · (exact stleT)
  rw [if_neg (by rw [hD]; simpa using g12)] at hG
  (refine ctlT ?_)
  refine sw_go (sgo_fzb (r := r8) (q := q3) ssetT sdelT (.cons (.refl _) (.cons (.refl _) (.cons (.refl _) (.cons (bor_own sgT (by simp)) .nil))))) ?_
  refine rgT ?_
  refine lo (lop_move (E rfl)) rfl ?_
  refine z99 ?_
  refine z1 ?_; refine freshT fun r50 h50 => ?_; (repeat (rcases h50 with ⟨_, h50⟩))
  refine apA ((l ++ [x]).map (iv .any)) (l ++ [x]).length ?_
  refine apnT fun r51 h51 => ?_; (repeat (rcases h51 with ⟨_, h51⟩))
  refine lo (lop_assign (E rfl)) rfl ?_
  refine leT ?_
  (refine ctlT ?_)
  refine rgT ?_
  refine lo (lop_move (E rfl)) rfl ?_
  refine z14 ?_
  refine lo (lop_gtr (E rfl) (E rfl)) rfl ?_
  refine leT ?_
  (refine ctlT ?_)
  refine sw_cond rfl (fun g18 => ?_) (fun g18 => ?_)
  · (refine ctlT ?_)
    refine rgT ?_
    refine lo (lop_assign (E rfl)) rfl ?_
    refine lo (lop_assign (E rfl)) rfl ?_
    refine lo (lop_assign (E rfl)) rfl ?_
    refine leT ?_
    refine an ?_
    refine sw_virt 2 27 4 (by decide) rfl (by decide) (freshT fun q2 hq2 => ?_); (repeat (rcases hq2 with ⟨_, hq2⟩))
    have hE : getC b = ([], 0, 4) := by obtain rfl : f = 0 := (by simp at g18; omega); rw [hG]; rfl
    (refine ctlT ?_)
    (apply aend; (exact resT))
    · exact ⟨q2, by rw [hE]; rfl, by rw [hE]⟩
    · (exact stleT)
  (refine ctlT ?_)
  have hf0 : l.length + 1 ≤ 300 := by simp at g18; omega
  refine ⟨(r51, k + n, dN d x.op, f, l ++ [x]), ⟨hkn, by show 0 ≤ dN d x.op; rw [hD]; simp at g12; omega, by show dN d x.op ≤ ((l ++ [x]).length : Nat); rw [hD]; simp; omega, by show f + (l ++ [x]).length = 301; simp; omega, by show 1 ≤ f; omega, hG⟩, Nat.lt_succ_self _, ?_⟩
  dsimp only
  rw [hD]
  (exact sgoT)
end Go.Proofs.Ytjpdadobblffmaa
/-
  A read-only slice's elements may be told weaker; instructions of which nothing was said but the byte; Put onto nothing.
-/
namespace Go.Proofs.Ytjpdadobblffmaa
open Go.RowKit Go.ChangeShapes Go.WideShapes Go.ChangeAt Go.Deep
theorem VLe.ro {sz : Nat} {es es' : List (List AV)} {k : Rk} (hl : es.length = es'.length) (hs : RowsOk sz es')
    (h : ∀ (i : Nat) (e e' : List AV), es[i]? = some e → es'[i]? = some e' → e.length = e'.length ∧ ∀ (j : Nat) (a a' : AV), e[j]? = some a → e'[j]? = some a' → VLe a a') : VLe (.ro sz es k) (.ro sz es' k) := fun M F w v hv => by
  have hx : ∀ (i : Nat) (e' : List AV), es'[i]? = some e' → ∃ e, es[i]? = some e := fun i e' h => ⟨_, List.getElem?_eq_getElem (by have := (List.getElem?_eq_some_iff.1 h).1; omega)⟩
  have hy : ∀ (i : Nat) (e' : List AV) (j : Nat) (a' : AV), es'[i]? = some e' → e'[j]? = some a' → ∃ e a, es[i]? = some e ∧ e[j]? = some a ∧ VLe a a' := fun i e' j a' h1 h2 => by
    obtain ⟨e, he⟩ := hx i e' h1
    obtain ⟨g1, g2⟩ := h i e e' he h1
    have hj := (List.getElem?_eq_some_iff.1 h2).1
    have ha : e[j]? = some (e[j]'(by omega)) := List.getElem?_eq_getElem (by omega)
    exact ⟨e, _, he, ha, g2 j _ a' ha h2⟩
  cases hv with
  | ro hb hs' hc hr hle hm hf hn =>
    rw [hl]
    rw [hl] at hle hf
    rename_i b o cap us
    refine .ro (us := us) hb hs (fun i e' j a' h1 h2 => ?_) (fun i e' j a' h1 h2 => ?_) hle hm hf hn
    · obtain ⟨e, a, he, ha, -⟩ := hy i e' j a' h1 h2; exact hc i e j a he ha
    · obtain ⟨e, a, he, ha, hv⟩ := hy i e' j a' h1 h2; exact hv _ _ _ _ (hr i e j a he ha)
  | ro0 hm hA hf hn =>
    obtain rfl : es' = [] := List.length_eq_zero_iff.1 hl.symm
    exact .ro0 hm hA hf hn
/-- an instruction of which nothing was said but its byte -/
def encO (op : Int) : List AV := [.int .i64 op, .int .i64 0, .int .i64 0, .ro 0 [] .nil]
instance : NoE encO := ⟨fun a x hx => by simp [encO] at hx; rcases hx with rfl | rfl | rfl <;> first | exact NoF.int | exact NoF.nil⟩
def insO (op : Int) : Ins := ⟨op, 0, 0, []⟩
theorem vle_ops {ops : List Int} {k : Rk} : VLe (.ro 4 (ops.map encO) k) (.ro 4 ((ops.map insO).map (iv .any)) k) := by
  refine VLe.ro (by simp) ?_ ?_
  · intro x hx
    simp only [List.map_map, List.mem_map, Function.comp] at hx
    obtain ⟨o, -, rfl⟩ := hx
    exact ⟨rfl, by simp [iv, AV.cell]⟩
  · intro i e e' h1 h2
    simp only [List.map_map, List.getElem?_map, Option.map_eq_some_iff] at h1 h2
    obtain ⟨o, ho, rfl⟩ := h1
    obtain ⟨o', ho', rfl⟩ := h2
    obtain rfl := Option.some.inj (ho.symm.trans ho')
    refine ⟨rfl, fun j a a' ha ha' => ?_⟩
    match j with
    | 0 => cases ha; cases ha'; exact VLe.refl _
    | 1 => cases ha; cases ha'; exact VLe.refl _
    | 2 => cases ha; cases ha'; exact VLe.refl _
    | 3 => cases ha; cases ha'; exact VLe.empty
    | _ + 4 => cases ha
theorem sgo_ops {fr : Fr} {σ : Sto} {j : Nat} {ops : List Int} (h : fget fr j = some (.ro 4 (ops.map encO) .any)) : SGo ⟨fr, σ⟩ ⟨(j, .ro 4 ((ops.map insO).map (iv .any)) .any) :: fr, σ⟩ := by
  refine SGo.of_le (fun i x hi => ?_) (fun p hp => hp)
  by_cases hij : i = j
  · subst hij
    rw [show fget ((i, AV.ro 4 ((ops.map insO).map (iv .any)) .any) :: fr) i = some (.ro 4 ((ops.map insO).map (iv .any)) .any) by simp [fget]] at hi
    obtain rfl := Option.some.inj hi
    exact ⟨_, h, vle_ops⟩
  · rw [show fget ((j, AV.ro 4 ((ops.map insO).map (iv .any)) .any) :: fr) i = fget fr i by simp [fget]; intro e; exact absurd e hij] at hi
    exact ⟨x, hi, VLe.refl x⟩
theorem nil_putC (l : List Ins) (hl : l.length ≤ 310) (hm : ∀ x ∈ l, x.Ok ∧ mayN x = true) : SCall Try.prog 7 [.ro 0 [] .nil, .ro 4 (l.map (iv .any)) .any] []
    (fun y σ => ∃ r, y = .own r 0 (putL l).length ∧ σ = [(r, .arr 5 1 ((putL l).map encU))]) :=
  scall_nil (e := 5) (sz := 1) (by decide) fun q _ => code_put q [] (by simp) l hl hm
end Go.Proofs.Ytjpdadobblffmaa
/-
  The statements' begun: an if in a block.
-/
namespace Go.Proofs.Ytjpdadobblffmaa
open Go.RowKit Go.ChangeShapes Go.WideShapes Go.ChangeAt Go.Deep
attribute [local irreducible] SW RS RD AThen ABlock
def o6 : List Int := [2, 65, 4, 1, 5, 12, 11, 11]
theorem o6_ok : ∀ x ∈ o6.map insO, x.Ok ∧ mayN x = true := by
  intro x hx
  simp only [o6, List.map_cons, List.map_nil, List.mem_cons, List.not_mem_nil, or_false] at hx
  rcases hx with rfl | rfl | rfl | rfl | rfl | rfl | rfl | rfl <;> exact ⟨⟨by decide, by decide, by decide, by decide, by decide⟩, by decide⟩
theorem o6_back : getC (putL (o6.map insO) ++ [1]) = (o6.map insO, (putL (o6.map insO)).length, 0) := getC_back o6_ok (by decide) [1]
set_option maxRecDepth 100000 in
theorem law_begun6 : SCall Try.prog 4 [] [] (fun x σ => x = .bool true ∧ σ = []) := by
  refine scall_of (n := 126) (ks := [0, 1, 2, 3, 4, 5, 6, 7, 8, 10, 51]) Try.func4 rfl rfl (Nat.le_of_ble_eq_true rfl) ?_
  (refine ctlT ?_)
  refine rgT ?_
  refine lo (lop_assign (E rfl)) rfl ?_
  refine leT ?_
  (refine ctlT ?_)
  refine rgT ?_
  refine z93 ?_
  refine z93 ?_
  refine z93 ?_
  refine z93 ?_
  refine z93 ?_
  refine z93 ?_
  refine z93 ?_
  refine z93 ?_
  refine z1 ?_; refine freshT fun r19 h19 => ?_; (repeat (rcases h19 with ⟨_, h19⟩))
  refine lo (lop_assign (E rfl)) rfl ?_
  refine leT ?_
  (refine ctlT ?_)
  refine fzvs (j := 1) rfl sdelT (bor_own sgT (by rfl)) ?_
  refine sw_go (sgo_ops (j := 1) (ops := o6) rfl) ?_
  refine rgT ?_
  refine lo (lop_move (E rfl)) rfl ?_
  refine cw [] Try.call5 (code_match (o6.map insO) (by decide)) rfl argsleT stleT ?_
  rintro _ σ' ⟨q2, rfl, rfl⟩ h22
  (apply rs_sto; (exact nflT))
  rw [show okN (opsOf (o6.map insO)) = true from rfl]
  obtain ⟨B, hB⟩ : ∃ B, B = blN (opsOf (o6.map insO)) := ⟨_, rfl⟩
  rw [← hB]
  have hB : B = [⟨0, -1, 7⟩, ⟨2, 4, 6⟩] := hB
  have hBl : B.length = 2 := by rw [hB]; rfl
  have hB0 : B[(0 : Int).toNat]? = some ⟨0, -1, 7⟩ := by rw [hB]; rfl
  have hB1 : B[(1 : Int).toNat]? = some ⟨2, 4, 6⟩ := by rw [hB]; rfl
  refine lo (lop_move (E rfl)) rfl ?_
  refine lo (lop_extract (E rfl) rfl) rfl ?_
  refine lo (lop_extract (E rfl) rfl) rfl ?_
  refine lo (lop_assign (E rfl)) rfl ?_
  refine lo (lop_assign (E rfl)) rfl ?_
  refine leT ?_
  (refine ctlT ?_)
  refine fzvs (j := 2) rfl sdelT (bor_own sgT (by simp)) ?_
  refine rgT ?_
  refine lo (lop_move (E rfl)) rfl ?_
  refine cw [] Try.call6 (code_targets (o6.map insO) (by decide) 5) rfl argsleT stleT ?_
  rintro _ σ' ⟨q4, rfl, rfl⟩ h26
  (apply rs_sto; (exact nflT))
  obtain ⟨T, hT⟩ : ∃ T, T = tgN (opsOf (o6.map insO)) 5 := ⟨_, rfl⟩
  rw [← hT]
  have hT : T = [2, 0] := hT
  have hTl : T.length = 2 := by rw [hT]; rfl
  have hT0 : T[(0 : Int).toNat]? = some 2 := by rw [hT]; rfl
  have hT1 : T[(1 : Int).toNat]? = some 0 := by rw [hT]; rfl
  refine lo (lop_assign (E rfl)) rfl ?_
  refine leT ?_
  (refine ctlT ?_)
  refine fzvs (j := 4) rfl sdelT (bor_own sgT (by simp)) ?_
  refine rgT ?_
  refine lo (lop_move (E rfl)) rfl ?_
  refine clA Try.call7 (nil_putC (o6.map insO) (by decide) o6_ok) rfl bargsT noT ?_
  rintro _ σ' ⟨r28, rfl, rfl⟩ h28
  replace h28 := lnewT h28; (repeat (rcases h28 with ⟨_, h28⟩))
  (apply rs_sto; (exact nflT))
  refine lo (lop_assign (E rfl)) rfl ?_
  refine leT ?_
  (refine ctlT ?_)
  have hPl := putL_len o6_ok
  have hPt := putL_lt o6_ok
  have hPb := o6_back
  generalize putL (o6.map insO) = P at hPl hPt hPb ⊢
  rw [show (o6.map insO).length = 8 from rfl] at hPl
  refine rgT ?_
  refine lo (lop_move (E rfl)) rfl ?_
  refine anA ((P).map encU) (P).length ?_
  refine freshT fun r31 h31 => ?_; (repeat (rcases h31 with ⟨_, h31⟩))
  refine z1 ?_; refine freshT fun r32 h32 => ?_; (repeat (rcases h32 with ⟨_, h32⟩))
  refine apA ((P ++ [1]).map encU) (P ++ [1]).length ?_
  refine apnT fun r33 h33 => ?_; (repeat (rcases h33 with ⟨_, h33⟩))
  refine fzv (j := 33) rfl sdelT (bor_own sgT (by simp)) ?_
  refine cw [] Try.call8 (code_get (P ++ [1]) (by simp; omega) (lt_app hPt (by decide))) rfl argsleT stleT ?_
  rintro _ σ' ⟨q34, rfl, rfl⟩ h34
  rw [hPb]
  dsimp only
  (apply rs_sto; (exact nflT))
  refine lo (lop_move (E rfl)) rfl ?_
  refine lo (lop_extract (E rfl) rfl) rfl ?_
  refine lo (lop_extract (E rfl) rfl) rfl ?_
  refine lo (lop_extract (E rfl) rfl) rfl ?_
  refine lo (lop_assign (E rfl)) rfl ?_
  refine lo (lop_assign (E rfl)) rfl ?_
  refine lo (lop_assign (E rfl)) rfl ?_
  refine leT ?_
  (refine ctlT ?_)
  refine rgT ?_
  refine lo (lop_move (E rfl)) rfl ?_
  refine lo (lop_slice_ro (h := 7) (E rfl) OB.none (OB.some (E rfl) (fun _ => rfl)) (fun _ => ⟨by decide, by decide⟩)) rfl ?_
  refine cw [] Try.call5 (code_match ((o6.map insO).take 7) (by decide)) rfl argsleT stleT ?_
  rintro _ σ' ⟨q5, rfl, rfl⟩ h41
  (apply rs_sto; (exact nflT))
  rw [show blN (opsOf ((o6.map insO).take 7)) = [] from rfl, show okN (opsOf ((o6.map insO).take 7)) = false from rfl]
  refine lo (lop_move (E rfl)) rfl ?_
  refine lo (lop_extract (E rfl) rfl) rfl ?_
  refine lo (lop_extract (E rfl) rfl) rfl ?_
  refine lo (lop_assign (E rfl)) rfl ?_
  refine lo (lop_assign (E rfl)) rfl ?_
  refine leT ?_
  (refine ctlT ?_)
  refine rgT ?_
  refine lo (lop_move (E rfl)) rfl ?_
  refine z14 ?_
  refine lo (lop_neq (E rfl) (E rfl)) rfl ?_
  refine lo (lop_move (E rfl)) rfl ?_
  refine z109 ?_
  refine z124 ?_
  refine z116 ?_
  refine z113 ?_
  refine leT ?_
  (refine ctlT ?_)
  refine sw_cond rfl (fun g7 => ?_) (fun g7 => ?_)
  · (refine ctlT ?_)
    exfalso; simp [hBl, hTl] at g7
  (refine ctlT ?_)
  refine rgT ?_
  refine lo (lop_move (E rfl)) rfl ?_
  refine lo (lop_move (E rfl)) rfl ?_
  refine z109 ?_
  refine z130 ?_
  refine z68 ?_
  refine lo (lop_move (E rfl)) rfl ?_
  refine z109 ?_
  first | refine ln rfl rfl rfl rfl ?_ | (refine gy rfl rfl ?_; (first | refine lo (lop_index_ro (by first | exact W rfl id | exact E rfl) (E rfl) (fun hc => by (simp only [List.length_map]; omega))) rfl ?_ | refine lo (lop_index_own0 (by first | exact W rfl id | exact E rfl) sgT (E rfl) (fun hc => by omega)) rfl ?_ | refine lo (lop_index_own (by first | exact W rfl id | exact E rfl) sgT (E rfl) (fun hc => by omega)) rfl ?_)) | refine lg rfl rfl (lop_index_ro (by first | exact W rfl id | exact E rfl) (E rfl) (fun hc => by (try simp at hc) <;> (simp only [List.length_map]; omega))) rfl ?_ | refine lg rfl rfl (lop_index_own0 (by first | exact W rfl id | exact E rfl) sgT (E rfl) (fun hc => by (try simp at hc) <;> omega)) rfl ?_ | refine lg rfl rfl (lop_index_own (by first | exact W rfl id | exact E rfl) sgT (E rfl) (fun hc => by (try simp at hc) <;> omega)) rfl ?_
  refine z122 ?_
  refine z121 ?_
  refine z112 ?_
  refine z68 ?_
  refine lo (lop_move (E rfl)) rfl ?_
  refine z109 ?_
  first | refine ln rfl rfl rfl rfl ?_ | (refine gy rfl rfl ?_; (first | refine lo (lop_index_ro (by first | exact W rfl id | exact E rfl) (E rfl) (fun hc => by (simp only [List.length_map]; omega))) rfl ?_ | refine lo (lop_index_own0 (by first | exact W rfl id | exact E rfl) sgT (E rfl) (fun hc => by omega)) rfl ?_ | refine lo (lop_index_own (by first | exact W rfl id | exact E rfl) sgT (E rfl) (fun hc => by omega)) rfl ?_)) | refine lg rfl rfl (lop_index_ro (by first | exact W rfl id | exact E rfl) (E rfl) (fun hc => by (try simp at hc) <;> (simp only [List.length_map]; omega))) rfl ?_ | refine lg rfl rfl (lop_index_own0 (by first | exact W rfl id | exact E rfl) sgT (E rfl) (fun hc => by (try simp at hc) <;> omega)) rfl ?_ | refine lg rfl rfl (lop_index_own (by first | exact W rfl id | exact E rfl) sgT (E rfl) (fun hc => by (try simp at hc) <;> omega)) rfl ?_
  refine z122 ?_
  refine z121 ?_
  refine z112 ?_
  refine z68 ?_
  refine lo (lop_move (E rfl)) rfl ?_
  refine z109 ?_
  first | refine ln rfl rfl rfl rfl ?_ | (refine gy rfl rfl ?_; (first | refine lo (lop_index_ro (by first | exact W rfl id | exact E rfl) (E rfl) (fun hc => by (simp only [List.length_map]; omega))) rfl ?_ | refine lo (lop_index_own0 (by first | exact W rfl id | exact E rfl) sgT (E rfl) (fun hc => by omega)) rfl ?_ | refine lo (lop_index_own (by first | exact W rfl id | exact E rfl) sgT (E rfl) (fun hc => by omega)) rfl ?_)) | refine lg rfl rfl (lop_index_ro (by first | exact W rfl id | exact E rfl) (E rfl) (fun hc => by (try simp at hc) <;> (simp only [List.length_map]; omega))) rfl ?_ | refine lg rfl rfl (lop_index_own0 (by first | exact W rfl id | exact E rfl) sgT (E rfl) (fun hc => by (try simp at hc) <;> omega)) rfl ?_ | refine lg rfl rfl (lop_index_own (by first | exact W rfl id | exact E rfl) sgT (E rfl) (fun hc => by (try simp at hc) <;> omega)) rfl ?_
  refine z122 ?_
  refine z121 ?_
  refine z112 ?_
  refine z68 ?_
  refine lo (lop_move (E rfl)) rfl ?_
  refine z109 ?_
  first | refine ln rfl rfl rfl rfl ?_ | (refine gy rfl rfl ?_; (first | refine lo (lop_index_ro (by first | exact W rfl id | exact E rfl) (E rfl) (fun hc => by (simp only [List.length_map]; omega))) rfl ?_ | refine lo (lop_index_own0 (by first | exact W rfl id | exact E rfl) sgT (E rfl) (fun hc => by omega)) rfl ?_ | refine lo (lop_index_own (by first | exact W rfl id | exact E rfl) sgT (E rfl) (fun hc => by omega)) rfl ?_)) | refine lg rfl rfl (lop_index_ro (by first | exact W rfl id | exact E rfl) (E rfl) (fun hc => by (try simp at hc) <;> (simp only [List.length_map]; omega))) rfl ?_ | refine lg rfl rfl (lop_index_own0 (by first | exact W rfl id | exact E rfl) sgT (E rfl) (fun hc => by (try simp at hc) <;> omega)) rfl ?_ | refine lg rfl rfl (lop_index_own (by first | exact W rfl id | exact E rfl) sgT (E rfl) (fun hc => by (try simp at hc) <;> omega)) rfl ?_
  refine z122 ?_
  refine z121 ?_
  refine z112 ?_
  refine z68 ?_
  refine lo (lop_move (E rfl)) rfl ?_
  refine z109 ?_
  first | refine ln rfl rfl rfl rfl ?_ | (refine gy rfl rfl ?_; (first | refine lo (lop_index_ro (by first | exact W rfl id | exact E rfl) (E rfl) (fun hc => by (simp only [List.length_map]; omega))) rfl ?_ | refine lo (lop_index_own0 (by first | exact W rfl id | exact E rfl) sgT (E rfl) (fun hc => by omega)) rfl ?_ | refine lo (lop_index_own (by first | exact W rfl id | exact E rfl) sgT (E rfl) (fun hc => by omega)) rfl ?_)) | refine lg rfl rfl (lop_index_ro (by first | exact W rfl id | exact E rfl) (E rfl) (fun hc => by (try simp at hc) <;> (simp only [List.length_map]; omega))) rfl ?_ | refine lg rfl rfl (lop_index_own0 (by first | exact W rfl id | exact E rfl) sgT (E rfl) (fun hc => by (try simp at hc) <;> omega)) rfl ?_ | refine lg rfl rfl (lop_index_own (by first | exact W rfl id | exact E rfl) sgT (E rfl) (fun hc => by (try simp at hc) <;> omega)) rfl ?_
  refine z122 ?_
  refine z121 ?_
  refine z112 ?_
  refine z68 ?_
  refine lo (lop_move (E rfl)) rfl ?_
  refine z109 ?_
  first | refine ln rfl rfl rfl rfl ?_ | (refine gy rfl rfl ?_; (first | refine lo (lop_index_ro (by first | exact W rfl id | exact E rfl) (E rfl) (fun hc => by (simp only [List.length_map]; omega))) rfl ?_ | refine lo (lop_index_own0 (by first | exact W rfl id | exact E rfl) sgT (E rfl) (fun hc => by omega)) rfl ?_ | refine lo (lop_index_own (by first | exact W rfl id | exact E rfl) sgT (E rfl) (fun hc => by omega)) rfl ?_)) | refine lg rfl rfl (lop_index_ro (by first | exact W rfl id | exact E rfl) (E rfl) (fun hc => by (try simp at hc) <;> (simp only [List.length_map]; omega))) rfl ?_ | refine lg rfl rfl (lop_index_own0 (by first | exact W rfl id | exact E rfl) sgT (E rfl) (fun hc => by (try simp at hc) <;> omega)) rfl ?_ | refine lg rfl rfl (lop_index_own (by first | exact W rfl id | exact E rfl) sgT (E rfl) (fun hc => by (try simp at hc) <;> omega)) rfl ?_
  refine z122 ?_
  refine z121 ?_
  refine z112 ?_
  refine z68 ?_
  refine lo (lop_move (E rfl)) rfl ?_
  refine z109 ?_
  first | refine ln rfl rfl rfl rfl ?_ | (refine gy rfl rfl ?_; (first | refine lo (lop_index_ro (by first | exact W rfl id | exact E rfl) (E rfl) (fun hc => by (simp only [List.length_map]; omega))) rfl ?_ | refine lo (lop_index_own0 (by first | exact W rfl id | exact E rfl) sgT (E rfl) (fun hc => by omega)) rfl ?_ | refine lo (lop_index_own (by first | exact W rfl id | exact E rfl) sgT (E rfl) (fun hc => by omega)) rfl ?_)) | refine lg rfl rfl (lop_index_ro (by first | exact W rfl id | exact E rfl) (E rfl) (fun hc => by (try simp at hc) <;> (simp only [List.length_map]; omega))) rfl ?_ | refine lg rfl rfl (lop_index_own0 (by first | exact W rfl id | exact E rfl) sgT (E rfl) (fun hc => by (try simp at hc) <;> omega)) rfl ?_ | refine lg rfl rfl (lop_index_own (by first | exact W rfl id | exact E rfl) sgT (E rfl) (fun hc => by (try simp at hc) <;> omega)) rfl ?_
  refine z121 ?_
  refine z112 ?_
  refine z68 ?_
  refine lo (lop_move (E rfl)) rfl ?_
  refine z109 ?_
  first | refine ln rfl rfl rfl rfl ?_ | (refine gy rfl rfl ?_; (first | refine lo (lop_index_ro (by first | exact W rfl id | exact E rfl) (E rfl) (fun hc => by (simp only [List.length_map]; omega))) rfl ?_ | refine lo (lop_index_own0 (by first | exact W rfl id | exact E rfl) sgT (E rfl) (fun hc => by omega)) rfl ?_ | refine lo (lop_index_own (by first | exact W rfl id | exact E rfl) sgT (E rfl) (fun hc => by omega)) rfl ?_)) | refine lg rfl rfl (lop_index_ro (by first | exact W rfl id | exact E rfl) (E rfl) (fun hc => by (try simp at hc) <;> (simp only [List.length_map]; omega))) rfl ?_ | refine lg rfl rfl (lop_index_own0 (by first | exact W rfl id | exact E rfl) sgT (E rfl) (fun hc => by (try simp at hc) <;> omega)) rfl ?_ | refine lg rfl rfl (lop_index_own (by first | exact W rfl id | exact E rfl) sgT (E rfl) (fun hc => by (try simp at hc) <;> omega)) rfl ?_
  refine z121 ?_
  refine z112 ?_
  refine z68 ?_
  refine lo (lop_move (E rfl)) rfl ?_
  refine z109 ?_
  refine z112 ?_
  refine z68 ?_
  refine lo (lop_move (E rfl)) rfl ?_
  refine z109 ?_
  refine z109 ?_
  refine z124 ?_
  refine z128 ?_
  refine z68 ?_
  refine lo (lop_move (E rfl)) rfl ?_
  refine z109 ?_
  refine z124 ?_
  refine z112 ?_
  refine z68 ?_
  refine lo (lop_assign (E rfl)) rfl ?_
  refine leT ?_
  (refine ctlT ?_)
  (apply aend; (exact resT))
  · exact ⟨by simp only [beq_self_eq_true, if_true]; rfl, rfl⟩
  · (exact stleT)
end Go.Proofs.Ytjpdadobblffmaa
