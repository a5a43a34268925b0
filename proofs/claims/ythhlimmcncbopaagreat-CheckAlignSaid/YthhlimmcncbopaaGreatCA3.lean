import Derived.Test.YthhlimmcncbopaaGreatCA2
import Derived.Test.YthhlimmcncbopaaGreatCA1
import Derived.ChangeOld
import Derived.Lib.AppendStr
import Derived.Lib.ConvBytes
set_option linter.unusedSimpArgs false
set_option linter.unusedVariables false
set_option maxRecDepth 100000
set_option maxHeartbeats 4000000
/-
  The program's Get.
-/
namespace Go.Proofs.YthhlimmcncbopaaGreat
open Go.RowKit Go.ChangeShapes Go.WideShapes Go.ChangeAt Go.Deep
attribute [local irreducible] SW RS RD AThen ABlock
def io (q : Nat) (x : Ins) : List AV := [.int .i64 x.op, .int .i64 x.a, .int .i64 x.b, .own q 0 x.l.length]
def ins0 : Ins := ⟨0, 0, 0, []⟩
/-- m numbers, one behind the other -/
def rdL (l : List Nat) : Nat → Nat → Int → List Int × Nat × Int
  | 0, n, e => ([], n, e)
  | m + 1, n, e => (((rdL l m n e).1 ++ [((rdU l 1000 (rdL l m n e).2.1 (rdL l m n e).2.2).1 : Int)]), (rdU l 1000 (rdL l m n e).2.1 (rdL l m n e).2.2).2)
def fin (x : Ins) (n : Nat) (e : Int) : Ins × Nat × Int := if (e != 0) = true then (ins0, 0, e) else (x, n, 0)
/-- what stands behind the byte -/
def getT (l : List Nat) (op : Int) (n : Nat) (e : Int) : Ins × Nat × Int :=
  if (formN op == 2) = true then fin ⟨op, (rdK l n e).1, 0, []⟩ (rdK l n e).2.1 (rdK l n e).2.2
  else if (formN op == 3) = true then fin ⟨op, (rdU l 1000 n e).1, 0, []⟩ (rdU l 1000 n e).2.1 (rdU l 1000 n e).2.2
  else if (formN op == 5) = true then fin ⟨op, (rdU l 1000 n e).1, 0, []⟩ (rdZ l (rdU l 1000 n e).2.1 (rdU l 1000 n e).2.2).1 (rdZ l (rdU l 1000 n e).2.1 (rdU l 1000 n e).2.2).2
  else if (formN op == 4) = true then
    let u := rdU l 50 n e
    let w := rdL l u.1 u.2.1 u.2.2
    let v := rdU l 1000 w.2.1 w.2.2
    fin ⟨op, v.1, 0, w.1⟩ v.2.1 v.2.2
  else if (formN op == 6) = true then
    let u := rdU l 3 n e
    let v := rdU l 4294967295 u.2.1 u.2.2
    fin ⟨op, u.1, v.1, []⟩ v.2.1 v.2.2
  else if (formN op == 7) = true then fin ⟨op, 0, 0, []⟩ (rdZ l n e).1 (rdZ l n e).2
  else if (formN op == 8) = true then fin ⟨op, (rdS l 32 n).1, 0, []⟩ (rdS l 32 n).2.1 (rdS l 32 n).2.2
  else if (formN op == 9) = true then fin ⟨op, (rdS l 64 n).1, 0, []⟩ (rdS l 64 n).2.1 (rdS l 64 n).2.2
  else fin ⟨op, 0, 0, []⟩ n e
def getP (l : List Nat) : Ins × Nat × Int :=
  if (formN ((rdB l 0 0).1 : Nat) == 0) = true then (ins0, 0, 1)
  else if ((rdB l 0 0).2.2 != 0) = true then (ins0, 0, (rdB l 0 0).2.2)
  else getT l ((rdB l 0 0).1 : Nat) (rdB l 0 0).2.1 (rdB l 0 0).2.2
theorem rdB_bd {l : List Nat} {n : Nat} {e : Int} (h : n ≤ l.length) : (rdB l n e).2.1 ≤ l.length := by
  unfold rdB
  split
  · exact h
  · split
    · exact h
    · next h1 => simp at h1 ⊢; omega
theorem rdU_bd {l : List Nat} {lim : Int} {n : Nat} {e : Int} (h : n ≤ l.length) : (rdU l lim n e).2.1 ≤ l.length := by
  have h1 := (getU_bd (l.drop n)).2.1
  rw [List.length_drop] at h1
  unfold rdU
  repeat' split
  all_goals first | exact h | (simp; omega)
theorem rdU_le {l : List Nat} {lim : Int} {n : Nat} {e : Int} (h : 0 ≤ lim) : ((rdU l lim n e).1 : Int) ≤ lim := by
  unfold rdU
  split
  · exact h
  · split
    · exact h
    · split
      · exact h
      · next h1 => simp at h1 ⊢; omega
theorem rdL_bd {l : List Nat} : ∀ {m n : Nat} {e : Int}, n ≤ l.length → (rdL l m n e).2.1 ≤ l.length
  | 0, _, _, h => h
  | _ + 1, _, _, h => rdU_bd (rdL_bd h)
theorem rdL_len {l : List Nat} : ∀ {m n : Nat} {e : Int}, (rdL l m n e).1.length = m
  | 0, _, _ => rfl
  | m + 1, n, e => by rw [rdL]; simp [rdL_len (m := m)]
theorem instr_get (l : List Nat) (hl : l.length ≤ 1000000) (hlt : ∀ x ∈ l, x < 256) : SCall Tryz.prog 244 [.ro 1 (l.map encU) .any] []
    (fun y σ => ∃ q, y = .tup [.agg (io q (getP l).1), .int .i64 ((getP l).2.1 : Nat), .int .i64 (getP l).2.2] ∧ σ = [(q, .arr 3 1 ((getP l).1.l.map encI))]) := by
  refine scall_of (n := 104) (ks := [0, 2, 3, 4, 5, 6, 7, 18, 26, 32, 33, 38, 43, 50, 53, 54, 55, 67, 75, 79, 84, 93]) Tryz.func244 rfl rfl (Nat.le_of_ble_eq_true rfl) ?_
  refine sq3 ?_
  apply al; rfl; (exact zcT); refine freshT fun r2 h2 => ?_; repeat rcases h2 with ⟨_, h2⟩
  refine sq82 ?_
  refine z93 ?_
  apply bx; rfl; rfl; (exact zcT); rfl; refine freshT fun r10 h10 => ?_; repeat rcases h10 with ⟨_, h10⟩
  refine sq37 ?_
  refine cw [(r10, .box 284 (rv l (0) (0)))] Tryz.call254 (rdr_byte r10 l hl hlt 0 (by omega) 0) rfl ?_ ?_ ?_
  · exact argsleT
  · exact stleT
  rintro _ σ' ⟨rfl, rfl⟩ -
  apply rs_sto; exact nflT
  unfold rv
  refine z93 ?_
  apply al; rfl; (exact zcT); refine freshT fun r6 h6 => ?_; repeat rcases h6 with ⟨_, h6⟩
  apply stp; rfl; rfl; rfl; rfl; (exact sputT)
  refine leT ?_
  refine an ?_
  refine sw_virt_box (ks := [0, 2, 3, 4, 5, 6, 7, 18, 26, 32, 33, 38, 43, 50, 53, 54, 55, 67, 75, 79, 84, 93]) r6 3 3 1 (by decide) sgT rfl (by decide) fun q hq => ?_
  simp only [fresh_cons, fresh_nil, and_true] at hq; repeat rcases hq with ⟨_, hq⟩
  apply Exists.intro; apply And.intro; (exact ssetT)
  refine ctlT ?_
  have hn1 := rdB_bd (l := l) (n := 0) (e := 0) (by omega)
  generalize hB : rdB l 0 0 = bb at *
  obtain ⟨c, n1, e1⟩ := bb
  dsimp only at hn1 ⊢
  rw [show ([AV.int .i64 (c : Int), .int .i64 0, .int .i64 0, .ro 0 [] .nil].set 3 (.own q 0 0)) = [.int .i64 (c : Int), .int .i64 0, .int .i64 0, .own q 0 0] from rfl]
  refine rgT ?_
  refine sq11 ?_
  (first | refine ln rfl rfl rfl rfl ?_ | refine lw rfl rfl (lop_no (v := .bool false)) rfl ?_ | refine pu [] Tryz.call182 (instr_formN _) rfl argsT nofT ?_ | refine pug [] rfl rfl Tryz.call182 (fun _ => (instr_formN _)) rfl argsT nofT ?_ | refine puw [] rfl rfl Tryz.call182 (fun _ => (instr_formN _)) rfl argsT nofT ?_)
  refine sq37 ?_
  refine sq34 ?_
  refine sw_cond rfl (fun g1 => ?_) (fun g1 => ?_)
  · refine ctlT ?_
    have hG : getP l = (ins0, 0, 1) := by unfold getP; rw [hB]; simp only [g1, if_true]
    refine sq1 ?_
    refine sq39 ?_
    apply stp; rfl; rfl; rfl; rfl; (exact sputT)
    refine sq27 ?_
    refine sq92 ?_
    refine rgD [(0, true), (1, true), (2, true), (3, true), (4, true), (5, false), (6, true), (7, true)] ?_
    refine sq95 ?_
    refine an ?_
    refine sw_virt_box (ks := [0, 2, 3, 4, 5, 6, 7, 18, 26, 32, 33, 38, 43, 50, 53, 54, 55, 67, 75, 79, 84, 93]) r2 3 3 1 (by decide) sgT rfl (by decide) fun qz hqz => ?_
    simp only [fresh_cons, fresh_nil, and_true] at hqz; repeat rcases hqz with ⟨_, hqz⟩
    apply Exists.intro; apply And.intro; (exact ssetT)
    refine ctlT ?_
    apply aend; exact resT
    · rw [hG]; exact ⟨qz, rfl, rfl⟩
    · exact stleT
  refine sq7 ?_
  refine sq92 ?_
  refine sw_cond rfl (fun g2 => ?_) (fun g2 => ?_)
  · refine ctlT ?_
    have hG : getP l = (ins0, 0, e1) := by unfold getP; rw [hB]; simp only [g1, g2, if_true, if_false, Bool.false_eq_true]
    refine rgD [(0, true), (1, true), (2, true), (3, true), (4, true), (5, false), (6, true), (7, true)] ?_
    refine sq95 ?_
    refine an ?_
    refine sw_virt_box (ks := [0, 2, 3, 4, 5, 6, 7, 18, 26, 32, 33, 38, 43, 50, 53, 54, 55, 67, 75, 79, 84, 93]) r2 3 3 1 (by decide) sgT rfl (by decide) fun qz hqz => ?_
    simp only [fresh_cons, fresh_nil, and_true] at hqz; repeat rcases hqz with ⟨_, hqz⟩
    apply Exists.intro; apply And.intro; (exact ssetT)
    refine ctlT ?_
    apply aend; exact resT
    · rw [hG]; exact ⟨qz, rfl, rfl⟩
    · exact stleT
  refine sq7 ?_
  refine leT ?_
  refine sq24 ?_
  refine sw_cond rfl (fun g3 => ?_) (fun g3 => ?_)
  · refine ctlT ?_
    have hG : getP l = fin ⟨(c : Int), (rdK l n1 e1).1, 0, []⟩ (rdK l n1 e1).2.1 (rdK l n1 e1).2.2 := by unfold getP getT; rw [hB]; simp only [g1, g2, g3, if_true, if_false, Bool.false_eq_true]
    refine sq1 ?_
    refine cw [(r10, .box 284 (rv l (n1) (e1)))] Tryz.call255 (rdr_kind r10 l hl hlt n1 hn1 e1) rfl ?_ ?_ ?_
    · exact argsleT
    · exact stleT
    rintro _ σ' ⟨rfl, rfl⟩ -
    apply rs_sto; exact nflT
    unfold rv
    refine z59 ?_
    apply stp; rfl; rfl; rfl; rfl; (exact sputT)
    refine sq27 ?_
    refine sq92 ?_
    refine sw_cond rfl (fun ge => ?_) (fun ge => ?_)
    · unfold fin at hG
      rw [ge] at hG
      simp only [if_true] at hG
      refine ctlT ?_
      refine rgD [(0, true), (1, true), (2, true), (3, true), (4, true), (5, false), (6, true), (7, true)] ?_
      refine sq95 ?_
      refine an ?_
      refine sw_virt_box (ks := [0, 2, 3, 4, 5, 6, 7, 18, 26, 32, 33, 38, 43, 50, 53, 54, 55, 67, 75, 79, 84, 93]) r2 3 3 1 (by decide) sgT rfl (by decide) fun qz hqz => ?_
      simp only [fresh_cons, fresh_nil, and_true] at hqz; repeat rcases hqz with ⟨_, hqz⟩
      apply Exists.intro; apply And.intro; (exact ssetT)
      refine ctlT ?_
      apply aend; exact resT
      · rw [hG]; exact ⟨qz, rfl, rfl⟩
      · exact stleT
    · unfold fin at hG
      rw [ge] at hG
      simp only [Bool.false_eq_true, if_false] at hG
      refine ctlT ?_
      refine rgD [(0, true), (1, true), (2, true), (3, true), (4, true), (5, false), (6, true), (7, true)] ?_
      refine z96 ?_
      refine sq58 ?_
      refine ctlT ?_
      apply aend; exact resT
      · rw [hG]; exact ⟨q, rfl, rfl⟩
      · exact stleT
  refine sq24 ?_
  refine sw_cond rfl (fun g4 => ?_) (fun g4 => ?_)
  · refine ctlT ?_
    have hG : getP l = fin ⟨(c : Int), (rdU l 1000 n1 e1).1, 0, []⟩ (rdU l 1000 n1 e1).2.1 (rdU l 1000 n1 e1).2.2 := by unfold getP getT; rw [hB]; simp only [g1, g2, g3, g4, if_true, if_false, Bool.false_eq_true]
    refine sq1 ?_
    refine cw [(r10, .box 284 (rv l (n1) (e1)))] Tryz.call256 (rdr_unsigned r10 l hl hlt 1000 n1 hn1 e1) rfl ?_ ?_ ?_
    · exact argsleT
    · exact stleT
    rintro _ σ' ⟨rfl, rfl⟩ -
    apply rs_sto; exact nflT
    unfold rv
    refine z59 ?_
    apply stp; rfl; rfl; rfl; rfl; (exact sputT)
    refine sq27 ?_
    refine sq92 ?_
    refine sw_cond rfl (fun ge => ?_) (fun ge => ?_)
    · unfold fin at hG
      rw [ge] at hG
      simp only [if_true] at hG
      refine ctlT ?_
      refine rgD [(0, true), (1, true), (2, true), (3, true), (4, true), (5, false), (6, true), (7, true)] ?_
      refine sq95 ?_
      refine an ?_
      refine sw_virt_box (ks := [0, 2, 3, 4, 5, 6, 7, 18, 26, 32, 33, 38, 43, 50, 53, 54, 55, 67, 75, 79, 84, 93]) r2 3 3 1 (by decide) sgT rfl (by decide) fun qz hqz => ?_
      simp only [fresh_cons, fresh_nil, and_true] at hqz; repeat rcases hqz with ⟨_, hqz⟩
      apply Exists.intro; apply And.intro; (exact ssetT)
      refine ctlT ?_
      apply aend; exact resT
      · rw [hG]; exact ⟨qz, rfl, rfl⟩
      · exact stleT
    · unfold fin at hG
      rw [ge] at hG
      simp only [Bool.false_eq_true, if_false] at hG
      refine ctlT ?_
      refine rgD [(0, true), (1, true), (2, true), (3, true), (4, true), (5, false), (6, true), (7, true)] ?_
      refine z96 ?_
      refine sq58 ?_
      refine ctlT ?_
      apply aend; exact resT
      · rw [hG]; exact ⟨q, rfl, rfl⟩
      · exact stleT
  refine sq24 ?_
  refine sw_cond rfl (fun g5 => ?_) (fun g5 => ?_)
  · refine ctlT ?_
    have hG : getP l = fin ⟨(c : Int), (rdU l 1000 n1 e1).1, 0, []⟩ (rdZ l (rdU l 1000 n1 e1).2.1 (rdU l 1000 n1 e1).2.2).1 (rdZ l (rdU l 1000 n1 e1).2.1 (rdU l 1000 n1 e1).2.2).2 := by unfold getP getT; rw [hB]; simp only [g1, g2, g3, g4, g5, if_true, if_false, Bool.false_eq_true]
    have hn2 := rdU_bd (lim := 1000) (e := e1) hn1
    refine sq1 ?_
    refine cw [(r10, .box 284 (rv l (n1) (e1)))] Tryz.call256 (rdr_unsigned r10 l hl hlt 1000 n1 hn1 e1) rfl ?_ ?_ ?_
    · exact argsleT
    · exact stleT
    rintro _ σ' ⟨rfl, rfl⟩ -
    apply rs_sto; exact nflT
    unfold rv
    refine z59 ?_
    apply stp; rfl; rfl; rfl; rfl; (exact sputT)
    refine sq4 ?_
    generalize rdU l 1000 n1 e1 = u at *
    obtain ⟨a, n2, e2⟩ := u
    dsimp only at hn2 hG ⊢
    refine sq1 ?_
    refine cw [(r10, .box 284 (rv l (n2) (e2)))] Tryz.call257 (rdr_zero r10 l hl hlt n2 hn2 e2) rfl ?_ ?_ ?_
    · exact argsleT
    · exact stleT
    rintro _ σ' ⟨rfl, rfl⟩ -
    apply rs_sto; exact nflT
    unfold rv
    refine sq27 ?_
    refine sq92 ?_
    refine sw_cond rfl (fun ge => ?_) (fun ge => ?_)
    · unfold fin at hG
      rw [ge] at hG
      simp only [if_true] at hG
      refine ctlT ?_
      refine rgD [(0, true), (1, true), (2, true), (3, true), (4, true), (5, false), (6, true), (7, true)] ?_
      refine sq95 ?_
      refine an ?_
      refine sw_virt_box (ks := [0, 2, 3, 4, 5, 6, 7, 18, 26, 32, 33, 38, 43, 50, 53, 54, 55, 67, 75, 79, 84, 93]) r2 3 3 1 (by decide) sgT rfl (by decide) fun qz hqz => ?_
      simp only [fresh_cons, fresh_nil, and_true] at hqz; repeat rcases hqz with ⟨_, hqz⟩
      apply Exists.intro; apply And.intro; (exact ssetT)
      refine ctlT ?_
      apply aend; exact resT
      · rw [hG]; exact ⟨qz, rfl, rfl⟩
      · exact stleT
    · unfold fin at hG
      rw [ge] at hG
      simp only [Bool.false_eq_true, if_false] at hG
      refine ctlT ?_
      refine rgD [(0, true), (1, true), (2, true), (3, true), (4, true), (5, false), (6, true), (7, true)] ?_
      refine z96 ?_
      refine sq58 ?_
      refine ctlT ?_
      apply aend; exact resT
      · rw [hG]; exact ⟨q, rfl, rfl⟩
      · exact stleT
  refine sq24 ?_
  refine sw_cond rfl (fun g6 => ?_) (fun g6 => ?_)
  · refine ctlT ?_
    have hG : getP l = fin ⟨(c : Int), (rdU l 1000 (rdL l (rdU l 50 n1 e1).1 (rdU l 50 n1 e1).2.1 (rdU l 50 n1 e1).2.2).2.1 (rdL l (rdU l 50 n1 e1).1 (rdU l 50 n1 e1).2.1 (rdU l 50 n1 e1).2.2).2.2).1, 0, (rdL l (rdU l 50 n1 e1).1 (rdU l 50 n1 e1).2.1 (rdU l 50 n1 e1).2.2).1⟩ (rdU l 1000 (rdL l (rdU l 50 n1 e1).1 (rdU l 50 n1 e1).2.1 (rdU l 50 n1 e1).2.2).2.1 (rdL l (rdU l 50 n1 e1).1 (rdU l 50 n1 e1).2.1 (rdU l 50 n1 e1).2.2).2.2).2.1 (rdU l 1000 (rdL l (rdU l 50 n1 e1).1 (rdU l 50 n1 e1).2.1 (rdU l 50 n1 e1).2.2).2.1 (rdL l (rdU l 50 n1 e1).1 (rdU l 50 n1 e1).2.1 (rdU l 50 n1 e1).2.2).2.2).2.2 := by unfold getP getT; rw [hB]; simp only [g1, g2, g3, g4, g5, g6, if_true, if_false, Bool.false_eq_true]
    have hn2 := rdU_bd (lim := 50) (e := e1) hn1
    have hm50 := rdU_le (l := l) (lim := 50) (n := n1) (e := e1) (by omega)
    refine sq1 ?_
    refine cw [(r10, .box 284 (rv l (n1) (e1)))] Tryz.call256 (rdr_unsigned r10 l hl hlt 50 n1 hn1 e1) rfl ?_ ?_ ?_
    · exact argsleT
    · exact stleT
    rintro _ σ' ⟨rfl, rfl⟩ -
    apply rs_sto; exact nflT
    unfold rv
    refine sq9 ?_
    generalize rdU l 50 n1 e1 = u at *
    obtain ⟨m, n2, e2⟩ := u
    dsimp only at hn2 hm50 hG ⊢
    refine lp (β := Nat × Nat) (fun b => ⟨[(2, .ptr r2 0), (5, .ptr r10 0), (6, .ptr r6 0), (53, .int .i64 m), (54, .int .i64 b.2)], [(b.1, .arr 3 1 ((rdL l b.2 n2 e2).1.map encI)), (r6, .box 45 [.int .i64 c, .int .i64 0, .int .i64 0, .own b.1 0 (rdL l b.2 n2 e2).1.length]), (r10, .box 284 (rv l (rdL l b.2 n2 e2).2.1 (rdL l b.2 n2 e2).2.2)), (r2, .box 45 [.int .i64 0, .int .i64 0, .int .i64 0, .ro 0 [] .nil])]⟩) (fun b => (Nq b.1 r6 ∧ Nq b.1 r10 ∧ Nq b.1 r2) ∧ b.2 ≤ m) (fun b => m - b.2) (q, 0) (by (exact sgoT)) ⟨⟨by (exact nqT), by (exact nqT), by (exact nqT)⟩, Nat.zero_le _⟩ ?_
    rintro ⟨p, j⟩ ⟨⟨hp1, hp2, hp3⟩, hj⟩
    dsimp only at hp1 hp2 hp3 hj ⊢
    have hn3 := rdL_bd (m := j) (e := e2) hn2
    have hlen := rdL_len (l := l) (m := j) (n := n2) (e := e2)
    have hstep : rdL l (j + 1) n2 e2 = (((rdL l j n2 e2).1 ++ [((rdU l 1000 (rdL l j n2 e2).2.1 (rdL l j n2 e2).2.2).1 : Int)]), (rdU l 1000 (rdL l j n2 e2).2.1 (rdL l j n2 e2).2.2).2) := rfl
    generalize hW : rdL l j n2 e2 = w at hn3 hlen hstep ⊢
    obtain ⟨L, n3, e3⟩ := w
    dsimp only at hn3 hlen hstep ⊢
    unfold rv
    refine sq40 ?_
    refine sw_cond rfl (fun h1 => ?_) (fun h1 => ?_)
    · have hlt2 : j < m := by simp at h1; omega
      refine ctlT ?_
      refine rgD [(0, true), (1, true), (2, true), (3, false), (4, false), (5, false), (6, true), (7, false)] ?_
      refine sq22 ?_
      refine dlo rfl (lop_move (E rfl)) rfl ?_
      refine dcw [(r10, .box 284 (rv l n3 e3))] rfl Tryz.call256 (rdr_unsigned r10 l hl hlt 1000 n3 hn3 e3) rfl ?_ ?_ ?_ ?_
      · exact argsleT
      · exact stleT
      · exact hbtT
      rintro _ σ' ⟨rfl, rfl⟩ -
      apply rd_sto; exact nflT
      unfold rv
      generalize rdU l 1000 n3 e3 = u at hstep ⊢
      obtain ⟨v, n4, e4⟩ := u
      dsimp only at hstep ⊢
      refine z97 ?_; refine freshT fun r60 h60 => ?_; repeat rcases h60 with ⟨_, h60⟩
      apply dap (es' := (L ++ [(v : Int)]).map encI) (len' := (L ++ [(v : Int)]).length); rfl; infer_instance; infer_instance; rfl; rfl; (exact sgT)
      · simp
      · exact .inr (.inr ⟨_, _, _, _, _, rfl, sgT, by simp, rfl⟩)
      · simp [encI]
      · simp
      · simp [maxLen]; omega
      · simp; omega
      · rfl
      · exact hbtT
      refine apnT fun r61 h61 => ?_; repeat rcases h61 with ⟨_, h61⟩
      refine z73 ?_
      refine z95 ?_
      refine deT ?_
      refine sq43 ?_
      refine ⟨(r61, j + 1), ⟨⟨by show Nq r61 r6; (exact nqT), by show Nq r61 r10; (exact nqT), by show Nq r61 r2; (exact nqT)⟩, hlt2⟩, by show m - (j + 1) < m - j; omega, ?_⟩
      dsimp only
      rw [hstep]
      exact sgoT
    · obtain rfl : j = m := by simp at h1; omega
      rw [hW] at hG
      dsimp only at hG
      refine sq7 ?_
      refine cw [(r10, .box 284 (rv l (n3) (e3)))] Tryz.call256 (rdr_unsigned r10 l hl hlt 1000 n3 hn3 e3) rfl ?_ ?_ ?_
      · exact argsleT
      · exact stleT
      rintro _ σ' ⟨rfl, rfl⟩ -
      apply rs_sto; exact nflT
      unfold rv
      refine z59 ?_
      apply stp; rfl; rfl; rfl; rfl; (exact sputT)
      refine sq27 ?_
      refine sq92 ?_
      refine sw_cond rfl (fun ge => ?_) (fun ge => ?_)
      · unfold fin at hG
        rw [ge] at hG
        simp only [if_true] at hG
        refine ctlT ?_
        refine rgD [(0, true), (1, true), (2, true), (3, true), (4, true), (5, false), (6, true), (7, true)] ?_
        refine sq95 ?_
        refine an ?_
        refine sw_virt_box (ks := [0, 2, 3, 4, 5, 6, 7, 18, 26, 32, 33, 38, 43, 50, 53, 54, 55, 67, 75, 79, 84, 93]) r2 3 3 1 (by decide) sgT rfl (by decide) fun qz hqz => ?_
        simp only [fresh_cons, fresh_nil, and_true] at hqz; repeat rcases hqz with ⟨_, hqz⟩
        apply Exists.intro; apply And.intro; (exact ssetT)
        refine ctlT ?_
        apply aend; exact resT
        · rw [hG]; exact ⟨qz, rfl, rfl⟩
        · exact stleT
      · unfold fin at hG
        rw [ge] at hG
        simp only [Bool.false_eq_true, if_false] at hG
        refine ctlT ?_
        refine rgD [(0, true), (1, true), (2, true), (3, true), (4, true), (5, false), (6, true), (7, true)] ?_
        refine z96 ?_
        refine sq58 ?_
        refine ctlT ?_
        apply aend; exact resT
        · rw [hG]; exact ⟨p, rfl, rfl⟩
        · exact stleT
  refine sq24 ?_
  refine sw_cond rfl (fun g7 => ?_) (fun g7 => ?_)
  · refine ctlT ?_
    have hG : getP l = fin ⟨(c : Int), (rdU l 3 n1 e1).1, (rdU l 4294967295 (rdU l 3 n1 e1).2.1 (rdU l 3 n1 e1).2.2).1, []⟩ (rdU l 4294967295 (rdU l 3 n1 e1).2.1 (rdU l 3 n1 e1).2.2).2.1 (rdU l 4294967295 (rdU l 3 n1 e1).2.1 (rdU l 3 n1 e1).2.2).2.2 := by unfold getP getT; rw [hB]; simp only [g1, g2, g3, g4, g5, g6, g7, if_true, if_false, Bool.false_eq_true]
    have hn2 := rdU_bd (lim := 3) (e := e1) hn1
    refine sq1 ?_
    refine cw [(r10, .box 284 (rv l (n1) (e1)))] Tryz.call256 (rdr_unsigned r10 l hl hlt 3 n1 hn1 e1) rfl ?_ ?_ ?_
    · exact argsleT
    · exact stleT
    rintro _ σ' ⟨rfl, rfl⟩ -
    apply rs_sto; exact nflT
    unfold rv
    refine z59 ?_
    apply stp; rfl; rfl; rfl; rfl; (exact sputT)
    refine sq4 ?_
    generalize rdU l 3 n1 e1 = u at *
    obtain ⟨a, n2, e2⟩ := u
    dsimp only at hn2 hG ⊢
    refine sq1 ?_
    refine cw [(r10, .box 284 (rv l (n2) (e2)))] Tryz.call256 (rdr_unsigned r10 l hl hlt 4294967295 n2 hn2 e2) rfl ?_ ?_ ?_
    · exact argsleT
    · exact stleT
    rintro _ σ' ⟨rfl, rfl⟩ -
    apply rs_sto; exact nflT
    unfold rv
    refine z59 ?_
    apply stp; rfl; rfl; rfl; rfl; (exact sputT)
    refine sq27 ?_
    refine sq92 ?_
    refine sw_cond rfl (fun ge => ?_) (fun ge => ?_)
    · unfold fin at hG
      rw [ge] at hG
      simp only [if_true] at hG
      refine ctlT ?_
      refine rgD [(0, true), (1, true), (2, true), (3, true), (4, true), (5, false), (6, true), (7, true)] ?_
      refine sq95 ?_
      refine an ?_
      refine sw_virt_box (ks := [0, 2, 3, 4, 5, 6, 7, 18, 26, 32, 33, 38, 43, 50, 53, 54, 55, 67, 75, 79, 84, 93]) r2 3 3 1 (by decide) sgT rfl (by decide) fun qz hqz => ?_
      simp only [fresh_cons, fresh_nil, and_true] at hqz; repeat rcases hqz with ⟨_, hqz⟩
      apply Exists.intro; apply And.intro; (exact ssetT)
      refine ctlT ?_
      apply aend; exact resT
      · rw [hG]; exact ⟨qz, rfl, rfl⟩
      · exact stleT
    · unfold fin at hG
      rw [ge] at hG
      simp only [Bool.false_eq_true, if_false] at hG
      refine ctlT ?_
      refine rgD [(0, true), (1, true), (2, true), (3, true), (4, true), (5, false), (6, true), (7, true)] ?_
      refine z96 ?_
      refine sq58 ?_
      refine ctlT ?_
      apply aend; exact resT
      · rw [hG]; exact ⟨q, rfl, rfl⟩
      · exact stleT
  refine sq24 ?_
  refine sw_cond rfl (fun g8 => ?_) (fun g8 => ?_)
  · refine ctlT ?_
    have hG : getP l = fin ⟨(c : Int), 0, 0, []⟩ (rdZ l n1 e1).1 (rdZ l n1 e1).2 := by unfold getP getT; rw [hB]; simp only [g1, g2, g3, g4, g5, g6, g7, g8, if_true, if_false, Bool.false_eq_true]
    refine sq1 ?_
    refine cw [(r10, .box 284 (rv l (n1) (e1)))] Tryz.call257 (rdr_zero r10 l hl hlt n1 hn1 e1) rfl ?_ ?_ ?_
    · exact argsleT
    · exact stleT
    rintro _ σ' ⟨rfl, rfl⟩ -
    apply rs_sto; exact nflT
    unfold rv
    refine sq27 ?_
    refine sq92 ?_
    refine sw_cond rfl (fun ge => ?_) (fun ge => ?_)
    · unfold fin at hG
      rw [ge] at hG
      simp only [if_true] at hG
      refine ctlT ?_
      refine rgD [(0, true), (1, true), (2, true), (3, true), (4, true), (5, false), (6, true), (7, true)] ?_
      refine sq95 ?_
      refine an ?_
      refine sw_virt_box (ks := [0, 2, 3, 4, 5, 6, 7, 18, 26, 32, 33, 38, 43, 50, 53, 54, 55, 67, 75, 79, 84, 93]) r2 3 3 1 (by decide) sgT rfl (by decide) fun qz hqz => ?_
      simp only [fresh_cons, fresh_nil, and_true] at hqz; repeat rcases hqz with ⟨_, hqz⟩
      apply Exists.intro; apply And.intro; (exact ssetT)
      refine ctlT ?_
      apply aend; exact resT
      · rw [hG]; exact ⟨qz, rfl, rfl⟩
      · exact stleT
    · unfold fin at hG
      rw [ge] at hG
      simp only [Bool.false_eq_true, if_false] at hG
      refine ctlT ?_
      refine rgD [(0, true), (1, true), (2, true), (3, true), (4, true), (5, false), (6, true), (7, true)] ?_
      refine z96 ?_
      refine sq58 ?_
      refine ctlT ?_
      apply aend; exact resT
      · rw [hG]; exact ⟨q, rfl, rfl⟩
      · exact stleT
  refine sq24 ?_
  refine sw_cond rfl (fun g9 => ?_) (fun g9 => ?_)
  · refine ctlT ?_
    have hG : getP l = fin ⟨(c : Int), (rdS l 32 n1).1, 0, []⟩ (rdS l 32 n1).2.1 (rdS l 32 n1).2.2 := by unfold getP getT; rw [hB]; simp only [g1, g2, g3, g4, g5, g6, g7, g8, g9, if_true, if_false, Bool.false_eq_true]
    refine sq1 ?_
    refine cw [(r10, .box 284 (rv l (n1) (e1)))] Tryz.call258 (rdr_signed r10 l hl hlt 32 (.inl rfl) n1 hn1 e1) rfl ?_ ?_ ?_
    · exact argsleT
    · exact stleT
    rintro _ σ' ⟨rfl, rfl⟩ -
    apply rs_sto; exact nflT
    unfold rv
    refine z59 ?_
    apply stp; rfl; rfl; rfl; rfl; (exact sputT)
    refine sq27 ?_
    refine sq92 ?_
    refine sw_cond rfl (fun ge => ?_) (fun ge => ?_)
    · unfold fin at hG
      rw [ge] at hG
      simp only [if_true] at hG
      refine ctlT ?_
      refine rgD [(0, true), (1, true), (2, true), (3, true), (4, true), (5, false), (6, true), (7, true)] ?_
      refine sq95 ?_
      refine an ?_
      refine sw_virt_box (ks := [0, 2, 3, 4, 5, 6, 7, 18, 26, 32, 33, 38, 43, 50, 53, 54, 55, 67, 75, 79, 84, 93]) r2 3 3 1 (by decide) sgT rfl (by decide) fun qz hqz => ?_
      simp only [fresh_cons, fresh_nil, and_true] at hqz; repeat rcases hqz with ⟨_, hqz⟩
      apply Exists.intro; apply And.intro; (exact ssetT)
      refine ctlT ?_
      apply aend; exact resT
      · rw [hG]; exact ⟨qz, rfl, rfl⟩
      · exact stleT
    · unfold fin at hG
      rw [ge] at hG
      simp only [Bool.false_eq_true, if_false] at hG
      refine ctlT ?_
      refine rgD [(0, true), (1, true), (2, true), (3, true), (4, true), (5, false), (6, true), (7, true)] ?_
      refine z96 ?_
      refine sq58 ?_
      refine ctlT ?_
      apply aend; exact resT
      · rw [hG]; exact ⟨q, rfl, rfl⟩
      · exact stleT
  refine sq24 ?_
  refine sw_cond rfl (fun g10 => ?_) (fun g10 => ?_)
  · refine ctlT ?_
    have hG : getP l = fin ⟨(c : Int), (rdS l 64 n1).1, 0, []⟩ (rdS l 64 n1).2.1 (rdS l 64 n1).2.2 := by unfold getP getT; rw [hB]; simp only [g1, g2, g3, g4, g5, g6, g7, g8, g9, g10, if_true, if_false, Bool.false_eq_true]
    refine sq1 ?_
    refine cw [(r10, .box 284 (rv l (n1) (e1)))] Tryz.call258 (rdr_signed r10 l hl hlt 64 (.inr rfl) n1 hn1 e1) rfl ?_ ?_ ?_
    · exact argsleT
    · exact stleT
    rintro _ σ' ⟨rfl, rfl⟩ -
    apply rs_sto; exact nflT
    unfold rv
    refine z59 ?_
    apply stp; rfl; rfl; rfl; rfl; (exact sputT)
    refine sq27 ?_
    refine sq92 ?_
    refine sw_cond rfl (fun ge => ?_) (fun ge => ?_)
    · unfold fin at hG
      rw [ge] at hG
      simp only [if_true] at hG
      refine ctlT ?_
      refine rgD [(0, true), (1, true), (2, true), (3, true), (4, true), (5, false), (6, true), (7, true)] ?_
      refine sq95 ?_
      refine an ?_
      refine sw_virt_box (ks := [0, 2, 3, 4, 5, 6, 7, 18, 26, 32, 33, 38, 43, 50, 53, 54, 55, 67, 75, 79, 84, 93]) r2 3 3 1 (by decide) sgT rfl (by decide) fun qz hqz => ?_
      simp only [fresh_cons, fresh_nil, and_true] at hqz; repeat rcases hqz with ⟨_, hqz⟩
      apply Exists.intro; apply And.intro; (exact ssetT)
      refine ctlT ?_
      apply aend; exact resT
      · rw [hG]; exact ⟨qz, rfl, rfl⟩
      · exact stleT
    · unfold fin at hG
      rw [ge] at hG
      simp only [Bool.false_eq_true, if_false] at hG
      refine ctlT ?_
      refine rgD [(0, true), (1, true), (2, true), (3, true), (4, true), (5, false), (6, true), (7, true)] ?_
      refine z96 ?_
      refine sq58 ?_
      refine ctlT ?_
      apply aend; exact resT
      · rw [hG]; exact ⟨q, rfl, rfl⟩
      · exact stleT
  refine ctlT ?_
  have hG : getP l = fin ⟨(c : Int), 0, 0, []⟩ n1 e1 := by unfold getP getT; rw [hB]; simp only [g1, g2, g3, g4, g5, g6, g7, g8, g9, g10, if_true, if_false, Bool.false_eq_true]
  refine sq1 ?_
  refine sq92 ?_
  refine sw_cond rfl (fun ge => ?_) (fun ge => ?_)
  · unfold fin at hG
    rw [ge] at hG
    simp only [if_true] at hG
    refine ctlT ?_
    refine rgD [(0, true), (1, true), (2, true), (3, true), (4, true), (5, false), (6, true), (7, true)] ?_
    refine sq95 ?_
    refine an ?_
    refine sw_virt_box (ks := [0, 2, 3, 4, 5, 6, 7, 18, 26, 32, 33, 38, 43, 50, 53, 54, 55, 67, 75, 79, 84, 93]) r2 3 3 1 (by decide) sgT rfl (by decide) fun qz hqz => ?_
    simp only [fresh_cons, fresh_nil, and_true] at hqz; repeat rcases hqz with ⟨_, hqz⟩
    apply Exists.intro; apply And.intro; (exact ssetT)
    refine ctlT ?_
    apply aend; exact resT
    · rw [hG]; exact ⟨qz, rfl, rfl⟩
    · exact stleT
  · unfold fin at hG
    rw [ge] at hG
    simp only [Bool.false_eq_true, if_false] at hG
    refine ctlT ?_
    refine rgD [(0, true), (1, true), (2, true), (3, true), (4, true), (5, false), (6, true), (7, true)] ?_
    refine z96 ?_
    refine sq58 ?_
    refine ctlT ?_
    apply aend; exact resT
    · rw [hG]; exact ⟨q, rfl, rfl⟩
    · exact stleT
end Go.Proofs.YthhlimmcncbopaaGreat
/-
  Plain: the two Gets answer alike.
-/
namespace Go.Proofs.YthhlimmcncbopaaGreat
open Go.RowKit Go.ChangeShapes Go.WideShapes Go.ChangeAt Go.Deep
theorem kindI_eq (c : Nat) : kindI c = if c = 64 then 0 else if c = 127 then 1 else if c = 126 then 2 else -1 := by
  by_cases h1 : c = 64
  · subst h1; decide
  by_cases h2 : c = 127
  · subst h2; decide
  by_cases h3 : c = 126
  · subst h3; decide
  rw [if_neg h1, if_neg h2, if_neg h3]
  unfold kindI idxN
  have : ([64, 127, 126] : List Int).findIdx? (· == (c : Int)) = none := by
    rw [List.findIdx?_eq_none_iff]
    intro x hx
    simp at hx
    rcases hx with rfl | rfl | rfl <;> simp <;> omega
  rw [this]
/-
  Plain: an instruction's bytes are told as it.
-/
theorem drop_on {l p r : List Nat} {n : Nat} (h : l.drop n = p ++ r) : l.drop (n + p.length) = r := by
  rw [← List.drop_drop, h, List.drop_left]
theorem rdB_at {l r : List Nat} {n b : Nat} (h : l.drop n = b :: r) : rdB l n 0 = (b, n + 1, 0) := by
  have hn : n < l.length := by
    by_cases hc : n < l.length
    · exact hc
    · rw [List.drop_of_length_le (by omega)] at h; cases h
  have hb : l[n]! = b := by
    rw [getElem!_pos l n hn]
    rw [List.drop_eq_getElem_cons hn] at h
    exact (List.cons.inj h).1
  unfold rdB
  rw [if_neg (by simp), if_neg (by simp; omega), hb]
theorem rdZ_at {l r : List Nat} {n : Nat} (h : l.drop n = 0 :: r) : rdZ l n 0 = (n + 1, 0) := by
  unfold rdZ; rw [rdB_at h, if_neg (by simp)]
theorem rdU_at {l r : List Nat} {n v : Nat} {lim : Int} (h : l.drop n = uB v ++ r) (h1 : v < 4294967296) (h2 : (v : Int) ≤ lim) : rdU l lim n 0 = (v, n + (uB v).length, 0) := by
  unfold rdU
  rw [h, getU_uB h1, if_neg (by simp), if_neg (by simp), if_neg (by simp; omega)]
theorem rdS_at {l r : List Nat} {n bits : Nat} (hb : bits = 32 ∨ bits = 64) {v : Int} (h : l.drop n = sB v ++ r) (h1 : -9223372036854775808 ≤ v) (h2 : v ≤ 9223372036854775807) (h3 : bits = 32 → -2147483648 ≤ v ∧ v ≤ 2147483647) : rdS l bits n = (v, n + (sB v).length, 0) := by
  unfold rdS
  rw [h, getS_sB hb h1 h2 h3]
theorem rdL_at {l r : List Nat} {n : Nat} {L : List Int} (h : l.drop n = (L.flatMap fun z => uB z.toNat) ++ r) (hL : ∀ z ∈ L, 0 ≤ z ∧ z ≤ 1000) : ∀ m, m ≤ L.length → rdL l m n 0 = (L.take m, n + ((L.take m).flatMap fun z => uB z.toNat).length, 0)
  | 0, _ => by simp [rdL]
  | m + 1, hm => by
    have ih := rdL_at h hL m (by omega)
    obtain ⟨y, hy⟩ : ∃ y, L[m]? = some y := ⟨_, List.getElem?_eq_getElem (by omega)⟩
    obtain ⟨hy0, hy1⟩ := hL y (List.mem_of_getElem? hy)
    obtain ⟨z, rfl⟩ := Int.eq_ofNat_of_zero_le hy0
    have hd : l.drop (n + ((L.take m).flatMap fun z => uB z.toNat).length) = uB z ++ (((L.drop (m + 1)).flatMap fun z => uB z.toNat) ++ r) := by
      refine drop_on ?_
      rw [h, ← List.append_assoc, ← List.append_assoc]
      congr 1
      have : L = L.take m ++ (z : Int) :: L.drop (m + 1) := by
        rw [List.getElem?_eq_getElem (by omega)] at hy
        rw [← Option.some.inj hy, ← List.drop_eq_getElem_cons (by omega), List.take_append_drop]
      conv => lhs; rw [this]
      simp [List.flatMap_append]
    rw [rdL, ih]
    dsimp only
    rw [rdU_at hd (by omega) hy1, List.take_add_one, hy]
    simp [List.flatMap_append, Nat.add_assoc]
theorem may8 {x : Ins} (h : mayN x = true) (hf : (formN x.op == 8) = true) : -2147483648 ≤ x.a ∧ x.a ≤ 2147483647 := by
  rw [beq_iff_eq] at hf
  simp [mayN, hf, bt2_eq] at h
  omega
theorem may17 {x : Ins} (h : mayN x = true) (hf : (formN x.op == 1 || formN x.op == 7) = true) : x.a = 0 := by
  unfold mayN at h
  split at h
  · cases h
  · first | (rw [if_pos hf] at h; simpa using h) | simpa using h
theorem may_b {x : Ins} (h : mayN x = true) (hf : formN x.op ≠ 6) : x.b = 0 := by
  unfold mayN at h
  split at h
  · cases h
  · next hp => 
    have h6 : (formN x.op != 6) = true := by simpa using hf
    unfold preN at hp
    rw [if_pos h6] at hp
    split at hp
    · simp at hp; exact hp.2
    · simpa using hp
theorem may_l {x : Ins} (h : mayN x = true) (hf : formN x.op ≠ 4) : x.l = [] := by
  unfold mayN at h
  split at h
  · cases h
  · next hp =>
    have h4 : (formN x.op != 4) = true := by simpa using hf
    unfold preN at hp
    rw [if_pos h4] at hp
    split at hp
    · simp at hp
    · next hq => simpa using hq
/-- an instruction's bytes are told as it -/
theorem get_put {x : Ins} (hx : x.Ok) (h : mayN x = true) (rest : List Nat) : getP (putN x ++ rest) = (x, (putN x).length, 0) := by
  have f1 := may_op h
  have f2 := may2 h
  have f3 := may3 h
  have f4 := may4 h
  have f5 := may5 h
  have f6 := may6 h
  have f8 := may8 h
  have f17 := may17 h
  have fb := may_b h
  have fl := may_l h
  have f9 : -9223372036854775808 ≤ x.a ∧ x.a ≤ 9223372036854775807 := ⟨hx.2.2.1, hx.2.2.2.1⟩
  have f0 : (formN x.op == 0) = false := by
    by_cases h0 : formN x.op = 0
    · rw [may_none h0] at h; cases h
    · simpa using h0
  obtain ⟨op, a, b, L⟩ := x
  dsimp only at f1 f2 f3 f4 f5 f6 f8 f9 f17 fb fl f0
  obtain ⟨op, rfl⟩ := Int.eq_ofNat_of_zero_le f1.1
  have hp0 : putN ⟨(op : Int), a, b, L⟩ = op :: putT ⟨(op : Int), a, b, L⟩ := rfl
  obtain ⟨l, hl⟩ : ∃ l, l = putN ⟨(op : Int), a, b, L⟩ ++ rest := ⟨_, rfl⟩
  rw [← hl]
  have hB : rdB l 0 0 = (op, 1, 0) := rdB_at (r := putT ⟨(op : Int), a, b, L⟩ ++ rest) (by rw [hl, hp0]; rfl)
  have h1 : l.drop 1 = putT ⟨(op : Int), a, b, L⟩ ++ rest := by rw [hl, hp0]; rfl
  unfold getP
  rw [hB, hp0]
  dsimp only
  rw [f0]
  simp only [Bool.false_eq_true, if_false, bne_self_eq_false]
  unfold getT
  unfold putT at h1 ⊢
  by_cases g2 : (formN (op : Int) == 2) = true
  · simp only [g2, if_true] at h1 ⊢
    obtain ⟨k1, k2⟩ := f2 g2
    have e2 : formN (op : Int) = 2 := by simpa using g2
    obtain rfl := fb (by omega)
    obtain rfl := fl (by omega)
    have hk : rdK l 1 0 = (a, 2, 0) := by
      unfold rdK
      rw [rdB_at h1, kindI_eq]
      have : a = 0 ∨ a = 1 ∨ a = 2 := by omega
      rcases this with rfl | rfl | rfl <;> rfl
    rw [hk]
    rfl
  simp only [g2, Bool.false_eq_true, if_false] at h1 ⊢
  by_cases g3 : (formN (op : Int) == 3) = true
  · simp only [g3, if_true] at h1 ⊢
    obtain ⟨k1, k2⟩ := f3 g3
    have e2 : formN (op : Int) = 3 := by simpa using g3
    obtain rfl := fb (by omega)
    obtain rfl := fl (by omega)
    obtain ⟨a, rfl⟩ := Int.eq_ofNat_of_zero_le k1
    rw [Int.toNat_natCast] at h1 ⊢
    rw [rdU_at h1 (by omega) k2]
    simp [fin, Nat.add_comm]
  simp only [g3, Bool.false_eq_true, if_false] at h1 ⊢
  by_cases g5 : (formN (op : Int) == 5) = true
  · simp only [g5, if_true] at h1 ⊢
    obtain ⟨k1, k2⟩ := f5 g5
    have e2 : formN (op : Int) = 5 := by simpa using g5
    obtain rfl := fb (by omega)
    obtain rfl := fl (by omega)
    obtain ⟨a, rfl⟩ := Int.eq_ofNat_of_zero_le k1
    rw [Int.toNat_natCast] at h1 ⊢
    rw [List.append_assoc] at h1
    rw [rdU_at h1 (by omega) k2]
    dsimp only
    rw [rdZ_at (drop_on h1)]
    simp [fin]; omega
  simp only [g5, Bool.false_eq_true, if_false] at h1 ⊢
  by_cases g4 : (formN (op : Int) == 4) = true
  · simp only [g4, if_true] at h1 ⊢
    obtain ⟨⟨k1, k2⟩, k3, k4⟩ := f4 g4
    have e2 : formN (op : Int) = 4 := by simpa using g4
    obtain rfl := fb (by omega)
    obtain ⟨a, rfl⟩ := Int.eq_ofNat_of_zero_le k1
    rw [Int.toNat_natCast] at h1 ⊢
    rw [List.append_assoc, List.append_assoc] at h1
    have h2 := drop_on h1
    rw [rdU_at h1 (by omega) (by omega)]
    dsimp only
    rw [rdL_at h2 k4 L.length (Nat.le_refl _), List.take_length]
    dsimp only
    rw [rdU_at (drop_on h2) (by omega) k2]
    simp [fin]; omega
  simp only [g4, Bool.false_eq_true, if_false] at h1 ⊢
  have e4 : formN (op : Int) ≠ 4 := by simpa using g4
  obtain rfl := fl e4
  by_cases g6 : (formN (op : Int) == 6) = true
  · simp only [g6, if_true] at h1 ⊢
    obtain ⟨k1, k2, k3, k4⟩ := f6 g6
    obtain ⟨a, rfl⟩ := Int.eq_ofNat_of_zero_le k1
    obtain ⟨b, rfl⟩ := Int.eq_ofNat_of_zero_le k3
    rw [Int.toNat_natCast, Int.toNat_natCast] at h1 ⊢
    rw [List.append_assoc] at h1
    rw [rdU_at h1 (by omega) k2]
    dsimp only
    rw [rdU_at (drop_on h1) (by omega) k4]
    simp [fin]; omega
  simp only [g6, Bool.false_eq_true, if_false] at h1 ⊢
  have e6 : formN (op : Int) ≠ 6 := by simpa using g6
  obtain rfl := fb e6
  by_cases g7 : (formN (op : Int) == 7) = true
  · simp only [g7, if_true] at h1 ⊢
    obtain rfl := f17 (by rw [g7]; simp)
    rw [rdZ_at h1]
    simp [fin]
  simp only [g7, Bool.false_eq_true, if_false] at h1 ⊢
  by_cases g8 : (formN (op : Int) == 8) = true
  · simp only [g8, Bool.true_or, if_true] at h1 ⊢
    obtain ⟨k1, k2⟩ := f8 g8
    rw [rdS_at (.inl rfl) h1 f9.1 f9.2 (fun _ => ⟨k1, k2⟩)]
    simp [fin, Nat.add_comm]
  simp only [g8, Bool.false_eq_true, if_false] at h1 ⊢
  by_cases g9 : (formN (op : Int) == 9) = true
  · simp only [g9, Bool.or_true, if_true] at h1 ⊢
    rw [rdS_at (.inr rfl) h1 f9.1 f9.2 (fun hc => by cases hc)]
    simp [fin, Nat.add_comm]
  simp only [g9, Bool.or_false, Bool.false_eq_true, if_false] at h1 ⊢
  have ha : a = 0 := by
    by_cases g1 : formN (op : Int) = 1
    · exact f17 (by rw [g1]; rfl)
    · exfalso
      have : mayN ⟨(op : Int), a, 0, []⟩ = false := by
        unfold mayN
        have g1' : (formN (op : Int) == 1) = false := by simpa using g1
        simp [g1', g2, g3, g4, g5, g6, g7, g8, g9]
      rw [this] at h; cases h
  subst ha
  simp [fin]
end Go.Proofs.YthhlimmcncbopaaGreat
/-
  What the statements of instructions call: Put onto nothing, Short, Cut.
-/
namespace Go.Proofs.YthhlimmcncbopaaGreat
open Go.RowKit Go.ChangeShapes Go.WideShapes Go.ChangeAt Go.Deep
attribute [local irreducible] SW RS RD AThen ABlock
def cutN (x : Ins) : Ins := ⟨x.op, x.a, x.b, x.l.take 55⟩
theorem law_cut (x : Ins) (hx : x.l.length ≤ maxLen) : SCall Tryz.prog 42 [.agg (iv .any x)] [] (fun y σ => ∃ q, y = .agg (io q (cutN x)) ∧ σ = [(q, .arr 3 1 ((cutN x).l.map encI))]) := by
  unfold maxLen at hx
  refine scall_of (n := 34) (ks := [0, 1, 2, 3, 4, 20]) Tryz.func42 rfl rfl (Nat.le_of_ble_eq_true rfl) ?_
  unfold iv
  refine sq3 ?_
  apply bx; rfl; rfl; (exact zcT); rfl; refine freshT fun r1 h1 => ?_; repeat rcases h1 with ⟨_, h1⟩
  apply al; rfl; (exact zcT); refine freshT fun r2 h2 => ?_; repeat rcases h2 with ⟨_, h2⟩
  refine leT ?_
  refine sq63 ?_
  refine sq11 ?_
  refine sq11 ?_
  refine z93 ?_
  apply al; rfl; (exact zcT); refine freshT fun r3 h3 => ?_; repeat rcases h3 with ⟨_, h3⟩
  apply stp; rfl; rfl; rfl; rfl; (exact sputT)
  refine leT ?_
  refine an ?_
  refine sw_virt_box (ks := [0, 1, 2, 3, 4, 20]) r3 3 3 1 (by decide) sgT rfl (by decide) fun q hq => ?_
  simp only [fresh_cons, fresh_nil, and_true] at hq; repeat rcases hq with ⟨_, hq⟩
  apply Exists.intro; apply And.intro; (exact ssetT)
  refine sq8 ?_
  refine lp (β := Nat × Nat) (fun b => ⟨[(1, .ptr r1 0), (2, .ptr r2 0), (3, .ptr r3 0), (4, .int .i64 b.2)], [(b.1, .arr 3 1 ((x.l.take b.2).map encI)), (r3, .box 45 [.int .i64 x.op, .int .i64 x.a, .int .i64 x.b, .own b.1 0 (x.l.take b.2).length]), (r2, .box 45 [.int .i64 0, .int .i64 0, .int .i64 0, .ro 0 [] .nil]), (r1, .box 45 [.int .i64 x.op, .int .i64 x.a, .int .i64 x.b, .ro 1 (x.l.map encI) .any])]⟩) (fun b => (Nq b.1 r3 ∧ Nq b.1 r2 ∧ Nq b.1 r1) ∧ b.2 ≤ x.l.length ∧ b.2 ≤ 55) (fun b => 55 - b.2) (q, 0) (by (exact sgoT)) ⟨⟨by (exact nqT), by (exact nqT), by (exact nqT)⟩, by omega, by omega⟩ ?_
  rintro ⟨p, j⟩ ⟨⟨hp1, hp2, hp3⟩, hj, hj5⟩
  dsimp only at hp1 hp2 hp3 hj hj5 ⊢
  refine sq7 ?_
  refine sq11 ?_
  refine z14 ?_
  refine lo (lop_lss (E rfl) (E rfl)) rfl ?_
  refine sq67 ?_
  refine z69 ?_
  refine z7 ?_
  refine sq4 ?_
  refine sw_cond rfl (fun h1 => ?_) (fun h1 => ?_)
  · have hlt : j < x.l.length ∧ j < 55 := by simp at h1; omega
    obtain ⟨hlt, hlt5⟩ := hlt
    obtain ⟨y, hy⟩ : ∃ y, x.l[j]? = some y := ⟨_, List.getElem?_eq_getElem hlt⟩
    have hn : x.l.take (j + 1) = x.l.take j ++ [y] := by rw [List.take_add_one, hy]; rfl
    have hlj : (x.l.take j).length = j := by simp; omega
    refine ctlT ?_
    refine rgD [(0, true), (1, true), (2, true), (3, true), (4, true), (5, true), (6, true), (7, false), (8, false), (9, true), (10, false)] ?_
    refine sq22 ?_
    refine sq22 ?_
    refine dlo rfl (lop_move (E rfl)) rfl ?_
    refine z56 ?_
    refine z57 ?_
    refine z97 ?_; refine freshT fun r30 h30 => ?_; repeat rcases h30 with ⟨_, h30⟩
    apply dap (es' := (x.l.take j ++ [y]).map encI) (len' := (x.l.take j ++ [y]).length); rfl; infer_instance; infer_instance; rfl; rfl; (exact sgT)
    · simp
    · exact .inr (.inr ⟨_, _, _, _, _, rfl, sgT, by simp, rfl⟩)
    · simp [encI]
    · simp
    · simp [maxLen]; omega
    · simp; omega
    · rfl
    · exact hbtT
    refine apnT fun r31 h31 => ?_; repeat rcases h31 with ⟨_, h31⟩
    refine z73 ?_
    refine z95 ?_
    refine deT ?_
    refine sq7 ?_
    refine z17 ?_
    refine sq2 ?_
    refine ⟨(r31, j + 1), ⟨⟨by show Nq r31 r3; (exact nqT), by show Nq r31 r2; (exact nqT), by show Nq r31 r1; (exact nqT)⟩, hlt, hlt5⟩, by show 55 - (j + 1) < 55 - j; omega, ?_⟩
    dsimp only
    rw [hn]
    exact sgoT
  · have he : x.l.take j = x.l.take 55 := by
      have : j = x.l.length ∨ j = 55 := by simp at h1; omega
      rcases this with rfl | rfl
      · rw [List.take_of_length_le (Nat.le_refl _), List.take_of_length_le (by omega)]
      · rfl
    rw [he]
    refine sq3 ?_
    refine z99 ?_
    apply stp; rfl; rfl; rfl; rfl; (exact sputT)
    refine sq4 ?_
    refine aend_n ?_
    apply aend; exact resT
    · exact ⟨p, rfl, rfl⟩
    · exact stleT
end Go.Proofs.YthhlimmcncbopaaGreat
/-
  The symbolic layer: calls and appends in their short forms. No program is named here.
-/
namespace Go.Proofs.YthhlimmcncbopaaGreat
open Go.RowKit Go.ChangeShapes Go.WideShapes Go.ChangeAt Go.Deep
/-- an encoding that lends nothing -/
class NoE {α : Type} (enc : α → List AV) : Prop where
  no : ∀ a, ∀ x ∈ enc a, NoF x
theorem enof_map {α : Type} {enc : α → List AV} [h : NoE enc] {e : TypeId} {sz : Nat} {l : List α} : ENoF (.arr e sz (l.map enc)) := by
  intro y hy x hx
  obtain ⟨a, -, rfl⟩ := List.mem_map.1 hy
  exact h.no a x hx
instance : NoE encU := ⟨fun a x hx => by simp [encU] at hx; subst hx; exact NoF.int⟩
theorem noT {P : Prop} (h : P := by
    intro x σ' h
    repeat (refine Exists.elim h ?_; clear h; intro _ h)
    first | (obtain ⟨rfl, rfl⟩ := h) | (obtain ⟨_, rfl, rfl⟩ := h) | (obtain ⟨_, _, rfl, rfl⟩ := h)
    refine ⟨nofT, ?_⟩
    intro p hp
    simp only [List.mem_cons, List.not_mem_nil, or_false] at hp
    repeat' (first | (rcases hp with rfl | hp) | (cases hp; done))
    all_goals first | exact enof_map | exact enof_nil | exact enof_box nofT) : P := h

section
variable {P : Program} {n : Nat} {ops : Array Oper} {rest : List Oper} {fr : Fr} {σ : Sto} {K : ASt → Prop} {op : Op} {ty t t' : TypeId} {pos : String} {af : Array Edge} {x y : Operand} {d : Nat} {f : FuncId} {xs : List Operand} {ats : Array TypeId} {args : List AV}
theorem puA {v : AV} (hf : ∀ args w, (callFunc f args).run P w = .ok (.enter f args) w) (h : SCall P f args [] (fun x σ' => x = v ∧ σ' = [])) (hd : Nat.ble (d + 1) n = true)
    (hargs : ArgsIf ⟨fr, σ⟩ true (σ.map (·.1)) xs args) (hno : NoF v) (hK : RS P n ops rest ⟨(d, v) :: fr, σ⟩ K) : RS P n ops (⟨some d, .call { callee := .value (.func f), args := xs.toArray, argTypes := ats }, ty, pos, af, none⟩ :: rest) ⟨fr, σ⟩ K := pu _ hf h hd hargs hno hK
theorem pugA {j dj : Nat} {want b : Bool} {v : AV} (hj : (ops[j]?).bind (·.dst) = some dj) (hb : fget fr dj = some (.bool b)) (hf : ∀ args w, (callFunc f args).run P w = .ok (.enter f args) w)
    (h : (b == want) = true → SCall P f args [] (fun x σ' => x = v ∧ σ' = [])) (hd : Nat.ble (d + 1) n = true) (hargs : ArgsIf ⟨fr, σ⟩ (b == want) (σ.map (·.1)) xs args) (hno : NoF v) (hK : RS P n ops rest ⟨(d, .when (b == want) v) :: fr, σ⟩ K) :
    RS P n ops (⟨some d, .call { callee := .value (.func f), args := xs.toArray, argTypes := ats }, ty, pos, af, some (j, want)⟩ :: rest) ⟨fr, σ⟩ K := pug _ hj hb hf h hd hargs hno hK
theorem clA {R : AV → Sto → Prop} (hf : ∀ args w, (callFunc f args).run P w = .ok (.enter f args) w) (h : SCall P f args [] R) (hd : Nat.ble (d + 1) n = true)
    (hargs : ArgsBor ⟨fr, σ⟩ (σ.map (·.1)) xs args) (hno : ∀ x σ', R x σ' → NoF x ∧ ∀ p ∈ σ', ENoF p.2) (hK : ∀ x σ', R x σ' → (∀ p ∈ σ', Fresh p.1 σ) → RS P n ops rest ⟨(d, x) :: fr, σ' ++ σ⟩ K) :
    RS P n ops (⟨some d, .call { callee := .value (.func f), args := xs.toArray, argTypes := ats }, ty, pos, af, none⟩ :: rest) ⟨fr, σ⟩ K := cl _ hf h hd hargs hno hK
/-- append onto an own row, all of it -/
theorem srcT {P : Prop} (h : P := by (first | exact .inl ⟨_, rfl⟩ | exact .inr (.inr ⟨_, _, _, _, _, rfl, sgT, by simp, rfl⟩) | exact .inr (.inl ⟨_, _, rfl, rfl⟩))) : P := h
theorem newT {P : Prop} (h : P := by (first | rfl | (simp; done) | (simp only [List.map_append, List.drop_zero]; rfl) |  (simp only [List.drop_zero, List.map_append, List.map_cons, List.map_nil]; congr 1; exact List.take_of_length_le (by simp)) | (simp only [List.drop_zero, List.map_append]; congr 1; exact List.take_of_length_le (by first | (simp; done) | omega)))) : P := h
theorem lenT {P : Prop} (h : P := by (first | rfl | omega | (simp; done) | (simp; omega) | (simp [maxLen]; omega))) : P := h
theorem apA {e : TypeId} [Ty P t (.slice e)] {sz by_ : Nat} {zv : Value} [Tz P e sz by_ zv] {r len : Nat} {es ys : List (List AV)} (es' : List (List AV)) (len' : Nat)
    (hK : ∀ r', Fresh r' (sdrop [r] σ) → ∃ σ', SSet σ r (.arr e sz es) r' (.arr e sz es') σ' ∧ RS P n ops rest ⟨(d, .own r' 0 len') :: fr, σ'⟩ K)
    (hz : zv.cells.size = sz := by rfl) (hb : aev ⟨fr, σ⟩ x = some (.own r 0 len) := by rfl) (hg : sget σ r = some (.arr e sz es) := by exact sgT) (hlen : len = es.length := by exact lenT) (hy : Src ⟨fr, σ⟩ y sz ys := by exact srcT)
    (he : es ++ ys = es' := by exact newT) (hl' : len' = len + ys.length := by exact lenT) (hmax : len' ≤ maxLen := by (simp [maxLen]; try omega)) (hby : len' * by_ ≤ 140737488355328 := by (simp; try omega)) (hd : Nat.ble (d + 1) n = true := by rfl) :
    RS P n ops (⟨some d, .call { callee := .builtin .append, args := #[x, y], argTypes := #[t, t] }, ty, pos, af, none⟩ :: rest) ⟨fr, σ⟩ K := ap hz hb hg hlen hy he hl' hmax hby hd hK

/-- a row that a slot's value tells of is written by nobody from here on: the slot reads as x' -/
theorem sgo_fzv {j q : Nat} {v v' : AV} {e : Ent} {σ' : Sto} (hx : fget fr j = some v) (hd : SDel σ q e σ') (hb : Bor σ [q] v v') : SGo ⟨fr, σ⟩ ⟨(j, v') :: fr, σ'⟩ := by
  refine sgo_freeze [q] (fun i x' hi => ?_) (fun p hp => ?_)
  · simp only [fget] at hi
    split at hi
    · next h => subst h; obtain rfl := Option.some.inj hi; exact ⟨_, hx, hb⟩
    · exact ⟨x', hi, .refl _⟩
  · obtain ⟨h1, h2⟩ := hd.sub p hp
    exact ⟨by simpa using h2, p.2, h1, .refl _⟩
theorem fzv {j q : Nat} {v v' : AV} {e : Ent} {σ' : Sto} (hx : fget fr j = some v) (hd : SDel σ q e σ') (hb : Bor σ [q] v v') (hK : RS P n ops rest ⟨(j, v') :: fr, σ'⟩ K) : RS P n ops rest ⟨fr, σ⟩ K := rs_go (sgo_fzv hx hd hb) hK
theorem fzvs {ks : List Nat} {c : Code} {Q : Exit → ASt → Prop} {j q : Nat} {v v' : AV} {e : Ent} {σ' : Sto} (hx : fget fr j = some v) (hd : SDel σ q e σ') (hb : Bor σ [q] v v') (hK : SW P n ks c ⟨(j, v') :: fr, σ'⟩ Q) : SW P n ks c ⟨fr, σ⟩ Q := sw_go (sgo_fzv hx hd hb) hK
/-- an own row, all of it, as a list that is read -/
theorem bor_own {q len sz : Nat} {et : TypeId} {es : List (List AV)} (hg : sget σ q = some (.arr et sz es)) (hl : len = es.length) : Bor σ [q] (.own q 0 len) (.ro sz es .any) :=
  bown List.mem_cons_self hg (by omega) (by subst hl; simp)

/-! ### the same in a drawn region -/
variable {listed : Array Bool} {todo : List (Nat × Bool)} {held : List (Nat × List Nat)} {i : Nat}
theorem dapA {e : TypeId} {sz by_ : Nat} {zv : Value} {r len : Nat} {es ys : List (List AV)} (hi : ops[i]? = some ⟨some d, .call { callee := .builtin .append, args := #[x, y], argTypes := #[t, t] }, ty, pos, af, none⟩) (es' : List (List AV)) (len' : Nat)
    (hK : ∀ r', Fresh r' (sdrop [r] σ) → ∃ σ', SSet σ r (.arr e sz es) r' (.arr e sz es') σ' ∧ RD P n ops (listed.setIfInBounds i true) todo held ⟨(d, .own r' 0 len') :: fr, σ'⟩ K)
    (i1 : Ty P t (.slice e) := by infer_instance) (i2 : Tz P e sz by_ zv := by infer_instance) (hz : zv.cells.size = sz := by rfl) (hx : aev ⟨fr, σ⟩ x = some (.own r 0 len) := by rfl) (hg : sget σ r = some (.arr e sz es) := by exact sgT) (hlen : len = es.length := by exact lenT) (hy : Src ⟨fr, σ⟩ y sz ys := by exact srcT)
    (he : es ++ ys = es' := by exact newT) (hl' : len' = len + ys.length := by exact lenT) (hmax : len' ≤ maxLen := by (simp [maxLen]; try omega)) (hby : len' * by_ ≤ 140737488355328 := by (simp; try omega)) (hd : Nat.ble (d + 1) n = true := by rfl) (hb : HB ops i (σ.map (·.1)) [r] held := by exact hbtT) :
    RD P n ops listed ((i, false) :: todo) held ⟨fr, σ⟩ K := dap hi i1 i2 hz hx hg hlen hy he hl' hmax hby hd hb hK
end
/-
  Plain words on what instructions are written as: their bytes, how many, no two alike.
-/
theorem if_and {p q : Bool} : (if p = true then q else false) = (p && q) := by cases p <;> rfl
theorem if_or {p q : Bool} : (if p = true then true else q) = (p || q) := by cases p <;> rfl
theorem bT {H R : Prop} (a : H) (h : H → R := by intro h; (try simp only [if_and, if_or] at h); simp only [Bool.and_eq_true, Bool.or_eq_true, Bool.and_eq_false_iff, Bool.or_eq_false_iff, decide_eq_true_eq, decide_eq_false_iff_not, Bool.not_eq_true', Bool.not_eq_false', bne_iff_ne, beq_iff_eq, ne_eq, Bool.not_eq_eq_eq_not, Bool.not_true, Bool.not_false, bne_eq_false_iff_eq, beq_eq_false_iff_ne] at h; exact h) : R := h a
instance : NoE encI := ⟨fun a x hx => by simp [encI] at hx; subst hx; exact NoF.int⟩
theorem putT_lt (x : Ins) : ∀ b ∈ putT x, b < 256 := by
  have hf : ∀ l : List Int, ∀ b ∈ (l.flatMap fun n => uB n.toNat), b < 256 := by
    intro l b hb
    obtain ⟨n, -, hn⟩ := List.mem_flatMap.1 hb
    exact uB_lt _ b hn
  intro b hb
  unfold putT at hb
  split at hb
  · rw [List.mem_singleton.1 hb]; unfold kindB; split <;> (try split) <;> decide
  split at hb
  · exact uB_lt _ b hb
  split at hb
  · rcases List.mem_append.1 hb with h | h
    · exact uB_lt _ b h
    · rw [List.mem_singleton.1 h]; decide
  split at hb
  · rcases List.mem_append.1 hb with h | h
    · rcases List.mem_append.1 h with h | h
      · exact uB_lt _ b h
      · exact hf _ b h
    · exact uB_lt _ b h
  split at hb
  · rcases List.mem_append.1 hb with h | h
    · exact uB_lt _ b h
    · exact uB_lt _ b h
  split at hb
  · rw [List.mem_singleton.1 hb]; decide
  split at hb
  · exact sB_lt _ x.a (Nat.le_refl _) b hb
  · simp at hb
theorem putN_lt {x : Ins} (hm : mayN x = true) : ∀ b ∈ putN x, b < 256 := by
  intro b hb
  rcases List.mem_cons.1 hb with rfl | hb
  · have := may_op hm; omega
  · exact putT_lt x b hb
theorem putN_len {x : Ins} (hx : x.Ok) (hm : mayN x = true) : (putN x).length ≤ 200 := by
  unfold putN
  rw [List.length_cons]
  suffices (putT x).length ≤ 199 by omega
  unfold putT
  split
  · simp
  split
  · next h => have := may3 hm h; have := uB_len 1 x.a.toNat (by omega); omega
  split
  · next h => have := may5 hm h; have := uB_len 1 x.a.toNat (by omega); simp; omega
  split
  · next h =>
    obtain ⟨h1, h2, h3⟩ := may4 hm h
    have := uB_len 1 x.a.toNat (by omega)
    have := uB_len 0 x.l.length (by omega)
    have := flat_len h3
    simp only [List.length_append]
    omega
  split
  · next h => have := may6 hm h; have := uB_len 0 x.a.toNat (by omega); have := uB_len 4 x.b.toNat (by omega); simp; omega
  split
  · simp
  split
  · obtain ⟨-, -, h1, h2, -⟩ := hx
    have := sB_len 9 x.a (by omega) (by omega)
    omega
  · simp
theorem eqN_iff {x y : Ins} : eqN x y = true ↔ x = y := by
  cases x; cases y
  simp [eqN]
end Go.Proofs.YthhlimmcncbopaaGreat
/-
  Body: instructions whose lists are cut, not too many.
-/
namespace Go.Proofs.YthhlimmcncbopaaGreat
open Go.RowKit Go.ChangeShapes Go.WideShapes Go.ChangeAt Go.Deep
attribute [local irreducible] SW RS RD AThen ABlock
def bodyN (l : List Ins) (n : Nat) : List Ins := (l.take n).map cutN
theorem bodyN_next {l : List Ins} {j : Nat} {x : Ins} (h : l[j]? = some x) : bodyN l (j + 1) = bodyN l j ++ [cutN x] := by
  unfold bodyN; rw [List.take_add_one, h]; simp
theorem bodyN_len {l : List Ins} {j : Nat} (h : j ≤ l.length) : (bodyN l j).length = j := by unfold bodyN; simp; omega
theorem bor_io {q : Nat} {x : Ins} {e : TypeId} {σ : Sto} (h : sget σ q = some (.arr e 1 (x.l.map encI))) : Bor σ [q] (.agg (io q x)) (.agg (iv .any x)) :=
  bagg (.cons (.refl _) (.cons (.refl _) (.cons (.refl _) (.cons (bor_own h (by simp)) .nil))))
theorem law_body (l : List Ins) (hl : l.length ≤ maxLen) (hw : ∀ x ∈ l, x.l.length ≤ maxLen) (n : Nat) (hn : n ≤ 1000) : SCall Tryz.prog 20 [.ro 4 (l.map (iv .any)) .any, .int .i64 n] []
    (fun y σ => ∃ q, y = .own q 0 (bodyN l n).length ∧ σ = [(q, .arr 45 4 ((bodyN l n).map (iv .any)))]) := by
  unfold maxLen at hl
  refine scall_of (n := 27) (ks := [0, 1, 4, 5, 6, 15]) Tryz.func20 rfl rfl (Nat.le_of_ble_eq_true rfl) ?_
  refine sq65 ?_
  refine sq25 ?_
  refine sq2 ?_
  refine sw_virt 5 45 4 (by decide) rfl (by decide) (freshT fun q0 hq0 => ?_); repeat rcases hq0 with ⟨_, hq0⟩
  refine lp (β := Nat × Nat) (fun b => ⟨[(0, .ro 4 (l.map (iv .any)) .any), (1, .int .i64 n), (5, .own b.1 0 (bodyN l b.2).length), (6, .int .i64 b.2)], [(b.1, .arr 45 4 ((bodyN l b.2).map (iv .any)))]⟩) (fun b => b.2 ≤ n ∧ b.2 ≤ l.length) (fun b => n - b.2) (q0, 0) sgoT ⟨by omega, by omega⟩ ?_
  rintro ⟨q, j⟩ ⟨hj, hjl⟩
  dsimp only at hj hjl ⊢
  refine sq18 ?_
  refine z14 ?_
  refine sq87 ?_
  refine z109 ?_
  refine z110 ?_
  refine sq91 ?_
  refine sw_cond rfl (fun g3 => ?_) (fun g3 => ?_)
  · replace g3 := bT g3
    obtain ⟨x, hx⟩ : ∃ x, l[j]? = some x := ⟨_, List.getElem?_eq_getElem (by omega)⟩
    have hxm := hw x (List.mem_of_getElem? hx)
    have hnx := bodyN_next hx
    have hbl := bodyN_len hjl
    refine sq18 ?_
    refine sq88 ?_
    refine cw [] Tryz.call42 (law_cut x hxm) rfl argsleT stleT ?_
    rintro _ σ' ⟨q2, rfl, rfl⟩ h23
    replace h23 := cnewT h23; repeat rcases h23 with ⟨_, h23⟩
    apply rs_sto; exact nflT
    refine fzv (j := 23) rfl sdelT (bor_io sgT) ?_
    refine z1 ?_; refine freshT fun r24 h24 => ?_; repeat rcases h24 with ⟨_, h24⟩
    refine apA ((bodyN l j ++ [cutN x]).map (iv .any)) (bodyN l j ++ [cutN x]).length ?_
    refine apnT fun r25 h25 => ?_; repeat rcases h25 with ⟨_, h25⟩
    refine sq37 ?_
    refine z17 ?_
    refine sq2 ?_
    refine ⟨(r25, j + 1), ⟨by show j + 1 ≤ n; omega, by show j + 1 ≤ l.length; omega⟩, by show n - (j + 1) < n - j; omega, ?_⟩
    dsimp only
    rw [hnx]
    exact sgoT
  have he : bodyN l j = bodyN l n := by
    have : j = n ∨ j = l.length := by replace g3 := bT g3; omega
    rcases this with rfl | rfl
    · rfl
    · unfold bodyN; rw [List.take_of_length_le (Nat.le_refl _), List.take_of_length_le hj]
  rw [he]
  refine sq29 ?_
  apply aend; exact resT
  · exact ⟨q, rfl, rfl⟩
  · exact stleT
end Go.Proofs.YthhlimmcncbopaaGreat
/-
  From the reading of an argument as data to its representation; the close of a statement 'true, and every argument as it was'. No program is named here.
-/
namespace Go.Proofs.YthhlimmcncbopaaGreat
open Go.RowKit Go.ChangeShapes Go.WideShapes Go.ChangeAt Go.Deep
theorem read_of {P : Program} {f : Func} (h : (f.params.toList.all fun t => P.readableRec t && decide (t < P.types.size)) = true) : ∀ t ∈ f.params.toList, P.readableRec t = true ∧ t < P.types.size := by
  intro t ht
  have := List.all_eq_true.1 h t ht
  simpa using this

/-
  From the reading of an argument as data to an abstract value; the close of a statement 'true, and every argument as it was'. No program is named here.
-/
def VR0 (W : World) : AV → Value → Prop := VR (fun _ => none) (fun b => b < W.heap.size) W

section
variable {P : Program} {t : TypeId}
end

/-- a call from a world where nothing is one's own -/
theorem law_run {P : Program} {f : FuncId} {args : List AV} (h : SCall P f args [] (fun x _ => x = .bool true)) {W : World} {vs : List Value} (hl : vs.length = args.length) (hv : ∀ (i : Nat) (x : AV) (v : Value), args[i]? = some x → vs[i]? = some v → VR0 W x v) :
    Calls P f vs.toArray W fun e w' => e = .returned (.bool true) ∧ Below W.heap.size W w' := by
  refine (h (fun _ => none) (fun b => b < W.heap.size) 0 W vs hl hv ⟨by simp, by simp, fun g ⟨p, hp, _⟩ => by simp at hp, fun _ h => h, fun _ _ => rfl⟩).mono ?_
  rintro e w' ⟨v, x, M', F', N', σ', rfl, he, hvx, _, rfl⟩
  cases hvx
  exact ⟨rfl, he.only.below (Nat.le_refl _) fun i _ ⟨p, hp, _⟩ => by simp at hp⟩
theorem vs_nil {W : World} : ∀ (i : Nat) (x : AV) (v : Value), ([] : List AV)[i]? = some x → ([] : List Value)[i]? = some v → VR0 W x v := fun i x v h => by simp at h
theorem vs_cons {W : World} {x : AV} {v : Value} {xs : List AV} {vs : List Value} (h : VR0 W x v) (k : ∀ (i : Nat) (x : AV) (v : Value), xs[i]? = some x → vs[i]? = some v → VR0 W x v) :
    ∀ (i : Nat) (x' : AV) (v' : Value), (x :: xs)[i]? = some x' → (v :: vs)[i]? = some v' → VR0 W x' v' := by
  intro i x' v' hx hv
  match i with
  | 0 => simp at hx hv; subst hx hv; exact h
  | i + 1 => exact k i x' v' (by simpa using hx) (by simpa using hv)

/-
  Plain words of instructions one behind the other.
-/
theorem flat_put_len : ∀ {M : List Ins}, (∀ x ∈ M, x.Ok ∧ mayN x = true) → (M.flatMap putN).length ≤ 200 * M.length
  | [], _ => by simp
  | x :: M, h => by
    have ih := flat_put_len (M := M) fun y hy => h y (List.mem_cons_of_mem _ hy)
    have h1 := putN_len (h x List.mem_cons_self).1 (h x List.mem_cons_self).2
    simp only [List.flatMap_cons, List.length_append, List.length_cons]
    omega
theorem flat_put_lt {M : List Ins} (h : ∀ x ∈ M, x.Ok ∧ mayN x = true) : ∀ b ∈ M.flatMap putN, b < 256 := by
  intro b hb
  obtain ⟨x, hx, hb⟩ := List.mem_flatMap.1 hb
  exact putN_lt (h x hx).2 b hb
/-
  What is read as an instruction is the instruction's own bytes: plain words.
-/
/-- between n and m stand the bytes p -/
def Sp (l : List Nat) (n m : Nat) (p : List Nat) : Prop := l.drop n = p ++ l.drop m ∧ m = n + p.length ∧ m ≤ l.length
theorem Sp.trans {l : List Nat} {n m k : Nat} {p q : List Nat} (h : Sp l n m p) (g : Sp l m k q) : Sp l n k (p ++ q) :=
  ⟨by rw [h.1, g.1, List.append_assoc], by rw [g.2.1, h.2.1, List.length_append]; omega, g.2.2⟩
theorem Sp.nil {l : List Nat} {n : Nat} (h : n ≤ l.length) : Sp l n n [] := ⟨rfl, by simp, h⟩
theorem sp_take {l : List Nat} {n k : Nat} (h : n + k ≤ l.length) : Sp l n (n + k) ((l.drop n).take k) := by
  have hk : ((l.drop n).take k).length = k := by simp; omega
  refine ⟨?_, by rw [hk], h⟩
  rw [← List.drop_drop]
  exact (List.take_append_drop k (l.drop n)).symm
theorem rdB_sp {l : List Nat} {n : Nat} (hn : n ≤ l.length) (h : (rdB l n 0).2.2 = 0) : Sp l n (rdB l n 0).2.1 [(rdB l n 0).1] ∧ (rdB l n 0).1 ∈ l := by
  unfold rdB at h ⊢
  rw [if_neg (by simp)] at h ⊢
  by_cases hc : ((n : Int) == (l.length : Int)) = true
  · rw [if_pos hc] at h; cases h
  · rw [if_neg hc]
    have hlt : n < l.length := by simp at hc; omega
    dsimp only
    rw [getElem!_pos l n hlt]
    exact ⟨⟨by rw [List.drop_eq_getElem_cons hlt]; rfl, rfl, hlt⟩, List.getElem_mem hlt⟩
theorem rdU_sp {l : List Nat} {lim : Int} {n : Nat} (hn : n ≤ l.length) (h : (rdU l lim n 0).2.2 = 0) : Sp l n (rdU l lim n 0).2.1 (uB (rdU l lim n 0).1) ∧ ((rdU l lim n 0).1 : Int) ≤ lim ∧ (rdU l lim n 0).1 < 4294967296 := by
  obtain ⟨b1, b2, -⟩ := getU_bd (l.drop n)
  unfold rdU at h ⊢
  rw [if_neg (by simp)] at h ⊢
  split at h
  · next h1 => simp at h1; exact absurd h (by simpa using h1)
  · next h1 =>
    rw [if_neg h1]
    split at h
    · cases h
    · next h2 =>
      rw [if_neg h2]
      dsimp only
      simp only [decide_eq_true_eq, Int.not_lt] at h2
      refine ⟨?_, h2, b1⟩
      simp only [bne_iff_ne, ne_eq, Decidable.not_not] at h1
      unfold getU at h1 b2 ⊢
      split at h1
      · next h3 => exact absurd h1 h3
      · next h3 =>
        rw [if_neg h3] at b2 ⊢
        split at h1
        · next h4 =>
          rw [if_pos h4] at b2 ⊢
          rw [h4.1]
          simp at b2
          exact sp_take (by simp; omega)
        · cases h1
theorem wrap_i64_bd (n : Int) : -9223372036854775808 ≤ IntKind.i64.wrap n ∧ IntKind.i64.wrap n ≤ 9223372036854775807 := by
  have h1 : (2 : Int) ^ IntKind.i64.bits = 18446744073709551616 := by decide
  have h3 : (2 : Int) ^ (IntKind.i64.bits - 1) = 9223372036854775808 := by decide
  have h2 : IntKind.i64.signed = true := rfl
  unfold IntKind.wrap
  simp only [h1, h2, h3, Bool.true_and, decide_eq_true_eq]
  split <;> omega
theorem rdS_sp {l : List Nat} {bits : Nat} (hb : bits = 32 ∨ bits = 64) {n : Nat} (hn : n ≤ l.length) (h : (rdS l bits n).2.2 = 0) : Sp l n (rdS l bits n).2.1 (sB (rdS l bits n).1) ∧ (-9223372036854775808 ≤ (rdS l bits n).1 ∧ (rdS l bits n).1 ≤ 9223372036854775807) ∧ (bits = 32 → -2147483648 ≤ (rdS l bits n).1 ∧ (rdS l bits n).1 ≤ 2147483647) := by
  have hv : ∀ t : List Nat, -9223372036854775808 ≤ valS t ∧ valS t ≤ 9223372036854775807 := by
    intro t
    match t with
    | [] => simp [valS]
    | [b] => unfold valS; split <;> omega
    | b :: c :: t =>
      rw [valS]
      exact wrap_i64_bd _
  have b2 := getS_bd bits (l.drop n)
  unfold rdS at h ⊢
  dsimp only at h ⊢
  unfold getS at h b2 ⊢
  split at h
  · next h3 => exact absurd h h3
  · next h3 =>
    rw [if_neg h3] at b2 ⊢
    split at h
    · next h4 =>
      rw [if_pos h4] at b2 ⊢
      dsimp only at b2 ⊢
      refine ⟨?_, hv _, h4.2⟩
      rw [h4.1]
      simp at b2
      exact sp_take (by omega)
    · cases h
theorem rdZ_sp {l : List Nat} {n : Nat} (hn : n ≤ l.length) (h : (rdZ l n 0).2 = 0) : Sp l n (rdZ l n 0).1 [0] := by
  unfold rdZ at h ⊢
  split at h
  · cases h
  · next h1 =>
    rw [if_neg h1]
    have := (rdB_sp hn h).1
    rw [show (rdB l n 0).1 = 0 by simpa using h1] at this
    exact this
theorem rdB_ne {l : List Nat} {n : Nat} {e : Int} (h : e ≠ 0) : rdB l n e = (0, n, e) := by unfold rdB; rw [if_pos (by simpa using h)]
theorem rdU_ne {l : List Nat} {lim : Int} {n : Nat} {e : Int} (h : e ≠ 0) : rdU l lim n e = (0, n, e) := by unfold rdU; rw [if_pos (by simpa using h)]
theorem rdK_sp {l : List Nat} {n : Nat} (hn : n ≤ l.length) (h : (rdK l n 0).2.2 = 0) : Sp l n (rdK l n 0).2.1 [kindB (rdK l n 0).1] ∧ 0 ≤ (rdK l n 0).1 ∧ (rdK l n 0).1 ≤ 2 := by
  unfold rdK at h ⊢
  by_cases h1 : (if decide (kindI (rdB l n 0).1 < 0) = true then ((rdB l n 0).2.2 == 0) else false) = true
  · rw [if_pos h1] at h; cases h
  · rw [if_neg h1] at h ⊢
    dsimp only at h ⊢
    obtain ⟨s, -⟩ := rdB_sp hn h
    have hk : ¬ kindI (rdB l n 0).1 < 0 := by
      intro hk
      rw [h, if_pos (by simpa using hk)] at h1
      exact h1 rfl
    rw [if_neg hk]
    generalize hc : (rdB l n 0).1 = c at hk s ⊢
    have : c = 64 ∨ c = 127 ∨ c = 126 := by
      by_cases c1 : c = 64
      · exact .inl c1
      by_cases c2 : c = 127
      · exact .inr (.inl c2)
      by_cases c3 : c = 126
      · exact .inr (.inr c3)
      exfalso
      apply hk
      unfold kindI idxN
      rw [show ([64, 127, 126] : List Int).findIdx? (· == (c : Int)) = none by
        simp only [List.findIdx?_cons, List.findIdx?_nil]
        rw [if_neg (by simp; omega), if_neg (by simp; omega), if_neg (by simp; omega)]; rfl]
      decide
    rcases this with rfl | rfl | rfl <;> exact ⟨s, by decide, by decide⟩
theorem rdL_ne {l : List Nat} {n : Nat} {e : Int} (h : e ≠ 0) : ∀ m, (rdL l m n e).2.2 ≠ 0
  | 0 => h
  | m + 1 => by
    rw [rdL]
    dsimp only
    rw [rdU_ne (rdL_ne h m)]
    exact rdL_ne h m
theorem rdL_sp {l : List Nat} {n : Nat} (hn : n ≤ l.length) : ∀ m, (rdL l m n 0).2.2 = 0 → Sp l n (rdL l m n 0).2.1 ((rdL l m n 0).1.flatMap fun z => uB z.toNat) ∧ ∀ z ∈ (rdL l m n 0).1, 0 ≤ z ∧ z ≤ 1000
  | 0, _ => ⟨Sp.nil hn, by simp [rdL]⟩
  | m + 1, h => by
    rw [rdL] at h ⊢
    dsimp only at h ⊢
    have h0 : (rdL l m n 0).2.2 = 0 := by
      by_cases hc : (rdL l m n 0).2.2 = 0
      · exact hc
      · rw [rdU_ne hc] at h; exact h
    obtain ⟨s, hz⟩ := rdL_sp hn m h0
    rw [h0] at h ⊢
    obtain ⟨s2, h2, -⟩ := rdU_sp s.2.2 h
    refine ⟨?_, fun z hz2 => ?_⟩
    · rw [List.flatMap_append]
      simpa using s.trans s2
    · rcases List.mem_append.1 hz2 with hz2 | hz2
      · exact hz z hz2
      · rw [List.mem_singleton.1 hz2]; omega
theorem fin_ok {x : Ins} {n : Nat} {e : Int} (h : (fin x n e).2.2 = 0) : e = 0 ∧ fin x n e = (x, n, 0) := by
  unfold fin at h ⊢
  by_cases he : e = 0
  · subst he; exact ⟨rfl, rfl⟩
  · rw [if_pos (by simpa using he)] at h; exact absurd h he
theorem rdZ_ne {l : List Nat} {n : Nat} {e : Int} (h : e ≠ 0) : (rdZ l n e).2 ≠ 0 := by unfold rdZ; rw [rdB_ne h, if_neg (by simp)]; exact h
theorem formN_rng (op : Int) : formN op = 0 ∨ formN op = 1 ∨ formN op = 2 ∨ formN op = 3 ∨ formN op = 4 ∨ formN op = 5 ∨ formN op = 6 ∨ formN op = 7 ∨ formN op = 8 ∨ formN op = 9 := by
  unfold formN formW
  repeat' split
  all_goals simp
theorem getT_sound {l : List Nat} {op : Nat} (hop : op < 256) {n : Nat} (hn : n ≤ l.length) (hf : (formN (op : Int) == 0) = false) (h : (getT l op n 0).2.2 = 0) :
    (getT l op n 0).1.op = op ∧ (getT l op n 0).1.Ok ∧ mayN (getT l op n 0).1 = true ∧ Sp l n (getT l op n 0).2.1 (putT (getT l op n 0).1) := by
  unfold getT at h ⊢
  by_cases g2 : (formN (op : Int) == 2) = true
  · simp only [g2, if_true] at h ⊢
    obtain ⟨he, hx⟩ := fin_ok h
    rw [hx]
    obtain ⟨s, k1, k2⟩ := rdK_sp hn he
    have e2 : formN (op : Int) = 2 := by simpa using g2
    refine ⟨rfl, ⟨by dsimp only; omega, by dsimp only; omega, by dsimp only; omega, by dsimp only; omega, by simp⟩, by simp [mayN, preN, e2, bt2_eq]; omega, ?_⟩
    simp only [putT, e2]; exact s
  simp only [g2, Bool.false_eq_true, if_false] at h ⊢
  by_cases g3 : (formN (op : Int) == 3) = true
  · simp only [g3, if_true] at h ⊢
    obtain ⟨he, hx⟩ := fin_ok h
    rw [hx]
    obtain ⟨s, k1, k2⟩ := rdU_sp hn he
    have e2 : formN (op : Int) = 3 := by simpa using g3
    refine ⟨rfl, ⟨by dsimp only; omega, by dsimp only; omega, by dsimp only; omega, by dsimp only; omega, by simp⟩, by simp [mayN, preN, e2, bt2_eq]; omega, ?_⟩
    simp only [putT, e2]; exact s
  simp only [g3, Bool.false_eq_true, if_false] at h ⊢
  by_cases g5 : (formN (op : Int) == 5) = true
  · simp only [g5, if_true] at h ⊢
    obtain ⟨he, hx⟩ := fin_ok h
    rw [hx]
    have h0 : (rdU l 1000 n 0).2.2 = 0 := by
      by_cases hc : (rdU l 1000 n 0).2.2 = 0
      · exact hc
      · exact absurd he (rdZ_ne hc)
    obtain ⟨s, k1, k2⟩ := rdU_sp hn h0
    rw [h0] at he ⊢
    have s2 := rdZ_sp s.2.2 he
    have e2 : formN (op : Int) = 5 := by simpa using g5
    refine ⟨rfl, ⟨by dsimp only; omega, by dsimp only; omega, by dsimp only; omega, by dsimp only; omega, by simp⟩, by simp [mayN, preN, e2, bt2_eq]; omega, ?_⟩
    simp only [putT, e2]; exact s.trans s2
  simp only [g5, Bool.false_eq_true, if_false] at h ⊢
  by_cases g4 : (formN (op : Int) == 4) = true
  · simp only [g4, if_true] at h ⊢
    obtain ⟨he, hx⟩ := fin_ok h
    rw [hx]
    have h1 : (rdL l (rdU l 50 n 0).1 (rdU l 50 n 0).2.1 (rdU l 50 n 0).2.2).2.2 = 0 := by
      by_cases hc : (rdL l (rdU l 50 n 0).1 (rdU l 50 n 0).2.1 (rdU l 50 n 0).2.2).2.2 = 0
      · exact hc
      · rw [rdU_ne hc] at he; exact he
    have h0 : (rdU l 50 n 0).2.2 = 0 := by
      by_cases hc : (rdU l 50 n 0).2.2 = 0
      · exact hc
      · exact absurd h1 (rdL_ne hc _)
    obtain ⟨s, k1, k2⟩ := rdU_sp hn h0
    rw [h0] at h1 he ⊢
    obtain ⟨s2, hz⟩ := rdL_sp s.2.2 _ h1
    have hlen := rdL_len (l := l) (m := (rdU l 50 n 0).1) (n := (rdU l 50 n 0).2.1) (e := 0)
    rw [h1] at he ⊢
    obtain ⟨s3, k3, k4⟩ := rdU_sp s2.2.2 he
    have e2 : formN (op : Int) = 4 := by simpa using g4
    generalize rdL l (rdU l 50 n 0).1 (rdU l 50 n 0).2.1 0 = w at *
    obtain ⟨L, m, e⟩ := w
    dsimp only at *
    have hany : (L.any fun z => !bt2 z 0 1000) = false := by
      rw [List.any_eq_false]
      intro z hzz
      have := hz z hzz
      simp [bt2_eq]; omega
    refine ⟨rfl, ⟨by dsimp only; omega, by dsimp only; omega, by dsimp only; omega, by dsimp only; omega, by simp; omega⟩, ?_, ?_⟩
    · unfold mayN preN
      dsimp only
      rw [e2, hany]
      simp [bt2_eq]; omega
    · unfold putT
      dsimp only
      rw [e2, hlen]
      exact (s.trans s2).trans s3
  simp only [g4, Bool.false_eq_true, if_false] at h ⊢
  by_cases g6 : (formN (op : Int) == 6) = true
  · simp only [g6, if_true] at h ⊢
    obtain ⟨he, hx⟩ := fin_ok h
    rw [hx]
    have h0 : (rdU l 3 n 0).2.2 = 0 := by
      by_cases hc : (rdU l 3 n 0).2.2 = 0
      · exact hc
      · rw [rdU_ne hc] at he; exact absurd he hc
    obtain ⟨s, k1, k2⟩ := rdU_sp hn h0
    rw [h0] at he ⊢
    obtain ⟨s2, k3, k4⟩ := rdU_sp s.2.2 he
    have e2 : formN (op : Int) = 6 := by simpa using g6
    refine ⟨rfl, ⟨by dsimp only; omega, by dsimp only; omega, by dsimp only; omega, by dsimp only; omega, by simp⟩, by simp [mayN, preN, e2, bt2_eq]; omega, ?_⟩
    simp only [putT, e2]; exact s.trans s2
  simp only [g6, Bool.false_eq_true, if_false] at h ⊢
  by_cases g7 : (formN (op : Int) == 7) = true
  · simp only [g7, if_true] at h ⊢
    obtain ⟨he, hx⟩ := fin_ok h
    rw [hx]
    have s := rdZ_sp hn he
    have e2 : formN (op : Int) = 7 := by simpa using g7
    refine ⟨rfl, ⟨by dsimp only; omega, by dsimp only; omega, by simp, by simp, by simp⟩, by simp [mayN, preN, e2], ?_⟩
    simp only [putT, e2]; exact s
  simp only [g7, Bool.false_eq_true, if_false] at h ⊢
  by_cases g8 : (formN (op : Int) == 8) = true
  · simp only [g8, if_true] at h ⊢
    obtain ⟨he, hx⟩ := fin_ok h
    rw [hx]
    obtain ⟨s, k1, k2⟩ := rdS_sp (.inl rfl) hn he
    have k2 := k2 rfl
    have e2 : formN (op : Int) = 8 := by simpa using g8
    refine ⟨rfl, ⟨by dsimp only; omega, by dsimp only; omega, by dsimp only; omega, by dsimp only; omega, by simp⟩, by simp [mayN, preN, e2, bt2_eq]; omega, ?_⟩
    simp only [putT, e2]; exact s
  simp only [g8, Bool.false_eq_true, if_false] at h ⊢
  by_cases g9 : (formN (op : Int) == 9) = true
  · simp only [g9, if_true] at h ⊢
    obtain ⟨he, hx⟩ := fin_ok h
    rw [hx]
    obtain ⟨s, k1, k2⟩ := rdS_sp (.inr rfl) hn he
    have e2 : formN (op : Int) = 9 := by simpa using g9
    refine ⟨rfl, ⟨by dsimp only; omega, by dsimp only; omega, by dsimp only; omega, by dsimp only; omega, by simp⟩, by simp [mayN, preN, e2], ?_⟩
    simp only [putT, e2]; exact s
  simp only [g9, Bool.false_eq_true, if_false] at h ⊢
  have e2 : formN (op : Int) = 1 := by
    simp at hf g2 g3 g4 g5 g6 g7 g8 g9
    have := formN_rng (op : Int)
    omega
  obtain ⟨he, hx⟩ := fin_ok h
  rw [hx]
  refine ⟨rfl, ⟨by dsimp only; omega, by dsimp only; omega, by simp, by simp, by simp⟩, by simp [mayN, preN, e2], ?_⟩
  simp only [putT, e2]; exact Sp.nil hn
theorem getP_sound {l : List Nat} (hlt : ∀ x ∈ l, x < 256) (h : (getP l).2.2 = 0) : (getP l).1.Ok ∧ mayN (getP l).1 = true ∧ Sp l 0 (getP l).2.1 (putN (getP l).1) := by
  unfold getP at h ⊢
  by_cases g1 : (formN ((rdB l 0 0).1 : Nat) == 0) = true
  · rw [if_pos g1] at h; cases h
  rw [if_neg g1] at h ⊢
  by_cases g2 : ((rdB l 0 0).2.2 != 0) = true
  · rw [if_pos g2] at h; rw [show (rdB l 0 0).2.2 = 0 from h] at g2; simp at g2
  rw [if_neg g2] at h ⊢
  have he : (rdB l 0 0).2.2 = 0 := by simpa using g2
  obtain ⟨s, hm⟩ := rdB_sp (Nat.zero_le _) he
  rw [he] at h ⊢
  obtain ⟨k1, k2, k3, k4⟩ := getT_sound (hlt _ hm) s.2.2 (by simpa using g1) h
  refine ⟨k2, k3, ?_⟩
  have := s.trans k4
  unfold putN
  rw [k1]
  exact this
/-
  The symbolic layer: appends onto nil, bytes as text. No program is named here.
-/
theorem oldT {P : Prop} (h : P := by (first | rfl | (simp; done) | (rw [List.drop_zero]; exact List.take_of_length_le (by first | (simp; done) | (simp; omega) | omega)) | (simp only [List.map_take, List.map_drop, List.drop_zero]; done))) : P := h
theorem take_all {α : Type} {l : List α} {n : Nat} (h : l.length ≤ n) : (l.drop 0).take n = l := by rw [List.drop_zero]; exact List.take_of_length_le h
theorem textT {P : Prop} (h : P := by (first | exact take_all (by first | (simp; done) | (simp; omega) | omega) | rfl)) : P := h
section
variable {P : Program} {n : Nat} {ops : Array Oper} {rest : List Oper} {fr : Fr} {σ : Sto} {K : ASt → Prop} {op : Op} {ty t t' : TypeId} {pos : String} {af : Array Edge} {x y : Operand} {d : Nat}
variable {listed : Array Bool} {todo : List (Nat × Bool)} {held : List (Nat × List Nat)} {i : Nat}
theorem danA {e : TypeId} {sz by_ : Nat} {zv : Value} {z : Nat} {k : Rk} {ys : List (List AV)} (hi : ops[i]? = some ⟨some d, .call { callee := .builtin .append, args := #[x, y], argTypes := #[t, t] }, ty, pos, af, none⟩) (es' : List (List AV)) (len' : Nat)
    (hK : ∀ r, Fresh r σ → RD P n ops (listed.setIfInBounds i true) todo held ⟨(d, .own r 0 len') :: fr, (r, .arr e sz es') :: σ⟩ K)
    (i1 : Ty P t (.slice e) := by infer_instance) (i2 : Tz P e sz by_ zv := by infer_instance) (hz : zv.cells.size = sz := by rfl) (h0 : Nat.ble 1 sz = true := by rfl) (hb : aev ⟨fr, σ⟩ x = some (.ro z [] k) := by rfl) (hk : k ≠ .any := by decide) (hy : Src ⟨fr, σ⟩ y sz ys := by exact srcT) (he : ys = es' := by exact oldT) (hl : len' = ys.length := by exact lenT) (hby : len' * by_ ≤ 140737488355328 := by (simp; try omega)) (hd : Nat.ble (d + 1) n = true := by rfl) :
    RD P n ops listed ((i, false) :: todo) held ⟨fr, σ⟩ K := by
  subst he hl
  exact rd_new hi (hop_append_new (Nat.le_of_ble_eq_true h0) hz hb hk hy hby (lt_ble hd) hK)
end

/-- a row that a box tells of is written by nobody from here on -/
theorem sgo_fzb {fr : Fr} {σ σ1 σ' : Sto} {r q : Nat} {bt : TypeId} {cs cs' : List AV} {e : Ent} (hs : SSet σ r (.box bt cs) r (.box bt cs') σ1) (hd : SDel σ1 q e σ') (hb : BorL σ [q] cs cs') : SGo ⟨fr, σ⟩ ⟨fr, σ'⟩ := by
  refine sgo_freeze [q] (fun i x' hi => ⟨x', hi, .refl _⟩) (fun p hp => ?_)
  obtain ⟨h1, h2⟩ := hd.sub p hp
  refine ⟨by simpa using h2, ?_⟩
  rcases List.mem_cons.1 (hs.sub p h1) with rfl | h
  · exact ⟨_, sget_mem hs.get, .box (bagg hb)⟩
  · exact ⟨p.2, (mem_sdrop h).1, .refl _⟩

/-- a row that is told less of -/
theorem sgo_cut {fr : Fr} {σ σ' : Sto} {o : Nat} {e : TypeId} {sz : Nat} {es : List (List AV)} (k : Nat) (hs : SSet σ o (.arr e sz es) o (.arr e sz (es.take k)) σ') : SGo ⟨fr, σ⟩ ⟨fr, σ'⟩ := by
  intro M F N n a w hr
  have hmem : ∀ p ∈ σ', (∃ x, (p.1, x) ∈ σ) ∧ ER M F w p.1 p.2 := by
    intro p hp
    rcases List.mem_cons.1 (hs.sub p hp) with rfl | h
    · refine ⟨⟨_, sget_mem hs.get⟩, ?_⟩
      obtain ⟨h0, h1, h2⟩ := hr.st.ent _ (sget_mem hs.get)
      refine ⟨h0, fun x hx => h1 x (List.mem_of_mem_take hx), ?_⟩
      rcases h2 with ⟨h2, h3⟩ | ⟨g, c, vs, h2, h3, h4, h5, h6, h7⟩
      · exact .inl ⟨h2, by simp [h3]⟩
      · refine .inr ⟨g, c, vs, h2, h3, h4, by simp; omega, h6, fun i x j b u hi => ?_⟩
        rw [List.getElem?_take] at hi
        split at hi
        · exact h7 i x j b u hi
        · cases hi
    · exact ⟨⟨p.2, (mem_sdrop h).1⟩, hr.st.ent p (mem_sdrop h).1⟩
  exact ⟨M, F, N, ⟨hr.size, hr.defers, hr.fr, hr.st.retold hmem⟩, Ext.retold fun p hp => (hmem p hp).1⟩

theorem strU_size (a : List Nat) : (strU a).size = a.length := by simp [strU, ByteArray.size]
section
variable {P : Program} {ty t t' : TypeId} {s : ASt} {c : Bool} {x y : Operand}
theorem lop_text_own {e : TypeId} [Ty P t (.slice e)] [Ty P e (.int .u8)] [Ty P t' .string] {bs bs' : List Nat} {r off len : Nat} {et : TypeId} (h : Ev s c x (.own r off len)) (hg : sget s.σ r = some (.arr et 1 (bs.map encU)) := by exact sgT) (hle : off + len ≤ bs.length := by exact lenT) (hbs : (bs.drop off).take len = bs' := by exact textT) : Lop P (.convert t t' x) ty s c (.str (strU bs')) [r] := lop_bytes_own h hg hle hbs
end
end Go.Proofs.YthhlimmcncbopaaGreat
/-
  Which block ends where: plain words, and the program's Match.
-/
namespace Go.Proofs.YthhlimmcncbopaaGreat
open Go.RowKit Go.ChangeShapes Go.WideShapes Go.ChangeAt Go.Deep
attribute [local irreducible] SW RS RD AThen ABlock
def encN (n : Nat) : List AV := [.int .i64 n]
instance : NoE encN := ⟨fun a x hx => by simp [encN] at hx; subst hx; exact NoF.int⟩
structure Bk where
  at_ : Nat
  els : Int
  en : Int
def encK (b : Bk) : List AV := [.int .i64 b.at_, .int .i64 b.els, .int .i64 b.en]
instance : NoE encK := ⟨fun a x hx => by simp [encK] at hx; rcases hx with rfl | rfl | rfl <;> exact NoF.int⟩
def isO (op : Int) : Bool := op == 2 || op == 3 || op == 4
/-- blocks so far, and which are open -/
structure MS where
  all : List Bk
  opn : List Nat
def mtop (ops : List Int) (s : MS) (i : Nat) (op : Int) : Option MS :=
  match s.opn.getLast? with
  | none => none
  | some k => match s.all[k]? with
    | none => none
    | some b => if op = 11 then some ⟨s.all.set k ⟨b.at_, b.els, i⟩, s.opn.dropLast⟩
      else if ops[b.at_]? ≠ some (4 : Int) ∨ 0 ≤ b.els then none else some ⟨s.all.set k ⟨b.at_, i, b.en⟩, s.opn⟩
def mstep (ops : List Int) (s : MS) (i : Nat) (op : Int) : Option MS :=
  if isO op = true then (if s.opn.length = 40 then none else some ⟨s.all ++ [⟨i, -1, -1⟩], s.opn ++ [s.all.length]⟩)
  else if op ≠ 5 ∧ op ≠ 11 then some s else mtop ops s i op
def mrun (ops : List Int) : Nat → Option MS
  | 0 => some ⟨[], []⟩
  | j + 1 => match mrun ops j, ops[j]? with
    | some s, some op => mstep ops s j op
    | _, _ => none
theorem mrun_next {ops : List Int} {j : Nat} {s : MS} {op : Int} (h : mrun ops j = some s) (ho : ops[j]? = some op) : mrun ops (j + 1) = mstep ops s j op := by
  rw [mrun, h, ho]
theorem mrun_none {ops : List Int} {j : Nat} (h : mrun ops j = none) : ∀ d, mrun ops (j + d) = none
  | 0 => h
  | d + 1 => by rw [← Nat.add_assoc, mrun, mrun_none h d]
/-- what holds of what was found so far -/
structure MOk (j : Nat) (s : MS) : Prop where
  opn : ∀ k ∈ s.opn, k < s.all.length
  at_ : ∀ b ∈ s.all, b.at_ < j
  len : s.opn.length ≤ 40
  all : s.all.length ≤ j
theorem mstep_ok {ops : List Int} {j : Nat} {s s' : MS} {op : Int} (h : MOk j s) (hs : mstep ops s j op = some s') : MOk (j + 1) s' := by
  unfold mstep at hs
  split at hs
  · split at hs
    · cases hs
    · next h40 =>
      obtain rfl := Option.some.inj hs
      refine ⟨fun k hk => ?_, fun b hb => ?_, by have := h.len; simp; omega, by have := h.all; simp; omega⟩
      · rcases List.mem_append.1 hk with hk | hk
        · have := h.opn k hk; simp; omega
        · rw [List.mem_singleton.1 hk]; simp
      · rcases List.mem_append.1 hb with hb | hb
        · have := h.at_ b hb; omega
        · rw [List.mem_singleton.1 hb]; exact Nat.lt_succ_self _
  split at hs
  · obtain rfl := Option.some.inj hs
    exact ⟨h.opn, fun b hb => Nat.lt_succ_of_lt (h.at_ b hb), h.len, Nat.le_succ_of_le h.all⟩
  unfold mtop at hs
  split at hs
  · cases hs
  split at hs
  · cases hs
  · next k hk b hb =>
    have hbm := h.at_ b (List.mem_of_getElem? hb)
    split at hs
    · obtain rfl := Option.some.inj hs
      refine ⟨fun x hx => ?_, fun x hx => ?_, by have := h.len; simp; omega, by have := h.all; simp; omega⟩
      · have := h.opn x ((List.dropLast_sublist _).subset hx); simpa using this
      · rcases List.mem_or_eq_of_mem_set hx with hx | rfl
        · exact Nat.lt_succ_of_lt (h.at_ x hx)
        · exact Nat.lt_succ_of_lt hbm
    split at hs
    · cases hs
    · obtain rfl := Option.some.inj hs
      refine ⟨fun x hx => ?_, fun x hx => ?_, h.len, by have := h.all; simp; omega⟩
      · have := h.opn x hx; simpa using this
      · rcases List.mem_or_eq_of_mem_set hx with hx | rfl
        · exact Nat.lt_succ_of_lt (h.at_ x hx)
        · exact Nat.lt_succ_of_lt hbm
theorem mrun_ok {ops : List Int} : ∀ {j : Nat} {s : MS}, mrun ops j = some s → MOk j s
  | 0, s, h => by
    obtain rfl := Option.some.inj h
    exact ⟨by simp, by simp, by simp, by simp⟩
  | j + 1, s, h => by
    rw [mrun] at h
    split at h
    · next s0 op h1 h2 => exact mstep_ok (mrun_ok h1) h
    · cases h
def matchN (ops : List Int) : Option (List Bk) := if 300 < ops.length then none else match mrun ops ops.length with | some ⟨all, []⟩ => some all | _ => none
def blN (ops : List Int) : List Bk := (matchN ops).getD []
def okN (ops : List Int) : Bool := (matchN ops).isSome
theorem match_fail {ops : List Int} {j : Nat} (h : mrun ops j = none) (hj : j ≤ ops.length) : matchN ops = none := by
  unfold matchN
  split
  · rfl
  · have := mrun_none h (ops.length - j)
    rw [Nat.add_sub_cancel' hj] at this
    rw [this]
def opsOf (l : List Ins) : List Int := l.map Ins.op
theorem opsOf_at {l : List Ins} {j : Nat} {x : Ins} (h : l[j]? = some x) : (opsOf l)[j]? = some x.op := by simp [opsOf, h]
theorem mk_fail {ops : List Int} {q : Nat} {t : TypeId} (h : matchN ops = none) : ∃ q2, AV.tup [.own q 0 0, .bool false] = .tup [.own q2 0 (blN ops).length, .bool (okN ops)] ∧ ([(q, .arr t 3 [])] : Sto) = [(q2, .arr t 3 ((blN ops).map encK))] :=
  ⟨q, by simp [blN, okN, h], by simp [blN, h]⟩
theorem code_opens (op : Int) : SCall Tryz.prog 55 [.int .i64 op] [] (fun x σ => x = .bool (isO op) ∧ σ = []) := by
  refine scall_of (n := 13) (ks := [0, 2]) Tryz.func55 rfl rfl (Nat.le_of_ble_eq_true rfl) ?_
  refine sq62 ?_
  refine sq85 ?_
  refine z112 ?_
  refine z113 ?_
  refine sq10 ?_
  refine z112 ?_
  refine z113 ?_
  refine sq2 ?_
  apply aend; exact resT
  · exact ⟨by show AV.bool _ = _; congr 1; simp only [if_or, isO], rfl⟩
  · exact stleT
/-
  The program's Match.
-/
theorem step_open {ops : List Int} {s : MS} {j : Nat} {op : Int} (h : isO op = true) (hl : s.opn.length ≠ 40) : mstep ops s j op = some ⟨s.all ++ [⟨j, -1, -1⟩], s.opn ++ [s.all.length]⟩ := by
  unfold mstep; rw [if_pos h, if_neg hl]
theorem step_full {ops : List Int} {s : MS} {j : Nat} {op : Int} (h : isO op = true) (hl : s.opn.length = 40) : mstep ops s j op = none := by
  unfold mstep; rw [if_pos h, if_pos hl]
theorem step_skip {ops : List Int} {s : MS} {j : Nat} {op : Int} (h : isO op = false) (h1 : op ≠ 5) (h2 : op ≠ 11) : mstep ops s j op = some s := by
  unfold mstep; rw [if_neg (by simp [h]), if_pos ⟨h1, h2⟩]
theorem step_top {ops : List Int} {s : MS} {j : Nat} {op : Int} (h : isO op = false) (h1 : op = 5 ∨ op = 11) : mstep ops s j op = mtop ops s j op := by
  unfold mstep; rw [if_neg (by simp [h]), if_neg (by omega)]
theorem top_none {ops : List Int} {all : List Bk} {j : Nat} {op : Int} : mtop ops ⟨all, []⟩ j op = none := rfl
theorem top_end {ops : List Int} {all : List Bk} {pre : List Nat} {k j : Nat} {b : Bk} (hb : all[k]? = some b) : mtop ops ⟨all, pre ++ [k]⟩ j 11 = some ⟨all.set k ⟨b.at_, b.els, j⟩, pre⟩ := by
  unfold mtop; simp [hb]
theorem top_else {ops : List Int} {all : List Bk} {pre : List Nat} {k j : Nat} {b : Bk} (hb : all[k]? = some b) (h4 : ops[b.at_]? = some 4) (he : ¬ 0 ≤ b.els) : mtop ops ⟨all, pre ++ [k]⟩ j 5 = some ⟨all.set k ⟨b.at_, j, b.en⟩, pre ++ [k]⟩ := by
  unfold mtop; simp [hb, h4, he]
theorem top_bad {ops : List Int} {all : List Bk} {pre : List Nat} {k j : Nat} {b : Bk} (hb : all[k]? = some b) (h : ops[b.at_]? ≠ some 4 ∨ 0 ≤ b.els) : mtop ops ⟨all, pre ++ [k]⟩ j 5 = none := by
  unfold mtop; simp [hb]; intro h4
  rcases h with h | h
  · exact absurd h4 h
  · exact h
theorem last_at {pre : List Nat} {k : Nat} : (pre ++ [k])[(((pre ++ [k]).length : Nat) - 1 : Int).toNat]? = some k := by
  rw [show (((pre ++ [k]).length : Nat) - 1 : Int).toNat = pre.length by simp]
  simp
theorem nat_at {α : Type} {l : List α} {k : Nat} {x : α} (h : l[k]? = some x) : l[(k : Int).toNat]? = some x := by rw [Int.toNat_natCast]; exact h
theorem code_match (l : List Ins) (hl : l.length ≤ 100000) : SCall Tryz.prog 36 [.ro 4 (l.map (iv .any)) .any] []
    (fun y σ => ∃ q, y = .tup [.own q 0 (blN (opsOf l)).length, .bool (okN (opsOf l))] ∧ σ = [(q, .arr 111 3 ((blN (opsOf l)).map encK))]) := by
  have hol : (opsOf l).length = l.length := by simp [opsOf]
  refine scall_of (n := 113) (ks := [0, 2, 3, 4, 5, 6, 7, 8, 11, 12, 13, 14, 15, 30, 38, 52, 61, 64, 81, 111]) Tryz.func36 rfl rfl (Nat.le_of_ble_eq_true rfl) ?_
  refine sq3 ?_
  refine sq12 ?_
  refine sq26 ?_
  refine sq56 ?_
  refine sw_cond rfl (fun g1 => ?_) (fun g1 => ?_)
  · refine sq3 ?_
    refine sq44 ?_
    refine an ?_
    refine sw_virt 2 111 3 (by decide) rfl (by decide) (freshT fun q2 hq2 => ?_); repeat rcases hq2 with ⟨_, hq2⟩
    have hN : matchN (opsOf l) = none := by unfold matchN; rw [if_pos (by simp at g1; omega)]
    refine ctlT ?_
    apply aend; exact resT
    · exact mk_fail hN
    · exact stleT
  refine sq65 ?_
  refine sq84 ?_
  refine sq9 ?_
  refine sw_virt 4 111 3 (by decide) rfl (by decide) (freshT fun a0 ha0 => ?_); repeat rcases ha0 with ⟨_, ha0⟩
  refine sw_virt 5 3 1 (by decide) rfl (by decide) (freshT fun o0 ho0 => ?_); repeat rcases ho0 with ⟨_, ho0⟩
  refine lp (β := Nat × Nat × Nat × MS) (fun b => ⟨[(0, .ro 4 (l.map (iv .any)) .any), (4, .own b.1 0 b.2.2.2.all.length), (5, .own b.2.1 0 b.2.2.2.opn.length), (12, .ro 4 (l.map (iv .any)) .any), (13, .int .i64 l.length), (14, .int .i64 b.2.2.1)], [(b.1, .arr 111 3 (b.2.2.2.all.map encK)), (b.2.1, .arr 3 1 (b.2.2.2.opn.map encN))]⟩) (fun b => Nq b.1 b.2.1 ∧ b.2.2.1 ≤ l.length ∧ mrun (opsOf l) b.2.2.1 = some b.2.2.2) (fun b => l.length - b.2.2.1) (a0, o0, 0, ⟨[], []⟩) sgoT ⟨by show Nq a0 o0; (exact nqT), Nat.zero_le _, rfl⟩ ?_
  rintro ⟨a, o, j, all, opn⟩ ⟨hao, hj, hrun⟩
  dsimp only at hao hj hrun ⊢
  obtain ⟨hk1, hk2, hk3, hk4⟩ := mrun_ok hrun
  dsimp only at hk1 hk2 hk3 hk4
  refine sq40 ?_
  refine sw_cond rfl (fun g6 => ?_) (fun g6 => ?_)
  · have hlt : j < l.length := by simp at g6; omega
    obtain ⟨x, hx⟩ : ∃ x, l[j]? = some x := ⟨_, List.getElem?_eq_getElem hlt⟩
    have hnx := mrun_next hrun (opsOf_at hx)
    refine sq7 ?_
    refine sq59 ?_
    apply al; rfl; (exact zcT); refine freshT fun r7 h7 => ?_; repeat rcases h7 with ⟨_, h7⟩
    refine lo (lop_assign (E rfl)) rfl ?_
    apply stp; rfl; rfl; rfl; rfl; (exact sputT)
    refine sq4 ?_
    refine sq26 ?_
    refine sq41 ?_
    refine puA Tryz.call55 (code_opens _) rfl pargsT nofT ?_
    refine sq10 ?_
    refine z112 ?_
    refine sq31 ?_
    refine sw_cond rfl (fun g10 => ?_) (fun g10 => ?_)
    · refine sq3 ?_
      refine sq44 ?_
      refine an ?_
      refine sw_virt 2 111 3 (by decide) rfl (by decide) (freshT fun q2 hq2 => ?_); repeat rcases hq2 with ⟨_, hq2⟩
      have hN : matchN (opsOf l) = none := by replace g10 := bT g10; exact match_fail (hnx.trans (step_full (s := ⟨all, opn⟩) g10.1 (by show opn.length = 40; omega))) (by omega)
      refine ctlT ?_
      apply aend; exact resT
      · exact mk_fail hN
      · exact stleT
    refine sq63 ?_
    refine puA Tryz.call55 (code_opens _) rfl pargsT nofT ?_
    refine sq2 ?_
    refine sw_cond rfl (fun g12 => ?_) (fun g12 => ?_)
    · have hnn := hnx.trans (step_open g12 (by intro he; simp [g12, he] at g10))
      refine sq18 ?_
      refine z14 ?_
      refine z1 ?_; refine freshT fun r45 h45 => ?_; repeat rcases h45 with ⟨_, h45⟩
      refine apA ((opn ++ [all.length]).map encN) (opn ++ [all.length]).length ?_
      refine apnT fun r46 h46 => ?_; repeat rcases h46 with ⟨_, h46⟩
      refine sq64 ?_
      refine z93 ?_
      refine z1 ?_; refine freshT fun r50 h50 => ?_; repeat rcases h50 with ⟨_, h50⟩
      refine apA ((all ++ [(Bk.mk j (-1) (-1))]).map encK) (all ++ [(Bk.mk j (-1) (-1))]).length ?_
      refine apnT fun r51 h51 => ?_; repeat rcases h51 with ⟨_, h51⟩
      refine sq2 ?_
      obtain ⟨A, O, hAO, rfl, rfl⟩ : ∃ A O, Nq A O ∧ A = r51 ∧ O = r46 := ⟨_, _, by (exact nqT), rfl, rfl⟩
      refine rgT ?_
      refine sq33 ?_
      refine ⟨(A, O, j + 1, _), ⟨hAO, hlt, hnn⟩, by show l.length - (j + 1) < l.length - j; omega, ?_⟩
      dsimp only
      exact sgoT
    refine sq63 ?_
    refine lo (lop_neq (E rfl) (E rfl)) rfl ?_
    refine sq50 ?_
    refine z116 ?_
    refine sq31 ?_
    refine sw_cond rfl (fun g15 => ?_) (fun g15 => ?_)
    · have hnn := hnx.trans (step_skip g12 (by replace g15 := bT g15; exact g15.1) (by replace g15 := bT g15; exact g15.2))
      obtain ⟨A, O, hAO, rfl, rfl⟩ : ∃ A O, Nq A O ∧ A = a ∧ O = o := ⟨_, _, by (exact nqT), rfl, rfl⟩
      refine sq43 ?_
      refine ⟨(A, O, j + 1, _), ⟨hAO, hlt, hnn⟩, by show l.length - (j + 1) < l.length - j; omega, ?_⟩
      dsimp only
      exact sgoT
    have h5 : x.op = 5 ∨ x.op = 11 := by replace g15 := bT g15; omega
    have hnx := hnx.trans (step_top g12 h5)
    refine sq7 ?_
    refine sq6 ?_
    refine sw_cond rfl (fun g16 => ?_) (fun g16 => ?_)
    · refine sq3 ?_
      refine sq44 ?_
      refine an ?_
      refine sw_virt 2 111 3 (by decide) rfl (by decide) (freshT fun q2 hq2 => ?_); repeat rcases hq2 with ⟨_, hq2⟩
      have hN : matchN (opsOf l) = none := by obtain rfl : opn = [] := (by simpa using g16); exact match_fail (hnx.trans top_none) (by omega)
      refine ctlT ?_
      apply aend; exact resT
      · exact mk_fail hN
      · exact stleT
    have hne : opn ≠ [] := by intro h; simp [h] at g16
    obtain ⟨pre, k, rfl⟩ : ∃ pre k, opn = pre ++ [k] := ⟨opn.dropLast, opn.getLast hne, (List.dropLast_concat_getLast hne).symm⟩
    have hkl := hk1 k (by simp)
    obtain ⟨b, hb⟩ : ∃ b, all[k]? = some b := ⟨_, List.getElem?_eq_getElem hkl⟩
    have hpl : (pre ++ [k]).length = pre.length + 1 := by simp
    have hlast := last_at (pre := pre) (k := k)
    have hbt := nat_at hb
    refine sq63 ?_
    refine sq6 ?_
    refine sw_cond rfl (fun g18 => ?_) (fun g18 => ?_)
    · have h11 : x.op = 11 := by simpa using g18
      have hnn := hnx
      rw [h11, top_end hb] at hnn
      obtain ⟨A, O, hAO, rfl, rfl⟩ : ∃ A O, Nq A O ∧ A = a ∧ O = o := ⟨_, _, by (exact nqT), rfl, rfl⟩
      refine sq18 ?_
      refine lo (lop_move (E rfl)) rfl ?_
      refine z19 ?_
      refine sq76 ?_
      refine sq30 ?_
      refine z117 ?_
      refine z118 ?_
      refine sq49 ?_
      refine z19 ?_
      refine z100 ?_
      refine sq2 ?_
      rw [show ((((pre ++ [k]).length : Nat) : Int) - 1).toNat - 0 = pre.length by simp]
      refine sw_go (sgo_cut (o := O) pre.length ssetT) ?_
      rw [show (all.map encK).set (k : Int).toNat [.int .i64 (b.at_ : Int), .int .i64 b.els, .int .i64 (j : Int)] = (all.set k ⟨b.at_, b.els, j⟩).map encK by rw [Int.toNat_natCast, List.map_set]; rfl, show List.take pre.length ((pre ++ [k]).map encN) = pre.map encN by simp]
      refine rgT ?_
      refine sq33 ?_
      refine ⟨(A, O, j + 1, _), ⟨hAO, hlt, hnn⟩, by show l.length - (j + 1) < l.length - j; omega, ?_⟩
      dsimp only
      exact sgoT
    have h05 : x.op = 5 := by simp at g18; omega
    have hnx := by have := hnx; rw [h05] at this; exact this
    have hba := hk2 b (List.mem_of_getElem? hb)
    obtain ⟨y, hy⟩ : ∃ y, l[b.at_]? = some y := ⟨_, List.getElem?_eq_getElem (by omega)⟩
    have hyt := nat_at hy
    have hoy := opsOf_at hy
    refine sq18 ?_
    refine sq51 ?_
    refine z19 ?_
    refine sq76 ?_
    refine z15 ?_
    refine z117 ?_
    refine z16 ?_
    refine z15 ?_
    refine z117 ?_
    refine z16 ?_
    refine lo (lop_neq (E rfl) (E rfl)) rfl ?_
    refine sq10 ?_
    refine z109 ?_
    refine z109 ?_
    refine z119 ?_
    refine z120 ?_
    refine z121 ?_
    refine z120 ?_
    refine z122 ?_
    refine z121 ?_
    refine z123 ?_
    refine z113 ?_
    refine sq2 ?_
    refine sw_cond rfl (fun g21 => ?_) (fun g21 => ?_)
    · refine sq3 ?_
      refine sq44 ?_
      refine an ?_
      refine sw_virt 2 111 3 (by decide) rfl (by decide) (freshT fun q2 hq2 => ?_); repeat rcases hq2 with ⟨_, hq2⟩
      have hN : matchN (opsOf l) = none := match_fail (hnx.trans (top_bad hb (by rw [hoy]; replace g21 := bT g21; rcases g21 with h | h; exact .inl (fun e => h (Option.some.inj e)); exact .inr h))) (by omega)
      refine ctlT ?_
      apply aend; exact resT
      · exact mk_fail hN
      · exact stleT
    have hnn := hnx.trans (top_else hb (by rw [hoy]; replace g21 := bT g21; rw [g21.1]) (by replace g21 := bT g21; exact g21.2))
    obtain ⟨A, O, hAO, rfl, rfl⟩ : ∃ A O, Nq A O ∧ A = a ∧ O = o := ⟨_, _, by (exact nqT), rfl, rfl⟩
    refine sq18 ?_
    refine lo (lop_move (E rfl)) rfl ?_
    refine z19 ?_
    refine sq76 ?_
    refine sq30 ?_
    refine z117 ?_
    refine z118 ?_
    refine sq4 ?_
    rw [show (all.map encK).set (k : Int).toNat [.int .i64 (b.at_ : Int), .int .i64 (j : Int), .int .i64 b.en] = (all.set k ⟨b.at_, j, b.en⟩).map encK by rw [Int.toNat_natCast, List.map_set]; rfl]
    refine rgT ?_
    refine sq33 ?_
    refine ⟨(A, O, j + 1, _), ⟨hAO, hlt, hnn⟩, by show l.length - (j + 1) < l.length - j; omega, ?_⟩
    dsimp only
    exact sgoT
  obtain rfl : j = l.length := by simp at g6; omega
  refine sq7 ?_
  refine z14 ?_
  refine sq56 ?_
  refine sw_cond rfl (fun g24 => ?_) (fun g24 => ?_)
  · refine sq3 ?_
    refine sq44 ?_
    refine an ?_
    refine sw_virt 2 111 3 (by decide) rfl (by decide) (freshT fun q2 hq2 => ?_); repeat rcases hq2 with ⟨_, hq2⟩
    have hN : matchN (opsOf l) = none := by unfold matchN; rw [hol, hrun, if_neg (by simp at g1; omega)]; cases opn with | nil => simp at g24 | cons z zs => rfl
    refine ctlT ?_
    apply aend; exact resT
    · exact mk_fail hN
    · exact stleT
  refine sq7 ?_
  refine sq12 ?_
  apply aend; exact resT
  · have hN : matchN (opsOf l) = some all := by unfold matchN; rw [hol, hrun, if_neg (by simp at g1; omega)]; cases opn with | nil => rfl | cons z zs => simp at g24
    simp only [blN, okN, hN, Option.getD_some, Option.isSome_some]; exact ⟨a, rfl, rfl⟩
  · exact stleT
end Go.Proofs.YthhlimmcncbopaaGreat
/-
  A body's bytes: plain words.
-/
namespace Go.Proofs.YthhlimmcncbopaaGreat
open Go.RowKit Go.ChangeShapes Go.WideShapes Go.ChangeAt Go.Deep
def putL (l : List Ins) : List Nat := l.flatMap putN ++ [11]
def dN (d : Int) (op : Int) : Int := if (op == 11) = true then d - 1 else if isO op = true then d + 1 else d
/-- the program's Get: so many more may come -/
def gcN (b : List Nat) : Nat → Nat → Int → List Ins → List Ins × Nat × Int
  | 0, _, _, _ => ([], 0, 4)
  | f + 1, k, d, l =>
    if ((getP (b.drop k)).2.2 != 0) = true then ([], 0, (getP (b.drop k)).2.2)
    else if dN d (getP (b.drop k)).1.op < 0 then (if okN (opsOf l) = true then (l, k + (getP (b.drop k)).2.1, 0) else ([], 0, 1))
    else gcN b f (k + (getP (b.drop k)).2.1) (dN d (getP (b.drop k)).1.op) (l ++ [(getP (b.drop k)).1])
def getC (b : List Nat) : List Ins × Nat × Int := gcN b 301 0 0 []
theorem dN_neg {d op : Int} (hd : 0 ≤ d) : dN d op < 0 ↔ ((op == 11) = true ∧ d = 0) := by
  unfold dN
  split
  · next h => constructor; intro h2; exact ⟨h, by omega⟩; intro h2; omega
  · next h =>
    constructor
    · intro h2; split at h2 <;> omega
    · intro h2; exact absurd h2.1 h
/-- an error tells nothing else -/
theorem gcN_err (b : List Nat) : ∀ (f k : Nat) (d : Int) (l : List Ins), (gcN b f k d l).2.2 ≠ 0 → (gcN b f k d l).1 = [] ∧ (gcN b f k d l).2.1 = 0
  | 0, k, d, l => fun _ => ⟨rfl, rfl⟩
  | f + 1, k, d, l => by
    rw [gcN]
    split
    · exact fun _ => ⟨rfl, rfl⟩
    split
    · split
      · exact fun h => absurd rfl h
      · exact fun _ => ⟨rfl, rfl⟩
    · exact gcN_err b f _ _ _
theorem getC_err (b : List Nat) (h : (getC b).2.2 ≠ 0) : (getC b).1 = [] ∧ (getC b).2.1 = 0 := gcN_err _ _ _ _ _ h
theorem form11 {x : Ins} (hx : x.Ok) (hm : mayN x = true) (h : x.op = 11) : x = ⟨11, 0, 0, []⟩ := by
  have f17 := may17 hm (by rw [h]; rfl)
  have fb := may_b hm (by rw [h]; decide)
  have fl := may_l hm (by rw [h]; decide)
  obtain ⟨op, a, c, L⟩ := x
  dsimp only at h f17 fb fl
  subst h f17 fb fl
  rfl
theorem Sp.of_drop {b p : List Nat} {k n : Nat} (hk : k ≤ b.length) (h : Sp (b.drop k) 0 n p) : Sp b k (k + n) p := by
  obtain ⟨h1, h2, h3⟩ := h
  rw [List.drop_zero, List.drop_drop] at h1
  rw [List.length_drop] at h3
  exact ⟨h1, by omega, by omega⟩
theorem gcN_sound {b : List Nat} (hb : ∀ x ∈ b, x < 256) : ∀ (f k : Nat) (d : Int) (l : List Ins), 0 ≤ d → (gcN b f k d l).2.2 = 0 → Sp b 0 k (l.flatMap putN) → (∀ x ∈ l, x.Ok ∧ mayN x = true) →
    okN (opsOf (gcN b f k d l).1) = true ∧ Sp b 0 (gcN b f k d l).2.1 (putL (gcN b f k d l).1) ∧ ∀ x ∈ (gcN b f k d l).1, x.Ok ∧ mayN x = true
  | 0, k, d, l => fun _ h => by cases h
  | f + 1, k, d, l => by
    intro hd h hs hl
    rw [gcN] at h ⊢
    by_cases h1 : ((getP (b.drop k)).2.2 != 0) = true
    · rw [if_pos h1] at h; rw [show (getP (b.drop k)).2.2 = 0 from h] at h1; simp at h1
    rw [if_neg h1] at h ⊢
    have he : (getP (b.drop k)).2.2 = 0 := by simpa using h1
    obtain ⟨ho, hm, hsp⟩ := getP_sound (fun x hx => hb x (List.mem_of_mem_drop hx)) he
    have hsp := Sp.of_drop hs.2.2 hsp
    by_cases h2 : dN d (getP (b.drop k)).1.op < 0
    · rw [if_pos h2] at h ⊢
      by_cases h3 : okN (opsOf l) = true
      · rw [if_pos h3] at h ⊢
        refine ⟨h3, ?_, hl⟩
        have h11 := ((dN_neg hd).1 h2).1
        rw [form11 ho hm (by simpa using h11)] at hsp
        exact hs.trans hsp
      · rw [if_neg h3] at h; cases h
    · rw [if_neg h2] at h ⊢
      refine gcN_sound hb f _ _ _ (by omega) h ?_ ?_
      · rw [List.flatMap_append]
        simpa using hs.trans hsp
      · intro x hx
        rcases List.mem_append.1 hx with hx | hx
        · exact hl x hx
        · rw [List.mem_singleton.1 hx]; exact ⟨ho, hm⟩
theorem getC_sound {b : List Nat} (hb : ∀ x ∈ b, x < 256) (h : (getC b).2.2 = 0) : okN (opsOf (getC b).1) = true ∧ Sp b 0 (getC b).2.1 (putL (getC b).1) ∧ ∀ x ∈ (getC b).1, x.Ok ∧ mayN x = true :=
  gcN_sound hb 301 0 0 [] (Int.le_refl 0) h (Sp.nil (Nat.zero_le _)) (by simp)
/-! ### a body goes there and back -/
theorem okN_len {ops : List Int} (h : okN ops = true) : ops.length ≤ 300 := by
  unfold okN matchN at h
  split at h
  · cases h
  · omega
theorem okN_run {ops : List Int} (h : okN ops = true) : ∃ all, mrun ops ops.length = some ⟨all, []⟩ := by
  unfold okN matchN at h
  split at h
  · cases h
  · split at h
    · next all h2 => exact ⟨all, h2⟩
    · cases h
theorem okN_at {ops : List Int} (h : okN ops = true) {j : Nat} (hj : j ≤ ops.length) : ∃ s, mrun ops j = some s := by
  obtain ⟨all, h⟩ := okN_run h
  cases hs : mrun ops j with
  | some s => exact ⟨s, rfl⟩
  | none =>
    have := mrun_none hs (ops.length - j)
    rw [Nat.add_sub_cancel' hj, h] at this
    cases this
theorem mstep_d {ops : List Int} {s s' : MS} {i : Nat} {op : Int} (h : mstep ops s i op = some s') : (s'.opn.length : Int) = dN s.opn.length op := by
  unfold mstep at h
  unfold dN
  split at h
  · next ho =>
    split at h
    · cases h
    · obtain rfl := Option.some.inj h
      rw [if_neg (by unfold isO at ho; simp at ho ⊢; omega), if_pos ho]; simp
  next ho =>
  split at h
  · next h5 =>
    obtain rfl := Option.some.inj h
    rw [if_neg (by simpa using h5.2), if_neg ho]
  next h5 =>
  unfold mtop at h
  split at h
  · cases h
  next k hk =>
  split at h
  · cases h
  split at h
  · next h11 =>
    obtain rfl := Option.some.inj h
    have : s.opn ≠ [] := by intro h0; rw [h0] at hk; cases hk
    have := List.length_pos_iff.2 this
    rw [if_pos (by simpa using h11)]; simp; omega
  next h11 =>
  split at h
  · cases h
  · obtain rfl := Option.some.inj h
    rw [if_neg (by simpa using h11), if_neg ho]
/-- reading on, behind j of them -/
theorem gcN_back {l : List Ins} (hl : ∀ x ∈ l, x.Ok ∧ mayN x = true) (hok : okN (opsOf l) = true) (r : List Nat) : ∀ (m j : Nat) (s : MS) (f : Nat), m + j = l.length → m < f → mrun (opsOf l) j = some s →
    gcN (putL l ++ r) f ((l.take j).flatMap putN).length s.opn.length (l.take j) = (l, (putL l).length, 0) := by
  have hol : (opsOf l).length = l.length := by simp [opsOf]
  have hdrop : ∀ j, (putL l ++ r).drop ((l.take j).flatMap putN).length = (l.drop j).flatMap putN ++ (11 :: r) := by
    intro j
    have : putL l ++ r = (l.take j).flatMap putN ++ ((l.drop j).flatMap putN ++ (11 :: r)) := by
      unfold putL
      conv => lhs; rw [← List.take_append_drop j l, List.flatMap_append]
      simp
    rw [this, List.drop_left]
  intro m
  induction m with
  | zero =>
    intro j s f hj hf hs
    obtain ⟨f, rfl⟩ : ∃ g, f = g + 1 := ⟨f - 1, by omega⟩
    obtain rfl : j = l.length := by omega
    obtain ⟨all, ha⟩ := okN_run hok
    rw [hol, hs] at ha
    obtain rfl := Option.some.inj ha
    have hg : getP ((putL l ++ r).drop ((l.take l.length).flatMap putN).length) = (⟨11, 0, 0, []⟩, 1, 0) := by
      rw [hdrop, List.drop_length]
      exact get_put (x := ⟨11, 0, 0, []⟩) ⟨by decide, by decide, by decide, by decide, by decide⟩ (by decide) r
    rw [gcN, hg, if_neg (by decide), if_pos (show dN (([] : List Nat).length : Nat) 11 < 0 by decide), List.take_length, if_pos hok]
    simp [putL]
  | succ m ih =>
    intro j s f hj hf hs
    obtain ⟨f, rfl⟩ : ∃ g, f = g + 1 := ⟨f - 1, by omega⟩
    have hlt : j < l.length := by omega
    obtain ⟨x, hx⟩ : ∃ x, l[j]? = some x := ⟨_, List.getElem?_eq_getElem hlt⟩
    obtain ⟨hxo, hxm⟩ := hl x (List.mem_of_getElem? hx)
    have hg : getP ((putL l ++ r).drop ((l.take j).flatMap putN).length) = (x, (putN x).length, 0) := by
      rw [hdrop, List.drop_eq_getElem_cons hlt, (List.getElem?_eq_some_iff.1 hx).2, List.flatMap_cons, List.append_assoc]
      exact get_put hxo hxm _
    obtain ⟨s', hs'⟩ := okN_at hok (j := j + 1) (by omega)
    have hst := mrun_next hs (opsOf_at hx)
    rw [hs'] at hst
    have hd := mstep_d hst.symm
    have ht : l.take (j + 1) = l.take j ++ [x] := by rw [List.take_add_one, hx]; rfl
    have hn := ih (j + 1) s' f (by omega) (by omega) hs'
    rw [gcN, hg, if_neg (by simp)]
    dsimp only
    rw [← hd, if_neg (by omega), ← ht, ← hn, ht, List.flatMap_append]
    simp
theorem getC_back {l : List Ins} (hl : ∀ x ∈ l, x.Ok ∧ mayN x = true) (hok : okN (opsOf l) = true) (r : List Nat) : getC (putL l ++ r) = (l, (putL l).length, 0) := by
  have := okN_len hok
  have hol : (opsOf l).length = l.length := by simp [opsOf]
  exact gcN_back hl hok r l.length 0 ⟨[], []⟩ 301 (by omega) (by omega) rfl
end Go.Proofs.YthhlimmcncbopaaGreat
/-
  The program's Put and Get of bodies, the document's PutBody, EqBody.
-/
namespace Go.Proofs.YthhlimmcncbopaaGreat
open Go.RowKit Go.ChangeShapes Go.WideShapes Go.ChangeAt Go.Deep
attribute [local irreducible] SW RS RD AThen ABlock
theorem take_sub {b : List Nat} {k : Nat} : List.take ((b.map encU).length - k) (List.drop k (b.map encU)) = (b.drop k).map encU := by
  rw [List.map_drop]; exact List.take_of_length_le (by simp)
def pJ (l : List Ins) (j : Nat) : List Nat := (l.take j).flatMap putN
theorem pJ_next {l : List Ins} {j : Nat} {x : Ins} (h : l[j]? = some x) : pJ l (j + 1) = pJ l j ++ putN x := by
  unfold pJ; rw [List.take_add_one, h, List.flatMap_append]; simp
theorem pJ_len {l : List Ins} (hm : ∀ x ∈ l, x.Ok ∧ mayN x = true) (j : Nat) : (pJ l j).length ≤ 200 * l.length := by
  have h1 : (pJ l j).length ≤ 200 * (l.take j).length := flat_put_len fun x hx => hm x (List.mem_of_mem_take hx)
  have : (l.take j).length ≤ l.length := by simp; omega
  omega
theorem pJ_all {l : List Ins} : pJ l l.length ++ [11] = putL l := by unfold pJ putL; rw [List.take_length]
theorem putL_len {l : List Ins} (hm : ∀ x ∈ l, x.Ok ∧ mayN x = true) : (putL l).length ≤ 200 * l.length + 1 := by
  rw [← pJ_all]; have := pJ_len hm l.length; simp; omega
theorem putL_lt {l : List Ins} (hm : ∀ x ∈ l, x.Ok ∧ mayN x = true) : ∀ b ∈ putL l, b < 256 := by
  intro b hb
  rcases List.mem_append.1 hb with hb | hb
  · exact flat_put_lt hm b hb
  · rw [List.mem_singleton.1 hb]; decide
theorem code_put (q : Nat) (vs : List Nat) (hvs : vs.length ≤ 20000000) (l : List Ins) (hl : l.length ≤ 310) (hm : ∀ x ∈ l, x.Ok ∧ mayN x = true) : SCall Tryz.prog 213 [.own q 0 vs.length, .ro 4 (l.map (iv .any)) .any] [(q, .arr 5 1 (vs.map encU))]
    (fun y σ => ∃ r, y = .own r 0 (vs ++ putL l).length ∧ σ = [(r, .arr 5 1 ((vs ++ putL l).map encU))]) := by
  refine scall_of (n := 20) (ks := [0, 1, 4, 6, 7, 8, 9, 10]) Tryz.func213 rfl rfl (Nat.le_of_ble_eq_true rfl) ?_
  refine sq97 ?_
  refine lp (β := Nat × Nat) (fun b => ⟨[(0, .own b.1 0 (vs ++ pJ l b.2).length), (7, .ro 4 (l.map (iv .any)) .any), (8, .int .i64 l.length), (9, .int .i64 b.2)], [(b.1, .arr 5 1 ((vs ++ pJ l b.2).map encU))]⟩) (fun b => b.2 ≤ l.length) (fun b => l.length - b.2) (q, 0) (by dsimp only; rw [show vs ++ pJ l 0 = vs by simp [pJ]]; (exact sgoT)) (Nat.zero_le _) ?_
  rintro ⟨q1, j⟩ hj
  have hpl := pJ_len hm j
  dsimp only at hj ⊢
  refine sq40 ?_
  refine sw_cond rfl (fun g2 => ?_) (fun g2 => ?_)
  · have hlt : j < l.length := by simp at g2; omega
    obtain ⟨x, hx⟩ : ∃ x, l[j]? = some x := ⟨_, List.getElem?_eq_getElem hlt⟩
    obtain ⟨hxo, hxm⟩ := hm x (List.mem_of_getElem? hx)
    have hnx := pJ_next hx
    refine sq3 ?_
    refine sq59 ?_
    apply al; rfl; (exact zcT); refine freshT fun r6 h6 => ?_; repeat rcases h6 with ⟨_, h6⟩
    apply stp; rfl; rfl; rfl; rfl; (exact sputT)
    refine sq27 ?_
    refine z99 ?_
    refine cw [(q1, .arr 5 1 ((vs ++ pJ l j).map encU))] Tryz.call207 (instr_put q1 (vs ++ pJ l j) (by simp; omega) .any x hxo hxm) rfl argsleT stleT ?_
    rintro _ σ' ⟨r15, rfl, rfl⟩ h15
    have k15 := rest1T h15; repeat rcases k15 with ⟨_, k15⟩
    apply rs_sto; exact nflT
    refine sq78 ?_
    refine ⟨(r15, j + 1), hlt, by show l.length - (j + 1) < l.length - j; omega, ?_⟩
    dsimp only
    rw [hnx, ← List.append_assoc]
    exact sgoT
  obtain rfl : j = l.length := by simp at g2; omega
  refine sq7 ?_
  refine z1 ?_; refine freshT fun r18 h18 => ?_; repeat rcases h18 with ⟨_, h18⟩
  refine apA (((vs ++ pJ l l.length) ++ [11]).map encU) ((vs ++ pJ l l.length) ++ [11]).length ?_
  refine apnT fun r19 h19 => ?_; repeat rcases h19 with ⟨_, h19⟩
  refine sq2 ?_
  rw [List.append_assoc, pJ_all]
  apply aend; exact resT
  · exact ⟨r19, rfl, rfl⟩
  · exact stleT
instance : DecidableEq Ins := fun x y => if h : eqN x y = true then .isTrue (eqN_iff.1 h) else .isFalse fun e => h (eqN_iff.2 e)
theorem code_get (b : List Nat) (hb : b.length ≤ 1000000) (hlt : ∀ x ∈ b, x < 256) : SCall Tryz.prog 224 [.ro 1 (b.map encU) .any] []
    (fun y σ => ∃ q, y = .tup [.own q 0 (getC b).1.length, .int .i64 ((getC b).2.1 : Nat), .int .i64 (getC b).2.2] ∧ σ = [(q, .arr 45 4 ((getC b).1.map (iv .any)))]) := by
  refine scall_of (n := 55) (ks := [0, 2, 3, 4, 5, 6, 7, 8, 9, 10, 12, 22, 29, 34, 38, 45, 54]) Tryz.func224 rfl rfl (Nat.le_of_ble_eq_true rfl) ?_
  refine sq3 ?_
  refine sq23 ?_
  refine rgT ?_
  refine sq25 ?_
  refine sq25 ?_
  refine sq2 ?_
  refine sw_virt 5 45 4 (by decide) rfl (by decide) (freshT fun q0 hq0 => ?_); repeat rcases hq0 with ⟨_, hq0⟩
  refine lp (β := Nat × Nat × Int × Nat × List Ins) (fun b' => ⟨[(0, .ro 1 (b.map encU) .any), (5, .own b'.1 0 b'.2.2.2.2.length), (6, .int .i64 b'.2.2.1), (7, .int .i64 b'.2.1)], [(b'.1, .arr 45 4 (b'.2.2.2.2.map (iv .any)))]⟩) (fun b' => b'.2.1 ≤ b.length ∧ 0 ≤ b'.2.2.1 ∧ b'.2.2.1 ≤ b'.2.2.2.2.length ∧ b'.2.2.2.1 + b'.2.2.2.2.length = 301 ∧ 1 ≤ b'.2.2.2.1 ∧ getC b = gcN b b'.2.2.2.1 b'.2.1 b'.2.2.1 b'.2.2.2.2) (fun b' => b'.2.2.2.1) (q0, 0, 0, 301, []) sgoT ⟨Nat.zero_le _, Int.le_refl 0, Int.le_refl 0, rfl, by show 1 ≤ 301; decide, rfl⟩ ?_
  rintro ⟨q, k, d, f, l⟩ ⟨hk, hd0, hdl, hfl, hf1, hG⟩
  dsimp only at hk hd0 hdl hfl hf1 hG ⊢
  obtain ⟨f, rfl⟩ : ∃ g, f = g + 1 := ⟨f - 1, by omega⟩
  have hlt2 : ∀ x ∈ b.drop k, x < 256 := fun x hx => hlt x (List.mem_of_mem_drop hx)
  have hsnd := getP_sound hlt2
  rw [gcN] at hG
  refine sq18 ?_
  refine z127 ?_
  rw [take_sub]
  refine cw [] Tryz.call244 (instr_get (b.drop k) (by simp; omega) hlt2) rfl argsleT stleT ?_
  rintro _ σ' ⟨q3, rfl, rfl⟩ h17
  replace h17 := cnewT h17; repeat rcases h17 with ⟨_, h17⟩
  apply rs_sto; exact nflT
  generalize getP (b.drop k) = gp at hG hsnd ⊢
  obtain ⟨x, n, e⟩ := gp
  dsimp only at hG hsnd ⊢
  refine sq74 ?_
  apply al; rfl; (exact zcT); refine freshT fun r8 h8 => ?_; repeat rcases h8 with ⟨_, h8⟩
  apply stp; rfl; rfl; rfl; rfl; (exact sputT)
  refine sq82 ?_
  refine sq20 ?_
  refine sw_cond rfl (fun g5 => ?_) (fun g5 => ?_)
  · refine sq7 ?_
    refine sq77 ?_
    refine an ?_
    refine sw_virt 2 45 4 (by decide) rfl (by decide) (freshT fun q2 hq2 => ?_); repeat rcases hq2 with ⟨_, hq2⟩
    have hE : getC b = ([], 0, e) := by rw [hG, if_pos g5]
    refine ctlT ?_
    apply aend; exact resT
    · exact ⟨q2, by rw [hE]; rfl, by rw [hE]⟩
    · exact stleT
  rw [if_neg (by simp [g5])] at hG
  obtain ⟨hxo, hxm, hsp⟩ := hsnd (by simpa using g5)
  have hkn : k + n ≤ b.length := by have := hsp.2.2; simp at this; omega
  refine sq18 ?_
  refine z17 ?_
  refine sq41 ?_
  refine sq34 ?_
  refine sw_cond rfl (fun g8 => ?_) (fun g8 => ?_)
  · have hD : dN d x.op = d - 1 := by unfold dN; rw [if_pos g8]
    refine sq7 ?_
    refine z19 ?_
    refine sq37 ?_
    refine sq13 ?_
    refine sw_cond rfl (fun g12 => ?_) (fun g12 => ?_)
    · rw [if_pos (by rw [hD]; simpa using g12)] at hG
      refine sq7 ?_
      refine clA Tryz.call36 (code_match l (by omega)) rfl bargsT noT ?_
      rintro _ σ' ⟨q4, rfl, rfl⟩ h41
      replace h41 := lnewT h41; repeat rcases h41 with ⟨_, h41⟩
      apply rs_sto; exact nflT
      refine sq36 ?_
      refine sq82 ?_
      refine sq48 ?_
      refine sw_cond rfl (fun g14 => ?_) (fun g14 => ?_)
      · refine sq3 ?_
        refine sq77 ?_
        refine an ?_
        refine sw_virt 2 45 4 (by decide) rfl (by decide) (freshT fun q2 hq2 => ?_); repeat rcases hq2 with ⟨_, hq2⟩
        have hE : getC b = ([], 0, 1) := by rw [hG, if_neg]; intro h; rw [h] at g14; cases g14
        refine ctlT ?_
        apply aend; exact resT
        · exact ⟨q2, by rw [hE]; rfl, by rw [hE]⟩
        · exact stleT
      refine sq18 ?_
      refine sq23 ?_
      have hE : getC b = (l, k + n, 0) := by rw [hG, if_pos]; cases h : okN (opsOf l); rw [h] at g14; cases g14; rfl
      apply aend; exact resT
      · exact ⟨q, by rw [hE]; rfl, by rw [hE]⟩
      · exact stleT
    rw [if_neg (by rw [hD]; simpa using g12)] at hG
    refine ctlT ?_
    refine sw_go (sgo_fzb (r := r8) (q := q3) ssetT sdelT (.cons (.refl _) (.cons (.refl _) (.cons (.refl _) (.cons (bor_own sgT (by simp)) .nil))))) ?_
    refine sq1 ?_
    refine z99 ?_
    refine z1 ?_; refine freshT fun r50 h50 => ?_; repeat rcases h50 with ⟨_, h50⟩
    refine apA ((l ++ [x]).map (iv .any)) (l ++ [x]).length ?_
    refine apnT fun r51 h51 => ?_; repeat rcases h51 with ⟨_, h51⟩
    refine sq84 ?_
    refine sq56 ?_
    refine sw_cond rfl (fun g18 => ?_) (fun g18 => ?_)
    · refine sq3 ?_
      refine sq77 ?_
      refine an ?_
      refine sw_virt 2 45 4 (by decide) rfl (by decide) (freshT fun q2 hq2 => ?_); repeat rcases hq2 with ⟨_, hq2⟩
      have hE : getC b = ([], 0, 4) := by obtain rfl : f = 0 := (by simp at g18; omega); rw [hG]; rfl
      refine ctlT ?_
      apply aend; exact resT
      · exact ⟨q2, by rw [hE]; rfl, by rw [hE]⟩
      · exact stleT
    refine ctlT ?_
    have hf0 : l.length + 1 ≤ 300 := by simp at g18; omega
    refine ⟨(r51, k + n, dN d x.op, f, l ++ [x]), ⟨hkn, by show 0 ≤ dN d x.op; rw [hD]; simp at g12; omega, by show dN d x.op ≤ ((l ++ [x]).length : Nat); rw [hD]; simp; omega, by show f + (l ++ [x]).length = 301; simp; omega, by show 1 ≤ f; omega, hG⟩, Nat.lt_succ_self _, ?_⟩
    dsimp only
    rw [hD]
    exact sgoT
  refine sq63 ?_
  refine puA Tryz.call55 (code_opens _) rfl pargsT nofT ?_
  refine sq4 ?_
  refine sw_cond rfl (fun g10 => ?_) (fun g10 => ?_)
  · have hD : dN d x.op = d + 1 := by unfold dN; rw [if_neg (by simp [g8]), if_pos g10]
    refine sq7 ?_
    refine z17 ?_
    refine sq37 ?_
    refine sq13 ?_
    refine sw_cond rfl (fun g12 => ?_) (fun g12 => ?_)
    · rw [if_pos (by rw [hD]; simpa using g12)] at hG
      refine sq7 ?_
      refine clA Tryz.call36 (code_match l (by omega)) rfl bargsT noT ?_
      rintro _ σ' ⟨q4, rfl, rfl⟩ h41
      replace h41 := lnewT h41; repeat rcases h41 with ⟨_, h41⟩
      apply rs_sto; exact nflT
      refine sq36 ?_
      refine sq82 ?_
      refine sq48 ?_
      refine sw_cond rfl (fun g14 => ?_) (fun g14 => ?_)
      · refine sq3 ?_
        refine sq77 ?_
        refine an ?_
        refine sw_virt 2 45 4 (by decide) rfl (by decide) (freshT fun q2 hq2 => ?_); repeat rcases hq2 with ⟨_, hq2⟩
        have hE : getC b = ([], 0, 1) := by rw [hG, if_neg]; intro h; rw [h] at g14; cases g14
        refine ctlT ?_
        apply aend; exact resT
        · exact ⟨q2, by rw [hE]; rfl, by rw [hE]⟩
        · exact stleT
      refine sq18 ?_
      refine sq23 ?_
      have hE : getC b = (l, k + n, 0) := by rw [hG, if_pos]; cases h : okN (opsOf l); rw [h] at g14; cases g14; rfl
      apply aend; exact resT
      · exact ⟨q, by rw [hE]; rfl, by rw [hE]⟩
      · exact stleT
    rw [if_neg (by rw [hD]; simpa using g12)] at hG
    refine ctlT ?_
    refine sw_go (sgo_fzb (r := r8) (q := q3) ssetT sdelT (.cons (.refl _) (.cons (.refl _) (.cons (.refl _) (.cons (bor_own sgT (by simp)) .nil))))) ?_
    refine sq1 ?_
    refine z99 ?_
    refine z1 ?_; refine freshT fun r50 h50 => ?_; repeat rcases h50 with ⟨_, h50⟩
    refine apA ((l ++ [x]).map (iv .any)) (l ++ [x]).length ?_
    refine apnT fun r51 h51 => ?_; repeat rcases h51 with ⟨_, h51⟩
    refine sq84 ?_
    refine sq56 ?_
    refine sw_cond rfl (fun g18 => ?_) (fun g18 => ?_)
    · refine sq3 ?_
      refine sq77 ?_
      refine an ?_
      refine sw_virt 2 45 4 (by decide) rfl (by decide) (freshT fun q2 hq2 => ?_); repeat rcases hq2 with ⟨_, hq2⟩
      have hE : getC b = ([], 0, 4) := by obtain rfl : f = 0 := (by simp at g18; omega); rw [hG]; rfl
      refine ctlT ?_
      apply aend; exact resT
      · exact ⟨q2, by rw [hE]; rfl, by rw [hE]⟩
      · exact stleT
    refine ctlT ?_
    have hf0 : l.length + 1 ≤ 300 := by simp at g18; omega
    refine ⟨(r51, k + n, dN d x.op, f, l ++ [x]), ⟨hkn, by show 0 ≤ dN d x.op; rw [hD]; simp at g12; omega, by show dN d x.op ≤ ((l ++ [x]).length : Nat); rw [hD]; simp; omega, by show f + (l ++ [x]).length = 301; simp; omega, by show 1 ≤ f; omega, hG⟩, Nat.lt_succ_self _, ?_⟩
    dsimp only
    rw [hD]
    exact sgoT
  have hD : dN d x.op = d := by unfold dN; rw [if_neg (by simp [g8]), if_neg (by simp [g10])]
  refine sq7 ?_
  refine sq13 ?_
  refine sw_cond rfl (fun g12 => ?_) (fun g12 => ?_)
  · rw [if_pos (by rw [hD]; simpa using g12)] at hG
    refine sq7 ?_
    refine clA Tryz.call36 (code_match l (by omega)) rfl bargsT noT ?_
    rintro _ σ' ⟨q4, rfl, rfl⟩ h41
    replace h41 := lnewT h41; repeat rcases h41 with ⟨_, h41⟩
    apply rs_sto; exact nflT
    refine sq36 ?_
    refine sq82 ?_
    refine sq48 ?_
    refine sw_cond rfl (fun g14 => ?_) (fun g14 => ?_)
    · refine sq3 ?_
      refine sq77 ?_
      refine an ?_
      refine sw_virt 2 45 4 (by decide) rfl (by decide) (freshT fun q2 hq2 => ?_); repeat rcases hq2 with ⟨_, hq2⟩
      have hE : getC b = ([], 0, 1) := by rw [hG, if_neg]; intro h; rw [h] at g14; cases g14
      refine ctlT ?_
      apply aend; exact resT
      · exact ⟨q2, by rw [hE]; rfl, by rw [hE]⟩
      · exact stleT
    refine sq18 ?_
    refine sq23 ?_
    have hE : getC b = (l, k + n, 0) := by rw [hG, if_pos]; cases h : okN (opsOf l); rw [h] at g14; cases g14; rfl
    apply aend; exact resT
    · exact ⟨q, by rw [hE]; rfl, by rw [hE]⟩
    · exact stleT
  rw [if_neg (by rw [hD]; simpa using g12)] at hG
  refine ctlT ?_
  refine sw_go (sgo_fzb (r := r8) (q := q3) ssetT sdelT (.cons (.refl _) (.cons (.refl _) (.cons (.refl _) (.cons (bor_own sgT (by simp)) .nil))))) ?_
  refine sq1 ?_
  refine z99 ?_
  refine z1 ?_; refine freshT fun r50 h50 => ?_; repeat rcases h50 with ⟨_, h50⟩
  refine apA ((l ++ [x]).map (iv .any)) (l ++ [x]).length ?_
  refine apnT fun r51 h51 => ?_; repeat rcases h51 with ⟨_, h51⟩
  refine sq84 ?_
  refine sq56 ?_
  refine sw_cond rfl (fun g18 => ?_) (fun g18 => ?_)
  · refine sq3 ?_
    refine sq77 ?_
    refine an ?_
    refine sw_virt 2 45 4 (by decide) rfl (by decide) (freshT fun q2 hq2 => ?_); repeat rcases hq2 with ⟨_, hq2⟩
    have hE : getC b = ([], 0, 4) := by obtain rfl : f = 0 := (by simp at g18; omega); rw [hG]; rfl
    refine ctlT ?_
    apply aend; exact resT
    · exact ⟨q2, by rw [hE]; rfl, by rw [hE]⟩
    · exact stleT
  refine ctlT ?_
  have hf0 : l.length + 1 ≤ 300 := by simp at g18; omega
  refine ⟨(r51, k + n, dN d x.op, f, l ++ [x]), ⟨hkn, by show 0 ≤ dN d x.op; rw [hD]; simp at g12; omega, by show dN d x.op ≤ ((l ++ [x]).length : Nat); rw [hD]; simp; omega, by show f + (l ++ [x]).length = 301; simp; omega, by show 1 ≤ f; omega, hG⟩, Nat.lt_succ_self _, ?_⟩
  dsimp only
  rw [hD]
  exact sgoT
end Go.Proofs.YthhlimmcncbopaaGreat
/-
  A read-only slice's elements may be told weaker; instructions of which nothing was said but the byte; Put onto nothing.
-/
namespace Go.Proofs.YthhlimmcncbopaaGreat
open Go.RowKit Go.ChangeShapes Go.WideShapes Go.ChangeAt Go.Deep
theorem VLe.ro {sz : Nat} {es es' : List (List AV)} {k : Rk} (hl : es.length = es'.length) (hs : RowsOk sz es')
    (h : ∀ (i : Nat) (e e' : List AV), es[i]? = some e → es'[i]? = some e' → e.length = e'.length ∧ ∀ (j : Nat) (a a' : AV), e[j]? = some a → e'[j]? = some a' → VLe a a') : VLe (.ro sz es k) (.ro sz es' k) := fun M F w v hv => by
  have hx : ∀ (i : Nat) (e' : List AV), es'[i]? = some e' → ∃ e, es[i]? = some e := fun i e' h => ⟨_, List.getElem?_eq_getElem (by have := (List.getElem?_eq_some_iff.1 h).1; omega)⟩
  have hy : ∀ (i : Nat) (e' : List AV) (j : Nat) (a' : AV), es'[i]? = some e' → e'[j]? = some a' → ∃ e a, es[i]? = some e ∧ e[j]? = some a ∧ VLe a a' := fun i e' j a' h1 h2 => by
    obtain ⟨e, he⟩ := hx i e' h1
    obtain ⟨g1, g2⟩ := h i e e' he h1
    have hj := (List.getElem?_eq_some_iff.1 h2).1
    have ha : e[j]? = some (e[j]'(by omega)) := List.getElem?_eq_getElem (by omega)
    exact ⟨e, _, he, ha, g2 j _ a' ha h2⟩
  cases hv with
  | ro hb hs' hc hr hle hm hf hn =>
    rw [hl]
    rw [hl] at hle hf
    rename_i b o cap us
    refine .ro (us := us) hb hs (fun i e' j a' h1 h2 => ?_) (fun i e' j a' h1 h2 => ?_) hle hm hf hn
    · obtain ⟨e, a, he, ha, -⟩ := hy i e' j a' h1 h2; exact hc i e j a he ha
    · obtain ⟨e, a, he, ha, hv⟩ := hy i e' j a' h1 h2; exact hv _ _ _ _ (hr i e j a he ha)
  | ro0 hm hA hf hn =>
    obtain rfl : es' = [] := List.length_eq_zero_iff.1 hl.symm
    exact .ro0 hm hA hf hn
/-
  Modules as bytes: plain words.
-/
structure FT where
  pr : List Int
  rs : List Int
structure Im where
  mod : List Nat
  nm : List Nat
  ty : Int
structure Gl where
  mu : Bool
  kd : Int
  n : Int
structure Ex where
  nm : List Nat
  fn : Int
structure El where
  off : Int
  fs : List Int
structure Co where
  ls : List Int
  bd : List Ins
structure Da where
  off : Int
  bs : List Nat
structure Li where
  has : Bool
  mn : Int
  mx : Int
structure Md where
  ty : List FT
  im : List Im
  fn : List Int
  tb : Li
  me : Li
  gl : List Gl
  ex : List Ex
  el : List El
  co : List Co
  da : List Da
def li0 : Li := ⟨false, 0, 0⟩
def md0 : Md := ⟨[], [], [], li0, li0, [], [], [], [], []⟩
def encFT (x : FT) : List AV := [.ro 1 (x.pr.map encI) .any, .ro 1 (x.rs.map encI) .any]
def encIm (x : Im) : List AV := [.str (strU x.mod), .str (strU x.nm), .int .i64 x.ty]
def encGl (x : Gl) : List AV := [.bool x.mu, .int .i64 x.kd, .int .i64 x.n]
def encEx (x : Ex) : List AV := [.str (strU x.nm), .int .i64 x.fn]
def encEl (x : El) : List AV := [.int .i64 x.off, .ro 1 (x.fs.map encI) .any]
def encCo (x : Co) : List AV := [.ro 1 (x.ls.map encI) .any, .ro 4 (x.bd.map (iv .any)) .any]
def encDa (x : Da) : List AV := [.int .i64 x.off, .ro 1 (x.bs.map encU) .any]
def encLi (x : Li) : List AV := [.bool x.has, .int .i64 x.mn, .int .i64 x.mx]
def encMd (m : Md) : List AV := [.ro 2 (m.ty.map encFT) .any, .ro 3 (m.im.map encIm) .any, .ro 1 (m.fn.map encI) .any, .bool m.tb.has, .int .i64 m.tb.mn, .int .i64 m.tb.mx, .bool m.me.has, .int .i64 m.me.mn, .int .i64 m.me.mx,
  .ro 3 (m.gl.map encGl) .any, .ro 2 (m.ex.map encEx) .any, .ro 2 (m.el.map encEl) .any, .ro 2 (m.co.map encCo) .any, .ro 2 (m.da.map encDa) .any]
/-! ### writing -/
def vecB {α : Type} (l : List α) (pt : α → List Nat) : List Nat := uB l.length ++ l.flatMap pt
def txtB (s : List Nat) : List Nat := uB s.length ++ s
def kB (k : Int) : List Nat := if (k == 1) = true then [127] else [126]
def numB (n : Int) : List Nat := uB n.toNat
def conB (k n : Int) : List Nat := putN ⟨if (k == 2) = true then 66 else 65, n, 0, []⟩ ++ [11]
def plcB (n : Int) : List Nat := 0 :: conB 1 n
def limB (l : Li) : List Nat := if decide (l.mx < 0) = true then 0 :: numB l.mn else 1 :: (numB l.mn ++ numB l.mx)
/-- runs of one kind: the last one grows -/
def runsN : List Int → List (List Int) := fun l => l.foldl (fun r k => match r.getLast? with
  | some (x :: xs) => if x == k then r.dropLast ++ [(x :: xs) ++ [k]] else r ++ [[k]]
  | _ => r ++ [[k]]) []
def runB (r : List Int) : List Nat := numB r.length ++ kB (r.headD 0)
def codB (c : Co) : List Nat := uB (vecB (runsN c.ls) runB ++ putL c.bd).length ++ (vecB (runsN c.ls) runB ++ putL c.bd)
def secB {α : Type} (no : Nat) (l : List α) (pt : α → List Nat) : List Nat := if l.isEmpty then [] else no :: (uB (vecB l pt).length ++ vecB l pt)
def ftB (t : FT) : List Nat := 96 :: (vecB t.pr kB ++ vecB t.rs kB)
def imB (x : Im) : List Nat := txtB x.mod ++ txtB x.nm ++ [0] ++ numB x.ty
def glB (g : Gl) : List Nat := kB g.kd ++ [if g.mu then 1 else 0] ++ conB g.kd g.n
def exB (x : Ex) : List Nat := txtB x.nm ++ [0] ++ numB x.fn
def elB (x : El) : List Nat := plcB x.off ++ vecB x.fs numB
def daB (x : Da) : List Nat := plcB x.off ++ uB x.bs.length ++ x.bs
def oneL (l : Li) : List Li := if l.has then [l] else []
def headB : List Nat := [0, 97, 115, 109, 1, 0, 0, 0]
def writB (m : Md) : List Nat := headB ++ secB 1 m.ty ftB ++ secB 2 m.im imB ++ secB 3 m.fn numB ++ secB 4 (oneL m.tb) (fun l => 112 :: limB l) ++ secB 5 (oneL m.me) limB ++ secB 6 m.gl glB ++ secB 7 m.ex exB ++ secB 9 m.el elB ++ secB 10 m.co codB ++ secB 11 m.da daB
/-! ### which may be -/
def smN_ (n : Int) : Bool := if decide (0 ≤ n) = true then decide (n ≤ 1000) else false
def kdN (k : Int) : Bool := if (k == 1) = true then true else (k == 2)
def nmN (s : List Nat) : Bool := if (s.length != 0) = true then (decide (s.length ≤ 16) && s.all fun c => decide (32 ≤ c) && decide (c ≤ 126)) else false
def offN (n : Int) : Bool := decide (-2147483648 ≤ n) && decide (n ≤ 2147483647)
def limN (l : Li) (least most : Int) : Bool := if l.has then decide (0 ≤ l.mn) && decide (l.mn ≤ least) && decide (-1 ≤ l.mx) && decide (l.mx ≤ most) else (l.mn == 0 && l.mx == 0)
def allN {α : Type} (l : List α) (most : Int) (p : α → Bool) : Bool := decide ((l.length : Int) ≤ most) && l.all p
def valN (k n : Int) : Bool := (k == 1 && decide (-2147483648 ≤ n) && decide (n ≤ 2147483647)) || (k == 2)
def listsN (m : Md) : Bool := allN m.ty 16 (fun t => allN t.pr 32 kdN && allN t.rs 1 kdN) && allN m.im 16 (fun x => nmN x.mod && nmN x.nm && smN_ x.ty) && allN m.fn (16 - m.im.length) smN_ &&
  allN m.gl 16 (fun g => valN g.kd g.n) && allN m.ex 16 (fun x => nmN x.nm && smN_ x.fn) && allN m.el 16 (fun x => offN x.off && allN x.fs 50 smN_) && allN m.da 16 (fun x => offN x.off && decide (x.bs.length ≤ 1000))
def codN (c : Co) : Bool := okN (opsOf c.bd) && allN c.ls 32 kdN && allN c.bd 300 mayN
def mayM (m : Md) : Bool := (m.co.length == m.fn.length && allN m.co 16 codN) && listsN m && limN m.tb 16 1000 && limN m.me 16 65536 && decide ((writB m).length ≤ 8000)
theorem co_may {k n : Int} (h : valN k n = true) (hn : -9223372036854775808 ≤ n ∧ n ≤ 9223372036854775807) : (⟨if (k == 2) = true then 66 else 65, n, 0, []⟩ : Ins).Ok ∧ mayN ⟨if (k == 2) = true then 66 else 65, n, 0, []⟩ = true ∧ (k = 1 ∨ k = 2) := by
  unfold valN at h
  simp only [Bool.or_eq_true, Bool.and_eq_true, beq_iff_eq, decide_eq_true_eq] at h
  rcases h with ⟨⟨rfl, h1⟩, h2⟩ | rfl
  · refine ⟨⟨by simp, by simp, hn.1, hn.2, by simp⟩, ?_, .inl rfl⟩
    rw [if_neg (by decide)]
    have : formN 65 = 8 := by decide
    simp [mayN, preN, this, bt2_eq]; omega
  · refine ⟨⟨by simp, by simp, hn.1, hn.2, by simp⟩, ?_, .inr rfl⟩
    rw [if_pos (by decide)]
    have : formN 66 = 9 := by decide
    simp [mayN, preN, this]
/-
  Package check: what is asked, plainly.
-/
/-- a block that is being asked -/
structure Ct where
  op : Int
  kd : Int
  ht : Nat
  dd : Bool
/-- what a checker holds: kinds, blocks, whether it does not fit -/
structure PS where
  vs : List Int
  cs : List Ct
  bad : Bool
def encCt (c : Ct) : List AV := [.int .i64 c.op, .int .i64 c.kd, .int .i64 c.ht, .bool c.dd]
def ct0 : Ct := ⟨0, 0, 0, false⟩
def PS.top (s : PS) : Ct := s.cs.getLast?.getD ct0
def needP (s : PS) (ok : Bool) : PS := ⟨s.vs, s.cs, if s.bad = true then true else !ok⟩
def pushP (s : PS) (ks : List Int) : PS := ⟨s.vs ++ ks, s.cs, s.bad⟩
def popP (s : PS) (w : Int) : Int × PS :=
  if ((s.vs.length : Int) == s.top.ht) = true then (w, needP s s.top.dd)
  else if (s.vs.getLast?.getD 0 == 0) = true then (w, ⟨s.vs.dropLast, s.cs, s.bad⟩)
  else (s.vs.getLast?.getD 0, needP ⟨s.vs.dropLast, s.cs, s.bad⟩ (if (w == 0) = true then true else (s.vs.getLast?.getD 0 == w)))
/-- the last one first -/
def popsP (s : PS) (ks : List Int) : PS := ks.reverse.foldl (fun s k => (popP s k).2) s
def listP (k : Int) : List Int := if (k == 0) = true then [] else [k]
def openP (s : PS) (op kd : Int) : PS := ⟨s.vs, s.cs ++ [⟨op, kd, s.vs.length, false⟩], s.bad⟩
def shutP (s : PS) : PS :=
  let s1 := popsP s (listP s.top.kd)
  let s2 := needP s1 ((s1.vs.length : Int) == s.top.ht)
  ⟨s2.vs, s2.cs.dropLast, s2.bad⟩
def deadP (s : PS) : PS := ⟨s.vs.take s.top.ht, s.cs.dropLast ++ [⟨s.top.op, s.top.kd, s.top.ht, true⟩], s.bad⟩
def labelP (s : PS) (n : Int) : List Int × PS :=
  if decide ((s.cs.length : Int) ≤ n) = true then ([], ⟨s.vs, s.cs, true⟩)
  else (if ((s.cs.getD (s.cs.length - 1 - n.toNat) ct0).op == 3) = true then [] else listP (s.cs.getD (s.cs.length - 1 - n.toNat) ct0).kd, s)
def ft0 : FT := ⟨[], []⟩
def typeOfP (m : Md) (t : Int) : FT × Bool := if (if decide (t < 0) = true then true else decide ((m.ty.length : Int) ≤ t)) = true then (ft0, false) else (m.ty.getD t.toNat ft0, true)
def fnTyP (m : Md) (f : Int) : Int :=
  if decide (f < m.im.length) = true then (m.im.getD f.toNat ⟨[], [], 0⟩).ty
  else if decide (f - m.im.length < m.fn.length) = true then m.fn.getD (f - m.im.length).toNat 0
  else -1
def callsP (s : PS) (t : FT) (ok : Bool) : PS := pushP (popsP (needP s ok) t.pr) t.rs
def eq1 (a b : List Int) : Bool := if ((a.length : Int) == b.length) = true then (if ((a.length : Int) == 0) = true then true else (a.headD 0 == b.headD 0)) else false
def tabP (w : List Int) (s : PS) (n : Int) : PS := needP (labelP s n).2 (eq1 (labelP s n).1 w)
def tableP (s : PS) (x : Ins) : PS :=
  let r := labelP (popP s 1).2 x.a
  deadP (popsP (x.l.foldl (tabP r.1) r.2) r.1)
/-- an instruction that goes elsewhere: false: it is another one -/
def controlP (m : Md) (s : PS) (x : Ins) : Bool × PS :=
  if (x.op == 0) = true then (true, deadP s)
  else if (x.op == 1) = true then (true, s)
  else if (x.op == 2 || x.op == 3) = true then (true, openP s x.op x.a)
  else if (x.op == 4) = true then (true, openP (popP s 1).2 x.op x.a)
  else if (x.op == 5) = true then (true, openP (shutP s) 5 s.top.kd)
  else if (x.op == 11) = true then (true, pushP (needP (shutP s) (if (s.top.op != 4) = true then true else (s.top.kd == 0))) (listP s.top.kd))
  else if (x.op == 12) = true then (true, deadP (popsP (labelP s x.a).2 (labelP s x.a).1))
  else if (x.op == 13) = true then (true, let r := labelP (popP s 1).2 x.a; pushP (popsP r.2 r.1) r.1)
  else if (x.op == 14) = true then (true, tableP s x)
  else if (x.op == 15) = true then (true, deadP (popsP s (listP (s.cs.getD 0 ct0).kd)))
  else if (x.op == 16) = true then (true, let t := typeOfP m (fnTyP m x.a); callsP s t.1 t.2)
  else if (x.op == 17) = true then (true, let t := typeOfP m x.a; callsP (popP (needP s m.tb.has) 1).2 t.1 t.2)
  else (false, s)
def localP (ls : List Int) (s : PS) (n : Int) : Int × PS := if decide ((ls.length : Int) ≤ n) = true then (0, ⟨s.vs, s.cs, true⟩) else (ls.getD n.toNat 0, s)
def gl0 : Gl := ⟨false, 0, 0⟩
def globalP (m : Md) (s : PS) (n : Int) : Gl × PS := if decide ((m.gl.length : Int) ≤ n) = true then (gl0, ⟨s.vs, s.cs, true⟩) else (m.gl.getD n.toNat gl0, s)
def accessP (m : Md) (s : PS) (x : Ins) (al : Int) (tk mk : List Int) : PS := pushP (popsP (needP s (if m.me.has = true then decide (x.a ≤ al) else false)) tk) mk
def plainP (m : Md) (ls : List Int) (s : PS) (x : Ins) : PS :=
  if (x.op == 26) = true then (popP s 0).2
  else if (x.op == 27) = true then
    let s1 := (popP s 1).2; let r := popP s1 0; let r2 := popP r.2 r.1; pushP r2.2 [r2.1]
  else if (x.op == 32) = true then let r := localP ls s x.a; pushP r.2 [r.1]
  else if (x.op == 33) = true then let r := localP ls s x.a; (popP r.2 r.1).2
  else if (x.op == 34) = true then let r := localP ls s x.a; let r2 := localP ls (popP r.2 r.1).2 x.a; pushP r2.2 [r2.1]
  else if (x.op == 35) = true then let r := globalP m s x.a; pushP r.2 [r.1.kd]
  else if (x.op == 36) = true then let r := globalP m s x.a; (popP (needP r.2 r.1.mu) r.1.kd).2
  else if (x.op == 40) = true then accessP m s x 2 [1] [1]
  else if (x.op == 41) = true then accessP m s x 3 [1] [2]
  else if (x.op == 44 || x.op == 45) = true then accessP m s x 0 [1] [1]
  else if (x.op == 54) = true then accessP m s x 2 [1, 1] []
  else if (x.op == 55) = true then accessP m s x 3 [1, 2] []
  else if (x.op == 58) = true then accessP m s x 0 [1, 1] []
  else if (x.op == 63) = true then accessP m s x 0 [] [1]
  else if (x.op == 64) = true then accessP m s x 0 [1] [1]
  else if (x.op == 65) = true then pushP s [1]
  else if (x.op == 66) = true then pushP s [2]
  else let k := kN x.op; pushP (popsP (needP s k.2.2) k.1) [k.2.1]
def stepP (m : Md) (ls : List Int) (s : PS) (x : Ins) : PS := let r := controlP m s x; if r.1 = true then r.2 else plainP m ls r.2 x
/-- the instructions, as long as they fit -/
def goP (m : Md) (ls : List Int) : List Ins → PS → PS
  | [], s => s
  | x :: l, s => let s' := stepP m ls s x; if s'.bad = true then s' else goP m ls l s'
def chkP (m : Md) (k : Int) : Bool :=
  if (if (if decide (k < 0) = true then true else decide ((m.co.length : Int) ≤ k)) = true then true else decide ((m.fn.length : Int) ≤ k)) = true then false
  else
    let c := m.co.getD k.toNat ⟨[], []⟩
    let t := typeOfP m (m.fn.getD k.toNat 0)
    if (if (!t.2) = true then true else !(okN (opsOf c.bd))) = true then false
    else
      let ls := t.1.pr ++ c.ls
      let s := goP m ls c.bd (openP ⟨[], [], false⟩ 2 (if decide ((0 : Int) < t.1.rs.length) = true then t.1.rs.headD 0 else 0))
      if s.bad = true then false else (if (!(shutP s).bad) = true then decide ((ls.length : Int) ≤ 32) else false)
/-! ### what holds throughout: heights rise, none is above the kinds -/
structure PS.Ok0 (s : PS) : Prop where
  le : ∀ c ∈ s.cs, c.ht ≤ s.vs.length
  up : s.cs.Pairwise fun a b => a.ht ≤ b.ht
structure PS.Ok (s : PS) : Prop extends s.Ok0 where
  ne : s.cs ≠ []
theorem top_at {vs : List Int} {i : List Ct} {t : Ct} {b : Bool} : PS.top ⟨vs, i ++ [t], b⟩ = t := by simp [PS.top]
theorem PS.Ok0.split {vs : List Int} {i : List Ct} {t : Ct} {b : Bool} (h : PS.Ok0 ⟨vs, i ++ [t], b⟩) : (∀ c ∈ i, c.ht ≤ t.ht) ∧ t.ht ≤ vs.length ∧ i.Pairwise (fun a b => a.ht ≤ b.ht) := by
  obtain ⟨h1, h2⟩ := h
  rw [List.pairwise_append] at h2
  exact ⟨fun c hc => h2.2.2 c hc t (by simp), h1 t (by simp), h2.1⟩
theorem PS.Ok.cut {s : PS} (h : s.Ok) : ∃ i, s.cs = i ++ [s.top] := by
  obtain ⟨vs, cs, b⟩ := s
  have hn := h.ne
  rcases List.eq_nil_or_concat cs with rfl | ⟨i, t, rfl⟩
  · exact absurd rfl hn
  · rw [List.concat_eq_append]; exact ⟨i, by rw [top_at]⟩
theorem need_cs (s : PS) (b : Bool) : (needP s b).cs = s.cs := rfl
theorem need_vs (s : PS) (b : Bool) : (needP s b).vs = s.vs := rfl
theorem PS.Ok.need {s : PS} (h : s.Ok) (b : Bool) : (needP s b).Ok := ⟨⟨h.le, h.up⟩, h.ne⟩
theorem PS.Ok0.need {s : PS} (h : s.Ok0) (b : Bool) : (needP s b).Ok0 := ⟨h.le, h.up⟩
theorem pop_cs (s : PS) (w : Int) : (popP s w).2.cs = s.cs := by unfold popP; split <;> (try split) <;> rfl
theorem pop_len (s : PS) (w : Int) : (popP s w).2.vs.length ≤ s.vs.length := by
  unfold popP
  split
  · exact Nat.le_refl _
  · split
    · simp
    · simp [needP]
theorem PS.Ok.pop {s : PS} (h : s.Ok) (w : Int) : (popP s w).2.Ok := by
  obtain ⟨i, hi⟩ := h.cut
  have h0 := h.toOk0
  have hne := h.ne
  obtain ⟨vs, cs, b⟩ := s
  dsimp only at hi
  generalize PS.top ⟨vs, cs, b⟩ = t at hi
  subst hi
  obtain ⟨h1, h2, h3⟩ := h0.split
  have key : ¬ (vs.length : Int) == t.ht → ∀ b', PS.Ok ⟨vs.dropLast, i ++ [t], b'⟩ := fun hl b' => by
    have hl : vs.length ≠ t.ht := fun e => hl (by rw [e]; exact beq_self_eq_true _)
    refine ⟨⟨fun c hc => ?_, h0.up⟩, by simp⟩
    show c.ht ≤ vs.dropLast.length
    rw [List.length_dropLast]
    rcases List.mem_append.1 hc with hc | hc
    · have := h1 c hc; omega
    · obtain rfl := List.mem_singleton.1 hc; omega
  unfold popP
  rw [top_at]
  split
  · exact h.need _
  · next hl =>
    split
    · exact key hl b
    · exact (key hl b).need _
theorem pops_snoc (s : PS) (ks : List Int) (k : Int) : popsP s (ks ++ [k]) = popsP (popP s k).2 ks := by simp [popsP]
theorem pops_ind {p : PS → Prop} (h : ∀ s w, p s → p (popP s w).2) : ∀ (ks : List Int) (s : PS), p s → p (popsP s ks) := by
  have : ∀ (l : List Int) (s : PS), p s → p (l.foldl (fun s k => (popP s k).2) s) := by
    intro l
    induction l with
    | nil => intro s hs; exact hs
    | cons a l ih => intro s hs; exact ih _ (h s a hs)
  intro ks s hs
  exact this _ s hs
theorem pops_cs (s : PS) (ks : List Int) : (popsP s ks).cs = s.cs := pops_ind (p := fun q => q.cs = s.cs) (fun q w h => by rw [pop_cs, h]) ks s rfl
theorem pops_len (s : PS) (ks : List Int) : (popsP s ks).vs.length ≤ s.vs.length := pops_ind (p := fun q => q.vs.length ≤ s.vs.length) (fun q w h => Nat.le_trans (pop_len q w) h) ks s (Nat.le_refl _)
theorem PS.Ok.pops {s : PS} (h : s.Ok) (ks : List Int) : (popsP s ks).Ok := pops_ind (fun q w h => h.pop w) ks s h
theorem PS.Ok0.push {s : PS} (h : s.Ok0) (ks : List Int) : (pushP s ks).Ok0 := ⟨fun c hc => by have := h.le c hc; simp [pushP]; omega, h.up⟩
theorem PS.Ok.push {s : PS} (h : s.Ok) (ks : List Int) : (pushP s ks).Ok := ⟨h.toOk0.push ks, h.ne⟩
theorem PS.Ok0.openP {s : PS} (h : s.Ok0) (op kd : Int) : (openP s op kd).Ok := by
  refine ⟨⟨fun c hc => ?_, ?_⟩, by simp [Proofs.YthhlimmcncbopaaGreat.openP]⟩
  · rcases List.mem_append.1 hc with hc | hc
    · exact h.le c hc
    · obtain rfl := List.mem_singleton.1 hc; exact Nat.le_refl _
  · show (s.cs ++ [_]).Pairwise _
    rw [List.pairwise_append]
    exact ⟨h.up, by simp, fun a ha b hb => by obtain rfl := List.mem_singleton.1 hb; exact h.le a ha⟩
theorem PS.Ok.dropc {s : PS} (h : s.Ok) : PS.Ok0 ⟨s.vs, s.cs.dropLast, s.bad⟩ := ⟨fun c hc => h.le c (List.dropLast_subset _ hc), h.up.sublist (List.dropLast_sublist _)⟩
theorem PS.Ok.shut {s : PS} (h : s.Ok) : (shutP s).Ok0 := ((h.pops _).need _).dropc
theorem shut_cs (s : PS) : (shutP s).cs = s.cs.dropLast := by show (popsP s _).cs.dropLast = _; rw [pops_cs]
theorem shut_len (s : PS) : (shutP s).vs.length ≤ s.vs.length := pops_len _ _
theorem PS.Ok0.ok {s : PS} (h : s.Ok0) (hn : s.cs ≠ []) : s.Ok := ⟨h, hn⟩
theorem PS.Ok.dead {s : PS} (h : s.Ok) : (deadP s).Ok := by
  obtain ⟨i, hi⟩ := h.cut
  have h0 := h.toOk0
  obtain ⟨vs, cs, b⟩ := s
  dsimp only at hi
  have hT : deadP ⟨vs, cs, b⟩ = ⟨vs.take (PS.top ⟨vs, cs, b⟩).ht, cs.dropLast ++ [⟨(PS.top ⟨vs, cs, b⟩).op, (PS.top ⟨vs, cs, b⟩).kd, (PS.top ⟨vs, cs, b⟩).ht, true⟩], b⟩ := rfl
  rw [hT]
  generalize PS.top ⟨vs, cs, b⟩ = t at hi
  subst hi
  obtain ⟨h1, h2, h3⟩ := h0.split
  refine ⟨⟨fun c hc => ?_, ?_⟩, by simp⟩
  · show c.ht ≤ (vs.take t.ht).length
    rw [List.length_take, Nat.min_eq_left h2]
    simp only [List.dropLast_concat] at hc
    rcases List.mem_append.1 hc with hc | hc
    · exact h1 c hc
    · obtain rfl := List.mem_singleton.1 hc; exact Nat.le_refl _
  · simp only [List.dropLast_concat]
    rw [List.pairwise_append]
    exact ⟨h3, by simp, fun a ha b hb => by obtain rfl := List.mem_singleton.1 hb; exact h1 a ha⟩
theorem dead_len (s : PS) : (deadP s).vs.length ≤ s.vs.length := by simp [deadP]; omega
theorem dead_cs {s : PS} (h : s.Ok) : (deadP s).cs.length = s.cs.length := by
  have : 0 < s.cs.length := List.length_pos_iff.2 h.ne
  simp [deadP]; omega
theorem label_cs (s : PS) (n : Int) : (labelP s n).2.cs = s.cs := by unfold labelP; split <;> rfl
theorem label_vs (s : PS) (n : Int) : (labelP s n).2.vs = s.vs := by unfold labelP; split <;> rfl
theorem PS.Ok.label {s : PS} (h : s.Ok) (n : Int) : (labelP s n).2.Ok := by unfold labelP; split; exact ⟨⟨h.le, h.up⟩, h.ne⟩; exact h
theorem list_len (k : Int) : (listP k).length ≤ 1 := by unfold listP; split <;> simp
theorem label_len (s : PS) (n : Int) : (labelP s n).1.length ≤ 1 := by
  unfold labelP
  split
  · simp
  · dsimp only
    split
    · simp
    · exact list_len _
theorem tabs_cs (w : List Int) (l : List Int) (s : PS) : (l.foldl (tabP w) s).cs = s.cs ∧ (l.foldl (tabP w) s).vs = s.vs ∧ (s.Ok → (l.foldl (tabP w) s).Ok) := by
  induction l generalizing s with
  | nil => exact ⟨rfl, rfl, id⟩
  | cons a l ih =>
    obtain ⟨h1, h2, h3⟩ := ih (tabP w s a)
    rw [List.foldl_cons]
    exact ⟨h1.trans (label_cs s a), h2.trans (label_vs s a), fun h => h3 ((h.label a).need _)⟩
theorem push_cs (s : PS) (ks : List Int) : (pushP s ks).cs = s.cs := rfl
theorem push_len (s : PS) (ks : List Int) : (pushP s ks).vs.length = s.vs.length + ks.length := by simp [pushP]
theorem open_len (s : PS) (op kd : Int) : (openP s op kd).cs.length = s.cs.length + 1 := by simp [openP]
theorem PS.Ok.calls {s : PS} (h : s.Ok) (t : FT) (ok : Bool) : (callsP s t ok).Ok := ((h.need ok).pops _).push _
theorem calls_cs (s : PS) (t : FT) (ok : Bool) : (callsP s t ok).cs = s.cs := pops_cs _ _
theorem calls_len (s : PS) (t : FT) (ok : Bool) : (callsP s t ok).vs.length ≤ s.vs.length + t.rs.length := by
  unfold callsP
  rw [push_len]
  have := pops_len (needP s ok) t.pr
  rw [need_vs] at this
  omega
theorem PS.Ok.table {s : PS} (h : s.Ok) (x : Ins) : (tableP s x).Ok := (((tabs_cs _ _ _).2.2 ((h.pop 1).label x.a)).pops _).dead
theorem table_cs {s : PS} (h : s.Ok) (x : Ins) : (tableP s x).cs.length = s.cs.length := by
  unfold tableP
  dsimp only
  rw [dead_cs (((tabs_cs _ _ _).2.2 ((h.pop 1).label x.a)).pops _), pops_cs, (tabs_cs _ _ _).1, label_cs, pop_cs]
theorem table_len (s : PS) (x : Ins) : (tableP s x).vs.length ≤ s.vs.length := by
  unfold tableP
  dsimp only
  refine Nat.le_trans (dead_len _) (Nat.le_trans (pops_len _ _) ?_)
  rw [(tabs_cs _ _ _).2.1, label_vs]
  exact pop_len _ _
def dK (op : Int) : Int := if (op == 2 || op == 3 || op == 4) = true then 1 else if (op == 11) = true then -1 else 0
def FT.Sm (t : FT) : Prop := t.pr.length ≤ 100 ∧ t.rs.length ≤ 100
def Md.TS (m : Md) : Prop := ∀ t ∈ m.ty, t.Sm
theorem ite_p {α : Type} {c : Prop} [Decidable c] {p : α → Prop} {a b : α} (h1 : c → p a) (h2 : ¬ c → p b) : p (if c then a else b) := by split; exact h1 ‹_›; exact h2 ‹_›
theorem typeOf_sm {m : Md} (h : m.TS) (n : Int) : (typeOfP m n).1.Sm := by
  unfold typeOfP
  refine ite_p (p := fun r : FT × Bool => r.1.Sm) (fun _ => ?_) (fun _ => ?_)
  · exact ⟨by simp [ft0], by simp [ft0]⟩
  · show FT.Sm (m.ty.getD n.toNat ft0)
    rw [List.getD_eq_getElem?_getD]
    cases hg : m.ty[n.toNat]? with
    | none => exact ⟨by simp [ft0], by simp [ft0]⟩
    | some t => exact h t (List.mem_of_getElem? hg)
theorem dropLast_len {α : Type} (l : List α) : l.dropLast.length = l.length - 1 := List.length_dropLast
def CtlOk (s : PS) (x : Ins) (r : Bool × PS) : Prop := r.2.Ok ∧ r.2.vs.length ≤ s.vs.length + 100 ∧ (r.2.cs.length : Int) = s.cs.length + (if r.1 = true then dK x.op else 0)
theorem control_all {m : Md} {s : PS} {x : Ins} (h : s.Ok) (hx : x.op = 11 → 2 ≤ s.cs.length) (hT : m.TS) : CtlOk s x (controlP m s x) := by
  have hp : 0 < s.cs.length := List.length_pos_iff.2 h.ne
  unfold controlP
  refine ite_p (fun g => ?_) (fun _ => ?_)
  · have := eq_of_beq g; exact ⟨h.dead, by have := dead_len s; dsimp only; omega, by rw [dead_cs h, this]; simp [dK]⟩
  refine ite_p (fun g => ?_) (fun _ => ?_)
  · have := eq_of_beq g; exact ⟨h, by dsimp only; omega, by rw [this]; simp [dK]⟩
  refine ite_p (fun g => ?_) (fun _ => ?_)
  ·
    refine ⟨h.toOk0.openP _ _, by show s.vs.length ≤ _; omega, ?_⟩
    dsimp only
    rw [open_len]
    simp only [Bool.or_eq_true, beq_iff_eq] at g
    rcases g with g | g <;> (rw [g]; simp [dK])
  refine ite_p (fun g => ?_) (fun _ => ?_)
  ·
    refine ⟨(h.pop 1).toOk0.openP _ _, by have := pop_len s 1; show (popP s 1).2.vs.length ≤ _; omega, ?_⟩
    dsimp only
    rw [open_len, pop_cs, eq_of_beq g]; simp [dK]
  refine ite_p (fun g => ?_) (fun _ => ?_)
  ·
    refine ⟨h.shut.openP _ _, by have := shut_len s; show (shutP s).vs.length ≤ _; omega, ?_⟩
    dsimp only
    rw [open_len, shut_cs, dropLast_len, eq_of_beq g]
    simp [dK]
    omega
  refine ite_p (fun g => ?_) (fun _ => ?_)
  ·
    have h2 := hx (eq_of_beq g)
    have hne : (shutP s).cs ≠ [] := by rw [shut_cs]; exact List.length_pos_iff.1 (by rw [dropLast_len]; omega)
    refine ⟨((h.shut.ok hne).need _).push _, ?_, ?_⟩
    · have h3 := shut_len s
      have h4 := list_len s.top.kd
      dsimp only
      rw [push_len, need_vs]
      omega
    · dsimp only
      rw [push_cs, need_cs, shut_cs, dropLast_len, eq_of_beq g]
      simp [dK]
      omega
  refine ite_p (fun g => ?_) (fun _ => ?_)
  ·
    refine ⟨((h.label _).pops _).dead, ?_, ?_⟩
    · refine Nat.le_trans (dead_len _) (Nat.le_trans (pops_len _ _) ?_)
      rw [label_vs]; omega
    · dsimp only
      rw [dead_cs ((h.label _).pops _), pops_cs, label_cs, eq_of_beq g]; simp [dK]
  refine ite_p (fun g => ?_) (fun _ => ?_)
  ·
    refine ⟨(((h.pop 1).label _).pops _).push _, ?_, ?_⟩
    · dsimp only
      rw [push_len]
      have h1 := pops_len (labelP (popP s 1).2 x.a).2 (labelP (popP s 1).2 x.a).1
      rw [label_vs] at h1
      have h2 := pop_len s 1
      have h3 := label_len (popP s 1).2 x.a
      omega
    · dsimp only
      rw [push_cs, pops_cs, label_cs, pop_cs, eq_of_beq g]; simp [dK]
  refine ite_p (fun g => ?_) (fun _ => ?_)
  · exact ⟨h.table x, by have := table_len s x; dsimp only; omega, by dsimp only; rw [table_cs h, eq_of_beq g]; simp [dK]⟩
  refine ite_p (fun g => ?_) (fun _ => ?_)
  ·
    refine ⟨(h.pops _).dead, ?_, ?_⟩
    · refine Nat.le_trans (dead_len _) (Nat.le_trans (pops_len _ _) ?_)
      omega
    · dsimp only
      rw [dead_cs (h.pops _), pops_cs, eq_of_beq g]; simp [dK]
  refine ite_p (fun g => ?_) (fun _ => ?_)
  ·
    refine ⟨h.calls _ _, ?_, ?_⟩
    · have h1 := calls_len s (typeOfP m (fnTyP m x.a)).1 (typeOfP m (fnTyP m x.a)).2
      have h2 := (typeOf_sm hT (fnTyP m x.a)).2
      dsimp only
      omega
    · dsimp only
      rw [calls_cs, eq_of_beq g]; simp [dK]
  refine ite_p (fun g => ?_) (fun _ => ?_)
  ·
    refine ⟨((h.need _).pop _).calls _ _, ?_, ?_⟩
    · have h1 := calls_len (popP (needP s m.tb.has) 1).2 (typeOfP m x.a).1 (typeOfP m x.a).2
      have h2 := (typeOf_sm hT x.a).2
      have h3 := pop_len (needP s m.tb.has) 1
      rw [need_vs] at h3
      dsimp only
      omega
    · dsimp only
      rw [calls_cs, pop_cs, need_cs, eq_of_beq g]; simp [dK]
  · exact ⟨h, by dsimp only; omega, by simp⟩
/-- states of the same blocks, with at most n kinds more -/
def Nxt (s : PS) (n : Nat) (q : PS) : Prop := q.Ok ∧ q.vs.length ≤ s.vs.length + n ∧ q.cs = s.cs
theorem PS.Ok.nxt {s : PS} (h : s.Ok) : Nxt s 0 s := ⟨h, Nat.le_refl _, rfl⟩
theorem Nxt.pop {s q : PS} {n : Nat} (h : Nxt s n q) (w : Int) : Nxt s n (popP q w).2 := ⟨h.1.pop w, Nat.le_trans (pop_len q w) h.2.1, (pop_cs q w).trans h.2.2⟩
theorem Nxt.pops {s q : PS} {n : Nat} (h : Nxt s n q) (ks : List Int) : Nxt s n (popsP q ks) := ⟨h.1.pops ks, Nat.le_trans (pops_len q ks) h.2.1, (pops_cs q ks).trans h.2.2⟩
theorem Nxt.need {s q : PS} {n : Nat} (h : Nxt s n q) (b : Bool) : Nxt s n (needP q b) := ⟨h.1.need b, h.2.1, h.2.2⟩
theorem Nxt.bad {s q : PS} {n : Nat} (h : Nxt s n q) : Nxt s n ⟨q.vs, q.cs, true⟩ := ⟨⟨⟨h.1.le, h.1.up⟩, h.1.ne⟩, h.2.1, h.2.2⟩
theorem Nxt.push {s q : PS} {n : Nat} (h : Nxt s n q) (ks : List Int) (k : Nat) (hk : n + ks.length ≤ k) : Nxt s k (pushP q ks) := ⟨h.1.push ks, by rw [push_len]; have := h.2.1; omega, h.2.2⟩
theorem Nxt.up {s q : PS} {n : Nat} (h : Nxt s n q) (k : Nat) (hk : n ≤ k) : Nxt s k q := ⟨h.1, by have := h.2.1; omega, h.2.2⟩
theorem Nxt.loc {s q : PS} {n : Nat} (h : Nxt s n q) (ls : List Int) (x : Int) : Nxt s n (localP ls q x).2 := by unfold localP; split; exact h.bad; exact h
theorem Nxt.glob {s q : PS} {n : Nat} (h : Nxt s n q) (m : Md) (x : Int) : Nxt s n (globalP m q x).2 := by unfold globalP; split; exact h.bad; exact h
theorem Nxt.acc {s q : PS} {n : Nat} (h : Nxt s n q) (m : Md) (x : Ins) (al : Int) (tk mk : List Int) (k : Nat) (hk : n + mk.length ≤ k) : Nxt s k (accessP m q x al tk mk) := ((h.need _).pops _).push _ k hk
theorem plain_all {m : Md} {ls : List Int} {s : PS} {x : Ins} (h : s.Ok) : Nxt s 1 (plainP m ls s x) := by
  have h := h.nxt
  unfold plainP
  refine ite_p (fun _ => (h.pop 0).up 1 (by omega)) (fun _ => ?_)
  refine ite_p (fun _ => Nxt.push (((h.pop 1).pop 0).pop _) _ 1 (by simp)) (fun _ => ?_)
  refine ite_p (fun _ => (h.loc ls x.a).push _ 1 (by simp)) (fun _ => ?_)
  refine ite_p (fun _ => Nxt.up ((h.loc ls x.a).pop _) 1 (by omega)) (fun _ => ?_)
  refine ite_p (fun _ => Nxt.push (((h.loc ls x.a).pop _).loc ls x.a) _ 1 (by simp)) (fun _ => ?_)
  refine ite_p (fun _ => (h.glob m x.a).push _ 1 (by simp)) (fun _ => ?_)
  refine ite_p (fun _ => Nxt.up (((h.glob m x.a).need _).pop _) 1 (by omega)) (fun _ => ?_)
  refine ite_p (fun _ => h.acc m x _ _ _ 1 (by simp)) (fun _ => ?_)
  refine ite_p (fun _ => h.acc m x _ _ _ 1 (by simp)) (fun _ => ?_)
  refine ite_p (fun _ => h.acc m x _ _ _ 1 (by simp)) (fun _ => ?_)
  refine ite_p (fun _ => h.acc m x _ _ _ 1 (by simp)) (fun _ => ?_)
  refine ite_p (fun _ => h.acc m x _ _ _ 1 (by simp)) (fun _ => ?_)
  refine ite_p (fun _ => h.acc m x _ _ _ 1 (by simp)) (fun _ => ?_)
  refine ite_p (fun _ => h.acc m x _ _ _ 1 (by simp)) (fun _ => ?_)
  refine ite_p (fun _ => h.acc m x _ _ _ 1 (by simp)) (fun _ => ?_)
  refine ite_p (fun _ => h.push _ 1 (by simp)) (fun _ => ?_)
  refine ite_p (fun _ => h.push _ 1 (by simp)) (fun _ => ?_)
  exact ((h.need _).pops _).push _ 1 (by simp)
/-
  The symbolic layer: a string behind bytes; values told weaker. No program is named here.
-/
theorem run_append_room_strG {P : Program} (w : World) (t u ty e : TypeId) (i : TypeInfo) (ht : P.underlying t = some (.slice e)) (hu : P.underlying u = some .string) (hi : P.info? e = some i) (hs1 : i.size = 1)
    (g sLen sCap : Nat) (cur : Array Value) (fz : Nat × Nat) (hg : w.heap[g]? = some (.cells cur e fz)) (hz : Fz cur.size fz) (s : ByteArray)
    (hroom : sLen + s.size ≤ sCap) (hfit : sLen + s.size ≤ cur.size) :
    (Builtin.append_ #[t, u] ty #[.slice (some ⟨g, 0, none⟩) sLen sCap, .string s]).run P w =
      .ok (.slice (some ⟨g, 0, none⟩) (sLen + s.size) sCap) (w.setRow g (cur.toList.take sLen ++ Lib.strCells s ++ cur.toList.drop (sLen + s.size)).toArray) := by
  have hf := Lib.run_firstCells_string (P := P) w 1 s
  have hst := run_storeCells_atG (P := P) g sLen e fz (Lib.strCells s) 0 cur w hg hz (by simpa [Lib.strCells_length] using hfit) (Lib.strCells_oneCell s)
  simp only [Nat.add_zero, Lib.strCells_length] at hst
  simp [Builtin.append_, run_underlying ht, run_underlying hu, sizeOf, typeInfo, hi, hs1, Builtin.lenOf, hroom, hf, Addr.add_lit, hst]
theorem run_append_strG {P : Program} (w : World) (t u ty e : TypeId) (i : TypeInfo) (ht : P.underlying t = some (.slice e)) (hu : P.underlying u = some .string) (hi : P.info? e = some i) (hz : i.zero = some (.int .u8 0))
    (hsize : i.size = 1) (hby : i.bytes = 1) (v : Value) (n : Nat) (xs : List Value) (hn : 0 < n) (hown : rowG w 0 e 1 v n xs) (s : ByteArray) (h63 : n + s.size ≤ maxLen) (hbytes : n + s.size ≤ 140737488355328) :
    ∃ v' w', (Builtin.append_ #[t, u] ty #[v, .string s]).run P w = .ok v' w' ∧ rowG w' 0 e 1 v' (n + s.size) (xs ++ Lib.strCells s) ∧ w.grownBy w' v.ownBlock ∧ (v'.ownBlock = v.ownBlock ∨ v'.ownBlock = some w.heap.size) := by
  rcases hown.2 with ⟨rfl, rfl⟩ | ⟨g, cap, cur, fz, rfl, hbg, hg, hfz, hnc, hcm, hcs, htake⟩
  · omega
  have hl := Lib.strCells_length s
  have hxl : xs.length = n := by simpa using hown.1
  have hsmall : n + s.size ≤ 9223372036854775807 := by simp only [maxLen] at h63; omega
  have hlen : (xs ++ Lib.strCells s).length = (n + s.size) * 1 := by rw [List.length_append, hxl, hl, Nat.mul_one]
  rw [Nat.mul_one] at hcs htake
  by_cases hroom : n + s.size ≤ cap
  · have hr := run_append_room_strG (P := P) w t u ty e i ht hu hi hsize g n cap cur fz hg hfz s hroom (by omega)
    have hsz2 : (cur.toList.take n ++ Lib.strCells s ++ cur.toList.drop (n + s.size)).toArray.size = cur.size := by
      simp only [List.size_toArray, List.length_append, List.length_take, List.length_drop, Array.length_toList, hl]
      omega
    refine ⟨_, _, hr, ⟨hlen, .inr ⟨g, cap, _, fz, rfl, hbg, setRow_heap w g cur _ e _ hg, by rw [hsz2]; exact hfz, hroom, hcm, by rw [hsz2]; omega, ?_⟩⟩, ⟨rfl, rfl, rfl, by simp, fun k _ hk => setRow_other w g k _ (fun e => hk (by simp [Value.ownBlock, e]))⟩, Or.inl rfl⟩
    rw [htake, ← hlen]
    exact List.take_left
  · have holds : ∀ j u, xs[j]? = some u → w.cell? ((⟨g, 0, none⟩ : Addr).add j) = some u := by
      intro j u hu
      rw [Addr.add_lit, Nat.zero_add, cell_of_row w g j cur e fz hg, ← Array.getElem?_toList]
      rw [← htake, List.getElem?_take] at hu
      split at hu
      · exact hu
      · cases hu
    have hr := Lib.run_append_grow_string (P := P) w t u ty e i (.int .u8 0) ht hu hi hz ⟨g, 0, none⟩ n cap xs (by rw [hsize]; simpa using hxl) holds s (by omega) (by omega) (by rw [hby]; exact growslice_fits (by omega) (by omega))
    have hge := grownCap_ge w (n + s.size) cap e
    have hcm := grownCap_le_maxLen w (n + s.size) cap e h63
    refine ⟨_, _, hr, ⟨hlen, .inr ⟨w.heap.size, _, _, (0, 0), rfl, Nat.zero_le _, heap_alloc_new w.drew _, .inl rfl, hge, hcm, ?_, ?_⟩⟩, ⟨rfl, rfl, rfl, by simp, fun k hk _ => heap_alloc_old w.drew _ hk⟩, Or.inr rfl⟩
    · have hz1 : (Value.int IntKind.u8 0).cells.size = 1 := rfl
      simp only [Array.size_append, List.size_toArray, size_zeroCells, hz1, hxl, hl]
      omega
    · simp only [Array.toList_append, List.append_assoc]
      rw [← List.append_assoc, ← hlen]
      exact List.take_left
section
variable {P : Program} {n : Nat} {s : ASt} {K : ASt → Prop} {ty t u : TypeId} {x y : Operand} {d : Nat}
/-- a string behind bytes -/
theorem hop_append_str {e : TypeId} [Ty P t (.slice e)] [Ty P u .string] [Tz P e 1 1 (.int .u8 0)] {r len : Nat} {es : List (List AV)} {b : List Nat} (hb : aev s x = some (.own r 0 len)) (hg : sget s.σ r = some (.arr e 1 es)) (hlen : len ≤ es.length) (hpos : 0 < len) (hy : aev s y = some (.str (strU b))) (hlt : ∀ c ∈ b, c < 256)
    (hmax : len + b.length ≤ 140737488355328) (hd : d < n)
    (hK : ∀ r', Fresh r' (sdrop [r] s.σ) → K ⟨(d, .own r' 0 (len + (b.map encU).length)) :: s.fr, (r', .arr e 1 (es.take len ++ b.map encU)) :: sdrop [r] s.σ⟩) : Hop P n (.call { callee := .builtin .append, args := #[x, y], argTypes := #[t, u] }) ty (some d) s [r] K := by
  intro M F N a w o ho hty hdst hr next Q hnext
  have hbase := hr.aev hb
  have hmem := sget_mem hg
  obtain ⟨h0, hrowsE, h3⟩ := hr.st.ent _ hmem
  obtain ⟨i, hi, hz0, hs0, hb0⟩ := Tz.parts P e
  have he : a.eval y = .string (strU b) := by
    have := hr.aev hy
    generalize a.eval y = v at this ⊢
    cases this; rfl
  have hsl : (strU b).size = (b.map encU).length := by simp [strU, ByteArray.size]
  have hnews : Lib.strCells (strU b) = b.map (fun c : Nat => Value.int .u8 (c : Int)) := by
    unfold Lib.strCells strU
    simp only [List.map_map]
    refine List.map_congr_left fun c hc => ?_
    have := hlt c hc
    simp [Nat.mod_eq_of_lt this]
  have hrows : RowsAt M F w 1 (b.map encU) (Lib.strCells (strU b)) := by
    rw [hnews]
    refine ⟨by simp, fun i x j a u hi hj hu => ?_⟩
    simp only [List.getElem?_map, Option.map_eq_some_iff] at hi hu
    obtain ⟨c, hc, rfl⟩ := hi
    match j, hj with
    | 0, hj =>
      obtain rfl := Option.some.inj hj
      obtain ⟨c', hc', rfl⟩ := hu
      rw [Nat.mul_one, Nat.add_zero] at hc'
      obtain rfl := Option.some.inj (hc.symm.trans hc')
      exact .int _ _
    | j + 1, hj => cases hj
  have hok : RowsOk 1 (b.map encU) := by
    intro x hx
    obtain ⟨c, -, rfl⟩ := List.mem_map.1 hx
    exact ⟨rfl, by simp [encU, AV.cell]⟩
  generalize hys : b.map encU = ys at hrows hok hsl hK ⊢
  have hyl : ys.length = b.length := by rw [← hys]; simp
  obtain ⟨news, hns⟩ : ∃ news, news = Lib.strCells (strU b) := ⟨_, rfl⟩
  rw [← hns] at hrows
  have hokT : RowsOk 1 (es.take len) := fun x hx => hrowsE x (List.mem_of_mem_take hx)
  have hlenT : (es.take len).length = len := by rw [List.length_take]; omega
  -- what the row holds
  have hown : ∃ v xs, a.eval x = v ∧ rowG w 0 e 1 v len xs ∧ RowsAt M F w 1 (es.take len) xs ∧ (∀ g, v.ownBlock = some g → blkOf M r = some g) ∨ (∃ A, a.eval x = .slice A 0 0 ∧ len = 0 ∧ v = .slice A 0 0 ∧ xs = []) := by
    generalize a.eval x = u at hbase ⊢
    cases hbase with
    | own0 => exact ⟨_, [], .inr ⟨_, rfl, rfl, rfl, rfl⟩⟩
    | own hM hle hmm =>
      rcases h3 with ⟨hv', _⟩ | ⟨g, cc, vs, hM', hcl, hsz, hle', hmax', hvr⟩
      · rw [hM] at hv'; cases hv'
      · have hg' := hM'.symm.trans hM
        simp only [Option.some.injEq, Blk'.row.injEq] at hg'
        obtain ⟨q1, q2, q3⟩ := hg'
        subst q1
        subst q2
        subst q3
        obtain ⟨fz, hcl, hfz⟩ := hcl
        have hfit : len * 1 ≤ vs.size := by rw [hsz]; exact Nat.mul_le_mul_right _ (by omega)
        refine ⟨_, vs.toList.take (len * 1), .inl ⟨rfl, ⟨by rw [List.length_take]; simp; omega, .inr ⟨g, cc, vs, fz, by simp, Nat.zero_le _, hcl, hfz, by omega, hmm, hsz, rfl⟩⟩, ⟨by rw [hlenT, List.length_take]; simp; omega, fun i' x' j b u hi' hj hu => ?_⟩, fun g2 hg2 => ?_⟩⟩
        · have hil := (List.getElem?_eq_some_iff.1 hi').1
          rw [hlenT] at hil
          have hjs : j < 1 := by rw [← (hokT x' (List.mem_of_getElem? hi')).1]; exact (List.getElem?_eq_some_iff.1 hj).1
          rw [List.getElem?_take_of_lt hil] at hi'
          rw [List.getElem?_take_of_lt (flat_idx hil hjs)] at hu
          exact hvr i' x' j b u hi' hj (by simpa using hu)
        · simp only [Value.ownBlock, Option.some.injEq] at hg2
          subst hg2
          simp [blkOf, hM]
  obtain ⟨v, xs, hown | ⟨B, hx, rfl, rfl, rfl⟩⟩ := hown
  · obtain ⟨hx, hown, hrT, hblk⟩ := hown
    obtain ⟨v', w', hrun, ho', hg', hbl⟩ := run_append_strG (P := P) w t u o.type e i (Ty.und (P := P) (t := t)) (Ty.und (P := P) (t := u)) hi hz0 hs0 hb0 v len xs hpos hown (strU b) (by rw [hsl]; simp [maxLen]; omega) (by rw [hsl]; omega)
    rw [hsl, ← hns] at ho'
    have hex : (execOp a.eval o).run P w = .ok (.value v') w' := by
      simp only [execOp, ho, resolve, invoke, builtin, Sem.run_bind, Sem.run_pure, Result.andThen_ok, List.map_toArray, List.map_cons, List.map_nil, hx, he, hrun]
    unfold Oper.wp
    rw [hex, Oper.upon_value, hdst]
    have honly : Only (fun k => blkOf M r = some k) w w' := ⟨hg'.os, hg'.tape, hg'.output, hg'.size, fun k hk hne => hg'.block k hk (fun e => hne (hblk k e.symm))⟩
    have hSame : Same F w w' := fun g hgF => honly.block g (hr.st.flt g hgF) (fun e => hr.st.nof g ⟨_, hmem, e⟩ hgF)
    have hcat : RowsAt M F w 1 (es.take len ++ ys) (xs ++ news) := hrT.append hokT hrows
    have hokC : RowsOk 1 (es.take len ++ ys) := fun x hx => (List.mem_append.1 hx).elim (hokT x) (hok x)
    rcases ho'.2 with ⟨rfl, hz'⟩ | ⟨g2, cap, cur, fz2, rfl, _, hg2, hfz2, hn2, hm2, hs2, ht2⟩
    · have hl0 : len = 0 := by omega
      have hy0 : ys = [] := List.eq_nil_of_length_eq_zero (by omega)
      subst hl0
      subst hy0
      have hE : ER (addM M N .virt) F w' N (.arr e 1 (es.take 0 ++ [])) := ⟨h0, fun x hx => by simp at hx, .inl ⟨addM_new _, by simp⟩⟩
      obtain ⟨r1, e1, n1, o1⟩ := hr.move_ hmem .virt honly (fun g hg => by simp [blkOf, addM_new] at hg) hE
      exact hnext _ F (N + 1) _ _ ⟨(d, .own N 0 (0 + 0)) :: s.fr, _⟩ (r1.put hd .own0) e1 o1 (hK N n1)
    · have hE : ER (addM M N (.row g2 cap 1)) F w' N (.arr e 1 (es.take len ++ ys)) := by
        refine ⟨h0, hokC, .inr ⟨g2, cap, cur, addM_new _, ⟨fz2, hg2, hfz2⟩, hs2, by rw [List.length_append, hlenT]; exact hn2, hm2, fun i' x' j b u hi' hj hu => ?_⟩⟩
        refine VR.mono (fun r b' h => addM_old hr.st.fresh _ h) (fun _ h => h) hSame (hcat.2 i' x' j b u hi' hj ?_)
        have hil := (List.getElem?_eq_some_iff.1 hi').1
        rw [List.length_append, hlenT] at hil
        have hjs : j < 1 := by rw [← (hokC x' (List.mem_of_getElem? hi')).1]; exact (List.getElem?_eq_some_iff.1 hj).1
        rw [← ht2, List.getElem?_take_of_lt (flat_idx hil hjs)]
        simpa using hu
      obtain ⟨r1, e1, n1, o1⟩ := hr.move_ hmem (.row g2 cap 1) honly (fun g hg => by
        simp only [blkOf, addM_new, Option.some.injEq] at hg
        subst hg
        rcases hbl with h | h
        · exact .inl (hblk g2 (h.symm.trans rfl))
        · simp only [Value.ownBlock, Option.some.injEq] at h
          exact .inr (by omega)) hE
      have hv := VR.own (M := addM M N (.row g2 cap 1)) (F := F) (w := w') (t := N) (off := 0) (len := len + ys.length) (addM_new _) (by omega) hm2
      simp only [Nat.zero_mul, Nat.sub_zero] at hv
      exact hnext _ F (N + 1) _ _ ⟨(d, .own N 0 (len + ys.length)) :: s.fr, _⟩ (r1.put hd hv) e1 o1 (hK N n1)
  · omega
end
section
variable {P : Program} {n : Nat} {ops : Array Oper} {rest : List Oper} {fr : Fr} {σ : Sto} {K : ASt → Prop} {ty t u : TypeId} {pos : String} {af : Array Edge} {x y : Operand} {d : Nat}
theorem apS {e : TypeId} [Ty P t (.slice e)] [Ty P u .string] [Tz P e 1 1 (.int .u8 0)] {r len : Nat} (vs b : List Nat) (hlt : ∀ c ∈ b, c < 256)
    (hK : ∀ r', Fresh r' (sdrop [r] σ) → ∃ σ', SSet σ r (.arr e 1 (vs.map encU)) r' (.arr e 1 ((vs ++ b).map encU)) σ' ∧ RS P n ops rest ⟨(d, .own r' 0 (vs ++ b).length) :: fr, σ'⟩ K)
    (hb : aev ⟨fr, σ⟩ x = some (.own r 0 len) := by rfl) (hg : sget σ r = some (.arr e 1 (vs.map encU)) := by exact sgT) (hlen : len = vs.length := by exact lenT) (hpos : 0 < len := by first | omega | (simp; omega)) (hy : aev ⟨fr, σ⟩ y = some (.str (strU b)) := by rfl)
    (hmax : len + b.length ≤ 140737488355328 := by (simp; try omega)) (hd : Nat.ble (d + 1) n = true := by rfl) :
    RS P n ops (⟨some d, .call { callee := .builtin .append, args := #[x, y], argTypes := #[t, u] }, ty, pos, af, none⟩ :: rest) ⟨fr, σ⟩ K := by
  refine rs_heavy (hop_append_str hb hg (by simp; omega) hpos hy hlt hmax (lt_ble hd) fun r' hf => ?_)
  obtain ⟨σ', hs, hK⟩ := hK r' hf
  dsimp only
  rw [hlen, show vs.length = (vs.map encU).length by simp, List.take_length, ← List.map_append]
  refine rs_sub (fun p hp => hs.sub p hp) ?_
  rw [show (vs.map encU).length + (b.map encU).length = (vs ++ b).length by simp]
  exact hK
end
/-- two loud operations, in either order: what the one and the other turn is not held -/
theorem rd_fork2 {P : Program} {n : Nat} {ops : Array Oper} {listed : Array Bool} {rest : List (Nat × Bool)} {held : List (Nat × List Nat)} {s : ASt} {K : ASt → Prop} {z : Nat} {zb : Bool} (i j : Nat) (t1 t2 : List (Nat × Bool)) {dst dst' : Option Nat} {op op' : Op} {ty ty' : TypeId} {pos pos' : String} {af af' : Array Edge} {f1 f2 : List Nat}
    (hr : (Region.ready .any ops listed == [i, j] && (t1.length == rest.length) && (t2.length == rest.length) && chkB ops (listed.setIfInBounds i true) t1 && chkB ops (listed.setIfInBounds j true) t2) = true)
    (hi : ops[i]? = some ⟨dst, op, ty, pos, af, none⟩) (hj : ops[j]? = some ⟨dst', op', ty', pos', af', none⟩)
    (h1 : Hop P n op ty dst s f1 fun s' => RD P n ops (listed.setIfInBounds i true) t1 held s' K) (h2 : Hop P n op' ty' dst' s f2 fun s' => RD P n ops (listed.setIfInBounds j true) t2 held s' K)
    (g1 : f1 = [] ∨ ((∀ r ∈ f1, r ∈ s.σ.map (·.1)) ∧ HB ops i (s.σ.map (·.1)) f1 held)) (g2 : f2 = [] ∨ ((∀ r ∈ f2, r ∈ s.σ.map (·.1)) ∧ HB ops j (s.σ.map (·.1)) f2 held)) : RD P n ops listed ((z, zb) :: rest) held s K := by
  intro hsel _ M F N a w hr0
  simp only [Bool.and_eq_true, beq_iff_eq] at hr
  obtain ⟨⟨⟨⟨hrd, hl1⟩, hl2⟩, hc1⟩, hc2⟩ := hr
  have main : ∀ {k : Nat} {t : List (Nat × Bool)} {dst : Option Nat} {op : Op} {ty : TypeId} {pos : String} {af : Array Edge} {fp : List Nat}, t.length = rest.length → chkB ops (listed.setIfInBounds k true) t = true → ops[k]? = some ⟨dst, op, ty, pos, af, none⟩ →
      Hop P n op ty dst s fp (fun s' => RD P n ops (listed.setIfInBounds k true) t held s' K) → (fp = [] ∨ ((∀ r ∈ fp, r ∈ s.σ.map (·.1)) ∧ HB ops k (s.σ.map (·.1)) fp held)) → wpOp P ops (PostN n M F N w s.σ K) k (fun a' w' => (∀ g, Hd ops M F held k g → g < w.heap.size → w'.heap[g]? = w.heap[g]?) ∧ wpAnyC P .any ops (PostN n M F N w s.σ K) (Hd ops M F held) rest.length (listed.setIfInBounds k true) a' w') a w := by
    intro k t dst op ty pos af fp hl hc hk h hfp
    unfold wpOp
    simp only [hk]
    rw [if_pos (by simp [Region.wanted])]
    refine .inl (h M F N a w _ rfl rfl rfl hr0 _ _ fun M' F' N' a' w' s' hr' he ho hk' => ⟨fun g hg hlt => ?_, ?_⟩)
    · rcases hg with hg | ⟨r, hrh, hg⟩
      · exact he.only.block g hlt (fun hB => hr0.st.nof g hB hg)
      · rcases hfp with rfl | ⟨hf1, hb⟩
        · exact ho.block g hlt (by simp)
        · obtain ⟨h1, h2⟩ := hb.held r hrh
          obtain ⟨p, hp, rfl⟩ := List.mem_map.1 h1
          refine ho.block g hlt ?_
          rintro ⟨q, hq, hqg⟩
          obtain ⟨p2, hp2, rfl⟩ := List.mem_map.1 (hf1 q hq)
          exact h2 (by rw [hr0.st.inj p hp p2 hp2 g hg hqg]; exact hq)
    · rw [← hl]
      refine wpAnyC_mono (PostN.ext he) ?_ _ _ _ _ (hk' hsel hc M' F' N' a' w' hr')
      rintro j' g (hg | ⟨r, hrr, hg⟩)
      · exact .inl (he.ff g hg)
      · refine .inr ⟨r, hrr, ?_⟩
        unfold blkOf at hg ⊢
        cases hm : M r with
        | none => rw [hm] at hg; cases hg
        | some b => rw [hm] at hg; rw [he.mm _ _ hm]; exact hg
  refine ⟨fun h0 => by rw [hrd] at h0; simp at h0, fun k hk => ?_⟩
  rw [hrd] at hk
  rcases List.mem_cons.1 hk with rfl | hk
  · exact main hl1 hc1 hi h1 g1
  · obtain rfl := List.mem_singleton.1 hk
    exact main hl2 hc2 hj h2 g2
theorem hopbs {P : Program} {n : Nat} {fr : Fr} {σ : Sto} {K : ASt → Prop} {ty t : TypeId} {d : Nat} {e : TypeId} {sz by_ : Nat} {zv : Value} {len : Nat} {parts : Array (Nat × Operand)} {vs : List AV} {es : List (List AV)} (i1 : Ty P t (.slice e)) (i2 : Tz P e sz by_ zv) (hv : AEvs ⟨fr, σ⟩ (parts.toList.map (·.2)) vs) (hp : parts.toList = enumF 0 (parts.toList.map (·.2))) (hlen : (len == vs.length) = true) (h0 : (decide (0 < sz) && decide (len * sz ≤ 16777216)) = true)
    (hc : (vs.all fun v => v.cells.length == sz && v.cells.all AV.cell) = true) (he : vs.map AV.cells = es) (hd : Nat.ble (d + 1) n = true) (hK : ∀ r, Fresh r σ → K ⟨(d, .own r 0 len) :: fr, (r, .arr e sz es) :: σ⟩) : Hop P n (.buildSlice t len parts) ty (some d) ⟨fr, σ⟩ [] K := by
  subst he
  exact hop_buildSlice' hp hv hlen h0 hc (lt_ble hd) hK
/-- as sgo_freeze; what is told otherwise may be anything that holds -/
theorem sgo_freezeP {s s' : ASt} (ts : List Nat) (hf : ∀ i x', fget s'.fr i = some x' → ∃ x, fget s.fr i = some x ∧ Bor s.σ ts x x') (hσ : ∀ p ∈ s'.σ, p.1 ∉ ts ∧ ∃ x, (p.1, x) ∈ s.σ ∧ ∀ (M : Mp) (F : Nat → Prop) (N : Nat) (w : World), SR M F N w s.σ → ER M F w p.1 x → ER M (FPlus M F s.σ ts) w p.1 p.2) : SGo s s' := by
  intro M F N n a w hr
  refine ⟨M, FPlus M F s.σ ts, N, ⟨hr.size, hr.defers, fun i x' hi => ?_, ?_, ?_, ?_, fun b hb => hb.flt hr.st, hr.st.fresh⟩, fun _ _ h => h, fun _ h => .inl h, Nat.le_refl _, Only.refl _ _, ?_, ?_, ?_⟩
  · obtain ⟨x, hx, hb⟩ := hf i x' hi
    exact hb.vr hr.st (hr.fr i x hx)
  · intro p hp
    obtain ⟨_, x, hx, hb⟩ := hσ p hp
    exact hb M F N w hr.st (hr.st.ent _ hx)
  · intro p hp q hq g h1 h2
    obtain ⟨_, x, hx, _⟩ := hσ p hp
    obtain ⟨_, y, hy, _⟩ := hσ q hq
    exact hr.st.inj (p.1, x) hx (q.1, y) hy g h1 h2
  · rintro g ⟨p, hp, hg⟩ hF
    obtain ⟨hn, x, hx, _⟩ := hσ p hp
    rcases hF with hF | ⟨q, hq, hqt, hqg⟩
    · exact hr.st.nof g ⟨_, hx, hg⟩ hF
    · exact hn (by have := hr.st.inj _ hx _ hq g hg hqg; simp only at this; rw [this]; exact hqt)
  · rintro g ⟨p, hp, hg⟩ _
    obtain ⟨_, x, hx, _⟩ := hσ p hp
    exact ⟨_, hx, hg⟩
  · rintro b (hb | ⟨q, hq, _, hqg⟩)
    · exact .inl hb
    · exact .inr (.inr ⟨q, hq, hqg⟩)
  · intro p hp _
    obtain ⟨_, x, hx, _⟩ := hσ p hp
    exact ⟨_, hx, rfl⟩
/-- a row that another row's elements tell of is written by nobody from here on -/
theorem sgo_fza {fr : Fr} {σ σ1 σ' : Sto} {r q : Nat} {et : TypeId} {sz : Nat} {es es' : List (List AV)} {e : Ent} (hs : SSet σ r (.arr et sz es) r (.arr et sz es') σ1) (hd : SDel σ1 q e σ') (hl : es'.length = es.length) (hok : RowsOk sz es')
    (hb : ∀ (i : Nat) (x x' : List AV), es[i]? = some x → es'[i]? = some x' → BorL σ [q] x x') : SGo ⟨fr, σ⟩ ⟨fr, σ'⟩ := by
  refine sgo_freezeP [q] (fun i x' hi => ⟨x', hi, .refl _⟩) (fun p hp => ?_)
  obtain ⟨h1, h2⟩ := hd.sub p hp
  refine ⟨by simpa using h2, ?_⟩
  rcases List.mem_cons.1 (hs.sub p h1) with rfl | h
  · refine ⟨_, sget_mem hs.get, fun M F N w hr hx => ?_⟩
    obtain ⟨g0, g1, g2⟩ := hx
    refine ⟨g0, hok, ?_⟩
    rcases g2 with ⟨k1, k2⟩ | ⟨g, c, vs, k1, k2, k3, k4, k5, k6⟩
    · refine .inl ⟨k1, ?_⟩
      subst k2
      exact List.length_eq_zero_iff.1 hl
    · refine .inr ⟨g, c, vs, k1, k2, k3, by rw [hl]; exact k4, k5, fun i x' j a' u hi hj hu => ?_⟩
      have hil := (List.getElem?_eq_some_iff.1 hi).1
      have hx : es[i]? = some (es[i]'(by omega)) := List.getElem?_eq_getElem (by omega)
      obtain ⟨hbl, hbe⟩ := (hb i _ x' hx hi).at_
      have hjl := (List.getElem?_eq_some_iff.1 hj).1
      have ha : (es[i]'(by omega))[j]? = some ((es[i]'(by omega))[j]'(by omega)) := List.getElem?_eq_getElem (by omega)
      refine (hbe j a' hj).vr hr ?_
      rw [List.getD_eq_getElem?_getD, ha, Option.getD_some]
      exact k6 i _ j _ u hx ha hu
  · exact ⟨p.2, (mem_sdrop h).1, fun M F N w hr hx => hx.mono (fun _ _ h => h) (fun _ h => .inl h) (fun _ _ => rfl) (fun _ _ => rfl)⟩
/-
  The symbolic layer: bytes of a string: the row of a constant's conversion is marked beyond its end; a string as bytes that are read only. No program is named here.
-/
section
variable {P : Program} {n : Nat} {s : ASt} {K : ASt → Prop} {ty t u : TypeId} {x : Operand} {d : Nat}
theorem freeze_old (w : World) (g n k : Nat) (h : k ≠ g) : (w.freeze ⟨g, n, none⟩ 1).heap[k]? = w.heap[k]? := by
  simp [World.freeze, Array.getElem?_modify, Ne.symm h]
theorem freeze_at (w : World) (g n : Nat) {vs : Array Value} {e : TypeId} {fz : Nat × Nat} (h : w.heap[g]? = some (.cells vs e fz)) : (w.freeze ⟨g, n, none⟩ 1).heap[g]? = some (.cells vs e (if fz.1 == fz.2 then (n, n + 1) else (min fz.1 n, max fz.2 (n + 1)))) := by
  obtain ⟨lo, hi⟩ := fz
  simp [World.freeze, Array.getElem?_modify, h]
theorem hop_conv_mark {e : TypeId} [Ty P t (.slice e)] [Ty P e (.int .u8)] {r len : Nat} {et : TypeId} {es : List (List AV)} (hx : aev s x = some (.own r 0 len)) (hg : sget s.σ r = some (.arr et 1 es)) (hpos : 0 < len) (hd : d < n)
    (hK : K ⟨(d, .own r 0 len) :: s.fr, sset s.σ r (.arr et 1 es)⟩) : Hop P n (.convert t t x) ty (some d) s [r] K := by
  intro M F N a w o ho hty hdst hr next Q hnext
  have hbase := hr.aev hx
  have hmem := sget_mem hg
  obtain ⟨h0, hrows, h3⟩ := hr.st.ent _ hmem
  generalize hu : a.eval x = v at hbase
  cases hbase with
  | own0 => omega
  | own hM hle hmm =>
    rcases h3 with ⟨hv', _⟩ | ⟨g, c, vs, hM', hcl, hsz, hlc, hmax, hvr⟩
    · rw [hM] at hv'; cases hv'
    · have hg' := hM'.symm.trans hM
      simp only [Option.some.injEq, Blk'.row.injEq] at hg'
      obtain ⟨q1, q2, q3⟩ := hg'
      subst q1
      subst q2
      obtain ⟨fz, hcl, hz⟩ := hcl
      have hsh : w.shape? g = some (et, vs.size) := by simp [World.shape?, hcl]
      have hex : (execOp a.eval o).run P w = .ok (.value (.slice (some ⟨g, 0, none⟩) len (c - 0))) (w.freeze ⟨g, vs.size, none⟩ 1) := by
        simp [execOp, ho, hu, convert, run_underlying (Ty.und (P := P) (t := t)), run_underlying (Ty.und (P := P) (t := e)), markStringish, hsh]
      unfold Oper.wp
      rw [hex, Oper.upon_value, hdst]
      have hbl : blkOf M r = some g := by simp [blkOf, hM]
      have hF : ¬ F g := hr.st.nof g ⟨_, hmem, hbl⟩
      have honly : Only (fun k => k = g) w (w.freeze ⟨g, vs.size, none⟩ 1) := ⟨rfl, rfl, rfl, by simp [World.freeze], fun k _ hne => freeze_old w g vs.size k hne⟩
      have hSame : Same F w (w.freeze ⟨g, vs.size, none⟩ 1) := fun b hb => freeze_old w g vs.size b (fun e => hF (e ▸ hb))
      have hE : ER M F (w.freeze ⟨g, vs.size, none⟩ 1) r (.arr et 1 es) := by
        refine ⟨h0, hrows, .inr ⟨g, c, vs, hM', ⟨_, freeze_at w g vs.size hcl, ?_⟩, hsz, hlc, hmax, fun i x j b u hi hj hu => (hvr i x j b u hi hj hu).mono (fun _ _ h => h) (fun _ h => h) hSame⟩⟩
        right
        split
        · exact Nat.le_refl _
        · next hne =>
          rcases hz with rfl | hz
          · exact absurd rfl hne
          · exact Nat.le_min.2 ⟨hz, Nat.le_refl _⟩
      obtain ⟨r1, e1, o1⟩ := hr.set_ hmem hbl honly hE
      have hv := VR.own (M := M) (F := F) (w := w.freeze ⟨g, vs.size, none⟩ 1) (t := r) (off := 0) (len := len) hM hle hmm
      simp only [Nat.zero_mul] at hv
      exact hnext M F N _ _ ⟨(d, .own r 0 len) :: s.fr, _⟩ (r1.put hd hv) e1 o1 hK
/-- a string's bytes in a row of their own that nobody writes -/
theorem hop_str_bytes {e : TypeId} [Ty P u .string] [Ty P t (.slice e)] [Ty P e (.int .u8)] {b : List Nat} (hlt : ∀ c ∈ b, c < 256) (hb : b.length ≤ maxLen) (hx : aev s x = some (.str (strU b))) (hd : d < n)
    (hK : K ⟨(d, .ro 1 (b.map encU) .any) :: s.fr, s.σ⟩) : Hop P n (.convert u t x) ty (some d) s [] K := by
  intro M F N a w o ho hty hdst hr next Q hnext
  have hu : a.eval x = .string (strU b) := by
    have := hr.aev hx
    generalize a.eval x = v at this ⊢
    cases this; rfl
  have hsz : (strU b).size = b.length := by simp [strU, ByteArray.size]
  have hrun := Lib.run_convert_string_bytes (P := P) w u t e (strU b) (Ty.und (P := P) (t := u)) (Ty.und (P := P) (t := t)) (Ty.und (P := P) (t := e))
  have hex : (execOp a.eval o).run P w = .ok (.value (.slice (some ⟨w.heap.size, 0, none⟩) b.length (grownCap w b.length 0 e))) (Lib.bytesWorld w e (strU b)) := by
    rw [hsz] at hrun
    simp [execOp, ho, hu, hrun]
  unfold Oper.wp
  rw [hex, Oper.upon_value, hdst]
  have hold : ∀ k, k < w.heap.size → (Lib.bytesWorld w e (strU b)).heap[k]? = w.heap[k]? := fun k hk => Lib.bytesWorld_at_old w e (strU b) k hk
  have hgs : (Lib.bytesWorld w e (strU b)).heap.size = w.heap.size + 1 := Lib.bytesWorld_size w e (strU b)
  have hSame : Same F w (Lib.bytesWorld w e (strU b)) := fun g hg => hold g (hr.st.flt g hg)
  have hsr := hr.st.growF hold (by omega) (Nat.le_refl _) (by omega : w.heap.size < (Lib.bytesWorld w e (strU b)).heap.size)
  have hcell : ∀ (i : Nat) (c : Nat), b[i]? = some c → (Lib.bytesWorld w e (strU b)).cell? ⟨w.heap.size, i, none⟩ = some (.int .u8 (c : Int)) := by
    intro i c hc
    have hil := (List.getElem?_eq_some_iff.1 hc).1
    rw [Lib.bytesWorld_cell w e (strU b) i (by omega)]
    have hm : (strU b).data.toList = b.map UInt8.ofNat := by simp [strU]
    have hc2 := hlt c (List.mem_of_getElem? hc)
    rw [hm, List.getD_eq_getElem?_getD, List.getElem?_map, hc]
    simp [Nat.mod_eq_of_lt hc2]
  have hv : VR M (fun g => F g ∨ g = w.heap.size) (Lib.bytesWorld w e (strU b)) (.ro 1 (b.map encU) .any) (.slice (some ⟨w.heap.size, 0, none⟩) b.length (grownCap w b.length 0 e)) := by
    have := VR.ro (M := M) (F := fun g => F g ∨ g = w.heap.size) (w := Lib.bytesWorld w e (strU b)) (es := b.map encU) (k := .any) (b := w.heap.size) (o := 0) (sz := 1) (cap := grownCap w b.length 0 e) (us := fun i j => .int .u8 ((b[i]!) : Int)) (.inr rfl)
      (by intro y hy; obtain ⟨c, -, rfl⟩ := List.mem_map.1 hy; exact ⟨rfl, by simp [encU, AV.cell]⟩)
      (fun i y j v hi hj => by
        simp only [List.getElem?_map, Option.map_eq_some_iff] at hi
        obtain ⟨c, hc, rfl⟩ := hi
        match j, hj with
        | 0, hj =>
          have hil := (List.getElem?_eq_some_iff.1 hc)
          rw [Nat.zero_add, Nat.mul_one, Nat.add_zero, hcell i c hc, getElem!_pos b i hil.1, hil.2]
        | j + 1, hj => cases hj)
      (fun i y j v hi hj => by
        simp only [List.getElem?_map, Option.map_eq_some_iff] at hi
        obtain ⟨c, hc, rfl⟩ := hi
        match j, hj with
        | 0, hj =>
          have hil := (List.getElem?_eq_some_iff.1 hc)
          obtain rfl := Option.some.inj hj
          rw [getElem!_pos b i hil.1, hil.2]
          exact .int _ _
        | j + 1, hj => cases hj)
      (by simpa using grownCap_ge w b.length 0 e) (grownCap_le_maxLen w b.length 0 e hb) (fun h => by cases h) (fun h => by cases h)
    rwa [List.length_map] at this
  have honly : ∀ S, Only S w (Lib.bytesWorld w e (strU b)) := fun S => ⟨rfl, rfl, rfl, by omega, fun k hk _ => hold k hk⟩
  have hext : Ext M F N w s.σ M (fun g => F g ∨ g = w.heap.size) N (Lib.bytesWorld w e (strU b)) s.σ := by
    refine ⟨fun _ _ h => h, fun _ h => .inl h, Nat.le_refl _, honly _, fun _ h _ => h, fun g hg => ?_, fun p hp _ => ⟨p, hp, rfl⟩⟩
    rcases hg with hg | rfl
    · exact .inl hg
    · exact .inr (.inl (Nat.le_refl _))
  have hr2 : Rel M (fun g => F g ∨ g = w.heap.size) N n s a (Lib.bytesWorld w e (strU b)) := hr.step hext hsr rfl
  exact hnext M _ N _ _ ⟨(d, .ro 1 (b.map encU) .any) :: s.fr, s.σ⟩ (hr2.put hd hv) hext (honly _) hK
end
section
variable {P : Program} {n : Nat} {ops : Array Oper} {rest : List Oper} {fr : Fr} {σ σ' : Sto} {K : ASt → Prop} {ty t u : TypeId} {pos : String} {af : Array Edge} {x : Operand} {d : Nat}
theorem cvm {e : TypeId} [Ty P t (.slice e)] [Ty P e (.int .u8)] {r len : Nat} {et : TypeId} {es : List (List AV)} (hs : SSet σ r (.arr et 1 es) r (.arr et 1 es) σ') (hpos : 0 < len) (hK : RS P n ops rest ⟨(d, .own r 0 len) :: fr, σ'⟩ K)
    (hx : aev ⟨fr, σ⟩ x = some (.own r 0 len) := by rfl) (hd : Nat.ble (d + 1) n = true := by rfl) : RS P n ops (⟨some d, .convert t t x, ty, pos, af, none⟩ :: rest) ⟨fr, σ⟩ K :=
  rs_heavy (hop_conv_mark hx hs.get hpos (lt_ble hd) (rs_sub (s := ⟨_, _⟩) (fun p hp => hs.sub p hp) hK))
theorem cvb {e : TypeId} [Ty P u .string] [Ty P t (.slice e)] [Ty P e (.int .u8)] {b : List Nat} (hlt : ∀ c ∈ b, c < 256) (hK : RS P n ops rest ⟨(d, .ro 1 (b.map encU) .any) :: fr, σ⟩ K) (hb : b.length ≤ maxLen := by (simp [maxLen]; omega))
    (hx : aev ⟨fr, σ⟩ x = some (.str (strU b)) := by rfl) (hd : Nat.ble (d + 1) n = true := by rfl) : RS P n ops (⟨some d, .convert u t x, ty, pos, af, none⟩ :: rest) ⟨fr, σ⟩ K :=
  rs_heavy (hop_str_bytes hlt hb hx (lt_ble hd) hK)
end
/-
  The symbolic layer: parts of strings. No program is named here.
-/
theorem strU_extract (bs : List Nat) (l h : Nat) : (strU bs).extract l h = strU ((bs.drop l).take (h - l)) := by
  have : ((strU bs).extract l h).data = (strU ((bs.drop l).take (h - l))).data := by
    rw [ByteArray.data_extract]
    simp [strU, List.extract_eq_take_drop]
  cases h1 : (strU bs).extract l h
  rw [h1] at this
  simp only at this
  rw [this]
section
variable {P : Program} {ty t : TypeId} {s : ASt} {c : Bool} {x : Operand}
theorem lop_slice_str [Ty P t .string] {bs : List Nat} {lo hi : Option Operand} {l h : Nat} (hx : Ev s c x (.str (strU bs))) (hl : OB s c 0 lo l) (hh : OB s c bs.length hi h) (h1 : c = true → l ≤ h ∧ h ≤ bs.length) :
    Lop P (.slice t x lo hi none) ty s c (.str (strU ((bs.drop l).take (h - l)))) [] :=
  Lop.pure_ fun M F N n a w hr hc => by
    obtain ⟨h1, h2⟩ := h1 hc
    have hlb : VB 0 (lo.map a.eval) l := hl.vb hr hc
    have hhb : VB bs.length (hi.map a.eval) h := hh.vb hr hc
    have hsz : (strU bs).size = bs.length := by simp [strU, ByteArray.size]
    have hb : ∀ (k : IntKind) (b y : Nat) (code : BoundsCode) (w : World), b ≤ y → (Instr.sliceBound (.int k b) y code).run P w = .ok b w := fun k b y code w hby => by
      rw [run_sliceBound w k b y code (by omega) (by omega)]
      simp
    refine ⟨_, .str _, fun w' o ho _ => ?_⟩
    have key2 : ∀ (lo' hi' : Option Value), VB 0 lo' l → VB bs.length hi' h → (Instr.sliceBounds false bs.length bs.length lo' hi' none).run P w' = .ok (l, h, bs.length) w' := by
      intro lo' hi' k1 k2
      cases k1 <;> cases k2 <;> simp [Instr.sliceBounds, hb, h1, h2]
    have key := key2 _ _ hlb hhb
    have hrun : (Instr.sliceAt t (.string (strU bs)) (lo.map a.eval) (hi.map a.eval) none).run P w' = .ok (.string (strU ((bs.drop l).take (h - l)))) w' := by
      simp [Instr.sliceAt, Instr.slice, run_underlying (Ty.und (P := P) (t := t)), hsz, key, strU_extract]
    simp [execOp, ho, hx.str hr hc, hrun]
end
/-
  The symbolic layer: a row is lent for good within a drawn region. No program is named here.
-/
section
variable {P : Program} {n : Nat} {ops : Array Oper} {fr : Fr} {σ : Sto} {K : ASt → Prop} {listed : Array Bool} {todo : List (Nat × Bool)} {held : List (Nat × List Nat)}
theorem rd_go {s s' : ASt} (hgo : SGo s s') (h : RD P n ops listed todo held s' K) : RD P n ops listed todo held s K := by
  intro hsel hc M F N a w hr
  obtain ⟨M1, F1, N1, hr1, he1⟩ := hgo M F N n a w hr
  refine wpAnyC_mono (PostN.ext he1) (fun j g hg => ?_) _ _ _ _ (h hsel hc M1 F1 N1 a w hr1)
  rcases hg with hg | ⟨r, hr, hb⟩
  · exact .inl (he1.ff g hg)
  · refine .inr ⟨r, hr, ?_⟩
    unfold blkOf at hb ⊢
    cases hm : M r with
    | none => rw [hm] at hb; cases hb
    | some b => rw [he1.mm r b hm]; rw [hm] at hb; exact hb
theorem dfzv {j q : Nat} {v v' : AV} {e : Ent} {σ' : Sto} (hx : fget fr j = some v) (hd : SDel σ q e σ') (hb : Bor σ [q] v v') (hK : RD P n ops listed todo held ⟨(j, v') :: fr, σ'⟩ K) : RD P n ops listed todo held ⟨fr, σ⟩ K := rd_go (sgo_fzv hx hd hb) hK
end
/-
  A nil slice within an own row as an own row; two rows frozen at once.
-/
theorem aend_gn {P : Program} {rs : Array ResultVar} {R : AV → Sto → Prop} {s s' : ASt} (hgo : SGo s s') (h : AEnd P rs R .normal s') : AEnd P rs R .normal s := aend_n (aend_go hgo h)
/-- a look as a loud operation of a drawn region: nothing of it is held -/
theorem hop_lop {P : Program} {n : Nat} {op : Op} {ty : TypeId} {d : Nat} {s : ASt} {v : AV} {rs : List Nat} {K : ASt → Prop} (h : Lop P op ty s true v rs) (hd : d < n) (hK : K (s.put d v)) : Hop P n op ty (some d) s [] K := by
  intro M F N a w o ho ht hdst hr next Q hnext
  obtain ⟨u, hu, hrun⟩ := h.2 M F N n a w hr rfl
  obtain ⟨dst, op', ty', pos, after, guard⟩ := o
  dsimp only at ho ht hdst
  subst ho ht hdst
  unfold Oper.wp
  rw [hrun w _ rfl rfl (fun _ _ => rfl)]
  exact hnext _ _ _ _ _ _ (hr.put hd hu) (Ext.refl _ _ _ _ _) (Only.refl _ _) hK
theorem dhl {P : Program} {n i d : Nat} {ops : Array Oper} {listed : Array Bool} {todo : List (Nat × Bool)} {held : List (Nat × List Nat)} {fr : Fr} {σ : Sto} {K : ASt → Prop} {op : Op} {ty : TypeId} {pos : String} {af : Array Edge} {v : AV} {rs : List Nat} (hi : ops[i]? = some ⟨some d, op, ty, pos, af, none⟩) (h : Lop P op ty ⟨fr, σ⟩ true v rs) (hd : Nat.ble (d + 1) n = true) (hK : RD P n ops (listed.setIfInBounds i true) todo held ⟨(d, v) :: fr, σ⟩ K) :
    RD P n ops listed ((i, false) :: todo) held ⟨fr, σ⟩ K := rd_new hi (hop_lop h (lt_ble hd) hK)
end Go.Proofs.YthhlimmcncbopaaGreat
/-
  Modules' parts are written.
-/
namespace Go.Proofs.YthhlimmcncbopaaGreat
open Go.RowKit Go.ChangeShapes Go.WideShapes Go.ChangeAt Go.Deep
attribute [local irreducible] SW RS RD AThen ABlock
/-- a function value that writes an x behind what stands there -/
def Puts (P : Program) (t8 : TypeId) (f : FuncId) {α : Type} (ar : α → AV) (pt : α → List Nat) (ok : α → Prop) (c B : Nat) : Prop :=
  (∀ args w, (callFunc f args).run P w = .ok (.enter f args) w) ∧ ∀ (q : Nat) (vs : List Nat) (x : α), ok x → 0 < vs.length → vs.length ≤ B → (pt x).length ≤ c ∧
    SCall P f ([] ++ [.own q 0 vs.length, ar x] ++ []) [(q, .arr t8 1 (vs.map encU))] (fun y σ => ∃ r, y = .own r 0 (vs ++ pt x).length ∧ σ = [(r, .arr t8 1 ((vs ++ pt x).map encU))])
theorem flat_le {P : Program} {t8 : TypeId} {f : FuncId} {α : Type} {ar : α → AV} {pt : α → List Nat} {ok : α → Prop} {c B : Nat} (hf : Puts P t8 f ar pt ok c B) (hB : 1 ≤ B) {l : List α} (hl : ∀ x ∈ l, ok x) (j : Nat) : ((l.take j).flatMap pt).length ≤ l.length * c := by
  have h1 : ∀ (l : List α), (∀ x ∈ l, ok x) → (l.flatMap pt).length ≤ l.length * c := by
    intro l
    induction l with
    | nil => simp
    | cons x l ih =>
      intro h
      have := ih fun y hy => h y (List.mem_cons_of_mem _ hy)
      have hx := (hf.2 0 [0] x (h x List.mem_cons_self) (by simp) hB).1
      rw [List.flatMap_cons, List.length_append, List.length_cons, Nat.add_mul]
      omega
  refine Nat.le_trans (h1 (l.take j) fun x hx => hl x (List.mem_of_mem_take hx)) (Nat.mul_le_mul_right c ?_)
  simp; omega
theorem wasm_num (q : Nat) (vs : List Nat) (hvs : vs.length ≤ 50000000) (n : Nat) (hn : n < 9223372036854775808) : SCall Tryz.prog 137 [.own q 0 vs.length, .int .i64 n] [(q, .arr 5 1 (vs.map encU))]
    (fun y σ => ∃ r, y = .own r 0 (vs ++ uB n).length ∧ σ = [(r, .arr 5 1 ((vs ++ uB n).map encU))]) := by
  refine scall_of (n := 9) (ks := [0, 1, 4]) Tryz.func137 rfl rfl (Nat.le_of_ble_eq_true rfl) ?_
  refine sq52 ?_
  refine z24 ?_
  refine cw [(q, .arr 5 1 (vs.map encU))] Tryz.call204 (leb_putU q vs (by omega) n (by omega)) rfl argsleT stleT ?_
  rintro _ σ' ⟨r8, rfl, rfl⟩ h8
  have k8 := rest1T h8; repeat rcases k8 with ⟨_, k8⟩
  apply rs_sto; exact nflT
  refine sq2 ?_
  apply aend; exact resT
  · exact ⟨r8, rfl, rfl⟩
  · exact stleT
theorem sgo_vle {fr : Fr} {σ : Sto} {j : Nat} {x y : AV} (h : fget fr j = some x) (hv : VLe x y) : SGo ⟨fr, σ⟩ ⟨(j, y) :: fr, σ⟩ := by
  refine SGo.of_le (fun i z hi => ?_) (fun p hp => hp)
  by_cases hij : i = j
  · subst hij
    rw [show fget ((i, y) :: fr) i = some y by simp [fget]] at hi
    obtain rfl := Option.some.inj hi
    exact ⟨_, h, hv⟩
  · rw [show fget ((j, y) :: fr) i = fget fr i by simp [fget]; intro e; exact absurd e hij] at hi
    exact ⟨z, hi, VLe.refl z⟩
theorem VLe.agg {cs cs' : List AV} (hl : cs.length = cs'.length) (h : ∀ (j : Nat) (a a' : AV), cs[j]? = some a → cs'[j]? = some a' → VLe a a') : VLe (.agg cs) (.agg cs') := fun M F w v hv => by
  cases hv with
  | agg hn hc =>
    refine .agg (hn.trans hl) fun j a' u ha' hu => ?_
    have hj := (List.getElem?_eq_some_iff.1 ha').1
    have ha : cs[j]? = some (cs[j]'(by omega)) := List.getElem?_eq_getElem (by omega)
    exact h j _ a' ha ha' _ _ _ _ (hc j _ u ha hu)
theorem vle_ins {op a b : Int} : VLe (.agg [.int .i64 op, .int .i64 a, .int .i64 b, .ro 0 [] .nil]) (.agg (iv .any ⟨op, a, b, []⟩)) := by
  refine VLe.agg rfl fun j a a' ha ha' => ?_
  match j with
  | 0 => cases ha; cases ha'; exact VLe.refl _
  | 1 => cases ha; cases ha'; exact VLe.refl _
  | 2 => cases ha; cases ha'; exact VLe.refl _
  | 3 => cases ha; cases ha'; exact VLe.empty
  | _ + 4 => cases ha
theorem wasm_text (q : Nat) (vs : List Nat) (hpos : 0 < vs.length) (hvs : vs.length ≤ 20000000) (b : List Nat) (hb : b.length ≤ 1000) (hlt : ∀ c ∈ b, c < 256) : SCall Tryz.prog 138 [.own q 0 vs.length, .str (strU b)] [(q, .arr 5 1 (vs.map encU))]
    (fun y σ => ∃ r, y = .own r 0 (vs ++ txtB b).length ∧ σ = [(r, .arr 5 1 ((vs ++ txtB b).map encU))]) := by
  have hu := uB_len 1 b.length (by omega)
  refine scall_of (n := 11) (ks := [0, 1, 4]) Tryz.func138 rfl rfl (Nat.le_of_ble_eq_true rfl) ?_
  refine sq52 ?_
  refine lo (lop_len_str (E rfl)) rfl ?_
  rw [strU_size]
  refine cw [(q, .arr 5 1 (vs.map encU))] Tryz.call137 (wasm_num q vs (by omega) b.length (by omega)) rfl argsleT stleT ?_
  rintro _ σ' ⟨r8, rfl, rfl⟩ h8
  have k8 := rest1T h8; repeat rcases k8 with ⟨_, k8⟩
  apply rs_sto; exact nflT
  refine lo (lop_move (E rfl)) rfl ?_
  refine apS (vs ++ uB b.length) (b) hlt ?_
  refine apnT fun r10 h10 => ?_; repeat rcases h10 with ⟨_, h10⟩
  refine sq2 ?_
  rw [show vs ++ uB b.length ++ b = vs ++ txtB b by unfold txtB; rw [List.append_assoc]]
  apply aend; exact resT
  · exact ⟨r10, rfl, rfl⟩
  · exact stleT
theorem wasm_putKind (q : Nat) (vs : List Nat) (hvs : vs.length ≤ 20000000) (k : Int) : SCall Tryz.prog 134 [.own q 0 vs.length, .int .i64 k] [(q, .arr 5 1 (vs.map encU))]
    (fun y σ => ∃ r, y = .own r 0 (vs ++ kB k).length ∧ σ = [(r, .arr 5 1 ((vs ++ kB k).map encU))]) := by
  refine scall_of (n := 13) (ks := [0, 1, 4, 6]) Tryz.func134 rfl rfl (Nat.le_of_ble_eq_true rfl) ?_
  refine sq62 ?_
  refine sq34 ?_
  refine sw_cond rfl (fun g1 => ?_) (fun g1 => ?_)
  · rw [show kB k = [127] by unfold kB; rw [if_pos g1]]
    refine sq7 ?_
    refine z1 ?_; refine freshT fun r8 h8 => ?_; repeat rcases h8 with ⟨_, h8⟩
    refine apA ((vs ++ [127]).map encU) (vs ++ [127]).length ?_
    refine apnT fun r9 h9 => ?_; repeat rcases h9 with ⟨_, h9⟩
    refine sq2 ?_
    apply aend; exact resT
    · exact ⟨r9, rfl, rfl⟩
    · exact stleT
  rw [show kB k = [126] by unfold kB; rw [if_neg (by simp [g1])]]
  refine sq7 ?_
  refine z1 ?_; refine freshT fun r11 h11 => ?_; repeat rcases h11 with ⟨_, h11⟩
  refine apA ((vs ++ [126]).map encU) (vs ++ [126]).length ?_
  refine apnT fun r12 h12 => ?_; repeat rcases h12 with ⟨_, h12⟩
  refine sq2 ?_
  apply aend; exact resT
  · exact ⟨r12, rfl, rfl⟩
  · exact stleT
theorem wasm_constant (q : Nat) (vs : List Nat) (hvs : vs.length ≤ 20000000) (k n : Int) (hv : valN k n = true) (hn : -9223372036854775808 ≤ n ∧ n ≤ 9223372036854775807) : SCall Tryz.prog 146 [.own q 0 vs.length, .agg [.int .i64 k, .int .i64 n]] [(q, .arr 5 1 (vs.map encU))]
    (fun y σ => ∃ r, y = .own r 0 (vs ++ conB k n).length ∧ σ = [(r, .arr 5 1 ((vs ++ conB k n).map encU))]) := by
  obtain ⟨ho, hm, -⟩ := co_may hv hn
  have hpl := putN_len ho hm
  have hcB : conB k n = putN ⟨if (k == 2) = true then 66 else 65, n, 0, []⟩ ++ [11] := rfl
  rw [hcB]
  generalize hop : (if (k == 2) = true then (66 : Int) else 65) = op at ho hm hpl hcB ⊢
  have hop := hop.symm
  refine scall_of (n := 17) (ks := [0, 1, 3, 4, 5, 8]) Tryz.func146 rfl rfl (Nat.le_of_ble_eq_true rfl) ?_
  refine sq3 ?_
  apply bx; rfl; rfl; (exact zcT); rfl; refine freshT fun r3 h3 => ?_; repeat rcases h3 with ⟨_, h3⟩
  refine sq25 ?_
  refine sq41 ?_
  refine sq34 ?_
  refine sw_cond rfl (fun g2 => ?_) (fun g2 => ?_)
  · have hco : ofConst (.int .i64 66) = AV.int .i64 op := by rw [hop, if_pos g2]; rfl
    refine sq8 ?_
    rw [hco]
    refine sq5 ?_
    refine sq11 ?_
    refine z93 ?_
    refine rs_go (sgo_vle (j := 13) rfl vle_ins) ?_
    refine cw [(q, .arr 5 1 (vs.map encU))] Tryz.call207 (instr_put q vs (by omega) .any ⟨op, n, 0, []⟩ ho hm) rfl argsleT stleT ?_
    rintro _ σ' ⟨r14, rfl, rfl⟩ h14
    have k14 := rest1T h14; repeat rcases k14 with ⟨_, k14⟩
    apply rs_sto; exact nflT
    refine z1 ?_; refine freshT fun r15 h15 => ?_; repeat rcases h15 with ⟨_, h15⟩
    refine apA ((vs ++ putN ⟨op, n, 0, []⟩ ++ [11]).map encU) (vs ++ putN ⟨op, n, 0, []⟩ ++ [11]).length ?_
    refine apnT fun r16 h16 => ?_; repeat rcases h16 with ⟨_, h16⟩
    refine sq2 ?_
    rw [List.append_assoc]
    apply aend; exact resT
    · exact ⟨r16, rfl, rfl⟩
    · exact stleT
  have hco : ofConst (.int .i64 65) = AV.int .i64 op := by rw [hop, if_neg (by simp [g2])]; rfl
  refine ctlT ?_
  rw [hco]
  refine sq5 ?_
  refine sq11 ?_
  refine z93 ?_
  refine rs_go (sgo_vle (j := 13) rfl vle_ins) ?_
  refine cw [(q, .arr 5 1 (vs.map encU))] Tryz.call207 (instr_put q vs (by omega) .any ⟨op, n, 0, []⟩ ho hm) rfl argsleT stleT ?_
  rintro _ σ' ⟨r14, rfl, rfl⟩ h14
  have k14 := rest1T h14; repeat rcases k14 with ⟨_, k14⟩
  apply rs_sto; exact nflT
  refine z1 ?_; refine freshT fun r15 h15 => ?_; repeat rcases h15 with ⟨_, h15⟩
  refine apA ((vs ++ putN ⟨op, n, 0, []⟩ ++ [11]).map encU) (vs ++ putN ⟨op, n, 0, []⟩ ++ [11]).length ?_
  refine apnT fun r16 h16 => ?_; repeat rcases h16 with ⟨_, h16⟩
  refine sq2 ?_
  rw [List.append_assoc]
  apply aend; exact resT
  · exact ⟨r16, rfl, rfl⟩
  · exact stleT
theorem vec_ft {f : FuncId} {pt : FT → List Nat} {ok : FT → Prop} {c B : Nat} (hf : Puts Tryz.prog 5 f (fun x => .agg (encFT x)) pt ok c B) (hB : B ≤ 50000000) (q : Nat) (vs : List Nat) (l : List FT) (hok : ∀ x ∈ l, ok x) (hl : l.length ≤ 1000) (hb : vs.length + 10 + l.length * c ≤ B) :
    SCall Tryz.prog 202 [.own q 0 vs.length, .ro 2 (l.map encFT) .any, .fn (.func f) [] []] [(q, .arr 5 1 (vs.map encU))] (fun y σ => ∃ r, y = .own r 0 (vs ++ vecB l pt).length ∧ σ = [(r, .arr 5 1 ((vs ++ vecB l pt).map encU))]) := by
  have hu := uB_len 1 l.length (by omega)
  have hup := uB_pos l.length
  have hpc := flat_le hf (by omega) hok
  refine scall_of (n := 25) (ks := [0, 1, 2, 6, 8, 13, 14, 15, 16]) Tryz.func202 rfl rfl (Nat.le_of_ble_eq_true rfl) ?_
  refine sq52 ?_
  refine z14 ?_
  refine cw [(q, .arr 5 1 (vs.map encU))] Tryz.call137 (wasm_num q vs (by omega) l.length (by omega)) rfl argsleT stleT ?_
  rintro _ σ' ⟨r12, rfl, rfl⟩ h12
  have k12 := rest1T h12; repeat rcases k12 with ⟨_, k12⟩
  apply rs_sto; exact nflT
  refine sq84 ?_
  refine sq9 ?_
  refine lp (β := Nat × Nat) (fun b => ⟨[(0, .own b.1 0 (vs ++ uB l.length ++ (l.take b.2).flatMap pt).length), (2, .fn (.func f) [] []), (13, .ro 2 (l.map encFT) .any), (14, .int .i64 l.length), (15, .int .i64 b.2)], [(b.1, .arr 5 1 ((vs ++ uB l.length ++ (l.take b.2).flatMap pt).map encU))]⟩) (fun b => b.2 ≤ l.length) (fun b => l.length - b.2) (r12, 0) (by dsimp only; rw [show vs ++ uB l.length ++ (l.take 0).flatMap pt = vs ++ uB l.length by simp]; (exact sgoT)) (Nat.zero_le _) ?_
  rintro ⟨q1, j⟩ hj
  have hpj := hpc j
  have hsl : (vs ++ uB l.length ++ (l.take j).flatMap pt).length = vs.length + (uB l.length).length + ((l.take j).flatMap pt).length := by simp [Nat.add_assoc]
  dsimp only at hj ⊢
  refine sq40 ?_
  refine sw_cond rfl (fun g3 => ?_) (fun g3 => ?_)
  · have hlt : j < l.length := by simp at g3; omega
    obtain ⟨x, hx⟩ : ∃ x, l[j]? = some x := ⟨_, List.getElem?_eq_getElem hlt⟩
    have hnx : vs ++ uB l.length ++ (l.take (j + 1)).flatMap pt = vs ++ uB l.length ++ (l.take j).flatMap pt ++ pt x := by rw [List.take_add_one, hx, List.flatMap_append]; simp
    refine sq3 ?_
    refine sq59 ?_
    apply al; rfl; (exact zcT); refine freshT fun r8 h8 => ?_; repeat rcases h8 with ⟨_, h8⟩
    apply stp; rfl; rfl; rfl; rfl; (exact sputT)
    refine sq49 ?_
    refine z99 ?_
    refine cf_ [(q1, .arr 5 1 ((vs ++ uB l.length ++ (l.take j).flatMap pt).map encU))] rfl hf.1 (hf.2 q1 _ x (hok x (List.mem_of_getElem? hx)) (by omega) (by omega)).2 rfl argsleT stleT ?_
    rintro _ σ' ⟨r22, rfl, rfl⟩ h22
    have k22 := rest1T h22; repeat rcases k22 with ⟨_, k22⟩
    apply rs_sto; exact nflT
    refine sq78 ?_
    refine ⟨(r22, j + 1), hlt, by show l.length - (j + 1) < l.length - j; omega, ?_⟩
    dsimp only
    rw [hnx]
    exact sgoT
  obtain rfl : j = l.length := by simp at g3; omega
  refine sq29 ?_
  rw [show vs ++ uB l.length ++ (l.take l.length).flatMap pt = vs ++ vecB l pt by rw [List.take_length, List.append_assoc]; rfl]
  apply aend; exact resT
  · exact ⟨q1, rfl, rfl⟩
  · exact stleT
theorem nvec_ft {f : FuncId} {pt : FT → List Nat} {ok : FT → Prop} {c B : Nat} (hf : Puts Tryz.prog 5 f (fun x => .agg (encFT x)) pt ok c B) (hB : B ≤ 50000000) (l : List FT) (hok : ∀ x ∈ l, ok x) (hl : l.length ≤ 1000) (hb : 10 + l.length * c ≤ B) :
    SCall Tryz.prog 202 [.ro 0 [] .nil, .ro 2 (l.map encFT) .any, .fn (.func f) [] []] [] (fun y σ => ∃ r, y = .own r 0 (vecB l pt).length ∧ σ = [(r, .arr 5 1 ((vecB l pt).map encU))]) :=
  scall_nil (e := 5) (sz := 1) (by decide) fun q _ => vec_ft hf hB q [] l hok hl (by simpa using hb)
end Go.Proofs.YthhlimmcncbopaaGreat
/-
  Modules' sections are written.
-/
namespace Go.Proofs.YthhlimmcncbopaaGreat
open Go.RowKit Go.ChangeShapes Go.WideShapes Go.ChangeAt Go.Deep
def encR (r : List Int) : List AV := [.ro 1 (r.map encI) .any]
theorem vec_int {f : FuncId} {pt : Int → List Nat} {ok : Int → Prop} {c B : Nat} (hf : Puts Tryz.prog 5 f (fun n => .int .i64 n) pt ok c B) (hB : B ≤ 50000000) (q : Nat) (vs : List Nat) (l : List Int) (hok : ∀ x ∈ l, ok x) (hl : l.length ≤ 1000) (hb : vs.length + 10 + l.length * c ≤ B) :
    SCall Tryz.prog 133 [.own q 0 vs.length, .ro 1 (l.map encI) .any, .fn (.func f) [] []] [(q, .arr 5 1 (vs.map encU))] (fun y σ => ∃ r, y = .own r 0 (vs ++ vecB l pt).length ∧ σ = [(r, .arr 5 1 ((vs ++ vecB l pt).map encU))]) := by
  have hu := uB_len 1 l.length (by omega)
  have hup := uB_pos l.length
  have hpc := flat_le hf (by omega) hok
  refine scall_of (n := 25) (ks := [0, 1, 2, 6, 8, 13, 14, 15, 16]) Tryz.func133 rfl rfl (Nat.le_of_ble_eq_true rfl) ?_
  refine sq52 ?_
  refine z14 ?_
  refine cw [(q, .arr 5 1 (vs.map encU))] Tryz.call137 (wasm_num q vs (by omega) l.length (by omega)) rfl argsleT stleT ?_
  rintro _ σ' ⟨r12, rfl, rfl⟩ h12
  have k12 := rest1T h12; repeat rcases k12 with ⟨_, k12⟩
  apply rs_sto; exact nflT
  refine sq84 ?_
  refine sq9 ?_
  refine lp (β := Nat × Nat) (fun b => ⟨[(0, .own b.1 0 (vs ++ uB l.length ++ (l.take b.2).flatMap pt).length), (2, .fn (.func f) [] []), (13, .ro 1 (l.map encI) .any), (14, .int .i64 l.length), (15, .int .i64 b.2)], [(b.1, .arr 5 1 ((vs ++ uB l.length ++ (l.take b.2).flatMap pt).map encU))]⟩) (fun b => b.2 ≤ l.length) (fun b => l.length - b.2) (r12, 0) (by dsimp only; rw [show vs ++ uB l.length ++ (l.take 0).flatMap pt = vs ++ uB l.length by simp]; (exact sgoT)) (Nat.zero_le _) ?_
  rintro ⟨q1, j⟩ hj
  have hpj := hpc j
  have hsl : (vs ++ uB l.length ++ (l.take j).flatMap pt).length = vs.length + (uB l.length).length + ((l.take j).flatMap pt).length := by simp [Nat.add_assoc]
  dsimp only at hj ⊢
  refine sq40 ?_
  refine sw_cond rfl (fun g3 => ?_) (fun g3 => ?_)
  · have hlt : j < l.length := by simp at g3; omega
    obtain ⟨x, hx⟩ : ∃ x, l[j]? = some x := ⟨_, List.getElem?_eq_getElem hlt⟩
    have hnx : vs ++ uB l.length ++ (l.take (j + 1)).flatMap pt = vs ++ uB l.length ++ (l.take j).flatMap pt ++ pt x := by rw [List.take_add_one, hx, List.flatMap_append]; simp
    refine sq3 ?_
    refine sq76 ?_
    refine sq64 ?_
    refine lo (lop_move (E rfl)) rfl ?_
    refine cf_ [(q1, .arr 5 1 ((vs ++ uB l.length ++ (l.take j).flatMap pt).map encU))] rfl hf.1 (hf.2 q1 _ x (hok x (List.mem_of_getElem? hx)) (by omega) (by omega)).2 rfl argsleT stleT ?_
    rintro _ σ' ⟨r22, rfl, rfl⟩ h22
    have k22 := rest1T h22; repeat rcases k22 with ⟨_, k22⟩
    apply rs_sto; exact nflT
    refine sq78 ?_
    refine ⟨(r22, j + 1), hlt, by show l.length - (j + 1) < l.length - j; omega, ?_⟩
    dsimp only
    rw [hnx]
    exact sgoT
  obtain rfl : j = l.length := by simp at g3; omega
  refine sq29 ?_
  rw [show vs ++ uB l.length ++ (l.take l.length).flatMap pt = vs ++ vecB l pt by rw [List.take_length, List.append_assoc]; rfl]
  apply aend; exact resT
  · exact ⟨q1, rfl, rfl⟩
  · exact stleT
theorem nvec_int {f : FuncId} {pt : Int → List Nat} {ok : Int → Prop} {c B : Nat} (hf : Puts Tryz.prog 5 f (fun n => .int .i64 n) pt ok c B) (hB : B ≤ 50000000) (l : List Int) (hok : ∀ x ∈ l, ok x) (hl : l.length ≤ 1000) (hb : 10 + l.length * c ≤ B) :
    SCall Tryz.prog 133 [.ro 0 [] .nil, .ro 1 (l.map encI) .any, .fn (.func f) [] []] [] (fun y σ => ∃ r, y = .own r 0 (vecB l pt).length ∧ σ = [(r, .arr 5 1 ((vecB l pt).map encU))]) :=
  scall_nil (e := 5) (sz := 1) (by decide) fun q _ => vec_int hf hB q [] l hok hl (by simpa using hb)
theorem vec_run {f : FuncId} {pt : (List Int) → List Nat} {ok : (List Int) → Prop} {c B : Nat} (hf : Puts Tryz.prog 5 f (fun r => .ro 1 (r.map encI) .any) pt ok c B) (hB : B ≤ 50000000) (q : Nat) (vs : List Nat) (l : List (List Int)) (hok : ∀ x ∈ l, ok x) (hl : l.length ≤ 1000) (hb : vs.length + 10 + l.length * c ≤ B) :
    SCall Tryz.prog 211 [.own q 0 vs.length, .ro 1 (l.map encR) .any, .fn (.func f) [] []] [(q, .arr 5 1 (vs.map encU))] (fun y σ => ∃ r, y = .own r 0 (vs ++ vecB l pt).length ∧ σ = [(r, .arr 5 1 ((vs ++ vecB l pt).map encU))]) := by
  have hu := uB_len 1 l.length (by omega)
  have hup := uB_pos l.length
  have hpc := flat_le hf (by omega) hok
  refine scall_of (n := 25) (ks := [0, 1, 2, 6, 8, 13, 14, 15, 16]) Tryz.func211 rfl rfl (Nat.le_of_ble_eq_true rfl) ?_
  refine sq52 ?_
  refine z14 ?_
  refine cw [(q, .arr 5 1 (vs.map encU))] Tryz.call137 (wasm_num q vs (by omega) l.length (by omega)) rfl argsleT stleT ?_
  rintro _ σ' ⟨r12, rfl, rfl⟩ h12
  have k12 := rest1T h12; repeat rcases k12 with ⟨_, k12⟩
  apply rs_sto; exact nflT
  refine sq84 ?_
  refine sq9 ?_
  refine lp (β := Nat × Nat) (fun b => ⟨[(0, .own b.1 0 (vs ++ uB l.length ++ (l.take b.2).flatMap pt).length), (2, .fn (.func f) [] []), (13, .ro 1 (l.map encR) .any), (14, .int .i64 l.length), (15, .int .i64 b.2)], [(b.1, .arr 5 1 ((vs ++ uB l.length ++ (l.take b.2).flatMap pt).map encU))]⟩) (fun b => b.2 ≤ l.length) (fun b => l.length - b.2) (r12, 0) (by dsimp only; rw [show vs ++ uB l.length ++ (l.take 0).flatMap pt = vs ++ uB l.length by simp]; (exact sgoT)) (Nat.zero_le _) ?_
  rintro ⟨q1, j⟩ hj
  have hpj := hpc j
  have hsl : (vs ++ uB l.length ++ (l.take j).flatMap pt).length = vs.length + (uB l.length).length + ((l.take j).flatMap pt).length := by simp [Nat.add_assoc]
  dsimp only at hj ⊢
  refine sq40 ?_
  refine sw_cond rfl (fun g3 => ?_) (fun g3 => ?_)
  · have hlt : j < l.length := by simp at g3; omega
    obtain ⟨x, hx⟩ : ∃ x, l[j]? = some x := ⟨_, List.getElem?_eq_getElem hlt⟩
    have hnx : vs ++ uB l.length ++ (l.take (j + 1)).flatMap pt = vs ++ uB l.length ++ (l.take j).flatMap pt ++ pt x := by rw [List.take_add_one, hx, List.flatMap_append]; simp
    refine sq3 ?_
    refine sq76 ?_
    refine sq64 ?_
    refine lo (lop_move (E rfl)) rfl ?_
    refine cf_ [(q1, .arr 5 1 ((vs ++ uB l.length ++ (l.take j).flatMap pt).map encU))] rfl hf.1 (hf.2 q1 _ x (hok x (List.mem_of_getElem? hx)) (by omega) (by omega)).2 rfl argsleT stleT ?_
    rintro _ σ' ⟨r22, rfl, rfl⟩ h22
    have k22 := rest1T h22; repeat rcases k22 with ⟨_, k22⟩
    apply rs_sto; exact nflT
    refine sq78 ?_
    refine ⟨(r22, j + 1), hlt, by show l.length - (j + 1) < l.length - j; omega, ?_⟩
    dsimp only
    rw [hnx]
    exact sgoT
  obtain rfl : j = l.length := by simp at g3; omega
  refine sq29 ?_
  rw [show vs ++ uB l.length ++ (l.take l.length).flatMap pt = vs ++ vecB l pt by rw [List.take_length, List.append_assoc]; rfl]
  apply aend; exact resT
  · exact ⟨q1, rfl, rfl⟩
  · exact stleT
theorem nvec_run {f : FuncId} {pt : (List Int) → List Nat} {ok : (List Int) → Prop} {c B : Nat} (hf : Puts Tryz.prog 5 f (fun r => .ro 1 (r.map encI) .any) pt ok c B) (hB : B ≤ 50000000) (l : List (List Int)) (hok : ∀ x ∈ l, ok x) (hl : l.length ≤ 1000) (hb : 10 + l.length * c ≤ B) :
    SCall Tryz.prog 211 [.ro 0 [] .nil, .ro 1 (l.map encR) .any, .fn (.func f) [] []] [] (fun y σ => ∃ r, y = .own r 0 (vecB l pt).length ∧ σ = [(r, .arr 5 1 ((vecB l pt).map encU))]) :=
  scall_nil (e := 5) (sz := 1) (by decide) fun q _ => vec_run hf hB q [] l hok hl (by simpa using hb)
theorem vec_im {f : FuncId} {pt : Im → List Nat} {ok : Im → Prop} {c B : Nat} (hf : Puts Tryz.prog 5 f (fun x => .agg (encIm x)) pt ok c B) (hB : B ≤ 50000000) (q : Nat) (vs : List Nat) (l : List Im) (hok : ∀ x ∈ l, ok x) (hl : l.length ≤ 1000) (hb : vs.length + 10 + l.length * c ≤ B) :
    SCall Tryz.prog 203 [.own q 0 vs.length, .ro 3 (l.map encIm) .any, .fn (.func f) [] []] [(q, .arr 5 1 (vs.map encU))] (fun y σ => ∃ r, y = .own r 0 (vs ++ vecB l pt).length ∧ σ = [(r, .arr 5 1 ((vs ++ vecB l pt).map encU))]) := by
  have hu := uB_len 1 l.length (by omega)
  have hup := uB_pos l.length
  have hpc := flat_le hf (by omega) hok
  refine scall_of (n := 25) (ks := [0, 1, 2, 6, 8, 13, 14, 15, 16]) Tryz.func203 rfl rfl (Nat.le_of_ble_eq_true rfl) ?_
  refine sq52 ?_
  refine z14 ?_
  refine cw [(q, .arr 5 1 (vs.map encU))] Tryz.call137 (wasm_num q vs (by omega) l.length (by omega)) rfl argsleT stleT ?_
  rintro _ σ' ⟨r12, rfl, rfl⟩ h12
  have k12 := rest1T h12; repeat rcases k12 with ⟨_, k12⟩
  apply rs_sto; exact nflT
  refine sq84 ?_
  refine sq9 ?_
  refine lp (β := Nat × Nat) (fun b => ⟨[(0, .own b.1 0 (vs ++ uB l.length ++ (l.take b.2).flatMap pt).length), (2, .fn (.func f) [] []), (13, .ro 3 (l.map encIm) .any), (14, .int .i64 l.length), (15, .int .i64 b.2)], [(b.1, .arr 5 1 ((vs ++ uB l.length ++ (l.take b.2).flatMap pt).map encU))]⟩) (fun b => b.2 ≤ l.length) (fun b => l.length - b.2) (r12, 0) (by dsimp only; rw [show vs ++ uB l.length ++ (l.take 0).flatMap pt = vs ++ uB l.length by simp]; (exact sgoT)) (Nat.zero_le _) ?_
  rintro ⟨q1, j⟩ hj
  have hpj := hpc j
  have hsl : (vs ++ uB l.length ++ (l.take j).flatMap pt).length = vs.length + (uB l.length).length + ((l.take j).flatMap pt).length := by simp [Nat.add_assoc]
  dsimp only at hj ⊢
  refine sq40 ?_
  refine sw_cond rfl (fun g3 => ?_) (fun g3 => ?_)
  · have hlt : j < l.length := by simp at g3; omega
    obtain ⟨x, hx⟩ : ∃ x, l[j]? = some x := ⟨_, List.getElem?_eq_getElem hlt⟩
    have hnx : vs ++ uB l.length ++ (l.take (j + 1)).flatMap pt = vs ++ uB l.length ++ (l.take j).flatMap pt ++ pt x := by rw [List.take_add_one, hx, List.flatMap_append]; simp
    refine sq3 ?_
    refine sq59 ?_
    apply al; rfl; (exact zcT); refine freshT fun r8 h8 => ?_; repeat rcases h8 with ⟨_, h8⟩
    apply stp; rfl; rfl; rfl; rfl; (exact sputT)
    refine sq49 ?_
    refine z99 ?_
    refine cf_ [(q1, .arr 5 1 ((vs ++ uB l.length ++ (l.take j).flatMap pt).map encU))] rfl hf.1 (hf.2 q1 _ x (hok x (List.mem_of_getElem? hx)) (by omega) (by omega)).2 rfl argsleT stleT ?_
    rintro _ σ' ⟨r22, rfl, rfl⟩ h22
    have k22 := rest1T h22; repeat rcases k22 with ⟨_, k22⟩
    apply rs_sto; exact nflT
    refine sq78 ?_
    refine ⟨(r22, j + 1), hlt, by show l.length - (j + 1) < l.length - j; omega, ?_⟩
    dsimp only
    rw [hnx]
    exact sgoT
  obtain rfl : j = l.length := by simp at g3; omega
  refine sq29 ?_
  rw [show vs ++ uB l.length ++ (l.take l.length).flatMap pt = vs ++ vecB l pt by rw [List.take_length, List.append_assoc]; rfl]
  apply aend; exact resT
  · exact ⟨q1, rfl, rfl⟩
  · exact stleT
theorem nvec_im {f : FuncId} {pt : Im → List Nat} {ok : Im → Prop} {c B : Nat} (hf : Puts Tryz.prog 5 f (fun x => .agg (encIm x)) pt ok c B) (hB : B ≤ 50000000) (l : List Im) (hok : ∀ x ∈ l, ok x) (hl : l.length ≤ 1000) (hb : 10 + l.length * c ≤ B) :
    SCall Tryz.prog 203 [.ro 0 [] .nil, .ro 3 (l.map encIm) .any, .fn (.func f) [] []] [] (fun y σ => ∃ r, y = .own r 0 (vecB l pt).length ∧ σ = [(r, .arr 5 1 ((vecB l pt).map encU))]) :=
  scall_nil (e := 5) (sz := 1) (by decide) fun q _ => vec_im hf hB q [] l hok hl (by simpa using hb)
theorem vec_li {f : FuncId} {pt : Li → List Nat} {ok : Li → Prop} {c B : Nat} (hf : Puts Tryz.prog 5 f (fun x => .agg (encLi x)) pt ok c B) (hB : B ≤ 50000000) (q : Nat) (vs : List Nat) (l : List Li) (hok : ∀ x ∈ l, ok x) (hl : l.length ≤ 1000) (hb : vs.length + 10 + l.length * c ≤ B) :
    SCall Tryz.prog 205 [.own q 0 vs.length, .ro 3 (l.map encLi) .any, .fn (.func f) [] []] [(q, .arr 5 1 (vs.map encU))] (fun y σ => ∃ r, y = .own r 0 (vs ++ vecB l pt).length ∧ σ = [(r, .arr 5 1 ((vs ++ vecB l pt).map encU))]) := by
  have hu := uB_len 1 l.length (by omega)
  have hup := uB_pos l.length
  have hpc := flat_le hf (by omega) hok
  refine scall_of (n := 25) (ks := [0, 1, 2, 6, 8, 13, 14, 15, 16]) Tryz.func205 rfl rfl (Nat.le_of_ble_eq_true rfl) ?_
  refine sq52 ?_
  refine z14 ?_
  refine cw [(q, .arr 5 1 (vs.map encU))] Tryz.call137 (wasm_num q vs (by omega) l.length (by omega)) rfl argsleT stleT ?_
  rintro _ σ' ⟨r12, rfl, rfl⟩ h12
  have k12 := rest1T h12; repeat rcases k12 with ⟨_, k12⟩
  apply rs_sto; exact nflT
  refine sq84 ?_
  refine sq9 ?_
  refine lp (β := Nat × Nat) (fun b => ⟨[(0, .own b.1 0 (vs ++ uB l.length ++ (l.take b.2).flatMap pt).length), (2, .fn (.func f) [] []), (13, .ro 3 (l.map encLi) .any), (14, .int .i64 l.length), (15, .int .i64 b.2)], [(b.1, .arr 5 1 ((vs ++ uB l.length ++ (l.take b.2).flatMap pt).map encU))]⟩) (fun b => b.2 ≤ l.length) (fun b => l.length - b.2) (r12, 0) (by dsimp only; rw [show vs ++ uB l.length ++ (l.take 0).flatMap pt = vs ++ uB l.length by simp]; (exact sgoT)) (Nat.zero_le _) ?_
  rintro ⟨q1, j⟩ hj
  have hpj := hpc j
  have hsl : (vs ++ uB l.length ++ (l.take j).flatMap pt).length = vs.length + (uB l.length).length + ((l.take j).flatMap pt).length := by simp [Nat.add_assoc]
  dsimp only at hj ⊢
  refine sq40 ?_
  refine sw_cond rfl (fun g3 => ?_) (fun g3 => ?_)
  · have hlt : j < l.length := by simp at g3; omega
    obtain ⟨x, hx⟩ : ∃ x, l[j]? = some x := ⟨_, List.getElem?_eq_getElem hlt⟩
    have hnx : vs ++ uB l.length ++ (l.take (j + 1)).flatMap pt = vs ++ uB l.length ++ (l.take j).flatMap pt ++ pt x := by rw [List.take_add_one, hx, List.flatMap_append]; simp
    refine sq3 ?_
    refine sq59 ?_
    apply al; rfl; (exact zcT); refine freshT fun r8 h8 => ?_; repeat rcases h8 with ⟨_, h8⟩
    apply stp; rfl; rfl; rfl; rfl; (exact sputT)
    refine sq49 ?_
    refine z99 ?_
    refine cf_ [(q1, .arr 5 1 ((vs ++ uB l.length ++ (l.take j).flatMap pt).map encU))] rfl hf.1 (hf.2 q1 _ x (hok x (List.mem_of_getElem? hx)) (by omega) (by omega)).2 rfl argsleT stleT ?_
    rintro _ σ' ⟨r22, rfl, rfl⟩ h22
    have k22 := rest1T h22; repeat rcases k22 with ⟨_, k22⟩
    apply rs_sto; exact nflT
    refine sq78 ?_
    refine ⟨(r22, j + 1), hlt, by show l.length - (j + 1) < l.length - j; omega, ?_⟩
    dsimp only
    rw [hnx]
    exact sgoT
  obtain rfl : j = l.length := by simp at g3; omega
  refine sq29 ?_
  rw [show vs ++ uB l.length ++ (l.take l.length).flatMap pt = vs ++ vecB l pt by rw [List.take_length, List.append_assoc]; rfl]
  apply aend; exact resT
  · exact ⟨q1, rfl, rfl⟩
  · exact stleT
theorem nvec_li {f : FuncId} {pt : Li → List Nat} {ok : Li → Prop} {c B : Nat} (hf : Puts Tryz.prog 5 f (fun x => .agg (encLi x)) pt ok c B) (hB : B ≤ 50000000) (l : List Li) (hok : ∀ x ∈ l, ok x) (hl : l.length ≤ 1000) (hb : 10 + l.length * c ≤ B) :
    SCall Tryz.prog 205 [.ro 0 [] .nil, .ro 3 (l.map encLi) .any, .fn (.func f) [] []] [] (fun y σ => ∃ r, y = .own r 0 (vecB l pt).length ∧ σ = [(r, .arr 5 1 ((vecB l pt).map encU))]) :=
  scall_nil (e := 5) (sz := 1) (by decide) fun q _ => vec_li hf hB q [] l hok hl (by simpa using hb)
theorem vec_gl {f : FuncId} {pt : Gl → List Nat} {ok : Gl → Prop} {c B : Nat} (hf : Puts Tryz.prog 5 f (fun x => .agg (encGl x)) pt ok c B) (hB : B ≤ 50000000) (q : Nat) (vs : List Nat) (l : List Gl) (hok : ∀ x ∈ l, ok x) (hl : l.length ≤ 1000) (hb : vs.length + 10 + l.length * c ≤ B) :
    SCall Tryz.prog 206 [.own q 0 vs.length, .ro 3 (l.map encGl) .any, .fn (.func f) [] []] [(q, .arr 5 1 (vs.map encU))] (fun y σ => ∃ r, y = .own r 0 (vs ++ vecB l pt).length ∧ σ = [(r, .arr 5 1 ((vs ++ vecB l pt).map encU))]) := by
  have hu := uB_len 1 l.length (by omega)
  have hup := uB_pos l.length
  have hpc := flat_le hf (by omega) hok
  refine scall_of (n := 25) (ks := [0, 1, 2, 6, 8, 13, 14, 15, 16]) Tryz.func206 rfl rfl (Nat.le_of_ble_eq_true rfl) ?_
  refine sq52 ?_
  refine z14 ?_
  refine cw [(q, .arr 5 1 (vs.map encU))] Tryz.call137 (wasm_num q vs (by omega) l.length (by omega)) rfl argsleT stleT ?_
  rintro _ σ' ⟨r12, rfl, rfl⟩ h12
  have k12 := rest1T h12; repeat rcases k12 with ⟨_, k12⟩
  apply rs_sto; exact nflT
  refine sq84 ?_
  refine sq9 ?_
  refine lp (β := Nat × Nat) (fun b => ⟨[(0, .own b.1 0 (vs ++ uB l.length ++ (l.take b.2).flatMap pt).length), (2, .fn (.func f) [] []), (13, .ro 3 (l.map encGl) .any), (14, .int .i64 l.length), (15, .int .i64 b.2)], [(b.1, .arr 5 1 ((vs ++ uB l.length ++ (l.take b.2).flatMap pt).map encU))]⟩) (fun b => b.2 ≤ l.length) (fun b => l.length - b.2) (r12, 0) (by dsimp only; rw [show vs ++ uB l.length ++ (l.take 0).flatMap pt = vs ++ uB l.length by simp]; (exact sgoT)) (Nat.zero_le _) ?_
  rintro ⟨q1, j⟩ hj
  have hpj := hpc j
  have hsl : (vs ++ uB l.length ++ (l.take j).flatMap pt).length = vs.length + (uB l.length).length + ((l.take j).flatMap pt).length := by simp [Nat.add_assoc]
  dsimp only at hj ⊢
  refine sq40 ?_
  refine sw_cond rfl (fun g3 => ?_) (fun g3 => ?_)
  · have hlt : j < l.length := by simp at g3; omega
    obtain ⟨x, hx⟩ : ∃ x, l[j]? = some x := ⟨_, List.getElem?_eq_getElem hlt⟩
    have hnx : vs ++ uB l.length ++ (l.take (j + 1)).flatMap pt = vs ++ uB l.length ++ (l.take j).flatMap pt ++ pt x := by rw [List.take_add_one, hx, List.flatMap_append]; simp
    refine sq3 ?_
    refine sq59 ?_
    apply al; rfl; (exact zcT); refine freshT fun r8 h8 => ?_; repeat rcases h8 with ⟨_, h8⟩
    apply stp; rfl; rfl; rfl; rfl; (exact sputT)
    refine sq49 ?_
    refine z99 ?_
    refine cf_ [(q1, .arr 5 1 ((vs ++ uB l.length ++ (l.take j).flatMap pt).map encU))] rfl hf.1 (hf.2 q1 _ x (hok x (List.mem_of_getElem? hx)) (by omega) (by omega)).2 rfl argsleT stleT ?_
    rintro _ σ' ⟨r22, rfl, rfl⟩ h22
    have k22 := rest1T h22; repeat rcases k22 with ⟨_, k22⟩
    apply rs_sto; exact nflT
    refine sq78 ?_
    refine ⟨(r22, j + 1), hlt, by show l.length - (j + 1) < l.length - j; omega, ?_⟩
    dsimp only
    rw [hnx]
    exact sgoT
  obtain rfl : j = l.length := by simp at g3; omega
  refine sq29 ?_
  rw [show vs ++ uB l.length ++ (l.take l.length).flatMap pt = vs ++ vecB l pt by rw [List.take_length, List.append_assoc]; rfl]
  apply aend; exact resT
  · exact ⟨q1, rfl, rfl⟩
  · exact stleT
theorem nvec_gl {f : FuncId} {pt : Gl → List Nat} {ok : Gl → Prop} {c B : Nat} (hf : Puts Tryz.prog 5 f (fun x => .agg (encGl x)) pt ok c B) (hB : B ≤ 50000000) (l : List Gl) (hok : ∀ x ∈ l, ok x) (hl : l.length ≤ 1000) (hb : 10 + l.length * c ≤ B) :
    SCall Tryz.prog 206 [.ro 0 [] .nil, .ro 3 (l.map encGl) .any, .fn (.func f) [] []] [] (fun y σ => ∃ r, y = .own r 0 (vecB l pt).length ∧ σ = [(r, .arr 5 1 ((vecB l pt).map encU))]) :=
  scall_nil (e := 5) (sz := 1) (by decide) fun q _ => vec_gl hf hB q [] l hok hl (by simpa using hb)
theorem vec_ex {f : FuncId} {pt : Ex → List Nat} {ok : Ex → Prop} {c B : Nat} (hf : Puts Tryz.prog 5 f (fun x => .agg (encEx x)) pt ok c B) (hB : B ≤ 50000000) (q : Nat) (vs : List Nat) (l : List Ex) (hok : ∀ x ∈ l, ok x) (hl : l.length ≤ 1000) (hb : vs.length + 10 + l.length * c ≤ B) :
    SCall Tryz.prog 208 [.own q 0 vs.length, .ro 2 (l.map encEx) .any, .fn (.func f) [] []] [(q, .arr 5 1 (vs.map encU))] (fun y σ => ∃ r, y = .own r 0 (vs ++ vecB l pt).length ∧ σ = [(r, .arr 5 1 ((vs ++ vecB l pt).map encU))]) := by
  have hu := uB_len 1 l.length (by omega)
  have hup := uB_pos l.length
  have hpc := flat_le hf (by omega) hok
  refine scall_of (n := 25) (ks := [0, 1, 2, 6, 8, 13, 14, 15, 16]) Tryz.func208 rfl rfl (Nat.le_of_ble_eq_true rfl) ?_
  refine sq52 ?_
  refine z14 ?_
  refine cw [(q, .arr 5 1 (vs.map encU))] Tryz.call137 (wasm_num q vs (by omega) l.length (by omega)) rfl argsleT stleT ?_
  rintro _ σ' ⟨r12, rfl, rfl⟩ h12
  have k12 := rest1T h12; repeat rcases k12 with ⟨_, k12⟩
  apply rs_sto; exact nflT
  refine sq84 ?_
  refine sq9 ?_
  refine lp (β := Nat × Nat) (fun b => ⟨[(0, .own b.1 0 (vs ++ uB l.length ++ (l.take b.2).flatMap pt).length), (2, .fn (.func f) [] []), (13, .ro 2 (l.map encEx) .any), (14, .int .i64 l.length), (15, .int .i64 b.2)], [(b.1, .arr 5 1 ((vs ++ uB l.length ++ (l.take b.2).flatMap pt).map encU))]⟩) (fun b => b.2 ≤ l.length) (fun b => l.length - b.2) (r12, 0) (by dsimp only; rw [show vs ++ uB l.length ++ (l.take 0).flatMap pt = vs ++ uB l.length by simp]; (exact sgoT)) (Nat.zero_le _) ?_
  rintro ⟨q1, j⟩ hj
  have hpj := hpc j
  have hsl : (vs ++ uB l.length ++ (l.take j).flatMap pt).length = vs.length + (uB l.length).length + ((l.take j).flatMap pt).length := by simp [Nat.add_assoc]
  dsimp only at hj ⊢
  refine sq40 ?_
  refine sw_cond rfl (fun g3 => ?_) (fun g3 => ?_)
  · have hlt : j < l.length := by simp at g3; omega
    obtain ⟨x, hx⟩ : ∃ x, l[j]? = some x := ⟨_, List.getElem?_eq_getElem hlt⟩
    have hnx : vs ++ uB l.length ++ (l.take (j + 1)).flatMap pt = vs ++ uB l.length ++ (l.take j).flatMap pt ++ pt x := by rw [List.take_add_one, hx, List.flatMap_append]; simp
    refine sq3 ?_
    refine sq59 ?_
    apply al; rfl; (exact zcT); refine freshT fun r8 h8 => ?_; repeat rcases h8 with ⟨_, h8⟩
    apply stp; rfl; rfl; rfl; rfl; (exact sputT)
    refine sq49 ?_
    refine z99 ?_
    refine cf_ [(q1, .arr 5 1 ((vs ++ uB l.length ++ (l.take j).flatMap pt).map encU))] rfl hf.1 (hf.2 q1 _ x (hok x (List.mem_of_getElem? hx)) (by omega) (by omega)).2 rfl argsleT stleT ?_
    rintro _ σ' ⟨r22, rfl, rfl⟩ h22
    have k22 := rest1T h22; repeat rcases k22 with ⟨_, k22⟩
    apply rs_sto; exact nflT
    refine sq78 ?_
    refine ⟨(r22, j + 1), hlt, by show l.length - (j + 1) < l.length - j; omega, ?_⟩
    dsimp only
    rw [hnx]
    exact sgoT
  obtain rfl : j = l.length := by simp at g3; omega
  refine sq29 ?_
  rw [show vs ++ uB l.length ++ (l.take l.length).flatMap pt = vs ++ vecB l pt by rw [List.take_length, List.append_assoc]; rfl]
  apply aend; exact resT
  · exact ⟨q1, rfl, rfl⟩
  · exact stleT
theorem nvec_ex {f : FuncId} {pt : Ex → List Nat} {ok : Ex → Prop} {c B : Nat} (hf : Puts Tryz.prog 5 f (fun x => .agg (encEx x)) pt ok c B) (hB : B ≤ 50000000) (l : List Ex) (hok : ∀ x ∈ l, ok x) (hl : l.length ≤ 1000) (hb : 10 + l.length * c ≤ B) :
    SCall Tryz.prog 208 [.ro 0 [] .nil, .ro 2 (l.map encEx) .any, .fn (.func f) [] []] [] (fun y σ => ∃ r, y = .own r 0 (vecB l pt).length ∧ σ = [(r, .arr 5 1 ((vecB l pt).map encU))]) :=
  scall_nil (e := 5) (sz := 1) (by decide) fun q _ => vec_ex hf hB q [] l hok hl (by simpa using hb)
theorem vec_el {f : FuncId} {pt : El → List Nat} {ok : El → Prop} {c B : Nat} (hf : Puts Tryz.prog 5 f (fun x => .agg (encEl x)) pt ok c B) (hB : B ≤ 50000000) (q : Nat) (vs : List Nat) (l : List El) (hok : ∀ x ∈ l, ok x) (hl : l.length ≤ 1000) (hb : vs.length + 10 + l.length * c ≤ B) :
    SCall Tryz.prog 209 [.own q 0 vs.length, .ro 2 (l.map encEl) .any, .fn (.func f) [] []] [(q, .arr 5 1 (vs.map encU))] (fun y σ => ∃ r, y = .own r 0 (vs ++ vecB l pt).length ∧ σ = [(r, .arr 5 1 ((vs ++ vecB l pt).map encU))]) := by
  have hu := uB_len 1 l.length (by omega)
  have hup := uB_pos l.length
  have hpc := flat_le hf (by omega) hok
  refine scall_of (n := 25) (ks := [0, 1, 2, 6, 8, 13, 14, 15, 16]) Tryz.func209 rfl rfl (Nat.le_of_ble_eq_true rfl) ?_
  refine sq52 ?_
  refine z14 ?_
  refine cw [(q, .arr 5 1 (vs.map encU))] Tryz.call137 (wasm_num q vs (by omega) l.length (by omega)) rfl argsleT stleT ?_
  rintro _ σ' ⟨r12, rfl, rfl⟩ h12
  have k12 := rest1T h12; repeat rcases k12 with ⟨_, k12⟩
  apply rs_sto; exact nflT
  refine sq84 ?_
  refine sq9 ?_
  refine lp (β := Nat × Nat) (fun b => ⟨[(0, .own b.1 0 (vs ++ uB l.length ++ (l.take b.2).flatMap pt).length), (2, .fn (.func f) [] []), (13, .ro 2 (l.map encEl) .any), (14, .int .i64 l.length), (15, .int .i64 b.2)], [(b.1, .arr 5 1 ((vs ++ uB l.length ++ (l.take b.2).flatMap pt).map encU))]⟩) (fun b => b.2 ≤ l.length) (fun b => l.length - b.2) (r12, 0) (by dsimp only; rw [show vs ++ uB l.length ++ (l.take 0).flatMap pt = vs ++ uB l.length by simp]; (exact sgoT)) (Nat.zero_le _) ?_
  rintro ⟨q1, j⟩ hj
  have hpj := hpc j
  have hsl : (vs ++ uB l.length ++ (l.take j).flatMap pt).length = vs.length + (uB l.length).length + ((l.take j).flatMap pt).length := by simp [Nat.add_assoc]
  dsimp only at hj ⊢
  refine sq40 ?_
  refine sw_cond rfl (fun g3 => ?_) (fun g3 => ?_)
  · have hlt : j < l.length := by simp at g3; omega
    obtain ⟨x, hx⟩ : ∃ x, l[j]? = some x := ⟨_, List.getElem?_eq_getElem hlt⟩
    have hnx : vs ++ uB l.length ++ (l.take (j + 1)).flatMap pt = vs ++ uB l.length ++ (l.take j).flatMap pt ++ pt x := by rw [List.take_add_one, hx, List.flatMap_append]; simp
    refine sq3 ?_
    refine sq59 ?_
    apply al; rfl; (exact zcT); refine freshT fun r8 h8 => ?_; repeat rcases h8 with ⟨_, h8⟩
    apply stp; rfl; rfl; rfl; rfl; (exact sputT)
    refine sq49 ?_
    refine z99 ?_
    refine cf_ [(q1, .arr 5 1 ((vs ++ uB l.length ++ (l.take j).flatMap pt).map encU))] rfl hf.1 (hf.2 q1 _ x (hok x (List.mem_of_getElem? hx)) (by omega) (by omega)).2 rfl argsleT stleT ?_
    rintro _ σ' ⟨r22, rfl, rfl⟩ h22
    have k22 := rest1T h22; repeat rcases k22 with ⟨_, k22⟩
    apply rs_sto; exact nflT
    refine sq78 ?_
    refine ⟨(r22, j + 1), hlt, by show l.length - (j + 1) < l.length - j; omega, ?_⟩
    dsimp only
    rw [hnx]
    exact sgoT
  obtain rfl : j = l.length := by simp at g3; omega
  refine sq29 ?_
  rw [show vs ++ uB l.length ++ (l.take l.length).flatMap pt = vs ++ vecB l pt by rw [List.take_length, List.append_assoc]; rfl]
  apply aend; exact resT
  · exact ⟨q1, rfl, rfl⟩
  · exact stleT
theorem nvec_el {f : FuncId} {pt : El → List Nat} {ok : El → Prop} {c B : Nat} (hf : Puts Tryz.prog 5 f (fun x => .agg (encEl x)) pt ok c B) (hB : B ≤ 50000000) (l : List El) (hok : ∀ x ∈ l, ok x) (hl : l.length ≤ 1000) (hb : 10 + l.length * c ≤ B) :
    SCall Tryz.prog 209 [.ro 0 [] .nil, .ro 2 (l.map encEl) .any, .fn (.func f) [] []] [] (fun y σ => ∃ r, y = .own r 0 (vecB l pt).length ∧ σ = [(r, .arr 5 1 ((vecB l pt).map encU))]) :=
  scall_nil (e := 5) (sz := 1) (by decide) fun q _ => vec_el hf hB q [] l hok hl (by simpa using hb)
theorem vec_co {f : FuncId} {pt : Co → List Nat} {ok : Co → Prop} {c B : Nat} (hf : Puts Tryz.prog 5 f (fun x => .agg (encCo x)) pt ok c B) (hB : B ≤ 50000000) (q : Nat) (vs : List Nat) (l : List Co) (hok : ∀ x ∈ l, ok x) (hl : l.length ≤ 1000) (hb : vs.length + 10 + l.length * c ≤ B) :
    SCall Tryz.prog 210 [.own q 0 vs.length, .ro 2 (l.map encCo) .any, .fn (.func f) [] []] [(q, .arr 5 1 (vs.map encU))] (fun y σ => ∃ r, y = .own r 0 (vs ++ vecB l pt).length ∧ σ = [(r, .arr 5 1 ((vs ++ vecB l pt).map encU))]) := by
  have hu := uB_len 1 l.length (by omega)
  have hup := uB_pos l.length
  have hpc := flat_le hf (by omega) hok
  refine scall_of (n := 25) (ks := [0, 1, 2, 6, 8, 13, 14, 15, 16]) Tryz.func210 rfl rfl (Nat.le_of_ble_eq_true rfl) ?_
  refine sq52 ?_
  refine z14 ?_
  refine cw [(q, .arr 5 1 (vs.map encU))] Tryz.call137 (wasm_num q vs (by omega) l.length (by omega)) rfl argsleT stleT ?_
  rintro _ σ' ⟨r12, rfl, rfl⟩ h12
  have k12 := rest1T h12; repeat rcases k12 with ⟨_, k12⟩
  apply rs_sto; exact nflT
  refine sq84 ?_
  refine sq9 ?_
  refine lp (β := Nat × Nat) (fun b => ⟨[(0, .own b.1 0 (vs ++ uB l.length ++ (l.take b.2).flatMap pt).length), (2, .fn (.func f) [] []), (13, .ro 2 (l.map encCo) .any), (14, .int .i64 l.length), (15, .int .i64 b.2)], [(b.1, .arr 5 1 ((vs ++ uB l.length ++ (l.take b.2).flatMap pt).map encU))]⟩) (fun b => b.2 ≤ l.length) (fun b => l.length - b.2) (r12, 0) (by dsimp only; rw [show vs ++ uB l.length ++ (l.take 0).flatMap pt = vs ++ uB l.length by simp]; (exact sgoT)) (Nat.zero_le _) ?_
  rintro ⟨q1, j⟩ hj
  have hpj := hpc j
  have hsl : (vs ++ uB l.length ++ (l.take j).flatMap pt).length = vs.length + (uB l.length).length + ((l.take j).flatMap pt).length := by simp [Nat.add_assoc]
  dsimp only at hj ⊢
  refine sq40 ?_
  refine sw_cond rfl (fun g3 => ?_) (fun g3 => ?_)
  · have hlt : j < l.length := by simp at g3; omega
    obtain ⟨x, hx⟩ : ∃ x, l[j]? = some x := ⟨_, List.getElem?_eq_getElem hlt⟩
    have hnx : vs ++ uB l.length ++ (l.take (j + 1)).flatMap pt = vs ++ uB l.length ++ (l.take j).flatMap pt ++ pt x := by rw [List.take_add_one, hx, List.flatMap_append]; simp
    refine sq3 ?_
    refine sq59 ?_
    apply al; rfl; (exact zcT); refine freshT fun r8 h8 => ?_; repeat rcases h8 with ⟨_, h8⟩
    apply stp; rfl; rfl; rfl; rfl; (exact sputT)
    refine sq49 ?_
    refine z99 ?_
    refine cf_ [(q1, .arr 5 1 ((vs ++ uB l.length ++ (l.take j).flatMap pt).map encU))] rfl hf.1 (hf.2 q1 _ x (hok x (List.mem_of_getElem? hx)) (by omega) (by omega)).2 rfl argsleT stleT ?_
    rintro _ σ' ⟨r22, rfl, rfl⟩ h22
    have k22 := rest1T h22; repeat rcases k22 with ⟨_, k22⟩
    apply rs_sto; exact nflT
    refine sq78 ?_
    refine ⟨(r22, j + 1), hlt, by show l.length - (j + 1) < l.length - j; omega, ?_⟩
    dsimp only
    rw [hnx]
    exact sgoT
  obtain rfl : j = l.length := by simp at g3; omega
  refine sq29 ?_
  rw [show vs ++ uB l.length ++ (l.take l.length).flatMap pt = vs ++ vecB l pt by rw [List.take_length, List.append_assoc]; rfl]
  apply aend; exact resT
  · exact ⟨q1, rfl, rfl⟩
  · exact stleT
theorem nvec_co {f : FuncId} {pt : Co → List Nat} {ok : Co → Prop} {c B : Nat} (hf : Puts Tryz.prog 5 f (fun x => .agg (encCo x)) pt ok c B) (hB : B ≤ 50000000) (l : List Co) (hok : ∀ x ∈ l, ok x) (hl : l.length ≤ 1000) (hb : 10 + l.length * c ≤ B) :
    SCall Tryz.prog 210 [.ro 0 [] .nil, .ro 2 (l.map encCo) .any, .fn (.func f) [] []] [] (fun y σ => ∃ r, y = .own r 0 (vecB l pt).length ∧ σ = [(r, .arr 5 1 ((vecB l pt).map encU))]) :=
  scall_nil (e := 5) (sz := 1) (by decide) fun q _ => vec_co hf hB q [] l hok hl (by simpa using hb)
theorem vec_da {f : FuncId} {pt : Da → List Nat} {ok : Da → Prop} {c B : Nat} (hf : Puts Tryz.prog 5 f (fun x => .agg (encDa x)) pt ok c B) (hB : B ≤ 50000000) (q : Nat) (vs : List Nat) (l : List Da) (hok : ∀ x ∈ l, ok x) (hl : l.length ≤ 1000) (hb : vs.length + 10 + l.length * c ≤ B) :
    SCall Tryz.prog 214 [.own q 0 vs.length, .ro 2 (l.map encDa) .any, .fn (.func f) [] []] [(q, .arr 5 1 (vs.map encU))] (fun y σ => ∃ r, y = .own r 0 (vs ++ vecB l pt).length ∧ σ = [(r, .arr 5 1 ((vs ++ vecB l pt).map encU))]) := by
  have hu := uB_len 1 l.length (by omega)
  have hup := uB_pos l.length
  have hpc := flat_le hf (by omega) hok
  refine scall_of (n := 25) (ks := [0, 1, 2, 6, 8, 13, 14, 15, 16]) Tryz.func214 rfl rfl (Nat.le_of_ble_eq_true rfl) ?_
  refine sq52 ?_
  refine z14 ?_
  refine cw [(q, .arr 5 1 (vs.map encU))] Tryz.call137 (wasm_num q vs (by omega) l.length (by omega)) rfl argsleT stleT ?_
  rintro _ σ' ⟨r12, rfl, rfl⟩ h12
  have k12 := rest1T h12; repeat rcases k12 with ⟨_, k12⟩
  apply rs_sto; exact nflT
  refine sq84 ?_
  refine sq9 ?_
  refine lp (β := Nat × Nat) (fun b => ⟨[(0, .own b.1 0 (vs ++ uB l.length ++ (l.take b.2).flatMap pt).length), (2, .fn (.func f) [] []), (13, .ro 2 (l.map encDa) .any), (14, .int .i64 l.length), (15, .int .i64 b.2)], [(b.1, .arr 5 1 ((vs ++ uB l.length ++ (l.take b.2).flatMap pt).map encU))]⟩) (fun b => b.2 ≤ l.length) (fun b => l.length - b.2) (r12, 0) (by dsimp only; rw [show vs ++ uB l.length ++ (l.take 0).flatMap pt = vs ++ uB l.length by simp]; (exact sgoT)) (Nat.zero_le _) ?_
  rintro ⟨q1, j⟩ hj
  have hpj := hpc j
  have hsl : (vs ++ uB l.length ++ (l.take j).flatMap pt).length = vs.length + (uB l.length).length + ((l.take j).flatMap pt).length := by simp [Nat.add_assoc]
  dsimp only at hj ⊢
  refine sq40 ?_
  refine sw_cond rfl (fun g3 => ?_) (fun g3 => ?_)
  · have hlt : j < l.length := by simp at g3; omega
    obtain ⟨x, hx⟩ : ∃ x, l[j]? = some x := ⟨_, List.getElem?_eq_getElem hlt⟩
    have hnx : vs ++ uB l.length ++ (l.take (j + 1)).flatMap pt = vs ++ uB l.length ++ (l.take j).flatMap pt ++ pt x := by rw [List.take_add_one, hx, List.flatMap_append]; simp
    refine sq3 ?_
    refine sq59 ?_
    apply al; rfl; (exact zcT); refine freshT fun r8 h8 => ?_; repeat rcases h8 with ⟨_, h8⟩
    apply stp; rfl; rfl; rfl; rfl; (exact sputT)
    refine sq49 ?_
    refine z99 ?_
    refine cf_ [(q1, .arr 5 1 ((vs ++ uB l.length ++ (l.take j).flatMap pt).map encU))] rfl hf.1 (hf.2 q1 _ x (hok x (List.mem_of_getElem? hx)) (by omega) (by omega)).2 rfl argsleT stleT ?_
    rintro _ σ' ⟨r22, rfl, rfl⟩ h22
    have k22 := rest1T h22; repeat rcases k22 with ⟨_, k22⟩
    apply rs_sto; exact nflT
    refine sq78 ?_
    refine ⟨(r22, j + 1), hlt, by show l.length - (j + 1) < l.length - j; omega, ?_⟩
    dsimp only
    rw [hnx]
    exact sgoT
  obtain rfl : j = l.length := by simp at g3; omega
  refine sq29 ?_
  rw [show vs ++ uB l.length ++ (l.take l.length).flatMap pt = vs ++ vecB l pt by rw [List.take_length, List.append_assoc]; rfl]
  apply aend; exact resT
  · exact ⟨q1, rfl, rfl⟩
  · exact stleT
theorem nvec_da {f : FuncId} {pt : Da → List Nat} {ok : Da → Prop} {c B : Nat} (hf : Puts Tryz.prog 5 f (fun x => .agg (encDa x)) pt ok c B) (hB : B ≤ 50000000) (l : List Da) (hok : ∀ x ∈ l, ok x) (hl : l.length ≤ 1000) (hb : 10 + l.length * c ≤ B) :
    SCall Tryz.prog 214 [.ro 0 [] .nil, .ro 2 (l.map encDa) .any, .fn (.func f) [] []] [] (fun y σ => ∃ r, y = .own r 0 (vecB l pt).length ∧ σ = [(r, .arr 5 1 ((vecB l pt).map encU))]) :=
  scall_nil (e := 5) (sz := 1) (by decide) fun q _ => vec_da hf hB q [] l hok hl (by simpa using hb)
theorem sec_ft {f : FuncId} {pt : FT → List Nat} {ok : FT → Prop} {c B : Nat} (hf : Puts Tryz.prog 5 f (fun x => .agg (encFT x)) pt ok c B) (hB : B ≤ 50000000) (q : Nat) (vs : List Nat) (no : Nat) (hno : no < 256) (l : List FT) (hok : ∀ x ∈ l, ok x) (hl : l.length ≤ 1000) (hvs : vs.length ≤ 10000000) (hb : 10 + l.length * c ≤ B) :
    SCall Tryz.prog 131 [.own q 0 vs.length, .int .i64 no, .ro 2 (l.map encFT) .any, .fn (.func f) [] []] [(q, .arr 5 1 (vs.map encU))] (fun y σ => ∃ r, y = .own r 0 (vs ++ secB no l pt).length ∧ σ = [(r, .arr 5 1 ((vs ++ secB no l pt).map encU))]) := by
  have hu := uB_len 1 l.length (by omega)
  have hup := uB_pos l.length
  have hpc := flat_le hf (by omega) hok l.length
  rw [List.take_length] at hpc
  have hvl : (vecB l pt).length ≤ 50000000 := by unfold vecB; simp only [List.length_append]; omega
  have hub := uB_len 4 (vecB l pt).length (by omega)
  refine scall_of (n := 27) (ks := [0, 1, 2, 3, 8, 9, 12]) Tryz.func131 rfl rfl (Nat.le_of_ble_eq_true rfl) ?_
  refine sq46 ?_
  refine sq34 ?_
  refine sw_cond rfl (fun g1 => ?_) (fun g1 => ?_)
  · obtain rfl : l = [] := by cases l with | nil => rfl | cons x t => simp at g1; omega
    refine sq29 ?_
    rw [show vs ++ secB no ([] : List FT) pt = vs by simp [secB]]
    apply aend; exact resT
    · exact ⟨q, rfl, rfl⟩
    · exact stleT
  have hs : secB no l pt = [no] ++ uB (vecB l pt).length ++ vecB l pt := by unfold secB; rw [if_neg (by intro e; rw [List.isEmpty_iff.1 e] at g1; simp at g1)]; simp
  rw [hs]
  refine sq18 ?_
  refine cw [] Tryz.call202 (nvec_ft hf hB l hok hl hb) rfl argsleT stleT ?_
  rintro _ σ' ⟨r16, rfl, rfl⟩ h16
  replace h16 := cnewT h16; repeat rcases h16 with ⟨_, h16⟩
  apply rs_sto; exact nflT
  refine sq2 ?_
  generalize vecB l pt = P at hvl hub ⊢
  refine sq5 ?_
  refine z0 ?_
  refine z1 ?_; refine freshT fun r20 h20 => ?_; repeat rcases h20 with ⟨_, h20⟩
  refine apA ((vs ++ [no]).map encU) (vs ++ [no]).length ?_
  refine apnT fun r21 h21 => ?_; repeat rcases h21 with ⟨_, h21⟩
  refine sq35 ?_
  refine cw [(r21, .arr 5 1 ((vs ++ [no]).map encU))] Tryz.call137 (wasm_num r21 (vs ++ [no]) (by simp; omega) P.length (by omega)) rfl argsleT stleT ?_
  rintro _ σ' ⟨r24, rfl, rfl⟩ h24
  have k24 := rest1T h24; repeat rcases k24 with ⟨_, k24⟩
  apply rs_sto; exact nflT
  refine lo (lop_move (E rfl)) rfl ?_
  refine apA ((vs ++ [no] ++ uB P.length ++ P).map encU) (vs ++ [no] ++ uB P.length ++ P).length ?_
  refine apnT fun r26 h26 => ?_; repeat rcases h26 with ⟨_, h26⟩
  refine sq2 ?_
  rw [show vs ++ [no] ++ uB P.length ++ P = vs ++ ([no] ++ uB P.length ++ P) by simp]
  apply aend; exact resT
  · exact ⟨r26, rfl, rfl⟩
  · exact stleT
theorem sec_int {f : FuncId} {pt : Int → List Nat} {ok : Int → Prop} {c B : Nat} (hf : Puts Tryz.prog 5 f (fun n => .int .i64 n) pt ok c B) (hB : B ≤ 50000000) (q : Nat) (vs : List Nat) (no : Nat) (hno : no < 256) (l : List Int) (hok : ∀ x ∈ l, ok x) (hl : l.length ≤ 1000) (hvs : vs.length ≤ 10000000) (hb : 10 + l.length * c ≤ B) :
    SCall Tryz.prog 139 [.own q 0 vs.length, .int .i64 no, .ro 1 (l.map encI) .any, .fn (.func f) [] []] [(q, .arr 5 1 (vs.map encU))] (fun y σ => ∃ r, y = .own r 0 (vs ++ secB no l pt).length ∧ σ = [(r, .arr 5 1 ((vs ++ secB no l pt).map encU))]) := by
  have hu := uB_len 1 l.length (by omega)
  have hup := uB_pos l.length
  have hpc := flat_le hf (by omega) hok l.length
  rw [List.take_length] at hpc
  have hvl : (vecB l pt).length ≤ 50000000 := by unfold vecB; simp only [List.length_append]; omega
  have hub := uB_len 4 (vecB l pt).length (by omega)
  refine scall_of (n := 27) (ks := [0, 1, 2, 3, 8, 9, 12]) Tryz.func139 rfl rfl (Nat.le_of_ble_eq_true rfl) ?_
  refine sq46 ?_
  refine sq34 ?_
  refine sw_cond rfl (fun g1 => ?_) (fun g1 => ?_)
  · obtain rfl : l = [] := by cases l with | nil => rfl | cons x t => simp at g1; omega
    refine sq29 ?_
    rw [show vs ++ secB no ([] : List Int) pt = vs by simp [secB]]
    apply aend; exact resT
    · exact ⟨q, rfl, rfl⟩
    · exact stleT
  have hs : secB no l pt = [no] ++ uB (vecB l pt).length ++ vecB l pt := by unfold secB; rw [if_neg (by intro e; rw [List.isEmpty_iff.1 e] at g1; simp at g1)]; simp
  rw [hs]
  refine sq18 ?_
  refine cw [] Tryz.call133 (nvec_int hf hB l hok hl hb) rfl argsleT stleT ?_
  rintro _ σ' ⟨r16, rfl, rfl⟩ h16
  replace h16 := cnewT h16; repeat rcases h16 with ⟨_, h16⟩
  apply rs_sto; exact nflT
  refine sq2 ?_
  generalize vecB l pt = P at hvl hub ⊢
  refine sq5 ?_
  refine z0 ?_
  refine z1 ?_; refine freshT fun r20 h20 => ?_; repeat rcases h20 with ⟨_, h20⟩
  refine apA ((vs ++ [no]).map encU) (vs ++ [no]).length ?_
  refine apnT fun r21 h21 => ?_; repeat rcases h21 with ⟨_, h21⟩
  refine sq35 ?_
  refine cw [(r21, .arr 5 1 ((vs ++ [no]).map encU))] Tryz.call137 (wasm_num r21 (vs ++ [no]) (by simp; omega) P.length (by omega)) rfl argsleT stleT ?_
  rintro _ σ' ⟨r24, rfl, rfl⟩ h24
  have k24 := rest1T h24; repeat rcases k24 with ⟨_, k24⟩
  apply rs_sto; exact nflT
  refine lo (lop_move (E rfl)) rfl ?_
  refine apA ((vs ++ [no] ++ uB P.length ++ P).map encU) (vs ++ [no] ++ uB P.length ++ P).length ?_
  refine apnT fun r26 h26 => ?_; repeat rcases h26 with ⟨_, h26⟩
  refine sq2 ?_
  rw [show vs ++ [no] ++ uB P.length ++ P = vs ++ ([no] ++ uB P.length ++ P) by simp]
  apply aend; exact resT
  · exact ⟨r26, rfl, rfl⟩
  · exact stleT
theorem sec_im {f : FuncId} {pt : Im → List Nat} {ok : Im → Prop} {c B : Nat} (hf : Puts Tryz.prog 5 f (fun x => .agg (encIm x)) pt ok c B) (hB : B ≤ 50000000) (q : Nat) (vs : List Nat) (no : Nat) (hno : no < 256) (l : List Im) (hok : ∀ x ∈ l, ok x) (hl : l.length ≤ 1000) (hvs : vs.length ≤ 10000000) (hb : 10 + l.length * c ≤ B) :
    SCall Tryz.prog 135 [.own q 0 vs.length, .int .i64 no, .ro 3 (l.map encIm) .any, .fn (.func f) [] []] [(q, .arr 5 1 (vs.map encU))] (fun y σ => ∃ r, y = .own r 0 (vs ++ secB no l pt).length ∧ σ = [(r, .arr 5 1 ((vs ++ secB no l pt).map encU))]) := by
  have hu := uB_len 1 l.length (by omega)
  have hup := uB_pos l.length
  have hpc := flat_le hf (by omega) hok l.length
  rw [List.take_length] at hpc
  have hvl : (vecB l pt).length ≤ 50000000 := by unfold vecB; simp only [List.length_append]; omega
  have hub := uB_len 4 (vecB l pt).length (by omega)
  refine scall_of (n := 27) (ks := [0, 1, 2, 3, 8, 9, 12]) Tryz.func135 rfl rfl (Nat.le_of_ble_eq_true rfl) ?_
  refine sq46 ?_
  refine sq34 ?_
  refine sw_cond rfl (fun g1 => ?_) (fun g1 => ?_)
  · obtain rfl : l = [] := by cases l with | nil => rfl | cons x t => simp at g1; omega
    refine sq29 ?_
    rw [show vs ++ secB no ([] : List Im) pt = vs by simp [secB]]
    apply aend; exact resT
    · exact ⟨q, rfl, rfl⟩
    · exact stleT
  have hs : secB no l pt = [no] ++ uB (vecB l pt).length ++ vecB l pt := by unfold secB; rw [if_neg (by intro e; rw [List.isEmpty_iff.1 e] at g1; simp at g1)]; simp
  rw [hs]
  refine sq18 ?_
  refine cw [] Tryz.call203 (nvec_im hf hB l hok hl hb) rfl argsleT stleT ?_
  rintro _ σ' ⟨r16, rfl, rfl⟩ h16
  replace h16 := cnewT h16; repeat rcases h16 with ⟨_, h16⟩
  apply rs_sto; exact nflT
  refine sq2 ?_
  generalize vecB l pt = P at hvl hub ⊢
  refine sq5 ?_
  refine z0 ?_
  refine z1 ?_; refine freshT fun r20 h20 => ?_; repeat rcases h20 with ⟨_, h20⟩
  refine apA ((vs ++ [no]).map encU) (vs ++ [no]).length ?_
  refine apnT fun r21 h21 => ?_; repeat rcases h21 with ⟨_, h21⟩
  refine sq35 ?_
  refine cw [(r21, .arr 5 1 ((vs ++ [no]).map encU))] Tryz.call137 (wasm_num r21 (vs ++ [no]) (by simp; omega) P.length (by omega)) rfl argsleT stleT ?_
  rintro _ σ' ⟨r24, rfl, rfl⟩ h24
  have k24 := rest1T h24; repeat rcases k24 with ⟨_, k24⟩
  apply rs_sto; exact nflT
  refine lo (lop_move (E rfl)) rfl ?_
  refine apA ((vs ++ [no] ++ uB P.length ++ P).map encU) (vs ++ [no] ++ uB P.length ++ P).length ?_
  refine apnT fun r26 h26 => ?_; repeat rcases h26 with ⟨_, h26⟩
  refine sq2 ?_
  rw [show vs ++ [no] ++ uB P.length ++ P = vs ++ ([no] ++ uB P.length ++ P) by simp]
  apply aend; exact resT
  · exact ⟨r26, rfl, rfl⟩
  · exact stleT
theorem sec_li {f : FuncId} {pt : Li → List Nat} {ok : Li → Prop} {c B : Nat} (hf : Puts Tryz.prog 5 f (fun x => .agg (encLi x)) pt ok c B) (hB : B ≤ 50000000) (q : Nat) (vs : List Nat) (no : Nat) (hno : no < 256) (l : List Li) (hok : ∀ x ∈ l, ok x) (hl : l.length ≤ 1000) (hvs : vs.length ≤ 10000000) (hb : 10 + l.length * c ≤ B) :
    SCall Tryz.prog 140 [.own q 0 vs.length, .int .i64 no, .ro 3 (l.map encLi) .any, .fn (.func f) [] []] [(q, .arr 5 1 (vs.map encU))] (fun y σ => ∃ r, y = .own r 0 (vs ++ secB no l pt).length ∧ σ = [(r, .arr 5 1 ((vs ++ secB no l pt).map encU))]) := by
  have hu := uB_len 1 l.length (by omega)
  have hup := uB_pos l.length
  have hpc := flat_le hf (by omega) hok l.length
  rw [List.take_length] at hpc
  have hvl : (vecB l pt).length ≤ 50000000 := by unfold vecB; simp only [List.length_append]; omega
  have hub := uB_len 4 (vecB l pt).length (by omega)
  refine scall_of (n := 27) (ks := [0, 1, 2, 3, 8, 9, 12]) Tryz.func140 rfl rfl (Nat.le_of_ble_eq_true rfl) ?_
  refine sq46 ?_
  refine sq34 ?_
  refine sw_cond rfl (fun g1 => ?_) (fun g1 => ?_)
  · obtain rfl : l = [] := by cases l with | nil => rfl | cons x t => simp at g1; omega
    refine sq29 ?_
    rw [show vs ++ secB no ([] : List Li) pt = vs by simp [secB]]
    apply aend; exact resT
    · exact ⟨q, rfl, rfl⟩
    · exact stleT
  have hs : secB no l pt = [no] ++ uB (vecB l pt).length ++ vecB l pt := by unfold secB; rw [if_neg (by intro e; rw [List.isEmpty_iff.1 e] at g1; simp at g1)]; simp
  rw [hs]
  refine sq18 ?_
  refine cw [] Tryz.call205 (nvec_li hf hB l hok hl hb) rfl argsleT stleT ?_
  rintro _ σ' ⟨r16, rfl, rfl⟩ h16
  replace h16 := cnewT h16; repeat rcases h16 with ⟨_, h16⟩
  apply rs_sto; exact nflT
  refine sq2 ?_
  generalize vecB l pt = P at hvl hub ⊢
  refine sq5 ?_
  refine z0 ?_
  refine z1 ?_; refine freshT fun r20 h20 => ?_; repeat rcases h20 with ⟨_, h20⟩
  refine apA ((vs ++ [no]).map encU) (vs ++ [no]).length ?_
  refine apnT fun r21 h21 => ?_; repeat rcases h21 with ⟨_, h21⟩
  refine sq35 ?_
  refine cw [(r21, .arr 5 1 ((vs ++ [no]).map encU))] Tryz.call137 (wasm_num r21 (vs ++ [no]) (by simp; omega) P.length (by omega)) rfl argsleT stleT ?_
  rintro _ σ' ⟨r24, rfl, rfl⟩ h24
  have k24 := rest1T h24; repeat rcases k24 with ⟨_, k24⟩
  apply rs_sto; exact nflT
  refine lo (lop_move (E rfl)) rfl ?_
  refine apA ((vs ++ [no] ++ uB P.length ++ P).map encU) (vs ++ [no] ++ uB P.length ++ P).length ?_
  refine apnT fun r26 h26 => ?_; repeat rcases h26 with ⟨_, h26⟩
  refine sq2 ?_
  rw [show vs ++ [no] ++ uB P.length ++ P = vs ++ ([no] ++ uB P.length ++ P) by simp]
  apply aend; exact resT
  · exact ⟨r26, rfl, rfl⟩
  · exact stleT
theorem sec_gl {f : FuncId} {pt : Gl → List Nat} {ok : Gl → Prop} {c B : Nat} (hf : Puts Tryz.prog 5 f (fun x => .agg (encGl x)) pt ok c B) (hB : B ≤ 50000000) (q : Nat) (vs : List Nat) (no : Nat) (hno : no < 256) (l : List Gl) (hok : ∀ x ∈ l, ok x) (hl : l.length ≤ 1000) (hvs : vs.length ≤ 10000000) (hb : 10 + l.length * c ≤ B) :
    SCall Tryz.prog 144 [.own q 0 vs.length, .int .i64 no, .ro 3 (l.map encGl) .any, .fn (.func f) [] []] [(q, .arr 5 1 (vs.map encU))] (fun y σ => ∃ r, y = .own r 0 (vs ++ secB no l pt).length ∧ σ = [(r, .arr 5 1 ((vs ++ secB no l pt).map encU))]) := by
  have hu := uB_len 1 l.length (by omega)
  have hup := uB_pos l.length
  have hpc := flat_le hf (by omega) hok l.length
  rw [List.take_length] at hpc
  have hvl : (vecB l pt).length ≤ 50000000 := by unfold vecB; simp only [List.length_append]; omega
  have hub := uB_len 4 (vecB l pt).length (by omega)
  refine scall_of (n := 27) (ks := [0, 1, 2, 3, 8, 9, 12]) Tryz.func144 rfl rfl (Nat.le_of_ble_eq_true rfl) ?_
  refine sq46 ?_
  refine sq34 ?_
  refine sw_cond rfl (fun g1 => ?_) (fun g1 => ?_)
  · obtain rfl : l = [] := by cases l with | nil => rfl | cons x t => simp at g1; omega
    refine sq29 ?_
    rw [show vs ++ secB no ([] : List Gl) pt = vs by simp [secB]]
    apply aend; exact resT
    · exact ⟨q, rfl, rfl⟩
    · exact stleT
  have hs : secB no l pt = [no] ++ uB (vecB l pt).length ++ vecB l pt := by unfold secB; rw [if_neg (by intro e; rw [List.isEmpty_iff.1 e] at g1; simp at g1)]; simp
  rw [hs]
  refine sq18 ?_
  refine cw [] Tryz.call206 (nvec_gl hf hB l hok hl hb) rfl argsleT stleT ?_
  rintro _ σ' ⟨r16, rfl, rfl⟩ h16
  replace h16 := cnewT h16; repeat rcases h16 with ⟨_, h16⟩
  apply rs_sto; exact nflT
  refine sq2 ?_
  generalize vecB l pt = P at hvl hub ⊢
  refine sq5 ?_
  refine z0 ?_
  refine z1 ?_; refine freshT fun r20 h20 => ?_; repeat rcases h20 with ⟨_, h20⟩
  refine apA ((vs ++ [no]).map encU) (vs ++ [no]).length ?_
  refine apnT fun r21 h21 => ?_; repeat rcases h21 with ⟨_, h21⟩
  refine sq35 ?_
  refine cw [(r21, .arr 5 1 ((vs ++ [no]).map encU))] Tryz.call137 (wasm_num r21 (vs ++ [no]) (by simp; omega) P.length (by omega)) rfl argsleT stleT ?_
  rintro _ σ' ⟨r24, rfl, rfl⟩ h24
  have k24 := rest1T h24; repeat rcases k24 with ⟨_, k24⟩
  apply rs_sto; exact nflT
  refine lo (lop_move (E rfl)) rfl ?_
  refine apA ((vs ++ [no] ++ uB P.length ++ P).map encU) (vs ++ [no] ++ uB P.length ++ P).length ?_
  refine apnT fun r26 h26 => ?_; repeat rcases h26 with ⟨_, h26⟩
  refine sq2 ?_
  rw [show vs ++ [no] ++ uB P.length ++ P = vs ++ ([no] ++ uB P.length ++ P) by simp]
  apply aend; exact resT
  · exact ⟨r26, rfl, rfl⟩
  · exact stleT
theorem sec_ex {f : FuncId} {pt : Ex → List Nat} {ok : Ex → Prop} {c B : Nat} (hf : Puts Tryz.prog 5 f (fun x => .agg (encEx x)) pt ok c B) (hB : B ≤ 50000000) (q : Nat) (vs : List Nat) (no : Nat) (hno : no < 256) (l : List Ex) (hok : ∀ x ∈ l, ok x) (hl : l.length ≤ 1000) (hvs : vs.length ≤ 10000000) (hb : 10 + l.length * c ≤ B) :
    SCall Tryz.prog 147 [.own q 0 vs.length, .int .i64 no, .ro 2 (l.map encEx) .any, .fn (.func f) [] []] [(q, .arr 5 1 (vs.map encU))] (fun y σ => ∃ r, y = .own r 0 (vs ++ secB no l pt).length ∧ σ = [(r, .arr 5 1 ((vs ++ secB no l pt).map encU))]) := by
  have hu := uB_len 1 l.length (by omega)
  have hup := uB_pos l.length
  have hpc := flat_le hf (by omega) hok l.length
  rw [List.take_length] at hpc
  have hvl : (vecB l pt).length ≤ 50000000 := by unfold vecB; simp only [List.length_append]; omega
  have hub := uB_len 4 (vecB l pt).length (by omega)
  refine scall_of (n := 27) (ks := [0, 1, 2, 3, 8, 9, 12]) Tryz.func147 rfl rfl (Nat.le_of_ble_eq_true rfl) ?_
  refine sq46 ?_
  refine sq34 ?_
  refine sw_cond rfl (fun g1 => ?_) (fun g1 => ?_)
  · obtain rfl : l = [] := by cases l with | nil => rfl | cons x t => simp at g1; omega
    refine sq29 ?_
    rw [show vs ++ secB no ([] : List Ex) pt = vs by simp [secB]]
    apply aend; exact resT
    · exact ⟨q, rfl, rfl⟩
    · exact stleT
  have hs : secB no l pt = [no] ++ uB (vecB l pt).length ++ vecB l pt := by unfold secB; rw [if_neg (by intro e; rw [List.isEmpty_iff.1 e] at g1; simp at g1)]; simp
  rw [hs]
  refine sq18 ?_
  refine cw [] Tryz.call208 (nvec_ex hf hB l hok hl hb) rfl argsleT stleT ?_
  rintro _ σ' ⟨r16, rfl, rfl⟩ h16
  replace h16 := cnewT h16; repeat rcases h16 with ⟨_, h16⟩
  apply rs_sto; exact nflT
  refine sq2 ?_
  generalize vecB l pt = P at hvl hub ⊢
  refine sq5 ?_
  refine z0 ?_
  refine z1 ?_; refine freshT fun r20 h20 => ?_; repeat rcases h20 with ⟨_, h20⟩
  refine apA ((vs ++ [no]).map encU) (vs ++ [no]).length ?_
  refine apnT fun r21 h21 => ?_; repeat rcases h21 with ⟨_, h21⟩
  refine sq35 ?_
  refine cw [(r21, .arr 5 1 ((vs ++ [no]).map encU))] Tryz.call137 (wasm_num r21 (vs ++ [no]) (by simp; omega) P.length (by omega)) rfl argsleT stleT ?_
  rintro _ σ' ⟨r24, rfl, rfl⟩ h24
  have k24 := rest1T h24; repeat rcases k24 with ⟨_, k24⟩
  apply rs_sto; exact nflT
  refine lo (lop_move (E rfl)) rfl ?_
  refine apA ((vs ++ [no] ++ uB P.length ++ P).map encU) (vs ++ [no] ++ uB P.length ++ P).length ?_
  refine apnT fun r26 h26 => ?_; repeat rcases h26 with ⟨_, h26⟩
  refine sq2 ?_
  rw [show vs ++ [no] ++ uB P.length ++ P = vs ++ ([no] ++ uB P.length ++ P) by simp]
  apply aend; exact resT
  · exact ⟨r26, rfl, rfl⟩
  · exact stleT
theorem sec_el {f : FuncId} {pt : El → List Nat} {ok : El → Prop} {c B : Nat} (hf : Puts Tryz.prog 5 f (fun x => .agg (encEl x)) pt ok c B) (hB : B ≤ 50000000) (q : Nat) (vs : List Nat) (no : Nat) (hno : no < 256) (l : List El) (hok : ∀ x ∈ l, ok x) (hl : l.length ≤ 1000) (hvs : vs.length ≤ 10000000) (hb : 10 + l.length * c ≤ B) :
    SCall Tryz.prog 149 [.own q 0 vs.length, .int .i64 no, .ro 2 (l.map encEl) .any, .fn (.func f) [] []] [(q, .arr 5 1 (vs.map encU))] (fun y σ => ∃ r, y = .own r 0 (vs ++ secB no l pt).length ∧ σ = [(r, .arr 5 1 ((vs ++ secB no l pt).map encU))]) := by
  have hu := uB_len 1 l.length (by omega)
  have hup := uB_pos l.length
  have hpc := flat_le hf (by omega) hok l.length
  rw [List.take_length] at hpc
  have hvl : (vecB l pt).length ≤ 50000000 := by unfold vecB; simp only [List.length_append]; omega
  have hub := uB_len 4 (vecB l pt).length (by omega)
  refine scall_of (n := 27) (ks := [0, 1, 2, 3, 8, 9, 12]) Tryz.func149 rfl rfl (Nat.le_of_ble_eq_true rfl) ?_
  refine sq46 ?_
  refine sq34 ?_
  refine sw_cond rfl (fun g1 => ?_) (fun g1 => ?_)
  · obtain rfl : l = [] := by cases l with | nil => rfl | cons x t => simp at g1; omega
    refine sq29 ?_
    rw [show vs ++ secB no ([] : List El) pt = vs by simp [secB]]
    apply aend; exact resT
    · exact ⟨q, rfl, rfl⟩
    · exact stleT
  have hs : secB no l pt = [no] ++ uB (vecB l pt).length ++ vecB l pt := by unfold secB; rw [if_neg (by intro e; rw [List.isEmpty_iff.1 e] at g1; simp at g1)]; simp
  rw [hs]
  refine sq18 ?_
  refine cw [] Tryz.call209 (nvec_el hf hB l hok hl hb) rfl argsleT stleT ?_
  rintro _ σ' ⟨r16, rfl, rfl⟩ h16
  replace h16 := cnewT h16; repeat rcases h16 with ⟨_, h16⟩
  apply rs_sto; exact nflT
  refine sq2 ?_
  generalize vecB l pt = P at hvl hub ⊢
  refine sq5 ?_
  refine z0 ?_
  refine z1 ?_; refine freshT fun r20 h20 => ?_; repeat rcases h20 with ⟨_, h20⟩
  refine apA ((vs ++ [no]).map encU) (vs ++ [no]).length ?_
  refine apnT fun r21 h21 => ?_; repeat rcases h21 with ⟨_, h21⟩
  refine sq35 ?_
  refine cw [(r21, .arr 5 1 ((vs ++ [no]).map encU))] Tryz.call137 (wasm_num r21 (vs ++ [no]) (by simp; omega) P.length (by omega)) rfl argsleT stleT ?_
  rintro _ σ' ⟨r24, rfl, rfl⟩ h24
  have k24 := rest1T h24; repeat rcases k24 with ⟨_, k24⟩
  apply rs_sto; exact nflT
  refine lo (lop_move (E rfl)) rfl ?_
  refine apA ((vs ++ [no] ++ uB P.length ++ P).map encU) (vs ++ [no] ++ uB P.length ++ P).length ?_
  refine apnT fun r26 h26 => ?_; repeat rcases h26 with ⟨_, h26⟩
  refine sq2 ?_
  rw [show vs ++ [no] ++ uB P.length ++ P = vs ++ ([no] ++ uB P.length ++ P) by simp]
  apply aend; exact resT
  · exact ⟨r26, rfl, rfl⟩
  · exact stleT
theorem sec_co {f : FuncId} {pt : Co → List Nat} {ok : Co → Prop} {c B : Nat} (hf : Puts Tryz.prog 5 f (fun x => .agg (encCo x)) pt ok c B) (hB : B ≤ 50000000) (q : Nat) (vs : List Nat) (no : Nat) (hno : no < 256) (l : List Co) (hok : ∀ x ∈ l, ok x) (hl : l.length ≤ 1000) (hvs : vs.length ≤ 10000000) (hb : 10 + l.length * c ≤ B) :
    SCall Tryz.prog 152 [.own q 0 vs.length, .int .i64 no, .ro 2 (l.map encCo) .any, .fn (.func f) [] []] [(q, .arr 5 1 (vs.map encU))] (fun y σ => ∃ r, y = .own r 0 (vs ++ secB no l pt).length ∧ σ = [(r, .arr 5 1 ((vs ++ secB no l pt).map encU))]) := by
  have hu := uB_len 1 l.length (by omega)
  have hup := uB_pos l.length
  have hpc := flat_le hf (by omega) hok l.length
  rw [List.take_length] at hpc
  have hvl : (vecB l pt).length ≤ 50000000 := by unfold vecB; simp only [List.length_append]; omega
  have hub := uB_len 4 (vecB l pt).length (by omega)
  refine scall_of (n := 27) (ks := [0, 1, 2, 3, 8, 9, 12]) Tryz.func152 rfl rfl (Nat.le_of_ble_eq_true rfl) ?_
  refine sq46 ?_
  refine sq34 ?_
  refine sw_cond rfl (fun g1 => ?_) (fun g1 => ?_)
  · obtain rfl : l = [] := by cases l with | nil => rfl | cons x t => simp at g1; omega
    refine sq29 ?_
    rw [show vs ++ secB no ([] : List Co) pt = vs by simp [secB]]
    apply aend; exact resT
    · exact ⟨q, rfl, rfl⟩
    · exact stleT
  have hs : secB no l pt = [no] ++ uB (vecB l pt).length ++ vecB l pt := by unfold secB; rw [if_neg (by intro e; rw [List.isEmpty_iff.1 e] at g1; simp at g1)]; simp
  rw [hs]
  refine sq18 ?_
  refine cw [] Tryz.call210 (nvec_co hf hB l hok hl hb) rfl argsleT stleT ?_
  rintro _ σ' ⟨r16, rfl, rfl⟩ h16
  replace h16 := cnewT h16; repeat rcases h16 with ⟨_, h16⟩
  apply rs_sto; exact nflT
  refine sq2 ?_
  generalize vecB l pt = P at hvl hub ⊢
  refine sq5 ?_
  refine z0 ?_
  refine z1 ?_; refine freshT fun r20 h20 => ?_; repeat rcases h20 with ⟨_, h20⟩
  refine apA ((vs ++ [no]).map encU) (vs ++ [no]).length ?_
  refine apnT fun r21 h21 => ?_; repeat rcases h21 with ⟨_, h21⟩
  refine sq35 ?_
  refine cw [(r21, .arr 5 1 ((vs ++ [no]).map encU))] Tryz.call137 (wasm_num r21 (vs ++ [no]) (by simp; omega) P.length (by omega)) rfl argsleT stleT ?_
  rintro _ σ' ⟨r24, rfl, rfl⟩ h24
  have k24 := rest1T h24; repeat rcases k24 with ⟨_, k24⟩
  apply rs_sto; exact nflT
  refine lo (lop_move (E rfl)) rfl ?_
  refine apA ((vs ++ [no] ++ uB P.length ++ P).map encU) (vs ++ [no] ++ uB P.length ++ P).length ?_
  refine apnT fun r26 h26 => ?_; repeat rcases h26 with ⟨_, h26⟩
  refine sq2 ?_
  rw [show vs ++ [no] ++ uB P.length ++ P = vs ++ ([no] ++ uB P.length ++ P) by simp]
  apply aend; exact resT
  · exact ⟨r26, rfl, rfl⟩
  · exact stleT
theorem sec_da {f : FuncId} {pt : Da → List Nat} {ok : Da → Prop} {c B : Nat} (hf : Puts Tryz.prog 5 f (fun x => .agg (encDa x)) pt ok c B) (hB : B ≤ 50000000) (q : Nat) (vs : List Nat) (no : Nat) (hno : no < 256) (l : List Da) (hok : ∀ x ∈ l, ok x) (hl : l.length ≤ 1000) (hvs : vs.length ≤ 10000000) (hb : 10 + l.length * c ≤ B) :
    SCall Tryz.prog 154 [.own q 0 vs.length, .int .i64 no, .ro 2 (l.map encDa) .any, .fn (.func f) [] []] [(q, .arr 5 1 (vs.map encU))] (fun y σ => ∃ r, y = .own r 0 (vs ++ secB no l pt).length ∧ σ = [(r, .arr 5 1 ((vs ++ secB no l pt).map encU))]) := by
  have hu := uB_len 1 l.length (by omega)
  have hup := uB_pos l.length
  have hpc := flat_le hf (by omega) hok l.length
  rw [List.take_length] at hpc
  have hvl : (vecB l pt).length ≤ 50000000 := by unfold vecB; simp only [List.length_append]; omega
  have hub := uB_len 4 (vecB l pt).length (by omega)
  refine scall_of (n := 27) (ks := [0, 1, 2, 3, 8, 9, 12]) Tryz.func154 rfl rfl (Nat.le_of_ble_eq_true rfl) ?_
  refine sq46 ?_
  refine sq34 ?_
  refine sw_cond rfl (fun g1 => ?_) (fun g1 => ?_)
  · obtain rfl : l = [] := by cases l with | nil => rfl | cons x t => simp at g1; omega
    refine sq29 ?_
    rw [show vs ++ secB no ([] : List Da) pt = vs by simp [secB]]
    apply aend; exact resT
    · exact ⟨q, rfl, rfl⟩
    · exact stleT
  have hs : secB no l pt = [no] ++ uB (vecB l pt).length ++ vecB l pt := by unfold secB; rw [if_neg (by intro e; rw [List.isEmpty_iff.1 e] at g1; simp at g1)]; simp
  rw [hs]
  refine sq18 ?_
  refine cw [] Tryz.call214 (nvec_da hf hB l hok hl hb) rfl argsleT stleT ?_
  rintro _ σ' ⟨r16, rfl, rfl⟩ h16
  replace h16 := cnewT h16; repeat rcases h16 with ⟨_, h16⟩
  apply rs_sto; exact nflT
  refine sq2 ?_
  generalize vecB l pt = P at hvl hub ⊢
  refine sq5 ?_
  refine z0 ?_
  refine z1 ?_; refine freshT fun r20 h20 => ?_; repeat rcases h20 with ⟨_, h20⟩
  refine apA ((vs ++ [no]).map encU) (vs ++ [no]).length ?_
  refine apnT fun r21 h21 => ?_; repeat rcases h21 with ⟨_, h21⟩
  refine sq35 ?_
  refine cw [(r21, .arr 5 1 ((vs ++ [no]).map encU))] Tryz.call137 (wasm_num r21 (vs ++ [no]) (by simp; omega) P.length (by omega)) rfl argsleT stleT ?_
  rintro _ σ' ⟨r24, rfl, rfl⟩ h24
  have k24 := rest1T h24; repeat rcases k24 with ⟨_, k24⟩
  apply rs_sto; exact nflT
  refine lo (lop_move (E rfl)) rfl ?_
  refine apA ((vs ++ [no] ++ uB P.length ++ P).map encU) (vs ++ [no] ++ uB P.length ++ P).length ?_
  refine apnT fun r26 h26 => ?_; repeat rcases h26 with ⟨_, h26⟩
  refine sq2 ?_
  rw [show vs ++ [no] ++ uB P.length ++ P = vs ++ ([no] ++ uB P.length ++ P) by simp]
  apply aend; exact resT
  · exact ⟨r26, rfl, rfl⟩
  · exact stleT
end Go.Proofs.YthhlimmcncbopaaGreat
