/-
  TargetsDeep.
-/
import Derived.Test.YtkjfflabapeidaaM7
import Derived.Test.YtkjfflabapeidaaCodeT
namespace Go.Proofs.Ytkjfflabapeidaa
open Go.RowKit Go.ChangeShapes Go.WideShapes Go.ChangeAt Go.Deep
set_option linter.unusedSimpArgs false
set_option linter.unusedVariables false
attribute [local irreducible] SW RS RD AThen ABlock

theorem bodyN_le (l : List Ins) (n : Nat) : (bodyN l n).length ≤ n := by unfold bodyN; simp; omega
set_option maxRecDepth 100000 in
theorem law_targetsDeep (l : List Ins) (hl : l.length ≤ maxLen) (hw : ∀ x ∈ l, x.Wf) : SCall Try.prog 14 [.ro 4 (l.map (iv .any)) .any] [] (fun x _ => x = .bool true) := by
  refine scall_of (n := 86) (ks := [0, 2, 3, 5, 6, 7, 8, 9, 10, 13, 22, 26, 34, 35, 41, 45, 57, 61, 73]) Try.func14 rfl rfl (Nat.le_of_ble_eq_true rfl) ?_
  (refine ctlT ?_)
  refine rgT ?_
  refine lo (lop_assign (E rfl)) rfl ?_
  refine leT ?_
  (refine ctlT ?_)
  refine rgT ?_
  refine puA Try.call29 law_begun6 rfl pargsT nofT ?_
  refine lo (lop_assign (E rfl)) rfl ?_
  refine leT ?_
  (refine ctlT ?_)
  refine rgT ?_
  refine lo (lop_move (E rfl)) rfl ?_
  refine lo (lop_not (E rfl)) rfl ?_
  refine leT ?_
  (refine ctlT ?_)
  refine rgT ?_
  refine lo (lop_move (E rfl)) rfl ?_
  refine cw [] Try.call28 (law_body l hl (fun x hx => (hw x hx).2.2.2.1) 60 (by decide)) rfl argsleT stleT ?_
  rintro _ σ' ⟨q4, rfl, rfl⟩ h15
  (apply rs_sto; (exact nflT))
  refine fzv (j := 15) rfl sdelT (bor_own sgT (by simp)) ?_
  refine lo (lop_assign (E rfl)) rfl ?_
  refine leT ?_
  (refine ctlT ?_)
  have hLl := bodyN_le l 60
  generalize bodyN l 60 = L at hLl ⊢
  have hol : (opsOf L).length = L.length := by simp [opsOf]
  refine rgT ?_
  refine lo (lop_move (E rfl)) rfl ?_
  refine cw [] Try.call30 (code_match L (by omega)) rfl argsleT stleT ?_
  rintro _ σ' ⟨q5, rfl, rfl⟩ h18
  (apply rs_sto; (exact nflT))
  refine lo (lop_move (E rfl)) rfl ?_
  refine lo (lop_extract (E rfl) rfl) rfl ?_
  refine lo (lop_extract (E rfl) rfl) rfl ?_
  refine lo (lop_assign (E rfl)) rfl ?_
  refine lo (lop_assign (E rfl)) rfl ?_
  refine leT ?_
  (refine ctlT ?_)
  refine rgT ?_
  refine lo (lop_move (E rfl)) rfl ?_
  refine lo (lop_not (E rfl)) rfl ?_
  refine leT ?_
  (refine ctlT ?_)
  refine sw_cond rfl (fun g6 => ?_) (fun g6 => ?_)
  · (refine ctlT ?_)
    refine rgT ?_
    refine lo (lop_assign (E rfl)) rfl ?_
    refine leT ?_
    (refine ctlT ?_)
    (apply aend; (exact resT))
    · rfl
    · (exact stleT)
  have hok : okN (opsOf L) = true := by simpa using g6
  (refine ctlT ?_)
  refine rgT ?_
  refine lo (lop_assign (E rfl)) rfl ?_
  refine leT ?_
  (refine ctlT ?_)
  refine rgT ?_
  refine lo (lop_assign (E rfl)) rfl ?_
  refine leT ?_
  (refine ctlT ?_)
  refine lp (β := Nat) (fun j => ⟨[(0, .ro 4 (L.map (iv .any)) .any), (6, .int .i64 (((mrun (opsOf L) j).map fun s => s.opn.length).getD 0 : Nat)), (7, .int .i64 j)], []⟩) (fun j => j ≤ L.length) (fun j => L.length - j) 0 sgoT (Nat.zero_le _) ?_
  intro j hj
  obtain ⟨s, hs⟩ := okN_at hok (j := j) (by omega)
  rw [hs]
  have hs40 := (mrun_ok hs).len
  dsimp only [Option.map_some, Option.getD_some]
  (refine ctlT ?_)
  refine rgT ?_
  refine lo (lop_move (E rfl)) rfl ?_
  refine lo (lop_move (E rfl)) rfl ?_
  refine z14 ?_
  refine lo (lop_lss (E rfl) (E rfl)) rfl ?_
  refine leT ?_
  (refine ctlT ?_)
  refine sw_cond rfl (fun g10 => ?_) (fun g10 => ?_)
  · have hlt : j < L.length := by simp at g10; omega
    obtain ⟨x, hx⟩ : ∃ x, L[j]? = some x := ⟨_, List.getElem?_eq_getElem hlt⟩
    have ho := opsOf_at hx
    have htg := tg_len hok hs ho
    obtain ⟨s', hs'⟩ := okN_at hok (j := j + 1) (by omega)
    have hst := mrun_next hs ho
    rw [hs'] at hst
    have hd := mstep_d hst.symm
    (refine ctlT ?_)
    refine rgT ?_
    refine lo (lop_move (E rfl)) rfl ?_
    refine lo (lop_assign (E rfl)) rfl ?_
    refine leT ?_
    (refine ctlT ?_)
    refine rgT ?_
    refine lo (lop_move (E rfl)) rfl ?_
    refine lo (lop_move (E rfl)) rfl ?_
    refine z15 ?_
    first | refine lo (lop_field_el (E rfl) rfl (by decide)) rfl ?_ | refine lo (lop_field_ow (E rfl) rfl (by decide)) rfl ?_
    refine z16 ?_
    refine leT ?_
    (refine ctlT ?_)
    have hO : (x.op == 2 || (x.op == 3 || x.op == 4)) = isO x.op := by unfold isO; rw [Bool.or_assoc]
    refine rgT ?_
    refine lo (lop_eql (E rfl) (E rfl)) rfl ?_
    refine lo (lop_assign (E rfl)) rfl ?_
    refine leT ?_
    (refine ctlT ?_)
    apply sw_orr rfl; exact fdelT
    · intro _; (refine ctlT ?_)
      refine rgT ?_
      refine lo (lop_eql (E rfl) (E rfl)) rfl ?_
      refine lo (lop_assign (E rfl)) rfl ?_
      refine leT ?_
      (refine ctlT ?_)
      apply sw_orq rfl; exact fdelT
      · intro _; (refine ctlT ?_)
        refine rgT ?_
        refine lo (lop_eql (E rfl) (E rfl)) rfl ?_
        refine lo (lop_assign (E rfl)) rfl ?_
        refine leT ?_
        (refine ctlT ?_)
        (exact sgoT)
      (exact sgoT)
    (refine ctlT ?_)
    refine sw_cond rfl (fun g14 => ?_) (fun g14 => ?_)
    · have hso : isO x.op = true := hO ▸ g14
      have hn5 : ¬ (x.op = 5 ∨ x.op = 11) := by unfold isO at hso; simp at hso; omega
      rw [if_neg hn5] at htg
      have hD : (s'.opn.length : Int) = (s.opn.length : Int) + 1 := by rw [hd]; unfold dN; rw [if_neg (by simp; omega), if_pos hso]
      (refine ctlT ?_)
      refine rgT ?_
      refine lo (lop_move (E rfl)) rfl ?_
      refine z17 ?_
      refine lo (lop_assign (E rfl)) rfl ?_
      refine leT ?_
      (refine ctlT ?_)
      refine rgT ?_
      refine lo (lop_move (E rfl)) rfl ?_
      refine lo (lop_move (E rfl)) rfl ?_
      refine cw [] Try.call33 (code_targets L (by omega) j) rfl argsleT stleT ?_
      rintro _ σ' ⟨q7, rfl, rfl⟩ h53
      (apply rs_sto; (exact nflT))
      refine lo (lop_assign (E rfl)) rfl ?_
      refine leT ?_
      (refine ctlT ?_)
      refine fzvs (j := 9) rfl sdelT (bor_own sgT (by simp)) ?_
      have hdec := tg_dec (opsOf L) j
      have hTl : (tgN (opsOf L) j).length ≤ 41 := by omega
      generalize tgN (opsOf L) j = T at htg hdec hTl ⊢
      refine rgT ?_
      refine lo (lop_move (E rfl)) rfl ?_
      refine z14 ?_
      refine lo (lop_move (E rfl)) rfl ?_
      refine lo (lop_neq (E rfl) (E rfl)) rfl ?_
      refine leT ?_
      (refine ctlT ?_)
      refine sw_cond rfl (fun g24 => ?_) (fun g24 => ?_)
      · (refine ctlT ?_)
        exfalso; simp at g24; omega
      (refine ctlT ?_)
      refine rgT ?_
      refine lo (lop_assign (E rfl)) rfl ?_
      refine leT ?_
      (refine ctlT ?_)
      refine lp (β := Nat) (fun k => ⟨[(0, .ro 4 (L.map (iv .any)) .any), (6, .int .i64 (s'.opn.length : Nat)), (7, .int .i64 j), (9, .ro 1 (T.map encI) .any), (10, .int .i64 (k : Nat))], []⟩) (fun k => 1 ≤ k) (fun k => T.length + 1 - k) 1 (by rw [hD]; (exact sgoT)) (Nat.le_refl _) ?_
      intro k hk
      (refine ctlT ?_)
      refine rgT ?_
      refine lo (lop_move (E rfl)) rfl ?_
      refine lo (lop_move (E rfl)) rfl ?_
      refine z14 ?_
      refine lo (lop_lss (E rfl) (E rfl)) rfl ?_
      refine leT ?_
      (refine ctlT ?_)
      refine sw_cond rfl (fun g27 => ?_) (fun g27 => ?_)
      · have hkl : k < T.length := by simp at g27; omega
        obtain ⟨a, ha⟩ : ∃ a, T[k]? = some a := ⟨_, List.getElem?_eq_getElem hkl⟩
        obtain ⟨c, hc⟩ : ∃ c, T[k - 1]? = some c := ⟨_, List.getElem?_eq_getElem (by omega)⟩
        have hc' : T[((k : Int) - 1).toNat]? = some c := by rw [show ((k : Int) - 1).toNat = k - 1 by omega]; exact hc
        have hac : a < c := by
          have := List.pairwise_iff_getElem.1 hdec (k - 1) k (by omega) hkl (by omega)
          rw [(List.getElem?_eq_some_iff.1 ha).2, (List.getElem?_eq_some_iff.1 hc).2] at this
          exact this
        (refine ctlT ?_)
        refine rgD [(0, true), (1, true), (2, true), (3, true), (4, true), (5, true), (6, true), (7, true), (8, true), (9, true)] ?_
        refine dlo rfl (lop_move (E rfl)) rfl ?_
        refine dlo rfl (lop_move (E rfl)) rfl ?_
        refine z56 ?_
        refine z57 ?_
        refine dlo rfl (lop_move (E rfl)) rfl ?_
        refine dlo rfl (lop_move (E rfl)) rfl ?_
        refine z82 ?_
        refine z56 ?_
        refine z57 ?_
        refine dlo rfl (lop_geq (E rfl) (E rfl)) rfl ?_
        refine deT ?_
        (refine ctlT ?_)
        refine sw_cond rfl (fun g29 => ?_) (fun g29 => ?_)
        · (refine ctlT ?_)
          exfalso; simp at g29; omega
        (refine ctlT ?_)
        refine rgT ?_
        refine lo (lop_move (E rfl)) rfl ?_
        refine z17 ?_
        refine lo (lop_assign (E rfl)) rfl ?_
        refine leT ?_
        (refine ctlT ?_)
        refine ⟨k + 1, by show 1 ≤ k + 1; omega, by show T.length + 1 - (k + 1) < T.length + 1 - k; omega, ?_⟩
        (exact sgoT)
      (refine ctlT ?_)
      refine rgT ?_
      refine lo (lop_move (E rfl)) rfl ?_
      refine z17 ?_
      refine lo (lop_assign (E rfl)) rfl ?_
      refine leT ?_
      (refine ctlT ?_)
      refine ⟨j + 1, hlt, by show L.length - (j + 1) < L.length - j; omega, ?_⟩
      rw [hs']
      dsimp only [Option.map_some, Option.getD_some]
      (exact sgoT)
    have hso : isO x.op = false := hO ▸ g14
    (refine ctlT ?_)
    refine rgT ?_
    refine lo (lop_eql (E rfl) (E rfl)) rfl ?_
    refine lo (lop_assign (E rfl)) rfl ?_
    refine leT ?_
    (refine ctlT ?_)
    refine sw_cond rfl (fun g18 => ?_) (fun g18 => ?_)
    · have h5 : x.op = 5 := by simpa using g18
      rw [if_pos (.inl h5)] at htg
      have hD : (s'.opn.length : Int) = (s.opn.length : Int) := by rw [hd]; unfold dN; rw [if_neg (by rw [h5]; decide), if_neg (by simp [hso])]
      (refine ctlT ?_)
      refine rgT ?_
      refine lo (lop_move (E rfl)) rfl ?_
      refine z19 ?_
      refine lo (lop_assign (E rfl)) rfl ?_
      refine leT ?_
      (refine ctlT ?_)
      refine rgT ?_
      refine lo (lop_move (E rfl)) rfl ?_
      refine lo (lop_move (E rfl)) rfl ?_
      refine cw [] Try.call33 (code_targets L (by omega) j) rfl argsleT stleT ?_
      rintro _ σ' ⟨q7, rfl, rfl⟩ h53
      (apply rs_sto; (exact nflT))
      refine lo (lop_assign (E rfl)) rfl ?_
      refine leT ?_
      (refine ctlT ?_)
      refine fzvs (j := 9) rfl sdelT (bor_own sgT (by simp)) ?_
      have hdec := tg_dec (opsOf L) j
      have hTl : (tgN (opsOf L) j).length ≤ 41 := by omega
      generalize tgN (opsOf L) j = T at htg hdec hTl ⊢
      refine rgT ?_
      refine lo (lop_move (E rfl)) rfl ?_
      refine z14 ?_
      refine lo (lop_move (E rfl)) rfl ?_
      refine lo (lop_neq (E rfl) (E rfl)) rfl ?_
      refine leT ?_
      (refine ctlT ?_)
      refine sw_cond rfl (fun g24 => ?_) (fun g24 => ?_)
      · (refine ctlT ?_)
        exfalso; simp at g24; omega
      (refine ctlT ?_)
      refine rgT ?_
      refine lo (lop_assign (E rfl)) rfl ?_
      refine leT ?_
      (refine ctlT ?_)
      refine lp (β := Nat) (fun k => ⟨[(0, .ro 4 (L.map (iv .any)) .any), (6, .int .i64 (s'.opn.length : Nat)), (7, .int .i64 j), (9, .ro 1 (T.map encI) .any), (10, .int .i64 (k : Nat))], []⟩) (fun k => 1 ≤ k) (fun k => T.length + 1 - k) 1 (by rw [hD]; (exact sgoT)) (Nat.le_refl _) ?_
      intro k hk
      (refine ctlT ?_)
      refine rgT ?_
      refine lo (lop_move (E rfl)) rfl ?_
      refine lo (lop_move (E rfl)) rfl ?_
      refine z14 ?_
      refine lo (lop_lss (E rfl) (E rfl)) rfl ?_
      refine leT ?_
      (refine ctlT ?_)
      refine sw_cond rfl (fun g27 => ?_) (fun g27 => ?_)
      · have hkl : k < T.length := by simp at g27; omega
        obtain ⟨a, ha⟩ : ∃ a, T[k]? = some a := ⟨_, List.getElem?_eq_getElem hkl⟩
        obtain ⟨c, hc⟩ : ∃ c, T[k - 1]? = some c := ⟨_, List.getElem?_eq_getElem (by omega)⟩
        have hc' : T[((k : Int) - 1).toNat]? = some c := by rw [show ((k : Int) - 1).toNat = k - 1 by omega]; exact hc
        have hac : a < c := by
          have := List.pairwise_iff_getElem.1 hdec (k - 1) k (by omega) hkl (by omega)
          rw [(List.getElem?_eq_some_iff.1 ha).2, (List.getElem?_eq_some_iff.1 hc).2] at this
          exact this
        (refine ctlT ?_)
        refine rgD [(0, true), (1, true), (2, true), (3, true), (4, true), (5, true), (6, true), (7, true), (8, true), (9, true)] ?_
        refine dlo rfl (lop_move (E rfl)) rfl ?_
        refine dlo rfl (lop_move (E rfl)) rfl ?_
        refine z56 ?_
        refine z57 ?_
        refine dlo rfl (lop_move (E rfl)) rfl ?_
        refine dlo rfl (lop_move (E rfl)) rfl ?_
        refine z82 ?_
        refine z56 ?_
        refine z57 ?_
        refine dlo rfl (lop_geq (E rfl) (E rfl)) rfl ?_
        refine deT ?_
        (refine ctlT ?_)
        refine sw_cond rfl (fun g29 => ?_) (fun g29 => ?_)
        · (refine ctlT ?_)
          exfalso; simp at g29; omega
        (refine ctlT ?_)
        refine rgT ?_
        refine lo (lop_move (E rfl)) rfl ?_
        refine z17 ?_
        refine lo (lop_assign (E rfl)) rfl ?_
        refine leT ?_
        (refine ctlT ?_)
        refine ⟨k + 1, by show 1 ≤ k + 1; omega, by show T.length + 1 - (k + 1) < T.length + 1 - k; omega, ?_⟩
        (exact sgoT)
      (refine ctlT ?_)
      refine rgT ?_
      refine lo (lop_move (E rfl)) rfl ?_
      refine z17 ?_
      refine lo (lop_assign (E rfl)) rfl ?_
      refine leT ?_
      (refine ctlT ?_)
      refine ⟨j + 1, hlt, by show L.length - (j + 1) < L.length - j; omega, ?_⟩
      rw [hs']
      dsimp only [Option.map_some, Option.getD_some]
      (exact sgoT)
    (refine ctlT ?_)
    refine rgT ?_
    refine lo (lop_eql (E rfl) (E rfl)) rfl ?_
    refine lo (lop_assign (E rfl)) rfl ?_
    refine leT ?_
    (refine ctlT ?_)
    refine sw_cond rfl (fun g20 => ?_) (fun g20 => ?_)
    · have h11 : x.op = 11 := by simpa using g20
      rw [if_pos (.inr h11)] at htg
      have hD : (s'.opn.length : Int) = (s.opn.length : Int) - 1 := by rw [hd]; unfold dN; rw [if_pos (by rw [h11]; rfl)]
      (refine ctlT ?_)
      refine rgT ?_
      refine lo (lop_move (E rfl)) rfl ?_
      refine z19 ?_
      refine lo (lop_assign (E rfl)) rfl ?_
      refine leT ?_
      (refine ctlT ?_)
      refine rgT ?_
      refine lo (lop_move (E rfl)) rfl ?_
      refine z19 ?_
      refine lo (lop_assign (E rfl)) rfl ?_
      refine leT ?_
      (refine ctlT ?_)
      refine rgT ?_
      refine lo (lop_move (E rfl)) rfl ?_
      refine lo (lop_move (E rfl)) rfl ?_
      refine cw [] Try.call33 (code_targets L (by omega) j) rfl argsleT stleT ?_
      rintro _ σ' ⟨q7, rfl, rfl⟩ h53
      (apply rs_sto; (exact nflT))
      refine lo (lop_assign (E rfl)) rfl ?_
      refine leT ?_
      (refine ctlT ?_)
      refine fzvs (j := 9) rfl sdelT (bor_own sgT (by simp)) ?_
      have hdec := tg_dec (opsOf L) j
      have hTl : (tgN (opsOf L) j).length ≤ 41 := by omega
      generalize tgN (opsOf L) j = T at htg hdec hTl ⊢
      refine rgT ?_
      refine lo (lop_move (E rfl)) rfl ?_
      refine z14 ?_
      refine lo (lop_move (E rfl)) rfl ?_
      refine lo (lop_neq (E rfl) (E rfl)) rfl ?_
      refine leT ?_
      (refine ctlT ?_)
      refine sw_cond rfl (fun g24 => ?_) (fun g24 => ?_)
      · (refine ctlT ?_)
        exfalso; simp at g24; omega
      (refine ctlT ?_)
      refine rgT ?_
      refine lo (lop_assign (E rfl)) rfl ?_
      refine leT ?_
      (refine ctlT ?_)
      refine lp (β := Nat) (fun k => ⟨[(0, .ro 4 (L.map (iv .any)) .any), (6, .int .i64 (s'.opn.length : Nat)), (7, .int .i64 j), (9, .ro 1 (T.map encI) .any), (10, .int .i64 (k : Nat))], []⟩) (fun k => 1 ≤ k) (fun k => T.length + 1 - k) 1 (by rw [hD]; (exact sgoT)) (Nat.le_refl _) ?_
      intro k hk
      (refine ctlT ?_)
      refine rgT ?_
      refine lo (lop_move (E rfl)) rfl ?_
      refine lo (lop_move (E rfl)) rfl ?_
      refine z14 ?_
      refine lo (lop_lss (E rfl) (E rfl)) rfl ?_
      refine leT ?_
      (refine ctlT ?_)
      refine sw_cond rfl (fun g27 => ?_) (fun g27 => ?_)
      · have hkl : k < T.length := by simp at g27; omega
        obtain ⟨a, ha⟩ : ∃ a, T[k]? = some a := ⟨_, List.getElem?_eq_getElem hkl⟩
        obtain ⟨c, hc⟩ : ∃ c, T[k - 1]? = some c := ⟨_, List.getElem?_eq_getElem (by omega)⟩
        have hc' : T[((k : Int) - 1).toNat]? = some c := by rw [show ((k : Int) - 1).toNat = k - 1 by omega]; exact hc
        have hac : a < c := by
          have := List.pairwise_iff_getElem.1 hdec (k - 1) k (by omega) hkl (by omega)
          rw [(List.getElem?_eq_some_iff.1 ha).2, (List.getElem?_eq_some_iff.1 hc).2] at this
          exact this
        (refine ctlT ?_)
        refine rgD [(0, true), (1, true), (2, true), (3, true), (4, true), (5, true), (6, true), (7, true), (8, true), (9, true)] ?_
        refine dlo rfl (lop_move (E rfl)) rfl ?_
        refine dlo rfl (lop_move (E rfl)) rfl ?_
        refine z56 ?_
        refine z57 ?_
        refine dlo rfl (lop_move (E rfl)) rfl ?_
        refine dlo rfl (lop_move (E rfl)) rfl ?_
        refine z82 ?_
        refine z56 ?_
        refine z57 ?_
        refine dlo rfl (lop_geq (E rfl) (E rfl)) rfl ?_
        refine deT ?_
        (refine ctlT ?_)
        refine sw_cond rfl (fun g29 => ?_) (fun g29 => ?_)
        · (refine ctlT ?_)
          exfalso; simp at g29; omega
        (refine ctlT ?_)
        refine rgT ?_
        refine lo (lop_move (E rfl)) rfl ?_
        refine z17 ?_
        refine lo (lop_assign (E rfl)) rfl ?_
        refine leT ?_
        (refine ctlT ?_)
        refine ⟨k + 1, by show 1 ≤ k + 1; omega, by show T.length + 1 - (k + 1) < T.length + 1 - k; omega, ?_⟩
        (exact sgoT)
      (refine ctlT ?_)
      refine rgT ?_
      refine lo (lop_move (E rfl)) rfl ?_
      refine z17 ?_
      refine lo (lop_assign (E rfl)) rfl ?_
      refine leT ?_
      (refine ctlT ?_)
      refine ⟨j + 1, hlt, by show L.length - (j + 1) < L.length - j; omega, ?_⟩
      rw [hs']
      dsimp only [Option.map_some, Option.getD_some]
      (exact sgoT)
    rw [if_neg (by simp at g18 g20; omega)] at htg
    have hD : (s'.opn.length : Int) = (s.opn.length : Int) := by rw [hd]; unfold dN; rw [if_neg (by simp [g20]), if_neg (by simp [hso])]
    (refine ctlT ?_)
    refine rgT ?_
    refine lo (lop_move (E rfl)) rfl ?_
    refine lo (lop_move (E rfl)) rfl ?_
    refine cw [] Try.call33 (code_targets L (by omega) j) rfl argsleT stleT ?_
    rintro _ σ' ⟨q7, rfl, rfl⟩ h53
    (apply rs_sto; (exact nflT))
    refine lo (lop_assign (E rfl)) rfl ?_
    refine leT ?_
    (refine ctlT ?_)
    refine fzvs (j := 9) rfl sdelT (bor_own sgT (by simp)) ?_
    have hdec := tg_dec (opsOf L) j
    have hTl : (tgN (opsOf L) j).length ≤ 41 := by omega
    generalize tgN (opsOf L) j = T at htg hdec hTl ⊢
    refine rgT ?_
    refine lo (lop_move (E rfl)) rfl ?_
    refine z14 ?_
    refine lo (lop_move (E rfl)) rfl ?_
    refine lo (lop_neq (E rfl) (E rfl)) rfl ?_
    refine leT ?_
    (refine ctlT ?_)
    refine sw_cond rfl (fun g24 => ?_) (fun g24 => ?_)
    · (refine ctlT ?_)
      exfalso; simp at g24; omega
    (refine ctlT ?_)
    refine rgT ?_
    refine lo (lop_assign (E rfl)) rfl ?_
    refine leT ?_
    (refine ctlT ?_)
    refine lp (β := Nat) (fun k => ⟨[(0, .ro 4 (L.map (iv .any)) .any), (6, .int .i64 (s'.opn.length : Nat)), (7, .int .i64 j), (9, .ro 1 (T.map encI) .any), (10, .int .i64 (k : Nat))], []⟩) (fun k => 1 ≤ k) (fun k => T.length + 1 - k) 1 (by rw [hD]; (exact sgoT)) (Nat.le_refl _) ?_
    intro k hk
    (refine ctlT ?_)
    refine rgT ?_
    refine lo (lop_move (E rfl)) rfl ?_
    refine lo (lop_move (E rfl)) rfl ?_
    refine z14 ?_
    refine lo (lop_lss (E rfl) (E rfl)) rfl ?_
    refine leT ?_
    (refine ctlT ?_)
    refine sw_cond rfl (fun g27 => ?_) (fun g27 => ?_)
    · have hkl : k < T.length := by simp at g27; omega
      obtain ⟨a, ha⟩ : ∃ a, T[k]? = some a := ⟨_, List.getElem?_eq_getElem hkl⟩
      obtain ⟨c, hc⟩ : ∃ c, T[k - 1]? = some c := ⟨_, List.getElem?_eq_getElem (by omega)⟩
      have hc' : T[((k : Int) - 1).toNat]? = some c := by rw [show ((k : Int) - 1).toNat = k - 1 by omega]; exact hc
      have hac : a < c := by
        have := List.pairwise_iff_getElem.1 hdec (k - 1) k (by omega) hkl (by omega)
        rw [(List.getElem?_eq_some_iff.1 ha).2, (List.getElem?_eq_some_iff.1 hc).2] at this
        exact this
      (refine ctlT ?_)
      refine rgD [(0, true), (1, true), (2, true), (3, true), (4, true), (5, true), (6, true), (7, true), (8, true), (9, true)] ?_
      refine dlo rfl (lop_move (E rfl)) rfl ?_
      refine dlo rfl (lop_move (E rfl)) rfl ?_
      refine z56 ?_
      refine z57 ?_
      refine dlo rfl (lop_move (E rfl)) rfl ?_
      refine dlo rfl (lop_move (E rfl)) rfl ?_
      refine z82 ?_
      refine z56 ?_
      refine z57 ?_
      refine dlo rfl (lop_geq (E rfl) (E rfl)) rfl ?_
      refine deT ?_
      (refine ctlT ?_)
      refine sw_cond rfl (fun g29 => ?_) (fun g29 => ?_)
      · (refine ctlT ?_)
        exfalso; simp at g29; omega
      (refine ctlT ?_)
      refine rgT ?_
      refine lo (lop_move (E rfl)) rfl ?_
      refine z17 ?_
      refine lo (lop_assign (E rfl)) rfl ?_
      refine leT ?_
      (refine ctlT ?_)
      refine ⟨k + 1, by show 1 ≤ k + 1; omega, by show T.length + 1 - (k + 1) < T.length + 1 - k; omega, ?_⟩
      (exact sgoT)
    (refine ctlT ?_)
    refine rgT ?_
    refine lo (lop_move (E rfl)) rfl ?_
    refine z17 ?_
    refine lo (lop_assign (E rfl)) rfl ?_
    refine leT ?_
    (refine ctlT ?_)
    refine ⟨j + 1, hlt, by show L.length - (j + 1) < L.length - j; omega, ?_⟩
    rw [hs']
    dsimp only [Option.map_some, Option.getD_some]
    (exact sgoT)
  (refine ctlT ?_)
  refine rgT ?_
  refine lo (lop_move (E rfl)) rfl ?_
  refine lo (lop_move (E rfl)) rfl ?_
  refine z14 ?_
  refine cw [] Try.call33 (code_targets L (by omega) L.length) rfl argsleT stleT ?_
  rintro _ σ' ⟨q8, rfl, rfl⟩ h77
  (apply rs_sto; (exact nflT))
  rw [show tgN (opsOf L) L.length = [] by unfold tgN; rw [if_pos (.inr (by rw [hol]; exact Int.le_refl _))]]
  refine z14 ?_
  refine lo (lop_eql (E rfl) (E rfl)) rfl ?_
  refine lo (lop_move (E rfl)) rfl ?_
  first | refine ln rfl rfl rfl rfl ?_ | (refine gy rfl rfl ?_; refine lo (lop_move (E rfl)) rfl ?_) | refine lg rfl rfl (lop_move (E rfl)) rfl ?_
  refine gy rfl rfl ?_
  refine cw [] Try.call33 (code_targets L (by omega) (-1)) rfl argsleT stleT ?_
  rintro _ σ' ⟨q9, rfl, rfl⟩ h82
  (apply rs_sto; (exact nflT))
  rw [show tgN (opsOf L) (-1) = [] by unfold tgN; rw [if_pos (.inl (by decide))]]
  first | refine ln rfl rfl rfl rfl ?_ | (refine gy rfl rfl ?_; (first | refine lo (lop_len_map (by first | exact W rfl id | exact E rfl)) rfl ?_ | refine lo (lop_len_ro (by first | exact W rfl id | exact E rfl)) rfl ?_ | refine lo (lop_len_own (by first | exact W rfl id | exact E rfl)) rfl ?_)) | refine lg rfl rfl (lop_len_map (by first | exact W rfl id | exact E rfl)) rfl ?_ | refine lg rfl rfl (lop_len_ro (by first | exact W rfl id | exact E rfl)) rfl ?_ | refine lg rfl rfl (lop_len_own (by first | exact W rfl id | exact E rfl)) rfl ?_
  first | refine ln rfl rfl rfl rfl ?_ | (refine gy rfl rfl ?_; refine lo (lop_eql (by first | exact W rfl id | exact E rfl) (E rfl)) rfl ?_) | refine lg rfl rfl (lop_eql (by first | exact W rfl id | exact E rfl) (E rfl)) rfl ?_
  refine z68 ?_
  refine lo (lop_assign (E rfl)) rfl ?_
  refine leT ?_
  (refine ctlT ?_)
  (apply aend; (exact resT))
  · rfl
  · (exact stleT)
end Go.Proofs.Ytkjfflabapeidaa
