/-
  CodeAny.
-/
import Derived.Test.YtkjfflabapeidaaM7
namespace Go.Proofs.Ytkjfflabapeidaa
open Go.RowKit Go.ChangeShapes Go.WideShapes Go.ChangeAt Go.Deep
set_option linter.unusedSimpArgs false
set_option linter.unusedVariables false
attribute [local irreducible] SW RS RD AThen ABlock

theorem bodyN_le (l : List Ins) (n : Nat) : (bodyN l n).length ≤ n := by unfold bodyN; simp; omega
theorem may_next {L : List Ins} {j : Nat} {x : Ins} (h : ∀ y ∈ L.take j, mayN y = true) (hx : L[j]? = some x) (hm : mayN x = true) : ∀ y ∈ L.take (j + 1), mayN y = true := by
  intro y hy
  rw [List.take_add_one, hx] at hy
  rcases List.mem_append.1 hy with hy | hy
  · exact h y hy
  · rw [show y = x by simpa using hy]; exact hm
set_option maxRecDepth 100000 in
theorem law_codeAny (b : List Nat) (hb : b.length ≤ maxLen) (hbt : ∀ x ∈ b, x < 256) (l : List Ins) (hl : l.length ≤ maxLen) (hw : ∀ x ∈ l, x.Wf) (at_ : Int) (y : Int) : SCall Try.prog 11 [.ro 1 (b.map encU) .any, .ro 4 (l.map (iv .any)) .any, .int .i64 at_, .int .u8 y] [] (fun x _ => x = .bool true) := by
  refine scall_of (n := 67) (ks := [0, 1, 2, 3, 8, 9, 10, 11, 12, 13, 16, 23, 27, 35, 39]) Try.func11 rfl rfl (Nat.le_of_ble_eq_true rfl) ?_
  (refine ctlT ?_)
  refine rgT ?_
  refine lo (lop_assign (E rfl)) rfl ?_
  refine leT ?_
  (refine ctlT ?_)
  refine rgT ?_
  refine puA Try.call29 law_begun6 rfl pargsT nofT ?_
  refine lo (lop_assign (E rfl)) rfl ?_
  refine leT ?_
  (refine ctlT ?_)
  refine rgT ?_
  refine lo (lop_move (E rfl)) rfl ?_
  refine lo (lop_not (E rfl)) rfl ?_
  refine leT ?_
  (refine ctlT ?_)
  refine rgT ?_
  refine lo (lop_move (E rfl)) rfl ?_
  refine cw [] Try.call18 (law_short b hb 60) rfl argsleT stleT ?_
  rintro _ σ' ⟨rfl, rfl⟩ h18
  (apply rs_sto; (exact nflT))
  refine lo (lop_move (E rfl)) rfl ?_
  refine cw [] Try.call28 (law_body l hl (fun x hx => (hw x hx).2.2.2.1) 30 (by decide)) rfl argsleT stleT ?_
  rintro _ σ' ⟨q4, rfl, rfl⟩ h20
  (apply rs_sto; (exact nflT))
  refine fzv (j := 20) rfl sdelT (bor_own sgT (by simp)) ?_
  refine lo (lop_assign (E rfl)) rfl ?_
  refine lo (lop_assign (E rfl)) rfl ?_
  refine leT ?_
  (refine ctlT ?_)
  have hLl := bodyN_le l 30
  have hLo := body_ok hw 30
  generalize bodyN l 30 = L at hLl hLo ⊢
  obtain ⟨u, hu⟩ : ∃ u, u = b.take 60 := ⟨_, rfl⟩
  have hul : u.length ≤ 60 := by rw [hu]; simp; omega
  have hut : ∀ x ∈ u, x < 256 := by rw [hu]; exact fun x hx => hbt x (List.mem_of_mem_take hx)
  rw [← hu]
  refine rgT ?_
  refine lo (lop_move (E rfl)) rfl ?_
  refine puA Try.call39 (law_tells6 u (by omega) hut) rfl pargsT nofT ?_
  refine lo (lop_not (E rfl)) rfl ?_
  refine leT ?_
  (refine ctlT ?_)
  refine rgT ?_
  refine lo (lop_assign (E rfl)) rfl ?_
  refine leT ?_
  (refine ctlT ?_)
  refine lp (β := Nat) (fun j => ⟨[(1, .ro 4 (L.map (iv .any)) .any), (2, .int .i64 at_), (3, .int .u8 y), (10, .int .i64 j)], []⟩) (fun j => j ≤ L.length ∧ ∀ y ∈ L.take j, mayN y = true) (fun j => L.length - j) 0 sgoT ⟨Nat.zero_le _, by simp⟩ ?_
  intro j ⟨hj, hjm⟩
  (refine ctlT ?_)
  refine rgT ?_
  refine lo (lop_move (E rfl)) rfl ?_
  refine lo (lop_move (E rfl)) rfl ?_
  refine z14 ?_
  refine lo (lop_lss (E rfl) (E rfl)) rfl ?_
  refine leT ?_
  (refine ctlT ?_)
  refine sw_cond rfl (fun g8 => ?_) (fun g8 => ?_)
  · have hlt : j < L.length := by simp at g8; omega
    obtain ⟨x, hx⟩ : ∃ x, L[j]? = some x := ⟨_, List.getElem?_eq_getElem hlt⟩
    have hxo := hLo x (List.mem_of_getElem? hx)
    (refine ctlT ?_)
    refine rgT ?_
    refine lo (lop_move (E rfl)) rfl ?_
    refine lo (lop_move (E rfl)) rfl ?_
    refine z15 ?_
    first | refine lo (lop_load_el_agg (E rfl) rfl (fun hc => by first | rfl | exact get_map (by assumption) | assumption | exact get_map (at_bang (by omega))) (fun _ => Nat.le_of_ble_eq_true rfl)) rfl ?_ | refine lo (lop_load_ow_agg (E rfl) rfl sgT (fun hc => by first | rfl | exact get_map (by assumption) | assumption | exact get_map (at_bang (by omega))) (fun _ => Nat.le_of_ble_eq_true rfl)) rfl ?_
    refine puA Try.call19 (ref_mayInstr .any x hxo) rfl pargsT nofT ?_
    refine lo (lop_not (E rfl)) rfl ?_
    refine leT ?_
    (refine ctlT ?_)
    refine sw_cond rfl (fun g10 => ?_) (fun g10 => ?_)
    · (refine ctlT ?_)
      refine rgT ?_
      refine lo (lop_assign (E rfl)) rfl ?_
      refine leT ?_
      (refine ctlT ?_)
      (apply aend; (exact resT))
      · rfl
      · (exact stleT)
    (refine ctlT ?_)
    refine rgT ?_
    refine lo (lop_move (E rfl)) rfl ?_
    refine z17 ?_
    refine lo (lop_assign (E rfl)) rfl ?_
    refine leT ?_
    (refine ctlT ?_)
    refine ⟨j + 1, ⟨hlt, may_next hjm hx (by simpa using g10)⟩, by show L.length - (j + 1) < L.length - j; omega, ?_⟩
    (exact sgoT)
  obtain rfl : j = L.length := by simp at g8; omega
  have hm : ∀ x ∈ L, x.Ok ∧ mayN x = true := fun x hx => ⟨hLo x hx, hjm x (by rw [List.take_length]; exact hx)⟩
  have hpl := putL_len hm
  have hpt := putL_lt hm
  have hpp : 1 ≤ (putL L).length := by simp [putL]
  (refine ctlT ?_)
  refine rgT ?_
  refine lo (lop_move (E rfl)) rfl ?_
  refine clA Try.call36 (ref_putBody L (by omega) hm) rfl bargsT noT ?_
  rintro _ σ' ⟨r37, rfl, rfl⟩ h37
  replace h37 := lnewT h37; (repeat (rcases h37 with ⟨_, h37⟩))
  (apply rs_sto; (exact nflT))
  refine lo (lop_assign (E rfl)) rfl ?_
  refine leT ?_
  (refine ctlT ?_)
  generalize putL L = C at hpl hpt hpp ⊢
  refine rgT ?_
  refine lo (lop_move (E rfl)) rfl ?_
  refine lo (lop_lss (E rfl) (E rfl)) rfl ?_
  refine leT ?_
  (refine ctlT ?_)
  refine sw_cond rfl (fun g13 => ?_) (fun g13 => ?_)
  · (refine ctlT ?_)
    refine rgT ?_
    refine lo (lop_move (E rfl)) rfl ?_
    refine puA Try.call39 (law_tells6 C (by omega) hpt) rfl pargsT nofT ?_
    refine lo (lop_assign (E rfl)) rfl ?_
    refine leT ?_
    (refine ctlT ?_)
    (apply aend; (exact resT))
    · rfl
    · (exact stleT)
  obtain ⟨a, rfl⟩ := Int.eq_ofNat_of_zero_le (show 0 ≤ at_ by simpa using g13)
  (refine ctlT ?_)
  refine rgT ?_
  refine lo (lop_move (E rfl)) rfl ?_
  refine lo (lop_move (E rfl)) rfl ?_
  refine z14 ?_
  refine z22 ?_
  refine lo (lop_assign (E rfl)) rfl ?_
  refine leT ?_
  (refine ctlT ?_)
  obtain ⟨k, hk, hkl⟩ : ∃ k : Nat, (a : Int).tmod (C.length : Nat) = (k : Int) ∧ k < C.length := ⟨a % C.length, by rw [Int.tmod_eq_emod_of_nonneg (by omega)]; simp, Nat.mod_lt _ (by omega)⟩
  rw [hk]
  obtain ⟨c, hc⟩ : ∃ c, C[k]? = some c := ⟨_, List.getElem?_eq_getElem hkl⟩
  refine rgT ?_
  refine lo (lop_move (E rfl)) rfl ?_
  refine anA ((C).map encU) (C).length ?_
  refine freshT fun r47 h47 => ?_; (repeat (rcases h47 with ⟨_, h47⟩))
  refine lo (lop_assign (E rfl)) rfl ?_
  refine leT ?_
  (refine ctlT ?_)
  refine rgT ?_
  refine lo (lop_move (E rfl)) rfl ?_
  refine lo (lop_move (E rfl)) rfl ?_
  refine z15 ?_
  refine z16 ?_
  refine lo (lop_move (E rfl)) rfl ?_
  refine lo (lop_xor (E rfl) (E rfl)) rfl ?_
  refine z15 ?_
  obtain ⟨v, hv, hvl⟩ := xor_u8 c y
  rw [hv]
  apply sto; rfl; rfl; rfl; rfl; (exact ssetT); (exact atT); (exact putT_); rfl
  refine leT ?_
  (refine ctlT ?_)
  rw [show (C.map encU).set (k : Int).toNat [.int .u8 (v : Int)] = (C.set k v).map encU by rw [Int.toNat_natCast, List.map_set]; rfl, show AV.own r47 0 C.length = .own r47 0 (C.set k v).length by simp]
  have hDt : ∀ x ∈ C.set k v, x < 256 := set_lt hpt hvl
  have hDl : (C.set k v).length ≤ 200 * L.length + 1 := by simpa using hpl
  generalize C.set k v = D at hDt hDl ⊢
  refine rgT ?_
  refine lo (lop_move (E rfl)) rfl ?_
  refine puA Try.call39 (law_tells6 C (by omega) hpt) rfl pargsT nofT ?_
  refine lo (lop_move (E rfl)) rfl ?_
  first | refine ln rfl rfl rfl rfl ?_ | (refine gy rfl rfl ?_; refine lo (lop_move (E rfl)) rfl ?_) | refine lg rfl rfl (lop_move (E rfl)) rfl ?_
  refine gy rfl rfl ?_
  refine puA Try.call39 (law_tells6 D (by omega) hDt) rfl pargsT nofT ?_
  refine z68 ?_
  refine lo (lop_move (E rfl)) rfl ?_
  first | refine ln rfl rfl rfl rfl ?_ | (refine gy rfl rfl ?_; refine lo (lop_move (E rfl)) rfl ?_) | refine lg rfl rfl (lop_move (E rfl)) rfl ?_
  first | refine ln rfl rfl rfl rfl ?_ | (refine gy rfl rfl ?_; refine lo (lop_move (E rfl)) rfl ?_) | refine lg rfl rfl (lop_move (E rfl)) rfl ?_
  first | refine ln rfl rfl rfl rfl ?_ | (refine gy rfl rfl ?_; (first | refine lo (lop_slice_ro (by first | exact W rfl id | exact E rfl) OB.none (OB.some (by first | exact W rfl id | exact E rfl) (fun _ => by first | rfl | exact (Int.toNat_of_nonneg (by omega)).symm)) (fun _ => by first | (simp only [List.length_map]; omega) | omega)) rfl ?_ | refine lo (lop_slice_own (by first | exact W rfl id | exact E rfl) sgT OB.none (OB.some (by first | exact W rfl id | exact E rfl) (fun _ => by first | rfl | exact (Int.toNat_of_nonneg (by omega)).symm)) (fun _ => by first | (simp only [List.length_map]; omega) | omega)) rfl ?_)) | refine lg rfl rfl (lop_slice_ro (by first | exact W rfl id | exact E rfl) OB.none (OB.some (by first | exact W rfl id | exact E rfl) (fun _ => by first | rfl | exact (Int.toNat_of_nonneg (by omega)).symm)) (fun _ => by first | (simp only [List.length_map]; omega) | omega)) rfl ?_ | refine lg rfl rfl (lop_slice_own (by first | exact W rfl id | exact E rfl) sgT OB.none (OB.some (by first | exact W rfl id | exact E rfl) (fun _ => by first | rfl | exact (Int.toNat_of_nonneg (by omega)).symm)) (fun _ => by first | (simp only [List.length_map]; omega) | omega)) rfl ?_
  refine gy rfl rfl ?_
  refine puA Try.call39 (law_tells6 (C.take k) (by simp; omega) (fun x hx => hpt x (List.mem_of_mem_take hx))) rfl pargsT nofT ?_
  refine z68 ?_
  refine lo (lop_assign (E rfl)) rfl ?_
  refine leT ?_
  (refine ctlT ?_)
  (apply aend; (exact resT))
  · rfl
  · (exact stleT)
theorem law_codeAny2 (b : List Int) (l : List Ins) (at_ y : Int) (hb : b.length ≤ maxLen ∧ ∀ a ∈ b, U8 a) (hl : l.length ≤ maxLen ∧ ∀ x ∈ l, x.Wf) : SCall Try.prog 11 [.ro 1 (b.map encU8) .any, .ro 4 (l.map (iv .any)) .any, .int .i64 at_, .int .u8 y] [] (fun x _ => x = .bool true) := by
  obtain ⟨v, -, h1, h2, h3⟩ := nats hb
  rw [h3]
  exact law_codeAny v h1 h2 l hl.1 hl.2 at_ y
end Go.Proofs.Ytkjfflabapeidaa
