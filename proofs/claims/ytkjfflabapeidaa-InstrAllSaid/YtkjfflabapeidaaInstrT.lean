/-
  InstrAny.
-/
import Derived.Test.YtkjfflabapeidaaInstrS
namespace Go.Proofs.Ytkjfflabapeidaa
open Go.RowKit Go.ChangeShapes Go.WideShapes Go.ChangeAt Go.Deep
set_option linter.unusedSimpArgs false
set_option linter.unusedVariables false
attribute [local irreducible] SW RS RD AThen ABlock

theorem xor_u8 (c y : Int) : ∃ v : Nat, IntKind.u8.wrap (BitVec.ofInt IntKind.u8.bits c ^^^ BitVec.ofInt IntKind.u8.bits y).toNat = (v : Int) ∧ v < 256 := by
  have h := (BitVec.ofInt IntKind.u8.bits c ^^^ BitVec.ofInt IntKind.u8.bits y).isLt
  have h2 : (2 : Nat) ^ IntKind.u8.bits = 256 := by decide
  rw [h2] at h
  exact ⟨_, wrap_u8_of (by omega) (by omega), h⟩
theorem set_lt {C : List Nat} {k v : Nat} (h : ∀ x ∈ C, x < 256) (hv : v < 256) : ∀ x ∈ C.set k v, x < 256 := by
  intro x hx
  rcases List.mem_or_eq_of_mem_set hx with hx | rfl
  · exact h x hx
  · exact hv
set_option maxRecDepth 100000 in
theorem law_instrAny (b : List Nat) (hb : b.length ≤ maxLen) (hbt : ∀ x ∈ b, x < 256) (x0 : Ins) (hx0 : x0.Wf) (at_ : Int) (y : Int) : SCall Try.prog 4 [.ro 1 (b.map encU) .any, .agg (iv .any x0), .int .i64 at_, .int .u8 y] [] (fun x _ => x = .bool true) := by
  refine scall_of (n := 56) (ks := [0, 1, 2, 3, 5, 8, 9, 10, 11, 14, 21, 28]) Try.func4 rfl rfl (Nat.le_of_ble_eq_true rfl) ?_
  have hxo := cut_ok hx0
  unfold iv
  (refine ctlT ?_)
  refine rgT ?_
  apply bx; rfl; rfl; (exact zcT); rfl; refine freshT fun r5 h5 => ?_; (repeat (rcases h5 with ⟨_, h5⟩))
  refine lo (lop_assign (E rfl)) rfl ?_
  refine leT ?_
  (refine ctlT ?_)
  refine rgT ?_
  refine puA Try.call16 law_begun5 rfl pargsT nofT ?_
  refine lo (lop_assign (E rfl)) rfl ?_
  refine leT ?_
  (refine ctlT ?_)
  refine rgT ?_
  refine lo (lop_move (E rfl)) rfl ?_
  refine lo (lop_not (E rfl)) rfl ?_
  refine leT ?_
  (refine ctlT ?_)
  refine rgD [(0, true), (2, true), (1, false), (3, false), (4, true), (5, false)] ?_
  refine dlo rfl (lop_move (E rfl)) rfl ?_
  refine z96 ?_
  refine dcw [] rfl Try.call18 (law_short b hb 30) rfl argsleT stleT hbtT ?_
  rintro _ σ' ⟨rfl, rfl⟩ h16
  (apply rd_sto; (exact nflT))
  refine dcw [] rfl Try.call17 (law_cut x0 hx0.2.2.2.1) rfl argsleT stleT hbtT ?_
  rintro _ σ' ⟨q, rfl, rfl⟩ h18
  replace h18 := cnewT h18; (repeat (rcases h18 with ⟨_, h18⟩))
  (apply rd_sto; (exact nflT))
  generalize cutN x0 = x at hxo ⊢
  refine dlo rfl (lop_assign (E rfl)) rfl ?_
  refine z95 ?_
  refine deT ?_
  (refine ctlT ?_)
  obtain ⟨u, hu⟩ : ∃ u, u = b.take 30 := ⟨_, rfl⟩
  have hul : u.length ≤ 30 := by rw [hu]; simp; omega
  have hut : ∀ x ∈ u, x < 256 := by rw [hu]; exact fun x hx => hbt x (List.mem_of_mem_take hx)
  rw [← hu]
  refine rgT ?_
  refine lo (lop_move (E rfl)) rfl ?_
  refine puA Try.call26 (law_tells u (by omega) hut) rfl pargsT nofT ?_
  refine lo (lop_not (E rfl)) rfl ?_
  refine leT ?_
  (refine ctlT ?_)
  refine rgT ?_
  refine z99 ?_
  refine puA Try.call19 (ref_mayInstr .any x hxo) rfl pargsT nofT ?_
  refine lo (lop_not (E rfl)) rfl ?_
  refine lo (lop_move (E rfl)) rfl ?_
  first | refine ln rfl rfl rfl rfl ?_ | (refine gy rfl rfl ?_; refine lo (lop_move (E rfl)) rfl ?_) | refine lg rfl rfl (lop_move (E rfl)) rfl ?_
  first | refine ln rfl rfl rfl rfl ?_ | (refine gy rfl rfl ?_; refine lo (lop_lss (by first | exact W rfl id | exact E rfl) (E rfl)) rfl ?_) | refine lg rfl rfl (lop_lss (by first | exact W rfl id | exact E rfl) (E rfl)) rfl ?_
  first | refine lo (lop_pick_t (E rfl) (E rfl)) rfl ?_ | refine lo (lop_pick_f (E rfl) (by first | exact W rfl (by simp) | exact E rfl)) rfl ?_ | refine lo (lop_pick (E rfl) (E rfl) (by first | exact W rfl (by simp) | exact E rfl)) rfl ?_
  refine leT ?_
  (refine ctlT ?_)
  refine sw_cond rfl (fun g7 => ?_) (fun g7 => ?_)
  · (refine ctlT ?_)
    refine rgT ?_
    refine lo (lop_assign (E rfl)) rfl ?_
    refine leT ?_
    (refine ctlT ?_)
    (apply aend; (exact resT))
    · rfl
    · (exact stleT)
  obtain ⟨hm, hat⟩ : mayN x = true ∧ 0 ≤ at_ := by replace g7 := bT g7; exact ⟨g7.1, by omega⟩
  obtain ⟨a, rfl⟩ := Int.eq_ofNat_of_zero_le hat
  have hpl := putN_len hxo hm
  have hpt := putN_lt hm
  have hpp : 1 ≤ (putN x).length := by simp [putN]
  (refine ctlT ?_)
  refine rgT ?_
  refine z99 ?_
  refine clA Try.call24 (ref_putInstr .any x hxo hm) rfl bargsT noT ?_
  rintro _ σ' ⟨r30, rfl, rfl⟩ h30
  replace h30 := lnewT h30; (repeat (rcases h30 with ⟨_, h30⟩))
  (apply rs_sto; (exact nflT))
  refine lo (lop_assign (E rfl)) rfl ?_
  refine leT ?_
  (refine ctlT ?_)
  generalize putN x = C at hpl hpt hpp ⊢
  refine rgT ?_
  refine lo (lop_move (E rfl)) rfl ?_
  refine lo (lop_move (E rfl)) rfl ?_
  refine z14 ?_
  refine z22 ?_
  refine lo (lop_assign (E rfl)) rfl ?_
  refine leT ?_
  (refine ctlT ?_)
  obtain ⟨k, hk, hkl⟩ : ∃ k : Nat, (a : Int).tmod (C.length : Nat) = (k : Int) ∧ k < C.length := ⟨a % C.length, by rw [Int.tmod_eq_emod_of_nonneg (by omega)]; simp, Nat.mod_lt _ (by omega)⟩
  rw [hk]
  obtain ⟨c, hc⟩ : ∃ c, C[k]? = some c := ⟨_, List.getElem?_eq_getElem hkl⟩
  refine rgT ?_
  refine lo (lop_move (E rfl)) rfl ?_
  refine lo (lop_move (E rfl)) rfl ?_
  refine z15 ?_
  refine z16 ?_
  refine lo (lop_move (E rfl)) rfl ?_
  refine lo (lop_xor (E rfl) (E rfl)) rfl ?_
  refine z15 ?_
  obtain ⟨v, hv, hvl⟩ := xor_u8 c y
  rw [hv]
  apply sto; rfl; rfl; rfl; rfl; (exact ssetT); (exact atT); (exact putT_); rfl
  refine leT ?_
  (refine ctlT ?_)
  rw [show (C.map encU).set (k : Int).toNat [.int .u8 (v : Int)] = (C.set k v).map encU by rw [Int.toNat_natCast, List.map_set]; rfl, show AV.own r30 0 C.length = .own r30 0 (C.set k v).length by simp]
  have hDt : ∀ x ∈ C.set k v, x < 256 := set_lt hpt hvl
  have hDl : (C.set k v).length ≤ 200 := by simpa using hpl
  have hkD : k < (C.set k v).length := by simpa using hkl
  generalize C.set k v = D at hDt hDl hkD ⊢
  refine rgT ?_
  refine lo (lop_move (E rfl)) rfl ?_
  refine puA Try.call26 (law_tells D (by omega) hDt) rfl pargsT nofT ?_
  refine lo (lop_move (E rfl)) rfl ?_
  first | refine ln rfl rfl rfl rfl ?_ | (refine gy rfl rfl ?_; refine lo (lop_move (E rfl)) rfl ?_) | refine lg rfl rfl (lop_move (E rfl)) rfl ?_
  first | refine ln rfl rfl rfl rfl ?_ | (refine gy rfl rfl ?_; refine lo (lop_move (E rfl)) rfl ?_) | refine lg rfl rfl (lop_move (E rfl)) rfl ?_
  first | refine ln rfl rfl rfl rfl ?_ | (refine gy rfl rfl ?_; (first | refine lo (lop_slice_ro (by first | exact W rfl id | exact E rfl) OB.none (OB.some (by first | exact W rfl id | exact E rfl) (fun _ => by first | rfl | exact (Int.toNat_of_nonneg (by omega)).symm)) (fun _ => by first | (simp only [List.length_map]; omega) | omega)) rfl ?_ | refine lo (lop_slice_own (by first | exact W rfl id | exact E rfl) sgT OB.none (OB.some (by first | exact W rfl id | exact E rfl) (fun _ => by first | rfl | exact (Int.toNat_of_nonneg (by omega)).symm)) (fun _ => by first | (simp only [List.length_map]; omega) | omega)) rfl ?_)) | refine lg rfl rfl (lop_slice_ro (by first | exact W rfl id | exact E rfl) OB.none (OB.some (by first | exact W rfl id | exact E rfl) (fun _ => by first | rfl | exact (Int.toNat_of_nonneg (by omega)).symm)) (fun _ => by first | (simp only [List.length_map]; omega) | omega)) rfl ?_ | refine lg rfl rfl (lop_slice_own (by first | exact W rfl id | exact E rfl) sgT OB.none (OB.some (by first | exact W rfl id | exact E rfl) (fun _ => by first | rfl | exact (Int.toNat_of_nonneg (by omega)).symm)) (fun _ => by first | (simp only [List.length_map]; omega) | omega)) rfl ?_
  refine gy rfl rfl ?_
  refine puA Try.call26 (law_tells (D.take k) (by simp; omega) (fun x hx => hDt x (List.mem_of_mem_take hx))) rfl pargsT nofT ?_
  refine z68 ?_
  refine lo (lop_move (E rfl)) rfl ?_
  first | refine ln rfl rfl rfl rfl ?_ | (refine gy rfl rfl ?_; refine lo (lop_move (E rfl)) rfl ?_) | refine lg rfl rfl (lop_move (E rfl)) rfl ?_
  first | refine ln rfl rfl rfl rfl ?_ | (refine gy rfl rfl ?_; refine lo (lop_move (E rfl)) rfl ?_) | refine lg rfl rfl (lop_move (E rfl)) rfl ?_
  refine gy rfl rfl ?_
  refine apA ((D ++ u).map encU) (D ++ u).length ?_
  refine apnT fun r53 h53 => ?_; (repeat (rcases h53 with ⟨_, h53⟩))
  refine gy rfl rfl ?_
  refine puA Try.call26 (law_tells (D ++ u) (by simp; omega) (fun x hx => by rcases List.mem_append.1 hx with h | h; exact hDt x h; exact hut x h)) rfl pargsT nofT ?_
  refine z68 ?_
  refine lo (lop_assign (E rfl)) rfl ?_
  refine leT ?_
  (refine ctlT ?_)
  (apply aend; (exact resT))
  · rfl
  · (exact stleT)
theorem law_instrAny2 (l : List Int) (x : Ins) (at_ y : Int) (hl : l.length ≤ maxLen ∧ ∀ a ∈ l, U8 a) (hx : x.Wf) : SCall Try.prog 4 [.ro 1 (l.map encU8) .any, .agg (iv .any x), .int .i64 at_, .int .u8 y] [] (fun x _ => x = .bool true) := by
  obtain ⟨v, -, h1, h2, h3⟩ := nats hl
  rw [h3]
  exact law_instrAny v h1 h2 x hx at_ y
end Go.Proofs.Ytkjfflabapeidaa
